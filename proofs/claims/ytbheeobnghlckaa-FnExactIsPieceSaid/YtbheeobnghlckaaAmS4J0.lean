/- Walks. No condition. -/
import Derived.Test.YtbheeobnghlckaaAmS4G7
import Derived.Test.YtbheeobnghlckaaAmP
set_option linter.unusedVariables false
set_option linter.unusedSimpArgs false
namespace Go.Proofs.Ytbheeobnghlckaa
open Go.Am Go.RowKit
theorem withinB (n : Int) (lo : Int) (hi : Int)  : Sound Try.prog 68 [vI n, vI lo, vI hi] [] (.bool (inR n lo hi)) [] := by
  exact within_ok n lo hi

theorem l1InB (n : Int) (lo : Int) (hi : Int)  : Sound Try.prog 76 [vI n, vI lo, vI hi] [] (.bool (inR n lo hi)) [] := by
  exact l1In_ok n lo hi

theorem l2BeforeB (a : Int) (b : Int) (c : Int) (x : Int) (y : Int) (z : Int)  : Sound Try.prog 107 [.agg #[vI a, vI b, vI c], .agg #[vI x, vI y, vI z]] [] (.bool (lexB a b c x y z)) [] := by
  exact l2Before_ok a b c x y z

set_option maxRecDepth 100000 in
set_option maxHeartbeats 4000000 in
theorem szA3S_S (L : List A3) (n : Nat) (hl : L.length ≤ n) (hn : n ≤ 1048576) : Sound Try.prog 20 [vS 0 L.length, vN n] [some ⟨a3s L, 74, false, false⟩] (vN (n - L.length)) [some ⟨a3s L, 74, false, false⟩] := by
  refine sound_intro (C := cx) Try.func20 rfl (by kernel_rfl) fun hcl => ?_
  refine cSeq ?_
  refine cReg ?_
  refine segEndH [0, 1] (T1 := (mkT 12 [(0, vS 0 L.length), (1, vN n)])) (by kernel_rfl) ?_
  refine kSeq ?_
  refine cSeq ?_
  refine cReg ?_
  refine segH 3 (T1 := (mkT 12 [(0, vS 0 L.length), (1, vN n), (5, vN n), (6, vS 0 L.length), (7, vN L.length)])) (by kernel_rfl) ?_
  refine rOp (v := vN (n - L.length)) (by kernel_rfl) (eSub (k := .i64) (a := ((n : Nat) : Int)) (b := ((L.length : Nat) : Int)) (c := ((n - L.length : Nat) : Int)) (by kernel_rfl) (by kernel_rfl)  (wr64 (by omega) (by omega) (by omega))) ?_
  refine segEndH [1] (T1 := (mkT 12 [(1, vN (n - L.length))])) (by kernel_rfl) ?_
  refine kSeq ?_
  refine cSeq ?_
  refine cSeq ?_
  refine cReg ?_
  refine segEndH [1, 10] (T1 := (mkT 12 [(1, vN (n - L.length)), (10, .bool (decide (((n - L.length : Nat) : Int) < 0)))])) (by kernel_rfl) ?_
  refine kSeq ?_
  cases h1 : (decide (((n - L.length : Nat) : Int) < 0) : Bool)
  ·
    (try simp only [Bool.not_eq_true', Bool.not_eq_false', decide_eq_true_eq, decide_eq_false_iff_not, beq_iff_eq, bne_iff_ne, beq_eq_false_iff_ne, bne_eq_false_iff_eq, ne_eq, Decidable.not_not, Bool.and_eq_true, Bool.and_eq_false_imp, Bool.or_eq_true, Bool.or_eq_false_iff, Bool.not_eq_true, Int.not_lt, Int.not_le, ge_iff_le, gt_iff_lt] at h1)
    refine cFalse (by kernel_rfl) ?_
    refine cSkip ?_
    refine kSeq ?_
    refine cSeq ?_
    refine cReg ?_
    refine segEndH [4] (T1 := (mkT 12 [(4, vN (n - L.length))])) (by kernel_rfl) ?_
    refine kSeq ?_
    refine cRet ?_
    -- end
    exact endQ (Or.inr rfl) (l := [vN (n - L.length)]) [] (by kernel_rfl) (by first | rfl | kernel_rfl) rfl rfl hcl rfl
  ·
    (try simp only [Bool.not_eq_true', Bool.not_eq_false', decide_eq_true_eq, decide_eq_false_iff_not, beq_iff_eq, bne_iff_ne, beq_eq_false_iff_ne, bne_eq_false_iff_eq, ne_eq, Decidable.not_not, Bool.and_eq_true, Bool.and_eq_false_imp, Bool.or_eq_true, Bool.or_eq_false_iff, Bool.not_eq_true, Int.not_lt, Int.not_le, ge_iff_le, gt_iff_lt] at h1)
    exfalso; omega

set_option maxRecDepth 100000 in
set_option maxHeartbeats 4000000 in
theorem szA3S_G (L : List A3) (n : Nat) (hl : n < L.length) (hm : L.length ≤ 9223372036854775807) (hn : n ≤ 1048576) : Sound Try.prog 20 [vS 0 L.length, vN n] [some ⟨a3s L, 74, false, false⟩] (vI (-1)) [some ⟨a3s L, 74, false, false⟩] := by
  refine sound_intro (C := cx) Try.func20 rfl (by kernel_rfl) fun hcl => ?_
  refine cSeq ?_
  refine cReg ?_
  refine segEndH [0, 1] (T1 := (mkT 12 [(0, vS 0 L.length), (1, vN n)])) (by kernel_rfl) ?_
  refine kSeq ?_
  refine cSeq ?_
  refine cReg ?_
  refine segH 3 (T1 := (mkT 12 [(0, vS 0 L.length), (1, vN n), (5, vN n), (6, vS 0 L.length), (7, vN L.length)])) (by kernel_rfl) ?_
  refine rOp (v := vI (((n : Nat) : Int) - ((L.length : Nat) : Int))) (by kernel_rfl) (eSub (k := .i64) (a := ((n : Nat) : Int)) (b := ((L.length : Nat) : Int)) (c := (((n : Nat) : Int) - ((L.length : Nat) : Int))) (by kernel_rfl) (by kernel_rfl)  (wr64 (by omega) (by omega) rfl)) ?_
  refine segEndH [1] (T1 := (mkT 12 [(1, vI (((n : Nat) : Int) - ((L.length : Nat) : Int)))])) (by kernel_rfl) ?_
  refine kSeq ?_
  refine cSeq ?_
  refine cSeq ?_
  refine cReg ?_
  refine segEndH [1, 10] (T1 := (mkT 12 [(1, vI (((n : Nat) : Int) - ((L.length : Nat) : Int))), (10, .bool (decide (((n : Nat) : Int) - ((L.length : Nat) : Int) < 0)))])) (by kernel_rfl) ?_
  refine kSeq ?_
  cases h1 : (decide (((n : Nat) : Int) - ((L.length : Nat) : Int) < 0) : Bool)
  ·
    (try simp only [Bool.not_eq_true', Bool.not_eq_false', decide_eq_true_eq, decide_eq_false_iff_not, beq_iff_eq, bne_iff_ne, beq_eq_false_iff_ne, bne_eq_false_iff_eq, ne_eq, Decidable.not_not, Bool.and_eq_true, Bool.and_eq_false_imp, Bool.or_eq_true, Bool.or_eq_false_iff, Bool.not_eq_true, Int.not_lt, Int.not_le, ge_iff_le, gt_iff_lt] at h1)
    exfalso; omega
  ·
    (try simp only [Bool.not_eq_true', Bool.not_eq_false', decide_eq_true_eq, decide_eq_false_iff_not, beq_iff_eq, bne_iff_ne, beq_eq_false_iff_ne, bne_eq_false_iff_eq, ne_eq, Decidable.not_not, Bool.and_eq_true, Bool.and_eq_false_imp, Bool.or_eq_true, Bool.or_eq_false_iff, Bool.not_eq_true, Int.not_lt, Int.not_le, ge_iff_le, gt_iff_lt] at h1)
    refine cTrue (by kernel_rfl) ?_
    refine cSeq ?_
    refine cReg ?_
    refine segEndH [4] (T1 := (mkT 12 [(4, vI (-1))])) (by kernel_rfl) ?_
    refine kSeq ?_
    refine cRet ?_
    refine kSeqR ?_
    -- end
    exact endQ (Or.inr rfl) (l := [vI (-1)]) [] (by kernel_rfl) (by first | rfl | kernel_rfl) rfl rfl hcl rfl

set_option maxRecDepth 100000 in
set_option maxHeartbeats 4000000 in
theorem szA3S_N (n : Nat) (hn : n ≤ 1048576) : Sound Try.prog 20 [.slice none 0 0, vN n] [] (vN n) [] := by
  refine sound_intro (C := cx) Try.func20 rfl (by kernel_rfl) fun hcl => ?_
  refine cSeq ?_
  refine cReg ?_
  refine segEndH [0, 1] (T1 := (mkT 12 [(0, .slice none 0 0), (1, vN n)])) (by kernel_rfl) ?_
  refine kSeq ?_
  refine cSeq ?_
  refine cReg ?_
  refine segH 3 (T1 := (mkT 12 [(0, .slice none 0 0), (1, vN n), (5, vN n), (6, .slice none 0 0), (7, vI 0)])) (by kernel_rfl) ?_
  refine rOp (v := vN n) (by kernel_rfl) (eSub (k := .i64) (a := ((n : Nat) : Int)) (b := 0) (c := ((n : Nat) : Int)) (by kernel_rfl) (by kernel_rfl) (wr64 (by omega) (by omega) (by omega))) ?_
  refine segEndH [1] (T1 := (mkT 12 [(1, vN n)])) (by kernel_rfl) ?_
  refine kSeq ?_
  refine cSeq ?_
  refine cSeq ?_
  refine cReg ?_
  refine segEndH [1, 10] (T1 := (mkT 12 [(1, vN n), (10, .bool (decide (((n : Nat) : Int) < 0)))])) (by kernel_rfl) ?_
  refine kSeq ?_
  cases h1 : (decide (((n : Nat) : Int) < 0) : Bool)
  ·
    (try simp only [Bool.not_eq_true', Bool.not_eq_false', decide_eq_true_eq, decide_eq_false_iff_not, beq_iff_eq, bne_iff_ne, beq_eq_false_iff_ne, bne_eq_false_iff_eq, ne_eq, Decidable.not_not, Bool.and_eq_true, Bool.and_eq_false_imp, Bool.or_eq_true, Bool.or_eq_false_iff, Bool.not_eq_true, Int.not_lt, Int.not_le, ge_iff_le, gt_iff_lt] at h1)
    refine cFalse (by kernel_rfl) ?_
    refine cSkip ?_
    refine kSeq ?_
    refine cSeq ?_
    refine cReg ?_
    refine segEndH [4] (T1 := (mkT 12 [(4, vN n)])) (by kernel_rfl) ?_
    refine kSeq ?_
    refine cRet ?_
    -- end
    exact endQ (Or.inr rfl) (l := [vN n]) [] (by kernel_rfl) (by first | rfl | kernel_rfl) rfl rfl hcl rfl
  ·
    (try simp only [Bool.not_eq_true', Bool.not_eq_false', decide_eq_true_eq, decide_eq_false_iff_not, beq_iff_eq, bne_iff_ne, beq_eq_false_iff_ne, bne_eq_false_iff_eq, ne_eq, Decidable.not_not, Bool.and_eq_true, Bool.and_eq_false_imp, Bool.or_eq_true, Bool.or_eq_false_iff, Bool.not_eq_true, Int.not_lt, Int.not_le, ge_iff_le, gt_iff_lt] at h1)
    exfalso; omega

end Go.Proofs.Ytbheeobnghlckaa
