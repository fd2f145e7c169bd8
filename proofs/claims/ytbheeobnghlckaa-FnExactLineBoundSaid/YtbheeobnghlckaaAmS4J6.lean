/- Walks. No condition. -/
import Derived.Test.YtbheeobnghlckaaAmS4J5
import Derived.Test.YtbheeobnghlckaaAmQ4
set_option linter.unusedVariables false
set_option linter.unusedSimpArgs false
namespace Go.Proofs.Ytbheeobnghlckaa
open Go.Am Go.RowKit
theorem valid_no (x : Int) (y : Int) (z : Int) (hv2 : valid3 x y z = false) : Sound Try.prog 62 [.agg #[vI x, vI y, vI z]] [] (.bool false) [] := by
  have h := valid_ok x y z; rw [hv2] at h; exact h

theorem sides_no (x : Int) (y : Int) (z : Int) (hv2 : valid3 x y z = false) : Sound Try.prog 75 [vI x, vI y, vI z] [] (.bool false) [] := by
  have h := sides_ok x y z; rw [hv2] at h; exact h

set_option maxRecDepth 100000 in
set_option maxHeartbeats 4000000 in
theorem szSh_sss (x : Int) (y : Int) (z : Int) (A : List Int) (B : List Int) (C : List Int) (n : Nat) (hl : A.length + B.length + C.length ≤ n) (hn : n ≤ 1048576) : Sound Try.prog 15 [.agg #[vI x, vI y, vI z, vS 0 A.length, vS 1 B.length, vS 2 C.length], vN n] [some ⟨nums A, 3, false, false⟩, some ⟨nums B, 3, false, false⟩, some ⟨nums C, 3, false, false⟩] (vN (n - A.length - B.length - C.length)) [some ⟨nums A, 3, false, false⟩, some ⟨nums B, 3, false, false⟩, some ⟨nums C, 3, false, false⟩] := by
  refine sound_intro (C := cx) Try.func15 rfl (by kernel_rfl) fun hcl => ?_
  refine cSeq ?_
  refine cReg ?_
  refine segEnd [1, 2] (T1 := (mkT 24 [(1, vN n), (2, vP 3 0)])) (H1 := [some ⟨nums A, 3, false, false⟩, some ⟨nums B, 3, false, false⟩, some ⟨nums C, 3, false, false⟩, rB [vI x, vI y, vI z, vS 0 A.length, vS 1 B.length, vS 2 C.length] 24]) (by kernel_rfl) ?_
  refine kSeq ?_
  refine cSeq ?_
  refine cReg ?_
  refine segH 3 (T1 := (mkT 24 [(1, vN n), (2, vP 3 0), (5, vP 3 3), (6, vS 0 A.length), (7, vN n)])) (by kernel_rfl) ?_
  refine rCall (v := vN (n - A.length)) (args := [vS 0 A.length, vN n]) (by kernel_rfl) rfl (by kernel_rfl) (Sound.lay0 [0] (szI_S A n (by first | omega | assumption | (simp; done) | (simp; omega)) (by first | omega | assumption | decide)) ⟨rdF false (flatNums _ _ _ _) rfl rfl, trivial⟩ rfl ⟨clF (flatNums _ _ _ _), trivial⟩ rfl (by first | rfl | simp [mpV, mpA, mpS, mpP, renId, shift]) rfl) ?_
  refine segEndH [1, 2] (T1 := (mkT 24 [(1, vN (n - A.length)), (2, vP 3 0)])) (by kernel_rfl) ?_
  refine kSeq ?_
  refine cSeq ?_
  refine cSeq ?_
  refine cReg ?_
  refine segEndH [1, 2, 10] (T1 := (mkT 24 [(1, vN (n - A.length)), (2, vP 3 0), (10, .bool (decide (((n - A.length : Nat) : Int) < 0)))])) (by kernel_rfl) ?_
  refine kSeq ?_
  cases h1 : (decide (((n - A.length : Nat) : Int) < 0) : Bool)
  ·
    (try simp only [Bool.not_eq_true', Bool.not_eq_false', decide_eq_true_eq, decide_eq_false_iff_not, beq_iff_eq, bne_iff_ne, beq_eq_false_iff_ne, bne_eq_false_iff_eq, ne_eq, Decidable.not_not, Bool.and_eq_true, Bool.and_eq_false_imp, Bool.or_eq_true, Bool.or_eq_false_iff, Bool.not_eq_true, Int.not_lt, Int.not_le, ge_iff_le, gt_iff_lt] at h1)
    refine cFalse (by kernel_rfl) ?_
    refine cSkip ?_
    refine kSeq ?_
    refine cSeq ?_
    refine cReg ?_
    refine segH 3 (T1 := (mkT 24 [(1, vN (n - A.length)), (2, vP 3 0), (10, .bool false), (11, vP 3 4), (12, vS 1 B.length), (13, vN (n - A.length))])) (by kernel_rfl) ?_
    refine rCall (v := vN ((n - A.length) - B.length)) (args := [vS 1 B.length, vN (n - A.length)]) (by kernel_rfl) rfl (by kernel_rfl) (Sound.lay0 [1] (szI_S B (n - A.length) (by first | omega | assumption | (simp; done) | (simp; omega)) (by first | omega | assumption | decide)) ⟨rdF false (flatNums _ _ _ _) rfl rfl, trivial⟩ rfl ⟨clF (flatNums _ _ _ _), trivial⟩ rfl (by first | rfl | simp [mpV, mpA, mpS, mpP, renId, shift]) rfl) ?_
    refine segEndH [1, 2] (T1 := (mkT 24 [(1, vN ((n - A.length) - B.length)), (2, vP 3 0)])) (by kernel_rfl) ?_
    refine kSeq ?_
    refine cSeq ?_
    refine cSeq ?_
    refine cReg ?_
    refine segEndH [1, 2, 16] (T1 := (mkT 24 [(1, vN ((n - A.length) - B.length)), (2, vP 3 0), (16, .bool (decide ((((n - A.length) - B.length : Nat) : Int) < 0)))])) (by kernel_rfl) ?_
    refine kSeq ?_
    cases h2 : (decide ((((n - A.length) - B.length : Nat) : Int) < 0) : Bool)
    ·
      (try simp only [Bool.not_eq_true', Bool.not_eq_false', decide_eq_true_eq, decide_eq_false_iff_not, beq_iff_eq, bne_iff_ne, beq_eq_false_iff_ne, bne_eq_false_iff_eq, ne_eq, Decidable.not_not, Bool.and_eq_true, Bool.and_eq_false_imp, Bool.or_eq_true, Bool.or_eq_false_iff, Bool.not_eq_true, Int.not_lt, Int.not_le, ge_iff_le, gt_iff_lt] at h2)
      refine cFalse (by kernel_rfl) ?_
      refine cSkip ?_
      refine kSeq ?_
      refine cSeq ?_
      refine cReg ?_
      refine segH 3 (T1 := (mkT 24 [(1, vN ((n - A.length) - B.length)), (2, vP 3 0), (16, .bool false), (17, vP 3 5), (18, vS 2 C.length), (19, vN ((n - A.length) - B.length))])) (by kernel_rfl) ?_
      refine rCall (v := vN (((n - A.length) - B.length) - C.length)) (args := [vS 2 C.length, vN ((n - A.length) - B.length)]) (by kernel_rfl) rfl (by kernel_rfl) (Sound.lay0 [2] (szI_S C ((n - A.length) - B.length) (by first | omega | assumption | (simp; done) | (simp; omega)) (by first | omega | assumption | decide)) ⟨rdF false (flatNums _ _ _ _) rfl rfl, trivial⟩ rfl ⟨clF (flatNums _ _ _ _), trivial⟩ rfl (by first | rfl | simp [mpV, mpA, mpS, mpP, renId, shift]) rfl) ?_
      refine segEndH [1] (T1 := (mkT 24 [(1, vN (((n - A.length) - B.length) - C.length))])) (by kernel_rfl) ?_
      refine kSeq ?_
      refine cSeq ?_
      refine cSeq ?_
      refine cReg ?_
      refine segEndH [1, 22] (T1 := (mkT 24 [(1, vN (((n - A.length) - B.length) - C.length)), (22, .bool (decide (((((n - A.length) - B.length) - C.length : Nat) : Int) < 0)))])) (by kernel_rfl) ?_
      refine kSeq ?_
      cases h3 : (decide (((((n - A.length) - B.length) - C.length : Nat) : Int) < 0) : Bool)
      ·
        (try simp only [Bool.not_eq_true', Bool.not_eq_false', decide_eq_true_eq, decide_eq_false_iff_not, beq_iff_eq, bne_iff_ne, beq_eq_false_iff_ne, bne_eq_false_iff_eq, ne_eq, Decidable.not_not, Bool.and_eq_true, Bool.and_eq_false_imp, Bool.or_eq_true, Bool.or_eq_false_iff, Bool.not_eq_true, Int.not_lt, Int.not_le, ge_iff_le, gt_iff_lt] at h3)
        refine cFalse (by kernel_rfl) ?_
        refine cSkip ?_
        refine kSeq ?_
        refine cSeq ?_
        refine cReg ?_
        refine segEndH [4] (T1 := (mkT 24 [(4, vN (((n - A.length) - B.length) - C.length))])) (by kernel_rfl) ?_
        refine kSeq ?_
        refine cRet ?_
        -- end
        have he0 : (((n - A.length) - B.length) - C.length : Nat) = n - A.length - B.length - C.length := by first | omega | assumption | rfl | (symm; assumption) | (simp_all; done)
        refine endCast (v1 := vN (((n - A.length) - B.length) - C.length)) (H1 := [some ⟨nums A, 3, false, false⟩, some ⟨nums B, 3, false, false⟩, some ⟨nums C, 3, false, false⟩]) (by first | rfl | ((try rw [← he0]); done) | (simp only [← he0]; done)) (by first | rfl | ((try rw [← he0]); done) | (simp only [← he0]; done)) ?_
        exact endQ (Or.inr rfl) (l := [vN (((n - A.length) - B.length) - C.length)]) [rB [vI x, vI y, vI z, vS 0 A.length, vS 1 B.length, vS 2 C.length] 24] (by kernel_rfl) (by first | rfl | kernel_rfl) rfl rfl hcl rfl
      ·
        (try simp only [Bool.not_eq_true', Bool.not_eq_false', decide_eq_true_eq, decide_eq_false_iff_not, beq_iff_eq, bne_iff_ne, beq_eq_false_iff_ne, bne_eq_false_iff_eq, ne_eq, Decidable.not_not, Bool.and_eq_true, Bool.and_eq_false_imp, Bool.or_eq_true, Bool.or_eq_false_iff, Bool.not_eq_true, Int.not_lt, Int.not_le, ge_iff_le, gt_iff_lt] at h3)
        exfalso; omega
    ·
      (try simp only [Bool.not_eq_true', Bool.not_eq_false', decide_eq_true_eq, decide_eq_false_iff_not, beq_iff_eq, bne_iff_ne, beq_eq_false_iff_ne, bne_eq_false_iff_eq, ne_eq, Decidable.not_not, Bool.and_eq_true, Bool.and_eq_false_imp, Bool.or_eq_true, Bool.or_eq_false_iff, Bool.not_eq_true, Int.not_lt, Int.not_le, ge_iff_le, gt_iff_lt] at h2)
      exfalso; omega
  ·
    (try simp only [Bool.not_eq_true', Bool.not_eq_false', decide_eq_true_eq, decide_eq_false_iff_not, beq_iff_eq, bne_iff_ne, beq_eq_false_iff_ne, bne_eq_false_iff_eq, ne_eq, Decidable.not_not, Bool.and_eq_true, Bool.and_eq_false_imp, Bool.or_eq_true, Bool.or_eq_false_iff, Bool.not_eq_true, Int.not_lt, Int.not_le, ge_iff_le, gt_iff_lt] at h1)
    exfalso; omega

set_option maxRecDepth 100000 in
set_option maxHeartbeats 4000000 in
theorem szSh_sss_A (x : Int) (y : Int) (z : Int) (A : List Int) (B : List Int) (C : List Int) (n : Nat) (hl : n < A.length) (hm : A.length ≤ 9223372036854775807) (hn : n ≤ 1048576) : Sound Try.prog 15 [.agg #[vI x, vI y, vI z, vS 0 A.length, vS 1 B.length, vS 2 C.length], vN n] [some ⟨nums A, 3, false, false⟩, some ⟨nums B, 3, false, false⟩, some ⟨nums C, 3, false, false⟩] (vI (-1)) [some ⟨nums A, 3, false, false⟩, some ⟨nums B, 3, false, false⟩, some ⟨nums C, 3, false, false⟩] := by
  refine sound_intro (C := cx) Try.func15 rfl (by kernel_rfl) fun hcl => ?_
  refine cSeq ?_
  refine cReg ?_
  refine segEnd [1, 2] (T1 := (mkT 24 [(1, vN n), (2, vP 3 0)])) (H1 := [some ⟨nums A, 3, false, false⟩, some ⟨nums B, 3, false, false⟩, some ⟨nums C, 3, false, false⟩, rB [vI x, vI y, vI z, vS 0 A.length, vS 1 B.length, vS 2 C.length] 24]) (by kernel_rfl) ?_
  refine kSeq ?_
  refine cSeq ?_
  refine cReg ?_
  refine segH 3 (T1 := (mkT 24 [(1, vN n), (2, vP 3 0), (5, vP 3 3), (6, vS 0 A.length), (7, vN n)])) (by kernel_rfl) ?_
  refine rCall (v := vI (-1)) (args := [vS 0 A.length, vN n]) (by kernel_rfl) rfl (by kernel_rfl) (Sound.lay0 [0] (szI_G A n (by first | omega | assumption | (simp; done) | (simp; omega)) (by first | assumption | omega | rfl | decide | exact HeapL.list _ _ _ _ | exact HeapL.nil _ _ _ | exact HeapL.all _ _ _ | (apply HeapL.lt64 <;> assumption) | (repeat' (first | assumption | apply or_lt64 | apply and_lt64 | apply andn_lt64 | apply pow_lt64 | (apply HeapL.lt64 <;> assumption)))) (by first | omega | assumption | decide)) ⟨rdF false (flatNums _ _ _ _) rfl rfl, trivial⟩ rfl ⟨clF (flatNums _ _ _ _), trivial⟩ rfl (by first | rfl | simp [mpV, mpA, mpS, mpP, renId, shift]) rfl) ?_
  refine segEndH [1, 2] (T1 := (mkT 24 [(1, vI (-1)), (2, vP 3 0)])) (by kernel_rfl) ?_
  refine kSeq ?_
  refine cSeq ?_
  refine cSeq ?_
  refine cReg ?_
  refine segEndH [1, 2, 10] (T1 := (mkT 24 [(1, vI (-1)), (2, vP 3 0), (10, .bool true)])) (by kernel_rfl) ?_
  refine kSeq ?_
  refine cTrue (by kernel_rfl) ?_
  refine cSeq ?_
  refine cReg ?_
  refine segEndH [4] (T1 := (mkT 24 [(4, vI (-1))])) (by kernel_rfl) ?_
  refine kSeq ?_
  refine cRet ?_
  refine kSeqR ?_
  -- end
  exact endQ (Or.inr rfl) (l := [vI (-1)]) [rB [vI x, vI y, vI z, vS 0 A.length, vS 1 B.length, vS 2 C.length] 24] (by kernel_rfl) (by first | rfl | kernel_rfl) rfl rfl hcl rfl

set_option maxRecDepth 100000 in
set_option maxHeartbeats 4000000 in
theorem szSh_sss_B (x : Int) (y : Int) (z : Int) (A : List Int) (B : List Int) (C : List Int) (n : Nat) (hl0 : A.length ≤ n) (hl : n - A.length < B.length) (hm : B.length ≤ 9223372036854775807) (hn : n ≤ 1048576) : Sound Try.prog 15 [.agg #[vI x, vI y, vI z, vS 0 A.length, vS 1 B.length, vS 2 C.length], vN n] [some ⟨nums A, 3, false, false⟩, some ⟨nums B, 3, false, false⟩, some ⟨nums C, 3, false, false⟩] (vI (-1)) [some ⟨nums A, 3, false, false⟩, some ⟨nums B, 3, false, false⟩, some ⟨nums C, 3, false, false⟩] := by
  refine sound_intro (C := cx) Try.func15 rfl (by kernel_rfl) fun hcl => ?_
  refine cSeq ?_
  refine cReg ?_
  refine segEnd [1, 2] (T1 := (mkT 24 [(1, vN n), (2, vP 3 0)])) (H1 := [some ⟨nums A, 3, false, false⟩, some ⟨nums B, 3, false, false⟩, some ⟨nums C, 3, false, false⟩, rB [vI x, vI y, vI z, vS 0 A.length, vS 1 B.length, vS 2 C.length] 24]) (by kernel_rfl) ?_
  refine kSeq ?_
  refine cSeq ?_
  refine cReg ?_
  refine segH 3 (T1 := (mkT 24 [(1, vN n), (2, vP 3 0), (5, vP 3 3), (6, vS 0 A.length), (7, vN n)])) (by kernel_rfl) ?_
  refine rCall (v := vN (n - A.length)) (args := [vS 0 A.length, vN n]) (by kernel_rfl) rfl (by kernel_rfl) (Sound.lay0 [0] (szI_S A n (by first | omega | assumption | (simp; done) | (simp; omega)) (by first | omega | assumption | decide)) ⟨rdF false (flatNums _ _ _ _) rfl rfl, trivial⟩ rfl ⟨clF (flatNums _ _ _ _), trivial⟩ rfl (by first | rfl | simp [mpV, mpA, mpS, mpP, renId, shift]) rfl) ?_
  refine segEndH [1, 2] (T1 := (mkT 24 [(1, vN (n - A.length)), (2, vP 3 0)])) (by kernel_rfl) ?_
  refine kSeq ?_
  refine cSeq ?_
  refine cSeq ?_
  refine cReg ?_
  refine segEndH [1, 2, 10] (T1 := (mkT 24 [(1, vN (n - A.length)), (2, vP 3 0), (10, .bool (decide (((n - A.length : Nat) : Int) < 0)))])) (by kernel_rfl) ?_
  refine kSeq ?_
  cases h1 : (decide (((n - A.length : Nat) : Int) < 0) : Bool)
  ·
    (try simp only [Bool.not_eq_true', Bool.not_eq_false', decide_eq_true_eq, decide_eq_false_iff_not, beq_iff_eq, bne_iff_ne, beq_eq_false_iff_ne, bne_eq_false_iff_eq, ne_eq, Decidable.not_not, Bool.and_eq_true, Bool.and_eq_false_imp, Bool.or_eq_true, Bool.or_eq_false_iff, Bool.not_eq_true, Int.not_lt, Int.not_le, ge_iff_le, gt_iff_lt] at h1)
    refine cFalse (by kernel_rfl) ?_
    refine cSkip ?_
    refine kSeq ?_
    refine cSeq ?_
    refine cReg ?_
    refine segH 3 (T1 := (mkT 24 [(1, vN (n - A.length)), (2, vP 3 0), (10, .bool false), (11, vP 3 4), (12, vS 1 B.length), (13, vN (n - A.length))])) (by kernel_rfl) ?_
    refine rCall (v := vI (-1)) (args := [vS 1 B.length, vN (n - A.length)]) (by kernel_rfl) rfl (by kernel_rfl) (Sound.lay0 [1] (szI_G B (n - A.length) (by first | omega | assumption | (simp; done) | (simp; omega)) (by first | assumption | omega | rfl | decide | exact HeapL.list _ _ _ _ | exact HeapL.nil _ _ _ | exact HeapL.all _ _ _ | (apply HeapL.lt64 <;> assumption) | (repeat' (first | assumption | apply or_lt64 | apply and_lt64 | apply andn_lt64 | apply pow_lt64 | (apply HeapL.lt64 <;> assumption)))) (by first | omega | assumption | decide)) ⟨rdF false (flatNums _ _ _ _) rfl rfl, trivial⟩ rfl ⟨clF (flatNums _ _ _ _), trivial⟩ rfl (by first | rfl | simp [mpV, mpA, mpS, mpP, renId, shift]) rfl) ?_
    refine segEndH [1, 2] (T1 := (mkT 24 [(1, vI (-1)), (2, vP 3 0)])) (by kernel_rfl) ?_
    refine kSeq ?_
    refine cSeq ?_
    refine cSeq ?_
    refine cReg ?_
    refine segEndH [1, 2, 16] (T1 := (mkT 24 [(1, vI (-1)), (2, vP 3 0), (16, .bool true)])) (by kernel_rfl) ?_
    refine kSeq ?_
    refine cTrue (by kernel_rfl) ?_
    refine cSeq ?_
    refine cReg ?_
    refine segEndH [4] (T1 := (mkT 24 [(4, vI (-1))])) (by kernel_rfl) ?_
    refine kSeq ?_
    refine cRet ?_
    refine kSeqR ?_
    -- end
    exact endQ (Or.inr rfl) (l := [vI (-1)]) [rB [vI x, vI y, vI z, vS 0 A.length, vS 1 B.length, vS 2 C.length] 24] (by kernel_rfl) (by first | rfl | kernel_rfl) rfl rfl hcl rfl
  ·
    (try simp only [Bool.not_eq_true', Bool.not_eq_false', decide_eq_true_eq, decide_eq_false_iff_not, beq_iff_eq, bne_iff_ne, beq_eq_false_iff_ne, bne_eq_false_iff_eq, ne_eq, Decidable.not_not, Bool.and_eq_true, Bool.and_eq_false_imp, Bool.or_eq_true, Bool.or_eq_false_iff, Bool.not_eq_true, Int.not_lt, Int.not_le, ge_iff_le, gt_iff_lt] at h1)
    exfalso; omega

set_option maxRecDepth 100000 in
set_option maxHeartbeats 4000000 in
theorem szSh_sss_C (x : Int) (y : Int) (z : Int) (A : List Int) (B : List Int) (C : List Int) (n : Nat) (hl0 : A.length + B.length ≤ n) (hl : n - A.length - B.length < C.length) (hm : C.length ≤ 9223372036854775807) (hn : n ≤ 1048576) : Sound Try.prog 15 [.agg #[vI x, vI y, vI z, vS 0 A.length, vS 1 B.length, vS 2 C.length], vN n] [some ⟨nums A, 3, false, false⟩, some ⟨nums B, 3, false, false⟩, some ⟨nums C, 3, false, false⟩] (vI (-1)) [some ⟨nums A, 3, false, false⟩, some ⟨nums B, 3, false, false⟩, some ⟨nums C, 3, false, false⟩] := by
  refine sound_intro (C := cx) Try.func15 rfl (by kernel_rfl) fun hcl => ?_
  refine cSeq ?_
  refine cReg ?_
  refine segEnd [1, 2] (T1 := (mkT 24 [(1, vN n), (2, vP 3 0)])) (H1 := [some ⟨nums A, 3, false, false⟩, some ⟨nums B, 3, false, false⟩, some ⟨nums C, 3, false, false⟩, rB [vI x, vI y, vI z, vS 0 A.length, vS 1 B.length, vS 2 C.length] 24]) (by kernel_rfl) ?_
  refine kSeq ?_
  refine cSeq ?_
  refine cReg ?_
  refine segH 3 (T1 := (mkT 24 [(1, vN n), (2, vP 3 0), (5, vP 3 3), (6, vS 0 A.length), (7, vN n)])) (by kernel_rfl) ?_
  refine rCall (v := vN (n - A.length)) (args := [vS 0 A.length, vN n]) (by kernel_rfl) rfl (by kernel_rfl) (Sound.lay0 [0] (szI_S A n (by first | omega | assumption | (simp; done) | (simp; omega)) (by first | omega | assumption | decide)) ⟨rdF false (flatNums _ _ _ _) rfl rfl, trivial⟩ rfl ⟨clF (flatNums _ _ _ _), trivial⟩ rfl (by first | rfl | simp [mpV, mpA, mpS, mpP, renId, shift]) rfl) ?_
  refine segEndH [1, 2] (T1 := (mkT 24 [(1, vN (n - A.length)), (2, vP 3 0)])) (by kernel_rfl) ?_
  refine kSeq ?_
  refine cSeq ?_
  refine cSeq ?_
  refine cReg ?_
  refine segEndH [1, 2, 10] (T1 := (mkT 24 [(1, vN (n - A.length)), (2, vP 3 0), (10, .bool (decide (((n - A.length : Nat) : Int) < 0)))])) (by kernel_rfl) ?_
  refine kSeq ?_
  cases h1 : (decide (((n - A.length : Nat) : Int) < 0) : Bool)
  ·
    (try simp only [Bool.not_eq_true', Bool.not_eq_false', decide_eq_true_eq, decide_eq_false_iff_not, beq_iff_eq, bne_iff_ne, beq_eq_false_iff_ne, bne_eq_false_iff_eq, ne_eq, Decidable.not_not, Bool.and_eq_true, Bool.and_eq_false_imp, Bool.or_eq_true, Bool.or_eq_false_iff, Bool.not_eq_true, Int.not_lt, Int.not_le, ge_iff_le, gt_iff_lt] at h1)
    refine cFalse (by kernel_rfl) ?_
    refine cSkip ?_
    refine kSeq ?_
    refine cSeq ?_
    refine cReg ?_
    refine segH 3 (T1 := (mkT 24 [(1, vN (n - A.length)), (2, vP 3 0), (10, .bool false), (11, vP 3 4), (12, vS 1 B.length), (13, vN (n - A.length))])) (by kernel_rfl) ?_
    refine rCall (v := vN ((n - A.length) - B.length)) (args := [vS 1 B.length, vN (n - A.length)]) (by kernel_rfl) rfl (by kernel_rfl) (Sound.lay0 [1] (szI_S B (n - A.length) (by first | omega | assumption | (simp; done) | (simp; omega)) (by first | omega | assumption | decide)) ⟨rdF false (flatNums _ _ _ _) rfl rfl, trivial⟩ rfl ⟨clF (flatNums _ _ _ _), trivial⟩ rfl (by first | rfl | simp [mpV, mpA, mpS, mpP, renId, shift]) rfl) ?_
    refine segEndH [1, 2] (T1 := (mkT 24 [(1, vN ((n - A.length) - B.length)), (2, vP 3 0)])) (by kernel_rfl) ?_
    refine kSeq ?_
    refine cSeq ?_
    refine cSeq ?_
    refine cReg ?_
    refine segEndH [1, 2, 16] (T1 := (mkT 24 [(1, vN ((n - A.length) - B.length)), (2, vP 3 0), (16, .bool (decide ((((n - A.length) - B.length : Nat) : Int) < 0)))])) (by kernel_rfl) ?_
    refine kSeq ?_
    cases h2 : (decide ((((n - A.length) - B.length : Nat) : Int) < 0) : Bool)
    ·
      (try simp only [Bool.not_eq_true', Bool.not_eq_false', decide_eq_true_eq, decide_eq_false_iff_not, beq_iff_eq, bne_iff_ne, beq_eq_false_iff_ne, bne_eq_false_iff_eq, ne_eq, Decidable.not_not, Bool.and_eq_true, Bool.and_eq_false_imp, Bool.or_eq_true, Bool.or_eq_false_iff, Bool.not_eq_true, Int.not_lt, Int.not_le, ge_iff_le, gt_iff_lt] at h2)
      refine cFalse (by kernel_rfl) ?_
      refine cSkip ?_
      refine kSeq ?_
      refine cSeq ?_
      refine cReg ?_
      refine segH 3 (T1 := (mkT 24 [(1, vN ((n - A.length) - B.length)), (2, vP 3 0), (16, .bool false), (17, vP 3 5), (18, vS 2 C.length), (19, vN ((n - A.length) - B.length))])) (by kernel_rfl) ?_
      refine rCall (v := vI (-1)) (args := [vS 2 C.length, vN ((n - A.length) - B.length)]) (by kernel_rfl) rfl (by kernel_rfl) (Sound.lay0 [2] (szI_G C ((n - A.length) - B.length) (by first | omega | assumption | (simp; done) | (simp; omega)) (by first | assumption | omega | rfl | decide | exact HeapL.list _ _ _ _ | exact HeapL.nil _ _ _ | exact HeapL.all _ _ _ | (apply HeapL.lt64 <;> assumption) | (repeat' (first | assumption | apply or_lt64 | apply and_lt64 | apply andn_lt64 | apply pow_lt64 | (apply HeapL.lt64 <;> assumption)))) (by first | omega | assumption | decide)) ⟨rdF false (flatNums _ _ _ _) rfl rfl, trivial⟩ rfl ⟨clF (flatNums _ _ _ _), trivial⟩ rfl (by first | rfl | simp [mpV, mpA, mpS, mpP, renId, shift]) rfl) ?_
      refine segEndH [1] (T1 := (mkT 24 [(1, vI (-1))])) (by kernel_rfl) ?_
      refine kSeq ?_
      refine cSeq ?_
      refine cSeq ?_
      refine cReg ?_
      refine segEndH [1, 22] (T1 := (mkT 24 [(1, vI (-1)), (22, .bool true)])) (by kernel_rfl) ?_
      refine kSeq ?_
      refine cTrue (by kernel_rfl) ?_
      refine cSeq ?_
      refine cReg ?_
      refine segEndH [4] (T1 := (mkT 24 [(4, vI (-1))])) (by kernel_rfl) ?_
      refine kSeq ?_
      refine cRet ?_
      refine kSeqR ?_
      -- end
      exact endQ (Or.inr rfl) (l := [vI (-1)]) [rB [vI x, vI y, vI z, vS 0 A.length, vS 1 B.length, vS 2 C.length] 24] (by kernel_rfl) (by first | rfl | kernel_rfl) rfl rfl hcl rfl
    ·
      (try simp only [Bool.not_eq_true', Bool.not_eq_false', decide_eq_true_eq, decide_eq_false_iff_not, beq_iff_eq, bne_iff_ne, beq_eq_false_iff_ne, bne_eq_false_iff_eq, ne_eq, Decidable.not_not, Bool.and_eq_true, Bool.and_eq_false_imp, Bool.or_eq_true, Bool.or_eq_false_iff, Bool.not_eq_true, Int.not_lt, Int.not_le, ge_iff_le, gt_iff_lt] at h2)
      exfalso; omega
  ·
    (try simp only [Bool.not_eq_true', Bool.not_eq_false', decide_eq_true_eq, decide_eq_false_iff_not, beq_iff_eq, bne_iff_ne, beq_eq_false_iff_ne, bne_eq_false_iff_eq, ne_eq, Decidable.not_not, Bool.and_eq_true, Bool.and_eq_false_imp, Bool.or_eq_true, Bool.or_eq_false_iff, Bool.not_eq_true, Int.not_lt, Int.not_le, ge_iff_le, gt_iff_lt] at h1)
    exfalso; omega

set_option maxRecDepth 100000 in
set_option maxHeartbeats 4000000 in
theorem toSh_sss (x : Int) (y : Int) (z : Int) (A : List Int) (B : List Int) (C : List Int) (hA : A.length ≤ 1048576) (hB : B.length ≤ 1048576) (hC : C.length ≤ 1048576) : Sound Try.prog 17 [.agg #[vI x, vI y, vI z, vS 0 A.length, vS 1 B.length, vS 2 C.length]] [some ⟨nums A, 3, false, false⟩, some ⟨nums B, 3, false, false⟩, some ⟨nums C, 3, false, false⟩] (.agg #[vI x, vI y, vI z, vS 3 A.length, vS 4 B.length, vS 5 C.length]) [some ⟨nums A, 3, false, false⟩, some ⟨nums B, 3, false, false⟩, some ⟨nums C, 3, false, false⟩, some ⟨nums A, 3, false, true⟩, some ⟨nums B, 3, false, true⟩, some ⟨nums C, 3, false, true⟩] := by
  refine sound_intro (C := cx) Try.func17 rfl (by kernel_rfl) fun hcl => ?_
  refine cSeq ?_
  refine cReg ?_
  refine segEnd [1, 2] (T1 := (mkT 26 [(1, vP 3 0), (2, vP 4 0)])) (H1 := [some ⟨nums A, 3, false, false⟩, some ⟨nums B, 3, false, false⟩, some ⟨nums C, 3, false, false⟩, rB [vI x, vI y, vI z, vS 0 A.length, vS 1 B.length, vS 2 C.length] 24, rB [vI 0, vI 0, vI 0, .slice none 0 0, .slice none 0 0, .slice none 0 0] 27]) (by kernel_rfl) ?_
  refine kSeq ?_
  refine cSeq ?_
  refine cReg ?_
  refine segEnd [1, 2, 3] (T1 := (mkT 26 [(1, vP 3 0), (2, vP 4 0), (3, vP 5 0)])) (H1 := [some ⟨nums A, 3, false, false⟩, some ⟨nums B, 3, false, false⟩, some ⟨nums C, 3, false, false⟩, rB [vI x, vI y, vI z, vS 0 A.length, vS 1 B.length, vS 2 C.length] 24, rB [vI 0, vI 0, vI 0, .slice none 0 0, .slice none 0 0, .slice none 0 0] 27, rB [vI 0, vI 0, vI 0, .slice none 0 0, .slice none 0 0, .slice none 0 0] 27]) (by kernel_rfl) ?_
  refine kSeq ?_
  refine cSeq ?_
  refine cReg ?_
  refine segEnd [1, 2, 3] (T1 := (mkT 26 [(1, vP 3 0), (2, vP 4 0), (3, vP 5 0)])) (H1 := [some ⟨nums A, 3, false, false⟩, some ⟨nums B, 3, false, false⟩, some ⟨nums C, 3, false, false⟩, rB [vI x, vI y, vI z, vS 0 A.length, vS 1 B.length, vS 2 C.length] 24, rB [vI 0, vI 0, vI 0, .slice none 0 0, .slice none 0 0, .slice none 0 0] 27, rB [vI x, vI 0, vI 0, .slice none 0 0, .slice none 0 0, .slice none 0 0] 27]) (by kernel_rfl) ?_
  refine kSeq ?_
  refine cSeq ?_
  refine cReg ?_
  refine segEnd [1, 2, 3] (T1 := (mkT 26 [(1, vP 3 0), (2, vP 4 0), (3, vP 5 0)])) (H1 := [some ⟨nums A, 3, false, false⟩, some ⟨nums B, 3, false, false⟩, some ⟨nums C, 3, false, false⟩, rB [vI x, vI y, vI z, vS 0 A.length, vS 1 B.length, vS 2 C.length] 24, rB [vI 0, vI 0, vI 0, .slice none 0 0, .slice none 0 0, .slice none 0 0] 27, rB [vI x, vI y, vI 0, .slice none 0 0, .slice none 0 0, .slice none 0 0] 27]) (by kernel_rfl) ?_
  refine kSeq ?_
  refine cSeq ?_
  refine cReg ?_
  refine segEnd [1, 2, 3] (T1 := (mkT 26 [(1, vP 3 0), (2, vP 4 0), (3, vP 5 0)])) (H1 := [some ⟨nums A, 3, false, false⟩, some ⟨nums B, 3, false, false⟩, some ⟨nums C, 3, false, false⟩, rB [vI x, vI y, vI z, vS 0 A.length, vS 1 B.length, vS 2 C.length] 24, rB [vI 0, vI 0, vI 0, .slice none 0 0, .slice none 0 0, .slice none 0 0] 27, rB [vI x, vI y, vI z, .slice none 0 0, .slice none 0 0, .slice none 0 0] 27]) (by kernel_rfl) ?_
  refine kSeq ?_
  refine cSeq ?_
  refine cReg ?_
  refine segH 2 (T1 := (mkT 26 [(1, vP 3 0), (2, vP 4 0), (3, vP 5 0), (13, vP 3 3), (14, vS 0 A.length)])) (by kernel_rfl) ?_
  refine rCall (v := vS 6 A.length) (args := [vS 0 A.length]) (by kernel_rfl) rfl (by kernel_rfl) (Sound.lay (E := [some ⟨nums A, 3, false, true⟩]) [0] (toI_S A (by first | omega | assumption | (simp; done) | (simp; omega))) ⟨rdF false (flatNums _ _ _ _) rfl rfl, trivial⟩ rfl ⟨clF (flatNums _ _ _ _), trivial⟩ rfl (by first | rfl | simp [mpV, mpA, mpS, mpP, renId, shift]) rfl ⟨enF (flatNums _ _ _ _) (Or.inl rfl), trivial⟩) ?_
  refine segEnd [1, 2, 3] (T1 := (mkT 26 [(1, vP 3 0), (2, vP 4 0), (3, vP 5 0)])) (H1 := [some ⟨nums A, 3, false, false⟩, some ⟨nums B, 3, false, false⟩, some ⟨nums C, 3, false, false⟩, rB [vI x, vI y, vI z, vS 0 A.length, vS 1 B.length, vS 2 C.length] 24, rB [vI 0, vI 0, vI 0, .slice none 0 0, .slice none 0 0, .slice none 0 0] 27, rB [vI x, vI y, vI z, vS 6 A.length, .slice none 0 0, .slice none 0 0] 27, some ⟨nums A, 3, false, true⟩]) (by kernel_rfl) ?_
  refine kSeq ?_
  refine cSeq ?_
  refine cReg ?_
  refine segH 2 (T1 := (mkT 26 [(1, vP 3 0), (2, vP 4 0), (3, vP 5 0), (17, vP 3 4), (18, vS 1 B.length)])) (by kernel_rfl) ?_
  refine rCall (v := vS 7 B.length) (args := [vS 1 B.length]) (by kernel_rfl) rfl (by kernel_rfl) (Sound.lay (E := [some ⟨nums B, 3, false, true⟩]) [1] (toI_S B (by first | omega | assumption | (simp; done) | (simp; omega))) ⟨rdF false (flatNums _ _ _ _) rfl rfl, trivial⟩ rfl ⟨clF (flatNums _ _ _ _), trivial⟩ rfl (by first | rfl | simp [mpV, mpA, mpS, mpP, renId, shift]) rfl ⟨enF (flatNums _ _ _ _) (Or.inl rfl), trivial⟩) ?_
  refine segEnd [1, 2, 3] (T1 := (mkT 26 [(1, vP 3 0), (2, vP 4 0), (3, vP 5 0)])) (H1 := [some ⟨nums A, 3, false, false⟩, some ⟨nums B, 3, false, false⟩, some ⟨nums C, 3, false, false⟩, rB [vI x, vI y, vI z, vS 0 A.length, vS 1 B.length, vS 2 C.length] 24, rB [vI 0, vI 0, vI 0, .slice none 0 0, .slice none 0 0, .slice none 0 0] 27, rB [vI x, vI y, vI z, vS 6 A.length, vS 7 B.length, .slice none 0 0] 27, some ⟨nums A, 3, false, true⟩, some ⟨nums B, 3, false, true⟩]) (by kernel_rfl) ?_
  refine kSeq ?_
  refine cSeq ?_
  refine cReg ?_
  refine segH 2 (T1 := (mkT 26 [(1, vP 3 0), (2, vP 4 0), (3, vP 5 0), (21, vP 3 5), (22, vS 2 C.length)])) (by kernel_rfl) ?_
  refine rCall (v := vS 8 C.length) (args := [vS 2 C.length]) (by kernel_rfl) rfl (by kernel_rfl) (Sound.lay (E := [some ⟨nums C, 3, false, true⟩]) [2] (toI_S C (by first | omega | assumption | (simp; done) | (simp; omega))) ⟨rdF false (flatNums _ _ _ _) rfl rfl, trivial⟩ rfl ⟨clF (flatNums _ _ _ _), trivial⟩ rfl (by first | rfl | simp [mpV, mpA, mpS, mpP, renId, shift]) rfl ⟨enF (flatNums _ _ _ _) (Or.inl rfl), trivial⟩) ?_
  refine segEnd [2, 3] (T1 := (mkT 26 [(2, vP 4 0), (3, vP 5 0)])) (H1 := [some ⟨nums A, 3, false, false⟩, some ⟨nums B, 3, false, false⟩, some ⟨nums C, 3, false, false⟩, rB [vI x, vI y, vI z, vS 0 A.length, vS 1 B.length, vS 2 C.length] 24, rB [vI 0, vI 0, vI 0, .slice none 0 0, .slice none 0 0, .slice none 0 0] 27, rB [vI x, vI y, vI z, vS 6 A.length, vS 7 B.length, vS 8 C.length] 27, some ⟨nums A, 3, false, true⟩, some ⟨nums B, 3, false, true⟩, some ⟨nums C, 3, false, true⟩]) (by kernel_rfl) ?_
  refine kSeq ?_
  refine cSeq ?_
  refine cReg ?_
  refine segEnd [2] (T1 := (mkT 26 [(2, vP 4 0)])) (H1 := [some ⟨nums A, 3, false, false⟩, some ⟨nums B, 3, false, false⟩, some ⟨nums C, 3, false, false⟩, rB [vI x, vI y, vI z, vS 0 A.length, vS 1 B.length, vS 2 C.length] 24, rB [vI x, vI y, vI z, vS 6 A.length, vS 7 B.length, vS 8 C.length] 27, rB [vI x, vI y, vI z, vS 6 A.length, vS 7 B.length, vS 8 C.length] 27, some ⟨nums A, 3, false, true⟩, some ⟨nums B, 3, false, true⟩, some ⟨nums C, 3, false, true⟩]) (by kernel_rfl) ?_
  refine kSeq ?_
  refine cRet ?_
  -- end
  exact endF (Or.inr rfl) (l := [.agg #[vI x, vI y, vI z, vS 6 A.length, vS 7 B.length, vS 8 C.length]]) [0, 1, 2, 6, 7, 8] (by kernel_rfl) (by first | rfl | simp [packR, mpV, mpA, mpS, mpP, renId]) ⟨rrF (flatNums _ _ _ _) rfl, ⟨rrF (flatNums _ _ _ _) rfl, ⟨rrF (flatNums _ _ _ _) rfl, ⟨rrF (flatNums _ _ _ _) rfl, ⟨rrF (flatNums _ _ _ _) rfl, ⟨rrF (flatNums _ _ _ _) rfl, trivial⟩⟩⟩⟩⟩⟩ rfl rfl

set_option maxRecDepth 100000 in
set_option maxHeartbeats 4000000 in
theorem szSh_ssn (x : Int) (y : Int) (z : Int) (A : List Int) (B : List Int) (n : Nat) (hl : A.length + B.length ≤ n) (hn : n ≤ 1048576) : Sound Try.prog 15 [.agg #[vI x, vI y, vI z, vS 0 A.length, vS 1 B.length, .slice none 0 0], vN n] [some ⟨nums A, 3, false, false⟩, some ⟨nums B, 3, false, false⟩] (vN (n - A.length - B.length)) [some ⟨nums A, 3, false, false⟩, some ⟨nums B, 3, false, false⟩] := by
  refine sound_intro (C := cx) Try.func15 rfl (by kernel_rfl) fun hcl => ?_
  refine cSeq ?_
  refine cReg ?_
  refine segEnd [1, 2] (T1 := (mkT 24 [(1, vN n), (2, vP 2 0)])) (H1 := [some ⟨nums A, 3, false, false⟩, some ⟨nums B, 3, false, false⟩, rB [vI x, vI y, vI z, vS 0 A.length, vS 1 B.length, .slice none 0 0] 24]) (by kernel_rfl) ?_
  refine kSeq ?_
  refine cSeq ?_
  refine cReg ?_
  refine segH 3 (T1 := (mkT 24 [(1, vN n), (2, vP 2 0), (5, vP 2 3), (6, vS 0 A.length), (7, vN n)])) (by kernel_rfl) ?_
  refine rCall (v := vN (n - A.length)) (args := [vS 0 A.length, vN n]) (by kernel_rfl) rfl (by kernel_rfl) (Sound.lay0 [0] (szI_S A n (by first | omega | assumption | (simp; done) | (simp; omega)) (by first | omega | assumption | decide)) ⟨rdF false (flatNums _ _ _ _) rfl rfl, trivial⟩ rfl ⟨clF (flatNums _ _ _ _), trivial⟩ rfl (by first | rfl | simp [mpV, mpA, mpS, mpP, renId, shift]) rfl) ?_
  refine segEndH [1, 2] (T1 := (mkT 24 [(1, vN (n - A.length)), (2, vP 2 0)])) (by kernel_rfl) ?_
  refine kSeq ?_
  refine cSeq ?_
  refine cSeq ?_
  refine cReg ?_
  refine segEndH [1, 2, 10] (T1 := (mkT 24 [(1, vN (n - A.length)), (2, vP 2 0), (10, .bool (decide (((n - A.length : Nat) : Int) < 0)))])) (by kernel_rfl) ?_
  refine kSeq ?_
  cases h1 : (decide (((n - A.length : Nat) : Int) < 0) : Bool)
  ·
    (try simp only [Bool.not_eq_true', Bool.not_eq_false', decide_eq_true_eq, decide_eq_false_iff_not, beq_iff_eq, bne_iff_ne, beq_eq_false_iff_ne, bne_eq_false_iff_eq, ne_eq, Decidable.not_not, Bool.and_eq_true, Bool.and_eq_false_imp, Bool.or_eq_true, Bool.or_eq_false_iff, Bool.not_eq_true, Int.not_lt, Int.not_le, ge_iff_le, gt_iff_lt] at h1)
    refine cFalse (by kernel_rfl) ?_
    refine cSkip ?_
    refine kSeq ?_
    refine cSeq ?_
    refine cReg ?_
    refine segH 3 (T1 := (mkT 24 [(1, vN (n - A.length)), (2, vP 2 0), (10, .bool false), (11, vP 2 4), (12, vS 1 B.length), (13, vN (n - A.length))])) (by kernel_rfl) ?_
    refine rCall (v := vN ((n - A.length) - B.length)) (args := [vS 1 B.length, vN (n - A.length)]) (by kernel_rfl) rfl (by kernel_rfl) (Sound.lay0 [1] (szI_S B (n - A.length) (by first | omega | assumption | (simp; done) | (simp; omega)) (by first | omega | assumption | decide)) ⟨rdF false (flatNums _ _ _ _) rfl rfl, trivial⟩ rfl ⟨clF (flatNums _ _ _ _), trivial⟩ rfl (by first | rfl | simp [mpV, mpA, mpS, mpP, renId, shift]) rfl) ?_
    refine segEndH [1, 2] (T1 := (mkT 24 [(1, vN ((n - A.length) - B.length)), (2, vP 2 0)])) (by kernel_rfl) ?_
    refine kSeq ?_
    refine cSeq ?_
    refine cSeq ?_
    refine cReg ?_
    refine segEndH [1, 2, 16] (T1 := (mkT 24 [(1, vN ((n - A.length) - B.length)), (2, vP 2 0), (16, .bool (decide ((((n - A.length) - B.length : Nat) : Int) < 0)))])) (by kernel_rfl) ?_
    refine kSeq ?_
    cases h2 : (decide ((((n - A.length) - B.length : Nat) : Int) < 0) : Bool)
    ·
      (try simp only [Bool.not_eq_true', Bool.not_eq_false', decide_eq_true_eq, decide_eq_false_iff_not, beq_iff_eq, bne_iff_ne, beq_eq_false_iff_ne, bne_eq_false_iff_eq, ne_eq, Decidable.not_not, Bool.and_eq_true, Bool.and_eq_false_imp, Bool.or_eq_true, Bool.or_eq_false_iff, Bool.not_eq_true, Int.not_lt, Int.not_le, ge_iff_le, gt_iff_lt] at h2)
      refine cFalse (by kernel_rfl) ?_
      refine cSkip ?_
      refine kSeq ?_
      refine cSeq ?_
      refine cReg ?_
      refine segH 3 (T1 := (mkT 24 [(1, vN ((n - A.length) - B.length)), (2, vP 2 0), (16, .bool false), (17, vP 2 5), (18, .slice none 0 0), (19, vN ((n - A.length) - B.length))])) (by kernel_rfl) ?_
      refine rCall (v := vN ((n - A.length) - B.length)) (args := [.slice none 0 0, vN ((n - A.length) - B.length)]) (by kernel_rfl) rfl (by kernel_rfl) (Sound.lay0 [] (szI_N ((n - A.length) - B.length) (by first | omega | assumption | decide)) trivial rfl trivial rfl (by first | rfl | simp [mpV, mpA, mpS, mpP, renId, shift]) rfl) ?_
      refine segEndH [1] (T1 := (mkT 24 [(1, vN ((n - A.length) - B.length))])) (by kernel_rfl) ?_
      refine kSeq ?_
      refine cSeq ?_
      refine cSeq ?_
      refine cReg ?_
      refine segEndH [1, 22] (T1 := (mkT 24 [(1, vN ((n - A.length) - B.length)), (22, .bool (decide ((((n - A.length) - B.length : Nat) : Int) < 0)))])) (by kernel_rfl) ?_
      refine kSeq ?_
      cases h3 : (decide ((((n - A.length) - B.length : Nat) : Int) < 0) : Bool)
      ·
        (try simp only [Bool.not_eq_true', Bool.not_eq_false', decide_eq_true_eq, decide_eq_false_iff_not, beq_iff_eq, bne_iff_ne, beq_eq_false_iff_ne, bne_eq_false_iff_eq, ne_eq, Decidable.not_not, Bool.and_eq_true, Bool.and_eq_false_imp, Bool.or_eq_true, Bool.or_eq_false_iff, Bool.not_eq_true, Int.not_lt, Int.not_le, ge_iff_le, gt_iff_lt] at h3)
        refine cFalse (by kernel_rfl) ?_
        refine cSkip ?_
        refine kSeq ?_
        refine cSeq ?_
        refine cReg ?_
        refine segEndH [4] (T1 := (mkT 24 [(4, vN ((n - A.length) - B.length))])) (by kernel_rfl) ?_
        refine kSeq ?_
        refine cRet ?_
        -- end
        have he0 : ((n - A.length) - B.length : Nat) = n - A.length - B.length := by first | omega | assumption | rfl | (symm; assumption) | (simp_all; done)
        refine endCast (v1 := vN ((n - A.length) - B.length)) (H1 := [some ⟨nums A, 3, false, false⟩, some ⟨nums B, 3, false, false⟩]) (by first | rfl | ((try rw [← he0]); done) | (simp only [← he0]; done)) (by first | rfl | ((try rw [← he0]); done) | (simp only [← he0]; done)) ?_
        exact endQ (Or.inr rfl) (l := [vN ((n - A.length) - B.length)]) [rB [vI x, vI y, vI z, vS 0 A.length, vS 1 B.length, .slice none 0 0] 24] (by kernel_rfl) (by first | rfl | kernel_rfl) rfl rfl hcl rfl
      ·
        (try simp only [Bool.not_eq_true', Bool.not_eq_false', decide_eq_true_eq, decide_eq_false_iff_not, beq_iff_eq, bne_iff_ne, beq_eq_false_iff_ne, bne_eq_false_iff_eq, ne_eq, Decidable.not_not, Bool.and_eq_true, Bool.and_eq_false_imp, Bool.or_eq_true, Bool.or_eq_false_iff, Bool.not_eq_true, Int.not_lt, Int.not_le, ge_iff_le, gt_iff_lt] at h3)
        exfalso; omega
    ·
      (try simp only [Bool.not_eq_true', Bool.not_eq_false', decide_eq_true_eq, decide_eq_false_iff_not, beq_iff_eq, bne_iff_ne, beq_eq_false_iff_ne, bne_eq_false_iff_eq, ne_eq, Decidable.not_not, Bool.and_eq_true, Bool.and_eq_false_imp, Bool.or_eq_true, Bool.or_eq_false_iff, Bool.not_eq_true, Int.not_lt, Int.not_le, ge_iff_le, gt_iff_lt] at h2)
      exfalso; omega
  ·
    (try simp only [Bool.not_eq_true', Bool.not_eq_false', decide_eq_true_eq, decide_eq_false_iff_not, beq_iff_eq, bne_iff_ne, beq_eq_false_iff_ne, bne_eq_false_iff_eq, ne_eq, Decidable.not_not, Bool.and_eq_true, Bool.and_eq_false_imp, Bool.or_eq_true, Bool.or_eq_false_iff, Bool.not_eq_true, Int.not_lt, Int.not_le, ge_iff_le, gt_iff_lt] at h1)
    exfalso; omega

set_option maxRecDepth 100000 in
set_option maxHeartbeats 4000000 in
theorem szSh_ssn_A (x : Int) (y : Int) (z : Int) (A : List Int) (B : List Int) (n : Nat) (hl : n < A.length) (hm : A.length ≤ 9223372036854775807) (hn : n ≤ 1048576) : Sound Try.prog 15 [.agg #[vI x, vI y, vI z, vS 0 A.length, vS 1 B.length, .slice none 0 0], vN n] [some ⟨nums A, 3, false, false⟩, some ⟨nums B, 3, false, false⟩] (vI (-1)) [some ⟨nums A, 3, false, false⟩, some ⟨nums B, 3, false, false⟩] := by
  refine sound_intro (C := cx) Try.func15 rfl (by kernel_rfl) fun hcl => ?_
  refine cSeq ?_
  refine cReg ?_
  refine segEnd [1, 2] (T1 := (mkT 24 [(1, vN n), (2, vP 2 0)])) (H1 := [some ⟨nums A, 3, false, false⟩, some ⟨nums B, 3, false, false⟩, rB [vI x, vI y, vI z, vS 0 A.length, vS 1 B.length, .slice none 0 0] 24]) (by kernel_rfl) ?_
  refine kSeq ?_
  refine cSeq ?_
  refine cReg ?_
  refine segH 3 (T1 := (mkT 24 [(1, vN n), (2, vP 2 0), (5, vP 2 3), (6, vS 0 A.length), (7, vN n)])) (by kernel_rfl) ?_
  refine rCall (v := vI (-1)) (args := [vS 0 A.length, vN n]) (by kernel_rfl) rfl (by kernel_rfl) (Sound.lay0 [0] (szI_G A n (by first | omega | assumption | (simp; done) | (simp; omega)) (by first | assumption | omega | rfl | decide | exact HeapL.list _ _ _ _ | exact HeapL.nil _ _ _ | exact HeapL.all _ _ _ | (apply HeapL.lt64 <;> assumption) | (repeat' (first | assumption | apply or_lt64 | apply and_lt64 | apply andn_lt64 | apply pow_lt64 | (apply HeapL.lt64 <;> assumption)))) (by first | omega | assumption | decide)) ⟨rdF false (flatNums _ _ _ _) rfl rfl, trivial⟩ rfl ⟨clF (flatNums _ _ _ _), trivial⟩ rfl (by first | rfl | simp [mpV, mpA, mpS, mpP, renId, shift]) rfl) ?_
  refine segEndH [1, 2] (T1 := (mkT 24 [(1, vI (-1)), (2, vP 2 0)])) (by kernel_rfl) ?_
  refine kSeq ?_
  refine cSeq ?_
  refine cSeq ?_
  refine cReg ?_
  refine segEndH [1, 2, 10] (T1 := (mkT 24 [(1, vI (-1)), (2, vP 2 0), (10, .bool true)])) (by kernel_rfl) ?_
  refine kSeq ?_
  refine cTrue (by kernel_rfl) ?_
  refine cSeq ?_
  refine cReg ?_
  refine segEndH [4] (T1 := (mkT 24 [(4, vI (-1))])) (by kernel_rfl) ?_
  refine kSeq ?_
  refine cRet ?_
  refine kSeqR ?_
  -- end
  exact endQ (Or.inr rfl) (l := [vI (-1)]) [rB [vI x, vI y, vI z, vS 0 A.length, vS 1 B.length, .slice none 0 0] 24] (by kernel_rfl) (by first | rfl | kernel_rfl) rfl rfl hcl rfl

set_option maxRecDepth 100000 in
set_option maxHeartbeats 4000000 in
theorem szSh_ssn_B (x : Int) (y : Int) (z : Int) (A : List Int) (B : List Int) (n : Nat) (hl0 : A.length ≤ n) (hl : n - A.length < B.length) (hm : B.length ≤ 9223372036854775807) (hn : n ≤ 1048576) : Sound Try.prog 15 [.agg #[vI x, vI y, vI z, vS 0 A.length, vS 1 B.length, .slice none 0 0], vN n] [some ⟨nums A, 3, false, false⟩, some ⟨nums B, 3, false, false⟩] (vI (-1)) [some ⟨nums A, 3, false, false⟩, some ⟨nums B, 3, false, false⟩] := by
  refine sound_intro (C := cx) Try.func15 rfl (by kernel_rfl) fun hcl => ?_
  refine cSeq ?_
  refine cReg ?_
  refine segEnd [1, 2] (T1 := (mkT 24 [(1, vN n), (2, vP 2 0)])) (H1 := [some ⟨nums A, 3, false, false⟩, some ⟨nums B, 3, false, false⟩, rB [vI x, vI y, vI z, vS 0 A.length, vS 1 B.length, .slice none 0 0] 24]) (by kernel_rfl) ?_
  refine kSeq ?_
  refine cSeq ?_
  refine cReg ?_
  refine segH 3 (T1 := (mkT 24 [(1, vN n), (2, vP 2 0), (5, vP 2 3), (6, vS 0 A.length), (7, vN n)])) (by kernel_rfl) ?_
  refine rCall (v := vN (n - A.length)) (args := [vS 0 A.length, vN n]) (by kernel_rfl) rfl (by kernel_rfl) (Sound.lay0 [0] (szI_S A n (by first | omega | assumption | (simp; done) | (simp; omega)) (by first | omega | assumption | decide)) ⟨rdF false (flatNums _ _ _ _) rfl rfl, trivial⟩ rfl ⟨clF (flatNums _ _ _ _), trivial⟩ rfl (by first | rfl | simp [mpV, mpA, mpS, mpP, renId, shift]) rfl) ?_
  refine segEndH [1, 2] (T1 := (mkT 24 [(1, vN (n - A.length)), (2, vP 2 0)])) (by kernel_rfl) ?_
  refine kSeq ?_
  refine cSeq ?_
  refine cSeq ?_
  refine cReg ?_
  refine segEndH [1, 2, 10] (T1 := (mkT 24 [(1, vN (n - A.length)), (2, vP 2 0), (10, .bool (decide (((n - A.length : Nat) : Int) < 0)))])) (by kernel_rfl) ?_
  refine kSeq ?_
  cases h1 : (decide (((n - A.length : Nat) : Int) < 0) : Bool)
  ·
    (try simp only [Bool.not_eq_true', Bool.not_eq_false', decide_eq_true_eq, decide_eq_false_iff_not, beq_iff_eq, bne_iff_ne, beq_eq_false_iff_ne, bne_eq_false_iff_eq, ne_eq, Decidable.not_not, Bool.and_eq_true, Bool.and_eq_false_imp, Bool.or_eq_true, Bool.or_eq_false_iff, Bool.not_eq_true, Int.not_lt, Int.not_le, ge_iff_le, gt_iff_lt] at h1)
    refine cFalse (by kernel_rfl) ?_
    refine cSkip ?_
    refine kSeq ?_
    refine cSeq ?_
    refine cReg ?_
    refine segH 3 (T1 := (mkT 24 [(1, vN (n - A.length)), (2, vP 2 0), (10, .bool false), (11, vP 2 4), (12, vS 1 B.length), (13, vN (n - A.length))])) (by kernel_rfl) ?_
    refine rCall (v := vI (-1)) (args := [vS 1 B.length, vN (n - A.length)]) (by kernel_rfl) rfl (by kernel_rfl) (Sound.lay0 [1] (szI_G B (n - A.length) (by first | omega | assumption | (simp; done) | (simp; omega)) (by first | assumption | omega | rfl | decide | exact HeapL.list _ _ _ _ | exact HeapL.nil _ _ _ | exact HeapL.all _ _ _ | (apply HeapL.lt64 <;> assumption) | (repeat' (first | assumption | apply or_lt64 | apply and_lt64 | apply andn_lt64 | apply pow_lt64 | (apply HeapL.lt64 <;> assumption)))) (by first | omega | assumption | decide)) ⟨rdF false (flatNums _ _ _ _) rfl rfl, trivial⟩ rfl ⟨clF (flatNums _ _ _ _), trivial⟩ rfl (by first | rfl | simp [mpV, mpA, mpS, mpP, renId, shift]) rfl) ?_
    refine segEndH [1, 2] (T1 := (mkT 24 [(1, vI (-1)), (2, vP 2 0)])) (by kernel_rfl) ?_
    refine kSeq ?_
    refine cSeq ?_
    refine cSeq ?_
    refine cReg ?_
    refine segEndH [1, 2, 16] (T1 := (mkT 24 [(1, vI (-1)), (2, vP 2 0), (16, .bool true)])) (by kernel_rfl) ?_
    refine kSeq ?_
    refine cTrue (by kernel_rfl) ?_
    refine cSeq ?_
    refine cReg ?_
    refine segEndH [4] (T1 := (mkT 24 [(4, vI (-1))])) (by kernel_rfl) ?_
    refine kSeq ?_
    refine cRet ?_
    refine kSeqR ?_
    -- end
    exact endQ (Or.inr rfl) (l := [vI (-1)]) [rB [vI x, vI y, vI z, vS 0 A.length, vS 1 B.length, .slice none 0 0] 24] (by kernel_rfl) (by first | rfl | kernel_rfl) rfl rfl hcl rfl
  ·
    (try simp only [Bool.not_eq_true', Bool.not_eq_false', decide_eq_true_eq, decide_eq_false_iff_not, beq_iff_eq, bne_iff_ne, beq_eq_false_iff_ne, bne_eq_false_iff_eq, ne_eq, Decidable.not_not, Bool.and_eq_true, Bool.and_eq_false_imp, Bool.or_eq_true, Bool.or_eq_false_iff, Bool.not_eq_true, Int.not_lt, Int.not_le, ge_iff_le, gt_iff_lt] at h1)
    exfalso; omega

set_option maxRecDepth 100000 in
set_option maxHeartbeats 4000000 in
theorem toSh_ssn (x : Int) (y : Int) (z : Int) (A : List Int) (B : List Int) (hA : A.length ≤ 1048576) (hB : B.length ≤ 1048576) : Sound Try.prog 17 [.agg #[vI x, vI y, vI z, vS 0 A.length, vS 1 B.length, .slice none 0 0]] [some ⟨nums A, 3, false, false⟩, some ⟨nums B, 3, false, false⟩] (.agg #[vI x, vI y, vI z, vS 2 A.length, vS 3 B.length, vS 4 0]) [some ⟨nums A, 3, false, false⟩, some ⟨nums B, 3, false, false⟩, some ⟨nums A, 3, false, true⟩, some ⟨nums B, 3, false, true⟩, some ⟨nums ([] : List Int), 3, false, true⟩] := by
  refine sound_intro (C := cx) Try.func17 rfl (by kernel_rfl) fun hcl => ?_
  refine cSeq ?_
  refine cReg ?_
  refine segEnd [1, 2] (T1 := (mkT 26 [(1, vP 2 0), (2, vP 3 0)])) (H1 := [some ⟨nums A, 3, false, false⟩, some ⟨nums B, 3, false, false⟩, rB [vI x, vI y, vI z, vS 0 A.length, vS 1 B.length, .slice none 0 0] 24, rB [vI 0, vI 0, vI 0, .slice none 0 0, .slice none 0 0, .slice none 0 0] 27]) (by kernel_rfl) ?_
  refine kSeq ?_
  refine cSeq ?_
  refine cReg ?_
  refine segEnd [1, 2, 3] (T1 := (mkT 26 [(1, vP 2 0), (2, vP 3 0), (3, vP 4 0)])) (H1 := [some ⟨nums A, 3, false, false⟩, some ⟨nums B, 3, false, false⟩, rB [vI x, vI y, vI z, vS 0 A.length, vS 1 B.length, .slice none 0 0] 24, rB [vI 0, vI 0, vI 0, .slice none 0 0, .slice none 0 0, .slice none 0 0] 27, rB [vI 0, vI 0, vI 0, .slice none 0 0, .slice none 0 0, .slice none 0 0] 27]) (by kernel_rfl) ?_
  refine kSeq ?_
  refine cSeq ?_
  refine cReg ?_
  refine segEnd [1, 2, 3] (T1 := (mkT 26 [(1, vP 2 0), (2, vP 3 0), (3, vP 4 0)])) (H1 := [some ⟨nums A, 3, false, false⟩, some ⟨nums B, 3, false, false⟩, rB [vI x, vI y, vI z, vS 0 A.length, vS 1 B.length, .slice none 0 0] 24, rB [vI 0, vI 0, vI 0, .slice none 0 0, .slice none 0 0, .slice none 0 0] 27, rB [vI x, vI 0, vI 0, .slice none 0 0, .slice none 0 0, .slice none 0 0] 27]) (by kernel_rfl) ?_
  refine kSeq ?_
  refine cSeq ?_
  refine cReg ?_
  refine segEnd [1, 2, 3] (T1 := (mkT 26 [(1, vP 2 0), (2, vP 3 0), (3, vP 4 0)])) (H1 := [some ⟨nums A, 3, false, false⟩, some ⟨nums B, 3, false, false⟩, rB [vI x, vI y, vI z, vS 0 A.length, vS 1 B.length, .slice none 0 0] 24, rB [vI 0, vI 0, vI 0, .slice none 0 0, .slice none 0 0, .slice none 0 0] 27, rB [vI x, vI y, vI 0, .slice none 0 0, .slice none 0 0, .slice none 0 0] 27]) (by kernel_rfl) ?_
  refine kSeq ?_
  refine cSeq ?_
  refine cReg ?_
  refine segEnd [1, 2, 3] (T1 := (mkT 26 [(1, vP 2 0), (2, vP 3 0), (3, vP 4 0)])) (H1 := [some ⟨nums A, 3, false, false⟩, some ⟨nums B, 3, false, false⟩, rB [vI x, vI y, vI z, vS 0 A.length, vS 1 B.length, .slice none 0 0] 24, rB [vI 0, vI 0, vI 0, .slice none 0 0, .slice none 0 0, .slice none 0 0] 27, rB [vI x, vI y, vI z, .slice none 0 0, .slice none 0 0, .slice none 0 0] 27]) (by kernel_rfl) ?_
  refine kSeq ?_
  refine cSeq ?_
  refine cReg ?_
  refine segH 2 (T1 := (mkT 26 [(1, vP 2 0), (2, vP 3 0), (3, vP 4 0), (13, vP 2 3), (14, vS 0 A.length)])) (by kernel_rfl) ?_
  refine rCall (v := vS 5 A.length) (args := [vS 0 A.length]) (by kernel_rfl) rfl (by kernel_rfl) (Sound.lay (E := [some ⟨nums A, 3, false, true⟩]) [0] (toI_S A (by first | omega | assumption | (simp; done) | (simp; omega))) ⟨rdF false (flatNums _ _ _ _) rfl rfl, trivial⟩ rfl ⟨clF (flatNums _ _ _ _), trivial⟩ rfl (by first | rfl | simp [mpV, mpA, mpS, mpP, renId, shift]) rfl ⟨enF (flatNums _ _ _ _) (Or.inl rfl), trivial⟩) ?_
  refine segEnd [1, 2, 3] (T1 := (mkT 26 [(1, vP 2 0), (2, vP 3 0), (3, vP 4 0)])) (H1 := [some ⟨nums A, 3, false, false⟩, some ⟨nums B, 3, false, false⟩, rB [vI x, vI y, vI z, vS 0 A.length, vS 1 B.length, .slice none 0 0] 24, rB [vI 0, vI 0, vI 0, .slice none 0 0, .slice none 0 0, .slice none 0 0] 27, rB [vI x, vI y, vI z, vS 5 A.length, .slice none 0 0, .slice none 0 0] 27, some ⟨nums A, 3, false, true⟩]) (by kernel_rfl) ?_
  refine kSeq ?_
  refine cSeq ?_
  refine cReg ?_
  refine segH 2 (T1 := (mkT 26 [(1, vP 2 0), (2, vP 3 0), (3, vP 4 0), (17, vP 2 4), (18, vS 1 B.length)])) (by kernel_rfl) ?_
  refine rCall (v := vS 6 B.length) (args := [vS 1 B.length]) (by kernel_rfl) rfl (by kernel_rfl) (Sound.lay (E := [some ⟨nums B, 3, false, true⟩]) [1] (toI_S B (by first | omega | assumption | (simp; done) | (simp; omega))) ⟨rdF false (flatNums _ _ _ _) rfl rfl, trivial⟩ rfl ⟨clF (flatNums _ _ _ _), trivial⟩ rfl (by first | rfl | simp [mpV, mpA, mpS, mpP, renId, shift]) rfl ⟨enF (flatNums _ _ _ _) (Or.inl rfl), trivial⟩) ?_
  refine segEnd [1, 2, 3] (T1 := (mkT 26 [(1, vP 2 0), (2, vP 3 0), (3, vP 4 0)])) (H1 := [some ⟨nums A, 3, false, false⟩, some ⟨nums B, 3, false, false⟩, rB [vI x, vI y, vI z, vS 0 A.length, vS 1 B.length, .slice none 0 0] 24, rB [vI 0, vI 0, vI 0, .slice none 0 0, .slice none 0 0, .slice none 0 0] 27, rB [vI x, vI y, vI z, vS 5 A.length, vS 6 B.length, .slice none 0 0] 27, some ⟨nums A, 3, false, true⟩, some ⟨nums B, 3, false, true⟩]) (by kernel_rfl) ?_
  refine kSeq ?_
  refine cSeq ?_
  refine cReg ?_
  refine segH 2 (T1 := (mkT 26 [(1, vP 2 0), (2, vP 3 0), (3, vP 4 0), (21, vP 2 5), (22, .slice none 0 0)])) (by kernel_rfl) ?_
  refine rCall (v := vS 7 0) (args := [.slice none 0 0]) (by kernel_rfl) rfl (by kernel_rfl) (Sound.lay (E := [some ⟨nums ([] : List Int), 3, false, true⟩]) [] (toI_N) trivial rfl trivial rfl (by first | rfl | simp [mpV, mpA, mpS, mpP, renId, shift]) rfl ⟨enF (flatNums _ _ _ _) (Or.inl rfl), trivial⟩) ?_
  refine segEnd [2, 3] (T1 := (mkT 26 [(2, vP 3 0), (3, vP 4 0)])) (H1 := [some ⟨nums A, 3, false, false⟩, some ⟨nums B, 3, false, false⟩, rB [vI x, vI y, vI z, vS 0 A.length, vS 1 B.length, .slice none 0 0] 24, rB [vI 0, vI 0, vI 0, .slice none 0 0, .slice none 0 0, .slice none 0 0] 27, rB [vI x, vI y, vI z, vS 5 A.length, vS 6 B.length, vS 7 0] 27, some ⟨nums A, 3, false, true⟩, some ⟨nums B, 3, false, true⟩, some ⟨nums ([] : List Int), 3, false, true⟩]) (by kernel_rfl) ?_
  refine kSeq ?_
  refine cSeq ?_
  refine cReg ?_
  refine segEnd [2] (T1 := (mkT 26 [(2, vP 3 0)])) (H1 := [some ⟨nums A, 3, false, false⟩, some ⟨nums B, 3, false, false⟩, rB [vI x, vI y, vI z, vS 0 A.length, vS 1 B.length, .slice none 0 0] 24, rB [vI x, vI y, vI z, vS 5 A.length, vS 6 B.length, vS 7 0] 27, rB [vI x, vI y, vI z, vS 5 A.length, vS 6 B.length, vS 7 0] 27, some ⟨nums A, 3, false, true⟩, some ⟨nums B, 3, false, true⟩, some ⟨nums ([] : List Int), 3, false, true⟩]) (by kernel_rfl) ?_
  refine kSeq ?_
  refine cRet ?_
  -- end
  exact endF (Or.inr rfl) (l := [.agg #[vI x, vI y, vI z, vS 5 A.length, vS 6 B.length, vS 7 0]]) [0, 1, 5, 6, 7] (by kernel_rfl) (by first | rfl | simp [packR, mpV, mpA, mpS, mpP, renId]) ⟨rrF (flatNums _ _ _ _) rfl, ⟨rrF (flatNums _ _ _ _) rfl, ⟨rrF (flatNums _ _ _ _) rfl, ⟨rrF (flatNums _ _ _ _) rfl, ⟨rrF (flatNums _ _ _ _) rfl, trivial⟩⟩⟩⟩⟩ rfl rfl

set_option maxRecDepth 100000 in
set_option maxHeartbeats 4000000 in
theorem szSh_sns (x : Int) (y : Int) (z : Int) (A : List Int) (C : List Int) (n : Nat) (hl : A.length + C.length ≤ n) (hn : n ≤ 1048576) : Sound Try.prog 15 [.agg #[vI x, vI y, vI z, vS 0 A.length, .slice none 0 0, vS 1 C.length], vN n] [some ⟨nums A, 3, false, false⟩, some ⟨nums C, 3, false, false⟩] (vN (n - A.length - C.length)) [some ⟨nums A, 3, false, false⟩, some ⟨nums C, 3, false, false⟩] := by
  refine sound_intro (C := cx) Try.func15 rfl (by kernel_rfl) fun hcl => ?_
  refine cSeq ?_
  refine cReg ?_
  refine segEnd [1, 2] (T1 := (mkT 24 [(1, vN n), (2, vP 2 0)])) (H1 := [some ⟨nums A, 3, false, false⟩, some ⟨nums C, 3, false, false⟩, rB [vI x, vI y, vI z, vS 0 A.length, .slice none 0 0, vS 1 C.length] 24]) (by kernel_rfl) ?_
  refine kSeq ?_
  refine cSeq ?_
  refine cReg ?_
  refine segH 3 (T1 := (mkT 24 [(1, vN n), (2, vP 2 0), (5, vP 2 3), (6, vS 0 A.length), (7, vN n)])) (by kernel_rfl) ?_
  refine rCall (v := vN (n - A.length)) (args := [vS 0 A.length, vN n]) (by kernel_rfl) rfl (by kernel_rfl) (Sound.lay0 [0] (szI_S A n (by first | omega | assumption | (simp; done) | (simp; omega)) (by first | omega | assumption | decide)) ⟨rdF false (flatNums _ _ _ _) rfl rfl, trivial⟩ rfl ⟨clF (flatNums _ _ _ _), trivial⟩ rfl (by first | rfl | simp [mpV, mpA, mpS, mpP, renId, shift]) rfl) ?_
  refine segEndH [1, 2] (T1 := (mkT 24 [(1, vN (n - A.length)), (2, vP 2 0)])) (by kernel_rfl) ?_
  refine kSeq ?_
  refine cSeq ?_
  refine cSeq ?_
  refine cReg ?_
  refine segEndH [1, 2, 10] (T1 := (mkT 24 [(1, vN (n - A.length)), (2, vP 2 0), (10, .bool (decide (((n - A.length : Nat) : Int) < 0)))])) (by kernel_rfl) ?_
  refine kSeq ?_
  cases h1 : (decide (((n - A.length : Nat) : Int) < 0) : Bool)
  ·
    (try simp only [Bool.not_eq_true', Bool.not_eq_false', decide_eq_true_eq, decide_eq_false_iff_not, beq_iff_eq, bne_iff_ne, beq_eq_false_iff_ne, bne_eq_false_iff_eq, ne_eq, Decidable.not_not, Bool.and_eq_true, Bool.and_eq_false_imp, Bool.or_eq_true, Bool.or_eq_false_iff, Bool.not_eq_true, Int.not_lt, Int.not_le, ge_iff_le, gt_iff_lt] at h1)
    refine cFalse (by kernel_rfl) ?_
    refine cSkip ?_
    refine kSeq ?_
    refine cSeq ?_
    refine cReg ?_
    refine segH 3 (T1 := (mkT 24 [(1, vN (n - A.length)), (2, vP 2 0), (10, .bool false), (11, vP 2 4), (12, .slice none 0 0), (13, vN (n - A.length))])) (by kernel_rfl) ?_
    refine rCall (v := vN (n - A.length)) (args := [.slice none 0 0, vN (n - A.length)]) (by kernel_rfl) rfl (by kernel_rfl) (Sound.lay0 [] (szI_N (n - A.length) (by first | omega | assumption | decide)) trivial rfl trivial rfl (by first | rfl | simp [mpV, mpA, mpS, mpP, renId, shift]) rfl) ?_
    refine segEndH [1, 2] (T1 := (mkT 24 [(1, vN (n - A.length)), (2, vP 2 0)])) (by kernel_rfl) ?_
    refine kSeq ?_
    refine cSeq ?_
    refine cSeq ?_
    refine cReg ?_
    refine segEndH [1, 2, 16] (T1 := (mkT 24 [(1, vN (n - A.length)), (2, vP 2 0), (16, .bool (decide (((n - A.length : Nat) : Int) < 0)))])) (by kernel_rfl) ?_
    refine kSeq ?_
    cases h2 : (decide (((n - A.length : Nat) : Int) < 0) : Bool)
    ·
      (try simp only [Bool.not_eq_true', Bool.not_eq_false', decide_eq_true_eq, decide_eq_false_iff_not, beq_iff_eq, bne_iff_ne, beq_eq_false_iff_ne, bne_eq_false_iff_eq, ne_eq, Decidable.not_not, Bool.and_eq_true, Bool.and_eq_false_imp, Bool.or_eq_true, Bool.or_eq_false_iff, Bool.not_eq_true, Int.not_lt, Int.not_le, ge_iff_le, gt_iff_lt] at h2)
      refine cFalse (by kernel_rfl) ?_
      refine cSkip ?_
      refine kSeq ?_
      refine cSeq ?_
      refine cReg ?_
      refine segH 3 (T1 := (mkT 24 [(1, vN (n - A.length)), (2, vP 2 0), (16, .bool false), (17, vP 2 5), (18, vS 1 C.length), (19, vN (n - A.length))])) (by kernel_rfl) ?_
      refine rCall (v := vN ((n - A.length) - C.length)) (args := [vS 1 C.length, vN (n - A.length)]) (by kernel_rfl) rfl (by kernel_rfl) (Sound.lay0 [1] (szI_S C (n - A.length) (by first | omega | assumption | (simp; done) | (simp; omega)) (by first | omega | assumption | decide)) ⟨rdF false (flatNums _ _ _ _) rfl rfl, trivial⟩ rfl ⟨clF (flatNums _ _ _ _), trivial⟩ rfl (by first | rfl | simp [mpV, mpA, mpS, mpP, renId, shift]) rfl) ?_
      refine segEndH [1] (T1 := (mkT 24 [(1, vN ((n - A.length) - C.length))])) (by kernel_rfl) ?_
      refine kSeq ?_
      refine cSeq ?_
      refine cSeq ?_
      refine cReg ?_
      refine segEndH [1, 22] (T1 := (mkT 24 [(1, vN ((n - A.length) - C.length)), (22, .bool (decide ((((n - A.length) - C.length : Nat) : Int) < 0)))])) (by kernel_rfl) ?_
      refine kSeq ?_
      cases h3 : (decide ((((n - A.length) - C.length : Nat) : Int) < 0) : Bool)
      ·
        (try simp only [Bool.not_eq_true', Bool.not_eq_false', decide_eq_true_eq, decide_eq_false_iff_not, beq_iff_eq, bne_iff_ne, beq_eq_false_iff_ne, bne_eq_false_iff_eq, ne_eq, Decidable.not_not, Bool.and_eq_true, Bool.and_eq_false_imp, Bool.or_eq_true, Bool.or_eq_false_iff, Bool.not_eq_true, Int.not_lt, Int.not_le, ge_iff_le, gt_iff_lt] at h3)
        refine cFalse (by kernel_rfl) ?_
        refine cSkip ?_
        refine kSeq ?_
        refine cSeq ?_
        refine cReg ?_
        refine segEndH [4] (T1 := (mkT 24 [(4, vN ((n - A.length) - C.length))])) (by kernel_rfl) ?_
        refine kSeq ?_
        refine cRet ?_
        -- end
        have he0 : ((n - A.length) - C.length : Nat) = n - A.length - C.length := by first | omega | assumption | rfl | (symm; assumption) | (simp_all; done)
        refine endCast (v1 := vN ((n - A.length) - C.length)) (H1 := [some ⟨nums A, 3, false, false⟩, some ⟨nums C, 3, false, false⟩]) (by first | rfl | ((try rw [← he0]); done) | (simp only [← he0]; done)) (by first | rfl | ((try rw [← he0]); done) | (simp only [← he0]; done)) ?_
        exact endQ (Or.inr rfl) (l := [vN ((n - A.length) - C.length)]) [rB [vI x, vI y, vI z, vS 0 A.length, .slice none 0 0, vS 1 C.length] 24] (by kernel_rfl) (by first | rfl | kernel_rfl) rfl rfl hcl rfl
      ·
        (try simp only [Bool.not_eq_true', Bool.not_eq_false', decide_eq_true_eq, decide_eq_false_iff_not, beq_iff_eq, bne_iff_ne, beq_eq_false_iff_ne, bne_eq_false_iff_eq, ne_eq, Decidable.not_not, Bool.and_eq_true, Bool.and_eq_false_imp, Bool.or_eq_true, Bool.or_eq_false_iff, Bool.not_eq_true, Int.not_lt, Int.not_le, ge_iff_le, gt_iff_lt] at h3)
        exfalso; omega
    ·
      (try simp only [Bool.not_eq_true', Bool.not_eq_false', decide_eq_true_eq, decide_eq_false_iff_not, beq_iff_eq, bne_iff_ne, beq_eq_false_iff_ne, bne_eq_false_iff_eq, ne_eq, Decidable.not_not, Bool.and_eq_true, Bool.and_eq_false_imp, Bool.or_eq_true, Bool.or_eq_false_iff, Bool.not_eq_true, Int.not_lt, Int.not_le, ge_iff_le, gt_iff_lt] at h2)
      exfalso; omega
  ·
    (try simp only [Bool.not_eq_true', Bool.not_eq_false', decide_eq_true_eq, decide_eq_false_iff_not, beq_iff_eq, bne_iff_ne, beq_eq_false_iff_ne, bne_eq_false_iff_eq, ne_eq, Decidable.not_not, Bool.and_eq_true, Bool.and_eq_false_imp, Bool.or_eq_true, Bool.or_eq_false_iff, Bool.not_eq_true, Int.not_lt, Int.not_le, ge_iff_le, gt_iff_lt] at h1)
    exfalso; omega

set_option maxRecDepth 100000 in
set_option maxHeartbeats 4000000 in
theorem szSh_sns_A (x : Int) (y : Int) (z : Int) (A : List Int) (C : List Int) (n : Nat) (hl : n < A.length) (hm : A.length ≤ 9223372036854775807) (hn : n ≤ 1048576) : Sound Try.prog 15 [.agg #[vI x, vI y, vI z, vS 0 A.length, .slice none 0 0, vS 1 C.length], vN n] [some ⟨nums A, 3, false, false⟩, some ⟨nums C, 3, false, false⟩] (vI (-1)) [some ⟨nums A, 3, false, false⟩, some ⟨nums C, 3, false, false⟩] := by
  refine sound_intro (C := cx) Try.func15 rfl (by kernel_rfl) fun hcl => ?_
  refine cSeq ?_
  refine cReg ?_
  refine segEnd [1, 2] (T1 := (mkT 24 [(1, vN n), (2, vP 2 0)])) (H1 := [some ⟨nums A, 3, false, false⟩, some ⟨nums C, 3, false, false⟩, rB [vI x, vI y, vI z, vS 0 A.length, .slice none 0 0, vS 1 C.length] 24]) (by kernel_rfl) ?_
  refine kSeq ?_
  refine cSeq ?_
  refine cReg ?_
  refine segH 3 (T1 := (mkT 24 [(1, vN n), (2, vP 2 0), (5, vP 2 3), (6, vS 0 A.length), (7, vN n)])) (by kernel_rfl) ?_
  refine rCall (v := vI (-1)) (args := [vS 0 A.length, vN n]) (by kernel_rfl) rfl (by kernel_rfl) (Sound.lay0 [0] (szI_G A n (by first | omega | assumption | (simp; done) | (simp; omega)) (by first | assumption | omega | rfl | decide | exact HeapL.list _ _ _ _ | exact HeapL.nil _ _ _ | exact HeapL.all _ _ _ | (apply HeapL.lt64 <;> assumption) | (repeat' (first | assumption | apply or_lt64 | apply and_lt64 | apply andn_lt64 | apply pow_lt64 | (apply HeapL.lt64 <;> assumption)))) (by first | omega | assumption | decide)) ⟨rdF false (flatNums _ _ _ _) rfl rfl, trivial⟩ rfl ⟨clF (flatNums _ _ _ _), trivial⟩ rfl (by first | rfl | simp [mpV, mpA, mpS, mpP, renId, shift]) rfl) ?_
  refine segEndH [1, 2] (T1 := (mkT 24 [(1, vI (-1)), (2, vP 2 0)])) (by kernel_rfl) ?_
  refine kSeq ?_
  refine cSeq ?_
  refine cSeq ?_
  refine cReg ?_
  refine segEndH [1, 2, 10] (T1 := (mkT 24 [(1, vI (-1)), (2, vP 2 0), (10, .bool true)])) (by kernel_rfl) ?_
  refine kSeq ?_
  refine cTrue (by kernel_rfl) ?_
  refine cSeq ?_
  refine cReg ?_
  refine segEndH [4] (T1 := (mkT 24 [(4, vI (-1))])) (by kernel_rfl) ?_
  refine kSeq ?_
  refine cRet ?_
  refine kSeqR ?_
  -- end
  exact endQ (Or.inr rfl) (l := [vI (-1)]) [rB [vI x, vI y, vI z, vS 0 A.length, .slice none 0 0, vS 1 C.length] 24] (by kernel_rfl) (by first | rfl | kernel_rfl) rfl rfl hcl rfl

set_option maxRecDepth 100000 in
set_option maxHeartbeats 4000000 in
theorem szSh_sns_C (x : Int) (y : Int) (z : Int) (A : List Int) (C : List Int) (n : Nat) (hl0 : A.length ≤ n) (hl : n - A.length < C.length) (hm : C.length ≤ 9223372036854775807) (hn : n ≤ 1048576) : Sound Try.prog 15 [.agg #[vI x, vI y, vI z, vS 0 A.length, .slice none 0 0, vS 1 C.length], vN n] [some ⟨nums A, 3, false, false⟩, some ⟨nums C, 3, false, false⟩] (vI (-1)) [some ⟨nums A, 3, false, false⟩, some ⟨nums C, 3, false, false⟩] := by
  refine sound_intro (C := cx) Try.func15 rfl (by kernel_rfl) fun hcl => ?_
  refine cSeq ?_
  refine cReg ?_
  refine segEnd [1, 2] (T1 := (mkT 24 [(1, vN n), (2, vP 2 0)])) (H1 := [some ⟨nums A, 3, false, false⟩, some ⟨nums C, 3, false, false⟩, rB [vI x, vI y, vI z, vS 0 A.length, .slice none 0 0, vS 1 C.length] 24]) (by kernel_rfl) ?_
  refine kSeq ?_
  refine cSeq ?_
  refine cReg ?_
  refine segH 3 (T1 := (mkT 24 [(1, vN n), (2, vP 2 0), (5, vP 2 3), (6, vS 0 A.length), (7, vN n)])) (by kernel_rfl) ?_
  refine rCall (v := vN (n - A.length)) (args := [vS 0 A.length, vN n]) (by kernel_rfl) rfl (by kernel_rfl) (Sound.lay0 [0] (szI_S A n (by first | omega | assumption | (simp; done) | (simp; omega)) (by first | omega | assumption | decide)) ⟨rdF false (flatNums _ _ _ _) rfl rfl, trivial⟩ rfl ⟨clF (flatNums _ _ _ _), trivial⟩ rfl (by first | rfl | simp [mpV, mpA, mpS, mpP, renId, shift]) rfl) ?_
  refine segEndH [1, 2] (T1 := (mkT 24 [(1, vN (n - A.length)), (2, vP 2 0)])) (by kernel_rfl) ?_
  refine kSeq ?_
  refine cSeq ?_
  refine cSeq ?_
  refine cReg ?_
  refine segEndH [1, 2, 10] (T1 := (mkT 24 [(1, vN (n - A.length)), (2, vP 2 0), (10, .bool (decide (((n - A.length : Nat) : Int) < 0)))])) (by kernel_rfl) ?_
  refine kSeq ?_
  cases h1 : (decide (((n - A.length : Nat) : Int) < 0) : Bool)
  ·
    (try simp only [Bool.not_eq_true', Bool.not_eq_false', decide_eq_true_eq, decide_eq_false_iff_not, beq_iff_eq, bne_iff_ne, beq_eq_false_iff_ne, bne_eq_false_iff_eq, ne_eq, Decidable.not_not, Bool.and_eq_true, Bool.and_eq_false_imp, Bool.or_eq_true, Bool.or_eq_false_iff, Bool.not_eq_true, Int.not_lt, Int.not_le, ge_iff_le, gt_iff_lt] at h1)
    refine cFalse (by kernel_rfl) ?_
    refine cSkip ?_
    refine kSeq ?_
    refine cSeq ?_
    refine cReg ?_
    refine segH 3 (T1 := (mkT 24 [(1, vN (n - A.length)), (2, vP 2 0), (10, .bool false), (11, vP 2 4), (12, .slice none 0 0), (13, vN (n - A.length))])) (by kernel_rfl) ?_
    refine rCall (v := vN (n - A.length)) (args := [.slice none 0 0, vN (n - A.length)]) (by kernel_rfl) rfl (by kernel_rfl) (Sound.lay0 [] (szI_N (n - A.length) (by first | omega | assumption | decide)) trivial rfl trivial rfl (by first | rfl | simp [mpV, mpA, mpS, mpP, renId, shift]) rfl) ?_
    refine segEndH [1, 2] (T1 := (mkT 24 [(1, vN (n - A.length)), (2, vP 2 0)])) (by kernel_rfl) ?_
    refine kSeq ?_
    refine cSeq ?_
    refine cSeq ?_
    refine cReg ?_
    refine segEndH [1, 2, 16] (T1 := (mkT 24 [(1, vN (n - A.length)), (2, vP 2 0), (16, .bool (decide (((n - A.length : Nat) : Int) < 0)))])) (by kernel_rfl) ?_
    refine kSeq ?_
    cases h2 : (decide (((n - A.length : Nat) : Int) < 0) : Bool)
    ·
      (try simp only [Bool.not_eq_true', Bool.not_eq_false', decide_eq_true_eq, decide_eq_false_iff_not, beq_iff_eq, bne_iff_ne, beq_eq_false_iff_ne, bne_eq_false_iff_eq, ne_eq, Decidable.not_not, Bool.and_eq_true, Bool.and_eq_false_imp, Bool.or_eq_true, Bool.or_eq_false_iff, Bool.not_eq_true, Int.not_lt, Int.not_le, ge_iff_le, gt_iff_lt] at h2)
      refine cFalse (by kernel_rfl) ?_
      refine cSkip ?_
      refine kSeq ?_
      refine cSeq ?_
      refine cReg ?_
      refine segH 3 (T1 := (mkT 24 [(1, vN (n - A.length)), (2, vP 2 0), (16, .bool false), (17, vP 2 5), (18, vS 1 C.length), (19, vN (n - A.length))])) (by kernel_rfl) ?_
      refine rCall (v := vI (-1)) (args := [vS 1 C.length, vN (n - A.length)]) (by kernel_rfl) rfl (by kernel_rfl) (Sound.lay0 [1] (szI_G C (n - A.length) (by first | omega | assumption | (simp; done) | (simp; omega)) (by first | assumption | omega | rfl | decide | exact HeapL.list _ _ _ _ | exact HeapL.nil _ _ _ | exact HeapL.all _ _ _ | (apply HeapL.lt64 <;> assumption) | (repeat' (first | assumption | apply or_lt64 | apply and_lt64 | apply andn_lt64 | apply pow_lt64 | (apply HeapL.lt64 <;> assumption)))) (by first | omega | assumption | decide)) ⟨rdF false (flatNums _ _ _ _) rfl rfl, trivial⟩ rfl ⟨clF (flatNums _ _ _ _), trivial⟩ rfl (by first | rfl | simp [mpV, mpA, mpS, mpP, renId, shift]) rfl) ?_
      refine segEndH [1] (T1 := (mkT 24 [(1, vI (-1))])) (by kernel_rfl) ?_
      refine kSeq ?_
      refine cSeq ?_
      refine cSeq ?_
      refine cReg ?_
      refine segEndH [1, 22] (T1 := (mkT 24 [(1, vI (-1)), (22, .bool true)])) (by kernel_rfl) ?_
      refine kSeq ?_
      refine cTrue (by kernel_rfl) ?_
      refine cSeq ?_
      refine cReg ?_
      refine segEndH [4] (T1 := (mkT 24 [(4, vI (-1))])) (by kernel_rfl) ?_
      refine kSeq ?_
      refine cRet ?_
      refine kSeqR ?_
      -- end
      exact endQ (Or.inr rfl) (l := [vI (-1)]) [rB [vI x, vI y, vI z, vS 0 A.length, .slice none 0 0, vS 1 C.length] 24] (by kernel_rfl) (by first | rfl | kernel_rfl) rfl rfl hcl rfl
    ·
      (try simp only [Bool.not_eq_true', Bool.not_eq_false', decide_eq_true_eq, decide_eq_false_iff_not, beq_iff_eq, bne_iff_ne, beq_eq_false_iff_ne, bne_eq_false_iff_eq, ne_eq, Decidable.not_not, Bool.and_eq_true, Bool.and_eq_false_imp, Bool.or_eq_true, Bool.or_eq_false_iff, Bool.not_eq_true, Int.not_lt, Int.not_le, ge_iff_le, gt_iff_lt] at h2)
      exfalso; omega
  ·
    (try simp only [Bool.not_eq_true', Bool.not_eq_false', decide_eq_true_eq, decide_eq_false_iff_not, beq_iff_eq, bne_iff_ne, beq_eq_false_iff_ne, bne_eq_false_iff_eq, ne_eq, Decidable.not_not, Bool.and_eq_true, Bool.and_eq_false_imp, Bool.or_eq_true, Bool.or_eq_false_iff, Bool.not_eq_true, Int.not_lt, Int.not_le, ge_iff_le, gt_iff_lt] at h1)
    exfalso; omega

set_option maxRecDepth 100000 in
set_option maxHeartbeats 4000000 in
theorem toSh_sns (x : Int) (y : Int) (z : Int) (A : List Int) (C : List Int) (hA : A.length ≤ 1048576) (hC : C.length ≤ 1048576) : Sound Try.prog 17 [.agg #[vI x, vI y, vI z, vS 0 A.length, .slice none 0 0, vS 1 C.length]] [some ⟨nums A, 3, false, false⟩, some ⟨nums C, 3, false, false⟩] (.agg #[vI x, vI y, vI z, vS 2 A.length, vS 3 0, vS 4 C.length]) [some ⟨nums A, 3, false, false⟩, some ⟨nums C, 3, false, false⟩, some ⟨nums A, 3, false, true⟩, some ⟨nums ([] : List Int), 3, false, true⟩, some ⟨nums C, 3, false, true⟩] := by
  refine sound_intro (C := cx) Try.func17 rfl (by kernel_rfl) fun hcl => ?_
  refine cSeq ?_
  refine cReg ?_
  refine segEnd [1, 2] (T1 := (mkT 26 [(1, vP 2 0), (2, vP 3 0)])) (H1 := [some ⟨nums A, 3, false, false⟩, some ⟨nums C, 3, false, false⟩, rB [vI x, vI y, vI z, vS 0 A.length, .slice none 0 0, vS 1 C.length] 24, rB [vI 0, vI 0, vI 0, .slice none 0 0, .slice none 0 0, .slice none 0 0] 27]) (by kernel_rfl) ?_
  refine kSeq ?_
  refine cSeq ?_
  refine cReg ?_
  refine segEnd [1, 2, 3] (T1 := (mkT 26 [(1, vP 2 0), (2, vP 3 0), (3, vP 4 0)])) (H1 := [some ⟨nums A, 3, false, false⟩, some ⟨nums C, 3, false, false⟩, rB [vI x, vI y, vI z, vS 0 A.length, .slice none 0 0, vS 1 C.length] 24, rB [vI 0, vI 0, vI 0, .slice none 0 0, .slice none 0 0, .slice none 0 0] 27, rB [vI 0, vI 0, vI 0, .slice none 0 0, .slice none 0 0, .slice none 0 0] 27]) (by kernel_rfl) ?_
  refine kSeq ?_
  refine cSeq ?_
  refine cReg ?_
  refine segEnd [1, 2, 3] (T1 := (mkT 26 [(1, vP 2 0), (2, vP 3 0), (3, vP 4 0)])) (H1 := [some ⟨nums A, 3, false, false⟩, some ⟨nums C, 3, false, false⟩, rB [vI x, vI y, vI z, vS 0 A.length, .slice none 0 0, vS 1 C.length] 24, rB [vI 0, vI 0, vI 0, .slice none 0 0, .slice none 0 0, .slice none 0 0] 27, rB [vI x, vI 0, vI 0, .slice none 0 0, .slice none 0 0, .slice none 0 0] 27]) (by kernel_rfl) ?_
  refine kSeq ?_
  refine cSeq ?_
  refine cReg ?_
  refine segEnd [1, 2, 3] (T1 := (mkT 26 [(1, vP 2 0), (2, vP 3 0), (3, vP 4 0)])) (H1 := [some ⟨nums A, 3, false, false⟩, some ⟨nums C, 3, false, false⟩, rB [vI x, vI y, vI z, vS 0 A.length, .slice none 0 0, vS 1 C.length] 24, rB [vI 0, vI 0, vI 0, .slice none 0 0, .slice none 0 0, .slice none 0 0] 27, rB [vI x, vI y, vI 0, .slice none 0 0, .slice none 0 0, .slice none 0 0] 27]) (by kernel_rfl) ?_
  refine kSeq ?_
  refine cSeq ?_
  refine cReg ?_
  refine segEnd [1, 2, 3] (T1 := (mkT 26 [(1, vP 2 0), (2, vP 3 0), (3, vP 4 0)])) (H1 := [some ⟨nums A, 3, false, false⟩, some ⟨nums C, 3, false, false⟩, rB [vI x, vI y, vI z, vS 0 A.length, .slice none 0 0, vS 1 C.length] 24, rB [vI 0, vI 0, vI 0, .slice none 0 0, .slice none 0 0, .slice none 0 0] 27, rB [vI x, vI y, vI z, .slice none 0 0, .slice none 0 0, .slice none 0 0] 27]) (by kernel_rfl) ?_
  refine kSeq ?_
  refine cSeq ?_
  refine cReg ?_
  refine segH 2 (T1 := (mkT 26 [(1, vP 2 0), (2, vP 3 0), (3, vP 4 0), (13, vP 2 3), (14, vS 0 A.length)])) (by kernel_rfl) ?_
  refine rCall (v := vS 5 A.length) (args := [vS 0 A.length]) (by kernel_rfl) rfl (by kernel_rfl) (Sound.lay (E := [some ⟨nums A, 3, false, true⟩]) [0] (toI_S A (by first | omega | assumption | (simp; done) | (simp; omega))) ⟨rdF false (flatNums _ _ _ _) rfl rfl, trivial⟩ rfl ⟨clF (flatNums _ _ _ _), trivial⟩ rfl (by first | rfl | simp [mpV, mpA, mpS, mpP, renId, shift]) rfl ⟨enF (flatNums _ _ _ _) (Or.inl rfl), trivial⟩) ?_
  refine segEnd [1, 2, 3] (T1 := (mkT 26 [(1, vP 2 0), (2, vP 3 0), (3, vP 4 0)])) (H1 := [some ⟨nums A, 3, false, false⟩, some ⟨nums C, 3, false, false⟩, rB [vI x, vI y, vI z, vS 0 A.length, .slice none 0 0, vS 1 C.length] 24, rB [vI 0, vI 0, vI 0, .slice none 0 0, .slice none 0 0, .slice none 0 0] 27, rB [vI x, vI y, vI z, vS 5 A.length, .slice none 0 0, .slice none 0 0] 27, some ⟨nums A, 3, false, true⟩]) (by kernel_rfl) ?_
  refine kSeq ?_
  refine cSeq ?_
  refine cReg ?_
  refine segH 2 (T1 := (mkT 26 [(1, vP 2 0), (2, vP 3 0), (3, vP 4 0), (17, vP 2 4), (18, .slice none 0 0)])) (by kernel_rfl) ?_
  refine rCall (v := vS 6 0) (args := [.slice none 0 0]) (by kernel_rfl) rfl (by kernel_rfl) (Sound.lay (E := [some ⟨nums ([] : List Int), 3, false, true⟩]) [] (toI_N) trivial rfl trivial rfl (by first | rfl | simp [mpV, mpA, mpS, mpP, renId, shift]) rfl ⟨enF (flatNums _ _ _ _) (Or.inl rfl), trivial⟩) ?_
  refine segEnd [1, 2, 3] (T1 := (mkT 26 [(1, vP 2 0), (2, vP 3 0), (3, vP 4 0)])) (H1 := [some ⟨nums A, 3, false, false⟩, some ⟨nums C, 3, false, false⟩, rB [vI x, vI y, vI z, vS 0 A.length, .slice none 0 0, vS 1 C.length] 24, rB [vI 0, vI 0, vI 0, .slice none 0 0, .slice none 0 0, .slice none 0 0] 27, rB [vI x, vI y, vI z, vS 5 A.length, vS 6 0, .slice none 0 0] 27, some ⟨nums A, 3, false, true⟩, some ⟨nums ([] : List Int), 3, false, true⟩]) (by kernel_rfl) ?_
  refine kSeq ?_
  refine cSeq ?_
  refine cReg ?_
  refine segH 2 (T1 := (mkT 26 [(1, vP 2 0), (2, vP 3 0), (3, vP 4 0), (21, vP 2 5), (22, vS 1 C.length)])) (by kernel_rfl) ?_
  refine rCall (v := vS 7 C.length) (args := [vS 1 C.length]) (by kernel_rfl) rfl (by kernel_rfl) (Sound.lay (E := [some ⟨nums C, 3, false, true⟩]) [1] (toI_S C (by first | omega | assumption | (simp; done) | (simp; omega))) ⟨rdF false (flatNums _ _ _ _) rfl rfl, trivial⟩ rfl ⟨clF (flatNums _ _ _ _), trivial⟩ rfl (by first | rfl | simp [mpV, mpA, mpS, mpP, renId, shift]) rfl ⟨enF (flatNums _ _ _ _) (Or.inl rfl), trivial⟩) ?_
  refine segEnd [2, 3] (T1 := (mkT 26 [(2, vP 3 0), (3, vP 4 0)])) (H1 := [some ⟨nums A, 3, false, false⟩, some ⟨nums C, 3, false, false⟩, rB [vI x, vI y, vI z, vS 0 A.length, .slice none 0 0, vS 1 C.length] 24, rB [vI 0, vI 0, vI 0, .slice none 0 0, .slice none 0 0, .slice none 0 0] 27, rB [vI x, vI y, vI z, vS 5 A.length, vS 6 0, vS 7 C.length] 27, some ⟨nums A, 3, false, true⟩, some ⟨nums ([] : List Int), 3, false, true⟩, some ⟨nums C, 3, false, true⟩]) (by kernel_rfl) ?_
  refine kSeq ?_
  refine cSeq ?_
  refine cReg ?_
  refine segEnd [2] (T1 := (mkT 26 [(2, vP 3 0)])) (H1 := [some ⟨nums A, 3, false, false⟩, some ⟨nums C, 3, false, false⟩, rB [vI x, vI y, vI z, vS 0 A.length, .slice none 0 0, vS 1 C.length] 24, rB [vI x, vI y, vI z, vS 5 A.length, vS 6 0, vS 7 C.length] 27, rB [vI x, vI y, vI z, vS 5 A.length, vS 6 0, vS 7 C.length] 27, some ⟨nums A, 3, false, true⟩, some ⟨nums ([] : List Int), 3, false, true⟩, some ⟨nums C, 3, false, true⟩]) (by kernel_rfl) ?_
  refine kSeq ?_
  refine cRet ?_
  -- end
  exact endF (Or.inr rfl) (l := [.agg #[vI x, vI y, vI z, vS 5 A.length, vS 6 0, vS 7 C.length]]) [0, 1, 5, 6, 7] (by kernel_rfl) (by first | rfl | simp [packR, mpV, mpA, mpS, mpP, renId]) ⟨rrF (flatNums _ _ _ _) rfl, ⟨rrF (flatNums _ _ _ _) rfl, ⟨rrF (flatNums _ _ _ _) rfl, ⟨rrF (flatNums _ _ _ _) rfl, ⟨rrF (flatNums _ _ _ _) rfl, trivial⟩⟩⟩⟩⟩ rfl rfl

set_option maxRecDepth 100000 in
set_option maxHeartbeats 4000000 in
theorem szSh_snn (x : Int) (y : Int) (z : Int) (A : List Int) (n : Nat) (hl : A.length ≤ n) (hn : n ≤ 1048576) : Sound Try.prog 15 [.agg #[vI x, vI y, vI z, vS 0 A.length, .slice none 0 0, .slice none 0 0], vN n] [some ⟨nums A, 3, false, false⟩] (vN (n - A.length)) [some ⟨nums A, 3, false, false⟩] := by
  refine sound_intro (C := cx) Try.func15 rfl (by kernel_rfl) fun hcl => ?_
  refine cSeq ?_
  refine cReg ?_
  refine segEnd [1, 2] (T1 := (mkT 24 [(1, vN n), (2, vP 1 0)])) (H1 := [some ⟨nums A, 3, false, false⟩, rB [vI x, vI y, vI z, vS 0 A.length, .slice none 0 0, .slice none 0 0] 24]) (by kernel_rfl) ?_
  refine kSeq ?_
  refine cSeq ?_
  refine cReg ?_
  refine segH 3 (T1 := (mkT 24 [(1, vN n), (2, vP 1 0), (5, vP 1 3), (6, vS 0 A.length), (7, vN n)])) (by kernel_rfl) ?_
  refine rCall (v := vN (n - A.length)) (args := [vS 0 A.length, vN n]) (by kernel_rfl) rfl (by kernel_rfl) (Sound.lay0 [0] (szI_S A n (by first | omega | assumption | (simp; done) | (simp; omega)) (by first | omega | assumption | decide)) ⟨rdF false (flatNums _ _ _ _) rfl rfl, trivial⟩ rfl ⟨clF (flatNums _ _ _ _), trivial⟩ rfl (by first | rfl | simp [mpV, mpA, mpS, mpP, renId, shift]) rfl) ?_
  refine segEndH [1, 2] (T1 := (mkT 24 [(1, vN (n - A.length)), (2, vP 1 0)])) (by kernel_rfl) ?_
  refine kSeq ?_
  refine cSeq ?_
  refine cSeq ?_
  refine cReg ?_
  refine segEndH [1, 2, 10] (T1 := (mkT 24 [(1, vN (n - A.length)), (2, vP 1 0), (10, .bool (decide (((n - A.length : Nat) : Int) < 0)))])) (by kernel_rfl) ?_
  refine kSeq ?_
  cases h1 : (decide (((n - A.length : Nat) : Int) < 0) : Bool)
  ·
    (try simp only [Bool.not_eq_true', Bool.not_eq_false', decide_eq_true_eq, decide_eq_false_iff_not, beq_iff_eq, bne_iff_ne, beq_eq_false_iff_ne, bne_eq_false_iff_eq, ne_eq, Decidable.not_not, Bool.and_eq_true, Bool.and_eq_false_imp, Bool.or_eq_true, Bool.or_eq_false_iff, Bool.not_eq_true, Int.not_lt, Int.not_le, ge_iff_le, gt_iff_lt] at h1)
    refine cFalse (by kernel_rfl) ?_
    refine cSkip ?_
    refine kSeq ?_
    refine cSeq ?_
    refine cReg ?_
    refine segH 3 (T1 := (mkT 24 [(1, vN (n - A.length)), (2, vP 1 0), (10, .bool false), (11, vP 1 4), (12, .slice none 0 0), (13, vN (n - A.length))])) (by kernel_rfl) ?_
    refine rCall (v := vN (n - A.length)) (args := [.slice none 0 0, vN (n - A.length)]) (by kernel_rfl) rfl (by kernel_rfl) (Sound.lay0 [] (szI_N (n - A.length) (by first | omega | assumption | decide)) trivial rfl trivial rfl (by first | rfl | simp [mpV, mpA, mpS, mpP, renId, shift]) rfl) ?_
    refine segEndH [1, 2] (T1 := (mkT 24 [(1, vN (n - A.length)), (2, vP 1 0)])) (by kernel_rfl) ?_
    refine kSeq ?_
    refine cSeq ?_
    refine cSeq ?_
    refine cReg ?_
    refine segEndH [1, 2, 16] (T1 := (mkT 24 [(1, vN (n - A.length)), (2, vP 1 0), (16, .bool (decide (((n - A.length : Nat) : Int) < 0)))])) (by kernel_rfl) ?_
    refine kSeq ?_
    cases h2 : (decide (((n - A.length : Nat) : Int) < 0) : Bool)
    ·
      (try simp only [Bool.not_eq_true', Bool.not_eq_false', decide_eq_true_eq, decide_eq_false_iff_not, beq_iff_eq, bne_iff_ne, beq_eq_false_iff_ne, bne_eq_false_iff_eq, ne_eq, Decidable.not_not, Bool.and_eq_true, Bool.and_eq_false_imp, Bool.or_eq_true, Bool.or_eq_false_iff, Bool.not_eq_true, Int.not_lt, Int.not_le, ge_iff_le, gt_iff_lt] at h2)
      refine cFalse (by kernel_rfl) ?_
      refine cSkip ?_
      refine kSeq ?_
      refine cSeq ?_
      refine cReg ?_
      refine segH 3 (T1 := (mkT 24 [(1, vN (n - A.length)), (2, vP 1 0), (16, .bool false), (17, vP 1 5), (18, .slice none 0 0), (19, vN (n - A.length))])) (by kernel_rfl) ?_
      refine rCall (v := vN (n - A.length)) (args := [.slice none 0 0, vN (n - A.length)]) (by kernel_rfl) rfl (by kernel_rfl) (Sound.lay0 [] (szI_N (n - A.length) (by first | omega | assumption | decide)) trivial rfl trivial rfl (by first | rfl | simp [mpV, mpA, mpS, mpP, renId, shift]) rfl) ?_
      refine segEndH [1] (T1 := (mkT 24 [(1, vN (n - A.length))])) (by kernel_rfl) ?_
      refine kSeq ?_
      refine cSeq ?_
      refine cSeq ?_
      refine cReg ?_
      refine segEndH [1, 22] (T1 := (mkT 24 [(1, vN (n - A.length)), (22, .bool (decide (((n - A.length : Nat) : Int) < 0)))])) (by kernel_rfl) ?_
      refine kSeq ?_
      cases h3 : (decide (((n - A.length : Nat) : Int) < 0) : Bool)
      ·
        (try simp only [Bool.not_eq_true', Bool.not_eq_false', decide_eq_true_eq, decide_eq_false_iff_not, beq_iff_eq, bne_iff_ne, beq_eq_false_iff_ne, bne_eq_false_iff_eq, ne_eq, Decidable.not_not, Bool.and_eq_true, Bool.and_eq_false_imp, Bool.or_eq_true, Bool.or_eq_false_iff, Bool.not_eq_true, Int.not_lt, Int.not_le, ge_iff_le, gt_iff_lt] at h3)
        refine cFalse (by kernel_rfl) ?_
        refine cSkip ?_
        refine kSeq ?_
        refine cSeq ?_
        refine cReg ?_
        refine segEndH [4] (T1 := (mkT 24 [(4, vN (n - A.length))])) (by kernel_rfl) ?_
        refine kSeq ?_
        refine cRet ?_
        -- end
        exact endQ (Or.inr rfl) (l := [vN (n - A.length)]) [rB [vI x, vI y, vI z, vS 0 A.length, .slice none 0 0, .slice none 0 0] 24] (by kernel_rfl) (by first | rfl | kernel_rfl) rfl rfl hcl rfl
      ·
        (try simp only [Bool.not_eq_true', Bool.not_eq_false', decide_eq_true_eq, decide_eq_false_iff_not, beq_iff_eq, bne_iff_ne, beq_eq_false_iff_ne, bne_eq_false_iff_eq, ne_eq, Decidable.not_not, Bool.and_eq_true, Bool.and_eq_false_imp, Bool.or_eq_true, Bool.or_eq_false_iff, Bool.not_eq_true, Int.not_lt, Int.not_le, ge_iff_le, gt_iff_lt] at h3)
        exfalso; omega
    ·
      (try simp only [Bool.not_eq_true', Bool.not_eq_false', decide_eq_true_eq, decide_eq_false_iff_not, beq_iff_eq, bne_iff_ne, beq_eq_false_iff_ne, bne_eq_false_iff_eq, ne_eq, Decidable.not_not, Bool.and_eq_true, Bool.and_eq_false_imp, Bool.or_eq_true, Bool.or_eq_false_iff, Bool.not_eq_true, Int.not_lt, Int.not_le, ge_iff_le, gt_iff_lt] at h2)
      exfalso; omega
  ·
    (try simp only [Bool.not_eq_true', Bool.not_eq_false', decide_eq_true_eq, decide_eq_false_iff_not, beq_iff_eq, bne_iff_ne, beq_eq_false_iff_ne, bne_eq_false_iff_eq, ne_eq, Decidable.not_not, Bool.and_eq_true, Bool.and_eq_false_imp, Bool.or_eq_true, Bool.or_eq_false_iff, Bool.not_eq_true, Int.not_lt, Int.not_le, ge_iff_le, gt_iff_lt] at h1)
    exfalso; omega

set_option maxRecDepth 100000 in
set_option maxHeartbeats 4000000 in
theorem szSh_snn_A (x : Int) (y : Int) (z : Int) (A : List Int) (n : Nat) (hl : n < A.length) (hm : A.length ≤ 9223372036854775807) (hn : n ≤ 1048576) : Sound Try.prog 15 [.agg #[vI x, vI y, vI z, vS 0 A.length, .slice none 0 0, .slice none 0 0], vN n] [some ⟨nums A, 3, false, false⟩] (vI (-1)) [some ⟨nums A, 3, false, false⟩] := by
  refine sound_intro (C := cx) Try.func15 rfl (by kernel_rfl) fun hcl => ?_
  refine cSeq ?_
  refine cReg ?_
  refine segEnd [1, 2] (T1 := (mkT 24 [(1, vN n), (2, vP 1 0)])) (H1 := [some ⟨nums A, 3, false, false⟩, rB [vI x, vI y, vI z, vS 0 A.length, .slice none 0 0, .slice none 0 0] 24]) (by kernel_rfl) ?_
  refine kSeq ?_
  refine cSeq ?_
  refine cReg ?_
  refine segH 3 (T1 := (mkT 24 [(1, vN n), (2, vP 1 0), (5, vP 1 3), (6, vS 0 A.length), (7, vN n)])) (by kernel_rfl) ?_
  refine rCall (v := vI (-1)) (args := [vS 0 A.length, vN n]) (by kernel_rfl) rfl (by kernel_rfl) (Sound.lay0 [0] (szI_G A n (by first | omega | assumption | (simp; done) | (simp; omega)) (by first | assumption | omega | rfl | decide | exact HeapL.list _ _ _ _ | exact HeapL.nil _ _ _ | exact HeapL.all _ _ _ | (apply HeapL.lt64 <;> assumption) | (repeat' (first | assumption | apply or_lt64 | apply and_lt64 | apply andn_lt64 | apply pow_lt64 | (apply HeapL.lt64 <;> assumption)))) (by first | omega | assumption | decide)) ⟨rdF false (flatNums _ _ _ _) rfl rfl, trivial⟩ rfl ⟨clF (flatNums _ _ _ _), trivial⟩ rfl (by first | rfl | simp [mpV, mpA, mpS, mpP, renId, shift]) rfl) ?_
  refine segEndH [1, 2] (T1 := (mkT 24 [(1, vI (-1)), (2, vP 1 0)])) (by kernel_rfl) ?_
  refine kSeq ?_
  refine cSeq ?_
  refine cSeq ?_
  refine cReg ?_
  refine segEndH [1, 2, 10] (T1 := (mkT 24 [(1, vI (-1)), (2, vP 1 0), (10, .bool true)])) (by kernel_rfl) ?_
  refine kSeq ?_
  refine cTrue (by kernel_rfl) ?_
  refine cSeq ?_
  refine cReg ?_
  refine segEndH [4] (T1 := (mkT 24 [(4, vI (-1))])) (by kernel_rfl) ?_
  refine kSeq ?_
  refine cRet ?_
  refine kSeqR ?_
  -- end
  exact endQ (Or.inr rfl) (l := [vI (-1)]) [rB [vI x, vI y, vI z, vS 0 A.length, .slice none 0 0, .slice none 0 0] 24] (by kernel_rfl) (by first | rfl | kernel_rfl) rfl rfl hcl rfl

set_option maxRecDepth 100000 in
set_option maxHeartbeats 4000000 in
theorem toSh_snn (x : Int) (y : Int) (z : Int) (A : List Int) (hA : A.length ≤ 1048576) : Sound Try.prog 17 [.agg #[vI x, vI y, vI z, vS 0 A.length, .slice none 0 0, .slice none 0 0]] [some ⟨nums A, 3, false, false⟩] (.agg #[vI x, vI y, vI z, vS 1 A.length, vS 2 0, vS 3 0]) [some ⟨nums A, 3, false, false⟩, some ⟨nums A, 3, false, true⟩, some ⟨nums ([] : List Int), 3, false, true⟩, some ⟨nums ([] : List Int), 3, false, true⟩] := by
  refine sound_intro (C := cx) Try.func17 rfl (by kernel_rfl) fun hcl => ?_
  refine cSeq ?_
  refine cReg ?_
  refine segEnd [1, 2] (T1 := (mkT 26 [(1, vP 1 0), (2, vP 2 0)])) (H1 := [some ⟨nums A, 3, false, false⟩, rB [vI x, vI y, vI z, vS 0 A.length, .slice none 0 0, .slice none 0 0] 24, rB [vI 0, vI 0, vI 0, .slice none 0 0, .slice none 0 0, .slice none 0 0] 27]) (by kernel_rfl) ?_
  refine kSeq ?_
  refine cSeq ?_
  refine cReg ?_
  refine segEnd [1, 2, 3] (T1 := (mkT 26 [(1, vP 1 0), (2, vP 2 0), (3, vP 3 0)])) (H1 := [some ⟨nums A, 3, false, false⟩, rB [vI x, vI y, vI z, vS 0 A.length, .slice none 0 0, .slice none 0 0] 24, rB [vI 0, vI 0, vI 0, .slice none 0 0, .slice none 0 0, .slice none 0 0] 27, rB [vI 0, vI 0, vI 0, .slice none 0 0, .slice none 0 0, .slice none 0 0] 27]) (by kernel_rfl) ?_
  refine kSeq ?_
  refine cSeq ?_
  refine cReg ?_
  refine segEnd [1, 2, 3] (T1 := (mkT 26 [(1, vP 1 0), (2, vP 2 0), (3, vP 3 0)])) (H1 := [some ⟨nums A, 3, false, false⟩, rB [vI x, vI y, vI z, vS 0 A.length, .slice none 0 0, .slice none 0 0] 24, rB [vI 0, vI 0, vI 0, .slice none 0 0, .slice none 0 0, .slice none 0 0] 27, rB [vI x, vI 0, vI 0, .slice none 0 0, .slice none 0 0, .slice none 0 0] 27]) (by kernel_rfl) ?_
  refine kSeq ?_
  refine cSeq ?_
  refine cReg ?_
  refine segEnd [1, 2, 3] (T1 := (mkT 26 [(1, vP 1 0), (2, vP 2 0), (3, vP 3 0)])) (H1 := [some ⟨nums A, 3, false, false⟩, rB [vI x, vI y, vI z, vS 0 A.length, .slice none 0 0, .slice none 0 0] 24, rB [vI 0, vI 0, vI 0, .slice none 0 0, .slice none 0 0, .slice none 0 0] 27, rB [vI x, vI y, vI 0, .slice none 0 0, .slice none 0 0, .slice none 0 0] 27]) (by kernel_rfl) ?_
  refine kSeq ?_
  refine cSeq ?_
  refine cReg ?_
  refine segEnd [1, 2, 3] (T1 := (mkT 26 [(1, vP 1 0), (2, vP 2 0), (3, vP 3 0)])) (H1 := [some ⟨nums A, 3, false, false⟩, rB [vI x, vI y, vI z, vS 0 A.length, .slice none 0 0, .slice none 0 0] 24, rB [vI 0, vI 0, vI 0, .slice none 0 0, .slice none 0 0, .slice none 0 0] 27, rB [vI x, vI y, vI z, .slice none 0 0, .slice none 0 0, .slice none 0 0] 27]) (by kernel_rfl) ?_
  refine kSeq ?_
  refine cSeq ?_
  refine cReg ?_
  refine segH 2 (T1 := (mkT 26 [(1, vP 1 0), (2, vP 2 0), (3, vP 3 0), (13, vP 1 3), (14, vS 0 A.length)])) (by kernel_rfl) ?_
  refine rCall (v := vS 4 A.length) (args := [vS 0 A.length]) (by kernel_rfl) rfl (by kernel_rfl) (Sound.lay (E := [some ⟨nums A, 3, false, true⟩]) [0] (toI_S A (by first | omega | assumption | (simp; done) | (simp; omega))) ⟨rdF false (flatNums _ _ _ _) rfl rfl, trivial⟩ rfl ⟨clF (flatNums _ _ _ _), trivial⟩ rfl (by first | rfl | simp [mpV, mpA, mpS, mpP, renId, shift]) rfl ⟨enF (flatNums _ _ _ _) (Or.inl rfl), trivial⟩) ?_
  refine segEnd [1, 2, 3] (T1 := (mkT 26 [(1, vP 1 0), (2, vP 2 0), (3, vP 3 0)])) (H1 := [some ⟨nums A, 3, false, false⟩, rB [vI x, vI y, vI z, vS 0 A.length, .slice none 0 0, .slice none 0 0] 24, rB [vI 0, vI 0, vI 0, .slice none 0 0, .slice none 0 0, .slice none 0 0] 27, rB [vI x, vI y, vI z, vS 4 A.length, .slice none 0 0, .slice none 0 0] 27, some ⟨nums A, 3, false, true⟩]) (by kernel_rfl) ?_
  refine kSeq ?_
  refine cSeq ?_
  refine cReg ?_
  refine segH 2 (T1 := (mkT 26 [(1, vP 1 0), (2, vP 2 0), (3, vP 3 0), (17, vP 1 4), (18, .slice none 0 0)])) (by kernel_rfl) ?_
  refine rCall (v := vS 5 0) (args := [.slice none 0 0]) (by kernel_rfl) rfl (by kernel_rfl) (Sound.lay (E := [some ⟨nums ([] : List Int), 3, false, true⟩]) [] (toI_N) trivial rfl trivial rfl (by first | rfl | simp [mpV, mpA, mpS, mpP, renId, shift]) rfl ⟨enF (flatNums _ _ _ _) (Or.inl rfl), trivial⟩) ?_
  refine segEnd [1, 2, 3] (T1 := (mkT 26 [(1, vP 1 0), (2, vP 2 0), (3, vP 3 0)])) (H1 := [some ⟨nums A, 3, false, false⟩, rB [vI x, vI y, vI z, vS 0 A.length, .slice none 0 0, .slice none 0 0] 24, rB [vI 0, vI 0, vI 0, .slice none 0 0, .slice none 0 0, .slice none 0 0] 27, rB [vI x, vI y, vI z, vS 4 A.length, vS 5 0, .slice none 0 0] 27, some ⟨nums A, 3, false, true⟩, some ⟨nums ([] : List Int), 3, false, true⟩]) (by kernel_rfl) ?_
  refine kSeq ?_
  refine cSeq ?_
  refine cReg ?_
  refine segH 2 (T1 := (mkT 26 [(1, vP 1 0), (2, vP 2 0), (3, vP 3 0), (21, vP 1 5), (22, .slice none 0 0)])) (by kernel_rfl) ?_
  refine rCall (v := vS 6 0) (args := [.slice none 0 0]) (by kernel_rfl) rfl (by kernel_rfl) (Sound.lay (E := [some ⟨nums ([] : List Int), 3, false, true⟩]) [] (toI_N) trivial rfl trivial rfl (by first | rfl | simp [mpV, mpA, mpS, mpP, renId, shift]) rfl ⟨enF (flatNums _ _ _ _) (Or.inl rfl), trivial⟩) ?_
  refine segEnd [2, 3] (T1 := (mkT 26 [(2, vP 2 0), (3, vP 3 0)])) (H1 := [some ⟨nums A, 3, false, false⟩, rB [vI x, vI y, vI z, vS 0 A.length, .slice none 0 0, .slice none 0 0] 24, rB [vI 0, vI 0, vI 0, .slice none 0 0, .slice none 0 0, .slice none 0 0] 27, rB [vI x, vI y, vI z, vS 4 A.length, vS 5 0, vS 6 0] 27, some ⟨nums A, 3, false, true⟩, some ⟨nums ([] : List Int), 3, false, true⟩, some ⟨nums ([] : List Int), 3, false, true⟩]) (by kernel_rfl) ?_
  refine kSeq ?_
  refine cSeq ?_
  refine cReg ?_
  refine segEnd [2] (T1 := (mkT 26 [(2, vP 2 0)])) (H1 := [some ⟨nums A, 3, false, false⟩, rB [vI x, vI y, vI z, vS 0 A.length, .slice none 0 0, .slice none 0 0] 24, rB [vI x, vI y, vI z, vS 4 A.length, vS 5 0, vS 6 0] 27, rB [vI x, vI y, vI z, vS 4 A.length, vS 5 0, vS 6 0] 27, some ⟨nums A, 3, false, true⟩, some ⟨nums ([] : List Int), 3, false, true⟩, some ⟨nums ([] : List Int), 3, false, true⟩]) (by kernel_rfl) ?_
  refine kSeq ?_
  refine cRet ?_
  -- end
  exact endF (Or.inr rfl) (l := [.agg #[vI x, vI y, vI z, vS 4 A.length, vS 5 0, vS 6 0]]) [0, 4, 5, 6] (by kernel_rfl) (by first | rfl | simp [packR, mpV, mpA, mpS, mpP, renId]) ⟨rrF (flatNums _ _ _ _) rfl, ⟨rrF (flatNums _ _ _ _) rfl, ⟨rrF (flatNums _ _ _ _) rfl, ⟨rrF (flatNums _ _ _ _) rfl, trivial⟩⟩⟩⟩ rfl rfl

set_option maxRecDepth 100000 in
set_option maxHeartbeats 4000000 in
theorem szSh_nss (x : Int) (y : Int) (z : Int) (B : List Int) (C : List Int) (n : Nat) (hl : B.length + C.length ≤ n) (hn : n ≤ 1048576) : Sound Try.prog 15 [.agg #[vI x, vI y, vI z, .slice none 0 0, vS 0 B.length, vS 1 C.length], vN n] [some ⟨nums B, 3, false, false⟩, some ⟨nums C, 3, false, false⟩] (vN (n - B.length - C.length)) [some ⟨nums B, 3, false, false⟩, some ⟨nums C, 3, false, false⟩] := by
  refine sound_intro (C := cx) Try.func15 rfl (by kernel_rfl) fun hcl => ?_
  refine cSeq ?_
  refine cReg ?_
  refine segEnd [1, 2] (T1 := (mkT 24 [(1, vN n), (2, vP 2 0)])) (H1 := [some ⟨nums B, 3, false, false⟩, some ⟨nums C, 3, false, false⟩, rB [vI x, vI y, vI z, .slice none 0 0, vS 0 B.length, vS 1 C.length] 24]) (by kernel_rfl) ?_
  refine kSeq ?_
  refine cSeq ?_
  refine cReg ?_
  refine segH 3 (T1 := (mkT 24 [(1, vN n), (2, vP 2 0), (5, vP 2 3), (6, .slice none 0 0), (7, vN n)])) (by kernel_rfl) ?_
  refine rCall (v := vN n) (args := [.slice none 0 0, vN n]) (by kernel_rfl) rfl (by kernel_rfl) (Sound.lay0 [] (szI_N n (by first | omega | assumption | decide)) trivial rfl trivial rfl (by first | rfl | simp [mpV, mpA, mpS, mpP, renId, shift]) rfl) ?_
  refine segEndH [1, 2] (T1 := (mkT 24 [(1, vN n), (2, vP 2 0)])) (by kernel_rfl) ?_
  refine kSeq ?_
  refine cSeq ?_
  refine cSeq ?_
  refine cReg ?_
  refine segEndH [1, 2, 10] (T1 := (mkT 24 [(1, vN n), (2, vP 2 0), (10, .bool (decide (((n : Nat) : Int) < 0)))])) (by kernel_rfl) ?_
  refine kSeq ?_
  cases h1 : (decide (((n : Nat) : Int) < 0) : Bool)
  ·
    (try simp only [Bool.not_eq_true', Bool.not_eq_false', decide_eq_true_eq, decide_eq_false_iff_not, beq_iff_eq, bne_iff_ne, beq_eq_false_iff_ne, bne_eq_false_iff_eq, ne_eq, Decidable.not_not, Bool.and_eq_true, Bool.and_eq_false_imp, Bool.or_eq_true, Bool.or_eq_false_iff, Bool.not_eq_true, Int.not_lt, Int.not_le, ge_iff_le, gt_iff_lt] at h1)
    refine cFalse (by kernel_rfl) ?_
    refine cSkip ?_
    refine kSeq ?_
    refine cSeq ?_
    refine cReg ?_
    refine segH 3 (T1 := (mkT 24 [(1, vN n), (2, vP 2 0), (10, .bool false), (11, vP 2 4), (12, vS 0 B.length), (13, vN n)])) (by kernel_rfl) ?_
    refine rCall (v := vN (n - B.length)) (args := [vS 0 B.length, vN n]) (by kernel_rfl) rfl (by kernel_rfl) (Sound.lay0 [0] (szI_S B n (by first | omega | assumption | (simp; done) | (simp; omega)) (by first | omega | assumption | decide)) ⟨rdF false (flatNums _ _ _ _) rfl rfl, trivial⟩ rfl ⟨clF (flatNums _ _ _ _), trivial⟩ rfl (by first | rfl | simp [mpV, mpA, mpS, mpP, renId, shift]) rfl) ?_
    refine segEndH [1, 2] (T1 := (mkT 24 [(1, vN (n - B.length)), (2, vP 2 0)])) (by kernel_rfl) ?_
    refine kSeq ?_
    refine cSeq ?_
    refine cSeq ?_
    refine cReg ?_
    refine segEndH [1, 2, 16] (T1 := (mkT 24 [(1, vN (n - B.length)), (2, vP 2 0), (16, .bool (decide (((n - B.length : Nat) : Int) < 0)))])) (by kernel_rfl) ?_
    refine kSeq ?_
    cases h2 : (decide (((n - B.length : Nat) : Int) < 0) : Bool)
    ·
      (try simp only [Bool.not_eq_true', Bool.not_eq_false', decide_eq_true_eq, decide_eq_false_iff_not, beq_iff_eq, bne_iff_ne, beq_eq_false_iff_ne, bne_eq_false_iff_eq, ne_eq, Decidable.not_not, Bool.and_eq_true, Bool.and_eq_false_imp, Bool.or_eq_true, Bool.or_eq_false_iff, Bool.not_eq_true, Int.not_lt, Int.not_le, ge_iff_le, gt_iff_lt] at h2)
      refine cFalse (by kernel_rfl) ?_
      refine cSkip ?_
      refine kSeq ?_
      refine cSeq ?_
      refine cReg ?_
      refine segH 3 (T1 := (mkT 24 [(1, vN (n - B.length)), (2, vP 2 0), (16, .bool false), (17, vP 2 5), (18, vS 1 C.length), (19, vN (n - B.length))])) (by kernel_rfl) ?_
      refine rCall (v := vN ((n - B.length) - C.length)) (args := [vS 1 C.length, vN (n - B.length)]) (by kernel_rfl) rfl (by kernel_rfl) (Sound.lay0 [1] (szI_S C (n - B.length) (by first | omega | assumption | (simp; done) | (simp; omega)) (by first | omega | assumption | decide)) ⟨rdF false (flatNums _ _ _ _) rfl rfl, trivial⟩ rfl ⟨clF (flatNums _ _ _ _), trivial⟩ rfl (by first | rfl | simp [mpV, mpA, mpS, mpP, renId, shift]) rfl) ?_
      refine segEndH [1] (T1 := (mkT 24 [(1, vN ((n - B.length) - C.length))])) (by kernel_rfl) ?_
      refine kSeq ?_
      refine cSeq ?_
      refine cSeq ?_
      refine cReg ?_
      refine segEndH [1, 22] (T1 := (mkT 24 [(1, vN ((n - B.length) - C.length)), (22, .bool (decide ((((n - B.length) - C.length : Nat) : Int) < 0)))])) (by kernel_rfl) ?_
      refine kSeq ?_
      cases h3 : (decide ((((n - B.length) - C.length : Nat) : Int) < 0) : Bool)
      ·
        (try simp only [Bool.not_eq_true', Bool.not_eq_false', decide_eq_true_eq, decide_eq_false_iff_not, beq_iff_eq, bne_iff_ne, beq_eq_false_iff_ne, bne_eq_false_iff_eq, ne_eq, Decidable.not_not, Bool.and_eq_true, Bool.and_eq_false_imp, Bool.or_eq_true, Bool.or_eq_false_iff, Bool.not_eq_true, Int.not_lt, Int.not_le, ge_iff_le, gt_iff_lt] at h3)
        refine cFalse (by kernel_rfl) ?_
        refine cSkip ?_
        refine kSeq ?_
        refine cSeq ?_
        refine cReg ?_
        refine segEndH [4] (T1 := (mkT 24 [(4, vN ((n - B.length) - C.length))])) (by kernel_rfl) ?_
        refine kSeq ?_
        refine cRet ?_
        -- end
        have he0 : ((n - B.length) - C.length : Nat) = n - B.length - C.length := by first | omega | assumption | rfl | (symm; assumption) | (simp_all; done)
        refine endCast (v1 := vN ((n - B.length) - C.length)) (H1 := [some ⟨nums B, 3, false, false⟩, some ⟨nums C, 3, false, false⟩]) (by first | rfl | ((try rw [← he0]); done) | (simp only [← he0]; done)) (by first | rfl | ((try rw [← he0]); done) | (simp only [← he0]; done)) ?_
        exact endQ (Or.inr rfl) (l := [vN ((n - B.length) - C.length)]) [rB [vI x, vI y, vI z, .slice none 0 0, vS 0 B.length, vS 1 C.length] 24] (by kernel_rfl) (by first | rfl | kernel_rfl) rfl rfl hcl rfl
      ·
        (try simp only [Bool.not_eq_true', Bool.not_eq_false', decide_eq_true_eq, decide_eq_false_iff_not, beq_iff_eq, bne_iff_ne, beq_eq_false_iff_ne, bne_eq_false_iff_eq, ne_eq, Decidable.not_not, Bool.and_eq_true, Bool.and_eq_false_imp, Bool.or_eq_true, Bool.or_eq_false_iff, Bool.not_eq_true, Int.not_lt, Int.not_le, ge_iff_le, gt_iff_lt] at h3)
        exfalso; omega
    ·
      (try simp only [Bool.not_eq_true', Bool.not_eq_false', decide_eq_true_eq, decide_eq_false_iff_not, beq_iff_eq, bne_iff_ne, beq_eq_false_iff_ne, bne_eq_false_iff_eq, ne_eq, Decidable.not_not, Bool.and_eq_true, Bool.and_eq_false_imp, Bool.or_eq_true, Bool.or_eq_false_iff, Bool.not_eq_true, Int.not_lt, Int.not_le, ge_iff_le, gt_iff_lt] at h2)
      exfalso; omega
  ·
    (try simp only [Bool.not_eq_true', Bool.not_eq_false', decide_eq_true_eq, decide_eq_false_iff_not, beq_iff_eq, bne_iff_ne, beq_eq_false_iff_ne, bne_eq_false_iff_eq, ne_eq, Decidable.not_not, Bool.and_eq_true, Bool.and_eq_false_imp, Bool.or_eq_true, Bool.or_eq_false_iff, Bool.not_eq_true, Int.not_lt, Int.not_le, ge_iff_le, gt_iff_lt] at h1)
    exfalso; omega

set_option maxRecDepth 100000 in
set_option maxHeartbeats 4000000 in
theorem szSh_nss_B (x : Int) (y : Int) (z : Int) (B : List Int) (C : List Int) (n : Nat) (hl : n < B.length) (hm : B.length ≤ 9223372036854775807) (hn : n ≤ 1048576) : Sound Try.prog 15 [.agg #[vI x, vI y, vI z, .slice none 0 0, vS 0 B.length, vS 1 C.length], vN n] [some ⟨nums B, 3, false, false⟩, some ⟨nums C, 3, false, false⟩] (vI (-1)) [some ⟨nums B, 3, false, false⟩, some ⟨nums C, 3, false, false⟩] := by
  refine sound_intro (C := cx) Try.func15 rfl (by kernel_rfl) fun hcl => ?_
  refine cSeq ?_
  refine cReg ?_
  refine segEnd [1, 2] (T1 := (mkT 24 [(1, vN n), (2, vP 2 0)])) (H1 := [some ⟨nums B, 3, false, false⟩, some ⟨nums C, 3, false, false⟩, rB [vI x, vI y, vI z, .slice none 0 0, vS 0 B.length, vS 1 C.length] 24]) (by kernel_rfl) ?_
  refine kSeq ?_
  refine cSeq ?_
  refine cReg ?_
  refine segH 3 (T1 := (mkT 24 [(1, vN n), (2, vP 2 0), (5, vP 2 3), (6, .slice none 0 0), (7, vN n)])) (by kernel_rfl) ?_
  refine rCall (v := vN n) (args := [.slice none 0 0, vN n]) (by kernel_rfl) rfl (by kernel_rfl) (Sound.lay0 [] (szI_N n (by first | omega | assumption | decide)) trivial rfl trivial rfl (by first | rfl | simp [mpV, mpA, mpS, mpP, renId, shift]) rfl) ?_
  refine segEndH [1, 2] (T1 := (mkT 24 [(1, vN n), (2, vP 2 0)])) (by kernel_rfl) ?_
  refine kSeq ?_
  refine cSeq ?_
  refine cSeq ?_
  refine cReg ?_
  refine segEndH [1, 2, 10] (T1 := (mkT 24 [(1, vN n), (2, vP 2 0), (10, .bool (decide (((n : Nat) : Int) < 0)))])) (by kernel_rfl) ?_
  refine kSeq ?_
  cases h1 : (decide (((n : Nat) : Int) < 0) : Bool)
  ·
    (try simp only [Bool.not_eq_true', Bool.not_eq_false', decide_eq_true_eq, decide_eq_false_iff_not, beq_iff_eq, bne_iff_ne, beq_eq_false_iff_ne, bne_eq_false_iff_eq, ne_eq, Decidable.not_not, Bool.and_eq_true, Bool.and_eq_false_imp, Bool.or_eq_true, Bool.or_eq_false_iff, Bool.not_eq_true, Int.not_lt, Int.not_le, ge_iff_le, gt_iff_lt] at h1)
    refine cFalse (by kernel_rfl) ?_
    refine cSkip ?_
    refine kSeq ?_
    refine cSeq ?_
    refine cReg ?_
    refine segH 3 (T1 := (mkT 24 [(1, vN n), (2, vP 2 0), (10, .bool false), (11, vP 2 4), (12, vS 0 B.length), (13, vN n)])) (by kernel_rfl) ?_
    refine rCall (v := vI (-1)) (args := [vS 0 B.length, vN n]) (by kernel_rfl) rfl (by kernel_rfl) (Sound.lay0 [0] (szI_G B n (by first | omega | assumption | (simp; done) | (simp; omega)) (by first | assumption | omega | rfl | decide | exact HeapL.list _ _ _ _ | exact HeapL.nil _ _ _ | exact HeapL.all _ _ _ | (apply HeapL.lt64 <;> assumption) | (repeat' (first | assumption | apply or_lt64 | apply and_lt64 | apply andn_lt64 | apply pow_lt64 | (apply HeapL.lt64 <;> assumption)))) (by first | omega | assumption | decide)) ⟨rdF false (flatNums _ _ _ _) rfl rfl, trivial⟩ rfl ⟨clF (flatNums _ _ _ _), trivial⟩ rfl (by first | rfl | simp [mpV, mpA, mpS, mpP, renId, shift]) rfl) ?_
    refine segEndH [1, 2] (T1 := (mkT 24 [(1, vI (-1)), (2, vP 2 0)])) (by kernel_rfl) ?_
    refine kSeq ?_
    refine cSeq ?_
    refine cSeq ?_
    refine cReg ?_
    refine segEndH [1, 2, 16] (T1 := (mkT 24 [(1, vI (-1)), (2, vP 2 0), (16, .bool true)])) (by kernel_rfl) ?_
    refine kSeq ?_
    refine cTrue (by kernel_rfl) ?_
    refine cSeq ?_
    refine cReg ?_
    refine segEndH [4] (T1 := (mkT 24 [(4, vI (-1))])) (by kernel_rfl) ?_
    refine kSeq ?_
    refine cRet ?_
    refine kSeqR ?_
    -- end
    exact endQ (Or.inr rfl) (l := [vI (-1)]) [rB [vI x, vI y, vI z, .slice none 0 0, vS 0 B.length, vS 1 C.length] 24] (by kernel_rfl) (by first | rfl | kernel_rfl) rfl rfl hcl rfl
  ·
    (try simp only [Bool.not_eq_true', Bool.not_eq_false', decide_eq_true_eq, decide_eq_false_iff_not, beq_iff_eq, bne_iff_ne, beq_eq_false_iff_ne, bne_eq_false_iff_eq, ne_eq, Decidable.not_not, Bool.and_eq_true, Bool.and_eq_false_imp, Bool.or_eq_true, Bool.or_eq_false_iff, Bool.not_eq_true, Int.not_lt, Int.not_le, ge_iff_le, gt_iff_lt] at h1)
    exfalso; omega

set_option maxRecDepth 100000 in
set_option maxHeartbeats 4000000 in
theorem szSh_nss_C (x : Int) (y : Int) (z : Int) (B : List Int) (C : List Int) (n : Nat) (hl0 : B.length ≤ n) (hl : n - B.length < C.length) (hm : C.length ≤ 9223372036854775807) (hn : n ≤ 1048576) : Sound Try.prog 15 [.agg #[vI x, vI y, vI z, .slice none 0 0, vS 0 B.length, vS 1 C.length], vN n] [some ⟨nums B, 3, false, false⟩, some ⟨nums C, 3, false, false⟩] (vI (-1)) [some ⟨nums B, 3, false, false⟩, some ⟨nums C, 3, false, false⟩] := by
  refine sound_intro (C := cx) Try.func15 rfl (by kernel_rfl) fun hcl => ?_
  refine cSeq ?_
  refine cReg ?_
  refine segEnd [1, 2] (T1 := (mkT 24 [(1, vN n), (2, vP 2 0)])) (H1 := [some ⟨nums B, 3, false, false⟩, some ⟨nums C, 3, false, false⟩, rB [vI x, vI y, vI z, .slice none 0 0, vS 0 B.length, vS 1 C.length] 24]) (by kernel_rfl) ?_
  refine kSeq ?_
  refine cSeq ?_
  refine cReg ?_
  refine segH 3 (T1 := (mkT 24 [(1, vN n), (2, vP 2 0), (5, vP 2 3), (6, .slice none 0 0), (7, vN n)])) (by kernel_rfl) ?_
  refine rCall (v := vN n) (args := [.slice none 0 0, vN n]) (by kernel_rfl) rfl (by kernel_rfl) (Sound.lay0 [] (szI_N n (by first | omega | assumption | decide)) trivial rfl trivial rfl (by first | rfl | simp [mpV, mpA, mpS, mpP, renId, shift]) rfl) ?_
  refine segEndH [1, 2] (T1 := (mkT 24 [(1, vN n), (2, vP 2 0)])) (by kernel_rfl) ?_
  refine kSeq ?_
  refine cSeq ?_
  refine cSeq ?_
  refine cReg ?_
  refine segEndH [1, 2, 10] (T1 := (mkT 24 [(1, vN n), (2, vP 2 0), (10, .bool (decide (((n : Nat) : Int) < 0)))])) (by kernel_rfl) ?_
  refine kSeq ?_
  cases h1 : (decide (((n : Nat) : Int) < 0) : Bool)
  ·
    (try simp only [Bool.not_eq_true', Bool.not_eq_false', decide_eq_true_eq, decide_eq_false_iff_not, beq_iff_eq, bne_iff_ne, beq_eq_false_iff_ne, bne_eq_false_iff_eq, ne_eq, Decidable.not_not, Bool.and_eq_true, Bool.and_eq_false_imp, Bool.or_eq_true, Bool.or_eq_false_iff, Bool.not_eq_true, Int.not_lt, Int.not_le, ge_iff_le, gt_iff_lt] at h1)
    refine cFalse (by kernel_rfl) ?_
    refine cSkip ?_
    refine kSeq ?_
    refine cSeq ?_
    refine cReg ?_
    refine segH 3 (T1 := (mkT 24 [(1, vN n), (2, vP 2 0), (10, .bool false), (11, vP 2 4), (12, vS 0 B.length), (13, vN n)])) (by kernel_rfl) ?_
    refine rCall (v := vN (n - B.length)) (args := [vS 0 B.length, vN n]) (by kernel_rfl) rfl (by kernel_rfl) (Sound.lay0 [0] (szI_S B n (by first | omega | assumption | (simp; done) | (simp; omega)) (by first | omega | assumption | decide)) ⟨rdF false (flatNums _ _ _ _) rfl rfl, trivial⟩ rfl ⟨clF (flatNums _ _ _ _), trivial⟩ rfl (by first | rfl | simp [mpV, mpA, mpS, mpP, renId, shift]) rfl) ?_
    refine segEndH [1, 2] (T1 := (mkT 24 [(1, vN (n - B.length)), (2, vP 2 0)])) (by kernel_rfl) ?_
    refine kSeq ?_
    refine cSeq ?_
    refine cSeq ?_
    refine cReg ?_
    refine segEndH [1, 2, 16] (T1 := (mkT 24 [(1, vN (n - B.length)), (2, vP 2 0), (16, .bool (decide (((n - B.length : Nat) : Int) < 0)))])) (by kernel_rfl) ?_
    refine kSeq ?_
    cases h2 : (decide (((n - B.length : Nat) : Int) < 0) : Bool)
    ·
      (try simp only [Bool.not_eq_true', Bool.not_eq_false', decide_eq_true_eq, decide_eq_false_iff_not, beq_iff_eq, bne_iff_ne, beq_eq_false_iff_ne, bne_eq_false_iff_eq, ne_eq, Decidable.not_not, Bool.and_eq_true, Bool.and_eq_false_imp, Bool.or_eq_true, Bool.or_eq_false_iff, Bool.not_eq_true, Int.not_lt, Int.not_le, ge_iff_le, gt_iff_lt] at h2)
      refine cFalse (by kernel_rfl) ?_
      refine cSkip ?_
      refine kSeq ?_
      refine cSeq ?_
      refine cReg ?_
      refine segH 3 (T1 := (mkT 24 [(1, vN (n - B.length)), (2, vP 2 0), (16, .bool false), (17, vP 2 5), (18, vS 1 C.length), (19, vN (n - B.length))])) (by kernel_rfl) ?_
      refine rCall (v := vI (-1)) (args := [vS 1 C.length, vN (n - B.length)]) (by kernel_rfl) rfl (by kernel_rfl) (Sound.lay0 [1] (szI_G C (n - B.length) (by first | omega | assumption | (simp; done) | (simp; omega)) (by first | assumption | omega | rfl | decide | exact HeapL.list _ _ _ _ | exact HeapL.nil _ _ _ | exact HeapL.all _ _ _ | (apply HeapL.lt64 <;> assumption) | (repeat' (first | assumption | apply or_lt64 | apply and_lt64 | apply andn_lt64 | apply pow_lt64 | (apply HeapL.lt64 <;> assumption)))) (by first | omega | assumption | decide)) ⟨rdF false (flatNums _ _ _ _) rfl rfl, trivial⟩ rfl ⟨clF (flatNums _ _ _ _), trivial⟩ rfl (by first | rfl | simp [mpV, mpA, mpS, mpP, renId, shift]) rfl) ?_
      refine segEndH [1] (T1 := (mkT 24 [(1, vI (-1))])) (by kernel_rfl) ?_
      refine kSeq ?_
      refine cSeq ?_
      refine cSeq ?_
      refine cReg ?_
      refine segEndH [1, 22] (T1 := (mkT 24 [(1, vI (-1)), (22, .bool true)])) (by kernel_rfl) ?_
      refine kSeq ?_
      refine cTrue (by kernel_rfl) ?_
      refine cSeq ?_
      refine cReg ?_
      refine segEndH [4] (T1 := (mkT 24 [(4, vI (-1))])) (by kernel_rfl) ?_
      refine kSeq ?_
      refine cRet ?_
      refine kSeqR ?_
      -- end
      exact endQ (Or.inr rfl) (l := [vI (-1)]) [rB [vI x, vI y, vI z, .slice none 0 0, vS 0 B.length, vS 1 C.length] 24] (by kernel_rfl) (by first | rfl | kernel_rfl) rfl rfl hcl rfl
    ·
      (try simp only [Bool.not_eq_true', Bool.not_eq_false', decide_eq_true_eq, decide_eq_false_iff_not, beq_iff_eq, bne_iff_ne, beq_eq_false_iff_ne, bne_eq_false_iff_eq, ne_eq, Decidable.not_not, Bool.and_eq_true, Bool.and_eq_false_imp, Bool.or_eq_true, Bool.or_eq_false_iff, Bool.not_eq_true, Int.not_lt, Int.not_le, ge_iff_le, gt_iff_lt] at h2)
      exfalso; omega
  ·
    (try simp only [Bool.not_eq_true', Bool.not_eq_false', decide_eq_true_eq, decide_eq_false_iff_not, beq_iff_eq, bne_iff_ne, beq_eq_false_iff_ne, bne_eq_false_iff_eq, ne_eq, Decidable.not_not, Bool.and_eq_true, Bool.and_eq_false_imp, Bool.or_eq_true, Bool.or_eq_false_iff, Bool.not_eq_true, Int.not_lt, Int.not_le, ge_iff_le, gt_iff_lt] at h1)
    exfalso; omega

set_option maxRecDepth 100000 in
set_option maxHeartbeats 4000000 in
theorem toSh_nss (x : Int) (y : Int) (z : Int) (B : List Int) (C : List Int) (hB : B.length ≤ 1048576) (hC : C.length ≤ 1048576) : Sound Try.prog 17 [.agg #[vI x, vI y, vI z, .slice none 0 0, vS 0 B.length, vS 1 C.length]] [some ⟨nums B, 3, false, false⟩, some ⟨nums C, 3, false, false⟩] (.agg #[vI x, vI y, vI z, vS 2 0, vS 3 B.length, vS 4 C.length]) [some ⟨nums B, 3, false, false⟩, some ⟨nums C, 3, false, false⟩, some ⟨nums ([] : List Int), 3, false, true⟩, some ⟨nums B, 3, false, true⟩, some ⟨nums C, 3, false, true⟩] := by
  refine sound_intro (C := cx) Try.func17 rfl (by kernel_rfl) fun hcl => ?_
  refine cSeq ?_
  refine cReg ?_
  refine segEnd [1, 2] (T1 := (mkT 26 [(1, vP 2 0), (2, vP 3 0)])) (H1 := [some ⟨nums B, 3, false, false⟩, some ⟨nums C, 3, false, false⟩, rB [vI x, vI y, vI z, .slice none 0 0, vS 0 B.length, vS 1 C.length] 24, rB [vI 0, vI 0, vI 0, .slice none 0 0, .slice none 0 0, .slice none 0 0] 27]) (by kernel_rfl) ?_
  refine kSeq ?_
  refine cSeq ?_
  refine cReg ?_
  refine segEnd [1, 2, 3] (T1 := (mkT 26 [(1, vP 2 0), (2, vP 3 0), (3, vP 4 0)])) (H1 := [some ⟨nums B, 3, false, false⟩, some ⟨nums C, 3, false, false⟩, rB [vI x, vI y, vI z, .slice none 0 0, vS 0 B.length, vS 1 C.length] 24, rB [vI 0, vI 0, vI 0, .slice none 0 0, .slice none 0 0, .slice none 0 0] 27, rB [vI 0, vI 0, vI 0, .slice none 0 0, .slice none 0 0, .slice none 0 0] 27]) (by kernel_rfl) ?_
  refine kSeq ?_
  refine cSeq ?_
  refine cReg ?_
  refine segEnd [1, 2, 3] (T1 := (mkT 26 [(1, vP 2 0), (2, vP 3 0), (3, vP 4 0)])) (H1 := [some ⟨nums B, 3, false, false⟩, some ⟨nums C, 3, false, false⟩, rB [vI x, vI y, vI z, .slice none 0 0, vS 0 B.length, vS 1 C.length] 24, rB [vI 0, vI 0, vI 0, .slice none 0 0, .slice none 0 0, .slice none 0 0] 27, rB [vI x, vI 0, vI 0, .slice none 0 0, .slice none 0 0, .slice none 0 0] 27]) (by kernel_rfl) ?_
  refine kSeq ?_
  refine cSeq ?_
  refine cReg ?_
  refine segEnd [1, 2, 3] (T1 := (mkT 26 [(1, vP 2 0), (2, vP 3 0), (3, vP 4 0)])) (H1 := [some ⟨nums B, 3, false, false⟩, some ⟨nums C, 3, false, false⟩, rB [vI x, vI y, vI z, .slice none 0 0, vS 0 B.length, vS 1 C.length] 24, rB [vI 0, vI 0, vI 0, .slice none 0 0, .slice none 0 0, .slice none 0 0] 27, rB [vI x, vI y, vI 0, .slice none 0 0, .slice none 0 0, .slice none 0 0] 27]) (by kernel_rfl) ?_
  refine kSeq ?_
  refine cSeq ?_
  refine cReg ?_
  refine segEnd [1, 2, 3] (T1 := (mkT 26 [(1, vP 2 0), (2, vP 3 0), (3, vP 4 0)])) (H1 := [some ⟨nums B, 3, false, false⟩, some ⟨nums C, 3, false, false⟩, rB [vI x, vI y, vI z, .slice none 0 0, vS 0 B.length, vS 1 C.length] 24, rB [vI 0, vI 0, vI 0, .slice none 0 0, .slice none 0 0, .slice none 0 0] 27, rB [vI x, vI y, vI z, .slice none 0 0, .slice none 0 0, .slice none 0 0] 27]) (by kernel_rfl) ?_
  refine kSeq ?_
  refine cSeq ?_
  refine cReg ?_
  refine segH 2 (T1 := (mkT 26 [(1, vP 2 0), (2, vP 3 0), (3, vP 4 0), (13, vP 2 3), (14, .slice none 0 0)])) (by kernel_rfl) ?_
  refine rCall (v := vS 5 0) (args := [.slice none 0 0]) (by kernel_rfl) rfl (by kernel_rfl) (Sound.lay (E := [some ⟨nums ([] : List Int), 3, false, true⟩]) [] (toI_N) trivial rfl trivial rfl (by first | rfl | simp [mpV, mpA, mpS, mpP, renId, shift]) rfl ⟨enF (flatNums _ _ _ _) (Or.inl rfl), trivial⟩) ?_
  refine segEnd [1, 2, 3] (T1 := (mkT 26 [(1, vP 2 0), (2, vP 3 0), (3, vP 4 0)])) (H1 := [some ⟨nums B, 3, false, false⟩, some ⟨nums C, 3, false, false⟩, rB [vI x, vI y, vI z, .slice none 0 0, vS 0 B.length, vS 1 C.length] 24, rB [vI 0, vI 0, vI 0, .slice none 0 0, .slice none 0 0, .slice none 0 0] 27, rB [vI x, vI y, vI z, vS 5 0, .slice none 0 0, .slice none 0 0] 27, some ⟨nums ([] : List Int), 3, false, true⟩]) (by kernel_rfl) ?_
  refine kSeq ?_
  refine cSeq ?_
  refine cReg ?_
  refine segH 2 (T1 := (mkT 26 [(1, vP 2 0), (2, vP 3 0), (3, vP 4 0), (17, vP 2 4), (18, vS 0 B.length)])) (by kernel_rfl) ?_
  refine rCall (v := vS 6 B.length) (args := [vS 0 B.length]) (by kernel_rfl) rfl (by kernel_rfl) (Sound.lay (E := [some ⟨nums B, 3, false, true⟩]) [0] (toI_S B (by first | omega | assumption | (simp; done) | (simp; omega))) ⟨rdF false (flatNums _ _ _ _) rfl rfl, trivial⟩ rfl ⟨clF (flatNums _ _ _ _), trivial⟩ rfl (by first | rfl | simp [mpV, mpA, mpS, mpP, renId, shift]) rfl ⟨enF (flatNums _ _ _ _) (Or.inl rfl), trivial⟩) ?_
  refine segEnd [1, 2, 3] (T1 := (mkT 26 [(1, vP 2 0), (2, vP 3 0), (3, vP 4 0)])) (H1 := [some ⟨nums B, 3, false, false⟩, some ⟨nums C, 3, false, false⟩, rB [vI x, vI y, vI z, .slice none 0 0, vS 0 B.length, vS 1 C.length] 24, rB [vI 0, vI 0, vI 0, .slice none 0 0, .slice none 0 0, .slice none 0 0] 27, rB [vI x, vI y, vI z, vS 5 0, vS 6 B.length, .slice none 0 0] 27, some ⟨nums ([] : List Int), 3, false, true⟩, some ⟨nums B, 3, false, true⟩]) (by kernel_rfl) ?_
  refine kSeq ?_
  refine cSeq ?_
  refine cReg ?_
  refine segH 2 (T1 := (mkT 26 [(1, vP 2 0), (2, vP 3 0), (3, vP 4 0), (21, vP 2 5), (22, vS 1 C.length)])) (by kernel_rfl) ?_
  refine rCall (v := vS 7 C.length) (args := [vS 1 C.length]) (by kernel_rfl) rfl (by kernel_rfl) (Sound.lay (E := [some ⟨nums C, 3, false, true⟩]) [1] (toI_S C (by first | omega | assumption | (simp; done) | (simp; omega))) ⟨rdF false (flatNums _ _ _ _) rfl rfl, trivial⟩ rfl ⟨clF (flatNums _ _ _ _), trivial⟩ rfl (by first | rfl | simp [mpV, mpA, mpS, mpP, renId, shift]) rfl ⟨enF (flatNums _ _ _ _) (Or.inl rfl), trivial⟩) ?_
  refine segEnd [2, 3] (T1 := (mkT 26 [(2, vP 3 0), (3, vP 4 0)])) (H1 := [some ⟨nums B, 3, false, false⟩, some ⟨nums C, 3, false, false⟩, rB [vI x, vI y, vI z, .slice none 0 0, vS 0 B.length, vS 1 C.length] 24, rB [vI 0, vI 0, vI 0, .slice none 0 0, .slice none 0 0, .slice none 0 0] 27, rB [vI x, vI y, vI z, vS 5 0, vS 6 B.length, vS 7 C.length] 27, some ⟨nums ([] : List Int), 3, false, true⟩, some ⟨nums B, 3, false, true⟩, some ⟨nums C, 3, false, true⟩]) (by kernel_rfl) ?_
  refine kSeq ?_
  refine cSeq ?_
  refine cReg ?_
  refine segEnd [2] (T1 := (mkT 26 [(2, vP 3 0)])) (H1 := [some ⟨nums B, 3, false, false⟩, some ⟨nums C, 3, false, false⟩, rB [vI x, vI y, vI z, .slice none 0 0, vS 0 B.length, vS 1 C.length] 24, rB [vI x, vI y, vI z, vS 5 0, vS 6 B.length, vS 7 C.length] 27, rB [vI x, vI y, vI z, vS 5 0, vS 6 B.length, vS 7 C.length] 27, some ⟨nums ([] : List Int), 3, false, true⟩, some ⟨nums B, 3, false, true⟩, some ⟨nums C, 3, false, true⟩]) (by kernel_rfl) ?_
  refine kSeq ?_
  refine cRet ?_
  -- end
  exact endF (Or.inr rfl) (l := [.agg #[vI x, vI y, vI z, vS 5 0, vS 6 B.length, vS 7 C.length]]) [0, 1, 5, 6, 7] (by kernel_rfl) (by first | rfl | simp [packR, mpV, mpA, mpS, mpP, renId]) ⟨rrF (flatNums _ _ _ _) rfl, ⟨rrF (flatNums _ _ _ _) rfl, ⟨rrF (flatNums _ _ _ _) rfl, ⟨rrF (flatNums _ _ _ _) rfl, ⟨rrF (flatNums _ _ _ _) rfl, trivial⟩⟩⟩⟩⟩ rfl rfl

set_option maxRecDepth 100000 in
set_option maxHeartbeats 4000000 in
theorem szSh_nsn (x : Int) (y : Int) (z : Int) (B : List Int) (n : Nat) (hl : B.length ≤ n) (hn : n ≤ 1048576) : Sound Try.prog 15 [.agg #[vI x, vI y, vI z, .slice none 0 0, vS 0 B.length, .slice none 0 0], vN n] [some ⟨nums B, 3, false, false⟩] (vN (n - B.length)) [some ⟨nums B, 3, false, false⟩] := by
  refine sound_intro (C := cx) Try.func15 rfl (by kernel_rfl) fun hcl => ?_
  refine cSeq ?_
  refine cReg ?_
  refine segEnd [1, 2] (T1 := (mkT 24 [(1, vN n), (2, vP 1 0)])) (H1 := [some ⟨nums B, 3, false, false⟩, rB [vI x, vI y, vI z, .slice none 0 0, vS 0 B.length, .slice none 0 0] 24]) (by kernel_rfl) ?_
  refine kSeq ?_
  refine cSeq ?_
  refine cReg ?_
  refine segH 3 (T1 := (mkT 24 [(1, vN n), (2, vP 1 0), (5, vP 1 3), (6, .slice none 0 0), (7, vN n)])) (by kernel_rfl) ?_
  refine rCall (v := vN n) (args := [.slice none 0 0, vN n]) (by kernel_rfl) rfl (by kernel_rfl) (Sound.lay0 [] (szI_N n (by first | omega | assumption | decide)) trivial rfl trivial rfl (by first | rfl | simp [mpV, mpA, mpS, mpP, renId, shift]) rfl) ?_
  refine segEndH [1, 2] (T1 := (mkT 24 [(1, vN n), (2, vP 1 0)])) (by kernel_rfl) ?_
  refine kSeq ?_
  refine cSeq ?_
  refine cSeq ?_
  refine cReg ?_
  refine segEndH [1, 2, 10] (T1 := (mkT 24 [(1, vN n), (2, vP 1 0), (10, .bool (decide (((n : Nat) : Int) < 0)))])) (by kernel_rfl) ?_
  refine kSeq ?_
  cases h1 : (decide (((n : Nat) : Int) < 0) : Bool)
  ·
    (try simp only [Bool.not_eq_true', Bool.not_eq_false', decide_eq_true_eq, decide_eq_false_iff_not, beq_iff_eq, bne_iff_ne, beq_eq_false_iff_ne, bne_eq_false_iff_eq, ne_eq, Decidable.not_not, Bool.and_eq_true, Bool.and_eq_false_imp, Bool.or_eq_true, Bool.or_eq_false_iff, Bool.not_eq_true, Int.not_lt, Int.not_le, ge_iff_le, gt_iff_lt] at h1)
    refine cFalse (by kernel_rfl) ?_
    refine cSkip ?_
    refine kSeq ?_
    refine cSeq ?_
    refine cReg ?_
    refine segH 3 (T1 := (mkT 24 [(1, vN n), (2, vP 1 0), (10, .bool false), (11, vP 1 4), (12, vS 0 B.length), (13, vN n)])) (by kernel_rfl) ?_
    refine rCall (v := vN (n - B.length)) (args := [vS 0 B.length, vN n]) (by kernel_rfl) rfl (by kernel_rfl) (Sound.lay0 [0] (szI_S B n (by first | omega | assumption | (simp; done) | (simp; omega)) (by first | omega | assumption | decide)) ⟨rdF false (flatNums _ _ _ _) rfl rfl, trivial⟩ rfl ⟨clF (flatNums _ _ _ _), trivial⟩ rfl (by first | rfl | simp [mpV, mpA, mpS, mpP, renId, shift]) rfl) ?_
    refine segEndH [1, 2] (T1 := (mkT 24 [(1, vN (n - B.length)), (2, vP 1 0)])) (by kernel_rfl) ?_
    refine kSeq ?_
    refine cSeq ?_
    refine cSeq ?_
    refine cReg ?_
    refine segEndH [1, 2, 16] (T1 := (mkT 24 [(1, vN (n - B.length)), (2, vP 1 0), (16, .bool (decide (((n - B.length : Nat) : Int) < 0)))])) (by kernel_rfl) ?_
    refine kSeq ?_
    cases h2 : (decide (((n - B.length : Nat) : Int) < 0) : Bool)
    ·
      (try simp only [Bool.not_eq_true', Bool.not_eq_false', decide_eq_true_eq, decide_eq_false_iff_not, beq_iff_eq, bne_iff_ne, beq_eq_false_iff_ne, bne_eq_false_iff_eq, ne_eq, Decidable.not_not, Bool.and_eq_true, Bool.and_eq_false_imp, Bool.or_eq_true, Bool.or_eq_false_iff, Bool.not_eq_true, Int.not_lt, Int.not_le, ge_iff_le, gt_iff_lt] at h2)
      refine cFalse (by kernel_rfl) ?_
      refine cSkip ?_
      refine kSeq ?_
      refine cSeq ?_
      refine cReg ?_
      refine segH 3 (T1 := (mkT 24 [(1, vN (n - B.length)), (2, vP 1 0), (16, .bool false), (17, vP 1 5), (18, .slice none 0 0), (19, vN (n - B.length))])) (by kernel_rfl) ?_
      refine rCall (v := vN (n - B.length)) (args := [.slice none 0 0, vN (n - B.length)]) (by kernel_rfl) rfl (by kernel_rfl) (Sound.lay0 [] (szI_N (n - B.length) (by first | omega | assumption | decide)) trivial rfl trivial rfl (by first | rfl | simp [mpV, mpA, mpS, mpP, renId, shift]) rfl) ?_
      refine segEndH [1] (T1 := (mkT 24 [(1, vN (n - B.length))])) (by kernel_rfl) ?_
      refine kSeq ?_
      refine cSeq ?_
      refine cSeq ?_
      refine cReg ?_
      refine segEndH [1, 22] (T1 := (mkT 24 [(1, vN (n - B.length)), (22, .bool (decide (((n - B.length : Nat) : Int) < 0)))])) (by kernel_rfl) ?_
      refine kSeq ?_
      cases h3 : (decide (((n - B.length : Nat) : Int) < 0) : Bool)
      ·
        (try simp only [Bool.not_eq_true', Bool.not_eq_false', decide_eq_true_eq, decide_eq_false_iff_not, beq_iff_eq, bne_iff_ne, beq_eq_false_iff_ne, bne_eq_false_iff_eq, ne_eq, Decidable.not_not, Bool.and_eq_true, Bool.and_eq_false_imp, Bool.or_eq_true, Bool.or_eq_false_iff, Bool.not_eq_true, Int.not_lt, Int.not_le, ge_iff_le, gt_iff_lt] at h3)
        refine cFalse (by kernel_rfl) ?_
        refine cSkip ?_
        refine kSeq ?_
        refine cSeq ?_
        refine cReg ?_
        refine segEndH [4] (T1 := (mkT 24 [(4, vN (n - B.length))])) (by kernel_rfl) ?_
        refine kSeq ?_
        refine cRet ?_
        -- end
        exact endQ (Or.inr rfl) (l := [vN (n - B.length)]) [rB [vI x, vI y, vI z, .slice none 0 0, vS 0 B.length, .slice none 0 0] 24] (by kernel_rfl) (by first | rfl | kernel_rfl) rfl rfl hcl rfl
      ·
        (try simp only [Bool.not_eq_true', Bool.not_eq_false', decide_eq_true_eq, decide_eq_false_iff_not, beq_iff_eq, bne_iff_ne, beq_eq_false_iff_ne, bne_eq_false_iff_eq, ne_eq, Decidable.not_not, Bool.and_eq_true, Bool.and_eq_false_imp, Bool.or_eq_true, Bool.or_eq_false_iff, Bool.not_eq_true, Int.not_lt, Int.not_le, ge_iff_le, gt_iff_lt] at h3)
        exfalso; omega
    ·
      (try simp only [Bool.not_eq_true', Bool.not_eq_false', decide_eq_true_eq, decide_eq_false_iff_not, beq_iff_eq, bne_iff_ne, beq_eq_false_iff_ne, bne_eq_false_iff_eq, ne_eq, Decidable.not_not, Bool.and_eq_true, Bool.and_eq_false_imp, Bool.or_eq_true, Bool.or_eq_false_iff, Bool.not_eq_true, Int.not_lt, Int.not_le, ge_iff_le, gt_iff_lt] at h2)
      exfalso; omega
  ·
    (try simp only [Bool.not_eq_true', Bool.not_eq_false', decide_eq_true_eq, decide_eq_false_iff_not, beq_iff_eq, bne_iff_ne, beq_eq_false_iff_ne, bne_eq_false_iff_eq, ne_eq, Decidable.not_not, Bool.and_eq_true, Bool.and_eq_false_imp, Bool.or_eq_true, Bool.or_eq_false_iff, Bool.not_eq_true, Int.not_lt, Int.not_le, ge_iff_le, gt_iff_lt] at h1)
    exfalso; omega

set_option maxRecDepth 100000 in
set_option maxHeartbeats 4000000 in
theorem szSh_nsn_B (x : Int) (y : Int) (z : Int) (B : List Int) (n : Nat) (hl : n < B.length) (hm : B.length ≤ 9223372036854775807) (hn : n ≤ 1048576) : Sound Try.prog 15 [.agg #[vI x, vI y, vI z, .slice none 0 0, vS 0 B.length, .slice none 0 0], vN n] [some ⟨nums B, 3, false, false⟩] (vI (-1)) [some ⟨nums B, 3, false, false⟩] := by
  refine sound_intro (C := cx) Try.func15 rfl (by kernel_rfl) fun hcl => ?_
  refine cSeq ?_
  refine cReg ?_
  refine segEnd [1, 2] (T1 := (mkT 24 [(1, vN n), (2, vP 1 0)])) (H1 := [some ⟨nums B, 3, false, false⟩, rB [vI x, vI y, vI z, .slice none 0 0, vS 0 B.length, .slice none 0 0] 24]) (by kernel_rfl) ?_
  refine kSeq ?_
  refine cSeq ?_
  refine cReg ?_
  refine segH 3 (T1 := (mkT 24 [(1, vN n), (2, vP 1 0), (5, vP 1 3), (6, .slice none 0 0), (7, vN n)])) (by kernel_rfl) ?_
  refine rCall (v := vN n) (args := [.slice none 0 0, vN n]) (by kernel_rfl) rfl (by kernel_rfl) (Sound.lay0 [] (szI_N n (by first | omega | assumption | decide)) trivial rfl trivial rfl (by first | rfl | simp [mpV, mpA, mpS, mpP, renId, shift]) rfl) ?_
  refine segEndH [1, 2] (T1 := (mkT 24 [(1, vN n), (2, vP 1 0)])) (by kernel_rfl) ?_
  refine kSeq ?_
  refine cSeq ?_
  refine cSeq ?_
  refine cReg ?_
  refine segEndH [1, 2, 10] (T1 := (mkT 24 [(1, vN n), (2, vP 1 0), (10, .bool (decide (((n : Nat) : Int) < 0)))])) (by kernel_rfl) ?_
  refine kSeq ?_
  cases h1 : (decide (((n : Nat) : Int) < 0) : Bool)
  ·
    (try simp only [Bool.not_eq_true', Bool.not_eq_false', decide_eq_true_eq, decide_eq_false_iff_not, beq_iff_eq, bne_iff_ne, beq_eq_false_iff_ne, bne_eq_false_iff_eq, ne_eq, Decidable.not_not, Bool.and_eq_true, Bool.and_eq_false_imp, Bool.or_eq_true, Bool.or_eq_false_iff, Bool.not_eq_true, Int.not_lt, Int.not_le, ge_iff_le, gt_iff_lt] at h1)
    refine cFalse (by kernel_rfl) ?_
    refine cSkip ?_
    refine kSeq ?_
    refine cSeq ?_
    refine cReg ?_
    refine segH 3 (T1 := (mkT 24 [(1, vN n), (2, vP 1 0), (10, .bool false), (11, vP 1 4), (12, vS 0 B.length), (13, vN n)])) (by kernel_rfl) ?_
    refine rCall (v := vI (-1)) (args := [vS 0 B.length, vN n]) (by kernel_rfl) rfl (by kernel_rfl) (Sound.lay0 [0] (szI_G B n (by first | omega | assumption | (simp; done) | (simp; omega)) (by first | assumption | omega | rfl | decide | exact HeapL.list _ _ _ _ | exact HeapL.nil _ _ _ | exact HeapL.all _ _ _ | (apply HeapL.lt64 <;> assumption) | (repeat' (first | assumption | apply or_lt64 | apply and_lt64 | apply andn_lt64 | apply pow_lt64 | (apply HeapL.lt64 <;> assumption)))) (by first | omega | assumption | decide)) ⟨rdF false (flatNums _ _ _ _) rfl rfl, trivial⟩ rfl ⟨clF (flatNums _ _ _ _), trivial⟩ rfl (by first | rfl | simp [mpV, mpA, mpS, mpP, renId, shift]) rfl) ?_
    refine segEndH [1, 2] (T1 := (mkT 24 [(1, vI (-1)), (2, vP 1 0)])) (by kernel_rfl) ?_
    refine kSeq ?_
    refine cSeq ?_
    refine cSeq ?_
    refine cReg ?_
    refine segEndH [1, 2, 16] (T1 := (mkT 24 [(1, vI (-1)), (2, vP 1 0), (16, .bool true)])) (by kernel_rfl) ?_
    refine kSeq ?_
    refine cTrue (by kernel_rfl) ?_
    refine cSeq ?_
    refine cReg ?_
    refine segEndH [4] (T1 := (mkT 24 [(4, vI (-1))])) (by kernel_rfl) ?_
    refine kSeq ?_
    refine cRet ?_
    refine kSeqR ?_
    -- end
    exact endQ (Or.inr rfl) (l := [vI (-1)]) [rB [vI x, vI y, vI z, .slice none 0 0, vS 0 B.length, .slice none 0 0] 24] (by kernel_rfl) (by first | rfl | kernel_rfl) rfl rfl hcl rfl
  ·
    (try simp only [Bool.not_eq_true', Bool.not_eq_false', decide_eq_true_eq, decide_eq_false_iff_not, beq_iff_eq, bne_iff_ne, beq_eq_false_iff_ne, bne_eq_false_iff_eq, ne_eq, Decidable.not_not, Bool.and_eq_true, Bool.and_eq_false_imp, Bool.or_eq_true, Bool.or_eq_false_iff, Bool.not_eq_true, Int.not_lt, Int.not_le, ge_iff_le, gt_iff_lt] at h1)
    exfalso; omega

set_option maxRecDepth 100000 in
set_option maxHeartbeats 4000000 in
theorem toSh_nsn (x : Int) (y : Int) (z : Int) (B : List Int) (hB : B.length ≤ 1048576) : Sound Try.prog 17 [.agg #[vI x, vI y, vI z, .slice none 0 0, vS 0 B.length, .slice none 0 0]] [some ⟨nums B, 3, false, false⟩] (.agg #[vI x, vI y, vI z, vS 1 0, vS 2 B.length, vS 3 0]) [some ⟨nums B, 3, false, false⟩, some ⟨nums ([] : List Int), 3, false, true⟩, some ⟨nums B, 3, false, true⟩, some ⟨nums ([] : List Int), 3, false, true⟩] := by
  refine sound_intro (C := cx) Try.func17 rfl (by kernel_rfl) fun hcl => ?_
  refine cSeq ?_
  refine cReg ?_
  refine segEnd [1, 2] (T1 := (mkT 26 [(1, vP 1 0), (2, vP 2 0)])) (H1 := [some ⟨nums B, 3, false, false⟩, rB [vI x, vI y, vI z, .slice none 0 0, vS 0 B.length, .slice none 0 0] 24, rB [vI 0, vI 0, vI 0, .slice none 0 0, .slice none 0 0, .slice none 0 0] 27]) (by kernel_rfl) ?_
  refine kSeq ?_
  refine cSeq ?_
  refine cReg ?_
  refine segEnd [1, 2, 3] (T1 := (mkT 26 [(1, vP 1 0), (2, vP 2 0), (3, vP 3 0)])) (H1 := [some ⟨nums B, 3, false, false⟩, rB [vI x, vI y, vI z, .slice none 0 0, vS 0 B.length, .slice none 0 0] 24, rB [vI 0, vI 0, vI 0, .slice none 0 0, .slice none 0 0, .slice none 0 0] 27, rB [vI 0, vI 0, vI 0, .slice none 0 0, .slice none 0 0, .slice none 0 0] 27]) (by kernel_rfl) ?_
  refine kSeq ?_
  refine cSeq ?_
  refine cReg ?_
  refine segEnd [1, 2, 3] (T1 := (mkT 26 [(1, vP 1 0), (2, vP 2 0), (3, vP 3 0)])) (H1 := [some ⟨nums B, 3, false, false⟩, rB [vI x, vI y, vI z, .slice none 0 0, vS 0 B.length, .slice none 0 0] 24, rB [vI 0, vI 0, vI 0, .slice none 0 0, .slice none 0 0, .slice none 0 0] 27, rB [vI x, vI 0, vI 0, .slice none 0 0, .slice none 0 0, .slice none 0 0] 27]) (by kernel_rfl) ?_
  refine kSeq ?_
  refine cSeq ?_
  refine cReg ?_
  refine segEnd [1, 2, 3] (T1 := (mkT 26 [(1, vP 1 0), (2, vP 2 0), (3, vP 3 0)])) (H1 := [some ⟨nums B, 3, false, false⟩, rB [vI x, vI y, vI z, .slice none 0 0, vS 0 B.length, .slice none 0 0] 24, rB [vI 0, vI 0, vI 0, .slice none 0 0, .slice none 0 0, .slice none 0 0] 27, rB [vI x, vI y, vI 0, .slice none 0 0, .slice none 0 0, .slice none 0 0] 27]) (by kernel_rfl) ?_
  refine kSeq ?_
  refine cSeq ?_
  refine cReg ?_
  refine segEnd [1, 2, 3] (T1 := (mkT 26 [(1, vP 1 0), (2, vP 2 0), (3, vP 3 0)])) (H1 := [some ⟨nums B, 3, false, false⟩, rB [vI x, vI y, vI z, .slice none 0 0, vS 0 B.length, .slice none 0 0] 24, rB [vI 0, vI 0, vI 0, .slice none 0 0, .slice none 0 0, .slice none 0 0] 27, rB [vI x, vI y, vI z, .slice none 0 0, .slice none 0 0, .slice none 0 0] 27]) (by kernel_rfl) ?_
  refine kSeq ?_
  refine cSeq ?_
  refine cReg ?_
  refine segH 2 (T1 := (mkT 26 [(1, vP 1 0), (2, vP 2 0), (3, vP 3 0), (13, vP 1 3), (14, .slice none 0 0)])) (by kernel_rfl) ?_
  refine rCall (v := vS 4 0) (args := [.slice none 0 0]) (by kernel_rfl) rfl (by kernel_rfl) (Sound.lay (E := [some ⟨nums ([] : List Int), 3, false, true⟩]) [] (toI_N) trivial rfl trivial rfl (by first | rfl | simp [mpV, mpA, mpS, mpP, renId, shift]) rfl ⟨enF (flatNums _ _ _ _) (Or.inl rfl), trivial⟩) ?_
  refine segEnd [1, 2, 3] (T1 := (mkT 26 [(1, vP 1 0), (2, vP 2 0), (3, vP 3 0)])) (H1 := [some ⟨nums B, 3, false, false⟩, rB [vI x, vI y, vI z, .slice none 0 0, vS 0 B.length, .slice none 0 0] 24, rB [vI 0, vI 0, vI 0, .slice none 0 0, .slice none 0 0, .slice none 0 0] 27, rB [vI x, vI y, vI z, vS 4 0, .slice none 0 0, .slice none 0 0] 27, some ⟨nums ([] : List Int), 3, false, true⟩]) (by kernel_rfl) ?_
  refine kSeq ?_
  refine cSeq ?_
  refine cReg ?_
  refine segH 2 (T1 := (mkT 26 [(1, vP 1 0), (2, vP 2 0), (3, vP 3 0), (17, vP 1 4), (18, vS 0 B.length)])) (by kernel_rfl) ?_
  refine rCall (v := vS 5 B.length) (args := [vS 0 B.length]) (by kernel_rfl) rfl (by kernel_rfl) (Sound.lay (E := [some ⟨nums B, 3, false, true⟩]) [0] (toI_S B (by first | omega | assumption | (simp; done) | (simp; omega))) ⟨rdF false (flatNums _ _ _ _) rfl rfl, trivial⟩ rfl ⟨clF (flatNums _ _ _ _), trivial⟩ rfl (by first | rfl | simp [mpV, mpA, mpS, mpP, renId, shift]) rfl ⟨enF (flatNums _ _ _ _) (Or.inl rfl), trivial⟩) ?_
  refine segEnd [1, 2, 3] (T1 := (mkT 26 [(1, vP 1 0), (2, vP 2 0), (3, vP 3 0)])) (H1 := [some ⟨nums B, 3, false, false⟩, rB [vI x, vI y, vI z, .slice none 0 0, vS 0 B.length, .slice none 0 0] 24, rB [vI 0, vI 0, vI 0, .slice none 0 0, .slice none 0 0, .slice none 0 0] 27, rB [vI x, vI y, vI z, vS 4 0, vS 5 B.length, .slice none 0 0] 27, some ⟨nums ([] : List Int), 3, false, true⟩, some ⟨nums B, 3, false, true⟩]) (by kernel_rfl) ?_
  refine kSeq ?_
  refine cSeq ?_
  refine cReg ?_
  refine segH 2 (T1 := (mkT 26 [(1, vP 1 0), (2, vP 2 0), (3, vP 3 0), (21, vP 1 5), (22, .slice none 0 0)])) (by kernel_rfl) ?_
  refine rCall (v := vS 6 0) (args := [.slice none 0 0]) (by kernel_rfl) rfl (by kernel_rfl) (Sound.lay (E := [some ⟨nums ([] : List Int), 3, false, true⟩]) [] (toI_N) trivial rfl trivial rfl (by first | rfl | simp [mpV, mpA, mpS, mpP, renId, shift]) rfl ⟨enF (flatNums _ _ _ _) (Or.inl rfl), trivial⟩) ?_
  refine segEnd [2, 3] (T1 := (mkT 26 [(2, vP 2 0), (3, vP 3 0)])) (H1 := [some ⟨nums B, 3, false, false⟩, rB [vI x, vI y, vI z, .slice none 0 0, vS 0 B.length, .slice none 0 0] 24, rB [vI 0, vI 0, vI 0, .slice none 0 0, .slice none 0 0, .slice none 0 0] 27, rB [vI x, vI y, vI z, vS 4 0, vS 5 B.length, vS 6 0] 27, some ⟨nums ([] : List Int), 3, false, true⟩, some ⟨nums B, 3, false, true⟩, some ⟨nums ([] : List Int), 3, false, true⟩]) (by kernel_rfl) ?_
  refine kSeq ?_
  refine cSeq ?_
  refine cReg ?_
  refine segEnd [2] (T1 := (mkT 26 [(2, vP 2 0)])) (H1 := [some ⟨nums B, 3, false, false⟩, rB [vI x, vI y, vI z, .slice none 0 0, vS 0 B.length, .slice none 0 0] 24, rB [vI x, vI y, vI z, vS 4 0, vS 5 B.length, vS 6 0] 27, rB [vI x, vI y, vI z, vS 4 0, vS 5 B.length, vS 6 0] 27, some ⟨nums ([] : List Int), 3, false, true⟩, some ⟨nums B, 3, false, true⟩, some ⟨nums ([] : List Int), 3, false, true⟩]) (by kernel_rfl) ?_
  refine kSeq ?_
  refine cRet ?_
  -- end
  exact endF (Or.inr rfl) (l := [.agg #[vI x, vI y, vI z, vS 4 0, vS 5 B.length, vS 6 0]]) [0, 4, 5, 6] (by kernel_rfl) (by first | rfl | simp [packR, mpV, mpA, mpS, mpP, renId]) ⟨rrF (flatNums _ _ _ _) rfl, ⟨rrF (flatNums _ _ _ _) rfl, ⟨rrF (flatNums _ _ _ _) rfl, ⟨rrF (flatNums _ _ _ _) rfl, trivial⟩⟩⟩⟩ rfl rfl

set_option maxRecDepth 100000 in
set_option maxHeartbeats 4000000 in
theorem szSh_nns (x : Int) (y : Int) (z : Int) (C : List Int) (n : Nat) (hl : C.length ≤ n) (hn : n ≤ 1048576) : Sound Try.prog 15 [.agg #[vI x, vI y, vI z, .slice none 0 0, .slice none 0 0, vS 0 C.length], vN n] [some ⟨nums C, 3, false, false⟩] (vN (n - C.length)) [some ⟨nums C, 3, false, false⟩] := by
  refine sound_intro (C := cx) Try.func15 rfl (by kernel_rfl) fun hcl => ?_
  refine cSeq ?_
  refine cReg ?_
  refine segEnd [1, 2] (T1 := (mkT 24 [(1, vN n), (2, vP 1 0)])) (H1 := [some ⟨nums C, 3, false, false⟩, rB [vI x, vI y, vI z, .slice none 0 0, .slice none 0 0, vS 0 C.length] 24]) (by kernel_rfl) ?_
  refine kSeq ?_
  refine cSeq ?_
  refine cReg ?_
  refine segH 3 (T1 := (mkT 24 [(1, vN n), (2, vP 1 0), (5, vP 1 3), (6, .slice none 0 0), (7, vN n)])) (by kernel_rfl) ?_
  refine rCall (v := vN n) (args := [.slice none 0 0, vN n]) (by kernel_rfl) rfl (by kernel_rfl) (Sound.lay0 [] (szI_N n (by first | omega | assumption | decide)) trivial rfl trivial rfl (by first | rfl | simp [mpV, mpA, mpS, mpP, renId, shift]) rfl) ?_
  refine segEndH [1, 2] (T1 := (mkT 24 [(1, vN n), (2, vP 1 0)])) (by kernel_rfl) ?_
  refine kSeq ?_
  refine cSeq ?_
  refine cSeq ?_
  refine cReg ?_
  refine segEndH [1, 2, 10] (T1 := (mkT 24 [(1, vN n), (2, vP 1 0), (10, .bool (decide (((n : Nat) : Int) < 0)))])) (by kernel_rfl) ?_
  refine kSeq ?_
  cases h1 : (decide (((n : Nat) : Int) < 0) : Bool)
  ·
    (try simp only [Bool.not_eq_true', Bool.not_eq_false', decide_eq_true_eq, decide_eq_false_iff_not, beq_iff_eq, bne_iff_ne, beq_eq_false_iff_ne, bne_eq_false_iff_eq, ne_eq, Decidable.not_not, Bool.and_eq_true, Bool.and_eq_false_imp, Bool.or_eq_true, Bool.or_eq_false_iff, Bool.not_eq_true, Int.not_lt, Int.not_le, ge_iff_le, gt_iff_lt] at h1)
    refine cFalse (by kernel_rfl) ?_
    refine cSkip ?_
    refine kSeq ?_
    refine cSeq ?_
    refine cReg ?_
    refine segH 3 (T1 := (mkT 24 [(1, vN n), (2, vP 1 0), (10, .bool false), (11, vP 1 4), (12, .slice none 0 0), (13, vN n)])) (by kernel_rfl) ?_
    refine rCall (v := vN n) (args := [.slice none 0 0, vN n]) (by kernel_rfl) rfl (by kernel_rfl) (Sound.lay0 [] (szI_N n (by first | omega | assumption | decide)) trivial rfl trivial rfl (by first | rfl | simp [mpV, mpA, mpS, mpP, renId, shift]) rfl) ?_
    refine segEndH [1, 2] (T1 := (mkT 24 [(1, vN n), (2, vP 1 0)])) (by kernel_rfl) ?_
    refine kSeq ?_
    refine cSeq ?_
    refine cSeq ?_
    refine cReg ?_
    refine segEndH [1, 2, 16] (T1 := (mkT 24 [(1, vN n), (2, vP 1 0), (16, .bool (decide (((n : Nat) : Int) < 0)))])) (by kernel_rfl) ?_
    refine kSeq ?_
    cases h2 : (decide (((n : Nat) : Int) < 0) : Bool)
    ·
      (try simp only [Bool.not_eq_true', Bool.not_eq_false', decide_eq_true_eq, decide_eq_false_iff_not, beq_iff_eq, bne_iff_ne, beq_eq_false_iff_ne, bne_eq_false_iff_eq, ne_eq, Decidable.not_not, Bool.and_eq_true, Bool.and_eq_false_imp, Bool.or_eq_true, Bool.or_eq_false_iff, Bool.not_eq_true, Int.not_lt, Int.not_le, ge_iff_le, gt_iff_lt] at h2)
      refine cFalse (by kernel_rfl) ?_
      refine cSkip ?_
      refine kSeq ?_
      refine cSeq ?_
      refine cReg ?_
      refine segH 3 (T1 := (mkT 24 [(1, vN n), (2, vP 1 0), (16, .bool false), (17, vP 1 5), (18, vS 0 C.length), (19, vN n)])) (by kernel_rfl) ?_
      refine rCall (v := vN (n - C.length)) (args := [vS 0 C.length, vN n]) (by kernel_rfl) rfl (by kernel_rfl) (Sound.lay0 [0] (szI_S C n (by first | omega | assumption | (simp; done) | (simp; omega)) (by first | omega | assumption | decide)) ⟨rdF false (flatNums _ _ _ _) rfl rfl, trivial⟩ rfl ⟨clF (flatNums _ _ _ _), trivial⟩ rfl (by first | rfl | simp [mpV, mpA, mpS, mpP, renId, shift]) rfl) ?_
      refine segEndH [1] (T1 := (mkT 24 [(1, vN (n - C.length))])) (by kernel_rfl) ?_
      refine kSeq ?_
      refine cSeq ?_
      refine cSeq ?_
      refine cReg ?_
      refine segEndH [1, 22] (T1 := (mkT 24 [(1, vN (n - C.length)), (22, .bool (decide (((n - C.length : Nat) : Int) < 0)))])) (by kernel_rfl) ?_
      refine kSeq ?_
      cases h3 : (decide (((n - C.length : Nat) : Int) < 0) : Bool)
      ·
        (try simp only [Bool.not_eq_true', Bool.not_eq_false', decide_eq_true_eq, decide_eq_false_iff_not, beq_iff_eq, bne_iff_ne, beq_eq_false_iff_ne, bne_eq_false_iff_eq, ne_eq, Decidable.not_not, Bool.and_eq_true, Bool.and_eq_false_imp, Bool.or_eq_true, Bool.or_eq_false_iff, Bool.not_eq_true, Int.not_lt, Int.not_le, ge_iff_le, gt_iff_lt] at h3)
        refine cFalse (by kernel_rfl) ?_
        refine cSkip ?_
        refine kSeq ?_
        refine cSeq ?_
        refine cReg ?_
        refine segEndH [4] (T1 := (mkT 24 [(4, vN (n - C.length))])) (by kernel_rfl) ?_
        refine kSeq ?_
        refine cRet ?_
        -- end
        exact endQ (Or.inr rfl) (l := [vN (n - C.length)]) [rB [vI x, vI y, vI z, .slice none 0 0, .slice none 0 0, vS 0 C.length] 24] (by kernel_rfl) (by first | rfl | kernel_rfl) rfl rfl hcl rfl
      ·
        (try simp only [Bool.not_eq_true', Bool.not_eq_false', decide_eq_true_eq, decide_eq_false_iff_not, beq_iff_eq, bne_iff_ne, beq_eq_false_iff_ne, bne_eq_false_iff_eq, ne_eq, Decidable.not_not, Bool.and_eq_true, Bool.and_eq_false_imp, Bool.or_eq_true, Bool.or_eq_false_iff, Bool.not_eq_true, Int.not_lt, Int.not_le, ge_iff_le, gt_iff_lt] at h3)
        exfalso; omega
    ·
      (try simp only [Bool.not_eq_true', Bool.not_eq_false', decide_eq_true_eq, decide_eq_false_iff_not, beq_iff_eq, bne_iff_ne, beq_eq_false_iff_ne, bne_eq_false_iff_eq, ne_eq, Decidable.not_not, Bool.and_eq_true, Bool.and_eq_false_imp, Bool.or_eq_true, Bool.or_eq_false_iff, Bool.not_eq_true, Int.not_lt, Int.not_le, ge_iff_le, gt_iff_lt] at h2)
      exfalso; omega
  ·
    (try simp only [Bool.not_eq_true', Bool.not_eq_false', decide_eq_true_eq, decide_eq_false_iff_not, beq_iff_eq, bne_iff_ne, beq_eq_false_iff_ne, bne_eq_false_iff_eq, ne_eq, Decidable.not_not, Bool.and_eq_true, Bool.and_eq_false_imp, Bool.or_eq_true, Bool.or_eq_false_iff, Bool.not_eq_true, Int.not_lt, Int.not_le, ge_iff_le, gt_iff_lt] at h1)
    exfalso; omega

set_option maxRecDepth 100000 in
set_option maxHeartbeats 4000000 in
theorem szSh_nns_C (x : Int) (y : Int) (z : Int) (C : List Int) (n : Nat) (hl : n < C.length) (hm : C.length ≤ 9223372036854775807) (hn : n ≤ 1048576) : Sound Try.prog 15 [.agg #[vI x, vI y, vI z, .slice none 0 0, .slice none 0 0, vS 0 C.length], vN n] [some ⟨nums C, 3, false, false⟩] (vI (-1)) [some ⟨nums C, 3, false, false⟩] := by
  refine sound_intro (C := cx) Try.func15 rfl (by kernel_rfl) fun hcl => ?_
  refine cSeq ?_
  refine cReg ?_
  refine segEnd [1, 2] (T1 := (mkT 24 [(1, vN n), (2, vP 1 0)])) (H1 := [some ⟨nums C, 3, false, false⟩, rB [vI x, vI y, vI z, .slice none 0 0, .slice none 0 0, vS 0 C.length] 24]) (by kernel_rfl) ?_
  refine kSeq ?_
  refine cSeq ?_
  refine cReg ?_
  refine segH 3 (T1 := (mkT 24 [(1, vN n), (2, vP 1 0), (5, vP 1 3), (6, .slice none 0 0), (7, vN n)])) (by kernel_rfl) ?_
  refine rCall (v := vN n) (args := [.slice none 0 0, vN n]) (by kernel_rfl) rfl (by kernel_rfl) (Sound.lay0 [] (szI_N n (by first | omega | assumption | decide)) trivial rfl trivial rfl (by first | rfl | simp [mpV, mpA, mpS, mpP, renId, shift]) rfl) ?_
  refine segEndH [1, 2] (T1 := (mkT 24 [(1, vN n), (2, vP 1 0)])) (by kernel_rfl) ?_
  refine kSeq ?_
  refine cSeq ?_
  refine cSeq ?_
  refine cReg ?_
  refine segEndH [1, 2, 10] (T1 := (mkT 24 [(1, vN n), (2, vP 1 0), (10, .bool (decide (((n : Nat) : Int) < 0)))])) (by kernel_rfl) ?_
  refine kSeq ?_
  cases h1 : (decide (((n : Nat) : Int) < 0) : Bool)
  ·
    (try simp only [Bool.not_eq_true', Bool.not_eq_false', decide_eq_true_eq, decide_eq_false_iff_not, beq_iff_eq, bne_iff_ne, beq_eq_false_iff_ne, bne_eq_false_iff_eq, ne_eq, Decidable.not_not, Bool.and_eq_true, Bool.and_eq_false_imp, Bool.or_eq_true, Bool.or_eq_false_iff, Bool.not_eq_true, Int.not_lt, Int.not_le, ge_iff_le, gt_iff_lt] at h1)
    refine cFalse (by kernel_rfl) ?_
    refine cSkip ?_
    refine kSeq ?_
    refine cSeq ?_
    refine cReg ?_
    refine segH 3 (T1 := (mkT 24 [(1, vN n), (2, vP 1 0), (10, .bool false), (11, vP 1 4), (12, .slice none 0 0), (13, vN n)])) (by kernel_rfl) ?_
    refine rCall (v := vN n) (args := [.slice none 0 0, vN n]) (by kernel_rfl) rfl (by kernel_rfl) (Sound.lay0 [] (szI_N n (by first | omega | assumption | decide)) trivial rfl trivial rfl (by first | rfl | simp [mpV, mpA, mpS, mpP, renId, shift]) rfl) ?_
    refine segEndH [1, 2] (T1 := (mkT 24 [(1, vN n), (2, vP 1 0)])) (by kernel_rfl) ?_
    refine kSeq ?_
    refine cSeq ?_
    refine cSeq ?_
    refine cReg ?_
    refine segEndH [1, 2, 16] (T1 := (mkT 24 [(1, vN n), (2, vP 1 0), (16, .bool (decide (((n : Nat) : Int) < 0)))])) (by kernel_rfl) ?_
    refine kSeq ?_
    cases h2 : (decide (((n : Nat) : Int) < 0) : Bool)
    ·
      (try simp only [Bool.not_eq_true', Bool.not_eq_false', decide_eq_true_eq, decide_eq_false_iff_not, beq_iff_eq, bne_iff_ne, beq_eq_false_iff_ne, bne_eq_false_iff_eq, ne_eq, Decidable.not_not, Bool.and_eq_true, Bool.and_eq_false_imp, Bool.or_eq_true, Bool.or_eq_false_iff, Bool.not_eq_true, Int.not_lt, Int.not_le, ge_iff_le, gt_iff_lt] at h2)
      refine cFalse (by kernel_rfl) ?_
      refine cSkip ?_
      refine kSeq ?_
      refine cSeq ?_
      refine cReg ?_
      refine segH 3 (T1 := (mkT 24 [(1, vN n), (2, vP 1 0), (16, .bool false), (17, vP 1 5), (18, vS 0 C.length), (19, vN n)])) (by kernel_rfl) ?_
      refine rCall (v := vI (-1)) (args := [vS 0 C.length, vN n]) (by kernel_rfl) rfl (by kernel_rfl) (Sound.lay0 [0] (szI_G C n (by first | omega | assumption | (simp; done) | (simp; omega)) (by first | assumption | omega | rfl | decide | exact HeapL.list _ _ _ _ | exact HeapL.nil _ _ _ | exact HeapL.all _ _ _ | (apply HeapL.lt64 <;> assumption) | (repeat' (first | assumption | apply or_lt64 | apply and_lt64 | apply andn_lt64 | apply pow_lt64 | (apply HeapL.lt64 <;> assumption)))) (by first | omega | assumption | decide)) ⟨rdF false (flatNums _ _ _ _) rfl rfl, trivial⟩ rfl ⟨clF (flatNums _ _ _ _), trivial⟩ rfl (by first | rfl | simp [mpV, mpA, mpS, mpP, renId, shift]) rfl) ?_
      refine segEndH [1] (T1 := (mkT 24 [(1, vI (-1))])) (by kernel_rfl) ?_
      refine kSeq ?_
      refine cSeq ?_
      refine cSeq ?_
      refine cReg ?_
      refine segEndH [1, 22] (T1 := (mkT 24 [(1, vI (-1)), (22, .bool true)])) (by kernel_rfl) ?_
      refine kSeq ?_
      refine cTrue (by kernel_rfl) ?_
      refine cSeq ?_
      refine cReg ?_
      refine segEndH [4] (T1 := (mkT 24 [(4, vI (-1))])) (by kernel_rfl) ?_
      refine kSeq ?_
      refine cRet ?_
      refine kSeqR ?_
      -- end
      exact endQ (Or.inr rfl) (l := [vI (-1)]) [rB [vI x, vI y, vI z, .slice none 0 0, .slice none 0 0, vS 0 C.length] 24] (by kernel_rfl) (by first | rfl | kernel_rfl) rfl rfl hcl rfl
    ·
      (try simp only [Bool.not_eq_true', Bool.not_eq_false', decide_eq_true_eq, decide_eq_false_iff_not, beq_iff_eq, bne_iff_ne, beq_eq_false_iff_ne, bne_eq_false_iff_eq, ne_eq, Decidable.not_not, Bool.and_eq_true, Bool.and_eq_false_imp, Bool.or_eq_true, Bool.or_eq_false_iff, Bool.not_eq_true, Int.not_lt, Int.not_le, ge_iff_le, gt_iff_lt] at h2)
      exfalso; omega
  ·
    (try simp only [Bool.not_eq_true', Bool.not_eq_false', decide_eq_true_eq, decide_eq_false_iff_not, beq_iff_eq, bne_iff_ne, beq_eq_false_iff_ne, bne_eq_false_iff_eq, ne_eq, Decidable.not_not, Bool.and_eq_true, Bool.and_eq_false_imp, Bool.or_eq_true, Bool.or_eq_false_iff, Bool.not_eq_true, Int.not_lt, Int.not_le, ge_iff_le, gt_iff_lt] at h1)
    exfalso; omega

set_option maxRecDepth 100000 in
set_option maxHeartbeats 4000000 in
theorem toSh_nns (x : Int) (y : Int) (z : Int) (C : List Int) (hC : C.length ≤ 1048576) : Sound Try.prog 17 [.agg #[vI x, vI y, vI z, .slice none 0 0, .slice none 0 0, vS 0 C.length]] [some ⟨nums C, 3, false, false⟩] (.agg #[vI x, vI y, vI z, vS 1 0, vS 2 0, vS 3 C.length]) [some ⟨nums C, 3, false, false⟩, some ⟨nums ([] : List Int), 3, false, true⟩, some ⟨nums ([] : List Int), 3, false, true⟩, some ⟨nums C, 3, false, true⟩] := by
  refine sound_intro (C := cx) Try.func17 rfl (by kernel_rfl) fun hcl => ?_
  refine cSeq ?_
  refine cReg ?_
  refine segEnd [1, 2] (T1 := (mkT 26 [(1, vP 1 0), (2, vP 2 0)])) (H1 := [some ⟨nums C, 3, false, false⟩, rB [vI x, vI y, vI z, .slice none 0 0, .slice none 0 0, vS 0 C.length] 24, rB [vI 0, vI 0, vI 0, .slice none 0 0, .slice none 0 0, .slice none 0 0] 27]) (by kernel_rfl) ?_
  refine kSeq ?_
  refine cSeq ?_
  refine cReg ?_
  refine segEnd [1, 2, 3] (T1 := (mkT 26 [(1, vP 1 0), (2, vP 2 0), (3, vP 3 0)])) (H1 := [some ⟨nums C, 3, false, false⟩, rB [vI x, vI y, vI z, .slice none 0 0, .slice none 0 0, vS 0 C.length] 24, rB [vI 0, vI 0, vI 0, .slice none 0 0, .slice none 0 0, .slice none 0 0] 27, rB [vI 0, vI 0, vI 0, .slice none 0 0, .slice none 0 0, .slice none 0 0] 27]) (by kernel_rfl) ?_
  refine kSeq ?_
  refine cSeq ?_
  refine cReg ?_
  refine segEnd [1, 2, 3] (T1 := (mkT 26 [(1, vP 1 0), (2, vP 2 0), (3, vP 3 0)])) (H1 := [some ⟨nums C, 3, false, false⟩, rB [vI x, vI y, vI z, .slice none 0 0, .slice none 0 0, vS 0 C.length] 24, rB [vI 0, vI 0, vI 0, .slice none 0 0, .slice none 0 0, .slice none 0 0] 27, rB [vI x, vI 0, vI 0, .slice none 0 0, .slice none 0 0, .slice none 0 0] 27]) (by kernel_rfl) ?_
  refine kSeq ?_
  refine cSeq ?_
  refine cReg ?_
  refine segEnd [1, 2, 3] (T1 := (mkT 26 [(1, vP 1 0), (2, vP 2 0), (3, vP 3 0)])) (H1 := [some ⟨nums C, 3, false, false⟩, rB [vI x, vI y, vI z, .slice none 0 0, .slice none 0 0, vS 0 C.length] 24, rB [vI 0, vI 0, vI 0, .slice none 0 0, .slice none 0 0, .slice none 0 0] 27, rB [vI x, vI y, vI 0, .slice none 0 0, .slice none 0 0, .slice none 0 0] 27]) (by kernel_rfl) ?_
  refine kSeq ?_
  refine cSeq ?_
  refine cReg ?_
  refine segEnd [1, 2, 3] (T1 := (mkT 26 [(1, vP 1 0), (2, vP 2 0), (3, vP 3 0)])) (H1 := [some ⟨nums C, 3, false, false⟩, rB [vI x, vI y, vI z, .slice none 0 0, .slice none 0 0, vS 0 C.length] 24, rB [vI 0, vI 0, vI 0, .slice none 0 0, .slice none 0 0, .slice none 0 0] 27, rB [vI x, vI y, vI z, .slice none 0 0, .slice none 0 0, .slice none 0 0] 27]) (by kernel_rfl) ?_
  refine kSeq ?_
  refine cSeq ?_
  refine cReg ?_
  refine segH 2 (T1 := (mkT 26 [(1, vP 1 0), (2, vP 2 0), (3, vP 3 0), (13, vP 1 3), (14, .slice none 0 0)])) (by kernel_rfl) ?_
  refine rCall (v := vS 4 0) (args := [.slice none 0 0]) (by kernel_rfl) rfl (by kernel_rfl) (Sound.lay (E := [some ⟨nums ([] : List Int), 3, false, true⟩]) [] (toI_N) trivial rfl trivial rfl (by first | rfl | simp [mpV, mpA, mpS, mpP, renId, shift]) rfl ⟨enF (flatNums _ _ _ _) (Or.inl rfl), trivial⟩) ?_
  refine segEnd [1, 2, 3] (T1 := (mkT 26 [(1, vP 1 0), (2, vP 2 0), (3, vP 3 0)])) (H1 := [some ⟨nums C, 3, false, false⟩, rB [vI x, vI y, vI z, .slice none 0 0, .slice none 0 0, vS 0 C.length] 24, rB [vI 0, vI 0, vI 0, .slice none 0 0, .slice none 0 0, .slice none 0 0] 27, rB [vI x, vI y, vI z, vS 4 0, .slice none 0 0, .slice none 0 0] 27, some ⟨nums ([] : List Int), 3, false, true⟩]) (by kernel_rfl) ?_
  refine kSeq ?_
  refine cSeq ?_
  refine cReg ?_
  refine segH 2 (T1 := (mkT 26 [(1, vP 1 0), (2, vP 2 0), (3, vP 3 0), (17, vP 1 4), (18, .slice none 0 0)])) (by kernel_rfl) ?_
  refine rCall (v := vS 5 0) (args := [.slice none 0 0]) (by kernel_rfl) rfl (by kernel_rfl) (Sound.lay (E := [some ⟨nums ([] : List Int), 3, false, true⟩]) [] (toI_N) trivial rfl trivial rfl (by first | rfl | simp [mpV, mpA, mpS, mpP, renId, shift]) rfl ⟨enF (flatNums _ _ _ _) (Or.inl rfl), trivial⟩) ?_
  refine segEnd [1, 2, 3] (T1 := (mkT 26 [(1, vP 1 0), (2, vP 2 0), (3, vP 3 0)])) (H1 := [some ⟨nums C, 3, false, false⟩, rB [vI x, vI y, vI z, .slice none 0 0, .slice none 0 0, vS 0 C.length] 24, rB [vI 0, vI 0, vI 0, .slice none 0 0, .slice none 0 0, .slice none 0 0] 27, rB [vI x, vI y, vI z, vS 4 0, vS 5 0, .slice none 0 0] 27, some ⟨nums ([] : List Int), 3, false, true⟩, some ⟨nums ([] : List Int), 3, false, true⟩]) (by kernel_rfl) ?_
  refine kSeq ?_
  refine cSeq ?_
  refine cReg ?_
  refine segH 2 (T1 := (mkT 26 [(1, vP 1 0), (2, vP 2 0), (3, vP 3 0), (21, vP 1 5), (22, vS 0 C.length)])) (by kernel_rfl) ?_
  refine rCall (v := vS 6 C.length) (args := [vS 0 C.length]) (by kernel_rfl) rfl (by kernel_rfl) (Sound.lay (E := [some ⟨nums C, 3, false, true⟩]) [0] (toI_S C (by first | omega | assumption | (simp; done) | (simp; omega))) ⟨rdF false (flatNums _ _ _ _) rfl rfl, trivial⟩ rfl ⟨clF (flatNums _ _ _ _), trivial⟩ rfl (by first | rfl | simp [mpV, mpA, mpS, mpP, renId, shift]) rfl ⟨enF (flatNums _ _ _ _) (Or.inl rfl), trivial⟩) ?_
  refine segEnd [2, 3] (T1 := (mkT 26 [(2, vP 2 0), (3, vP 3 0)])) (H1 := [some ⟨nums C, 3, false, false⟩, rB [vI x, vI y, vI z, .slice none 0 0, .slice none 0 0, vS 0 C.length] 24, rB [vI 0, vI 0, vI 0, .slice none 0 0, .slice none 0 0, .slice none 0 0] 27, rB [vI x, vI y, vI z, vS 4 0, vS 5 0, vS 6 C.length] 27, some ⟨nums ([] : List Int), 3, false, true⟩, some ⟨nums ([] : List Int), 3, false, true⟩, some ⟨nums C, 3, false, true⟩]) (by kernel_rfl) ?_
  refine kSeq ?_
  refine cSeq ?_
  refine cReg ?_
  refine segEnd [2] (T1 := (mkT 26 [(2, vP 2 0)])) (H1 := [some ⟨nums C, 3, false, false⟩, rB [vI x, vI y, vI z, .slice none 0 0, .slice none 0 0, vS 0 C.length] 24, rB [vI x, vI y, vI z, vS 4 0, vS 5 0, vS 6 C.length] 27, rB [vI x, vI y, vI z, vS 4 0, vS 5 0, vS 6 C.length] 27, some ⟨nums ([] : List Int), 3, false, true⟩, some ⟨nums ([] : List Int), 3, false, true⟩, some ⟨nums C, 3, false, true⟩]) (by kernel_rfl) ?_
  refine kSeq ?_
  refine cRet ?_
  -- end
  exact endF (Or.inr rfl) (l := [.agg #[vI x, vI y, vI z, vS 4 0, vS 5 0, vS 6 C.length]]) [0, 4, 5, 6] (by kernel_rfl) (by first | rfl | simp [packR, mpV, mpA, mpS, mpP, renId]) ⟨rrF (flatNums _ _ _ _) rfl, ⟨rrF (flatNums _ _ _ _) rfl, ⟨rrF (flatNums _ _ _ _) rfl, ⟨rrF (flatNums _ _ _ _) rfl, trivial⟩⟩⟩⟩ rfl rfl

set_option maxRecDepth 100000 in
set_option maxHeartbeats 4000000 in
theorem szSh_nnn (x : Int) (y : Int) (z : Int) (n : Nat) (hn : n ≤ 1048576) : Sound Try.prog 15 [.agg #[vI x, vI y, vI z, .slice none 0 0, .slice none 0 0, .slice none 0 0], vN n] [] (vN n) [] := by
  refine sound_intro (C := cx) Try.func15 rfl (by kernel_rfl) fun hcl => ?_
  refine cSeq ?_
  refine cReg ?_
  refine segEnd [1, 2] (T1 := (mkT 24 [(1, vN n), (2, vP 0 0)])) (H1 := [rB [vI x, vI y, vI z, .slice none 0 0, .slice none 0 0, .slice none 0 0] 24]) (by kernel_rfl) ?_
  refine kSeq ?_
  refine cSeq ?_
  refine cReg ?_
  refine segH 3 (T1 := (mkT 24 [(1, vN n), (2, vP 0 0), (5, vP 0 3), (6, .slice none 0 0), (7, vN n)])) (by kernel_rfl) ?_
  refine rCall (v := vN n) (args := [.slice none 0 0, vN n]) (by kernel_rfl) rfl (by kernel_rfl) (Sound.lay0 [] (szI_N n (by first | omega | assumption | decide)) trivial rfl trivial rfl (by first | rfl | simp [mpV, mpA, mpS, mpP, renId, shift]) rfl) ?_
  refine segEndH [1, 2] (T1 := (mkT 24 [(1, vN n), (2, vP 0 0)])) (by kernel_rfl) ?_
  refine kSeq ?_
  refine cSeq ?_
  refine cSeq ?_
  refine cReg ?_
  refine segEndH [1, 2, 10] (T1 := (mkT 24 [(1, vN n), (2, vP 0 0), (10, .bool (decide (((n : Nat) : Int) < 0)))])) (by kernel_rfl) ?_
  refine kSeq ?_
  cases h1 : (decide (((n : Nat) : Int) < 0) : Bool)
  ·
    (try simp only [Bool.not_eq_true', Bool.not_eq_false', decide_eq_true_eq, decide_eq_false_iff_not, beq_iff_eq, bne_iff_ne, beq_eq_false_iff_ne, bne_eq_false_iff_eq, ne_eq, Decidable.not_not, Bool.and_eq_true, Bool.and_eq_false_imp, Bool.or_eq_true, Bool.or_eq_false_iff, Bool.not_eq_true, Int.not_lt, Int.not_le, ge_iff_le, gt_iff_lt] at h1)
    refine cFalse (by kernel_rfl) ?_
    refine cSkip ?_
    refine kSeq ?_
    refine cSeq ?_
    refine cReg ?_
    refine segH 3 (T1 := (mkT 24 [(1, vN n), (2, vP 0 0), (10, .bool false), (11, vP 0 4), (12, .slice none 0 0), (13, vN n)])) (by kernel_rfl) ?_
    refine rCall (v := vN n) (args := [.slice none 0 0, vN n]) (by kernel_rfl) rfl (by kernel_rfl) (Sound.lay0 [] (szI_N n (by first | omega | assumption | decide)) trivial rfl trivial rfl (by first | rfl | simp [mpV, mpA, mpS, mpP, renId, shift]) rfl) ?_
    refine segEndH [1, 2] (T1 := (mkT 24 [(1, vN n), (2, vP 0 0)])) (by kernel_rfl) ?_
    refine kSeq ?_
    refine cSeq ?_
    refine cSeq ?_
    refine cReg ?_
    refine segEndH [1, 2, 16] (T1 := (mkT 24 [(1, vN n), (2, vP 0 0), (16, .bool (decide (((n : Nat) : Int) < 0)))])) (by kernel_rfl) ?_
    refine kSeq ?_
    cases h2 : (decide (((n : Nat) : Int) < 0) : Bool)
    ·
      (try simp only [Bool.not_eq_true', Bool.not_eq_false', decide_eq_true_eq, decide_eq_false_iff_not, beq_iff_eq, bne_iff_ne, beq_eq_false_iff_ne, bne_eq_false_iff_eq, ne_eq, Decidable.not_not, Bool.and_eq_true, Bool.and_eq_false_imp, Bool.or_eq_true, Bool.or_eq_false_iff, Bool.not_eq_true, Int.not_lt, Int.not_le, ge_iff_le, gt_iff_lt] at h2)
      refine cFalse (by kernel_rfl) ?_
      refine cSkip ?_
      refine kSeq ?_
      refine cSeq ?_
      refine cReg ?_
      refine segH 3 (T1 := (mkT 24 [(1, vN n), (2, vP 0 0), (16, .bool false), (17, vP 0 5), (18, .slice none 0 0), (19, vN n)])) (by kernel_rfl) ?_
      refine rCall (v := vN n) (args := [.slice none 0 0, vN n]) (by kernel_rfl) rfl (by kernel_rfl) (Sound.lay0 [] (szI_N n (by first | omega | assumption | decide)) trivial rfl trivial rfl (by first | rfl | simp [mpV, mpA, mpS, mpP, renId, shift]) rfl) ?_
      refine segEndH [1] (T1 := (mkT 24 [(1, vN n)])) (by kernel_rfl) ?_
      refine kSeq ?_
      refine cSeq ?_
      refine cSeq ?_
      refine cReg ?_
      refine segEndH [1, 22] (T1 := (mkT 24 [(1, vN n), (22, .bool (decide (((n : Nat) : Int) < 0)))])) (by kernel_rfl) ?_
      refine kSeq ?_
      cases h3 : (decide (((n : Nat) : Int) < 0) : Bool)
      ·
        (try simp only [Bool.not_eq_true', Bool.not_eq_false', decide_eq_true_eq, decide_eq_false_iff_not, beq_iff_eq, bne_iff_ne, beq_eq_false_iff_ne, bne_eq_false_iff_eq, ne_eq, Decidable.not_not, Bool.and_eq_true, Bool.and_eq_false_imp, Bool.or_eq_true, Bool.or_eq_false_iff, Bool.not_eq_true, Int.not_lt, Int.not_le, ge_iff_le, gt_iff_lt] at h3)
        refine cFalse (by kernel_rfl) ?_
        refine cSkip ?_
        refine kSeq ?_
        refine cSeq ?_
        refine cReg ?_
        refine segEndH [4] (T1 := (mkT 24 [(4, vN n)])) (by kernel_rfl) ?_
        refine kSeq ?_
        refine cRet ?_
        -- end
        exact endQ (Or.inr rfl) (l := [vN n]) [rB [vI x, vI y, vI z, .slice none 0 0, .slice none 0 0, .slice none 0 0] 24] (by kernel_rfl) (by first | rfl | kernel_rfl) rfl rfl hcl rfl
      ·
        (try simp only [Bool.not_eq_true', Bool.not_eq_false', decide_eq_true_eq, decide_eq_false_iff_not, beq_iff_eq, bne_iff_ne, beq_eq_false_iff_ne, bne_eq_false_iff_eq, ne_eq, Decidable.not_not, Bool.and_eq_true, Bool.and_eq_false_imp, Bool.or_eq_true, Bool.or_eq_false_iff, Bool.not_eq_true, Int.not_lt, Int.not_le, ge_iff_le, gt_iff_lt] at h3)
        exfalso; omega
    ·
      (try simp only [Bool.not_eq_true', Bool.not_eq_false', decide_eq_true_eq, decide_eq_false_iff_not, beq_iff_eq, bne_iff_ne, beq_eq_false_iff_ne, bne_eq_false_iff_eq, ne_eq, Decidable.not_not, Bool.and_eq_true, Bool.and_eq_false_imp, Bool.or_eq_true, Bool.or_eq_false_iff, Bool.not_eq_true, Int.not_lt, Int.not_le, ge_iff_le, gt_iff_lt] at h2)
      exfalso; omega
  ·
    (try simp only [Bool.not_eq_true', Bool.not_eq_false', decide_eq_true_eq, decide_eq_false_iff_not, beq_iff_eq, bne_iff_ne, beq_eq_false_iff_ne, bne_eq_false_iff_eq, ne_eq, Decidable.not_not, Bool.and_eq_true, Bool.and_eq_false_imp, Bool.or_eq_true, Bool.or_eq_false_iff, Bool.not_eq_true, Int.not_lt, Int.not_le, ge_iff_le, gt_iff_lt] at h1)
    exfalso; omega

set_option maxRecDepth 100000 in
set_option maxHeartbeats 4000000 in
theorem toSh_nnn (x : Int) (y : Int) (z : Int)  : Sound Try.prog 17 [.agg #[vI x, vI y, vI z, .slice none 0 0, .slice none 0 0, .slice none 0 0]] [] (.agg #[vI x, vI y, vI z, vS 0 0, vS 1 0, vS 2 0]) [some ⟨nums ([] : List Int), 3, false, true⟩, some ⟨nums ([] : List Int), 3, false, true⟩, some ⟨nums ([] : List Int), 3, false, true⟩] := by
  refine sound_intro (C := cx) Try.func17 rfl (by kernel_rfl) fun hcl => ?_
  refine cSeq ?_
  refine cReg ?_
  refine segEnd [1, 2] (T1 := (mkT 26 [(1, vP 0 0), (2, vP 1 0)])) (H1 := [rB [vI x, vI y, vI z, .slice none 0 0, .slice none 0 0, .slice none 0 0] 24, rB [vI 0, vI 0, vI 0, .slice none 0 0, .slice none 0 0, .slice none 0 0] 27]) (by kernel_rfl) ?_
  refine kSeq ?_
  refine cSeq ?_
  refine cReg ?_
  refine segEnd [1, 2, 3] (T1 := (mkT 26 [(1, vP 0 0), (2, vP 1 0), (3, vP 2 0)])) (H1 := [rB [vI x, vI y, vI z, .slice none 0 0, .slice none 0 0, .slice none 0 0] 24, rB [vI 0, vI 0, vI 0, .slice none 0 0, .slice none 0 0, .slice none 0 0] 27, rB [vI 0, vI 0, vI 0, .slice none 0 0, .slice none 0 0, .slice none 0 0] 27]) (by kernel_rfl) ?_
  refine kSeq ?_
  refine cSeq ?_
  refine cReg ?_
  refine segEnd [1, 2, 3] (T1 := (mkT 26 [(1, vP 0 0), (2, vP 1 0), (3, vP 2 0)])) (H1 := [rB [vI x, vI y, vI z, .slice none 0 0, .slice none 0 0, .slice none 0 0] 24, rB [vI 0, vI 0, vI 0, .slice none 0 0, .slice none 0 0, .slice none 0 0] 27, rB [vI x, vI 0, vI 0, .slice none 0 0, .slice none 0 0, .slice none 0 0] 27]) (by kernel_rfl) ?_
  refine kSeq ?_
  refine cSeq ?_
  refine cReg ?_
  refine segEnd [1, 2, 3] (T1 := (mkT 26 [(1, vP 0 0), (2, vP 1 0), (3, vP 2 0)])) (H1 := [rB [vI x, vI y, vI z, .slice none 0 0, .slice none 0 0, .slice none 0 0] 24, rB [vI 0, vI 0, vI 0, .slice none 0 0, .slice none 0 0, .slice none 0 0] 27, rB [vI x, vI y, vI 0, .slice none 0 0, .slice none 0 0, .slice none 0 0] 27]) (by kernel_rfl) ?_
  refine kSeq ?_
  refine cSeq ?_
  refine cReg ?_
  refine segEnd [1, 2, 3] (T1 := (mkT 26 [(1, vP 0 0), (2, vP 1 0), (3, vP 2 0)])) (H1 := [rB [vI x, vI y, vI z, .slice none 0 0, .slice none 0 0, .slice none 0 0] 24, rB [vI 0, vI 0, vI 0, .slice none 0 0, .slice none 0 0, .slice none 0 0] 27, rB [vI x, vI y, vI z, .slice none 0 0, .slice none 0 0, .slice none 0 0] 27]) (by kernel_rfl) ?_
  refine kSeq ?_
  refine cSeq ?_
  refine cReg ?_
  refine segH 2 (T1 := (mkT 26 [(1, vP 0 0), (2, vP 1 0), (3, vP 2 0), (13, vP 0 3), (14, .slice none 0 0)])) (by kernel_rfl) ?_
  refine rCall (v := vS 3 0) (args := [.slice none 0 0]) (by kernel_rfl) rfl (by kernel_rfl) (Sound.lay (E := [some ⟨nums ([] : List Int), 3, false, true⟩]) [] (toI_N) trivial rfl trivial rfl (by first | rfl | simp [mpV, mpA, mpS, mpP, renId, shift]) rfl ⟨enF (flatNums _ _ _ _) (Or.inl rfl), trivial⟩) ?_
  refine segEnd [1, 2, 3] (T1 := (mkT 26 [(1, vP 0 0), (2, vP 1 0), (3, vP 2 0)])) (H1 := [rB [vI x, vI y, vI z, .slice none 0 0, .slice none 0 0, .slice none 0 0] 24, rB [vI 0, vI 0, vI 0, .slice none 0 0, .slice none 0 0, .slice none 0 0] 27, rB [vI x, vI y, vI z, vS 3 0, .slice none 0 0, .slice none 0 0] 27, some ⟨nums ([] : List Int), 3, false, true⟩]) (by kernel_rfl) ?_
  refine kSeq ?_
  refine cSeq ?_
  refine cReg ?_
  refine segH 2 (T1 := (mkT 26 [(1, vP 0 0), (2, vP 1 0), (3, vP 2 0), (17, vP 0 4), (18, .slice none 0 0)])) (by kernel_rfl) ?_
  refine rCall (v := vS 4 0) (args := [.slice none 0 0]) (by kernel_rfl) rfl (by kernel_rfl) (Sound.lay (E := [some ⟨nums ([] : List Int), 3, false, true⟩]) [] (toI_N) trivial rfl trivial rfl (by first | rfl | simp [mpV, mpA, mpS, mpP, renId, shift]) rfl ⟨enF (flatNums _ _ _ _) (Or.inl rfl), trivial⟩) ?_
  refine segEnd [1, 2, 3] (T1 := (mkT 26 [(1, vP 0 0), (2, vP 1 0), (3, vP 2 0)])) (H1 := [rB [vI x, vI y, vI z, .slice none 0 0, .slice none 0 0, .slice none 0 0] 24, rB [vI 0, vI 0, vI 0, .slice none 0 0, .slice none 0 0, .slice none 0 0] 27, rB [vI x, vI y, vI z, vS 3 0, vS 4 0, .slice none 0 0] 27, some ⟨nums ([] : List Int), 3, false, true⟩, some ⟨nums ([] : List Int), 3, false, true⟩]) (by kernel_rfl) ?_
  refine kSeq ?_
  refine cSeq ?_
  refine cReg ?_
  refine segH 2 (T1 := (mkT 26 [(1, vP 0 0), (2, vP 1 0), (3, vP 2 0), (21, vP 0 5), (22, .slice none 0 0)])) (by kernel_rfl) ?_
  refine rCall (v := vS 5 0) (args := [.slice none 0 0]) (by kernel_rfl) rfl (by kernel_rfl) (Sound.lay (E := [some ⟨nums ([] : List Int), 3, false, true⟩]) [] (toI_N) trivial rfl trivial rfl (by first | rfl | simp [mpV, mpA, mpS, mpP, renId, shift]) rfl ⟨enF (flatNums _ _ _ _) (Or.inl rfl), trivial⟩) ?_
  refine segEnd [2, 3] (T1 := (mkT 26 [(2, vP 1 0), (3, vP 2 0)])) (H1 := [rB [vI x, vI y, vI z, .slice none 0 0, .slice none 0 0, .slice none 0 0] 24, rB [vI 0, vI 0, vI 0, .slice none 0 0, .slice none 0 0, .slice none 0 0] 27, rB [vI x, vI y, vI z, vS 3 0, vS 4 0, vS 5 0] 27, some ⟨nums ([] : List Int), 3, false, true⟩, some ⟨nums ([] : List Int), 3, false, true⟩, some ⟨nums ([] : List Int), 3, false, true⟩]) (by kernel_rfl) ?_
  refine kSeq ?_
  refine cSeq ?_
  refine cReg ?_
  refine segEnd [2] (T1 := (mkT 26 [(2, vP 1 0)])) (H1 := [rB [vI x, vI y, vI z, .slice none 0 0, .slice none 0 0, .slice none 0 0] 24, rB [vI x, vI y, vI z, vS 3 0, vS 4 0, vS 5 0] 27, rB [vI x, vI y, vI z, vS 3 0, vS 4 0, vS 5 0] 27, some ⟨nums ([] : List Int), 3, false, true⟩, some ⟨nums ([] : List Int), 3, false, true⟩, some ⟨nums ([] : List Int), 3, false, true⟩]) (by kernel_rfl) ?_
  refine kSeq ?_
  refine cRet ?_
  -- end
  exact endF (Or.inr rfl) (l := [.agg #[vI x, vI y, vI z, vS 3 0, vS 4 0, vS 5 0]]) [3, 4, 5] (by kernel_rfl) (by first | rfl | simp [packR, mpV, mpA, mpS, mpP, renId]) ⟨rrF (flatNums _ _ _ _) rfl, ⟨rrF (flatNums _ _ _ _) rfl, ⟨rrF (flatNums _ _ _ _) rfl, trivial⟩⟩⟩ rfl rfl

set_option maxRecDepth 100000 in
set_option maxHeartbeats 4000000 in
theorem eqSh (x : Int) (y : Int) (z : Int) (A : List Int) (B : List Int) (C : List Int) (hA : A.length ≤ 1048576) (hB : B.length ≤ 1048576) (hC : C.length ≤ 1048576) : Sound Try.prog 19 [.agg #[vI x, vI y, vI z, vS 0 A.length, vS 1 B.length, vS 2 C.length], .agg #[vI x, vI y, vI z, vS 3 A.length, vS 4 B.length, vS 5 C.length]] [some ⟨nums A, 3, false, false⟩, some ⟨nums B, 3, false, false⟩, some ⟨nums C, 3, false, false⟩, some ⟨nums A, 3, false, false⟩, some ⟨nums B, 3, false, false⟩, some ⟨nums C, 3, false, false⟩] (.bool true) [some ⟨nums A, 3, false, false⟩, some ⟨nums B, 3, false, false⟩, some ⟨nums C, 3, false, false⟩, some ⟨nums A, 3, false, false⟩, some ⟨nums B, 3, false, false⟩, some ⟨nums C, 3, false, false⟩] := by
  refine sound_intro (C := cx) Try.func19 rfl (by kernel_rfl) fun hcl => ?_
  refine cSeq ?_
  refine cReg ?_
  refine segEnd [2, 3] (T1 := (mkT 38 [(2, vP 6 0), (3, vP 7 0)])) (H1 := [some ⟨nums A, 3, false, false⟩, some ⟨nums B, 3, false, false⟩, some ⟨nums C, 3, false, false⟩, some ⟨nums A, 3, false, false⟩, some ⟨nums B, 3, false, false⟩, some ⟨nums C, 3, false, false⟩, rB [vI x, vI y, vI z, vS 0 A.length, vS 1 B.length, vS 2 C.length] 27, rB [vI x, vI y, vI z, vS 3 A.length, vS 4 B.length, vS 5 C.length] 27]) (by kernel_rfl) ?_
  refine kSeq ?_
  refine cSeq ?_
  refine cSeq ?_
  refine cReg ?_
  refine segH 4 (T1 := (mkT 38 [(2, vP 6 0), (3, vP 7 0), (5, vP 6 0), (6, vI x), (7, vP 7 0), (8, vI x)])) (by kernel_rfl) ?_
  refine rOp (v := .bool false) (by kernel_rfl) (eNeS (k := .i64) (a := x) (by kernel_rfl) (by kernel_rfl)) ?_
  refine segEndH [2, 3, 9] (T1 := (mkT 38 [(2, vP 6 0), (3, vP 7 0), (9, .bool false)])) (by kernel_rfl) ?_
  refine kSeq ?_
  refine cFalse (by kernel_rfl) ?_
  refine cSkip ?_
  refine kSeq ?_
  refine cSeq ?_
  refine cSeq ?_
  refine cReg ?_
  refine segH 4 (T1 := (mkT 38 [(2, vP 6 0), (3, vP 7 0), (9, .bool false), (10, vP 6 1), (11, vI y), (12, vP 7 1), (13, vI y)])) (by kernel_rfl) ?_
  refine rOp (v := .bool false) (by kernel_rfl) (eNeS (k := .i64) (a := y) (by kernel_rfl) (by kernel_rfl)) ?_
  refine segEndH [2, 3, 14] (T1 := (mkT 38 [(2, vP 6 0), (3, vP 7 0), (14, .bool false)])) (by kernel_rfl) ?_
  refine kSeq ?_
  refine cFalse (by kernel_rfl) ?_
  refine cSkip ?_
  refine kSeq ?_
  refine cSeq ?_
  refine cSeq ?_
  refine cReg ?_
  refine segH 4 (T1 := (mkT 38 [(2, vP 6 0), (3, vP 7 0), (14, .bool false), (15, vP 6 2), (16, vI z), (17, vP 7 2), (18, vI z)])) (by kernel_rfl) ?_
  refine rOp (v := .bool false) (by kernel_rfl) (eNeS (k := .i64) (a := z) (by kernel_rfl) (by kernel_rfl)) ?_
  refine segEndH [2, 3, 19] (T1 := (mkT 38 [(2, vP 6 0), (3, vP 7 0), (19, .bool false)])) (by kernel_rfl) ?_
  refine kSeq ?_
  refine cFalse (by kernel_rfl) ?_
  refine cSkip ?_
  refine kSeq ?_
  refine cSeq ?_
  refine cSeq ?_
  refine cReg ?_
  refine segH 4 (T1 := (mkT 38 [(2, vP 6 0), (3, vP 7 0), (19, .bool false), (20, vP 6 3), (21, vS 0 A.length), (22, vP 7 3), (23, vS 3 A.length)])) (by kernel_rfl) ?_
  refine rCall (v := .bool true) (args := [vS 0 A.length, vS 3 A.length]) (by kernel_rfl) rfl (by kernel_rfl) (Sound.lay0 [0, 3] (eqI_S A (by first | omega | assumption | (simp; done) | (simp; omega))) ⟨rdF false (flatNums _ _ _ _) rfl rfl, ⟨rdF false (flatNums _ _ _ _) rfl rfl, trivial⟩⟩ rfl ⟨clF (flatNums _ _ _ _), ⟨clF (flatNums _ _ _ _), trivial⟩⟩ rfl (by first | rfl | simp [mpV, mpA, mpS, mpP, renId, shift]) rfl) ?_
  refine segEndH [2, 3, 25] (T1 := (mkT 38 [(2, vP 6 0), (3, vP 7 0), (25, .bool false)])) (by kernel_rfl) ?_
  refine kSeq ?_
  refine cFalse (by kernel_rfl) ?_
  refine cSkip ?_
  refine kSeq ?_
  refine cSeq ?_
  refine cSeq ?_
  refine cReg ?_
  refine segH 4 (T1 := (mkT 38 [(2, vP 6 0), (3, vP 7 0), (25, .bool false), (26, vP 6 4), (27, vS 1 B.length), (28, vP 7 4), (29, vS 4 B.length)])) (by kernel_rfl) ?_
  refine rCall (v := .bool true) (args := [vS 1 B.length, vS 4 B.length]) (by kernel_rfl) rfl (by kernel_rfl) (Sound.lay0 [1, 4] (eqI_S B (by first | omega | assumption | (simp; done) | (simp; omega))) ⟨rdF false (flatNums _ _ _ _) rfl rfl, ⟨rdF false (flatNums _ _ _ _) rfl rfl, trivial⟩⟩ rfl ⟨clF (flatNums _ _ _ _), ⟨clF (flatNums _ _ _ _), trivial⟩⟩ rfl (by first | rfl | simp [mpV, mpA, mpS, mpP, renId, shift]) rfl) ?_
  refine segEndH [2, 3, 31] (T1 := (mkT 38 [(2, vP 6 0), (3, vP 7 0), (31, .bool false)])) (by kernel_rfl) ?_
  refine kSeq ?_
  refine cFalse (by kernel_rfl) ?_
  refine cSkip ?_
  refine kSeq ?_
  refine cSeq ?_
  refine cSeq ?_
  refine cReg ?_
  refine segH 4 (T1 := (mkT 38 [(2, vP 6 0), (3, vP 7 0), (31, .bool false), (32, vP 6 5), (33, vS 2 C.length), (34, vP 7 5), (35, vS 5 C.length)])) (by kernel_rfl) ?_
  refine rCall (v := .bool true) (args := [vS 2 C.length, vS 5 C.length]) (by kernel_rfl) rfl (by kernel_rfl) (Sound.lay0 [2, 5] (eqI_S C (by first | omega | assumption | (simp; done) | (simp; omega))) ⟨rdF false (flatNums _ _ _ _) rfl rfl, ⟨rdF false (flatNums _ _ _ _) rfl rfl, trivial⟩⟩ rfl ⟨clF (flatNums _ _ _ _), ⟨clF (flatNums _ _ _ _), trivial⟩⟩ rfl (by first | rfl | simp [mpV, mpA, mpS, mpP, renId, shift]) rfl) ?_
  refine segEndH [37] (T1 := (mkT 38 [(37, .bool false)])) (by kernel_rfl) ?_
  refine kSeq ?_
  refine cFalse (by kernel_rfl) ?_
  refine cSkip ?_
  refine kSeq ?_
  refine cSeq ?_
  refine cReg ?_
  refine segEndH [4] (T1 := (mkT 38 [(4, .bool true)])) (by kernel_rfl) ?_
  refine kSeq ?_
  refine cRet ?_
  -- end
  exact endQ (Or.inr rfl) (l := [.bool true]) [rB [vI x, vI y, vI z, vS 0 A.length, vS 1 B.length, vS 2 C.length] 27, rB [vI x, vI y, vI z, vS 3 A.length, vS 4 B.length, vS 5 C.length] 27] (by kernel_rfl) (by first | rfl | kernel_rfl) rfl rfl hcl rfl
end Go.Proofs.Ytbheeobnghlckaa
