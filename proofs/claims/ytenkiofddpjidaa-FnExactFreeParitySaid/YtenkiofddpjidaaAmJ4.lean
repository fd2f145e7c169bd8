/- Walks. No condition. -/
import Derived.Test.YtenkiofddpjidaaAmJ3
set_option linter.unusedVariables false
set_option linter.unusedSimpArgs false
namespace Go.Proofs.Ytenkiofddpjidaa
open Go.Am Go.RowKit
set_option maxRecDepth 100000 in
set_option maxHeartbeats 4000000 in
theorem parityB (L : List A3) (hl : L.length ≤ 1048576) (hsm : SmallL L) : Sound Try.prog 78 [vS 0 L.length] [some ⟨a3s L, 25, false, false⟩] (vI (parL L)) [some ⟨a3s L, 25, false, false⟩] := by
  refine sound_intro (C := cx) Try.func78 rfl (by kernel_rfl) fun hcl => ?_
  refine cSeq ?_
  refine cReg ?_
  refine segEndH [0] (T1 := (mkT 27 [(0, vS 0 L.length)])) (by kernel_rfl) ?_
  refine kSeq ?_
  refine cSeq ?_
  refine cReg ?_
  refine segEndH [0, 3] (T1 := (mkT 27 [(0, vS 0 L.length), (3, vI 0)])) (by kernel_rfl) ?_
  refine kSeq ?_
  refine cSeq ?_
  refine cSeq ?_
  refine cReg ?_
  refine segEndH [3, 6, 7, 8] (T1 := (mkT 27 [(3, vI 0), (6, vS 0 L.length), (7, vN L.length), (8, vI 0)])) (by kernel_rfl) ?_
  refine kSeq ?_
  refine cBlk ?_
  -- loop
  refine cLoop (fun mm T H => ∃ i : Nat, ∃ s : Int, (i ≤ L.length) ∧ (s = parL (L.take i)) ∧ (-(i : Int) ≤ s ∧ s ≤ i) ∧ mm = L.length - i ∧ T = (mkT 27 [(3, vI s), (6, vS 0 L.length), (7, vN L.length), (8, vN i)]) ∧ H = [some ⟨a3s L, 25, false, false⟩]) (L.length - 0) (mkT 27 [(3, vI 0), (6, vS 0 L.length), (7, vN L.length), (8, vI 0)]) [some ⟨a3s L, 25, false, false⟩] (wkSame [3, 6, 7, 8] (by kernel_rfl)) ?_ ?_
  · exact ⟨0, 0, (Nat.zero_le _), (rfl), (by omega), rfl, rfl, rfl⟩
  · rintro _ _ _ ⟨i, s, hi, hs1, hb, rfl, rfl, rfl⟩
    refine cSeq ?_
    refine cReg ?_
    refine segEndH [3, 6, 7, 8, 9] (T1 := (mkT 27 [(3, vI s), (6, vS 0 L.length), (7, vN L.length), (8, vN i), (9, .bool (decide (((i : Nat) : Int) < ((L.length : Nat) : Int))))])) (by kernel_rfl) ?_
    refine kSeq ?_
    refine cSeq ?_
    cases h1 : (decide (((i : Nat) : Int) < ((L.length : Nat) : Int)) : Bool)
    ·
      (try simp only [Bool.not_eq_true', Bool.not_eq_false', decide_eq_true_eq, decide_eq_false_iff_not, beq_iff_eq, bne_iff_ne, beq_eq_false_iff_ne, bne_eq_false_iff_eq, ne_eq, Decidable.not_not, Bool.and_eq_true, Bool.and_eq_false_imp, Bool.or_eq_true, Bool.or_eq_false_iff, Bool.not_eq_true, Int.not_lt, Int.not_le, ge_iff_le, gt_iff_lt] at h1)
      refine cFalse (by kernel_rfl) ?_
      refine cExit ?_
      refine kSeqE ?_
      refine kLoopE ?_
      refine kBlkHit ?_
      refine kSeq ?_
      refine cSeq ?_
      refine cReg ?_
      refine segEndH [2] (T1 := (mkT 27 [(2, vI s)])) (by kernel_rfl) ?_
      refine kSeq ?_
      refine cRet ?_
      -- end
      have he0 : (s : Int) = parL L := by first | omega | (rw [hs1, show i = L.length by omega, List.take_length])
      refine endCast (v1 := vI s) (H1 := [some ⟨a3s L, 25, false, false⟩]) (by first | rfl | ((try rw [← he0]); done) | (simp only [← he0]; done)) (by first | rfl | ((try rw [← he0]); done) | (simp only [← he0]; done)) ?_
      exact endQ (Or.inr rfl) (l := [vI s]) [] (by kernel_rfl) (by first | rfl | kernel_rfl) rfl rfl hcl rfl
    ·
      (try simp only [Bool.not_eq_true', Bool.not_eq_false', decide_eq_true_eq, decide_eq_false_iff_not, beq_iff_eq, bne_iff_ne, beq_eq_false_iff_ne, bne_eq_false_iff_eq, ne_eq, Decidable.not_not, Bool.and_eq_true, Bool.and_eq_false_imp, Bool.or_eq_true, Bool.or_eq_false_iff, Bool.not_eq_true, Int.not_lt, Int.not_le, ge_iff_le, gt_iff_lt] at h1)
      have hc0 := hsm.at (i := i) (by omega)
      refine cTrue (by kernel_rfl) ?_
      refine cSkip ?_
      refine kSeq ?_
      refine cSeq ?_
      refine cBlk ?_
      refine cSeq ?_
      refine cReg ?_
      refine rOp (v := vP 0 (i * 3)) (by kernel_rfl) (eIdxS (ad := ⟨0, 0, none⟩) (n := L.length) (m := 0) (k := .i64) (c := ((i : Nat) : Int)) (j := i) (o := i * 3) (by kernel_rfl) (by kernel_rfl) ti22 ti25 (rfl) (by omega) (by exact Nat.zero_add _)) ?_
      refine rOp (v := .agg #[vI ((L.getD i default).x), vI ((L.getD i default).y), vI ((L.getD i default).z)]) (by kernel_rfl) (eLdA3 (ad := ⟨0, i * 3, none⟩) (r := ⟨a3s L, 25, false, false⟩) (L := L) (j := i) (by kernel_rfl) (by kernel_rfl) rfl (by first | rfl | omega) (by omega) ti25) ?_
      refine segEnd [3, 5, 6, 7, 8] (T1 := (mkT 27 [(3, vI s), (5, vP 1 0), (6, vS 0 L.length), (7, vN L.length), (8, vN i)])) (H1 := [some ⟨a3s L, 25, false, false⟩, rB [vI ((L.getD i default).x), vI ((L.getD i default).y), vI ((L.getD i default).z)] 25]) (by kernel_rfl) ?_
      refine kSeq ?_
      refine cReg ?_
      refine segH 5 (T1 := (mkT 27 [(3, vI s), (5, vP 1 0), (6, vS 0 L.length), (7, vN L.length), (8, vN i), (12, vI s), (13, vP 1 0), (14, vI ((L.getD i default).x)), (15, vP 1 1), (16, vI ((L.getD i default).y))])) (by kernel_rfl) ?_
      refine rOp (v := vI ((L.getD i default).x + ((L.getD i default).y))) (by kernel_rfl) (eAdd (k := .i64) (a := ((L.getD i default).x)) (b := ((L.getD i default).y)) (c := ((L.getD i default).x + ((L.getD i default).y))) (by kernel_rfl) (by kernel_rfl) (wr64 (by omega) (by omega) (by omega))) ?_
      refine segH 2 (T1 := (mkT 27 [(3, vI s), (5, vP 1 0), (6, vS 0 L.length), (7, vN L.length), (8, vN i), (12, vI s), (13, vP 1 0), (14, vI ((L.getD i default).x)), (15, vP 1 1), (16, vI ((L.getD i default).y)), (17, vI ((L.getD i default).x + ((L.getD i default).y))), (18, vP 1 2), (19, vI ((L.getD i default).z))])) (by kernel_rfl) ?_
      refine rOp (v := vI ((L.getD i default).x + ((L.getD i default).y) + ((L.getD i default).z))) (by kernel_rfl) (eAdd (k := .i64) (a := ((L.getD i default).x + ((L.getD i default).y))) (b := ((L.getD i default).z)) (c := ((L.getD i default).x + ((L.getD i default).y) + ((L.getD i default).z))) (by kernel_rfl) (by kernel_rfl) (wr64 (by omega) (by omega) (by omega))) ?_
      refine rOp (v := vI (((L.getD i default).x + ((L.getD i default).y) + ((L.getD i default).z)) % 2)) (by kernel_rfl) (eRem (k := .i64) (a := ((L.getD i default).x + ((L.getD i default).y) + ((L.getD i default).z))) (b := 2) (c := (((L.getD i default).x + ((L.getD i default).y) + ((L.getD i default).z)) % 2)) (by kernel_rfl) (by kernel_rfl) (by omega) (Int.tmod_eq_emod_of_nonneg (by omega))) ?_
      refine rOp (v := vI (2 * (((L.getD i default).x + ((L.getD i default).y) + ((L.getD i default).z)) % 2))) (by kernel_rfl) (eMul (k := .i64) (a := 2) (b := (((L.getD i default).x + ((L.getD i default).y) + ((L.getD i default).z)) % 2)) (c := (2 * (((L.getD i default).x + ((L.getD i default).y) + ((L.getD i default).z)) % 2))) (by kernel_rfl) (by kernel_rfl) (wr64 (by omega) (by omega) (by omega))) ?_
      refine rOp (v := vI (1 - (2 * (((L.getD i default).x + ((L.getD i default).y) + ((L.getD i default).z)) % 2)))) (by kernel_rfl) (eSub (k := .i64) (a := 1) (b := (2 * (((L.getD i default).x + ((L.getD i default).y) + ((L.getD i default).z)) % 2))) (c := (1 - (2 * (((L.getD i default).x + ((L.getD i default).y) + ((L.getD i default).z)) % 2)))) (by kernel_rfl) (by kernel_rfl) (wr64 (by omega) (by omega) (by omega))) ?_
      refine rOp (v := vI (s + (1 - (2 * (((L.getD i default).x + ((L.getD i default).y) + ((L.getD i default).z)) % 2))))) (by kernel_rfl) (eAdd (k := .i64) (a := s) (b := (1 - (2 * (((L.getD i default).x + ((L.getD i default).y) + ((L.getD i default).z)) % 2)))) (c := (s + (1 - (2 * (((L.getD i default).x + ((L.getD i default).y) + ((L.getD i default).z)) % 2))))) (by kernel_rfl) (by kernel_rfl) (wr64 (by omega) (by omega) (by omega))) ?_
      refine segEndH [3, 6, 7, 8] (T1 := (mkT 27 [(3, vI (s + (1 - (2 * (((L.getD i default).x + ((L.getD i default).y) + ((L.getD i default).z)) % 2))))), (6, vS 0 L.length), (7, vN L.length), (8, vN i)])) (by kernel_rfl) ?_
      refine kBlk ?_
      refine kSeq ?_
      refine cReg ?_
      refine rOp (v := vN (i + 1)) (by kernel_rfl) (eAdd (k := .i64) (a := ((i : Nat) : Int)) (b := 1) (c := ((i + 1 : Nat) : Int)) (by kernel_rfl) (by kernel_rfl) (wr64 (by omega) (by omega) (by omega))) ?_
      refine segEndH [3, 6, 7, 8] (T1 := (mkT 27 [(3, vI (s + (1 - (2 * (((L.getD i default).x + ((L.getD i default).y) + ((L.getD i default).z)) % 2))))), (6, vS 0 L.length), (7, vN L.length), (8, vN (i + 1))])) (by kernel_rfl) ?_
      exact kLoop (L.length - (i + 1)) (mkT 27 [(3, vI (s + (1 - (2 * (((L.getD i default).x + ((L.getD i default).y) + ((L.getD i default).z)) % 2))))), (6, vS 0 L.length), (7, vN L.length), (8, vN (i + 1))]) [some ⟨a3s L, 25, false, false⟩] (by omega) (wkDrop [3, 6, 7, 8] _ rfl rfl ((closedL ⟨clF (flatA3 _ _ _ _), trivial⟩)) (by kernel_rfl) rfl) ⟨(i + 1), (s + (1 - (2 * (((L.getD i default).x + ((L.getD i default).y) + ((L.getD i default).z)) % 2)))), (by omega), (by rw [hs1, parL_take (by omega)]; unfold parC; omega), (by omega), rfl, rfl, rfl⟩

set_option maxRecDepth 100000 in
set_option maxHeartbeats 4000000 in
theorem l9ParityB (L : List A3) (hl : L.length ≤ 1048576) (hsm : SmallL L) : Sound Try.prog 76 [vS 0 L.length] [some ⟨a3s L, 25, false, false⟩] (vI (parL L)) [some ⟨a3s L, 25, false, false⟩] := by
  refine sound_intro (C := cx) Try.func76 rfl (by kernel_rfl) fun hcl => ?_
  refine cSeq ?_
  refine cReg ?_
  refine segEndH [0] (T1 := (mkT 34 [(0, vS 0 L.length)])) (by kernel_rfl) ?_
  refine kSeq ?_
  refine cSeq ?_
  refine cReg ?_
  refine segEndH [0, 3] (T1 := (mkT 34 [(0, vS 0 L.length), (3, vI 0)])) (by kernel_rfl) ?_
  refine kSeq ?_
  refine cSeq ?_
  refine cSeq ?_
  refine cReg ?_
  refine segEndH [0, 3, 4] (T1 := (mkT 34 [(0, vS 0 L.length), (3, vI 0), (4, vI 0)])) (by kernel_rfl) ?_
  refine kSeq ?_
  refine cBlk ?_
  -- loop
  refine cLoop (fun mm T H => ∃ i : Nat, ∃ s : Int, (i ≤ L.length) ∧ (s = parL (L.take i)) ∧ (-(i : Int) ≤ s ∧ s ≤ i) ∧ mm = L.length - i ∧ T = (mkT 34 [(0, vS 0 L.length), (3, vI s), (4, vN i)]) ∧ H = [some ⟨a3s L, 25, false, false⟩]) (L.length - 0) (mkT 34 [(0, vS 0 L.length), (3, vI 0), (4, vI 0)]) [some ⟨a3s L, 25, false, false⟩] (wkSame [0, 3, 4] (by kernel_rfl)) ?_ ?_
  · exact ⟨0, 0, (Nat.zero_le _), (rfl), (by omega), rfl, rfl, rfl⟩
  · rintro _ _ _ ⟨i, s, hi, hs1, hb, rfl, rfl, rfl⟩
    refine cSeq ?_
    refine cSeq ?_
    refine cReg ?_
    refine segEndH [0, 3, 4, 8] (T1 := (mkT 34 [(0, vS 0 L.length), (3, vI s), (4, vN i), (8, .bool (decide (((i : Nat) : Int) < ((L.length : Nat) : Int))))])) (by kernel_rfl) ?_
    refine kSeq ?_
    cases h1 : (decide (((i : Nat) : Int) < ((L.length : Nat) : Int)) : Bool)
    ·
      (try simp only [Bool.not_eq_true', Bool.not_eq_false', decide_eq_true_eq, decide_eq_false_iff_not, beq_iff_eq, bne_iff_ne, beq_eq_false_iff_ne, bne_eq_false_iff_eq, ne_eq, Decidable.not_not, Bool.and_eq_true, Bool.and_eq_false_imp, Bool.or_eq_true, Bool.or_eq_false_iff, Bool.not_eq_true, Int.not_lt, Int.not_le, ge_iff_le, gt_iff_lt] at h1)
      refine cFalse (by kernel_rfl) ?_
      refine cExit ?_
      refine kSeqE ?_
      refine kLoopE ?_
      refine kBlkHit ?_
      refine kSeq ?_
      refine cSeq ?_
      refine cReg ?_
      refine segEndH [2] (T1 := (mkT 34 [(2, vI s)])) (by kernel_rfl) ?_
      refine kSeq ?_
      refine cRet ?_
      -- end
      have he0 : (s : Int) = parL L := by first | omega | (rw [hs1, show i = L.length by omega, List.take_length])
      refine endCast (v1 := vI s) (H1 := [some ⟨a3s L, 25, false, false⟩]) (by first | rfl | ((try rw [← he0]); done) | (simp only [← he0]; done)) (by first | rfl | ((try rw [← he0]); done) | (simp only [← he0]; done)) ?_
      exact endQ (Or.inr rfl) (l := [vI s]) [] (by kernel_rfl) (by first | rfl | kernel_rfl) rfl rfl hcl rfl
    ·
      (try simp only [Bool.not_eq_true', Bool.not_eq_false', decide_eq_true_eq, decide_eq_false_iff_not, beq_iff_eq, bne_iff_ne, beq_eq_false_iff_ne, bne_eq_false_iff_eq, ne_eq, Decidable.not_not, Bool.and_eq_true, Bool.and_eq_false_imp, Bool.or_eq_true, Bool.or_eq_false_iff, Bool.not_eq_true, Int.not_lt, Int.not_le, ge_iff_le, gt_iff_lt] at h1)
      have hc0 := hsm.at (i := i) (by omega)
      refine cTrue (by kernel_rfl) ?_
      refine cSkip ?_
      refine kSeq ?_
      refine cSeq ?_
      refine cBlk ?_
      refine cRegW (N := 1) [⟨[], [], []⟩, ⟨[], [], []⟩, ⟨[], [], []⟩, ⟨[], [], []⟩, ⟨[], [], []⟩, ⟨[], [], []⟩, ⟨[], [], [0]⟩, ⟨[], [], []⟩, ⟨[], [], []⟩, ⟨[], [], []⟩, ⟨[], [], []⟩, ⟨[], [], [0]⟩, ⟨[], [], []⟩, ⟨[], [], []⟩, ⟨[], [], []⟩, ⟨[], [], []⟩, ⟨[], [], []⟩, ⟨[], [], [0]⟩, ⟨[], [], []⟩, ⟨[], [], []⟩, ⟨[], [], []⟩, ⟨[], [], []⟩, ⟨[], [], []⟩] 0 [] (by rfl) (by rfl) (by kernel_rfl) (by kernel_rfl) (by kernel_rfl) ⟨nmsF (flatA3 _ _ _ _), trivial⟩ ?_
      refine segWH 1 (T1 := (mkT 34 [(0, vS 0 L.length), (3, vI s), (4, vN i), (8, .bool true), (11, vI s)])) (by kernel_rfl) ?_
      refine rW (m := ⟨[], [], []⟩) (v := vI (s + 1)) rfl (by kernel_rfl) (stId (eAdd (k := .i64) (a := s) (b := 1) (c := (s + 1)) (by kernel_rfl) (by kernel_rfl) (wr64 (by omega) (by omega) (by omega))) rfl (by kernel_rfl) (by kernel_rfl) (by kernel_rfl)) (by kernel_rfl) nr0 ?_
      refine segWH 2 (T1 := (mkT 34 [(0, vS 0 L.length), (3, vI s), (4, vN i), (8, .bool true), (11, vI s), (12, vI (s + 1)), (13, vS 0 L.length), (14, vN i)])) (by kernel_rfl) ?_
      refine rW (m := ⟨[], [], []⟩) (v := vP 0 (i * 3)) rfl (by kernel_rfl) (stId (eIdxS (ad := ⟨0, 0, none⟩) (n := L.length) (m := 0) (k := .i64) (c := ((i : Nat) : Int)) (j := i) (o := i * 3) (by kernel_rfl) (by kernel_rfl) ti22 ti25 (rfl) (by omega) (by exact Nat.zero_add _)) rfl (by kernel_rfl) (by kernel_rfl) (by kernel_rfl)) (by kernel_rfl) nr0 ?_
      refine segWH 1 (T1 := (mkT 34 [(0, vS 0 L.length), (3, vI s), (4, vN i), (8, .bool true), (11, vI s), (12, vI (s + 1)), (13, vS 0 L.length), (14, vN i), (15, vP 0 (i * 3)), (16, vP 0 (i * 3 + 0))])) (by kernel_rfl) ?_
      refine rW (m := ⟨[], [], [0]⟩) (v := vI ((L.getD i default).x)) rfl (by kernel_rfl) (stId (eLdA3i (ad := ⟨0, i * 3 + 0, none⟩) (r := ⟨a3s L, 25, false, false⟩) (L := L) (j := i) (i := 0) (by kernel_rfl) (by kernel_rfl) rfl (by first | rfl | omega) (by omega) ti3 rfl rfl) rfl (by kernel_rfl) (by kernel_rfl) (by kernel_rfl)) (by kernel_rfl) nr0 ?_
      refine segWH 2 (T1 := (mkT 34 [(0, vS 0 L.length), (3, vI s), (4, vN i), (8, .bool true), (11, vI s), (12, vI (s + 1)), (13, vS 0 L.length), (14, vN i), (15, vP 0 (i * 3)), (16, vP 0 (i * 3 + 0)), (17, vI ((L.getD i default).x)), (18, vS 0 L.length), (19, vN i)])) (by kernel_rfl) ?_
      refine rW (m := ⟨[], [], []⟩) (v := vP 0 (i * 3)) rfl (by kernel_rfl) (stId (eIdxS (ad := ⟨0, 0, none⟩) (n := L.length) (m := 0) (k := .i64) (c := ((i : Nat) : Int)) (j := i) (o := i * 3) (by kernel_rfl) (by kernel_rfl) ti22 ti25 (rfl) (by omega) (by exact Nat.zero_add _)) rfl (by kernel_rfl) (by kernel_rfl) (by kernel_rfl)) (by kernel_rfl) nr0 ?_
      refine segWH 1 (T1 := (mkT 34 [(0, vS 0 L.length), (3, vI s), (4, vN i), (8, .bool true), (11, vI s), (12, vI (s + 1)), (13, vS 0 L.length), (14, vN i), (15, vP 0 (i * 3)), (16, vP 0 (i * 3 + 0)), (17, vI ((L.getD i default).x)), (18, vS 0 L.length), (19, vN i), (20, vP 0 (i * 3)), (21, vP 0 (i * 3 + 1))])) (by kernel_rfl) ?_
      refine rW (m := ⟨[], [], [0]⟩) (v := vI ((L.getD i default).y)) rfl (by kernel_rfl) (stId (eLdA3i (ad := ⟨0, i * 3 + 1, none⟩) (r := ⟨a3s L, 25, false, false⟩) (L := L) (j := i) (i := 1) (by kernel_rfl) (by kernel_rfl) rfl (by first | rfl | omega) (by omega) ti3 rfl rfl) rfl (by kernel_rfl) (by kernel_rfl) (by kernel_rfl)) (by kernel_rfl) nr0 ?_
      refine rW (m := ⟨[], [], []⟩) (v := vI ((L.getD i default).x + ((L.getD i default).y))) rfl (by kernel_rfl) (stId (eAdd (k := .i64) (a := ((L.getD i default).x)) (b := ((L.getD i default).y)) (c := ((L.getD i default).x + ((L.getD i default).y))) (by kernel_rfl) (by kernel_rfl) (wr64 (by omega) (by omega) (by omega))) rfl (by kernel_rfl) (by kernel_rfl) (by kernel_rfl)) (by kernel_rfl) nr0 ?_
      refine segWH 2 (T1 := (mkT 34 [(0, vS 0 L.length), (3, vI s), (4, vN i), (8, .bool true), (11, vI s), (12, vI (s + 1)), (13, vS 0 L.length), (14, vN i), (15, vP 0 (i * 3)), (16, vP 0 (i * 3 + 0)), (17, vI ((L.getD i default).x)), (18, vS 0 L.length), (19, vN i), (20, vP 0 (i * 3)), (21, vP 0 (i * 3 + 1)), (22, vI ((L.getD i default).y)), (23, vI ((L.getD i default).x + ((L.getD i default).y))), (24, vS 0 L.length), (25, vN i)])) (by kernel_rfl) ?_
      refine rW (m := ⟨[], [], []⟩) (v := vP 0 (i * 3)) rfl (by kernel_rfl) (stId (eIdxS (ad := ⟨0, 0, none⟩) (n := L.length) (m := 0) (k := .i64) (c := ((i : Nat) : Int)) (j := i) (o := i * 3) (by kernel_rfl) (by kernel_rfl) ti22 ti25 (rfl) (by omega) (by exact Nat.zero_add _)) rfl (by kernel_rfl) (by kernel_rfl) (by kernel_rfl)) (by kernel_rfl) nr0 ?_
      refine segWH 1 (T1 := (mkT 34 [(0, vS 0 L.length), (3, vI s), (4, vN i), (8, .bool true), (11, vI s), (12, vI (s + 1)), (13, vS 0 L.length), (14, vN i), (15, vP 0 (i * 3)), (16, vP 0 (i * 3 + 0)), (17, vI ((L.getD i default).x)), (18, vS 0 L.length), (19, vN i), (20, vP 0 (i * 3)), (21, vP 0 (i * 3 + 1)), (22, vI ((L.getD i default).y)), (23, vI ((L.getD i default).x + ((L.getD i default).y))), (24, vS 0 L.length), (25, vN i), (26, vP 0 (i * 3)), (27, vP 0 (i * 3 + 2))])) (by kernel_rfl) ?_
      refine rW (m := ⟨[], [], [0]⟩) (v := vI ((L.getD i default).z)) rfl (by kernel_rfl) (stId (eLdA3i (ad := ⟨0, i * 3 + 2, none⟩) (r := ⟨a3s L, 25, false, false⟩) (L := L) (j := i) (i := 2) (by kernel_rfl) (by kernel_rfl) rfl (by first | rfl | omega) (by omega) ti3 rfl rfl) rfl (by kernel_rfl) (by kernel_rfl) (by kernel_rfl)) (by kernel_rfl) nr0 ?_
      refine rW (m := ⟨[], [], []⟩) (v := vI ((L.getD i default).x + ((L.getD i default).y) + ((L.getD i default).z))) rfl (by kernel_rfl) (stId (eAdd (k := .i64) (a := ((L.getD i default).x + ((L.getD i default).y))) (b := ((L.getD i default).z)) (c := ((L.getD i default).x + ((L.getD i default).y) + ((L.getD i default).z))) (by kernel_rfl) (by kernel_rfl) (wr64 (by omega) (by omega) (by omega))) rfl (by kernel_rfl) (by kernel_rfl) (by kernel_rfl)) (by kernel_rfl) nr0 ?_
      refine rW (m := ⟨[], [], []⟩) (v := vI (((L.getD i default).x + ((L.getD i default).y) + ((L.getD i default).z)) % 2)) rfl (by kernel_rfl) (stId (eRem (k := .i64) (a := ((L.getD i default).x + ((L.getD i default).y) + ((L.getD i default).z))) (b := 2) (c := (((L.getD i default).x + ((L.getD i default).y) + ((L.getD i default).z)) % 2)) (by kernel_rfl) (by kernel_rfl) (by omega) (Int.tmod_eq_emod_of_nonneg (by omega))) rfl (by kernel_rfl) (by kernel_rfl) (by kernel_rfl)) (by kernel_rfl) nr0 ?_
      refine rW (m := ⟨[], [], []⟩) (v := vI (2 * (((L.getD i default).x + ((L.getD i default).y) + ((L.getD i default).z)) % 2))) rfl (by kernel_rfl) (stId (eMul (k := .i64) (a := 2) (b := (((L.getD i default).x + ((L.getD i default).y) + ((L.getD i default).z)) % 2)) (c := (2 * (((L.getD i default).x + ((L.getD i default).y) + ((L.getD i default).z)) % 2))) (by kernel_rfl) (by kernel_rfl) (wr64 (by omega) (by omega) (by omega))) rfl (by kernel_rfl) (by kernel_rfl) (by kernel_rfl)) (by kernel_rfl) nr0 ?_
      refine rW (m := ⟨[], [], []⟩) (v := vI (s + 1 - (2 * (((L.getD i default).x + ((L.getD i default).y) + ((L.getD i default).z)) % 2)))) rfl (by kernel_rfl) (stId (eSub (k := .i64) (a := (s + 1)) (b := (2 * (((L.getD i default).x + ((L.getD i default).y) + ((L.getD i default).z)) % 2))) (c := (s + 1 - (2 * (((L.getD i default).x + ((L.getD i default).y) + ((L.getD i default).z)) % 2)))) (by kernel_rfl) (by kernel_rfl) (wr64 (by omega) (by omega) (by omega))) rfl (by kernel_rfl) (by kernel_rfl) (by kernel_rfl)) (by kernel_rfl) nr0 ?_
      refine segEndWH [0, 3, 4] (T1 := (mkT 34 [(0, vS 0 L.length), (3, vI (s + 1 - (2 * (((L.getD i default).x + ((L.getD i default).y) + ((L.getD i default).z)) % 2)))), (4, vN i)])) (by kernel_rfl) ?_
      refine kBlk ?_
      refine kSeq ?_
      refine cReg ?_
      refine segH 1 (T1 := (mkT 34 [(0, vS 0 L.length), (3, vI (s + 1 - (2 * (((L.getD i default).x + ((L.getD i default).y) + ((L.getD i default).z)) % 2)))), (4, vN i), (9, vN i)])) (by kernel_rfl) ?_
      refine rOp (v := vN (i + 1)) (by kernel_rfl) (eAdd (k := .i64) (a := ((i : Nat) : Int)) (b := 1) (c := ((i + 1 : Nat) : Int)) (by kernel_rfl) (by kernel_rfl) (wr64 (by omega) (by omega) (by omega))) ?_
      refine segEndH [0, 3, 4] (T1 := (mkT 34 [(0, vS 0 L.length), (3, vI (s + 1 - (2 * (((L.getD i default).x + ((L.getD i default).y) + ((L.getD i default).z)) % 2)))), (4, vN (i + 1))])) (by kernel_rfl) ?_
      exact kLoop (L.length - (i + 1)) (mkT 34 [(0, vS 0 L.length), (3, vI (s + 1 - (2 * (((L.getD i default).x + ((L.getD i default).y) + ((L.getD i default).z)) % 2)))), (4, vN (i + 1))]) [some ⟨a3s L, 25, false, false⟩] (by omega) (wkSame [0, 3, 4] (by kernel_rfl)) ⟨(i + 1), (s + 1 - (2 * (((L.getD i default).x + ((L.getD i default).y) + ((L.getD i default).z)) % 2))), (by omega), (by rw [hs1, parL_take (by omega)]; unfold parC; omega), (by omega), rfl, rfl, rfl⟩

set_option maxRecDepth 100000 in
set_option maxHeartbeats 4000000 in
theorem freeB (X : Nat) (Y : Nat) (Z : Nat) (L : List A3) (hs : Sides X Y Z) (hL : HeapL X Y Z L) : Sound Try.prog 79 [.agg #[vN X, vN Y, vN Z, vS 0 L.length]] [some ⟨a3s L, 25, false, false⟩] (vU (andn (2 ^ (X * Y * Z) - 1) (setOf Y Z L))) [some ⟨a3s L, 25, false, false⟩] := by
  refine sound_intro (C := cx) Try.func79 rfl (by kernel_rfl) fun hcl => ?_
  have hz := hs.size
  have hx0 := hs.x0
  have hx4 := hs.x4
  have hy0 := hs.y0
  have hy4 := hs.y4
  have hz0 := hs.z0
  have hz4 := hs.z4
  have hlen := hL.len
  have hlt := hL.lt64 hs
  have hfull : 2 ^ (X * Y * Z) - 1 < 18446744073709551616 := by have := hs.pow; have := Nat.two_pow_pos (X * Y * Z); omega
  refine cSeq ?_
  refine cReg ?_
  refine segEnd [1] (T1 := (mkT 9 [(1, vP 1 0)])) (H1 := [some ⟨a3s L, 25, false, false⟩, rB [vN X, vN Y, vN Z, vS 0 L.length] 29]) (by kernel_rfl) ?_
  refine kSeq ?_
  refine cSeq ?_
  refine cRegW (N := 2) [⟨[], [], [1]⟩, ⟨[], [], [0]⟩, ⟨[], [], []⟩, ⟨[], [], [1]⟩, ⟨[], [], [0]⟩, ⟨[], [], []⟩, ⟨[], [], []⟩] 0 [] (by rfl) (by rfl) (by kernel_rfl) (by kernel_rfl) (by kernel_rfl) ⟨nmsF (flatA3 _ _ _ _), ⟨nmsX (by kernel_rfl), trivial⟩⟩ ?_
  refine segWH 1 (T1 := (mkT 9 [(1, vP 1 0), (3, .agg #[vN X, vN Y, vN Z, vS 0 L.length])])) (by kernel_rfl) ?_
  refine rW (m := ⟨[], [], [0]⟩) (v := .agg #[vN X, vN Y, vN Z]) rfl (by kernel_rfl) (stQ (args := [.agg #[vN X, vN Y, vN Z, vS 0 L.length]]) rfl (by kernel_rfl) (Any.lay0 [0] (boxB ((X : Nat) : Int) ((Y : Nat) : Int) ((Z : Nat) : Int) L) ⟨rdF false (flatA3 _ _ _ _) rfl rfl, trivial⟩ rfl ⟨clF (flatA3 _ _ _ _), trivial⟩ rfl (by first | rfl | simp [mpV, mpA, mpS, mpP, renId, shift]) (by first | rfl | simp [mpV, mpA, mpS, mpP, renId, shift])) rfl (by kernel_rfl) (by kernel_rfl)) (by kernel_rfl) nr0 ?_
  refine rW (m := ⟨[], [], []⟩) (v := vU (2 ^ (X * Y * Z) - 1)) rfl (by kernel_rfl) (stQ (args := [.agg #[vN X, vN Y, vN Z]]) rfl (by kernel_rfl) (Any.lay0 [] (fullB X Y Z (by first | assumption | omega | rfl | decide | exact HeapL.list _ _ _ _ | exact HeapL.nil _ _ _ | exact HeapL.all _ _ _ | (apply HeapL.lt64 <;> assumption) | (repeat' (first | assumption | apply or_lt64 | apply and_lt64 | apply andn_lt64 | apply pow_lt64 | (apply HeapL.lt64 <;> assumption))))) trivial rfl trivial rfl (by first | rfl | simp [mpV, mpA, mpS, mpP, renId, shift]) rfl) rfl (by kernel_rfl) (by kernel_rfl)) (by kernel_rfl) nr0 ?_
  refine segWH 1 (T1 := (mkT 9 [(1, vP 1 0), (3, .agg #[vN X, vN Y, vN Z, vS 0 L.length]), (4, .agg #[vN X, vN Y, vN Z]), (5, vU (2 ^ (X * Y * Z) - 1)), (6, .agg #[vN X, vN Y, vN Z, vS 0 L.length])])) (by kernel_rfl) ?_
  refine rW (m := ⟨[], [], [0]⟩) (v := vU (setOf Y Z L)) rfl (by kernel_rfl) (stQ (args := [.agg #[vN X, vN Y, vN Z, vS 0 L.length]]) rfl (by kernel_rfl) (Any.lay0 [0] (cubesB X Y Z L (by first | assumption | omega | rfl | decide | exact HeapL.list _ _ _ _ | exact HeapL.nil _ _ _ | exact HeapL.all _ _ _ | (apply HeapL.lt64 <;> assumption) | (repeat' (first | assumption | apply or_lt64 | apply and_lt64 | apply andn_lt64 | apply pow_lt64 | (apply HeapL.lt64 <;> assumption)))) (by first | assumption | omega | rfl | decide | exact HeapL.list _ _ _ _ | exact HeapL.nil _ _ _ | exact HeapL.all _ _ _ | (apply HeapL.lt64 <;> assumption) | (repeat' (first | assumption | apply or_lt64 | apply and_lt64 | apply andn_lt64 | apply pow_lt64 | (apply HeapL.lt64 <;> assumption))))) ⟨rdF false (flatA3 _ _ _ _) rfl rfl, trivial⟩ rfl ⟨clF (flatA3 _ _ _ _), trivial⟩ rfl (by first | rfl | simp [mpV, mpA, mpS, mpP, renId, shift]) rfl) rfl (by kernel_rfl) (by kernel_rfl)) (by kernel_rfl) nr0 ?_
  refine rW (m := ⟨[], [], []⟩) (v := vU (andn (2 ^ (X * Y * Z) - 1) (setOf Y Z L))) rfl (by kernel_rfl) (stId (eOp (k := .u64) (a := ((2 ^ (X * Y * Z) - 1 : Nat) : Int)) (b := ((setOf Y Z L : Nat) : Int)) (by kernel_rfl) (by kernel_rfl) ⟨by decide, by decide⟩ (andnU (2 ^ (X * Y * Z) - 1) (setOf Y Z L) (by first | assumption | omega | (repeat' (first | assumption | omega | apply or_lt64 | apply and_lt64 | apply andn_lt64 | apply pow_lt64 | (apply HeapL.lt64 <;> assumption)))) (by first | assumption | omega | (repeat' (first | assumption | omega | apply or_lt64 | apply and_lt64 | apply andn_lt64 | apply pow_lt64 | (apply HeapL.lt64 <;> assumption)))))) rfl (by kernel_rfl) (by kernel_rfl) (by kernel_rfl)) (by kernel_rfl) nr0 ?_
  refine segEndWH [2] (T1 := (mkT 9 [(2, vU (andn (2 ^ (X * Y * Z) - 1) (setOf Y Z L)))])) (by kernel_rfl) ?_
  refine kSeq ?_
  refine cRet ?_
  -- end
  have he0 : ((andn (2 ^ (X * Y * Z) - 1) (setOf Y Z L)) : Nat) = andn (2 ^ (X * Y * Z) - 1) (setOf Y Z L) := by first | omega | assumption | rfl | (symm; assumption) | (simp_all; done)
  refine endCast (v1 := vU (andn (2 ^ (X * Y * Z) - 1) (setOf Y Z L))) (H1 := [some ⟨a3s L, 25, false, false⟩]) (by first | rfl | ((try rw [← he0]); done) | (simp only [← he0]; done)) (by first | rfl | ((try rw [← he0]); done) | (simp only [← he0]; done)) ?_
  exact endQ (Or.inr rfl) (l := [vU (andn (2 ^ (X * Y * Z) - 1) (setOf Y Z L))]) [rB [vN X, vN Y, vN Z, vS 0 L.length] 29] (by kernel_rfl) (by first | rfl | kernel_rfl) rfl rfl hcl rfl

set_option maxRecDepth 100000 in
set_option maxHeartbeats 4000000 in
theorem l9FreeB (X : Nat) (Y : Nat) (Z : Nat) (L : List A3) (hs : Sides X Y Z) (hL : HeapL X Y Z L) : Sound Try.prog 77 [.agg #[vN X, vN Y, vN Z, vS 0 L.length]] [some ⟨a3s L, 25, false, false⟩] (.agg #[vN X, vN Y, vN Z, vS 1 ((listOf X Y Z (andn (2 ^ (X * Y * Z) - 1) (setOf Y Z L))).length)]) [some ⟨a3s L, 25, false, false⟩, some ⟨a3s (listOf X Y Z (andn (2 ^ (X * Y * Z) - 1) (setOf Y Z L))), 25, false, true⟩] := by
  refine sound_intro (C := cx) Try.func77 rfl (by kernel_rfl) fun hcl => ?_
  have hz := hs.size
  have hx0 := hs.x0
  have hx4 := hs.x4
  have hy0 := hs.y0
  have hy4 := hs.y4
  have hz0 := hs.z0
  have hz4 := hs.z4
  have hlen := hL.len
  have hlt := hL.lt64 hs
  have hall := allOf_length X Y Z
  refine cSeq ?_
  refine cReg ?_
  refine segEnd [1, 2] (T1 := (mkT 38 [(1, vP 1 0), (2, vP 2 0)])) (H1 := [some ⟨a3s L, 25, false, false⟩, rB [vN X, vN Y, vN Z, vS 0 L.length] 29, rB [vI 0, vI 0, vI 0, .slice none 0 0] 29]) (by kernel_rfl) ?_
  refine kSeq ?_
  refine cSeq ?_
  refine cReg ?_
  refine segH 6 (T1 := (mkT 38 [(1, vP 1 0), (2, vP 2 0), (6, vP 1 0), (7, vN X), (8, vP 1 1), (9, vN Y), (10, vP 1 2), (11, vN Z)])) (by kernel_rfl) ?_
  refine rCall (v := .agg #[vN X, vN Y, vN Z, vS 3 0]) (args := [vN X, vN Y, vN Z]) (by kernel_rfl) rfl (by kernel_rfl) (Sound.lay (E := [some ⟨[], 25, false, true⟩]) [] (l2EmptyB ((X : Nat) : Int) ((Y : Nat) : Int) ((Z : Nat) : Int)) trivial rfl trivial rfl (by first | rfl | simp [mpV, mpA, mpS, mpP, renId, shift]) (by first | rfl | simp [mpV, mpA, mpS, mpP, renId, shift]) ⟨enX rfl (Or.inl rfl), trivial⟩) ?_
  refine segEnd [1, 2, 3] (T1 := (mkT 38 [(1, vP 1 0), (2, vP 2 0), (3, vP 4 0)])) (H1 := [some ⟨a3s L, 25, false, false⟩, rB [vN X, vN Y, vN Z, vS 0 L.length] 29, rB [vI 0, vI 0, vI 0, .slice none 0 0] 29, some ⟨[], 25, false, true⟩, rB [vN X, vN Y, vN Z, vS 3 0] 29]) (by kernel_rfl) ?_
  refine kSeq ?_
  refine cSeq ?_
  refine cReg ?_
  refine segH 1 (T1 := (mkT 38 [(1, vP 1 0), (2, vP 2 0), (3, vP 4 0), (13, .agg #[vN X, vN Y, vN Z, vS 0 L.length])])) (by kernel_rfl) ?_
  refine rCall (v := vS 5 ((allOf X Y Z).length)) (args := [.agg #[vN X, vN Y, vN Z, vS 0 L.length]]) (by kernel_rfl) rfl (by kernel_rfl) (Sound.lay (E := [some ⟨a3s (allOf X Y Z), 25, false, true⟩]) [0] (l2AllB X Y Z L (by first | assumption | omega | rfl | decide | exact HeapL.list _ _ _ _ | exact HeapL.nil _ _ _ | exact HeapL.all _ _ _ | (apply HeapL.lt64 <;> assumption) | (repeat' (first | assumption | apply or_lt64 | apply and_lt64 | apply andn_lt64 | apply pow_lt64 | (apply HeapL.lt64 <;> assumption))))) ⟨rdF false (flatA3 _ _ _ _) rfl rfl, trivial⟩ rfl ⟨clF (flatA3 _ _ _ _), trivial⟩ rfl (by first | rfl | simp [mpV, mpA, mpS, mpP, renId, shift]) rfl ⟨enF (flatA3 _ _ _ _) (Or.inl rfl), trivial⟩) ?_
  refine segEnd [1, 2, 3, 4] (T1 := (mkT 38 [(1, vP 1 0), (2, vP 2 0), (3, vP 4 0), (4, vS 5 ((allOf X Y Z).length))])) (H1 := [some ⟨a3s L, 25, false, false⟩, rB [vN X, vN Y, vN Z, vS 0 L.length] 29, rB [vI 0, vI 0, vI 0, .slice none 0 0] 29, some ⟨[], 25, false, true⟩, rB [vN X, vN Y, vN Z, vS 3 0] 29, some ⟨a3s (allOf X Y Z), 25, false, true⟩]) (by kernel_rfl) ?_
  refine kSeq ?_
  refine cSeq ?_
  refine cSeq ?_
  refine cReg ?_
  refine segEndH [1, 2, 3, 4, 5] (T1 := (mkT 38 [(1, vP 1 0), (2, vP 2 0), (3, vP 4 0), (4, vS 5 ((allOf X Y Z).length)), (5, vI 0)])) (by kernel_rfl) ?_
  refine kSeq ?_
  refine cBlk ?_
  -- loop
  refine cLoop (fun mm T H => ∃ i : Nat, ∃ M : List A3, (i ≤ (allOf X Y Z).length) ∧ (M = ((allOf X Y Z).take i).filter (fun d => !hasL L d.x d.y d.z)) ∧ mm = (allOf X Y Z).length - i ∧ T = (mkT 38 [(1, vP 1 0), (2, vP 2 0), (3, vP 4 0), (4, vS 5 ((allOf X Y Z).length)), (5, vN i)]) ∧ H = [some ⟨a3s L, 25, false, false⟩, rB [vN X, vN Y, vN Z, vS 0 L.length] 29, rB [vI 0, vI 0, vI 0, .slice none 0 0] 29, some ⟨a3s M, 25, false, true⟩, rB [vN X, vN Y, vN Z, vS 3 M.length] 29, some ⟨a3s (allOf X Y Z), 25, false, true⟩]) ((allOf X Y Z).length - 0) (mkT 38 [(1, vP 1 0), (2, vP 2 0), (3, vP 4 0), (4, vS 5 ((allOf X Y Z).length)), (5, vI 0)]) [some ⟨a3s L, 25, false, false⟩, rB [vN X, vN Y, vN Z, vS 0 L.length] 29, rB [vI 0, vI 0, vI 0, .slice none 0 0] 29, some ⟨a3s ([] : List A3), 25, false, true⟩, rB [vN X, vN Y, vN Z, vS 3 (([] : List A3).length)] 29, some ⟨a3s (allOf X Y Z), 25, false, true⟩] (wkSame [1, 2, 3, 4, 5] (by kernel_rfl)) ?_ ?_
  · exact ⟨0, ([] : List A3), (Nat.zero_le _), (by simp), rfl, rfl, rfl⟩
  · rintro _ _ _ ⟨i, M, hi, hM, rfl, rfl, rfl⟩
    have hml : M.length ≤ i := (by rw [hM]; exact Nat.le_trans (List.length_filter_le _ _) (by simp; omega))
    refine cSeq ?_
    refine cSeq ?_
    refine cReg ?_
    refine segEndH [1, 2, 3, 4, 5, 18] (T1 := (mkT 38 [(1, vP 1 0), (2, vP 2 0), (3, vP 4 0), (4, vS 5 ((allOf X Y Z).length)), (5, vN i), (18, .bool (decide (((i : Nat) : Int) < (((allOf X Y Z).length : Nat) : Int))))])) (by kernel_rfl) ?_
    refine kSeq ?_
    cases h1 : (decide (((i : Nat) : Int) < (((allOf X Y Z).length : Nat) : Int)) : Bool)
    ·
      have h1k := h1
      (try simp only [Bool.not_eq_true', Bool.not_eq_false', decide_eq_true_eq, decide_eq_false_iff_not, beq_iff_eq, bne_iff_ne, beq_eq_false_iff_ne, bne_eq_false_iff_eq, ne_eq, Decidable.not_not, Bool.and_eq_true, Bool.and_eq_false_imp, Bool.or_eq_true, Bool.or_eq_false_iff, Bool.not_eq_true, Int.not_lt, Int.not_le, ge_iff_le, gt_iff_lt] at h1)
      refine cFalse (by kernel_rfl) ?_
      refine cExit ?_
      refine kSeqE ?_
      refine kLoopE ?_
      refine kBlkHit ?_
      refine kSeq ?_
      refine cSeq ?_
      refine cReg ?_
      refine segEnd [2] (T1 := (mkT 38 [(2, vP 2 0)])) (H1 := [some ⟨a3s L, 25, false, false⟩, rB [vN X, vN Y, vN Z, vS 0 L.length] 29, rB [vN X, vN Y, vN Z, vS 3 M.length] 29, some ⟨a3s M, 25, false, true⟩, rB [vN X, vN Y, vN Z, vS 3 M.length] 29, some ⟨a3s (allOf X Y Z), 25, false, true⟩]) (by kernel_rfl) ?_
      refine kSeq ?_
      refine cRet ?_
      -- end
      have he0 : (M : List A3) = (listOf X Y Z (andn (2 ^ (X * Y * Z) - 1) (setOf Y Z L))) := by (rw [hM, take_end (by omega)]; exact others_end hs hL)
      refine endCast (v1 := .agg #[vN X, vN Y, vN Z, vS 1 M.length]) (H1 := [some ⟨a3s L, 25, false, false⟩, some ⟨a3s M, 25, false, true⟩]) (by first | rfl | ((try rw [← he0]); done) | (simp only [← he0]; done)) (by first | rfl | ((try rw [← he0]); done) | (simp only [← he0]; done)) ?_
      exact endF (Or.inr rfl) (l := [.agg #[vN X, vN Y, vN Z, vS 3 M.length]]) [0, 3] (by kernel_rfl) (by first | rfl | simp [packR, mpV, mpA, mpS, mpP, renId]) ⟨rrF (flatA3 _ _ _ _) rfl, ⟨rrF (flatA3 _ _ _ _) rfl, trivial⟩⟩ rfl rfl
    ·
      have h1k := h1
      (try simp only [Bool.not_eq_true', Bool.not_eq_false', decide_eq_true_eq, decide_eq_false_iff_not, beq_iff_eq, bne_iff_ne, beq_eq_false_iff_ne, bne_eq_false_iff_eq, ne_eq, Decidable.not_not, Bool.and_eq_true, Bool.and_eq_false_imp, Bool.or_eq_true, Bool.or_eq_false_iff, Bool.not_eq_true, Int.not_lt, Int.not_le, ge_iff_le, gt_iff_lt] at h1)
      refine cTrue (by kernel_rfl) ?_
      refine cSkip ?_
      refine kSeq ?_
      refine cSeq ?_
      refine cBlk ?_
      refine cSeq ?_
      refine cRegW (N := 6) [⟨[], [], [1]⟩, ⟨[], [], []⟩, ⟨[], [], []⟩, ⟨[], [], []⟩, ⟨[], [], [5]⟩, ⟨[], [], [0]⟩, ⟨[], [], []⟩] 0 [] (by rfl) (by rfl) (by kernel_rfl) (by kernel_rfl) (by kernel_rfl) ⟨nmsF (flatA3 _ _ _ _), ⟨nmsX (by kernel_rfl), ⟨nmsX (by kernel_rfl), ⟨nmsF (flatA3 _ _ _ _), ⟨nmsX (by kernel_rfl), ⟨nmsF (flatA3 _ _ _ _), trivial⟩⟩⟩⟩⟩⟩ ?_
      refine segWH 3 (T1 := (mkT 38 [(1, vP 1 0), (2, vP 2 0), (3, vP 4 0), (4, vS 5 ((allOf X Y Z).length)), (5, vN i), (18, .bool true), (21, .agg #[vN X, vN Y, vN Z, vS 0 L.length]), (22, vS 5 ((allOf X Y Z).length)), (23, vN i)])) (by kernel_rfl) ?_
      refine rW (m := ⟨[], [], []⟩) (v := vP 5 (i * 3)) rfl (by kernel_rfl) (stId (eIdxS (ad := ⟨5, 0, none⟩) (n := ((allOf X Y Z).length)) (m := 0) (k := .i64) (c := ((i : Nat) : Int)) (j := i) (o := i * 3) (by kernel_rfl) (by kernel_rfl) ti22 ti25 (rfl) (by omega) (by exact Nat.zero_add _)) rfl (by kernel_rfl) (by kernel_rfl) (by kernel_rfl)) (by kernel_rfl) nr0 ?_
      refine rW (m := ⟨[], [], [5]⟩) (v := .agg #[vI (((allOf X Y Z).getD i default).x), vI (((allOf X Y Z).getD i default).y), vI (((allOf X Y Z).getD i default).z)]) rfl (by kernel_rfl) (stId (eLdA3 (ad := ⟨5, i * 3, none⟩) (r := ⟨a3s (allOf X Y Z), 25, false, true⟩) (L := (allOf X Y Z)) (j := i) (by kernel_rfl) (by kernel_rfl) rfl (by first | rfl | omega) (by omega) ti25) rfl (by kernel_rfl) (by kernel_rfl) (by kernel_rfl)) (by kernel_rfl) nr0 ?_
      refine rW (m := ⟨[], [], [0]⟩) (v := .bool (hasL L (((allOf X Y Z).getD i default).x) (((allOf X Y Z).getD i default).y) (((allOf X Y Z).getD i default).z))) rfl (by kernel_rfl) (stQ (args := [.agg #[vN X, vN Y, vN Z, vS 0 L.length], .agg #[vI (((allOf X Y Z).getD i default).x), vI (((allOf X Y Z).getD i default).y), vI (((allOf X Y Z).getD i default).z)]]) rfl (by kernel_rfl) (Any.lay0 [0] (l2HasB X Y Z L (((allOf X Y Z).getD i default).x) (((allOf X Y Z).getD i default).y) (((allOf X Y Z).getD i default).z) (by first | assumption | omega | rfl | decide | exact HeapL.list _ _ _ _ | exact HeapL.nil _ _ _ | exact HeapL.all _ _ _ | (apply HeapL.lt64 <;> assumption) | (repeat' (first | assumption | apply or_lt64 | apply and_lt64 | apply andn_lt64 | apply pow_lt64 | (apply HeapL.lt64 <;> assumption)))) (by first | assumption | omega | rfl | decide | exact HeapL.list _ _ _ _ | exact HeapL.nil _ _ _ | exact HeapL.all _ _ _ | (apply HeapL.lt64 <;> assumption) | (repeat' (first | assumption | apply or_lt64 | apply and_lt64 | apply andn_lt64 | apply pow_lt64 | (apply HeapL.lt64 <;> assumption))))) ⟨rdF false (flatA3 _ _ _ _) rfl rfl, trivial⟩ rfl ⟨clF (flatA3 _ _ _ _), trivial⟩ rfl (by first | rfl | simp [mpV, mpA, mpS, mpP, renId, shift]) rfl) rfl (by kernel_rfl) (by kernel_rfl)) (by kernel_rfl) nr0 ?_
      refine segEndWH [1, 2, 3, 4, 5, 27] (T1 := (mkT 38 [(1, vP 1 0), (2, vP 2 0), (3, vP 4 0), (4, vS 5 ((allOf X Y Z).length)), (5, vN i), (27, .bool (!(hasL L (((allOf X Y Z).getD i default).x) (((allOf X Y Z).getD i default).y) (((allOf X Y Z).getD i default).z))))])) (by kernel_rfl) ?_
      refine kSeq ?_
      cases h2 : (hasL L (((allOf X Y Z).getD i default).x) (((allOf X Y Z).getD i default).y) (((allOf X Y Z).getD i default).z) : Bool)
      ·
        have h2k := h2
        (try simp only [Bool.not_eq_true', Bool.not_eq_false', decide_eq_true_eq, decide_eq_false_iff_not, beq_iff_eq, bne_iff_ne, beq_eq_false_iff_ne, bne_eq_false_iff_eq, ne_eq, Decidable.not_not, Bool.and_eq_true, Bool.and_eq_false_imp, Bool.or_eq_true, Bool.or_eq_false_iff, Bool.not_eq_true, Int.not_lt, Int.not_le, ge_iff_le, gt_iff_lt] at h2)
        refine cTrue (by kernel_rfl) ?_
        refine cRegW (N := 8) [⟨[], [], []⟩, ⟨[], [], [4]⟩, ⟨[], [], []⟩, ⟨[], [], []⟩, ⟨[], [], []⟩, ⟨[], [], [5]⟩, ⟨[6], [], []⟩, ⟨[7], [3], [6]⟩, ⟨[], [], []⟩, ⟨[], [4], []⟩] 2 [6, 7] (by rfl) (by rfl) (by kernel_rfl) (by kernel_rfl) (by kernel_rfl) ⟨nmsF (flatA3 _ _ _ _), ⟨nmsX (by kernel_rfl), ⟨nmsX (by kernel_rfl), ⟨nmsF (flatA3 _ _ _ _), ⟨nmsX (by kernel_rfl), ⟨nmsF (flatA3 _ _ _ _), trivial⟩⟩⟩⟩⟩⟩ ?_
        refine segWH 4 (T1 := (mkT 38 [(1, vP 1 0), (2, vP 2 0), (3, vP 4 0), (4, vS 5 ((allOf X Y Z).length)), (5, vN i), (27, .bool true), (28, vP 4 3), (29, vS 3 M.length), (30, vS 5 ((allOf X Y Z).length)), (31, vN i)])) (by kernel_rfl) ?_
        refine rW (m := ⟨[], [], []⟩) (v := vP 5 (i * 3)) rfl (by kernel_rfl) (stId (eIdxS (ad := ⟨5, 0, none⟩) (n := ((allOf X Y Z).length)) (m := 0) (k := .i64) (c := ((i : Nat) : Int)) (j := i) (o := i * 3) (by kernel_rfl) (by kernel_rfl) ti22 ti25 (rfl) (by omega) (by exact Nat.zero_add _)) rfl (by kernel_rfl) (by kernel_rfl) (by kernel_rfl)) (by kernel_rfl) nr0 ?_
        refine rW (m := ⟨[], [], [5]⟩) (v := .agg #[vI (((allOf X Y Z).getD i default).x), vI (((allOf X Y Z).getD i default).y), vI (((allOf X Y Z).getD i default).z)]) rfl (by kernel_rfl) (stId (eLdA3 (ad := ⟨5, i * 3, none⟩) (r := ⟨a3s (allOf X Y Z), 25, false, true⟩) (L := (allOf X Y Z)) (j := i) (by kernel_rfl) (by kernel_rfl) rfl (by first | rfl | omega) (by omega) ti25) rfl (by kernel_rfl) (by kernel_rfl) (by kernel_rfl)) (by kernel_rfl) nr0 ?_
        refine rW (m := ⟨[6], [], []⟩) (v := vS 6 1) rfl (by kernel_rfl) (stNew (i := 6) (v1 := vS 8 1) (r := ⟨[vI (((allOf X Y Z).getD i default).x), vI (((allOf X Y Z).getD i default).y), vI (((allOf X Y Z).getD i default).z)], 25, false, true⟩) (by kernel_rfl) rfl (by kernel_rfl) (by kernel_rfl) (by kernel_rfl) (by kernel_rfl) (nmX (by kernel_rfl)) (clX (by kernel_rfl))) (by kernel_rfl) (NRs.all ⟨nrOf (by rfl) (nmX (by kernel_rfl)), trivial⟩) ?_
        refine rW (m := ⟨[7], [3], [6]⟩) (v := vS 7 ((M ++ [((allOf X Y Z).getD i default)]).length)) rfl (by kernel_rfl) (stApp (i := 7) (b := 3) (v1 := vS 8 ((M ++ [((allOf X Y Z).getD i default)]).length)) (r := ⟨a3s (M ++ [((allOf X Y Z).getD i default)]), 25, false, true⟩) (eAppA3 (b := 3) (a := 6) (L := M) (c := ((allOf X Y Z).getD i default)) (r := ⟨[vI (((allOf X Y Z).getD i default).x), vI (((allOf X Y Z).getD i default).y), vI (((allOf X Y Z).getD i default).z)], 25, false, true⟩) (m := 0) (by kernel_rfl) (by kernel_rfl) ti22 ti25 rfl rfl (by decide) (by kernel_rfl) (by kernel_rfl) rfl (by first | omega | (simp <;> omega)) rfl) rfl (by kernel_rfl) (by kernel_rfl) (by kernel_rfl) (by kernel_rfl) (nmF (flatA3 _ _ _ _)) (clF (flatA3 _ _ _ _))) (by kernel_rfl) (NRs.all ⟨nrOf (by rfl) (nmF (flatA3 _ _ _ _)), ⟨nrNone (by rfl), trivial⟩⟩) ?_
        refine segWH 1 (T1 := (mkT 38 [(1, vP 1 0), (2, vP 2 0), (3, vP 4 0), (4, vS 5 ((allOf X Y Z).length)), (5, vN i), (27, .bool true), (28, vP 4 3), (29, vS 3 M.length), (30, vS 5 ((allOf X Y Z).length)), (31, vN i), (32, vP 5 (i * 3)), (33, .agg #[vI (((allOf X Y Z).getD i default).x), vI (((allOf X Y Z).getD i default).y), vI (((allOf X Y Z).getD i default).z)]), (34, vS 6 1), (35, vS 7 ((M ++ [((allOf X Y Z).getD i default)]).length)), (36, vP 4 3)])) (by kernel_rfl) ?_
        refine rW (m := ⟨[], [4], []⟩) (v := .tuple #[]) rfl (by kernel_rfl) (stSet (b := 4) (r := ⟨[vN X, vN Y, vN Z, vS 7 ((M ++ [((allOf X Y Z).getD i default)]).length)], 29, true, true⟩) (by kernel_rfl) rfl (by kernel_rfl) (by kernel_rfl) (by kernel_rfl) (by kernel_rfl) (nmX (by kernel_rfl)) (clX (by kernel_rfl))) (by kernel_rfl) (NRs.all ⟨nrOf (by rfl) (nmX (by kernel_rfl)), trivial⟩) ?_
        refine segEndW [1, 2, 3, 4, 5] (T1 := (mkT 38 [(1, vP 1 0), (2, vP 2 0), (3, vP 4 0), (4, vS 5 ((allOf X Y Z).length)), (5, vN i)])) (H1 := [some ⟨a3s L, 25, false, false⟩, rB [vN X, vN Y, vN Z, vS 0 L.length] 29, rB [vI 0, vI 0, vI 0, .slice none 0 0] 29, none, rB [vN X, vN Y, vN Z, vS 7 ((M ++ [((allOf X Y Z).getD i default)]).length)] 29, some ⟨a3s (allOf X Y Z), 25, false, true⟩, some ⟨[vI (((allOf X Y Z).getD i default).x), vI (((allOf X Y Z).getD i default).y), vI (((allOf X Y Z).getD i default).z)], 25, false, true⟩, some ⟨a3s (M ++ [((allOf X Y Z).getD i default)]), 25, false, true⟩]) (by kernel_rfl) ?_
        refine kBlk ?_
        refine kSeq ?_
        refine cReg ?_
        refine segH 1 (T1 := (mkT 38 [(1, vP 1 0), (2, vP 2 0), (3, vP 4 0), (4, vS 5 ((allOf X Y Z).length)), (5, vN i), (19, vN i)])) (by kernel_rfl) ?_
        refine rOp (v := vN (i + 1)) (by kernel_rfl) (eAdd (k := .i64) (a := ((i : Nat) : Int)) (b := 1) (c := ((i + 1 : Nat) : Int)) (by kernel_rfl) (by kernel_rfl) (wr64 (by omega) (by omega) (by omega))) ?_
        refine segEndH [1, 2, 3, 4, 5] (T1 := (mkT 38 [(1, vP 1 0), (2, vP 2 0), (3, vP 4 0), (4, vS 5 ((allOf X Y Z).length)), (5, vN (i + 1))])) (by kernel_rfl) ?_
        exact kLoop ((allOf X Y Z).length - (i + 1)) (mkT 38 [(1, vP 1 0), (2, vP 2 0), (3, vP 4 0), (4, vS 5 ((allOf X Y Z).length)), (5, vN (i + 1))]) [some ⟨a3s L, 25, false, false⟩, rB [vN X, vN Y, vN Z, vS 0 L.length] 29, rB [vI 0, vI 0, vI 0, .slice none 0 0] 29, some ⟨a3s (M ++ [((allOf X Y Z).getD i default)]), 25, false, true⟩, rB [vN X, vN Y, vN Z, vS 3 ((M ++ [((allOf X Y Z).getD i default)]).length)] 29, some ⟨a3s (allOf X Y Z), 25, false, true⟩] (by omega) (wkRen [0, 1, 2, 7, 4, 5] [1, 2, 3, 4, 5] ⟨rrF (flatA3 _ _ _ _) rfl, ⟨rrX rfl rfl, ⟨rrX rfl rfl, ⟨rrF (flatA3 _ _ _ _) rfl, ⟨rrX rfl rfl, ⟨rrF (flatA3 _ _ _ _) rfl, trivial⟩⟩⟩⟩⟩⟩ rfl (by kernel_rfl) rfl) ⟨(i + 1), (M ++ [((allOf X Y Z).getD i default)]), (by omega), (by first | (rw [hM]; exact take_filter_yes (by omega) (notB_t (by assumption))) | (rw [hM]; exact take_filter_no (by omega) (notB_f (by assumption)))), rfl, rfl, rfl⟩
      ·
        have h2k := h2
        (try simp only [Bool.not_eq_true', Bool.not_eq_false', decide_eq_true_eq, decide_eq_false_iff_not, beq_iff_eq, bne_iff_ne, beq_eq_false_iff_ne, bne_eq_false_iff_eq, ne_eq, Decidable.not_not, Bool.and_eq_true, Bool.and_eq_false_imp, Bool.or_eq_true, Bool.or_eq_false_iff, Bool.not_eq_true, Int.not_lt, Int.not_le, ge_iff_le, gt_iff_lt] at h2)
        refine cFalse (by kernel_rfl) ?_
        refine cSkip ?_
        refine kBlk ?_
        refine kSeq ?_
        refine cReg ?_
        refine segH 1 (T1 := (mkT 38 [(1, vP 1 0), (2, vP 2 0), (3, vP 4 0), (4, vS 5 ((allOf X Y Z).length)), (5, vN i), (19, vN i), (27, .bool false)])) (by kernel_rfl) ?_
        refine rOp (v := vN (i + 1)) (by kernel_rfl) (eAdd (k := .i64) (a := ((i : Nat) : Int)) (b := 1) (c := ((i + 1 : Nat) : Int)) (by kernel_rfl) (by kernel_rfl) (wr64 (by omega) (by omega) (by omega))) ?_
        refine segEndH [1, 2, 3, 4, 5] (T1 := (mkT 38 [(1, vP 1 0), (2, vP 2 0), (3, vP 4 0), (4, vS 5 ((allOf X Y Z).length)), (5, vN (i + 1))])) (by kernel_rfl) ?_
        exact kLoop ((allOf X Y Z).length - (i + 1)) (mkT 38 [(1, vP 1 0), (2, vP 2 0), (3, vP 4 0), (4, vS 5 ((allOf X Y Z).length)), (5, vN (i + 1))]) [some ⟨a3s L, 25, false, false⟩, rB [vN X, vN Y, vN Z, vS 0 L.length] 29, rB [vI 0, vI 0, vI 0, .slice none 0 0] 29, some ⟨a3s M, 25, false, true⟩, rB [vN X, vN Y, vN Z, vS 3 M.length] 29, some ⟨a3s (allOf X Y Z), 25, false, true⟩] (by omega) (wkSame [1, 2, 3, 4, 5] (by kernel_rfl)) ⟨(i + 1), M, (by omega), (by first | (rw [hM]; exact take_filter_yes (by omega) (notB_t (by assumption))) | (rw [hM]; exact take_filter_no (by omega) (notB_f (by assumption)))), rfl, rfl, rfl⟩

set_option maxRecDepth 100000 in
set_option maxHeartbeats 4000000 in
theorem specFreeParity_no (x : Int) (y : Int) (z : Int) (L : List A3) (hl : L.length ≤ 1048576) (hv : isHeapB x y z L = false) : Sound Try.prog 40 [.agg #[vI x, vI y, vI z, vS 0 L.length]] [some ⟨a3s L, 25, false, false⟩] (.tuple #[vI 0, .bool false]) [some ⟨a3s L, 25, false, false⟩] := by
  refine sound_intro (C := cx) Try.func40 rfl (by kernel_rfl) fun hcl => ?_
  refine cSeq ?_
  refine cReg ?_
  refine segEnd [1] (T1 := (mkT 11 [(1, vP 1 0)])) (H1 := [some ⟨a3s L, 25, false, false⟩, rB [vI x, vI y, vI z, vS 0 L.length] 29]) (by kernel_rfl) ?_
  refine kSeq ?_
  refine cSeq ?_
  refine cSeq ?_
  refine cReg ?_
  refine segH 1 (T1 := (mkT 11 [(1, vP 1 0), (4, .agg #[vI x, vI y, vI z, vS 0 L.length])])) (by kernel_rfl) ?_
  refine rCall (v := .bool false) (args := [.agg #[vI x, vI y, vI z, vS 0 L.length]]) (by kernel_rfl) rfl (by kernel_rfl) (Sound.lay0 [0] (l2HeapB_no x y z L (by first | assumption | omega | rfl | decide | exact HeapL.list _ _ _ _ | exact HeapL.nil _ _ _ | exact HeapL.all _ _ _ | (apply HeapL.lt64 <;> assumption) | (repeat' (first | assumption | apply or_lt64 | apply and_lt64 | apply andn_lt64 | apply pow_lt64 | (apply HeapL.lt64 <;> assumption)))) (by first | assumption | omega | rfl | decide | exact HeapL.list _ _ _ _ | exact HeapL.nil _ _ _ | exact HeapL.all _ _ _ | (apply HeapL.lt64 <;> assumption) | (repeat' (first | assumption | apply or_lt64 | apply and_lt64 | apply andn_lt64 | apply pow_lt64 | (apply HeapL.lt64 <;> assumption))))) ⟨rdF false (flatA3 _ _ _ _) rfl rfl, trivial⟩ rfl ⟨clF (flatA3 _ _ _ _), trivial⟩ rfl (by first | rfl | simp [mpV, mpA, mpS, mpP, renId, shift]) rfl) ?_
  refine segEndH [1, 6] (T1 := (mkT 11 [(1, vP 1 0), (6, .bool true)])) (by kernel_rfl) ?_
  refine kSeq ?_
  refine cTrue (by kernel_rfl) ?_
  refine cSeq ?_
  refine cReg ?_
  refine segEndH [2, 3] (T1 := (mkT 11 [(2, vI 0), (3, .bool false)])) (by kernel_rfl) ?_
  refine kSeq ?_
  refine cRet ?_
  refine kSeqR ?_
  -- end
  exact endQ (Or.inr rfl) (l := [vI 0, .bool false]) [rB [vI x, vI y, vI z, vS 0 L.length] 29] (by kernel_rfl) (by first | rfl | kernel_rfl) rfl rfl hcl rfl

set_option maxRecDepth 100000 in
set_option maxHeartbeats 4000000 in
theorem specFreeParity_yes (X : Nat) (Y : Nat) (Z : Nat) (L : List A3) (hs : Sides X Y Z) (hL : HeapL X Y Z L) : Sound Try.prog 40 [.agg #[vN X, vN Y, vN Z, vS 0 L.length]] [some ⟨a3s L, 25, false, false⟩] (.tuple #[vI (parL (listOf X Y Z (andn (2 ^ (X * Y * Z) - 1) (setOf Y Z L)))), .bool true]) [some ⟨a3s L, 25, false, false⟩] := by
  refine sound_intro (C := cx) Try.func40 rfl (by kernel_rfl) fun hcl => ?_
  have hz := hs.size
  have hx0 := hs.x0
  have hx4 := hs.x4
  have hy0 := hs.y0
  have hy4 := hs.y4
  have hz0 := hs.z0
  have hz4 := hs.z4
  have hlen := hL.len
  have hlt := hL.lt64 hs
  have hol := (HeapL.list X Y Z (andn (2 ^ (X * Y * Z) - 1) (setOf Y Z L))).len
  have hfull : 2 ^ (X * Y * Z) - 1 < 18446744073709551616 := by have := hs.pow; have := Nat.two_pow_pos (X * Y * Z); omega
  refine cSeq ?_
  refine cReg ?_
  refine segEnd [1] (T1 := (mkT 11 [(1, vP 1 0)])) (H1 := [some ⟨a3s L, 25, false, false⟩, rB [vN X, vN Y, vN Z, vS 0 L.length] 29]) (by kernel_rfl) ?_
  refine kSeq ?_
  refine cSeq ?_
  refine cSeq ?_
  refine cReg ?_
  refine segH 1 (T1 := (mkT 11 [(1, vP 1 0), (4, .agg #[vN X, vN Y, vN Z, vS 0 L.length])])) (by kernel_rfl) ?_
  refine rCall (v := .bool true) (args := [.agg #[vN X, vN Y, vN Z, vS 0 L.length]]) (by kernel_rfl) rfl (by kernel_rfl) (Sound.lay0 [0] (l2HeapB X Y Z L (by first | assumption | omega | rfl | decide | exact HeapL.list _ _ _ _ | exact HeapL.nil _ _ _ | exact HeapL.all _ _ _ | (apply HeapL.lt64 <;> assumption) | (repeat' (first | assumption | apply or_lt64 | apply and_lt64 | apply andn_lt64 | apply pow_lt64 | (apply HeapL.lt64 <;> assumption)))) (by first | assumption | omega | rfl | decide | exact HeapL.list _ _ _ _ | exact HeapL.nil _ _ _ | exact HeapL.all _ _ _ | (apply HeapL.lt64 <;> assumption) | (repeat' (first | assumption | apply or_lt64 | apply and_lt64 | apply andn_lt64 | apply pow_lt64 | (apply HeapL.lt64 <;> assumption))))) ⟨rdF false (flatA3 _ _ _ _) rfl rfl, trivial⟩ rfl ⟨clF (flatA3 _ _ _ _), trivial⟩ rfl (by first | rfl | simp [mpV, mpA, mpS, mpP, renId, shift]) rfl) ?_
  refine segEndH [1, 6] (T1 := (mkT 11 [(1, vP 1 0), (6, .bool false)])) (by kernel_rfl) ?_
  refine kSeq ?_
  refine cFalse (by kernel_rfl) ?_
  refine cSkip ?_
  refine kSeq ?_
  refine cSeq ?_
  refine cReg ?_
  refine segH 1 (T1 := (mkT 11 [(1, vP 1 0), (6, .bool false), (7, .agg #[vN X, vN Y, vN Z, vS 0 L.length])])) (by kernel_rfl) ?_
  refine rCall (v := .agg #[vN X, vN Y, vN Z, vS 2 ((listOf X Y Z (andn (2 ^ (X * Y * Z) - 1) (setOf Y Z L))).length)]) (args := [.agg #[vN X, vN Y, vN Z, vS 0 L.length]]) (by kernel_rfl) rfl (by kernel_rfl) (Sound.lay (E := [some ⟨a3s (listOf X Y Z (andn (2 ^ (X * Y * Z) - 1) (setOf Y Z L))), 25, false, true⟩]) [0] (l9FreeB X Y Z L (by first | assumption | omega | rfl | decide | exact HeapL.list _ _ _ _ | exact HeapL.nil _ _ _ | exact HeapL.all _ _ _ | (apply HeapL.lt64 <;> assumption) | (repeat' (first | assumption | apply or_lt64 | apply and_lt64 | apply andn_lt64 | apply pow_lt64 | (apply HeapL.lt64 <;> assumption)))) (by first | assumption | omega | rfl | decide | exact HeapL.list _ _ _ _ | exact HeapL.nil _ _ _ | exact HeapL.all _ _ _ | (apply HeapL.lt64 <;> assumption) | (repeat' (first | assumption | apply or_lt64 | apply and_lt64 | apply andn_lt64 | apply pow_lt64 | (apply HeapL.lt64 <;> assumption))))) ⟨rdF false (flatA3 _ _ _ _) rfl rfl, trivial⟩ rfl ⟨clF (flatA3 _ _ _ _), trivial⟩ rfl (by first | rfl | simp [mpV, mpA, mpS, mpP, renId, shift]) (by first | rfl | simp [mpV, mpA, mpS, mpP, renId, shift]) ⟨enF (flatA3 _ _ _ _) (Or.inl rfl), trivial⟩) ?_
  refine seg 1 (T1 := (mkT 11 [(1, vP 1 0), (6, .bool false), (7, .agg #[vN X, vN Y, vN Z, vS 0 L.length]), (8, .agg #[vN X, vN Y, vN Z, vS 2 ((listOf X Y Z (andn (2 ^ (X * Y * Z) - 1) (setOf Y Z L))).length)]), (9, vS 2 ((listOf X Y Z (andn (2 ^ (X * Y * Z) - 1) (setOf Y Z L))).length))])) (H1 := [some ⟨a3s L, 25, false, false⟩, rB [vN X, vN Y, vN Z, vS 0 L.length] 29, some ⟨a3s (listOf X Y Z (andn (2 ^ (X * Y * Z) - 1) (setOf Y Z L))), 25, false, true⟩]) (by kernel_rfl) ?_
  refine rCall (v := vI (parL (listOf X Y Z (andn (2 ^ (X * Y * Z) - 1) (setOf Y Z L))))) (args := [vS 2 ((listOf X Y Z (andn (2 ^ (X * Y * Z) - 1) (setOf Y Z L))).length)]) (by kernel_rfl) rfl (by kernel_rfl) (Sound.lay0 [2] (l9ParityB (listOf X Y Z (andn (2 ^ (X * Y * Z) - 1) (setOf Y Z L))) (by first | omega | assumption | (simp; done) | (have := (HeapL.list _ _ _ _).len; omega)) (by first | assumption | exact HeapL.small ‹_› ‹_› | exact HeapL.small (HeapL.list _ _ _ _) ‹_›)) ⟨rdF true (flatA3 _ _ _ _) rfl rfl, trivial⟩ rfl ⟨clF (flatA3 _ _ _ _), trivial⟩ rfl (by first | rfl | simp [mpV, mpA, mpS, mpP, renId, shift]) rfl) ?_
  refine segEnd [2, 3] (T1 := (mkT 11 [(2, vI (parL (listOf X Y Z (andn (2 ^ (X * Y * Z) - 1) (setOf Y Z L))))), (3, .bool true)])) (H1 := [some ⟨a3s L, 25, false, false⟩, rB [vN X, vN Y, vN Z, vS 0 L.length] 29, some ⟨a3s (listOf X Y Z (andn (2 ^ (X * Y * Z) - 1) (setOf Y Z L))), 25, false, true⟩]) (by kernel_rfl) ?_
  refine kSeq ?_
  refine cRet ?_
  -- end
  exact endQ (Or.inr rfl) (l := [vI (parL (listOf X Y Z (andn (2 ^ (X * Y * Z) - 1) (setOf Y Z L)))), .bool true]) [rB [vN X, vN Y, vN Z, vS 0 L.length] 29, some ⟨a3s (listOf X Y Z (andn (2 ^ (X * Y * Z) - 1) (setOf Y Z L))), 25, false, true⟩] (by kernel_rfl) (by first | rfl | kernel_rfl) rfl rfl hcl rfl

set_option maxRecDepth 100000 in
set_option maxHeartbeats 4000000 in
theorem implFreeParity_no (x : Int) (y : Int) (z : Int) (L : List A3) (hl : L.length ≤ 1048576) (hv : isHeapB x y z L = false) : Sound Try.prog 41 [.agg #[vI x, vI y, vI z, vS 0 L.length]] [some ⟨a3s L, 25, false, false⟩] (.tuple #[vI 0, .bool false]) [some ⟨a3s L, 25, false, false⟩] := by
  refine sound_intro (C := cx) Try.func41 rfl (by kernel_rfl) fun hcl => ?_
  refine cSeq ?_
  refine cReg ?_
  refine segEnd [1] (T1 := (mkT 13 [(1, vP 1 0)])) (H1 := [some ⟨a3s L, 25, false, false⟩, rB [vI x, vI y, vI z, vS 0 L.length] 29]) (by kernel_rfl) ?_
  refine kSeq ?_
  refine cSeq ?_
  refine cSeq ?_
  refine cReg ?_
  refine segH 1 (T1 := (mkT 13 [(1, vP 1 0), (4, .agg #[vI x, vI y, vI z, vS 0 L.length])])) (by kernel_rfl) ?_
  refine rCall (v := .bool false) (args := [.agg #[vI x, vI y, vI z, vS 0 L.length]]) (by kernel_rfl) rfl (by kernel_rfl) (Sound.lay0 [0] (isHeapBt_no x y z L (by first | assumption | omega | rfl | decide | exact HeapL.list _ _ _ _ | exact HeapL.nil _ _ _ | exact HeapL.all _ _ _ | (apply HeapL.lt64 <;> assumption) | (repeat' (first | assumption | apply or_lt64 | apply and_lt64 | apply andn_lt64 | apply pow_lt64 | (apply HeapL.lt64 <;> assumption)))) (by first | assumption | omega | rfl | decide | exact HeapL.list _ _ _ _ | exact HeapL.nil _ _ _ | exact HeapL.all _ _ _ | (apply HeapL.lt64 <;> assumption) | (repeat' (first | assumption | apply or_lt64 | apply and_lt64 | apply andn_lt64 | apply pow_lt64 | (apply HeapL.lt64 <;> assumption))))) ⟨rdF false (flatA3 _ _ _ _) rfl rfl, trivial⟩ rfl ⟨clF (flatA3 _ _ _ _), trivial⟩ rfl (by first | rfl | simp [mpV, mpA, mpS, mpP, renId, shift]) rfl) ?_
  refine segEndH [1, 6] (T1 := (mkT 13 [(1, vP 1 0), (6, .bool true)])) (by kernel_rfl) ?_
  refine kSeq ?_
  refine cTrue (by kernel_rfl) ?_
  refine cSeq ?_
  refine cReg ?_
  refine segEndH [2, 3] (T1 := (mkT 13 [(2, vI 0), (3, .bool false)])) (by kernel_rfl) ?_
  refine kSeq ?_
  refine cRet ?_
  refine kSeqR ?_
  -- end
  exact endQ (Or.inr rfl) (l := [vI 0, .bool false]) [rB [vI x, vI y, vI z, vS 0 L.length] 29] (by kernel_rfl) (by first | rfl | kernel_rfl) rfl rfl hcl rfl

set_option maxRecDepth 100000 in
set_option maxHeartbeats 4000000 in
theorem implFreeParity_yes (X : Nat) (Y : Nat) (Z : Nat) (L : List A3) (hs : Sides X Y Z) (hL : HeapL X Y Z L) : Sound Try.prog 41 [.agg #[vN X, vN Y, vN Z, vS 0 L.length]] [some ⟨a3s L, 25, false, false⟩] (.tuple #[vI (parL (listOf X Y Z (andn (2 ^ (X * Y * Z) - 1) (setOf Y Z L)))), .bool true]) [some ⟨a3s L, 25, false, false⟩] := by
  refine sound_intro (C := cx) Try.func41 rfl (by kernel_rfl) fun hcl => ?_
  have hz := hs.size
  have hx0 := hs.x0
  have hx4 := hs.x4
  have hy0 := hs.y0
  have hy4 := hs.y4
  have hz0 := hs.z0
  have hz4 := hs.z4
  have hlen := hL.len
  have hlt := hL.lt64 hs
  have hol := (HeapL.list X Y Z (andn (2 ^ (X * Y * Z) - 1) (setOf Y Z L))).len
  have hfull : 2 ^ (X * Y * Z) - 1 < 18446744073709551616 := by have := hs.pow; have := Nat.two_pow_pos (X * Y * Z); omega
  refine cSeq ?_
  refine cReg ?_
  refine segEnd [1] (T1 := (mkT 13 [(1, vP 1 0)])) (H1 := [some ⟨a3s L, 25, false, false⟩, rB [vN X, vN Y, vN Z, vS 0 L.length] 29]) (by kernel_rfl) ?_
  refine kSeq ?_
  refine cSeq ?_
  refine cSeq ?_
  refine cReg ?_
  refine segH 1 (T1 := (mkT 13 [(1, vP 1 0), (4, .agg #[vN X, vN Y, vN Z, vS 0 L.length])])) (by kernel_rfl) ?_
  refine rCall (v := .bool true) (args := [.agg #[vN X, vN Y, vN Z, vS 0 L.length]]) (by kernel_rfl) rfl (by kernel_rfl) (Sound.lay0 [0] (isHeapBt X Y Z L (by first | assumption | omega | rfl | decide | exact HeapL.list _ _ _ _ | exact HeapL.nil _ _ _ | exact HeapL.all _ _ _ | (apply HeapL.lt64 <;> assumption) | (repeat' (first | assumption | apply or_lt64 | apply and_lt64 | apply andn_lt64 | apply pow_lt64 | (apply HeapL.lt64 <;> assumption)))) (by first | assumption | omega | rfl | decide | exact HeapL.list _ _ _ _ | exact HeapL.nil _ _ _ | exact HeapL.all _ _ _ | (apply HeapL.lt64 <;> assumption) | (repeat' (first | assumption | apply or_lt64 | apply and_lt64 | apply andn_lt64 | apply pow_lt64 | (apply HeapL.lt64 <;> assumption))))) ⟨rdF false (flatA3 _ _ _ _) rfl rfl, trivial⟩ rfl ⟨clF (flatA3 _ _ _ _), trivial⟩ rfl (by first | rfl | simp [mpV, mpA, mpS, mpP, renId, shift]) rfl) ?_
  refine segEndH [1, 6] (T1 := (mkT 13 [(1, vP 1 0), (6, .bool false)])) (by kernel_rfl) ?_
  refine kSeq ?_
  refine cFalse (by kernel_rfl) ?_
  refine cSkip ?_
  refine kSeq ?_
  refine cSeq ?_
  refine cRegW (N := 3) [⟨[], [], [1]⟩, ⟨[], [], [0]⟩, ⟨[], [], [1]⟩, ⟨[], [], [0]⟩, ⟨[2], [], []⟩, ⟨[], [], [2]⟩, ⟨[], [], []⟩, ⟨[], [], []⟩] 1 [2] (by rfl) (by rfl) (by kernel_rfl) (by kernel_rfl) (by kernel_rfl) ⟨nmsF (flatA3 _ _ _ _), ⟨nmsX (by kernel_rfl), trivial⟩⟩ ?_
  refine segWH 1 (T1 := (mkT 13 [(1, vP 1 0), (6, .bool false), (7, .agg #[vN X, vN Y, vN Z, vS 0 L.length])])) (by kernel_rfl) ?_
  refine rW (m := ⟨[], [], [0]⟩) (v := .agg #[vN X, vN Y, vN Z]) rfl (by kernel_rfl) (stQ (args := [.agg #[vN X, vN Y, vN Z, vS 0 L.length]]) rfl (by kernel_rfl) (Any.lay0 [0] (boxB ((X : Nat) : Int) ((Y : Nat) : Int) ((Z : Nat) : Int) L) ⟨rdF false (flatA3 _ _ _ _) rfl rfl, trivial⟩ rfl ⟨clF (flatA3 _ _ _ _), trivial⟩ rfl (by first | rfl | simp [mpV, mpA, mpS, mpP, renId, shift]) (by first | rfl | simp [mpV, mpA, mpS, mpP, renId, shift])) rfl (by kernel_rfl) (by kernel_rfl)) (by kernel_rfl) nr0 ?_
  refine segWH 1 (T1 := (mkT 13 [(1, vP 1 0), (6, .bool false), (7, .agg #[vN X, vN Y, vN Z, vS 0 L.length]), (8, .agg #[vN X, vN Y, vN Z]), (9, .agg #[vN X, vN Y, vN Z, vS 0 L.length])])) (by kernel_rfl) ?_
  refine rW (m := ⟨[], [], [0]⟩) (v := vU (andn (2 ^ (X * Y * Z) - 1) (setOf Y Z L))) rfl (by kernel_rfl) (stQ (args := [.agg #[vN X, vN Y, vN Z, vS 0 L.length]]) rfl (by kernel_rfl) (Any.lay0 [0] (freeB X Y Z L (by first | assumption | omega | rfl | decide | exact HeapL.list _ _ _ _ | exact HeapL.nil _ _ _ | exact HeapL.all _ _ _ | (apply HeapL.lt64 <;> assumption) | (repeat' (first | assumption | apply or_lt64 | apply and_lt64 | apply andn_lt64 | apply pow_lt64 | (apply HeapL.lt64 <;> assumption)))) (by first | assumption | omega | rfl | decide | exact HeapL.list _ _ _ _ | exact HeapL.nil _ _ _ | exact HeapL.all _ _ _ | (apply HeapL.lt64 <;> assumption) | (repeat' (first | assumption | apply or_lt64 | apply and_lt64 | apply andn_lt64 | apply pow_lt64 | (apply HeapL.lt64 <;> assumption))))) ⟨rdF false (flatA3 _ _ _ _) rfl rfl, trivial⟩ rfl ⟨clF (flatA3 _ _ _ _), trivial⟩ rfl (by first | rfl | simp [mpV, mpA, mpS, mpP, renId, shift]) rfl) rfl (by kernel_rfl) (by kernel_rfl)) (by kernel_rfl) nr0 ?_
  refine rW (m := ⟨[2], [], []⟩) (v := vS 2 ((listOf X Y Z (andn (2 ^ (X * Y * Z) - 1) (setOf Y Z L))).length)) rfl (by kernel_rfl) (stN (i := 2) (E := [some ⟨a3s (listOf X Y Z (andn (2 ^ (X * Y * Z) - 1) (setOf Y Z L))), 25, false, true⟩]) (v1 := vS 3 ((listOf X Y Z (andn (2 ^ (X * Y * Z) - 1) (setOf Y Z L))).length)) (args := [.agg #[vN X, vN Y, vN Z], vU (andn (2 ^ (X * Y * Z) - 1) (setOf Y Z L))]) rfl (by kernel_rfl) (Any.lay [] (listB X Y Z (andn (2 ^ (X * Y * Z) - 1) (setOf Y Z L)) (by first | assumption | omega | rfl | decide | exact HeapL.list _ _ _ _ | exact HeapL.nil _ _ _ | exact HeapL.all _ _ _ | (apply HeapL.lt64 <;> assumption) | (repeat' (first | assumption | apply or_lt64 | apply and_lt64 | apply andn_lt64 | apply pow_lt64 | (apply HeapL.lt64 <;> assumption)))) (by first | assumption | omega | rfl | decide | exact HeapL.list _ _ _ _ | exact HeapL.nil _ _ _ | exact HeapL.all _ _ _ | (apply HeapL.lt64 <;> assumption) | (repeat' (first | assumption | apply or_lt64 | apply and_lt64 | apply andn_lt64 | apply pow_lt64 | (apply HeapL.lt64 <;> assumption))))) trivial rfl trivial rfl (by first | rfl | simp [mpV, mpA, mpS, mpP, renId, shift]) rfl ⟨enF (flatA3 _ _ _ _) (Or.inl rfl), trivial⟩) rfl (by kernel_rfl) (by kernel_rfl) (by kernel_rfl) (by kernel_rfl) (FlatH.cons (flatA3 _ _ _ _) FlatH.nil)) (by kernel_rfl) (NRs.all ⟨nrOf (by rfl) (nmF (flatA3 _ _ _ _)), trivial⟩) ?_
  refine rW (m := ⟨[], [], [2]⟩) (v := vI (parL (listOf X Y Z (andn (2 ^ (X * Y * Z) - 1) (setOf Y Z L))))) rfl (by kernel_rfl) (stQ (args := [vS 2 ((listOf X Y Z (andn (2 ^ (X * Y * Z) - 1) (setOf Y Z L))).length)]) rfl (by kernel_rfl) (Any.lay0 [2] (parityB (listOf X Y Z (andn (2 ^ (X * Y * Z) - 1) (setOf Y Z L))) (by first | omega | assumption | (simp; done) | (have := (HeapL.list _ _ _ _).len; omega)) (by first | assumption | exact HeapL.small ‹_› ‹_› | exact HeapL.small (HeapL.list _ _ _ _) ‹_›)) ⟨rdF true (flatA3 _ _ _ _) rfl rfl, trivial⟩ rfl ⟨clF (flatA3 _ _ _ _), trivial⟩ rfl (by first | rfl | simp [mpV, mpA, mpS, mpP, renId, shift]) rfl) rfl (by kernel_rfl) (by kernel_rfl)) (by kernel_rfl) nr0 ?_
  refine segEndW [2, 3] (T1 := (mkT 13 [(2, vI (parL (listOf X Y Z (andn (2 ^ (X * Y * Z) - 1) (setOf Y Z L))))), (3, .bool true)])) (H1 := [some ⟨a3s L, 25, false, false⟩, rB [vN X, vN Y, vN Z, vS 0 L.length] 29, some ⟨a3s (listOf X Y Z (andn (2 ^ (X * Y * Z) - 1) (setOf Y Z L))), 25, false, true⟩]) (by kernel_rfl) ?_
  refine kSeq ?_
  refine cRet ?_
  -- end
  exact endQ (Or.inr rfl) (l := [vI (parL (listOf X Y Z (andn (2 ^ (X * Y * Z) - 1) (setOf Y Z L)))), .bool true]) [rB [vN X, vN Y, vN Z, vS 0 L.length] 29, some ⟨a3s (listOf X Y Z (andn (2 ^ (X * Y * Z) - 1) (setOf Y Z L))), 25, false, true⟩] (by kernel_rfl) (by first | rfl | kernel_rfl) rfl rfl hcl rfl

end Go.Proofs.Ytenkiofddpjidaa
