/- Walks. No condition. -/
import Derived.Test.YtbheeobnghlckaaAmM
import Derived.Test.YtbheeobnghlckaaAmS4GX
set_option linter.unusedVariables false
set_option linter.unusedSimpArgs false
namespace Go.Proofs.Ytbheeobnghlckaa
open Go.Am Go.RowKit
set_option maxRecDepth 100000 in
set_option maxHeartbeats 4000000 in
theorem within_ok (n lo hi : Int) : Sound Try.prog 68 [vI n, vI lo, vI hi] [] (.bool (inR n lo hi)) [] := by
  refine sound_intro (C := cx) Try.func68 rfl (by kernel_rfl) fun hcl => ?_
  refine cSeq ?_
  refine cReg ?_
  refine segEnd [0, 1, 2, 6] (T1 := (mkT 15 [(0, vI n), (1, vI lo), (2, vI hi), (6, .bool false)])) (H1 := []) (by kernel_rfl) ?_
  refine kSeq ?_
  refine cSeq ?_
  refine cReg ?_
  refine seg 4 (T1 := (mkT 15 [(0, vI n), (1, vI lo), (2, vI hi), (6, .bool false), (7, vI n), (8, vI lo), (9, .bool (decide (n ≥ lo))), (10, .bool (decide (n ≥ lo)))])) (H1 := []) (by kernel_rfl) ?_
  cases h1 : (decide (n ≥ lo) : Bool)
  ·
    (try simp only [Bool.not_eq_true', Bool.not_eq_false', decide_eq_true_eq, decide_eq_false_iff_not, beq_iff_eq, bne_iff_ne, beq_eq_false_iff_ne, bne_eq_false_iff_eq, ne_eq, Decidable.not_not, Bool.and_eq_true, Bool.and_eq_false_imp, Bool.or_eq_true, Bool.or_eq_false_iff, Bool.not_eq_true, Int.not_lt, Int.not_le, ge_iff_le, gt_iff_lt] at h1)
    refine segEnd [0, 1, 2, 6] (T1 := (mkT 15 [(0, vI n), (1, vI lo), (2, vI hi), (6, .bool false)])) (H1 := []) (by kernel_rfl) ?_
    refine kSeq ?_
    refine cRet ?_
    exact endQ (Or.inr rfl) (l := [.bool false]) [] (by kernel_rfl) (congrArg Value.bool (Bool.eq_iff_iff.2 (by simp only [inR, valid3, has3, Bool.not_eq_true', Bool.not_eq_false', decide_eq_true_eq, decide_eq_false_iff_not, beq_iff_eq, bne_iff_ne, beq_eq_false_iff_ne, bne_eq_false_iff_eq, ne_eq, Decidable.not_not, Bool.and_eq_true, Bool.and_eq_false_imp, Bool.or_eq_true, Bool.or_eq_false_iff, Bool.not_eq_true, Int.not_lt, Int.not_le, ge_iff_le, gt_iff_lt, Bool.false_eq_true, true_iff, false_iff, iff_self]; try omega))) rfl rfl hcl rfl
  ·
    (try simp only [Bool.not_eq_true', Bool.not_eq_false', decide_eq_true_eq, decide_eq_false_iff_not, beq_iff_eq, bne_iff_ne, beq_eq_false_iff_ne, bne_eq_false_iff_eq, ne_eq, Decidable.not_not, Bool.and_eq_true, Bool.and_eq_false_imp, Bool.or_eq_true, Bool.or_eq_false_iff, Bool.not_eq_true, Int.not_lt, Int.not_le, ge_iff_le, gt_iff_lt] at h1)
    refine segEnd [0, 1, 2, 6] (T1 := (mkT 15 [(0, vI n), (1, vI lo), (2, vI hi), (6, .bool (decide (n ≤ hi)))])) (H1 := []) (by kernel_rfl) ?_
    refine kSeq ?_
    refine cRet ?_
    exact endQ (Or.inr rfl) (l := [.bool (decide (n ≤ hi))]) [] (by kernel_rfl) (congrArg Value.bool (Bool.eq_iff_iff.2 (by simp only [inR, valid3, has3, Bool.not_eq_true', Bool.not_eq_false', decide_eq_true_eq, decide_eq_false_iff_not, beq_iff_eq, bne_iff_ne, beq_eq_false_iff_ne, bne_eq_false_iff_eq, ne_eq, Decidable.not_not, Bool.and_eq_true, Bool.and_eq_false_imp, Bool.or_eq_true, Bool.or_eq_false_iff, Bool.not_eq_true, Int.not_lt, Int.not_le, ge_iff_le, gt_iff_lt, Bool.false_eq_true, true_iff, false_iff, iff_self]; try omega))) rfl rfl hcl rfl

set_option maxRecDepth 100000 in
set_option maxHeartbeats 4000000 in
theorem l1In_ok (n lo hi : Int) : Sound Try.prog 76 [vI n, vI lo, vI hi] [] (.bool (inR n lo hi)) [] := by
  refine sound_intro (C := cx) Try.func76 rfl (by kernel_rfl) fun hcl => ?_
  refine cSeq ?_
  refine cReg ?_
  refine segEnd [0, 1, 2, 6] (T1 := (mkT 15 [(0, vI n), (1, vI lo), (2, vI hi), (6, .bool false)])) (H1 := []) (by kernel_rfl) ?_
  refine kSeq ?_
  refine cSeq ?_
  refine cReg ?_
  refine seg 4 (T1 := (mkT 15 [(0, vI n), (1, vI lo), (2, vI hi), (6, .bool false), (7, vI n), (8, vI lo), (9, .bool (decide (n ≥ lo))), (10, .bool (decide (n ≥ lo)))])) (H1 := []) (by kernel_rfl) ?_
  cases h1 : (decide (n ≥ lo) : Bool)
  ·
    (try simp only [Bool.not_eq_true', Bool.not_eq_false', decide_eq_true_eq, decide_eq_false_iff_not, beq_iff_eq, bne_iff_ne, beq_eq_false_iff_ne, bne_eq_false_iff_eq, ne_eq, Decidable.not_not, Bool.and_eq_true, Bool.and_eq_false_imp, Bool.or_eq_true, Bool.or_eq_false_iff, Bool.not_eq_true, Int.not_lt, Int.not_le, ge_iff_le, gt_iff_lt] at h1)
    refine segEnd [0, 1, 2, 6] (T1 := (mkT 15 [(0, vI n), (1, vI lo), (2, vI hi), (6, .bool false)])) (H1 := []) (by kernel_rfl) ?_
    refine kSeq ?_
    refine cRet ?_
    exact endQ (Or.inr rfl) (l := [.bool false]) [] (by kernel_rfl) (congrArg Value.bool (Bool.eq_iff_iff.2 (by simp only [inR, valid3, has3, Bool.not_eq_true', Bool.not_eq_false', decide_eq_true_eq, decide_eq_false_iff_not, beq_iff_eq, bne_iff_ne, beq_eq_false_iff_ne, bne_eq_false_iff_eq, ne_eq, Decidable.not_not, Bool.and_eq_true, Bool.and_eq_false_imp, Bool.or_eq_true, Bool.or_eq_false_iff, Bool.not_eq_true, Int.not_lt, Int.not_le, ge_iff_le, gt_iff_lt, Bool.false_eq_true, true_iff, false_iff, iff_self]; try omega))) rfl rfl hcl rfl
  ·
    (try simp only [Bool.not_eq_true', Bool.not_eq_false', decide_eq_true_eq, decide_eq_false_iff_not, beq_iff_eq, bne_iff_ne, beq_eq_false_iff_ne, bne_eq_false_iff_eq, ne_eq, Decidable.not_not, Bool.and_eq_true, Bool.and_eq_false_imp, Bool.or_eq_true, Bool.or_eq_false_iff, Bool.not_eq_true, Int.not_lt, Int.not_le, ge_iff_le, gt_iff_lt] at h1)
    refine segEnd [0, 1, 2, 6] (T1 := (mkT 15 [(0, vI n), (1, vI lo), (2, vI hi), (6, .bool (decide (n ≤ hi)))])) (H1 := []) (by kernel_rfl) ?_
    refine kSeq ?_
    refine cRet ?_
    exact endQ (Or.inr rfl) (l := [.bool (decide (n ≤ hi))]) [] (by kernel_rfl) (congrArg Value.bool (Bool.eq_iff_iff.2 (by simp only [inR, valid3, has3, Bool.not_eq_true', Bool.not_eq_false', decide_eq_true_eq, decide_eq_false_iff_not, beq_iff_eq, bne_iff_ne, beq_eq_false_iff_ne, bne_eq_false_iff_eq, ne_eq, Decidable.not_not, Bool.and_eq_true, Bool.and_eq_false_imp, Bool.or_eq_true, Bool.or_eq_false_iff, Bool.not_eq_true, Int.not_lt, Int.not_le, ge_iff_le, gt_iff_lt, Bool.false_eq_true, true_iff, false_iff, iff_self]; try omega))) rfl rfl hcl rfl

end Go.Proofs.Ytbheeobnghlckaa
