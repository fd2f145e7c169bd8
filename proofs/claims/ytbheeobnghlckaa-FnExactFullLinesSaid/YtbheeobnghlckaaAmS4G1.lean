/- Walks. No condition. -/
import Derived.Test.YtbheeobnghlckaaAmM
import Derived.Test.YtbheeobnghlckaaAmS4GX
set_option linter.unusedVariables false
set_option linter.unusedSimpArgs false
namespace Go.Proofs.Ytbheeobnghlckaa
open Go.Am Go.RowKit
set_option maxRecDepth 100000 in
set_option maxHeartbeats 4000000 in
theorem within_ok (n lo hi : Int) : Sound Try.prog 68 [vI n, vI lo, vI hi] [] (.bool (inR n lo hi)) [] := by
  refine sound_intro (C := cx) Try.func68 rfl (by kernel_rfl) fun hcl => ?_
  refine cSeq ?_
  refine cReg ?_
  refine segEnd [0, 1, 2, 6] (T1 := (mkT 15 [(0, vI n), (1, vI lo), (2, vI hi), (6, .bool false)])) (H1 := []) (by kernel_rfl) ?_
  refine kSeq ?_
  refine cSeq ?_
  refine cReg ?_
  refine seg 4 (T1 := (mkT 15 [(0, vI n), (1, vI lo), (2, vI hi), (6, .bool false), (7, vI n), (8, vI lo), (9, .bool (decide (n ≥ lo))), (10, .bool (decide (n ≥ lo)))])) (H1 := []) (by kernel_rfl) ?_
  cases h1 : (decide (n ≥ lo) : Bool)
  ·
    (try simp only [Bool.not_eq_true', Bool.not_eq_false', decide_eq_true_eq, decide_eq_false_iff_not, beq_iff_eq, bne_iff_ne, beq_eq_false_iff_ne, bne_eq_false_iff_eq, ne_eq, Decidable.not_not, Bool.and_eq_true, Bool.and_eq_false_imp, Bool.or_eq_true, Bool.or_eq_false_iff, Bool.not_eq_true, Int.not_lt, Int.not_le, ge_iff_le, gt_iff_lt] at h1)
    refine segEnd [0, 1, 2, 6] (T1 := (mkT 15 [(0, vI n), (1, vI lo), (2, vI hi), (6, .bool false)])) (H1 := []) (by kernel_rfl) ?_
    refine kSeq ?_
    refine cRet ?_
    exact endQ (Or.inr rfl) (l := [.bool false]) [] (by kernel_rfl) (congrArg Value.bool (Bool.eq_iff_iff.2 (by simp only [inR, valid3, has3, Bool.not_eq_true', Bool.not_eq_false', decide_eq_true_eq, decide_eq_false_iff_not, beq_iff_eq, bne_iff_ne, beq_eq_false_iff_ne, bne_eq_false_iff_eq, ne_eq, Decidable.not_not, Bool.and_eq_true, Bool.and_eq_false_imp, Bool.or_eq_true, Bool.or_eq_false_iff, Bool.not_eq_true, Int.not_lt, Int.not_le, ge_iff_le, gt_iff_lt, Bool.false_eq_true, true_iff, false_iff, iff_self]; try omega))) rfl rfl hcl rfl
  ·
    (try simp only [Bool.not_eq_true', Bool.not_eq_false', decide_eq_true_eq, decide_eq_false_iff_not, beq_iff_eq, bne_iff_ne, beq_eq_false_iff_ne, bne_eq_false_iff_eq, ne_eq, Decidable.not_not, Bool.and_eq_true, Bool.and_eq_false_imp, Bool.or_eq_true, Bool.or_eq_false_iff, Bool.not_eq_true, Int.not_lt, Int.not_le, ge_iff_le, gt_iff_lt] at h1)
    refine segEnd [0, 1, 2, 6] (T1 := (mkT 15 [(0, vI n), (1, vI lo), (2, vI hi), (6, .bool (decide (n ≤ hi)))])) (H1 := []) (by kernel_rfl) ?_
    refine kSeq ?_
    refine cRet ?_
    exact endQ (Or.inr rfl) (l := [.bool (decide (n ≤ hi))]) [] (by kernel_rfl) (congrArg Value.bool (Bool.eq_iff_iff.2 (by simp only [inR, valid3, has3, Bool.not_eq_true', Bool.not_eq_false', decide_eq_true_eq, decide_eq_false_iff_not, beq_iff_eq, bne_iff_ne, beq_eq_false_iff_ne, bne_eq_false_iff_eq, ne_eq, Decidable.not_not, Bool.and_eq_true, Bool.and_eq_false_imp, Bool.or_eq_true, Bool.or_eq_false_iff, Bool.not_eq_true, Int.not_lt, Int.not_le, ge_iff_le, gt_iff_lt, Bool.false_eq_true, true_iff, false_iff, iff_self]; try omega))) rfl rfl hcl rfl

set_option maxRecDepth 100000 in
set_option maxHeartbeats 4000000 in
theorem l1In_ok (n lo hi : Int) : Sound Try.prog 76 [vI n, vI lo, vI hi] [] (.bool (inR n lo hi)) [] := by
  refine sound_intro (C := cx) Try.func76 rfl (by kernel_rfl) fun hcl => ?_
  refine cSeq ?_
  refine cReg ?_
  refine segEnd [0, 1, 2, 6] (T1 := (mkT 15 [(0, vI n), (1, vI lo), (2, vI hi), (6, .bool false)])) (H1 := []) (by kernel_rfl) ?_
  refine kSeq ?_
  refine cSeq ?_
  refine cReg ?_
  refine seg 4 (T1 := (mkT 15 [(0, vI n), (1, vI lo), (2, vI hi), (6, .bool false), (7, vI n), (8, vI lo), (9, .bool (decide (n ≥ lo))), (10, .bool (decide (n ≥ lo)))])) (H1 := []) (by kernel_rfl) ?_
  cases h1 : (decide (n ≥ lo) : Bool)
  ·
    (try simp only [Bool.not_eq_true', Bool.not_eq_false', decide_eq_true_eq, decide_eq_false_iff_not, beq_iff_eq, bne_iff_ne, beq_eq_false_iff_ne, bne_eq_false_iff_eq, ne_eq, Decidable.not_not, Bool.and_eq_true, Bool.and_eq_false_imp, Bool.or_eq_true, Bool.or_eq_false_iff, Bool.not_eq_true, Int.not_lt, Int.not_le, ge_iff_le, gt_iff_lt] at h1)
    refine segEnd [0, 1, 2, 6] (T1 := (mkT 15 [(0, vI n), (1, vI lo), (2, vI hi), (6, .bool false)])) (H1 := []) (by kernel_rfl) ?_
    refine kSeq ?_
    refine cRet ?_
    exact endQ (Or.inr rfl) (l := [.bool false]) [] (by kernel_rfl) (congrArg Value.bool (Bool.eq_iff_iff.2 (by simp only [inR, valid3, has3, Bool.not_eq_true', Bool.not_eq_false', decide_eq_true_eq, decide_eq_false_iff_not, beq_iff_eq, bne_iff_ne, beq_eq_false_iff_ne, bne_eq_false_iff_eq, ne_eq, Decidable.not_not, Bool.and_eq_true, Bool.and_eq_false_imp, Bool.or_eq_true, Bool.or_eq_false_iff, Bool.not_eq_true, Int.not_lt, Int.not_le, ge_iff_le, gt_iff_lt, Bool.false_eq_true, true_iff, false_iff, iff_self]; try omega))) rfl rfl hcl rfl
  ·
    (try simp only [Bool.not_eq_true', Bool.not_eq_false', decide_eq_true_eq, decide_eq_false_iff_not, beq_iff_eq, bne_iff_ne, beq_eq_false_iff_ne, bne_eq_false_iff_eq, ne_eq, Decidable.not_not, Bool.and_eq_true, Bool.and_eq_false_imp, Bool.or_eq_true, Bool.or_eq_false_iff, Bool.not_eq_true, Int.not_lt, Int.not_le, ge_iff_le, gt_iff_lt] at h1)
    refine segEnd [0, 1, 2, 6] (T1 := (mkT 15 [(0, vI n), (1, vI lo), (2, vI hi), (6, .bool (decide (n ≤ hi)))])) (H1 := []) (by kernel_rfl) ?_
    refine kSeq ?_
    refine cRet ?_
    exact endQ (Or.inr rfl) (l := [.bool (decide (n ≤ hi))]) [] (by kernel_rfl) (congrArg Value.bool (Bool.eq_iff_iff.2 (by simp only [inR, valid3, has3, Bool.not_eq_true', Bool.not_eq_false', decide_eq_true_eq, decide_eq_false_iff_not, beq_iff_eq, bne_iff_ne, beq_eq_false_iff_ne, bne_eq_false_iff_eq, ne_eq, Decidable.not_not, Bool.and_eq_true, Bool.and_eq_false_imp, Bool.or_eq_true, Bool.or_eq_false_iff, Bool.not_eq_true, Int.not_lt, Int.not_le, ge_iff_le, gt_iff_lt, Bool.false_eq_true, true_iff, false_iff, iff_self]; try omega))) rfl rfl hcl rfl

set_option maxRecDepth 100000 in
set_option maxHeartbeats 4000000 in
theorem valid_ok (bx by_ bz : Int) : Sound Try.prog 62 [.agg #[vI bx, vI by_, vI bz]] [] (.bool (valid3 bx by_ bz)) [] := by
  refine sound_intro (C := cx) Try.func62 rfl (by kernel_rfl) fun hcl => ?_
  refine cSeq ?_
  refine cReg ?_
  refine segEnd [0, 1, 2] (T1 := (mkT 16 [(0, .agg #[vI bx, vI by_, vI bz]), (1, vP 0 0), (2, .bool false)])) (H1 := [rB [vI bx, vI by_, vI bz] 75]) (by kernel_rfl) ?_
  refine kSeq ?_
  refine cSeq ?_
  refine cReg ?_
  refine seg 2 (T1 := (mkT 16 [(0, .agg #[vI bx, vI by_, vI bz]), (1, vP 0 0), (2, .bool false), (3, vP 0 0), (4, vI bx)])) (H1 := [rB [vI bx, vI by_, vI bz] 75]) (by kernel_rfl) ?_
  refine rCall (v := .bool (inR bx 1 4)) (H' := [rB [vI bx, vI by_, vI bz] 75]) (args := [vI bx, vI 1, vI 4]) (by kernel_rfl) rfl (by kernel_rfl) ((within_ok bx 1 4).flat rfl rfl _) ?_
  refine seg 1 (T1 := (mkT 16 [(0, .agg #[vI bx, vI by_, vI bz]), (1, vP 0 0), (2, .bool false), (3, vP 0 0), (4, vI bx), (5, .bool (inR bx 1 4)), (6, .bool (inR bx 1 4))])) (H1 := [rB [vI bx, vI by_, vI bz] 75]) (by kernel_rfl) ?_
  cases h1 : (inR bx 1 4 : Bool)
  ·
    (try simp only [Bool.not_eq_true', Bool.not_eq_false', decide_eq_true_eq, decide_eq_false_iff_not, beq_iff_eq, bne_iff_ne, beq_eq_false_iff_ne, bne_eq_false_iff_eq, ne_eq, Decidable.not_not, Bool.and_eq_true, Bool.and_eq_false_imp, Bool.or_eq_true, Bool.or_eq_false_iff, Bool.not_eq_true, Int.not_lt, Int.not_le, ge_iff_le, gt_iff_lt, inR] at h1)
    refine segEnd [0, 1, 2] (T1 := (mkT 16 [(0, .agg #[vI bx, vI by_, vI bz]), (1, vP 0 0), (2, .bool false)])) (H1 := [rB [vI bx, vI by_, vI bz] 75]) (by kernel_rfl) ?_
    refine kSeq ?_
    refine cRet ?_
    exact endQ (Or.inr rfl) (l := [.bool false]) [rB [vI bx, vI by_, vI bz] 75] (by kernel_rfl) (congrArg Value.bool (Bool.eq_iff_iff.2 (by simp only [inR, valid3, has3, Bool.not_eq_true', Bool.not_eq_false', decide_eq_true_eq, decide_eq_false_iff_not, beq_iff_eq, bne_iff_ne, beq_eq_false_iff_ne, bne_eq_false_iff_eq, ne_eq, Decidable.not_not, Bool.and_eq_true, Bool.and_eq_false_imp, Bool.or_eq_true, Bool.or_eq_false_iff, Bool.not_eq_true, Int.not_lt, Int.not_le, ge_iff_le, gt_iff_lt, Bool.false_eq_true, true_iff, false_iff, iff_self]; try omega))) rfl rfl hcl rfl
  ·
    (try simp only [Bool.not_eq_true', Bool.not_eq_false', decide_eq_true_eq, decide_eq_false_iff_not, beq_iff_eq, bne_iff_ne, beq_eq_false_iff_ne, bne_eq_false_iff_eq, ne_eq, Decidable.not_not, Bool.and_eq_true, Bool.and_eq_false_imp, Bool.or_eq_true, Bool.or_eq_false_iff, Bool.not_eq_true, Int.not_lt, Int.not_le, ge_iff_le, gt_iff_lt, inR] at h1)
    refine seg 2 (T1 := (mkT 16 [(0, .agg #[vI bx, vI by_, vI bz]), (1, vP 0 0), (2, .bool false), (3, vP 0 0), (4, vI bx), (5, .bool true), (6, .bool true), (7, vP 0 1), (8, vI by_)])) (H1 := [rB [vI bx, vI by_, vI bz] 75]) (by kernel_rfl) ?_
    refine rCall (v := .bool (inR by_ 1 4)) (H' := [rB [vI bx, vI by_, vI bz] 75]) (args := [vI by_, vI 1, vI 4]) (by kernel_rfl) rfl (by kernel_rfl) ((within_ok by_ 1 4).flat rfl rfl _) ?_
    refine seg 2 (T1 := (mkT 16 [(0, .agg #[vI bx, vI by_, vI bz]), (1, vP 0 0), (2, .bool false), (3, vP 0 0), (4, vI bx), (5, .bool true), (6, .bool true), (7, vP 0 1), (8, vI by_), (9, .bool (inR by_ 1 4)), (10, .bool (inR by_ 1 4)), (11, .bool (inR by_ 1 4))])) (H1 := [rB [vI bx, vI by_, vI bz] 75]) (by kernel_rfl) ?_
    cases h2 : (inR by_ 1 4 : Bool)
    ·
      (try simp only [Bool.not_eq_true', Bool.not_eq_false', decide_eq_true_eq, decide_eq_false_iff_not, beq_iff_eq, bne_iff_ne, beq_eq_false_iff_ne, bne_eq_false_iff_eq, ne_eq, Decidable.not_not, Bool.and_eq_true, Bool.and_eq_false_imp, Bool.or_eq_true, Bool.or_eq_false_iff, Bool.not_eq_true, Int.not_lt, Int.not_le, ge_iff_le, gt_iff_lt, inR] at h2)
      refine segEnd [0, 1, 2] (T1 := (mkT 16 [(0, .agg #[vI bx, vI by_, vI bz]), (1, vP 0 0), (2, .bool false)])) (H1 := [rB [vI bx, vI by_, vI bz] 75]) (by kernel_rfl) ?_
      refine kSeq ?_
      refine cRet ?_
      exact endQ (Or.inr rfl) (l := [.bool false]) [rB [vI bx, vI by_, vI bz] 75] (by kernel_rfl) (congrArg Value.bool (Bool.eq_iff_iff.2 (by simp only [inR, valid3, has3, Bool.not_eq_true', Bool.not_eq_false', decide_eq_true_eq, decide_eq_false_iff_not, beq_iff_eq, bne_iff_ne, beq_eq_false_iff_ne, bne_eq_false_iff_eq, ne_eq, Decidable.not_not, Bool.and_eq_true, Bool.and_eq_false_imp, Bool.or_eq_true, Bool.or_eq_false_iff, Bool.not_eq_true, Int.not_lt, Int.not_le, ge_iff_le, gt_iff_lt, Bool.false_eq_true, true_iff, false_iff, iff_self]; try omega))) rfl rfl hcl rfl
    ·
      (try simp only [Bool.not_eq_true', Bool.not_eq_false', decide_eq_true_eq, decide_eq_false_iff_not, beq_iff_eq, bne_iff_ne, beq_eq_false_iff_ne, bne_eq_false_iff_eq, ne_eq, Decidable.not_not, Bool.and_eq_true, Bool.and_eq_false_imp, Bool.or_eq_true, Bool.or_eq_false_iff, Bool.not_eq_true, Int.not_lt, Int.not_le, ge_iff_le, gt_iff_lt, inR] at h2)
      refine seg 2 (T1 := (mkT 16 [(0, .agg #[vI bx, vI by_, vI bz]), (1, vP 0 0), (2, .bool false), (3, vP 0 0), (4, vI bx), (5, .bool true), (6, .bool true), (7, vP 0 1), (8, vI by_), (9, .bool true), (10, .bool true), (11, .bool true), (12, vP 0 2), (13, vI bz)])) (H1 := [rB [vI bx, vI by_, vI bz] 75]) (by kernel_rfl) ?_
      refine rCall (v := .bool (inR bz 1 4)) (H' := [rB [vI bx, vI by_, vI bz] 75]) (args := [vI bz, vI 1, vI 4]) (by kernel_rfl) rfl (by kernel_rfl) ((within_ok bz 1 4).flat rfl rfl _) ?_
      refine segEnd [0, 1, 2] (T1 := (mkT 16 [(0, .agg #[vI bx, vI by_, vI bz]), (1, vP 0 0), (2, .bool (inR bz 1 4))])) (H1 := [rB [vI bx, vI by_, vI bz] 75]) (by kernel_rfl) ?_
      refine kSeq ?_
      refine cRet ?_
      exact endQ (Or.inr rfl) (l := [.bool (inR bz 1 4)]) [rB [vI bx, vI by_, vI bz] 75] (by kernel_rfl) (congrArg Value.bool (Bool.eq_iff_iff.2 (by simp only [inR, valid3, has3, Bool.not_eq_true', Bool.not_eq_false', decide_eq_true_eq, decide_eq_false_iff_not, beq_iff_eq, bne_iff_ne, beq_eq_false_iff_ne, bne_eq_false_iff_eq, ne_eq, Decidable.not_not, Bool.and_eq_true, Bool.and_eq_false_imp, Bool.or_eq_true, Bool.or_eq_false_iff, Bool.not_eq_true, Int.not_lt, Int.not_le, ge_iff_le, gt_iff_lt, Bool.false_eq_true, true_iff, false_iff, iff_self]; try omega))) rfl rfl hcl rfl

set_option maxRecDepth 100000 in
set_option maxHeartbeats 4000000 in
theorem sides_ok (bx by_ bz : Int) : Sound Try.prog 75 [vI bx, vI by_, vI bz] [] (.bool (valid3 bx by_ bz)) [] := by
  refine sound_intro (C := cx) Try.func75 rfl (by kernel_rfl) fun hcl => ?_
  refine cSeq ?_
  refine cReg ?_
  refine segEnd [0, 1, 2, 6] (T1 := (mkT 17 [(0, vI bx), (1, vI by_), (2, vI bz), (6, .bool false)])) (H1 := []) (by kernel_rfl) ?_
  refine kSeq ?_
  refine cSeq ?_
  refine cReg ?_
  refine seg 1 (T1 := (mkT 17 [(0, vI bx), (1, vI by_), (2, vI bz), (6, .bool false), (7, vI bx)])) (H1 := []) (by kernel_rfl) ?_
  refine rCall (v := .bool (inR bx 1 4)) (H' := []) (args := [vI bx, vI 1, vI 4]) (by kernel_rfl) rfl (by kernel_rfl) ((l1In_ok bx 1 4).flat rfl rfl _) ?_
  refine seg 1 (T1 := (mkT 17 [(0, vI bx), (1, vI by_), (2, vI bz), (6, .bool false), (7, vI bx), (8, .bool (inR bx 1 4)), (9, .bool (inR bx 1 4))])) (H1 := []) (by kernel_rfl) ?_
  cases h1 : (inR bx 1 4 : Bool)
  ·
    (try simp only [Bool.not_eq_true', Bool.not_eq_false', decide_eq_true_eq, decide_eq_false_iff_not, beq_iff_eq, bne_iff_ne, beq_eq_false_iff_ne, bne_eq_false_iff_eq, ne_eq, Decidable.not_not, Bool.and_eq_true, Bool.and_eq_false_imp, Bool.or_eq_true, Bool.or_eq_false_iff, Bool.not_eq_true, Int.not_lt, Int.not_le, ge_iff_le, gt_iff_lt, inR] at h1)
    refine segEnd [0, 1, 2, 6] (T1 := (mkT 17 [(0, vI bx), (1, vI by_), (2, vI bz), (6, .bool false)])) (H1 := []) (by kernel_rfl) ?_
    refine kSeq ?_
    refine cRet ?_
    exact endQ (Or.inr rfl) (l := [.bool false]) [] (by kernel_rfl) (congrArg Value.bool (Bool.eq_iff_iff.2 (by simp only [inR, valid3, has3, Bool.not_eq_true', Bool.not_eq_false', decide_eq_true_eq, decide_eq_false_iff_not, beq_iff_eq, bne_iff_ne, beq_eq_false_iff_ne, bne_eq_false_iff_eq, ne_eq, Decidable.not_not, Bool.and_eq_true, Bool.and_eq_false_imp, Bool.or_eq_true, Bool.or_eq_false_iff, Bool.not_eq_true, Int.not_lt, Int.not_le, ge_iff_le, gt_iff_lt, Bool.false_eq_true, true_iff, false_iff, iff_self]; try omega))) rfl rfl hcl rfl
  ·
    (try simp only [Bool.not_eq_true', Bool.not_eq_false', decide_eq_true_eq, decide_eq_false_iff_not, beq_iff_eq, bne_iff_ne, beq_eq_false_iff_ne, bne_eq_false_iff_eq, ne_eq, Decidable.not_not, Bool.and_eq_true, Bool.and_eq_false_imp, Bool.or_eq_true, Bool.or_eq_false_iff, Bool.not_eq_true, Int.not_lt, Int.not_le, ge_iff_le, gt_iff_lt, inR] at h1)
    refine seg 1 (T1 := (mkT 17 [(0, vI bx), (1, vI by_), (2, vI bz), (6, .bool false), (7, vI bx), (8, .bool true), (9, .bool true), (10, vI by_)])) (H1 := []) (by kernel_rfl) ?_
    refine rCall (v := .bool (inR by_ 1 4)) (H' := []) (args := [vI by_, vI 1, vI 4]) (by kernel_rfl) rfl (by kernel_rfl) ((l1In_ok by_ 1 4).flat rfl rfl _) ?_
    refine seg 2 (T1 := (mkT 17 [(0, vI bx), (1, vI by_), (2, vI bz), (6, .bool false), (7, vI bx), (8, .bool true), (9, .bool true), (10, vI by_), (11, .bool (inR by_ 1 4)), (12, .bool (inR by_ 1 4)), (13, .bool (inR by_ 1 4))])) (H1 := []) (by kernel_rfl) ?_
    cases h2 : (inR by_ 1 4 : Bool)
    ·
      (try simp only [Bool.not_eq_true', Bool.not_eq_false', decide_eq_true_eq, decide_eq_false_iff_not, beq_iff_eq, bne_iff_ne, beq_eq_false_iff_ne, bne_eq_false_iff_eq, ne_eq, Decidable.not_not, Bool.and_eq_true, Bool.and_eq_false_imp, Bool.or_eq_true, Bool.or_eq_false_iff, Bool.not_eq_true, Int.not_lt, Int.not_le, ge_iff_le, gt_iff_lt, inR] at h2)
      refine segEnd [0, 1, 2, 6] (T1 := (mkT 17 [(0, vI bx), (1, vI by_), (2, vI bz), (6, .bool false)])) (H1 := []) (by kernel_rfl) ?_
      refine kSeq ?_
      refine cRet ?_
      exact endQ (Or.inr rfl) (l := [.bool false]) [] (by kernel_rfl) (congrArg Value.bool (Bool.eq_iff_iff.2 (by simp only [inR, valid3, has3, Bool.not_eq_true', Bool.not_eq_false', decide_eq_true_eq, decide_eq_false_iff_not, beq_iff_eq, bne_iff_ne, beq_eq_false_iff_ne, bne_eq_false_iff_eq, ne_eq, Decidable.not_not, Bool.and_eq_true, Bool.and_eq_false_imp, Bool.or_eq_true, Bool.or_eq_false_iff, Bool.not_eq_true, Int.not_lt, Int.not_le, ge_iff_le, gt_iff_lt, Bool.false_eq_true, true_iff, false_iff, iff_self]; try omega))) rfl rfl hcl rfl
    ·
      (try simp only [Bool.not_eq_true', Bool.not_eq_false', decide_eq_true_eq, decide_eq_false_iff_not, beq_iff_eq, bne_iff_ne, beq_eq_false_iff_ne, bne_eq_false_iff_eq, ne_eq, Decidable.not_not, Bool.and_eq_true, Bool.and_eq_false_imp, Bool.or_eq_true, Bool.or_eq_false_iff, Bool.not_eq_true, Int.not_lt, Int.not_le, ge_iff_le, gt_iff_lt, inR] at h2)
      refine seg 1 (T1 := (mkT 17 [(0, vI bx), (1, vI by_), (2, vI bz), (6, .bool false), (7, vI bx), (8, .bool true), (9, .bool true), (10, vI by_), (11, .bool true), (12, .bool true), (13, .bool true), (14, vI bz)])) (H1 := []) (by kernel_rfl) ?_
      refine rCall (v := .bool (inR bz 1 4)) (H' := []) (args := [vI bz, vI 1, vI 4]) (by kernel_rfl) rfl (by kernel_rfl) ((l1In_ok bz 1 4).flat rfl rfl _) ?_
      refine segEnd [0, 1, 2, 6] (T1 := (mkT 17 [(0, vI bx), (1, vI by_), (2, vI bz), (6, .bool (inR bz 1 4))])) (H1 := []) (by kernel_rfl) ?_
      refine kSeq ?_
      refine cRet ?_
      exact endQ (Or.inr rfl) (l := [.bool (inR bz 1 4)]) [] (by kernel_rfl) (congrArg Value.bool (Bool.eq_iff_iff.2 (by simp only [inR, valid3, has3, Bool.not_eq_true', Bool.not_eq_false', decide_eq_true_eq, decide_eq_false_iff_not, beq_iff_eq, bne_iff_ne, beq_eq_false_iff_ne, bne_eq_false_iff_eq, ne_eq, Decidable.not_not, Bool.and_eq_true, Bool.and_eq_false_imp, Bool.or_eq_true, Bool.or_eq_false_iff, Bool.not_eq_true, Int.not_lt, Int.not_le, ge_iff_le, gt_iff_lt, Bool.false_eq_true, true_iff, false_iff, iff_self]; try omega))) rfl rfl hcl rfl
end Go.Proofs.Ytbheeobnghlckaa
