/- Walks. No condition. -/
import Derived.Test.YtbheeobnghlckaaAmS4G4
set_option linter.unusedVariables false
set_option linter.unusedSimpArgs false
namespace Go.Proofs.Ytbheeobnghlckaa
open Go.Am Go.RowKit
set_option maxRecDepth 100000 in
set_option maxHeartbeats 4000000 in
theorem box_ok (x y z : Int) (L : List A3) : Sound Try.prog 88 [.agg #[vI x, vI y, vI z, vS 0 L.length]] [some ⟨a3s L, 74, false, false⟩] (.agg #[vI x, vI y, vI z]) [some ⟨a3s L, 74, false, false⟩] := by
  refine sound_intro (C := cx) Try.func88 rfl (by kernel_rfl) fun hcl => ?_
  refine cSeq ?_
  refine cReg ?_
  refine segEnd [0, 1, 2] (T1 := (mkT 10 [(0, .agg #[vI x, vI y, vI z, vS 0 L.length]), (1, vP 1 0), (2, vP 2 0)])) (H1 := [some ⟨a3s L, 74, false, false⟩, rB [vI x, vI y, vI z, vS 0 L.length] 40, rB [vI 0, vI 0, vI 0] 75]) (by kernel_rfl) ?_
  refine kSeq ?_
  refine cSeq ?_
  refine cReg ?_
  refine segEnd [0, 1, 2] (T1 := (mkT 10 [(0, .agg #[vI x, vI y, vI z, vS 0 L.length]), (1, vP 1 0), (2, vP 2 0)])) (H1 := [some ⟨a3s L, 74, false, false⟩, rB [vI x, vI y, vI z, vS 0 L.length] 40, rB [vI x, vI y, vI z] 75]) (by kernel_rfl) ?_
  refine kSeq ?_
  refine cRet ?_
  exact endQ (Or.inr rfl) (l := [.agg #[vI x, vI y, vI z]]) [rB [vI x, vI y, vI z, vS 0 L.length] 40, rB [vI x, vI y, vI z] 75] (by kernel_rfl) (rfl) rfl rfl hcl rfl

set_option maxRecDepth 100000 in
set_option maxHeartbeats 4000000 in
theorem has_ok (x y z a b c : Int) (hb : (1 ≤ x ∧ x ≤ 4) ∧ (1 ≤ y ∧ y ≤ 4) ∧ (1 ≤ z ∧ z ≤ 4)) : Sound Try.prog 116 [.agg #[vI x, vI y, vI z], .agg #[vI a, vI b, vI c]] [] (.bool (has3 x y z a b c)) [] := by
  refine sound_intro (C := cx) Try.func116 rfl (by kernel_rfl) fun hcl => ?_
  refine cSeq ?_
  refine cReg ?_
  refine segEnd [0, 1, 2, 3, 4] (T1 := (mkT 27 [(0, .agg #[vI x, vI y, vI z]), (1, .agg #[vI a, vI b, vI c]), (2, vP 0 0), (3, vP 1 0), (4, .bool false)])) (H1 := [rB [vI x, vI y, vI z] 75, rB [vI a, vI b, vI c] 74]) (by kernel_rfl) ?_
  refine kSeq ?_
  refine cSeq ?_
  refine cReg ?_
  refine seg 4 (T1 := (mkT 27 [(0, .agg #[vI x, vI y, vI z]), (1, .agg #[vI a, vI b, vI c]), (2, vP 0 0), (3, vP 1 0), (4, .bool false), (5, vP 1 0), (6, vI a), (7, vP 0 0), (8, vI x)])) (H1 := [rB [vI x, vI y, vI z] 75, rB [vI a, vI b, vI c] 74]) (by kernel_rfl) ?_
  refine rOp (v := vI (x - 1)) (H' := [rB [vI x, vI y, vI z] 75, rB [vI a, vI b, vI c] 74]) (by kernel_rfl) (eSub (k := .i64) (a := x) (b := 1) (c := (x - 1)) (by kernel_rfl) (by kernel_rfl)  (wr64 (by omega) (by omega) rfl)) ?_
  refine rCall (v := .bool (inR a 0 (x - 1))) (H' := [rB [vI x, vI y, vI z] 75, rB [vI a, vI b, vI c] 74]) (args := [vI a, vI 0, vI (x - 1)]) (by kernel_rfl) rfl (by kernel_rfl) ((within_ok a 0 (x - 1)).flat rfl rfl _) ?_
  refine seg 1 (T1 := (mkT 27 [(0, .agg #[vI x, vI y, vI z]), (1, .agg #[vI a, vI b, vI c]), (2, vP 0 0), (3, vP 1 0), (4, .bool false), (5, vP 1 0), (6, vI a), (7, vP 0 0), (8, vI x), (9, vI (x - 1)), (10, .bool (inR a 0 (x - 1))), (11, .bool (inR a 0 (x - 1)))])) (H1 := [rB [vI x, vI y, vI z] 75, rB [vI a, vI b, vI c] 74]) (by kernel_rfl) ?_
  cases h1 : (inR a 0 (x - 1) : Bool)
  ·
    (try simp only [Bool.not_eq_true', Bool.not_eq_false', decide_eq_true_eq, decide_eq_false_iff_not, beq_iff_eq, bne_iff_ne, beq_eq_false_iff_ne, bne_eq_false_iff_eq, ne_eq, Decidable.not_not, Bool.and_eq_true, Bool.and_eq_false_imp, Bool.or_eq_true, Bool.or_eq_false_iff, Bool.not_eq_true, Int.not_lt, Int.not_le, ge_iff_le, gt_iff_lt] at h1)
    refine segEnd [0, 1, 2, 3, 4] (T1 := (mkT 27 [(0, .agg #[vI x, vI y, vI z]), (1, .agg #[vI a, vI b, vI c]), (2, vP 0 0), (3, vP 1 0), (4, .bool false)])) (H1 := [rB [vI x, vI y, vI z] 75, rB [vI a, vI b, vI c] 74]) (by kernel_rfl) ?_
    refine kSeq ?_
    refine cRet ?_
    exact endQ (Or.inr rfl) (l := [.bool false]) [rB [vI x, vI y, vI z] 75, rB [vI a, vI b, vI c] 74] (by kernel_rfl) (congrArg Value.bool (by first | (simp only [has3, *]; rfl) | (simp [has3, *]; done))) rfl rfl hcl rfl
  ·
    (try simp only [Bool.not_eq_true', Bool.not_eq_false', decide_eq_true_eq, decide_eq_false_iff_not, beq_iff_eq, bne_iff_ne, beq_eq_false_iff_ne, bne_eq_false_iff_eq, ne_eq, Decidable.not_not, Bool.and_eq_true, Bool.and_eq_false_imp, Bool.or_eq_true, Bool.or_eq_false_iff, Bool.not_eq_true, Int.not_lt, Int.not_le, ge_iff_le, gt_iff_lt] at h1)
    refine seg 4 (T1 := (mkT 27 [(0, .agg #[vI x, vI y, vI z]), (1, .agg #[vI a, vI b, vI c]), (2, vP 0 0), (3, vP 1 0), (4, .bool false), (5, vP 1 0), (6, vI a), (7, vP 0 0), (8, vI x), (9, vI (x - 1)), (10, .bool true), (11, .bool true), (12, vP 1 1), (13, vI b), (14, vP 0 1), (15, vI y)])) (H1 := [rB [vI x, vI y, vI z] 75, rB [vI a, vI b, vI c] 74]) (by kernel_rfl) ?_
    refine rOp (v := vI (y - 1)) (H' := [rB [vI x, vI y, vI z] 75, rB [vI a, vI b, vI c] 74]) (by kernel_rfl) (eSub (k := .i64) (a := y) (b := 1) (c := (y - 1)) (by kernel_rfl) (by kernel_rfl)  (wr64 (by omega) (by omega) rfl)) ?_
    refine rCall (v := .bool (inR b 0 (y - 1))) (H' := [rB [vI x, vI y, vI z] 75, rB [vI a, vI b, vI c] 74]) (args := [vI b, vI 0, vI (y - 1)]) (by kernel_rfl) rfl (by kernel_rfl) ((within_ok b 0 (y - 1)).flat rfl rfl _) ?_
    refine seg 2 (T1 := (mkT 27 [(0, .agg #[vI x, vI y, vI z]), (1, .agg #[vI a, vI b, vI c]), (2, vP 0 0), (3, vP 1 0), (4, .bool false), (5, vP 1 0), (6, vI a), (7, vP 0 0), (8, vI x), (9, vI (x - 1)), (10, .bool true), (11, .bool true), (12, vP 1 1), (13, vI b), (14, vP 0 1), (15, vI y), (16, vI (y - 1)), (17, .bool (inR b 0 (y - 1))), (18, .bool (inR b 0 (y - 1))), (19, .bool (inR b 0 (y - 1)))])) (H1 := [rB [vI x, vI y, vI z] 75, rB [vI a, vI b, vI c] 74]) (by kernel_rfl) ?_
    cases h2 : (inR b 0 (y - 1) : Bool)
    ·
      (try simp only [Bool.not_eq_true', Bool.not_eq_false', decide_eq_true_eq, decide_eq_false_iff_not, beq_iff_eq, bne_iff_ne, beq_eq_false_iff_ne, bne_eq_false_iff_eq, ne_eq, Decidable.not_not, Bool.and_eq_true, Bool.and_eq_false_imp, Bool.or_eq_true, Bool.or_eq_false_iff, Bool.not_eq_true, Int.not_lt, Int.not_le, ge_iff_le, gt_iff_lt] at h2)
      refine segEnd [0, 1, 2, 3, 4] (T1 := (mkT 27 [(0, .agg #[vI x, vI y, vI z]), (1, .agg #[vI a, vI b, vI c]), (2, vP 0 0), (3, vP 1 0), (4, .bool false)])) (H1 := [rB [vI x, vI y, vI z] 75, rB [vI a, vI b, vI c] 74]) (by kernel_rfl) ?_
      refine kSeq ?_
      refine cRet ?_
      exact endQ (Or.inr rfl) (l := [.bool false]) [rB [vI x, vI y, vI z] 75, rB [vI a, vI b, vI c] 74] (by kernel_rfl) (congrArg Value.bool (by first | (simp only [has3, *]; rfl) | (simp [has3, *]; done))) rfl rfl hcl rfl
    ·
      (try simp only [Bool.not_eq_true', Bool.not_eq_false', decide_eq_true_eq, decide_eq_false_iff_not, beq_iff_eq, bne_iff_ne, beq_eq_false_iff_ne, bne_eq_false_iff_eq, ne_eq, Decidable.not_not, Bool.and_eq_true, Bool.and_eq_false_imp, Bool.or_eq_true, Bool.or_eq_false_iff, Bool.not_eq_true, Int.not_lt, Int.not_le, ge_iff_le, gt_iff_lt] at h2)
      refine seg 4 (T1 := (mkT 27 [(0, .agg #[vI x, vI y, vI z]), (1, .agg #[vI a, vI b, vI c]), (2, vP 0 0), (3, vP 1 0), (4, .bool false), (5, vP 1 0), (6, vI a), (7, vP 0 0), (8, vI x), (9, vI (x - 1)), (10, .bool true), (11, .bool true), (12, vP 1 1), (13, vI b), (14, vP 0 1), (15, vI y), (16, vI (y - 1)), (17, .bool true), (18, .bool true), (19, .bool true), (20, vP 1 2), (21, vI c), (22, vP 0 2), (23, vI z)])) (H1 := [rB [vI x, vI y, vI z] 75, rB [vI a, vI b, vI c] 74]) (by kernel_rfl) ?_
      refine rOp (v := vI (z - 1)) (H' := [rB [vI x, vI y, vI z] 75, rB [vI a, vI b, vI c] 74]) (by kernel_rfl) (eSub (k := .i64) (a := z) (b := 1) (c := (z - 1)) (by kernel_rfl) (by kernel_rfl)  (wr64 (by omega) (by omega) rfl)) ?_
      refine rCall (v := .bool (inR c 0 (z - 1))) (H' := [rB [vI x, vI y, vI z] 75, rB [vI a, vI b, vI c] 74]) (args := [vI c, vI 0, vI (z - 1)]) (by kernel_rfl) rfl (by kernel_rfl) ((within_ok c 0 (z - 1)).flat rfl rfl _) ?_
      refine segEnd [0, 1, 2, 3, 4] (T1 := (mkT 27 [(0, .agg #[vI x, vI y, vI z]), (1, .agg #[vI a, vI b, vI c]), (2, vP 0 0), (3, vP 1 0), (4, .bool (inR c 0 (z - 1)))])) (H1 := [rB [vI x, vI y, vI z] 75, rB [vI a, vI b, vI c] 74]) (by kernel_rfl) ?_
      refine kSeq ?_
      refine cRet ?_
      exact endQ (Or.inr rfl) (l := [.bool (inR c 0 (z - 1))]) [rB [vI x, vI y, vI z] 75, rB [vI a, vI b, vI c] 74] (by kernel_rfl) (congrArg Value.bool (by first | (simp only [has3, *]; rfl) | (simp [has3, *]; done))) rfl rfl hcl rfl

set_option maxRecDepth 100000 in
set_option maxHeartbeats 4000000 in
theorem l2In_ok (x y z a b c : Int) (L : List A3) (hb : (1 ≤ x ∧ x ≤ 4) ∧ (1 ≤ y ∧ y ≤ 4) ∧ (1 ≤ z ∧ z ≤ 4)) : Sound Try.prog 114 [.agg #[vI x, vI y, vI z, vS 0 L.length], .agg #[vI a, vI b, vI c]] [some ⟨a3s L, 74, false, false⟩] (.bool (has3 x y z a b c)) [some ⟨a3s L, 74, false, false⟩] := by
  refine sound_intro (C := cx) Try.func114 rfl (by kernel_rfl) fun hcl => ?_
  refine cSeq ?_
  refine cReg ?_
  refine segEnd [0, 1, 2, 3, 4] (T1 := (mkT 27 [(0, .agg #[vI x, vI y, vI z, vS 0 L.length]), (1, .agg #[vI a, vI b, vI c]), (2, vP 1 0), (3, vP 2 0), (4, .bool false)])) (H1 := [some ⟨a3s L, 74, false, false⟩, rB [vI x, vI y, vI z, vS 0 L.length] 40, rB [vI a, vI b, vI c] 74]) (by kernel_rfl) ?_
  refine kSeq ?_
  refine cSeq ?_
  refine cReg ?_
  refine seg 4 (T1 := (mkT 27 [(0, .agg #[vI x, vI y, vI z, vS 0 L.length]), (1, .agg #[vI a, vI b, vI c]), (2, vP 1 0), (3, vP 2 0), (4, .bool false), (5, vP 2 0), (6, vI a), (7, vP 1 0), (8, vI x)])) (H1 := [some ⟨a3s L, 74, false, false⟩, rB [vI x, vI y, vI z, vS 0 L.length] 40, rB [vI a, vI b, vI c] 74]) (by kernel_rfl) ?_
  refine rOp (v := vI (x - 1)) (H' := [some ⟨a3s L, 74, false, false⟩, rB [vI x, vI y, vI z, vS 0 L.length] 40, rB [vI a, vI b, vI c] 74]) (by kernel_rfl) (eSub (k := .i64) (a := x) (b := 1) (c := (x - 1)) (by kernel_rfl) (by kernel_rfl)  (wr64 (by omega) (by omega) rfl)) ?_
  refine rCall (v := .bool (inR a 0 (x - 1))) (H' := [some ⟨a3s L, 74, false, false⟩, rB [vI x, vI y, vI z, vS 0 L.length] 40, rB [vI a, vI b, vI c] 74]) (args := [vI a, vI 0, vI (x - 1)]) (by kernel_rfl) rfl (by kernel_rfl) ((l1In_ok a 0 (x - 1)).flat rfl rfl _) ?_
  refine seg 1 (T1 := (mkT 27 [(0, .agg #[vI x, vI y, vI z, vS 0 L.length]), (1, .agg #[vI a, vI b, vI c]), (2, vP 1 0), (3, vP 2 0), (4, .bool false), (5, vP 2 0), (6, vI a), (7, vP 1 0), (8, vI x), (9, vI (x - 1)), (10, .bool (inR a 0 (x - 1))), (11, .bool (inR a 0 (x - 1)))])) (H1 := [some ⟨a3s L, 74, false, false⟩, rB [vI x, vI y, vI z, vS 0 L.length] 40, rB [vI a, vI b, vI c] 74]) (by kernel_rfl) ?_
  cases h1 : (inR a 0 (x - 1) : Bool)
  ·
    (try simp only [Bool.not_eq_true', Bool.not_eq_false', decide_eq_true_eq, decide_eq_false_iff_not, beq_iff_eq, bne_iff_ne, beq_eq_false_iff_ne, bne_eq_false_iff_eq, ne_eq, Decidable.not_not, Bool.and_eq_true, Bool.and_eq_false_imp, Bool.or_eq_true, Bool.or_eq_false_iff, Bool.not_eq_true, Int.not_lt, Int.not_le, ge_iff_le, gt_iff_lt] at h1)
    refine segEnd [0, 1, 2, 3, 4] (T1 := (mkT 27 [(0, .agg #[vI x, vI y, vI z, vS 0 L.length]), (1, .agg #[vI a, vI b, vI c]), (2, vP 1 0), (3, vP 2 0), (4, .bool false)])) (H1 := [some ⟨a3s L, 74, false, false⟩, rB [vI x, vI y, vI z, vS 0 L.length] 40, rB [vI a, vI b, vI c] 74]) (by kernel_rfl) ?_
    refine kSeq ?_
    refine cRet ?_
    exact endQ (Or.inr rfl) (l := [.bool false]) [rB [vI x, vI y, vI z, vS 0 L.length] 40, rB [vI a, vI b, vI c] 74] (by kernel_rfl) (congrArg Value.bool (by first | (simp only [has3, *]; rfl) | (simp [has3, *]; done))) rfl rfl hcl rfl
  ·
    (try simp only [Bool.not_eq_true', Bool.not_eq_false', decide_eq_true_eq, decide_eq_false_iff_not, beq_iff_eq, bne_iff_ne, beq_eq_false_iff_ne, bne_eq_false_iff_eq, ne_eq, Decidable.not_not, Bool.and_eq_true, Bool.and_eq_false_imp, Bool.or_eq_true, Bool.or_eq_false_iff, Bool.not_eq_true, Int.not_lt, Int.not_le, ge_iff_le, gt_iff_lt] at h1)
    refine seg 4 (T1 := (mkT 27 [(0, .agg #[vI x, vI y, vI z, vS 0 L.length]), (1, .agg #[vI a, vI b, vI c]), (2, vP 1 0), (3, vP 2 0), (4, .bool false), (5, vP 2 0), (6, vI a), (7, vP 1 0), (8, vI x), (9, vI (x - 1)), (10, .bool true), (11, .bool true), (12, vP 2 1), (13, vI b), (14, vP 1 1), (15, vI y)])) (H1 := [some ⟨a3s L, 74, false, false⟩, rB [vI x, vI y, vI z, vS 0 L.length] 40, rB [vI a, vI b, vI c] 74]) (by kernel_rfl) ?_
    refine rOp (v := vI (y - 1)) (H' := [some ⟨a3s L, 74, false, false⟩, rB [vI x, vI y, vI z, vS 0 L.length] 40, rB [vI a, vI b, vI c] 74]) (by kernel_rfl) (eSub (k := .i64) (a := y) (b := 1) (c := (y - 1)) (by kernel_rfl) (by kernel_rfl)  (wr64 (by omega) (by omega) rfl)) ?_
    refine rCall (v := .bool (inR b 0 (y - 1))) (H' := [some ⟨a3s L, 74, false, false⟩, rB [vI x, vI y, vI z, vS 0 L.length] 40, rB [vI a, vI b, vI c] 74]) (args := [vI b, vI 0, vI (y - 1)]) (by kernel_rfl) rfl (by kernel_rfl) ((l1In_ok b 0 (y - 1)).flat rfl rfl _) ?_
    refine seg 2 (T1 := (mkT 27 [(0, .agg #[vI x, vI y, vI z, vS 0 L.length]), (1, .agg #[vI a, vI b, vI c]), (2, vP 1 0), (3, vP 2 0), (4, .bool false), (5, vP 2 0), (6, vI a), (7, vP 1 0), (8, vI x), (9, vI (x - 1)), (10, .bool true), (11, .bool true), (12, vP 2 1), (13, vI b), (14, vP 1 1), (15, vI y), (16, vI (y - 1)), (17, .bool (inR b 0 (y - 1))), (18, .bool (inR b 0 (y - 1))), (19, .bool (inR b 0 (y - 1)))])) (H1 := [some ⟨a3s L, 74, false, false⟩, rB [vI x, vI y, vI z, vS 0 L.length] 40, rB [vI a, vI b, vI c] 74]) (by kernel_rfl) ?_
    cases h2 : (inR b 0 (y - 1) : Bool)
    ·
      (try simp only [Bool.not_eq_true', Bool.not_eq_false', decide_eq_true_eq, decide_eq_false_iff_not, beq_iff_eq, bne_iff_ne, beq_eq_false_iff_ne, bne_eq_false_iff_eq, ne_eq, Decidable.not_not, Bool.and_eq_true, Bool.and_eq_false_imp, Bool.or_eq_true, Bool.or_eq_false_iff, Bool.not_eq_true, Int.not_lt, Int.not_le, ge_iff_le, gt_iff_lt] at h2)
      refine segEnd [0, 1, 2, 3, 4] (T1 := (mkT 27 [(0, .agg #[vI x, vI y, vI z, vS 0 L.length]), (1, .agg #[vI a, vI b, vI c]), (2, vP 1 0), (3, vP 2 0), (4, .bool false)])) (H1 := [some ⟨a3s L, 74, false, false⟩, rB [vI x, vI y, vI z, vS 0 L.length] 40, rB [vI a, vI b, vI c] 74]) (by kernel_rfl) ?_
      refine kSeq ?_
      refine cRet ?_
      exact endQ (Or.inr rfl) (l := [.bool false]) [rB [vI x, vI y, vI z, vS 0 L.length] 40, rB [vI a, vI b, vI c] 74] (by kernel_rfl) (congrArg Value.bool (by first | (simp only [has3, *]; rfl) | (simp [has3, *]; done))) rfl rfl hcl rfl
    ·
      (try simp only [Bool.not_eq_true', Bool.not_eq_false', decide_eq_true_eq, decide_eq_false_iff_not, beq_iff_eq, bne_iff_ne, beq_eq_false_iff_ne, bne_eq_false_iff_eq, ne_eq, Decidable.not_not, Bool.and_eq_true, Bool.and_eq_false_imp, Bool.or_eq_true, Bool.or_eq_false_iff, Bool.not_eq_true, Int.not_lt, Int.not_le, ge_iff_le, gt_iff_lt] at h2)
      refine seg 4 (T1 := (mkT 27 [(0, .agg #[vI x, vI y, vI z, vS 0 L.length]), (1, .agg #[vI a, vI b, vI c]), (2, vP 1 0), (3, vP 2 0), (4, .bool false), (5, vP 2 0), (6, vI a), (7, vP 1 0), (8, vI x), (9, vI (x - 1)), (10, .bool true), (11, .bool true), (12, vP 2 1), (13, vI b), (14, vP 1 1), (15, vI y), (16, vI (y - 1)), (17, .bool true), (18, .bool true), (19, .bool true), (20, vP 2 2), (21, vI c), (22, vP 1 2), (23, vI z)])) (H1 := [some ⟨a3s L, 74, false, false⟩, rB [vI x, vI y, vI z, vS 0 L.length] 40, rB [vI a, vI b, vI c] 74]) (by kernel_rfl) ?_
      refine rOp (v := vI (z - 1)) (H' := [some ⟨a3s L, 74, false, false⟩, rB [vI x, vI y, vI z, vS 0 L.length] 40, rB [vI a, vI b, vI c] 74]) (by kernel_rfl) (eSub (k := .i64) (a := z) (b := 1) (c := (z - 1)) (by kernel_rfl) (by kernel_rfl)  (wr64 (by omega) (by omega) rfl)) ?_
      refine rCall (v := .bool (inR c 0 (z - 1))) (H' := [some ⟨a3s L, 74, false, false⟩, rB [vI x, vI y, vI z, vS 0 L.length] 40, rB [vI a, vI b, vI c] 74]) (args := [vI c, vI 0, vI (z - 1)]) (by kernel_rfl) rfl (by kernel_rfl) ((l1In_ok c 0 (z - 1)).flat rfl rfl _) ?_
      refine segEnd [0, 1, 2, 3, 4] (T1 := (mkT 27 [(0, .agg #[vI x, vI y, vI z, vS 0 L.length]), (1, .agg #[vI a, vI b, vI c]), (2, vP 1 0), (3, vP 2 0), (4, .bool (inR c 0 (z - 1)))])) (H1 := [some ⟨a3s L, 74, false, false⟩, rB [vI x, vI y, vI z, vS 0 L.length] 40, rB [vI a, vI b, vI c] 74]) (by kernel_rfl) ?_
      refine kSeq ?_
      refine cRet ?_
      exact endQ (Or.inr rfl) (l := [.bool (inR c 0 (z - 1))]) [rB [vI x, vI y, vI z, vS 0 L.length] 40, rB [vI a, vI b, vI c] 74] (by kernel_rfl) (congrArg Value.bool (by first | (simp only [has3, *]; rfl) | (simp [has3, *]; done))) rfl rfl hcl rfl

set_option maxRecDepth 100000 in
set_option maxHeartbeats 4000000 in
theorem l2Heap_ok (x y z : Int) (L : List A3) (hL : L.length ≤ 1048576) : Sound Try.prog 82 [.agg #[vI x, vI y, vI z, vS 0 L.length]] [some ⟨a3s L, 74, false, false⟩] (.bool (isHeapB x y z L)) [some ⟨a3s L, 74, false, false⟩] := by
  refine sound_intro (C := cx) Try.func82 rfl (by kernel_rfl) fun hcl => ?_
  refine cSeq ?_
  refine cReg ?_
  refine segEnd [0, 1, 2] (T1 := (mkT 46 [(0, .agg #[vI x, vI y, vI z, vS 0 L.length]), (1, vP 1 0), (2, .bool false)])) (H1 := [some ⟨a3s L, 74, false, false⟩, rB [vI x, vI y, vI z, vS 0 L.length] 40]) (by kernel_rfl) ?_
  refine kSeq ?_
  refine cSeq ?_
  refine cSeq ?_
  refine cReg ?_
  refine seg 6 (T1 := (mkT 46 [(0, .agg #[vI x, vI y, vI z, vS 0 L.length]), (1, vP 1 0), (2, .bool false), (4, vP 1 0), (5, vI x), (6, vP 1 1), (7, vI y), (8, vP 1 2), (9, vI z)])) (H1 := [some ⟨a3s L, 74, false, false⟩, rB [vI x, vI y, vI z, vS 0 L.length] 40]) (by kernel_rfl) ?_
  refine rCall (v := .bool (valid3 x y z)) (H' := [some ⟨a3s L, 74, false, false⟩, rB [vI x, vI y, vI z, vS 0 L.length] 40]) (args := [vI x, vI y, vI z]) (by kernel_rfl) rfl (by kernel_rfl) ((sides_ok x y z).flat rfl rfl _) ?_
  refine segEnd [0, 1, 2, 11] (T1 := (mkT 46 [(0, .agg #[vI x, vI y, vI z, vS 0 L.length]), (1, vP 1 0), (2, .bool false), (11, .bool (!(valid3 x y z)))])) (H1 := [some ⟨a3s L, 74, false, false⟩, rB [vI x, vI y, vI z, vS 0 L.length] 40]) (by kernel_rfl) ?_
  refine kSeq ?_
  cases h1 : (valid3 x y z : Bool)
  ·
    (try simp only [Bool.not_eq_true', Bool.not_eq_false', decide_eq_true_eq, decide_eq_false_iff_not, beq_iff_eq, bne_iff_ne, beq_eq_false_iff_ne, bne_eq_false_iff_eq, ne_eq, Decidable.not_not, Bool.and_eq_true, Bool.and_eq_false_imp, Bool.or_eq_true, Bool.or_eq_false_iff, Bool.not_eq_true, Int.not_lt, Int.not_le, ge_iff_le, gt_iff_lt] at h1)
    refine cTrue (by kernel_rfl) ?_
    refine cSeq ?_
    refine cReg ?_
    refine segEnd [0, 1, 2, 11] (T1 := (mkT 46 [(0, .agg #[vI x, vI y, vI z, vS 0 L.length]), (1, vP 1 0), (2, .bool false), (11, .bool true)])) (H1 := [some ⟨a3s L, 74, false, false⟩, rB [vI x, vI y, vI z, vS 0 L.length] 40]) (by kernel_rfl) ?_
    refine kSeq ?_
    refine cRet ?_
    refine kSeqR ?_
    exact endQ (Or.inr rfl) (l := [.bool false]) [rB [vI x, vI y, vI z, vS 0 L.length] 40] (by kernel_rfl) (congrArg Value.bool (by first | exact notHeap0 (by assumption) | exact heapYes (by assumption) ho (by omega) | exact notHeap1 (i := i) (by omega) (by assumption) | exact notHeap2 (i := i) (by omega) (by omega) (by assumption))) rfl rfl hcl rfl
  ·
    (try simp only [Bool.not_eq_true', Bool.not_eq_false', decide_eq_true_eq, decide_eq_false_iff_not, beq_iff_eq, bne_iff_ne, beq_eq_false_iff_ne, bne_eq_false_iff_eq, ne_eq, Decidable.not_not, Bool.and_eq_true, Bool.and_eq_false_imp, Bool.or_eq_true, Bool.or_eq_false_iff, Bool.not_eq_true, Int.not_lt, Int.not_le, ge_iff_le, gt_iff_lt] at h1)
    have hb := valid_bounds h1
    refine cFalse (by kernel_rfl) ?_
    refine cSkip ?_
    refine kSeq ?_
    refine cSeq ?_
    refine cSeq ?_
    refine cReg ?_
    refine segEnd [0, 1, 2, 3, 11] (T1 := (mkT 46 [(0, .agg #[vI x, vI y, vI z, vS 0 L.length]), (1, vP 1 0), (2, .bool false), (3, vI 0), (11, .bool false)])) (H1 := [some ⟨a3s L, 74, false, false⟩, rB [vI x, vI y, vI z, vS 0 L.length] 40]) (by kernel_rfl) ?_
    refine kSeq ?_
    refine cBlk ?_
    -- loop
    refine cLoop (fun mm T H => ∃ i : Nat, (i ≤ L.length) ∧ (okTo x y z L i = true) ∧ mm = L.length - i ∧ T = (mkT 46 [(1, vP 1 0), (2, .bool false), (3, vN i)]) ∧ H = [some ⟨a3s L, 74, false, false⟩, rB [vI x, vI y, vI z, vS 0 L.length] 40]) (L.length - 0) (mkT 46 [(1, vP 1 0), (2, .bool false), (3, vI 0)]) [some ⟨a3s L, 74, false, false⟩, rB [vI x, vI y, vI z, vS 0 L.length] 40] (wkSame [1, 2, 3] (by kernel_rfl)) ?_ ?_
    · exact ⟨0, (Nat.zero_le _), (rfl), rfl, rfl, rfl⟩
    · rintro _ _ _ ⟨i, hi, ho, rfl, rfl, rfl⟩
      refine cSeq ?_
      refine cSeq ?_
      refine cReg ?_
      refine segEnd [1, 2, 3, 16] (T1 := (mkT 46 [(1, vP 1 0), (2, .bool false), (3, vN i), (16, .bool (decide (((i : Nat) : Int) < ((L.length : Nat) : Int))))])) (H1 := [some ⟨a3s L, 74, false, false⟩, rB [vI x, vI y, vI z, vS 0 L.length] 40]) (by kernel_rfl) ?_
      refine kSeq ?_
      cases h2 : (decide (((i : Nat) : Int) < ((L.length : Nat) : Int)) : Bool)
      ·
        (try simp only [Bool.not_eq_true', Bool.not_eq_false', decide_eq_true_eq, decide_eq_false_iff_not, beq_iff_eq, bne_iff_ne, beq_eq_false_iff_ne, bne_eq_false_iff_eq, ne_eq, Decidable.not_not, Bool.and_eq_true, Bool.and_eq_false_imp, Bool.or_eq_true, Bool.or_eq_false_iff, Bool.not_eq_true, Int.not_lt, Int.not_le, ge_iff_le, gt_iff_lt] at h2)
        refine cFalse (by kernel_rfl) ?_
        refine cExit ?_
        refine kSeqE ?_
        refine kLoopE ?_
        refine kBlkHit ?_
        refine kSeq ?_
        refine cSeq ?_
        refine cReg ?_
        refine segEnd [1, 2, 3, 16] (T1 := (mkT 46 [(1, vP 1 0), (2, .bool true), (3, vN i), (16, .bool false)])) (H1 := [some ⟨a3s L, 74, false, false⟩, rB [vI x, vI y, vI z, vS 0 L.length] 40]) (by kernel_rfl) ?_
        refine kSeq ?_
        refine cRet ?_
        exact endQ (Or.inr rfl) (l := [.bool true]) [rB [vI x, vI y, vI z, vS 0 L.length] 40] (by kernel_rfl) (congrArg Value.bool (by first | exact notHeap0 (by assumption) | exact heapYes (by assumption) ho (by omega) | exact notHeap1 (i := i) (by omega) (by assumption) | exact notHeap2 (i := i) (by omega) (by omega) (by assumption))) rfl rfl hcl rfl
      ·
        (try simp only [Bool.not_eq_true', Bool.not_eq_false', decide_eq_true_eq, decide_eq_false_iff_not, beq_iff_eq, bne_iff_ne, beq_eq_false_iff_ne, bne_eq_false_iff_eq, ne_eq, Decidable.not_not, Bool.and_eq_true, Bool.and_eq_false_imp, Bool.or_eq_true, Bool.or_eq_false_iff, Bool.not_eq_true, Int.not_lt, Int.not_le, ge_iff_le, gt_iff_lt] at h2)
        refine cTrue (by kernel_rfl) ?_
        refine cSkip ?_
        refine kSeq ?_
        refine cSeq ?_
        refine cBlk ?_
        refine cSeq ?_
        refine cRegD (by kernel_rfl) ?_
        refine segD 4 (T1 := (mkT 46 [(1, vP 1 0), (2, .bool false), (3, vN i), (16, .bool true), (19, .agg #[vI x, vI y, vI z, vS 0 L.length]), (20, vP 1 3), (21, vS 0 L.length), (22, vN i)])) (H1 := [some ⟨a3s L, 74, false, false⟩, rB [vI x, vI y, vI z, vS 0 L.length] 40]) (by kernel_rfl) ?_
        refine rOpD (v := vP 0 (i * 3)) (H' := [some ⟨a3s L, 74, false, false⟩, rB [vI x, vI y, vI z, vS 0 L.length] 40]) (by kernel_rfl) (eIdxS (ad := ⟨0, 0, none⟩) (n := L.length) (m := 0) (k := .i64) (c := ((i : Nat) : Int)) (j := i) (o := i * 3) (by kernel_rfl) (by kernel_rfl) ti31 ti74 (rfl) (by omega) (by exact Nat.zero_add _)) (by rfl) ?_
        refine rOpD (v := .agg #[vI ((L.getD i default).x), vI ((L.getD i default).y), vI ((L.getD i default).z)]) (H' := [some ⟨a3s L, 74, false, false⟩, rB [vI x, vI y, vI z, vS 0 L.length] 40]) (by kernel_rfl) (eLdA3 (ad := ⟨0, i * 3, none⟩) (r := ⟨a3s L, 74, false, false⟩) (L := L) (j := i) (by kernel_rfl) (by kernel_rfl) rfl (by first | rfl | omega) (by omega) ti74) (by rfl) ?_
        refine rCallQ (v := .bool (has3 x y z ((L.getD i default).x) ((L.getD i default).y) ((L.getD i default).z))) (args := [.agg #[vI x, vI y, vI z, vS 0 L.length], .agg #[vI ((L.getD i default).x), vI ((L.getD i default).y), vI ((L.getD i default).z)]]) (by kernel_rfl) rfl (by kernel_rfl) (by kernel_rfl) (by kernel_rfl) (Quiet.reads1 (r := ⟨a3s L, 74, false, false⟩) 0 false (l2In_ok x y z ((L.getD i default).x) ((L.getD i default).y) ((L.getD i default).z) L (by omega)) (flatA3 _ _ _ _) rfl rfl rfl (by first | rfl | simp [mpV, mpA, mpS, mpP, renId, shift]) rfl rfl) ?_
        refine segD 2 (T1 := (mkT 46 [(1, vP 1 0), (2, .bool false), (3, vN i), (16, .bool true), (19, .agg #[vI x, vI y, vI z, vS 0 L.length]), (20, vP 1 3), (21, vS 0 L.length), (22, vN i), (23, vP 0 (i * 3)), (24, .agg #[vI ((L.getD i default).x), vI ((L.getD i default).y), vI ((L.getD i default).z)]), (25, .bool (has3 x y z ((L.getD i default).x) ((L.getD i default).y) ((L.getD i default).z))), (26, .bool (!(has3 x y z ((L.getD i default).x) ((L.getD i default).y) ((L.getD i default).z)))), (27, .bool (!(has3 x y z ((L.getD i default).x) ((L.getD i default).y) ((L.getD i default).z))))])) (H1 := [some ⟨a3s L, 74, false, false⟩, rB [vI x, vI y, vI z, vS 0 L.length] 40]) (by kernel_rfl) ?_
        cases h3 : (has3 x y z ((L.getD i default).x) ((L.getD i default).y) ((L.getD i default).z) : Bool)
        ·
          (try simp only [Bool.not_eq_true', Bool.not_eq_false', decide_eq_true_eq, decide_eq_false_iff_not, beq_iff_eq, bne_iff_ne, beq_eq_false_iff_ne, bne_eq_false_iff_eq, ne_eq, Decidable.not_not, Bool.and_eq_true, Bool.and_eq_false_imp, Bool.or_eq_true, Bool.or_eq_false_iff, Bool.not_eq_true, Int.not_lt, Int.not_le, ge_iff_le, gt_iff_lt] at h3)
          refine segEndD [1, 2, 3, 16, 45] (T1 := (mkT 46 [(1, vP 1 0), (2, .bool false), (3, vN i), (16, .bool true), (45, .bool true)])) (H1 := [some ⟨a3s L, 74, false, false⟩, rB [vI x, vI y, vI z, vS 0 L.length] 40]) (by kernel_rfl) ?_
          refine kSeq ?_
          refine cTrue (by kernel_rfl) ?_
          refine cSeq ?_
          refine cReg ?_
          refine segEnd [1, 2, 3, 16, 45] (T1 := (mkT 46 [(1, vP 1 0), (2, .bool false), (3, vN i), (16, .bool true), (45, .bool true)])) (H1 := [some ⟨a3s L, 74, false, false⟩, rB [vI x, vI y, vI z, vS 0 L.length] 40]) (by kernel_rfl) ?_
          refine kSeq ?_
          refine cRet ?_
          refine kBlkR ?_
          refine kSeqR ?_
          refine kLoopR ?_
          refine kBlkR ?_
          refine kSeqR ?_
          exact endQ (Or.inr rfl) (l := [.bool false]) [rB [vI x, vI y, vI z, vS 0 L.length] 40] (by kernel_rfl) (congrArg Value.bool (by first | exact notHeap0 (by assumption) | exact heapYes (by assumption) ho (by omega) | exact notHeap1 (i := i) (by omega) (by assumption) | exact notHeap2 (i := i) (by omega) (by omega) (by assumption))) rfl rfl hcl rfl
        ·
          (try simp only [Bool.not_eq_true', Bool.not_eq_false', decide_eq_true_eq, decide_eq_false_iff_not, beq_iff_eq, bne_iff_ne, beq_eq_false_iff_ne, bne_eq_false_iff_eq, ne_eq, Decidable.not_not, Bool.and_eq_true, Bool.and_eq_false_imp, Bool.or_eq_true, Bool.or_eq_false_iff, Bool.not_eq_true, Int.not_lt, Int.not_le, ge_iff_le, gt_iff_lt] at h3)
          refine segD 3 (T1 := (mkT 46 [(1, vP 1 0), (2, .bool false), (3, vN i), (16, .bool true), (19, .agg #[vI x, vI y, vI z, vS 0 L.length]), (20, vP 1 3), (21, vS 0 L.length), (22, vN i), (23, vP 0 (i * 3)), (24, .agg #[vI ((L.getD i default).x), vI ((L.getD i default).y), vI ((L.getD i default).z)]), (25, .bool true), (26, .bool false), (27, .bool false), (28, vN i), (29, .bool (decide (((i : Nat) : Int) > 0))), (30, .bool (decide (((i : Nat) : Int) > 0)))])) (H1 := [some ⟨a3s L, 74, false, false⟩, rB [vI x, vI y, vI z, vS 0 L.length] 40]) (by kernel_rfl) ?_
          cases h4 : (decide (((i : Nat) : Int) > 0) : Bool)
          ·
            (try simp only [Bool.not_eq_true', Bool.not_eq_false', decide_eq_true_eq, decide_eq_false_iff_not, beq_iff_eq, bne_iff_ne, beq_eq_false_iff_ne, bne_eq_false_iff_eq, ne_eq, Decidable.not_not, Bool.and_eq_true, Bool.and_eq_false_imp, Bool.or_eq_true, Bool.or_eq_false_iff, Bool.not_eq_true, Int.not_lt, Int.not_le, ge_iff_le, gt_iff_lt] at h4)
            refine segEndD [1, 2, 3, 16, 45] (T1 := (mkT 46 [(1, vP 1 0), (2, .bool false), (3, vN i), (16, .bool true), (45, .bool false)])) (H1 := [some ⟨a3s L, 74, false, false⟩, rB [vI x, vI y, vI z, vS 0 L.length] 40]) (by kernel_rfl) ?_
            refine kSeq ?_
            refine cFalse (by kernel_rfl) ?_
            refine cSkip ?_
            refine kBlk ?_
            refine kSeq ?_
            refine cReg ?_
            refine seg 1 (T1 := (mkT 46 [(1, vP 1 0), (2, .bool false), (3, vN i), (16, .bool true), (17, vN i), (45, .bool false)])) (H1 := [some ⟨a3s L, 74, false, false⟩, rB [vI x, vI y, vI z, vS 0 L.length] 40]) (by kernel_rfl) ?_
            refine rOp (v := vN (i + 1)) (H' := [some ⟨a3s L, 74, false, false⟩, rB [vI x, vI y, vI z, vS 0 L.length] 40]) (by kernel_rfl) (eAdd (k := .i64) (a := ((i : Nat) : Int)) (b := 1) (c := ((i + 1 : Nat) : Int)) (by kernel_rfl) (by kernel_rfl) (wr64 (by omega) (by omega) (by omega))) ?_
            refine segEnd [1, 2, 3, 16, 45] (T1 := (mkT 46 [(1, vP 1 0), (2, .bool false), (3, vN (i + 1)), (16, .bool true), (45, .bool false)])) (H1 := [some ⟨a3s L, 74, false, false⟩, rB [vI x, vI y, vI z, vS 0 L.length] 40]) (by kernel_rfl) ?_
            exact kLoop (L.length - (i + 1)) (mkT 46 [(1, vP 1 0), (2, .bool false), (3, vN (i + 1))]) [some ⟨a3s L, 74, false, false⟩, rB [vI x, vI y, vI z, vS 0 L.length] 40] (by omega) (wkSame [1, 2, 3] (by kernel_rfl)) ⟨(i + 1), (by omega), (by first | exact okTo_step ho (by assumption) (Or.inr (by assumption)) | exact okTo_step ho (by assumption) (Or.inl (by omega))), rfl, rfl, rfl⟩
          ·
            (try simp only [Bool.not_eq_true', Bool.not_eq_false', decide_eq_true_eq, decide_eq_false_iff_not, beq_iff_eq, bne_iff_ne, beq_eq_false_iff_ne, bne_eq_false_iff_eq, ne_eq, Decidable.not_not, Bool.and_eq_true, Bool.and_eq_false_imp, Bool.or_eq_true, Bool.or_eq_false_iff, Bool.not_eq_true, Int.not_lt, Int.not_le, ge_iff_le, gt_iff_lt] at h4)
            refine segD 3 (T1 := (mkT 46 [(1, vP 1 0), (2, .bool false), (3, vN i), (16, .bool true), (19, .agg #[vI x, vI y, vI z, vS 0 L.length]), (20, vP 1 3), (21, vS 0 L.length), (22, vN i), (23, vP 0 (i * 3)), (24, .agg #[vI ((L.getD i default).x), vI ((L.getD i default).y), vI ((L.getD i default).z)]), (25, .bool true), (26, .bool false), (27, .bool false), (28, vN i), (29, .bool true), (30, .bool true), (31, vP 1 3), (32, vS 0 L.length), (33, vN i)])) (H1 := [some ⟨a3s L, 74, false, false⟩, rB [vI x, vI y, vI z, vS 0 L.length] 40]) (by kernel_rfl) ?_
            refine rOpD (v := vN (i - 1)) (H' := [some ⟨a3s L, 74, false, false⟩, rB [vI x, vI y, vI z, vS 0 L.length] 40]) (by kernel_rfl) (eSub (k := .i64) (a := ((i : Nat) : Int)) (b := 1) (c := ((i - 1 : Nat) : Int)) (by kernel_rfl) (by kernel_rfl)  (wr64 (by omega) (by omega) (by omega))) (by rfl) ?_
            refine rOpD (v := vP 0 ((i - 1) * 3)) (H' := [some ⟨a3s L, 74, false, false⟩, rB [vI x, vI y, vI z, vS 0 L.length] 40]) (by kernel_rfl) (eIdxS (ad := ⟨0, 0, none⟩) (n := L.length) (m := 0) (k := .i64) (c := ((i - 1 : Nat) : Int)) (j := (i - 1)) (o := (i - 1) * 3) (by kernel_rfl) (by kernel_rfl) ti31 ti74 (rfl) (by omega) (by exact Nat.zero_add _)) (by rfl) ?_
            refine rOpD (v := .agg #[vI ((L.getD (i - 1) default).x), vI ((L.getD (i - 1) default).y), vI ((L.getD (i - 1) default).z)]) (H' := [some ⟨a3s L, 74, false, false⟩, rB [vI x, vI y, vI z, vS 0 L.length] 40]) (by kernel_rfl) (eLdA3 (ad := ⟨0, (i - 1) * 3, none⟩) (r := ⟨a3s L, 74, false, false⟩) (L := L) (j := (i - 1)) (by kernel_rfl) (by kernel_rfl) rfl (by first | rfl | omega) (by omega) ti74) (by rfl) ?_
            refine segD 3 (T1 := (mkT 46 [(1, vP 1 0), (2, .bool false), (3, vN i), (16, .bool true), (19, .agg #[vI x, vI y, vI z, vS 0 L.length]), (20, vP 1 3), (21, vS 0 L.length), (22, vN i), (23, vP 0 (i * 3)), (24, .agg #[vI ((L.getD i default).x), vI ((L.getD i default).y), vI ((L.getD i default).z)]), (25, .bool true), (26, .bool false), (27, .bool false), (28, vN i), (29, .bool true), (30, .bool true), (31, vP 1 3), (32, vS 0 L.length), (33, vN i), (34, vN (i - 1)), (35, vP 0 ((i - 1) * 3)), (36, .agg #[vI ((L.getD (i - 1) default).x), vI ((L.getD (i - 1) default).y), vI ((L.getD (i - 1) default).z)]), (37, vP 1 3), (38, vS 0 L.length), (39, vN i)])) (H1 := [some ⟨a3s L, 74, false, false⟩, rB [vI x, vI y, vI z, vS 0 L.length] 40]) (by kernel_rfl) ?_
            refine rOpD (v := vP 0 (i * 3)) (H' := [some ⟨a3s L, 74, false, false⟩, rB [vI x, vI y, vI z, vS 0 L.length] 40]) (by kernel_rfl) (eIdxS (ad := ⟨0, 0, none⟩) (n := L.length) (m := 0) (k := .i64) (c := ((i : Nat) : Int)) (j := i) (o := i * 3) (by kernel_rfl) (by kernel_rfl) ti31 ti74 (rfl) (by omega) (by exact Nat.zero_add _)) (by rfl) ?_
            refine rOpD (v := .agg #[vI ((L.getD i default).x), vI ((L.getD i default).y), vI ((L.getD i default).z)]) (H' := [some ⟨a3s L, 74, false, false⟩, rB [vI x, vI y, vI z, vS 0 L.length] 40]) (by kernel_rfl) (eLdA3 (ad := ⟨0, i * 3, none⟩) (r := ⟨a3s L, 74, false, false⟩) (L := L) (j := i) (by kernel_rfl) (by kernel_rfl) rfl (by first | rfl | omega) (by omega) ti74) (by rfl) ?_
            refine rCallQ (v := .bool (lexB ((L.getD (i - 1) default).x) ((L.getD (i - 1) default).y) ((L.getD (i - 1) default).z) ((L.getD i default).x) ((L.getD i default).y) ((L.getD i default).z))) (args := [.agg #[vI ((L.getD (i - 1) default).x), vI ((L.getD (i - 1) default).y), vI ((L.getD (i - 1) default).z)], .agg #[vI ((L.getD i default).x), vI ((L.getD i default).y), vI ((L.getD i default).z)]]) (by kernel_rfl) rfl (by kernel_rfl) (by kernel_rfl) (by kernel_rfl) (Quiet.flat (l2Before_ok ((L.getD (i - 1) default).x) ((L.getD (i - 1) default).y) ((L.getD (i - 1) default).z) ((L.getD i default).x) ((L.getD i default).y) ((L.getD i default).z)) rfl rfl) ?_
            refine segEndD [1, 2, 3, 16, 45] (T1 := (mkT 46 [(1, vP 1 0), (2, .bool false), (3, vN i), (16, .bool true), (45, .bool (!(lexB ((L.getD (i - 1) default).x) ((L.getD (i - 1) default).y) ((L.getD (i - 1) default).z) ((L.getD i default).x) ((L.getD i default).y) ((L.getD i default).z))))])) (H1 := [some ⟨a3s L, 74, false, false⟩, rB [vI x, vI y, vI z, vS 0 L.length] 40]) (by kernel_rfl) ?_
            refine kSeq ?_
            cases h5 : (lexB ((L.getD (i - 1) default).x) ((L.getD (i - 1) default).y) ((L.getD (i - 1) default).z) ((L.getD i default).x) ((L.getD i default).y) ((L.getD i default).z) : Bool)
            ·
              (try simp only [Bool.not_eq_true', Bool.not_eq_false', decide_eq_true_eq, decide_eq_false_iff_not, beq_iff_eq, bne_iff_ne, beq_eq_false_iff_ne, bne_eq_false_iff_eq, ne_eq, Decidable.not_not, Bool.and_eq_true, Bool.and_eq_false_imp, Bool.or_eq_true, Bool.or_eq_false_iff, Bool.not_eq_true, Int.not_lt, Int.not_le, ge_iff_le, gt_iff_lt] at h5)
              refine cTrue (by kernel_rfl) ?_
              refine cSeq ?_
              refine cReg ?_
              refine segEnd [1, 2, 3, 16, 45] (T1 := (mkT 46 [(1, vP 1 0), (2, .bool false), (3, vN i), (16, .bool true), (45, .bool true)])) (H1 := [some ⟨a3s L, 74, false, false⟩, rB [vI x, vI y, vI z, vS 0 L.length] 40]) (by kernel_rfl) ?_
              refine kSeq ?_
              refine cRet ?_
              refine kBlkR ?_
              refine kSeqR ?_
              refine kLoopR ?_
              refine kBlkR ?_
              refine kSeqR ?_
              exact endQ (Or.inr rfl) (l := [.bool false]) [rB [vI x, vI y, vI z, vS 0 L.length] 40] (by kernel_rfl) (congrArg Value.bool (by first | exact notHeap0 (by assumption) | exact heapYes (by assumption) ho (by omega) | exact notHeap1 (i := i) (by omega) (by assumption) | exact notHeap2 (i := i) (by omega) (by omega) (by assumption))) rfl rfl hcl rfl
            ·
              (try simp only [Bool.not_eq_true', Bool.not_eq_false', decide_eq_true_eq, decide_eq_false_iff_not, beq_iff_eq, bne_iff_ne, beq_eq_false_iff_ne, bne_eq_false_iff_eq, ne_eq, Decidable.not_not, Bool.and_eq_true, Bool.and_eq_false_imp, Bool.or_eq_true, Bool.or_eq_false_iff, Bool.not_eq_true, Int.not_lt, Int.not_le, ge_iff_le, gt_iff_lt] at h5)
              refine cFalse (by kernel_rfl) ?_
              refine cSkip ?_
              refine kBlk ?_
              refine kSeq ?_
              refine cReg ?_
              refine seg 1 (T1 := (mkT 46 [(1, vP 1 0), (2, .bool false), (3, vN i), (16, .bool true), (17, vN i), (45, .bool false)])) (H1 := [some ⟨a3s L, 74, false, false⟩, rB [vI x, vI y, vI z, vS 0 L.length] 40]) (by kernel_rfl) ?_
              refine rOp (v := vN (i + 1)) (H' := [some ⟨a3s L, 74, false, false⟩, rB [vI x, vI y, vI z, vS 0 L.length] 40]) (by kernel_rfl) (eAdd (k := .i64) (a := ((i : Nat) : Int)) (b := 1) (c := ((i + 1 : Nat) : Int)) (by kernel_rfl) (by kernel_rfl) (wr64 (by omega) (by omega) (by omega))) ?_
              refine segEnd [1, 2, 3, 16, 45] (T1 := (mkT 46 [(1, vP 1 0), (2, .bool false), (3, vN (i + 1)), (16, .bool true), (45, .bool false)])) (H1 := [some ⟨a3s L, 74, false, false⟩, rB [vI x, vI y, vI z, vS 0 L.length] 40]) (by kernel_rfl) ?_
              exact kLoop (L.length - (i + 1)) (mkT 46 [(1, vP 1 0), (2, .bool false), (3, vN (i + 1))]) [some ⟨a3s L, 74, false, false⟩, rB [vI x, vI y, vI z, vS 0 L.length] 40] (by omega) (wkSame [1, 2, 3] (by kernel_rfl)) ⟨(i + 1), (by omega), (by first | exact okTo_step ho (by assumption) (Or.inr (by assumption)) | exact okTo_step ho (by assumption) (Or.inl (by omega))), rfl, rfl, rfl⟩

set_option maxRecDepth 100000 in
set_option maxHeartbeats 4000000 in
theorem implIsHeap_ok (x y z : Int) (L : List A3) (hL : L.length ≤ 1048576) : Sound Try.prog 85 [.agg #[vI x, vI y, vI z, vS 0 L.length]] [some ⟨a3s L, 74, false, false⟩] (.bool (isHeapB x y z L)) [some ⟨a3s L, 74, false, false⟩] := by
  refine sound_intro (C := cx) Try.func85 rfl (by kernel_rfl) fun hcl => ?_
  refine cSeq ?_
  refine cReg ?_
  refine segEnd [0, 1, 2] (T1 := (mkT 38 [(0, .agg #[vI x, vI y, vI z, vS 0 L.length]), (1, vP 1 0), (2, .bool false)])) (H1 := [some ⟨a3s L, 74, false, false⟩, rB [vI x, vI y, vI z, vS 0 L.length] 40]) (by kernel_rfl) ?_
  refine kSeq ?_
  refine cSeq ?_
  refine cSeq ?_
  refine cReg ?_
  refine seg 1 (T1 := (mkT 38 [(0, .agg #[vI x, vI y, vI z, vS 0 L.length]), (1, vP 1 0), (2, .bool false), (5, .agg #[vI x, vI y, vI z, vS 0 L.length])])) (H1 := [some ⟨a3s L, 74, false, false⟩, rB [vI x, vI y, vI z, vS 0 L.length] 40]) (by kernel_rfl) ?_
  refine rCall (v := .agg #[vI x, vI y, vI z]) (H' := [some ⟨a3s L, 74, false, false⟩, rB [vI x, vI y, vI z, vS 0 L.length] 40]) (args := [.agg #[vI x, vI y, vI z, vS 0 L.length]]) (by kernel_rfl) rfl (by kernel_rfl) (Sound.reads1 (r := ⟨a3s L, 74, false, false⟩) 0 false (box_ok x y z L) (flatA3 _ _ _ _) rfl rfl rfl (by first | rfl | simp [mpV, mpA, mpS, mpP, renId, shift]) rfl) ?_
  refine rCall (v := .bool (valid3 x y z)) (H' := [some ⟨a3s L, 74, false, false⟩, rB [vI x, vI y, vI z, vS 0 L.length] 40]) (args := [.agg #[vI x, vI y, vI z]]) (by kernel_rfl) rfl (by kernel_rfl) ((valid_ok x y z).flat rfl rfl _) ?_
  refine segEnd [0, 1, 2, 8] (T1 := (mkT 38 [(0, .agg #[vI x, vI y, vI z, vS 0 L.length]), (1, vP 1 0), (2, .bool false), (8, .bool (!(valid3 x y z)))])) (H1 := [some ⟨a3s L, 74, false, false⟩, rB [vI x, vI y, vI z, vS 0 L.length] 40]) (by kernel_rfl) ?_
  refine kSeq ?_
  cases h1 : (valid3 x y z : Bool)
  ·
    (try simp only [lexC_neg] at h1)
    (try simp only [Bool.not_eq_true', Bool.not_eq_false', decide_eq_true_eq, decide_eq_false_iff_not, beq_iff_eq, bne_iff_ne, beq_eq_false_iff_ne, bne_eq_false_iff_eq, ne_eq, Decidable.not_not, Bool.and_eq_true, Bool.and_eq_false_imp, Bool.or_eq_true, Bool.or_eq_false_iff, Bool.not_eq_true, Int.not_lt, Int.not_le, ge_iff_le, gt_iff_lt] at h1)
    refine cTrue (by kernel_rfl) ?_
    refine cSeq ?_
    refine cReg ?_
    refine segEnd [0, 1, 2, 8] (T1 := (mkT 38 [(0, .agg #[vI x, vI y, vI z, vS 0 L.length]), (1, vP 1 0), (2, .bool false), (8, .bool true)])) (H1 := [some ⟨a3s L, 74, false, false⟩, rB [vI x, vI y, vI z, vS 0 L.length] 40]) (by kernel_rfl) ?_
    refine kSeq ?_
    refine cRet ?_
    refine kSeqR ?_
    exact endQ (Or.inr rfl) (l := [.bool false]) [rB [vI x, vI y, vI z, vS 0 L.length] 40] (by kernel_rfl) (congrArg Value.bool (by first | exact notHeap0 (by assumption) | exact heapYes (by assumption) ho (by omega) | exact notHeap1 (i := i) (by omega) (by assumption) | exact notHeap2 (i := i) (by omega) (by omega) (by assumption))) rfl rfl hcl rfl
  ·
    (try simp only [lexC_neg] at h1)
    (try simp only [Bool.not_eq_true', Bool.not_eq_false', decide_eq_true_eq, decide_eq_false_iff_not, beq_iff_eq, bne_iff_ne, beq_eq_false_iff_ne, bne_eq_false_iff_eq, ne_eq, Decidable.not_not, Bool.and_eq_true, Bool.and_eq_false_imp, Bool.or_eq_true, Bool.or_eq_false_iff, Bool.not_eq_true, Int.not_lt, Int.not_le, ge_iff_le, gt_iff_lt] at h1)
    have hb := valid_bounds h1
    refine cFalse (by kernel_rfl) ?_
    refine cSkip ?_
    refine kSeq ?_
    refine cSeq ?_
    refine cSeq ?_
    refine cReg ?_
    refine segEnd [0, 1, 2, 8, 10, 11, 12] (T1 := (mkT 38 [(0, .agg #[vI x, vI y, vI z, vS 0 L.length]), (1, vP 1 0), (2, .bool false), (8, .bool false), (10, vS 0 L.length), (11, vN L.length), (12, vI 0)])) (H1 := [some ⟨a3s L, 74, false, false⟩, rB [vI x, vI y, vI z, vS 0 L.length] 40]) (by kernel_rfl) ?_
    refine kSeq ?_
    refine cBlk ?_
    -- loop
    refine cLoop (fun mm T H => ∃ i : Nat, (i ≤ L.length) ∧ (okTo x y z L i = true) ∧ mm = L.length - i ∧ T = (mkT 38 [(1, vP 1 0), (2, .bool false), (10, vS 0 L.length), (11, vN L.length), (12, vN i)]) ∧ H = [some ⟨a3s L, 74, false, false⟩, rB [vI x, vI y, vI z, vS 0 L.length] 40]) (L.length - 0) (mkT 38 [(1, vP 1 0), (2, .bool false), (10, vS 0 L.length), (11, vN L.length), (12, vI 0)]) [some ⟨a3s L, 74, false, false⟩, rB [vI x, vI y, vI z, vS 0 L.length] 40] (wkSame [1, 2, 10, 11, 12] (by kernel_rfl)) ?_ ?_
    · exact ⟨0, (Nat.zero_le _), (rfl), rfl, rfl, rfl⟩
    · rintro _ _ _ ⟨i, hi, ho, rfl, rfl, rfl⟩
      refine cSeq ?_
      refine cReg ?_
      refine segEnd [1, 2, 10, 11, 12, 13] (T1 := (mkT 38 [(1, vP 1 0), (2, .bool false), (10, vS 0 L.length), (11, vN L.length), (12, vN i), (13, .bool (decide (((i : Nat) : Int) < ((L.length : Nat) : Int))))])) (H1 := [some ⟨a3s L, 74, false, false⟩, rB [vI x, vI y, vI z, vS 0 L.length] 40]) (by kernel_rfl) ?_
      refine kSeq ?_
      refine cSeq ?_
      cases h2 : (decide (((i : Nat) : Int) < ((L.length : Nat) : Int)) : Bool)
      ·
        (try simp only [lexC_neg] at h2)
        (try simp only [Bool.not_eq_true', Bool.not_eq_false', decide_eq_true_eq, decide_eq_false_iff_not, beq_iff_eq, bne_iff_ne, beq_eq_false_iff_ne, bne_eq_false_iff_eq, ne_eq, Decidable.not_not, Bool.and_eq_true, Bool.and_eq_false_imp, Bool.or_eq_true, Bool.or_eq_false_iff, Bool.not_eq_true, Int.not_lt, Int.not_le, ge_iff_le, gt_iff_lt] at h2)
        refine cFalse (by kernel_rfl) ?_
        refine cExit ?_
        refine kSeqE ?_
        refine kLoopE ?_
        refine kBlkHit ?_
        refine kSeq ?_
        refine cSeq ?_
        refine cReg ?_
        refine segEnd [1, 2, 10, 11, 12, 13] (T1 := (mkT 38 [(1, vP 1 0), (2, .bool true), (10, vS 0 L.length), (11, vN L.length), (12, vN i), (13, .bool false)])) (H1 := [some ⟨a3s L, 74, false, false⟩, rB [vI x, vI y, vI z, vS 0 L.length] 40]) (by kernel_rfl) ?_
        refine kSeq ?_
        refine cRet ?_
        exact endQ (Or.inr rfl) (l := [.bool true]) [rB [vI x, vI y, vI z, vS 0 L.length] 40] (by kernel_rfl) (congrArg Value.bool (by first | exact notHeap0 (by assumption) | exact heapYes (by assumption) ho (by omega) | exact notHeap1 (i := i) (by omega) (by assumption) | exact notHeap2 (i := i) (by omega) (by omega) (by assumption))) rfl rfl hcl rfl
      ·
        (try simp only [lexC_neg] at h2)
        (try simp only [Bool.not_eq_true', Bool.not_eq_false', decide_eq_true_eq, decide_eq_false_iff_not, beq_iff_eq, bne_iff_ne, beq_eq_false_iff_ne, bne_eq_false_iff_eq, ne_eq, Decidable.not_not, Bool.and_eq_true, Bool.and_eq_false_imp, Bool.or_eq_true, Bool.or_eq_false_iff, Bool.not_eq_true, Int.not_lt, Int.not_le, ge_iff_le, gt_iff_lt] at h2)
        refine cTrue (by kernel_rfl) ?_
        refine cSkip ?_
        refine kSeq ?_
        refine cSeq ?_
        refine cBlk ?_
        refine cSeq ?_
        refine cReg ?_
        refine seg 1 (T1 := (mkT 38 [(1, vP 1 0), (2, .bool false), (10, vS 0 L.length), (11, vN L.length), (12, vN i), (13, .bool true), (14, vN i)])) (H1 := [some ⟨a3s L, 74, false, false⟩, rB [vI x, vI y, vI z, vS 0 L.length] 40]) (by kernel_rfl) ?_
        refine rOp (v := vP 0 (i * 3)) (H' := [some ⟨a3s L, 74, false, false⟩, rB [vI x, vI y, vI z, vS 0 L.length] 40]) (by kernel_rfl) (eIdxS (ad := ⟨0, 0, none⟩) (n := L.length) (m := 0) (k := .i64) (c := ((i : Nat) : Int)) (j := i) (o := i * 3) (by kernel_rfl) (by kernel_rfl) ti31 ti74 (rfl) (by omega) (by exact Nat.zero_add _)) ?_
        refine rOp (v := .agg #[vI ((L.getD i default).x), vI ((L.getD i default).y), vI ((L.getD i default).z)]) (H' := [some ⟨a3s L, 74, false, false⟩, rB [vI x, vI y, vI z, vS 0 L.length] 40]) (by kernel_rfl) (eLdA3 (ad := ⟨0, i * 3, none⟩) (r := ⟨a3s L, 74, false, false⟩) (L := L) (j := i) (by kernel_rfl) (by kernel_rfl) rfl (by first | rfl | omega) (by omega) ti74) ?_
        refine segEnd [1, 2, 3, 4, 10, 11, 12, 13] (T1 := (mkT 38 [(1, vP 1 0), (2, .bool false), (3, vN i), (4, vP 2 0), (10, vS 0 L.length), (11, vN L.length), (12, vN i), (13, .bool true)])) (H1 := [some ⟨a3s L, 74, false, false⟩, rB [vI x, vI y, vI z, vS 0 L.length] 40, rB [vI ((L.getD i default).x), vI ((L.getD i default).y), vI ((L.getD i default).z)] 74]) (by kernel_rfl) ?_
        refine kSeq ?_
        refine cSeq ?_
        refine cRegD (by kernel_rfl) ?_
        refine segD 1 (T1 := (mkT 38 [(1, vP 1 0), (2, .bool false), (3, vN i), (4, vP 2 0), (10, vS 0 L.length), (11, vN L.length), (12, vN i), (13, .bool true), (17, .agg #[vI x, vI y, vI z, vS 0 L.length])])) (H1 := [some ⟨a3s L, 74, false, false⟩, rB [vI x, vI y, vI z, vS 0 L.length] 40, rB [vI ((L.getD i default).x), vI ((L.getD i default).y), vI ((L.getD i default).z)] 74]) (by kernel_rfl) ?_
        refine rCallQ (v := .agg #[vI x, vI y, vI z]) (args := [.agg #[vI x, vI y, vI z, vS 0 L.length]]) (by kernel_rfl) rfl (by kernel_rfl) (by kernel_rfl) (by kernel_rfl) (Quiet.reads1 (r := ⟨a3s L, 74, false, false⟩) 0 false (box_ok x y z L) (flatA3 _ _ _ _) rfl rfl rfl (by first | rfl | simp [mpV, mpA, mpS, mpP, renId, shift]) rfl rfl) ?_
        refine segD 1 (T1 := (mkT 38 [(1, vP 1 0), (2, .bool false), (3, vN i), (4, vP 2 0), (10, vS 0 L.length), (11, vN L.length), (12, vN i), (13, .bool true), (17, .agg #[vI x, vI y, vI z, vS 0 L.length]), (18, .agg #[vI x, vI y, vI z]), (19, .agg #[vI ((L.getD i default).x), vI ((L.getD i default).y), vI ((L.getD i default).z)])])) (H1 := [some ⟨a3s L, 74, false, false⟩, rB [vI x, vI y, vI z, vS 0 L.length] 40, rB [vI ((L.getD i default).x), vI ((L.getD i default).y), vI ((L.getD i default).z)] 74]) (by kernel_rfl) ?_
        refine rCallQ (v := .bool (has3 x y z ((L.getD i default).x) ((L.getD i default).y) ((L.getD i default).z))) (args := [.agg #[vI x, vI y, vI z], .agg #[vI ((L.getD i default).x), vI ((L.getD i default).y), vI ((L.getD i default).z)]]) (by kernel_rfl) rfl (by kernel_rfl) (by kernel_rfl) (by kernel_rfl) (Quiet.flat (has_ok x y z ((L.getD i default).x) ((L.getD i default).y) ((L.getD i default).z) (by omega)) rfl rfl) ?_
        refine segD 2 (T1 := (mkT 38 [(1, vP 1 0), (2, .bool false), (3, vN i), (4, vP 2 0), (10, vS 0 L.length), (11, vN L.length), (12, vN i), (13, .bool true), (17, .agg #[vI x, vI y, vI z, vS 0 L.length]), (18, .agg #[vI x, vI y, vI z]), (19, .agg #[vI ((L.getD i default).x), vI ((L.getD i default).y), vI ((L.getD i default).z)]), (20, .bool (has3 x y z ((L.getD i default).x) ((L.getD i default).y) ((L.getD i default).z))), (21, .bool (!(has3 x y z ((L.getD i default).x) ((L.getD i default).y) ((L.getD i default).z)))), (22, .bool (!(has3 x y z ((L.getD i default).x) ((L.getD i default).y) ((L.getD i default).z))))])) (H1 := [some ⟨a3s L, 74, false, false⟩, rB [vI x, vI y, vI z, vS 0 L.length] 40, rB [vI ((L.getD i default).x), vI ((L.getD i default).y), vI ((L.getD i default).z)] 74]) (by kernel_rfl) ?_
        cases h3 : (has3 x y z ((L.getD i default).x) ((L.getD i default).y) ((L.getD i default).z) : Bool)
        ·
          (try simp only [lexC_neg] at h3)
          (try simp only [Bool.not_eq_true', Bool.not_eq_false', decide_eq_true_eq, decide_eq_false_iff_not, beq_iff_eq, bne_iff_ne, beq_eq_false_iff_ne, bne_eq_false_iff_eq, ne_eq, Decidable.not_not, Bool.and_eq_true, Bool.and_eq_false_imp, Bool.or_eq_true, Bool.or_eq_false_iff, Bool.not_eq_true, Int.not_lt, Int.not_le, ge_iff_le, gt_iff_lt] at h3)
          refine segEndD [1, 2, 3, 4, 10, 11, 12, 13, 36] (T1 := (mkT 38 [(1, vP 1 0), (2, .bool false), (3, vN i), (4, vP 2 0), (10, vS 0 L.length), (11, vN L.length), (12, vN i), (13, .bool true), (36, .bool true)])) (H1 := [some ⟨a3s L, 74, false, false⟩, rB [vI x, vI y, vI z, vS 0 L.length] 40, rB [vI ((L.getD i default).x), vI ((L.getD i default).y), vI ((L.getD i default).z)] 74]) (by kernel_rfl) ?_
          refine kSeq ?_
          refine cTrue (by kernel_rfl) ?_
          refine cSeq ?_
          refine cReg ?_
          refine segEnd [1, 2, 3, 4, 10, 11, 12, 13, 36] (T1 := (mkT 38 [(1, vP 1 0), (2, .bool false), (3, vN i), (4, vP 2 0), (10, vS 0 L.length), (11, vN L.length), (12, vN i), (13, .bool true), (36, .bool true)])) (H1 := [some ⟨a3s L, 74, false, false⟩, rB [vI x, vI y, vI z, vS 0 L.length] 40, rB [vI ((L.getD i default).x), vI ((L.getD i default).y), vI ((L.getD i default).z)] 74]) (by kernel_rfl) ?_
          refine kSeq ?_
          refine cRet ?_
          refine kBlkR ?_
          refine kSeqR ?_
          refine kLoopR ?_
          refine kBlkR ?_
          refine kSeqR ?_
          exact endQ (Or.inr rfl) (l := [.bool false]) [rB [vI x, vI y, vI z, vS 0 L.length] 40, rB [vI ((L.getD i default).x), vI ((L.getD i default).y), vI ((L.getD i default).z)] 74] (by kernel_rfl) (congrArg Value.bool (by first | exact notHeap0 (by assumption) | exact heapYes (by assumption) ho (by omega) | exact notHeap1 (i := i) (by omega) (by assumption) | exact notHeap2 (i := i) (by omega) (by omega) (by assumption))) rfl rfl hcl rfl
        ·
          (try simp only [lexC_neg] at h3)
          (try simp only [Bool.not_eq_true', Bool.not_eq_false', decide_eq_true_eq, decide_eq_false_iff_not, beq_iff_eq, bne_iff_ne, beq_eq_false_iff_ne, bne_eq_false_iff_eq, ne_eq, Decidable.not_not, Bool.and_eq_true, Bool.and_eq_false_imp, Bool.or_eq_true, Bool.or_eq_false_iff, Bool.not_eq_true, Int.not_lt, Int.not_le, ge_iff_le, gt_iff_lt] at h3)
          refine segD 3 (T1 := (mkT 38 [(1, vP 1 0), (2, .bool false), (3, vN i), (4, vP 2 0), (10, vS 0 L.length), (11, vN L.length), (12, vN i), (13, .bool true), (17, .agg #[vI x, vI y, vI z, vS 0 L.length]), (18, .agg #[vI x, vI y, vI z]), (19, .agg #[vI ((L.getD i default).x), vI ((L.getD i default).y), vI ((L.getD i default).z)]), (20, .bool true), (21, .bool false), (22, .bool false), (23, vN i), (24, .bool (decide (((i : Nat) : Int) > 0))), (25, .bool (decide (((i : Nat) : Int) > 0)))])) (H1 := [some ⟨a3s L, 74, false, false⟩, rB [vI x, vI y, vI z, vS 0 L.length] 40, rB [vI ((L.getD i default).x), vI ((L.getD i default).y), vI ((L.getD i default).z)] 74]) (by kernel_rfl) ?_
          cases h4 : (decide (((i : Nat) : Int) > 0) : Bool)
          ·
            (try simp only [lexC_neg] at h4)
            (try simp only [Bool.not_eq_true', Bool.not_eq_false', decide_eq_true_eq, decide_eq_false_iff_not, beq_iff_eq, bne_iff_ne, beq_eq_false_iff_ne, bne_eq_false_iff_eq, ne_eq, Decidable.not_not, Bool.and_eq_true, Bool.and_eq_false_imp, Bool.or_eq_true, Bool.or_eq_false_iff, Bool.not_eq_true, Int.not_lt, Int.not_le, ge_iff_le, gt_iff_lt] at h4)
            refine segEndD [1, 2, 3, 4, 10, 11, 12, 13, 36] (T1 := (mkT 38 [(1, vP 1 0), (2, .bool false), (3, vN i), (4, vP 2 0), (10, vS 0 L.length), (11, vN L.length), (12, vN i), (13, .bool true), (36, .bool false)])) (H1 := [some ⟨a3s L, 74, false, false⟩, rB [vI x, vI y, vI z, vS 0 L.length] 40, rB [vI ((L.getD i default).x), vI ((L.getD i default).y), vI ((L.getD i default).z)] 74]) (by kernel_rfl) ?_
            refine kSeq ?_
            refine cFalse (by kernel_rfl) ?_
            refine cSkip ?_
            refine kBlk ?_
            refine kSeq ?_
            refine cReg ?_
            refine rOp (v := vN (i + 1)) (H' := [some ⟨a3s L, 74, false, false⟩, rB [vI x, vI y, vI z, vS 0 L.length] 40, rB [vI ((L.getD i default).x), vI ((L.getD i default).y), vI ((L.getD i default).z)] 74]) (by kernel_rfl) (eAdd (k := .i64) (a := ((i : Nat) : Int)) (b := 1) (c := ((i + 1 : Nat) : Int)) (by kernel_rfl) (by kernel_rfl) (wr64 (by omega) (by omega) (by omega))) ?_
            refine segEnd [1, 2, 3, 4, 10, 11, 12, 13, 36] (T1 := (mkT 38 [(1, vP 1 0), (2, .bool false), (3, vN i), (4, vP 2 0), (10, vS 0 L.length), (11, vN L.length), (12, vN (i + 1)), (13, .bool true), (36, .bool false)])) (H1 := [some ⟨a3s L, 74, false, false⟩, rB [vI x, vI y, vI z, vS 0 L.length] 40, rB [vI ((L.getD i default).x), vI ((L.getD i default).y), vI ((L.getD i default).z)] 74]) (by kernel_rfl) ?_
            exact kLoop (L.length - (i + 1)) (mkT 38 [(1, vP 1 0), (2, .bool false), (10, vS 0 L.length), (11, vN L.length), (12, vN (i + 1))]) [some ⟨a3s L, 74, false, false⟩, rB [vI x, vI y, vI z, vS 0 L.length] 40] (by omega) (wkDrop [1, 2, 10, 11, 12] _ rfl rfl ((closedL ⟨clF (flatA3 _ _ _ _), ⟨clX rfl, trivial⟩⟩)) (by kernel_rfl) rfl) ⟨(i + 1), (by omega), (by first | exact okTo_step ho (by assumption) (Or.inr (by assumption)) | exact okTo_step ho (by assumption) (Or.inl (by omega))), rfl, rfl, rfl⟩
          ·
            (try simp only [lexC_neg] at h4)
            (try simp only [Bool.not_eq_true', Bool.not_eq_false', decide_eq_true_eq, decide_eq_false_iff_not, beq_iff_eq, bne_iff_ne, beq_eq_false_iff_ne, bne_eq_false_iff_eq, ne_eq, Decidable.not_not, Bool.and_eq_true, Bool.and_eq_false_imp, Bool.or_eq_true, Bool.or_eq_false_iff, Bool.not_eq_true, Int.not_lt, Int.not_le, ge_iff_le, gt_iff_lt] at h4)
            refine segD 3 (T1 := (mkT 38 [(1, vP 1 0), (2, .bool false), (3, vN i), (4, vP 2 0), (10, vS 0 L.length), (11, vN L.length), (12, vN i), (13, .bool true), (17, .agg #[vI x, vI y, vI z, vS 0 L.length]), (18, .agg #[vI x, vI y, vI z]), (19, .agg #[vI ((L.getD i default).x), vI ((L.getD i default).y), vI ((L.getD i default).z)]), (20, .bool true), (21, .bool false), (22, .bool false), (23, vN i), (24, .bool true), (25, .bool true), (26, vP 1 3), (27, vS 0 L.length), (28, vN i)])) (H1 := [some ⟨a3s L, 74, false, false⟩, rB [vI x, vI y, vI z, vS 0 L.length] 40, rB [vI ((L.getD i default).x), vI ((L.getD i default).y), vI ((L.getD i default).z)] 74]) (by kernel_rfl) ?_
            refine rOpD (v := vN (i - 1)) (H' := [some ⟨a3s L, 74, false, false⟩, rB [vI x, vI y, vI z, vS 0 L.length] 40, rB [vI ((L.getD i default).x), vI ((L.getD i default).y), vI ((L.getD i default).z)] 74]) (by kernel_rfl) (eSub (k := .i64) (a := ((i : Nat) : Int)) (b := 1) (c := ((i - 1 : Nat) : Int)) (by kernel_rfl) (by kernel_rfl)  (wr64 (by omega) (by omega) (by omega))) (by rfl) ?_
            refine rOpD (v := vP 0 ((i - 1) * 3)) (H' := [some ⟨a3s L, 74, false, false⟩, rB [vI x, vI y, vI z, vS 0 L.length] 40, rB [vI ((L.getD i default).x), vI ((L.getD i default).y), vI ((L.getD i default).z)] 74]) (by kernel_rfl) (eIdxS (ad := ⟨0, 0, none⟩) (n := L.length) (m := 0) (k := .i64) (c := ((i - 1 : Nat) : Int)) (j := (i - 1)) (o := (i - 1) * 3) (by kernel_rfl) (by kernel_rfl) ti31 ti74 (rfl) (by omega) (by exact Nat.zero_add _)) (by rfl) ?_
            refine rOpD (v := .agg #[vI ((L.getD (i - 1) default).x), vI ((L.getD (i - 1) default).y), vI ((L.getD (i - 1) default).z)]) (H' := [some ⟨a3s L, 74, false, false⟩, rB [vI x, vI y, vI z, vS 0 L.length] 40, rB [vI ((L.getD i default).x), vI ((L.getD i default).y), vI ((L.getD i default).z)] 74]) (by kernel_rfl) (eLdA3 (ad := ⟨0, (i - 1) * 3, none⟩) (r := ⟨a3s L, 74, false, false⟩) (L := L) (j := (i - 1)) (by kernel_rfl) (by kernel_rfl) rfl (by first | rfl | omega) (by omega) ti74) (by rfl) ?_
            refine segD 1 (T1 := (mkT 38 [(1, vP 1 0), (2, .bool false), (3, vN i), (4, vP 2 0), (10, vS 0 L.length), (11, vN L.length), (12, vN i), (13, .bool true), (17, .agg #[vI x, vI y, vI z, vS 0 L.length]), (18, .agg #[vI x, vI y, vI z]), (19, .agg #[vI ((L.getD i default).x), vI ((L.getD i default).y), vI ((L.getD i default).z)]), (20, .bool true), (21, .bool false), (22, .bool false), (23, vN i), (24, .bool true), (25, .bool true), (26, vP 1 3), (27, vS 0 L.length), (28, vN i), (29, vN (i - 1)), (30, vP 0 ((i - 1) * 3)), (31, .agg #[vI ((L.getD (i - 1) default).x), vI ((L.getD (i - 1) default).y), vI ((L.getD (i - 1) default).z)]), (32, .agg #[vI ((L.getD i default).x), vI ((L.getD i default).y), vI ((L.getD i default).z)])])) (H1 := [some ⟨a3s L, 74, false, false⟩, rB [vI x, vI y, vI z, vS 0 L.length] 40, rB [vI ((L.getD i default).x), vI ((L.getD i default).y), vI ((L.getD i default).z)] 74]) (by kernel_rfl) ?_
            refine rCallQ (v := vI (lexC ((L.getD (i - 1) default).x) ((L.getD (i - 1) default).y) ((L.getD (i - 1) default).z) ((L.getD i default).x) ((L.getD i default).y) ((L.getD i default).z))) (args := [.agg #[vI ((L.getD (i - 1) default).x), vI ((L.getD (i - 1) default).y), vI ((L.getD (i - 1) default).z)], .agg #[vI ((L.getD i default).x), vI ((L.getD i default).y), vI ((L.getD i default).z)]]) (by kernel_rfl) rfl (by kernel_rfl) (by kernel_rfl) (by kernel_rfl) (Quiet.flat (compareCells_ok ((L.getD (i - 1) default).x) ((L.getD (i - 1) default).y) ((L.getD (i - 1) default).z) ((L.getD i default).x) ((L.getD i default).y) ((L.getD i default).z)) rfl rfl) ?_
            refine segEndD [1, 2, 3, 4, 10, 11, 12, 13, 36] (T1 := (mkT 38 [(1, vP 1 0), (2, .bool false), (3, vN i), (4, vP 2 0), (10, vS 0 L.length), (11, vN L.length), (12, vN i), (13, .bool true), (36, .bool (decide (lexC ((L.getD (i - 1) default).x) ((L.getD (i - 1) default).y) ((L.getD (i - 1) default).z) ((L.getD i default).x) ((L.getD i default).y) ((L.getD i default).z) ≥ 0)))])) (H1 := [some ⟨a3s L, 74, false, false⟩, rB [vI x, vI y, vI z, vS 0 L.length] 40, rB [vI ((L.getD i default).x), vI ((L.getD i default).y), vI ((L.getD i default).z)] 74]) (by kernel_rfl) ?_
            refine kSeq ?_
            cases h5 : (decide (lexC ((L.getD (i - 1) default).x) ((L.getD (i - 1) default).y) ((L.getD (i - 1) default).z) ((L.getD i default).x) ((L.getD i default).y) ((L.getD i default).z) ≥ 0) : Bool)
            ·
              (try simp only [lexC_neg] at h5)
              (try simp only [Bool.not_eq_true', Bool.not_eq_false', decide_eq_true_eq, decide_eq_false_iff_not, beq_iff_eq, bne_iff_ne, beq_eq_false_iff_ne, bne_eq_false_iff_eq, ne_eq, Decidable.not_not, Bool.and_eq_true, Bool.and_eq_false_imp, Bool.or_eq_true, Bool.or_eq_false_iff, Bool.not_eq_true, Int.not_lt, Int.not_le, ge_iff_le, gt_iff_lt] at h5)
              refine cFalse (by kernel_rfl) ?_
              refine cSkip ?_
              refine kBlk ?_
              refine kSeq ?_
              refine cReg ?_
              refine rOp (v := vN (i + 1)) (H' := [some ⟨a3s L, 74, false, false⟩, rB [vI x, vI y, vI z, vS 0 L.length] 40, rB [vI ((L.getD i default).x), vI ((L.getD i default).y), vI ((L.getD i default).z)] 74]) (by kernel_rfl) (eAdd (k := .i64) (a := ((i : Nat) : Int)) (b := 1) (c := ((i + 1 : Nat) : Int)) (by kernel_rfl) (by kernel_rfl) (wr64 (by omega) (by omega) (by omega))) ?_
              refine segEnd [1, 2, 3, 4, 10, 11, 12, 13, 36] (T1 := (mkT 38 [(1, vP 1 0), (2, .bool false), (3, vN i), (4, vP 2 0), (10, vS 0 L.length), (11, vN L.length), (12, vN (i + 1)), (13, .bool true), (36, .bool false)])) (H1 := [some ⟨a3s L, 74, false, false⟩, rB [vI x, vI y, vI z, vS 0 L.length] 40, rB [vI ((L.getD i default).x), vI ((L.getD i default).y), vI ((L.getD i default).z)] 74]) (by kernel_rfl) ?_
              exact kLoop (L.length - (i + 1)) (mkT 38 [(1, vP 1 0), (2, .bool false), (10, vS 0 L.length), (11, vN L.length), (12, vN (i + 1))]) [some ⟨a3s L, 74, false, false⟩, rB [vI x, vI y, vI z, vS 0 L.length] 40] (by omega) (wkDrop [1, 2, 10, 11, 12] _ rfl rfl ((closedL ⟨clF (flatA3 _ _ _ _), ⟨clX rfl, trivial⟩⟩)) (by kernel_rfl) rfl) ⟨(i + 1), (by omega), (by first | exact okTo_step ho (by assumption) (Or.inr (by assumption)) | exact okTo_step ho (by assumption) (Or.inl (by omega))), rfl, rfl, rfl⟩
            ·
              (try simp only [lexC_neg] at h5)
              (try simp only [Bool.not_eq_true', Bool.not_eq_false', decide_eq_true_eq, decide_eq_false_iff_not, beq_iff_eq, bne_iff_ne, beq_eq_false_iff_ne, bne_eq_false_iff_eq, ne_eq, Decidable.not_not, Bool.and_eq_true, Bool.and_eq_false_imp, Bool.or_eq_true, Bool.or_eq_false_iff, Bool.not_eq_true, Int.not_lt, Int.not_le, ge_iff_le, gt_iff_lt] at h5)
              refine cTrue (by kernel_rfl) ?_
              refine cSeq ?_
              refine cReg ?_
              refine segEnd [1, 2, 3, 4, 10, 11, 12, 13, 36] (T1 := (mkT 38 [(1, vP 1 0), (2, .bool false), (3, vN i), (4, vP 2 0), (10, vS 0 L.length), (11, vN L.length), (12, vN i), (13, .bool true), (36, .bool true)])) (H1 := [some ⟨a3s L, 74, false, false⟩, rB [vI x, vI y, vI z, vS 0 L.length] 40, rB [vI ((L.getD i default).x), vI ((L.getD i default).y), vI ((L.getD i default).z)] 74]) (by kernel_rfl) ?_
              refine kSeq ?_
              refine cRet ?_
              refine kBlkR ?_
              refine kSeqR ?_
              refine kLoopR ?_
              refine kBlkR ?_
              refine kSeqR ?_
              exact endQ (Or.inr rfl) (l := [.bool false]) [rB [vI x, vI y, vI z, vS 0 L.length] 40, rB [vI ((L.getD i default).x), vI ((L.getD i default).y), vI ((L.getD i default).z)] 74] (by kernel_rfl) (congrArg Value.bool (by first | exact notHeap0 (by assumption) | exact heapYes (by assumption) ho (by omega) | exact notHeap1 (i := i) (by omega) (by assumption) | exact notHeap2 (i := i) (by omega) (by omega) (by assumption))) rfl rfl hcl rfl

set_option maxRecDepth 100000 in
set_option maxHeartbeats 4000000 in
theorem toA3_ok (a b c : Int) : Sound Try.prog 67 [.agg #[vI a, vI b, vI c]] [] (.agg #[vI a, vI b, vI c]) [] := by
  refine sound_intro (C := cx) Try.func67 rfl (by kernel_rfl) fun hcl => ?_
  refine cSeq ?_
  refine cReg ?_
  refine segEnd [0, 1, 2] (T1 := (mkT 15 [(0, .agg #[vI a, vI b, vI c]), (1, vP 0 0), (2, vP 1 0)])) (H1 := [rB [vI a, vI b, vI c] 74, rB [vI 0, vI 0, vI 0] 74]) (by kernel_rfl) ?_
  refine kSeq ?_
  refine cSeq ?_
  refine cReg ?_
  refine segEnd [0, 1, 2, 3] (T1 := (mkT 15 [(0, .agg #[vI a, vI b, vI c]), (1, vP 0 0), (2, vP 1 0), (3, vP 2 0)])) (H1 := [rB [vI a, vI b, vI c] 74, rB [vI 0, vI 0, vI 0] 74, rB [vI 0, vI 0, vI 0] 74]) (by kernel_rfl) ?_
  refine kSeq ?_
  refine cSeq ?_
  refine cSeq ?_
  refine cReg ?_
  refine segEnd [0, 1, 2, 3, 4] (T1 := (mkT 15 [(0, .agg #[vI a, vI b, vI c]), (1, vP 0 0), (2, vP 1 0), (3, vP 2 0), (4, vI 0)])) (H1 := [rB [vI a, vI b, vI c] 74, rB [vI 0, vI 0, vI 0] 74, rB [vI 0, vI 0, vI 0] 74]) (by kernel_rfl) ?_
  refine kSeq ?_
  refine cBlk ?_
  -- loop
  refine cLoop (fun mm T H => ∃ i : Nat, (i ≤ 3) ∧ mm = 3 - i ∧ T = (mkT 15 [(1, vP 0 0), (2, vP 1 0), (3, vP 2 0), (4, vN i)]) ∧ H = [rB [vI a, vI b, vI c] 74, rB [vI 0, vI 0, vI 0] 74, rB [vI (if 0 < i then a else 0), vI (if 1 < i then b else 0), vI (if 2 < i then c else 0)] 74]) (3 - 0) (mkT 15 [(1, vP 0 0), (2, vP 1 0), (3, vP 2 0), (4, vI 0)]) [rB [vI a, vI b, vI c] 74, rB [vI 0, vI 0, vI 0] 74, rB [vI 0, vI 0, vI 0] 74] (wkSame [1, 2, 3, 4] (by kernel_rfl)) ?_ ?_
  · exact ⟨0, (Nat.zero_le _), rfl, rfl, rfl⟩
  · rintro _ _ _ ⟨i, hi, rfl, rfl, rfl⟩
    have hcase : i = 0 ∨ i = 1 ∨ i = 2 ∨ i = 3 := by omega
    rcases hcase with rfl | rfl | rfl | rfl
    ·
      refine cSeq ?_
      refine cSeq ?_
      refine cReg ?_
      refine segEnd [1, 2, 3, 4, 6] (T1 := (mkT 15 [(1, vP 0 0), (2, vP 1 0), (3, vP 2 0), (4, vI 0), (6, .bool true)])) (H1 := [rB [vI a, vI b, vI c] 74, rB [vI 0, vI 0, vI 0] 74, rB [vI 0, vI 0, vI 0] 74]) (by kernel_rfl) ?_
      refine kSeq ?_
      refine cTrue (by kernel_rfl) ?_
      refine cSkip ?_
      refine kSeq ?_
      refine cSeq ?_
      refine cBlk ?_
      refine cReg ?_
      refine segEnd [1, 2, 3, 4, 6] (T1 := (mkT 15 [(1, vP 0 0), (2, vP 1 0), (3, vP 2 0), (4, vI 0), (6, .bool true)])) (H1 := [rB [vI a, vI b, vI c] 74, rB [vI 0, vI 0, vI 0] 74, rB [vI a, vI 0, vI 0] 74]) (by kernel_rfl) ?_
      refine kBlk ?_
      refine kSeq ?_
      refine cReg ?_
      refine segEnd [1, 2, 3, 4, 6] (T1 := (mkT 15 [(1, vP 0 0), (2, vP 1 0), (3, vP 2 0), (4, vI 1), (6, .bool true)])) (H1 := [rB [vI a, vI b, vI c] 74, rB [vI 0, vI 0, vI 0] 74, rB [vI a, vI 0, vI 0] 74]) (by kernel_rfl) ?_
      exact kLoop (3 - 1) (mkT 15 [(1, vP 0 0), (2, vP 1 0), (3, vP 2 0), (4, vI 1)]) [rB [vI a, vI b, vI c] 74, rB [vI 0, vI 0, vI 0] 74, rB [vI a, vI 0, vI 0] 74] (by omega) (wkSame [1, 2, 3, 4] (by kernel_rfl)) ⟨1, (by omega), rfl, rfl, rfl⟩
    ·
      refine cSeq ?_
      refine cSeq ?_
      refine cReg ?_
      refine segEnd [1, 2, 3, 4, 6] (T1 := (mkT 15 [(1, vP 0 0), (2, vP 1 0), (3, vP 2 0), (4, vI 1), (6, .bool true)])) (H1 := [rB [vI a, vI b, vI c] 74, rB [vI 0, vI 0, vI 0] 74, rB [vI a, vI 0, vI 0] 74]) (by kernel_rfl) ?_
      refine kSeq ?_
      refine cTrue (by kernel_rfl) ?_
      refine cSkip ?_
      refine kSeq ?_
      refine cSeq ?_
      refine cBlk ?_
      refine cReg ?_
      refine segEnd [1, 2, 3, 4, 6] (T1 := (mkT 15 [(1, vP 0 0), (2, vP 1 0), (3, vP 2 0), (4, vI 1), (6, .bool true)])) (H1 := [rB [vI a, vI b, vI c] 74, rB [vI 0, vI 0, vI 0] 74, rB [vI a, vI b, vI 0] 74]) (by kernel_rfl) ?_
      refine kBlk ?_
      refine kSeq ?_
      refine cReg ?_
      refine segEnd [1, 2, 3, 4, 6] (T1 := (mkT 15 [(1, vP 0 0), (2, vP 1 0), (3, vP 2 0), (4, vI 2), (6, .bool true)])) (H1 := [rB [vI a, vI b, vI c] 74, rB [vI 0, vI 0, vI 0] 74, rB [vI a, vI b, vI 0] 74]) (by kernel_rfl) ?_
      exact kLoop (3 - 2) (mkT 15 [(1, vP 0 0), (2, vP 1 0), (3, vP 2 0), (4, vI 2)]) [rB [vI a, vI b, vI c] 74, rB [vI 0, vI 0, vI 0] 74, rB [vI a, vI b, vI 0] 74] (by omega) (wkSame [1, 2, 3, 4] (by kernel_rfl)) ⟨2, (by omega), rfl, rfl, rfl⟩
    ·
      refine cSeq ?_
      refine cSeq ?_
      refine cReg ?_
      refine segEnd [1, 2, 3, 4, 6] (T1 := (mkT 15 [(1, vP 0 0), (2, vP 1 0), (3, vP 2 0), (4, vI 2), (6, .bool true)])) (H1 := [rB [vI a, vI b, vI c] 74, rB [vI 0, vI 0, vI 0] 74, rB [vI a, vI b, vI 0] 74]) (by kernel_rfl) ?_
      refine kSeq ?_
      refine cTrue (by kernel_rfl) ?_
      refine cSkip ?_
      refine kSeq ?_
      refine cSeq ?_
      refine cBlk ?_
      refine cReg ?_
      refine segEnd [1, 2, 3, 4, 6] (T1 := (mkT 15 [(1, vP 0 0), (2, vP 1 0), (3, vP 2 0), (4, vI 2), (6, .bool true)])) (H1 := [rB [vI a, vI b, vI c] 74, rB [vI 0, vI 0, vI 0] 74, rB [vI a, vI b, vI c] 74]) (by kernel_rfl) ?_
      refine kBlk ?_
      refine kSeq ?_
      refine cReg ?_
      refine segEnd [1, 2, 3, 4, 6] (T1 := (mkT 15 [(1, vP 0 0), (2, vP 1 0), (3, vP 2 0), (4, vI 3), (6, .bool true)])) (H1 := [rB [vI a, vI b, vI c] 74, rB [vI 0, vI 0, vI 0] 74, rB [vI a, vI b, vI c] 74]) (by kernel_rfl) ?_
      exact kLoop (3 - 3) (mkT 15 [(1, vP 0 0), (2, vP 1 0), (3, vP 2 0), (4, vI 3)]) [rB [vI a, vI b, vI c] 74, rB [vI 0, vI 0, vI 0] 74, rB [vI a, vI b, vI c] 74] (by omega) (wkSame [1, 2, 3, 4] (by kernel_rfl)) ⟨3, (by omega), rfl, rfl, rfl⟩
    ·
      refine cSeq ?_
      refine cSeq ?_
      refine cReg ?_
      refine segEnd [1, 2, 3, 4, 6] (T1 := (mkT 15 [(1, vP 0 0), (2, vP 1 0), (3, vP 2 0), (4, vI 3), (6, .bool false)])) (H1 := [rB [vI a, vI b, vI c] 74, rB [vI 0, vI 0, vI 0] 74, rB [vI a, vI b, vI c] 74]) (by kernel_rfl) ?_
      refine kSeq ?_
      refine cFalse (by kernel_rfl) ?_
      refine cExit ?_
      refine kSeqE ?_
      refine kLoopE ?_
      refine kBlkHit ?_
      refine kSeq ?_
      refine cSeq ?_
      refine cReg ?_
      refine segEnd [1, 2, 3, 4, 6] (T1 := (mkT 15 [(1, vP 0 0), (2, vP 1 0), (3, vP 2 0), (4, vI 3), (6, .bool false)])) (H1 := [rB [vI a, vI b, vI c] 74, rB [vI a, vI b, vI c] 74, rB [vI a, vI b, vI c] 74]) (by kernel_rfl) ?_
      refine kSeq ?_
      refine cRet ?_
      exact endQ (Or.inr rfl) (l := [.agg #[vI a, vI b, vI c]]) [rB [vI a, vI b, vI c] 74, rB [vI a, vI b, vI c] 74, rB [vI a, vI b, vI c] 74] (by kernel_rfl) (rfl) rfl rfl hcl rfl

set_option maxRecDepth 100000 in
set_option maxHeartbeats 4000000 in
theorem toA3S_ok (L : List A3) (hL : L.length ≤ 1048576) : Sound Try.prog 22 [vS 0 L.length] [some ⟨a3s L, 74, false, false⟩] (vS 1 L.length) [some ⟨a3s L, 74, false, false⟩, some ⟨a3s L, 74, false, true⟩] := by
  refine sound_intro (C := cx) Try.func22 rfl (by kernel_rfl) fun hcl => ?_
  refine cSeq ?_
  refine cReg ?_
  refine segEnd [0, 2] (T1 := (mkT 23 [(0, vS 0 L.length), (2, .slice none 0 0)])) (H1 := [some ⟨a3s L, 74, false, false⟩]) (by kernel_rfl) ?_
  refine kSeq ?_
  refine cSeq ?_
  refine cReg ?_
  refine seg 2 (T1 := (mkT 23 [(0, vS 0 L.length), (2, .slice none 0 0), (5, vS 0 L.length), (6, vN L.length)])) (H1 := [some ⟨a3s L, 74, false, false⟩]) (by kernel_rfl) ?_
  refine rOp (v := vS 1 L.length) (H' := [some ⟨a3s L, 74, false, false⟩, some ⟨a3s (List.replicate L.length zero3), 74, false, true⟩]) (by kernel_rfl) (eMkA3 (n := L.length) (k := .i64) (k2 := .i64) (by kernel_rfl) (by kernel_rfl) ti31 ti74 rfl rfl (by decide) (by omega)) ?_
  refine segEnd [0, 2, 3] (T1 := (mkT 23 [(0, vS 0 L.length), (2, .slice none 0 0), (3, vS 1 L.length)])) (H1 := [some ⟨a3s L, 74, false, false⟩, some ⟨a3s (List.replicate L.length zero3), 74, false, true⟩]) (by kernel_rfl) ?_
  refine kSeq ?_
  refine cSeq ?_
  refine cSeq ?_
  refine cReg ?_
  refine segEnd [0, 2, 3, 4] (T1 := (mkT 23 [(0, vS 0 L.length), (2, .slice none 0 0), (3, vS 1 L.length), (4, vI 0)])) (H1 := [some ⟨a3s L, 74, false, false⟩, some ⟨a3s (List.replicate L.length zero3), 74, false, true⟩]) (by kernel_rfl) ?_
  refine kSeq ?_
  refine cBlk ?_
  -- loop
  refine cLoop (fun mm T H => ∃ j : Nat, ∃ L2 : List A3, (j ≤ L.length) ∧ (L2 = copied L j) ∧ mm = L.length - j ∧ T = (mkT 23 [(0, vS 0 L.length), (2, .slice none 0 0), (3, vS 1 L.length), (4, vN j)]) ∧ H = [some ⟨a3s L, 74, false, false⟩, some ⟨a3s L2, 74, false, true⟩]) (L.length - 0) (mkT 23 [(0, vS 0 L.length), (2, .slice none 0 0), (3, vS 1 L.length), (4, vI 0)]) [some ⟨a3s L, 74, false, false⟩, some ⟨a3s (List.replicate L.length zero3), 74, false, true⟩] (wkSame [0, 2, 3, 4] (by kernel_rfl)) ?_ ?_
  · exact ⟨0, (List.replicate L.length zero3), (Nat.zero_le _), (by simp [copied]), rfl, rfl, rfl⟩
  · rintro _ _ _ ⟨j, L2, hj, hL2, rfl, rfl, rfl⟩
    have hlen : L2.length = L.length := (by rw [hL2]; exact copied_length L j hj)
    refine cSeq ?_
    refine cSeq ?_
    refine cReg ?_
    refine segEnd [0, 2, 3, 4, 11] (T1 := (mkT 23 [(0, vS 0 L.length), (2, .slice none 0 0), (3, vS 1 L.length), (4, vN j), (11, .bool (decide (((j : Nat) : Int) < ((L.length : Nat) : Int))))])) (H1 := [some ⟨a3s L, 74, false, false⟩, some ⟨a3s L2, 74, false, true⟩]) (by kernel_rfl) ?_
    refine kSeq ?_
    cases h1 : (decide (((j : Nat) : Int) < ((L.length : Nat) : Int)) : Bool)
    ·
      (try simp only [Bool.not_eq_true', Bool.not_eq_false', decide_eq_true_eq, decide_eq_false_iff_not, beq_iff_eq, bne_iff_ne, beq_eq_false_iff_ne, bne_eq_false_iff_eq, ne_eq, Decidable.not_not, Bool.and_eq_true, Bool.and_eq_false_imp, Bool.or_eq_true, Bool.or_eq_false_iff, Bool.not_eq_true, Int.not_lt, Int.not_le, ge_iff_le, gt_iff_lt] at h1)
      refine cFalse (by kernel_rfl) ?_
      refine cExit ?_
      refine kSeqE ?_
      refine kLoopE ?_
      refine kBlkHit ?_
      refine kSeq ?_
      refine cSeq ?_
      refine cReg ?_
      refine segEnd [0, 2, 3, 4, 11] (T1 := (mkT 23 [(0, vS 0 L.length), (2, vS 1 L.length), (3, vS 1 L.length), (4, vN j), (11, .bool false)])) (H1 := [some ⟨a3s L, 74, false, false⟩, some ⟨a3s L2, 74, false, true⟩]) (by kernel_rfl) ?_
      refine kSeq ?_
      refine cRet ?_
      have hend : j = L.length := (by omega)
      have hfin : L2 = L := (by rw [hL2, hend]; exact copied_all L)
      subst hfin
      exact endF (Or.inr rfl) (l := [vS 1 L2.length]) [0, 1] (by kernel_rfl) (by first | rfl | simp [packR, mpV, mpA, mpS, mpP, renId]) ⟨rrF (flatA3 _ _ _ _) rfl, ⟨rrF (flatA3 _ _ _ _) rfl, trivial⟩⟩ rfl rfl
    ·
      (try simp only [Bool.not_eq_true', Bool.not_eq_false', decide_eq_true_eq, decide_eq_false_iff_not, beq_iff_eq, bne_iff_ne, beq_eq_false_iff_ne, bne_eq_false_iff_eq, ne_eq, Decidable.not_not, Bool.and_eq_true, Bool.and_eq_false_imp, Bool.or_eq_true, Bool.or_eq_false_iff, Bool.not_eq_true, Int.not_lt, Int.not_le, ge_iff_le, gt_iff_lt] at h1)
      refine cTrue (by kernel_rfl) ?_
      refine cSkip ?_
      refine kSeq ?_
      refine cSeq ?_
      refine cBlk ?_
      refine cReg ?_
      refine seg 4 (T1 := (mkT 23 [(0, vS 0 L.length), (2, .slice none 0 0), (3, vS 1 L.length), (4, vN j), (11, .bool true), (14, vS 1 L.length), (15, vN j), (16, vS 0 L.length), (17, vN j)])) (H1 := [some ⟨a3s L, 74, false, false⟩, some ⟨a3s L2, 74, false, true⟩]) (by kernel_rfl) ?_
      refine rOp (v := vP 0 (j * 3)) (H' := [some ⟨a3s L, 74, false, false⟩, some ⟨a3s L2, 74, false, true⟩]) (by kernel_rfl) (eIdxS (ad := ⟨0, 0, none⟩) (n := L.length) (m := 0) (k := .i64) (c := ((j : Nat) : Int)) (j := j) (o := j * 3) (by kernel_rfl) (by kernel_rfl) ti31 ti74 (rfl) (by omega) (by exact Nat.zero_add _)) ?_
      refine rOp (v := .agg #[vI ((L.getD j default).x), vI ((L.getD j default).y), vI ((L.getD j default).z)]) (H' := [some ⟨a3s L, 74, false, false⟩, some ⟨a3s L2, 74, false, true⟩]) (by kernel_rfl) (eLdA3 (ad := ⟨0, j * 3, none⟩) (r := ⟨a3s L, 74, false, false⟩) (L := L) (j := j) (by kernel_rfl) (by kernel_rfl) rfl (by first | rfl | omega) (by omega) ti74) ?_
      refine rCall (v := .agg #[vI ((L.getD j default).x), vI ((L.getD j default).y), vI ((L.getD j default).z)]) (H' := [some ⟨a3s L, 74, false, false⟩, some ⟨a3s L2, 74, false, true⟩]) (args := [.agg #[vI ((L.getD j default).x), vI ((L.getD j default).y), vI ((L.getD j default).z)]]) (by kernel_rfl) rfl (by kernel_rfl) ((toA3_ok ((L.getD j default).x) ((L.getD j default).y) ((L.getD j default).z)).flat rfl rfl _) ?_
      refine rOp (v := vP 1 (j * 3)) (H' := [some ⟨a3s L, 74, false, false⟩, some ⟨a3s L2, 74, false, true⟩]) (by kernel_rfl) (eIdxS (ad := ⟨1, 0, none⟩) (n := L.length) (m := 0) (k := .i64) (c := ((j : Nat) : Int)) (j := j) (o := j * 3) (by kernel_rfl) (by kernel_rfl) ti31 ti74 (rfl) (by omega) (by exact Nat.zero_add _)) ?_
      refine rOp (v := .tuple #[]) (H' := [some ⟨a3s L, 74, false, false⟩, some ⟨a3s ((L2).set j (L.getD j default)), 74, false, true⟩]) (by kernel_rfl) (eStA3 (b := 1) (o := (j * 3)) (L := L2) (c := (L.getD j default)) (e := 74) (bx := false) (j := j) (by kernel_rfl) (by kernel_rfl) (by kernel_rfl) (by first | rfl | omega) (by omega) ti74 rfl (by rfl)) ?_
      refine segEnd [0, 2, 3, 4, 11] (T1 := (mkT 23 [(0, vS 0 L.length), (2, .slice none 0 0), (3, vS 1 L.length), (4, vN j), (11, .bool true)])) (H1 := [some ⟨a3s L, 74, false, false⟩, some ⟨a3s ((L2).set j (L.getD j default)), 74, false, true⟩]) (by kernel_rfl) ?_
      refine kBlk ?_
      refine kSeq ?_
      refine cReg ?_
      refine seg 1 (T1 := (mkT 23 [(0, vS 0 L.length), (2, .slice none 0 0), (3, vS 1 L.length), (4, vN j), (11, .bool true), (12, vN j)])) (H1 := [some ⟨a3s L, 74, false, false⟩, some ⟨a3s ((L2).set j (L.getD j default)), 74, false, true⟩]) (by kernel_rfl) ?_
      refine rOp (v := vN (j + 1)) (H' := [some ⟨a3s L, 74, false, false⟩, some ⟨a3s ((L2).set j (L.getD j default)), 74, false, true⟩]) (by kernel_rfl) (eAdd (k := .i64) (a := ((j : Nat) : Int)) (b := 1) (c := ((j + 1 : Nat) : Int)) (by kernel_rfl) (by kernel_rfl) (wr64 (by omega) (by omega) (by omega))) ?_
      refine segEnd [0, 2, 3, 4, 11] (T1 := (mkT 23 [(0, vS 0 L.length), (2, .slice none 0 0), (3, vS 1 L.length), (4, vN (j + 1)), (11, .bool true)])) (H1 := [some ⟨a3s L, 74, false, false⟩, some ⟨a3s ((L2).set j (L.getD j default)), 74, false, true⟩]) (by kernel_rfl) ?_
      exact kLoop (L.length - (j + 1)) (mkT 23 [(0, vS 0 L.length), (2, .slice none 0 0), (3, vS 1 L.length), (4, vN (j + 1))]) [some ⟨a3s L, 74, false, false⟩, some ⟨a3s ((L2).set j (L.getD j default)), 74, false, true⟩] (by omega) (wkSame [0, 2, 3, 4] (by kernel_rfl)) ⟨(j + 1), ((L2).set j (L.getD j default)), (by omega), (by rw [hL2]; exact copied_set L j (by omega)), rfl, rfl, rfl⟩

set_option maxRecDepth 100000 in
set_option maxHeartbeats 4000000 in
theorem toA3S_ok_nil  : Sound Try.prog 22 [.slice none 0 0] [] (vS 0 0) [some ⟨[], 74, false, true⟩] := by
  refine sound_intro (C := cx) Try.func22 rfl (by kernel_rfl) fun hcl => ?_
  refine cSeq ?_
  refine cReg ?_
  refine segEnd [0, 2] (T1 := (mkT 23 [(0, .slice none 0 0), (2, .slice none 0 0)])) (H1 := []) (by kernel_rfl) ?_
  refine kSeq ?_
  refine cSeq ?_
  refine cReg ?_
  refine seg 2 (T1 := (mkT 23 [(0, .slice none 0 0), (2, .slice none 0 0), (5, .slice none 0 0), (6, vI 0)])) (H1 := []) (by kernel_rfl) ?_
  refine rOp (v := vS 0 0) (H' := [some ⟨a3s (List.replicate 0 zero3), 74, false, true⟩]) (by kernel_rfl) (eMkA3 (n := 0) (k := .i64) (k2 := .i64) (by kernel_rfl) (by kernel_rfl) ti31 ti74 rfl rfl (by decide) (by omega)) ?_
  refine segEnd [0, 2, 3] (T1 := (mkT 23 [(0, .slice none 0 0), (2, .slice none 0 0), (3, vS 0 0)])) (H1 := [some ⟨a3s (List.replicate 0 zero3), 74, false, true⟩]) (by kernel_rfl) ?_
  refine kSeq ?_
  refine cSeq ?_
  refine cSeq ?_
  refine cReg ?_
  refine segEnd [0, 2, 3, 4] (T1 := (mkT 23 [(0, .slice none 0 0), (2, .slice none 0 0), (3, vS 0 0), (4, vI 0)])) (H1 := [some ⟨a3s (List.replicate 0 zero3), 74, false, true⟩]) (by kernel_rfl) ?_
  refine kSeq ?_
  refine cBlk ?_
  -- loop
  refine cLoop (fun mm T H => mm = 0 ∧ T = (mkT 23 [(0, .slice none 0 0), (2, .slice none 0 0), (3, vS 0 0), (4, vI 0)]) ∧ H = [some ⟨a3s (List.replicate 0 zero3), 74, false, true⟩]) (0) (mkT 23 [(0, .slice none 0 0), (2, .slice none 0 0), (3, vS 0 0), (4, vI 0)]) [some ⟨a3s (List.replicate 0 zero3), 74, false, true⟩] (wkSame [0, 2, 3, 4] (by kernel_rfl)) ?_ ?_
  · exact ⟨rfl, rfl, rfl⟩
  · rintro _ _ _ ⟨rfl, rfl, rfl⟩
    refine cSeq ?_
    refine cSeq ?_
    refine cReg ?_
    refine segEnd [0, 2, 3, 4, 11] (T1 := (mkT 23 [(0, .slice none 0 0), (2, .slice none 0 0), (3, vS 0 0), (4, vI 0), (11, .bool false)])) (H1 := [some ⟨a3s (List.replicate 0 zero3), 74, false, true⟩]) (by kernel_rfl) ?_
    refine kSeq ?_
    refine cFalse (by kernel_rfl) ?_
    refine cExit ?_
    refine kSeqE ?_
    refine kLoopE ?_
    refine kBlkHit ?_
    refine kSeq ?_
    refine cSeq ?_
    refine cReg ?_
    refine segEnd [0, 2, 3, 4, 11] (T1 := (mkT 23 [(0, .slice none 0 0), (2, vS 0 0), (3, vS 0 0), (4, vI 0), (11, .bool false)])) (H1 := [some ⟨a3s (List.replicate 0 zero3), 74, false, true⟩]) (by kernel_rfl) ?_
    refine kSeq ?_
    refine cRet ?_
    exact endF (Or.inr rfl) (l := [vS 0 0]) [0] (by kernel_rfl) (by first | rfl | simp [packR, mpV, mpA, mpS, mpP, renId]) ⟨rrX rfl rfl, trivial⟩ rfl rfl

set_option maxRecDepth 100000 in
set_option maxHeartbeats 4000000 in
theorem toHeap_ok (x y z : Int) (L : List A3) (hL : L.length ≤ 1048576) : Sound Try.prog 39 [.agg #[vI x, vI y, vI z, vS 0 L.length]] [some ⟨a3s L, 74, false, false⟩] (.agg #[vI x, vI y, vI z, vS 1 L.length]) [some ⟨a3s L, 74, false, false⟩, some ⟨a3s L, 74, false, true⟩] := by
  refine sound_intro (C := cx) Try.func39 rfl (by kernel_rfl) fun hcl => ?_
  refine cSeq ?_
  refine cReg ?_
  refine segEnd [0, 1, 2] (T1 := (mkT 18 [(0, .agg #[vI x, vI y, vI z, vS 0 L.length]), (1, vP 1 0), (2, vP 2 0)])) (H1 := [some ⟨a3s L, 74, false, false⟩, rB [vI x, vI y, vI z, vS 0 L.length] 49, rB [vI 0, vI 0, vI 0, .slice none 0 0] 40]) (by kernel_rfl) ?_
  refine kSeq ?_
  refine cSeq ?_
  refine cReg ?_
  refine segEnd [0, 1, 2, 3] (T1 := (mkT 18 [(0, .agg #[vI x, vI y, vI z, vS 0 L.length]), (1, vP 1 0), (2, vP 2 0), (3, vP 3 0)])) (H1 := [some ⟨a3s L, 74, false, false⟩, rB [vI x, vI y, vI z, vS 0 L.length] 49, rB [vI 0, vI 0, vI 0, .slice none 0 0] 40, rB [vI 0, vI 0, vI 0, .slice none 0 0] 40]) (by kernel_rfl) ?_
  refine kSeq ?_
  refine cSeq ?_
  refine cReg ?_
  refine segEnd [0, 1, 2, 3] (T1 := (mkT 18 [(0, .agg #[vI x, vI y, vI z, vS 0 L.length]), (1, vP 1 0), (2, vP 2 0), (3, vP 3 0)])) (H1 := [some ⟨a3s L, 74, false, false⟩, rB [vI x, vI y, vI z, vS 0 L.length] 49, rB [vI 0, vI 0, vI 0, .slice none 0 0] 40, rB [vI x, vI 0, vI 0, .slice none 0 0] 40]) (by kernel_rfl) ?_
  refine kSeq ?_
  refine cSeq ?_
  refine cReg ?_
  refine segEnd [0, 1, 2, 3] (T1 := (mkT 18 [(0, .agg #[vI x, vI y, vI z, vS 0 L.length]), (1, vP 1 0), (2, vP 2 0), (3, vP 3 0)])) (H1 := [some ⟨a3s L, 74, false, false⟩, rB [vI x, vI y, vI z, vS 0 L.length] 49, rB [vI 0, vI 0, vI 0, .slice none 0 0] 40, rB [vI x, vI y, vI 0, .slice none 0 0] 40]) (by kernel_rfl) ?_
  refine kSeq ?_
  refine cSeq ?_
  refine cReg ?_
  refine segEnd [0, 1, 2, 3] (T1 := (mkT 18 [(0, .agg #[vI x, vI y, vI z, vS 0 L.length]), (1, vP 1 0), (2, vP 2 0), (3, vP 3 0)])) (H1 := [some ⟨a3s L, 74, false, false⟩, rB [vI x, vI y, vI z, vS 0 L.length] 49, rB [vI 0, vI 0, vI 0, .slice none 0 0] 40, rB [vI x, vI y, vI z, .slice none 0 0] 40]) (by kernel_rfl) ?_
  refine kSeq ?_
  refine cSeq ?_
  refine cReg ?_
  refine seg 2 (T1 := (mkT 18 [(0, .agg #[vI x, vI y, vI z, vS 0 L.length]), (1, vP 1 0), (2, vP 2 0), (3, vP 3 0), (13, vP 1 3), (14, vS 0 L.length)])) (H1 := [some ⟨a3s L, 74, false, false⟩, rB [vI x, vI y, vI z, vS 0 L.length] 49, rB [vI 0, vI 0, vI 0, .slice none 0 0] 40, rB [vI x, vI y, vI z, .slice none 0 0] 40]) (by kernel_rfl) ?_
  refine rCall (v := vS 4 L.length) (H' := [some ⟨a3s L, 74, false, false⟩, rB [vI x, vI y, vI z, vS 0 L.length] 49, rB [vI 0, vI 0, vI 0, .slice none 0 0] 40, rB [vI x, vI y, vI z, .slice none 0 0] 40, some ⟨a3s L, 74, false, true⟩]) (args := [vS 0 L.length]) (by kernel_rfl) rfl (by kernel_rfl) (Sound.reads1F (r := ⟨a3s L, 74, false, false⟩) (r2 := ⟨a3s L, 74, false, true⟩) 0 false (toA3S_ok L (by first | omega | (simp only [allOf_length, List.length_nil, mk3_length]; omega))) (flatA3 _ _ _ _) (flatA3 _ _ _ _) rfl rfl rfl rfl (by first | rfl | simp [mpV, mpA, mpS, mpP, renId, shift]) (by first | rfl | simp [mpV, mpA, mpS, mpP, renId, shift])) ?_
  refine segEnd [0, 1, 2, 3] (T1 := (mkT 18 [(0, .agg #[vI x, vI y, vI z, vS 0 L.length]), (1, vP 1 0), (2, vP 2 0), (3, vP 3 0)])) (H1 := [some ⟨a3s L, 74, false, false⟩, rB [vI x, vI y, vI z, vS 0 L.length] 49, rB [vI 0, vI 0, vI 0, .slice none 0 0] 40, rB [vI x, vI y, vI z, vS 4 L.length] 40, some ⟨a3s L, 74, false, true⟩]) (by kernel_rfl) ?_
  refine kSeq ?_
  refine cSeq ?_
  refine cReg ?_
  refine segEnd [0, 1, 2, 3] (T1 := (mkT 18 [(0, .agg #[vI x, vI y, vI z, vS 0 L.length]), (1, vP 1 0), (2, vP 2 0), (3, vP 3 0)])) (H1 := [some ⟨a3s L, 74, false, false⟩, rB [vI x, vI y, vI z, vS 0 L.length] 49, rB [vI x, vI y, vI z, vS 4 L.length] 40, rB [vI x, vI y, vI z, vS 4 L.length] 40, some ⟨a3s L, 74, false, true⟩]) (by kernel_rfl) ?_
  refine kSeq ?_
  refine cRet ?_
  exact endF (Or.inr rfl) (l := [.agg #[vI x, vI y, vI z, vS 4 L.length]]) [0, 4] (by kernel_rfl) (by first | rfl | simp [packR, mpV, mpA, mpS, mpP, renId]) ⟨rrF (flatA3 _ _ _ _) rfl, ⟨rrF (flatA3 _ _ _ _) rfl, trivial⟩⟩ rfl rfl

set_option maxRecDepth 100000 in
set_option maxHeartbeats 4000000 in
theorem toHeap_ok_nil (x y z : Int) : Sound Try.prog 39 [.agg #[vI x, vI y, vI z, .slice none 0 0]] [] (.agg #[vI x, vI y, vI z, vS 0 0]) [some ⟨[], 74, false, true⟩] := by
  refine sound_intro (C := cx) Try.func39 rfl (by kernel_rfl) fun hcl => ?_
  refine cSeq ?_
  refine cReg ?_
  refine segEnd [0, 1, 2] (T1 := (mkT 18 [(0, .agg #[vI x, vI y, vI z, .slice none 0 0]), (1, vP 0 0), (2, vP 1 0)])) (H1 := [rB [vI x, vI y, vI z, .slice none 0 0] 49, rB [vI 0, vI 0, vI 0, .slice none 0 0] 40]) (by kernel_rfl) ?_
  refine kSeq ?_
  refine cSeq ?_
  refine cReg ?_
  refine segEnd [0, 1, 2, 3] (T1 := (mkT 18 [(0, .agg #[vI x, vI y, vI z, .slice none 0 0]), (1, vP 0 0), (2, vP 1 0), (3, vP 2 0)])) (H1 := [rB [vI x, vI y, vI z, .slice none 0 0] 49, rB [vI 0, vI 0, vI 0, .slice none 0 0] 40, rB [vI 0, vI 0, vI 0, .slice none 0 0] 40]) (by kernel_rfl) ?_
  refine kSeq ?_
  refine cSeq ?_
  refine cReg ?_
  refine segEnd [0, 1, 2, 3] (T1 := (mkT 18 [(0, .agg #[vI x, vI y, vI z, .slice none 0 0]), (1, vP 0 0), (2, vP 1 0), (3, vP 2 0)])) (H1 := [rB [vI x, vI y, vI z, .slice none 0 0] 49, rB [vI 0, vI 0, vI 0, .slice none 0 0] 40, rB [vI x, vI 0, vI 0, .slice none 0 0] 40]) (by kernel_rfl) ?_
  refine kSeq ?_
  refine cSeq ?_
  refine cReg ?_
  refine segEnd [0, 1, 2, 3] (T1 := (mkT 18 [(0, .agg #[vI x, vI y, vI z, .slice none 0 0]), (1, vP 0 0), (2, vP 1 0), (3, vP 2 0)])) (H1 := [rB [vI x, vI y, vI z, .slice none 0 0] 49, rB [vI 0, vI 0, vI 0, .slice none 0 0] 40, rB [vI x, vI y, vI 0, .slice none 0 0] 40]) (by kernel_rfl) ?_
  refine kSeq ?_
  refine cSeq ?_
  refine cReg ?_
  refine segEnd [0, 1, 2, 3] (T1 := (mkT 18 [(0, .agg #[vI x, vI y, vI z, .slice none 0 0]), (1, vP 0 0), (2, vP 1 0), (3, vP 2 0)])) (H1 := [rB [vI x, vI y, vI z, .slice none 0 0] 49, rB [vI 0, vI 0, vI 0, .slice none 0 0] 40, rB [vI x, vI y, vI z, .slice none 0 0] 40]) (by kernel_rfl) ?_
  refine kSeq ?_
  refine cSeq ?_
  refine cReg ?_
  refine seg 2 (T1 := (mkT 18 [(0, .agg #[vI x, vI y, vI z, .slice none 0 0]), (1, vP 0 0), (2, vP 1 0), (3, vP 2 0), (13, vP 0 3), (14, .slice none 0 0)])) (H1 := [rB [vI x, vI y, vI z, .slice none 0 0] 49, rB [vI 0, vI 0, vI 0, .slice none 0 0] 40, rB [vI x, vI y, vI z, .slice none 0 0] 40]) (by kernel_rfl) ?_
  refine rCall (v := vS 3 0) (H' := [rB [vI x, vI y, vI z, .slice none 0 0] 49, rB [vI 0, vI 0, vI 0, .slice none 0 0] 40, rB [vI x, vI y, vI z, .slice none 0 0] 40, some ⟨[], 74, false, true⟩]) (args := [.slice none 0 0]) (by kernel_rfl) rfl (by kernel_rfl) ((toA3S_ok_nil ).fresh rfl (FlatH.nil.cons (flatRow_of rfl)) (fun r h => by simp at h; subst h; exact Or.inl rfl) _ (by first | rfl | simp [mpV, mpA, mpS, mpP, renId, shift])) ?_
  refine segEnd [0, 1, 2, 3] (T1 := (mkT 18 [(0, .agg #[vI x, vI y, vI z, .slice none 0 0]), (1, vP 0 0), (2, vP 1 0), (3, vP 2 0)])) (H1 := [rB [vI x, vI y, vI z, .slice none 0 0] 49, rB [vI 0, vI 0, vI 0, .slice none 0 0] 40, rB [vI x, vI y, vI z, vS 3 0] 40, some ⟨[], 74, false, true⟩]) (by kernel_rfl) ?_
  refine kSeq ?_
  refine cSeq ?_
  refine cReg ?_
  refine segEnd [0, 1, 2, 3] (T1 := (mkT 18 [(0, .agg #[vI x, vI y, vI z, .slice none 0 0]), (1, vP 0 0), (2, vP 1 0), (3, vP 2 0)])) (H1 := [rB [vI x, vI y, vI z, .slice none 0 0] 49, rB [vI x, vI y, vI z, vS 3 0] 40, rB [vI x, vI y, vI z, vS 3 0] 40, some ⟨[], 74, false, true⟩]) (by kernel_rfl) ?_
  refine kSeq ?_
  refine cRet ?_
  exact endF (Or.inr rfl) (l := [.agg #[vI x, vI y, vI z, vS 3 0]]) [3] (by kernel_rfl) (by first | rfl | simp [packR, mpV, mpA, mpS, mpP, renId]) ⟨rrX rfl rfl, trivial⟩ rfl rfl
end Go.Proofs.Ytbheeobnghlckaa
