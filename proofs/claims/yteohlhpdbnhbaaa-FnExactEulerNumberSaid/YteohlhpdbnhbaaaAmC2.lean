/- Part of the proof, merged out of smaller texts. No condition. -/
import Derived.Test.YteohlhpdbnhbaaaAmC1
set_option linter.unusedVariables false
set_option linter.unusedSimpArgs false
namespace Go.Proofs.Yteohlhpdbnhbaaa.F
open Go.Am Go.RowKit
set_option maxRecDepth 100000 in
set_option maxHeartbeats 4000000 in
theorem box_ok (x y z : Int) (L : List A3) : Sound Try.prog 27 [.agg #[vI x, vI y, vI z, vS 0 L.length]] [some ⟨a3s L, 46, false, false⟩] (.agg #[vI x, vI y, vI z]) [some ⟨a3s L, 46, false, false⟩] := by
  refine sound_intro (C := cx) Try.func27 rfl (by kernel_rfl) fun hcl => ?_
  refine cSeq ?_
  refine cReg ?_
  refine segEnd [0, 1, 2] (T1 := (mkT 10 [(0, .agg #[vI x, vI y, vI z, vS 0 L.length]), (1, vP 1 0), (2, vP 2 0)])) (H1 := [some ⟨a3s L, 46, false, false⟩, rB [vI x, vI y, vI z, vS 0 L.length] 29, rB [vI 0, vI 0, vI 0] 49]) (by kernel_rfl) ?_
  refine kSeq ?_
  refine cSeq ?_
  refine cReg ?_
  refine segEnd [0, 1, 2] (T1 := (mkT 10 [(0, .agg #[vI x, vI y, vI z, vS 0 L.length]), (1, vP 1 0), (2, vP 2 0)])) (H1 := [some ⟨a3s L, 46, false, false⟩, rB [vI x, vI y, vI z, vS 0 L.length] 29, rB [vI x, vI y, vI z] 49]) (by kernel_rfl) ?_
  refine kSeq ?_
  refine cRet ?_
  exact endQ (Or.inr rfl) (l := [.agg #[vI x, vI y, vI z]]) [rB [vI x, vI y, vI z, vS 0 L.length] 29, rB [vI x, vI y, vI z] 49] (by kernel_rfl) (rfl) rfl rfl hcl rfl
set_option maxRecDepth 100000 in
set_option maxHeartbeats 4000000 in
theorem has_ok (x y z a b c : Int) (hb : (1 ≤ x ∧ x ≤ 4) ∧ (1 ≤ y ∧ y ≤ 4) ∧ (1 ≤ z ∧ z ≤ 4)) : Sound Try.prog 29 [.agg #[vI x, vI y, vI z], .agg #[vI a, vI b, vI c]] [] (.bool (has3 x y z a b c)) [] := by
  refine sound_intro (C := cx) Try.func29 rfl (by kernel_rfl) fun hcl => ?_
  refine cSeq ?_
  refine cReg ?_
  refine segEnd [0, 1, 2, 3, 4] (T1 := (mkT 27 [(0, .agg #[vI x, vI y, vI z]), (1, .agg #[vI a, vI b, vI c]), (2, vP 0 0), (3, vP 1 0), (4, .bool false)])) (H1 := [rB [vI x, vI y, vI z] 49, rB [vI a, vI b, vI c] 46]) (by kernel_rfl) ?_
  refine kSeq ?_
  refine cSeq ?_
  refine cReg ?_
  refine seg 4 (T1 := (mkT 27 [(0, .agg #[vI x, vI y, vI z]), (1, .agg #[vI a, vI b, vI c]), (2, vP 0 0), (3, vP 1 0), (4, .bool false), (5, vP 1 0), (6, vI a), (7, vP 0 0), (8, vI x)])) (H1 := [rB [vI x, vI y, vI z] 49, rB [vI a, vI b, vI c] 46]) (by kernel_rfl) ?_
  refine rOp (v := vI (x - 1)) (H' := [rB [vI x, vI y, vI z] 49, rB [vI a, vI b, vI c] 46]) (by kernel_rfl) (eSub (k := .i64) (a := x) (b := 1) (c := (x - 1)) (by kernel_rfl) (by kernel_rfl)  (wr64 (by omega) (by omega) rfl)) ?_
  refine rCall (v := .bool (inR a 0 (x - 1))) (H' := [rB [vI x, vI y, vI z] 49, rB [vI a, vI b, vI c] 46]) (args := [vI a, vI 0, vI (x - 1)]) (by kernel_rfl) rfl (by kernel_rfl) ((within_ok a 0 (x - 1)).flat rfl rfl _) ?_
  refine seg 1 (T1 := (mkT 27 [(0, .agg #[vI x, vI y, vI z]), (1, .agg #[vI a, vI b, vI c]), (2, vP 0 0), (3, vP 1 0), (4, .bool false), (5, vP 1 0), (6, vI a), (7, vP 0 0), (8, vI x), (9, vI (x - 1)), (10, .bool (inR a 0 (x - 1))), (11, .bool (inR a 0 (x - 1)))])) (H1 := [rB [vI x, vI y, vI z] 49, rB [vI a, vI b, vI c] 46]) (by kernel_rfl) ?_
  cases h1 : (inR a 0 (x - 1) : Bool)
  ·
    (try simp only [Bool.not_eq_true', Bool.not_eq_false', decide_eq_true_eq, decide_eq_false_iff_not, beq_iff_eq, bne_iff_ne, beq_eq_false_iff_ne, bne_eq_false_iff_eq, ne_eq, Decidable.not_not, Bool.and_eq_true, Bool.and_eq_false_imp, Bool.or_eq_true, Bool.or_eq_false_iff, Bool.not_eq_true, Int.not_lt, Int.not_le, ge_iff_le, gt_iff_lt] at h1)
    refine segEnd [0, 1, 2, 3, 4] (T1 := (mkT 27 [(0, .agg #[vI x, vI y, vI z]), (1, .agg #[vI a, vI b, vI c]), (2, vP 0 0), (3, vP 1 0), (4, .bool false)])) (H1 := [rB [vI x, vI y, vI z] 49, rB [vI a, vI b, vI c] 46]) (by kernel_rfl) ?_
    refine kSeq ?_
    refine cRet ?_
    exact endQ (Or.inr rfl) (l := [.bool false]) [rB [vI x, vI y, vI z] 49, rB [vI a, vI b, vI c] 46] (by kernel_rfl) (congrArg Value.bool (by first | (simp only [has3, *]; rfl) | (simp [has3, *]; done))) rfl rfl hcl rfl
  ·
    (try simp only [Bool.not_eq_true', Bool.not_eq_false', decide_eq_true_eq, decide_eq_false_iff_not, beq_iff_eq, bne_iff_ne, beq_eq_false_iff_ne, bne_eq_false_iff_eq, ne_eq, Decidable.not_not, Bool.and_eq_true, Bool.and_eq_false_imp, Bool.or_eq_true, Bool.or_eq_false_iff, Bool.not_eq_true, Int.not_lt, Int.not_le, ge_iff_le, gt_iff_lt] at h1)
    refine seg 4 (T1 := (mkT 27 [(0, .agg #[vI x, vI y, vI z]), (1, .agg #[vI a, vI b, vI c]), (2, vP 0 0), (3, vP 1 0), (4, .bool false), (5, vP 1 0), (6, vI a), (7, vP 0 0), (8, vI x), (9, vI (x - 1)), (10, .bool true), (11, .bool true), (12, vP 1 1), (13, vI b), (14, vP 0 1), (15, vI y)])) (H1 := [rB [vI x, vI y, vI z] 49, rB [vI a, vI b, vI c] 46]) (by kernel_rfl) ?_
    refine rOp (v := vI (y - 1)) (H' := [rB [vI x, vI y, vI z] 49, rB [vI a, vI b, vI c] 46]) (by kernel_rfl) (eSub (k := .i64) (a := y) (b := 1) (c := (y - 1)) (by kernel_rfl) (by kernel_rfl)  (wr64 (by omega) (by omega) rfl)) ?_
    refine rCall (v := .bool (inR b 0 (y - 1))) (H' := [rB [vI x, vI y, vI z] 49, rB [vI a, vI b, vI c] 46]) (args := [vI b, vI 0, vI (y - 1)]) (by kernel_rfl) rfl (by kernel_rfl) ((within_ok b 0 (y - 1)).flat rfl rfl _) ?_
    refine seg 2 (T1 := (mkT 27 [(0, .agg #[vI x, vI y, vI z]), (1, .agg #[vI a, vI b, vI c]), (2, vP 0 0), (3, vP 1 0), (4, .bool false), (5, vP 1 0), (6, vI a), (7, vP 0 0), (8, vI x), (9, vI (x - 1)), (10, .bool true), (11, .bool true), (12, vP 1 1), (13, vI b), (14, vP 0 1), (15, vI y), (16, vI (y - 1)), (17, .bool (inR b 0 (y - 1))), (18, .bool (inR b 0 (y - 1))), (19, .bool (inR b 0 (y - 1)))])) (H1 := [rB [vI x, vI y, vI z] 49, rB [vI a, vI b, vI c] 46]) (by kernel_rfl) ?_
    cases h2 : (inR b 0 (y - 1) : Bool)
    ·
      (try simp only [Bool.not_eq_true', Bool.not_eq_false', decide_eq_true_eq, decide_eq_false_iff_not, beq_iff_eq, bne_iff_ne, beq_eq_false_iff_ne, bne_eq_false_iff_eq, ne_eq, Decidable.not_not, Bool.and_eq_true, Bool.and_eq_false_imp, Bool.or_eq_true, Bool.or_eq_false_iff, Bool.not_eq_true, Int.not_lt, Int.not_le, ge_iff_le, gt_iff_lt] at h2)
      refine segEnd [0, 1, 2, 3, 4] (T1 := (mkT 27 [(0, .agg #[vI x, vI y, vI z]), (1, .agg #[vI a, vI b, vI c]), (2, vP 0 0), (3, vP 1 0), (4, .bool false)])) (H1 := [rB [vI x, vI y, vI z] 49, rB [vI a, vI b, vI c] 46]) (by kernel_rfl) ?_
      refine kSeq ?_
      refine cRet ?_
      exact endQ (Or.inr rfl) (l := [.bool false]) [rB [vI x, vI y, vI z] 49, rB [vI a, vI b, vI c] 46] (by kernel_rfl) (congrArg Value.bool (by first | (simp only [has3, *]; rfl) | (simp [has3, *]; done))) rfl rfl hcl rfl
    ·
      (try simp only [Bool.not_eq_true', Bool.not_eq_false', decide_eq_true_eq, decide_eq_false_iff_not, beq_iff_eq, bne_iff_ne, beq_eq_false_iff_ne, bne_eq_false_iff_eq, ne_eq, Decidable.not_not, Bool.and_eq_true, Bool.and_eq_false_imp, Bool.or_eq_true, Bool.or_eq_false_iff, Bool.not_eq_true, Int.not_lt, Int.not_le, ge_iff_le, gt_iff_lt] at h2)
      refine seg 4 (T1 := (mkT 27 [(0, .agg #[vI x, vI y, vI z]), (1, .agg #[vI a, vI b, vI c]), (2, vP 0 0), (3, vP 1 0), (4, .bool false), (5, vP 1 0), (6, vI a), (7, vP 0 0), (8, vI x), (9, vI (x - 1)), (10, .bool true), (11, .bool true), (12, vP 1 1), (13, vI b), (14, vP 0 1), (15, vI y), (16, vI (y - 1)), (17, .bool true), (18, .bool true), (19, .bool true), (20, vP 1 2), (21, vI c), (22, vP 0 2), (23, vI z)])) (H1 := [rB [vI x, vI y, vI z] 49, rB [vI a, vI b, vI c] 46]) (by kernel_rfl) ?_
      refine rOp (v := vI (z - 1)) (H' := [rB [vI x, vI y, vI z] 49, rB [vI a, vI b, vI c] 46]) (by kernel_rfl) (eSub (k := .i64) (a := z) (b := 1) (c := (z - 1)) (by kernel_rfl) (by kernel_rfl)  (wr64 (by omega) (by omega) rfl)) ?_
      refine rCall (v := .bool (inR c 0 (z - 1))) (H' := [rB [vI x, vI y, vI z] 49, rB [vI a, vI b, vI c] 46]) (args := [vI c, vI 0, vI (z - 1)]) (by kernel_rfl) rfl (by kernel_rfl) ((within_ok c 0 (z - 1)).flat rfl rfl _) ?_
      refine segEnd [0, 1, 2, 3, 4] (T1 := (mkT 27 [(0, .agg #[vI x, vI y, vI z]), (1, .agg #[vI a, vI b, vI c]), (2, vP 0 0), (3, vP 1 0), (4, .bool (inR c 0 (z - 1)))])) (H1 := [rB [vI x, vI y, vI z] 49, rB [vI a, vI b, vI c] 46]) (by kernel_rfl) ?_
      refine kSeq ?_
      refine cRet ?_
      exact endQ (Or.inr rfl) (l := [.bool (inR c 0 (z - 1))]) [rB [vI x, vI y, vI z] 49, rB [vI a, vI b, vI c] 46] (by kernel_rfl) (congrArg Value.bool (by first | (simp only [has3, *]; rfl) | (simp [has3, *]; done))) rfl rfl hcl rfl
set_option maxRecDepth 100000 in
set_option maxHeartbeats 4000000 in
theorem l2In_ok (x y z a b c : Int) (L : List A3) (hb : (1 ≤ x ∧ x ≤ 4) ∧ (1 ≤ y ∧ y ≤ 4) ∧ (1 ≤ z ∧ z ≤ 4)) : Sound Try.prog 23 [.agg #[vI x, vI y, vI z, vS 0 L.length], .agg #[vI a, vI b, vI c]] [some ⟨a3s L, 46, false, false⟩] (.bool (has3 x y z a b c)) [some ⟨a3s L, 46, false, false⟩] := by
  refine sound_intro (C := cx) Try.func23 rfl (by kernel_rfl) fun hcl => ?_
  refine cSeq ?_
  refine cReg ?_
  refine segEnd [0, 1, 2, 3, 4] (T1 := (mkT 27 [(0, .agg #[vI x, vI y, vI z, vS 0 L.length]), (1, .agg #[vI a, vI b, vI c]), (2, vP 1 0), (3, vP 2 0), (4, .bool false)])) (H1 := [some ⟨a3s L, 46, false, false⟩, rB [vI x, vI y, vI z, vS 0 L.length] 29, rB [vI a, vI b, vI c] 46]) (by kernel_rfl) ?_
  refine kSeq ?_
  refine cSeq ?_
  refine cReg ?_
  refine seg 4 (T1 := (mkT 27 [(0, .agg #[vI x, vI y, vI z, vS 0 L.length]), (1, .agg #[vI a, vI b, vI c]), (2, vP 1 0), (3, vP 2 0), (4, .bool false), (5, vP 2 0), (6, vI a), (7, vP 1 0), (8, vI x)])) (H1 := [some ⟨a3s L, 46, false, false⟩, rB [vI x, vI y, vI z, vS 0 L.length] 29, rB [vI a, vI b, vI c] 46]) (by kernel_rfl) ?_
  refine rOp (v := vI (x - 1)) (H' := [some ⟨a3s L, 46, false, false⟩, rB [vI x, vI y, vI z, vS 0 L.length] 29, rB [vI a, vI b, vI c] 46]) (by kernel_rfl) (eSub (k := .i64) (a := x) (b := 1) (c := (x - 1)) (by kernel_rfl) (by kernel_rfl)  (wr64 (by omega) (by omega) rfl)) ?_
  refine rCall (v := .bool (inR a 0 (x - 1))) (H' := [some ⟨a3s L, 46, false, false⟩, rB [vI x, vI y, vI z, vS 0 L.length] 29, rB [vI a, vI b, vI c] 46]) (args := [vI a, vI 0, vI (x - 1)]) (by kernel_rfl) rfl (by kernel_rfl) ((l1In_ok a 0 (x - 1)).flat rfl rfl _) ?_
  refine seg 1 (T1 := (mkT 27 [(0, .agg #[vI x, vI y, vI z, vS 0 L.length]), (1, .agg #[vI a, vI b, vI c]), (2, vP 1 0), (3, vP 2 0), (4, .bool false), (5, vP 2 0), (6, vI a), (7, vP 1 0), (8, vI x), (9, vI (x - 1)), (10, .bool (inR a 0 (x - 1))), (11, .bool (inR a 0 (x - 1)))])) (H1 := [some ⟨a3s L, 46, false, false⟩, rB [vI x, vI y, vI z, vS 0 L.length] 29, rB [vI a, vI b, vI c] 46]) (by kernel_rfl) ?_
  cases h1 : (inR a 0 (x - 1) : Bool)
  ·
    (try simp only [Bool.not_eq_true', Bool.not_eq_false', decide_eq_true_eq, decide_eq_false_iff_not, beq_iff_eq, bne_iff_ne, beq_eq_false_iff_ne, bne_eq_false_iff_eq, ne_eq, Decidable.not_not, Bool.and_eq_true, Bool.and_eq_false_imp, Bool.or_eq_true, Bool.or_eq_false_iff, Bool.not_eq_true, Int.not_lt, Int.not_le, ge_iff_le, gt_iff_lt] at h1)
    refine segEnd [0, 1, 2, 3, 4] (T1 := (mkT 27 [(0, .agg #[vI x, vI y, vI z, vS 0 L.length]), (1, .agg #[vI a, vI b, vI c]), (2, vP 1 0), (3, vP 2 0), (4, .bool false)])) (H1 := [some ⟨a3s L, 46, false, false⟩, rB [vI x, vI y, vI z, vS 0 L.length] 29, rB [vI a, vI b, vI c] 46]) (by kernel_rfl) ?_
    refine kSeq ?_
    refine cRet ?_
    exact endQ (Or.inr rfl) (l := [.bool false]) [rB [vI x, vI y, vI z, vS 0 L.length] 29, rB [vI a, vI b, vI c] 46] (by kernel_rfl) (congrArg Value.bool (by first | (simp only [has3, *]; rfl) | (simp [has3, *]; done))) rfl rfl hcl rfl
  ·
    (try simp only [Bool.not_eq_true', Bool.not_eq_false', decide_eq_true_eq, decide_eq_false_iff_not, beq_iff_eq, bne_iff_ne, beq_eq_false_iff_ne, bne_eq_false_iff_eq, ne_eq, Decidable.not_not, Bool.and_eq_true, Bool.and_eq_false_imp, Bool.or_eq_true, Bool.or_eq_false_iff, Bool.not_eq_true, Int.not_lt, Int.not_le, ge_iff_le, gt_iff_lt] at h1)
    refine seg 4 (T1 := (mkT 27 [(0, .agg #[vI x, vI y, vI z, vS 0 L.length]), (1, .agg #[vI a, vI b, vI c]), (2, vP 1 0), (3, vP 2 0), (4, .bool false), (5, vP 2 0), (6, vI a), (7, vP 1 0), (8, vI x), (9, vI (x - 1)), (10, .bool true), (11, .bool true), (12, vP 2 1), (13, vI b), (14, vP 1 1), (15, vI y)])) (H1 := [some ⟨a3s L, 46, false, false⟩, rB [vI x, vI y, vI z, vS 0 L.length] 29, rB [vI a, vI b, vI c] 46]) (by kernel_rfl) ?_
    refine rOp (v := vI (y - 1)) (H' := [some ⟨a3s L, 46, false, false⟩, rB [vI x, vI y, vI z, vS 0 L.length] 29, rB [vI a, vI b, vI c] 46]) (by kernel_rfl) (eSub (k := .i64) (a := y) (b := 1) (c := (y - 1)) (by kernel_rfl) (by kernel_rfl)  (wr64 (by omega) (by omega) rfl)) ?_
    refine rCall (v := .bool (inR b 0 (y - 1))) (H' := [some ⟨a3s L, 46, false, false⟩, rB [vI x, vI y, vI z, vS 0 L.length] 29, rB [vI a, vI b, vI c] 46]) (args := [vI b, vI 0, vI (y - 1)]) (by kernel_rfl) rfl (by kernel_rfl) ((l1In_ok b 0 (y - 1)).flat rfl rfl _) ?_
    refine seg 2 (T1 := (mkT 27 [(0, .agg #[vI x, vI y, vI z, vS 0 L.length]), (1, .agg #[vI a, vI b, vI c]), (2, vP 1 0), (3, vP 2 0), (4, .bool false), (5, vP 2 0), (6, vI a), (7, vP 1 0), (8, vI x), (9, vI (x - 1)), (10, .bool true), (11, .bool true), (12, vP 2 1), (13, vI b), (14, vP 1 1), (15, vI y), (16, vI (y - 1)), (17, .bool (inR b 0 (y - 1))), (18, .bool (inR b 0 (y - 1))), (19, .bool (inR b 0 (y - 1)))])) (H1 := [some ⟨a3s L, 46, false, false⟩, rB [vI x, vI y, vI z, vS 0 L.length] 29, rB [vI a, vI b, vI c] 46]) (by kernel_rfl) ?_
    cases h2 : (inR b 0 (y - 1) : Bool)
    ·
      (try simp only [Bool.not_eq_true', Bool.not_eq_false', decide_eq_true_eq, decide_eq_false_iff_not, beq_iff_eq, bne_iff_ne, beq_eq_false_iff_ne, bne_eq_false_iff_eq, ne_eq, Decidable.not_not, Bool.and_eq_true, Bool.and_eq_false_imp, Bool.or_eq_true, Bool.or_eq_false_iff, Bool.not_eq_true, Int.not_lt, Int.not_le, ge_iff_le, gt_iff_lt] at h2)
      refine segEnd [0, 1, 2, 3, 4] (T1 := (mkT 27 [(0, .agg #[vI x, vI y, vI z, vS 0 L.length]), (1, .agg #[vI a, vI b, vI c]), (2, vP 1 0), (3, vP 2 0), (4, .bool false)])) (H1 := [some ⟨a3s L, 46, false, false⟩, rB [vI x, vI y, vI z, vS 0 L.length] 29, rB [vI a, vI b, vI c] 46]) (by kernel_rfl) ?_
      refine kSeq ?_
      refine cRet ?_
      exact endQ (Or.inr rfl) (l := [.bool false]) [rB [vI x, vI y, vI z, vS 0 L.length] 29, rB [vI a, vI b, vI c] 46] (by kernel_rfl) (congrArg Value.bool (by first | (simp only [has3, *]; rfl) | (simp [has3, *]; done))) rfl rfl hcl rfl
    ·
      (try simp only [Bool.not_eq_true', Bool.not_eq_false', decide_eq_true_eq, decide_eq_false_iff_not, beq_iff_eq, bne_iff_ne, beq_eq_false_iff_ne, bne_eq_false_iff_eq, ne_eq, Decidable.not_not, Bool.and_eq_true, Bool.and_eq_false_imp, Bool.or_eq_true, Bool.or_eq_false_iff, Bool.not_eq_true, Int.not_lt, Int.not_le, ge_iff_le, gt_iff_lt] at h2)
      refine seg 4 (T1 := (mkT 27 [(0, .agg #[vI x, vI y, vI z, vS 0 L.length]), (1, .agg #[vI a, vI b, vI c]), (2, vP 1 0), (3, vP 2 0), (4, .bool false), (5, vP 2 0), (6, vI a), (7, vP 1 0), (8, vI x), (9, vI (x - 1)), (10, .bool true), (11, .bool true), (12, vP 2 1), (13, vI b), (14, vP 1 1), (15, vI y), (16, vI (y - 1)), (17, .bool true), (18, .bool true), (19, .bool true), (20, vP 2 2), (21, vI c), (22, vP 1 2), (23, vI z)])) (H1 := [some ⟨a3s L, 46, false, false⟩, rB [vI x, vI y, vI z, vS 0 L.length] 29, rB [vI a, vI b, vI c] 46]) (by kernel_rfl) ?_
      refine rOp (v := vI (z - 1)) (H' := [some ⟨a3s L, 46, false, false⟩, rB [vI x, vI y, vI z, vS 0 L.length] 29, rB [vI a, vI b, vI c] 46]) (by kernel_rfl) (eSub (k := .i64) (a := z) (b := 1) (c := (z - 1)) (by kernel_rfl) (by kernel_rfl)  (wr64 (by omega) (by omega) rfl)) ?_
      refine rCall (v := .bool (inR c 0 (z - 1))) (H' := [some ⟨a3s L, 46, false, false⟩, rB [vI x, vI y, vI z, vS 0 L.length] 29, rB [vI a, vI b, vI c] 46]) (args := [vI c, vI 0, vI (z - 1)]) (by kernel_rfl) rfl (by kernel_rfl) ((l1In_ok c 0 (z - 1)).flat rfl rfl _) ?_
      refine segEnd [0, 1, 2, 3, 4] (T1 := (mkT 27 [(0, .agg #[vI x, vI y, vI z, vS 0 L.length]), (1, .agg #[vI a, vI b, vI c]), (2, vP 1 0), (3, vP 2 0), (4, .bool (inR c 0 (z - 1)))])) (H1 := [some ⟨a3s L, 46, false, false⟩, rB [vI x, vI y, vI z, vS 0 L.length] 29, rB [vI a, vI b, vI c] 46]) (by kernel_rfl) ?_
      refine kSeq ?_
      refine cRet ?_
      exact endQ (Or.inr rfl) (l := [.bool (inR c 0 (z - 1))]) [rB [vI x, vI y, vI z, vS 0 L.length] 29, rB [vI a, vI b, vI c] 46] (by kernel_rfl) (congrArg Value.bool (by first | (simp only [has3, *]; rfl) | (simp [has3, *]; done))) rfl rfl hcl rfl
set_option maxRecDepth 100000 in
set_option maxHeartbeats 4000000 in
theorem l2Heap_ok (x y z : Int) (L : List A3) (hL : L.length ≤ 1048576) : Sound Try.prog 14 [.agg #[vI x, vI y, vI z, vS 0 L.length]] [some ⟨a3s L, 46, false, false⟩] (.bool (isHeapB x y z L)) [some ⟨a3s L, 46, false, false⟩] := by
  refine sound_intro (C := cx) Try.func14 rfl (by kernel_rfl) fun hcl => ?_
  refine cSeq ?_
  refine cReg ?_
  refine segEnd [0, 1, 2] (T1 := (mkT 46 [(0, .agg #[vI x, vI y, vI z, vS 0 L.length]), (1, vP 1 0), (2, .bool false)])) (H1 := [some ⟨a3s L, 46, false, false⟩, rB [vI x, vI y, vI z, vS 0 L.length] 29]) (by kernel_rfl) ?_
  refine kSeq ?_
  refine cSeq ?_
  refine cSeq ?_
  refine cReg ?_
  refine seg 6 (T1 := (mkT 46 [(0, .agg #[vI x, vI y, vI z, vS 0 L.length]), (1, vP 1 0), (2, .bool false), (4, vP 1 0), (5, vI x), (6, vP 1 1), (7, vI y), (8, vP 1 2), (9, vI z)])) (H1 := [some ⟨a3s L, 46, false, false⟩, rB [vI x, vI y, vI z, vS 0 L.length] 29]) (by kernel_rfl) ?_
  refine rCall (v := .bool (valid3 x y z)) (H' := [some ⟨a3s L, 46, false, false⟩, rB [vI x, vI y, vI z, vS 0 L.length] 29]) (args := [vI x, vI y, vI z]) (by kernel_rfl) rfl (by kernel_rfl) ((sides_ok x y z).flat rfl rfl _) ?_
  refine segEnd [0, 1, 2, 11] (T1 := (mkT 46 [(0, .agg #[vI x, vI y, vI z, vS 0 L.length]), (1, vP 1 0), (2, .bool false), (11, .bool (!(valid3 x y z)))])) (H1 := [some ⟨a3s L, 46, false, false⟩, rB [vI x, vI y, vI z, vS 0 L.length] 29]) (by kernel_rfl) ?_
  refine kSeq ?_
  cases h1 : (valid3 x y z : Bool)
  ·
    (try simp only [Bool.not_eq_true', Bool.not_eq_false', decide_eq_true_eq, decide_eq_false_iff_not, beq_iff_eq, bne_iff_ne, beq_eq_false_iff_ne, bne_eq_false_iff_eq, ne_eq, Decidable.not_not, Bool.and_eq_true, Bool.and_eq_false_imp, Bool.or_eq_true, Bool.or_eq_false_iff, Bool.not_eq_true, Int.not_lt, Int.not_le, ge_iff_le, gt_iff_lt] at h1)
    refine cTrue (by kernel_rfl) ?_
    refine cSeq ?_
    refine cReg ?_
    refine segEnd [0, 1, 2, 11] (T1 := (mkT 46 [(0, .agg #[vI x, vI y, vI z, vS 0 L.length]), (1, vP 1 0), (2, .bool false), (11, .bool true)])) (H1 := [some ⟨a3s L, 46, false, false⟩, rB [vI x, vI y, vI z, vS 0 L.length] 29]) (by kernel_rfl) ?_
    refine kSeq ?_
    refine cRet ?_
    refine kSeqR ?_
    exact endQ (Or.inr rfl) (l := [.bool false]) [rB [vI x, vI y, vI z, vS 0 L.length] 29] (by kernel_rfl) (congrArg Value.bool (by first | exact notHeap0 (by assumption) | exact heapYes (by assumption) ho (by omega) | exact notHeap1 (i := i) (by omega) (by assumption) | exact notHeap2 (i := i) (by omega) (by omega) (by assumption))) rfl rfl hcl rfl
  ·
    (try simp only [Bool.not_eq_true', Bool.not_eq_false', decide_eq_true_eq, decide_eq_false_iff_not, beq_iff_eq, bne_iff_ne, beq_eq_false_iff_ne, bne_eq_false_iff_eq, ne_eq, Decidable.not_not, Bool.and_eq_true, Bool.and_eq_false_imp, Bool.or_eq_true, Bool.or_eq_false_iff, Bool.not_eq_true, Int.not_lt, Int.not_le, ge_iff_le, gt_iff_lt] at h1)
    have hb := valid_bounds h1
    refine cFalse (by kernel_rfl) ?_
    refine cSkip ?_
    refine kSeq ?_
    refine cSeq ?_
    refine cSeq ?_
    refine cReg ?_
    refine segEnd [0, 1, 2, 3, 11] (T1 := (mkT 46 [(0, .agg #[vI x, vI y, vI z, vS 0 L.length]), (1, vP 1 0), (2, .bool false), (3, vI 0), (11, .bool false)])) (H1 := [some ⟨a3s L, 46, false, false⟩, rB [vI x, vI y, vI z, vS 0 L.length] 29]) (by kernel_rfl) ?_
    refine kSeq ?_
    refine cBlk ?_
    refine cLoop (fun mm T H => ∃ i : Nat, (i ≤ L.length) ∧ (okTo x y z L i = true) ∧ mm = L.length - i ∧ T = (mkT 46 [(1, vP 1 0), (2, .bool false), (3, vN i)]) ∧ H = [some ⟨a3s L, 46, false, false⟩, rB [vI x, vI y, vI z, vS 0 L.length] 29]) (L.length - 0) (mkT 46 [(1, vP 1 0), (2, .bool false), (3, vI 0)]) [some ⟨a3s L, 46, false, false⟩, rB [vI x, vI y, vI z, vS 0 L.length] 29] (wkSame [1, 2, 3] (by kernel_rfl)) ?_ ?_
    · exact ⟨0, (Nat.zero_le _), (rfl), rfl, rfl, rfl⟩
    · rintro _ _ _ ⟨i, hi, ho, rfl, rfl, rfl⟩
      refine cSeq ?_
      refine cSeq ?_
      refine cReg ?_
      refine segEnd [1, 2, 3, 16] (T1 := (mkT 46 [(1, vP 1 0), (2, .bool false), (3, vN i), (16, .bool (decide (((i : Nat) : Int) < ((L.length : Nat) : Int))))])) (H1 := [some ⟨a3s L, 46, false, false⟩, rB [vI x, vI y, vI z, vS 0 L.length] 29]) (by kernel_rfl) ?_
      refine kSeq ?_
      cases h2 : (decide (((i : Nat) : Int) < ((L.length : Nat) : Int)) : Bool)
      ·
        (try simp only [Bool.not_eq_true', Bool.not_eq_false', decide_eq_true_eq, decide_eq_false_iff_not, beq_iff_eq, bne_iff_ne, beq_eq_false_iff_ne, bne_eq_false_iff_eq, ne_eq, Decidable.not_not, Bool.and_eq_true, Bool.and_eq_false_imp, Bool.or_eq_true, Bool.or_eq_false_iff, Bool.not_eq_true, Int.not_lt, Int.not_le, ge_iff_le, gt_iff_lt] at h2)
        refine cFalse (by kernel_rfl) ?_
        refine cExit ?_
        refine kSeqE ?_
        refine kLoopE ?_
        refine kBlkHit ?_
        refine kSeq ?_
        refine cSeq ?_
        refine cReg ?_
        refine segEnd [1, 2, 3, 16] (T1 := (mkT 46 [(1, vP 1 0), (2, .bool true), (3, vN i), (16, .bool false)])) (H1 := [some ⟨a3s L, 46, false, false⟩, rB [vI x, vI y, vI z, vS 0 L.length] 29]) (by kernel_rfl) ?_
        refine kSeq ?_
        refine cRet ?_
        exact endQ (Or.inr rfl) (l := [.bool true]) [rB [vI x, vI y, vI z, vS 0 L.length] 29] (by kernel_rfl) (congrArg Value.bool (by first | exact notHeap0 (by assumption) | exact heapYes (by assumption) ho (by omega) | exact notHeap1 (i := i) (by omega) (by assumption) | exact notHeap2 (i := i) (by omega) (by omega) (by assumption))) rfl rfl hcl rfl
      ·
        (try simp only [Bool.not_eq_true', Bool.not_eq_false', decide_eq_true_eq, decide_eq_false_iff_not, beq_iff_eq, bne_iff_ne, beq_eq_false_iff_ne, bne_eq_false_iff_eq, ne_eq, Decidable.not_not, Bool.and_eq_true, Bool.and_eq_false_imp, Bool.or_eq_true, Bool.or_eq_false_iff, Bool.not_eq_true, Int.not_lt, Int.not_le, ge_iff_le, gt_iff_lt] at h2)
        refine cTrue (by kernel_rfl) ?_
        refine cSkip ?_
        refine kSeq ?_
        refine cSeq ?_
        refine cBlk ?_
        refine cSeq ?_
        refine cRegD (by kernel_rfl) ?_
        refine segD 4 (T1 := (mkT 46 [(1, vP 1 0), (2, .bool false), (3, vN i), (16, .bool true), (19, .agg #[vI x, vI y, vI z, vS 0 L.length]), (20, vP 1 3), (21, vS 0 L.length), (22, vN i)])) (H1 := [some ⟨a3s L, 46, false, false⟩, rB [vI x, vI y, vI z, vS 0 L.length] 29]) (by kernel_rfl) ?_
        refine rOpD (v := vP 0 (i * 3)) (H' := [some ⟨a3s L, 46, false, false⟩, rB [vI x, vI y, vI z, vS 0 L.length] 29]) (by kernel_rfl) (eIdxS (ad := ⟨0, 0, none⟩) (n := L.length) (m := 0) (k := .i64) (c := ((i : Nat) : Int)) (j := i) (o := i * 3) (by kernel_rfl) (by kernel_rfl) ti22 ti46 (rfl) (by omega) (by exact Nat.zero_add _)) (by rfl) ?_
        refine rOpD (v := .agg #[vI ((L.getD i default).x), vI ((L.getD i default).y), vI ((L.getD i default).z)]) (H' := [some ⟨a3s L, 46, false, false⟩, rB [vI x, vI y, vI z, vS 0 L.length] 29]) (by kernel_rfl) (eLdA3 (ad := ⟨0, i * 3, none⟩) (r := ⟨a3s L, 46, false, false⟩) (L := L) (j := i) (by kernel_rfl) (by kernel_rfl) rfl (by first | rfl | omega) (by omega) ti46) (by rfl) ?_
        refine rCallQ (v := .bool (has3 x y z ((L.getD i default).x) ((L.getD i default).y) ((L.getD i default).z))) (args := [.agg #[vI x, vI y, vI z, vS 0 L.length], .agg #[vI ((L.getD i default).x), vI ((L.getD i default).y), vI ((L.getD i default).z)]]) (by kernel_rfl) rfl (by kernel_rfl) (by kernel_rfl) (by kernel_rfl) (Quiet.reads1 (r := ⟨a3s L, 46, false, false⟩) 0 false (l2In_ok x y z ((L.getD i default).x) ((L.getD i default).y) ((L.getD i default).z) L (by omega)) (flatA3 _ _ _ _) rfl rfl rfl (by first | rfl | simp [mpV, mpA, mpS, mpP, renId, shift]) rfl rfl) ?_
        refine segD 2 (T1 := (mkT 46 [(1, vP 1 0), (2, .bool false), (3, vN i), (16, .bool true), (19, .agg #[vI x, vI y, vI z, vS 0 L.length]), (20, vP 1 3), (21, vS 0 L.length), (22, vN i), (23, vP 0 (i * 3)), (24, .agg #[vI ((L.getD i default).x), vI ((L.getD i default).y), vI ((L.getD i default).z)]), (25, .bool (has3 x y z ((L.getD i default).x) ((L.getD i default).y) ((L.getD i default).z))), (26, .bool (!(has3 x y z ((L.getD i default).x) ((L.getD i default).y) ((L.getD i default).z)))), (27, .bool (!(has3 x y z ((L.getD i default).x) ((L.getD i default).y) ((L.getD i default).z))))])) (H1 := [some ⟨a3s L, 46, false, false⟩, rB [vI x, vI y, vI z, vS 0 L.length] 29]) (by kernel_rfl) ?_
        cases h3 : (has3 x y z ((L.getD i default).x) ((L.getD i default).y) ((L.getD i default).z) : Bool)
        ·
          (try simp only [Bool.not_eq_true', Bool.not_eq_false', decide_eq_true_eq, decide_eq_false_iff_not, beq_iff_eq, bne_iff_ne, beq_eq_false_iff_ne, bne_eq_false_iff_eq, ne_eq, Decidable.not_not, Bool.and_eq_true, Bool.and_eq_false_imp, Bool.or_eq_true, Bool.or_eq_false_iff, Bool.not_eq_true, Int.not_lt, Int.not_le, ge_iff_le, gt_iff_lt] at h3)
          refine segEndD [1, 2, 3, 16, 45] (T1 := (mkT 46 [(1, vP 1 0), (2, .bool false), (3, vN i), (16, .bool true), (45, .bool true)])) (H1 := [some ⟨a3s L, 46, false, false⟩, rB [vI x, vI y, vI z, vS 0 L.length] 29]) (by kernel_rfl) ?_
          refine kSeq ?_
          refine cTrue (by kernel_rfl) ?_
          refine cSeq ?_
          refine cReg ?_
          refine segEnd [1, 2, 3, 16, 45] (T1 := (mkT 46 [(1, vP 1 0), (2, .bool false), (3, vN i), (16, .bool true), (45, .bool true)])) (H1 := [some ⟨a3s L, 46, false, false⟩, rB [vI x, vI y, vI z, vS 0 L.length] 29]) (by kernel_rfl) ?_
          refine kSeq ?_
          refine cRet ?_
          refine kBlkR ?_
          refine kSeqR ?_
          refine kLoopR ?_
          refine kBlkR ?_
          refine kSeqR ?_
          exact endQ (Or.inr rfl) (l := [.bool false]) [rB [vI x, vI y, vI z, vS 0 L.length] 29] (by kernel_rfl) (congrArg Value.bool (by first | exact notHeap0 (by assumption) | exact heapYes (by assumption) ho (by omega) | exact notHeap1 (i := i) (by omega) (by assumption) | exact notHeap2 (i := i) (by omega) (by omega) (by assumption))) rfl rfl hcl rfl
        ·
          (try simp only [Bool.not_eq_true', Bool.not_eq_false', decide_eq_true_eq, decide_eq_false_iff_not, beq_iff_eq, bne_iff_ne, beq_eq_false_iff_ne, bne_eq_false_iff_eq, ne_eq, Decidable.not_not, Bool.and_eq_true, Bool.and_eq_false_imp, Bool.or_eq_true, Bool.or_eq_false_iff, Bool.not_eq_true, Int.not_lt, Int.not_le, ge_iff_le, gt_iff_lt] at h3)
          refine segD 3 (T1 := (mkT 46 [(1, vP 1 0), (2, .bool false), (3, vN i), (16, .bool true), (19, .agg #[vI x, vI y, vI z, vS 0 L.length]), (20, vP 1 3), (21, vS 0 L.length), (22, vN i), (23, vP 0 (i * 3)), (24, .agg #[vI ((L.getD i default).x), vI ((L.getD i default).y), vI ((L.getD i default).z)]), (25, .bool true), (26, .bool false), (27, .bool false), (28, vN i), (29, .bool (decide (((i : Nat) : Int) > 0))), (30, .bool (decide (((i : Nat) : Int) > 0)))])) (H1 := [some ⟨a3s L, 46, false, false⟩, rB [vI x, vI y, vI z, vS 0 L.length] 29]) (by kernel_rfl) ?_
          cases h4 : (decide (((i : Nat) : Int) > 0) : Bool)
          ·
            (try simp only [Bool.not_eq_true', Bool.not_eq_false', decide_eq_true_eq, decide_eq_false_iff_not, beq_iff_eq, bne_iff_ne, beq_eq_false_iff_ne, bne_eq_false_iff_eq, ne_eq, Decidable.not_not, Bool.and_eq_true, Bool.and_eq_false_imp, Bool.or_eq_true, Bool.or_eq_false_iff, Bool.not_eq_true, Int.not_lt, Int.not_le, ge_iff_le, gt_iff_lt] at h4)
            refine segEndD [1, 2, 3, 16, 45] (T1 := (mkT 46 [(1, vP 1 0), (2, .bool false), (3, vN i), (16, .bool true), (45, .bool false)])) (H1 := [some ⟨a3s L, 46, false, false⟩, rB [vI x, vI y, vI z, vS 0 L.length] 29]) (by kernel_rfl) ?_
            refine kSeq ?_
            refine cFalse (by kernel_rfl) ?_
            refine cSkip ?_
            refine kBlk ?_
            refine kSeq ?_
            refine cReg ?_
            refine seg 1 (T1 := (mkT 46 [(1, vP 1 0), (2, .bool false), (3, vN i), (16, .bool true), (17, vN i), (45, .bool false)])) (H1 := [some ⟨a3s L, 46, false, false⟩, rB [vI x, vI y, vI z, vS 0 L.length] 29]) (by kernel_rfl) ?_
            refine rOp (v := vN (i + 1)) (H' := [some ⟨a3s L, 46, false, false⟩, rB [vI x, vI y, vI z, vS 0 L.length] 29]) (by kernel_rfl) (eAdd (k := .i64) (a := ((i : Nat) : Int)) (b := 1) (c := ((i + 1 : Nat) : Int)) (by kernel_rfl) (by kernel_rfl) (wr64 (by omega) (by omega) (by omega))) ?_
            refine segEnd [1, 2, 3, 16, 45] (T1 := (mkT 46 [(1, vP 1 0), (2, .bool false), (3, vN (i + 1)), (16, .bool true), (45, .bool false)])) (H1 := [some ⟨a3s L, 46, false, false⟩, rB [vI x, vI y, vI z, vS 0 L.length] 29]) (by kernel_rfl) ?_
            exact kLoop (L.length - (i + 1)) (mkT 46 [(1, vP 1 0), (2, .bool false), (3, vN (i + 1))]) [some ⟨a3s L, 46, false, false⟩, rB [vI x, vI y, vI z, vS 0 L.length] 29] (by omega) (wkSame [1, 2, 3] (by kernel_rfl)) ⟨(i + 1), (by omega), (by first | exact okTo_step ho (by assumption) (Or.inr (by assumption)) | exact okTo_step ho (by assumption) (Or.inl (by omega))), rfl, rfl, rfl⟩
          ·
            (try simp only [Bool.not_eq_true', Bool.not_eq_false', decide_eq_true_eq, decide_eq_false_iff_not, beq_iff_eq, bne_iff_ne, beq_eq_false_iff_ne, bne_eq_false_iff_eq, ne_eq, Decidable.not_not, Bool.and_eq_true, Bool.and_eq_false_imp, Bool.or_eq_true, Bool.or_eq_false_iff, Bool.not_eq_true, Int.not_lt, Int.not_le, ge_iff_le, gt_iff_lt] at h4)
            refine segD 3 (T1 := (mkT 46 [(1, vP 1 0), (2, .bool false), (3, vN i), (16, .bool true), (19, .agg #[vI x, vI y, vI z, vS 0 L.length]), (20, vP 1 3), (21, vS 0 L.length), (22, vN i), (23, vP 0 (i * 3)), (24, .agg #[vI ((L.getD i default).x), vI ((L.getD i default).y), vI ((L.getD i default).z)]), (25, .bool true), (26, .bool false), (27, .bool false), (28, vN i), (29, .bool true), (30, .bool true), (31, vP 1 3), (32, vS 0 L.length), (33, vN i)])) (H1 := [some ⟨a3s L, 46, false, false⟩, rB [vI x, vI y, vI z, vS 0 L.length] 29]) (by kernel_rfl) ?_
            refine rOpD (v := vN (i - 1)) (H' := [some ⟨a3s L, 46, false, false⟩, rB [vI x, vI y, vI z, vS 0 L.length] 29]) (by kernel_rfl) (eSub (k := .i64) (a := ((i : Nat) : Int)) (b := 1) (c := ((i - 1 : Nat) : Int)) (by kernel_rfl) (by kernel_rfl)  (wr64 (by omega) (by omega) (by omega))) (by rfl) ?_
            refine rOpD (v := vP 0 ((i - 1) * 3)) (H' := [some ⟨a3s L, 46, false, false⟩, rB [vI x, vI y, vI z, vS 0 L.length] 29]) (by kernel_rfl) (eIdxS (ad := ⟨0, 0, none⟩) (n := L.length) (m := 0) (k := .i64) (c := ((i - 1 : Nat) : Int)) (j := (i - 1)) (o := (i - 1) * 3) (by kernel_rfl) (by kernel_rfl) ti22 ti46 (rfl) (by omega) (by exact Nat.zero_add _)) (by rfl) ?_
            refine rOpD (v := .agg #[vI ((L.getD (i - 1) default).x), vI ((L.getD (i - 1) default).y), vI ((L.getD (i - 1) default).z)]) (H' := [some ⟨a3s L, 46, false, false⟩, rB [vI x, vI y, vI z, vS 0 L.length] 29]) (by kernel_rfl) (eLdA3 (ad := ⟨0, (i - 1) * 3, none⟩) (r := ⟨a3s L, 46, false, false⟩) (L := L) (j := (i - 1)) (by kernel_rfl) (by kernel_rfl) rfl (by first | rfl | omega) (by omega) ti46) (by rfl) ?_
            refine segD 3 (T1 := (mkT 46 [(1, vP 1 0), (2, .bool false), (3, vN i), (16, .bool true), (19, .agg #[vI x, vI y, vI z, vS 0 L.length]), (20, vP 1 3), (21, vS 0 L.length), (22, vN i), (23, vP 0 (i * 3)), (24, .agg #[vI ((L.getD i default).x), vI ((L.getD i default).y), vI ((L.getD i default).z)]), (25, .bool true), (26, .bool false), (27, .bool false), (28, vN i), (29, .bool true), (30, .bool true), (31, vP 1 3), (32, vS 0 L.length), (33, vN i), (34, vN (i - 1)), (35, vP 0 ((i - 1) * 3)), (36, .agg #[vI ((L.getD (i - 1) default).x), vI ((L.getD (i - 1) default).y), vI ((L.getD (i - 1) default).z)]), (37, vP 1 3), (38, vS 0 L.length), (39, vN i)])) (H1 := [some ⟨a3s L, 46, false, false⟩, rB [vI x, vI y, vI z, vS 0 L.length] 29]) (by kernel_rfl) ?_
            refine rOpD (v := vP 0 (i * 3)) (H' := [some ⟨a3s L, 46, false, false⟩, rB [vI x, vI y, vI z, vS 0 L.length] 29]) (by kernel_rfl) (eIdxS (ad := ⟨0, 0, none⟩) (n := L.length) (m := 0) (k := .i64) (c := ((i : Nat) : Int)) (j := i) (o := i * 3) (by kernel_rfl) (by kernel_rfl) ti22 ti46 (rfl) (by omega) (by exact Nat.zero_add _)) (by rfl) ?_
            refine rOpD (v := .agg #[vI ((L.getD i default).x), vI ((L.getD i default).y), vI ((L.getD i default).z)]) (H' := [some ⟨a3s L, 46, false, false⟩, rB [vI x, vI y, vI z, vS 0 L.length] 29]) (by kernel_rfl) (eLdA3 (ad := ⟨0, i * 3, none⟩) (r := ⟨a3s L, 46, false, false⟩) (L := L) (j := i) (by kernel_rfl) (by kernel_rfl) rfl (by first | rfl | omega) (by omega) ti46) (by rfl) ?_
            refine rCallQ (v := .bool (lexB ((L.getD (i - 1) default).x) ((L.getD (i - 1) default).y) ((L.getD (i - 1) default).z) ((L.getD i default).x) ((L.getD i default).y) ((L.getD i default).z))) (args := [.agg #[vI ((L.getD (i - 1) default).x), vI ((L.getD (i - 1) default).y), vI ((L.getD (i - 1) default).z)], .agg #[vI ((L.getD i default).x), vI ((L.getD i default).y), vI ((L.getD i default).z)]]) (by kernel_rfl) rfl (by kernel_rfl) (by kernel_rfl) (by kernel_rfl) (Quiet.flat (l2Before_ok ((L.getD (i - 1) default).x) ((L.getD (i - 1) default).y) ((L.getD (i - 1) default).z) ((L.getD i default).x) ((L.getD i default).y) ((L.getD i default).z)) rfl rfl) ?_
            refine segEndD [1, 2, 3, 16, 45] (T1 := (mkT 46 [(1, vP 1 0), (2, .bool false), (3, vN i), (16, .bool true), (45, .bool (!(lexB ((L.getD (i - 1) default).x) ((L.getD (i - 1) default).y) ((L.getD (i - 1) default).z) ((L.getD i default).x) ((L.getD i default).y) ((L.getD i default).z))))])) (H1 := [some ⟨a3s L, 46, false, false⟩, rB [vI x, vI y, vI z, vS 0 L.length] 29]) (by kernel_rfl) ?_
            refine kSeq ?_
            cases h5 : (lexB ((L.getD (i - 1) default).x) ((L.getD (i - 1) default).y) ((L.getD (i - 1) default).z) ((L.getD i default).x) ((L.getD i default).y) ((L.getD i default).z) : Bool)
            ·
              (try simp only [Bool.not_eq_true', Bool.not_eq_false', decide_eq_true_eq, decide_eq_false_iff_not, beq_iff_eq, bne_iff_ne, beq_eq_false_iff_ne, bne_eq_false_iff_eq, ne_eq, Decidable.not_not, Bool.and_eq_true, Bool.and_eq_false_imp, Bool.or_eq_true, Bool.or_eq_false_iff, Bool.not_eq_true, Int.not_lt, Int.not_le, ge_iff_le, gt_iff_lt] at h5)
              refine cTrue (by kernel_rfl) ?_
              refine cSeq ?_
              refine cReg ?_
              refine segEnd [1, 2, 3, 16, 45] (T1 := (mkT 46 [(1, vP 1 0), (2, .bool false), (3, vN i), (16, .bool true), (45, .bool true)])) (H1 := [some ⟨a3s L, 46, false, false⟩, rB [vI x, vI y, vI z, vS 0 L.length] 29]) (by kernel_rfl) ?_
              refine kSeq ?_
              refine cRet ?_
              refine kBlkR ?_
              refine kSeqR ?_
              refine kLoopR ?_
              refine kBlkR ?_
              refine kSeqR ?_
              exact endQ (Or.inr rfl) (l := [.bool false]) [rB [vI x, vI y, vI z, vS 0 L.length] 29] (by kernel_rfl) (congrArg Value.bool (by first | exact notHeap0 (by assumption) | exact heapYes (by assumption) ho (by omega) | exact notHeap1 (i := i) (by omega) (by assumption) | exact notHeap2 (i := i) (by omega) (by omega) (by assumption))) rfl rfl hcl rfl
            ·
              (try simp only [Bool.not_eq_true', Bool.not_eq_false', decide_eq_true_eq, decide_eq_false_iff_not, beq_iff_eq, bne_iff_ne, beq_eq_false_iff_ne, bne_eq_false_iff_eq, ne_eq, Decidable.not_not, Bool.and_eq_true, Bool.and_eq_false_imp, Bool.or_eq_true, Bool.or_eq_false_iff, Bool.not_eq_true, Int.not_lt, Int.not_le, ge_iff_le, gt_iff_lt] at h5)
              refine cFalse (by kernel_rfl) ?_
              refine cSkip ?_
              refine kBlk ?_
              refine kSeq ?_
              refine cReg ?_
              refine seg 1 (T1 := (mkT 46 [(1, vP 1 0), (2, .bool false), (3, vN i), (16, .bool true), (17, vN i), (45, .bool false)])) (H1 := [some ⟨a3s L, 46, false, false⟩, rB [vI x, vI y, vI z, vS 0 L.length] 29]) (by kernel_rfl) ?_
              refine rOp (v := vN (i + 1)) (H' := [some ⟨a3s L, 46, false, false⟩, rB [vI x, vI y, vI z, vS 0 L.length] 29]) (by kernel_rfl) (eAdd (k := .i64) (a := ((i : Nat) : Int)) (b := 1) (c := ((i + 1 : Nat) : Int)) (by kernel_rfl) (by kernel_rfl) (wr64 (by omega) (by omega) (by omega))) ?_
              refine segEnd [1, 2, 3, 16, 45] (T1 := (mkT 46 [(1, vP 1 0), (2, .bool false), (3, vN (i + 1)), (16, .bool true), (45, .bool false)])) (H1 := [some ⟨a3s L, 46, false, false⟩, rB [vI x, vI y, vI z, vS 0 L.length] 29]) (by kernel_rfl) ?_
              exact kLoop (L.length - (i + 1)) (mkT 46 [(1, vP 1 0), (2, .bool false), (3, vN (i + 1))]) [some ⟨a3s L, 46, false, false⟩, rB [vI x, vI y, vI z, vS 0 L.length] 29] (by omega) (wkSame [1, 2, 3] (by kernel_rfl)) ⟨(i + 1), (by omega), (by first | exact okTo_step ho (by assumption) (Or.inr (by assumption)) | exact okTo_step ho (by assumption) (Or.inl (by omega))), rfl, rfl, rfl⟩
set_option maxRecDepth 100000 in
set_option maxHeartbeats 4000000 in
theorem implIsHeap_ok (x y z : Int) (L : List A3) (hL : L.length ≤ 1048576) : Sound Try.prog 17 [.agg #[vI x, vI y, vI z, vS 0 L.length]] [some ⟨a3s L, 46, false, false⟩] (.bool (isHeapB x y z L)) [some ⟨a3s L, 46, false, false⟩] := by
  refine sound_intro (C := cx) Try.func17 rfl (by kernel_rfl) fun hcl => ?_
  refine cSeq ?_
  refine cReg ?_
  refine segEnd [0, 1, 2] (T1 := (mkT 38 [(0, .agg #[vI x, vI y, vI z, vS 0 L.length]), (1, vP 1 0), (2, .bool false)])) (H1 := [some ⟨a3s L, 46, false, false⟩, rB [vI x, vI y, vI z, vS 0 L.length] 29]) (by kernel_rfl) ?_
  refine kSeq ?_
  refine cSeq ?_
  refine cSeq ?_
  refine cReg ?_
  refine seg 1 (T1 := (mkT 38 [(0, .agg #[vI x, vI y, vI z, vS 0 L.length]), (1, vP 1 0), (2, .bool false), (5, .agg #[vI x, vI y, vI z, vS 0 L.length])])) (H1 := [some ⟨a3s L, 46, false, false⟩, rB [vI x, vI y, vI z, vS 0 L.length] 29]) (by kernel_rfl) ?_
  refine rCall (v := .agg #[vI x, vI y, vI z]) (H' := [some ⟨a3s L, 46, false, false⟩, rB [vI x, vI y, vI z, vS 0 L.length] 29]) (args := [.agg #[vI x, vI y, vI z, vS 0 L.length]]) (by kernel_rfl) rfl (by kernel_rfl) (Sound.reads1 (r := ⟨a3s L, 46, false, false⟩) 0 false (box_ok x y z L) (flatA3 _ _ _ _) rfl rfl rfl (by first | rfl | simp [mpV, mpA, mpS, mpP, renId, shift]) rfl) ?_
  refine rCall (v := .bool (valid3 x y z)) (H' := [some ⟨a3s L, 46, false, false⟩, rB [vI x, vI y, vI z, vS 0 L.length] 29]) (args := [.agg #[vI x, vI y, vI z]]) (by kernel_rfl) rfl (by kernel_rfl) ((valid_ok x y z).flat rfl rfl _) ?_
  refine segEnd [0, 1, 2, 8] (T1 := (mkT 38 [(0, .agg #[vI x, vI y, vI z, vS 0 L.length]), (1, vP 1 0), (2, .bool false), (8, .bool (!(valid3 x y z)))])) (H1 := [some ⟨a3s L, 46, false, false⟩, rB [vI x, vI y, vI z, vS 0 L.length] 29]) (by kernel_rfl) ?_
  refine kSeq ?_
  cases h1 : (valid3 x y z : Bool)
  ·
    (try simp only [lexC_neg] at h1)
    (try simp only [Bool.not_eq_true', Bool.not_eq_false', decide_eq_true_eq, decide_eq_false_iff_not, beq_iff_eq, bne_iff_ne, beq_eq_false_iff_ne, bne_eq_false_iff_eq, ne_eq, Decidable.not_not, Bool.and_eq_true, Bool.and_eq_false_imp, Bool.or_eq_true, Bool.or_eq_false_iff, Bool.not_eq_true, Int.not_lt, Int.not_le, ge_iff_le, gt_iff_lt] at h1)
    refine cTrue (by kernel_rfl) ?_
    refine cSeq ?_
    refine cReg ?_
    refine segEnd [0, 1, 2, 8] (T1 := (mkT 38 [(0, .agg #[vI x, vI y, vI z, vS 0 L.length]), (1, vP 1 0), (2, .bool false), (8, .bool true)])) (H1 := [some ⟨a3s L, 46, false, false⟩, rB [vI x, vI y, vI z, vS 0 L.length] 29]) (by kernel_rfl) ?_
    refine kSeq ?_
    refine cRet ?_
    refine kSeqR ?_
    exact endQ (Or.inr rfl) (l := [.bool false]) [rB [vI x, vI y, vI z, vS 0 L.length] 29] (by kernel_rfl) (congrArg Value.bool (by first | exact notHeap0 (by assumption) | exact heapYes (by assumption) ho (by omega) | exact notHeap1 (i := i) (by omega) (by assumption) | exact notHeap2 (i := i) (by omega) (by omega) (by assumption))) rfl rfl hcl rfl
  ·
    (try simp only [lexC_neg] at h1)
    (try simp only [Bool.not_eq_true', Bool.not_eq_false', decide_eq_true_eq, decide_eq_false_iff_not, beq_iff_eq, bne_iff_ne, beq_eq_false_iff_ne, bne_eq_false_iff_eq, ne_eq, Decidable.not_not, Bool.and_eq_true, Bool.and_eq_false_imp, Bool.or_eq_true, Bool.or_eq_false_iff, Bool.not_eq_true, Int.not_lt, Int.not_le, ge_iff_le, gt_iff_lt] at h1)
    have hb := valid_bounds h1
    refine cFalse (by kernel_rfl) ?_
    refine cSkip ?_
    refine kSeq ?_
    refine cSeq ?_
    refine cSeq ?_
    refine cReg ?_
    refine segEnd [0, 1, 2, 8, 10, 11, 12] (T1 := (mkT 38 [(0, .agg #[vI x, vI y, vI z, vS 0 L.length]), (1, vP 1 0), (2, .bool false), (8, .bool false), (10, vS 0 L.length), (11, vN L.length), (12, vI 0)])) (H1 := [some ⟨a3s L, 46, false, false⟩, rB [vI x, vI y, vI z, vS 0 L.length] 29]) (by kernel_rfl) ?_
    refine kSeq ?_
    refine cBlk ?_
    refine cLoop (fun mm T H => ∃ i : Nat, (i ≤ L.length) ∧ (okTo x y z L i = true) ∧ mm = L.length - i ∧ T = (mkT 38 [(1, vP 1 0), (2, .bool false), (10, vS 0 L.length), (11, vN L.length), (12, vN i)]) ∧ H = [some ⟨a3s L, 46, false, false⟩, rB [vI x, vI y, vI z, vS 0 L.length] 29]) (L.length - 0) (mkT 38 [(1, vP 1 0), (2, .bool false), (10, vS 0 L.length), (11, vN L.length), (12, vI 0)]) [some ⟨a3s L, 46, false, false⟩, rB [vI x, vI y, vI z, vS 0 L.length] 29] (wkSame [1, 2, 10, 11, 12] (by kernel_rfl)) ?_ ?_
    · exact ⟨0, (Nat.zero_le _), (rfl), rfl, rfl, rfl⟩
    · rintro _ _ _ ⟨i, hi, ho, rfl, rfl, rfl⟩
      refine cSeq ?_
      refine cReg ?_
      refine segEnd [1, 2, 10, 11, 12, 13] (T1 := (mkT 38 [(1, vP 1 0), (2, .bool false), (10, vS 0 L.length), (11, vN L.length), (12, vN i), (13, .bool (decide (((i : Nat) : Int) < ((L.length : Nat) : Int))))])) (H1 := [some ⟨a3s L, 46, false, false⟩, rB [vI x, vI y, vI z, vS 0 L.length] 29]) (by kernel_rfl) ?_
      refine kSeq ?_
      refine cSeq ?_
      cases h2 : (decide (((i : Nat) : Int) < ((L.length : Nat) : Int)) : Bool)
      ·
        (try simp only [lexC_neg] at h2)
        (try simp only [Bool.not_eq_true', Bool.not_eq_false', decide_eq_true_eq, decide_eq_false_iff_not, beq_iff_eq, bne_iff_ne, beq_eq_false_iff_ne, bne_eq_false_iff_eq, ne_eq, Decidable.not_not, Bool.and_eq_true, Bool.and_eq_false_imp, Bool.or_eq_true, Bool.or_eq_false_iff, Bool.not_eq_true, Int.not_lt, Int.not_le, ge_iff_le, gt_iff_lt] at h2)
        refine cFalse (by kernel_rfl) ?_
        refine cExit ?_
        refine kSeqE ?_
        refine kLoopE ?_
        refine kBlkHit ?_
        refine kSeq ?_
        refine cSeq ?_
        refine cReg ?_
        refine segEnd [1, 2, 10, 11, 12, 13] (T1 := (mkT 38 [(1, vP 1 0), (2, .bool true), (10, vS 0 L.length), (11, vN L.length), (12, vN i), (13, .bool false)])) (H1 := [some ⟨a3s L, 46, false, false⟩, rB [vI x, vI y, vI z, vS 0 L.length] 29]) (by kernel_rfl) ?_
        refine kSeq ?_
        refine cRet ?_
        exact endQ (Or.inr rfl) (l := [.bool true]) [rB [vI x, vI y, vI z, vS 0 L.length] 29] (by kernel_rfl) (congrArg Value.bool (by first | exact notHeap0 (by assumption) | exact heapYes (by assumption) ho (by omega) | exact notHeap1 (i := i) (by omega) (by assumption) | exact notHeap2 (i := i) (by omega) (by omega) (by assumption))) rfl rfl hcl rfl
      ·
        (try simp only [lexC_neg] at h2)
        (try simp only [Bool.not_eq_true', Bool.not_eq_false', decide_eq_true_eq, decide_eq_false_iff_not, beq_iff_eq, bne_iff_ne, beq_eq_false_iff_ne, bne_eq_false_iff_eq, ne_eq, Decidable.not_not, Bool.and_eq_true, Bool.and_eq_false_imp, Bool.or_eq_true, Bool.or_eq_false_iff, Bool.not_eq_true, Int.not_lt, Int.not_le, ge_iff_le, gt_iff_lt] at h2)
        refine cTrue (by kernel_rfl) ?_
        refine cSkip ?_
        refine kSeq ?_
        refine cSeq ?_
        refine cBlk ?_
        refine cSeq ?_
        refine cReg ?_
        refine seg 1 (T1 := (mkT 38 [(1, vP 1 0), (2, .bool false), (10, vS 0 L.length), (11, vN L.length), (12, vN i), (13, .bool true), (14, vN i)])) (H1 := [some ⟨a3s L, 46, false, false⟩, rB [vI x, vI y, vI z, vS 0 L.length] 29]) (by kernel_rfl) ?_
        refine rOp (v := vP 0 (i * 3)) (H' := [some ⟨a3s L, 46, false, false⟩, rB [vI x, vI y, vI z, vS 0 L.length] 29]) (by kernel_rfl) (eIdxS (ad := ⟨0, 0, none⟩) (n := L.length) (m := 0) (k := .i64) (c := ((i : Nat) : Int)) (j := i) (o := i * 3) (by kernel_rfl) (by kernel_rfl) ti22 ti46 (rfl) (by omega) (by exact Nat.zero_add _)) ?_
        refine rOp (v := .agg #[vI ((L.getD i default).x), vI ((L.getD i default).y), vI ((L.getD i default).z)]) (H' := [some ⟨a3s L, 46, false, false⟩, rB [vI x, vI y, vI z, vS 0 L.length] 29]) (by kernel_rfl) (eLdA3 (ad := ⟨0, i * 3, none⟩) (r := ⟨a3s L, 46, false, false⟩) (L := L) (j := i) (by kernel_rfl) (by kernel_rfl) rfl (by first | rfl | omega) (by omega) ti46) ?_
        refine segEnd [1, 2, 3, 4, 10, 11, 12, 13] (T1 := (mkT 38 [(1, vP 1 0), (2, .bool false), (3, vN i), (4, vP 2 0), (10, vS 0 L.length), (11, vN L.length), (12, vN i), (13, .bool true)])) (H1 := [some ⟨a3s L, 46, false, false⟩, rB [vI x, vI y, vI z, vS 0 L.length] 29, rB [vI ((L.getD i default).x), vI ((L.getD i default).y), vI ((L.getD i default).z)] 46]) (by kernel_rfl) ?_
        refine kSeq ?_
        refine cSeq ?_
        refine cRegD (by kernel_rfl) ?_
        refine segD 1 (T1 := (mkT 38 [(1, vP 1 0), (2, .bool false), (3, vN i), (4, vP 2 0), (10, vS 0 L.length), (11, vN L.length), (12, vN i), (13, .bool true), (17, .agg #[vI x, vI y, vI z, vS 0 L.length])])) (H1 := [some ⟨a3s L, 46, false, false⟩, rB [vI x, vI y, vI z, vS 0 L.length] 29, rB [vI ((L.getD i default).x), vI ((L.getD i default).y), vI ((L.getD i default).z)] 46]) (by kernel_rfl) ?_
        refine rCallQ (v := .agg #[vI x, vI y, vI z]) (args := [.agg #[vI x, vI y, vI z, vS 0 L.length]]) (by kernel_rfl) rfl (by kernel_rfl) (by kernel_rfl) (by kernel_rfl) (Quiet.reads1 (r := ⟨a3s L, 46, false, false⟩) 0 false (box_ok x y z L) (flatA3 _ _ _ _) rfl rfl rfl (by first | rfl | simp [mpV, mpA, mpS, mpP, renId, shift]) rfl rfl) ?_
        refine segD 1 (T1 := (mkT 38 [(1, vP 1 0), (2, .bool false), (3, vN i), (4, vP 2 0), (10, vS 0 L.length), (11, vN L.length), (12, vN i), (13, .bool true), (17, .agg #[vI x, vI y, vI z, vS 0 L.length]), (18, .agg #[vI x, vI y, vI z]), (19, .agg #[vI ((L.getD i default).x), vI ((L.getD i default).y), vI ((L.getD i default).z)])])) (H1 := [some ⟨a3s L, 46, false, false⟩, rB [vI x, vI y, vI z, vS 0 L.length] 29, rB [vI ((L.getD i default).x), vI ((L.getD i default).y), vI ((L.getD i default).z)] 46]) (by kernel_rfl) ?_
        refine rCallQ (v := .bool (has3 x y z ((L.getD i default).x) ((L.getD i default).y) ((L.getD i default).z))) (args := [.agg #[vI x, vI y, vI z], .agg #[vI ((L.getD i default).x), vI ((L.getD i default).y), vI ((L.getD i default).z)]]) (by kernel_rfl) rfl (by kernel_rfl) (by kernel_rfl) (by kernel_rfl) (Quiet.flat (has_ok x y z ((L.getD i default).x) ((L.getD i default).y) ((L.getD i default).z) (by omega)) rfl rfl) ?_
        refine segD 2 (T1 := (mkT 38 [(1, vP 1 0), (2, .bool false), (3, vN i), (4, vP 2 0), (10, vS 0 L.length), (11, vN L.length), (12, vN i), (13, .bool true), (17, .agg #[vI x, vI y, vI z, vS 0 L.length]), (18, .agg #[vI x, vI y, vI z]), (19, .agg #[vI ((L.getD i default).x), vI ((L.getD i default).y), vI ((L.getD i default).z)]), (20, .bool (has3 x y z ((L.getD i default).x) ((L.getD i default).y) ((L.getD i default).z))), (21, .bool (!(has3 x y z ((L.getD i default).x) ((L.getD i default).y) ((L.getD i default).z)))), (22, .bool (!(has3 x y z ((L.getD i default).x) ((L.getD i default).y) ((L.getD i default).z))))])) (H1 := [some ⟨a3s L, 46, false, false⟩, rB [vI x, vI y, vI z, vS 0 L.length] 29, rB [vI ((L.getD i default).x), vI ((L.getD i default).y), vI ((L.getD i default).z)] 46]) (by kernel_rfl) ?_
        cases h3 : (has3 x y z ((L.getD i default).x) ((L.getD i default).y) ((L.getD i default).z) : Bool)
        ·
          (try simp only [lexC_neg] at h3)
          (try simp only [Bool.not_eq_true', Bool.not_eq_false', decide_eq_true_eq, decide_eq_false_iff_not, beq_iff_eq, bne_iff_ne, beq_eq_false_iff_ne, bne_eq_false_iff_eq, ne_eq, Decidable.not_not, Bool.and_eq_true, Bool.and_eq_false_imp, Bool.or_eq_true, Bool.or_eq_false_iff, Bool.not_eq_true, Int.not_lt, Int.not_le, ge_iff_le, gt_iff_lt] at h3)
          refine segEndD [1, 2, 3, 4, 10, 11, 12, 13, 36] (T1 := (mkT 38 [(1, vP 1 0), (2, .bool false), (3, vN i), (4, vP 2 0), (10, vS 0 L.length), (11, vN L.length), (12, vN i), (13, .bool true), (36, .bool true)])) (H1 := [some ⟨a3s L, 46, false, false⟩, rB [vI x, vI y, vI z, vS 0 L.length] 29, rB [vI ((L.getD i default).x), vI ((L.getD i default).y), vI ((L.getD i default).z)] 46]) (by kernel_rfl) ?_
          refine kSeq ?_
          refine cTrue (by kernel_rfl) ?_
          refine cSeq ?_
          refine cReg ?_
          refine segEnd [1, 2, 3, 4, 10, 11, 12, 13, 36] (T1 := (mkT 38 [(1, vP 1 0), (2, .bool false), (3, vN i), (4, vP 2 0), (10, vS 0 L.length), (11, vN L.length), (12, vN i), (13, .bool true), (36, .bool true)])) (H1 := [some ⟨a3s L, 46, false, false⟩, rB [vI x, vI y, vI z, vS 0 L.length] 29, rB [vI ((L.getD i default).x), vI ((L.getD i default).y), vI ((L.getD i default).z)] 46]) (by kernel_rfl) ?_
          refine kSeq ?_
          refine cRet ?_
          refine kBlkR ?_
          refine kSeqR ?_
          refine kLoopR ?_
          refine kBlkR ?_
          refine kSeqR ?_
          exact endQ (Or.inr rfl) (l := [.bool false]) [rB [vI x, vI y, vI z, vS 0 L.length] 29, rB [vI ((L.getD i default).x), vI ((L.getD i default).y), vI ((L.getD i default).z)] 46] (by kernel_rfl) (congrArg Value.bool (by first | exact notHeap0 (by assumption) | exact heapYes (by assumption) ho (by omega) | exact notHeap1 (i := i) (by omega) (by assumption) | exact notHeap2 (i := i) (by omega) (by omega) (by assumption))) rfl rfl hcl rfl
        ·
          (try simp only [lexC_neg] at h3)
          (try simp only [Bool.not_eq_true', Bool.not_eq_false', decide_eq_true_eq, decide_eq_false_iff_not, beq_iff_eq, bne_iff_ne, beq_eq_false_iff_ne, bne_eq_false_iff_eq, ne_eq, Decidable.not_not, Bool.and_eq_true, Bool.and_eq_false_imp, Bool.or_eq_true, Bool.or_eq_false_iff, Bool.not_eq_true, Int.not_lt, Int.not_le, ge_iff_le, gt_iff_lt] at h3)
          refine segD 3 (T1 := (mkT 38 [(1, vP 1 0), (2, .bool false), (3, vN i), (4, vP 2 0), (10, vS 0 L.length), (11, vN L.length), (12, vN i), (13, .bool true), (17, .agg #[vI x, vI y, vI z, vS 0 L.length]), (18, .agg #[vI x, vI y, vI z]), (19, .agg #[vI ((L.getD i default).x), vI ((L.getD i default).y), vI ((L.getD i default).z)]), (20, .bool true), (21, .bool false), (22, .bool false), (23, vN i), (24, .bool (decide (((i : Nat) : Int) > 0))), (25, .bool (decide (((i : Nat) : Int) > 0)))])) (H1 := [some ⟨a3s L, 46, false, false⟩, rB [vI x, vI y, vI z, vS 0 L.length] 29, rB [vI ((L.getD i default).x), vI ((L.getD i default).y), vI ((L.getD i default).z)] 46]) (by kernel_rfl) ?_
          cases h4 : (decide (((i : Nat) : Int) > 0) : Bool)
          ·
            (try simp only [lexC_neg] at h4)
            (try simp only [Bool.not_eq_true', Bool.not_eq_false', decide_eq_true_eq, decide_eq_false_iff_not, beq_iff_eq, bne_iff_ne, beq_eq_false_iff_ne, bne_eq_false_iff_eq, ne_eq, Decidable.not_not, Bool.and_eq_true, Bool.and_eq_false_imp, Bool.or_eq_true, Bool.or_eq_false_iff, Bool.not_eq_true, Int.not_lt, Int.not_le, ge_iff_le, gt_iff_lt] at h4)
            refine segEndD [1, 2, 3, 4, 10, 11, 12, 13, 36] (T1 := (mkT 38 [(1, vP 1 0), (2, .bool false), (3, vN i), (4, vP 2 0), (10, vS 0 L.length), (11, vN L.length), (12, vN i), (13, .bool true), (36, .bool false)])) (H1 := [some ⟨a3s L, 46, false, false⟩, rB [vI x, vI y, vI z, vS 0 L.length] 29, rB [vI ((L.getD i default).x), vI ((L.getD i default).y), vI ((L.getD i default).z)] 46]) (by kernel_rfl) ?_
            refine kSeq ?_
            refine cFalse (by kernel_rfl) ?_
            refine cSkip ?_
            refine kBlk ?_
            refine kSeq ?_
            refine cReg ?_
            refine rOp (v := vN (i + 1)) (H' := [some ⟨a3s L, 46, false, false⟩, rB [vI x, vI y, vI z, vS 0 L.length] 29, rB [vI ((L.getD i default).x), vI ((L.getD i default).y), vI ((L.getD i default).z)] 46]) (by kernel_rfl) (eAdd (k := .i64) (a := ((i : Nat) : Int)) (b := 1) (c := ((i + 1 : Nat) : Int)) (by kernel_rfl) (by kernel_rfl) (wr64 (by omega) (by omega) (by omega))) ?_
            refine segEnd [1, 2, 3, 4, 10, 11, 12, 13, 36] (T1 := (mkT 38 [(1, vP 1 0), (2, .bool false), (3, vN i), (4, vP 2 0), (10, vS 0 L.length), (11, vN L.length), (12, vN (i + 1)), (13, .bool true), (36, .bool false)])) (H1 := [some ⟨a3s L, 46, false, false⟩, rB [vI x, vI y, vI z, vS 0 L.length] 29, rB [vI ((L.getD i default).x), vI ((L.getD i default).y), vI ((L.getD i default).z)] 46]) (by kernel_rfl) ?_
            exact kLoop (L.length - (i + 1)) (mkT 38 [(1, vP 1 0), (2, .bool false), (10, vS 0 L.length), (11, vN L.length), (12, vN (i + 1))]) [some ⟨a3s L, 46, false, false⟩, rB [vI x, vI y, vI z, vS 0 L.length] 29] (by omega) (wkDrop [1, 2, 10, 11, 12] _ rfl rfl ((closedL ⟨clF (flatA3 _ _ _ _), ⟨clX rfl, trivial⟩⟩)) (by kernel_rfl) rfl) ⟨(i + 1), (by omega), (by first | exact okTo_step ho (by assumption) (Or.inr (by assumption)) | exact okTo_step ho (by assumption) (Or.inl (by omega))), rfl, rfl, rfl⟩
          ·
            (try simp only [lexC_neg] at h4)
            (try simp only [Bool.not_eq_true', Bool.not_eq_false', decide_eq_true_eq, decide_eq_false_iff_not, beq_iff_eq, bne_iff_ne, beq_eq_false_iff_ne, bne_eq_false_iff_eq, ne_eq, Decidable.not_not, Bool.and_eq_true, Bool.and_eq_false_imp, Bool.or_eq_true, Bool.or_eq_false_iff, Bool.not_eq_true, Int.not_lt, Int.not_le, ge_iff_le, gt_iff_lt] at h4)
            refine segD 3 (T1 := (mkT 38 [(1, vP 1 0), (2, .bool false), (3, vN i), (4, vP 2 0), (10, vS 0 L.length), (11, vN L.length), (12, vN i), (13, .bool true), (17, .agg #[vI x, vI y, vI z, vS 0 L.length]), (18, .agg #[vI x, vI y, vI z]), (19, .agg #[vI ((L.getD i default).x), vI ((L.getD i default).y), vI ((L.getD i default).z)]), (20, .bool true), (21, .bool false), (22, .bool false), (23, vN i), (24, .bool true), (25, .bool true), (26, vP 1 3), (27, vS 0 L.length), (28, vN i)])) (H1 := [some ⟨a3s L, 46, false, false⟩, rB [vI x, vI y, vI z, vS 0 L.length] 29, rB [vI ((L.getD i default).x), vI ((L.getD i default).y), vI ((L.getD i default).z)] 46]) (by kernel_rfl) ?_
            refine rOpD (v := vN (i - 1)) (H' := [some ⟨a3s L, 46, false, false⟩, rB [vI x, vI y, vI z, vS 0 L.length] 29, rB [vI ((L.getD i default).x), vI ((L.getD i default).y), vI ((L.getD i default).z)] 46]) (by kernel_rfl) (eSub (k := .i64) (a := ((i : Nat) : Int)) (b := 1) (c := ((i - 1 : Nat) : Int)) (by kernel_rfl) (by kernel_rfl)  (wr64 (by omega) (by omega) (by omega))) (by rfl) ?_
            refine rOpD (v := vP 0 ((i - 1) * 3)) (H' := [some ⟨a3s L, 46, false, false⟩, rB [vI x, vI y, vI z, vS 0 L.length] 29, rB [vI ((L.getD i default).x), vI ((L.getD i default).y), vI ((L.getD i default).z)] 46]) (by kernel_rfl) (eIdxS (ad := ⟨0, 0, none⟩) (n := L.length) (m := 0) (k := .i64) (c := ((i - 1 : Nat) : Int)) (j := (i - 1)) (o := (i - 1) * 3) (by kernel_rfl) (by kernel_rfl) ti22 ti46 (rfl) (by omega) (by exact Nat.zero_add _)) (by rfl) ?_
            refine rOpD (v := .agg #[vI ((L.getD (i - 1) default).x), vI ((L.getD (i - 1) default).y), vI ((L.getD (i - 1) default).z)]) (H' := [some ⟨a3s L, 46, false, false⟩, rB [vI x, vI y, vI z, vS 0 L.length] 29, rB [vI ((L.getD i default).x), vI ((L.getD i default).y), vI ((L.getD i default).z)] 46]) (by kernel_rfl) (eLdA3 (ad := ⟨0, (i - 1) * 3, none⟩) (r := ⟨a3s L, 46, false, false⟩) (L := L) (j := (i - 1)) (by kernel_rfl) (by kernel_rfl) rfl (by first | rfl | omega) (by omega) ti46) (by rfl) ?_
            refine segD 1 (T1 := (mkT 38 [(1, vP 1 0), (2, .bool false), (3, vN i), (4, vP 2 0), (10, vS 0 L.length), (11, vN L.length), (12, vN i), (13, .bool true), (17, .agg #[vI x, vI y, vI z, vS 0 L.length]), (18, .agg #[vI x, vI y, vI z]), (19, .agg #[vI ((L.getD i default).x), vI ((L.getD i default).y), vI ((L.getD i default).z)]), (20, .bool true), (21, .bool false), (22, .bool false), (23, vN i), (24, .bool true), (25, .bool true), (26, vP 1 3), (27, vS 0 L.length), (28, vN i), (29, vN (i - 1)), (30, vP 0 ((i - 1) * 3)), (31, .agg #[vI ((L.getD (i - 1) default).x), vI ((L.getD (i - 1) default).y), vI ((L.getD (i - 1) default).z)]), (32, .agg #[vI ((L.getD i default).x), vI ((L.getD i default).y), vI ((L.getD i default).z)])])) (H1 := [some ⟨a3s L, 46, false, false⟩, rB [vI x, vI y, vI z, vS 0 L.length] 29, rB [vI ((L.getD i default).x), vI ((L.getD i default).y), vI ((L.getD i default).z)] 46]) (by kernel_rfl) ?_
            refine rCallQ (v := vI (lexC ((L.getD (i - 1) default).x) ((L.getD (i - 1) default).y) ((L.getD (i - 1) default).z) ((L.getD i default).x) ((L.getD i default).y) ((L.getD i default).z))) (args := [.agg #[vI ((L.getD (i - 1) default).x), vI ((L.getD (i - 1) default).y), vI ((L.getD (i - 1) default).z)], .agg #[vI ((L.getD i default).x), vI ((L.getD i default).y), vI ((L.getD i default).z)]]) (by kernel_rfl) rfl (by kernel_rfl) (by kernel_rfl) (by kernel_rfl) (Quiet.flat (compareCells_ok ((L.getD (i - 1) default).x) ((L.getD (i - 1) default).y) ((L.getD (i - 1) default).z) ((L.getD i default).x) ((L.getD i default).y) ((L.getD i default).z)) rfl rfl) ?_
            refine segEndD [1, 2, 3, 4, 10, 11, 12, 13, 36] (T1 := (mkT 38 [(1, vP 1 0), (2, .bool false), (3, vN i), (4, vP 2 0), (10, vS 0 L.length), (11, vN L.length), (12, vN i), (13, .bool true), (36, .bool (decide (lexC ((L.getD (i - 1) default).x) ((L.getD (i - 1) default).y) ((L.getD (i - 1) default).z) ((L.getD i default).x) ((L.getD i default).y) ((L.getD i default).z) ≥ 0)))])) (H1 := [some ⟨a3s L, 46, false, false⟩, rB [vI x, vI y, vI z, vS 0 L.length] 29, rB [vI ((L.getD i default).x), vI ((L.getD i default).y), vI ((L.getD i default).z)] 46]) (by kernel_rfl) ?_
            refine kSeq ?_
            cases h5 : (decide (lexC ((L.getD (i - 1) default).x) ((L.getD (i - 1) default).y) ((L.getD (i - 1) default).z) ((L.getD i default).x) ((L.getD i default).y) ((L.getD i default).z) ≥ 0) : Bool)
            ·
              (try simp only [lexC_neg] at h5)
              (try simp only [Bool.not_eq_true', Bool.not_eq_false', decide_eq_true_eq, decide_eq_false_iff_not, beq_iff_eq, bne_iff_ne, beq_eq_false_iff_ne, bne_eq_false_iff_eq, ne_eq, Decidable.not_not, Bool.and_eq_true, Bool.and_eq_false_imp, Bool.or_eq_true, Bool.or_eq_false_iff, Bool.not_eq_true, Int.not_lt, Int.not_le, ge_iff_le, gt_iff_lt] at h5)
              refine cFalse (by kernel_rfl) ?_
              refine cSkip ?_
              refine kBlk ?_
              refine kSeq ?_
              refine cReg ?_
              refine rOp (v := vN (i + 1)) (H' := [some ⟨a3s L, 46, false, false⟩, rB [vI x, vI y, vI z, vS 0 L.length] 29, rB [vI ((L.getD i default).x), vI ((L.getD i default).y), vI ((L.getD i default).z)] 46]) (by kernel_rfl) (eAdd (k := .i64) (a := ((i : Nat) : Int)) (b := 1) (c := ((i + 1 : Nat) : Int)) (by kernel_rfl) (by kernel_rfl) (wr64 (by omega) (by omega) (by omega))) ?_
              refine segEnd [1, 2, 3, 4, 10, 11, 12, 13, 36] (T1 := (mkT 38 [(1, vP 1 0), (2, .bool false), (3, vN i), (4, vP 2 0), (10, vS 0 L.length), (11, vN L.length), (12, vN (i + 1)), (13, .bool true), (36, .bool false)])) (H1 := [some ⟨a3s L, 46, false, false⟩, rB [vI x, vI y, vI z, vS 0 L.length] 29, rB [vI ((L.getD i default).x), vI ((L.getD i default).y), vI ((L.getD i default).z)] 46]) (by kernel_rfl) ?_
              exact kLoop (L.length - (i + 1)) (mkT 38 [(1, vP 1 0), (2, .bool false), (10, vS 0 L.length), (11, vN L.length), (12, vN (i + 1))]) [some ⟨a3s L, 46, false, false⟩, rB [vI x, vI y, vI z, vS 0 L.length] 29] (by omega) (wkDrop [1, 2, 10, 11, 12] _ rfl rfl ((closedL ⟨clF (flatA3 _ _ _ _), ⟨clX rfl, trivial⟩⟩)) (by kernel_rfl) rfl) ⟨(i + 1), (by omega), (by first | exact okTo_step ho (by assumption) (Or.inr (by assumption)) | exact okTo_step ho (by assumption) (Or.inl (by omega))), rfl, rfl, rfl⟩
            ·
              (try simp only [lexC_neg] at h5)
              (try simp only [Bool.not_eq_true', Bool.not_eq_false', decide_eq_true_eq, decide_eq_false_iff_not, beq_iff_eq, bne_iff_ne, beq_eq_false_iff_ne, bne_eq_false_iff_eq, ne_eq, Decidable.not_not, Bool.and_eq_true, Bool.and_eq_false_imp, Bool.or_eq_true, Bool.or_eq_false_iff, Bool.not_eq_true, Int.not_lt, Int.not_le, ge_iff_le, gt_iff_lt] at h5)
              refine cTrue (by kernel_rfl) ?_
              refine cSeq ?_
              refine cReg ?_
              refine segEnd [1, 2, 3, 4, 10, 11, 12, 13, 36] (T1 := (mkT 38 [(1, vP 1 0), (2, .bool false), (3, vN i), (4, vP 2 0), (10, vS 0 L.length), (11, vN L.length), (12, vN i), (13, .bool true), (36, .bool true)])) (H1 := [some ⟨a3s L, 46, false, false⟩, rB [vI x, vI y, vI z, vS 0 L.length] 29, rB [vI ((L.getD i default).x), vI ((L.getD i default).y), vI ((L.getD i default).z)] 46]) (by kernel_rfl) ?_
              refine kSeq ?_
              refine cRet ?_
              refine kBlkR ?_
              refine kSeqR ?_
              refine kLoopR ?_
              refine kBlkR ?_
              refine kSeqR ?_
              exact endQ (Or.inr rfl) (l := [.bool false]) [rB [vI x, vI y, vI z, vS 0 L.length] 29, rB [vI ((L.getD i default).x), vI ((L.getD i default).y), vI ((L.getD i default).z)] 46] (by kernel_rfl) (congrArg Value.bool (by first | exact notHeap0 (by assumption) | exact heapYes (by assumption) ho (by omega) | exact notHeap1 (i := i) (by omega) (by assumption) | exact notHeap2 (i := i) (by omega) (by omega) (by assumption))) rfl rfl hcl rfl
set_option maxRecDepth 100000 in
set_option maxHeartbeats 4000000 in
theorem toA3_ok (a b c : Int) : Sound Try.prog 26 [.agg #[vI a, vI b, vI c]] [] (.agg #[vI a, vI b, vI c]) [] := by
  refine sound_intro (C := cx) Try.func26 rfl (by kernel_rfl) fun hcl => ?_
  refine cSeq ?_
  refine cReg ?_
  refine segEnd [0, 1, 2] (T1 := (mkT 15 [(0, .agg #[vI a, vI b, vI c]), (1, vP 0 0), (2, vP 1 0)])) (H1 := [rB [vI a, vI b, vI c] 46, rB [vI 0, vI 0, vI 0] 46]) (by kernel_rfl) ?_
  refine kSeq ?_
  refine cSeq ?_
  refine cReg ?_
  refine segEnd [0, 1, 2, 3] (T1 := (mkT 15 [(0, .agg #[vI a, vI b, vI c]), (1, vP 0 0), (2, vP 1 0), (3, vP 2 0)])) (H1 := [rB [vI a, vI b, vI c] 46, rB [vI 0, vI 0, vI 0] 46, rB [vI 0, vI 0, vI 0] 46]) (by kernel_rfl) ?_
  refine kSeq ?_
  refine cSeq ?_
  refine cSeq ?_
  refine cReg ?_
  refine segEnd [0, 1, 2, 3, 4] (T1 := (mkT 15 [(0, .agg #[vI a, vI b, vI c]), (1, vP 0 0), (2, vP 1 0), (3, vP 2 0), (4, vI 0)])) (H1 := [rB [vI a, vI b, vI c] 46, rB [vI 0, vI 0, vI 0] 46, rB [vI 0, vI 0, vI 0] 46]) (by kernel_rfl) ?_
  refine kSeq ?_
  refine cBlk ?_
  refine cLoop (fun mm T H => ∃ i : Nat, (i ≤ 3) ∧ mm = 3 - i ∧ T = (mkT 15 [(1, vP 0 0), (2, vP 1 0), (3, vP 2 0), (4, vN i)]) ∧ H = [rB [vI a, vI b, vI c] 46, rB [vI 0, vI 0, vI 0] 46, rB [vI (if 0 < i then a else 0), vI (if 1 < i then b else 0), vI (if 2 < i then c else 0)] 46]) (3 - 0) (mkT 15 [(1, vP 0 0), (2, vP 1 0), (3, vP 2 0), (4, vI 0)]) [rB [vI a, vI b, vI c] 46, rB [vI 0, vI 0, vI 0] 46, rB [vI 0, vI 0, vI 0] 46] (wkSame [1, 2, 3, 4] (by kernel_rfl)) ?_ ?_
  · exact ⟨0, (Nat.zero_le _), rfl, rfl, rfl⟩
  · rintro _ _ _ ⟨i, hi, rfl, rfl, rfl⟩
    have hcase : i = 0 ∨ i = 1 ∨ i = 2 ∨ i = 3 := by omega
    rcases hcase with rfl | rfl | rfl | rfl
    ·
      refine cSeq ?_
      refine cSeq ?_
      refine cReg ?_
      refine segEnd [1, 2, 3, 4, 6] (T1 := (mkT 15 [(1, vP 0 0), (2, vP 1 0), (3, vP 2 0), (4, vI 0), (6, .bool true)])) (H1 := [rB [vI a, vI b, vI c] 46, rB [vI 0, vI 0, vI 0] 46, rB [vI 0, vI 0, vI 0] 46]) (by kernel_rfl) ?_
      refine kSeq ?_
      refine cTrue (by kernel_rfl) ?_
      refine cSkip ?_
      refine kSeq ?_
      refine cSeq ?_
      refine cBlk ?_
      refine cReg ?_
      refine segEnd [1, 2, 3, 4, 6] (T1 := (mkT 15 [(1, vP 0 0), (2, vP 1 0), (3, vP 2 0), (4, vI 0), (6, .bool true)])) (H1 := [rB [vI a, vI b, vI c] 46, rB [vI 0, vI 0, vI 0] 46, rB [vI a, vI 0, vI 0] 46]) (by kernel_rfl) ?_
      refine kBlk ?_
      refine kSeq ?_
      refine cReg ?_
      refine segEnd [1, 2, 3, 4, 6] (T1 := (mkT 15 [(1, vP 0 0), (2, vP 1 0), (3, vP 2 0), (4, vI 1), (6, .bool true)])) (H1 := [rB [vI a, vI b, vI c] 46, rB [vI 0, vI 0, vI 0] 46, rB [vI a, vI 0, vI 0] 46]) (by kernel_rfl) ?_
      exact kLoop (3 - 1) (mkT 15 [(1, vP 0 0), (2, vP 1 0), (3, vP 2 0), (4, vI 1)]) [rB [vI a, vI b, vI c] 46, rB [vI 0, vI 0, vI 0] 46, rB [vI a, vI 0, vI 0] 46] (by omega) (wkSame [1, 2, 3, 4] (by kernel_rfl)) ⟨1, (by omega), rfl, rfl, rfl⟩
    ·
      refine cSeq ?_
      refine cSeq ?_
      refine cReg ?_
      refine segEnd [1, 2, 3, 4, 6] (T1 := (mkT 15 [(1, vP 0 0), (2, vP 1 0), (3, vP 2 0), (4, vI 1), (6, .bool true)])) (H1 := [rB [vI a, vI b, vI c] 46, rB [vI 0, vI 0, vI 0] 46, rB [vI a, vI 0, vI 0] 46]) (by kernel_rfl) ?_
      refine kSeq ?_
      refine cTrue (by kernel_rfl) ?_
      refine cSkip ?_
      refine kSeq ?_
      refine cSeq ?_
      refine cBlk ?_
      refine cReg ?_
      refine segEnd [1, 2, 3, 4, 6] (T1 := (mkT 15 [(1, vP 0 0), (2, vP 1 0), (3, vP 2 0), (4, vI 1), (6, .bool true)])) (H1 := [rB [vI a, vI b, vI c] 46, rB [vI 0, vI 0, vI 0] 46, rB [vI a, vI b, vI 0] 46]) (by kernel_rfl) ?_
      refine kBlk ?_
      refine kSeq ?_
      refine cReg ?_
      refine segEnd [1, 2, 3, 4, 6] (T1 := (mkT 15 [(1, vP 0 0), (2, vP 1 0), (3, vP 2 0), (4, vI 2), (6, .bool true)])) (H1 := [rB [vI a, vI b, vI c] 46, rB [vI 0, vI 0, vI 0] 46, rB [vI a, vI b, vI 0] 46]) (by kernel_rfl) ?_
      exact kLoop (3 - 2) (mkT 15 [(1, vP 0 0), (2, vP 1 0), (3, vP 2 0), (4, vI 2)]) [rB [vI a, vI b, vI c] 46, rB [vI 0, vI 0, vI 0] 46, rB [vI a, vI b, vI 0] 46] (by omega) (wkSame [1, 2, 3, 4] (by kernel_rfl)) ⟨2, (by omega), rfl, rfl, rfl⟩
    ·
      refine cSeq ?_
      refine cSeq ?_
      refine cReg ?_
      refine segEnd [1, 2, 3, 4, 6] (T1 := (mkT 15 [(1, vP 0 0), (2, vP 1 0), (3, vP 2 0), (4, vI 2), (6, .bool true)])) (H1 := [rB [vI a, vI b, vI c] 46, rB [vI 0, vI 0, vI 0] 46, rB [vI a, vI b, vI 0] 46]) (by kernel_rfl) ?_
      refine kSeq ?_
      refine cTrue (by kernel_rfl) ?_
      refine cSkip ?_
      refine kSeq ?_
      refine cSeq ?_
      refine cBlk ?_
      refine cReg ?_
      refine segEnd [1, 2, 3, 4, 6] (T1 := (mkT 15 [(1, vP 0 0), (2, vP 1 0), (3, vP 2 0), (4, vI 2), (6, .bool true)])) (H1 := [rB [vI a, vI b, vI c] 46, rB [vI 0, vI 0, vI 0] 46, rB [vI a, vI b, vI c] 46]) (by kernel_rfl) ?_
      refine kBlk ?_
      refine kSeq ?_
      refine cReg ?_
      refine segEnd [1, 2, 3, 4, 6] (T1 := (mkT 15 [(1, vP 0 0), (2, vP 1 0), (3, vP 2 0), (4, vI 3), (6, .bool true)])) (H1 := [rB [vI a, vI b, vI c] 46, rB [vI 0, vI 0, vI 0] 46, rB [vI a, vI b, vI c] 46]) (by kernel_rfl) ?_
      exact kLoop (3 - 3) (mkT 15 [(1, vP 0 0), (2, vP 1 0), (3, vP 2 0), (4, vI 3)]) [rB [vI a, vI b, vI c] 46, rB [vI 0, vI 0, vI 0] 46, rB [vI a, vI b, vI c] 46] (by omega) (wkSame [1, 2, 3, 4] (by kernel_rfl)) ⟨3, (by omega), rfl, rfl, rfl⟩
    ·
      refine cSeq ?_
      refine cSeq ?_
      refine cReg ?_
      refine segEnd [1, 2, 3, 4, 6] (T1 := (mkT 15 [(1, vP 0 0), (2, vP 1 0), (3, vP 2 0), (4, vI 3), (6, .bool false)])) (H1 := [rB [vI a, vI b, vI c] 46, rB [vI 0, vI 0, vI 0] 46, rB [vI a, vI b, vI c] 46]) (by kernel_rfl) ?_
      refine kSeq ?_
      refine cFalse (by kernel_rfl) ?_
      refine cExit ?_
      refine kSeqE ?_
      refine kLoopE ?_
      refine kBlkHit ?_
      refine kSeq ?_
      refine cSeq ?_
      refine cReg ?_
      refine segEnd [1, 2, 3, 4, 6] (T1 := (mkT 15 [(1, vP 0 0), (2, vP 1 0), (3, vP 2 0), (4, vI 3), (6, .bool false)])) (H1 := [rB [vI a, vI b, vI c] 46, rB [vI a, vI b, vI c] 46, rB [vI a, vI b, vI c] 46]) (by kernel_rfl) ?_
      refine kSeq ?_
      refine cRet ?_
      exact endQ (Or.inr rfl) (l := [.agg #[vI a, vI b, vI c]]) [rB [vI a, vI b, vI c] 46, rB [vI a, vI b, vI c] 46, rB [vI a, vI b, vI c] 46] (by kernel_rfl) (rfl) rfl rfl hcl rfl
set_option maxRecDepth 100000 in
set_option maxHeartbeats 4000000 in
theorem toA3S_ok (L : List A3) (hL : L.length ≤ 1048576) : Sound Try.prog 16 [vS 0 L.length] [some ⟨a3s L, 46, false, false⟩] (vS 1 L.length) [some ⟨a3s L, 46, false, false⟩, some ⟨a3s L, 46, false, true⟩] := by
  refine sound_intro (C := cx) Try.func16 rfl (by kernel_rfl) fun hcl => ?_
  refine cSeq ?_
  refine cReg ?_
  refine segEnd [0, 2] (T1 := (mkT 23 [(0, vS 0 L.length), (2, .slice none 0 0)])) (H1 := [some ⟨a3s L, 46, false, false⟩]) (by kernel_rfl) ?_
  refine kSeq ?_
  refine cSeq ?_
  refine cReg ?_
  refine seg 2 (T1 := (mkT 23 [(0, vS 0 L.length), (2, .slice none 0 0), (5, vS 0 L.length), (6, vN L.length)])) (H1 := [some ⟨a3s L, 46, false, false⟩]) (by kernel_rfl) ?_
  refine rOp (v := vS 1 L.length) (H' := [some ⟨a3s L, 46, false, false⟩, some ⟨a3s (List.replicate L.length zero3), 46, false, true⟩]) (by kernel_rfl) (eMkA3 (n := L.length) (k := .i64) (k2 := .i64) (by kernel_rfl) (by kernel_rfl) ti22 ti46 rfl rfl (by decide) (by omega)) ?_
  refine segEnd [0, 2, 3] (T1 := (mkT 23 [(0, vS 0 L.length), (2, .slice none 0 0), (3, vS 1 L.length)])) (H1 := [some ⟨a3s L, 46, false, false⟩, some ⟨a3s (List.replicate L.length zero3), 46, false, true⟩]) (by kernel_rfl) ?_
  refine kSeq ?_
  refine cSeq ?_
  refine cSeq ?_
  refine cReg ?_
  refine segEnd [0, 2, 3, 4] (T1 := (mkT 23 [(0, vS 0 L.length), (2, .slice none 0 0), (3, vS 1 L.length), (4, vI 0)])) (H1 := [some ⟨a3s L, 46, false, false⟩, some ⟨a3s (List.replicate L.length zero3), 46, false, true⟩]) (by kernel_rfl) ?_
  refine kSeq ?_
  refine cBlk ?_
  refine cLoop (fun mm T H => ∃ j : Nat, ∃ L2 : List A3, (j ≤ L.length) ∧ (L2 = copied L j) ∧ mm = L.length - j ∧ T = (mkT 23 [(0, vS 0 L.length), (2, .slice none 0 0), (3, vS 1 L.length), (4, vN j)]) ∧ H = [some ⟨a3s L, 46, false, false⟩, some ⟨a3s L2, 46, false, true⟩]) (L.length - 0) (mkT 23 [(0, vS 0 L.length), (2, .slice none 0 0), (3, vS 1 L.length), (4, vI 0)]) [some ⟨a3s L, 46, false, false⟩, some ⟨a3s (List.replicate L.length zero3), 46, false, true⟩] (wkSame [0, 2, 3, 4] (by kernel_rfl)) ?_ ?_
  · exact ⟨0, (List.replicate L.length zero3), (Nat.zero_le _), (by simp [copied]), rfl, rfl, rfl⟩
  · rintro _ _ _ ⟨j, L2, hj, hL2, rfl, rfl, rfl⟩
    have hlen : L2.length = L.length := (by rw [hL2]; exact copied_length L j hj)
    refine cSeq ?_
    refine cSeq ?_
    refine cReg ?_
    refine segEnd [0, 2, 3, 4, 11] (T1 := (mkT 23 [(0, vS 0 L.length), (2, .slice none 0 0), (3, vS 1 L.length), (4, vN j), (11, .bool (decide (((j : Nat) : Int) < ((L.length : Nat) : Int))))])) (H1 := [some ⟨a3s L, 46, false, false⟩, some ⟨a3s L2, 46, false, true⟩]) (by kernel_rfl) ?_
    refine kSeq ?_
    cases h1 : (decide (((j : Nat) : Int) < ((L.length : Nat) : Int)) : Bool)
    ·
      (try simp only [Bool.not_eq_true', Bool.not_eq_false', decide_eq_true_eq, decide_eq_false_iff_not, beq_iff_eq, bne_iff_ne, beq_eq_false_iff_ne, bne_eq_false_iff_eq, ne_eq, Decidable.not_not, Bool.and_eq_true, Bool.and_eq_false_imp, Bool.or_eq_true, Bool.or_eq_false_iff, Bool.not_eq_true, Int.not_lt, Int.not_le, ge_iff_le, gt_iff_lt] at h1)
      refine cFalse (by kernel_rfl) ?_
      refine cExit ?_
      refine kSeqE ?_
      refine kLoopE ?_
      refine kBlkHit ?_
      refine kSeq ?_
      refine cSeq ?_
      refine cReg ?_
      refine segEnd [0, 2, 3, 4, 11] (T1 := (mkT 23 [(0, vS 0 L.length), (2, vS 1 L.length), (3, vS 1 L.length), (4, vN j), (11, .bool false)])) (H1 := [some ⟨a3s L, 46, false, false⟩, some ⟨a3s L2, 46, false, true⟩]) (by kernel_rfl) ?_
      refine kSeq ?_
      refine cRet ?_
      have hend : j = L.length := (by omega)
      have hfin : L2 = L := (by rw [hL2, hend]; exact copied_all L)
      subst hfin
      exact endF (Or.inr rfl) (l := [vS 1 L2.length]) [0, 1] (by kernel_rfl) (by first | rfl | simp [packR, mpV, mpA, mpS, mpP, renId]) ⟨rrF (flatA3 _ _ _ _) rfl, ⟨rrF (flatA3 _ _ _ _) rfl, trivial⟩⟩ rfl rfl
    ·
      (try simp only [Bool.not_eq_true', Bool.not_eq_false', decide_eq_true_eq, decide_eq_false_iff_not, beq_iff_eq, bne_iff_ne, beq_eq_false_iff_ne, bne_eq_false_iff_eq, ne_eq, Decidable.not_not, Bool.and_eq_true, Bool.and_eq_false_imp, Bool.or_eq_true, Bool.or_eq_false_iff, Bool.not_eq_true, Int.not_lt, Int.not_le, ge_iff_le, gt_iff_lt] at h1)
      refine cTrue (by kernel_rfl) ?_
      refine cSkip ?_
      refine kSeq ?_
      refine cSeq ?_
      refine cBlk ?_
      refine cReg ?_
      refine seg 4 (T1 := (mkT 23 [(0, vS 0 L.length), (2, .slice none 0 0), (3, vS 1 L.length), (4, vN j), (11, .bool true), (14, vS 1 L.length), (15, vN j), (16, vS 0 L.length), (17, vN j)])) (H1 := [some ⟨a3s L, 46, false, false⟩, some ⟨a3s L2, 46, false, true⟩]) (by kernel_rfl) ?_
      refine rOp (v := vP 0 (j * 3)) (H' := [some ⟨a3s L, 46, false, false⟩, some ⟨a3s L2, 46, false, true⟩]) (by kernel_rfl) (eIdxS (ad := ⟨0, 0, none⟩) (n := L.length) (m := 0) (k := .i64) (c := ((j : Nat) : Int)) (j := j) (o := j * 3) (by kernel_rfl) (by kernel_rfl) ti22 ti46 (rfl) (by omega) (by exact Nat.zero_add _)) ?_
      refine rOp (v := .agg #[vI ((L.getD j default).x), vI ((L.getD j default).y), vI ((L.getD j default).z)]) (H' := [some ⟨a3s L, 46, false, false⟩, some ⟨a3s L2, 46, false, true⟩]) (by kernel_rfl) (eLdA3 (ad := ⟨0, j * 3, none⟩) (r := ⟨a3s L, 46, false, false⟩) (L := L) (j := j) (by kernel_rfl) (by kernel_rfl) rfl (by first | rfl | omega) (by omega) ti46) ?_
      refine rCall (v := .agg #[vI ((L.getD j default).x), vI ((L.getD j default).y), vI ((L.getD j default).z)]) (H' := [some ⟨a3s L, 46, false, false⟩, some ⟨a3s L2, 46, false, true⟩]) (args := [.agg #[vI ((L.getD j default).x), vI ((L.getD j default).y), vI ((L.getD j default).z)]]) (by kernel_rfl) rfl (by kernel_rfl) ((toA3_ok ((L.getD j default).x) ((L.getD j default).y) ((L.getD j default).z)).flat rfl rfl _) ?_
      refine rOp (v := vP 1 (j * 3)) (H' := [some ⟨a3s L, 46, false, false⟩, some ⟨a3s L2, 46, false, true⟩]) (by kernel_rfl) (eIdxS (ad := ⟨1, 0, none⟩) (n := L.length) (m := 0) (k := .i64) (c := ((j : Nat) : Int)) (j := j) (o := j * 3) (by kernel_rfl) (by kernel_rfl) ti22 ti46 (rfl) (by omega) (by exact Nat.zero_add _)) ?_
      refine rOp (v := .tuple #[]) (H' := [some ⟨a3s L, 46, false, false⟩, some ⟨a3s ((L2).set j (L.getD j default)), 46, false, true⟩]) (by kernel_rfl) (eStA3 (b := 1) (o := (j * 3)) (L := L2) (c := (L.getD j default)) (e := 46) (bx := false) (j := j) (by kernel_rfl) (by kernel_rfl) (by kernel_rfl) (by first | rfl | omega) (by omega) ti46 rfl (by rfl)) ?_
      refine segEnd [0, 2, 3, 4, 11] (T1 := (mkT 23 [(0, vS 0 L.length), (2, .slice none 0 0), (3, vS 1 L.length), (4, vN j), (11, .bool true)])) (H1 := [some ⟨a3s L, 46, false, false⟩, some ⟨a3s ((L2).set j (L.getD j default)), 46, false, true⟩]) (by kernel_rfl) ?_
      refine kBlk ?_
      refine kSeq ?_
      refine cReg ?_
      refine seg 1 (T1 := (mkT 23 [(0, vS 0 L.length), (2, .slice none 0 0), (3, vS 1 L.length), (4, vN j), (11, .bool true), (12, vN j)])) (H1 := [some ⟨a3s L, 46, false, false⟩, some ⟨a3s ((L2).set j (L.getD j default)), 46, false, true⟩]) (by kernel_rfl) ?_
      refine rOp (v := vN (j + 1)) (H' := [some ⟨a3s L, 46, false, false⟩, some ⟨a3s ((L2).set j (L.getD j default)), 46, false, true⟩]) (by kernel_rfl) (eAdd (k := .i64) (a := ((j : Nat) : Int)) (b := 1) (c := ((j + 1 : Nat) : Int)) (by kernel_rfl) (by kernel_rfl) (wr64 (by omega) (by omega) (by omega))) ?_
      refine segEnd [0, 2, 3, 4, 11] (T1 := (mkT 23 [(0, vS 0 L.length), (2, .slice none 0 0), (3, vS 1 L.length), (4, vN (j + 1)), (11, .bool true)])) (H1 := [some ⟨a3s L, 46, false, false⟩, some ⟨a3s ((L2).set j (L.getD j default)), 46, false, true⟩]) (by kernel_rfl) ?_
      exact kLoop (L.length - (j + 1)) (mkT 23 [(0, vS 0 L.length), (2, .slice none 0 0), (3, vS 1 L.length), (4, vN (j + 1))]) [some ⟨a3s L, 46, false, false⟩, some ⟨a3s ((L2).set j (L.getD j default)), 46, false, true⟩] (by omega) (wkSame [0, 2, 3, 4] (by kernel_rfl)) ⟨(j + 1), ((L2).set j (L.getD j default)), (by omega), (by rw [hL2]; exact copied_set L j (by omega)), rfl, rfl, rfl⟩
set_option maxRecDepth 100000 in
set_option maxHeartbeats 4000000 in
theorem toA3S_ok_nil  : Sound Try.prog 16 [.slice none 0 0] [] (vS 0 0) [some ⟨[], 46, false, true⟩] := by
  refine sound_intro (C := cx) Try.func16 rfl (by kernel_rfl) fun hcl => ?_
  refine cSeq ?_
  refine cReg ?_
  refine segEnd [0, 2] (T1 := (mkT 23 [(0, .slice none 0 0), (2, .slice none 0 0)])) (H1 := []) (by kernel_rfl) ?_
  refine kSeq ?_
  refine cSeq ?_
  refine cReg ?_
  refine seg 2 (T1 := (mkT 23 [(0, .slice none 0 0), (2, .slice none 0 0), (5, .slice none 0 0), (6, vI 0)])) (H1 := []) (by kernel_rfl) ?_
  refine rOp (v := vS 0 0) (H' := [some ⟨a3s (List.replicate 0 zero3), 46, false, true⟩]) (by kernel_rfl) (eMkA3 (n := 0) (k := .i64) (k2 := .i64) (by kernel_rfl) (by kernel_rfl) ti22 ti46 rfl rfl (by decide) (by omega)) ?_
  refine segEnd [0, 2, 3] (T1 := (mkT 23 [(0, .slice none 0 0), (2, .slice none 0 0), (3, vS 0 0)])) (H1 := [some ⟨a3s (List.replicate 0 zero3), 46, false, true⟩]) (by kernel_rfl) ?_
  refine kSeq ?_
  refine cSeq ?_
  refine cSeq ?_
  refine cReg ?_
  refine segEnd [0, 2, 3, 4] (T1 := (mkT 23 [(0, .slice none 0 0), (2, .slice none 0 0), (3, vS 0 0), (4, vI 0)])) (H1 := [some ⟨a3s (List.replicate 0 zero3), 46, false, true⟩]) (by kernel_rfl) ?_
  refine kSeq ?_
  refine cBlk ?_
  refine cLoop (fun mm T H => mm = 0 ∧ T = (mkT 23 [(0, .slice none 0 0), (2, .slice none 0 0), (3, vS 0 0), (4, vI 0)]) ∧ H = [some ⟨a3s (List.replicate 0 zero3), 46, false, true⟩]) (0) (mkT 23 [(0, .slice none 0 0), (2, .slice none 0 0), (3, vS 0 0), (4, vI 0)]) [some ⟨a3s (List.replicate 0 zero3), 46, false, true⟩] (wkSame [0, 2, 3, 4] (by kernel_rfl)) ?_ ?_
  · exact ⟨rfl, rfl, rfl⟩
  · rintro _ _ _ ⟨rfl, rfl, rfl⟩
    refine cSeq ?_
    refine cSeq ?_
    refine cReg ?_
    refine segEnd [0, 2, 3, 4, 11] (T1 := (mkT 23 [(0, .slice none 0 0), (2, .slice none 0 0), (3, vS 0 0), (4, vI 0), (11, .bool false)])) (H1 := [some ⟨a3s (List.replicate 0 zero3), 46, false, true⟩]) (by kernel_rfl) ?_
    refine kSeq ?_
    refine cFalse (by kernel_rfl) ?_
    refine cExit ?_
    refine kSeqE ?_
    refine kLoopE ?_
    refine kBlkHit ?_
    refine kSeq ?_
    refine cSeq ?_
    refine cReg ?_
    refine segEnd [0, 2, 3, 4, 11] (T1 := (mkT 23 [(0, .slice none 0 0), (2, vS 0 0), (3, vS 0 0), (4, vI 0), (11, .bool false)])) (H1 := [some ⟨a3s (List.replicate 0 zero3), 46, false, true⟩]) (by kernel_rfl) ?_
    refine kSeq ?_
    refine cRet ?_
    exact endF (Or.inr rfl) (l := [vS 0 0]) [0] (by kernel_rfl) (by first | rfl | simp [packR, mpV, mpA, mpS, mpP, renId]) ⟨rrX rfl rfl, trivial⟩ rfl rfl
set_option maxRecDepth 100000 in
set_option maxHeartbeats 4000000 in
theorem toHeap_ok (x y z : Int) (L : List A3) (hL : L.length ≤ 1048576) : Sound Try.prog 7 [.agg #[vI x, vI y, vI z, vS 0 L.length]] [some ⟨a3s L, 46, false, false⟩] (.agg #[vI x, vI y, vI z, vS 1 L.length]) [some ⟨a3s L, 46, false, false⟩, some ⟨a3s L, 46, false, true⟩] := by
  refine sound_intro (C := cx) Try.func7 rfl (by kernel_rfl) fun hcl => ?_
  refine cSeq ?_
  refine cReg ?_
  refine segEnd [0, 1, 2] (T1 := (mkT 18 [(0, .agg #[vI x, vI y, vI z, vS 0 L.length]), (1, vP 1 0), (2, vP 2 0)])) (H1 := [some ⟨a3s L, 46, false, false⟩, rB [vI x, vI y, vI z, vS 0 L.length] 24, rB [vI 0, vI 0, vI 0, .slice none 0 0] 29]) (by kernel_rfl) ?_
  refine kSeq ?_
  refine cSeq ?_
  refine cReg ?_
  refine segEnd [0, 1, 2, 3] (T1 := (mkT 18 [(0, .agg #[vI x, vI y, vI z, vS 0 L.length]), (1, vP 1 0), (2, vP 2 0), (3, vP 3 0)])) (H1 := [some ⟨a3s L, 46, false, false⟩, rB [vI x, vI y, vI z, vS 0 L.length] 24, rB [vI 0, vI 0, vI 0, .slice none 0 0] 29, rB [vI 0, vI 0, vI 0, .slice none 0 0] 29]) (by kernel_rfl) ?_
  refine kSeq ?_
  refine cSeq ?_
  refine cReg ?_
  refine segEnd [0, 1, 2, 3] (T1 := (mkT 18 [(0, .agg #[vI x, vI y, vI z, vS 0 L.length]), (1, vP 1 0), (2, vP 2 0), (3, vP 3 0)])) (H1 := [some ⟨a3s L, 46, false, false⟩, rB [vI x, vI y, vI z, vS 0 L.length] 24, rB [vI 0, vI 0, vI 0, .slice none 0 0] 29, rB [vI x, vI 0, vI 0, .slice none 0 0] 29]) (by kernel_rfl) ?_
  refine kSeq ?_
  refine cSeq ?_
  refine cReg ?_
  refine segEnd [0, 1, 2, 3] (T1 := (mkT 18 [(0, .agg #[vI x, vI y, vI z, vS 0 L.length]), (1, vP 1 0), (2, vP 2 0), (3, vP 3 0)])) (H1 := [some ⟨a3s L, 46, false, false⟩, rB [vI x, vI y, vI z, vS 0 L.length] 24, rB [vI 0, vI 0, vI 0, .slice none 0 0] 29, rB [vI x, vI y, vI 0, .slice none 0 0] 29]) (by kernel_rfl) ?_
  refine kSeq ?_
  refine cSeq ?_
  refine cReg ?_
  refine segEnd [0, 1, 2, 3] (T1 := (mkT 18 [(0, .agg #[vI x, vI y, vI z, vS 0 L.length]), (1, vP 1 0), (2, vP 2 0), (3, vP 3 0)])) (H1 := [some ⟨a3s L, 46, false, false⟩, rB [vI x, vI y, vI z, vS 0 L.length] 24, rB [vI 0, vI 0, vI 0, .slice none 0 0] 29, rB [vI x, vI y, vI z, .slice none 0 0] 29]) (by kernel_rfl) ?_
  refine kSeq ?_
  refine cSeq ?_
  refine cReg ?_
  refine seg 2 (T1 := (mkT 18 [(0, .agg #[vI x, vI y, vI z, vS 0 L.length]), (1, vP 1 0), (2, vP 2 0), (3, vP 3 0), (13, vP 1 3), (14, vS 0 L.length)])) (H1 := [some ⟨a3s L, 46, false, false⟩, rB [vI x, vI y, vI z, vS 0 L.length] 24, rB [vI 0, vI 0, vI 0, .slice none 0 0] 29, rB [vI x, vI y, vI z, .slice none 0 0] 29]) (by kernel_rfl) ?_
  refine rCall (v := vS 4 L.length) (H' := [some ⟨a3s L, 46, false, false⟩, rB [vI x, vI y, vI z, vS 0 L.length] 24, rB [vI 0, vI 0, vI 0, .slice none 0 0] 29, rB [vI x, vI y, vI z, .slice none 0 0] 29, some ⟨a3s L, 46, false, true⟩]) (args := [vS 0 L.length]) (by kernel_rfl) rfl (by kernel_rfl) (Sound.reads1F (r := ⟨a3s L, 46, false, false⟩) (r2 := ⟨a3s L, 46, false, true⟩) 0 false (toA3S_ok L (by first | omega | (simp only [allOf_length, List.length_nil, mk3_length]; omega))) (flatA3 _ _ _ _) (flatA3 _ _ _ _) rfl rfl rfl rfl (by first | rfl | simp [mpV, mpA, mpS, mpP, renId, shift]) (by first | rfl | simp [mpV, mpA, mpS, mpP, renId, shift])) ?_
  refine segEnd [0, 1, 2, 3] (T1 := (mkT 18 [(0, .agg #[vI x, vI y, vI z, vS 0 L.length]), (1, vP 1 0), (2, vP 2 0), (3, vP 3 0)])) (H1 := [some ⟨a3s L, 46, false, false⟩, rB [vI x, vI y, vI z, vS 0 L.length] 24, rB [vI 0, vI 0, vI 0, .slice none 0 0] 29, rB [vI x, vI y, vI z, vS 4 L.length] 29, some ⟨a3s L, 46, false, true⟩]) (by kernel_rfl) ?_
  refine kSeq ?_
  refine cSeq ?_
  refine cReg ?_
  refine segEnd [0, 1, 2, 3] (T1 := (mkT 18 [(0, .agg #[vI x, vI y, vI z, vS 0 L.length]), (1, vP 1 0), (2, vP 2 0), (3, vP 3 0)])) (H1 := [some ⟨a3s L, 46, false, false⟩, rB [vI x, vI y, vI z, vS 0 L.length] 24, rB [vI x, vI y, vI z, vS 4 L.length] 29, rB [vI x, vI y, vI z, vS 4 L.length] 29, some ⟨a3s L, 46, false, true⟩]) (by kernel_rfl) ?_
  refine kSeq ?_
  refine cRet ?_
  exact endF (Or.inr rfl) (l := [.agg #[vI x, vI y, vI z, vS 4 L.length]]) [0, 4] (by kernel_rfl) (by first | rfl | simp [packR, mpV, mpA, mpS, mpP, renId]) ⟨rrF (flatA3 _ _ _ _) rfl, ⟨rrF (flatA3 _ _ _ _) rfl, trivial⟩⟩ rfl rfl
set_option maxRecDepth 100000 in
set_option maxHeartbeats 4000000 in
theorem toHeap_ok_nil (x y z : Int) : Sound Try.prog 7 [.agg #[vI x, vI y, vI z, .slice none 0 0]] [] (.agg #[vI x, vI y, vI z, vS 0 0]) [some ⟨[], 46, false, true⟩] := by
  refine sound_intro (C := cx) Try.func7 rfl (by kernel_rfl) fun hcl => ?_
  refine cSeq ?_
  refine cReg ?_
  refine segEnd [0, 1, 2] (T1 := (mkT 18 [(0, .agg #[vI x, vI y, vI z, .slice none 0 0]), (1, vP 0 0), (2, vP 1 0)])) (H1 := [rB [vI x, vI y, vI z, .slice none 0 0] 24, rB [vI 0, vI 0, vI 0, .slice none 0 0] 29]) (by kernel_rfl) ?_
  refine kSeq ?_
  refine cSeq ?_
  refine cReg ?_
  refine segEnd [0, 1, 2, 3] (T1 := (mkT 18 [(0, .agg #[vI x, vI y, vI z, .slice none 0 0]), (1, vP 0 0), (2, vP 1 0), (3, vP 2 0)])) (H1 := [rB [vI x, vI y, vI z, .slice none 0 0] 24, rB [vI 0, vI 0, vI 0, .slice none 0 0] 29, rB [vI 0, vI 0, vI 0, .slice none 0 0] 29]) (by kernel_rfl) ?_
  refine kSeq ?_
  refine cSeq ?_
  refine cReg ?_
  refine segEnd [0, 1, 2, 3] (T1 := (mkT 18 [(0, .agg #[vI x, vI y, vI z, .slice none 0 0]), (1, vP 0 0), (2, vP 1 0), (3, vP 2 0)])) (H1 := [rB [vI x, vI y, vI z, .slice none 0 0] 24, rB [vI 0, vI 0, vI 0, .slice none 0 0] 29, rB [vI x, vI 0, vI 0, .slice none 0 0] 29]) (by kernel_rfl) ?_
  refine kSeq ?_
  refine cSeq ?_
  refine cReg ?_
  refine segEnd [0, 1, 2, 3] (T1 := (mkT 18 [(0, .agg #[vI x, vI y, vI z, .slice none 0 0]), (1, vP 0 0), (2, vP 1 0), (3, vP 2 0)])) (H1 := [rB [vI x, vI y, vI z, .slice none 0 0] 24, rB [vI 0, vI 0, vI 0, .slice none 0 0] 29, rB [vI x, vI y, vI 0, .slice none 0 0] 29]) (by kernel_rfl) ?_
  refine kSeq ?_
  refine cSeq ?_
  refine cReg ?_
  refine segEnd [0, 1, 2, 3] (T1 := (mkT 18 [(0, .agg #[vI x, vI y, vI z, .slice none 0 0]), (1, vP 0 0), (2, vP 1 0), (3, vP 2 0)])) (H1 := [rB [vI x, vI y, vI z, .slice none 0 0] 24, rB [vI 0, vI 0, vI 0, .slice none 0 0] 29, rB [vI x, vI y, vI z, .slice none 0 0] 29]) (by kernel_rfl) ?_
  refine kSeq ?_
  refine cSeq ?_
  refine cReg ?_
  refine seg 2 (T1 := (mkT 18 [(0, .agg #[vI x, vI y, vI z, .slice none 0 0]), (1, vP 0 0), (2, vP 1 0), (3, vP 2 0), (13, vP 0 3), (14, .slice none 0 0)])) (H1 := [rB [vI x, vI y, vI z, .slice none 0 0] 24, rB [vI 0, vI 0, vI 0, .slice none 0 0] 29, rB [vI x, vI y, vI z, .slice none 0 0] 29]) (by kernel_rfl) ?_
  refine rCall (v := vS 3 0) (H' := [rB [vI x, vI y, vI z, .slice none 0 0] 24, rB [vI 0, vI 0, vI 0, .slice none 0 0] 29, rB [vI x, vI y, vI z, .slice none 0 0] 29, some ⟨[], 46, false, true⟩]) (args := [.slice none 0 0]) (by kernel_rfl) rfl (by kernel_rfl) ((toA3S_ok_nil ).fresh rfl (FlatH.nil.cons (flatRow_of rfl)) (fun r h => by simp at h; subst h; exact Or.inl rfl) _ (by first | rfl | simp [mpV, mpA, mpS, mpP, renId, shift])) ?_
  refine segEnd [0, 1, 2, 3] (T1 := (mkT 18 [(0, .agg #[vI x, vI y, vI z, .slice none 0 0]), (1, vP 0 0), (2, vP 1 0), (3, vP 2 0)])) (H1 := [rB [vI x, vI y, vI z, .slice none 0 0] 24, rB [vI 0, vI 0, vI 0, .slice none 0 0] 29, rB [vI x, vI y, vI z, vS 3 0] 29, some ⟨[], 46, false, true⟩]) (by kernel_rfl) ?_
  refine kSeq ?_
  refine cSeq ?_
  refine cReg ?_
  refine segEnd [0, 1, 2, 3] (T1 := (mkT 18 [(0, .agg #[vI x, vI y, vI z, .slice none 0 0]), (1, vP 0 0), (2, vP 1 0), (3, vP 2 0)])) (H1 := [rB [vI x, vI y, vI z, .slice none 0 0] 24, rB [vI x, vI y, vI z, vS 3 0] 29, rB [vI x, vI y, vI z, vS 3 0] 29, some ⟨[], 46, false, true⟩]) (by kernel_rfl) ?_
  refine kSeq ?_
  refine cRet ?_
  exact endF (Or.inr rfl) (l := [.agg #[vI x, vI y, vI z, vS 3 0]]) [3] (by kernel_rfl) (by first | rfl | simp [packR, mpV, mpA, mpS, mpP, renId]) ⟨rrX rfl rfl, trivial⟩ rfl rfl
end Go.Proofs.Yteohlhpdbnhbaaa.F
set_option linter.unusedVariables false
set_option linter.unusedSimpArgs false
namespace Go.Am
def fl (Y Z n : Nat) (p : Nat → Bool) : List A3 := ((List.range n).filter p).map (cellOf Y Z)
theorem listOf_fl (X Y Z s : Nat) : listOf X Y Z s = fl Y Z (X * Y * Z) s.testBit := rfl
theorem fl_congr {Y Z n : Nat} {p q : Nat → Bool} (h : ∀ i, i < n → p i = q i) : fl Y Z n p = fl Y Z n q := by
  unfold fl
  congr 1
  exact List.filter_congr fun i hi => h i (List.mem_range.1 hi)
theorem fl_length (Y Z n : Nat) (p : Nat → Bool) : (fl Y Z n p).length ≤ n := by
  unfold fl
  rw [List.length_map]
  have := List.length_filter_le p (List.range n)
  simpa using this
theorem sorted_ext : ∀ {l m : List Nat}, l.Pairwise (· < ·) → m.Pairwise (· < ·) → (∀ i, i ∈ l ↔ i ∈ m) → l = m
  | [], [], _, _, _ => rfl
  | [], b :: m, _, _, h => by have := (h b).2 (by simp); simp at this
  | a :: l, [], _, _, h => by have := (h a).1 (by simp); simp at this
  | a :: l, b :: m, hl, hm, h => by
    obtain ⟨h1, hl'⟩ := List.pairwise_cons.1 hl
    obtain ⟨h2, hm'⟩ := List.pairwise_cons.1 hm
    have hab : a = b := by
      rcases List.mem_cons.1 ((h a).1 (by simp)) with e | e
      · exact e
      · rcases List.mem_cons.1 ((h b).2 (by simp)) with e2 | e2
        · exact e2.symm
        · have := h2 a e; have := h1 b e2; omega
    subst hab
    congr 1
    refine sorted_ext hl' hm' fun i => ⟨fun hi => ?_, fun hi => ?_⟩
    · rcases List.mem_cons.1 ((h i).1 (List.mem_cons_of_mem _ hi)) with e | e
      · have := h1 i hi; omega
      · exact e
    · rcases List.mem_cons.1 ((h i).2 (List.mem_cons_of_mem _ hi)) with e | e
      · have := h2 i hi; omega
      · exact e
theorem sorted_filter {n : Nat} (p : Nat → Bool) : ((List.range n).filter p).Pairwise (· < ·) := List.Pairwise.filter _ List.pairwise_lt_range
theorem sorted_is {n : Nat} {l : List Nat} (h : l.Pairwise (· < ·)) (hn : ∀ i ∈ l, i < n) : l = (List.range n).filter fun i => decide (i ∈ l) := by
  refine sorted_ext h (sorted_filter _) fun i => ?_
  simp only [List.mem_filter, List.mem_range, decide_eq_true_eq]
  exact ⟨fun hi => ⟨hn i hi, hi⟩, fun hi => hi.2⟩
def idxN (Y Z : Nat) (c : A3) : Nat := (c.x.toNat * Y + c.y.toNat) * Z + c.z.toNat
theorem has3_iff {X Y Z : Nat} {c : A3} : has3 (X : Int) (Y : Int) (Z : Int) c.x c.y c.z = true ↔ (0 ≤ c.x ∧ c.x < X) ∧ (0 ≤ c.y ∧ c.y < Y) ∧ (0 ≤ c.z ∧ c.z < Z) := by
  simp only [has3, inR, Bool.and_eq_true, decide_eq_true_eq]
  omega
theorem cellOf_idx {X Y Z : Nat} {c : A3} (h : has3 (X : Int) (Y : Int) (Z : Int) c.x c.y c.z = true) : cellOf Y Z (idxN Y Z c) = c := by
  obtain ⟨h1, h2, h3⟩ := has3_iff.1 h
  unfold idxN
  rw [cellOf_at (by omega) (by omega)]
  obtain ⟨x, y, z⟩ := c
  simp only at h1 h2 h3 ⊢
  congr 1 <;> omega
theorem idx_bound {X Y Z a b c : Nat} (ha : a < X) (hb : b < Y) (hc : c < Z) : (a * Y + b) * Z + c < X * Y * Z := by
  have h1 : a * Y + b < X * Y := by
    have : (a + 1) * Y ≤ X * Y := Nat.mul_le_mul_right _ ha
    rw [Nat.add_mul, Nat.one_mul] at this
    omega
  have h2 : (a * Y + b + 1) * Z ≤ X * Y * Z := Nat.mul_le_mul_right _ h1
  rw [Nat.add_mul, Nat.one_mul] at h2
  omega
theorem idx_lt {X Y Z : Nat} {c : A3} (h : has3 (X : Int) (Y : Int) (Z : Int) c.x c.y c.z = true) : idxN Y Z c < X * Y * Z := by
  obtain ⟨h1, h2, h3⟩ := has3_iff.1 h
  exact idx_bound (by omega) (by omega) (by omega)
theorem idx_cellOf {Y Z : Nat} (hY : 1 ≤ Y) (hZ : 1 ≤ Z) (i : Nat) : idxN Y Z (cellOf Y Z i) = i := by
  simp only [idxN, cellOf, Int.toNat_natCast]
  have h1 : i / Z / Y * Y + i / Z % Y = i / Z := by rw [Nat.mul_comm]; exact Nat.div_add_mod _ _
  rw [h1, Nat.mul_comm]
  exact Nat.div_add_mod _ _
theorem cellOf_has {X Y Z i : Nat} (hY : 1 ≤ Y) (hZ : 1 ≤ Z) (hi : i < X * Y * Z) : has3 (X : Int) (Y : Int) (Z : Int) (cellOf Y Z i).x (cellOf Y Z i).y (cellOf Y Z i).z = true := by
  refine has3_iff.2 ?_
  simp only [cellOf]
  have h1 : i / Z < X * Y := Nat.div_lt_of_lt_mul (by rw [Nat.mul_comm]; exact hi)
  have h2 : i / Z / Y < X := Nat.div_lt_of_lt_mul (by rw [Nat.mul_comm]; exact h1)
  have h3 := Nat.mod_lt (i / Z) hY
  have h4 := Nat.mod_lt i hZ
  exact ⟨⟨Int.natCast_nonneg _, Int.ofNat_lt.2 h2⟩, ⟨Int.natCast_nonneg _, Int.ofNat_lt.2 h3⟩, ⟨Int.natCast_nonneg _, Int.ofNat_lt.2 h4⟩⟩
theorem lex_idx {X Y Z : Nat} {c d : A3} (hc : has3 (X : Int) (Y : Int) (Z : Int) c.x c.y c.z = true) (hd : has3 (X : Int) (Y : Int) (Z : Int) d.x d.y d.z = true) : lex3 c d = decide (idxN Y Z c < idxN Y Z d) := by
  obtain ⟨c1, c2, c3⟩ := has3_iff.1 hc
  obtain ⟨d1, d2, d3⟩ := has3_iff.1 hd
  have key : ∀ {a b e a' b' e' : Nat}, b < Y → e < Z → b' < Y → e' < Z → ((a * Y + b) * Z + e < (a' * Y + b') * Z + e' ↔ (a < a' ∨ (a = a' ∧ (b < b' ∨ (b = b' ∧ e < e'))))) := by
    intro a b e a' b' e' hb he hb' he'
    have lt1 : ∀ {u v r s : Nat}, r < Z → s < Z → u < v → u * Z + r < v * Z + s := by
      intro u v r s hr hs huv
      have : (u + 1) * Z ≤ v * Z := Nat.mul_le_mul_right _ huv
      rw [Nat.add_mul, Nat.one_mul] at this
      omega
    have lt2 : ∀ {u v r s : Nat}, r < Y → s < Y → u < v → u * Y + r < v * Y + s := by
      intro u v r s hr hs huv
      have : (u + 1) * Y ≤ v * Y := Nat.mul_le_mul_right _ huv
      rw [Nat.add_mul, Nat.one_mul] at this
      omega
    constructor
    · intro h
      rcases Nat.lt_trichotomy a a' with h1 | h1 | h1
      · exact Or.inl h1
      · subst h1
        refine Or.inr ⟨rfl, ?_⟩
        rcases Nat.lt_trichotomy b b' with h2 | h2 | h2
        · exact Or.inl h2
        · subst h2; exact Or.inr ⟨rfl, by omega⟩
        · have := lt1 he' he (show a * Y + b' < a * Y + b by omega); omega
      · have := lt1 he' he (lt2 hb' hb h1); omega
    · rintro (h | ⟨rfl, h | ⟨rfl, h⟩⟩)
      · exact lt1 he he' (lt2 hb hb' h)
      · exact lt1 he he' (by omega)
      · omega
  unfold lex3 lexB idxN
  rw [Bool.eq_iff_iff]
  simp only [decide_eq_true_eq]
  rw [key (by omega) (by omega) (by omega) (by omega)]
  omega
theorem okTo_at {x y z : Int} {L : List A3} {n k : Nat} (h : okTo x y z L n = true) (hk : k < n) : cellOK x y z L k = true := by
  unfold okTo at h
  rw [List.all_eq_true] at h
  exact h k (List.mem_range.2 hk)
theorem heap_nums {X Y Z : Nat} {L : List A3} (h : okTo (X : Int) (Y : Int) (Z : Int) L L.length = true) : ∃ p : Nat → Bool, L = fl Y Z (X * Y * Z) p := by
  have hh : ∀ k, k < L.length → has3 (X : Int) (Y : Int) (Z : Int) (L.getD k default).x (L.getD k default).y (L.getD k default).z = true := fun k hk => by
    have := okTo_at h hk
    simp only [cellOK, Bool.and_eq_true] at this
    exact this.1
  have hs : ∀ k, k + 1 < L.length → idxN Y Z (L.getD k default) < idxN Y Z (L.getD (k + 1) default) := fun k hk => by
    have := okTo_at h hk
    simp only [cellOK, Bool.and_eq_true] at this
    have h2 := this.2
    simp only [Nat.add_sub_cancel, Bool.or_eq_true, decide_eq_true_eq] at h2
    rcases h2 with h2 | h2
    · omega
    · rw [lex_idx (hh k (by omega)) (hh (k + 1) hk)] at h2
      simpa using h2
  have hall : ∀ j i, i < j → j < L.length → idxN Y Z (L.getD i default) < idxN Y Z (L.getD j default) := by
    intro j
    induction j with
    | zero => intro i hi; omega
    | succ j ih =>
      intro i hi hj
      have h1 := hs j hj
      rcases Nat.lt_or_ge i j with h2 | h2
      · exact Nat.lt_trans (ih i h2 (by omega)) h1
      · have : i = j := by omega
        subst this; exact h1
  have hsort : (L.map (idxN Y Z)).Pairwise (· < ·) := by
    rw [List.pairwise_iff_getElem]
    intro i j hi hj hij
    simp only [List.length_map] at hi hj
    have := hall j i hij hj
    simp only [List.getD_eq_getElem?_getD, List.getElem?_eq_getElem hi, List.getElem?_eq_getElem hj, Option.getD_some] at this
    simpa using this
  have hmem : ∀ c ∈ L, has3 (X : Int) (Y : Int) (Z : Int) c.x c.y c.z = true := by
    intro c hc
    obtain ⟨k, hk, rfl⟩ := List.getElem_of_mem hc
    have := hh k hk
    simpa only [List.getD_eq_getElem?_getD, List.getElem?_eq_getElem hk, Option.getD_some] using this
  refine ⟨fun i => decide (i ∈ L.map (idxN Y Z)), ?_⟩
  unfold fl
  rw [← sorted_is hsort (fun i hi => by
    obtain ⟨c, hc, rfl⟩ := List.mem_map.1 hi
    exact idx_lt (hmem c hc))]
  rw [List.map_map]
  conv => lhs; rw [← List.map_id L]
  exact List.map_congr_left fun c hc => (cellOf_idx (hmem c hc)).symm
end Go.Am
set_option linter.unusedVariables false
set_option linter.unusedSimpArgs false
namespace Go.Am
def setOf (Y Z : Nat) (L : List A3) : Nat := L.foldl (fun s c => s ||| 2 ^ idxN Y Z c) 0
theorem fold_bit (Y Z i : Nat) : ∀ (L : List A3) (s : Nat), (L.foldl (fun s c => s ||| 2 ^ idxN Y Z c) s).testBit i = (s.testBit i || L.any fun c => decide (idxN Y Z c = i))
  | [], s => by simp
  | c :: L, s => by
    rw [List.foldl_cons, fold_bit Y Z i L, Nat.testBit_or, Nat.testBit_two_pow, List.any_cons, Bool.or_assoc]
theorem setOf_bit (Y Z : Nat) (L : List A3) (i : Nat) : (setOf Y Z L).testBit i = L.any fun c => decide (idxN Y Z c = i) := by
  rw [setOf, fold_bit, Nat.zero_testBit, Bool.false_or]
theorem setOf_fl {X Y Z : Nat} (hY : 1 ≤ Y) (hZ : 1 ≤ Z) (p : Nat → Bool) (i : Nat) : (setOf Y Z (fl Y Z (X * Y * Z) p)).testBit i = (decide (i < X * Y * Z) && p i) := by
  rw [setOf_bit, Bool.eq_iff_iff]
  simp only [List.any_eq_true, decide_eq_true_eq, Bool.and_eq_true, fl, List.mem_map, List.mem_filter, List.mem_range]
  constructor
  · rintro ⟨c, ⟨j, ⟨hj, hp⟩, rfl⟩, rfl⟩
    rw [idx_cellOf hY hZ]
    exact ⟨hj, hp⟩
  · rintro ⟨hi, hp⟩
    exact ⟨_, ⟨i, ⟨hi, hp⟩, rfl⟩, idx_cellOf hY hZ i⟩
theorem fl_mem {X Y Z : Nat} {p : Nat → Bool} {c : A3} (hY : 1 ≤ Y) (hZ : 1 ≤ Z) (h : c ∈ fl Y Z (X * Y * Z) p) : has3 (X : Int) (Y : Int) (Z : Int) c.x c.y c.z = true ∧ p (idxN Y Z c) = true := by
  unfold fl at h
  simp only [List.mem_map, List.mem_filter, List.mem_range] at h
  obtain ⟨i, ⟨hi, hp⟩, rfl⟩ := h
  exact ⟨cellOf_has hY hZ hi, by rw [idx_cellOf hY hZ]; exact hp⟩
theorem listOf_setOf {X Y Z : Nat} (hY : 1 ≤ Y) (hZ : 1 ≤ Z) (p : Nat → Bool) : listOf X Y Z (setOf Y Z (fl Y Z (X * Y * Z) p)) = fl Y Z (X * Y * Z) p := by
  rw [listOf_fl]
  exact fl_congr fun i hi => by rw [setOf_fl hY hZ]; simp [hi]
theorem pow_lt64 {n : Nat} (h : n < 64) : 2 ^ n < 18446744073709551616 := by
  have := Nat.pow_lt_pow_right (a := 2) (by decide) h
  simpa using this
end Go.Am
namespace Go.Am
theorem getD_mem {L : List A3} {i : Nat} (h : i < L.length) : L.getD i default ∈ L := by
  rw [List.getD_eq_getElem?_getD, List.getElem?_eq_getElem h]
  exact List.getElem_mem h
theorem fl_has {X Y Z : Nat} {p : Nat → Bool} {i : Nat} (hY : 1 ≤ Y) (hZ : 1 ≤ Z) (h : i < (fl Y Z (X * Y * Z) p).length) : has3 (X : Int) (Y : Int) (Z : Int) ((fl Y Z (X * Y * Z) p).getD i default).x ((fl Y Z (X * Y * Z) p).getD i default).y ((fl Y Z (X * Y * Z) p).getD i default).z = true :=
  (fl_mem hY hZ (getD_mem h)).1
end Go.Am
namespace Go.Am
theorem heap_cases {x y z : Int} {L : List A3} (h : isHeapB x y z L = true) : ∃ (X Y Z : Nat) (p : Nat → Bool), x = (X : Int) ∧ y = (Y : Int) ∧ z = (Z : Int) ∧ 1 ≤ X ∧ X ≤ 4 ∧ 1 ≤ Y ∧ Y ≤ 4 ∧ 1 ≤ Z ∧ Z ≤ 4 ∧ L = fl Y Z (X * Y * Z) p := by
  unfold isHeapB at h
  rw [Bool.and_eq_true] at h
  obtain ⟨X, Y, Z, rfl, rfl, rfl, h1, h2, h3, h4, h5, h6⟩ := nat_valid h.1
  obtain ⟨p, hp⟩ := heap_nums h.2
  exact ⟨X, Y, Z, p, rfl, rfl, rfl, h1, h2, h3, h4, h5, h6, hp⟩
end Go.Am
namespace Go.Am
theorem Sound.val {P : Program} {f : FuncId} {args : List Value} {H H' : Heap} {v v' : Value} (h : Sound P f args H v H') (e : v = v') : Sound P f args H v' H' := e ▸ h
theorem Quiet.val {P : Program} {f : FuncId} {args : List Value} {H : Heap} {v v' : Value} (h : Quiet P f args H v) (e : v = v') : Quiet P f args H v' := e ▸ h
end Go.Am
set_option linter.unusedVariables false
set_option linter.unusedSimpArgs false
namespace Go.Proofs.Yteohlhpdbnhbaaa.F
open Go.Am Go.RowKit
end Go.Proofs.Yteohlhpdbnhbaaa.F
set_option linter.unusedVariables false
set_option linter.unusedSimpArgs false
namespace Go.Proofs.Yteohlhpdbnhbaaa.F
open Go.Am Go.RowKit
end Go.Proofs.Yteohlhpdbnhbaaa.F
set_option linter.unusedVariables false
set_option linter.unusedSimpArgs false
namespace Go.Am
open Go.RowKit
structure Meta where
  mks : List Nat
  wr : List Nat
  rd : List Nat
def Meta.ws (m : Meta) : List Nat := m.mks ++ m.wr
def nmP (mk : List Nat) : Value → Bool
  | .pointer (some a) => a.spot.isNone && !mk.contains a.block
  | .slice (some a) _ _ => a.spot.isNone && !mk.contains a.block
  | _ => true
def nmS (mk : List Nat) : Value → Bool
  | .func _ first cap => first.toList.all (nmP mk) && cap.toList.all (nmP mk)
  | v => nmP mk v
def nmA (mk : List Nat) : Value → Bool
  | .agg cs => cs.toList.all (nmS mk)
  | v => nmS mk v
def nmV (mk : List Nat) : Value → Bool
  | .tuple vs => vs.toList.all (nmA mk)
  | v => nmA mk v
theorem mpP_fix {mk : List Nat} {σ : Nat → Nat} (hσ : ∀ i, i ∉ mk → σ i = i) {v : Value} (h : nmP mk v = true) : mpP (renId σ) v = v := by
  cases v with
  | pointer a => cases a with
    | none => rfl
    | some a =>
      obtain ⟨b, o, s⟩ := a
      simp only [nmP, Bool.and_eq_true, Option.isNone_iff_eq_none, Bool.not_eq_true', List.contains_eq_mem, decide_eq_false_iff_not] at h
      obtain ⟨rfl, h2⟩ := h
      simp [mpP, renId, hσ b h2]
  | slice a n c => cases a with
    | none => rfl
    | some a =>
      obtain ⟨b, o, s⟩ := a
      simp only [nmP, Bool.and_eq_true, Option.isNone_iff_eq_none, Bool.not_eq_true', List.contains_eq_mem, decide_eq_false_iff_not] at h
      obtain ⟨rfl, h2⟩ := h
      simp [mpP, renId, hσ b h2]
  | _ => rfl
theorem map_fix {f : Value → Value} {p : Value → Bool} (hf : ∀ v, p v = true → f v = v) {a : Array Value} (h : a.toList.all p = true) : a.map f = a := by
  conv => rhs; rw [← Array.map_id a]
  refine Array.map_congr_left fun x hx => ?_
  exact hf x (List.all_eq_true.1 h x (by simpa using hx))
theorem mpS_fix {mk : List Nat} {σ : Nat → Nat} (hσ : ∀ i, i ∉ mk → σ i = i) {v : Value} (h : nmS mk v = true) : mpS (renId σ) v = v := by
  cases v with
  | func fn first cap =>
    simp only [nmS, Bool.and_eq_true] at h
    simp only [mpS, map_fix (fun v hv => mpP_fix hσ hv) h.1, map_fix (fun v hv => mpP_fix hσ hv) h.2]
  | _ => exact mpP_fix hσ (by simpa only [nmS] using h)
theorem mpA_fix {mk : List Nat} {σ : Nat → Nat} (hσ : ∀ i, i ∉ mk → σ i = i) {v : Value} (h : nmA mk v = true) : mpA (renId σ) v = v := by
  cases v with
  | agg cs =>
    simp only [nmA] at h
    simp only [mpA, map_fix (fun v hv => mpS_fix hσ hv) h]
  | _ => exact mpS_fix hσ (by simpa only [nmA] using h)
theorem nmV_fix {mk : List Nat} {σ : Nat → Nat} (hσ : ∀ i, i ∉ mk → σ i = i) {v : Value} (h : nmV mk v = true) : mpV (renId σ) v = v := by
  cases v with
  | tuple cs =>
    simp only [nmV] at h
    simp only [mpV, map_fix (fun v hv => mpA_fix hσ hv) h]
  | _ => exact mpA_fix hσ (by simpa only [nmV] using h)
theorem nmP_mono {mk mk' : List Nat} (hs : ∀ i, i ∈ mk → i ∈ mk') {v : Value} (h : nmP mk' v = true) : nmP mk v = true := by
  cases v with
  | pointer a => cases a with
    | none => rfl
    | some a =>
      simp only [nmP, Bool.and_eq_true, Bool.not_eq_true', List.contains_eq_mem, decide_eq_false_iff_not] at h ⊢
      exact ⟨h.1, fun hm => h.2 (hs _ hm)⟩
  | slice a n c => cases a with
    | none => rfl
    | some a =>
      simp only [nmP, Bool.and_eq_true, Bool.not_eq_true', List.contains_eq_mem, decide_eq_false_iff_not] at h ⊢
      exact ⟨h.1, fun hm => h.2 (hs _ hm)⟩
  | _ => rfl
theorem all_mono {p q : Value → Bool} (h : ∀ v, q v = true → p v = true) {l : List Value} (hl : l.all q = true) : l.all p = true :=
  List.all_eq_true.2 fun x hx => h x (List.all_eq_true.1 hl x hx)
theorem nmS_mono {mk mk' : List Nat} (hs : ∀ i, i ∈ mk → i ∈ mk') {v : Value} (h : nmS mk' v = true) : nmS mk v = true := by
  cases v with
  | func fn first cap =>
    simp only [nmS, Bool.and_eq_true] at h ⊢
    exact ⟨all_mono (fun v hv => nmP_mono hs hv) h.1, all_mono (fun v hv => nmP_mono hs hv) h.2⟩
  | _ => simp only [nmS] at h ⊢; exact nmP_mono hs h
theorem nmA_mono {mk mk' : List Nat} (hs : ∀ i, i ∈ mk → i ∈ mk') {v : Value} (h : nmA mk' v = true) : nmA mk v = true := by
  cases v with
  | agg cs => exact all_mono (fun v hv => nmS_mono hs hv) (by simpa only [nmA] using h)
  | _ => simp only [nmA] at h ⊢; exact nmS_mono hs h
theorem nmV_mono {mk mk' : List Nat} (hs : ∀ i, i ∈ mk → i ∈ mk') {v : Value} (h : nmV mk' v = true) : nmV mk v = true := by
  cases v with
  | tuple cs => exact all_mono (fun v hv => nmA_mono hs hv) (by simpa only [nmV] using h)
  | _ => simp only [nmV] at h ⊢; exact nmA_mono hs h
def NMRow (mk : List Nat) (r : Row) : Prop := ∀ v ∈ r.cells, nmS mk v = true
theorem nmS_of_flat {mk : List Nat} {v : Value} (h : idsS v = []) : nmS mk v = true := by
  have hp : ∀ u : Value, idsP u = [] → nmP mk u = true := by
    intro u hu
    cases u with
    | pointer a => cases a <;> simp_all [nmP, idsP]
    | slice a n c => cases a <;> simp_all [nmP, idsP]
    | _ => rfl
  cases v with
  | func fn first cap =>
    simp only [idsS, List.flatMap_eq_nil_iff, List.mem_append] at h
    simp only [nmS, Bool.and_eq_true, List.all_eq_true]
    exact ⟨fun x hx => hp x (h x (Or.inl hx)), fun x hx => hp x (h x (Or.inr hx))⟩
  | _ => simp only [nmS]; exact hp _ (by simpa only [idsS] using h)
theorem nmF {mk : List Nat} {r : Row} (h : FlatRow r) : NMRow mk r := fun v hv => nmS_of_flat (h v hv).1
theorem nmX {mk : List Nat} {r : Row} (h : (r.cells.all (nmS mk)) = true) : NMRow mk r := fun v hv => List.all_eq_true.1 h v hv
theorem NMRow.ren {mk : List Nat} {r : Row} (h : NMRow mk r) {σ : Nat → Nat} (hσ : ∀ i, i ∉ mk → σ i = i) : renRow σ r = r := by
  unfold renRow
  have : r.cells.map (mpS (renId σ)) = r.cells := by
    conv => rhs; rw [← List.map_id r.cells]
    exact List.map_congr_left fun v hv => mpS_fix hσ (h v hv)
  rw [this]
theorem NMRow.mono {mk mk' : List Nat} {r : Row} (hs : ∀ i, i ∈ mk → i ∈ mk') (h : NMRow mk' r) : NMRow mk r := fun v hv => nmS_mono hs (h v hv)
def patch (ws : List Nat) (H' G : Heap) : Heap := (List.range G.length).map fun i => if i ∈ ws then (H'[i]?).join else (G[i]?).join
theorem patch_length (ws : List Nat) (H' G : Heap) : (patch ws H' G).length = G.length := by simp [patch]
theorem patch_in {ws : List Nat} {H' G : Heap} {i : Nat} (h : i ∈ ws) (hl : H'.length = G.length) : (patch ws H' G)[i]? = H'[i]? := by
  unfold patch
  rw [List.getElem?_map]
  rcases Nat.lt_or_ge i G.length with hi | hi
  · rw [List.getElem?_range hi, Option.map_some, if_pos h, List.getElem?_eq_getElem (by omega)]
    rfl
  · rw [List.getElem?_eq_none (by simpa using hi), List.getElem?_eq_none (by omega)]; rfl
theorem patch_out {ws : List Nat} {H' G : Heap} {i : Nat} (h : i ∉ ws) : (patch ws H' G)[i]? = G[i]? := by
  unfold patch
  rw [List.getElem?_map]
  rcases Nat.lt_or_ge i G.length with hi | hi
  · rw [List.getElem?_range hi, Option.map_some, if_neg h, List.getElem?_eq_getElem hi]
    rfl
  · rw [List.getElem?_eq_none (by simpa using hi), List.getElem?_eq_none (by omega)]; rfl
def HS (ws : Nat → List Nat) (Hs : Nat → Heap) (p : Nat → Bool) : Nat → Heap
  | 0 => Hs 0
  | k + 1 => if p k = true then patch (ws k) (Hs (k + 1)) (HS ws Hs p k) else HS ws Hs p k
section
variable {ws : Nat → List Nat} {Hs : Nat → Heap} {p q : Nat → Bool} {n N : Nat}
theorem HS_len (h0 : (Hs 0).length = N) (p : Nat → Bool) : ∀ k, (HS ws Hs p k).length = N
  | 0 => h0
  | k + 1 => by
    unfold HS
    split
    · rw [patch_length, HS_len h0 p k]
    · exact HS_len h0 p k
theorem HS_congr (hN : ∀ k, k ≤ n → (Hs k).length = N) {i : Nat} : ∀ k, k ≤ n → (∀ j, j < k → i ∈ ws j → p j = q j) → (HS ws Hs p k)[i]? = (HS ws Hs q k)[i]?
  | 0, _, _ => rfl
  | k + 1, hk, h => by
    have ih := HS_congr hN k (by omega) fun j hj => h j (by omega)
    have hl : ∀ p : Nat → Bool, (Hs (k + 1)).length = (HS ws Hs p k).length := fun p => by rw [hN (k + 1) hk, HS_len (hN 0 (by omega)) p k]
    unfold HS
    by_cases hi : i ∈ ws k
    · rw [h k (by omega) hi]
      split
      · rw [patch_in hi (hl _), patch_in hi (hl _)]
      · exact ih
    · split
      · rw [patch_out hi]
        split
        · rw [patch_out hi]; exact ih
        · exact ih
      · split
        · rw [patch_out hi]; exact ih
        · exact ih
theorem HS_all (hN : ∀ k, k ≤ n → (Hs k).length = N) (hf : ∀ k, k < n → ∀ i, i ∉ ws k → (Hs (k + 1))[i]? = (Hs k)[i]?) (i : Nat) : ∀ k, k ≤ n → (HS ws Hs (fun _ => true) k)[i]? = (Hs k)[i]?
  | 0, _ => rfl
  | k + 1, hk => by
    have ih := HS_all hN hf i k (by omega)
    unfold HS
    rw [if_pos rfl]
    by_cases hi : i ∈ ws k
    · rw [patch_in hi (by rw [hN (k + 1) hk, HS_len (hN 0 (by omega)) _ k])]
    · rw [patch_out hi, ih, hf k (by omega) i hi]
theorem HS_upto {j : Nat} (i : Nat) : ∀ d, (HS ws Hs (fun k => decide (k < j)) (j + d))[i]? = (HS ws Hs (fun k => decide (k < j)) j)[i]?
  | 0 => rfl
  | d + 1 => by
    show (HS ws Hs (fun k => decide (k < j)) (j + d + 1))[i]? = _
    rw [HS, if_neg (by simp)]
    exact HS_upto i d
theorem HS_at (hN : ∀ k, k ≤ n → (Hs k).length = N) (hf : ∀ k, k < n → ∀ i, i ∉ ws k → (Hs (k + 1))[i]? = (Hs k)[i]?) {j : Nat} (hj : j ≤ n) (i : Nat) : (HS ws Hs (fun k => decide (k < j)) n)[i]? = (Hs j)[i]? := by
  obtain ⟨d, rfl⟩ : ∃ d, n = j + d := ⟨n - j, by omega⟩
  rw [HS_upto, ← HS_all hN hf i j hj]
  exact HS_congr (q := fun _ => true) hN j hj fun k hk _ => by simp [hk]
theorem HS_origin {i : Nat} {r : Row} : ∀ k, k ≤ n → (hN : ∀ k, k ≤ n → (Hs k).length = N) → (HS ws Hs p k)[i]? = some (some r) → (Hs 0)[i]? = some (some r) ∨ ∃ j, j < k ∧ p j = true ∧ i ∈ ws j ∧ (Hs (j + 1))[i]? = some (some r)
  | 0, _, _, h => Or.inl h
  | k + 1, hk, hN, h => by
    unfold HS at h
    split at h
    · rename_i hp
      by_cases hi : i ∈ ws k
      · rw [patch_in hi (by rw [hN (k + 1) hk, HS_len (hN 0 (by omega)) _ k])] at h
        exact Or.inr ⟨k, by omega, hp, hi, h⟩
      · rw [patch_out hi] at h
        rcases HS_origin k (by omega) hN h with h1 | ⟨j, h1, h2⟩
        · exact Or.inl h1
        · exact Or.inr ⟨j, by omega, h2⟩
    · rcases HS_origin k (by omega) hN h with h1 | ⟨j, h1, h2⟩
      · exact Or.inl h1
      · exact Or.inr ⟨j, by omega, h2⟩
end
theorem TD_origin {vs : Nat → Value} {p : Nat → Bool} : ∀ (l : List Oper) (k : Nat) (T : Tm) (t : Nat) (v : Value), (TD l k vs p T)[t]? = some (some v) → T[t]? = some (some v) ∨ ∃ i, i < l.length ∧ p (k + i) = true ∧ v = vs (k + i)
  | [], k, T, t, v, h => Or.inl h
  | o :: r, k, T, t, v, h => by
    rw [TD] at h
    rcases TD_origin r (k + 1) _ t v h with h1 | ⟨i, h1, h2, h3⟩
    · split at h1
      · rename_i hp
        cases hd : o.dst with
        | none => rw [hd] at h1; exact Or.inl h1
        | some d =>
          rw [hd] at h1
          by_cases hdt : d = t
          · subst hdt
            have hl := lt_of_some h1
            rw [length_putT] at hl
            rw [putT_self _ _ _ hl] at h1
            simp only [Option.some.injEq] at h1
            exact Or.inr ⟨0, by simp, by simpa using hp, h1.symm⟩
          · rw [putT_at _ _ _ _ (by simpa using hdt)] at h1
            exact Or.inl h1
      · exact Or.inl h1
    · exact Or.inr ⟨i + 1, by simp; omega, by rw [← h2]; congr 1; omega, by rw [h3]; congr 1; omega⟩
def LDoes {P : Program} (C : Ctx P) (N : Nat) (m : Meta) (T' : Tm) (G : Heap) (op : Op) (v : Value) (H' : Heap) : Prop :=
  ∃ (v1 : Value) (G1 : Heap) (σ : Nat → Nat), Does C T' G op v1 G1 ∧ (∀ i, i ∉ m.mks → σ i = i) ∧ v1 = mpV (renId σ) v ∧ (∀ i, i ∉ m.ws → i < N → G1[i]? = G[i]?) ∧
    (∀ i r, i ∈ m.ws → H'[i]? = some (some r) → G1[σ i]? = some (some (renRow σ r))) ∧ (∀ i j, i < N → j < N → σ i = σ j → i = j)
def StepW {P : Program} (C : Ctx P) (N : Nat) (m : Meta) (T : Tm) (H : Heap) (op : Op) (v : Value) (H' : Heap) : Prop :=
  H'.length = N ∧ (∀ i, i ∉ m.ws → H'[i]? = H[i]?) ∧ (∀ i ∈ idsV v, i < N) ∧ (∀ i r, i ∈ m.ws → H'[i]? = some (some r) → ∀ v ∈ r.cells, ∀ k ∈ idsS v, k < N) ∧
    ∀ T' G, (∀ x ∈ op.operands, evalO T x = evalO T' x) → G.length = N → (∀ i, i ∈ m.ws ++ m.rd → G[i]? = H[i]?) → LDoes C N m T' G op v H'
def clash (m m' : Meta) : Bool := (m.ws.any fun i => m'.ws.contains i || m'.rd.contains i) || m.rd.any fun i => m'.ws.contains i
def conflict2 (ops : Array Oper) (x y : Oper) (m m' : Meta) : Bool :=
  (match x.dst with
    | some d => (y.looksAt ops).contains d || y.dst == some d
    | none => false) ||
  (match y.dst with
    | some d => (x.looksAt ops).contains d
    | none => false) || clash m m'
def regionOK2 (ops : Array Oper) (ms : List Meta) : Bool :=
  (List.range ops.size).all fun j => match ops[j]? with
    | none => false
    | some oj => (oj.after.all fun e => !Region.binds .any e || decide (e.on < j)) && (List.range j).all fun i => match ops[i]? with
      | some oi => reach (masksGo ops.toList []) i j || !conflict2 ops oi oj (ms.getD i ⟨[], [], []⟩) (ms.getD j ⟨[], [], []⟩)
      | none => false
def hid (ops : Array Oper) (ms : List Meta) (j : Nat) : List Nat := (List.range ops.size).flatMap fun k => if k = j ∨ reach (masksGo ops.toList []) k j = true then [] else (ms.getD k ⟨[], [], []⟩).mks
structure DRun2 {P : Program} (C : Ctx P) (ops : Array Oper) (ms : List Meta) (N n0 : Nat) (T0 : Tm) (vs : Nat → Value) (Hs : Nat → Heap) : Prop where
  ok : regionOK2 ops ms = true
  low : ∀ k, k < ops.size → ∀ i ∈ (ms.getD k ⟨[], [], []⟩).mks, n0 ≤ i
  len : ∀ k, k ≤ ops.size → (Hs k).length = N
  step : ∀ i o, ops[i]? = some o → ∃ b, want? (TD ops.toList 0 vs (fun k => decide (k < i)) T0) ops o = some b ∧
    (b = true → StepW C N (ms.getD i ⟨[], [], []⟩) (TD ops.toList 0 vs (fun k => decide (k < i)) T0) (Hs i) o.op (vs i) (Hs (i + 1)) ∧ nmV (hid ops ms i) (vs i) = true ∧ ∀ j r, j ∈ (ms.getD i ⟨[], [], []⟩).ws → (Hs (i + 1))[j]? = some (some r) → NMRow (hid ops ms i) r) ∧
    (b = false → vs i = undef ∧ Hs (i + 1) = Hs i)
  nmT : ∀ k, k < ops.size → ∀ (t : Nat) (v : Value), T0[t]? = some (some v) → nmV (ms.getD k ⟨[], [], []⟩).mks v = true
  nmH : ∀ k, k < ops.size → ∀ (i : Nat) (r : Row), (Hs 0)[i]? = some (some r) → NMRow (ms.getD k ⟨[], [], []⟩).mks r
section
variable {P : Program} {C : Ctx P} {ops : Array Oper} {ms : List Meta} {N n0 : Nat} {T0 : Tm} {vs : Nat → Value} {Hs : Nat → Heap}
theorem DRun2.edge (h : DRun2 C ops ms N n0 T0 vs Hs) {j : Nat} {o : Oper} (ho : ops[j]? = some o) : ∀ e ∈ o.after, Region.binds .any e = true → e.on < j := by
  have hlt : j < ops.size := (Array.getElem?_eq_some_iff.1 ho).1
  have := h.ok
  simp only [regionOK2, List.all_eq_true, List.mem_range] at this
  have := this j hlt
  rw [ho] at this
  simp only [Bool.and_eq_true] at this
  intro e he hb
  have := Array.all_eq_true_iff_forall_mem.1 this.1 e he
  simpa [hb] using this
theorem DRun2.pair (h : DRun2 C ops ms N n0 T0 vs Hs) {i j : Nat} {oi oj : Oper} (hi : ops[i]? = some oi) (hj : ops[j]? = some oj) (hij : i < j) (hc : conflict2 ops oi oj (ms.getD i ⟨[], [], []⟩) (ms.getD j ⟨[], [], []⟩) = true) : reach (masksGo ops.toList []) i j = true := by
  have hlt : j < ops.size := (Array.getElem?_eq_some_iff.1 hj).1
  have := h.ok
  simp only [regionOK2, List.all_eq_true, List.mem_range] at this
  have := this j hlt
  rw [hj] at this
  simp only [Bool.and_eq_true, List.all_eq_true, List.mem_range] at this
  have := this.2 i hij
  rw [hi] at this
  rw [Bool.or_eq_true] at this
  rcases this with h1 | h1
  · exact h1
  · rw [hc] at h1; cases h1
theorem DRun2.frame (h : DRun2 C ops ms N n0 T0 vs Hs) {k : Nat} (hk : k < ops.size) (i : Nat) (hi : i ∉ (ms.getD k ⟨[], [], []⟩).ws) : (Hs (k + 1))[i]? = (Hs k)[i]? := by
  obtain ⟨b, _, h1, h2⟩ := h.step k ops[k] (Array.getElem?_eq_getElem hk)
  cases b with
  | false => rw [(h2 rfl).2]
  | true => exact (h1 rfl).1.2.1 i hi
end
theorem clash_of {m m' : Meta} {i : Nat} (h : (i ∈ m.ws ∧ (i ∈ m'.ws ∨ i ∈ m'.rd)) ∨ (i ∈ m.rd ∧ i ∈ m'.ws)) : clash m m' = true := by
  unfold clash
  rw [Bool.or_eq_true, List.any_eq_true, List.any_eq_true]
  rcases h with ⟨h1, h2⟩ | ⟨h1, h2⟩
  · left; refine ⟨i, h1, ?_⟩; simpa using h2
  · right; exact ⟨i, h1, by simpa using h2⟩
structure DInv2 {P : Program} (C : Ctx P) (ops : Array Oper) (ms : List Meta) (N : Nat) (T0 : Tm) (vs : Nat → Value) (Hs : Nat → Heap) (ρ0 : Ren) (H0 : Heap) (w0 : World) (listed : Array Bool) (ρ : Ren) (a : Act) (w : World) : Prop where
  size : listed.size = ops.size
  cl : ∀ (j : Nat) (o : Oper), ops[j]? = some o → Lst listed j → ∀ e ∈ o.after, Region.binds .any e = true → Lst listed e.on
  adv : Adv P ρ0 H0 w0 ρ (HS (fun k => (ms.getD k ⟨[], [], []⟩).ws) Hs (fun k => listed.getD k false) ops.size) w
  rt : RT ρ N (TD ops.toList 0 vs (fun k => listed.getD k false) T0) a
  df : a.defers = []
theorem DInv2.go {P : Program} {C : Ctx P} {ops : Array Oper} {ms : List Meta} {N : Nat} {T0 : Tm} {vs : Nat → Value} {Hs : Nat → Heap} {ρ0 : Ren} {H0 : Heap} {w0 : World} (dr : DRun2 C ops ms N H0.length T0 vs Hs) {listed : Array Bool} {ρ : Ren} {a : Act} {w : World}
    (h : DInv2 C ops ms N T0 vs Hs ρ0 H0 w0 listed ρ a w) {j : Nat} (hj : j ∈ Region.ready .any ops listed) {K : Act → World → Prop} {Q : Exit → Act → World → Prop}
    (hK : ∀ ρ' a' w', DInv2 C ops ms N T0 vs Hs ρ0 H0 w0 (listed.setIfInBounds j true) ρ' a' w' → K a' w') : wpOp P ops Q j K a w := by
  obtain ⟨hun, o, ho, hall⟩ := mem_ready.1 hj
  have hjlt : j < ops.size := (Array.getElem?_eq_some_iff.1 ho).1
  have hjl : j < listed.size := by rw [h.size]; exact hjlt
  have hnl : ¬ Lst listed j := by
    unfold Lst
    simp only [Array.getD_eq_getD_getElem?, Array.getElem?_eq_getElem hjl, Option.getD_some] at hun ⊢
    simp [hun]
  have hed : ∀ e ∈ o.after, Region.binds .any e = true → Lst listed e.on := hall
  let W : Nat → List Nat := fun k => (ms.getD k ⟨[], [], []⟩).ws
  have before : ∀ i oi, ops[i]? = some oi → i < j → conflict2 ops oi o (ms.getD i ⟨[], [], []⟩) (ms.getD j ⟨[], [], []⟩) = true → Lst listed i := fun i oi hi hij hc =>
    reach_spec (D := Lst listed) h.cl j i o ho hed (dr.pair hi ho hij hc)
  have noreach : ∀ i, Lst listed i → i < ops.size → ¬ reach (masksGo ops.toList []) j i = true := fun i hl hi hr =>
    hnl (reach_spec (D := Lst listed) h.cl i j ops[i] (Array.getElem?_eq_getElem hi) (h.cl i ops[i] (Array.getElem?_eq_getElem hi) hl) hr)
  have behind : ∀ i oi, ops[i]? = some oi → j < i → conflict2 ops o oi (ms.getD j ⟨[], [], []⟩) (ms.getD i ⟨[], [], []⟩) = true → ¬ Lst listed i := fun i oi hi hij hc hl =>
    noreach i hl (Array.getElem?_eq_some_iff.1 hi).1 (dr.pair ho hi hij hc)
  have decl : ∀ i, (listed.getD i false = decide (i < j)) ↔ (Lst listed i ↔ i < j) := fun i => by
    unfold Lst
    cases listed.getD i false <;> simp
  have slot : ∀ t ∈ o.looksAt ops, (TD ops.toList 0 vs (fun k => listed.getD k false) T0)[t]? = (TD ops.toList 0 vs (fun k => decide (k < j)) T0)[t]? := by
    intro t ht
    refine TD_same _ _ _ _ _ _ _ t rfl rfl fun i oi hi hd => ?_
    have hi' : ops[i]? = some oi := by simpa using hi
    rw [Nat.zero_add]
    rw [decl]
    rcases Nat.lt_trichotomy i j with hlt | rfl | hgt
    · exact ⟨fun _ => hlt, fun _ => before i oi hi' hlt (by simp only [conflict2, hd]; simp [ht])⟩
    · exact ⟨fun hl => absurd hl hnl, fun h => absurd h (by omega)⟩
    · exact ⟨fun hl => absurd hl (behind i oi hi' hgt (by simp only [conflict2, hd]; simp [ht])), fun h => absurd h (by omega)⟩
  have rowAt : ∀ i, i ∈ W j ++ (ms.getD j ⟨[], [], []⟩).rd → ∀ k, k < ops.size → k ≠ j → i ∈ W k → listed.getD k false = decide (k < j) := by
    intro i hi k hk hkj hik
    rw [decl]
    have hok : ops[k]? = some ops[k] := Array.getElem?_eq_getElem hk
    rcases Nat.lt_trichotomy k j with hlt | rfl | hgt
    · refine ⟨fun _ => hlt, fun _ => before k _ hok hlt ?_⟩
      unfold conflict2
      rw [Bool.or_eq_true]
      exact Or.inr (clash_of (i := i) (Or.inl ⟨hik, List.mem_append.1 hi⟩))
    · exact absurd rfl hkj
    · refine ⟨fun hl => absurd hl (behind k _ hok hgt ?_), fun h => absurd h (by omega)⟩
      unfold conflict2
      rw [Bool.or_eq_true]
      refine Or.inr (clash_of (i := i) ?_)
      rcases List.mem_append.1 hi with h1 | h1
      · exact Or.inl ⟨h1, Or.inl hik⟩
      · exact Or.inr ⟨h1, hik⟩
  have hfr : ∀ k, k < ops.size → ∀ i, i ∉ W k → (Hs (k + 1))[i]? = (Hs k)[i]? := fun k hk i hi => dr.frame hk i hi
  have h0N : (Hs 0).length = N := dr.len 0 (by omega)
  have hGlen : (HS W Hs (fun k => listed.getD k false) ops.size).length = N := HS_len h0N _ _
  have agree : ∀ i, i ∈ W j ++ (ms.getD j ⟨[], [], []⟩).rd → (HS W Hs (fun k => listed.getD k false) ops.size)[i]? = (Hs j)[i]? := by
    intro i hi
    rw [← HS_at (n := ops.size) dr.len hfr (by omega : j ≤ ops.size) i]
    refine HS_congr dr.len ops.size (Nat.le_refl _) fun k hk hik => ?_
    by_cases hkj : k = j
    · subst hkj
      have : listed.getD k false = false := by
        unfold Lst at hnl
        simpa using hnl
      rw [this]
      simp
    · exact rowAt i hi k hk hkj hik
  obtain ⟨b, hb, hb1, hb2⟩ := dr.step j o ho
  have hwant : want? (TD ops.toList 0 vs (fun k => listed.getD k false) T0) ops o = some b := by rw [want_congr slot]; exact hb
  have hwreal := want_sound h.rt hwant
  have getset : ∀ k, k ≠ j → (listed.setIfInBounds j true).getD k false = listed.getD k false := fun k hk => by
    simp only [Array.getD_eq_getD_getElem?]
    rw [Array.getElem?_setIfInBounds_ne (Ne.symm hk)]
  have getself : (listed.setIfInBounds j true).getD j false = true := by simp [hjl]
  have after_ : ∀ {ρ' : Ren} {a' : Act}, RT ρ' N (TD ops.toList 0 vs (fun k => listed.getD k false) T0) a' → (∀ i ∈ idsV (vs j), i < N) →
      RT ρ' N (TD ops.toList 0 vs (fun k => (listed.setIfInBounds j true).getD k false) T0) (a'.put o.dst (mapV ρ' (vs j))) := by
    intro ρ' a' hrt hv
    have hp := hrt.put o.dst hv
    have key : ∀ t : Nat, (TD ops.toList 0 vs (fun k => (listed.setIfInBounds j true).getD k false) T0)[t]? = (putT (TD ops.toList 0 vs (fun k => listed.getD k false) T0) o.dst (vs j))[t]? := by
      intro t
      by_cases hd : o.dst = some t
      · rw [hd]
        rcases Nat.lt_or_ge t T0.length with hlt | hge
        · rw [putT_self _ _ _ (by rw [TD_length]; exact hlt)]
          have := TD_last ops.toList 0 vs (fun k => (listed.setIfInBounds j true).getD k false) T0 t j o (by simpa using ho) hd (by simp [hjl]) hlt fun i oi hi hdi hij => by
            have hi' : ops[i]? = some oi := by simpa using hi
            have hnot := behind i oi hi' hij (by simp [conflict2, hd, hdi])
            rw [Nat.zero_add]
            have h1 : ¬ Lst (listed.setIfInBounds j true) i := by
              rw [lst_set hjl]
              rintro (h | h)
              · exact hnot h
              · omega
            unfold Lst at h1
            simpa using h1
          rw [Nat.zero_add] at this
          exact this
        · rw [List.getElem?_eq_none (by rw [TD_length]; exact hge), List.getElem?_eq_none (by rw [length_putT, TD_length]; exact hge)]
      · rw [putT_at _ _ _ _ hd]
        refine TD_same _ _ _ _ _ _ _ t rfl rfl fun i oi hi hdi => ?_
        have hne : i ≠ j := by
          rintro rfl
          have hi' : ops[i]? = some oi := by simpa using hi
          rw [ho] at hi'
          cases hi'
          exact hd hdi
        rw [Nat.zero_add, getset i hne]
    refine ⟨?_, fun t v hv' => ?_, fun t v hv' => ?_⟩
    · rw [hp.size, length_putT, TD_length, TD_length]
    · rw [key] at hv'; exact hp.at_ t v hv'
    · rw [key] at hv'; exact hp.cl t v hv'
  have hcl' : ∀ (k : Nat) (ok : Oper), ops[k]? = some ok → Lst (listed.setIfInBounds j true) k → ∀ e ∈ ok.after, Region.binds .any e = true → Lst (listed.setIfInBounds j true) e.on := by
    intro k ok hk hl e he hbn
    rw [lst_set hjl] at hl ⊢
    rcases hl with hl | rfl
    · exact Or.inl (h.cl k ok hk hl e he hbn)
    · rw [ho] at hk; cases hk
      exact Or.inl (hed e he hbn)
  have hsz' : (listed.setIfInBounds j true).size = ops.size := by simp [h.size]
  have mem' : HS W Hs (fun k => (listed.setIfInBounds j true).getD k false) ops.size = patch (W j) (Hs (j + 1)) (HS W Hs (fun k => listed.getD k false) ops.size) := by
    apply List.ext_getElem?
    intro i
    by_cases hi : i ∈ W j
    · rw [patch_in hi (by rw [dr.len (j + 1) (by omega), hGlen]), ← HS_at (n := ops.size) dr.len hfr (by omega : j + 1 ≤ ops.size) i]
      refine HS_congr dr.len ops.size (Nat.le_refl _) fun k hk hik => ?_
      by_cases hkj : k = j
      · subst hkj; rw [getself]; simp
      · rw [getset k hkj, rowAt i (List.mem_append_left _ hi) k hk hkj hik]
        simp only [decide_eq_decide]
        omega
    · rw [patch_out hi]
      refine HS_congr dr.len ops.size (Nat.le_refl _) fun k hk hik => ?_
      by_cases hkj : k = j
      · subst hkj; exact absurd hik hi
      · exact getset k hkj
  unfold wpOp
  rw [ho]
  simp only
  rw [hwreal]
  cases b with
  | false =>
    rw [if_neg (by simp)]
    obtain ⟨hv, hs⟩ := hb2 rfl
    have hu : ∀ ρ : Ren, mapV ρ (vs j) = undef := fun ρ => by rw [hv]; simp [undef, mapV, mpV]
    have := after_ (ρ' := ρ) (a' := a) h.rt (by rw [hv]; simp [undef, idsV])
    rw [hu] at this
    refine hK ρ _ w ⟨hsz', hcl', ?_, this, by rw [put_defers]; exact h.df⟩
    have e : HS W Hs (fun k => (listed.setIfInBounds j true).getD k false) ops.size = HS W Hs (fun k => listed.getD k false) ops.size := by
      rw [mem']
      apply List.ext_getElem?
      intro i
      by_cases hi : i ∈ W j
      · rw [patch_in hi (by rw [dr.len (j + 1) (by omega), hGlen]), hs, agree i (List.mem_append_left _ hi)]
      · rw [patch_out hi]
    show Adv P ρ0 H0 w0 ρ (HS W Hs (fun k => (listed.setIfInBounds j true).getD k false) ops.size) w
    rw [e]
    exact h.adv
  | true =>
    rw [if_pos rfl]
    obtain ⟨⟨hl', hfrj, hvN, hcells, hany⟩, hnv, hnr⟩ := hb1 rfl
    have ocg := operand_congr slot
    have hidmk : ∀ k, k < ops.size → Lst listed k → ∀ i, i ∈ (ms.getD j ⟨[], [], []⟩).mks → i ∈ hid ops ms k := fun k hk hl i hi => by
      unfold hid
      refine List.mem_flatMap.2 ⟨j, List.mem_range.2 hjlt, ?_⟩
      rw [if_neg]
      · exact hi
      · rintro (rfl | hr)
        · exact hnl hl
        · exact noreach k hl hk hr
    have lstd : ∀ k, listed.getD k false = true → Lst listed k := fun k hk => hk
    have nmG : ∀ (i : Nat) (r : Row), (HS W Hs (fun k => listed.getD k false) ops.size)[i]? = some (some r) → NMRow (ms.getD j ⟨[], [], []⟩).mks r := by
      intro i r hi
      rcases HS_origin ops.size (Nat.le_refl _) dr.len hi with h1 | ⟨k, hk, hp, hik, h1⟩
      · exact dr.nmH j hjlt i r h1
      · obtain ⟨b2, _, h2, h3⟩ := dr.step k ops[k] (Array.getElem?_eq_getElem hk)
        cases b2 with
        | true => exact ((h2 rfl).2.2 i r hik h1).mono (hidmk k hk (lstd k hp))
        | false =>
          have key : ∀ d k, k ≤ d → k < ops.size → Lst listed k → i ∈ W k → (Hs (k + 1))[i]? = some (some r) → NMRow (ms.getD j ⟨[], [], []⟩).mks r := by
            have up : ∀ k, k ≤ ops.size → (Hs k)[i]? = some (some r) → (Hs 0)[i]? = some (some r) ∨ ∃ q, q < k ∧ i ∈ W q ∧ (Hs (q + 1))[i]? = some (some r) ∧ (Hs q)[i]? ≠ some (some r) := by
              intro k
              induction k with
              | zero => intro _ h; exact Or.inl h
              | succ k ih =>
                intro hk h
                by_cases hh : (Hs k)[i]? = some (some r)
                · rcases ih (by omega) hh with h1 | ⟨q, h1, h2⟩
                  · exact Or.inl h1
                  · exact Or.inr ⟨q, by omega, h2⟩
                · refine Or.inr ⟨k, by omega, ?_, h, hh⟩
                  refine Classical.byContradiction fun hn => hh ?_
                  rw [← hfr k (by omega) i hn]; exact h
            intro d k hd hk hl hik hat
            rcases up (k + 1) (by omega) hat with h0 | ⟨q, hq, hiq, hq1, hq2⟩
            · exact dr.nmH j hjlt i r h0
            · obtain ⟨b3, _, h4, h5⟩ := dr.step q ops[q] (Array.getElem?_eq_getElem (by omega))
              cases b3 with
              | false => rw [(h5 rfl).2] at hq1; exact absurd hq1 hq2
              | true =>
                refine ((h4 rfl).2.2 i r hiq hq1).mono (hidmk q (by omega) ?_)
                rcases Nat.lt_or_ge q k with hqk | hqk
                · -- q stands before k, since both change the row
                  have hrq := dr.pair (i := q) (j := k) (Array.getElem?_eq_getElem (by omega)) (Array.getElem?_eq_getElem hk) hqk (by
                    unfold conflict2
                    rw [Bool.or_eq_true]
                    exact Or.inr (clash_of (i := i) (Or.inl ⟨hiq, Or.inl hik⟩)))
                  exact reach_spec (D := Lst listed) h.cl k q ops[k] (Array.getElem?_eq_getElem hk) (h.cl k ops[k] (Array.getElem?_eq_getElem hk) hl) hrq
                · have : q = k := by omega
                  subst this; exact hl
          exact key k k (Nat.le_refl _) hk (lstd k hp) hik h1
    have nmTT : ∀ (t : Nat) (u : Value), (TD ops.toList 0 vs (fun k => listed.getD k false) T0)[t]? = some (some u) → nmV (ms.getD j ⟨[], [], []⟩).mks u = true := by
      intro t u hu
      rcases TD_origin ops.toList 0 T0 t u hu with h1 | ⟨k, hk, hp, rfl⟩
      · exact dr.nmT j hjlt t u h1
      · rw [Nat.zero_add] at hp ⊢
        have hk' : k < ops.size := by simpa using hk
        obtain ⟨b2, _, h2, h3⟩ := dr.step k ops[k] (Array.getElem?_eq_getElem hk')
        cases b2 with
        | true => exact nmV_mono (hidmk k hk' (lstd k hp)) (h2 rfl).2.1
        | false => rw [(h3 rfl).1]; rfl
    obtain ⟨v1, G1, σ, hdoes, hσ, hv1, hG1, hnew, hinj⟩ := hany (TD ops.toList 0 vs (fun k => listed.getD k false) T0) _ (fun x hx => (ocg x hx).symm) hGlen agree
    have hrtG : RT ρ (HS W Hs (fun k => listed.getD k false) ops.size).length (TD ops.toList 0 vs (fun k => listed.getD k false) T0) a := by rw [hGlen]; exact h.rt
    refine Or.inl (does_sound h.adv.rep hrtG hdoes fun ρ1 w1 ad hv => ?_)
    have hlow : ∀ i, i < H0.length → σ i = i := fun i hi => hσ i fun hm => by
      have := dr.low j hjlt i hm
      omega
    have hlenP : (patch (W j) (Hs (j + 1)) (HS W Hs (fun k => listed.getD k false) ops.size)).length = N := by rw [patch_length, hGlen]
    have hren : RenOK H0.length G1 σ (patch (W j) (Hs (j + 1)) (HS W Hs (fun k => listed.getD k false) ops.size)) := by
      refine ⟨hlow, by rw [hlenP, ← hGlen]; exact h.adv.len, fun i r hi => ?_, fun i q r s hi hq hiq => hinj i q (by have := lt_of_some hi; omega) (by have := lt_of_some hq; omega) hiq, fun i r hi v hv k hk => ?_⟩
      · by_cases hiW : i ∈ W j
        · rw [patch_in hiW (by rw [hl', hGlen])] at hi
          exact hnew i r hiW hi
        · rw [patch_out hiW] at hi
          have hmk : i ∉ (ms.getD j ⟨[], [], []⟩).mks := fun hm => hiW (List.mem_append_left _ hm)
          rw [hσ i hmk, hG1 i hiW (by have := lt_of_some hi; omega), (nmG i r hi).ren hσ]
          exact hi
      · rw [hlenP]
        by_cases hiW : i ∈ W j
        · rw [patch_in hiW (by rw [hl', hGlen])] at hi
          exact hcells i r hiW hi v hv k hk
        · rw [patch_out hiW] at hi
          have h2 : k < N := Nat.lt_of_lt_of_eq (h.adv.rep.cl i r hi v hv k hk) hGlen
          exact h2
    have hadv := adv_ren (h.adv.trans ad) hren
    have hput : (a.put o.dst (mapV ρ1 v1)) = a.put o.dst (mapV (fun i => ρ1 (σ i)) (vs j)) := by
      rw [hv1, mapV, mapV, mpV_ren]
    rw [hput]
    refine hK (fun i => ρ1 (σ i)) _ w1 ⟨hsz', hcl', ?_, after_ ⟨h.rt.size, fun t u hu => ?_, h.rt.cl⟩ hvN, by rw [put_defers]; exact h.df⟩
    · show Adv P ρ0 H0 w0 _ (HS W Hs (fun k => (listed.setIfInBounds j true).getD k false) ops.size) w1
      rw [mem']; exact hadv
    · rw [h.rt.at_ t u hu]
      have e1 : mapV (fun i => ρ1 (σ i)) u = mapV ρ1 u := by
        rw [mapV, mapV, ← mpV_ren, nmV_fix hσ (nmTT t u hu)]
      rw [e1]
      congr 1
      exact (mapV_agree (ρ := ρ) (ρ' := ρ1) fun i hi => ad.agree i (by rw [hGlen]; exact h.rt.cl t u hu i hi)).symm
theorem draw_any2 {P : Program} {C : Ctx P} {ops : Array Oper} {ms : List Meta} {N : Nat} {T0 : Tm} {vs : Nat → Value} {Hs : Nat → Heap} {ρ0 : Ren} {H0 : Heap} {w0 : World} {Q : Exit → Act → World → Prop} (dr : DRun2 C ops ms N H0.length T0 vs Hs)
    (hQ : ∀ ρ a w, Inv P ρ0 H0 w0 ρ (TD ops.toList 0 vs (fun k => decide (k < ops.toList.length)) T0) (Hs ops.toList.length) a w → Q .normal a w) :
    ∀ (fuel : Nat) (listed : Array Bool) (ρ : Ren) (a : Act) (w : World), listed.toList.count false = fuel → DInv2 C ops ms N T0 vs Hs ρ0 H0 w0 listed ρ a w → wpAny P .any ops Q fuel listed a w := by
  have fin : ∀ (listed : Array Bool) (ρ : Ren) (a : Act) (w : World), DInv2 C ops ms N T0 vs Hs ρ0 H0 w0 listed ρ a w → Region.ready .any ops listed = [] → Q .normal a w := by
    intro listed ρ a w h hr
    have all : ∀ i, i < ops.size → Lst listed i := by
      intro i
      induction i using Nat.strongRecOn with
      | _ i ih =>
        intro hi
        have ho : ops[i]? = some ops[i] := Array.getElem?_eq_getElem hi
        have hil : i < listed.size := by rw [h.size]; exact hi
        by_cases hl : Lst listed i
        · exact hl
        · exfalso
          have : i ∈ Region.ready .any ops listed := mem_ready.2 ⟨by
            unfold Lst at hl
            simp only [Array.getD_eq_getD_getElem?, Array.getElem?_eq_getElem hil, Option.getD_some] at hl ⊢
            simpa using hl, _, ho, fun e he hb => ih e.on (dr.edge ho e he hb) (Nat.lt_trans (dr.edge ho e he hb) hi)⟩
          rw [hr] at this
          cases this
    have hT : ∀ t : Nat, (TD ops.toList 0 vs (fun k => decide (k < ops.toList.length)) T0)[t]? = (TD ops.toList 0 vs (fun k => listed.getD k false) T0)[t]? := fun t =>
      TD_same _ _ _ _ _ _ _ t rfl rfl fun i o hi _ => by
        have hlt : i < ops.toList.length := lt_of_some hi
        have := all i (by simpa using hlt)
        unfold Lst at this
        rw [Nat.zero_add, this]
        simpa using hlt
    have hH : HS (fun k => (ms.getD k ⟨[], [], []⟩).ws) Hs (fun k => listed.getD k false) ops.size = Hs ops.toList.length := by
      rw [Array.length_toList]
      apply List.ext_getElem?
      intro i
      rw [← HS_all (n := ops.size) dr.len (fun k hk i hi => dr.frame hk i hi) i ops.size (Nat.le_refl _)]
      exact HS_congr dr.len ops.size (Nat.le_refl _) fun k hk _ => all k hk
    have hNl : (Hs ops.toList.length).length = N := dr.len _ (by simp)
    refine hQ ρ a w ⟨by rw [← hH]; exact h.adv, ⟨?_, fun t v hv => ?_, fun t v hv => ?_⟩, h.df⟩
    · rw [h.rt.size, TD_length, TD_length]
    · rw [hT] at hv; exact h.rt.at_ t v hv
    · rw [hT] at hv; rw [hNl]; exact h.rt.cl t v hv
  intro fuel
  induction fuel with
  | zero =>
    intro listed ρ a w hc h
    have hr : Region.ready .any ops listed = [] := by
      cases hrr : Region.ready .any ops listed with
      | nil => rfl
      | cons j js =>
        have hj : j ∈ Region.ready .any ops listed := by rw [hrr]; simp
        obtain ⟨hun, o, ho, hall⟩ := mem_ready.1 hj
        have hjl : j < listed.size := by rw [h.size]; exact (Array.getElem?_eq_some_iff.1 ho).1
        have : false ∈ listed.toList := by
          refine List.mem_of_getElem? (i := j) ?_
          simp only [Array.getD_eq_getD_getElem?, Array.getElem?_eq_getElem hjl, Option.getD_some] at hun
          simp [hjl, hun]
        have := List.count_pos_iff.2 this
        omega
    exact ⟨hr, fin listed ρ a w h hr⟩
  | succ fuel ih =>
    intro listed ρ a w hc h
    refine ⟨fin listed ρ a w h, fun j hj => ?_⟩
    obtain ⟨hun, o, ho, hall⟩ := mem_ready.1 hj
    have hjl : j < listed.size := by rw [h.size]; exact (Array.getElem?_eq_some_iff.1 ho).1
    refine h.go dr hj fun ρ' a' w' h' => ih _ ρ' a' w' ?_ h'
    have := count_set (l := listed.toList) (i := j) (by
      simp only [Array.getD_eq_getD_getElem?, Array.getElem?_eq_getElem hjl, Option.getD_some] at hun
      simp [hjl, hun])
    simp only [Array.toList_setIfInBounds]
    omega
def sOpsW {P : Program} (C : Ctx P) (ops : Array Oper) (ms : List Meta) (N : Nat) : List Oper → Nat → Tm → Heap → (Tm → Heap → Prop) → Prop
  | [], _, T, H, K => K T H
  | o :: rest, i, T, H, K =>
    match want? T ops o with
    | none => False
    | some b => (b = true → ∃ v H', (StepW C N (ms.getD i ⟨[], [], []⟩) T H o.op v H' ∧ nmV (hid ops ms i) v = true ∧ ∀ j r, j ∈ (ms.getD i ⟨[], [], []⟩).ws → H'[j]? = some (some r) → NMRow (hid ops ms i) r) ∧ sOpsW C ops ms N rest (i + 1) (putT T o.dst v) H' K) ∧
      (b = false → sOpsW C ops ms N rest (i + 1) (putT T o.dst undef) H K)
def RunOf2 {P : Program} (C : Ctx P) (ops : Array Oper) (ms : List Meta) (N : Nat) (K : Tm → Heap → Prop) (l : List Oper) (q : Nat) (T : Tm) (H : Heap) : Prop :=
    ∃ (vs : Nat → Value) (Hs : Nat → Heap), Hs 0 = H ∧ (∀ i, i ≤ l.length → (Hs i).length = N) ∧ (∀ i o, l[i]? = some o → ∃ b, want? (TD l 0 vs (fun k => decide (k < i)) T) ops o = some b ∧
      (b = true → StepW C N (ms.getD (q + i) ⟨[], [], []⟩) (TD l 0 vs (fun k => decide (k < i)) T) (Hs i) o.op (vs i) (Hs (i + 1)) ∧ nmV (hid ops ms (q + i)) (vs i) = true ∧ ∀ j r, j ∈ (ms.getD (q + i) ⟨[], [], []⟩).ws → (Hs (i + 1))[j]? = some (some r) → NMRow (hid ops ms (q + i)) r) ∧
      (b = false → vs i = undef ∧ Hs (i + 1) = Hs i)) ∧ K (TD l 0 vs (fun k => decide (k < l.length)) T) (Hs l.length)
theorem run_of2 {P : Program} {C : Ctx P} {ops : Array Oper} {ms : List Meta} {N : Nat} {K : Tm → Heap → Prop} : ∀ (l : List Oper) (q : Nat) (T : Tm) (H : Heap), H.length = N → sOpsW C ops ms N l q T H K → RunOf2 C ops ms N K l q T H
  | [], q, T, H, hl, h => ⟨fun _ => undef, fun _ => H, rfl, fun _ _ => hl, fun i o hi => by simp at hi, h⟩
  | o :: r, q, T, H, hl, h => by
    have none' : ∀ (vs : Nat → Value) (l : List Oper) (k : Nat) (T : Tm), TD l k vs (fun _ => false) T = T := by
      intro vs l
      induction l with
      | nil => intro k T; rfl
      | cons a l ih => intro k T; rw [TD, if_neg (by simp), ih]
    have zero : ∀ (vs : Nat → Value), TD (o :: r) 0 vs (fun k => decide (k < 0)) T = T := fun vs => by
      have : (fun k => decide (k < 0)) = (fun _ : Nat => false) := by funext k; simp
      rw [this, none']
    have succ : ∀ (v : Value) (vs : Nat → Value) (i : Nat), TD (o :: r) 0 (fun j => match j with
        | 0 => v
        | j + 1 => vs j) (fun k => decide (k < i + 1)) T = TD r 0 vs (fun k => decide (k < i)) (putT T o.dst v) := fun v vs i => by
      rw [TD, if_pos (by simp), TD_shift]
      congr 1
      funext k
      simp
    simp only [sOpsW] at h
    split at h
    · exact h.elim
    · rename_i b hb
      have main : ∀ (v : Value) (H' : Heap), H'.length = N → sOpsW C ops ms N r (q + 1) (putT T o.dst v) H' K →
          ((b = true → StepW C N (ms.getD q ⟨[], [], []⟩) T H o.op v H' ∧ nmV (hid ops ms q) v = true ∧ ∀ j r, j ∈ (ms.getD q ⟨[], [], []⟩).ws → H'[j]? = some (some r) → NMRow (hid ops ms q) r) ∧ (b = false → v = undef ∧ H' = H)) → RunOf2 C ops ms N K (o :: r) q T H := by
        intro v H' hl' hk hst
        obtain ⟨vs, Hs, h0, hls, h1, h2⟩ := run_of2 r (q + 1) _ H' hl' hk
        refine ⟨fun j => match j with
          | 0 => v
          | j + 1 => vs j, fun j => match j with
          | 0 => H
          | j + 1 => Hs j, rfl, fun i hi => ?_, fun i o' hi => ?_, ?_⟩
        · cases i with
          | zero => exact hl
          | succ i => exact hls i (by simpa using hi)
        · cases i with
          | zero =>
            simp only [List.getElem?_cons_zero, Option.some.injEq] at hi
            subst hi
            rw [zero]
            refine ⟨b, hb, fun hbt => ?_, fun hbf => ?_⟩
            · show StepW C N (ms.getD q ⟨[], [], []⟩) T H o.op v (Hs 0) ∧ nmV (hid ops ms q) v = true ∧ ∀ j r, j ∈ (ms.getD q ⟨[], [], []⟩).ws → (Hs 0)[j]? = some (some r) → NMRow (hid ops ms q) r
              rw [h0]
              exact hst.1 hbt
            · show v = undef ∧ Hs 0 = H
              rw [h0]
              exact hst.2 hbf
          | succ i =>
            rw [succ]
            have := h1 i o' (by simpa using hi)
            rw [show q + 1 + i = q + (i + 1) by omega] at this
            exact this
        · rw [List.length_cons, succ]
          exact h2
      cases b with
      | true =>
        obtain ⟨v, H', hst, hk⟩ := h.1 rfl
        exact main v H' hst.1.1 hk ⟨fun _ => hst, fun h => by cases h⟩
      | false => exact main undef H hl (h.2 rfl) ⟨(fun h => by cases h), fun _ => ⟨rfl, rfl⟩⟩
theorem adv_pad {P : Program} {ρ0 ρ : Ren} {H0 H : Heap} {w0 w : World} (h : Adv P ρ0 H0 w0 ρ H w) (m : Nat) : Adv P ρ0 H0 w0 ρ (H ++ List.replicate m none) w := by
  have hsub : ∀ (i : Nat) (r : Row), (H ++ List.replicate m none)[i]? = some (some r) → H[i]? = some (some r) := fun i r hi => by
    rcases Nat.lt_or_ge i H.length with h1 | h1
    · rwa [List.getElem?_append_left h1] at hi
    · rw [List.getElem?_append_right h1, List.getElem?_replicate] at hi
      split at hi <;> simp at hi
  exact ⟨h.agree, by have := h.len; simp; omega, ⟨fun i r hi => h.rep.row i r (hsub i r hi), fun i j r s hi hj => h.rep.sep i j r s (hsub i r hi) (hsub j s hj), fun i r hi v hv k hk => by
    have := h.rep.cl i r (hsub i r hi) v hv k hk; simp; omega⟩, h.os, h.tape, h.output, h.size, h.frame, fun i r hi hr => h.fresh i r (hsub i r hi) hr⟩
theorem draw_sound2 {P : Program} {C : Ctx P} {ops : Array Oper} {ms : List Meta} {id m : Nat} {ρ0 ρ : Ren} {H0 H : Heap} {w0 w : World} {T : Tm} {a : Act} {K : Exit → Tm → Heap → Prop}
    (hOK : regionOK2 ops ms = true) (hlow : ∀ k, k < ops.size → ∀ i ∈ (ms.getD k ⟨[], [], []⟩).mks, H0.length ≤ i)
    (nmT : ∀ k, k < ops.size → ∀ (t : Nat) (v : Value), T[t]? = some (some v) → nmV (ms.getD k ⟨[], [], []⟩).mks v = true)
    (nmH : ∀ k, k < ops.size → ∀ (i : Nat) (r : Row), (H ++ List.replicate m none)[i]? = some (some r) → NMRow (ms.getD k ⟨[], [], []⟩).mks r)
    (hs : sOpsW C ops ms (H.length + m) ops.toList 0 T (H ++ List.replicate m none) (K .normal)) (hi : Inv P ρ0 H0 w0 ρ T H a w) : (Code.region id ops true).wp P (Post P ρ0 H0 w0 K) a w := by
  obtain ⟨vs, Hs, h0, hls, h1, h2⟩ := run_of2 _ 0 _ _ (by simp) hs
  simp only [Nat.zero_add] at h1
  have dr : DRun2 C ops ms (H.length + m) H0.length T vs Hs := ⟨hOK, hlow, fun k hk => hls k (by simpa using hk), fun i o hi => h1 i o (by simpa using hi), nmT, by rw [h0]; exact nmH⟩
  refine wp_region_any C.mixed ?_
  have hadv := adv_pad hi.adv m
  have hdrew := adv_drew hadv.rep { w with drawn := w.drawn + 1 } rfl rfl rfl rfl
  refine draw_any2 (ρ0 := ρ0) (H0 := H0) (w0 := w0) dr (fun ρ' a' w' h => ⟨ρ', _, _, h2, h⟩) ops.size _ ρ a _ ?_ ?_
  · simp
  · have none' : ∀ (l : List Oper) (k : Nat) (T : Tm), TD l k vs (fun k => (Array.replicate ops.size false).getD k false) T = T := by
      intro l
      induction l with
      | nil => intro k T; rfl
      | cons a l ih =>
        intro k T
        rw [TD, if_neg, ih]
        simp [Array.getElem?_replicate]
        split <;> simp
    have noH : ∀ k, HS (fun k => (ms.getD k ⟨[], [], []⟩).ws) Hs (fun k => (Array.replicate ops.size false).getD k false) k = Hs 0 := by
      intro k
      induction k with
      | zero => rfl
      | succ k ih =>
        rw [HS, if_neg, ih]
        simp [Array.getElem?_replicate]
        split <;> simp
    have nol : ∀ i, ¬ Lst (Array.replicate ops.size false) i := by
      intro i h
      unfold Lst at h
      simp only [Array.getD_eq_getD_getElem?, Array.getElem?_replicate] at h
      split at h <;> simp at h
    refine ⟨by simp, fun j o ho hl => absurd hl (nol j), by rw [noH, h0]; exact hadv.trans hdrew, ?_, hi.df⟩
    rw [none']
    exact ⟨hi.rt.size, hi.rt.at_, fun t v hv i hi' => by have := hi.rt.cl t v hv i hi'; omega⟩
end Go.Am
set_option linter.unusedVariables false
set_option linter.unusedSimpArgs false
namespace Go.Am
open Go.RowKit
def idsO (T : Tm) (x : Operand) : List Nat := match evalO T x with
  | some u => idsV u
  | none => []
def touch (T : Tm) : Op → List Nat
  | .load _ x => idsO T x
  | .store _ x _ => idsO T x
  | .slice _ x _ _ _ => idsO T x
  | .call c => c.args.toList.flatMap (idsO T)
  | _ => []
inductive Same2 (t : List Nat) (H G : Heap) : Heap → Heap → Prop
  | id : Same2 t H G H G
  | new (r : Row) : Same2 t H G (H ++ [some r]) (G ++ [some r])
  | set (b : Nat) (x : Option Row) : b ∈ t → Same2 t H G (H.set b x) (G.set b x)
  | app (b : Nat) (r : Row) : b ∈ t → Same2 t H G (H.set b none ++ [some r]) (G.set b none ++ [some r])
theorem row?_agree {H G : Heap} {b : Nat} (h : G[b]? = H[b]?) : row? G b = row? H b := by unfold row?; rw [h]
theorem idsO_mem {T : Tm} {x : Operand} {u : Value} {i : Nat} (hu : evalO T x = some u) (hi : i ∈ idsV u) : i ∈ idsO T x := by unfold idsO; rw [hu]; exact hi
section
variable {P : Program} {C : Ctx P}
theorem readS_agree {H G : Heap} {size : Nat} {x : Value} (h : ∀ b ∈ idsV x, G[b]? = H[b]?) : readS G size x = readS H size x := by
  unfold readS
  cases x with
  | slice a n c => cases a with
    | none => rfl
    | some a => simp only [row?_agree (h a.block (by simp [idsV, idsA, idsS, idsP]))]
  | _ => rfl
theorem opLoad_agree {H G : Heap} {t : TypeId} {x : Value} (h : ∀ b ∈ idsV x, G[b]? = H[b]?) : opLoad P G t x = opLoad P H t x := by
  unfold opLoad
  cases x with
  | pointer a => cases a with
    | none => rfl
    | some a => simp only [row?_agree (h a.block (by simp [idsV, idsA, idsS, idsP]))]
  | _ => rfl
theorem evOp_local {T : Tm} {H H1 : Heap} {op : Op} {v1 : Value} (h : evOp C T H op = some (v1, H1)) {G : Heap} (hlen : G.length = H.length) (hag : ∀ b ∈ touch T op, G[b]? = H[b]?) : ∃ G1, evOp C T G op = some (v1, G1) ∧ Same2 (touch T op) H G H1 G1 := by
  by_cases hp : isPure op = true
  · obtain ⟨rfl, h2⟩ := evOp_pure hp h
    exact ⟨G, h2 G, .id⟩
  cases op with
  | load t x =>
    simp only [evOp, Option.bind_eq_some_iff, Option.map_eq_some_iff, Prod.mk.injEq] at h
    obtain ⟨u, hu, r, hr, rfl, rfl⟩ := h
    refine ⟨G, ?_, .id⟩
    simp only [evOp, hu, Option.bind_some, opLoad_agree (P := P) (H := H) (G := G) (t := t) (x := u) fun b hb => hag b (by simpa only [touch] using idsO_mem hu hb), hr]
    rfl
  | slice t x lo hi mx =>
    cases mx with
    | some m => simp [evOp] at h
    | none =>
      simp only [evOp] at h
      split at h
      · rename_i u l hh hu hl hhh
        have key : ∀ a : Addr, a.block ∈ idsV u → row? G a.block = row? H a.block := fun a ha => row?_agree (hag _ (by simpa only [touch] using idsO_mem hu ha))
        have e : ∀ G1, opSlice P G t u l hh = some (v1, G1) → evOp C T G (.slice t x lo hi none) = some (v1, G1) := fun G1 hg => by
          simp only [evOp, hu, hl, hhh, hg]
        unfold opSlice at h
        split at h
        · rename_i s1 s2 z hti
          split at h
          · rename_i s
            split at h
            · rename_i l' h' hb1 hb2
              split at h
              · rename_i hc
                simp only [Option.some.injEq, Prod.mk.injEq] at h
                obtain ⟨rfl, rfl⟩ := h
                refine ⟨G, e _ ?_, .id⟩
                unfold opSlice
                simp only [hti, hb1, hb2]
                rw [if_pos hc]
              · cases h
            · cases h
          · cases h
        · rename_i n el s1 s2 z hti
          split at h
          · rename_i a
            split at h
            · rename_i r te hr hte
              split at h
              · rename_i hc
                simp only [Option.some.injEq, Prod.mk.injEq] at h
                obtain ⟨rfl, rfl⟩ := h
                refine ⟨G, e _ ?_, .id⟩
                have k := key a (by simp [idsV, idsA, idsS, idsP])
                unfold opSlice
                simp only [hti, k, hr, hte]
                rw [if_pos hc]
              · cases h
            · cases h
          · cases h
        · rename_i el s1 s2 z hti
          split at h
          · split at h
            · rename_i te hb1 hb2 hte
              simp only [Option.some.injEq, Prod.mk.injEq] at h
              obtain ⟨rfl, rfl⟩ := h
              refine ⟨G, e _ ?_, .id⟩
              unfold opSlice
              simp only [hti, hb1, hb2, hte]
            · cases h
          · rename_i a len c
            split at h
            · rename_i r te l' h' hr hte hb1 hb2
              have k := key a (by simp [idsV, idsA, idsS, idsP])
              split at h
              · rename_i hc
                split at h
                · rename_i hl'
                  simp only [Option.some.injEq, Prod.mk.injEq] at h
                  obtain ⟨rfl, rfl⟩ := h
                  refine ⟨G, e _ ?_, .id⟩
                  unfold opSlice
                  simp only [hti, k, hr, hte, hb1, hb2]
                  rw [if_pos hc, if_pos hl']
                · rename_i hl'
                  simp only [Option.some.injEq, Prod.mk.injEq] at h
                  obtain ⟨rfl, rfl⟩ := h
                  refine ⟨_, e _ ?_, .new _⟩
                  unfold opSlice
                  simp only [hti, k, hr, hte, hb1, hb2]
                  rw [if_pos hc, if_neg hl', hlen]
              · cases h
            · cases h
          · cases h
        · cases h
      · cases h
  | store t x y =>
    simp only [evOp] at h
    split at h
    · rename_i a u ha hu
      simp only [Option.map_eq_some_iff, Prod.mk.injEq] at h
      obtain ⟨H2, hs, rfl, rfl⟩ := h
      have key : ∀ b ∈ idsV a, row? G b = row? H b := fun b hb => row?_agree (hag b (by simpa only [touch] using idsO_mem ha hb))
      have e : ∀ G1, opStore P G t a u = some G1 → evOp C T G (.store t x y) = some (undef, G1) := fun G1 hg => by
        simp only [evOp, ha, hu, hg]
        rfl
      unfold opStore at hs
      split at hs
      · rename_i ad
        split at hs
        · rename_i r ti hr hti
          split at hs
          · rename_i hc
            simp only [Option.some.injEq] at hs
            subst hs
            refine ⟨_, e _ ?_, .set _ _ (by simp only [touch]; exact idsO_mem ha (by simp [idsV, idsA, idsS, idsP]))⟩
            have k := key ad.block (by simp [idsV, idsA, idsS, idsP])
            unfold opStore
            simp only [k, hr, hti]
            rw [if_pos hc]
          · cases hs
        · cases hs
      · cases hs
    · cases h
  | alloc t =>
    simp only [evOp] at h
    unfold opAlloc at h
    repeat' split at h
    all_goals first | (cases h; done) | skip
    all_goals (simp only [Option.some.injEq, Prod.mk.injEq] at h; obtain ⟨rfl, rfl⟩ := h)
    refine ⟨_, ?_, .new _⟩
    simp only [evOp]
    unfold opAlloc
    simp_all
  | box t x =>
    simp only [evOp, Option.bind_eq_some_iff] at h
    obtain ⟨u, hu, h⟩ := h
    unfold opBox at h
    split at h
    · rename_i hc
      simp only [Option.some.injEq, Prod.mk.injEq] at h
      obtain ⟨rfl, rfl⟩ := h
      refine ⟨_, ?_, .new _⟩
      simp only [evOp, hu, Option.bind_some]
      unfold opBox
      rw [if_pos hc, hlen]
    · cases h
  | makeSlice t x y =>
    simp only [evOp] at h
    split at h
    · rename_i u w hu hw
      have e : ∀ G1, opMake P G t u w = some (v1, G1) → evOp C T G (.makeSlice t x y) = some (v1, G1) := fun G1 hg => by
        simp only [evOp, hu, hw, hg]
      unfold opMake at h
      split at h
      · rename_i k n k' m el _ _ _ hti
        split at h
        · rename_i te hte
          split at h
          · rename_i hc
            simp only [Option.some.injEq, Prod.mk.injEq] at h
            obtain ⟨rfl, rfl⟩ := h
            refine ⟨_, e _ ?_, .new _⟩
            unfold opMake
            simp only [hti, hte]
            rw [if_pos hc, hlen]
          · cases h
        · cases h
      · cases h
    · cases h
  | buildSlice t n ps =>
    simp only [evOp, Option.bind_eq_some_iff] at h
    obtain ⟨l, hl, h⟩ := h
    have e : ∀ G1, opBuildSlice P G t n l = some (v1, G1) → evOp C T G (.buildSlice t n ps) = some (v1, G1) := fun G1 hg => by
      simp only [evOp, hl, Option.bind_some, hg]
    unfold opBuildSlice at h
    split at h
    · rename_i el _ _ _ hti
      split at h
      · rename_i te hte
        split at h
        · rename_i hc
          simp only [Option.map_eq_some_iff, Prod.mk.injEq] at h
          obtain ⟨cs, hcs, rfl, rfl⟩ := h
          refine ⟨_, e _ ?_, .new _⟩
          unfold opBuildSlice
          simp only [hti, hte]
          rw [if_pos hc, hcs, hlen]
          rfl
        · cases h
      · cases h
    · cases h
  | call c =>
    obtain ⟨callee, args, tys⟩ := c
    cases callee with
    | builtin b =>
      cases b <;> first | (simp [isPure] at hp; done) | skip
      all_goals first | (simp [evOp] at h; done) | skip
      simp only [evOp] at h
      repeat' split at h
      all_goals first | (cases h; done) | skip
      rename_i x y t t' hargs htys htt _ _ u w hu hw
      subst htt
      have key : ∀ b, (b ∈ idsV u ∨ b ∈ idsV w) → G[b]? = H[b]? := fun b hb => by
        refine hag b ?_
        simp only [touch, hargs, List.flatMap_cons, List.flatMap_nil, List.append_nil, List.mem_append]
        rcases hb with hb | hb
        · exact Or.inl (idsO_mem hu hb)
        · exact Or.inr (idsO_mem hw hb)
      have hmem : ∀ b, b ∈ idsV u → b ∈ touch T (.call ⟨.builtin .append, args, tys⟩) := fun b hb => by
        simp only [touch, hargs, List.flatMap_cons, List.flatMap_nil, List.append_nil, List.mem_append]
        exact Or.inl (idsO_mem hu hb)
      have e : ∀ G1, opAppend P G t u w = some (v1, G1) → evOp C T G (.call ⟨.builtin .append, args, tys⟩) = some (v1, G1) := fun G1 hg => by
        simp only [evOp, hargs, htys, hu, hw, if_true, hg]
      have kr : ∀ a : Addr, a.block ∈ idsV u → row? G a.block = row? H a.block := fun a ha => row?_agree (key _ (Or.inl ha))
      have ks : ∀ n, readS G n w = readS H n w := fun n => readS_agree fun b hb => key b (Or.inr hb)
      unfold opAppend at h
      split at h
      · rename_i el _ _ _ hti
        split at h
        · rename_i te hte
          split at h
          · rename_i hc
            split at h
            · simp only [Option.some.injEq, Prod.mk.injEq] at h
              obtain ⟨rfl, rfl⟩ := h
              refine ⟨G, e _ ?_, .id⟩
              unfold opAppend
              simp only [hti, hte]
              rw [if_pos hc]
            · split at h
              · rename_i l hl
                have k := ks te.size
                split at h
                · rename_i hm
                  simp only [Option.some.injEq, Prod.mk.injEq] at h
                  obtain ⟨rfl, rfl⟩ := h
                  refine ⟨G, e _ ?_, .id⟩
                  unfold opAppend
                  simp only [hti, hte, k, hl]
                  rw [if_pos hc, if_pos hm]
                · rename_i hm
                  split at h
                  · rename_i hb
                    simp only [Option.some.injEq, Prod.mk.injEq] at h
                    obtain ⟨rfl, rfl⟩ := h
                    refine ⟨_, e _ ?_, .new _⟩
                    unfold opAppend
                    simp only [hti, hte, k, hl]
                    rw [if_pos hc, if_neg hm, if_pos hb, hlen]
                  · cases h
              · cases h
            · rename_i b n
              have k := kr b (by simp [idsV, idsA, idsS, idsP])
              split at h
              · rename_i r hr
                split at h
                · rename_i hb
                  simp only [Option.some.injEq, Prod.mk.injEq] at h
                  obtain ⟨rfl, rfl⟩ := h
                  refine ⟨G, e _ ?_, .id⟩
                  unfold opAppend
                  simp only [hti, hte, k, hr]
                  rw [if_pos hc, if_pos hb]
                · cases h
              · cases h
            · rename_i b n a m c
              have k := kr b (by simp [idsV, idsA, idsS, idsP])
              have k2 := ks te.size
              split at h
              · rename_i r l hr hl
                split at h
                · rename_i hb
                  simp only [Option.some.injEq, Prod.mk.injEq] at h
                  obtain ⟨rfl, rfl⟩ := h
                  refine ⟨_, e _ ?_, .app _ _ (hmem _ (by simp [idsV, idsA, idsS, idsP]))⟩
                  unfold opAppend
                  simp only [hti, hte, k, k2, hr, hl]
                  rw [if_pos hc, if_pos hb, hlen]
                · cases h
              · cases h
            · cases h
          · cases h
        · cases h
      · cases h
    | _ => simp [evOp] at h
  | _ => first | (simp [isPure] at hp; done) | (simp [evOp] at h; done)
theorem Same2.pt {t : List Nat} {H G H1 G1 : Heap} {N : Nat} (s : Same2 t H G H1 G1) (hN : H.length = N) (hG : G.length = N) (hag : ∀ b ∈ t, G[b]? = H[b]?) :
    G1.length = H1.length ∧ (∀ i, i ∉ t → i < N → G1[i]? = G[i]?) ∧ (∀ i, i ∈ t ∨ N ≤ i → G1[i]? = H1[i]?) := by
  have base : ∀ i, i ∈ t ∨ N ≤ i → G[i]? = H[i]? := fun i hi => by
    rcases hi with hi | hi
    · exact hag i hi
    · rw [List.getElem?_eq_none (by omega), List.getElem?_eq_none (by omega)]
  have bset : ∀ b x i, i ∈ t ∨ N ≤ i → (G.set b x)[i]? = (H.set b x)[i]? := fun b x i hi => by
    rw [List.getElem?_set, List.getElem?_set, base i hi, hN, hG]
  have bnew : ∀ (G H : Heap) r i, G.length = N → H.length = N → (i ∈ t ∨ N ≤ i → G[i]? = H[i]?) → i ∈ t ∨ N ≤ i → (G ++ [some r])[i]? = (H ++ [some r])[i]? := fun G H r i h1 h2 h3 hi => by
    rcases Nat.lt_or_ge i N with h | h
    · rw [List.getElem?_append_left (by omega), List.getElem?_append_left (by omega)]; exact h3 hi
    · rw [List.getElem?_append_right (by omega), List.getElem?_append_right (by omega), h1, h2]
  cases s with
  | id => exact ⟨by rw [hN, hG], fun i _ _ => rfl, base⟩
  | new r => exact ⟨by simp [hN, hG], fun i _ hi => List.getElem?_append_left (by omega), fun i hi => bnew G H r i hG hN (base i) hi⟩
  | set b x hb => exact ⟨by simp [hN, hG], fun i hi _ => List.getElem?_set_ne (fun e : b = i => hi (e ▸ hb)), fun i hi => bset b x i hi⟩
  | app b r hb =>
    refine ⟨by simp [hN, hG], fun i hi hiN => ?_, fun i hi => bnew _ _ r i (by simp [hG]) (by simp [hN]) (bset b none i) hi⟩
    rw [List.getElem?_append_left (by simp [hG, hiN]), List.getElem?_set_ne (fun e : b = i => hi (e ▸ hb))]
theorem stGen {N : Nat} {m : Meta} {T : Tm} {H H1 H' : Heap} {op : Op} {v v1 : Value} (σ : Nat → Nat) (h : evOp C T H op = some (v1, H1)) (hN : H.length = N) (ht : ((touch T op).all fun i => m.wr.contains i || m.rd.contains i) = true) (hσ : ∀ i, i ∉ m.mks → σ i = i) (hv1 : v1 = mpV (renId σ) v)
    (hinj : ∀ i j, i < N → j < N → σ i = σ j → i = j) (hH' : H'.length = N) (hfr : ∀ i, i ∉ m.ws → H'[i]? = H[i]?) (hv : ((idsV v).all fun i => decide (i < N)) = true) (hcl : ∀ i r, i ∈ m.ws → H'[i]? = some (some r) → ∀ v ∈ r.cells, ∀ k ∈ idsS v, k < N)
    (hwr : ∀ i, i ∉ m.ws → i < N → H1[i]? = H[i]?) (hnew : ∀ i r, i ∈ m.ws → H'[i]? = some (some r) → H1[σ i]? = some (some (renRow σ r)) ∧ (σ i ∈ touch T op ∨ N ≤ σ i)) : StepW C N m T H op v H' := by
  simp only [List.all_eq_true, decide_eq_true_eq, Bool.or_eq_true, List.contains_eq_mem] at hv ht
  refine ⟨hH', hfr, hv, hcl, fun T' G hT hG hag => ?_⟩
  have hsub : ∀ b ∈ touch T op, G[b]? = H[b]? := fun b hb => hag b (by
    rcases ht b hb with h1 | h1
    · exact List.mem_append_left _ (List.mem_append_right _ h1)
    · exact List.mem_append_right _ h1)
  obtain ⟨G1, hg, hs⟩ := evOp_local h (hG.trans hN.symm) hsub
  obtain ⟨p1, p2, p3⟩ := hs.pt hN hG hsub
  rw [evOp_congr (T' := T') fun x hx => hT x (by simpa using hx)] at hg
  refine ⟨v1, G1, σ, .op hg, hσ, hv1, fun i hi hiN => ?_, fun i r hi hr => ?_, hinj⟩
  · by_cases hit : i ∈ touch T op
    · rw [p3 i (Or.inl hit), hwr i hi hiN, hsub i hit]
    · exact p2 i hit hiN
  · obtain ⟨h1, h2⟩ := hnew i r hi hr
    rw [p3 _ h2, h1]
theorem ren_id {v : Value} (h : nmV [] v = true) : v = mpV (renId id) v := (nmV_fix (mk := []) (fun _ _ => rfl) h).symm
theorem stId {N : Nat} {rd : List Nat} {T : Tm} {H : Heap} {op : Op} {v : Value} (h : evOp C T H op = some (v, H)) (hN : H.length = N) (ht : ((touch T op).all fun i => rd.contains i) = true) (hv : ((idsV v).all fun i => decide (i < N)) = true) (hn : nmV [] v = true) : StepW C N ⟨[], [], rd⟩ T H op v H := by
  refine stGen id h hN ?_ (fun _ _ => rfl) (ren_id hn) (fun i j _ _ h => h) hN (fun _ _ => rfl) hv (fun i r hi => by simp [Meta.ws] at hi) (fun _ _ _ => rfl) (fun i r hi => by simp [Meta.ws] at hi)
  simpa using ht
def Any (N : Nat) (rd : List Nat) (H : Heap) (p : Heap → Prop) : Prop := ∀ G : Heap, G.length = N → (∀ i, i ∈ rd → G[i]? = H[i]?) → p G
theorem stQ {N : Nat} {rd : List Nat} {T : Tm} {H : Heap} {op : Op} {c : Call} {f : FuncId} {args : List Value} {v : Value} (ho : op = .call c) (hc : calleeOf T c = some (f, args)) (hS : Any N rd H fun G => Sound P f args G v G) (hN : H.length = N)
    (hv : ((idsV v).all fun i => decide (i < N)) = true) (hn : nmV [] v = true) : StepW C N ⟨[], [], rd⟩ T H op v H := by
  simp only [List.all_eq_true, decide_eq_true_eq] at hv
  refine ⟨hN, fun _ _ => rfl, hv, fun i r hi => by simp [Meta.ws] at hi, fun T' G hT hG hag => ?_⟩
  subst ho
  refine ⟨v, G, id, .call c f args rfl ?_ (hS G hG fun i hi => hag i (List.mem_append_right _ hi)), fun _ _ => rfl, ren_id hn, fun _ _ _ => rfl, fun i r hi => by simp [Meta.ws] at hi, fun i j _ _ h => h⟩
  rw [← hc]
  exact (calleeOf_congr fun x hx => hT x (by simpa only [Op.operands] using hx)).symm
def toEnds (i k N : Nat) : Nat → Nat := fun j => if i ≤ j ∧ j < i + k then N + (j - i) else j
theorem toEnds_inj {i k N : Nat} {a b : Nat} (ha : a < N) (hb : b < N) (h : toEnds i k N a = toEnds i k N b) : a = b := by
  unfold toEnds at h
  split at h <;> split at h <;> omega
def putRows : Heap → Nat → Heap → Heap
  | H, _, [] => H
  | H, i, r :: E => putRows (H.set i r) (i + 1) E
theorem putRows_length : ∀ (E : Heap) (H : Heap) (i : Nat), (putRows H i E).length = H.length
  | [], _, _ => rfl
  | r :: E, H, i => by rw [putRows, putRows_length E]; simp
theorem putRows_out : ∀ (E : Heap) (H : Heap) (i j : Nat), (j < i ∨ i + E.length ≤ j) → (putRows H i E)[j]? = H[j]?
  | [], _, _, _, _ => rfl
  | r :: E, H, i, j, h => by
    rw [putRows, putRows_out E _ _ _ (by simp at h; omega), List.getElem?_set_ne (by simp at h; omega)]
theorem putRows_in : ∀ (E : Heap) (H : Heap) (i j : Nat), i + E.length ≤ H.length → i ≤ j → j < i + E.length → (putRows H i E)[j]? = E[j - i]?
  | [], _, i, j, _, h1, h2 => by simp at h2; omega
  | r :: E, H, i, j, hl, h1, h2 => by
    simp only [List.length_cons] at hl h2
    rw [putRows]
    rcases Nat.eq_or_lt_of_le h1 with h3 | h3
    · subst h3
      rw [putRows_out E _ _ _ (by omega), List.getElem?_set_self (by omega), Nat.sub_self]; rfl
    · rw [putRows_in E _ _ _ (by simp; omega) (by omega) (by omega), show j - i = (j - (i + 1)) + 1 by omega]; rfl
theorem stN {N i : Nat} {mk rd : List Nat} {T : Tm} {H E : Heap} {op : Op} {c : Call} {f : FuncId} {args : List Value} {v v1 : Value} (ho : op = .call c) (hc : calleeOf T c = some (f, args)) (hS : Any N rd H fun G => Sound P f args G v1 (G ++ E)) (hN : H.length = N) (hmk : (mk == List.range' i E.length) = true) (hi : decide (i + E.length ≤ N) = true)
    (hv1 : v1 = mpV (renId (toEnds i E.length N)) v) (hv : ((idsV v).all fun i => decide (i < N)) = true) (hE : FlatH E) : StepW C N ⟨mk, [], rd⟩ T H op v (putRows H i E) := by
  simp only [List.all_eq_true, decide_eq_true_eq, beq_iff_eq] at hv hi hmk
  subst hmk
  have hin : ∀ j, j ∈ List.range' i E.length ↔ i ≤ j ∧ j < i + E.length := fun j => by rw [List.mem_range'_1]
  have hfix : ∀ j, j ∉ List.range' i E.length → toEnds i E.length N j = j := fun j hj => by unfold toEnds; rw [if_neg (fun h => hj ((hin j).2 h))]
  have hat : ∀ j r, j ∈ List.range' i E.length → (putRows H i E)[j]? = some (some r) → E[j - i]? = some (some r) := fun j r hj h => by
    obtain ⟨h1, h2⟩ := (hin j).1 hj
    rwa [putRows_in E H i j (by omega) h1 h2] at h
  refine ⟨by rw [putRows_length, hN], fun j hj => ?_, hv, fun j r hj hr v hv k hk => ?_, fun T' G hT hG hag => ?_⟩
  · refine putRows_out E H i j ?_
    simp only [Meta.ws, List.append_nil] at hj
    rw [hin] at hj
    omega
  · simp only [Meta.ws, List.append_nil] at hj
    have := hE r (List.mem_of_getElem? (hat j r hj hr)) v hv
    rw [this.1] at hk; cases hk
  · subst ho
    refine ⟨v1, G ++ E, toEnds i E.length N, .call c f args rfl ?_ (hS G hG fun i hi => hag i (List.mem_append_right _ hi)), hfix, hv1, fun j _ hjN => List.getElem?_append_left (by omega), fun j r hj hr => ?_, fun a b ha hb h => toEnds_inj ha hb h⟩
    · rw [← hc]
      exact (calleeOf_congr fun x hx => hT x (by simpa only [Op.operands] using hx)).symm
    · simp only [Meta.ws, List.append_nil] at hj
      have h3 := hat j r hj hr
      obtain ⟨h1, h2⟩ := (hin j).1 hj
      have e : toEnds i E.length N j = N + (j - i) := by unfold toEnds; rw [if_pos ⟨h1, h2⟩]
      rw [e, (hE r (List.mem_of_getElem? h3)).ren, List.getElem?_append_right (by omega), hG, Nat.add_sub_cancel_left]
      exact h3
variable {ops : Array Oper} {ms : List Meta} {N : Nat}
theorem rW {i : Nat} {K : Tm → Heap → Prop} {o : Oper} {r : List Oper} {T : Tm} {H H' : Heap} {v : Value} {m : Meta} (hm : ms.getD i ⟨[], [], []⟩ = m) (hw : want? T ops o = some true) (hst : StepW C N m T H o.op v H') (hn : nmV (hid ops ms i) v = true)
    (hr : ∀ j q, j ∈ m.ws → H'[j]? = some (some q) → NMRow (hid ops ms i) q) (hk : sOpsW C ops ms N r (i + 1) (putT T o.dst v) H' K) : sOpsW C ops ms N (o :: r) i T H K := by
  subst hm
  simp only [sOpsW, hw]
  exact ⟨fun _ => ⟨v, H', ⟨hst, hn, hr⟩, hk⟩, fun h => by cases h⟩
theorem nr0 {rd : List Nat} {H' : Heap} {hidl : List Nat} : ∀ j q, j ∈ (Meta.mk [] [] rd).ws → H'[j]? = some (some q) → NMRow hidl q := fun j q h => by simp [Meta.ws] at h
def NRs (hl : List Nat) (H : Heap) : List Nat → Prop
  | [] => True
  | j :: l => (∀ q, H[j]? = some (some q) → NMRow hl q) ∧ NRs hl H l
theorem NRs.all {hl : List Nat} {H : Heap} : ∀ {l : List Nat}, NRs hl H l → ∀ j q, j ∈ l → H[j]? = some (some q) → NMRow hl q
  | [], _, j, q, hj, _ => by simp at hj
  | i :: l, h, j, q, hj, hq => by
    rcases List.mem_cons.1 hj with rfl | hj
    · exact h.1 q hq
    · exact h.2.all j q hj hq
theorem nrOf {hl : List Nat} {H : Heap} {j : Nat} {r : Row} (h : H[j]? = some (some r)) (hr : NMRow hl r) : ∀ q, H[j]? = some (some q) → NMRow hl q := fun q hq => by
  rw [h] at hq
  simp only [Option.some.injEq] at hq
  exact hq ▸ hr
def evRW (C : Ctx P) (ops : Array Oper) (ms : List Meta) (N : Nat) : Nat → List Oper → Nat → Tm → Heap → Option (Tm × Heap)
  | 0, _, _, T, H => some (T, H)
  | _ + 1, [], _, T, H => some (T, H)
  | k + 1, o :: r, i, T, H => match want? T ops o with
    | some true => match evOp C T H o.op with
      | some (v, H') => match ms.getD i ⟨[], [], []⟩ with
        | ⟨[], [], rd⟩ => if (isPure o.op || (isRead o.op && H'.length == H.length)) && ((touch T o.op).all fun i => rd.contains i) && ((idsV v).all fun i => decide (i < N)) && nmV (hid ops ms i) v && (H.length == N) then evRW C ops ms N k r (i + 1) (putT T o.dst v) H else none
        | _ => none
      | none => none
    | some false => evRW C ops ms N k r (i + 1) (putT T o.dst undef) H
    | none => none
theorem segW {K : Tm → Heap → Prop} {T1 : Tm} {H1 : Heap} : ∀ (k : Nat) {l : List Oper} {i : Nat} {T : Tm} {H : Heap}, evRW C ops ms N k l i T H = some (T1, H1) → sOpsW C ops ms N (l.drop k) (i + min k l.length) T1 H1 K → sOpsW C ops ms N l i T H K
  | 0, l, i, T, H, h, hk => by simp only [evRW, Option.some.injEq, Prod.mk.injEq] at h; obtain ⟨rfl, rfl⟩ := h; simpa using hk
  | k + 1, [], i, T, H, h, hk => by simp only [evRW, Option.some.injEq, Prod.mk.injEq] at h; obtain ⟨rfl, rfl⟩ := h; simpa using hk
  | k + 1, o :: r, i, T, H, h, hk => by
    simp only [evRW] at h
    have e : i + min (k + 1) (o :: r).length = (i + 1) + min k r.length := by simp only [List.length_cons]; omega
    rw [e] at hk
    split at h
    · rename_i hw
      split at h
      · rename_i v H' he
        split at h
        · rename_i rd hm
          split at h
          · rename_i hc
            simp only [Bool.and_eq_true, Bool.or_eq_true, beq_iff_eq] at hc
            obtain ⟨⟨⟨⟨hpr, ht⟩, hv⟩, hn⟩, hN⟩ := hc
            have hH : H' = H := by
              rcases hpr with hp | ⟨hr, hl⟩
              · exact (evOp_pure hp he).1
              · exact evOp_slice_len hr he hl
            subst hH
            exact rW hm hw (stId he hN ht hv (nmV_mono (fun _ h => by simp at h) hn)) hn (fun j q hj => by simp [Meta.ws] at hj) (segW k h hk)
          · cases h
        · cases h
      · cases h
    · rename_i hw
      simp only [sOpsW, hw]
      exact ⟨fun h => (by cases h), fun _ => segW k h hk⟩
    · cases h
theorem segEndW {K : Exit → Tm → Heap → Prop} (ks : List Nat) {T1 : Tm} {H1 : Heap} {l : List Oper} {i : Nat} {T : Tm} {H : Heap}
    (h : ((evRW C ops ms N l.length l i T H).map fun p => (keepT ks p.1, p.2)) = some (T1, H1)) (hk : K .normal T1 H1) : sOpsW C ops ms N l i T H (Less K .normal) := by
  cases he : evRW C ops ms N l.length l i T H with
  | none => rw [he] at h; cases h
  | some p =>
    rw [he] at h
    simp only [Option.map_some, Option.some.injEq, Prod.mk.injEq] at h
    obtain ⟨rfl, rfl⟩ := h
    refine segW l.length he ?_
    simp only [List.drop_length, sOpsW]
    exact ⟨_, sub_keep ks _, hk⟩
def NMs (mk : List Nat) : Heap → Prop
  | [] => True
  | o :: l => (∀ r, o = some r → NMRow mk r) ∧ NMs mk l
theorem NMs.at {mk : List Nat} : ∀ {l : Heap} {i : Nat} {r : Row}, NMs mk l → l[i]? = some (some r) → NMRow mk r
  | [], i, r, _, h => by simp at h
  | o :: l, 0, r, h, hi => by simp at hi; exact h.1 r hi
  | o :: l, i + 1, r, h, hi => NMs.at h.2 (by simpa using hi)
theorem nmsF {mk : List Nat} {r : Row} (h : FlatRow r) : ∀ q, some r = some q → NMRow mk q := fun q hq => by simp only [Option.some.injEq] at hq; subst hq; exact nmF h
theorem nmsX {mk : List Nat} {r : Row} (h : (r.cells.all (nmS mk)) = true) : ∀ q, some r = some q → NMRow mk q := fun q hq => by simp only [Option.some.injEq] at hq; subst hq; exact nmX h
theorem cRegW {id n : Nat} {T : Tm} {H Hp : Heap} {K : Exit → Tm → Heap → Prop} (ms : List Meta) (m : Nat) (all : List Nat) (hlen : H.length + m = N) (hpad : H ++ List.replicate m none = Hp) (hOK : regionOK2 ops ms = true) (hlow : (ms.all fun x => x.mks.all fun i => decide (n ≤ i) && all.contains i) = true)
    (hT : (T.all fun o => match o with
      | some v => nmV all v
      | none => true) = true) (hH : NMs all H) (h : sOpsW C ops ms N ops.toList 0 T Hp (Less K .normal)) : sC C n (.region id ops true) T H K := by
  simp only [List.all_eq_true, Bool.and_eq_true, decide_eq_true_eq, List.contains_eq_mem] at hlow
  refine Or.inr fun ρ0 ρ H0 w0 w a hn hi => ?_
  have hmk : ∀ k, ∀ i ∈ (ms.getD k ⟨[], [], []⟩).mks, n ≤ i ∧ i ∈ all := fun k i hi => by
    rcases Nat.lt_or_ge k ms.length with hk | hk
    · rw [List.getD_eq_getElem?_getD, List.getElem?_eq_getElem hk] at hi
      exact hlow _ (List.getElem_mem hk) i hi
    · rw [List.getD_eq_getElem?_getD, List.getElem?_eq_none hk] at hi
      simp at hi
  subst hpad hlen
  refine draw_sound2 (K := Less K) (m := m) (ms := ms) hOK (fun k _ i hi => by rw [hn]; exact (hmk k i hi).1) (fun k _ t v hv => ?_) (fun k _ i r hr => ?_) h hi
  · have := List.all_eq_true.1 hT (some v) (List.mem_of_getElem? hv)
    exact nmV_mono (fun i hi => (hmk k i hi).2) this
  · rcases Nat.lt_or_ge i H.length with h1 | h1
    · rw [List.getElem?_append_left h1] at hr
      exact (hH.at hr).mono fun i hi => (hmk k i hi).2
    · rw [List.getElem?_append_right h1, List.getElem?_replicate] at hr
      split at hr <;> simp at hr
theorem segWH {K : Tm → Heap → Prop} {T1 : Tm} (k : Nat) {l : List Oper} {i : Nat} {T : Tm} {H : Heap} (h : evRW C ops ms N k l i T H = some (T1, H)) (hk : sOpsW C ops ms N (l.drop k) (i + min k l.length) T1 H K) : sOpsW C ops ms N l i T H K := segW k h hk
theorem segH {K : Tm → Heap → Prop} {T1 : Tm} (k : Nat) {l : List Oper} {T : Tm} {H : Heap} (h : evR C ops k l T H = some (T1, H)) (hk : sOps C ops (l.drop k) T1 H K) : sOps C ops l T H K := seg k h hk
theorem segEndH {K : Exit → Tm → Heap → Prop} (ks : List Nat) {T1 : Tm} {l : List Oper} {T : Tm} {H : Heap}
    (h : ((evR C ops l.length l T H).map fun p => (keepT ks p.1, p.2)) = some (T1, H)) (hk : K .normal T1 H) : sOps C ops l T H (Less K .normal) := segEnd ks h hk
end
end Go.Am
set_option linter.unusedVariables false
set_option linter.unusedSimpArgs false
namespace Go.Am
open Go.RowKit
def RD (H : Heap) (σ : Nat → Nat) (i : Nat) (o : Option Row) : Prop := ∀ r, o = some r → r.wr = false ∧ ∃ b, H[σ i]? = some (some { renRow σ r with wr := b })
def RDs (H : Heap) (σ : Nat → Nat) : Nat → Heap → Prop
  | _, [] => True
  | i, o :: l => RD H σ i o ∧ RDs H σ (i + 1) l
theorem rdF {H : Heap} {σ : Nat → Nat} {i : Nat} {r : Row} (b : Bool) (hf : FlatRow r) (hw : r.wr = false) (h : H[σ i]? = some (some { r with wr := b })) : RD H σ i (some r) := fun q hq => by
  simp only [Option.some.injEq] at hq
  subst hq
  exact ⟨hw, b, by rw [hf.ren]; exact h⟩
theorem RDs.at {H : Heap} {σ : Nat → Nat} : ∀ {l : Heap} {i j : Nat} {r : Row}, RDs H σ i l → l[j]? = some (some r) → r.wr = false ∧ ∃ b, H[σ (i + j)]? = some (some { renRow σ r with wr := b })
  | [], i, j, r, _, h => by simp at h
  | o :: l, i, 0, r, h, hj => by simp at hj; exact h.1 r hj
  | o :: l, i, j + 1, r, h, hj => by
    have := RDs.at (i := i + 1) (j := j) h.2 (by simpa using hj)
    rw [show i + 1 + j = i + (j + 1) by omega] at this
    exact this
def EN (τ : Nat → Nat) (o o' : Option Row) : Prop := o' = o.map (renRow τ) ∧ ∀ r, o = some r → r.wr = true ∨ r.cells = []
def ENs (τ : Nat → Nat) : Heap → Heap → Prop
  | [], [] => True
  | o :: l, o' :: l' => EN τ o o' ∧ ENs τ l l'
  | _, _ => False
theorem enF {τ : Nat → Nat} {r : Row} (hf : FlatRow r) (hw : r.wr = true ∨ r.cells = []) : EN τ (some r) (some r) :=
  ⟨by simp [hf.ren], fun q hq => by simp only [Option.some.injEq] at hq; subst hq; exact hw⟩
theorem enX {τ : Nat → Nat} {r r' : Row} (h : r' = renRow τ r) (hw : r.wr = true ∨ r.cells = []) : EN τ (some r) (some r') :=
  ⟨by simp [h], fun q hq => by simp only [Option.some.injEq] at hq; subst hq; exact hw⟩
theorem ENs.eq {τ : Nat → Nat} : ∀ {l l' : Heap}, ENs τ l l' → l' = l.map (Option.map (renRow τ))
  | [], [], _ => rfl
  | o :: l, o' :: l', h => by rw [List.map_cons, h.1.1, h.2.eq]
  | [], _ :: _, h => h.elim
  | _ :: _, [], h => h.elim
theorem ENs.wr {τ : Nat → Nat} : ∀ {l l' : Heap}, ENs τ l l' → ∀ r, some r ∈ l → r.wr = true ∨ r.cells = []
  | [], _, _, r, h => by simp at h
  | o :: l, o' :: l', h, r, hr => by
    rcases List.mem_cons.1 hr with h1 | h1
    · exact h.1.2 r h1.symm
    · exact h.2.wr r h1
  | _ :: _, [], h, _, _ => h.elim
theorem Sound.lay {P : Program} {f : FuncId} {args0 args : List Value} {H0 E0 H E : Heap} {v0 v : Value} (σ : List Nat) (hS : Sound P f args0 H0 v0 (H0 ++ E0)) (hr : RDs H (fun i => σ.getD i 0) 0 H0)
    (hlt : (decide (σ.length = H0.length) && σ.all fun s => decide (s < H.length)) = true) (hcl : CLs H0.length H0) (hi : (args0.all fun x => (idsV x).all fun i => decide (i < H0.length)) = true)
    (ha : args = args0.map (mpV (renId fun i => σ.getD i 0))) (hv : v = mpV (renId (shift H0.length H.length fun i => σ.getD i 0)) v0) (hE : ENs (shift H0.length H.length fun i => σ.getD i 0) E0 E) : Sound P f args H v (H ++ E) := by
  simp only [Bool.and_eq_true, decide_eq_true_eq, List.all_eq_true] at hlt hi
  obtain ⟨hl, hlt⟩ := hlt
  refine Sound.emb (fun i => σ.getD i 0) hS ⟨fun i h => ?_, fun i r h => ?_, fun i j r s h _ hw => ?_⟩ (closedL hcl) hE.wr (fun x hx i h => hi x hx i h) ha hv hE.eq
  · refine hlt _ ?_
    simp only [List.getD_eq_getElem?_getD, List.getElem?_eq_getElem (show i < σ.length by omega), Option.getD_some]
    exact List.getElem_mem _
  · have := hr.at h
    rw [Nat.zero_add] at this
    obtain ⟨h1, b, h2⟩ := this
    exact ⟨b, (fun hw => by rw [h1] at hw; cases hw), h2⟩
  · have := (hr.at h).1
    rw [this] at hw
    cases hw
theorem Sound.lay0 {P : Program} {f : FuncId} {args0 args : List Value} {H0 H : Heap} {v0 v : Value} (σ : List Nat) (hS : Sound P f args0 H0 v0 H0) (hr : RDs H (fun i => σ.getD i 0) 0 H0)
    (hlt : (decide (σ.length = H0.length) && σ.all fun s => decide (s < H.length)) = true) (hcl : CLs H0.length H0) (hi : (args0.all fun x => (idsV x).all fun i => decide (i < H0.length)) = true)
    (ha : args = args0.map (mpV (renId fun i => σ.getD i 0))) (hv : v = mpV (renId (shift H0.length H.length fun i => σ.getD i 0)) v0) : Sound P f args H v H := by
  have h := Sound.lay (E0 := []) (E := []) σ (by simpa using hS) hr hlt hcl hi ha hv trivial
  simpa using h
def leads (args : List Value) (H : Heap) (w : List Nat) (i : Nat) : Bool :=
  (args.any fun x => (idsV x).contains i) || ((args.any fun x => (idsV x).contains (w.getD i 0)) && (match H[w.getD i 0]? with
    | some (some r) => r.cells.any fun v => (idsS v).contains i
    | _ => false))
theorem renRow_mem {σ : Nat → Nat} {r : Row} {v : Value} {i : Nat} (hv : v ∈ r.cells) (hi : i ∈ idsS v) : ∃ u ∈ (renRow σ r).cells, σ i ∈ idsS u :=
  ⟨mpS (renId σ) v, by simp only [renRow]; exact List.mem_map_of_mem hv, by rw [idsS_ren]; exact List.mem_map_of_mem hi⟩
theorem Quiet.lay0 {P : Program} {f : FuncId} {args0 args : List Value} {H0 H : Heap} {v0 v : Value} (σ : List Nat) (w : List Nat) (hS : Sound P f args0 H0 v0 H0) (hr : RDs H (fun i => σ.getD i 0) 0 H0)
    (hlt : (decide (σ.length = H0.length) && σ.all fun s => decide (s < H.length)) = true) (hcl : CLs H0.length H0) (hi : (args0.all fun x => (idsV x).all fun i => decide (i < H0.length)) = true)
    (ha : args = args0.map (mpV (renId fun i => σ.getD i 0))) (hv : ∀ n, v = mpV (renId (shift H0.length n fun i => σ.getD i 0)) v0) (hk : ((List.range H0.length).all fun i => leads args0 H0 w i) = true) : Quiet P f args H v := fun G E hE hG hids => by
  have hlt2 := hlt
  simp only [Bool.and_eq_true, decide_eq_true_eq, List.all_eq_true] at hlt2
  simp only [List.all_eq_true, List.mem_range] at hk
  have direct : ∀ i, (args0.any fun x => (idsV x).contains i) = true → σ.getD i 0 < G.length := fun i h => arg_lt (σ := fun i => σ.getD i 0) ha h hids
  have hall : ∀ i, i < H0.length → σ.getD i 0 < G.length := by
    intro i hil
    have h := hk i hil
    unfold leads at h
    rw [Bool.or_eq_true, Bool.and_eq_true] at h
    rcases h with h | ⟨h1, h2⟩
    · exact direct i h
    · have hg := direct _ h1
      cases hrow : H0[w.getD i 0]? with
      | none => rw [hrow] at h2; cases h2
      | some o =>
        rw [hrow] at h2
        cases o with
        | none => cases h2
        | some r =>
          simp only [List.any_eq_true] at h2
          obtain ⟨u, hu, hui⟩ := h2
          have hat := hr.at hrow
          rw [Nat.zero_add] at hat
          obtain ⟨_, b, hb⟩ := hat
          rw [hE, List.getElem?_append_left hg] at hb
          obtain ⟨u2, hu2, hm⟩ := renRow_mem (σ := fun i => σ.getD i 0) hu (by simpa using hui)
          exact hG _ _ hb u2 hu2 _ hm
  refine Sound.lay0 σ hS ?_ ?_ hcl hi ha (hv _)
  · have key : ∀ (l : Heap) (i : Nat), i + l.length ≤ H0.length → RDs H (fun i => σ.getD i 0) i l → RDs G (fun i => σ.getD i 0) i l := by
      intro l
      induction l with
      | nil => intro i _ _; trivial
      | cons o l ih =>
        intro i hle h
        simp only [List.length_cons] at hle
        refine ⟨fun r ho => ?_, ih (i + 1) (by omega) h.2⟩
        obtain ⟨h1, b, h2⟩ := h.1 r ho
        have hil : i < H0.length := by omega
        rw [hE, List.getElem?_append_left (hall i hil)] at h2
        exact ⟨h1, b, h2⟩
    exact key H0 0 (by omega) hr
  · simp only [Bool.and_eq_true, decide_eq_true_eq, List.all_eq_true]
    refine ⟨hlt2.1, fun s hs => ?_⟩
    obtain ⟨i, hi, rfl⟩ := List.getElem_of_mem hs
    have := hall i (by omega)
    simpa only [List.getD_eq_getElem?_getD, List.getElem?_eq_getElem hi, Option.getD_some] using this
theorem RDs.agree {H G : Heap} {σ : List Nat} (hag : ∀ i, i ∈ σ → G[i]? = H[i]?) : ∀ {l : Heap} {i : Nat}, i + l.length ≤ σ.length → RDs H (fun i => σ.getD i 0) i l → RDs G (fun i => σ.getD i 0) i l
  | [], _, _, _ => trivial
  | o :: l, i, hle, h => by
    simp only [List.length_cons] at hle
    refine ⟨fun r ho => ?_, RDs.agree hag (by omega) h.2⟩
    obtain ⟨h1, b, h2⟩ := h.1 r ho
    refine ⟨h1, b, ?_⟩
    have hm : σ.getD i 0 ∈ σ := by
      rw [List.getD_eq_getElem?_getD, List.getElem?_eq_getElem (show i < σ.length by omega)]
      exact List.getElem_mem _
    show G[σ.getD i 0]? = _
    rw [hag _ hm]
    exact h2
theorem Any.lay {P : Program} {f : FuncId} {args0 args : List Value} {H0 E0 H E : Heap} {v0 v : Value} {N : Nat} (σ : List Nat) (hS : Sound P f args0 H0 v0 (H0 ++ E0)) (hr : RDs H (fun i => σ.getD i 0) 0 H0)
    (hlt : (decide (σ.length = H0.length) && σ.all fun s => decide (s < N)) = true) (hcl : CLs H0.length H0) (hi : (args0.all fun x => (idsV x).all fun i => decide (i < H0.length)) = true)
    (ha : args = args0.map (mpV (renId fun i => σ.getD i 0))) (hv : v = mpV (renId (shift H0.length N fun i => σ.getD i 0)) v0) (hE : ENs (shift H0.length N fun i => σ.getD i 0) E0 E) : Any N σ H fun G => Sound P f args G v (G ++ E) := fun G hG hag => by
  subst hG
  have hl := hlt
  simp only [Bool.and_eq_true, decide_eq_true_eq] at hl
  exact Sound.lay σ hS (hr.agree hag (by omega)) hlt hcl hi ha hv hE
theorem Any.lay0 {P : Program} {f : FuncId} {args0 args : List Value} {H0 H : Heap} {v0 v : Value} {N : Nat} (σ : List Nat) (hS : Sound P f args0 H0 v0 H0) (hr : RDs H (fun i => σ.getD i 0) 0 H0)
    (hlt : (decide (σ.length = H0.length) && σ.all fun s => decide (s < N)) = true) (hcl : CLs H0.length H0) (hi : (args0.all fun x => (idsV x).all fun i => decide (i < H0.length)) = true)
    (ha : args = args0.map (mpV (renId fun i => σ.getD i 0))) (hv : v = mpV (renId (shift H0.length N fun i => σ.getD i 0)) v0) : Any N σ H fun G => Sound P f args G v G := fun G hG hag => by
  subst hG
  have hl := hlt
  simp only [Bool.and_eq_true, decide_eq_true_eq] at hl
  exact Sound.lay0 σ hS (hr.agree hag (by omega)) hlt hcl hi ha hv
section
variable {P : Program} {fn : Func} {n : Nat}
theorem endCast {e : Exit} {T : Tm} {H H1 H2 : Heap} {v1 v : Value} (hv : v1 = v) (hH : H1 = H2) (h : Ends P fn n v1 H1 e T H) : Ends P fn n v H2 e T H := by subst hv hH; exact h
end
section
variable {P : Program} {C : Ctx P} {T : Tm} {H : Heap} {t u : TypeId} {x y : Operand}
end
end Go.Am
namespace Go.Am
theorem bs0 : type_of% @Bool.not_eq_true' := @Bool.not_eq_true'
theorem bs1 : type_of% @Bool.not_eq_false' := @Bool.not_eq_false'
theorem bs2 : type_of% @decide_eq_true_eq := @decide_eq_true_eq
theorem bs3 : type_of% @decide_eq_false_iff_not := @decide_eq_false_iff_not
theorem bs4 : type_of% @Decidable.not_not := @Decidable.not_not
theorem bs5 : type_of% @Bool.and_eq_true := @Bool.and_eq_true
theorem bs6 : type_of% @Bool.and_eq_false_imp := @Bool.and_eq_false_imp
theorem bs7 : type_of% @Bool.or_eq_true := @Bool.or_eq_true
theorem bs8 : type_of% @Bool.or_eq_false_iff := @Bool.or_eq_false_iff
theorem bs9 : type_of% @Bool.not_eq_true := @Bool.not_eq_true
theorem bs10 : type_of% @Int.not_lt := @Int.not_lt
theorem bs11 : type_of% @Int.not_le := @Int.not_le
abbrev nR (L : List Int) : Option Row := some ⟨nums L, 3, false, false⟩
abbrev nW (L : List Int) : Option Row := some ⟨nums L, 3, false, true⟩
end Go.Am
set_option linter.unusedVariables false
set_option linter.unusedSimpArgs false
namespace Go.Am
open Go.RowKit
structure Sides (X Y Z : Nat) : Prop where
  x0 : 1 ≤ X
  x4 : X ≤ 4
  y0 : 1 ≤ Y
  y4 : Y ≤ 4
  z0 : 1 ≤ Z
  z4 : Z ≤ 4
theorem Sides.size {X Y Z : Nat} (h : Sides X Y Z) : X * Y * Z ≤ 64 := (size_le h.x4 h.y4 h.z4).2
theorem Sides.pow {X Y Z : Nat} (h : Sides X Y Z) : 2 ^ (X * Y * Z) ≤ 18446744073709551616 := by
  have := Nat.pow_le_pow_right (n := 2) (by decide) h.size
  simpa using this
def HeapL (X Y Z : Nat) (L : List A3) : Prop := ∃ p, L = fl Y Z (X * Y * Z) p
theorem HeapL.list (X Y Z s : Nat) : HeapL X Y Z (listOf X Y Z s) := ⟨_, listOf_fl X Y Z s⟩
theorem HeapL.nil (X Y Z : Nat) : HeapL X Y Z [] := ⟨fun _ => false, by simp [fl]⟩
theorem HeapL.all (X Y Z : Nat) : HeapL X Y Z (allOf X Y Z) := ⟨fun _ => true, by unfold fl allOf; congr 1; exact (List.filter_eq_self.2 fun _ _ => rfl).symm⟩
theorem HeapL.len {X Y Z : Nat} {L : List A3} (h : HeapL X Y Z L) : L.length ≤ X * Y * Z := by
  obtain ⟨p, rfl⟩ := h; exact fl_length _ _ _ _
theorem HeapL.has {X Y Z : Nat} {L : List A3} (h : HeapL X Y Z L) (hs : Sides X Y Z) {i : Nat} (hi : i < L.length) : has3 (X : Int) (Y : Int) (Z : Int) (L.getD i default).x (L.getD i default).y (L.getD i default).z = true := by
  obtain ⟨p, rfl⟩ := h; exact fl_has hs.y0 hs.z0 hi
theorem HeapL.mem_has {X Y Z : Nat} {L : List A3} (h : HeapL X Y Z L) (hs : Sides X Y Z) {c : A3} (hc : c ∈ L) : has3 (X : Int) (Y : Int) (Z : Int) c.x c.y c.z = true := by
  obtain ⟨p, rfl⟩ := h; exact (fl_mem hs.y0 hs.z0 hc).1
theorem HeapL.lt {X Y Z : Nat} {L : List A3} (h : HeapL X Y Z L) (hs : Sides X Y Z) : setOf Y Z L < 2 ^ (X * Y * Z) := by
  apply Nat.lt_pow_two_of_testBit
  intro i hi
  obtain ⟨p, rfl⟩ := h
  rw [setOf_fl hs.y0 hs.z0]
  simp
  omega
theorem HeapL.lt64 {X Y Z : Nat} {L : List A3} (h : HeapL X Y Z L) (hs : Sides X Y Z) : setOf Y Z L < 18446744073709551616 := Nat.lt_of_lt_of_le (h.lt hs) hs.pow
theorem HeapL.eq {X Y Z : Nat} {L : List A3} (h : HeapL X Y Z L) (hs : Sides X Y Z) : listOf X Y Z (setOf Y Z L) = L := by
  obtain ⟨p, rfl⟩ := h; exact listOf_setOf hs.y0 hs.z0 p
theorem HeapL.sorted {X Y Z : Nat} {L : List A3} (h : HeapL X Y Z L) (hs : Sides X Y Z) : (L.map (idxN Y Z)).Pairwise (· < ·) := by
  obtain ⟨p, rfl⟩ := h
  unfold fl
  rw [List.map_map]
  have e : ((List.range (X * Y * Z)).filter p).map (idxN Y Z ∘ cellOf Y Z) = (List.range (X * Y * Z)).filter p := by
    conv => rhs; rw [← List.map_id ((List.range (X * Y * Z)).filter p)]
    exact List.map_congr_left fun i _ => idx_cellOf hs.y0 hs.z0 i
  rw [e]
  exact sorted_filter p
theorem filter_fl {Y Z n : Nat} (p : Nat → Bool) (q : A3 → Bool) : (fl Y Z n p).filter q = fl Y Z n fun i => p i && q (cellOf Y Z i) := by
  unfold fl
  rw [List.filter_map, List.filter_filter]
  congr 1
  apply List.filter_congr
  intro i _
  simp [Bool.and_comm]
theorem HeapL.filter {X Y Z : Nat} {L : List A3} (h : HeapL X Y Z L) (q : A3 → Bool) : HeapL X Y Z (L.filter q) := by
  obtain ⟨p, rfl⟩ := h; exact ⟨_, filter_fl p q⟩
theorem heapL_of {x y z : Int} {L : List A3} (h : isHeapB x y z L = true) : ∃ X Y Z : Nat, x = (X : Int) ∧ y = (Y : Int) ∧ z = (Z : Int) ∧ Sides X Y Z ∧ HeapL X Y Z L := by
  obtain ⟨X, Y, Z, p, rfl, rfl, rfl, h1, h2, h3, h4, h5, h6, rfl⟩ := heap_cases h
  exact ⟨X, Y, Z, rfl, rfl, rfl, ⟨h1, h2, h3, h4, h5, h6⟩, p, rfl⟩
def andn (s t : Nat) : Nat := s ^^^ (s &&& t)
theorem andn_bit (s t i : Nat) : (andn s t).testBit i = (s.testBit i && !t.testBit i) := by
  unfold andn
  rw [Nat.testBit_xor, Nat.testBit_and]
  cases s.testBit i <;> cases t.testBit i <;> rfl
theorem andn_le (s t : Nat) : andn s t ≤ s := by
  apply Nat.le_of_testBit
  intro i h
  rw [andn_bit] at h
  simp at h
  exact h.1
theorem or_lt64 {a b : Nat} (ha : a < 18446744073709551616) (hb : b < 18446744073709551616) : a ||| b < 18446744073709551616 := by
  have := Nat.or_lt_two_pow (n := 64) (x := a) (y := b) (by simpa using ha) (by simpa using hb)
  simpa using this
theorem and_lt64 {a b : Nat} (ha : a < 18446744073709551616) : a &&& b < 18446744073709551616 := Nat.lt_of_le_of_lt Nat.and_le_left ha
theorem andn_lt64 {a b : Nat} (ha : a < 18446744073709551616) : andn a b < 18446744073709551616 := Nat.lt_of_le_of_lt (andn_le a b) ha
theorem Sides.valid {X Y Z : Nat} (h : Sides X Y Z) : valid3 (X : Int) (Y : Int) (Z : Int) = true := valid_nat h.x0 h.x4 h.y0 h.y4 h.z0 h.z4
theorem isHeapB_of {X Y Z : Nat} {L : List A3} (hs : Sides X Y Z) (hL : HeapL X Y Z L) : isHeapB (X : Int) (Y : Int) (Z : Int) L = true := by
  unfold isHeapB
  rw [hs.valid, Bool.true_and]
  unfold okTo
  rw [List.all_eq_true]
  intro k hk
  have hk := List.mem_range.1 hk
  unfold cellOK
  rw [hL.has hs hk, Bool.true_and, Bool.or_eq_true, decide_eq_true_eq]
  rcases Nat.eq_zero_or_pos k with h0 | h0
  · exact Or.inl h0
  right
  rw [lex_idx (hL.has hs (by omega)) (hL.has hs hk), decide_eq_true_eq]
  have := List.pairwise_iff_getElem.1 (hL.sorted hs) (k - 1) k (by simp; omega) (by simpa using hk) (by omega)
  simp only [List.getElem_map] at this
  rw [List.getD_eq_getElem?_getD, List.getD_eq_getElem?_getD, List.getElem?_eq_getElem hk, List.getElem?_eq_getElem (show k - 1 < L.length by omega)]
  exact this
end Go.Am
set_option linter.unusedVariables false
set_option linter.unusedSimpArgs false
namespace Go.Proofs.Yteohlhpdbnhbaaa.F
open Go.Am Go.RowKit
theorem l2HeapB_no (x : Int) (y : Int) (z : Int) (L : List A3) (hl : L.length ≤ 1048576) (hv : isHeapB x y z L = false) : Sound Try.prog 14 [.agg #[vI x, vI y, vI z, vS 0 L.length]] [some ⟨a3s L, 46, false, false⟩] (.bool false) [some ⟨a3s L, 46, false, false⟩] := by
 have h := l2Heap_ok x y z L hl; rw [hv] at h; exact h
theorem l2HeapB (X : Nat) (Y : Nat) (Z : Nat) (L : List A3) (hs : Sides X Y Z) (hL : HeapL X Y Z L) : Sound Try.prog 14 [.agg #[vN X, vN Y, vN Z, vS 0 L.length]] [some ⟨a3s L, 46, false, false⟩] (.bool true) [some ⟨a3s L, 46, false, false⟩] := by
 have h := l2Heap_ok X Y Z L (by have := hL.len; have := hs.size; omega); rw [isHeapB_of hs hL] at h; exact h
theorem isHeapBt_no (x : Int) (y : Int) (z : Int) (L : List A3) (hl : L.length ≤ 1048576) (hv : isHeapB x y z L = false) : Sound Try.prog 17 [.agg #[vI x, vI y, vI z, vS 0 L.length]] [some ⟨a3s L, 46, false, false⟩] (.bool false) [some ⟨a3s L, 46, false, false⟩] := by
 have h := implIsHeap_ok x y z L hl; rw [hv] at h; exact h
theorem isHeapBt (X : Nat) (Y : Nat) (Z : Nat) (L : List A3) (hs : Sides X Y Z) (hL : HeapL X Y Z L) : Sound Try.prog 17 [.agg #[vN X, vN Y, vN Z, vS 0 L.length]] [some ⟨a3s L, 46, false, false⟩] (.bool true) [some ⟨a3s L, 46, false, false⟩] := by
 have h := implIsHeap_ok X Y Z L (by have := hL.len; have := hs.size; omega); rw [isHeapB_of hs hL] at h; exact h
theorem l1InB (n : Int) (lo : Int) (hi : Int)  : Sound Try.prog 32 [vI n, vI lo, vI hi] [] (.bool (inR n lo hi)) [] := by
 exact l1In_ok n lo hi
theorem toHeapB (x : Int) (y : Int) (z : Int) (L : List A3) (hl : L.length ≤ 1048576) : Sound Try.prog 7 [.agg #[vI x, vI y, vI z, vS 0 L.length]] [some ⟨a3s L, 46, false, false⟩] (.agg #[vI x, vI y, vI z, vS 1 L.length]) [some ⟨a3s L, 46, false, false⟩, some ⟨a3s L, 46, false, true⟩] := by
 exact toHeap_ok x y z L hl
theorem toHeapN (x : Int) (y : Int) (z : Int)  : Sound Try.prog 7 [.agg #[vI x, vI y, vI z, .slice none 0 0]] [] (.agg #[vI x, vI y, vI z, vS 0 0]) [some ⟨[], 46, false, true⟩] := by
 exact toHeap_ok_nil x y z
theorem eqHeapB (x : Int) (y : Int) (z : Int) (L : List A3) (hl : L.length ≤ 1048576) : Sound Try.prog 10 [.agg #[vI x, vI y, vI z, vS 0 L.length], .agg #[vI x, vI y, vI z, vS 1 L.length]] [some ⟨a3s L, 46, false, false⟩, some ⟨a3s L, 46, false, false⟩] (.bool true) [some ⟨a3s L, 46, false, false⟩, some ⟨a3s L, 46, false, false⟩] := by
 exact eqHeap_same x y z L hl
set_option maxRecDepth 100000 in
set_option maxHeartbeats 4000000 in
theorem szA3S_S (L : List A3) (n : Nat) (hl : L.length ≤ n) (hn : n ≤ 1048576) : Sound Try.prog 13 [vS 0 L.length, vN n] [some ⟨a3s L, 46, false, false⟩] (vN (n - L.length)) [some ⟨a3s L, 46, false, false⟩] := by
 refine sound_intro (C := cx) Try.func13 rfl (by kernel_rfl) fun hcl => ?_
 refine cSeq ?_
 refine cReg ?_
 refine segEndH [0, 1] (T1 := (mkT 12 [(0, vS 0 L.length), (1, vN n)])) (by kernel_rfl) ?_
 refine kSeq ?_
 refine cSeq ?_
 refine cReg ?_
 refine segH 3 (T1 := (mkT 12 [(0, vS 0 L.length), (1, vN n), (5, vN n), (6, vS 0 L.length), (7, vN L.length)])) (by kernel_rfl) ?_
 refine rOp (v := vN (n - L.length)) (by kernel_rfl) (eSub (k := .i64) (a := ((n : Nat) : Int)) (b := ((L.length : Nat) : Int)) (c := ((n - L.length : Nat) : Int)) (by kernel_rfl) (by kernel_rfl)  (wr64 (by omega) (by omega) (by omega))) ?_
 refine segEndH [1] (T1 := (mkT 12 [(1, vN (n - L.length))])) (by kernel_rfl) ?_
 refine kSeq ?_
 refine cSeq ?_
 refine cSeq ?_
 refine cReg ?_
 refine segEndH [1, 10] (T1 := (mkT 12 [(1, vN (n - L.length)), (10, .bool (decide (((n - L.length : Nat) : Int) < 0)))])) (by kernel_rfl) ?_
 refine kSeq ?_
 cases h1 : (decide (((n - L.length : Nat) : Int) < 0) : Bool)
 ·
  (try simp only [bs0, bs1, bs2, bs3, beq_iff_eq, bne_iff_ne, beq_eq_false_iff_ne, bne_eq_false_iff_eq, ne_eq, bs4, bs5, bs6, bs7, bs8, bs9, bs10, bs11, ge_iff_le, gt_iff_lt] at h1)
  refine cFalse (by kernel_rfl) ?_
  refine cSkip ?_
  refine kSeq ?_
  refine cSeq ?_
  refine cReg ?_
  refine segEndH [4] (T1 := (mkT 12 [(4, vN (n - L.length))])) (by kernel_rfl) ?_
  refine kSeq ?_
  refine cRet ?_
  exact endQ (Or.inr rfl) (l := [vN (n - L.length)]) [] (by kernel_rfl) (by first | rfl | kernel_rfl) rfl rfl hcl rfl
 ·
  (try simp only [bs0, bs1, bs2, bs3, beq_iff_eq, bne_iff_ne, beq_eq_false_iff_ne, bne_eq_false_iff_eq, ne_eq, bs4, bs5, bs6, bs7, bs8, bs9, bs10, bs11, ge_iff_le, gt_iff_lt] at h1)
  exfalso; omega
set_option maxRecDepth 100000 in
set_option maxHeartbeats 4000000 in
theorem szA3S_G (L : List A3) (n : Nat) (hl : n < L.length) (hm : L.length ≤ 9223372036854775807) (hn : n ≤ 1048576) : Sound Try.prog 13 [vS 0 L.length, vN n] [some ⟨a3s L, 46, false, false⟩] (vI (-1)) [some ⟨a3s L, 46, false, false⟩] := by
 refine sound_intro (C := cx) Try.func13 rfl (by kernel_rfl) fun hcl => ?_
 refine cSeq ?_
 refine cReg ?_
 refine segEndH [0, 1] (T1 := (mkT 12 [(0, vS 0 L.length), (1, vN n)])) (by kernel_rfl) ?_
 refine kSeq ?_
 refine cSeq ?_
 refine cReg ?_
 refine segH 3 (T1 := (mkT 12 [(0, vS 0 L.length), (1, vN n), (5, vN n), (6, vS 0 L.length), (7, vN L.length)])) (by kernel_rfl) ?_
 refine rOp (v := vI (((n : Nat) : Int) - ((L.length : Nat) : Int))) (by kernel_rfl) (eSub (k := .i64) (a := ((n : Nat) : Int)) (b := ((L.length : Nat) : Int)) (c := (((n : Nat) : Int) - ((L.length : Nat) : Int))) (by kernel_rfl) (by kernel_rfl)  (wr64 (by omega) (by omega) rfl)) ?_
 refine segEndH [1] (T1 := (mkT 12 [(1, vI (((n : Nat) : Int) - ((L.length : Nat) : Int)))])) (by kernel_rfl) ?_
 refine kSeq ?_
 refine cSeq ?_
 refine cSeq ?_
 refine cReg ?_
 refine segEndH [1, 10] (T1 := (mkT 12 [(1, vI (((n : Nat) : Int) - ((L.length : Nat) : Int))), (10, .bool (decide (((n : Nat) : Int) - ((L.length : Nat) : Int) < 0)))])) (by kernel_rfl) ?_
 refine kSeq ?_
 cases h1 : (decide (((n : Nat) : Int) - ((L.length : Nat) : Int) < 0) : Bool)
 ·
  (try simp only [bs0, bs1, bs2, bs3, beq_iff_eq, bne_iff_ne, beq_eq_false_iff_ne, bne_eq_false_iff_eq, ne_eq, bs4, bs5, bs6, bs7, bs8, bs9, bs10, bs11, ge_iff_le, gt_iff_lt] at h1)
  exfalso; omega
 ·
  (try simp only [bs0, bs1, bs2, bs3, beq_iff_eq, bne_iff_ne, beq_eq_false_iff_ne, bne_eq_false_iff_eq, ne_eq, bs4, bs5, bs6, bs7, bs8, bs9, bs10, bs11, ge_iff_le, gt_iff_lt] at h1)
  refine cTrue (by kernel_rfl) ?_
  refine cSeq ?_
  refine cReg ?_
  refine segEndH [4] (T1 := (mkT 12 [(4, vI (-1))])) (by kernel_rfl) ?_
  refine kSeq ?_
  refine cRet ?_
  refine kSeqR ?_
  exact endQ (Or.inr rfl) (l := [vI (-1)]) [] (by kernel_rfl) (by first | rfl | kernel_rfl) rfl rfl hcl rfl
set_option maxRecDepth 100000 in
set_option maxHeartbeats 4000000 in
theorem szA3S_N (n : Nat) (hn : n ≤ 1048576) : Sound Try.prog 13 [.slice none 0 0, vN n] [] (vN n) [] := by
 refine sound_intro (C := cx) Try.func13 rfl (by kernel_rfl) fun hcl => ?_
 refine cSeq ?_
 refine cReg ?_
 refine segEndH [0, 1] (T1 := (mkT 12 [(0, .slice none 0 0), (1, vN n)])) (by kernel_rfl) ?_
 refine kSeq ?_
 refine cSeq ?_
 refine cReg ?_
 refine segH 3 (T1 := (mkT 12 [(0, .slice none 0 0), (1, vN n), (5, vN n), (6, .slice none 0 0), (7, vI 0)])) (by kernel_rfl) ?_
 refine rOp (v := vN n) (by kernel_rfl) (eSub (k := .i64) (a := ((n : Nat) : Int)) (b := 0) (c := ((n : Nat) : Int)) (by kernel_rfl) (by kernel_rfl) (wr64 (by omega) (by omega) (by omega))) ?_
 refine segEndH [1] (T1 := (mkT 12 [(1, vN n)])) (by kernel_rfl) ?_
 refine kSeq ?_
 refine cSeq ?_
 refine cSeq ?_
 refine cReg ?_
 refine segEndH [1, 10] (T1 := (mkT 12 [(1, vN n), (10, .bool (decide (((n : Nat) : Int) < 0)))])) (by kernel_rfl) ?_
 refine kSeq ?_
 cases h1 : (decide (((n : Nat) : Int) < 0) : Bool)
 ·
  (try simp only [bs0, bs1, bs2, bs3, beq_iff_eq, bne_iff_ne, beq_eq_false_iff_ne, bne_eq_false_iff_eq, ne_eq, bs4, bs5, bs6, bs7, bs8, bs9, bs10, bs11, ge_iff_le, gt_iff_lt] at h1)
  refine cFalse (by kernel_rfl) ?_
  refine cSkip ?_
  refine kSeq ?_
  refine cSeq ?_
  refine cReg ?_
  refine segEndH [4] (T1 := (mkT 12 [(4, vN n)])) (by kernel_rfl) ?_
  refine kSeq ?_
  refine cRet ?_
  exact endQ (Or.inr rfl) (l := [vN n]) [] (by kernel_rfl) (by first | rfl | kernel_rfl) rfl rfl hcl rfl
 ·
  (try simp only [bs0, bs1, bs2, bs3, beq_iff_eq, bne_iff_ne, beq_eq_false_iff_ne, bne_eq_false_iff_eq, ne_eq, bs4, bs5, bs6, bs7, bs8, bs9, bs10, bs11, ge_iff_le, gt_iff_lt] at h1)
  exfalso; omega
set_option maxRecDepth 100000 in
set_option maxHeartbeats 4000000 in
theorem szHeapN (x : Int) (y : Int) (z : Int) (n : Nat) (hn : n ≤ 1048576) : Sound Try.prog 5 [.agg #[vI x, vI y, vI z, .slice none 0 0], vN n] [] (vN n) [] := by
 refine sound_intro (C := cx) Try.func5 rfl (by kernel_rfl) fun hcl => ?_
 refine cSeq ?_
 refine cReg ?_
 refine segEnd [1, 2] (T1 := (mkT 12 [(1, vN n), (2, vP 0 0)])) (H1 := [rB [vI x, vI y, vI z, .slice none 0 0] 24]) (by kernel_rfl) ?_
 refine kSeq ?_
 refine cSeq ?_
 refine cReg ?_
 refine segH 3 (T1 := (mkT 12 [(1, vN n), (2, vP 0 0), (5, vP 0 3), (6, .slice none 0 0), (7, vN n)])) (by kernel_rfl) ?_
 refine rCall (v := vN n) (args := [.slice none 0 0, vN n]) (by kernel_rfl) rfl (by kernel_rfl) (Sound.lay0 [] (szA3S_N n (by first | omega | assumption | decide)) trivial rfl trivial rfl (by first | rfl | simp [mpV, mpA, mpS, mpP, renId, shift]) rfl) ?_
 refine segEndH [1] (T1 := (mkT 12 [(1, vN n)])) (by kernel_rfl) ?_
 refine kSeq ?_
 refine cSeq ?_
 refine cSeq ?_
 refine cReg ?_
 refine segEndH [1, 10] (T1 := (mkT 12 [(1, vN n), (10, .bool (decide (((n : Nat) : Int) < 0)))])) (by kernel_rfl) ?_
 refine kSeq ?_
 cases h1 : (decide (((n : Nat) : Int) < 0) : Bool)
 ·
  (try simp only [bs0, bs1, bs2, bs3, beq_iff_eq, bne_iff_ne, beq_eq_false_iff_ne, bne_eq_false_iff_eq, ne_eq, bs4, bs5, bs6, bs7, bs8, bs9, bs10, bs11, ge_iff_le, gt_iff_lt] at h1)
  refine cFalse (by kernel_rfl) ?_
  refine cSkip ?_
  refine kSeq ?_
  refine cSeq ?_
  refine cReg ?_
  refine segEndH [4] (T1 := (mkT 12 [(4, vN n)])) (by kernel_rfl) ?_
  refine kSeq ?_
  refine cRet ?_
  exact endQ (Or.inr rfl) (l := [vN n]) [rB [vI x, vI y, vI z, .slice none 0 0] 24] (by kernel_rfl) (by first | rfl | kernel_rfl) rfl rfl hcl rfl
 ·
  (try simp only [bs0, bs1, bs2, bs3, beq_iff_eq, bne_iff_ne, beq_eq_false_iff_ne, bne_eq_false_iff_eq, ne_eq, bs4, bs5, bs6, bs7, bs8, bs9, bs10, bs11, ge_iff_le, gt_iff_lt] at h1)
  exfalso; omega
set_option maxRecDepth 100000 in
set_option maxHeartbeats 4000000 in
theorem szHeapS (x : Int) (y : Int) (z : Int) (L : List A3) (n : Nat) (hl : L.length ≤ n) (hn : n ≤ 1048576) : Sound Try.prog 5 [.agg #[vI x, vI y, vI z, vS 0 L.length], vN n] [some ⟨a3s L, 46, false, false⟩] (vN (n - L.length)) [some ⟨a3s L, 46, false, false⟩] := by
 refine sound_intro (C := cx) Try.func5 rfl (by kernel_rfl) fun hcl => ?_
 refine cSeq ?_
 refine cReg ?_
 refine segEnd [1, 2] (T1 := (mkT 12 [(1, vN n), (2, vP 1 0)])) (H1 := [some ⟨a3s L, 46, false, false⟩, rB [vI x, vI y, vI z, vS 0 L.length] 24]) (by kernel_rfl) ?_
 refine kSeq ?_
 refine cSeq ?_
 refine cReg ?_
 refine segH 3 (T1 := (mkT 12 [(1, vN n), (2, vP 1 0), (5, vP 1 3), (6, vS 0 L.length), (7, vN n)])) (by kernel_rfl) ?_
 refine rCall (v := vN (n - L.length)) (args := [vS 0 L.length, vN n]) (by kernel_rfl) rfl (by kernel_rfl) (Sound.lay0 [0] (szA3S_S L n (by first | omega | assumption | (simp; done)) (by first | omega | assumption | decide)) ⟨rdF false (flatA3 _ _ _ _) rfl rfl, trivial⟩ rfl ⟨clF (flatA3 _ _ _ _), trivial⟩ rfl (by first | rfl | simp [mpV, mpA, mpS, mpP, renId, shift]) rfl) ?_
 refine segEndH [1] (T1 := (mkT 12 [(1, vN (n - L.length))])) (by kernel_rfl) ?_
 refine kSeq ?_
 refine cSeq ?_
 refine cSeq ?_
 refine cReg ?_
 refine segEndH [1, 10] (T1 := (mkT 12 [(1, vN (n - L.length)), (10, .bool (decide (((n - L.length : Nat) : Int) < 0)))])) (by kernel_rfl) ?_
 refine kSeq ?_
 cases h1 : (decide (((n - L.length : Nat) : Int) < 0) : Bool)
 ·
  (try simp only [bs0, bs1, bs2, bs3, beq_iff_eq, bne_iff_ne, beq_eq_false_iff_ne, bne_eq_false_iff_eq, ne_eq, bs4, bs5, bs6, bs7, bs8, bs9, bs10, bs11, ge_iff_le, gt_iff_lt] at h1)
  refine cFalse (by kernel_rfl) ?_
  refine cSkip ?_
  refine kSeq ?_
  refine cSeq ?_
  refine cReg ?_
  refine segEndH [4] (T1 := (mkT 12 [(4, vN (n - L.length))])) (by kernel_rfl) ?_
  refine kSeq ?_
  refine cRet ?_
  exact endQ (Or.inr rfl) (l := [vN (n - L.length)]) [rB [vI x, vI y, vI z, vS 0 L.length] 24] (by kernel_rfl) (by first | rfl | kernel_rfl) rfl rfl hcl rfl
 ·
  (try simp only [bs0, bs1, bs2, bs3, beq_iff_eq, bne_iff_ne, beq_eq_false_iff_ne, bne_eq_false_iff_eq, ne_eq, bs4, bs5, bs6, bs7, bs8, bs9, bs10, bs11, ge_iff_le, gt_iff_lt] at h1)
  exfalso; omega
set_option maxRecDepth 100000 in
set_option maxHeartbeats 4000000 in
theorem szHeapG (x : Int) (y : Int) (z : Int) (L : List A3) (n : Nat) (hl : n < L.length) (hm : L.length ≤ 9223372036854775807) (hn : n ≤ 1048576) : Sound Try.prog 5 [.agg #[vI x, vI y, vI z, vS 0 L.length], vN n] [some ⟨a3s L, 46, false, false⟩] (vI (-1)) [some ⟨a3s L, 46, false, false⟩] := by
 refine sound_intro (C := cx) Try.func5 rfl (by kernel_rfl) fun hcl => ?_
 refine cSeq ?_
 refine cReg ?_
 refine segEnd [1, 2] (T1 := (mkT 12 [(1, vN n), (2, vP 1 0)])) (H1 := [some ⟨a3s L, 46, false, false⟩, rB [vI x, vI y, vI z, vS 0 L.length] 24]) (by kernel_rfl) ?_
 refine kSeq ?_
 refine cSeq ?_
 refine cReg ?_
 refine segH 3 (T1 := (mkT 12 [(1, vN n), (2, vP 1 0), (5, vP 1 3), (6, vS 0 L.length), (7, vN n)])) (by kernel_rfl) ?_
 refine rCall (v := vI (-1)) (args := [vS 0 L.length, vN n]) (by kernel_rfl) rfl (by kernel_rfl) (Sound.lay0 [0] (szA3S_G L n (by first | omega | assumption | (simp; done)) (by first | assumption | omega | rfl | decide | exact HeapL.list _ _ _ _ | exact HeapL.nil _ _ _ | exact HeapL.all _ _ _ | (apply HeapL.lt64 <;> assumption) | (repeat' (first | assumption | apply or_lt64 | apply and_lt64 | apply andn_lt64 | apply pow_lt64 | (apply HeapL.lt64 <;> assumption)))) (by first | omega | assumption | decide)) ⟨rdF false (flatA3 _ _ _ _) rfl rfl, trivial⟩ rfl ⟨clF (flatA3 _ _ _ _), trivial⟩ rfl (by first | rfl | simp [mpV, mpA, mpS, mpP, renId, shift]) rfl) ?_
 refine segEndH [1] (T1 := (mkT 12 [(1, vI (-1))])) (by kernel_rfl) ?_
 refine kSeq ?_
 refine cSeq ?_
 refine cSeq ?_
 refine cReg ?_
 refine segEndH [1, 10] (T1 := (mkT 12 [(1, vI (-1)), (10, .bool true)])) (by kernel_rfl) ?_
 refine kSeq ?_
 refine cTrue (by kernel_rfl) ?_
 refine cSeq ?_
 refine cReg ?_
 refine segEndH [4] (T1 := (mkT 12 [(4, vI (-1))])) (by kernel_rfl) ?_
 refine kSeq ?_
 refine cRet ?_
 refine kSeqR ?_
 exact endQ (Or.inr rfl) (l := [vI (-1)]) [rB [vI x, vI y, vI z, vS 0 L.length] 24] (by kernel_rfl) (by first | rfl | kernel_rfl) rfl rfl hcl rfl
end Go.Proofs.Yteohlhpdbnhbaaa.F
set_option linter.unusedVariables false
set_option linter.unusedSimpArgs false
namespace Go.Am
open Go.RowKit
end Go.Am
namespace Go.Am
end Go.Am
namespace Go.Am
end Go.Am
namespace Go.Am
end Go.Am
namespace Go.Am
def SmallL (L : List A3) : Prop := ∀ c ∈ L, (0 ≤ c.x ∧ c.x ≤ 4) ∧ (0 ≤ c.y ∧ c.y ≤ 4) ∧ (0 ≤ c.z ∧ c.z ≤ 4)
theorem SmallL.at {L : List A3} (h : SmallL L) {i : Nat} (hi : i < L.length) : (0 ≤ (L.getD i default).x ∧ (L.getD i default).x ≤ 4) ∧ (0 ≤ (L.getD i default).y ∧ (L.getD i default).y ≤ 4) ∧ (0 ≤ (L.getD i default).z ∧ (L.getD i default).z ≤ 4) := h _ (getD_mem hi)
theorem HeapL.small {X Y Z : Nat} {L : List A3} (h : HeapL X Y Z L) (hs : Sides X Y Z) : SmallL L := fun c hc => by
  have := has3_iff.1 (h.mem_has hs hc)
  have := hs.x4; have := hs.y4; have := hs.z4
  omega
end Go.Am
namespace Go.Am
end Go.Am
set_option linter.unusedVariables false
set_option linter.unusedSimpArgs false
namespace Go.Am
open Go.RowKit
end Go.Am
namespace Go.Am
end Go.Am
set_option linter.unusedVariables false
set_option linter.unusedSimpArgs false
namespace Go.Am
open Go.RowKit
section
variable {P : Program} {C : Ctx P}
end
end Go.Am
set_option linter.unusedVariables false
set_option linter.unusedSimpArgs false
namespace Go.Am
open Go.RowKit
def mkI (m n : Nat) : List Int := (List.range n).map fun j => ((m + j : Nat) : Int)
@[simp] theorem mkI_length (m n : Nat) : (mkI m n).length = n := by simp [mkI]
end Go.Am
set_option linter.unusedVariables false
set_option linter.unusedSimpArgs false
namespace Go.Am
open Go.RowKit
end Go.Am
set_option linter.unusedVariables false
set_option linter.unusedSimpArgs false
namespace Go.Proofs.Yteohlhpdbnhbaaa.F
open Go.Am Go.RowKit
end Go.Proofs.Yteohlhpdbnhbaaa.F
set_option linter.unusedVariables false
set_option linter.unusedSimpArgs false
namespace Go.Am
def pt (c : A3) (k : Nat) : A3 := ⟨2 * c.x + ((k % 3 : Nat) : Int), 2 * c.y + ((k / 3 % 3 : Nat) : Int), 2 * c.z + ((k / 9 : Nat) : Int)⟩
def addP (M : List A3) (p : A3) : List A3 := if p ∈ M then M else M ++ [p]
def metK (c : A3) (M : List A3) : Nat → List A3
  | 0 => M
  | k + 1 => addP (metK c M k) (pt c k)
def metI (L : List A3) : Nat → List A3
  | 0 => []
  | i + 1 => metK (L.getD i default) (metI L i) 27
def par (p : A3) : Nat := (p.x % 2 + p.y % 2 + p.z % 2).toNat
def cntP (M : List A3) (q : Nat) : Nat := M.countP fun p => par p == q
theorem mem_addP {M : List A3} {p x : A3} : x ∈ addP M p ↔ x ∈ M ∨ x = p := by
  unfold addP
  split
  · rename_i h
    exact ⟨Or.inl, fun hx => hx.elim id fun e => e ▸ h⟩
  · simp
theorem nodup_addP {M : List A3} {p : A3} (h : M.Nodup) : (addP M p).Nodup := by
  unfold addP
  split
  · exact h
  · rename_i hp
    unfold List.Nodup
    rw [List.pairwise_append]
    exact ⟨h, List.pairwise_singleton _ _, fun a ha b hb => by rw [List.mem_singleton.1 hb]; rintro rfl; exact hp ha⟩
theorem mem_metK {c : A3} {M : List A3} {x : A3} : ∀ k, x ∈ metK c M k ↔ x ∈ M ∨ ∃ j, j < k ∧ x = pt c j
  | 0 => by simp [metK]
  | k + 1 => by
    rw [metK, mem_addP, mem_metK k]
    constructor
    · rintro ((h | ⟨j, hj, h⟩) | h)
      · exact Or.inl h
      · exact Or.inr ⟨j, by omega, h⟩
      · exact Or.inr ⟨k, by omega, h⟩
    · rintro (h | ⟨j, hj, h⟩)
      · exact Or.inl (Or.inl h)
      · rcases Nat.lt_or_ge j k with hk | hk
        · exact Or.inl (Or.inr ⟨j, hk, h⟩)
        · obtain rfl : j = k := by omega
          exact Or.inr h
theorem nodup_metK {c : A3} {M : List A3} (h : M.Nodup) : ∀ k, (metK c M k).Nodup
  | 0 => h
  | k + 1 => nodup_addP (nodup_metK h k)
theorem mem_metI {L : List A3} {x : A3} : ∀ i, x ∈ metI L i ↔ ∃ j, j < i ∧ ∃ k, k < 27 ∧ x = pt (L.getD j default) k
  | 0 => by simp [metI]
  | i + 1 => by
    rw [metI, mem_metK, mem_metI i]
    constructor
    · rintro (⟨j, hj, h⟩ | h)
      · exact ⟨j, by omega, h⟩
      · exact ⟨i, by omega, h⟩
    · rintro ⟨j, hj, h⟩
      rcases Nat.lt_or_ge j i with hk | hk
      · exact Or.inl ⟨j, hk, h⟩
      · obtain rfl : j = i := by omega
        exact Or.inr h
theorem nodup_metI (L : List A3) : ∀ i, (metI L i).Nodup
  | 0 => List.nodup_nil
  | i + 1 => nodup_metK (nodup_metI L i) 27
theorem length_addP (M : List A3) (p : A3) : (addP M p).length ≤ M.length + 1 := by
  unfold addP; split <;> simp
theorem length_metK (c : A3) (M : List A3) : ∀ k, (metK c M k).length ≤ M.length + k
  | 0 => Nat.le_refl _
  | k + 1 => by have := length_metK c M k; have := length_addP (metK c M k) (pt c k); rw [metK]; omega
theorem length_metI (L : List A3) : ∀ i, (metI L i).length ≤ 27 * i
  | 0 => Nat.le_refl _
  | i + 1 => by have := length_metI L i; have := length_metK (L.getD i default) (metI L i) 27; rw [metI]; omega
theorem cntP_le (M : List A3) (q : Nat) : cntP M q ≤ M.length := List.countP_le_length
theorem cntP_add {M : List A3} {p : A3} (h : p ∉ M) (q : Nat) : cntP (addP M p) q = if q = par p then cntP M q + 1 else cntP M q := by
  unfold addP cntP
  rw [if_neg h, List.countP_append, List.countP_singleton]
  by_cases hq : q = par p
  · subst hq; simp
  · rw [if_neg hq, if_neg (by simpa using fun e => hq e.symm), Nat.add_zero]
def inK (c : A3) (x y z : Int) : Bool := inR (x - 2 * c.x) 0 2 && inR (y - 2 * c.y) 0 2 && inR (z - 2 * c.z) 0 2
def n3 (a b d : Int) (k : Nat) : Int := if k = 0 then a else if k = 1 then b else d
def inF (c : A3) (a b d : Int) : Nat → Bool
  | 0 => true
  | k + 1 => inF c a b d k && inR (n3 a b d k - 2 * n3 c.x c.y c.z k) 0 2
theorem inF_three (c : A3) (a b d : Int) : inF c a b d 3 = inK c a b d := by
  simp [inF, inK, n3]
def inC (L : List A3) (x y z : Int) : Bool := L.any fun c => inK c x y z
def hit (L : List A3) (q x y z : Nat) : Nat := if inC L x y z = true ∧ q = x % 2 + y % 2 + z % 2 then 1 else 0
def sZ (L : List A3) (q x y : Nat) : Nat → Nat
  | 0 => 0
  | k + 1 => sZ L q x y k + hit L q x y k
def sY (L : List A3) (q m x : Nat) : Nat → Nat
  | 0 => 0
  | j + 1 => sY L q m x j + sZ L q x j m
def sX (L : List A3) (q n m : Nat) : Nat → Nat
  | 0 => 0
  | i + 1 => sX L q n m i + sY L q m i n
theorem hit_le (L : List A3) (q x y z : Nat) : hit L q x y z ≤ 1 := by unfold hit; split <;> omega
theorem sZ_le (L : List A3) (q x y : Nat) : ∀ k, sZ L q x y k ≤ k
  | 0 => Nat.le_refl _
  | k + 1 => by have := sZ_le L q x y k; have := hit_le L q x y k; rw [sZ]; omega
theorem sY_le (L : List A3) (q m x : Nat) : ∀ j, sY L q m x j ≤ j * m
  | 0 => by simp [sY]
  | j + 1 => by have := sY_le L q m x j; have := sZ_le L q x j m; rw [sY, Nat.succ_mul]; omega
theorem sX_le (L : List A3) (q n m : Nat) : ∀ i, sX L q n m i ≤ i * (n * m)
  | 0 => by simp [sX]
  | i + 1 => by have := sX_le L q n m i; have := sY_le L q m i n; rw [sX, Nat.succ_mul]; omega
def gP (x y z : Nat) : A3 := ⟨x, y, z⟩
def grid (l n m : Nat) : List A3 := (List.range l).flatMap fun x => (List.range n).flatMap fun y => (List.range m).map fun z => gP x y z
def inA (L : List A3) (p : A3) : Bool := inC L p.x p.y p.z
theorem par_g (x y z : Nat) : par (gP x y z) = x % 2 + y % 2 + z % 2 := by
  unfold par gP; simp only; omega
theorem inA_g (L : List A3) (x y z : Nat) : inA L (gP x y z) = inC L x y z := rfl
theorem sZ_list (L : List A3) (q x y : Nat) : ∀ k, sZ L q x y k = ((List.range k).map fun z => gP x y z).countP fun p => par p == q && inA L p
  | 0 => rfl
  | k + 1 => by
    rw [sZ, sZ_list L q x y k, List.range_succ, List.map_append, List.countP_append]
    congr 1
    simp only [List.map_cons, List.map_nil, List.countP_singleton, par_g, hit, inA_g]
    by_cases h : inC L x y k = true
    · by_cases hq : q = x % 2 + y % 2 + k % 2
      · subst hq; simp [h]
      · have hq2 : ¬ x % 2 + y % 2 + k % 2 = q := fun e => hq e.symm
        simp [h, hq, hq2]
    · simp [h]
theorem sY_list (L : List A3) (q m x : Nat) : ∀ j, sY L q m x j = ((List.range j).flatMap fun y => (List.range m).map fun z => gP x y z).countP fun p => par p == q && inA L p
  | 0 => rfl
  | j + 1 => by
    rw [sY, sY_list L q m x j, List.range_succ, List.flatMap_append, List.countP_append, sZ_list]
    simp
theorem sX_list (L : List A3) (q n m : Nat) : ∀ i, sX L q n m i = (grid i n m).countP fun p => par p == q && inA L p
  | 0 => rfl
  | i + 1 => by
    unfold grid
    rw [sX, sX_list L q n m i, List.range_succ, List.flatMap_append, List.countP_append, sY_list]
    simp [grid]
theorem mem_grid {l n m : Nat} {p : A3} : p ∈ grid l n m ↔ ∃ x, x < l ∧ ∃ y, y < n ∧ ∃ z, z < m ∧ p = gP x y z := by
  unfold grid
  simp only [List.mem_flatMap, List.mem_range, List.mem_map]
  constructor
  · rintro ⟨x, hx, y, hy, z, hz, rfl⟩; exact ⟨x, hx, y, hy, z, hz, rfl⟩
  · rintro ⟨x, hx, y, hy, z, hz, rfl⟩; exact ⟨x, hx, y, hy, z, hz, rfl⟩
theorem nodup_grid (l n m : Nat) : (grid l n m).Nodup := by
  have inj : ∀ {a b c a' b' c' : Nat}, gP a b c = gP a' b' c' → a = a' ∧ b = b' ∧ c = c' := by
    intro a b c a' b' c' h
    simp only [gP, A3.mk.injEq] at h
    omega
  unfold grid List.Nodup
  rw [List.pairwise_flatMap]
  refine ⟨fun x _ => ?_, (List.nodup_range (n := l)).imp fun {a b} hab u hu v hv e => ?_⟩
  · rw [List.pairwise_flatMap]
    refine ⟨fun y _ => ?_, (List.nodup_range (n := n)).imp fun {a b} hab u hu v hv e => ?_⟩
    · rw [List.pairwise_map]
      exact (List.nodup_range (n := m)).imp fun {a b} hab e => hab (inj e).2.2
    · obtain ⟨z, _, rfl⟩ := List.mem_map.1 hu
      obtain ⟨z', _, rfl⟩ := List.mem_map.1 hv
      exact hab (inj e).2.1
  · simp only [List.mem_flatMap, List.mem_map] at hu hv
    obtain ⟨y, _, z, _, rfl⟩ := hu
    obtain ⟨y', _, z', _, rfl⟩ := hv
    exact hab (inj e).1
theorem inK_iff {c : A3} {x y z : Int} : inK c x y z = true ↔ (0 ≤ x - 2 * c.x ∧ x - 2 * c.x ≤ 2) ∧ (0 ≤ y - 2 * c.y ∧ y - 2 * c.y ≤ 2) ∧ (0 ≤ z - 2 * c.z ∧ z - 2 * c.z ≤ 2) := by
  simp only [inK, inR, Bool.and_eq_true, decide_eq_true_eq]
  constructor
  · rintro ⟨⟨h1, h2⟩, h3⟩; exact ⟨h1, h2, h3⟩
  · rintro ⟨h1, h2, h3⟩; exact ⟨⟨h1, h2⟩, h3⟩
theorem inC_yes {L : List A3} {a b d : Int} {i : Nat} (hi : i < L.length) (h : inK (L.getD i default) a b d = true) : inC L a b d = true := by
  unfold inC
  refine List.any_eq_true.2 ⟨L[i], List.getElem_mem hi, ?_⟩
  rwa [List.getD_eq_getElem?_getD, List.getElem?_eq_getElem hi] at h
theorem inC_no {L : List A3} {a b d : Int} (h : ∀ j, j < L.length → inK (L.getD j default) a b d = false) : inC L a b d = false := by
  unfold inC
  refine List.any_eq_false.2 fun c hc => ?_
  obtain ⟨j, hj, rfl⟩ := List.mem_iff_getElem.1 hc
  have h1 := h j hj
  rw [List.getD_eq_getElem?_getD, List.getElem?_eq_getElem hj] at h1
  simpa using h1
theorem counts_same {X Y Z : Nat} {L : List A3} (hs : Sides X Y Z) (hL : HeapL X Y Z L) (q : Nat) : sX L q (2 * Y + 1) (2 * Z + 1) (2 * X + 1) = cntP (metI L L.length) q := by
  rw [sX_list, ← List.countP_filter]
  refine List.Perm.countP_eq _ ((List.perm_ext_iff_of_nodup ((nodup_grid _ _ _).filter _) (nodup_metI L _)).2 fun p => ?_)
  rw [List.mem_filter, mem_grid, mem_metI]
  constructor
  · rintro ⟨⟨x, hx, y, hy, z, hz, rfl⟩, hin⟩
    unfold inA inC at hin
    obtain ⟨c, hc, hk⟩ := List.any_eq_true.1 hin
    rw [inK_iff] at hk
    obtain ⟨j, hj, rfl⟩ := List.mem_iff_getElem.1 hc
    have hh := (has3_iff (c := L[j])).1 (hL.mem_has hs hc)
    simp only [gP] at hk
    refine ⟨j, hj, ((z : Int) - 2 * L[j].z).toNat * 9 + ((y : Int) - 2 * L[j].y).toNat * 3 + ((x : Int) - 2 * L[j].x).toNat, by omega, ?_⟩
    rw [List.getD_eq_getElem?_getD, List.getElem?_eq_getElem hj, Option.getD_some]
    simp only [pt, gP, A3.mk.injEq]
    generalize L[j] = c at *
    omega
  · rintro ⟨j, hj, k, hk, rfl⟩
    rw [List.getD_eq_getElem?_getD, List.getElem?_eq_getElem hj, Option.getD_some]
    have hc : L[j] ∈ L := List.getElem_mem hj
    have hh := (has3_iff (c := L[j])).1 (hL.mem_has hs hc)
    refine ⟨⟨(2 * L[j].x + ((k % 3 : Nat) : Int)).toNat, by omega, (2 * L[j].y + ((k / 3 % 3 : Nat) : Int)).toNat, by omega, (2 * L[j].z + ((k / 9 : Nat) : Int)).toNat, by omega, ?_⟩, ?_⟩
    · simp only [pt, gP, A3.mk.injEq]
      generalize L[j] = c at *
      omega
    · unfold inA inC
      refine List.any_eq_true.2 ⟨L[j], hc, inK_iff.2 ?_⟩
      simp only [pt]
      generalize L[j] = c at *
      omega
end Go.Am
