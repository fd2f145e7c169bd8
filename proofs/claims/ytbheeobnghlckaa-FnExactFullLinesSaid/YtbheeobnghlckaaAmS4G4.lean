/- Walks. No condition. -/
import Derived.Test.YtbheeobnghlckaaAmS4G3
import Derived.Test.YtbheeobnghlckaaAmN
set_option linter.unusedVariables false
set_option linter.unusedSimpArgs false
namespace Go.Proofs.Ytbheeobnghlckaa
open Go.Am Go.RowKit
set_option maxRecDepth 100000 in
set_option maxHeartbeats 4000000 in
theorem isNaN_ok (a : Int) : Sound Try.prog 137 [vI a] [] (.bool false) [] := by
  refine sound_intro (C := cx) Try.func137 rfl (by kernel_rfl) fun hcl => ?_
  refine cSeq ?_
  refine cReg ?_
  refine segEnd [0, 2] (T1 := (mkT 6 [(0, vI a), (2, .bool false)])) (H1 := []) (by kernel_rfl) ?_
  refine kSeq ?_
  refine cSeq ?_
  refine cReg ?_
  refine seg 2 (T1 := (mkT 6 [(0, vI a), (2, .bool false), (3, vI a), (4, vI a)])) (H1 := []) (by kernel_rfl) ?_
  refine rOp (v := .bool false) (H' := []) (by kernel_rfl) (eNeS (k := .i64) (a := a) (by kernel_rfl) (by kernel_rfl)) ?_
  refine segEnd [0, 2] (T1 := (mkT 6 [(0, vI a), (2, .bool false)])) (H1 := []) (by kernel_rfl) ?_
  refine kSeq ?_
  refine cRet ?_
  exact endQ (Or.inr rfl) (l := [.bool false]) [] (by kernel_rfl) (rfl) rfl rfl hcl rfl

set_option maxRecDepth 100000 in
set_option maxHeartbeats 4000000 in
theorem cmp_ok (a b : Int) : Sound Try.prog 131 [vI a, vI b] [] (vI (cmpI a b)) [] := by
  refine sound_intro (C := cx) Try.func131 rfl (by kernel_rfl) fun hcl => ?_
  refine cSeq ?_
  refine cReg ?_
  refine segEnd [0, 1, 4] (T1 := (mkT 20 [(0, vI a), (1, vI b), (4, vI 0)])) (H1 := []) (by kernel_rfl) ?_
  refine kSeq ?_
  refine cSeq ?_
  refine cReg ?_
  refine seg 1 (T1 := (mkT 20 [(0, vI a), (1, vI b), (4, vI 0), (7, vI a)])) (H1 := []) (by kernel_rfl) ?_
  refine rCall (v := .bool false) (H' := []) (args := [vI a]) (by kernel_rfl) rfl (by kernel_rfl) ((isNaN_ok a).flat rfl rfl _) ?_
  refine segEnd [0, 1, 4, 5] (T1 := (mkT 20 [(0, vI a), (1, vI b), (4, vI 0), (5, .bool false)])) (H1 := []) (by kernel_rfl) ?_
  refine kSeq ?_
  refine cSeq ?_
  refine cReg ?_
  refine seg 1 (T1 := (mkT 20 [(0, vI a), (1, vI b), (4, vI 0), (5, .bool false), (9, vI b)])) (H1 := []) (by kernel_rfl) ?_
  refine rCall (v := .bool false) (H' := []) (args := [vI b]) (by kernel_rfl) rfl (by kernel_rfl) ((isNaN_ok b).flat rfl rfl _) ?_
  refine segEnd [0, 1, 4, 5, 6] (T1 := (mkT 20 [(0, vI a), (1, vI b), (4, vI 0), (5, .bool false), (6, .bool false)])) (H1 := []) (by kernel_rfl) ?_
  refine kSeq ?_
  refine cSeq ?_
  refine cSeq ?_
  refine cReg ?_
  refine segEnd [0, 1, 4, 5, 6, 11] (T1 := (mkT 20 [(0, vI a), (1, vI b), (4, vI 0), (5, .bool false), (6, .bool false), (11, .bool false)])) (H1 := []) (by kernel_rfl) ?_
  refine kSeq ?_
  refine cFalse (by kernel_rfl) ?_
  refine cSkip ?_
  refine kSeq ?_
  refine cSeq ?_
  refine cSeq ?_
  refine cReg ?_
  refine segEnd [0, 1, 4, 5, 6, 11, 13] (T1 := (mkT 20 [(0, vI a), (1, vI b), (4, vI 0), (5, .bool false), (6, .bool false), (11, .bool false), (13, .bool false)])) (H1 := []) (by kernel_rfl) ?_
  refine kSeq ?_
  refine cFalse (by kernel_rfl) ?_
  refine cSkip ?_
  refine kSeq ?_
  refine cSeq ?_
  refine cSeq ?_
  refine cReg ?_
  refine segEnd [0, 1, 4, 5, 6, 11, 13, 16] (T1 := (mkT 20 [(0, vI a), (1, vI b), (4, vI 0), (5, .bool false), (6, .bool false), (11, .bool false), (13, .bool false), (16, .bool (decide (a < b)))])) (H1 := []) (by kernel_rfl) ?_
  refine kSeq ?_
  cases h1 : (decide (a < b) : Bool)
  ·
    (try simp only [Bool.not_eq_true', Bool.not_eq_false', decide_eq_true_eq, decide_eq_false_iff_not, beq_iff_eq, bne_iff_ne, beq_eq_false_iff_ne, bne_eq_false_iff_eq, ne_eq, Decidable.not_not, Bool.and_eq_true, Bool.and_eq_false_imp, Bool.or_eq_true, Bool.or_eq_false_iff, Bool.not_eq_true, Int.not_lt, Int.not_le, ge_iff_le, gt_iff_lt] at h1)
    refine cFalse (by kernel_rfl) ?_
    refine cSkip ?_
    refine kSeq ?_
    refine cSeq ?_
    refine cSeq ?_
    refine cReg ?_
    refine segEnd [0, 1, 4, 5, 6, 11, 13, 16, 19] (T1 := (mkT 20 [(0, vI a), (1, vI b), (4, vI 0), (5, .bool false), (6, .bool false), (11, .bool false), (13, .bool false), (16, .bool false), (19, .bool (decide (a > b)))])) (H1 := []) (by kernel_rfl) ?_
    refine kSeq ?_
    cases h2 : (decide (a > b) : Bool)
    ·
      (try simp only [Bool.not_eq_true', Bool.not_eq_false', decide_eq_true_eq, decide_eq_false_iff_not, beq_iff_eq, bne_iff_ne, beq_eq_false_iff_ne, bne_eq_false_iff_eq, ne_eq, Decidable.not_not, Bool.and_eq_true, Bool.and_eq_false_imp, Bool.or_eq_true, Bool.or_eq_false_iff, Bool.not_eq_true, Int.not_lt, Int.not_le, ge_iff_le, gt_iff_lt] at h2)
      refine cFalse (by kernel_rfl) ?_
      refine cSkip ?_
      refine kSeq ?_
      refine cSeq ?_
      refine cReg ?_
      refine segEnd [0, 1, 4, 5, 6, 11, 13, 16, 19] (T1 := (mkT 20 [(0, vI a), (1, vI b), (4, vI 0), (5, .bool false), (6, .bool false), (11, .bool false), (13, .bool false), (16, .bool false), (19, .bool false)])) (H1 := []) (by kernel_rfl) ?_
      refine kSeq ?_
      refine cRet ?_
      exact endQ (Or.inr rfl) (l := [vI 0]) [] (by kernel_rfl) (congrArg (Value.int .i64) (by unfold cmpI; repeat' split <;> omega)) rfl rfl hcl rfl
    ·
      (try simp only [Bool.not_eq_true', Bool.not_eq_false', decide_eq_true_eq, decide_eq_false_iff_not, beq_iff_eq, bne_iff_ne, beq_eq_false_iff_ne, bne_eq_false_iff_eq, ne_eq, Decidable.not_not, Bool.and_eq_true, Bool.and_eq_false_imp, Bool.or_eq_true, Bool.or_eq_false_iff, Bool.not_eq_true, Int.not_lt, Int.not_le, ge_iff_le, gt_iff_lt] at h2)
      refine cTrue (by kernel_rfl) ?_
      refine cSeq ?_
      refine cReg ?_
      refine segEnd [0, 1, 4, 5, 6, 11, 13, 16, 19] (T1 := (mkT 20 [(0, vI a), (1, vI b), (4, vI 1), (5, .bool false), (6, .bool false), (11, .bool false), (13, .bool false), (16, .bool false), (19, .bool true)])) (H1 := []) (by kernel_rfl) ?_
      refine kSeq ?_
      refine cRet ?_
      refine kSeqR ?_
      exact endQ (Or.inr rfl) (l := [vI 1]) [] (by kernel_rfl) (congrArg (Value.int .i64) (by unfold cmpI; repeat' split <;> omega)) rfl rfl hcl rfl
  ·
    (try simp only [Bool.not_eq_true', Bool.not_eq_false', decide_eq_true_eq, decide_eq_false_iff_not, beq_iff_eq, bne_iff_ne, beq_eq_false_iff_ne, bne_eq_false_iff_eq, ne_eq, Decidable.not_not, Bool.and_eq_true, Bool.and_eq_false_imp, Bool.or_eq_true, Bool.or_eq_false_iff, Bool.not_eq_true, Int.not_lt, Int.not_le, ge_iff_le, gt_iff_lt] at h1)
    refine cTrue (by kernel_rfl) ?_
    refine cSeq ?_
    refine cReg ?_
    refine segEnd [0, 1, 4, 5, 6, 11, 13, 16] (T1 := (mkT 20 [(0, vI a), (1, vI b), (4, vI (-1)), (5, .bool false), (6, .bool false), (11, .bool false), (13, .bool false), (16, .bool true)])) (H1 := []) (by kernel_rfl) ?_
    refine kSeq ?_
    refine cRet ?_
    refine kSeqR ?_
    exact endQ (Or.inr rfl) (l := [vI (-1)]) [] (by kernel_rfl) (congrArg (Value.int .i64) (by unfold cmpI; repeat' split <;> omega)) rfl rfl hcl rfl

set_option maxRecDepth 100000 in
set_option maxHeartbeats 4000000 in
theorem compare_ok (a b c x y z : Int) : Sound Try.prog 108 [vS 0 3, vS 1 3] [some ⟨[vI a, vI b, vI c], 74, true, false⟩, some ⟨[vI x, vI y, vI z], 74, true, false⟩] (vI (lexC a b c x y z)) [some ⟨[vI a, vI b, vI c], 74, true, false⟩, some ⟨[vI x, vI y, vI z], 74, true, false⟩] := by
  refine sound_intro (C := cx) Try.func108 rfl (by kernel_rfl) fun hcl => ?_
  refine cSeq ?_
  refine cReg ?_
  refine segEnd [0, 1, 4] (T1 := (mkT 36 [(0, vS 0 3), (1, vS 1 3), (4, vI 0)])) (H1 := [some ⟨[vI a, vI b, vI c], 74, true, false⟩, some ⟨[vI x, vI y, vI z], 74, true, false⟩]) (by kernel_rfl) ?_
  refine kSeq ?_
  refine cSeq ?_
  refine cSeq ?_
  refine cReg ?_
  refine segEnd [0, 1, 4, 9, 10, 11] (T1 := (mkT 36 [(0, vS 0 3), (1, vS 1 3), (4, vI 0), (9, vS 0 3), (10, vI 3), (11, vI 0)])) (H1 := [some ⟨[vI a, vI b, vI c], 74, true, false⟩, some ⟨[vI x, vI y, vI z], 74, true, false⟩]) (by kernel_rfl) ?_
  refine kSeq ?_
  refine cBlk ?_
  -- loop
  refine cLoop (fun mm T H => ∃ i : Nat, (i ≤ 3) ∧ ((1 ≤ i → cmpI a x = 0) ∧ (2 ≤ i → cmpI b y = 0) ∧ (3 ≤ i → cmpI c z = 0)) ∧ mm = 3 - i ∧ T = (mkT 36 [(0, vS 0 3), (1, vS 1 3), (4, vI 0), (9, vS 0 3), (10, vI 3), (11, vN i)]) ∧ H = [some ⟨[vI a, vI b, vI c], 74, true, false⟩, some ⟨[vI x, vI y, vI z], 74, true, false⟩]) (3 - 0) (mkT 36 [(0, vS 0 3), (1, vS 1 3), (4, vI 0), (9, vS 0 3), (10, vI 3), (11, vI 0)]) [some ⟨[vI a, vI b, vI c], 74, true, false⟩, some ⟨[vI x, vI y, vI z], 74, true, false⟩] (wkSame [0, 1, 4, 9, 10, 11] (by kernel_rfl)) ?_ ?_
  · exact ⟨0, (Nat.zero_le _), (by omega), rfl, rfl, rfl⟩
  · rintro _ _ _ ⟨i, hi, he, rfl, rfl, rfl⟩
    have hcase : i = 0 ∨ i = 1 ∨ i = 2 ∨ i = 3 := by omega
    rcases hcase with rfl | rfl | rfl | rfl
    ·
      refine cSeq ?_
      refine cReg ?_
      refine segEnd [0, 1, 4, 9, 10, 11, 12] (T1 := (mkT 36 [(0, vS 0 3), (1, vS 1 3), (4, vI 0), (9, vS 0 3), (10, vI 3), (11, vI 0), (12, .bool true)])) (H1 := [some ⟨[vI a, vI b, vI c], 74, true, false⟩, some ⟨[vI x, vI y, vI z], 74, true, false⟩]) (by kernel_rfl) ?_
      refine kSeq ?_
      refine cSeq ?_
      refine cTrue (by kernel_rfl) ?_
      refine cSkip ?_
      refine kSeq ?_
      refine cSeq ?_
      refine cBlk ?_
      refine cSeq ?_
      refine cReg ?_
      refine segEnd [0, 1, 4, 5, 6, 9, 10, 11, 12] (T1 := (mkT 36 [(0, vS 0 3), (1, vS 1 3), (4, vI 0), (5, vI 0), (6, vI a), (9, vS 0 3), (10, vI 3), (11, vI 0), (12, .bool true)])) (H1 := [some ⟨[vI a, vI b, vI c], 74, true, false⟩, some ⟨[vI x, vI y, vI z], 74, true, false⟩]) (by kernel_rfl) ?_
      refine kSeq ?_
      refine cSeq ?_
      refine cSeq ?_
      refine cReg ?_
      refine segEnd [0, 1, 4, 5, 6, 9, 10, 11, 12, 19] (T1 := (mkT 36 [(0, vS 0 3), (1, vS 1 3), (4, vI 0), (5, vI 0), (6, vI a), (9, vS 0 3), (10, vI 3), (11, vI 0), (12, .bool true), (19, .bool false)])) (H1 := [some ⟨[vI a, vI b, vI c], 74, true, false⟩, some ⟨[vI x, vI y, vI z], 74, true, false⟩]) (by kernel_rfl) ?_
      refine kSeq ?_
      refine cFalse (by kernel_rfl) ?_
      refine cSkip ?_
      refine kSeq ?_
      refine cSeq ?_
      refine cReg ?_
      refine segEnd [0, 1, 4, 5, 6, 7, 9, 10, 11, 12, 19] (T1 := (mkT 36 [(0, vS 0 3), (1, vS 1 3), (4, vI 0), (5, vI 0), (6, vI a), (7, vI x), (9, vS 0 3), (10, vI 3), (11, vI 0), (12, .bool true), (19, .bool false)])) (H1 := [some ⟨[vI a, vI b, vI c], 74, true, false⟩, some ⟨[vI x, vI y, vI z], 74, true, false⟩]) (by kernel_rfl) ?_
      refine kSeq ?_
      refine cSeq ?_
      refine cReg ?_
      refine seg 2 (T1 := (mkT 36 [(0, vS 0 3), (1, vS 1 3), (4, vI 0), (5, vI 0), (6, vI a), (7, vI x), (9, vS 0 3), (10, vI 3), (11, vI 0), (12, .bool true), (19, .bool false), (24, vI a), (25, vI x)])) (H1 := [some ⟨[vI a, vI b, vI c], 74, true, false⟩, some ⟨[vI x, vI y, vI z], 74, true, false⟩]) (by kernel_rfl) ?_
      refine rCall (v := vI (cmpI a x)) (H' := [some ⟨[vI a, vI b, vI c], 74, true, false⟩, some ⟨[vI x, vI y, vI z], 74, true, false⟩]) (args := [vI a, vI x]) (by kernel_rfl) rfl (by kernel_rfl) ((cmp_ok a x).flat rfl rfl _) ?_
      refine segEnd [0, 1, 4, 5, 6, 7, 8, 9, 10, 11, 12, 19] (T1 := (mkT 36 [(0, vS 0 3), (1, vS 1 3), (4, vI 0), (5, vI 0), (6, vI a), (7, vI x), (8, vI (cmpI a x)), (9, vS 0 3), (10, vI 3), (11, vI 0), (12, .bool true), (19, .bool false)])) (H1 := [some ⟨[vI a, vI b, vI c], 74, true, false⟩, some ⟨[vI x, vI y, vI z], 74, true, false⟩]) (by kernel_rfl) ?_
      refine kSeq ?_
      refine cSeq ?_
      refine cReg ?_
      refine segEnd [0, 1, 4, 5, 6, 7, 8, 9, 10, 11, 12, 19, 28] (T1 := (mkT 36 [(0, vS 0 3), (1, vS 1 3), (4, vI 0), (5, vI 0), (6, vI a), (7, vI x), (8, vI (cmpI a x)), (9, vS 0 3), (10, vI 3), (11, vI 0), (12, .bool true), (19, .bool false), (28, .bool (cmpI a x != 0))])) (H1 := [some ⟨[vI a, vI b, vI c], 74, true, false⟩, some ⟨[vI x, vI y, vI z], 74, true, false⟩]) (by kernel_rfl) ?_
      refine kSeq ?_
      cases h1 : ((cmpI a x != 0) : Bool)
      ·
        (try simp only [Bool.not_eq_true', Bool.not_eq_false', decide_eq_true_eq, decide_eq_false_iff_not, beq_iff_eq, bne_iff_ne, beq_eq_false_iff_ne, bne_eq_false_iff_eq, ne_eq, Decidable.not_not, Bool.and_eq_true, Bool.and_eq_false_imp, Bool.or_eq_true, Bool.or_eq_false_iff, Bool.not_eq_true, Int.not_lt, Int.not_le, ge_iff_le, gt_iff_lt] at h1)
        refine cFalse (by kernel_rfl) ?_
        refine cSkip ?_
        refine kBlk ?_
        refine kSeq ?_
        refine cReg ?_
        refine segEnd [0, 1, 4, 5, 6, 7, 8, 9, 10, 11, 12, 19, 28] (T1 := (mkT 36 [(0, vS 0 3), (1, vS 1 3), (4, vI 0), (5, vI 0), (6, vI a), (7, vI x), (8, vI (cmpI a x)), (9, vS 0 3), (10, vI 3), (11, vI 1), (12, .bool true), (19, .bool false), (28, .bool false)])) (H1 := [some ⟨[vI a, vI b, vI c], 74, true, false⟩, some ⟨[vI x, vI y, vI z], 74, true, false⟩]) (by kernel_rfl) ?_
        exact kLoop (3 - 1) (mkT 36 [(0, vS 0 3), (1, vS 1 3), (4, vI 0), (9, vS 0 3), (10, vI 3), (11, vI 1)]) [some ⟨[vI a, vI b, vI c], 74, true, false⟩, some ⟨[vI x, vI y, vI z], 74, true, false⟩] (by omega) (wkSame [0, 1, 4, 9, 10, 11] (by kernel_rfl)) ⟨1, (by omega), (by omega), rfl, rfl, rfl⟩
      ·
        (try simp only [Bool.not_eq_true', Bool.not_eq_false', decide_eq_true_eq, decide_eq_false_iff_not, beq_iff_eq, bne_iff_ne, beq_eq_false_iff_ne, bne_eq_false_iff_eq, ne_eq, Decidable.not_not, Bool.and_eq_true, Bool.and_eq_false_imp, Bool.or_eq_true, Bool.or_eq_false_iff, Bool.not_eq_true, Int.not_lt, Int.not_le, ge_iff_le, gt_iff_lt] at h1)
        refine cTrue (by kernel_rfl) ?_
        refine cSeq ?_
        refine cReg ?_
        refine segEnd [0, 1, 4, 5, 6, 7, 8, 9, 10, 11, 12, 19, 28] (T1 := (mkT 36 [(0, vS 0 3), (1, vS 1 3), (4, vI (cmpI a x)), (5, vI 0), (6, vI a), (7, vI x), (8, vI (cmpI a x)), (9, vS 0 3), (10, vI 3), (11, vI 0), (12, .bool true), (19, .bool false), (28, .bool true)])) (H1 := [some ⟨[vI a, vI b, vI c], 74, true, false⟩, some ⟨[vI x, vI y, vI z], 74, true, false⟩]) (by kernel_rfl) ?_
        refine kSeq ?_
        refine cRet ?_
        refine kBlkR ?_
        refine kSeqR ?_
        refine kLoopR ?_
        refine kBlkR ?_
        refine kSeqR ?_
        exact endQ (Or.inr rfl) (l := [vI (cmpI a x)]) [] (by kernel_rfl) (congrArg (Value.int .i64) (by unfold lexC; repeat' split <;> omega)) rfl rfl hcl rfl
    ·
      refine cSeq ?_
      refine cReg ?_
      refine segEnd [0, 1, 4, 9, 10, 11, 12] (T1 := (mkT 36 [(0, vS 0 3), (1, vS 1 3), (4, vI 0), (9, vS 0 3), (10, vI 3), (11, vI 1), (12, .bool true)])) (H1 := [some ⟨[vI a, vI b, vI c], 74, true, false⟩, some ⟨[vI x, vI y, vI z], 74, true, false⟩]) (by kernel_rfl) ?_
      refine kSeq ?_
      refine cSeq ?_
      refine cTrue (by kernel_rfl) ?_
      refine cSkip ?_
      refine kSeq ?_
      refine cSeq ?_
      refine cBlk ?_
      refine cSeq ?_
      refine cReg ?_
      refine segEnd [0, 1, 4, 5, 6, 9, 10, 11, 12] (T1 := (mkT 36 [(0, vS 0 3), (1, vS 1 3), (4, vI 0), (5, vI 1), (6, vI b), (9, vS 0 3), (10, vI 3), (11, vI 1), (12, .bool true)])) (H1 := [some ⟨[vI a, vI b, vI c], 74, true, false⟩, some ⟨[vI x, vI y, vI z], 74, true, false⟩]) (by kernel_rfl) ?_
      refine kSeq ?_
      refine cSeq ?_
      refine cSeq ?_
      refine cReg ?_
      refine segEnd [0, 1, 4, 5, 6, 9, 10, 11, 12, 19] (T1 := (mkT 36 [(0, vS 0 3), (1, vS 1 3), (4, vI 0), (5, vI 1), (6, vI b), (9, vS 0 3), (10, vI 3), (11, vI 1), (12, .bool true), (19, .bool false)])) (H1 := [some ⟨[vI a, vI b, vI c], 74, true, false⟩, some ⟨[vI x, vI y, vI z], 74, true, false⟩]) (by kernel_rfl) ?_
      refine kSeq ?_
      refine cFalse (by kernel_rfl) ?_
      refine cSkip ?_
      refine kSeq ?_
      refine cSeq ?_
      refine cReg ?_
      refine segEnd [0, 1, 4, 5, 6, 7, 9, 10, 11, 12, 19] (T1 := (mkT 36 [(0, vS 0 3), (1, vS 1 3), (4, vI 0), (5, vI 1), (6, vI b), (7, vI y), (9, vS 0 3), (10, vI 3), (11, vI 1), (12, .bool true), (19, .bool false)])) (H1 := [some ⟨[vI a, vI b, vI c], 74, true, false⟩, some ⟨[vI x, vI y, vI z], 74, true, false⟩]) (by kernel_rfl) ?_
      refine kSeq ?_
      refine cSeq ?_
      refine cReg ?_
      refine seg 2 (T1 := (mkT 36 [(0, vS 0 3), (1, vS 1 3), (4, vI 0), (5, vI 1), (6, vI b), (7, vI y), (9, vS 0 3), (10, vI 3), (11, vI 1), (12, .bool true), (19, .bool false), (24, vI b), (25, vI y)])) (H1 := [some ⟨[vI a, vI b, vI c], 74, true, false⟩, some ⟨[vI x, vI y, vI z], 74, true, false⟩]) (by kernel_rfl) ?_
      refine rCall (v := vI (cmpI b y)) (H' := [some ⟨[vI a, vI b, vI c], 74, true, false⟩, some ⟨[vI x, vI y, vI z], 74, true, false⟩]) (args := [vI b, vI y]) (by kernel_rfl) rfl (by kernel_rfl) ((cmp_ok b y).flat rfl rfl _) ?_
      refine segEnd [0, 1, 4, 5, 6, 7, 8, 9, 10, 11, 12, 19] (T1 := (mkT 36 [(0, vS 0 3), (1, vS 1 3), (4, vI 0), (5, vI 1), (6, vI b), (7, vI y), (8, vI (cmpI b y)), (9, vS 0 3), (10, vI 3), (11, vI 1), (12, .bool true), (19, .bool false)])) (H1 := [some ⟨[vI a, vI b, vI c], 74, true, false⟩, some ⟨[vI x, vI y, vI z], 74, true, false⟩]) (by kernel_rfl) ?_
      refine kSeq ?_
      refine cSeq ?_
      refine cReg ?_
      refine segEnd [0, 1, 4, 5, 6, 7, 8, 9, 10, 11, 12, 19, 28] (T1 := (mkT 36 [(0, vS 0 3), (1, vS 1 3), (4, vI 0), (5, vI 1), (6, vI b), (7, vI y), (8, vI (cmpI b y)), (9, vS 0 3), (10, vI 3), (11, vI 1), (12, .bool true), (19, .bool false), (28, .bool (cmpI b y != 0))])) (H1 := [some ⟨[vI a, vI b, vI c], 74, true, false⟩, some ⟨[vI x, vI y, vI z], 74, true, false⟩]) (by kernel_rfl) ?_
      refine kSeq ?_
      cases h2 : ((cmpI b y != 0) : Bool)
      ·
        (try simp only [Bool.not_eq_true', Bool.not_eq_false', decide_eq_true_eq, decide_eq_false_iff_not, beq_iff_eq, bne_iff_ne, beq_eq_false_iff_ne, bne_eq_false_iff_eq, ne_eq, Decidable.not_not, Bool.and_eq_true, Bool.and_eq_false_imp, Bool.or_eq_true, Bool.or_eq_false_iff, Bool.not_eq_true, Int.not_lt, Int.not_le, ge_iff_le, gt_iff_lt] at h2)
        refine cFalse (by kernel_rfl) ?_
        refine cSkip ?_
        refine kBlk ?_
        refine kSeq ?_
        refine cReg ?_
        refine segEnd [0, 1, 4, 5, 6, 7, 8, 9, 10, 11, 12, 19, 28] (T1 := (mkT 36 [(0, vS 0 3), (1, vS 1 3), (4, vI 0), (5, vI 1), (6, vI b), (7, vI y), (8, vI (cmpI b y)), (9, vS 0 3), (10, vI 3), (11, vI 2), (12, .bool true), (19, .bool false), (28, .bool false)])) (H1 := [some ⟨[vI a, vI b, vI c], 74, true, false⟩, some ⟨[vI x, vI y, vI z], 74, true, false⟩]) (by kernel_rfl) ?_
        exact kLoop (3 - 2) (mkT 36 [(0, vS 0 3), (1, vS 1 3), (4, vI 0), (9, vS 0 3), (10, vI 3), (11, vI 2)]) [some ⟨[vI a, vI b, vI c], 74, true, false⟩, some ⟨[vI x, vI y, vI z], 74, true, false⟩] (by omega) (wkSame [0, 1, 4, 9, 10, 11] (by kernel_rfl)) ⟨2, (by omega), (by omega), rfl, rfl, rfl⟩
      ·
        (try simp only [Bool.not_eq_true', Bool.not_eq_false', decide_eq_true_eq, decide_eq_false_iff_not, beq_iff_eq, bne_iff_ne, beq_eq_false_iff_ne, bne_eq_false_iff_eq, ne_eq, Decidable.not_not, Bool.and_eq_true, Bool.and_eq_false_imp, Bool.or_eq_true, Bool.or_eq_false_iff, Bool.not_eq_true, Int.not_lt, Int.not_le, ge_iff_le, gt_iff_lt] at h2)
        refine cTrue (by kernel_rfl) ?_
        refine cSeq ?_
        refine cReg ?_
        refine segEnd [0, 1, 4, 5, 6, 7, 8, 9, 10, 11, 12, 19, 28] (T1 := (mkT 36 [(0, vS 0 3), (1, vS 1 3), (4, vI (cmpI b y)), (5, vI 1), (6, vI b), (7, vI y), (8, vI (cmpI b y)), (9, vS 0 3), (10, vI 3), (11, vI 1), (12, .bool true), (19, .bool false), (28, .bool true)])) (H1 := [some ⟨[vI a, vI b, vI c], 74, true, false⟩, some ⟨[vI x, vI y, vI z], 74, true, false⟩]) (by kernel_rfl) ?_
        refine kSeq ?_
        refine cRet ?_
        refine kBlkR ?_
        refine kSeqR ?_
        refine kLoopR ?_
        refine kBlkR ?_
        refine kSeqR ?_
        exact endQ (Or.inr rfl) (l := [vI (cmpI b y)]) [] (by kernel_rfl) (congrArg (Value.int .i64) (by unfold lexC; repeat' split <;> omega)) rfl rfl hcl rfl
    ·
      refine cSeq ?_
      refine cReg ?_
      refine segEnd [0, 1, 4, 9, 10, 11, 12] (T1 := (mkT 36 [(0, vS 0 3), (1, vS 1 3), (4, vI 0), (9, vS 0 3), (10, vI 3), (11, vI 2), (12, .bool true)])) (H1 := [some ⟨[vI a, vI b, vI c], 74, true, false⟩, some ⟨[vI x, vI y, vI z], 74, true, false⟩]) (by kernel_rfl) ?_
      refine kSeq ?_
      refine cSeq ?_
      refine cTrue (by kernel_rfl) ?_
      refine cSkip ?_
      refine kSeq ?_
      refine cSeq ?_
      refine cBlk ?_
      refine cSeq ?_
      refine cReg ?_
      refine segEnd [0, 1, 4, 5, 6, 9, 10, 11, 12] (T1 := (mkT 36 [(0, vS 0 3), (1, vS 1 3), (4, vI 0), (5, vI 2), (6, vI c), (9, vS 0 3), (10, vI 3), (11, vI 2), (12, .bool true)])) (H1 := [some ⟨[vI a, vI b, vI c], 74, true, false⟩, some ⟨[vI x, vI y, vI z], 74, true, false⟩]) (by kernel_rfl) ?_
      refine kSeq ?_
      refine cSeq ?_
      refine cSeq ?_
      refine cReg ?_
      refine segEnd [0, 1, 4, 5, 6, 9, 10, 11, 12, 19] (T1 := (mkT 36 [(0, vS 0 3), (1, vS 1 3), (4, vI 0), (5, vI 2), (6, vI c), (9, vS 0 3), (10, vI 3), (11, vI 2), (12, .bool true), (19, .bool false)])) (H1 := [some ⟨[vI a, vI b, vI c], 74, true, false⟩, some ⟨[vI x, vI y, vI z], 74, true, false⟩]) (by kernel_rfl) ?_
      refine kSeq ?_
      refine cFalse (by kernel_rfl) ?_
      refine cSkip ?_
      refine kSeq ?_
      refine cSeq ?_
      refine cReg ?_
      refine segEnd [0, 1, 4, 5, 6, 7, 9, 10, 11, 12, 19] (T1 := (mkT 36 [(0, vS 0 3), (1, vS 1 3), (4, vI 0), (5, vI 2), (6, vI c), (7, vI z), (9, vS 0 3), (10, vI 3), (11, vI 2), (12, .bool true), (19, .bool false)])) (H1 := [some ⟨[vI a, vI b, vI c], 74, true, false⟩, some ⟨[vI x, vI y, vI z], 74, true, false⟩]) (by kernel_rfl) ?_
      refine kSeq ?_
      refine cSeq ?_
      refine cReg ?_
      refine seg 2 (T1 := (mkT 36 [(0, vS 0 3), (1, vS 1 3), (4, vI 0), (5, vI 2), (6, vI c), (7, vI z), (9, vS 0 3), (10, vI 3), (11, vI 2), (12, .bool true), (19, .bool false), (24, vI c), (25, vI z)])) (H1 := [some ⟨[vI a, vI b, vI c], 74, true, false⟩, some ⟨[vI x, vI y, vI z], 74, true, false⟩]) (by kernel_rfl) ?_
      refine rCall (v := vI (cmpI c z)) (H' := [some ⟨[vI a, vI b, vI c], 74, true, false⟩, some ⟨[vI x, vI y, vI z], 74, true, false⟩]) (args := [vI c, vI z]) (by kernel_rfl) rfl (by kernel_rfl) ((cmp_ok c z).flat rfl rfl _) ?_
      refine segEnd [0, 1, 4, 5, 6, 7, 8, 9, 10, 11, 12, 19] (T1 := (mkT 36 [(0, vS 0 3), (1, vS 1 3), (4, vI 0), (5, vI 2), (6, vI c), (7, vI z), (8, vI (cmpI c z)), (9, vS 0 3), (10, vI 3), (11, vI 2), (12, .bool true), (19, .bool false)])) (H1 := [some ⟨[vI a, vI b, vI c], 74, true, false⟩, some ⟨[vI x, vI y, vI z], 74, true, false⟩]) (by kernel_rfl) ?_
      refine kSeq ?_
      refine cSeq ?_
      refine cReg ?_
      refine segEnd [0, 1, 4, 5, 6, 7, 8, 9, 10, 11, 12, 19, 28] (T1 := (mkT 36 [(0, vS 0 3), (1, vS 1 3), (4, vI 0), (5, vI 2), (6, vI c), (7, vI z), (8, vI (cmpI c z)), (9, vS 0 3), (10, vI 3), (11, vI 2), (12, .bool true), (19, .bool false), (28, .bool (cmpI c z != 0))])) (H1 := [some ⟨[vI a, vI b, vI c], 74, true, false⟩, some ⟨[vI x, vI y, vI z], 74, true, false⟩]) (by kernel_rfl) ?_
      refine kSeq ?_
      cases h3 : ((cmpI c z != 0) : Bool)
      ·
        (try simp only [Bool.not_eq_true', Bool.not_eq_false', decide_eq_true_eq, decide_eq_false_iff_not, beq_iff_eq, bne_iff_ne, beq_eq_false_iff_ne, bne_eq_false_iff_eq, ne_eq, Decidable.not_not, Bool.and_eq_true, Bool.and_eq_false_imp, Bool.or_eq_true, Bool.or_eq_false_iff, Bool.not_eq_true, Int.not_lt, Int.not_le, ge_iff_le, gt_iff_lt] at h3)
        refine cFalse (by kernel_rfl) ?_
        refine cSkip ?_
        refine kBlk ?_
        refine kSeq ?_
        refine cReg ?_
        refine segEnd [0, 1, 4, 5, 6, 7, 8, 9, 10, 11, 12, 19, 28] (T1 := (mkT 36 [(0, vS 0 3), (1, vS 1 3), (4, vI 0), (5, vI 2), (6, vI c), (7, vI z), (8, vI (cmpI c z)), (9, vS 0 3), (10, vI 3), (11, vI 3), (12, .bool true), (19, .bool false), (28, .bool false)])) (H1 := [some ⟨[vI a, vI b, vI c], 74, true, false⟩, some ⟨[vI x, vI y, vI z], 74, true, false⟩]) (by kernel_rfl) ?_
        exact kLoop (3 - 3) (mkT 36 [(0, vS 0 3), (1, vS 1 3), (4, vI 0), (9, vS 0 3), (10, vI 3), (11, vI 3)]) [some ⟨[vI a, vI b, vI c], 74, true, false⟩, some ⟨[vI x, vI y, vI z], 74, true, false⟩] (by omega) (wkSame [0, 1, 4, 9, 10, 11] (by kernel_rfl)) ⟨3, (by omega), (by omega), rfl, rfl, rfl⟩
      ·
        (try simp only [Bool.not_eq_true', Bool.not_eq_false', decide_eq_true_eq, decide_eq_false_iff_not, beq_iff_eq, bne_iff_ne, beq_eq_false_iff_ne, bne_eq_false_iff_eq, ne_eq, Decidable.not_not, Bool.and_eq_true, Bool.and_eq_false_imp, Bool.or_eq_true, Bool.or_eq_false_iff, Bool.not_eq_true, Int.not_lt, Int.not_le, ge_iff_le, gt_iff_lt] at h3)
        refine cTrue (by kernel_rfl) ?_
        refine cSeq ?_
        refine cReg ?_
        refine segEnd [0, 1, 4, 5, 6, 7, 8, 9, 10, 11, 12, 19, 28] (T1 := (mkT 36 [(0, vS 0 3), (1, vS 1 3), (4, vI (cmpI c z)), (5, vI 2), (6, vI c), (7, vI z), (8, vI (cmpI c z)), (9, vS 0 3), (10, vI 3), (11, vI 2), (12, .bool true), (19, .bool false), (28, .bool true)])) (H1 := [some ⟨[vI a, vI b, vI c], 74, true, false⟩, some ⟨[vI x, vI y, vI z], 74, true, false⟩]) (by kernel_rfl) ?_
        refine kSeq ?_
        refine cRet ?_
        refine kBlkR ?_
        refine kSeqR ?_
        refine kLoopR ?_
        refine kBlkR ?_
        refine kSeqR ?_
        exact endQ (Or.inr rfl) (l := [vI (cmpI c z)]) [] (by kernel_rfl) (congrArg (Value.int .i64) (by unfold lexC; repeat' split <;> omega)) rfl rfl hcl rfl
    ·
      refine cSeq ?_
      refine cReg ?_
      refine segEnd [0, 1, 4, 9, 10, 11, 12] (T1 := (mkT 36 [(0, vS 0 3), (1, vS 1 3), (4, vI 0), (9, vS 0 3), (10, vI 3), (11, vI 3), (12, .bool false)])) (H1 := [some ⟨[vI a, vI b, vI c], 74, true, false⟩, some ⟨[vI x, vI y, vI z], 74, true, false⟩]) (by kernel_rfl) ?_
      refine kSeq ?_
      refine cSeq ?_
      refine cFalse (by kernel_rfl) ?_
      refine cExit ?_
      refine kSeqE ?_
      refine kLoopE ?_
      refine kBlkHit ?_
      refine kSeq ?_
      refine cSeq ?_
      refine cSeq ?_
      refine cReg ?_
      refine segEnd [0, 1, 4, 9, 10, 11, 12, 35] (T1 := (mkT 36 [(0, vS 0 3), (1, vS 1 3), (4, vI 0), (9, vS 0 3), (10, vI 3), (11, vI 3), (12, .bool false), (35, .bool false)])) (H1 := [some ⟨[vI a, vI b, vI c], 74, true, false⟩, some ⟨[vI x, vI y, vI z], 74, true, false⟩]) (by kernel_rfl) ?_
      refine kSeq ?_
      refine cFalse (by kernel_rfl) ?_
      refine cSkip ?_
      refine kSeq ?_
      refine cSeq ?_
      refine cReg ?_
      refine segEnd [0, 1, 4, 9, 10, 11, 12, 35] (T1 := (mkT 36 [(0, vS 0 3), (1, vS 1 3), (4, vI 0), (9, vS 0 3), (10, vI 3), (11, vI 3), (12, .bool false), (35, .bool false)])) (H1 := [some ⟨[vI a, vI b, vI c], 74, true, false⟩, some ⟨[vI x, vI y, vI z], 74, true, false⟩]) (by kernel_rfl) ?_
      refine kSeq ?_
      refine cRet ?_
      exact endQ (Or.inr rfl) (l := [vI 0]) [] (by kernel_rfl) (congrArg (Value.int .i64) (by unfold lexC; repeat' split <;> omega)) rfl rfl hcl rfl

set_option maxRecDepth 100000 in
set_option maxHeartbeats 4000000 in
theorem compareCells_ok (a b c x y z : Int) : Sound Try.prog 69 [.agg #[vI a, vI b, vI c], .agg #[vI x, vI y, vI z]] [] (vI (lexC a b c x y z)) [] := by
  refine sound_intro (C := cx) Try.func69 rfl (by kernel_rfl) fun hcl => ?_
  refine cSeq ?_
  refine cReg ?_
  refine segEnd [0, 1, 2, 3, 4] (T1 := (mkT 8 [(0, .agg #[vI a, vI b, vI c]), (1, .agg #[vI x, vI y, vI z]), (2, vP 0 0), (3, vP 1 0), (4, vI 0)])) (H1 := [rB [vI a, vI b, vI c] 74, rB [vI x, vI y, vI z] 74]) (by kernel_rfl) ?_
  refine kSeq ?_
  refine cSeq ?_
  refine cRegD (by kernel_rfl) ?_
  refine segD 2 (T1 := (mkT 8 [(0, .agg #[vI a, vI b, vI c]), (1, .agg #[vI x, vI y, vI z]), (2, vP 0 0), (3, vP 1 0), (4, vI 0), (5, vS 0 3), (6, vS 1 3)])) (H1 := [rB [vI a, vI b, vI c] 74, rB [vI x, vI y, vI z] 74]) (by kernel_rfl) ?_
  refine rCallQ (v := vI (lexC a b c x y z)) (args := [vS 0 3, vS 1 3]) (by kernel_rfl) rfl (by kernel_rfl) (by kernel_rfl) (by kernel_rfl) (Quiet.reads2 0 1 true true (compare_ok a b c x y z) (flatRow_of rfl) (flatRow_of rfl) rfl rfl rfl rfl rfl rfl rfl rfl rfl) ?_
  refine segEndD [0, 1, 2, 3, 4] (T1 := (mkT 8 [(0, .agg #[vI a, vI b, vI c]), (1, .agg #[vI x, vI y, vI z]), (2, vP 0 0), (3, vP 1 0), (4, vI (lexC a b c x y z))])) (H1 := [rB [vI a, vI b, vI c] 74, rB [vI x, vI y, vI z] 74]) (by kernel_rfl) ?_
  refine kSeq ?_
  refine cRet ?_
  exact endQ (Or.inr rfl) (l := [vI (lexC a b c x y z)]) [rB [vI a, vI b, vI c] 74, rB [vI x, vI y, vI z] 74] (by kernel_rfl) (rfl) rfl rfl hcl rfl

set_option maxRecDepth 100000 in
set_option maxHeartbeats 4000000 in
theorem l2Before_ok (a b c x y z : Int) : Sound Try.prog 107 [.agg #[vI a, vI b, vI c], .agg #[vI x, vI y, vI z]] [] (.bool (lexB a b c x y z)) [] := by
  refine sound_intro (C := cx) Try.func107 rfl (by kernel_rfl) fun hcl => ?_
  refine cSeq ?_
  refine cReg ?_
  refine segEnd [0, 1, 2, 3, 4] (T1 := (mkT 24 [(0, .agg #[vI a, vI b, vI c]), (1, .agg #[vI x, vI y, vI z]), (2, vP 0 0), (3, vP 1 0), (4, .bool false)])) (H1 := [rB [vI a, vI b, vI c] 74, rB [vI x, vI y, vI z] 74]) (by kernel_rfl) ?_
  refine kSeq ?_
  refine cSeq ?_
  refine cSeq ?_
  refine cReg ?_
  refine segEnd [0, 1, 2, 3, 4, 5] (T1 := (mkT 24 [(0, .agg #[vI a, vI b, vI c]), (1, .agg #[vI x, vI y, vI z]), (2, vP 0 0), (3, vP 1 0), (4, .bool false), (5, vI 0)])) (H1 := [rB [vI a, vI b, vI c] 74, rB [vI x, vI y, vI z] 74]) (by kernel_rfl) ?_
  refine kSeq ?_
  refine cBlk ?_
  -- loop
  refine cLoop (fun mm T H => ∃ i : Nat, (i ≤ 3) ∧ ((1 ≤ i → a = x) ∧ (2 ≤ i → b = y) ∧ (3 ≤ i → c = z)) ∧ mm = 3 - i ∧ T = (mkT 24 [(2, vP 0 0), (3, vP 1 0), (4, .bool false), (5, vN i)]) ∧ H = [rB [vI a, vI b, vI c] 74, rB [vI x, vI y, vI z] 74]) (3 - 0) (mkT 24 [(2, vP 0 0), (3, vP 1 0), (4, .bool false), (5, vI 0)]) [rB [vI a, vI b, vI c] 74, rB [vI x, vI y, vI z] 74] (wkSame [2, 3, 4, 5] (by kernel_rfl)) ?_ ?_
  · exact ⟨0, (Nat.zero_le _), (by omega), rfl, rfl, rfl⟩
  · rintro _ _ _ ⟨i, hi, he, rfl, rfl, rfl⟩
    have hcase : i = 0 ∨ i = 1 ∨ i = 2 ∨ i = 3 := by omega
    rcases hcase with rfl | rfl | rfl | rfl
    ·
      refine cSeq ?_
      refine cSeq ?_
      refine cReg ?_
      refine segEnd [2, 3, 4, 5, 7] (T1 := (mkT 24 [(2, vP 0 0), (3, vP 1 0), (4, .bool false), (5, vI 0), (7, .bool true)])) (H1 := [rB [vI a, vI b, vI c] 74, rB [vI x, vI y, vI z] 74]) (by kernel_rfl) ?_
      refine kSeq ?_
      refine cTrue (by kernel_rfl) ?_
      refine cSkip ?_
      refine kSeq ?_
      refine cSeq ?_
      refine cBlk ?_
      refine cSeq ?_
      refine cRegD (by kernel_rfl) ?_
      refine segEndD [2, 3, 4, 5, 7, 16] (T1 := (mkT 24 [(2, vP 0 0), (3, vP 1 0), (4, .bool false), (5, vI 0), (7, .bool true), (16, .bool (a != x))])) (H1 := [rB [vI a, vI b, vI c] 74, rB [vI x, vI y, vI z] 74]) (by kernel_rfl) ?_
      refine kSeq ?_
      cases h1 : ((a != x) : Bool)
      ·
        (try simp only [Bool.not_eq_true', Bool.not_eq_false', decide_eq_true_eq, decide_eq_false_iff_not, beq_iff_eq, bne_iff_ne, beq_eq_false_iff_ne, bne_eq_false_iff_eq, ne_eq, Decidable.not_not, Bool.and_eq_true, Bool.and_eq_false_imp, Bool.or_eq_true, Bool.or_eq_false_iff, Bool.not_eq_true, Int.not_lt, Int.not_le, ge_iff_le, gt_iff_lt] at h1)
        refine cFalse (by kernel_rfl) ?_
        refine cSkip ?_
        refine kBlk ?_
        refine kSeq ?_
        refine cReg ?_
        refine segEnd [2, 3, 4, 5, 7, 16] (T1 := (mkT 24 [(2, vP 0 0), (3, vP 1 0), (4, .bool false), (5, vI 1), (7, .bool true), (16, .bool false)])) (H1 := [rB [vI a, vI b, vI c] 74, rB [vI x, vI y, vI z] 74]) (by kernel_rfl) ?_
        exact kLoop (3 - 1) (mkT 24 [(2, vP 0 0), (3, vP 1 0), (4, .bool false), (5, vI 1)]) [rB [vI a, vI b, vI c] 74, rB [vI x, vI y, vI z] 74] (by omega) (wkSame [2, 3, 4, 5] (by kernel_rfl)) ⟨1, (by omega), (by omega), rfl, rfl, rfl⟩
      ·
        (try simp only [Bool.not_eq_true', Bool.not_eq_false', decide_eq_true_eq, decide_eq_false_iff_not, beq_iff_eq, bne_iff_ne, beq_eq_false_iff_ne, bne_eq_false_iff_eq, ne_eq, Decidable.not_not, Bool.and_eq_true, Bool.and_eq_false_imp, Bool.or_eq_true, Bool.or_eq_false_iff, Bool.not_eq_true, Int.not_lt, Int.not_le, ge_iff_le, gt_iff_lt] at h1)
        refine cTrue (by kernel_rfl) ?_
        refine cSeq ?_
        refine cRegD (by kernel_rfl) ?_
        refine segEndD [2, 3, 4, 5, 7, 16] (T1 := (mkT 24 [(2, vP 0 0), (3, vP 1 0), (4, .bool (decide (a < x))), (5, vI 0), (7, .bool true), (16, .bool true)])) (H1 := [rB [vI a, vI b, vI c] 74, rB [vI x, vI y, vI z] 74]) (by kernel_rfl) ?_
        refine kSeq ?_
        refine cRet ?_
        refine kBlkR ?_
        refine kSeqR ?_
        refine kLoopR ?_
        refine kBlkR ?_
        refine kSeqR ?_
        exact endQ (Or.inr rfl) (l := [.bool (decide (a < x))]) [rB [vI a, vI b, vI c] 74, rB [vI x, vI y, vI z] 74] (by kernel_rfl) (congrArg Value.bool (Bool.eq_iff_iff.2 (by simp only [lexB, decide_eq_true_eq, Bool.false_eq_true, Bool.true_eq, true_iff, false_iff]; omega))) rfl rfl hcl rfl
    ·
      refine cSeq ?_
      refine cSeq ?_
      refine cReg ?_
      refine segEnd [2, 3, 4, 5, 7] (T1 := (mkT 24 [(2, vP 0 0), (3, vP 1 0), (4, .bool false), (5, vI 1), (7, .bool true)])) (H1 := [rB [vI a, vI b, vI c] 74, rB [vI x, vI y, vI z] 74]) (by kernel_rfl) ?_
      refine kSeq ?_
      refine cTrue (by kernel_rfl) ?_
      refine cSkip ?_
      refine kSeq ?_
      refine cSeq ?_
      refine cBlk ?_
      refine cSeq ?_
      refine cRegD (by kernel_rfl) ?_
      refine segEndD [2, 3, 4, 5, 7, 16] (T1 := (mkT 24 [(2, vP 0 0), (3, vP 1 0), (4, .bool false), (5, vI 1), (7, .bool true), (16, .bool (b != y))])) (H1 := [rB [vI a, vI b, vI c] 74, rB [vI x, vI y, vI z] 74]) (by kernel_rfl) ?_
      refine kSeq ?_
      cases h2 : ((b != y) : Bool)
      ·
        (try simp only [Bool.not_eq_true', Bool.not_eq_false', decide_eq_true_eq, decide_eq_false_iff_not, beq_iff_eq, bne_iff_ne, beq_eq_false_iff_ne, bne_eq_false_iff_eq, ne_eq, Decidable.not_not, Bool.and_eq_true, Bool.and_eq_false_imp, Bool.or_eq_true, Bool.or_eq_false_iff, Bool.not_eq_true, Int.not_lt, Int.not_le, ge_iff_le, gt_iff_lt] at h2)
        refine cFalse (by kernel_rfl) ?_
        refine cSkip ?_
        refine kBlk ?_
        refine kSeq ?_
        refine cReg ?_
        refine segEnd [2, 3, 4, 5, 7, 16] (T1 := (mkT 24 [(2, vP 0 0), (3, vP 1 0), (4, .bool false), (5, vI 2), (7, .bool true), (16, .bool false)])) (H1 := [rB [vI a, vI b, vI c] 74, rB [vI x, vI y, vI z] 74]) (by kernel_rfl) ?_
        exact kLoop (3 - 2) (mkT 24 [(2, vP 0 0), (3, vP 1 0), (4, .bool false), (5, vI 2)]) [rB [vI a, vI b, vI c] 74, rB [vI x, vI y, vI z] 74] (by omega) (wkSame [2, 3, 4, 5] (by kernel_rfl)) ⟨2, (by omega), (by omega), rfl, rfl, rfl⟩
      ·
        (try simp only [Bool.not_eq_true', Bool.not_eq_false', decide_eq_true_eq, decide_eq_false_iff_not, beq_iff_eq, bne_iff_ne, beq_eq_false_iff_ne, bne_eq_false_iff_eq, ne_eq, Decidable.not_not, Bool.and_eq_true, Bool.and_eq_false_imp, Bool.or_eq_true, Bool.or_eq_false_iff, Bool.not_eq_true, Int.not_lt, Int.not_le, ge_iff_le, gt_iff_lt] at h2)
        refine cTrue (by kernel_rfl) ?_
        refine cSeq ?_
        refine cRegD (by kernel_rfl) ?_
        refine segEndD [2, 3, 4, 5, 7, 16] (T1 := (mkT 24 [(2, vP 0 0), (3, vP 1 0), (4, .bool (decide (b < y))), (5, vI 1), (7, .bool true), (16, .bool true)])) (H1 := [rB [vI a, vI b, vI c] 74, rB [vI x, vI y, vI z] 74]) (by kernel_rfl) ?_
        refine kSeq ?_
        refine cRet ?_
        refine kBlkR ?_
        refine kSeqR ?_
        refine kLoopR ?_
        refine kBlkR ?_
        refine kSeqR ?_
        exact endQ (Or.inr rfl) (l := [.bool (decide (b < y))]) [rB [vI a, vI b, vI c] 74, rB [vI x, vI y, vI z] 74] (by kernel_rfl) (congrArg Value.bool (Bool.eq_iff_iff.2 (by simp only [lexB, decide_eq_true_eq, Bool.false_eq_true, Bool.true_eq, true_iff, false_iff]; omega))) rfl rfl hcl rfl
    ·
      refine cSeq ?_
      refine cSeq ?_
      refine cReg ?_
      refine segEnd [2, 3, 4, 5, 7] (T1 := (mkT 24 [(2, vP 0 0), (3, vP 1 0), (4, .bool false), (5, vI 2), (7, .bool true)])) (H1 := [rB [vI a, vI b, vI c] 74, rB [vI x, vI y, vI z] 74]) (by kernel_rfl) ?_
      refine kSeq ?_
      refine cTrue (by kernel_rfl) ?_
      refine cSkip ?_
      refine kSeq ?_
      refine cSeq ?_
      refine cBlk ?_
      refine cSeq ?_
      refine cRegD (by kernel_rfl) ?_
      refine segEndD [2, 3, 4, 5, 7, 16] (T1 := (mkT 24 [(2, vP 0 0), (3, vP 1 0), (4, .bool false), (5, vI 2), (7, .bool true), (16, .bool (c != z))])) (H1 := [rB [vI a, vI b, vI c] 74, rB [vI x, vI y, vI z] 74]) (by kernel_rfl) ?_
      refine kSeq ?_
      cases h3 : ((c != z) : Bool)
      ·
        (try simp only [Bool.not_eq_true', Bool.not_eq_false', decide_eq_true_eq, decide_eq_false_iff_not, beq_iff_eq, bne_iff_ne, beq_eq_false_iff_ne, bne_eq_false_iff_eq, ne_eq, Decidable.not_not, Bool.and_eq_true, Bool.and_eq_false_imp, Bool.or_eq_true, Bool.or_eq_false_iff, Bool.not_eq_true, Int.not_lt, Int.not_le, ge_iff_le, gt_iff_lt] at h3)
        refine cFalse (by kernel_rfl) ?_
        refine cSkip ?_
        refine kBlk ?_
        refine kSeq ?_
        refine cReg ?_
        refine segEnd [2, 3, 4, 5, 7, 16] (T1 := (mkT 24 [(2, vP 0 0), (3, vP 1 0), (4, .bool false), (5, vI 3), (7, .bool true), (16, .bool false)])) (H1 := [rB [vI a, vI b, vI c] 74, rB [vI x, vI y, vI z] 74]) (by kernel_rfl) ?_
        exact kLoop (3 - 3) (mkT 24 [(2, vP 0 0), (3, vP 1 0), (4, .bool false), (5, vI 3)]) [rB [vI a, vI b, vI c] 74, rB [vI x, vI y, vI z] 74] (by omega) (wkSame [2, 3, 4, 5] (by kernel_rfl)) ⟨3, (by omega), (by omega), rfl, rfl, rfl⟩
      ·
        (try simp only [Bool.not_eq_true', Bool.not_eq_false', decide_eq_true_eq, decide_eq_false_iff_not, beq_iff_eq, bne_iff_ne, beq_eq_false_iff_ne, bne_eq_false_iff_eq, ne_eq, Decidable.not_not, Bool.and_eq_true, Bool.and_eq_false_imp, Bool.or_eq_true, Bool.or_eq_false_iff, Bool.not_eq_true, Int.not_lt, Int.not_le, ge_iff_le, gt_iff_lt] at h3)
        refine cTrue (by kernel_rfl) ?_
        refine cSeq ?_
        refine cRegD (by kernel_rfl) ?_
        refine segEndD [2, 3, 4, 5, 7, 16] (T1 := (mkT 24 [(2, vP 0 0), (3, vP 1 0), (4, .bool (decide (c < z))), (5, vI 2), (7, .bool true), (16, .bool true)])) (H1 := [rB [vI a, vI b, vI c] 74, rB [vI x, vI y, vI z] 74]) (by kernel_rfl) ?_
        refine kSeq ?_
        refine cRet ?_
        refine kBlkR ?_
        refine kSeqR ?_
        refine kLoopR ?_
        refine kBlkR ?_
        refine kSeqR ?_
        exact endQ (Or.inr rfl) (l := [.bool (decide (c < z))]) [rB [vI a, vI b, vI c] 74, rB [vI x, vI y, vI z] 74] (by kernel_rfl) (congrArg Value.bool (Bool.eq_iff_iff.2 (by simp only [lexB, decide_eq_true_eq, Bool.false_eq_true, Bool.true_eq, true_iff, false_iff]; omega))) rfl rfl hcl rfl
    ·
      refine cSeq ?_
      refine cSeq ?_
      refine cReg ?_
      refine segEnd [2, 3, 4, 5, 7] (T1 := (mkT 24 [(2, vP 0 0), (3, vP 1 0), (4, .bool false), (5, vI 3), (7, .bool false)])) (H1 := [rB [vI a, vI b, vI c] 74, rB [vI x, vI y, vI z] 74]) (by kernel_rfl) ?_
      refine kSeq ?_
      refine cFalse (by kernel_rfl) ?_
      refine cExit ?_
      refine kSeqE ?_
      refine kLoopE ?_
      refine kBlkHit ?_
      refine kSeq ?_
      refine cSeq ?_
      refine cReg ?_
      refine segEnd [2, 3, 4, 5, 7] (T1 := (mkT 24 [(2, vP 0 0), (3, vP 1 0), (4, .bool false), (5, vI 3), (7, .bool false)])) (H1 := [rB [vI a, vI b, vI c] 74, rB [vI x, vI y, vI z] 74]) (by kernel_rfl) ?_
      refine kSeq ?_
      refine cRet ?_
      exact endQ (Or.inr rfl) (l := [.bool false]) [rB [vI a, vI b, vI c] 74, rB [vI x, vI y, vI z] 74] (by kernel_rfl) (congrArg Value.bool (Bool.eq_iff_iff.2 (by simp only [lexB, decide_eq_true_eq, Bool.false_eq_true, Bool.true_eq, true_iff, false_iff]; omega))) rfl rfl hcl rfl
end Go.Proofs.Ytbheeobnghlckaa
