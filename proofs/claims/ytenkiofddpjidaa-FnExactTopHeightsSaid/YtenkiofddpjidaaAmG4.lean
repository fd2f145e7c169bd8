/- Walks. No condition. -/
import Derived.Test.YtenkiofddpjidaaAmG3
import Derived.Test.YtenkiofddpjidaaAmN
set_option linter.unusedVariables false
set_option linter.unusedSimpArgs false
namespace Go.Proofs.Ytenkiofddpjidaa
open Go.Am Go.RowKit
set_option maxRecDepth 100000 in
set_option maxHeartbeats 4000000 in
theorem isNaN_ok (a : Int) : Sound Try.prog 109 [.int .i64 a] [] (.bool false) [] := by
  refine sound_intro (C := cx) Try.func109 rfl (by kernel_rfl) fun hcl => ?_
  refine cSeq ?_
  refine cReg ?_
  refine segEnd [0, 2] (T1 := (mkT 6 [(0, .int .i64 a), (2, .bool false)])) (H1 := []) (by kernel_rfl) ?_
  refine kSeq ?_
  refine cSeq ?_
  refine cReg ?_
  refine seg 2 (T1 := (mkT 6 [(0, .int .i64 a), (2, .bool false), (3, .int .i64 a), (4, .int .i64 a)])) (H1 := []) (by kernel_rfl) ?_
  refine rOp (v := .bool false) (H' := []) (by kernel_rfl) (eNeS (k := .i64) (a := a) (by kernel_rfl) (by kernel_rfl)) ?_
  refine segEnd [0, 2] (T1 := (mkT 6 [(0, .int .i64 a), (2, .bool false)])) (H1 := []) (by kernel_rfl) ?_
  refine kSeq ?_
  refine cRet ?_
  exact endQ (Or.inr rfl) (l := [.bool false]) [] (by kernel_rfl) (rfl) rfl rfl hcl rfl

set_option maxRecDepth 100000 in
set_option maxHeartbeats 4000000 in
theorem cmp_ok (a b : Int) : Sound Try.prog 108 [.int .i64 a, .int .i64 b] [] (.int .i64 (cmpI a b)) [] := by
  refine sound_intro (C := cx) Try.func108 rfl (by kernel_rfl) fun hcl => ?_
  refine cSeq ?_
  refine cReg ?_
  refine segEnd [0, 1, 4] (T1 := (mkT 20 [(0, .int .i64 a), (1, .int .i64 b), (4, .int .i64 0)])) (H1 := []) (by kernel_rfl) ?_
  refine kSeq ?_
  refine cSeq ?_
  refine cReg ?_
  refine seg 1 (T1 := (mkT 20 [(0, .int .i64 a), (1, .int .i64 b), (4, .int .i64 0), (7, .int .i64 a)])) (H1 := []) (by kernel_rfl) ?_
  refine rCall (v := .bool false) (H' := []) (args := [.int .i64 a]) (by kernel_rfl) rfl (by kernel_rfl) ((isNaN_ok a).flat rfl rfl _) ?_
  refine segEnd [0, 1, 4, 5] (T1 := (mkT 20 [(0, .int .i64 a), (1, .int .i64 b), (4, .int .i64 0), (5, .bool false)])) (H1 := []) (by kernel_rfl) ?_
  refine kSeq ?_
  refine cSeq ?_
  refine cReg ?_
  refine seg 1 (T1 := (mkT 20 [(0, .int .i64 a), (1, .int .i64 b), (4, .int .i64 0), (5, .bool false), (9, .int .i64 b)])) (H1 := []) (by kernel_rfl) ?_
  refine rCall (v := .bool false) (H' := []) (args := [.int .i64 b]) (by kernel_rfl) rfl (by kernel_rfl) ((isNaN_ok b).flat rfl rfl _) ?_
  refine segEnd [0, 1, 4, 5, 6] (T1 := (mkT 20 [(0, .int .i64 a), (1, .int .i64 b), (4, .int .i64 0), (5, .bool false), (6, .bool false)])) (H1 := []) (by kernel_rfl) ?_
  refine kSeq ?_
  refine cSeq ?_
  refine cSeq ?_
  refine cReg ?_
  refine segEnd [0, 1, 4, 5, 6, 11] (T1 := (mkT 20 [(0, .int .i64 a), (1, .int .i64 b), (4, .int .i64 0), (5, .bool false), (6, .bool false), (11, .bool false)])) (H1 := []) (by kernel_rfl) ?_
  refine kSeq ?_
  refine cFalse (by kernel_rfl) ?_
  refine cSkip ?_
  refine kSeq ?_
  refine cSeq ?_
  refine cSeq ?_
  refine cReg ?_
  refine segEnd [0, 1, 4, 5, 6, 11, 13] (T1 := (mkT 20 [(0, .int .i64 a), (1, .int .i64 b), (4, .int .i64 0), (5, .bool false), (6, .bool false), (11, .bool false), (13, .bool false)])) (H1 := []) (by kernel_rfl) ?_
  refine kSeq ?_
  refine cFalse (by kernel_rfl) ?_
  refine cSkip ?_
  refine kSeq ?_
  refine cSeq ?_
  refine cSeq ?_
  refine cReg ?_
  refine segEnd [0, 1, 4, 5, 6, 11, 13, 16] (T1 := (mkT 20 [(0, .int .i64 a), (1, .int .i64 b), (4, .int .i64 0), (5, .bool false), (6, .bool false), (11, .bool false), (13, .bool false), (16, .bool (decide (a < b)))])) (H1 := []) (by kernel_rfl) ?_
  refine kSeq ?_
  cases h1 : (decide (a < b) : Bool)
  ·
    (try simp only [Bool.not_eq_true', Bool.not_eq_false', decide_eq_true_eq, decide_eq_false_iff_not, beq_iff_eq, bne_iff_ne, beq_eq_false_iff_ne, bne_eq_false_iff_eq, ne_eq, Decidable.not_not, Bool.and_eq_true, Bool.and_eq_false_imp, Bool.or_eq_true, Bool.or_eq_false_iff, Bool.not_eq_true, Int.not_lt, Int.not_le, ge_iff_le, gt_iff_lt] at h1)
    refine cFalse (by kernel_rfl) ?_
    refine cSkip ?_
    refine kSeq ?_
    refine cSeq ?_
    refine cSeq ?_
    refine cReg ?_
    refine segEnd [0, 1, 4, 5, 6, 11, 13, 16, 19] (T1 := (mkT 20 [(0, .int .i64 a), (1, .int .i64 b), (4, .int .i64 0), (5, .bool false), (6, .bool false), (11, .bool false), (13, .bool false), (16, .bool false), (19, .bool (decide (a > b)))])) (H1 := []) (by kernel_rfl) ?_
    refine kSeq ?_
    cases h2 : (decide (a > b) : Bool)
    ·
      (try simp only [Bool.not_eq_true', Bool.not_eq_false', decide_eq_true_eq, decide_eq_false_iff_not, beq_iff_eq, bne_iff_ne, beq_eq_false_iff_ne, bne_eq_false_iff_eq, ne_eq, Decidable.not_not, Bool.and_eq_true, Bool.and_eq_false_imp, Bool.or_eq_true, Bool.or_eq_false_iff, Bool.not_eq_true, Int.not_lt, Int.not_le, ge_iff_le, gt_iff_lt] at h2)
      refine cFalse (by kernel_rfl) ?_
      refine cSkip ?_
      refine kSeq ?_
      refine cSeq ?_
      refine cReg ?_
      refine segEnd [0, 1, 4, 5, 6, 11, 13, 16, 19] (T1 := (mkT 20 [(0, .int .i64 a), (1, .int .i64 b), (4, .int .i64 0), (5, .bool false), (6, .bool false), (11, .bool false), (13, .bool false), (16, .bool false), (19, .bool false)])) (H1 := []) (by kernel_rfl) ?_
      refine kSeq ?_
      refine cRet ?_
      exact endQ (Or.inr rfl) (l := [.int .i64 0]) [] (by kernel_rfl) (congrArg (Value.int .i64) (by unfold cmpI; repeat' split <;> omega)) rfl rfl hcl rfl
    ·
      (try simp only [Bool.not_eq_true', Bool.not_eq_false', decide_eq_true_eq, decide_eq_false_iff_not, beq_iff_eq, bne_iff_ne, beq_eq_false_iff_ne, bne_eq_false_iff_eq, ne_eq, Decidable.not_not, Bool.and_eq_true, Bool.and_eq_false_imp, Bool.or_eq_true, Bool.or_eq_false_iff, Bool.not_eq_true, Int.not_lt, Int.not_le, ge_iff_le, gt_iff_lt] at h2)
      refine cTrue (by kernel_rfl) ?_
      refine cSeq ?_
      refine cReg ?_
      refine segEnd [0, 1, 4, 5, 6, 11, 13, 16, 19] (T1 := (mkT 20 [(0, .int .i64 a), (1, .int .i64 b), (4, .int .i64 1), (5, .bool false), (6, .bool false), (11, .bool false), (13, .bool false), (16, .bool false), (19, .bool true)])) (H1 := []) (by kernel_rfl) ?_
      refine kSeq ?_
      refine cRet ?_
      refine kSeqR ?_
      exact endQ (Or.inr rfl) (l := [.int .i64 1]) [] (by kernel_rfl) (congrArg (Value.int .i64) (by unfold cmpI; repeat' split <;> omega)) rfl rfl hcl rfl
  ·
    (try simp only [Bool.not_eq_true', Bool.not_eq_false', decide_eq_true_eq, decide_eq_false_iff_not, beq_iff_eq, bne_iff_ne, beq_eq_false_iff_ne, bne_eq_false_iff_eq, ne_eq, Decidable.not_not, Bool.and_eq_true, Bool.and_eq_false_imp, Bool.or_eq_true, Bool.or_eq_false_iff, Bool.not_eq_true, Int.not_lt, Int.not_le, ge_iff_le, gt_iff_lt] at h1)
    refine cTrue (by kernel_rfl) ?_
    refine cSeq ?_
    refine cReg ?_
    refine segEnd [0, 1, 4, 5, 6, 11, 13, 16] (T1 := (mkT 20 [(0, .int .i64 a), (1, .int .i64 b), (4, .int .i64 (-1)), (5, .bool false), (6, .bool false), (11, .bool false), (13, .bool false), (16, .bool true)])) (H1 := []) (by kernel_rfl) ?_
    refine kSeq ?_
    refine cRet ?_
    refine kSeqR ?_
    exact endQ (Or.inr rfl) (l := [.int .i64 (-1)]) [] (by kernel_rfl) (congrArg (Value.int .i64) (by unfold cmpI; repeat' split <;> omega)) rfl rfl hcl rfl

set_option maxRecDepth 100000 in
set_option maxHeartbeats 4000000 in
theorem compare_ok (a b c x y z : Int) : Sound Try.prog 106 [.slice (some ⟨0, 0, none⟩) 3 0, .slice (some ⟨1, 0, none⟩) 3 0] [some ⟨[.int .i64 a, .int .i64 b, .int .i64 c], 25, true, false⟩, some ⟨[.int .i64 x, .int .i64 y, .int .i64 z], 25, true, false⟩] (.int .i64 (lexC a b c x y z)) [some ⟨[.int .i64 a, .int .i64 b, .int .i64 c], 25, true, false⟩, some ⟨[.int .i64 x, .int .i64 y, .int .i64 z], 25, true, false⟩] := by
  refine sound_intro (C := cx) Try.func106 rfl (by kernel_rfl) fun hcl => ?_
  refine cSeq ?_
  refine cReg ?_
  refine segEnd [0, 1, 4] (T1 := (mkT 36 [(0, .slice (some ⟨0, 0, none⟩) 3 0), (1, .slice (some ⟨1, 0, none⟩) 3 0), (4, .int .i64 0)])) (H1 := [some ⟨[.int .i64 a, .int .i64 b, .int .i64 c], 25, true, false⟩, some ⟨[.int .i64 x, .int .i64 y, .int .i64 z], 25, true, false⟩]) (by kernel_rfl) ?_
  refine kSeq ?_
  refine cSeq ?_
  refine cSeq ?_
  refine cReg ?_
  refine segEnd [0, 1, 4, 9, 10, 11] (T1 := (mkT 36 [(0, .slice (some ⟨0, 0, none⟩) 3 0), (1, .slice (some ⟨1, 0, none⟩) 3 0), (4, .int .i64 0), (9, .slice (some ⟨0, 0, none⟩) 3 0), (10, .int .i64 3), (11, .int .i64 0)])) (H1 := [some ⟨[.int .i64 a, .int .i64 b, .int .i64 c], 25, true, false⟩, some ⟨[.int .i64 x, .int .i64 y, .int .i64 z], 25, true, false⟩]) (by kernel_rfl) ?_
  refine kSeq ?_
  refine cBlk ?_
  -- loop
  refine cLoop (fun mm T H => ∃ i : Nat, (i ≤ 3) ∧ ((1 ≤ i → cmpI a x = 0) ∧ (2 ≤ i → cmpI b y = 0) ∧ (3 ≤ i → cmpI c z = 0)) ∧ mm = 3 - i ∧ T = (mkT 36 [(0, .slice (some ⟨0, 0, none⟩) 3 0), (1, .slice (some ⟨1, 0, none⟩) 3 0), (4, .int .i64 0), (9, .slice (some ⟨0, 0, none⟩) 3 0), (10, .int .i64 3), (11, .int .i64 ((i : Nat) : Int))]) ∧ H = [some ⟨[.int .i64 a, .int .i64 b, .int .i64 c], 25, true, false⟩, some ⟨[.int .i64 x, .int .i64 y, .int .i64 z], 25, true, false⟩]) (3 - 0) (mkT 36 [(0, .slice (some ⟨0, 0, none⟩) 3 0), (1, .slice (some ⟨1, 0, none⟩) 3 0), (4, .int .i64 0), (9, .slice (some ⟨0, 0, none⟩) 3 0), (10, .int .i64 3), (11, .int .i64 0)]) [some ⟨[.int .i64 a, .int .i64 b, .int .i64 c], 25, true, false⟩, some ⟨[.int .i64 x, .int .i64 y, .int .i64 z], 25, true, false⟩] (wkSame [0, 1, 4, 9, 10, 11] (by kernel_rfl)) ?_ ?_
  · exact ⟨0, (Nat.zero_le _), (by omega), rfl, rfl, rfl⟩
  · rintro _ _ _ ⟨i, hi, he, rfl, rfl, rfl⟩
    have hcase : i = 0 ∨ i = 1 ∨ i = 2 ∨ i = 3 := by omega
    rcases hcase with rfl | rfl | rfl | rfl
    ·
      refine cSeq ?_
      refine cReg ?_
      refine segEnd [0, 1, 4, 9, 10, 11, 12] (T1 := (mkT 36 [(0, .slice (some ⟨0, 0, none⟩) 3 0), (1, .slice (some ⟨1, 0, none⟩) 3 0), (4, .int .i64 0), (9, .slice (some ⟨0, 0, none⟩) 3 0), (10, .int .i64 3), (11, .int .i64 0), (12, .bool true)])) (H1 := [some ⟨[.int .i64 a, .int .i64 b, .int .i64 c], 25, true, false⟩, some ⟨[.int .i64 x, .int .i64 y, .int .i64 z], 25, true, false⟩]) (by kernel_rfl) ?_
      refine kSeq ?_
      refine cSeq ?_
      refine cTrue (by kernel_rfl) ?_
      refine cSkip ?_
      refine kSeq ?_
      refine cSeq ?_
      refine cBlk ?_
      refine cSeq ?_
      refine cReg ?_
      refine segEnd [0, 1, 4, 5, 6, 9, 10, 11, 12] (T1 := (mkT 36 [(0, .slice (some ⟨0, 0, none⟩) 3 0), (1, .slice (some ⟨1, 0, none⟩) 3 0), (4, .int .i64 0), (5, .int .i64 0), (6, .int .i64 a), (9, .slice (some ⟨0, 0, none⟩) 3 0), (10, .int .i64 3), (11, .int .i64 0), (12, .bool true)])) (H1 := [some ⟨[.int .i64 a, .int .i64 b, .int .i64 c], 25, true, false⟩, some ⟨[.int .i64 x, .int .i64 y, .int .i64 z], 25, true, false⟩]) (by kernel_rfl) ?_
      refine kSeq ?_
      refine cSeq ?_
      refine cSeq ?_
      refine cReg ?_
      refine segEnd [0, 1, 4, 5, 6, 9, 10, 11, 12, 19] (T1 := (mkT 36 [(0, .slice (some ⟨0, 0, none⟩) 3 0), (1, .slice (some ⟨1, 0, none⟩) 3 0), (4, .int .i64 0), (5, .int .i64 0), (6, .int .i64 a), (9, .slice (some ⟨0, 0, none⟩) 3 0), (10, .int .i64 3), (11, .int .i64 0), (12, .bool true), (19, .bool false)])) (H1 := [some ⟨[.int .i64 a, .int .i64 b, .int .i64 c], 25, true, false⟩, some ⟨[.int .i64 x, .int .i64 y, .int .i64 z], 25, true, false⟩]) (by kernel_rfl) ?_
      refine kSeq ?_
      refine cFalse (by kernel_rfl) ?_
      refine cSkip ?_
      refine kSeq ?_
      refine cSeq ?_
      refine cReg ?_
      refine segEnd [0, 1, 4, 5, 6, 7, 9, 10, 11, 12, 19] (T1 := (mkT 36 [(0, .slice (some ⟨0, 0, none⟩) 3 0), (1, .slice (some ⟨1, 0, none⟩) 3 0), (4, .int .i64 0), (5, .int .i64 0), (6, .int .i64 a), (7, .int .i64 x), (9, .slice (some ⟨0, 0, none⟩) 3 0), (10, .int .i64 3), (11, .int .i64 0), (12, .bool true), (19, .bool false)])) (H1 := [some ⟨[.int .i64 a, .int .i64 b, .int .i64 c], 25, true, false⟩, some ⟨[.int .i64 x, .int .i64 y, .int .i64 z], 25, true, false⟩]) (by kernel_rfl) ?_
      refine kSeq ?_
      refine cSeq ?_
      refine cReg ?_
      refine seg 2 (T1 := (mkT 36 [(0, .slice (some ⟨0, 0, none⟩) 3 0), (1, .slice (some ⟨1, 0, none⟩) 3 0), (4, .int .i64 0), (5, .int .i64 0), (6, .int .i64 a), (7, .int .i64 x), (9, .slice (some ⟨0, 0, none⟩) 3 0), (10, .int .i64 3), (11, .int .i64 0), (12, .bool true), (19, .bool false), (24, .int .i64 a), (25, .int .i64 x)])) (H1 := [some ⟨[.int .i64 a, .int .i64 b, .int .i64 c], 25, true, false⟩, some ⟨[.int .i64 x, .int .i64 y, .int .i64 z], 25, true, false⟩]) (by kernel_rfl) ?_
      refine rCall (v := .int .i64 (cmpI a x)) (H' := [some ⟨[.int .i64 a, .int .i64 b, .int .i64 c], 25, true, false⟩, some ⟨[.int .i64 x, .int .i64 y, .int .i64 z], 25, true, false⟩]) (args := [.int .i64 a, .int .i64 x]) (by kernel_rfl) rfl (by kernel_rfl) ((cmp_ok a x).flat rfl rfl _) ?_
      refine segEnd [0, 1, 4, 5, 6, 7, 8, 9, 10, 11, 12, 19] (T1 := (mkT 36 [(0, .slice (some ⟨0, 0, none⟩) 3 0), (1, .slice (some ⟨1, 0, none⟩) 3 0), (4, .int .i64 0), (5, .int .i64 0), (6, .int .i64 a), (7, .int .i64 x), (8, .int .i64 (cmpI a x)), (9, .slice (some ⟨0, 0, none⟩) 3 0), (10, .int .i64 3), (11, .int .i64 0), (12, .bool true), (19, .bool false)])) (H1 := [some ⟨[.int .i64 a, .int .i64 b, .int .i64 c], 25, true, false⟩, some ⟨[.int .i64 x, .int .i64 y, .int .i64 z], 25, true, false⟩]) (by kernel_rfl) ?_
      refine kSeq ?_
      refine cSeq ?_
      refine cReg ?_
      refine segEnd [0, 1, 4, 5, 6, 7, 8, 9, 10, 11, 12, 19, 28] (T1 := (mkT 36 [(0, .slice (some ⟨0, 0, none⟩) 3 0), (1, .slice (some ⟨1, 0, none⟩) 3 0), (4, .int .i64 0), (5, .int .i64 0), (6, .int .i64 a), (7, .int .i64 x), (8, .int .i64 (cmpI a x)), (9, .slice (some ⟨0, 0, none⟩) 3 0), (10, .int .i64 3), (11, .int .i64 0), (12, .bool true), (19, .bool false), (28, .bool (cmpI a x != 0))])) (H1 := [some ⟨[.int .i64 a, .int .i64 b, .int .i64 c], 25, true, false⟩, some ⟨[.int .i64 x, .int .i64 y, .int .i64 z], 25, true, false⟩]) (by kernel_rfl) ?_
      refine kSeq ?_
      cases h1 : ((cmpI a x != 0) : Bool)
      ·
        (try simp only [Bool.not_eq_true', Bool.not_eq_false', decide_eq_true_eq, decide_eq_false_iff_not, beq_iff_eq, bne_iff_ne, beq_eq_false_iff_ne, bne_eq_false_iff_eq, ne_eq, Decidable.not_not, Bool.and_eq_true, Bool.and_eq_false_imp, Bool.or_eq_true, Bool.or_eq_false_iff, Bool.not_eq_true, Int.not_lt, Int.not_le, ge_iff_le, gt_iff_lt] at h1)
        refine cFalse (by kernel_rfl) ?_
        refine cSkip ?_
        refine kBlk ?_
        refine kSeq ?_
        refine cReg ?_
        refine segEnd [0, 1, 4, 5, 6, 7, 8, 9, 10, 11, 12, 19, 28] (T1 := (mkT 36 [(0, .slice (some ⟨0, 0, none⟩) 3 0), (1, .slice (some ⟨1, 0, none⟩) 3 0), (4, .int .i64 0), (5, .int .i64 0), (6, .int .i64 a), (7, .int .i64 x), (8, .int .i64 (cmpI a x)), (9, .slice (some ⟨0, 0, none⟩) 3 0), (10, .int .i64 3), (11, .int .i64 1), (12, .bool true), (19, .bool false), (28, .bool false)])) (H1 := [some ⟨[.int .i64 a, .int .i64 b, .int .i64 c], 25, true, false⟩, some ⟨[.int .i64 x, .int .i64 y, .int .i64 z], 25, true, false⟩]) (by kernel_rfl) ?_
        exact kLoop (3 - 1) (mkT 36 [(0, .slice (some ⟨0, 0, none⟩) 3 0), (1, .slice (some ⟨1, 0, none⟩) 3 0), (4, .int .i64 0), (9, .slice (some ⟨0, 0, none⟩) 3 0), (10, .int .i64 3), (11, .int .i64 1)]) [some ⟨[.int .i64 a, .int .i64 b, .int .i64 c], 25, true, false⟩, some ⟨[.int .i64 x, .int .i64 y, .int .i64 z], 25, true, false⟩] (by omega) (wkSame [0, 1, 4, 9, 10, 11] (by kernel_rfl)) ⟨1, (by omega), (by omega), rfl, rfl, rfl⟩
      ·
        (try simp only [Bool.not_eq_true', Bool.not_eq_false', decide_eq_true_eq, decide_eq_false_iff_not, beq_iff_eq, bne_iff_ne, beq_eq_false_iff_ne, bne_eq_false_iff_eq, ne_eq, Decidable.not_not, Bool.and_eq_true, Bool.and_eq_false_imp, Bool.or_eq_true, Bool.or_eq_false_iff, Bool.not_eq_true, Int.not_lt, Int.not_le, ge_iff_le, gt_iff_lt] at h1)
        refine cTrue (by kernel_rfl) ?_
        refine cSeq ?_
        refine cReg ?_
        refine segEnd [0, 1, 4, 5, 6, 7, 8, 9, 10, 11, 12, 19, 28] (T1 := (mkT 36 [(0, .slice (some ⟨0, 0, none⟩) 3 0), (1, .slice (some ⟨1, 0, none⟩) 3 0), (4, .int .i64 (cmpI a x)), (5, .int .i64 0), (6, .int .i64 a), (7, .int .i64 x), (8, .int .i64 (cmpI a x)), (9, .slice (some ⟨0, 0, none⟩) 3 0), (10, .int .i64 3), (11, .int .i64 0), (12, .bool true), (19, .bool false), (28, .bool true)])) (H1 := [some ⟨[.int .i64 a, .int .i64 b, .int .i64 c], 25, true, false⟩, some ⟨[.int .i64 x, .int .i64 y, .int .i64 z], 25, true, false⟩]) (by kernel_rfl) ?_
        refine kSeq ?_
        refine cRet ?_
        refine kBlkR ?_
        refine kSeqR ?_
        refine kLoopR ?_
        refine kBlkR ?_
        refine kSeqR ?_
        exact endQ (Or.inr rfl) (l := [.int .i64 (cmpI a x)]) [] (by kernel_rfl) (congrArg (Value.int .i64) (by unfold lexC; repeat' split <;> omega)) rfl rfl hcl rfl
    ·
      refine cSeq ?_
      refine cReg ?_
      refine segEnd [0, 1, 4, 9, 10, 11, 12] (T1 := (mkT 36 [(0, .slice (some ⟨0, 0, none⟩) 3 0), (1, .slice (some ⟨1, 0, none⟩) 3 0), (4, .int .i64 0), (9, .slice (some ⟨0, 0, none⟩) 3 0), (10, .int .i64 3), (11, .int .i64 1), (12, .bool true)])) (H1 := [some ⟨[.int .i64 a, .int .i64 b, .int .i64 c], 25, true, false⟩, some ⟨[.int .i64 x, .int .i64 y, .int .i64 z], 25, true, false⟩]) (by kernel_rfl) ?_
      refine kSeq ?_
      refine cSeq ?_
      refine cTrue (by kernel_rfl) ?_
      refine cSkip ?_
      refine kSeq ?_
      refine cSeq ?_
      refine cBlk ?_
      refine cSeq ?_
      refine cReg ?_
      refine segEnd [0, 1, 4, 5, 6, 9, 10, 11, 12] (T1 := (mkT 36 [(0, .slice (some ⟨0, 0, none⟩) 3 0), (1, .slice (some ⟨1, 0, none⟩) 3 0), (4, .int .i64 0), (5, .int .i64 1), (6, .int .i64 b), (9, .slice (some ⟨0, 0, none⟩) 3 0), (10, .int .i64 3), (11, .int .i64 1), (12, .bool true)])) (H1 := [some ⟨[.int .i64 a, .int .i64 b, .int .i64 c], 25, true, false⟩, some ⟨[.int .i64 x, .int .i64 y, .int .i64 z], 25, true, false⟩]) (by kernel_rfl) ?_
      refine kSeq ?_
      refine cSeq ?_
      refine cSeq ?_
      refine cReg ?_
      refine segEnd [0, 1, 4, 5, 6, 9, 10, 11, 12, 19] (T1 := (mkT 36 [(0, .slice (some ⟨0, 0, none⟩) 3 0), (1, .slice (some ⟨1, 0, none⟩) 3 0), (4, .int .i64 0), (5, .int .i64 1), (6, .int .i64 b), (9, .slice (some ⟨0, 0, none⟩) 3 0), (10, .int .i64 3), (11, .int .i64 1), (12, .bool true), (19, .bool false)])) (H1 := [some ⟨[.int .i64 a, .int .i64 b, .int .i64 c], 25, true, false⟩, some ⟨[.int .i64 x, .int .i64 y, .int .i64 z], 25, true, false⟩]) (by kernel_rfl) ?_
      refine kSeq ?_
      refine cFalse (by kernel_rfl) ?_
      refine cSkip ?_
      refine kSeq ?_
      refine cSeq ?_
      refine cReg ?_
      refine segEnd [0, 1, 4, 5, 6, 7, 9, 10, 11, 12, 19] (T1 := (mkT 36 [(0, .slice (some ⟨0, 0, none⟩) 3 0), (1, .slice (some ⟨1, 0, none⟩) 3 0), (4, .int .i64 0), (5, .int .i64 1), (6, .int .i64 b), (7, .int .i64 y), (9, .slice (some ⟨0, 0, none⟩) 3 0), (10, .int .i64 3), (11, .int .i64 1), (12, .bool true), (19, .bool false)])) (H1 := [some ⟨[.int .i64 a, .int .i64 b, .int .i64 c], 25, true, false⟩, some ⟨[.int .i64 x, .int .i64 y, .int .i64 z], 25, true, false⟩]) (by kernel_rfl) ?_
      refine kSeq ?_
      refine cSeq ?_
      refine cReg ?_
      refine seg 2 (T1 := (mkT 36 [(0, .slice (some ⟨0, 0, none⟩) 3 0), (1, .slice (some ⟨1, 0, none⟩) 3 0), (4, .int .i64 0), (5, .int .i64 1), (6, .int .i64 b), (7, .int .i64 y), (9, .slice (some ⟨0, 0, none⟩) 3 0), (10, .int .i64 3), (11, .int .i64 1), (12, .bool true), (19, .bool false), (24, .int .i64 b), (25, .int .i64 y)])) (H1 := [some ⟨[.int .i64 a, .int .i64 b, .int .i64 c], 25, true, false⟩, some ⟨[.int .i64 x, .int .i64 y, .int .i64 z], 25, true, false⟩]) (by kernel_rfl) ?_
      refine rCall (v := .int .i64 (cmpI b y)) (H' := [some ⟨[.int .i64 a, .int .i64 b, .int .i64 c], 25, true, false⟩, some ⟨[.int .i64 x, .int .i64 y, .int .i64 z], 25, true, false⟩]) (args := [.int .i64 b, .int .i64 y]) (by kernel_rfl) rfl (by kernel_rfl) ((cmp_ok b y).flat rfl rfl _) ?_
      refine segEnd [0, 1, 4, 5, 6, 7, 8, 9, 10, 11, 12, 19] (T1 := (mkT 36 [(0, .slice (some ⟨0, 0, none⟩) 3 0), (1, .slice (some ⟨1, 0, none⟩) 3 0), (4, .int .i64 0), (5, .int .i64 1), (6, .int .i64 b), (7, .int .i64 y), (8, .int .i64 (cmpI b y)), (9, .slice (some ⟨0, 0, none⟩) 3 0), (10, .int .i64 3), (11, .int .i64 1), (12, .bool true), (19, .bool false)])) (H1 := [some ⟨[.int .i64 a, .int .i64 b, .int .i64 c], 25, true, false⟩, some ⟨[.int .i64 x, .int .i64 y, .int .i64 z], 25, true, false⟩]) (by kernel_rfl) ?_
      refine kSeq ?_
      refine cSeq ?_
      refine cReg ?_
      refine segEnd [0, 1, 4, 5, 6, 7, 8, 9, 10, 11, 12, 19, 28] (T1 := (mkT 36 [(0, .slice (some ⟨0, 0, none⟩) 3 0), (1, .slice (some ⟨1, 0, none⟩) 3 0), (4, .int .i64 0), (5, .int .i64 1), (6, .int .i64 b), (7, .int .i64 y), (8, .int .i64 (cmpI b y)), (9, .slice (some ⟨0, 0, none⟩) 3 0), (10, .int .i64 3), (11, .int .i64 1), (12, .bool true), (19, .bool false), (28, .bool (cmpI b y != 0))])) (H1 := [some ⟨[.int .i64 a, .int .i64 b, .int .i64 c], 25, true, false⟩, some ⟨[.int .i64 x, .int .i64 y, .int .i64 z], 25, true, false⟩]) (by kernel_rfl) ?_
      refine kSeq ?_
      cases h2 : ((cmpI b y != 0) : Bool)
      ·
        (try simp only [Bool.not_eq_true', Bool.not_eq_false', decide_eq_true_eq, decide_eq_false_iff_not, beq_iff_eq, bne_iff_ne, beq_eq_false_iff_ne, bne_eq_false_iff_eq, ne_eq, Decidable.not_not, Bool.and_eq_true, Bool.and_eq_false_imp, Bool.or_eq_true, Bool.or_eq_false_iff, Bool.not_eq_true, Int.not_lt, Int.not_le, ge_iff_le, gt_iff_lt] at h2)
        refine cFalse (by kernel_rfl) ?_
        refine cSkip ?_
        refine kBlk ?_
        refine kSeq ?_
        refine cReg ?_
        refine segEnd [0, 1, 4, 5, 6, 7, 8, 9, 10, 11, 12, 19, 28] (T1 := (mkT 36 [(0, .slice (some ⟨0, 0, none⟩) 3 0), (1, .slice (some ⟨1, 0, none⟩) 3 0), (4, .int .i64 0), (5, .int .i64 1), (6, .int .i64 b), (7, .int .i64 y), (8, .int .i64 (cmpI b y)), (9, .slice (some ⟨0, 0, none⟩) 3 0), (10, .int .i64 3), (11, .int .i64 2), (12, .bool true), (19, .bool false), (28, .bool false)])) (H1 := [some ⟨[.int .i64 a, .int .i64 b, .int .i64 c], 25, true, false⟩, some ⟨[.int .i64 x, .int .i64 y, .int .i64 z], 25, true, false⟩]) (by kernel_rfl) ?_
        exact kLoop (3 - 2) (mkT 36 [(0, .slice (some ⟨0, 0, none⟩) 3 0), (1, .slice (some ⟨1, 0, none⟩) 3 0), (4, .int .i64 0), (9, .slice (some ⟨0, 0, none⟩) 3 0), (10, .int .i64 3), (11, .int .i64 2)]) [some ⟨[.int .i64 a, .int .i64 b, .int .i64 c], 25, true, false⟩, some ⟨[.int .i64 x, .int .i64 y, .int .i64 z], 25, true, false⟩] (by omega) (wkSame [0, 1, 4, 9, 10, 11] (by kernel_rfl)) ⟨2, (by omega), (by omega), rfl, rfl, rfl⟩
      ·
        (try simp only [Bool.not_eq_true', Bool.not_eq_false', decide_eq_true_eq, decide_eq_false_iff_not, beq_iff_eq, bne_iff_ne, beq_eq_false_iff_ne, bne_eq_false_iff_eq, ne_eq, Decidable.not_not, Bool.and_eq_true, Bool.and_eq_false_imp, Bool.or_eq_true, Bool.or_eq_false_iff, Bool.not_eq_true, Int.not_lt, Int.not_le, ge_iff_le, gt_iff_lt] at h2)
        refine cTrue (by kernel_rfl) ?_
        refine cSeq ?_
        refine cReg ?_
        refine segEnd [0, 1, 4, 5, 6, 7, 8, 9, 10, 11, 12, 19, 28] (T1 := (mkT 36 [(0, .slice (some ⟨0, 0, none⟩) 3 0), (1, .slice (some ⟨1, 0, none⟩) 3 0), (4, .int .i64 (cmpI b y)), (5, .int .i64 1), (6, .int .i64 b), (7, .int .i64 y), (8, .int .i64 (cmpI b y)), (9, .slice (some ⟨0, 0, none⟩) 3 0), (10, .int .i64 3), (11, .int .i64 1), (12, .bool true), (19, .bool false), (28, .bool true)])) (H1 := [some ⟨[.int .i64 a, .int .i64 b, .int .i64 c], 25, true, false⟩, some ⟨[.int .i64 x, .int .i64 y, .int .i64 z], 25, true, false⟩]) (by kernel_rfl) ?_
        refine kSeq ?_
        refine cRet ?_
        refine kBlkR ?_
        refine kSeqR ?_
        refine kLoopR ?_
        refine kBlkR ?_
        refine kSeqR ?_
        exact endQ (Or.inr rfl) (l := [.int .i64 (cmpI b y)]) [] (by kernel_rfl) (congrArg (Value.int .i64) (by unfold lexC; repeat' split <;> omega)) rfl rfl hcl rfl
    ·
      refine cSeq ?_
      refine cReg ?_
      refine segEnd [0, 1, 4, 9, 10, 11, 12] (T1 := (mkT 36 [(0, .slice (some ⟨0, 0, none⟩) 3 0), (1, .slice (some ⟨1, 0, none⟩) 3 0), (4, .int .i64 0), (9, .slice (some ⟨0, 0, none⟩) 3 0), (10, .int .i64 3), (11, .int .i64 2), (12, .bool true)])) (H1 := [some ⟨[.int .i64 a, .int .i64 b, .int .i64 c], 25, true, false⟩, some ⟨[.int .i64 x, .int .i64 y, .int .i64 z], 25, true, false⟩]) (by kernel_rfl) ?_
      refine kSeq ?_
      refine cSeq ?_
      refine cTrue (by kernel_rfl) ?_
      refine cSkip ?_
      refine kSeq ?_
      refine cSeq ?_
      refine cBlk ?_
      refine cSeq ?_
      refine cReg ?_
      refine segEnd [0, 1, 4, 5, 6, 9, 10, 11, 12] (T1 := (mkT 36 [(0, .slice (some ⟨0, 0, none⟩) 3 0), (1, .slice (some ⟨1, 0, none⟩) 3 0), (4, .int .i64 0), (5, .int .i64 2), (6, .int .i64 c), (9, .slice (some ⟨0, 0, none⟩) 3 0), (10, .int .i64 3), (11, .int .i64 2), (12, .bool true)])) (H1 := [some ⟨[.int .i64 a, .int .i64 b, .int .i64 c], 25, true, false⟩, some ⟨[.int .i64 x, .int .i64 y, .int .i64 z], 25, true, false⟩]) (by kernel_rfl) ?_
      refine kSeq ?_
      refine cSeq ?_
      refine cSeq ?_
      refine cReg ?_
      refine segEnd [0, 1, 4, 5, 6, 9, 10, 11, 12, 19] (T1 := (mkT 36 [(0, .slice (some ⟨0, 0, none⟩) 3 0), (1, .slice (some ⟨1, 0, none⟩) 3 0), (4, .int .i64 0), (5, .int .i64 2), (6, .int .i64 c), (9, .slice (some ⟨0, 0, none⟩) 3 0), (10, .int .i64 3), (11, .int .i64 2), (12, .bool true), (19, .bool false)])) (H1 := [some ⟨[.int .i64 a, .int .i64 b, .int .i64 c], 25, true, false⟩, some ⟨[.int .i64 x, .int .i64 y, .int .i64 z], 25, true, false⟩]) (by kernel_rfl) ?_
      refine kSeq ?_
      refine cFalse (by kernel_rfl) ?_
      refine cSkip ?_
      refine kSeq ?_
      refine cSeq ?_
      refine cReg ?_
      refine segEnd [0, 1, 4, 5, 6, 7, 9, 10, 11, 12, 19] (T1 := (mkT 36 [(0, .slice (some ⟨0, 0, none⟩) 3 0), (1, .slice (some ⟨1, 0, none⟩) 3 0), (4, .int .i64 0), (5, .int .i64 2), (6, .int .i64 c), (7, .int .i64 z), (9, .slice (some ⟨0, 0, none⟩) 3 0), (10, .int .i64 3), (11, .int .i64 2), (12, .bool true), (19, .bool false)])) (H1 := [some ⟨[.int .i64 a, .int .i64 b, .int .i64 c], 25, true, false⟩, some ⟨[.int .i64 x, .int .i64 y, .int .i64 z], 25, true, false⟩]) (by kernel_rfl) ?_
      refine kSeq ?_
      refine cSeq ?_
      refine cReg ?_
      refine seg 2 (T1 := (mkT 36 [(0, .slice (some ⟨0, 0, none⟩) 3 0), (1, .slice (some ⟨1, 0, none⟩) 3 0), (4, .int .i64 0), (5, .int .i64 2), (6, .int .i64 c), (7, .int .i64 z), (9, .slice (some ⟨0, 0, none⟩) 3 0), (10, .int .i64 3), (11, .int .i64 2), (12, .bool true), (19, .bool false), (24, .int .i64 c), (25, .int .i64 z)])) (H1 := [some ⟨[.int .i64 a, .int .i64 b, .int .i64 c], 25, true, false⟩, some ⟨[.int .i64 x, .int .i64 y, .int .i64 z], 25, true, false⟩]) (by kernel_rfl) ?_
      refine rCall (v := .int .i64 (cmpI c z)) (H' := [some ⟨[.int .i64 a, .int .i64 b, .int .i64 c], 25, true, false⟩, some ⟨[.int .i64 x, .int .i64 y, .int .i64 z], 25, true, false⟩]) (args := [.int .i64 c, .int .i64 z]) (by kernel_rfl) rfl (by kernel_rfl) ((cmp_ok c z).flat rfl rfl _) ?_
      refine segEnd [0, 1, 4, 5, 6, 7, 8, 9, 10, 11, 12, 19] (T1 := (mkT 36 [(0, .slice (some ⟨0, 0, none⟩) 3 0), (1, .slice (some ⟨1, 0, none⟩) 3 0), (4, .int .i64 0), (5, .int .i64 2), (6, .int .i64 c), (7, .int .i64 z), (8, .int .i64 (cmpI c z)), (9, .slice (some ⟨0, 0, none⟩) 3 0), (10, .int .i64 3), (11, .int .i64 2), (12, .bool true), (19, .bool false)])) (H1 := [some ⟨[.int .i64 a, .int .i64 b, .int .i64 c], 25, true, false⟩, some ⟨[.int .i64 x, .int .i64 y, .int .i64 z], 25, true, false⟩]) (by kernel_rfl) ?_
      refine kSeq ?_
      refine cSeq ?_
      refine cReg ?_
      refine segEnd [0, 1, 4, 5, 6, 7, 8, 9, 10, 11, 12, 19, 28] (T1 := (mkT 36 [(0, .slice (some ⟨0, 0, none⟩) 3 0), (1, .slice (some ⟨1, 0, none⟩) 3 0), (4, .int .i64 0), (5, .int .i64 2), (6, .int .i64 c), (7, .int .i64 z), (8, .int .i64 (cmpI c z)), (9, .slice (some ⟨0, 0, none⟩) 3 0), (10, .int .i64 3), (11, .int .i64 2), (12, .bool true), (19, .bool false), (28, .bool (cmpI c z != 0))])) (H1 := [some ⟨[.int .i64 a, .int .i64 b, .int .i64 c], 25, true, false⟩, some ⟨[.int .i64 x, .int .i64 y, .int .i64 z], 25, true, false⟩]) (by kernel_rfl) ?_
      refine kSeq ?_
      cases h3 : ((cmpI c z != 0) : Bool)
      ·
        (try simp only [Bool.not_eq_true', Bool.not_eq_false', decide_eq_true_eq, decide_eq_false_iff_not, beq_iff_eq, bne_iff_ne, beq_eq_false_iff_ne, bne_eq_false_iff_eq, ne_eq, Decidable.not_not, Bool.and_eq_true, Bool.and_eq_false_imp, Bool.or_eq_true, Bool.or_eq_false_iff, Bool.not_eq_true, Int.not_lt, Int.not_le, ge_iff_le, gt_iff_lt] at h3)
        refine cFalse (by kernel_rfl) ?_
        refine cSkip ?_
        refine kBlk ?_
        refine kSeq ?_
        refine cReg ?_
        refine segEnd [0, 1, 4, 5, 6, 7, 8, 9, 10, 11, 12, 19, 28] (T1 := (mkT 36 [(0, .slice (some ⟨0, 0, none⟩) 3 0), (1, .slice (some ⟨1, 0, none⟩) 3 0), (4, .int .i64 0), (5, .int .i64 2), (6, .int .i64 c), (7, .int .i64 z), (8, .int .i64 (cmpI c z)), (9, .slice (some ⟨0, 0, none⟩) 3 0), (10, .int .i64 3), (11, .int .i64 3), (12, .bool true), (19, .bool false), (28, .bool false)])) (H1 := [some ⟨[.int .i64 a, .int .i64 b, .int .i64 c], 25, true, false⟩, some ⟨[.int .i64 x, .int .i64 y, .int .i64 z], 25, true, false⟩]) (by kernel_rfl) ?_
        exact kLoop (3 - 3) (mkT 36 [(0, .slice (some ⟨0, 0, none⟩) 3 0), (1, .slice (some ⟨1, 0, none⟩) 3 0), (4, .int .i64 0), (9, .slice (some ⟨0, 0, none⟩) 3 0), (10, .int .i64 3), (11, .int .i64 3)]) [some ⟨[.int .i64 a, .int .i64 b, .int .i64 c], 25, true, false⟩, some ⟨[.int .i64 x, .int .i64 y, .int .i64 z], 25, true, false⟩] (by omega) (wkSame [0, 1, 4, 9, 10, 11] (by kernel_rfl)) ⟨3, (by omega), (by omega), rfl, rfl, rfl⟩
      ·
        (try simp only [Bool.not_eq_true', Bool.not_eq_false', decide_eq_true_eq, decide_eq_false_iff_not, beq_iff_eq, bne_iff_ne, beq_eq_false_iff_ne, bne_eq_false_iff_eq, ne_eq, Decidable.not_not, Bool.and_eq_true, Bool.and_eq_false_imp, Bool.or_eq_true, Bool.or_eq_false_iff, Bool.not_eq_true, Int.not_lt, Int.not_le, ge_iff_le, gt_iff_lt] at h3)
        refine cTrue (by kernel_rfl) ?_
        refine cSeq ?_
        refine cReg ?_
        refine segEnd [0, 1, 4, 5, 6, 7, 8, 9, 10, 11, 12, 19, 28] (T1 := (mkT 36 [(0, .slice (some ⟨0, 0, none⟩) 3 0), (1, .slice (some ⟨1, 0, none⟩) 3 0), (4, .int .i64 (cmpI c z)), (5, .int .i64 2), (6, .int .i64 c), (7, .int .i64 z), (8, .int .i64 (cmpI c z)), (9, .slice (some ⟨0, 0, none⟩) 3 0), (10, .int .i64 3), (11, .int .i64 2), (12, .bool true), (19, .bool false), (28, .bool true)])) (H1 := [some ⟨[.int .i64 a, .int .i64 b, .int .i64 c], 25, true, false⟩, some ⟨[.int .i64 x, .int .i64 y, .int .i64 z], 25, true, false⟩]) (by kernel_rfl) ?_
        refine kSeq ?_
        refine cRet ?_
        refine kBlkR ?_
        refine kSeqR ?_
        refine kLoopR ?_
        refine kBlkR ?_
        refine kSeqR ?_
        exact endQ (Or.inr rfl) (l := [.int .i64 (cmpI c z)]) [] (by kernel_rfl) (congrArg (Value.int .i64) (by unfold lexC; repeat' split <;> omega)) rfl rfl hcl rfl
    ·
      refine cSeq ?_
      refine cReg ?_
      refine segEnd [0, 1, 4, 9, 10, 11, 12] (T1 := (mkT 36 [(0, .slice (some ⟨0, 0, none⟩) 3 0), (1, .slice (some ⟨1, 0, none⟩) 3 0), (4, .int .i64 0), (9, .slice (some ⟨0, 0, none⟩) 3 0), (10, .int .i64 3), (11, .int .i64 3), (12, .bool false)])) (H1 := [some ⟨[.int .i64 a, .int .i64 b, .int .i64 c], 25, true, false⟩, some ⟨[.int .i64 x, .int .i64 y, .int .i64 z], 25, true, false⟩]) (by kernel_rfl) ?_
      refine kSeq ?_
      refine cSeq ?_
      refine cFalse (by kernel_rfl) ?_
      refine cExit ?_
      refine kSeqE ?_
      refine kLoopE ?_
      refine kBlkHit ?_
      refine kSeq ?_
      refine cSeq ?_
      refine cSeq ?_
      refine cReg ?_
      refine segEnd [0, 1, 4, 9, 10, 11, 12, 35] (T1 := (mkT 36 [(0, .slice (some ⟨0, 0, none⟩) 3 0), (1, .slice (some ⟨1, 0, none⟩) 3 0), (4, .int .i64 0), (9, .slice (some ⟨0, 0, none⟩) 3 0), (10, .int .i64 3), (11, .int .i64 3), (12, .bool false), (35, .bool false)])) (H1 := [some ⟨[.int .i64 a, .int .i64 b, .int .i64 c], 25, true, false⟩, some ⟨[.int .i64 x, .int .i64 y, .int .i64 z], 25, true, false⟩]) (by kernel_rfl) ?_
      refine kSeq ?_
      refine cFalse (by kernel_rfl) ?_
      refine cSkip ?_
      refine kSeq ?_
      refine cSeq ?_
      refine cReg ?_
      refine segEnd [0, 1, 4, 9, 10, 11, 12, 35] (T1 := (mkT 36 [(0, .slice (some ⟨0, 0, none⟩) 3 0), (1, .slice (some ⟨1, 0, none⟩) 3 0), (4, .int .i64 0), (9, .slice (some ⟨0, 0, none⟩) 3 0), (10, .int .i64 3), (11, .int .i64 3), (12, .bool false), (35, .bool false)])) (H1 := [some ⟨[.int .i64 a, .int .i64 b, .int .i64 c], 25, true, false⟩, some ⟨[.int .i64 x, .int .i64 y, .int .i64 z], 25, true, false⟩]) (by kernel_rfl) ?_
      refine kSeq ?_
      refine cRet ?_
      exact endQ (Or.inr rfl) (l := [.int .i64 0]) [] (by kernel_rfl) (congrArg (Value.int .i64) (by unfold lexC; repeat' split <;> omega)) rfl rfl hcl rfl

set_option maxRecDepth 100000 in
set_option maxHeartbeats 4000000 in
theorem compareCells_ok (a b c x y z : Int) : Sound Try.prog 100 [.agg #[.int .i64 a, .int .i64 b, .int .i64 c], .agg #[.int .i64 x, .int .i64 y, .int .i64 z]] [] (.int .i64 (lexC a b c x y z)) [] := by
  refine sound_intro (C := cx) Try.func100 rfl (by kernel_rfl) fun hcl => ?_
  refine cSeq ?_
  refine cReg ?_
  refine segEnd [0, 1, 2, 3, 4] (T1 := (mkT 8 [(0, .agg #[.int .i64 a, .int .i64 b, .int .i64 c]), (1, .agg #[.int .i64 x, .int .i64 y, .int .i64 z]), (2, .pointer (some ⟨0, 0, none⟩)), (3, .pointer (some ⟨1, 0, none⟩)), (4, .int .i64 0)])) (H1 := [some ⟨[.int .i64 a, .int .i64 b, .int .i64 c], 25, true, true⟩, some ⟨[.int .i64 x, .int .i64 y, .int .i64 z], 25, true, true⟩]) (by kernel_rfl) ?_
  refine kSeq ?_
  refine cSeq ?_
  refine cRegD (by kernel_rfl) ?_
  refine segD 2 (T1 := (mkT 8 [(0, .agg #[.int .i64 a, .int .i64 b, .int .i64 c]), (1, .agg #[.int .i64 x, .int .i64 y, .int .i64 z]), (2, .pointer (some ⟨0, 0, none⟩)), (3, .pointer (some ⟨1, 0, none⟩)), (4, .int .i64 0), (5, .slice (some ⟨0, 0, none⟩) 3 0), (6, .slice (some ⟨1, 0, none⟩) 3 0)])) (H1 := [some ⟨[.int .i64 a, .int .i64 b, .int .i64 c], 25, true, true⟩, some ⟨[.int .i64 x, .int .i64 y, .int .i64 z], 25, true, true⟩]) (by kernel_rfl) ?_
  refine rCallQ (v := .int .i64 (lexC a b c x y z)) (args := [.slice (some ⟨0, 0, none⟩) 3 0, .slice (some ⟨1, 0, none⟩) 3 0]) (by kernel_rfl) rfl (by kernel_rfl) (by kernel_rfl) (by kernel_rfl) (Quiet.reads2 0 1 true true (compare_ok a b c x y z) (flatRow_of rfl) (flatRow_of rfl) rfl rfl rfl rfl rfl rfl rfl rfl rfl) ?_
  refine segEndD [0, 1, 2, 3, 4] (T1 := (mkT 8 [(0, .agg #[.int .i64 a, .int .i64 b, .int .i64 c]), (1, .agg #[.int .i64 x, .int .i64 y, .int .i64 z]), (2, .pointer (some ⟨0, 0, none⟩)), (3, .pointer (some ⟨1, 0, none⟩)), (4, .int .i64 (lexC a b c x y z))])) (H1 := [some ⟨[.int .i64 a, .int .i64 b, .int .i64 c], 25, true, true⟩, some ⟨[.int .i64 x, .int .i64 y, .int .i64 z], 25, true, true⟩]) (by kernel_rfl) ?_
  refine kSeq ?_
  refine cRet ?_
  exact endQ (Or.inr rfl) (l := [.int .i64 (lexC a b c x y z)]) [some ⟨[.int .i64 a, .int .i64 b, .int .i64 c], 25, true, true⟩, some ⟨[.int .i64 x, .int .i64 y, .int .i64 z], 25, true, true⟩] (by kernel_rfl) (rfl) rfl rfl hcl rfl

set_option maxRecDepth 100000 in
set_option maxHeartbeats 4000000 in
theorem l2Before_ok (a b c x y z : Int) : Sound Try.prog 95 [.agg #[.int .i64 a, .int .i64 b, .int .i64 c], .agg #[.int .i64 x, .int .i64 y, .int .i64 z]] [] (.bool (lexB a b c x y z)) [] := by
  refine sound_intro (C := cx) Try.func95 rfl (by kernel_rfl) fun hcl => ?_
  refine cSeq ?_
  refine cReg ?_
  refine segEnd [0, 1, 2, 3, 4] (T1 := (mkT 24 [(0, .agg #[.int .i64 a, .int .i64 b, .int .i64 c]), (1, .agg #[.int .i64 x, .int .i64 y, .int .i64 z]), (2, .pointer (some ⟨0, 0, none⟩)), (3, .pointer (some ⟨1, 0, none⟩)), (4, .bool false)])) (H1 := [some ⟨[.int .i64 a, .int .i64 b, .int .i64 c], 25, true, true⟩, some ⟨[.int .i64 x, .int .i64 y, .int .i64 z], 25, true, true⟩]) (by kernel_rfl) ?_
  refine kSeq ?_
  refine cSeq ?_
  refine cSeq ?_
  refine cReg ?_
  refine segEnd [0, 1, 2, 3, 4, 5] (T1 := (mkT 24 [(0, .agg #[.int .i64 a, .int .i64 b, .int .i64 c]), (1, .agg #[.int .i64 x, .int .i64 y, .int .i64 z]), (2, .pointer (some ⟨0, 0, none⟩)), (3, .pointer (some ⟨1, 0, none⟩)), (4, .bool false), (5, .int .i64 0)])) (H1 := [some ⟨[.int .i64 a, .int .i64 b, .int .i64 c], 25, true, true⟩, some ⟨[.int .i64 x, .int .i64 y, .int .i64 z], 25, true, true⟩]) (by kernel_rfl) ?_
  refine kSeq ?_
  refine cBlk ?_
  -- loop
  refine cLoop (fun mm T H => ∃ i : Nat, (i ≤ 3) ∧ ((1 ≤ i → a = x) ∧ (2 ≤ i → b = y) ∧ (3 ≤ i → c = z)) ∧ mm = 3 - i ∧ T = (mkT 24 [(2, .pointer (some ⟨0, 0, none⟩)), (3, .pointer (some ⟨1, 0, none⟩)), (4, .bool false), (5, .int .i64 ((i : Nat) : Int))]) ∧ H = [some ⟨[.int .i64 a, .int .i64 b, .int .i64 c], 25, true, true⟩, some ⟨[.int .i64 x, .int .i64 y, .int .i64 z], 25, true, true⟩]) (3 - 0) (mkT 24 [(2, .pointer (some ⟨0, 0, none⟩)), (3, .pointer (some ⟨1, 0, none⟩)), (4, .bool false), (5, .int .i64 0)]) [some ⟨[.int .i64 a, .int .i64 b, .int .i64 c], 25, true, true⟩, some ⟨[.int .i64 x, .int .i64 y, .int .i64 z], 25, true, true⟩] (wkSame [2, 3, 4, 5] (by kernel_rfl)) ?_ ?_
  · exact ⟨0, (Nat.zero_le _), (by omega), rfl, rfl, rfl⟩
  · rintro _ _ _ ⟨i, hi, he, rfl, rfl, rfl⟩
    have hcase : i = 0 ∨ i = 1 ∨ i = 2 ∨ i = 3 := by omega
    rcases hcase with rfl | rfl | rfl | rfl
    ·
      refine cSeq ?_
      refine cSeq ?_
      refine cReg ?_
      refine segEnd [2, 3, 4, 5, 7] (T1 := (mkT 24 [(2, .pointer (some ⟨0, 0, none⟩)), (3, .pointer (some ⟨1, 0, none⟩)), (4, .bool false), (5, .int .i64 0), (7, .bool true)])) (H1 := [some ⟨[.int .i64 a, .int .i64 b, .int .i64 c], 25, true, true⟩, some ⟨[.int .i64 x, .int .i64 y, .int .i64 z], 25, true, true⟩]) (by kernel_rfl) ?_
      refine kSeq ?_
      refine cTrue (by kernel_rfl) ?_
      refine cSkip ?_
      refine kSeq ?_
      refine cSeq ?_
      refine cBlk ?_
      refine cSeq ?_
      refine cRegD (by kernel_rfl) ?_
      refine segEndD [2, 3, 4, 5, 7, 16] (T1 := (mkT 24 [(2, .pointer (some ⟨0, 0, none⟩)), (3, .pointer (some ⟨1, 0, none⟩)), (4, .bool false), (5, .int .i64 0), (7, .bool true), (16, .bool (a != x))])) (H1 := [some ⟨[.int .i64 a, .int .i64 b, .int .i64 c], 25, true, true⟩, some ⟨[.int .i64 x, .int .i64 y, .int .i64 z], 25, true, true⟩]) (by kernel_rfl) ?_
      refine kSeq ?_
      cases h1 : ((a != x) : Bool)
      ·
        (try simp only [Bool.not_eq_true', Bool.not_eq_false', decide_eq_true_eq, decide_eq_false_iff_not, beq_iff_eq, bne_iff_ne, beq_eq_false_iff_ne, bne_eq_false_iff_eq, ne_eq, Decidable.not_not, Bool.and_eq_true, Bool.and_eq_false_imp, Bool.or_eq_true, Bool.or_eq_false_iff, Bool.not_eq_true, Int.not_lt, Int.not_le, ge_iff_le, gt_iff_lt] at h1)
        refine cFalse (by kernel_rfl) ?_
        refine cSkip ?_
        refine kBlk ?_
        refine kSeq ?_
        refine cReg ?_
        refine segEnd [2, 3, 4, 5, 7, 16] (T1 := (mkT 24 [(2, .pointer (some ⟨0, 0, none⟩)), (3, .pointer (some ⟨1, 0, none⟩)), (4, .bool false), (5, .int .i64 1), (7, .bool true), (16, .bool false)])) (H1 := [some ⟨[.int .i64 a, .int .i64 b, .int .i64 c], 25, true, true⟩, some ⟨[.int .i64 x, .int .i64 y, .int .i64 z], 25, true, true⟩]) (by kernel_rfl) ?_
        exact kLoop (3 - 1) (mkT 24 [(2, .pointer (some ⟨0, 0, none⟩)), (3, .pointer (some ⟨1, 0, none⟩)), (4, .bool false), (5, .int .i64 1)]) [some ⟨[.int .i64 a, .int .i64 b, .int .i64 c], 25, true, true⟩, some ⟨[.int .i64 x, .int .i64 y, .int .i64 z], 25, true, true⟩] (by omega) (wkSame [2, 3, 4, 5] (by kernel_rfl)) ⟨1, (by omega), (by omega), rfl, rfl, rfl⟩
      ·
        (try simp only [Bool.not_eq_true', Bool.not_eq_false', decide_eq_true_eq, decide_eq_false_iff_not, beq_iff_eq, bne_iff_ne, beq_eq_false_iff_ne, bne_eq_false_iff_eq, ne_eq, Decidable.not_not, Bool.and_eq_true, Bool.and_eq_false_imp, Bool.or_eq_true, Bool.or_eq_false_iff, Bool.not_eq_true, Int.not_lt, Int.not_le, ge_iff_le, gt_iff_lt] at h1)
        refine cTrue (by kernel_rfl) ?_
        refine cSeq ?_
        refine cRegD (by kernel_rfl) ?_
        refine segEndD [2, 3, 4, 5, 7, 16] (T1 := (mkT 24 [(2, .pointer (some ⟨0, 0, none⟩)), (3, .pointer (some ⟨1, 0, none⟩)), (4, .bool (decide (a < x))), (5, .int .i64 0), (7, .bool true), (16, .bool true)])) (H1 := [some ⟨[.int .i64 a, .int .i64 b, .int .i64 c], 25, true, true⟩, some ⟨[.int .i64 x, .int .i64 y, .int .i64 z], 25, true, true⟩]) (by kernel_rfl) ?_
        refine kSeq ?_
        refine cRet ?_
        refine kBlkR ?_
        refine kSeqR ?_
        refine kLoopR ?_
        refine kBlkR ?_
        refine kSeqR ?_
        exact endQ (Or.inr rfl) (l := [.bool (decide (a < x))]) [some ⟨[.int .i64 a, .int .i64 b, .int .i64 c], 25, true, true⟩, some ⟨[.int .i64 x, .int .i64 y, .int .i64 z], 25, true, true⟩] (by kernel_rfl) (congrArg Value.bool (Bool.eq_iff_iff.2 (by simp only [lexB, decide_eq_true_eq, Bool.false_eq_true, Bool.true_eq, true_iff, false_iff]; omega))) rfl rfl hcl rfl
    ·
      refine cSeq ?_
      refine cSeq ?_
      refine cReg ?_
      refine segEnd [2, 3, 4, 5, 7] (T1 := (mkT 24 [(2, .pointer (some ⟨0, 0, none⟩)), (3, .pointer (some ⟨1, 0, none⟩)), (4, .bool false), (5, .int .i64 1), (7, .bool true)])) (H1 := [some ⟨[.int .i64 a, .int .i64 b, .int .i64 c], 25, true, true⟩, some ⟨[.int .i64 x, .int .i64 y, .int .i64 z], 25, true, true⟩]) (by kernel_rfl) ?_
      refine kSeq ?_
      refine cTrue (by kernel_rfl) ?_
      refine cSkip ?_
      refine kSeq ?_
      refine cSeq ?_
      refine cBlk ?_
      refine cSeq ?_
      refine cRegD (by kernel_rfl) ?_
      refine segEndD [2, 3, 4, 5, 7, 16] (T1 := (mkT 24 [(2, .pointer (some ⟨0, 0, none⟩)), (3, .pointer (some ⟨1, 0, none⟩)), (4, .bool false), (5, .int .i64 1), (7, .bool true), (16, .bool (b != y))])) (H1 := [some ⟨[.int .i64 a, .int .i64 b, .int .i64 c], 25, true, true⟩, some ⟨[.int .i64 x, .int .i64 y, .int .i64 z], 25, true, true⟩]) (by kernel_rfl) ?_
      refine kSeq ?_
      cases h2 : ((b != y) : Bool)
      ·
        (try simp only [Bool.not_eq_true', Bool.not_eq_false', decide_eq_true_eq, decide_eq_false_iff_not, beq_iff_eq, bne_iff_ne, beq_eq_false_iff_ne, bne_eq_false_iff_eq, ne_eq, Decidable.not_not, Bool.and_eq_true, Bool.and_eq_false_imp, Bool.or_eq_true, Bool.or_eq_false_iff, Bool.not_eq_true, Int.not_lt, Int.not_le, ge_iff_le, gt_iff_lt] at h2)
        refine cFalse (by kernel_rfl) ?_
        refine cSkip ?_
        refine kBlk ?_
        refine kSeq ?_
        refine cReg ?_
        refine segEnd [2, 3, 4, 5, 7, 16] (T1 := (mkT 24 [(2, .pointer (some ⟨0, 0, none⟩)), (3, .pointer (some ⟨1, 0, none⟩)), (4, .bool false), (5, .int .i64 2), (7, .bool true), (16, .bool false)])) (H1 := [some ⟨[.int .i64 a, .int .i64 b, .int .i64 c], 25, true, true⟩, some ⟨[.int .i64 x, .int .i64 y, .int .i64 z], 25, true, true⟩]) (by kernel_rfl) ?_
        exact kLoop (3 - 2) (mkT 24 [(2, .pointer (some ⟨0, 0, none⟩)), (3, .pointer (some ⟨1, 0, none⟩)), (4, .bool false), (5, .int .i64 2)]) [some ⟨[.int .i64 a, .int .i64 b, .int .i64 c], 25, true, true⟩, some ⟨[.int .i64 x, .int .i64 y, .int .i64 z], 25, true, true⟩] (by omega) (wkSame [2, 3, 4, 5] (by kernel_rfl)) ⟨2, (by omega), (by omega), rfl, rfl, rfl⟩
      ·
        (try simp only [Bool.not_eq_true', Bool.not_eq_false', decide_eq_true_eq, decide_eq_false_iff_not, beq_iff_eq, bne_iff_ne, beq_eq_false_iff_ne, bne_eq_false_iff_eq, ne_eq, Decidable.not_not, Bool.and_eq_true, Bool.and_eq_false_imp, Bool.or_eq_true, Bool.or_eq_false_iff, Bool.not_eq_true, Int.not_lt, Int.not_le, ge_iff_le, gt_iff_lt] at h2)
        refine cTrue (by kernel_rfl) ?_
        refine cSeq ?_
        refine cRegD (by kernel_rfl) ?_
        refine segEndD [2, 3, 4, 5, 7, 16] (T1 := (mkT 24 [(2, .pointer (some ⟨0, 0, none⟩)), (3, .pointer (some ⟨1, 0, none⟩)), (4, .bool (decide (b < y))), (5, .int .i64 1), (7, .bool true), (16, .bool true)])) (H1 := [some ⟨[.int .i64 a, .int .i64 b, .int .i64 c], 25, true, true⟩, some ⟨[.int .i64 x, .int .i64 y, .int .i64 z], 25, true, true⟩]) (by kernel_rfl) ?_
        refine kSeq ?_
        refine cRet ?_
        refine kBlkR ?_
        refine kSeqR ?_
        refine kLoopR ?_
        refine kBlkR ?_
        refine kSeqR ?_
        exact endQ (Or.inr rfl) (l := [.bool (decide (b < y))]) [some ⟨[.int .i64 a, .int .i64 b, .int .i64 c], 25, true, true⟩, some ⟨[.int .i64 x, .int .i64 y, .int .i64 z], 25, true, true⟩] (by kernel_rfl) (congrArg Value.bool (Bool.eq_iff_iff.2 (by simp only [lexB, decide_eq_true_eq, Bool.false_eq_true, Bool.true_eq, true_iff, false_iff]; omega))) rfl rfl hcl rfl
    ·
      refine cSeq ?_
      refine cSeq ?_
      refine cReg ?_
      refine segEnd [2, 3, 4, 5, 7] (T1 := (mkT 24 [(2, .pointer (some ⟨0, 0, none⟩)), (3, .pointer (some ⟨1, 0, none⟩)), (4, .bool false), (5, .int .i64 2), (7, .bool true)])) (H1 := [some ⟨[.int .i64 a, .int .i64 b, .int .i64 c], 25, true, true⟩, some ⟨[.int .i64 x, .int .i64 y, .int .i64 z], 25, true, true⟩]) (by kernel_rfl) ?_
      refine kSeq ?_
      refine cTrue (by kernel_rfl) ?_
      refine cSkip ?_
      refine kSeq ?_
      refine cSeq ?_
      refine cBlk ?_
      refine cSeq ?_
      refine cRegD (by kernel_rfl) ?_
      refine segEndD [2, 3, 4, 5, 7, 16] (T1 := (mkT 24 [(2, .pointer (some ⟨0, 0, none⟩)), (3, .pointer (some ⟨1, 0, none⟩)), (4, .bool false), (5, .int .i64 2), (7, .bool true), (16, .bool (c != z))])) (H1 := [some ⟨[.int .i64 a, .int .i64 b, .int .i64 c], 25, true, true⟩, some ⟨[.int .i64 x, .int .i64 y, .int .i64 z], 25, true, true⟩]) (by kernel_rfl) ?_
      refine kSeq ?_
      cases h3 : ((c != z) : Bool)
      ·
        (try simp only [Bool.not_eq_true', Bool.not_eq_false', decide_eq_true_eq, decide_eq_false_iff_not, beq_iff_eq, bne_iff_ne, beq_eq_false_iff_ne, bne_eq_false_iff_eq, ne_eq, Decidable.not_not, Bool.and_eq_true, Bool.and_eq_false_imp, Bool.or_eq_true, Bool.or_eq_false_iff, Bool.not_eq_true, Int.not_lt, Int.not_le, ge_iff_le, gt_iff_lt] at h3)
        refine cFalse (by kernel_rfl) ?_
        refine cSkip ?_
        refine kBlk ?_
        refine kSeq ?_
        refine cReg ?_
        refine segEnd [2, 3, 4, 5, 7, 16] (T1 := (mkT 24 [(2, .pointer (some ⟨0, 0, none⟩)), (3, .pointer (some ⟨1, 0, none⟩)), (4, .bool false), (5, .int .i64 3), (7, .bool true), (16, .bool false)])) (H1 := [some ⟨[.int .i64 a, .int .i64 b, .int .i64 c], 25, true, true⟩, some ⟨[.int .i64 x, .int .i64 y, .int .i64 z], 25, true, true⟩]) (by kernel_rfl) ?_
        exact kLoop (3 - 3) (mkT 24 [(2, .pointer (some ⟨0, 0, none⟩)), (3, .pointer (some ⟨1, 0, none⟩)), (4, .bool false), (5, .int .i64 3)]) [some ⟨[.int .i64 a, .int .i64 b, .int .i64 c], 25, true, true⟩, some ⟨[.int .i64 x, .int .i64 y, .int .i64 z], 25, true, true⟩] (by omega) (wkSame [2, 3, 4, 5] (by kernel_rfl)) ⟨3, (by omega), (by omega), rfl, rfl, rfl⟩
      ·
        (try simp only [Bool.not_eq_true', Bool.not_eq_false', decide_eq_true_eq, decide_eq_false_iff_not, beq_iff_eq, bne_iff_ne, beq_eq_false_iff_ne, bne_eq_false_iff_eq, ne_eq, Decidable.not_not, Bool.and_eq_true, Bool.and_eq_false_imp, Bool.or_eq_true, Bool.or_eq_false_iff, Bool.not_eq_true, Int.not_lt, Int.not_le, ge_iff_le, gt_iff_lt] at h3)
        refine cTrue (by kernel_rfl) ?_
        refine cSeq ?_
        refine cRegD (by kernel_rfl) ?_
        refine segEndD [2, 3, 4, 5, 7, 16] (T1 := (mkT 24 [(2, .pointer (some ⟨0, 0, none⟩)), (3, .pointer (some ⟨1, 0, none⟩)), (4, .bool (decide (c < z))), (5, .int .i64 2), (7, .bool true), (16, .bool true)])) (H1 := [some ⟨[.int .i64 a, .int .i64 b, .int .i64 c], 25, true, true⟩, some ⟨[.int .i64 x, .int .i64 y, .int .i64 z], 25, true, true⟩]) (by kernel_rfl) ?_
        refine kSeq ?_
        refine cRet ?_
        refine kBlkR ?_
        refine kSeqR ?_
        refine kLoopR ?_
        refine kBlkR ?_
        refine kSeqR ?_
        exact endQ (Or.inr rfl) (l := [.bool (decide (c < z))]) [some ⟨[.int .i64 a, .int .i64 b, .int .i64 c], 25, true, true⟩, some ⟨[.int .i64 x, .int .i64 y, .int .i64 z], 25, true, true⟩] (by kernel_rfl) (congrArg Value.bool (Bool.eq_iff_iff.2 (by simp only [lexB, decide_eq_true_eq, Bool.false_eq_true, Bool.true_eq, true_iff, false_iff]; omega))) rfl rfl hcl rfl
    ·
      refine cSeq ?_
      refine cSeq ?_
      refine cReg ?_
      refine segEnd [2, 3, 4, 5, 7] (T1 := (mkT 24 [(2, .pointer (some ⟨0, 0, none⟩)), (3, .pointer (some ⟨1, 0, none⟩)), (4, .bool false), (5, .int .i64 3), (7, .bool false)])) (H1 := [some ⟨[.int .i64 a, .int .i64 b, .int .i64 c], 25, true, true⟩, some ⟨[.int .i64 x, .int .i64 y, .int .i64 z], 25, true, true⟩]) (by kernel_rfl) ?_
      refine kSeq ?_
      refine cFalse (by kernel_rfl) ?_
      refine cExit ?_
      refine kSeqE ?_
      refine kLoopE ?_
      refine kBlkHit ?_
      refine kSeq ?_
      refine cSeq ?_
      refine cReg ?_
      refine segEnd [2, 3, 4, 5, 7] (T1 := (mkT 24 [(2, .pointer (some ⟨0, 0, none⟩)), (3, .pointer (some ⟨1, 0, none⟩)), (4, .bool false), (5, .int .i64 3), (7, .bool false)])) (H1 := [some ⟨[.int .i64 a, .int .i64 b, .int .i64 c], 25, true, true⟩, some ⟨[.int .i64 x, .int .i64 y, .int .i64 z], 25, true, true⟩]) (by kernel_rfl) ?_
      refine kSeq ?_
      refine cRet ?_
      exact endQ (Or.inr rfl) (l := [.bool false]) [some ⟨[.int .i64 a, .int .i64 b, .int .i64 c], 25, true, true⟩, some ⟨[.int .i64 x, .int .i64 y, .int .i64 z], 25, true, true⟩] (by kernel_rfl) (congrArg Value.bool (Bool.eq_iff_iff.2 (by simp only [lexB, decide_eq_true_eq, Bool.false_eq_true, Bool.true_eq, true_iff, false_iff]; omega))) rfl rfl hcl rfl
end Go.Proofs.Ytenkiofddpjidaa
