/- A law, whole: the walks, and the row. No condition. -/
import Derived.Test.YtbheeobnghlckaaAmS4J9
import Derived.Test.YtbheeobnghlckaaAmT
import Derived.WalkKit
import Derived.ProofKit
import Derived.OpenShut
import Derived.ShutString
import Derived.ChangeOld
import Derived.Below
import Derived.SizedLaws
set_option linter.unusedVariables false
set_option linter.unusedSimpArgs false
namespace Go.Proofs.Ytbheeobnghlckaa
open Go.Am Go.RowKit
theorem specStackHeap_yesR (X : Nat) (Y : Nat) (Z : Nat) (N : List Int) (R : List A3) (hs : Sides X Y Z) (hl : N.length ≤ 1048576) (hnl : N.length = X * Y) (hq : allB N 0 (Z : Int) = true) (hR : R = listOf X Y Z (stackS X Y Z N)) : Sound Try.prog 29 [vN X, vN Y, vN Z, vS 0 N.length] [some ⟨nums N, 3, false, false⟩] (.tuple #[.agg #[vN X, vN Y, vN Z, vS 1 R.length], .bool true]) [some ⟨nums N, 3, false, false⟩, some ⟨a3s R, 74, false, true⟩] := by
  subst hR; exact specStackHeap_yes X Y Z N hs hl hnl hq

theorem implStackHeap_yesR (X : Nat) (Y : Nat) (Z : Nat) (N : List Int) (R : List A3) (hs : Sides X Y Z) (hl : N.length ≤ 1048576) (hnl : N.length = X * Y) (hq : allB N 0 (Z : Int) = true) (hR : R = listOf X Y Z (stackS X Y Z N)) : Sound Try.prog 31 [vN X, vN Y, vN Z, vS 0 N.length] [some ⟨nums N, 3, false, false⟩] (.tuple #[.agg #[vN X, vN Y, vN Z, vS 1 R.length], .bool true]) [some ⟨nums N, 3, false, false⟩, some ⟨a3s R, 74, false, true⟩] := by
  subst hR; exact implStackHeap_yes X Y Z N hs hl hnl hq

set_option maxRecDepth 100000 in
set_option maxHeartbeats 4000000 in
theorem lawStackHeap_big_s (x : Int) (y : Int) (z : Int) (N : List Int) (hl : 1048576 < N.length) (hm : N.length ≤ 9223372036854775807) : Sound Try.prog 7 [vI x, vI y, vI z, vS 0 N.length] [some ⟨nums N, 3, false, false⟩] (.bool true) [some ⟨nums N, 3, false, false⟩] := by
  refine sound_intro (C := cx) Try.func7 rfl (by kernel_rfl) fun hcl => ?_
  refine cSeq ?_
  refine cReg ?_
  refine segEndH [0, 1, 2, 3] (T1 := (mkT 108 [(0, vI x), (1, vI y), (2, vI z), (3, vS 0 N.length)])) (by kernel_rfl) ?_
  refine kSeq ?_
  refine cSeq ?_
  refine cSeq ?_
  refine cReg ?_
  refine segEndH [0, 1, 2, 3, 21] (T1 := (mkT 108 [(0, vI x), (1, vI y), (2, vI z), (3, vS 0 N.length), (21, .bool (decide (((N.length : Nat) : Int) > 1048576)))])) (by kernel_rfl) ?_
  refine kSeq ?_
  cases h1 : (decide (((N.length : Nat) : Int) > 1048576) : Bool)
  ·
    (try simp only [Bool.not_eq_true', Bool.not_eq_false', decide_eq_true_eq, decide_eq_false_iff_not, beq_iff_eq, bne_iff_ne, beq_eq_false_iff_ne, bne_eq_false_iff_eq, ne_eq, Decidable.not_not, Bool.and_eq_true, Bool.and_eq_false_imp, Bool.or_eq_true, Bool.or_eq_false_iff, Bool.not_eq_true, Int.not_lt, Int.not_le, ge_iff_le, gt_iff_lt] at h1)
    exfalso; (omega)
  ·
    (try simp only [Bool.not_eq_true', Bool.not_eq_false', decide_eq_true_eq, decide_eq_false_iff_not, beq_iff_eq, bne_iff_ne, beq_eq_false_iff_ne, bne_eq_false_iff_eq, ne_eq, Decidable.not_not, Bool.and_eq_true, Bool.and_eq_false_imp, Bool.or_eq_true, Bool.or_eq_false_iff, Bool.not_eq_true, Int.not_lt, Int.not_le, ge_iff_le, gt_iff_lt] at h1)
    refine cTrue (by kernel_rfl) ?_
    refine cSeq ?_
    refine cReg ?_
    refine segEndH [8] (T1 := (mkT 108 [(8, .bool true)])) (by kernel_rfl) ?_
    refine kSeq ?_
    refine cRet ?_
    refine kSeqR ?_
    -- end
    exact endQ (Or.inr rfl) (l := [.bool true]) [] (by kernel_rfl) (by first | rfl | kernel_rfl) rfl rfl hcl rfl

set_option maxRecDepth 100000 in
set_option maxHeartbeats 4000000 in
theorem lawStackHeap_no_s (x : Int) (y : Int) (z : Int) (N : List Int) (hl : N.length ≤ 1048576) (hv2 : valid3 x y z = false) : Sound Try.prog 7 [vI x, vI y, vI z, vS 0 N.length] [some ⟨nums N, 3, false, false⟩] (.bool true) [some ⟨nums N, 3, false, false⟩] := by
  refine sound_intro (C := cx) Try.func7 rfl (by kernel_rfl) fun hcl => ?_
  have hln : N.length ≤ 1048576 := by first | assumption | (simp; done)
  refine cSeq ?_
  refine cReg ?_
  refine segEndH [0, 1, 2, 3] (T1 := (mkT 108 [(0, vI x), (1, vI y), (2, vI z), (3, vS 0 N.length)])) (by kernel_rfl) ?_
  refine kSeq ?_
  refine cSeq ?_
  refine cSeq ?_
  refine cReg ?_
  refine segEndH [0, 1, 2, 3, 21] (T1 := (mkT 108 [(0, vI x), (1, vI y), (2, vI z), (3, vS 0 N.length), (21, .bool (decide (((N.length : Nat) : Int) > 1048576)))])) (by kernel_rfl) ?_
  refine kSeq ?_
  cases h1 : (decide (((N.length : Nat) : Int) > 1048576) : Bool)
  ·
    (try simp only [Bool.not_eq_true', Bool.not_eq_false', decide_eq_true_eq, decide_eq_false_iff_not, beq_iff_eq, bne_iff_ne, beq_eq_false_iff_ne, bne_eq_false_iff_eq, ne_eq, Decidable.not_not, Bool.and_eq_true, Bool.and_eq_false_imp, Bool.or_eq_true, Bool.or_eq_false_iff, Bool.not_eq_true, Int.not_lt, Int.not_le, ge_iff_le, gt_iff_lt] at h1)
    refine cFalse (by kernel_rfl) ?_
    refine cSkip ?_
    refine kSeq ?_
    refine cSeq ?_
    refine cReg ?_
    refine segH 4 (T1 := (mkT 108 [(0, vI x), (1, vI y), (2, vI z), (3, vS 0 N.length), (21, .bool false), (23, vI x), (24, vI y), (25, vI z), (26, vS 0 N.length)])) (by kernel_rfl) ?_
    refine rCall (v := vS 1 N.length) (args := [vS 0 N.length]) (by kernel_rfl) rfl (by kernel_rfl) (Sound.lay (E := [some ⟨nums N, 3, false, true⟩]) [0] (toI_S N (by first | omega | assumption | (simp; done) | (simp; omega))) ⟨rdF false (flatNums _ _ _ _) rfl rfl, trivial⟩ rfl ⟨clF (flatNums _ _ _ _), trivial⟩ rfl (by first | rfl | simp [mpV, mpA, mpS, mpP, renId, shift]) rfl ⟨enF (flatNums _ _ _ _) (Or.inl rfl), trivial⟩) ?_
    refine rCall (v := .tuple #[.agg #[vI 0, vI 0, vI 0, .slice none 0 0], .bool false]) (args := [vI x, vI y, vI z, vS 1 N.length]) (by kernel_rfl) rfl (by kernel_rfl) (Sound.lay0 [1] (specStackHeap_no x y z N (by first | omega | assumption | (simp; done) | (simp; omega)) (by first | assumption | omega | rfl | decide | exact HeapL.list _ _ _ _ | exact HeapL.nil _ _ _ | exact HeapL.all _ _ _ | (apply HeapL.lt64 <;> assumption) | (repeat' (first | assumption | apply or_lt64 | apply and_lt64 | apply andn_lt64 | apply pow_lt64 | (apply HeapL.lt64 <;> assumption))))) ⟨rdF true (flatNums _ _ _ _) rfl rfl, trivial⟩ rfl ⟨clF (flatNums _ _ _ _), trivial⟩ rfl (by first | rfl | simp [mpV, mpA, mpS, mpP, renId, shift]) (by first | rfl | simp [mpV, mpA, mpS, mpP, renId, shift])) ?_
    refine segEnd [0, 1, 2, 3, 9, 10] (T1 := (mkT 108 [(0, vI x), (1, vI y), (2, vI z), (3, vS 0 N.length), (9, vP 2 0), (10, .bool false)])) (H1 := [some ⟨nums N, 3, false, false⟩, some ⟨nums N, 3, false, true⟩, rB [vI 0, vI 0, vI 0, .slice none 0 0] 40]) (by kernel_rfl) ?_
    refine kSeq ?_
    refine cSeq ?_
    refine cReg ?_
    refine segH 1 (T1 := (mkT 108 [(0, vI x), (1, vI y), (2, vI z), (3, vS 0 N.length), (9, vP 2 0), (10, .bool false), (31, vS 0 N.length)])) (by kernel_rfl) ?_
    refine rCall (v := vS 3 N.length) (args := [vS 0 N.length]) (by kernel_rfl) rfl (by kernel_rfl) (Sound.lay (E := [some ⟨nums N, 3, false, true⟩]) [0] (toI_S N (by first | omega | assumption | (simp; done) | (simp; omega))) ⟨rdF false (flatNums _ _ _ _) rfl rfl, trivial⟩ rfl ⟨clF (flatNums _ _ _ _), trivial⟩ rfl (by first | rfl | simp [mpV, mpA, mpS, mpP, renId, shift]) rfl ⟨enF (flatNums _ _ _ _) (Or.inl rfl), trivial⟩) ?_
    refine segEnd [0, 1, 2, 3, 9, 10, 11] (T1 := (mkT 108 [(0, vI x), (1, vI y), (2, vI z), (3, vS 0 N.length), (9, vP 2 0), (10, .bool false), (11, vS 3 N.length)])) (H1 := [some ⟨nums N, 3, false, false⟩, some ⟨nums N, 3, false, true⟩, rB [vI 0, vI 0, vI 0, .slice none 0 0] 40, some ⟨nums N, 3, false, true⟩]) (by kernel_rfl) ?_
    refine kSeq ?_
    refine cSeq ?_
    refine cReg ?_
    refine segH 4 (T1 := (mkT 108 [(0, vI x), (1, vI y), (2, vI z), (3, vS 0 N.length), (9, vP 2 0), (10, .bool false), (11, vS 3 N.length), (34, vI x), (35, vI y), (36, vI z), (37, vS 3 N.length)])) (by kernel_rfl) ?_
    refine rCall (v := .tuple #[.agg #[vI 0, vI 0, vI 0, .slice none 0 0], .bool false]) (args := [vI x, vI y, vI z, vS 3 N.length]) (by kernel_rfl) rfl (by kernel_rfl) (Sound.lay0 [3] (implStackHeap_no x y z N (by first | omega | assumption | (simp; done) | (simp; omega)) (by first | assumption | omega | rfl | decide | exact HeapL.list _ _ _ _ | exact HeapL.nil _ _ _ | exact HeapL.all _ _ _ | (apply HeapL.lt64 <;> assumption) | (repeat' (first | assumption | apply or_lt64 | apply and_lt64 | apply andn_lt64 | apply pow_lt64 | (apply HeapL.lt64 <;> assumption))))) ⟨rdF true (flatNums _ _ _ _) rfl rfl, trivial⟩ rfl ⟨clF (flatNums _ _ _ _), trivial⟩ rfl (by first | rfl | simp [mpV, mpA, mpS, mpP, renId, shift]) (by first | rfl | simp [mpV, mpA, mpS, mpP, renId, shift])) ?_
    refine segEnd [0, 1, 2, 3, 9, 10, 11, 12, 13] (T1 := (mkT 108 [(0, vI x), (1, vI y), (2, vI z), (3, vS 0 N.length), (9, vP 2 0), (10, .bool false), (11, vS 3 N.length), (12, vP 4 0), (13, .bool false)])) (H1 := [some ⟨nums N, 3, false, false⟩, some ⟨nums N, 3, false, true⟩, rB [vI 0, vI 0, vI 0, .slice none 0 0] 40, some ⟨nums N, 3, false, true⟩, rB [vI 0, vI 0, vI 0, .slice none 0 0] 40]) (by kernel_rfl) ?_
    refine kSeq ?_
    refine cSeq ?_
    refine cSeq ?_
    refine cReg ?_
    refine segH 2 (T1 := (mkT 108 [(0, vI x), (1, vI y), (2, vI z), (3, vS 0 N.length), (9, vP 2 0), (10, .bool false), (11, vS 3 N.length), (12, vP 4 0), (13, .bool false), (41, .agg #[vI 0, vI 0, vI 0, .slice none 0 0]), (42, .agg #[vI 0, vI 0, vI 0, .slice none 0 0])])) (by kernel_rfl) ?_
    refine rCall (v := .bool true) (args := [.agg #[vI 0, vI 0, vI 0, .slice none 0 0], .agg #[vI 0, vI 0, vI 0, .slice none 0 0]]) (by kernel_rfl) rfl (by kernel_rfl) (Sound.lay0 [] (eqHeapN) trivial rfl trivial rfl (by first | rfl | simp [mpV, mpA, mpS, mpP, renId, shift]) rfl) ?_
    refine segEndH [0, 1, 2, 3, 9, 10, 11, 12, 13, 49] (T1 := (mkT 108 [(0, vI x), (1, vI y), (2, vI z), (3, vS 0 N.length), (9, vP 2 0), (10, .bool false), (11, vS 3 N.length), (12, vP 4 0), (13, .bool false), (49, .bool false)])) (by kernel_rfl) ?_
    refine kSeq ?_
    refine cFalse (by kernel_rfl) ?_
    refine cSkip ?_
    refine kSeq ?_
    refine cSeq ?_
    refine cSeq ?_
    refine cReg ?_
    refine segH 2 (T1 := (mkT 108 [(0, vI x), (1, vI y), (2, vI z), (3, vS 0 N.length), (9, vP 2 0), (10, .bool false), (11, vS 3 N.length), (12, vP 4 0), (13, .bool false), (49, .bool false), (50, vS 3 N.length), (51, vS 0 N.length)])) (by kernel_rfl) ?_
    refine rCall (v := vS 5 N.length) (args := [vS 0 N.length]) (by kernel_rfl) rfl (by kernel_rfl) (Sound.lay (E := [some ⟨nums N, 3, false, true⟩]) [0] (toI_S N (by first | omega | assumption | (simp; done) | (simp; omega))) ⟨rdF false (flatNums _ _ _ _) rfl rfl, trivial⟩ rfl ⟨clF (flatNums _ _ _ _), trivial⟩ rfl (by first | rfl | simp [mpV, mpA, mpS, mpP, renId, shift]) rfl ⟨enF (flatNums _ _ _ _) (Or.inl rfl), trivial⟩) ?_
    refine rCall (v := .bool true) (args := [vS 3 N.length, vS 5 N.length]) (by kernel_rfl) rfl (by kernel_rfl) (Sound.lay0 [3, 5] (eqI_S N (by first | omega | assumption | (simp; done) | (simp; omega))) ⟨rdF true (flatNums _ _ _ _) rfl rfl, ⟨rdF true (flatNums _ _ _ _) rfl rfl, trivial⟩⟩ rfl ⟨clF (flatNums _ _ _ _), ⟨clF (flatNums _ _ _ _), trivial⟩⟩ rfl (by first | rfl | simp [mpV, mpA, mpS, mpP, renId, shift]) rfl) ?_
    refine segEnd [0, 1, 2, 3, 9, 10, 11, 12, 13, 54] (T1 := (mkT 108 [(0, vI x), (1, vI y), (2, vI z), (3, vS 0 N.length), (9, vP 2 0), (10, .bool false), (11, vS 3 N.length), (12, vP 4 0), (13, .bool false), (54, .bool false)])) (H1 := [some ⟨nums N, 3, false, false⟩, some ⟨nums N, 3, false, true⟩, rB [vI 0, vI 0, vI 0, .slice none 0 0] 40, some ⟨nums N, 3, false, true⟩, rB [vI 0, vI 0, vI 0, .slice none 0 0] 40, some ⟨nums N, 3, false, true⟩]) (by kernel_rfl) ?_
    refine kSeq ?_
    refine cFalse (by kernel_rfl) ?_
    refine cSkip ?_
    refine kSeq ?_
    refine cSeq ?_
    refine cReg ?_
    refine segEndH [0, 1, 2, 3, 9, 10, 11, 12, 13, 14] (T1 := (mkT 108 [(0, vI x), (1, vI y), (2, vI z), (3, vS 0 N.length), (9, vP 2 0), (10, .bool false), (11, vS 3 N.length), (12, vP 4 0), (13, .bool false), (14, vI 1)])) (by kernel_rfl) ?_
    refine kSeq ?_
    refine cSeq ?_
    refine cReg ?_
    refine segH 2 (T1 := (mkT 108 [(0, vI x), (1, vI y), (2, vI z), (3, vS 0 N.length), (9, vP 2 0), (10, .bool false), (11, vS 3 N.length), (12, vP 4 0), (13, .bool false), (14, vI 1), (55, vS 3 N.length), (56, vI 1)])) (by kernel_rfl) ?_
    refine rCall (v := vN (1 + N.length)) (args := [vS 3 N.length, vI 1]) (by kernel_rfl) rfl (by kernel_rfl) (Sound.emb_set (r := ⟨nums N, 3, false, true⟩) (r' := ⟨nums (mkI 1 N.length), 3, false, true⟩) 3 (markI_S N 1 (by first | omega | assumption | (simp; done) | (simp; omega)) (by first | assumption | omega | rfl | decide | exact HeapL.list _ _ _ _ | exact HeapL.nil _ _ _ | exact HeapL.all _ _ _ | (apply HeapL.lt64 <;> assumption) | (repeat' (first | assumption | apply or_lt64 | apply and_lt64 | apply andn_lt64 | apply pow_lt64 | (apply HeapL.lt64 <;> assumption))))) (flatNums _ _ _ _) rfl (flatNums _ _ _ _) rfl rfl rfl (by first | rfl | simp [mpV, mpA, mpS, mpP, renId, shift]) rfl) ?_
    refine segEnd [0, 1, 2, 3, 9, 10, 12, 13, 14] (T1 := (mkT 108 [(0, vI x), (1, vI y), (2, vI z), (3, vS 0 N.length), (9, vP 2 0), (10, .bool false), (12, vP 4 0), (13, .bool false), (14, vN (1 + N.length))])) (H1 := [some ⟨nums N, 3, false, false⟩, some ⟨nums N, 3, false, true⟩, rB [vI 0, vI 0, vI 0, .slice none 0 0] 40, some ⟨nums (mkI 1 N.length), 3, false, true⟩, rB [vI 0, vI 0, vI 0, .slice none 0 0] 40, some ⟨nums N, 3, false, true⟩]) (by kernel_rfl) ?_
    refine kSeq ?_
    refine cSeq ?_
    refine cSeq ?_
    refine cReg ?_
    refine segH 3 (T1 := (mkT 108 [(0, vI x), (1, vI y), (2, vI z), (3, vS 0 N.length), (9, vP 2 0), (10, .bool false), (12, vP 4 0), (13, .bool false), (14, vN (1 + N.length)), (58, vN (1 + N.length)), (59, .bool (decide (((1 + N.length : Nat) : Int) < 0))), (60, .bool (decide (((1 + N.length : Nat) : Int) < 0)))])) (by kernel_rfl) ?_
    cases h2 : (decide (((1 + N.length : Nat) : Int) < 0) : Bool)
    ·
      (try simp only [Bool.not_eq_true', Bool.not_eq_false', decide_eq_true_eq, decide_eq_false_iff_not, beq_iff_eq, bne_iff_ne, beq_eq_false_iff_ne, bne_eq_false_iff_eq, ne_eq, Decidable.not_not, Bool.and_eq_true, Bool.and_eq_false_imp, Bool.or_eq_true, Bool.or_eq_false_iff, Bool.not_eq_true, Int.not_lt, Int.not_le, ge_iff_le, gt_iff_lt] at h2)
      refine seg 2 (T1 := (mkT 108 [(0, vI x), (1, vI y), (2, vI z), (3, vS 0 N.length), (9, vP 2 0), (10, .bool false), (12, vP 4 0), (13, .bool false), (14, vN (1 + N.length)), (58, vN (1 + N.length)), (59, .bool false), (60, .bool false), (61, .agg #[vI 0, vI 0, vI 0, .slice none 0 0]), (62, .agg #[vI 0, vI 0, vI 0, .slice none 0 0])])) (H1 := [some ⟨nums N, 3, false, false⟩, some ⟨nums N, 3, false, true⟩, rB [vI 0, vI 0, vI 0, .slice none 0 0] 40, some ⟨nums (mkI 1 N.length), 3, false, true⟩, rB [vI 0, vI 0, vI 0, .slice none 0 0] 40, some ⟨nums N, 3, false, true⟩]) (by kernel_rfl) ?_
      refine rCall (v := .bool true) (args := [.agg #[vI 0, vI 0, vI 0, .slice none 0 0], .agg #[vI 0, vI 0, vI 0, .slice none 0 0]]) (by kernel_rfl) rfl (by kernel_rfl) (Sound.lay0 [] (eqHeapN) trivial rfl trivial rfl (by first | rfl | simp [mpV, mpA, mpS, mpP, renId, shift]) rfl) ?_
      refine segEnd [0, 1, 2, 3, 9, 10, 12, 70] (T1 := (mkT 108 [(0, vI x), (1, vI y), (2, vI z), (3, vS 0 N.length), (9, vP 2 0), (10, .bool false), (12, vP 4 0), (70, .bool false)])) (H1 := [some ⟨nums N, 3, false, false⟩, some ⟨nums N, 3, false, true⟩, rB [vI 0, vI 0, vI 0, .slice none 0 0] 40, some ⟨nums (mkI 1 N.length), 3, false, true⟩, rB [vI 0, vI 0, vI 0, .slice none 0 0] 40, some ⟨nums N, 3, false, true⟩]) (by kernel_rfl) ?_
      refine kSeq ?_
      refine cFalse (by kernel_rfl) ?_
      refine cSkip ?_
      refine kSeq ?_
      refine cSeq ?_
      refine cReg ?_
      refine segEndH [0, 1, 2, 3, 9, 10, 12, 15] (T1 := (mkT 108 [(0, vI x), (1, vI y), (2, vI z), (3, vS 0 N.length), (9, vP 2 0), (10, .bool false), (12, vP 4 0), (15, vI 1)])) (by kernel_rfl) ?_
      refine kSeq ?_
      refine cSeq ?_
      refine cReg ?_
      refine segH 2 (T1 := (mkT 108 [(0, vI x), (1, vI y), (2, vI z), (3, vS 0 N.length), (9, vP 2 0), (10, .bool false), (12, vP 4 0), (15, vI 1), (71, .agg #[vI 0, vI 0, vI 0, .slice none 0 0]), (72, vI 1)])) (by kernel_rfl) ?_
      refine rCall (v := vI 1) (args := [.agg #[vI 0, vI 0, vI 0, .slice none 0 0], vI 1]) (by kernel_rfl) rfl (by kernel_rfl) (Sound.lay0 [] (markHeapN 1) trivial rfl trivial rfl (by first | rfl | simp [mpV, mpA, mpS, mpP, renId, shift]) rfl) ?_
      refine segEndH [0, 1, 2, 3, 9, 10, 12, 15] (T1 := (mkT 108 [(0, vI x), (1, vI y), (2, vI z), (3, vS 0 N.length), (9, vP 2 0), (10, .bool false), (12, vP 4 0), (15, vI 1)])) (by kernel_rfl) ?_
      refine kSeq ?_
      refine cSeq ?_
      refine cReg ?_
      refine segEndH [0, 1, 2, 3, 9, 10, 12, 15, 16] (T1 := (mkT 108 [(0, vI x), (1, vI y), (2, vI z), (3, vS 0 N.length), (9, vP 2 0), (10, .bool false), (12, vP 4 0), (15, vI 1), (16, vI 1)])) (by kernel_rfl) ?_
      refine kSeq ?_
      refine cSeq ?_
      refine cReg ?_
      refine segH 2 (T1 := (mkT 108 [(0, vI x), (1, vI y), (2, vI z), (3, vS 0 N.length), (9, vP 2 0), (10, .bool false), (12, vP 4 0), (15, vI 1), (16, vI 1), (74, .agg #[vI 0, vI 0, vI 0, .slice none 0 0]), (75, vI 1)])) (by kernel_rfl) ?_
      refine rCall (v := vI 1) (args := [.agg #[vI 0, vI 0, vI 0, .slice none 0 0], vI 1]) (by kernel_rfl) rfl (by kernel_rfl) (Sound.lay0 [] (heldHeapN) trivial rfl trivial rfl (by first | rfl | simp [mpV, mpA, mpS, mpP, renId, shift]) rfl) ?_
      refine segEndH [0, 1, 2, 3, 9, 10, 12, 15, 16] (T1 := (mkT 108 [(0, vI x), (1, vI y), (2, vI z), (3, vS 0 N.length), (9, vP 2 0), (10, .bool false), (12, vP 4 0), (15, vI 1), (16, vI 1)])) (by kernel_rfl) ?_
      refine kSeq ?_
      refine cSeq ?_
      refine cSeq ?_
      refine cReg ?_
      refine segEndH [0, 1, 2, 3, 9, 10, 12, 15, 16, 78] (T1 := (mkT 108 [(0, vI x), (1, vI y), (2, vI z), (3, vS 0 N.length), (9, vP 2 0), (10, .bool false), (12, vP 4 0), (15, vI 1), (16, vI 1), (78, .bool false)])) (by kernel_rfl) ?_
      refine kSeq ?_
      refine cFalse (by kernel_rfl) ?_
      refine cSkip ?_
      refine kSeq ?_
      refine cSeq ?_
      refine cSeq ?_
      refine cReg ?_
      refine segEndH [0, 1, 2, 3, 9, 10, 12, 15, 81] (T1 := (mkT 108 [(0, vI x), (1, vI y), (2, vI z), (3, vS 0 N.length), (9, vP 2 0), (10, .bool false), (12, vP 4 0), (15, vI 1), (81, .bool false)])) (by kernel_rfl) ?_
      refine kSeq ?_
      refine cFalse (by kernel_rfl) ?_
      refine cSkip ?_
      refine kSeq ?_
      refine cSeq ?_
      refine cReg ?_
      refine segH 4 (T1 := (mkT 108 [(0, vI x), (1, vI y), (2, vI z), (3, vS 0 N.length), (9, vP 2 0), (10, .bool false), (12, vP 4 0), (15, vI 1), (81, .bool false), (83, vI x), (84, vI y), (85, vI z), (86, vS 0 N.length)])) (by kernel_rfl) ?_
      refine rCall (v := vS 6 N.length) (args := [vS 0 N.length]) (by kernel_rfl) rfl (by kernel_rfl) (Sound.lay (E := [some ⟨nums N, 3, false, true⟩]) [0] (toI_S N (by first | omega | assumption | (simp; done) | (simp; omega))) ⟨rdF false (flatNums _ _ _ _) rfl rfl, trivial⟩ rfl ⟨clF (flatNums _ _ _ _), trivial⟩ rfl (by first | rfl | simp [mpV, mpA, mpS, mpP, renId, shift]) rfl ⟨enF (flatNums _ _ _ _) (Or.inl rfl), trivial⟩) ?_
      refine rCall (v := .tuple #[.agg #[vI 0, vI 0, vI 0, .slice none 0 0], .bool false]) (args := [vI x, vI y, vI z, vS 6 N.length]) (by kernel_rfl) rfl (by kernel_rfl) (Sound.lay0 [6] (implStackHeap_no x y z N (by first | omega | assumption | (simp; done) | (simp; omega)) (by first | assumption | omega | rfl | decide | exact HeapL.list _ _ _ _ | exact HeapL.nil _ _ _ | exact HeapL.all _ _ _ | (apply HeapL.lt64 <;> assumption) | (repeat' (first | assumption | apply or_lt64 | apply and_lt64 | apply andn_lt64 | apply pow_lt64 | (apply HeapL.lt64 <;> assumption))))) ⟨rdF true (flatNums _ _ _ _) rfl rfl, trivial⟩ rfl ⟨clF (flatNums _ _ _ _), trivial⟩ rfl (by first | rfl | simp [mpV, mpA, mpS, mpP, renId, shift]) (by first | rfl | simp [mpV, mpA, mpS, mpP, renId, shift])) ?_
      refine segEnd [9, 10, 12, 15, 17, 18] (T1 := (mkT 108 [(9, vP 2 0), (10, .bool false), (12, vP 4 0), (15, vI 1), (17, vP 7 0), (18, .bool false)])) (H1 := [some ⟨nums N, 3, false, false⟩, some ⟨nums N, 3, false, true⟩, rB [vI 0, vI 0, vI 0, .slice none 0 0] 40, some ⟨nums (mkI 1 N.length), 3, false, true⟩, rB [vI 0, vI 0, vI 0, .slice none 0 0] 40, some ⟨nums N, 3, false, true⟩, some ⟨nums N, 3, false, true⟩, rB [vI 0, vI 0, vI 0, .slice none 0 0] 40]) (by kernel_rfl) ?_
      refine kSeq ?_
      refine cSeq ?_
      refine cSeq ?_
      refine cReg ?_
      refine segH 2 (T1 := (mkT 108 [(9, vP 2 0), (10, .bool false), (12, vP 4 0), (15, vI 1), (17, vP 7 0), (18, .bool false), (91, .agg #[vI 0, vI 0, vI 0, .slice none 0 0]), (92, .agg #[vI 0, vI 0, vI 0, .slice none 0 0])])) (by kernel_rfl) ?_
      refine rCall (v := .bool true) (args := [.agg #[vI 0, vI 0, vI 0, .slice none 0 0], .agg #[vI 0, vI 0, vI 0, .slice none 0 0]]) (by kernel_rfl) rfl (by kernel_rfl) (Sound.lay0 [] (eqHeapN) trivial rfl trivial rfl (by first | rfl | simp [mpV, mpA, mpS, mpP, renId, shift]) rfl) ?_
      refine segEndH [12, 15, 99] (T1 := (mkT 108 [(12, vP 4 0), (15, vI 1), (99, .bool false)])) (by kernel_rfl) ?_
      refine kSeq ?_
      refine cFalse (by kernel_rfl) ?_
      refine cSkip ?_
      refine kSeq ?_
      refine cSeq ?_
      refine cReg ?_
      refine segEndH [12, 15, 16] (T1 := (mkT 108 [(12, vP 4 0), (15, vI 1), (16, vI 1)])) (by kernel_rfl) ?_
      refine kSeq ?_
      refine cSeq ?_
      refine cReg ?_
      refine segH 2 (T1 := (mkT 108 [(12, vP 4 0), (15, vI 1), (16, vI 1), (100, .agg #[vI 0, vI 0, vI 0, .slice none 0 0]), (101, vI 1)])) (by kernel_rfl) ?_
      refine rCall (v := vI 1) (args := [.agg #[vI 0, vI 0, vI 0, .slice none 0 0], vI 1]) (by kernel_rfl) rfl (by kernel_rfl) (Sound.lay0 [] (heldHeapN) trivial rfl trivial rfl (by first | rfl | simp [mpV, mpA, mpS, mpP, renId, shift]) rfl) ?_
      refine segEndH [15, 16] (T1 := (mkT 108 [(15, vI 1), (16, vI 1)])) (by kernel_rfl) ?_
      refine kSeq ?_
      refine cSeq ?_
      refine cSeq ?_
      refine cReg ?_
      refine segEndH [15, 16, 104] (T1 := (mkT 108 [(15, vI 1), (16, vI 1), (104, .bool false)])) (by kernel_rfl) ?_
      refine kSeq ?_
      refine cFalse (by kernel_rfl) ?_
      refine cSkip ?_
      refine kSeq ?_
      refine cSeq ?_
      refine cSeq ?_
      refine cReg ?_
      refine segEndH [107] (T1 := (mkT 108 [(107, .bool false)])) (by kernel_rfl) ?_
      refine kSeq ?_
      refine cFalse (by kernel_rfl) ?_
      refine cSkip ?_
      refine kSeq ?_
      refine cSeq ?_
      refine cReg ?_
      refine segEndH [8] (T1 := (mkT 108 [(8, .bool true)])) (by kernel_rfl) ?_
      refine kSeq ?_
      refine cRet ?_
      -- end
      exact endQ (Or.inr rfl) (l := [.bool true]) [some ⟨nums N, 3, false, true⟩, rB [vI 0, vI 0, vI 0, .slice none 0 0] 40, some ⟨nums (mkI 1 N.length), 3, false, true⟩, rB [vI 0, vI 0, vI 0, .slice none 0 0] 40, some ⟨nums N, 3, false, true⟩, some ⟨nums N, 3, false, true⟩, rB [vI 0, vI 0, vI 0, .slice none 0 0] 40] (by kernel_rfl) (by first | rfl | kernel_rfl) rfl rfl hcl rfl
    ·
      (try simp only [Bool.not_eq_true', Bool.not_eq_false', decide_eq_true_eq, decide_eq_false_iff_not, beq_iff_eq, bne_iff_ne, beq_eq_false_iff_ne, bne_eq_false_iff_eq, ne_eq, Decidable.not_not, Bool.and_eq_true, Bool.and_eq_false_imp, Bool.or_eq_true, Bool.or_eq_false_iff, Bool.not_eq_true, Int.not_lt, Int.not_le, ge_iff_le, gt_iff_lt] at h2)
      exfalso; omega
  ·
    (try simp only [Bool.not_eq_true', Bool.not_eq_false', decide_eq_true_eq, decide_eq_false_iff_not, beq_iff_eq, bne_iff_ne, beq_eq_false_iff_ne, bne_eq_false_iff_eq, ne_eq, Decidable.not_not, Bool.and_eq_true, Bool.and_eq_false_imp, Bool.or_eq_true, Bool.or_eq_false_iff, Bool.not_eq_true, Int.not_lt, Int.not_le, ge_iff_le, gt_iff_lt] at h1)
    refine cTrue (by kernel_rfl) ?_
    refine cSeq ?_
    refine cReg ?_
    refine segEndH [8] (T1 := (mkT 108 [(8, .bool true)])) (by kernel_rfl) ?_
    refine kSeq ?_
    refine cRet ?_
    refine kSeqR ?_
    -- end
    exact endQ (Or.inr rfl) (l := [.bool true]) [] (by kernel_rfl) (by first | rfl | kernel_rfl) rfl rfl hcl rfl

set_option maxRecDepth 100000 in
set_option maxHeartbeats 4000000 in
theorem lawStackHeap_no_n (x : Int) (y : Int) (z : Int) (hv2 : valid3 x y z = false) : Sound Try.prog 7 [vI x, vI y, vI z, .slice none 0 0] [] (.bool true) [] := by
  refine sound_intro (C := cx) Try.func7 rfl (by kernel_rfl) fun hcl => ?_
  have hln : ([] : List Int).length ≤ 1048576 := by first | assumption | (simp; done)
  refine cSeq ?_
  refine cReg ?_
  refine segEndH [0, 1, 2, 3] (T1 := (mkT 108 [(0, vI x), (1, vI y), (2, vI z), (3, .slice none 0 0)])) (by kernel_rfl) ?_
  refine kSeq ?_
  refine cSeq ?_
  refine cSeq ?_
  refine cReg ?_
  refine segEndH [0, 1, 2, 3, 21] (T1 := (mkT 108 [(0, vI x), (1, vI y), (2, vI z), (3, .slice none 0 0), (21, .bool false)])) (by kernel_rfl) ?_
  refine kSeq ?_
  refine cFalse (by kernel_rfl) ?_
  refine cSkip ?_
  refine kSeq ?_
  refine cSeq ?_
  refine cReg ?_
  refine segH 4 (T1 := (mkT 108 [(0, vI x), (1, vI y), (2, vI z), (3, .slice none 0 0), (21, .bool false), (23, vI x), (24, vI y), (25, vI z), (26, .slice none 0 0)])) (by kernel_rfl) ?_
  refine rCall (v := vS 0 0) (args := [.slice none 0 0]) (by kernel_rfl) rfl (by kernel_rfl) (Sound.lay (E := [some ⟨nums ([] : List Int), 3, false, true⟩]) [] (toI_N) trivial rfl trivial rfl (by first | rfl | simp [mpV, mpA, mpS, mpP, renId, shift]) rfl ⟨enF (flatNums _ _ _ _) (Or.inl rfl), trivial⟩) ?_
  refine rCall (v := .tuple #[.agg #[vI 0, vI 0, vI 0, .slice none 0 0], .bool false]) (args := [vI x, vI y, vI z, vS 0 0]) (by kernel_rfl) rfl (by kernel_rfl) (Sound.lay0 [0] (specStackHeap_no x y z ([] : List Int) (by first | omega | assumption | (simp; done) | (simp; omega)) (by first | assumption | omega | rfl | decide | exact HeapL.list _ _ _ _ | exact HeapL.nil _ _ _ | exact HeapL.all _ _ _ | (apply HeapL.lt64 <;> assumption) | (repeat' (first | assumption | apply or_lt64 | apply and_lt64 | apply andn_lt64 | apply pow_lt64 | (apply HeapL.lt64 <;> assumption))))) ⟨rdF true (flatNums _ _ _ _) rfl rfl, trivial⟩ rfl ⟨clF (flatNums _ _ _ _), trivial⟩ rfl (by first | rfl | simp [mpV, mpA, mpS, mpP, renId, shift]) (by first | rfl | simp [mpV, mpA, mpS, mpP, renId, shift])) ?_
  refine segEnd [0, 1, 2, 3, 9, 10] (T1 := (mkT 108 [(0, vI x), (1, vI y), (2, vI z), (3, .slice none 0 0), (9, vP 1 0), (10, .bool false)])) (H1 := [some ⟨nums ([] : List Int), 3, false, true⟩, rB [vI 0, vI 0, vI 0, .slice none 0 0] 40]) (by kernel_rfl) ?_
  refine kSeq ?_
  refine cSeq ?_
  refine cReg ?_
  refine segH 1 (T1 := (mkT 108 [(0, vI x), (1, vI y), (2, vI z), (3, .slice none 0 0), (9, vP 1 0), (10, .bool false), (31, .slice none 0 0)])) (by kernel_rfl) ?_
  refine rCall (v := vS 2 0) (args := [.slice none 0 0]) (by kernel_rfl) rfl (by kernel_rfl) (Sound.lay (E := [some ⟨nums ([] : List Int), 3, false, true⟩]) [] (toI_N) trivial rfl trivial rfl (by first | rfl | simp [mpV, mpA, mpS, mpP, renId, shift]) rfl ⟨enF (flatNums _ _ _ _) (Or.inl rfl), trivial⟩) ?_
  refine segEnd [0, 1, 2, 3, 9, 10, 11] (T1 := (mkT 108 [(0, vI x), (1, vI y), (2, vI z), (3, .slice none 0 0), (9, vP 1 0), (10, .bool false), (11, vS 2 0)])) (H1 := [some ⟨nums ([] : List Int), 3, false, true⟩, rB [vI 0, vI 0, vI 0, .slice none 0 0] 40, some ⟨nums ([] : List Int), 3, false, true⟩]) (by kernel_rfl) ?_
  refine kSeq ?_
  refine cSeq ?_
  refine cReg ?_
  refine segH 4 (T1 := (mkT 108 [(0, vI x), (1, vI y), (2, vI z), (3, .slice none 0 0), (9, vP 1 0), (10, .bool false), (11, vS 2 0), (34, vI x), (35, vI y), (36, vI z), (37, vS 2 0)])) (by kernel_rfl) ?_
  refine rCall (v := .tuple #[.agg #[vI 0, vI 0, vI 0, .slice none 0 0], .bool false]) (args := [vI x, vI y, vI z, vS 2 0]) (by kernel_rfl) rfl (by kernel_rfl) (Sound.lay0 [2] (implStackHeap_no x y z ([] : List Int) (by first | omega | assumption | (simp; done) | (simp; omega)) (by first | assumption | omega | rfl | decide | exact HeapL.list _ _ _ _ | exact HeapL.nil _ _ _ | exact HeapL.all _ _ _ | (apply HeapL.lt64 <;> assumption) | (repeat' (first | assumption | apply or_lt64 | apply and_lt64 | apply andn_lt64 | apply pow_lt64 | (apply HeapL.lt64 <;> assumption))))) ⟨rdF true (flatNums _ _ _ _) rfl rfl, trivial⟩ rfl ⟨clF (flatNums _ _ _ _), trivial⟩ rfl (by first | rfl | simp [mpV, mpA, mpS, mpP, renId, shift]) (by first | rfl | simp [mpV, mpA, mpS, mpP, renId, shift])) ?_
  refine segEnd [0, 1, 2, 3, 9, 10, 11, 12, 13] (T1 := (mkT 108 [(0, vI x), (1, vI y), (2, vI z), (3, .slice none 0 0), (9, vP 1 0), (10, .bool false), (11, vS 2 0), (12, vP 3 0), (13, .bool false)])) (H1 := [some ⟨nums ([] : List Int), 3, false, true⟩, rB [vI 0, vI 0, vI 0, .slice none 0 0] 40, some ⟨nums ([] : List Int), 3, false, true⟩, rB [vI 0, vI 0, vI 0, .slice none 0 0] 40]) (by kernel_rfl) ?_
  refine kSeq ?_
  refine cSeq ?_
  refine cSeq ?_
  refine cReg ?_
  refine segH 2 (T1 := (mkT 108 [(0, vI x), (1, vI y), (2, vI z), (3, .slice none 0 0), (9, vP 1 0), (10, .bool false), (11, vS 2 0), (12, vP 3 0), (13, .bool false), (41, .agg #[vI 0, vI 0, vI 0, .slice none 0 0]), (42, .agg #[vI 0, vI 0, vI 0, .slice none 0 0])])) (by kernel_rfl) ?_
  refine rCall (v := .bool true) (args := [.agg #[vI 0, vI 0, vI 0, .slice none 0 0], .agg #[vI 0, vI 0, vI 0, .slice none 0 0]]) (by kernel_rfl) rfl (by kernel_rfl) (Sound.lay0 [] (eqHeapN) trivial rfl trivial rfl (by first | rfl | simp [mpV, mpA, mpS, mpP, renId, shift]) rfl) ?_
  refine segEndH [0, 1, 2, 3, 9, 10, 11, 12, 13, 49] (T1 := (mkT 108 [(0, vI x), (1, vI y), (2, vI z), (3, .slice none 0 0), (9, vP 1 0), (10, .bool false), (11, vS 2 0), (12, vP 3 0), (13, .bool false), (49, .bool false)])) (by kernel_rfl) ?_
  refine kSeq ?_
  refine cFalse (by kernel_rfl) ?_
  refine cSkip ?_
  refine kSeq ?_
  refine cSeq ?_
  refine cSeq ?_
  refine cReg ?_
  refine segH 2 (T1 := (mkT 108 [(0, vI x), (1, vI y), (2, vI z), (3, .slice none 0 0), (9, vP 1 0), (10, .bool false), (11, vS 2 0), (12, vP 3 0), (13, .bool false), (49, .bool false), (50, vS 2 0), (51, .slice none 0 0)])) (by kernel_rfl) ?_
  refine rCall (v := vS 4 0) (args := [.slice none 0 0]) (by kernel_rfl) rfl (by kernel_rfl) (Sound.lay (E := [some ⟨nums ([] : List Int), 3, false, true⟩]) [] (toI_N) trivial rfl trivial rfl (by first | rfl | simp [mpV, mpA, mpS, mpP, renId, shift]) rfl ⟨enF (flatNums _ _ _ _) (Or.inl rfl), trivial⟩) ?_
  refine rCall (v := .bool true) (args := [vS 2 0, vS 4 0]) (by kernel_rfl) rfl (by kernel_rfl) (Sound.lay0 [2, 4] (eqI_S ([] : List Int) (by first | omega | assumption | (simp; done) | (simp; omega))) ⟨rdF true (flatNums _ _ _ _) rfl rfl, ⟨rdF true (flatNums _ _ _ _) rfl rfl, trivial⟩⟩ rfl ⟨clF (flatNums _ _ _ _), ⟨clF (flatNums _ _ _ _), trivial⟩⟩ rfl (by first | rfl | simp [mpV, mpA, mpS, mpP, renId, shift]) rfl) ?_
  refine segEnd [0, 1, 2, 3, 9, 10, 11, 12, 13, 54] (T1 := (mkT 108 [(0, vI x), (1, vI y), (2, vI z), (3, .slice none 0 0), (9, vP 1 0), (10, .bool false), (11, vS 2 0), (12, vP 3 0), (13, .bool false), (54, .bool false)])) (H1 := [some ⟨nums ([] : List Int), 3, false, true⟩, rB [vI 0, vI 0, vI 0, .slice none 0 0] 40, some ⟨nums ([] : List Int), 3, false, true⟩, rB [vI 0, vI 0, vI 0, .slice none 0 0] 40, some ⟨nums ([] : List Int), 3, false, true⟩]) (by kernel_rfl) ?_
  refine kSeq ?_
  refine cFalse (by kernel_rfl) ?_
  refine cSkip ?_
  refine kSeq ?_
  refine cSeq ?_
  refine cReg ?_
  refine segEndH [0, 1, 2, 3, 9, 10, 11, 12, 13, 14] (T1 := (mkT 108 [(0, vI x), (1, vI y), (2, vI z), (3, .slice none 0 0), (9, vP 1 0), (10, .bool false), (11, vS 2 0), (12, vP 3 0), (13, .bool false), (14, vI 1)])) (by kernel_rfl) ?_
  refine kSeq ?_
  refine cSeq ?_
  refine cReg ?_
  refine segH 2 (T1 := (mkT 108 [(0, vI x), (1, vI y), (2, vI z), (3, .slice none 0 0), (9, vP 1 0), (10, .bool false), (11, vS 2 0), (12, vP 3 0), (13, .bool false), (14, vI 1), (55, vS 2 0), (56, vI 1)])) (by kernel_rfl) ?_
  refine rCall (v := vN (1 + ([] : List Int).length)) (args := [vS 2 0, vI 1]) (by kernel_rfl) rfl (by kernel_rfl) (Sound.emb_set (r := ⟨nums ([] : List Int), 3, false, true⟩) (r' := ⟨nums (mkI 1 ([] : List Int).length), 3, false, true⟩) 2 (markI_S ([] : List Int) 1 (by first | omega | assumption | (simp; done) | (simp; omega)) (by first | assumption | omega | rfl | decide | exact HeapL.list _ _ _ _ | exact HeapL.nil _ _ _ | exact HeapL.all _ _ _ | (apply HeapL.lt64 <;> assumption) | (repeat' (first | assumption | apply or_lt64 | apply and_lt64 | apply andn_lt64 | apply pow_lt64 | (apply HeapL.lt64 <;> assumption))))) (flatNums _ _ _ _) rfl (flatNums _ _ _ _) rfl rfl rfl (by first | rfl | simp [mpV, mpA, mpS, mpP, renId, shift]) rfl) ?_
  refine segEnd [0, 1, 2, 3, 9, 10, 12, 13, 14] (T1 := (mkT 108 [(0, vI x), (1, vI y), (2, vI z), (3, .slice none 0 0), (9, vP 1 0), (10, .bool false), (12, vP 3 0), (13, .bool false), (14, vN (1 + ([] : List Int).length))])) (H1 := [some ⟨nums ([] : List Int), 3, false, true⟩, rB [vI 0, vI 0, vI 0, .slice none 0 0] 40, some ⟨nums (mkI 1 ([] : List Int).length), 3, false, true⟩, rB [vI 0, vI 0, vI 0, .slice none 0 0] 40, some ⟨nums ([] : List Int), 3, false, true⟩]) (by kernel_rfl) ?_
  refine kSeq ?_
  refine cSeq ?_
  refine cSeq ?_
  refine cReg ?_
  refine segH 3 (T1 := (mkT 108 [(0, vI x), (1, vI y), (2, vI z), (3, .slice none 0 0), (9, vP 1 0), (10, .bool false), (12, vP 3 0), (13, .bool false), (14, vN (1 + ([] : List Int).length)), (58, vN (1 + ([] : List Int).length)), (59, .bool (decide (((1 + ([] : List Int).length : Nat) : Int) < 0))), (60, .bool (decide (((1 + ([] : List Int).length : Nat) : Int) < 0)))])) (by kernel_rfl) ?_
  cases h1 : (decide (((1 + ([] : List Int).length : Nat) : Int) < 0) : Bool)
  ·
    (try simp only [Bool.not_eq_true', Bool.not_eq_false', decide_eq_true_eq, decide_eq_false_iff_not, beq_iff_eq, bne_iff_ne, beq_eq_false_iff_ne, bne_eq_false_iff_eq, ne_eq, Decidable.not_not, Bool.and_eq_true, Bool.and_eq_false_imp, Bool.or_eq_true, Bool.or_eq_false_iff, Bool.not_eq_true, Int.not_lt, Int.not_le, ge_iff_le, gt_iff_lt] at h1)
    refine seg 2 (T1 := (mkT 108 [(0, vI x), (1, vI y), (2, vI z), (3, .slice none 0 0), (9, vP 1 0), (10, .bool false), (12, vP 3 0), (13, .bool false), (14, vN (1 + ([] : List Int).length)), (58, vN (1 + ([] : List Int).length)), (59, .bool false), (60, .bool false), (61, .agg #[vI 0, vI 0, vI 0, .slice none 0 0]), (62, .agg #[vI 0, vI 0, vI 0, .slice none 0 0])])) (H1 := [some ⟨nums ([] : List Int), 3, false, true⟩, rB [vI 0, vI 0, vI 0, .slice none 0 0] 40, some ⟨nums (mkI 1 ([] : List Int).length), 3, false, true⟩, rB [vI 0, vI 0, vI 0, .slice none 0 0] 40, some ⟨nums ([] : List Int), 3, false, true⟩]) (by kernel_rfl) ?_
    refine rCall (v := .bool true) (args := [.agg #[vI 0, vI 0, vI 0, .slice none 0 0], .agg #[vI 0, vI 0, vI 0, .slice none 0 0]]) (by kernel_rfl) rfl (by kernel_rfl) (Sound.lay0 [] (eqHeapN) trivial rfl trivial rfl (by first | rfl | simp [mpV, mpA, mpS, mpP, renId, shift]) rfl) ?_
    refine segEnd [0, 1, 2, 3, 9, 10, 12, 70] (T1 := (mkT 108 [(0, vI x), (1, vI y), (2, vI z), (3, .slice none 0 0), (9, vP 1 0), (10, .bool false), (12, vP 3 0), (70, .bool false)])) (H1 := [some ⟨nums ([] : List Int), 3, false, true⟩, rB [vI 0, vI 0, vI 0, .slice none 0 0] 40, some ⟨nums (mkI 1 ([] : List Int).length), 3, false, true⟩, rB [vI 0, vI 0, vI 0, .slice none 0 0] 40, some ⟨nums ([] : List Int), 3, false, true⟩]) (by kernel_rfl) ?_
    refine kSeq ?_
    refine cFalse (by kernel_rfl) ?_
    refine cSkip ?_
    refine kSeq ?_
    refine cSeq ?_
    refine cReg ?_
    refine segEndH [0, 1, 2, 3, 9, 10, 12, 15] (T1 := (mkT 108 [(0, vI x), (1, vI y), (2, vI z), (3, .slice none 0 0), (9, vP 1 0), (10, .bool false), (12, vP 3 0), (15, vI 1)])) (by kernel_rfl) ?_
    refine kSeq ?_
    refine cSeq ?_
    refine cReg ?_
    refine segH 2 (T1 := (mkT 108 [(0, vI x), (1, vI y), (2, vI z), (3, .slice none 0 0), (9, vP 1 0), (10, .bool false), (12, vP 3 0), (15, vI 1), (71, .agg #[vI 0, vI 0, vI 0, .slice none 0 0]), (72, vI 1)])) (by kernel_rfl) ?_
    refine rCall (v := vI 1) (args := [.agg #[vI 0, vI 0, vI 0, .slice none 0 0], vI 1]) (by kernel_rfl) rfl (by kernel_rfl) (Sound.lay0 [] (markHeapN 1) trivial rfl trivial rfl (by first | rfl | simp [mpV, mpA, mpS, mpP, renId, shift]) rfl) ?_
    refine segEndH [0, 1, 2, 3, 9, 10, 12, 15] (T1 := (mkT 108 [(0, vI x), (1, vI y), (2, vI z), (3, .slice none 0 0), (9, vP 1 0), (10, .bool false), (12, vP 3 0), (15, vI 1)])) (by kernel_rfl) ?_
    refine kSeq ?_
    refine cSeq ?_
    refine cReg ?_
    refine segEndH [0, 1, 2, 3, 9, 10, 12, 15, 16] (T1 := (mkT 108 [(0, vI x), (1, vI y), (2, vI z), (3, .slice none 0 0), (9, vP 1 0), (10, .bool false), (12, vP 3 0), (15, vI 1), (16, vI 1)])) (by kernel_rfl) ?_
    refine kSeq ?_
    refine cSeq ?_
    refine cReg ?_
    refine segH 2 (T1 := (mkT 108 [(0, vI x), (1, vI y), (2, vI z), (3, .slice none 0 0), (9, vP 1 0), (10, .bool false), (12, vP 3 0), (15, vI 1), (16, vI 1), (74, .agg #[vI 0, vI 0, vI 0, .slice none 0 0]), (75, vI 1)])) (by kernel_rfl) ?_
    refine rCall (v := vI 1) (args := [.agg #[vI 0, vI 0, vI 0, .slice none 0 0], vI 1]) (by kernel_rfl) rfl (by kernel_rfl) (Sound.lay0 [] (heldHeapN) trivial rfl trivial rfl (by first | rfl | simp [mpV, mpA, mpS, mpP, renId, shift]) rfl) ?_
    refine segEndH [0, 1, 2, 3, 9, 10, 12, 15, 16] (T1 := (mkT 108 [(0, vI x), (1, vI y), (2, vI z), (3, .slice none 0 0), (9, vP 1 0), (10, .bool false), (12, vP 3 0), (15, vI 1), (16, vI 1)])) (by kernel_rfl) ?_
    refine kSeq ?_
    refine cSeq ?_
    refine cSeq ?_
    refine cReg ?_
    refine segEndH [0, 1, 2, 3, 9, 10, 12, 15, 16, 78] (T1 := (mkT 108 [(0, vI x), (1, vI y), (2, vI z), (3, .slice none 0 0), (9, vP 1 0), (10, .bool false), (12, vP 3 0), (15, vI 1), (16, vI 1), (78, .bool false)])) (by kernel_rfl) ?_
    refine kSeq ?_
    refine cFalse (by kernel_rfl) ?_
    refine cSkip ?_
    refine kSeq ?_
    refine cSeq ?_
    refine cSeq ?_
    refine cReg ?_
    refine segEndH [0, 1, 2, 3, 9, 10, 12, 15, 81] (T1 := (mkT 108 [(0, vI x), (1, vI y), (2, vI z), (3, .slice none 0 0), (9, vP 1 0), (10, .bool false), (12, vP 3 0), (15, vI 1), (81, .bool false)])) (by kernel_rfl) ?_
    refine kSeq ?_
    refine cFalse (by kernel_rfl) ?_
    refine cSkip ?_
    refine kSeq ?_
    refine cSeq ?_
    refine cReg ?_
    refine segH 4 (T1 := (mkT 108 [(0, vI x), (1, vI y), (2, vI z), (3, .slice none 0 0), (9, vP 1 0), (10, .bool false), (12, vP 3 0), (15, vI 1), (81, .bool false), (83, vI x), (84, vI y), (85, vI z), (86, .slice none 0 0)])) (by kernel_rfl) ?_
    refine rCall (v := vS 5 0) (args := [.slice none 0 0]) (by kernel_rfl) rfl (by kernel_rfl) (Sound.lay (E := [some ⟨nums ([] : List Int), 3, false, true⟩]) [] (toI_N) trivial rfl trivial rfl (by first | rfl | simp [mpV, mpA, mpS, mpP, renId, shift]) rfl ⟨enF (flatNums _ _ _ _) (Or.inl rfl), trivial⟩) ?_
    refine rCall (v := .tuple #[.agg #[vI 0, vI 0, vI 0, .slice none 0 0], .bool false]) (args := [vI x, vI y, vI z, vS 5 0]) (by kernel_rfl) rfl (by kernel_rfl) (Sound.lay0 [5] (implStackHeap_no x y z ([] : List Int) (by first | omega | assumption | (simp; done) | (simp; omega)) (by first | assumption | omega | rfl | decide | exact HeapL.list _ _ _ _ | exact HeapL.nil _ _ _ | exact HeapL.all _ _ _ | (apply HeapL.lt64 <;> assumption) | (repeat' (first | assumption | apply or_lt64 | apply and_lt64 | apply andn_lt64 | apply pow_lt64 | (apply HeapL.lt64 <;> assumption))))) ⟨rdF true (flatNums _ _ _ _) rfl rfl, trivial⟩ rfl ⟨clF (flatNums _ _ _ _), trivial⟩ rfl (by first | rfl | simp [mpV, mpA, mpS, mpP, renId, shift]) (by first | rfl | simp [mpV, mpA, mpS, mpP, renId, shift])) ?_
    refine segEnd [9, 10, 12, 15, 17, 18] (T1 := (mkT 108 [(9, vP 1 0), (10, .bool false), (12, vP 3 0), (15, vI 1), (17, vP 6 0), (18, .bool false)])) (H1 := [some ⟨nums ([] : List Int), 3, false, true⟩, rB [vI 0, vI 0, vI 0, .slice none 0 0] 40, some ⟨nums (mkI 1 ([] : List Int).length), 3, false, true⟩, rB [vI 0, vI 0, vI 0, .slice none 0 0] 40, some ⟨nums ([] : List Int), 3, false, true⟩, some ⟨nums ([] : List Int), 3, false, true⟩, rB [vI 0, vI 0, vI 0, .slice none 0 0] 40]) (by kernel_rfl) ?_
    refine kSeq ?_
    refine cSeq ?_
    refine cSeq ?_
    refine cReg ?_
    refine segH 2 (T1 := (mkT 108 [(9, vP 1 0), (10, .bool false), (12, vP 3 0), (15, vI 1), (17, vP 6 0), (18, .bool false), (91, .agg #[vI 0, vI 0, vI 0, .slice none 0 0]), (92, .agg #[vI 0, vI 0, vI 0, .slice none 0 0])])) (by kernel_rfl) ?_
    refine rCall (v := .bool true) (args := [.agg #[vI 0, vI 0, vI 0, .slice none 0 0], .agg #[vI 0, vI 0, vI 0, .slice none 0 0]]) (by kernel_rfl) rfl (by kernel_rfl) (Sound.lay0 [] (eqHeapN) trivial rfl trivial rfl (by first | rfl | simp [mpV, mpA, mpS, mpP, renId, shift]) rfl) ?_
    refine segEndH [12, 15, 99] (T1 := (mkT 108 [(12, vP 3 0), (15, vI 1), (99, .bool false)])) (by kernel_rfl) ?_
    refine kSeq ?_
    refine cFalse (by kernel_rfl) ?_
    refine cSkip ?_
    refine kSeq ?_
    refine cSeq ?_
    refine cReg ?_
    refine segEndH [12, 15, 16] (T1 := (mkT 108 [(12, vP 3 0), (15, vI 1), (16, vI 1)])) (by kernel_rfl) ?_
    refine kSeq ?_
    refine cSeq ?_
    refine cReg ?_
    refine segH 2 (T1 := (mkT 108 [(12, vP 3 0), (15, vI 1), (16, vI 1), (100, .agg #[vI 0, vI 0, vI 0, .slice none 0 0]), (101, vI 1)])) (by kernel_rfl) ?_
    refine rCall (v := vI 1) (args := [.agg #[vI 0, vI 0, vI 0, .slice none 0 0], vI 1]) (by kernel_rfl) rfl (by kernel_rfl) (Sound.lay0 [] (heldHeapN) trivial rfl trivial rfl (by first | rfl | simp [mpV, mpA, mpS, mpP, renId, shift]) rfl) ?_
    refine segEndH [15, 16] (T1 := (mkT 108 [(15, vI 1), (16, vI 1)])) (by kernel_rfl) ?_
    refine kSeq ?_
    refine cSeq ?_
    refine cSeq ?_
    refine cReg ?_
    refine segEndH [15, 16, 104] (T1 := (mkT 108 [(15, vI 1), (16, vI 1), (104, .bool false)])) (by kernel_rfl) ?_
    refine kSeq ?_
    refine cFalse (by kernel_rfl) ?_
    refine cSkip ?_
    refine kSeq ?_
    refine cSeq ?_
    refine cSeq ?_
    refine cReg ?_
    refine segEndH [107] (T1 := (mkT 108 [(107, .bool false)])) (by kernel_rfl) ?_
    refine kSeq ?_
    refine cFalse (by kernel_rfl) ?_
    refine cSkip ?_
    refine kSeq ?_
    refine cSeq ?_
    refine cReg ?_
    refine segEndH [8] (T1 := (mkT 108 [(8, .bool true)])) (by kernel_rfl) ?_
    refine kSeq ?_
    refine cRet ?_
    -- end
    exact endQ (Or.inr rfl) (l := [.bool true]) [some ⟨nums ([] : List Int), 3, false, true⟩, rB [vI 0, vI 0, vI 0, .slice none 0 0] 40, some ⟨nums (mkI 1 ([] : List Int).length), 3, false, true⟩, rB [vI 0, vI 0, vI 0, .slice none 0 0] 40, some ⟨nums ([] : List Int), 3, false, true⟩, some ⟨nums ([] : List Int), 3, false, true⟩, rB [vI 0, vI 0, vI 0, .slice none 0 0] 40] (by kernel_rfl) (by first | rfl | kernel_rfl) rfl rfl hcl rfl
  ·
    (try simp only [Bool.not_eq_true', Bool.not_eq_false', decide_eq_true_eq, decide_eq_false_iff_not, beq_iff_eq, bne_iff_ne, beq_eq_false_iff_ne, bne_eq_false_iff_eq, ne_eq, Decidable.not_not, Bool.and_eq_true, Bool.and_eq_false_imp, Bool.or_eq_true, Bool.or_eq_false_iff, Bool.not_eq_true, Int.not_lt, Int.not_le, ge_iff_le, gt_iff_lt] at h1)
    exfalso; omega

set_option maxRecDepth 100000 in
set_option maxHeartbeats 4000000 in
theorem lawStackHeap_n2_s (X : Nat) (Y : Nat) (Z : Nat) (N : List Int) (hs : Sides X Y Z) (hl : N.length ≤ 1048576) (hnl : N.length ≠ X * Y) : Sound Try.prog 7 [vN X, vN Y, vN Z, vS 0 N.length] [some ⟨nums N, 3, false, false⟩] (.bool true) [some ⟨nums N, 3, false, false⟩] := by
  refine sound_intro (C := cx) Try.func7 rfl (by kernel_rfl) fun hcl => ?_
  have hln : N.length ≤ 1048576 := by first | assumption | (simp; done)
  refine cSeq ?_
  refine cReg ?_
  refine segEndH [0, 1, 2, 3] (T1 := (mkT 108 [(0, vN X), (1, vN Y), (2, vN Z), (3, vS 0 N.length)])) (by kernel_rfl) ?_
  refine kSeq ?_
  refine cSeq ?_
  refine cSeq ?_
  refine cReg ?_
  refine segEndH [0, 1, 2, 3, 21] (T1 := (mkT 108 [(0, vN X), (1, vN Y), (2, vN Z), (3, vS 0 N.length), (21, .bool (decide (((N.length : Nat) : Int) > 1048576)))])) (by kernel_rfl) ?_
  refine kSeq ?_
  cases h1 : (decide (((N.length : Nat) : Int) > 1048576) : Bool)
  ·
    (try simp only [Bool.not_eq_true', Bool.not_eq_false', decide_eq_true_eq, decide_eq_false_iff_not, beq_iff_eq, bne_iff_ne, beq_eq_false_iff_ne, bne_eq_false_iff_eq, ne_eq, Decidable.not_not, Bool.and_eq_true, Bool.and_eq_false_imp, Bool.or_eq_true, Bool.or_eq_false_iff, Bool.not_eq_true, Int.not_lt, Int.not_le, ge_iff_le, gt_iff_lt] at h1)
    refine cFalse (by kernel_rfl) ?_
    refine cSkip ?_
    refine kSeq ?_
    refine cSeq ?_
    refine cReg ?_
    refine segH 4 (T1 := (mkT 108 [(0, vN X), (1, vN Y), (2, vN Z), (3, vS 0 N.length), (21, .bool false), (23, vN X), (24, vN Y), (25, vN Z), (26, vS 0 N.length)])) (by kernel_rfl) ?_
    refine rCall (v := vS 1 N.length) (args := [vS 0 N.length]) (by kernel_rfl) rfl (by kernel_rfl) (Sound.lay (E := [some ⟨nums N, 3, false, true⟩]) [0] (toI_S N (by first | omega | assumption | (simp; done) | (simp; omega))) ⟨rdF false (flatNums _ _ _ _) rfl rfl, trivial⟩ rfl ⟨clF (flatNums _ _ _ _), trivial⟩ rfl (by first | rfl | simp [mpV, mpA, mpS, mpP, renId, shift]) rfl ⟨enF (flatNums _ _ _ _) (Or.inl rfl), trivial⟩) ?_
    refine rCall (v := .tuple #[.agg #[vI 0, vI 0, vI 0, .slice none 0 0], .bool false]) (args := [vN X, vN Y, vN Z, vS 1 N.length]) (by kernel_rfl) rfl (by kernel_rfl) (Sound.lay0 [1] (specStackHeap_n2 X Y Z N (by first | assumption | omega | rfl | decide | exact HeapL.list _ _ _ _ | exact HeapL.nil _ _ _ | exact HeapL.all _ _ _ | (apply HeapL.lt64 <;> assumption) | (repeat' (first | assumption | apply or_lt64 | apply and_lt64 | apply andn_lt64 | apply pow_lt64 | (apply HeapL.lt64 <;> assumption)))) (by first | omega | assumption | (simp; done) | (simp; omega)) (by first | assumption | omega | rfl | decide | exact HeapL.list _ _ _ _ | exact HeapL.nil _ _ _ | exact HeapL.all _ _ _ | (apply HeapL.lt64 <;> assumption) | (repeat' (first | assumption | apply or_lt64 | apply and_lt64 | apply andn_lt64 | apply pow_lt64 | (apply HeapL.lt64 <;> assumption))))) ⟨rdF true (flatNums _ _ _ _) rfl rfl, trivial⟩ rfl ⟨clF (flatNums _ _ _ _), trivial⟩ rfl (by first | rfl | simp [mpV, mpA, mpS, mpP, renId, shift]) (by first | rfl | simp [mpV, mpA, mpS, mpP, renId, shift])) ?_
    refine segEnd [0, 1, 2, 3, 9, 10] (T1 := (mkT 108 [(0, vN X), (1, vN Y), (2, vN Z), (3, vS 0 N.length), (9, vP 2 0), (10, .bool false)])) (H1 := [some ⟨nums N, 3, false, false⟩, some ⟨nums N, 3, false, true⟩, rB [vI 0, vI 0, vI 0, .slice none 0 0] 40]) (by kernel_rfl) ?_
    refine kSeq ?_
    refine cSeq ?_
    refine cReg ?_
    refine segH 1 (T1 := (mkT 108 [(0, vN X), (1, vN Y), (2, vN Z), (3, vS 0 N.length), (9, vP 2 0), (10, .bool false), (31, vS 0 N.length)])) (by kernel_rfl) ?_
    refine rCall (v := vS 3 N.length) (args := [vS 0 N.length]) (by kernel_rfl) rfl (by kernel_rfl) (Sound.lay (E := [some ⟨nums N, 3, false, true⟩]) [0] (toI_S N (by first | omega | assumption | (simp; done) | (simp; omega))) ⟨rdF false (flatNums _ _ _ _) rfl rfl, trivial⟩ rfl ⟨clF (flatNums _ _ _ _), trivial⟩ rfl (by first | rfl | simp [mpV, mpA, mpS, mpP, renId, shift]) rfl ⟨enF (flatNums _ _ _ _) (Or.inl rfl), trivial⟩) ?_
    refine segEnd [0, 1, 2, 3, 9, 10, 11] (T1 := (mkT 108 [(0, vN X), (1, vN Y), (2, vN Z), (3, vS 0 N.length), (9, vP 2 0), (10, .bool false), (11, vS 3 N.length)])) (H1 := [some ⟨nums N, 3, false, false⟩, some ⟨nums N, 3, false, true⟩, rB [vI 0, vI 0, vI 0, .slice none 0 0] 40, some ⟨nums N, 3, false, true⟩]) (by kernel_rfl) ?_
    refine kSeq ?_
    refine cSeq ?_
    refine cReg ?_
    refine segH 4 (T1 := (mkT 108 [(0, vN X), (1, vN Y), (2, vN Z), (3, vS 0 N.length), (9, vP 2 0), (10, .bool false), (11, vS 3 N.length), (34, vN X), (35, vN Y), (36, vN Z), (37, vS 3 N.length)])) (by kernel_rfl) ?_
    refine rCall (v := .tuple #[.agg #[vI 0, vI 0, vI 0, .slice none 0 0], .bool false]) (args := [vN X, vN Y, vN Z, vS 3 N.length]) (by kernel_rfl) rfl (by kernel_rfl) (Sound.lay0 [3] (implStackHeap_n2 X Y Z N (by first | assumption | omega | rfl | decide | exact HeapL.list _ _ _ _ | exact HeapL.nil _ _ _ | exact HeapL.all _ _ _ | (apply HeapL.lt64 <;> assumption) | (repeat' (first | assumption | apply or_lt64 | apply and_lt64 | apply andn_lt64 | apply pow_lt64 | (apply HeapL.lt64 <;> assumption)))) (by first | omega | assumption | (simp; done) | (simp; omega)) (by first | assumption | omega | rfl | decide | exact HeapL.list _ _ _ _ | exact HeapL.nil _ _ _ | exact HeapL.all _ _ _ | (apply HeapL.lt64 <;> assumption) | (repeat' (first | assumption | apply or_lt64 | apply and_lt64 | apply andn_lt64 | apply pow_lt64 | (apply HeapL.lt64 <;> assumption))))) ⟨rdF true (flatNums _ _ _ _) rfl rfl, trivial⟩ rfl ⟨clF (flatNums _ _ _ _), trivial⟩ rfl (by first | rfl | simp [mpV, mpA, mpS, mpP, renId, shift]) (by first | rfl | simp [mpV, mpA, mpS, mpP, renId, shift])) ?_
    refine segEnd [0, 1, 2, 3, 9, 10, 11, 12, 13] (T1 := (mkT 108 [(0, vN X), (1, vN Y), (2, vN Z), (3, vS 0 N.length), (9, vP 2 0), (10, .bool false), (11, vS 3 N.length), (12, vP 4 0), (13, .bool false)])) (H1 := [some ⟨nums N, 3, false, false⟩, some ⟨nums N, 3, false, true⟩, rB [vI 0, vI 0, vI 0, .slice none 0 0] 40, some ⟨nums N, 3, false, true⟩, rB [vI 0, vI 0, vI 0, .slice none 0 0] 40]) (by kernel_rfl) ?_
    refine kSeq ?_
    refine cSeq ?_
    refine cSeq ?_
    refine cReg ?_
    refine segH 2 (T1 := (mkT 108 [(0, vN X), (1, vN Y), (2, vN Z), (3, vS 0 N.length), (9, vP 2 0), (10, .bool false), (11, vS 3 N.length), (12, vP 4 0), (13, .bool false), (41, .agg #[vI 0, vI 0, vI 0, .slice none 0 0]), (42, .agg #[vI 0, vI 0, vI 0, .slice none 0 0])])) (by kernel_rfl) ?_
    refine rCall (v := .bool true) (args := [.agg #[vI 0, vI 0, vI 0, .slice none 0 0], .agg #[vI 0, vI 0, vI 0, .slice none 0 0]]) (by kernel_rfl) rfl (by kernel_rfl) (Sound.lay0 [] (eqHeapN) trivial rfl trivial rfl (by first | rfl | simp [mpV, mpA, mpS, mpP, renId, shift]) rfl) ?_
    refine segEndH [0, 1, 2, 3, 9, 10, 11, 12, 13, 49] (T1 := (mkT 108 [(0, vN X), (1, vN Y), (2, vN Z), (3, vS 0 N.length), (9, vP 2 0), (10, .bool false), (11, vS 3 N.length), (12, vP 4 0), (13, .bool false), (49, .bool false)])) (by kernel_rfl) ?_
    refine kSeq ?_
    refine cFalse (by kernel_rfl) ?_
    refine cSkip ?_
    refine kSeq ?_
    refine cSeq ?_
    refine cSeq ?_
    refine cReg ?_
    refine segH 2 (T1 := (mkT 108 [(0, vN X), (1, vN Y), (2, vN Z), (3, vS 0 N.length), (9, vP 2 0), (10, .bool false), (11, vS 3 N.length), (12, vP 4 0), (13, .bool false), (49, .bool false), (50, vS 3 N.length), (51, vS 0 N.length)])) (by kernel_rfl) ?_
    refine rCall (v := vS 5 N.length) (args := [vS 0 N.length]) (by kernel_rfl) rfl (by kernel_rfl) (Sound.lay (E := [some ⟨nums N, 3, false, true⟩]) [0] (toI_S N (by first | omega | assumption | (simp; done) | (simp; omega))) ⟨rdF false (flatNums _ _ _ _) rfl rfl, trivial⟩ rfl ⟨clF (flatNums _ _ _ _), trivial⟩ rfl (by first | rfl | simp [mpV, mpA, mpS, mpP, renId, shift]) rfl ⟨enF (flatNums _ _ _ _) (Or.inl rfl), trivial⟩) ?_
    refine rCall (v := .bool true) (args := [vS 3 N.length, vS 5 N.length]) (by kernel_rfl) rfl (by kernel_rfl) (Sound.lay0 [3, 5] (eqI_S N (by first | omega | assumption | (simp; done) | (simp; omega))) ⟨rdF true (flatNums _ _ _ _) rfl rfl, ⟨rdF true (flatNums _ _ _ _) rfl rfl, trivial⟩⟩ rfl ⟨clF (flatNums _ _ _ _), ⟨clF (flatNums _ _ _ _), trivial⟩⟩ rfl (by first | rfl | simp [mpV, mpA, mpS, mpP, renId, shift]) rfl) ?_
    refine segEnd [0, 1, 2, 3, 9, 10, 11, 12, 13, 54] (T1 := (mkT 108 [(0, vN X), (1, vN Y), (2, vN Z), (3, vS 0 N.length), (9, vP 2 0), (10, .bool false), (11, vS 3 N.length), (12, vP 4 0), (13, .bool false), (54, .bool false)])) (H1 := [some ⟨nums N, 3, false, false⟩, some ⟨nums N, 3, false, true⟩, rB [vI 0, vI 0, vI 0, .slice none 0 0] 40, some ⟨nums N, 3, false, true⟩, rB [vI 0, vI 0, vI 0, .slice none 0 0] 40, some ⟨nums N, 3, false, true⟩]) (by kernel_rfl) ?_
    refine kSeq ?_
    refine cFalse (by kernel_rfl) ?_
    refine cSkip ?_
    refine kSeq ?_
    refine cSeq ?_
    refine cReg ?_
    refine segEndH [0, 1, 2, 3, 9, 10, 11, 12, 13, 14] (T1 := (mkT 108 [(0, vN X), (1, vN Y), (2, vN Z), (3, vS 0 N.length), (9, vP 2 0), (10, .bool false), (11, vS 3 N.length), (12, vP 4 0), (13, .bool false), (14, vI 1)])) (by kernel_rfl) ?_
    refine kSeq ?_
    refine cSeq ?_
    refine cReg ?_
    refine segH 2 (T1 := (mkT 108 [(0, vN X), (1, vN Y), (2, vN Z), (3, vS 0 N.length), (9, vP 2 0), (10, .bool false), (11, vS 3 N.length), (12, vP 4 0), (13, .bool false), (14, vI 1), (55, vS 3 N.length), (56, vI 1)])) (by kernel_rfl) ?_
    refine rCall (v := vN (1 + N.length)) (args := [vS 3 N.length, vI 1]) (by kernel_rfl) rfl (by kernel_rfl) (Sound.emb_set (r := ⟨nums N, 3, false, true⟩) (r' := ⟨nums (mkI 1 N.length), 3, false, true⟩) 3 (markI_S N 1 (by first | omega | assumption | (simp; done) | (simp; omega)) (by first | assumption | omega | rfl | decide | exact HeapL.list _ _ _ _ | exact HeapL.nil _ _ _ | exact HeapL.all _ _ _ | (apply HeapL.lt64 <;> assumption) | (repeat' (first | assumption | apply or_lt64 | apply and_lt64 | apply andn_lt64 | apply pow_lt64 | (apply HeapL.lt64 <;> assumption))))) (flatNums _ _ _ _) rfl (flatNums _ _ _ _) rfl rfl rfl (by first | rfl | simp [mpV, mpA, mpS, mpP, renId, shift]) rfl) ?_
    refine segEnd [0, 1, 2, 3, 9, 10, 12, 13, 14] (T1 := (mkT 108 [(0, vN X), (1, vN Y), (2, vN Z), (3, vS 0 N.length), (9, vP 2 0), (10, .bool false), (12, vP 4 0), (13, .bool false), (14, vN (1 + N.length))])) (H1 := [some ⟨nums N, 3, false, false⟩, some ⟨nums N, 3, false, true⟩, rB [vI 0, vI 0, vI 0, .slice none 0 0] 40, some ⟨nums (mkI 1 N.length), 3, false, true⟩, rB [vI 0, vI 0, vI 0, .slice none 0 0] 40, some ⟨nums N, 3, false, true⟩]) (by kernel_rfl) ?_
    refine kSeq ?_
    refine cSeq ?_
    refine cSeq ?_
    refine cReg ?_
    refine segH 3 (T1 := (mkT 108 [(0, vN X), (1, vN Y), (2, vN Z), (3, vS 0 N.length), (9, vP 2 0), (10, .bool false), (12, vP 4 0), (13, .bool false), (14, vN (1 + N.length)), (58, vN (1 + N.length)), (59, .bool (decide (((1 + N.length : Nat) : Int) < 0))), (60, .bool (decide (((1 + N.length : Nat) : Int) < 0)))])) (by kernel_rfl) ?_
    cases h2 : (decide (((1 + N.length : Nat) : Int) < 0) : Bool)
    ·
      (try simp only [Bool.not_eq_true', Bool.not_eq_false', decide_eq_true_eq, decide_eq_false_iff_not, beq_iff_eq, bne_iff_ne, beq_eq_false_iff_ne, bne_eq_false_iff_eq, ne_eq, Decidable.not_not, Bool.and_eq_true, Bool.and_eq_false_imp, Bool.or_eq_true, Bool.or_eq_false_iff, Bool.not_eq_true, Int.not_lt, Int.not_le, ge_iff_le, gt_iff_lt] at h2)
      refine seg 2 (T1 := (mkT 108 [(0, vN X), (1, vN Y), (2, vN Z), (3, vS 0 N.length), (9, vP 2 0), (10, .bool false), (12, vP 4 0), (13, .bool false), (14, vN (1 + N.length)), (58, vN (1 + N.length)), (59, .bool false), (60, .bool false), (61, .agg #[vI 0, vI 0, vI 0, .slice none 0 0]), (62, .agg #[vI 0, vI 0, vI 0, .slice none 0 0])])) (H1 := [some ⟨nums N, 3, false, false⟩, some ⟨nums N, 3, false, true⟩, rB [vI 0, vI 0, vI 0, .slice none 0 0] 40, some ⟨nums (mkI 1 N.length), 3, false, true⟩, rB [vI 0, vI 0, vI 0, .slice none 0 0] 40, some ⟨nums N, 3, false, true⟩]) (by kernel_rfl) ?_
      refine rCall (v := .bool true) (args := [.agg #[vI 0, vI 0, vI 0, .slice none 0 0], .agg #[vI 0, vI 0, vI 0, .slice none 0 0]]) (by kernel_rfl) rfl (by kernel_rfl) (Sound.lay0 [] (eqHeapN) trivial rfl trivial rfl (by first | rfl | simp [mpV, mpA, mpS, mpP, renId, shift]) rfl) ?_
      refine segEnd [0, 1, 2, 3, 9, 10, 12, 70] (T1 := (mkT 108 [(0, vN X), (1, vN Y), (2, vN Z), (3, vS 0 N.length), (9, vP 2 0), (10, .bool false), (12, vP 4 0), (70, .bool false)])) (H1 := [some ⟨nums N, 3, false, false⟩, some ⟨nums N, 3, false, true⟩, rB [vI 0, vI 0, vI 0, .slice none 0 0] 40, some ⟨nums (mkI 1 N.length), 3, false, true⟩, rB [vI 0, vI 0, vI 0, .slice none 0 0] 40, some ⟨nums N, 3, false, true⟩]) (by kernel_rfl) ?_
      refine kSeq ?_
      refine cFalse (by kernel_rfl) ?_
      refine cSkip ?_
      refine kSeq ?_
      refine cSeq ?_
      refine cReg ?_
      refine segEndH [0, 1, 2, 3, 9, 10, 12, 15] (T1 := (mkT 108 [(0, vN X), (1, vN Y), (2, vN Z), (3, vS 0 N.length), (9, vP 2 0), (10, .bool false), (12, vP 4 0), (15, vI 1)])) (by kernel_rfl) ?_
      refine kSeq ?_
      refine cSeq ?_
      refine cReg ?_
      refine segH 2 (T1 := (mkT 108 [(0, vN X), (1, vN Y), (2, vN Z), (3, vS 0 N.length), (9, vP 2 0), (10, .bool false), (12, vP 4 0), (15, vI 1), (71, .agg #[vI 0, vI 0, vI 0, .slice none 0 0]), (72, vI 1)])) (by kernel_rfl) ?_
      refine rCall (v := vI 1) (args := [.agg #[vI 0, vI 0, vI 0, .slice none 0 0], vI 1]) (by kernel_rfl) rfl (by kernel_rfl) (Sound.lay0 [] (markHeapN 1) trivial rfl trivial rfl (by first | rfl | simp [mpV, mpA, mpS, mpP, renId, shift]) rfl) ?_
      refine segEndH [0, 1, 2, 3, 9, 10, 12, 15] (T1 := (mkT 108 [(0, vN X), (1, vN Y), (2, vN Z), (3, vS 0 N.length), (9, vP 2 0), (10, .bool false), (12, vP 4 0), (15, vI 1)])) (by kernel_rfl) ?_
      refine kSeq ?_
      refine cSeq ?_
      refine cReg ?_
      refine segEndH [0, 1, 2, 3, 9, 10, 12, 15, 16] (T1 := (mkT 108 [(0, vN X), (1, vN Y), (2, vN Z), (3, vS 0 N.length), (9, vP 2 0), (10, .bool false), (12, vP 4 0), (15, vI 1), (16, vI 1)])) (by kernel_rfl) ?_
      refine kSeq ?_
      refine cSeq ?_
      refine cReg ?_
      refine segH 2 (T1 := (mkT 108 [(0, vN X), (1, vN Y), (2, vN Z), (3, vS 0 N.length), (9, vP 2 0), (10, .bool false), (12, vP 4 0), (15, vI 1), (16, vI 1), (74, .agg #[vI 0, vI 0, vI 0, .slice none 0 0]), (75, vI 1)])) (by kernel_rfl) ?_
      refine rCall (v := vI 1) (args := [.agg #[vI 0, vI 0, vI 0, .slice none 0 0], vI 1]) (by kernel_rfl) rfl (by kernel_rfl) (Sound.lay0 [] (heldHeapN) trivial rfl trivial rfl (by first | rfl | simp [mpV, mpA, mpS, mpP, renId, shift]) rfl) ?_
      refine segEndH [0, 1, 2, 3, 9, 10, 12, 15, 16] (T1 := (mkT 108 [(0, vN X), (1, vN Y), (2, vN Z), (3, vS 0 N.length), (9, vP 2 0), (10, .bool false), (12, vP 4 0), (15, vI 1), (16, vI 1)])) (by kernel_rfl) ?_
      refine kSeq ?_
      refine cSeq ?_
      refine cSeq ?_
      refine cReg ?_
      refine segEndH [0, 1, 2, 3, 9, 10, 12, 15, 16, 78] (T1 := (mkT 108 [(0, vN X), (1, vN Y), (2, vN Z), (3, vS 0 N.length), (9, vP 2 0), (10, .bool false), (12, vP 4 0), (15, vI 1), (16, vI 1), (78, .bool false)])) (by kernel_rfl) ?_
      refine kSeq ?_
      refine cFalse (by kernel_rfl) ?_
      refine cSkip ?_
      refine kSeq ?_
      refine cSeq ?_
      refine cSeq ?_
      refine cReg ?_
      refine segEndH [0, 1, 2, 3, 9, 10, 12, 15, 81] (T1 := (mkT 108 [(0, vN X), (1, vN Y), (2, vN Z), (3, vS 0 N.length), (9, vP 2 0), (10, .bool false), (12, vP 4 0), (15, vI 1), (81, .bool false)])) (by kernel_rfl) ?_
      refine kSeq ?_
      refine cFalse (by kernel_rfl) ?_
      refine cSkip ?_
      refine kSeq ?_
      refine cSeq ?_
      refine cReg ?_
      refine segH 4 (T1 := (mkT 108 [(0, vN X), (1, vN Y), (2, vN Z), (3, vS 0 N.length), (9, vP 2 0), (10, .bool false), (12, vP 4 0), (15, vI 1), (81, .bool false), (83, vN X), (84, vN Y), (85, vN Z), (86, vS 0 N.length)])) (by kernel_rfl) ?_
      refine rCall (v := vS 6 N.length) (args := [vS 0 N.length]) (by kernel_rfl) rfl (by kernel_rfl) (Sound.lay (E := [some ⟨nums N, 3, false, true⟩]) [0] (toI_S N (by first | omega | assumption | (simp; done) | (simp; omega))) ⟨rdF false (flatNums _ _ _ _) rfl rfl, trivial⟩ rfl ⟨clF (flatNums _ _ _ _), trivial⟩ rfl (by first | rfl | simp [mpV, mpA, mpS, mpP, renId, shift]) rfl ⟨enF (flatNums _ _ _ _) (Or.inl rfl), trivial⟩) ?_
      refine rCall (v := .tuple #[.agg #[vI 0, vI 0, vI 0, .slice none 0 0], .bool false]) (args := [vN X, vN Y, vN Z, vS 6 N.length]) (by kernel_rfl) rfl (by kernel_rfl) (Sound.lay0 [6] (implStackHeap_n2 X Y Z N (by first | assumption | omega | rfl | decide | exact HeapL.list _ _ _ _ | exact HeapL.nil _ _ _ | exact HeapL.all _ _ _ | (apply HeapL.lt64 <;> assumption) | (repeat' (first | assumption | apply or_lt64 | apply and_lt64 | apply andn_lt64 | apply pow_lt64 | (apply HeapL.lt64 <;> assumption)))) (by first | omega | assumption | (simp; done) | (simp; omega)) (by first | assumption | omega | rfl | decide | exact HeapL.list _ _ _ _ | exact HeapL.nil _ _ _ | exact HeapL.all _ _ _ | (apply HeapL.lt64 <;> assumption) | (repeat' (first | assumption | apply or_lt64 | apply and_lt64 | apply andn_lt64 | apply pow_lt64 | (apply HeapL.lt64 <;> assumption))))) ⟨rdF true (flatNums _ _ _ _) rfl rfl, trivial⟩ rfl ⟨clF (flatNums _ _ _ _), trivial⟩ rfl (by first | rfl | simp [mpV, mpA, mpS, mpP, renId, shift]) (by first | rfl | simp [mpV, mpA, mpS, mpP, renId, shift])) ?_
      refine segEnd [9, 10, 12, 15, 17, 18] (T1 := (mkT 108 [(9, vP 2 0), (10, .bool false), (12, vP 4 0), (15, vI 1), (17, vP 7 0), (18, .bool false)])) (H1 := [some ⟨nums N, 3, false, false⟩, some ⟨nums N, 3, false, true⟩, rB [vI 0, vI 0, vI 0, .slice none 0 0] 40, some ⟨nums (mkI 1 N.length), 3, false, true⟩, rB [vI 0, vI 0, vI 0, .slice none 0 0] 40, some ⟨nums N, 3, false, true⟩, some ⟨nums N, 3, false, true⟩, rB [vI 0, vI 0, vI 0, .slice none 0 0] 40]) (by kernel_rfl) ?_
      refine kSeq ?_
      refine cSeq ?_
      refine cSeq ?_
      refine cReg ?_
      refine segH 2 (T1 := (mkT 108 [(9, vP 2 0), (10, .bool false), (12, vP 4 0), (15, vI 1), (17, vP 7 0), (18, .bool false), (91, .agg #[vI 0, vI 0, vI 0, .slice none 0 0]), (92, .agg #[vI 0, vI 0, vI 0, .slice none 0 0])])) (by kernel_rfl) ?_
      refine rCall (v := .bool true) (args := [.agg #[vI 0, vI 0, vI 0, .slice none 0 0], .agg #[vI 0, vI 0, vI 0, .slice none 0 0]]) (by kernel_rfl) rfl (by kernel_rfl) (Sound.lay0 [] (eqHeapN) trivial rfl trivial rfl (by first | rfl | simp [mpV, mpA, mpS, mpP, renId, shift]) rfl) ?_
      refine segEndH [12, 15, 99] (T1 := (mkT 108 [(12, vP 4 0), (15, vI 1), (99, .bool false)])) (by kernel_rfl) ?_
      refine kSeq ?_
      refine cFalse (by kernel_rfl) ?_
      refine cSkip ?_
      refine kSeq ?_
      refine cSeq ?_
      refine cReg ?_
      refine segEndH [12, 15, 16] (T1 := (mkT 108 [(12, vP 4 0), (15, vI 1), (16, vI 1)])) (by kernel_rfl) ?_
      refine kSeq ?_
      refine cSeq ?_
      refine cReg ?_
      refine segH 2 (T1 := (mkT 108 [(12, vP 4 0), (15, vI 1), (16, vI 1), (100, .agg #[vI 0, vI 0, vI 0, .slice none 0 0]), (101, vI 1)])) (by kernel_rfl) ?_
      refine rCall (v := vI 1) (args := [.agg #[vI 0, vI 0, vI 0, .slice none 0 0], vI 1]) (by kernel_rfl) rfl (by kernel_rfl) (Sound.lay0 [] (heldHeapN) trivial rfl trivial rfl (by first | rfl | simp [mpV, mpA, mpS, mpP, renId, shift]) rfl) ?_
      refine segEndH [15, 16] (T1 := (mkT 108 [(15, vI 1), (16, vI 1)])) (by kernel_rfl) ?_
      refine kSeq ?_
      refine cSeq ?_
      refine cSeq ?_
      refine cReg ?_
      refine segEndH [15, 16, 104] (T1 := (mkT 108 [(15, vI 1), (16, vI 1), (104, .bool false)])) (by kernel_rfl) ?_
      refine kSeq ?_
      refine cFalse (by kernel_rfl) ?_
      refine cSkip ?_
      refine kSeq ?_
      refine cSeq ?_
      refine cSeq ?_
      refine cReg ?_
      refine segEndH [107] (T1 := (mkT 108 [(107, .bool false)])) (by kernel_rfl) ?_
      refine kSeq ?_
      refine cFalse (by kernel_rfl) ?_
      refine cSkip ?_
      refine kSeq ?_
      refine cSeq ?_
      refine cReg ?_
      refine segEndH [8] (T1 := (mkT 108 [(8, .bool true)])) (by kernel_rfl) ?_
      refine kSeq ?_
      refine cRet ?_
      -- end
      exact endQ (Or.inr rfl) (l := [.bool true]) [some ⟨nums N, 3, false, true⟩, rB [vI 0, vI 0, vI 0, .slice none 0 0] 40, some ⟨nums (mkI 1 N.length), 3, false, true⟩, rB [vI 0, vI 0, vI 0, .slice none 0 0] 40, some ⟨nums N, 3, false, true⟩, some ⟨nums N, 3, false, true⟩, rB [vI 0, vI 0, vI 0, .slice none 0 0] 40] (by kernel_rfl) (by first | rfl | kernel_rfl) rfl rfl hcl rfl
    ·
      (try simp only [Bool.not_eq_true', Bool.not_eq_false', decide_eq_true_eq, decide_eq_false_iff_not, beq_iff_eq, bne_iff_ne, beq_eq_false_iff_ne, bne_eq_false_iff_eq, ne_eq, Decidable.not_not, Bool.and_eq_true, Bool.and_eq_false_imp, Bool.or_eq_true, Bool.or_eq_false_iff, Bool.not_eq_true, Int.not_lt, Int.not_le, ge_iff_le, gt_iff_lt] at h2)
      exfalso; omega
  ·
    (try simp only [Bool.not_eq_true', Bool.not_eq_false', decide_eq_true_eq, decide_eq_false_iff_not, beq_iff_eq, bne_iff_ne, beq_eq_false_iff_ne, bne_eq_false_iff_eq, ne_eq, Decidable.not_not, Bool.and_eq_true, Bool.and_eq_false_imp, Bool.or_eq_true, Bool.or_eq_false_iff, Bool.not_eq_true, Int.not_lt, Int.not_le, ge_iff_le, gt_iff_lt] at h1)
    refine cTrue (by kernel_rfl) ?_
    refine cSeq ?_
    refine cReg ?_
    refine segEndH [8] (T1 := (mkT 108 [(8, .bool true)])) (by kernel_rfl) ?_
    refine kSeq ?_
    refine cRet ?_
    refine kSeqR ?_
    -- end
    exact endQ (Or.inr rfl) (l := [.bool true]) [] (by kernel_rfl) (by first | rfl | kernel_rfl) rfl rfl hcl rfl

set_option maxRecDepth 100000 in
set_option maxHeartbeats 4000000 in
theorem lawStackHeap_n2_n (X : Nat) (Y : Nat) (Z : Nat) (hs : Sides X Y Z) (hnl : ([] : List Int).length ≠ X * Y) : Sound Try.prog 7 [vN X, vN Y, vN Z, .slice none 0 0] [] (.bool true) [] := by
  refine sound_intro (C := cx) Try.func7 rfl (by kernel_rfl) fun hcl => ?_
  have hln : ([] : List Int).length ≤ 1048576 := by first | assumption | (simp; done)
  refine cSeq ?_
  refine cReg ?_
  refine segEndH [0, 1, 2, 3] (T1 := (mkT 108 [(0, vN X), (1, vN Y), (2, vN Z), (3, .slice none 0 0)])) (by kernel_rfl) ?_
  refine kSeq ?_
  refine cSeq ?_
  refine cSeq ?_
  refine cReg ?_
  refine segEndH [0, 1, 2, 3, 21] (T1 := (mkT 108 [(0, vN X), (1, vN Y), (2, vN Z), (3, .slice none 0 0), (21, .bool false)])) (by kernel_rfl) ?_
  refine kSeq ?_
  refine cFalse (by kernel_rfl) ?_
  refine cSkip ?_
  refine kSeq ?_
  refine cSeq ?_
  refine cReg ?_
  refine segH 4 (T1 := (mkT 108 [(0, vN X), (1, vN Y), (2, vN Z), (3, .slice none 0 0), (21, .bool false), (23, vN X), (24, vN Y), (25, vN Z), (26, .slice none 0 0)])) (by kernel_rfl) ?_
  refine rCall (v := vS 0 0) (args := [.slice none 0 0]) (by kernel_rfl) rfl (by kernel_rfl) (Sound.lay (E := [some ⟨nums ([] : List Int), 3, false, true⟩]) [] (toI_N) trivial rfl trivial rfl (by first | rfl | simp [mpV, mpA, mpS, mpP, renId, shift]) rfl ⟨enF (flatNums _ _ _ _) (Or.inl rfl), trivial⟩) ?_
  refine rCall (v := .tuple #[.agg #[vI 0, vI 0, vI 0, .slice none 0 0], .bool false]) (args := [vN X, vN Y, vN Z, vS 0 0]) (by kernel_rfl) rfl (by kernel_rfl) (Sound.lay0 [0] (specStackHeap_n2 X Y Z ([] : List Int) (by first | assumption | omega | rfl | decide | exact HeapL.list _ _ _ _ | exact HeapL.nil _ _ _ | exact HeapL.all _ _ _ | (apply HeapL.lt64 <;> assumption) | (repeat' (first | assumption | apply or_lt64 | apply and_lt64 | apply andn_lt64 | apply pow_lt64 | (apply HeapL.lt64 <;> assumption)))) (by first | omega | assumption | (simp; done) | (simp; omega)) (by first | assumption | omega | rfl | decide | exact HeapL.list _ _ _ _ | exact HeapL.nil _ _ _ | exact HeapL.all _ _ _ | (apply HeapL.lt64 <;> assumption) | (repeat' (first | assumption | apply or_lt64 | apply and_lt64 | apply andn_lt64 | apply pow_lt64 | (apply HeapL.lt64 <;> assumption))))) ⟨rdF true (flatNums _ _ _ _) rfl rfl, trivial⟩ rfl ⟨clF (flatNums _ _ _ _), trivial⟩ rfl (by first | rfl | simp [mpV, mpA, mpS, mpP, renId, shift]) (by first | rfl | simp [mpV, mpA, mpS, mpP, renId, shift])) ?_
  refine segEnd [0, 1, 2, 3, 9, 10] (T1 := (mkT 108 [(0, vN X), (1, vN Y), (2, vN Z), (3, .slice none 0 0), (9, vP 1 0), (10, .bool false)])) (H1 := [some ⟨nums ([] : List Int), 3, false, true⟩, rB [vI 0, vI 0, vI 0, .slice none 0 0] 40]) (by kernel_rfl) ?_
  refine kSeq ?_
  refine cSeq ?_
  refine cReg ?_
  refine segH 1 (T1 := (mkT 108 [(0, vN X), (1, vN Y), (2, vN Z), (3, .slice none 0 0), (9, vP 1 0), (10, .bool false), (31, .slice none 0 0)])) (by kernel_rfl) ?_
  refine rCall (v := vS 2 0) (args := [.slice none 0 0]) (by kernel_rfl) rfl (by kernel_rfl) (Sound.lay (E := [some ⟨nums ([] : List Int), 3, false, true⟩]) [] (toI_N) trivial rfl trivial rfl (by first | rfl | simp [mpV, mpA, mpS, mpP, renId, shift]) rfl ⟨enF (flatNums _ _ _ _) (Or.inl rfl), trivial⟩) ?_
  refine segEnd [0, 1, 2, 3, 9, 10, 11] (T1 := (mkT 108 [(0, vN X), (1, vN Y), (2, vN Z), (3, .slice none 0 0), (9, vP 1 0), (10, .bool false), (11, vS 2 0)])) (H1 := [some ⟨nums ([] : List Int), 3, false, true⟩, rB [vI 0, vI 0, vI 0, .slice none 0 0] 40, some ⟨nums ([] : List Int), 3, false, true⟩]) (by kernel_rfl) ?_
  refine kSeq ?_
  refine cSeq ?_
  refine cReg ?_
  refine segH 4 (T1 := (mkT 108 [(0, vN X), (1, vN Y), (2, vN Z), (3, .slice none 0 0), (9, vP 1 0), (10, .bool false), (11, vS 2 0), (34, vN X), (35, vN Y), (36, vN Z), (37, vS 2 0)])) (by kernel_rfl) ?_
  refine rCall (v := .tuple #[.agg #[vI 0, vI 0, vI 0, .slice none 0 0], .bool false]) (args := [vN X, vN Y, vN Z, vS 2 0]) (by kernel_rfl) rfl (by kernel_rfl) (Sound.lay0 [2] (implStackHeap_n2 X Y Z ([] : List Int) (by first | assumption | omega | rfl | decide | exact HeapL.list _ _ _ _ | exact HeapL.nil _ _ _ | exact HeapL.all _ _ _ | (apply HeapL.lt64 <;> assumption) | (repeat' (first | assumption | apply or_lt64 | apply and_lt64 | apply andn_lt64 | apply pow_lt64 | (apply HeapL.lt64 <;> assumption)))) (by first | omega | assumption | (simp; done) | (simp; omega)) (by first | assumption | omega | rfl | decide | exact HeapL.list _ _ _ _ | exact HeapL.nil _ _ _ | exact HeapL.all _ _ _ | (apply HeapL.lt64 <;> assumption) | (repeat' (first | assumption | apply or_lt64 | apply and_lt64 | apply andn_lt64 | apply pow_lt64 | (apply HeapL.lt64 <;> assumption))))) ⟨rdF true (flatNums _ _ _ _) rfl rfl, trivial⟩ rfl ⟨clF (flatNums _ _ _ _), trivial⟩ rfl (by first | rfl | simp [mpV, mpA, mpS, mpP, renId, shift]) (by first | rfl | simp [mpV, mpA, mpS, mpP, renId, shift])) ?_
  refine segEnd [0, 1, 2, 3, 9, 10, 11, 12, 13] (T1 := (mkT 108 [(0, vN X), (1, vN Y), (2, vN Z), (3, .slice none 0 0), (9, vP 1 0), (10, .bool false), (11, vS 2 0), (12, vP 3 0), (13, .bool false)])) (H1 := [some ⟨nums ([] : List Int), 3, false, true⟩, rB [vI 0, vI 0, vI 0, .slice none 0 0] 40, some ⟨nums ([] : List Int), 3, false, true⟩, rB [vI 0, vI 0, vI 0, .slice none 0 0] 40]) (by kernel_rfl) ?_
  refine kSeq ?_
  refine cSeq ?_
  refine cSeq ?_
  refine cReg ?_
  refine segH 2 (T1 := (mkT 108 [(0, vN X), (1, vN Y), (2, vN Z), (3, .slice none 0 0), (9, vP 1 0), (10, .bool false), (11, vS 2 0), (12, vP 3 0), (13, .bool false), (41, .agg #[vI 0, vI 0, vI 0, .slice none 0 0]), (42, .agg #[vI 0, vI 0, vI 0, .slice none 0 0])])) (by kernel_rfl) ?_
  refine rCall (v := .bool true) (args := [.agg #[vI 0, vI 0, vI 0, .slice none 0 0], .agg #[vI 0, vI 0, vI 0, .slice none 0 0]]) (by kernel_rfl) rfl (by kernel_rfl) (Sound.lay0 [] (eqHeapN) trivial rfl trivial rfl (by first | rfl | simp [mpV, mpA, mpS, mpP, renId, shift]) rfl) ?_
  refine segEndH [0, 1, 2, 3, 9, 10, 11, 12, 13, 49] (T1 := (mkT 108 [(0, vN X), (1, vN Y), (2, vN Z), (3, .slice none 0 0), (9, vP 1 0), (10, .bool false), (11, vS 2 0), (12, vP 3 0), (13, .bool false), (49, .bool false)])) (by kernel_rfl) ?_
  refine kSeq ?_
  refine cFalse (by kernel_rfl) ?_
  refine cSkip ?_
  refine kSeq ?_
  refine cSeq ?_
  refine cSeq ?_
  refine cReg ?_
  refine segH 2 (T1 := (mkT 108 [(0, vN X), (1, vN Y), (2, vN Z), (3, .slice none 0 0), (9, vP 1 0), (10, .bool false), (11, vS 2 0), (12, vP 3 0), (13, .bool false), (49, .bool false), (50, vS 2 0), (51, .slice none 0 0)])) (by kernel_rfl) ?_
  refine rCall (v := vS 4 0) (args := [.slice none 0 0]) (by kernel_rfl) rfl (by kernel_rfl) (Sound.lay (E := [some ⟨nums ([] : List Int), 3, false, true⟩]) [] (toI_N) trivial rfl trivial rfl (by first | rfl | simp [mpV, mpA, mpS, mpP, renId, shift]) rfl ⟨enF (flatNums _ _ _ _) (Or.inl rfl), trivial⟩) ?_
  refine rCall (v := .bool true) (args := [vS 2 0, vS 4 0]) (by kernel_rfl) rfl (by kernel_rfl) (Sound.lay0 [2, 4] (eqI_S ([] : List Int) (by first | omega | assumption | (simp; done) | (simp; omega))) ⟨rdF true (flatNums _ _ _ _) rfl rfl, ⟨rdF true (flatNums _ _ _ _) rfl rfl, trivial⟩⟩ rfl ⟨clF (flatNums _ _ _ _), ⟨clF (flatNums _ _ _ _), trivial⟩⟩ rfl (by first | rfl | simp [mpV, mpA, mpS, mpP, renId, shift]) rfl) ?_
  refine segEnd [0, 1, 2, 3, 9, 10, 11, 12, 13, 54] (T1 := (mkT 108 [(0, vN X), (1, vN Y), (2, vN Z), (3, .slice none 0 0), (9, vP 1 0), (10, .bool false), (11, vS 2 0), (12, vP 3 0), (13, .bool false), (54, .bool false)])) (H1 := [some ⟨nums ([] : List Int), 3, false, true⟩, rB [vI 0, vI 0, vI 0, .slice none 0 0] 40, some ⟨nums ([] : List Int), 3, false, true⟩, rB [vI 0, vI 0, vI 0, .slice none 0 0] 40, some ⟨nums ([] : List Int), 3, false, true⟩]) (by kernel_rfl) ?_
  refine kSeq ?_
  refine cFalse (by kernel_rfl) ?_
  refine cSkip ?_
  refine kSeq ?_
  refine cSeq ?_
  refine cReg ?_
  refine segEndH [0, 1, 2, 3, 9, 10, 11, 12, 13, 14] (T1 := (mkT 108 [(0, vN X), (1, vN Y), (2, vN Z), (3, .slice none 0 0), (9, vP 1 0), (10, .bool false), (11, vS 2 0), (12, vP 3 0), (13, .bool false), (14, vI 1)])) (by kernel_rfl) ?_
  refine kSeq ?_
  refine cSeq ?_
  refine cReg ?_
  refine segH 2 (T1 := (mkT 108 [(0, vN X), (1, vN Y), (2, vN Z), (3, .slice none 0 0), (9, vP 1 0), (10, .bool false), (11, vS 2 0), (12, vP 3 0), (13, .bool false), (14, vI 1), (55, vS 2 0), (56, vI 1)])) (by kernel_rfl) ?_
  refine rCall (v := vN (1 + ([] : List Int).length)) (args := [vS 2 0, vI 1]) (by kernel_rfl) rfl (by kernel_rfl) (Sound.emb_set (r := ⟨nums ([] : List Int), 3, false, true⟩) (r' := ⟨nums (mkI 1 ([] : List Int).length), 3, false, true⟩) 2 (markI_S ([] : List Int) 1 (by first | omega | assumption | (simp; done) | (simp; omega)) (by first | assumption | omega | rfl | decide | exact HeapL.list _ _ _ _ | exact HeapL.nil _ _ _ | exact HeapL.all _ _ _ | (apply HeapL.lt64 <;> assumption) | (repeat' (first | assumption | apply or_lt64 | apply and_lt64 | apply andn_lt64 | apply pow_lt64 | (apply HeapL.lt64 <;> assumption))))) (flatNums _ _ _ _) rfl (flatNums _ _ _ _) rfl rfl rfl (by first | rfl | simp [mpV, mpA, mpS, mpP, renId, shift]) rfl) ?_
  refine segEnd [0, 1, 2, 3, 9, 10, 12, 13, 14] (T1 := (mkT 108 [(0, vN X), (1, vN Y), (2, vN Z), (3, .slice none 0 0), (9, vP 1 0), (10, .bool false), (12, vP 3 0), (13, .bool false), (14, vN (1 + ([] : List Int).length))])) (H1 := [some ⟨nums ([] : List Int), 3, false, true⟩, rB [vI 0, vI 0, vI 0, .slice none 0 0] 40, some ⟨nums (mkI 1 ([] : List Int).length), 3, false, true⟩, rB [vI 0, vI 0, vI 0, .slice none 0 0] 40, some ⟨nums ([] : List Int), 3, false, true⟩]) (by kernel_rfl) ?_
  refine kSeq ?_
  refine cSeq ?_
  refine cSeq ?_
  refine cReg ?_
  refine segH 3 (T1 := (mkT 108 [(0, vN X), (1, vN Y), (2, vN Z), (3, .slice none 0 0), (9, vP 1 0), (10, .bool false), (12, vP 3 0), (13, .bool false), (14, vN (1 + ([] : List Int).length)), (58, vN (1 + ([] : List Int).length)), (59, .bool (decide (((1 + ([] : List Int).length : Nat) : Int) < 0))), (60, .bool (decide (((1 + ([] : List Int).length : Nat) : Int) < 0)))])) (by kernel_rfl) ?_
  cases h1 : (decide (((1 + ([] : List Int).length : Nat) : Int) < 0) : Bool)
  ·
    (try simp only [Bool.not_eq_true', Bool.not_eq_false', decide_eq_true_eq, decide_eq_false_iff_not, beq_iff_eq, bne_iff_ne, beq_eq_false_iff_ne, bne_eq_false_iff_eq, ne_eq, Decidable.not_not, Bool.and_eq_true, Bool.and_eq_false_imp, Bool.or_eq_true, Bool.or_eq_false_iff, Bool.not_eq_true, Int.not_lt, Int.not_le, ge_iff_le, gt_iff_lt] at h1)
    refine seg 2 (T1 := (mkT 108 [(0, vN X), (1, vN Y), (2, vN Z), (3, .slice none 0 0), (9, vP 1 0), (10, .bool false), (12, vP 3 0), (13, .bool false), (14, vN (1 + ([] : List Int).length)), (58, vN (1 + ([] : List Int).length)), (59, .bool false), (60, .bool false), (61, .agg #[vI 0, vI 0, vI 0, .slice none 0 0]), (62, .agg #[vI 0, vI 0, vI 0, .slice none 0 0])])) (H1 := [some ⟨nums ([] : List Int), 3, false, true⟩, rB [vI 0, vI 0, vI 0, .slice none 0 0] 40, some ⟨nums (mkI 1 ([] : List Int).length), 3, false, true⟩, rB [vI 0, vI 0, vI 0, .slice none 0 0] 40, some ⟨nums ([] : List Int), 3, false, true⟩]) (by kernel_rfl) ?_
    refine rCall (v := .bool true) (args := [.agg #[vI 0, vI 0, vI 0, .slice none 0 0], .agg #[vI 0, vI 0, vI 0, .slice none 0 0]]) (by kernel_rfl) rfl (by kernel_rfl) (Sound.lay0 [] (eqHeapN) trivial rfl trivial rfl (by first | rfl | simp [mpV, mpA, mpS, mpP, renId, shift]) rfl) ?_
    refine segEnd [0, 1, 2, 3, 9, 10, 12, 70] (T1 := (mkT 108 [(0, vN X), (1, vN Y), (2, vN Z), (3, .slice none 0 0), (9, vP 1 0), (10, .bool false), (12, vP 3 0), (70, .bool false)])) (H1 := [some ⟨nums ([] : List Int), 3, false, true⟩, rB [vI 0, vI 0, vI 0, .slice none 0 0] 40, some ⟨nums (mkI 1 ([] : List Int).length), 3, false, true⟩, rB [vI 0, vI 0, vI 0, .slice none 0 0] 40, some ⟨nums ([] : List Int), 3, false, true⟩]) (by kernel_rfl) ?_
    refine kSeq ?_
    refine cFalse (by kernel_rfl) ?_
    refine cSkip ?_
    refine kSeq ?_
    refine cSeq ?_
    refine cReg ?_
    refine segEndH [0, 1, 2, 3, 9, 10, 12, 15] (T1 := (mkT 108 [(0, vN X), (1, vN Y), (2, vN Z), (3, .slice none 0 0), (9, vP 1 0), (10, .bool false), (12, vP 3 0), (15, vI 1)])) (by kernel_rfl) ?_
    refine kSeq ?_
    refine cSeq ?_
    refine cReg ?_
    refine segH 2 (T1 := (mkT 108 [(0, vN X), (1, vN Y), (2, vN Z), (3, .slice none 0 0), (9, vP 1 0), (10, .bool false), (12, vP 3 0), (15, vI 1), (71, .agg #[vI 0, vI 0, vI 0, .slice none 0 0]), (72, vI 1)])) (by kernel_rfl) ?_
    refine rCall (v := vI 1) (args := [.agg #[vI 0, vI 0, vI 0, .slice none 0 0], vI 1]) (by kernel_rfl) rfl (by kernel_rfl) (Sound.lay0 [] (markHeapN 1) trivial rfl trivial rfl (by first | rfl | simp [mpV, mpA, mpS, mpP, renId, shift]) rfl) ?_
    refine segEndH [0, 1, 2, 3, 9, 10, 12, 15] (T1 := (mkT 108 [(0, vN X), (1, vN Y), (2, vN Z), (3, .slice none 0 0), (9, vP 1 0), (10, .bool false), (12, vP 3 0), (15, vI 1)])) (by kernel_rfl) ?_
    refine kSeq ?_
    refine cSeq ?_
    refine cReg ?_
    refine segEndH [0, 1, 2, 3, 9, 10, 12, 15, 16] (T1 := (mkT 108 [(0, vN X), (1, vN Y), (2, vN Z), (3, .slice none 0 0), (9, vP 1 0), (10, .bool false), (12, vP 3 0), (15, vI 1), (16, vI 1)])) (by kernel_rfl) ?_
    refine kSeq ?_
    refine cSeq ?_
    refine cReg ?_
    refine segH 2 (T1 := (mkT 108 [(0, vN X), (1, vN Y), (2, vN Z), (3, .slice none 0 0), (9, vP 1 0), (10, .bool false), (12, vP 3 0), (15, vI 1), (16, vI 1), (74, .agg #[vI 0, vI 0, vI 0, .slice none 0 0]), (75, vI 1)])) (by kernel_rfl) ?_
    refine rCall (v := vI 1) (args := [.agg #[vI 0, vI 0, vI 0, .slice none 0 0], vI 1]) (by kernel_rfl) rfl (by kernel_rfl) (Sound.lay0 [] (heldHeapN) trivial rfl trivial rfl (by first | rfl | simp [mpV, mpA, mpS, mpP, renId, shift]) rfl) ?_
    refine segEndH [0, 1, 2, 3, 9, 10, 12, 15, 16] (T1 := (mkT 108 [(0, vN X), (1, vN Y), (2, vN Z), (3, .slice none 0 0), (9, vP 1 0), (10, .bool false), (12, vP 3 0), (15, vI 1), (16, vI 1)])) (by kernel_rfl) ?_
    refine kSeq ?_
    refine cSeq ?_
    refine cSeq ?_
    refine cReg ?_
    refine segEndH [0, 1, 2, 3, 9, 10, 12, 15, 16, 78] (T1 := (mkT 108 [(0, vN X), (1, vN Y), (2, vN Z), (3, .slice none 0 0), (9, vP 1 0), (10, .bool false), (12, vP 3 0), (15, vI 1), (16, vI 1), (78, .bool false)])) (by kernel_rfl) ?_
    refine kSeq ?_
    refine cFalse (by kernel_rfl) ?_
    refine cSkip ?_
    refine kSeq ?_
    refine cSeq ?_
    refine cSeq ?_
    refine cReg ?_
    refine segEndH [0, 1, 2, 3, 9, 10, 12, 15, 81] (T1 := (mkT 108 [(0, vN X), (1, vN Y), (2, vN Z), (3, .slice none 0 0), (9, vP 1 0), (10, .bool false), (12, vP 3 0), (15, vI 1), (81, .bool false)])) (by kernel_rfl) ?_
    refine kSeq ?_
    refine cFalse (by kernel_rfl) ?_
    refine cSkip ?_
    refine kSeq ?_
    refine cSeq ?_
    refine cReg ?_
    refine segH 4 (T1 := (mkT 108 [(0, vN X), (1, vN Y), (2, vN Z), (3, .slice none 0 0), (9, vP 1 0), (10, .bool false), (12, vP 3 0), (15, vI 1), (81, .bool false), (83, vN X), (84, vN Y), (85, vN Z), (86, .slice none 0 0)])) (by kernel_rfl) ?_
    refine rCall (v := vS 5 0) (args := [.slice none 0 0]) (by kernel_rfl) rfl (by kernel_rfl) (Sound.lay (E := [some ⟨nums ([] : List Int), 3, false, true⟩]) [] (toI_N) trivial rfl trivial rfl (by first | rfl | simp [mpV, mpA, mpS, mpP, renId, shift]) rfl ⟨enF (flatNums _ _ _ _) (Or.inl rfl), trivial⟩) ?_
    refine rCall (v := .tuple #[.agg #[vI 0, vI 0, vI 0, .slice none 0 0], .bool false]) (args := [vN X, vN Y, vN Z, vS 5 0]) (by kernel_rfl) rfl (by kernel_rfl) (Sound.lay0 [5] (implStackHeap_n2 X Y Z ([] : List Int) (by first | assumption | omega | rfl | decide | exact HeapL.list _ _ _ _ | exact HeapL.nil _ _ _ | exact HeapL.all _ _ _ | (apply HeapL.lt64 <;> assumption) | (repeat' (first | assumption | apply or_lt64 | apply and_lt64 | apply andn_lt64 | apply pow_lt64 | (apply HeapL.lt64 <;> assumption)))) (by first | omega | assumption | (simp; done) | (simp; omega)) (by first | assumption | omega | rfl | decide | exact HeapL.list _ _ _ _ | exact HeapL.nil _ _ _ | exact HeapL.all _ _ _ | (apply HeapL.lt64 <;> assumption) | (repeat' (first | assumption | apply or_lt64 | apply and_lt64 | apply andn_lt64 | apply pow_lt64 | (apply HeapL.lt64 <;> assumption))))) ⟨rdF true (flatNums _ _ _ _) rfl rfl, trivial⟩ rfl ⟨clF (flatNums _ _ _ _), trivial⟩ rfl (by first | rfl | simp [mpV, mpA, mpS, mpP, renId, shift]) (by first | rfl | simp [mpV, mpA, mpS, mpP, renId, shift])) ?_
    refine segEnd [9, 10, 12, 15, 17, 18] (T1 := (mkT 108 [(9, vP 1 0), (10, .bool false), (12, vP 3 0), (15, vI 1), (17, vP 6 0), (18, .bool false)])) (H1 := [some ⟨nums ([] : List Int), 3, false, true⟩, rB [vI 0, vI 0, vI 0, .slice none 0 0] 40, some ⟨nums (mkI 1 ([] : List Int).length), 3, false, true⟩, rB [vI 0, vI 0, vI 0, .slice none 0 0] 40, some ⟨nums ([] : List Int), 3, false, true⟩, some ⟨nums ([] : List Int), 3, false, true⟩, rB [vI 0, vI 0, vI 0, .slice none 0 0] 40]) (by kernel_rfl) ?_
    refine kSeq ?_
    refine cSeq ?_
    refine cSeq ?_
    refine cReg ?_
    refine segH 2 (T1 := (mkT 108 [(9, vP 1 0), (10, .bool false), (12, vP 3 0), (15, vI 1), (17, vP 6 0), (18, .bool false), (91, .agg #[vI 0, vI 0, vI 0, .slice none 0 0]), (92, .agg #[vI 0, vI 0, vI 0, .slice none 0 0])])) (by kernel_rfl) ?_
    refine rCall (v := .bool true) (args := [.agg #[vI 0, vI 0, vI 0, .slice none 0 0], .agg #[vI 0, vI 0, vI 0, .slice none 0 0]]) (by kernel_rfl) rfl (by kernel_rfl) (Sound.lay0 [] (eqHeapN) trivial rfl trivial rfl (by first | rfl | simp [mpV, mpA, mpS, mpP, renId, shift]) rfl) ?_
    refine segEndH [12, 15, 99] (T1 := (mkT 108 [(12, vP 3 0), (15, vI 1), (99, .bool false)])) (by kernel_rfl) ?_
    refine kSeq ?_
    refine cFalse (by kernel_rfl) ?_
    refine cSkip ?_
    refine kSeq ?_
    refine cSeq ?_
    refine cReg ?_
    refine segEndH [12, 15, 16] (T1 := (mkT 108 [(12, vP 3 0), (15, vI 1), (16, vI 1)])) (by kernel_rfl) ?_
    refine kSeq ?_
    refine cSeq ?_
    refine cReg ?_
    refine segH 2 (T1 := (mkT 108 [(12, vP 3 0), (15, vI 1), (16, vI 1), (100, .agg #[vI 0, vI 0, vI 0, .slice none 0 0]), (101, vI 1)])) (by kernel_rfl) ?_
    refine rCall (v := vI 1) (args := [.agg #[vI 0, vI 0, vI 0, .slice none 0 0], vI 1]) (by kernel_rfl) rfl (by kernel_rfl) (Sound.lay0 [] (heldHeapN) trivial rfl trivial rfl (by first | rfl | simp [mpV, mpA, mpS, mpP, renId, shift]) rfl) ?_
    refine segEndH [15, 16] (T1 := (mkT 108 [(15, vI 1), (16, vI 1)])) (by kernel_rfl) ?_
    refine kSeq ?_
    refine cSeq ?_
    refine cSeq ?_
    refine cReg ?_
    refine segEndH [15, 16, 104] (T1 := (mkT 108 [(15, vI 1), (16, vI 1), (104, .bool false)])) (by kernel_rfl) ?_
    refine kSeq ?_
    refine cFalse (by kernel_rfl) ?_
    refine cSkip ?_
    refine kSeq ?_
    refine cSeq ?_
    refine cSeq ?_
    refine cReg ?_
    refine segEndH [107] (T1 := (mkT 108 [(107, .bool false)])) (by kernel_rfl) ?_
    refine kSeq ?_
    refine cFalse (by kernel_rfl) ?_
    refine cSkip ?_
    refine kSeq ?_
    refine cSeq ?_
    refine cReg ?_
    refine segEndH [8] (T1 := (mkT 108 [(8, .bool true)])) (by kernel_rfl) ?_
    refine kSeq ?_
    refine cRet ?_
    -- end
    exact endQ (Or.inr rfl) (l := [.bool true]) [some ⟨nums ([] : List Int), 3, false, true⟩, rB [vI 0, vI 0, vI 0, .slice none 0 0] 40, some ⟨nums (mkI 1 ([] : List Int).length), 3, false, true⟩, rB [vI 0, vI 0, vI 0, .slice none 0 0] 40, some ⟨nums ([] : List Int), 3, false, true⟩, some ⟨nums ([] : List Int), 3, false, true⟩, rB [vI 0, vI 0, vI 0, .slice none 0 0] 40] (by kernel_rfl) (by first | rfl | kernel_rfl) rfl rfl hcl rfl
  ·
    (try simp only [Bool.not_eq_true', Bool.not_eq_false', decide_eq_true_eq, decide_eq_false_iff_not, beq_iff_eq, bne_iff_ne, beq_eq_false_iff_ne, bne_eq_false_iff_eq, ne_eq, Decidable.not_not, Bool.and_eq_true, Bool.and_eq_false_imp, Bool.or_eq_true, Bool.or_eq_false_iff, Bool.not_eq_true, Int.not_lt, Int.not_le, ge_iff_le, gt_iff_lt] at h1)
    exfalso; omega

set_option maxRecDepth 100000 in
set_option maxHeartbeats 4000000 in
theorem lawStackHeap_n3_s (X : Nat) (Y : Nat) (Z : Nat) (N : List Int) (hs : Sides X Y Z) (hl : N.length ≤ 1048576) (hnl : N.length = X * Y) (hq : allB N 0 (Z : Int) = false) : Sound Try.prog 7 [vN X, vN Y, vN Z, vS 0 N.length] [some ⟨nums N, 3, false, false⟩] (.bool true) [some ⟨nums N, 3, false, false⟩] := by
  refine sound_intro (C := cx) Try.func7 rfl (by kernel_rfl) fun hcl => ?_
  have hln : N.length ≤ 1048576 := by first | assumption | (simp; done)
  refine cSeq ?_
  refine cReg ?_
  refine segEndH [0, 1, 2, 3] (T1 := (mkT 108 [(0, vN X), (1, vN Y), (2, vN Z), (3, vS 0 N.length)])) (by kernel_rfl) ?_
  refine kSeq ?_
  refine cSeq ?_
  refine cSeq ?_
  refine cReg ?_
  refine segEndH [0, 1, 2, 3, 21] (T1 := (mkT 108 [(0, vN X), (1, vN Y), (2, vN Z), (3, vS 0 N.length), (21, .bool (decide (((N.length : Nat) : Int) > 1048576)))])) (by kernel_rfl) ?_
  refine kSeq ?_
  cases h1 : (decide (((N.length : Nat) : Int) > 1048576) : Bool)
  ·
    (try simp only [Bool.not_eq_true', Bool.not_eq_false', decide_eq_true_eq, decide_eq_false_iff_not, beq_iff_eq, bne_iff_ne, beq_eq_false_iff_ne, bne_eq_false_iff_eq, ne_eq, Decidable.not_not, Bool.and_eq_true, Bool.and_eq_false_imp, Bool.or_eq_true, Bool.or_eq_false_iff, Bool.not_eq_true, Int.not_lt, Int.not_le, ge_iff_le, gt_iff_lt] at h1)
    refine cFalse (by kernel_rfl) ?_
    refine cSkip ?_
    refine kSeq ?_
    refine cSeq ?_
    refine cReg ?_
    refine segH 4 (T1 := (mkT 108 [(0, vN X), (1, vN Y), (2, vN Z), (3, vS 0 N.length), (21, .bool false), (23, vN X), (24, vN Y), (25, vN Z), (26, vS 0 N.length)])) (by kernel_rfl) ?_
    refine rCall (v := vS 1 N.length) (args := [vS 0 N.length]) (by kernel_rfl) rfl (by kernel_rfl) (Sound.lay (E := [some ⟨nums N, 3, false, true⟩]) [0] (toI_S N (by first | omega | assumption | (simp; done) | (simp; omega))) ⟨rdF false (flatNums _ _ _ _) rfl rfl, trivial⟩ rfl ⟨clF (flatNums _ _ _ _), trivial⟩ rfl (by first | rfl | simp [mpV, mpA, mpS, mpP, renId, shift]) rfl ⟨enF (flatNums _ _ _ _) (Or.inl rfl), trivial⟩) ?_
    refine rCall (v := .tuple #[.agg #[vI 0, vI 0, vI 0, .slice none 0 0], .bool false]) (args := [vN X, vN Y, vN Z, vS 1 N.length]) (by kernel_rfl) rfl (by kernel_rfl) (Sound.lay0 [1] (specStackHeap_n3 X Y Z N (by first | assumption | omega | rfl | decide | exact HeapL.list _ _ _ _ | exact HeapL.nil _ _ _ | exact HeapL.all _ _ _ | (apply HeapL.lt64 <;> assumption) | (repeat' (first | assumption | apply or_lt64 | apply and_lt64 | apply andn_lt64 | apply pow_lt64 | (apply HeapL.lt64 <;> assumption)))) (by first | omega | assumption | (simp; done) | (simp; omega)) (by first | assumption | omega | rfl | decide | exact HeapL.list _ _ _ _ | exact HeapL.nil _ _ _ | exact HeapL.all _ _ _ | (apply HeapL.lt64 <;> assumption) | (repeat' (first | assumption | apply or_lt64 | apply and_lt64 | apply andn_lt64 | apply pow_lt64 | (apply HeapL.lt64 <;> assumption)))) (by first | assumption | omega | rfl | decide | exact HeapL.list _ _ _ _ | exact HeapL.nil _ _ _ | exact HeapL.all _ _ _ | (apply HeapL.lt64 <;> assumption) | (repeat' (first | assumption | apply or_lt64 | apply and_lt64 | apply andn_lt64 | apply pow_lt64 | (apply HeapL.lt64 <;> assumption))))) ⟨rdF true (flatNums _ _ _ _) rfl rfl, trivial⟩ rfl ⟨clF (flatNums _ _ _ _), trivial⟩ rfl (by first | rfl | simp [mpV, mpA, mpS, mpP, renId, shift]) (by first | rfl | simp [mpV, mpA, mpS, mpP, renId, shift])) ?_
    refine segEnd [0, 1, 2, 3, 9, 10] (T1 := (mkT 108 [(0, vN X), (1, vN Y), (2, vN Z), (3, vS 0 N.length), (9, vP 2 0), (10, .bool false)])) (H1 := [some ⟨nums N, 3, false, false⟩, some ⟨nums N, 3, false, true⟩, rB [vI 0, vI 0, vI 0, .slice none 0 0] 40]) (by kernel_rfl) ?_
    refine kSeq ?_
    refine cSeq ?_
    refine cReg ?_
    refine segH 1 (T1 := (mkT 108 [(0, vN X), (1, vN Y), (2, vN Z), (3, vS 0 N.length), (9, vP 2 0), (10, .bool false), (31, vS 0 N.length)])) (by kernel_rfl) ?_
    refine rCall (v := vS 3 N.length) (args := [vS 0 N.length]) (by kernel_rfl) rfl (by kernel_rfl) (Sound.lay (E := [some ⟨nums N, 3, false, true⟩]) [0] (toI_S N (by first | omega | assumption | (simp; done) | (simp; omega))) ⟨rdF false (flatNums _ _ _ _) rfl rfl, trivial⟩ rfl ⟨clF (flatNums _ _ _ _), trivial⟩ rfl (by first | rfl | simp [mpV, mpA, mpS, mpP, renId, shift]) rfl ⟨enF (flatNums _ _ _ _) (Or.inl rfl), trivial⟩) ?_
    refine segEnd [0, 1, 2, 3, 9, 10, 11] (T1 := (mkT 108 [(0, vN X), (1, vN Y), (2, vN Z), (3, vS 0 N.length), (9, vP 2 0), (10, .bool false), (11, vS 3 N.length)])) (H1 := [some ⟨nums N, 3, false, false⟩, some ⟨nums N, 3, false, true⟩, rB [vI 0, vI 0, vI 0, .slice none 0 0] 40, some ⟨nums N, 3, false, true⟩]) (by kernel_rfl) ?_
    refine kSeq ?_
    refine cSeq ?_
    refine cReg ?_
    refine segH 4 (T1 := (mkT 108 [(0, vN X), (1, vN Y), (2, vN Z), (3, vS 0 N.length), (9, vP 2 0), (10, .bool false), (11, vS 3 N.length), (34, vN X), (35, vN Y), (36, vN Z), (37, vS 3 N.length)])) (by kernel_rfl) ?_
    refine rCall (v := .tuple #[.agg #[vI 0, vI 0, vI 0, .slice none 0 0], .bool false]) (args := [vN X, vN Y, vN Z, vS 3 N.length]) (by kernel_rfl) rfl (by kernel_rfl) (Sound.lay0 [3] (implStackHeap_n3 X Y Z N (by first | assumption | omega | rfl | decide | exact HeapL.list _ _ _ _ | exact HeapL.nil _ _ _ | exact HeapL.all _ _ _ | (apply HeapL.lt64 <;> assumption) | (repeat' (first | assumption | apply or_lt64 | apply and_lt64 | apply andn_lt64 | apply pow_lt64 | (apply HeapL.lt64 <;> assumption)))) (by first | omega | assumption | (simp; done) | (simp; omega)) (by first | assumption | omega | rfl | decide | exact HeapL.list _ _ _ _ | exact HeapL.nil _ _ _ | exact HeapL.all _ _ _ | (apply HeapL.lt64 <;> assumption) | (repeat' (first | assumption | apply or_lt64 | apply and_lt64 | apply andn_lt64 | apply pow_lt64 | (apply HeapL.lt64 <;> assumption)))) (by first | assumption | omega | rfl | decide | exact HeapL.list _ _ _ _ | exact HeapL.nil _ _ _ | exact HeapL.all _ _ _ | (apply HeapL.lt64 <;> assumption) | (repeat' (first | assumption | apply or_lt64 | apply and_lt64 | apply andn_lt64 | apply pow_lt64 | (apply HeapL.lt64 <;> assumption))))) ⟨rdF true (flatNums _ _ _ _) rfl rfl, trivial⟩ rfl ⟨clF (flatNums _ _ _ _), trivial⟩ rfl (by first | rfl | simp [mpV, mpA, mpS, mpP, renId, shift]) (by first | rfl | simp [mpV, mpA, mpS, mpP, renId, shift])) ?_
    refine segEnd [0, 1, 2, 3, 9, 10, 11, 12, 13] (T1 := (mkT 108 [(0, vN X), (1, vN Y), (2, vN Z), (3, vS 0 N.length), (9, vP 2 0), (10, .bool false), (11, vS 3 N.length), (12, vP 4 0), (13, .bool false)])) (H1 := [some ⟨nums N, 3, false, false⟩, some ⟨nums N, 3, false, true⟩, rB [vI 0, vI 0, vI 0, .slice none 0 0] 40, some ⟨nums N, 3, false, true⟩, rB [vI 0, vI 0, vI 0, .slice none 0 0] 40]) (by kernel_rfl) ?_
    refine kSeq ?_
    refine cSeq ?_
    refine cSeq ?_
    refine cReg ?_
    refine segH 2 (T1 := (mkT 108 [(0, vN X), (1, vN Y), (2, vN Z), (3, vS 0 N.length), (9, vP 2 0), (10, .bool false), (11, vS 3 N.length), (12, vP 4 0), (13, .bool false), (41, .agg #[vI 0, vI 0, vI 0, .slice none 0 0]), (42, .agg #[vI 0, vI 0, vI 0, .slice none 0 0])])) (by kernel_rfl) ?_
    refine rCall (v := .bool true) (args := [.agg #[vI 0, vI 0, vI 0, .slice none 0 0], .agg #[vI 0, vI 0, vI 0, .slice none 0 0]]) (by kernel_rfl) rfl (by kernel_rfl) (Sound.lay0 [] (eqHeapN) trivial rfl trivial rfl (by first | rfl | simp [mpV, mpA, mpS, mpP, renId, shift]) rfl) ?_
    refine segEndH [0, 1, 2, 3, 9, 10, 11, 12, 13, 49] (T1 := (mkT 108 [(0, vN X), (1, vN Y), (2, vN Z), (3, vS 0 N.length), (9, vP 2 0), (10, .bool false), (11, vS 3 N.length), (12, vP 4 0), (13, .bool false), (49, .bool false)])) (by kernel_rfl) ?_
    refine kSeq ?_
    refine cFalse (by kernel_rfl) ?_
    refine cSkip ?_
    refine kSeq ?_
    refine cSeq ?_
    refine cSeq ?_
    refine cReg ?_
    refine segH 2 (T1 := (mkT 108 [(0, vN X), (1, vN Y), (2, vN Z), (3, vS 0 N.length), (9, vP 2 0), (10, .bool false), (11, vS 3 N.length), (12, vP 4 0), (13, .bool false), (49, .bool false), (50, vS 3 N.length), (51, vS 0 N.length)])) (by kernel_rfl) ?_
    refine rCall (v := vS 5 N.length) (args := [vS 0 N.length]) (by kernel_rfl) rfl (by kernel_rfl) (Sound.lay (E := [some ⟨nums N, 3, false, true⟩]) [0] (toI_S N (by first | omega | assumption | (simp; done) | (simp; omega))) ⟨rdF false (flatNums _ _ _ _) rfl rfl, trivial⟩ rfl ⟨clF (flatNums _ _ _ _), trivial⟩ rfl (by first | rfl | simp [mpV, mpA, mpS, mpP, renId, shift]) rfl ⟨enF (flatNums _ _ _ _) (Or.inl rfl), trivial⟩) ?_
    refine rCall (v := .bool true) (args := [vS 3 N.length, vS 5 N.length]) (by kernel_rfl) rfl (by kernel_rfl) (Sound.lay0 [3, 5] (eqI_S N (by first | omega | assumption | (simp; done) | (simp; omega))) ⟨rdF true (flatNums _ _ _ _) rfl rfl, ⟨rdF true (flatNums _ _ _ _) rfl rfl, trivial⟩⟩ rfl ⟨clF (flatNums _ _ _ _), ⟨clF (flatNums _ _ _ _), trivial⟩⟩ rfl (by first | rfl | simp [mpV, mpA, mpS, mpP, renId, shift]) rfl) ?_
    refine segEnd [0, 1, 2, 3, 9, 10, 11, 12, 13, 54] (T1 := (mkT 108 [(0, vN X), (1, vN Y), (2, vN Z), (3, vS 0 N.length), (9, vP 2 0), (10, .bool false), (11, vS 3 N.length), (12, vP 4 0), (13, .bool false), (54, .bool false)])) (H1 := [some ⟨nums N, 3, false, false⟩, some ⟨nums N, 3, false, true⟩, rB [vI 0, vI 0, vI 0, .slice none 0 0] 40, some ⟨nums N, 3, false, true⟩, rB [vI 0, vI 0, vI 0, .slice none 0 0] 40, some ⟨nums N, 3, false, true⟩]) (by kernel_rfl) ?_
    refine kSeq ?_
    refine cFalse (by kernel_rfl) ?_
    refine cSkip ?_
    refine kSeq ?_
    refine cSeq ?_
    refine cReg ?_
    refine segEndH [0, 1, 2, 3, 9, 10, 11, 12, 13, 14] (T1 := (mkT 108 [(0, vN X), (1, vN Y), (2, vN Z), (3, vS 0 N.length), (9, vP 2 0), (10, .bool false), (11, vS 3 N.length), (12, vP 4 0), (13, .bool false), (14, vI 1)])) (by kernel_rfl) ?_
    refine kSeq ?_
    refine cSeq ?_
    refine cReg ?_
    refine segH 2 (T1 := (mkT 108 [(0, vN X), (1, vN Y), (2, vN Z), (3, vS 0 N.length), (9, vP 2 0), (10, .bool false), (11, vS 3 N.length), (12, vP 4 0), (13, .bool false), (14, vI 1), (55, vS 3 N.length), (56, vI 1)])) (by kernel_rfl) ?_
    refine rCall (v := vN (1 + N.length)) (args := [vS 3 N.length, vI 1]) (by kernel_rfl) rfl (by kernel_rfl) (Sound.emb_set (r := ⟨nums N, 3, false, true⟩) (r' := ⟨nums (mkI 1 N.length), 3, false, true⟩) 3 (markI_S N 1 (by first | omega | assumption | (simp; done) | (simp; omega)) (by first | assumption | omega | rfl | decide | exact HeapL.list _ _ _ _ | exact HeapL.nil _ _ _ | exact HeapL.all _ _ _ | (apply HeapL.lt64 <;> assumption) | (repeat' (first | assumption | apply or_lt64 | apply and_lt64 | apply andn_lt64 | apply pow_lt64 | (apply HeapL.lt64 <;> assumption))))) (flatNums _ _ _ _) rfl (flatNums _ _ _ _) rfl rfl rfl (by first | rfl | simp [mpV, mpA, mpS, mpP, renId, shift]) rfl) ?_
    refine segEnd [0, 1, 2, 3, 9, 10, 12, 13, 14] (T1 := (mkT 108 [(0, vN X), (1, vN Y), (2, vN Z), (3, vS 0 N.length), (9, vP 2 0), (10, .bool false), (12, vP 4 0), (13, .bool false), (14, vN (1 + N.length))])) (H1 := [some ⟨nums N, 3, false, false⟩, some ⟨nums N, 3, false, true⟩, rB [vI 0, vI 0, vI 0, .slice none 0 0] 40, some ⟨nums (mkI 1 N.length), 3, false, true⟩, rB [vI 0, vI 0, vI 0, .slice none 0 0] 40, some ⟨nums N, 3, false, true⟩]) (by kernel_rfl) ?_
    refine kSeq ?_
    refine cSeq ?_
    refine cSeq ?_
    refine cReg ?_
    refine segH 3 (T1 := (mkT 108 [(0, vN X), (1, vN Y), (2, vN Z), (3, vS 0 N.length), (9, vP 2 0), (10, .bool false), (12, vP 4 0), (13, .bool false), (14, vN (1 + N.length)), (58, vN (1 + N.length)), (59, .bool (decide (((1 + N.length : Nat) : Int) < 0))), (60, .bool (decide (((1 + N.length : Nat) : Int) < 0)))])) (by kernel_rfl) ?_
    cases h2 : (decide (((1 + N.length : Nat) : Int) < 0) : Bool)
    ·
      (try simp only [Bool.not_eq_true', Bool.not_eq_false', decide_eq_true_eq, decide_eq_false_iff_not, beq_iff_eq, bne_iff_ne, beq_eq_false_iff_ne, bne_eq_false_iff_eq, ne_eq, Decidable.not_not, Bool.and_eq_true, Bool.and_eq_false_imp, Bool.or_eq_true, Bool.or_eq_false_iff, Bool.not_eq_true, Int.not_lt, Int.not_le, ge_iff_le, gt_iff_lt] at h2)
      refine seg 2 (T1 := (mkT 108 [(0, vN X), (1, vN Y), (2, vN Z), (3, vS 0 N.length), (9, vP 2 0), (10, .bool false), (12, vP 4 0), (13, .bool false), (14, vN (1 + N.length)), (58, vN (1 + N.length)), (59, .bool false), (60, .bool false), (61, .agg #[vI 0, vI 0, vI 0, .slice none 0 0]), (62, .agg #[vI 0, vI 0, vI 0, .slice none 0 0])])) (H1 := [some ⟨nums N, 3, false, false⟩, some ⟨nums N, 3, false, true⟩, rB [vI 0, vI 0, vI 0, .slice none 0 0] 40, some ⟨nums (mkI 1 N.length), 3, false, true⟩, rB [vI 0, vI 0, vI 0, .slice none 0 0] 40, some ⟨nums N, 3, false, true⟩]) (by kernel_rfl) ?_
      refine rCall (v := .bool true) (args := [.agg #[vI 0, vI 0, vI 0, .slice none 0 0], .agg #[vI 0, vI 0, vI 0, .slice none 0 0]]) (by kernel_rfl) rfl (by kernel_rfl) (Sound.lay0 [] (eqHeapN) trivial rfl trivial rfl (by first | rfl | simp [mpV, mpA, mpS, mpP, renId, shift]) rfl) ?_
      refine segEnd [0, 1, 2, 3, 9, 10, 12, 70] (T1 := (mkT 108 [(0, vN X), (1, vN Y), (2, vN Z), (3, vS 0 N.length), (9, vP 2 0), (10, .bool false), (12, vP 4 0), (70, .bool false)])) (H1 := [some ⟨nums N, 3, false, false⟩, some ⟨nums N, 3, false, true⟩, rB [vI 0, vI 0, vI 0, .slice none 0 0] 40, some ⟨nums (mkI 1 N.length), 3, false, true⟩, rB [vI 0, vI 0, vI 0, .slice none 0 0] 40, some ⟨nums N, 3, false, true⟩]) (by kernel_rfl) ?_
      refine kSeq ?_
      refine cFalse (by kernel_rfl) ?_
      refine cSkip ?_
      refine kSeq ?_
      refine cSeq ?_
      refine cReg ?_
      refine segEndH [0, 1, 2, 3, 9, 10, 12, 15] (T1 := (mkT 108 [(0, vN X), (1, vN Y), (2, vN Z), (3, vS 0 N.length), (9, vP 2 0), (10, .bool false), (12, vP 4 0), (15, vI 1)])) (by kernel_rfl) ?_
      refine kSeq ?_
      refine cSeq ?_
      refine cReg ?_
      refine segH 2 (T1 := (mkT 108 [(0, vN X), (1, vN Y), (2, vN Z), (3, vS 0 N.length), (9, vP 2 0), (10, .bool false), (12, vP 4 0), (15, vI 1), (71, .agg #[vI 0, vI 0, vI 0, .slice none 0 0]), (72, vI 1)])) (by kernel_rfl) ?_
      refine rCall (v := vI 1) (args := [.agg #[vI 0, vI 0, vI 0, .slice none 0 0], vI 1]) (by kernel_rfl) rfl (by kernel_rfl) (Sound.lay0 [] (markHeapN 1) trivial rfl trivial rfl (by first | rfl | simp [mpV, mpA, mpS, mpP, renId, shift]) rfl) ?_
      refine segEndH [0, 1, 2, 3, 9, 10, 12, 15] (T1 := (mkT 108 [(0, vN X), (1, vN Y), (2, vN Z), (3, vS 0 N.length), (9, vP 2 0), (10, .bool false), (12, vP 4 0), (15, vI 1)])) (by kernel_rfl) ?_
      refine kSeq ?_
      refine cSeq ?_
      refine cReg ?_
      refine segEndH [0, 1, 2, 3, 9, 10, 12, 15, 16] (T1 := (mkT 108 [(0, vN X), (1, vN Y), (2, vN Z), (3, vS 0 N.length), (9, vP 2 0), (10, .bool false), (12, vP 4 0), (15, vI 1), (16, vI 1)])) (by kernel_rfl) ?_
      refine kSeq ?_
      refine cSeq ?_
      refine cReg ?_
      refine segH 2 (T1 := (mkT 108 [(0, vN X), (1, vN Y), (2, vN Z), (3, vS 0 N.length), (9, vP 2 0), (10, .bool false), (12, vP 4 0), (15, vI 1), (16, vI 1), (74, .agg #[vI 0, vI 0, vI 0, .slice none 0 0]), (75, vI 1)])) (by kernel_rfl) ?_
      refine rCall (v := vI 1) (args := [.agg #[vI 0, vI 0, vI 0, .slice none 0 0], vI 1]) (by kernel_rfl) rfl (by kernel_rfl) (Sound.lay0 [] (heldHeapN) trivial rfl trivial rfl (by first | rfl | simp [mpV, mpA, mpS, mpP, renId, shift]) rfl) ?_
      refine segEndH [0, 1, 2, 3, 9, 10, 12, 15, 16] (T1 := (mkT 108 [(0, vN X), (1, vN Y), (2, vN Z), (3, vS 0 N.length), (9, vP 2 0), (10, .bool false), (12, vP 4 0), (15, vI 1), (16, vI 1)])) (by kernel_rfl) ?_
      refine kSeq ?_
      refine cSeq ?_
      refine cSeq ?_
      refine cReg ?_
      refine segEndH [0, 1, 2, 3, 9, 10, 12, 15, 16, 78] (T1 := (mkT 108 [(0, vN X), (1, vN Y), (2, vN Z), (3, vS 0 N.length), (9, vP 2 0), (10, .bool false), (12, vP 4 0), (15, vI 1), (16, vI 1), (78, .bool false)])) (by kernel_rfl) ?_
      refine kSeq ?_
      refine cFalse (by kernel_rfl) ?_
      refine cSkip ?_
      refine kSeq ?_
      refine cSeq ?_
      refine cSeq ?_
      refine cReg ?_
      refine segEndH [0, 1, 2, 3, 9, 10, 12, 15, 81] (T1 := (mkT 108 [(0, vN X), (1, vN Y), (2, vN Z), (3, vS 0 N.length), (9, vP 2 0), (10, .bool false), (12, vP 4 0), (15, vI 1), (81, .bool false)])) (by kernel_rfl) ?_
      refine kSeq ?_
      refine cFalse (by kernel_rfl) ?_
      refine cSkip ?_
      refine kSeq ?_
      refine cSeq ?_
      refine cReg ?_
      refine segH 4 (T1 := (mkT 108 [(0, vN X), (1, vN Y), (2, vN Z), (3, vS 0 N.length), (9, vP 2 0), (10, .bool false), (12, vP 4 0), (15, vI 1), (81, .bool false), (83, vN X), (84, vN Y), (85, vN Z), (86, vS 0 N.length)])) (by kernel_rfl) ?_
      refine rCall (v := vS 6 N.length) (args := [vS 0 N.length]) (by kernel_rfl) rfl (by kernel_rfl) (Sound.lay (E := [some ⟨nums N, 3, false, true⟩]) [0] (toI_S N (by first | omega | assumption | (simp; done) | (simp; omega))) ⟨rdF false (flatNums _ _ _ _) rfl rfl, trivial⟩ rfl ⟨clF (flatNums _ _ _ _), trivial⟩ rfl (by first | rfl | simp [mpV, mpA, mpS, mpP, renId, shift]) rfl ⟨enF (flatNums _ _ _ _) (Or.inl rfl), trivial⟩) ?_
      refine rCall (v := .tuple #[.agg #[vI 0, vI 0, vI 0, .slice none 0 0], .bool false]) (args := [vN X, vN Y, vN Z, vS 6 N.length]) (by kernel_rfl) rfl (by kernel_rfl) (Sound.lay0 [6] (implStackHeap_n3 X Y Z N (by first | assumption | omega | rfl | decide | exact HeapL.list _ _ _ _ | exact HeapL.nil _ _ _ | exact HeapL.all _ _ _ | (apply HeapL.lt64 <;> assumption) | (repeat' (first | assumption | apply or_lt64 | apply and_lt64 | apply andn_lt64 | apply pow_lt64 | (apply HeapL.lt64 <;> assumption)))) (by first | omega | assumption | (simp; done) | (simp; omega)) (by first | assumption | omega | rfl | decide | exact HeapL.list _ _ _ _ | exact HeapL.nil _ _ _ | exact HeapL.all _ _ _ | (apply HeapL.lt64 <;> assumption) | (repeat' (first | assumption | apply or_lt64 | apply and_lt64 | apply andn_lt64 | apply pow_lt64 | (apply HeapL.lt64 <;> assumption)))) (by first | assumption | omega | rfl | decide | exact HeapL.list _ _ _ _ | exact HeapL.nil _ _ _ | exact HeapL.all _ _ _ | (apply HeapL.lt64 <;> assumption) | (repeat' (first | assumption | apply or_lt64 | apply and_lt64 | apply andn_lt64 | apply pow_lt64 | (apply HeapL.lt64 <;> assumption))))) ⟨rdF true (flatNums _ _ _ _) rfl rfl, trivial⟩ rfl ⟨clF (flatNums _ _ _ _), trivial⟩ rfl (by first | rfl | simp [mpV, mpA, mpS, mpP, renId, shift]) (by first | rfl | simp [mpV, mpA, mpS, mpP, renId, shift])) ?_
      refine segEnd [9, 10, 12, 15, 17, 18] (T1 := (mkT 108 [(9, vP 2 0), (10, .bool false), (12, vP 4 0), (15, vI 1), (17, vP 7 0), (18, .bool false)])) (H1 := [some ⟨nums N, 3, false, false⟩, some ⟨nums N, 3, false, true⟩, rB [vI 0, vI 0, vI 0, .slice none 0 0] 40, some ⟨nums (mkI 1 N.length), 3, false, true⟩, rB [vI 0, vI 0, vI 0, .slice none 0 0] 40, some ⟨nums N, 3, false, true⟩, some ⟨nums N, 3, false, true⟩, rB [vI 0, vI 0, vI 0, .slice none 0 0] 40]) (by kernel_rfl) ?_
      refine kSeq ?_
      refine cSeq ?_
      refine cSeq ?_
      refine cReg ?_
      refine segH 2 (T1 := (mkT 108 [(9, vP 2 0), (10, .bool false), (12, vP 4 0), (15, vI 1), (17, vP 7 0), (18, .bool false), (91, .agg #[vI 0, vI 0, vI 0, .slice none 0 0]), (92, .agg #[vI 0, vI 0, vI 0, .slice none 0 0])])) (by kernel_rfl) ?_
      refine rCall (v := .bool true) (args := [.agg #[vI 0, vI 0, vI 0, .slice none 0 0], .agg #[vI 0, vI 0, vI 0, .slice none 0 0]]) (by kernel_rfl) rfl (by kernel_rfl) (Sound.lay0 [] (eqHeapN) trivial rfl trivial rfl (by first | rfl | simp [mpV, mpA, mpS, mpP, renId, shift]) rfl) ?_
      refine segEndH [12, 15, 99] (T1 := (mkT 108 [(12, vP 4 0), (15, vI 1), (99, .bool false)])) (by kernel_rfl) ?_
      refine kSeq ?_
      refine cFalse (by kernel_rfl) ?_
      refine cSkip ?_
      refine kSeq ?_
      refine cSeq ?_
      refine cReg ?_
      refine segEndH [12, 15, 16] (T1 := (mkT 108 [(12, vP 4 0), (15, vI 1), (16, vI 1)])) (by kernel_rfl) ?_
      refine kSeq ?_
      refine cSeq ?_
      refine cReg ?_
      refine segH 2 (T1 := (mkT 108 [(12, vP 4 0), (15, vI 1), (16, vI 1), (100, .agg #[vI 0, vI 0, vI 0, .slice none 0 0]), (101, vI 1)])) (by kernel_rfl) ?_
      refine rCall (v := vI 1) (args := [.agg #[vI 0, vI 0, vI 0, .slice none 0 0], vI 1]) (by kernel_rfl) rfl (by kernel_rfl) (Sound.lay0 [] (heldHeapN) trivial rfl trivial rfl (by first | rfl | simp [mpV, mpA, mpS, mpP, renId, shift]) rfl) ?_
      refine segEndH [15, 16] (T1 := (mkT 108 [(15, vI 1), (16, vI 1)])) (by kernel_rfl) ?_
      refine kSeq ?_
      refine cSeq ?_
      refine cSeq ?_
      refine cReg ?_
      refine segEndH [15, 16, 104] (T1 := (mkT 108 [(15, vI 1), (16, vI 1), (104, .bool false)])) (by kernel_rfl) ?_
      refine kSeq ?_
      refine cFalse (by kernel_rfl) ?_
      refine cSkip ?_
      refine kSeq ?_
      refine cSeq ?_
      refine cSeq ?_
      refine cReg ?_
      refine segEndH [107] (T1 := (mkT 108 [(107, .bool false)])) (by kernel_rfl) ?_
      refine kSeq ?_
      refine cFalse (by kernel_rfl) ?_
      refine cSkip ?_
      refine kSeq ?_
      refine cSeq ?_
      refine cReg ?_
      refine segEndH [8] (T1 := (mkT 108 [(8, .bool true)])) (by kernel_rfl) ?_
      refine kSeq ?_
      refine cRet ?_
      -- end
      exact endQ (Or.inr rfl) (l := [.bool true]) [some ⟨nums N, 3, false, true⟩, rB [vI 0, vI 0, vI 0, .slice none 0 0] 40, some ⟨nums (mkI 1 N.length), 3, false, true⟩, rB [vI 0, vI 0, vI 0, .slice none 0 0] 40, some ⟨nums N, 3, false, true⟩, some ⟨nums N, 3, false, true⟩, rB [vI 0, vI 0, vI 0, .slice none 0 0] 40] (by kernel_rfl) (by first | rfl | kernel_rfl) rfl rfl hcl rfl
    ·
      (try simp only [Bool.not_eq_true', Bool.not_eq_false', decide_eq_true_eq, decide_eq_false_iff_not, beq_iff_eq, bne_iff_ne, beq_eq_false_iff_ne, bne_eq_false_iff_eq, ne_eq, Decidable.not_not, Bool.and_eq_true, Bool.and_eq_false_imp, Bool.or_eq_true, Bool.or_eq_false_iff, Bool.not_eq_true, Int.not_lt, Int.not_le, ge_iff_le, gt_iff_lt] at h2)
      exfalso; omega
  ·
    (try simp only [Bool.not_eq_true', Bool.not_eq_false', decide_eq_true_eq, decide_eq_false_iff_not, beq_iff_eq, bne_iff_ne, beq_eq_false_iff_ne, bne_eq_false_iff_eq, ne_eq, Decidable.not_not, Bool.and_eq_true, Bool.and_eq_false_imp, Bool.or_eq_true, Bool.or_eq_false_iff, Bool.not_eq_true, Int.not_lt, Int.not_le, ge_iff_le, gt_iff_lt] at h1)
    refine cTrue (by kernel_rfl) ?_
    refine cSeq ?_
    refine cReg ?_
    refine segEndH [8] (T1 := (mkT 108 [(8, .bool true)])) (by kernel_rfl) ?_
    refine kSeq ?_
    refine cRet ?_
    refine kSeqR ?_
    -- end
    exact endQ (Or.inr rfl) (l := [.bool true]) [] (by kernel_rfl) (by first | rfl | kernel_rfl) rfl rfl hcl rfl

set_option maxRecDepth 100000 in
set_option maxHeartbeats 4000000 in
theorem lawStackHeap_yes_s (X : Nat) (Y : Nat) (Z : Nat) (N : List Int) (R : List A3) (hs : Sides X Y Z) (hl : N.length ≤ 1048576) (hnl : N.length = X * Y) (hq : allB N 0 (Z : Int) = true) (hR : R = listOf X Y Z (stackS X Y Z N)) : Sound Try.prog 7 [vN X, vN Y, vN Z, vS 0 N.length] [some ⟨nums N, 3, false, false⟩] (.bool true) [some ⟨nums N, 3, false, false⟩] := by
  refine sound_intro (C := cx) Try.func7 rfl (by kernel_rfl) fun hcl => ?_
  have hln : N.length ≤ 1048576 := by first | assumption | (simp; done)
  have hr : R.length ≤ 64 := by (rw [hR]; have := (HeapL.list X Y Z (stackS X Y Z N)).len; have := hs.size; omega)
  refine cSeq ?_
  refine cReg ?_
  refine segEndH [0, 1, 2, 3] (T1 := (mkT 108 [(0, vN X), (1, vN Y), (2, vN Z), (3, vS 0 N.length)])) (by kernel_rfl) ?_
  refine kSeq ?_
  refine cSeq ?_
  refine cSeq ?_
  refine cReg ?_
  refine segEndH [0, 1, 2, 3, 21] (T1 := (mkT 108 [(0, vN X), (1, vN Y), (2, vN Z), (3, vS 0 N.length), (21, .bool (decide (((N.length : Nat) : Int) > 1048576)))])) (by kernel_rfl) ?_
  refine kSeq ?_
  cases h1 : (decide (((N.length : Nat) : Int) > 1048576) : Bool)
  ·
    (try simp only [Bool.not_eq_true', Bool.not_eq_false', decide_eq_true_eq, decide_eq_false_iff_not, beq_iff_eq, bne_iff_ne, beq_eq_false_iff_ne, bne_eq_false_iff_eq, ne_eq, Decidable.not_not, Bool.and_eq_true, Bool.and_eq_false_imp, Bool.or_eq_true, Bool.or_eq_false_iff, Bool.not_eq_true, Int.not_lt, Int.not_le, ge_iff_le, gt_iff_lt] at h1)
    refine cFalse (by kernel_rfl) ?_
    refine cSkip ?_
    refine kSeq ?_
    refine cSeq ?_
    refine cReg ?_
    refine segH 4 (T1 := (mkT 108 [(0, vN X), (1, vN Y), (2, vN Z), (3, vS 0 N.length), (21, .bool false), (23, vN X), (24, vN Y), (25, vN Z), (26, vS 0 N.length)])) (by kernel_rfl) ?_
    refine rCall (v := vS 1 N.length) (args := [vS 0 N.length]) (by kernel_rfl) rfl (by kernel_rfl) (Sound.lay (E := [some ⟨nums N, 3, false, true⟩]) [0] (toI_S N (by first | omega | assumption | (simp; done) | (simp; omega))) ⟨rdF false (flatNums _ _ _ _) rfl rfl, trivial⟩ rfl ⟨clF (flatNums _ _ _ _), trivial⟩ rfl (by first | rfl | simp [mpV, mpA, mpS, mpP, renId, shift]) rfl ⟨enF (flatNums _ _ _ _) (Or.inl rfl), trivial⟩) ?_
    refine rCall (v := .tuple #[.agg #[vN X, vN Y, vN Z, vS 2 R.length], .bool true]) (args := [vN X, vN Y, vN Z, vS 1 N.length]) (by kernel_rfl) rfl (by kernel_rfl) (Sound.lay (E := [some ⟨a3s R, 74, false, true⟩]) [1] (specStackHeap_yesR X Y Z N R (by first | assumption | omega | rfl | decide | exact HeapL.list _ _ _ _ | exact HeapL.nil _ _ _ | exact HeapL.all _ _ _ | (apply HeapL.lt64 <;> assumption) | (repeat' (first | assumption | apply or_lt64 | apply and_lt64 | apply andn_lt64 | apply pow_lt64 | (apply HeapL.lt64 <;> assumption)))) (by first | omega | assumption | (simp; done) | (simp; omega)) (by first | assumption | omega | rfl | decide | exact HeapL.list _ _ _ _ | exact HeapL.nil _ _ _ | exact HeapL.all _ _ _ | (apply HeapL.lt64 <;> assumption) | (repeat' (first | assumption | apply or_lt64 | apply and_lt64 | apply andn_lt64 | apply pow_lt64 | (apply HeapL.lt64 <;> assumption)))) (by first | assumption | omega | rfl | decide | exact HeapL.list _ _ _ _ | exact HeapL.nil _ _ _ | exact HeapL.all _ _ _ | (apply HeapL.lt64 <;> assumption) | (repeat' (first | assumption | apply or_lt64 | apply and_lt64 | apply andn_lt64 | apply pow_lt64 | (apply HeapL.lt64 <;> assumption)))) (by first | assumption | omega | rfl | decide | exact HeapL.list _ _ _ _ | exact HeapL.nil _ _ _ | exact HeapL.all _ _ _ | (apply HeapL.lt64 <;> assumption) | (repeat' (first | assumption | apply or_lt64 | apply and_lt64 | apply andn_lt64 | apply pow_lt64 | (apply HeapL.lt64 <;> assumption))))) ⟨rdF true (flatNums _ _ _ _) rfl rfl, trivial⟩ rfl ⟨clF (flatNums _ _ _ _), trivial⟩ rfl (by first | rfl | simp [mpV, mpA, mpS, mpP, renId, shift]) (by first | rfl | simp [mpV, mpA, mpS, mpP, renId, shift]) ⟨enF (flatA3 _ _ _ _) (Or.inl rfl), trivial⟩) ?_
    refine segEnd [0, 1, 2, 3, 9, 10] (T1 := (mkT 108 [(0, vN X), (1, vN Y), (2, vN Z), (3, vS 0 N.length), (9, vP 3 0), (10, .bool true)])) (H1 := [some ⟨nums N, 3, false, false⟩, some ⟨nums N, 3, false, true⟩, some ⟨a3s R, 74, false, true⟩, rB [vN X, vN Y, vN Z, vS 2 R.length] 40]) (by kernel_rfl) ?_
    refine kSeq ?_
    refine cSeq ?_
    refine cReg ?_
    refine segH 1 (T1 := (mkT 108 [(0, vN X), (1, vN Y), (2, vN Z), (3, vS 0 N.length), (9, vP 3 0), (10, .bool true), (31, vS 0 N.length)])) (by kernel_rfl) ?_
    refine rCall (v := vS 4 N.length) (args := [vS 0 N.length]) (by kernel_rfl) rfl (by kernel_rfl) (Sound.lay (E := [some ⟨nums N, 3, false, true⟩]) [0] (toI_S N (by first | omega | assumption | (simp; done) | (simp; omega))) ⟨rdF false (flatNums _ _ _ _) rfl rfl, trivial⟩ rfl ⟨clF (flatNums _ _ _ _), trivial⟩ rfl (by first | rfl | simp [mpV, mpA, mpS, mpP, renId, shift]) rfl ⟨enF (flatNums _ _ _ _) (Or.inl rfl), trivial⟩) ?_
    refine segEnd [0, 1, 2, 3, 9, 10, 11] (T1 := (mkT 108 [(0, vN X), (1, vN Y), (2, vN Z), (3, vS 0 N.length), (9, vP 3 0), (10, .bool true), (11, vS 4 N.length)])) (H1 := [some ⟨nums N, 3, false, false⟩, some ⟨nums N, 3, false, true⟩, some ⟨a3s R, 74, false, true⟩, rB [vN X, vN Y, vN Z, vS 2 R.length] 40, some ⟨nums N, 3, false, true⟩]) (by kernel_rfl) ?_
    refine kSeq ?_
    refine cSeq ?_
    refine cReg ?_
    refine segH 4 (T1 := (mkT 108 [(0, vN X), (1, vN Y), (2, vN Z), (3, vS 0 N.length), (9, vP 3 0), (10, .bool true), (11, vS 4 N.length), (34, vN X), (35, vN Y), (36, vN Z), (37, vS 4 N.length)])) (by kernel_rfl) ?_
    refine rCall (v := .tuple #[.agg #[vN X, vN Y, vN Z, vS 5 R.length], .bool true]) (args := [vN X, vN Y, vN Z, vS 4 N.length]) (by kernel_rfl) rfl (by kernel_rfl) (Sound.lay (E := [some ⟨a3s R, 74, false, true⟩]) [4] (implStackHeap_yesR X Y Z N R (by first | assumption | omega | rfl | decide | exact HeapL.list _ _ _ _ | exact HeapL.nil _ _ _ | exact HeapL.all _ _ _ | (apply HeapL.lt64 <;> assumption) | (repeat' (first | assumption | apply or_lt64 | apply and_lt64 | apply andn_lt64 | apply pow_lt64 | (apply HeapL.lt64 <;> assumption)))) (by first | omega | assumption | (simp; done) | (simp; omega)) (by first | assumption | omega | rfl | decide | exact HeapL.list _ _ _ _ | exact HeapL.nil _ _ _ | exact HeapL.all _ _ _ | (apply HeapL.lt64 <;> assumption) | (repeat' (first | assumption | apply or_lt64 | apply and_lt64 | apply andn_lt64 | apply pow_lt64 | (apply HeapL.lt64 <;> assumption)))) (by first | assumption | omega | rfl | decide | exact HeapL.list _ _ _ _ | exact HeapL.nil _ _ _ | exact HeapL.all _ _ _ | (apply HeapL.lt64 <;> assumption) | (repeat' (first | assumption | apply or_lt64 | apply and_lt64 | apply andn_lt64 | apply pow_lt64 | (apply HeapL.lt64 <;> assumption)))) (by first | assumption | omega | rfl | decide | exact HeapL.list _ _ _ _ | exact HeapL.nil _ _ _ | exact HeapL.all _ _ _ | (apply HeapL.lt64 <;> assumption) | (repeat' (first | assumption | apply or_lt64 | apply and_lt64 | apply andn_lt64 | apply pow_lt64 | (apply HeapL.lt64 <;> assumption))))) ⟨rdF true (flatNums _ _ _ _) rfl rfl, trivial⟩ rfl ⟨clF (flatNums _ _ _ _), trivial⟩ rfl (by first | rfl | simp [mpV, mpA, mpS, mpP, renId, shift]) (by first | rfl | simp [mpV, mpA, mpS, mpP, renId, shift]) ⟨enF (flatA3 _ _ _ _) (Or.inl rfl), trivial⟩) ?_
    refine segEnd [0, 1, 2, 3, 9, 10, 11, 12, 13] (T1 := (mkT 108 [(0, vN X), (1, vN Y), (2, vN Z), (3, vS 0 N.length), (9, vP 3 0), (10, .bool true), (11, vS 4 N.length), (12, vP 6 0), (13, .bool true)])) (H1 := [some ⟨nums N, 3, false, false⟩, some ⟨nums N, 3, false, true⟩, some ⟨a3s R, 74, false, true⟩, rB [vN X, vN Y, vN Z, vS 2 R.length] 40, some ⟨nums N, 3, false, true⟩, some ⟨a3s R, 74, false, true⟩, rB [vN X, vN Y, vN Z, vS 5 R.length] 40]) (by kernel_rfl) ?_
    refine kSeq ?_
    refine cSeq ?_
    refine cSeq ?_
    refine cReg ?_
    refine segH 2 (T1 := (mkT 108 [(0, vN X), (1, vN Y), (2, vN Z), (3, vS 0 N.length), (9, vP 3 0), (10, .bool true), (11, vS 4 N.length), (12, vP 6 0), (13, .bool true), (41, .agg #[vN X, vN Y, vN Z, vS 5 R.length]), (42, .agg #[vN X, vN Y, vN Z, vS 2 R.length])])) (by kernel_rfl) ?_
    refine rCall (v := .bool true) (args := [.agg #[vN X, vN Y, vN Z, vS 5 R.length], .agg #[vN X, vN Y, vN Z, vS 2 R.length]]) (by kernel_rfl) rfl (by kernel_rfl) (Sound.lay0 [5, 2] (eqHeapB ((X : Nat) : Int) ((Y : Nat) : Int) ((Z : Nat) : Int) R (by first | omega | assumption | (simp; done))) ⟨rdF true (flatA3 _ _ _ _) rfl rfl, ⟨rdF true (flatA3 _ _ _ _) rfl rfl, trivial⟩⟩ rfl ⟨clF (flatA3 _ _ _ _), ⟨clF (flatA3 _ _ _ _), trivial⟩⟩ rfl (by first | rfl | simp [mpV, mpA, mpS, mpP, renId, shift]) rfl) ?_
    refine segEndH [0, 1, 2, 3, 9, 10, 11, 12, 13, 49] (T1 := (mkT 108 [(0, vN X), (1, vN Y), (2, vN Z), (3, vS 0 N.length), (9, vP 3 0), (10, .bool true), (11, vS 4 N.length), (12, vP 6 0), (13, .bool true), (49, .bool false)])) (by kernel_rfl) ?_
    refine kSeq ?_
    refine cFalse (by kernel_rfl) ?_
    refine cSkip ?_
    refine kSeq ?_
    refine cSeq ?_
    refine cSeq ?_
    refine cReg ?_
    refine segH 2 (T1 := (mkT 108 [(0, vN X), (1, vN Y), (2, vN Z), (3, vS 0 N.length), (9, vP 3 0), (10, .bool true), (11, vS 4 N.length), (12, vP 6 0), (13, .bool true), (49, .bool false), (50, vS 4 N.length), (51, vS 0 N.length)])) (by kernel_rfl) ?_
    refine rCall (v := vS 7 N.length) (args := [vS 0 N.length]) (by kernel_rfl) rfl (by kernel_rfl) (Sound.lay (E := [some ⟨nums N, 3, false, true⟩]) [0] (toI_S N (by first | omega | assumption | (simp; done) | (simp; omega))) ⟨rdF false (flatNums _ _ _ _) rfl rfl, trivial⟩ rfl ⟨clF (flatNums _ _ _ _), trivial⟩ rfl (by first | rfl | simp [mpV, mpA, mpS, mpP, renId, shift]) rfl ⟨enF (flatNums _ _ _ _) (Or.inl rfl), trivial⟩) ?_
    refine rCall (v := .bool true) (args := [vS 4 N.length, vS 7 N.length]) (by kernel_rfl) rfl (by kernel_rfl) (Sound.lay0 [4, 7] (eqI_S N (by first | omega | assumption | (simp; done) | (simp; omega))) ⟨rdF true (flatNums _ _ _ _) rfl rfl, ⟨rdF true (flatNums _ _ _ _) rfl rfl, trivial⟩⟩ rfl ⟨clF (flatNums _ _ _ _), ⟨clF (flatNums _ _ _ _), trivial⟩⟩ rfl (by first | rfl | simp [mpV, mpA, mpS, mpP, renId, shift]) rfl) ?_
    refine segEnd [0, 1, 2, 3, 9, 10, 11, 12, 13, 54] (T1 := (mkT 108 [(0, vN X), (1, vN Y), (2, vN Z), (3, vS 0 N.length), (9, vP 3 0), (10, .bool true), (11, vS 4 N.length), (12, vP 6 0), (13, .bool true), (54, .bool false)])) (H1 := [some ⟨nums N, 3, false, false⟩, some ⟨nums N, 3, false, true⟩, some ⟨a3s R, 74, false, true⟩, rB [vN X, vN Y, vN Z, vS 2 R.length] 40, some ⟨nums N, 3, false, true⟩, some ⟨a3s R, 74, false, true⟩, rB [vN X, vN Y, vN Z, vS 5 R.length] 40, some ⟨nums N, 3, false, true⟩]) (by kernel_rfl) ?_
    refine kSeq ?_
    refine cFalse (by kernel_rfl) ?_
    refine cSkip ?_
    refine kSeq ?_
    refine cSeq ?_
    refine cReg ?_
    refine segEndH [0, 1, 2, 3, 9, 10, 11, 12, 13, 14] (T1 := (mkT 108 [(0, vN X), (1, vN Y), (2, vN Z), (3, vS 0 N.length), (9, vP 3 0), (10, .bool true), (11, vS 4 N.length), (12, vP 6 0), (13, .bool true), (14, vI 1)])) (by kernel_rfl) ?_
    refine kSeq ?_
    refine cSeq ?_
    refine cReg ?_
    refine segH 2 (T1 := (mkT 108 [(0, vN X), (1, vN Y), (2, vN Z), (3, vS 0 N.length), (9, vP 3 0), (10, .bool true), (11, vS 4 N.length), (12, vP 6 0), (13, .bool true), (14, vI 1), (55, vS 4 N.length), (56, vI 1)])) (by kernel_rfl) ?_
    refine rCall (v := vN (1 + N.length)) (args := [vS 4 N.length, vI 1]) (by kernel_rfl) rfl (by kernel_rfl) (Sound.emb_set (r := ⟨nums N, 3, false, true⟩) (r' := ⟨nums (mkI 1 N.length), 3, false, true⟩) 4 (markI_S N 1 (by first | omega | assumption | (simp; done) | (simp; omega)) (by first | assumption | omega | rfl | decide | exact HeapL.list _ _ _ _ | exact HeapL.nil _ _ _ | exact HeapL.all _ _ _ | (apply HeapL.lt64 <;> assumption) | (repeat' (first | assumption | apply or_lt64 | apply and_lt64 | apply andn_lt64 | apply pow_lt64 | (apply HeapL.lt64 <;> assumption))))) (flatNums _ _ _ _) rfl (flatNums _ _ _ _) rfl rfl rfl (by first | rfl | simp [mpV, mpA, mpS, mpP, renId, shift]) rfl) ?_
    refine segEnd [0, 1, 2, 3, 9, 10, 12, 13, 14] (T1 := (mkT 108 [(0, vN X), (1, vN Y), (2, vN Z), (3, vS 0 N.length), (9, vP 3 0), (10, .bool true), (12, vP 6 0), (13, .bool true), (14, vN (1 + N.length))])) (H1 := [some ⟨nums N, 3, false, false⟩, some ⟨nums N, 3, false, true⟩, some ⟨a3s R, 74, false, true⟩, rB [vN X, vN Y, vN Z, vS 2 R.length] 40, some ⟨nums (mkI 1 N.length), 3, false, true⟩, some ⟨a3s R, 74, false, true⟩, rB [vN X, vN Y, vN Z, vS 5 R.length] 40, some ⟨nums N, 3, false, true⟩]) (by kernel_rfl) ?_
    refine kSeq ?_
    refine cSeq ?_
    refine cSeq ?_
    refine cReg ?_
    refine segH 3 (T1 := (mkT 108 [(0, vN X), (1, vN Y), (2, vN Z), (3, vS 0 N.length), (9, vP 3 0), (10, .bool true), (12, vP 6 0), (13, .bool true), (14, vN (1 + N.length)), (58, vN (1 + N.length)), (59, .bool (decide (((1 + N.length : Nat) : Int) < 0))), (60, .bool (decide (((1 + N.length : Nat) : Int) < 0)))])) (by kernel_rfl) ?_
    cases h2 : (decide (((1 + N.length : Nat) : Int) < 0) : Bool)
    ·
      (try simp only [Bool.not_eq_true', Bool.not_eq_false', decide_eq_true_eq, decide_eq_false_iff_not, beq_iff_eq, bne_iff_ne, beq_eq_false_iff_ne, bne_eq_false_iff_eq, ne_eq, Decidable.not_not, Bool.and_eq_true, Bool.and_eq_false_imp, Bool.or_eq_true, Bool.or_eq_false_iff, Bool.not_eq_true, Int.not_lt, Int.not_le, ge_iff_le, gt_iff_lt] at h2)
      refine seg 2 (T1 := (mkT 108 [(0, vN X), (1, vN Y), (2, vN Z), (3, vS 0 N.length), (9, vP 3 0), (10, .bool true), (12, vP 6 0), (13, .bool true), (14, vN (1 + N.length)), (58, vN (1 + N.length)), (59, .bool false), (60, .bool false), (61, .agg #[vN X, vN Y, vN Z, vS 5 R.length]), (62, .agg #[vN X, vN Y, vN Z, vS 2 R.length])])) (H1 := [some ⟨nums N, 3, false, false⟩, some ⟨nums N, 3, false, true⟩, some ⟨a3s R, 74, false, true⟩, rB [vN X, vN Y, vN Z, vS 2 R.length] 40, some ⟨nums (mkI 1 N.length), 3, false, true⟩, some ⟨a3s R, 74, false, true⟩, rB [vN X, vN Y, vN Z, vS 5 R.length] 40, some ⟨nums N, 3, false, true⟩]) (by kernel_rfl) ?_
      refine rCall (v := .bool true) (args := [.agg #[vN X, vN Y, vN Z, vS 5 R.length], .agg #[vN X, vN Y, vN Z, vS 2 R.length]]) (by kernel_rfl) rfl (by kernel_rfl) (Sound.lay0 [5, 2] (eqHeapB ((X : Nat) : Int) ((Y : Nat) : Int) ((Z : Nat) : Int) R (by first | omega | assumption | (simp; done))) ⟨rdF true (flatA3 _ _ _ _) rfl rfl, ⟨rdF true (flatA3 _ _ _ _) rfl rfl, trivial⟩⟩ rfl ⟨clF (flatA3 _ _ _ _), ⟨clF (flatA3 _ _ _ _), trivial⟩⟩ rfl (by first | rfl | simp [mpV, mpA, mpS, mpP, renId, shift]) rfl) ?_
      refine segEnd [0, 1, 2, 3, 9, 10, 12, 70] (T1 := (mkT 108 [(0, vN X), (1, vN Y), (2, vN Z), (3, vS 0 N.length), (9, vP 3 0), (10, .bool true), (12, vP 6 0), (70, .bool false)])) (H1 := [some ⟨nums N, 3, false, false⟩, some ⟨nums N, 3, false, true⟩, some ⟨a3s R, 74, false, true⟩, rB [vN X, vN Y, vN Z, vS 2 R.length] 40, some ⟨nums (mkI 1 N.length), 3, false, true⟩, some ⟨a3s R, 74, false, true⟩, rB [vN X, vN Y, vN Z, vS 5 R.length] 40, some ⟨nums N, 3, false, true⟩]) (by kernel_rfl) ?_
      refine kSeq ?_
      refine cFalse (by kernel_rfl) ?_
      refine cSkip ?_
      refine kSeq ?_
      refine cSeq ?_
      refine cReg ?_
      refine segEndH [0, 1, 2, 3, 9, 10, 12, 15] (T1 := (mkT 108 [(0, vN X), (1, vN Y), (2, vN Z), (3, vS 0 N.length), (9, vP 3 0), (10, .bool true), (12, vP 6 0), (15, vI 1)])) (by kernel_rfl) ?_
      refine kSeq ?_
      refine cSeq ?_
      refine cReg ?_
      refine segH 2 (T1 := (mkT 108 [(0, vN X), (1, vN Y), (2, vN Z), (3, vS 0 N.length), (9, vP 3 0), (10, .bool true), (12, vP 6 0), (15, vI 1), (71, .agg #[vN X, vN Y, vN Z, vS 5 R.length]), (72, vI 1)])) (by kernel_rfl) ?_
      refine rCall (v := vN (1 + 3 * R.length)) (args := [.agg #[vN X, vN Y, vN Z, vS 5 R.length], vI 1]) (by kernel_rfl) rfl (by kernel_rfl) (Sound.emb_set (r := ⟨a3s R, 74, false, true⟩) (r' := ⟨a3s (mk3 1 R.length), 74, false, true⟩) 5 (markHeapB ((X : Nat) : Int) ((Y : Nat) : Int) ((Z : Nat) : Int) R 1 (by first | omega | assumption | (simp; done)) (by first | assumption | omega | rfl | decide | exact HeapL.list _ _ _ _ | exact HeapL.nil _ _ _ | exact HeapL.all _ _ _ | (apply HeapL.lt64 <;> assumption) | (repeat' (first | assumption | apply or_lt64 | apply and_lt64 | apply andn_lt64 | apply pow_lt64 | (apply HeapL.lt64 <;> assumption))))) (flatA3 _ _ _ _) rfl (flatA3 _ _ _ _) rfl rfl rfl (by first | rfl | simp [mpV, mpA, mpS, mpP, renId, shift]) rfl) ?_
      refine segEnd [0, 1, 2, 3, 9, 10, 12, 15] (T1 := (mkT 108 [(0, vN X), (1, vN Y), (2, vN Z), (3, vS 0 N.length), (9, vP 3 0), (10, .bool true), (12, vP 6 0), (15, vN (1 + 3 * R.length))])) (H1 := [some ⟨nums N, 3, false, false⟩, some ⟨nums N, 3, false, true⟩, some ⟨a3s R, 74, false, true⟩, rB [vN X, vN Y, vN Z, vS 2 R.length] 40, some ⟨nums (mkI 1 N.length), 3, false, true⟩, some ⟨a3s (mk3 1 R.length), 74, false, true⟩, rB [vN X, vN Y, vN Z, vS 5 R.length] 40, some ⟨nums N, 3, false, true⟩]) (by kernel_rfl) ?_
      refine kSeq ?_
      refine cSeq ?_
      refine cReg ?_
      refine segEndH [0, 1, 2, 3, 9, 10, 12, 15, 16] (T1 := (mkT 108 [(0, vN X), (1, vN Y), (2, vN Z), (3, vS 0 N.length), (9, vP 3 0), (10, .bool true), (12, vP 6 0), (15, vN (1 + 3 * R.length)), (16, vI 1)])) (by kernel_rfl) ?_
      refine kSeq ?_
      refine cSeq ?_
      refine cReg ?_
      refine segH 2 (T1 := (mkT 108 [(0, vN X), (1, vN Y), (2, vN Z), (3, vS 0 N.length), (9, vP 3 0), (10, .bool true), (12, vP 6 0), (15, vN (1 + 3 * R.length)), (16, vI 1), (74, .agg #[vN X, vN Y, vN Z, vS 5 R.length]), (75, vI 1)])) (by kernel_rfl) ?_
      refine rCall (v := vN (1 + 3 * R.length)) (args := [.agg #[vN X, vN Y, vN Z, vS 5 R.length], vI 1]) (by kernel_rfl) rfl (by kernel_rfl) (Sound.lay0 [5] (heldHeapB ((X : Nat) : Int) ((Y : Nat) : Int) ((Z : Nat) : Int) 1 R.length (by first | omega | assumption | (simp; done)) (by first | assumption | omega | rfl | decide | exact HeapL.list _ _ _ _ | exact HeapL.nil _ _ _ | exact HeapL.all _ _ _ | (apply HeapL.lt64 <;> assumption) | (repeat' (first | assumption | apply or_lt64 | apply and_lt64 | apply andn_lt64 | apply pow_lt64 | (apply HeapL.lt64 <;> assumption))))) ⟨rdF true (flatA3 _ _ _ _) rfl rfl, trivial⟩ rfl ⟨clF (flatA3 _ _ _ _), trivial⟩ rfl (by first | rfl | simp [mpV, mpA, mpS, mpP, renId, shift]) rfl) ?_
      refine segEndH [0, 1, 2, 3, 9, 10, 12, 15, 16] (T1 := (mkT 108 [(0, vN X), (1, vN Y), (2, vN Z), (3, vS 0 N.length), (9, vP 3 0), (10, .bool true), (12, vP 6 0), (15, vN (1 + 3 * R.length)), (16, vN (1 + 3 * R.length))])) (by kernel_rfl) ?_
      refine kSeq ?_
      refine cSeq ?_
      refine cSeq ?_
      refine cReg ?_
      refine segEndH [0, 1, 2, 3, 9, 10, 12, 15, 16, 78] (T1 := (mkT 108 [(0, vN X), (1, vN Y), (2, vN Z), (3, vS 0 N.length), (9, vP 3 0), (10, .bool true), (12, vP 6 0), (15, vN (1 + 3 * R.length)), (16, vN (1 + 3 * R.length)), (78, .bool (decide (((1 + 3 * R.length : Nat) : Int) < 0)))])) (by kernel_rfl) ?_
      refine kSeq ?_
      cases h3 : (decide (((1 + 3 * R.length : Nat) : Int) < 0) : Bool)
      ·
        (try simp only [Bool.not_eq_true', Bool.not_eq_false', decide_eq_true_eq, decide_eq_false_iff_not, beq_iff_eq, bne_iff_ne, beq_eq_false_iff_ne, bne_eq_false_iff_eq, ne_eq, Decidable.not_not, Bool.and_eq_true, Bool.and_eq_false_imp, Bool.or_eq_true, Bool.or_eq_false_iff, Bool.not_eq_true, Int.not_lt, Int.not_le, ge_iff_le, gt_iff_lt] at h3)
        refine cFalse (by kernel_rfl) ?_
        refine cSkip ?_
        refine kSeq ?_
        refine cSeq ?_
        refine cSeq ?_
        refine cReg ?_
        refine segH 2 (T1 := (mkT 108 [(0, vN X), (1, vN Y), (2, vN Z), (3, vS 0 N.length), (9, vP 3 0), (10, .bool true), (12, vP 6 0), (15, vN (1 + 3 * R.length)), (16, vN (1 + 3 * R.length)), (78, .bool false), (79, vN (1 + 3 * R.length)), (80, vN (1 + 3 * R.length))])) (by kernel_rfl) ?_
        refine rOp (v := .bool false) (by kernel_rfl) (eNeS (k := .i64) (a := ((1 + 3 * R.length : Nat) : Int)) (by kernel_rfl) (by kernel_rfl)) ?_
        refine segEndH [0, 1, 2, 3, 9, 10, 12, 15, 81] (T1 := (mkT 108 [(0, vN X), (1, vN Y), (2, vN Z), (3, vS 0 N.length), (9, vP 3 0), (10, .bool true), (12, vP 6 0), (15, vN (1 + 3 * R.length)), (81, .bool false)])) (by kernel_rfl) ?_
        refine kSeq ?_
        refine cFalse (by kernel_rfl) ?_
        refine cSkip ?_
        refine kSeq ?_
        refine cSeq ?_
        refine cReg ?_
        refine segH 4 (T1 := (mkT 108 [(0, vN X), (1, vN Y), (2, vN Z), (3, vS 0 N.length), (9, vP 3 0), (10, .bool true), (12, vP 6 0), (15, vN (1 + 3 * R.length)), (81, .bool false), (83, vN X), (84, vN Y), (85, vN Z), (86, vS 0 N.length)])) (by kernel_rfl) ?_
        refine rCall (v := vS 8 N.length) (args := [vS 0 N.length]) (by kernel_rfl) rfl (by kernel_rfl) (Sound.lay (E := [some ⟨nums N, 3, false, true⟩]) [0] (toI_S N (by first | omega | assumption | (simp; done) | (simp; omega))) ⟨rdF false (flatNums _ _ _ _) rfl rfl, trivial⟩ rfl ⟨clF (flatNums _ _ _ _), trivial⟩ rfl (by first | rfl | simp [mpV, mpA, mpS, mpP, renId, shift]) rfl ⟨enF (flatNums _ _ _ _) (Or.inl rfl), trivial⟩) ?_
        refine rCall (v := .tuple #[.agg #[vN X, vN Y, vN Z, vS 9 R.length], .bool true]) (args := [vN X, vN Y, vN Z, vS 8 N.length]) (by kernel_rfl) rfl (by kernel_rfl) (Sound.lay (E := [some ⟨a3s R, 74, false, true⟩]) [8] (implStackHeap_yesR X Y Z N R (by first | assumption | omega | rfl | decide | exact HeapL.list _ _ _ _ | exact HeapL.nil _ _ _ | exact HeapL.all _ _ _ | (apply HeapL.lt64 <;> assumption) | (repeat' (first | assumption | apply or_lt64 | apply and_lt64 | apply andn_lt64 | apply pow_lt64 | (apply HeapL.lt64 <;> assumption)))) (by first | omega | assumption | (simp; done) | (simp; omega)) (by first | assumption | omega | rfl | decide | exact HeapL.list _ _ _ _ | exact HeapL.nil _ _ _ | exact HeapL.all _ _ _ | (apply HeapL.lt64 <;> assumption) | (repeat' (first | assumption | apply or_lt64 | apply and_lt64 | apply andn_lt64 | apply pow_lt64 | (apply HeapL.lt64 <;> assumption)))) (by first | assumption | omega | rfl | decide | exact HeapL.list _ _ _ _ | exact HeapL.nil _ _ _ | exact HeapL.all _ _ _ | (apply HeapL.lt64 <;> assumption) | (repeat' (first | assumption | apply or_lt64 | apply and_lt64 | apply andn_lt64 | apply pow_lt64 | (apply HeapL.lt64 <;> assumption)))) (by first | assumption | omega | rfl | decide | exact HeapL.list _ _ _ _ | exact HeapL.nil _ _ _ | exact HeapL.all _ _ _ | (apply HeapL.lt64 <;> assumption) | (repeat' (first | assumption | apply or_lt64 | apply and_lt64 | apply andn_lt64 | apply pow_lt64 | (apply HeapL.lt64 <;> assumption))))) ⟨rdF true (flatNums _ _ _ _) rfl rfl, trivial⟩ rfl ⟨clF (flatNums _ _ _ _), trivial⟩ rfl (by first | rfl | simp [mpV, mpA, mpS, mpP, renId, shift]) (by first | rfl | simp [mpV, mpA, mpS, mpP, renId, shift]) ⟨enF (flatA3 _ _ _ _) (Or.inl rfl), trivial⟩) ?_
        refine segEnd [9, 10, 12, 15, 17, 18] (T1 := (mkT 108 [(9, vP 3 0), (10, .bool true), (12, vP 6 0), (15, vN (1 + 3 * R.length)), (17, vP 10 0), (18, .bool true)])) (H1 := [some ⟨nums N, 3, false, false⟩, some ⟨nums N, 3, false, true⟩, some ⟨a3s R, 74, false, true⟩, rB [vN X, vN Y, vN Z, vS 2 R.length] 40, some ⟨nums (mkI 1 N.length), 3, false, true⟩, some ⟨a3s (mk3 1 R.length), 74, false, true⟩, rB [vN X, vN Y, vN Z, vS 5 R.length] 40, some ⟨nums N, 3, false, true⟩, some ⟨nums N, 3, false, true⟩, some ⟨a3s R, 74, false, true⟩, rB [vN X, vN Y, vN Z, vS 9 R.length] 40]) (by kernel_rfl) ?_
        refine kSeq ?_
        refine cSeq ?_
        refine cSeq ?_
        refine cReg ?_
        refine segH 2 (T1 := (mkT 108 [(9, vP 3 0), (10, .bool true), (12, vP 6 0), (15, vN (1 + 3 * R.length)), (17, vP 10 0), (18, .bool true), (91, .agg #[vN X, vN Y, vN Z, vS 9 R.length]), (92, .agg #[vN X, vN Y, vN Z, vS 2 R.length])])) (by kernel_rfl) ?_
        refine rCall (v := .bool true) (args := [.agg #[vN X, vN Y, vN Z, vS 9 R.length], .agg #[vN X, vN Y, vN Z, vS 2 R.length]]) (by kernel_rfl) rfl (by kernel_rfl) (Sound.lay0 [9, 2] (eqHeapB ((X : Nat) : Int) ((Y : Nat) : Int) ((Z : Nat) : Int) R (by first | omega | assumption | (simp; done))) ⟨rdF true (flatA3 _ _ _ _) rfl rfl, ⟨rdF true (flatA3 _ _ _ _) rfl rfl, trivial⟩⟩ rfl ⟨clF (flatA3 _ _ _ _), ⟨clF (flatA3 _ _ _ _), trivial⟩⟩ rfl (by first | rfl | simp [mpV, mpA, mpS, mpP, renId, shift]) rfl) ?_
        refine segEndH [12, 15, 99] (T1 := (mkT 108 [(12, vP 6 0), (15, vN (1 + 3 * R.length)), (99, .bool false)])) (by kernel_rfl) ?_
        refine kSeq ?_
        refine cFalse (by kernel_rfl) ?_
        refine cSkip ?_
        refine kSeq ?_
        refine cSeq ?_
        refine cReg ?_
        refine segEndH [12, 15, 16] (T1 := (mkT 108 [(12, vP 6 0), (15, vN (1 + 3 * R.length)), (16, vI 1)])) (by kernel_rfl) ?_
        refine kSeq ?_
        refine cSeq ?_
        refine cReg ?_
        refine segH 2 (T1 := (mkT 108 [(12, vP 6 0), (15, vN (1 + 3 * R.length)), (16, vI 1), (100, .agg #[vN X, vN Y, vN Z, vS 5 R.length]), (101, vI 1)])) (by kernel_rfl) ?_
        refine rCall (v := vN (1 + 3 * R.length)) (args := [.agg #[vN X, vN Y, vN Z, vS 5 R.length], vI 1]) (by kernel_rfl) rfl (by kernel_rfl) (Sound.lay0 [5] (heldHeapB ((X : Nat) : Int) ((Y : Nat) : Int) ((Z : Nat) : Int) 1 R.length (by first | omega | assumption | (simp; done)) (by first | assumption | omega | rfl | decide | exact HeapL.list _ _ _ _ | exact HeapL.nil _ _ _ | exact HeapL.all _ _ _ | (apply HeapL.lt64 <;> assumption) | (repeat' (first | assumption | apply or_lt64 | apply and_lt64 | apply andn_lt64 | apply pow_lt64 | (apply HeapL.lt64 <;> assumption))))) ⟨rdF true (flatA3 _ _ _ _) rfl rfl, trivial⟩ rfl ⟨clF (flatA3 _ _ _ _), trivial⟩ rfl (by first | rfl | simp [mpV, mpA, mpS, mpP, renId, shift]) rfl) ?_
        refine segEndH [15, 16] (T1 := (mkT 108 [(15, vN (1 + 3 * R.length)), (16, vN (1 + 3 * R.length))])) (by kernel_rfl) ?_
        refine kSeq ?_
        refine cSeq ?_
        refine cSeq ?_
        refine cReg ?_
        refine segEndH [15, 16, 104] (T1 := (mkT 108 [(15, vN (1 + 3 * R.length)), (16, vN (1 + 3 * R.length)), (104, .bool (decide (((1 + 3 * R.length : Nat) : Int) < 0)))])) (by kernel_rfl) ?_
        refine kSeq ?_
        cases h4 : (decide (((1 + 3 * R.length : Nat) : Int) < 0) : Bool)
        ·
          (try simp only [Bool.not_eq_true', Bool.not_eq_false', decide_eq_true_eq, decide_eq_false_iff_not, beq_iff_eq, bne_iff_ne, beq_eq_false_iff_ne, bne_eq_false_iff_eq, ne_eq, Decidable.not_not, Bool.and_eq_true, Bool.and_eq_false_imp, Bool.or_eq_true, Bool.or_eq_false_iff, Bool.not_eq_true, Int.not_lt, Int.not_le, ge_iff_le, gt_iff_lt] at h4)
          refine cFalse (by kernel_rfl) ?_
          refine cSkip ?_
          refine kSeq ?_
          refine cSeq ?_
          refine cSeq ?_
          refine cReg ?_
          refine segH 2 (T1 := (mkT 108 [(15, vN (1 + 3 * R.length)), (16, vN (1 + 3 * R.length)), (104, .bool false), (105, vN (1 + 3 * R.length)), (106, vN (1 + 3 * R.length))])) (by kernel_rfl) ?_
          refine rOp (v := .bool false) (by kernel_rfl) (eNeS (k := .i64) (a := ((1 + 3 * R.length : Nat) : Int)) (by kernel_rfl) (by kernel_rfl)) ?_
          refine segEndH [107] (T1 := (mkT 108 [(107, .bool false)])) (by kernel_rfl) ?_
          refine kSeq ?_
          refine cFalse (by kernel_rfl) ?_
          refine cSkip ?_
          refine kSeq ?_
          refine cSeq ?_
          refine cReg ?_
          refine segEndH [8] (T1 := (mkT 108 [(8, .bool true)])) (by kernel_rfl) ?_
          refine kSeq ?_
          refine cRet ?_
          -- end
          exact endQ (Or.inr rfl) (l := [.bool true]) [some ⟨nums N, 3, false, true⟩, some ⟨a3s R, 74, false, true⟩, rB [vN X, vN Y, vN Z, vS 2 R.length] 40, some ⟨nums (mkI 1 N.length), 3, false, true⟩, some ⟨a3s (mk3 1 R.length), 74, false, true⟩, rB [vN X, vN Y, vN Z, vS 5 R.length] 40, some ⟨nums N, 3, false, true⟩, some ⟨nums N, 3, false, true⟩, some ⟨a3s R, 74, false, true⟩, rB [vN X, vN Y, vN Z, vS 9 R.length] 40] (by kernel_rfl) (by first | rfl | kernel_rfl) rfl rfl hcl rfl
        ·
          (try simp only [Bool.not_eq_true', Bool.not_eq_false', decide_eq_true_eq, decide_eq_false_iff_not, beq_iff_eq, bne_iff_ne, beq_eq_false_iff_ne, bne_eq_false_iff_eq, ne_eq, Decidable.not_not, Bool.and_eq_true, Bool.and_eq_false_imp, Bool.or_eq_true, Bool.or_eq_false_iff, Bool.not_eq_true, Int.not_lt, Int.not_le, ge_iff_le, gt_iff_lt] at h4)
          exfalso; omega
      ·
        (try simp only [Bool.not_eq_true', Bool.not_eq_false', decide_eq_true_eq, decide_eq_false_iff_not, beq_iff_eq, bne_iff_ne, beq_eq_false_iff_ne, bne_eq_false_iff_eq, ne_eq, Decidable.not_not, Bool.and_eq_true, Bool.and_eq_false_imp, Bool.or_eq_true, Bool.or_eq_false_iff, Bool.not_eq_true, Int.not_lt, Int.not_le, ge_iff_le, gt_iff_lt] at h3)
        exfalso; omega
    ·
      (try simp only [Bool.not_eq_true', Bool.not_eq_false', decide_eq_true_eq, decide_eq_false_iff_not, beq_iff_eq, bne_iff_ne, beq_eq_false_iff_ne, bne_eq_false_iff_eq, ne_eq, Decidable.not_not, Bool.and_eq_true, Bool.and_eq_false_imp, Bool.or_eq_true, Bool.or_eq_false_iff, Bool.not_eq_true, Int.not_lt, Int.not_le, ge_iff_le, gt_iff_lt] at h2)
      exfalso; omega
  ·
    (try simp only [Bool.not_eq_true', Bool.not_eq_false', decide_eq_true_eq, decide_eq_false_iff_not, beq_iff_eq, bne_iff_ne, beq_eq_false_iff_ne, bne_eq_false_iff_eq, ne_eq, Decidable.not_not, Bool.and_eq_true, Bool.and_eq_false_imp, Bool.or_eq_true, Bool.or_eq_false_iff, Bool.not_eq_true, Int.not_lt, Int.not_le, ge_iff_le, gt_iff_lt] at h1)
    refine cTrue (by kernel_rfl) ?_
    refine cSeq ?_
    refine cReg ?_
    refine segEndH [8] (T1 := (mkT 108 [(8, .bool true)])) (by kernel_rfl) ?_
    refine kSeq ?_
    refine cRet ?_
    refine kSeqR ?_
    -- end
    exact endQ (Or.inr rfl) (l := [.bool true]) [] (by kernel_rfl) (by first | rfl | kernel_rfl) rfl rfl hcl rfl

theorem lawStackHeap_s (x : Int) (y : Int) (z : Int) (N : List Int) (hmN : N.length ≤ 9223372036854775807) : Sound Try.prog 7 [vI x, vI y, vI z, vS 0 N.length] [some ⟨nums N, 3, false, false⟩] (.bool true) [some ⟨nums N, 3, false, false⟩] := by
  by_cases hl : N.length ≤ 1048576
  · cases hv : valid3 x y z
    · exact lawStackHeap_no_s x y z N hl hv
    · obtain ⟨X, Y, Z, rfl, rfl, rfl, g1, g2, g3, g4, g5, g6⟩ := nat_valid hv
      have hs : Sides X Y Z := ⟨g1, g2, g3, g4, g5, g6⟩
      by_cases hnl : N.length = X * Y
      · cases hq : allB N 0 (Z : Int)
        · exact lawStackHeap_n3_s X Y Z N hs hl hnl hq
        · exact lawStackHeap_yes_s X Y Z N _ hs hl hnl hq rfl
      · exact lawStackHeap_n2_s X Y Z N hs hl hnl
  · exact lawStackHeap_big_s x y z N (by omega) hmN

theorem lawStackHeap_n (x : Int) (y : Int) (z : Int)  : Sound Try.prog 7 [vI x, vI y, vI z, .slice none 0 0] [] (.bool true) [] := by
  cases hv : valid3 x y z
  · exact lawStackHeap_no_n x y z hv
  · obtain ⟨X, Y, Z, rfl, rfl, rfl, g1, g2, g3, g4, g5, g6⟩ := nat_valid hv
    have hs : Sides X Y Z := ⟨g1, g2, g3, g4, g5, g6⟩
    exact lawStackHeap_n2_n X Y Z hs (by have := Nat.mul_pos (show 0 < X by omega) (show 0 < Y by omega); simp; omega)
end Go.Proofs.Ytbheeobnghlckaa
namespace Go.Proofs.Ytbheeobnghlckaa.fnExactStackHeap
open Go.Am Go.ChangeShapes Go.WideShapes Go.ChangeAt Go.RowKit
theorem own : ownKnob Try.prog.godebug = none := by kernel_rfl
theorem laidOut : laidOutB Try.prog = true := by kernel_rfl
set_option maxRecDepth 100000 in
theorem lifted (os : Os) (started : os.Started) (H : Type) (enc : TypeId × Value → H) :
    ReturnsInHanded {} Try.checked os 7 .any (Rows.fnExactStackHeapSpec.pre6 enc Try.prog Try.f7 Rows.fnExactStackHeapRow.domain false) (Rows.fnExactStackHeapSpec.post enc Try.prog Try.f7 false true false false) := by
  refine returnsInHanded_of_change_sized (C := Try.checked) own started (by kernel_rfl) Try.func7
    (ChangeSpec.witness6 (enc := enc) (C := Try.checked) false ⟨#[], #[.int .i64 0, .int .i64 0, .int .i64 0, .slice none 0 0], []⟩ 8 (by kernel_rfl) (by kernel_rfl) (by kernel_rfl) (by kernel_rfl)) ?_
  intro W base args ds gs before hval0 hW hcnd hsz0 _
  have hval : ∀ (j : Nat) t v, Try.f7.params[j]? = some t → args[j]? = some v → Value.okWide Try.prog W .any base t v := hval0
  have hW' := hW
  obtain ⟨p, q, hA0, hV, rfl, hfz, hnd⟩ := hW
  have hA : DataW.TrodAll enc Try.prog W 0 (fun _ => true) true Try.f7.params.toList args.toList ds p := hA0
  rw [Try.params7] at hA hval
  obtain ⟨v0, vs0, d0, ds0, p0, q0, hargs, rfl, rfl, h0, r0⟩ := trodAll_cons hA
  obtain ⟨v1, vs1, d1, ds1, p1, q1, rfl, rfl, rfl, h1, r1⟩ := trodAll_cons r0
  obtain ⟨v2, vs2, d2, ds2, p2, q2, rfl, rfl, rfl, h2, r2⟩ := trodAll_cons r1
  obtain ⟨v3, vs3, d3, ds3, p3, q3, rfl, rfl, rfl, h3, r3⟩ := trodAll_cons r2
  obtain ⟨rfl, rfl, rfl⟩ := trodAll_nil r3
  obtain rfl : args = #[v0, v1, v2, v3] := by cases args; simp_all
  obtain ⟨rfl, rfl⟩ := trodVars_none hV
  have hlt0 : ∀ x ∈ p0, x.block < W.heap.size := fun x hx => by simpa using hW'.lt x (by simp [hx])
  have hlt1 : ∀ x ∈ p1, x.block < W.heap.size := fun x hx => by simpa using hW'.lt x (by simp [hx])
  have hlt2 : ∀ x ∈ p2, x.block < W.heap.size := fun x hx => by simpa using hW'.lt x (by simp [hx])
  have hlt3 : ∀ x ∈ p3, x.block < W.heap.size := fun x hx => by simpa using hW'.lt x (by simp [hx])
  have fin : (∃ Q : Prop, Q) ∧ Calls Try.prog 7 #[v0, v1, v2, v3] W (fun e W' => e = .returned (.bool true) ∧ Below W.heap.size W W') := by
    refine ⟨⟨True, trivial⟩, ?_⟩
    obtain ⟨x, rfl, _, _, wx⟩ := open_int Try.underlying3 (hval 0 3 v0 rfl rfl) h0
    obtain ⟨y, rfl, _, _, wy⟩ := open_int Try.underlying3 (hval 1 3 v1 rfl rfl) h1
    obtain ⟨z, rfl, _, _, wz⟩ := open_int Try.underlying3 (hval 2 3 v2 rfl rfl) h2
    have hsN := isNums (b0 := base) Try.underlying22 Try.underlying3 (by kernel_rfl) (hval 3 22 v3 rfl rfl) h3
    rcases hsN with rfl | ⟨adN, capN, N, rfl, hmN, hwN, hrN⟩
    · have hS : Sound Try.prog 7 [vI x, vI y, vI z, .slice none 0 0] [] (.bool true) [] := lawStackHeap_n x y z
      exact hS.top0 rfl rfl W
    · have hS : Sound Try.prog 7 [vI x, vI y, vI z, vS 0 N.length] [some ⟨nums N, 3, false, false⟩] (.bool true) [some ⟨nums N, 3, false, false⟩] := lawStackHeap_s x y z N hmN
      have h := Sound.topL (W := W) [(adN, capN, ⟨nums N, 3, false, false⟩)] hS (fun p hp => by
        simp only [List.mem_cons, List.not_mem_nil, or_false] at hp
        rcases hp with rfl
        · exact hrN) (fun x hx i hi => by
        simp only [List.mem_cons, List.not_mem_nil, or_false] at hx
        rcases hx with rfl | rfl | rfl | rfl <;> simp [idsV, idsA, idsS, idsP, vI, vN, vS] at hi
        all_goals simp; omega) rfl
      have hspN := hrN.1
      obtain ⟨blkN, offN, spotN⟩ := adN
      simp only at hspN
      subst hspN
      simpa [mapV, mpV, mpA, mpS, mpP, toReal, locsOf, vI, vN, vS] using h
  clear hA0 hval0 hsz0
  refine fin.2.mono fun e W' ⟨he, bel⟩ => ?_
  subst he
  exact ⟨_, rfl, _, _, _, [], _, [], hW', trodAll_mk1 (shut_bool Try.underlying4 _), (trodAll_cons_mk (Below.trod laidOut (by kernel_rfl) (of_decide_eq_true (by kernel_rfl)) h0 bel hlt0) (trodAll_cons_mk (Below.trod laidOut (by kernel_rfl) (of_decide_eq_true (by kernel_rfl)) h1 bel hlt1) (trodAll_cons_mk (Below.trod laidOut (by kernel_rfl) (of_decide_eq_true (by kernel_rfl)) h2 bel hlt2) (trodAll_cons_mk (Below.trod laidOut (by kernel_rfl) (of_decide_eq_true (by kernel_rfl)) h3 bel hlt3) trodAll_mk0)))), rfl, bel.frame _, fun h => by cases h⟩
theorem over : Rows.fnExactStackHeapRow.holds Try.pinned (OpenSpec.ofChange Rows.fnExactStackHeapSpec) :=
  OpenClaim.holds_of_wide 7 Try.f7 rfl rfl rfl rfl rfl rfl rfl ⟨rfl, rfl, rfl, rfl, rfl⟩ rfl rfl rfl rfl rfl (by kernel_rfl) Try.func7 (by kernel_rfl)
    (of_decide_eq_true (by kernel_rfl)) (by unfold Func.isWrapper; first | (rw [if_pos (by decide +kernel)]; kernel_rfl) | (rw [if_neg (by decide +kernel)]; exact ⟨rfl, rfl⟩))
    (fun os started H enc _ => lifted os started H enc)
end Go.Proofs.Ytbheeobnghlckaa.fnExactStackHeap
namespace Go.Proofs.Ytbheeobnghlckaa
/-- The row, under a short name, for the claim. -/
theorem fnExactStackHeap_holds : Rows.FnExactStackHeapSaid := fnExactStackHeap.over
#print axioms fnExactStackHeap_holds
end Go.Proofs.Ytbheeobnghlckaa
