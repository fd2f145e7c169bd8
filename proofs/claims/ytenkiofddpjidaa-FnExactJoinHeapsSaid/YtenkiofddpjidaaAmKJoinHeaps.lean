/- Walks. No condition. -/
import Derived.Test.YtenkiofddpjidaaAmJ3
set_option linter.unusedVariables false
set_option linter.unusedSimpArgs false
namespace Go.Proofs.Ytenkiofddpjidaa
open Go.Am Go.RowKit
theorem specJoinHeaps_yesR (X : Nat) (Y : Nat) (Z : Nat) (L1 : List A3) (L2 : List A3) (R : List A3) (hs : Sides X Y Z) (hL1 : HeapL X Y Z L1) (hL2 : HeapL X Y Z L2) (hR : R = listOf X Y Z (setOf Y Z L1 ||| setOf Y Z L2)) : Sound Try.prog 34 [.agg #[vN X, vN Y, vN Z, vS 0 L1.length], .agg #[vN X, vN Y, vN Z, vS 1 L2.length]] [some ⟨a3s L1, 25, false, false⟩, some ⟨a3s L2, 25, false, false⟩] (.tuple #[.agg #[vN X, vN Y, vN Z, vS 2 R.length], .bool true]) [some ⟨a3s L1, 25, false, false⟩, some ⟨a3s L2, 25, false, false⟩, some ⟨a3s R, 25, false, true⟩] := by
  subst hR; exact specJoinHeaps_yes X Y Z L1 L2 hs hL1 hL2

theorem implJoinHeaps_yesR (X : Nat) (Y : Nat) (Z : Nat) (L1 : List A3) (L2 : List A3) (R : List A3) (hs : Sides X Y Z) (hL1 : HeapL X Y Z L1) (hL2 : HeapL X Y Z L2) (hR : R = listOf X Y Z (setOf Y Z L1 ||| setOf Y Z L2)) : Sound Try.prog 35 [.agg #[vN X, vN Y, vN Z, vS 0 L1.length], .agg #[vN X, vN Y, vN Z, vS 1 L2.length]] [some ⟨a3s L1, 25, false, false⟩, some ⟨a3s L2, 25, false, false⟩] (.tuple #[.agg #[vN X, vN Y, vN Z, vS 2 R.length], .bool true]) [some ⟨a3s L1, 25, false, false⟩, some ⟨a3s L2, 25, false, false⟩, some ⟨a3s R, 25, false, true⟩] := by
  subst hR; exact implJoinHeaps_yes X Y Z L1 L2 hs hL1 hL2

set_option maxRecDepth 100000 in
set_option maxHeartbeats 4000000 in
theorem lawJoinHeaps_bigA_ss (x1 : Int) (y1 : Int) (z1 : Int) (L1 : List A3) (x2 : Int) (y2 : Int) (z2 : Int) (L2 : List A3) (hl : 1048576 < L1.length) (hm1 : L1.length ≤ 9223372036854775807) (hm2 : L2.length ≤ 9223372036854775807) : Sound Try.prog 8 [.agg #[vI x1, vI y1, vI z1, vS 0 L1.length], .agg #[vI x2, vI y2, vI z2, vS 1 L2.length]] [some ⟨a3s L1, 25, false, false⟩, some ⟨a3s L2, 25, false, false⟩] (.bool true) [some ⟨a3s L1, 25, false, false⟩, some ⟨a3s L2, 25, false, false⟩] := by
  refine sound_intro (C := cx) Try.func8 rfl (by kernel_rfl) fun hcl => ?_
  refine cSeq ?_
  refine cReg ?_
  refine segEnd [2, 3] (T1 := (mkT 119 [(2, vP 2 0), (3, vP 3 0)])) (H1 := [some ⟨a3s L1, 25, false, false⟩, some ⟨a3s L2, 25, false, false⟩, rB [vI x1, vI y1, vI z1, vS 0 L1.length] 24, rB [vI x2, vI y2, vI z2, vS 1 L2.length] 24]) (by kernel_rfl) ?_
  refine kSeq ?_
  refine cSeq ?_
  refine cReg ?_
  refine segEndH [2, 3, 5] (T1 := (mkT 119 [(2, vP 2 0), (3, vP 3 0), (5, vI 1048576)])) (by kernel_rfl) ?_
  refine kSeq ?_
  refine cSeq ?_
  refine cReg ?_
  refine segH 2 (T1 := (mkT 119 [(2, vP 2 0), (3, vP 3 0), (5, vI 1048576), (17, .agg #[vI x1, vI y1, vI z1, vS 0 L1.length]), (18, vI 1048576)])) (by kernel_rfl) ?_
  refine rCall (v := vI (-1)) (args := [.agg #[vI x1, vI y1, vI z1, vS 0 L1.length], vI 1048576]) (by kernel_rfl) rfl (by kernel_rfl) (Sound.lay0 [0] (szHeapG x1 y1 z1 L1 1048576 (by first | omega | assumption | (simp; done)) (by first | assumption | omega | rfl | decide | exact HeapL.list _ _ _ _ | exact HeapL.nil _ _ _ | exact HeapL.all _ _ _ | (apply HeapL.lt64 <;> assumption) | (repeat' (first | assumption | apply or_lt64 | apply and_lt64 | apply andn_lt64 | apply pow_lt64 | (apply HeapL.lt64 <;> assumption)))) (by first | omega | assumption | decide)) ⟨rdF false (flatA3 _ _ _ _) rfl rfl, trivial⟩ rfl ⟨clF (flatA3 _ _ _ _), trivial⟩ rfl (by first | rfl | simp [mpV, mpA, mpS, mpP, renId, shift]) rfl) ?_
  refine segEndH [2, 3, 5] (T1 := (mkT 119 [(2, vP 2 0), (3, vP 3 0), (5, vI (-1))])) (by kernel_rfl) ?_
  refine kSeq ?_
  refine cSeq ?_
  refine cSeq ?_
  refine cReg ?_
  refine segEndH [2, 3, 5, 21] (T1 := (mkT 119 [(2, vP 2 0), (3, vP 3 0), (5, vI (-1)), (21, .bool true)])) (by kernel_rfl) ?_
  refine kSeq ?_
  refine cTrue (by kernel_rfl) ?_
  refine cSeq ?_
  refine cReg ?_
  refine segEndH [4] (T1 := (mkT 119 [(4, .bool true)])) (by kernel_rfl) ?_
  refine kSeq ?_
  refine cRet ?_
  refine kSeqR ?_
  -- end
  exact endQ (Or.inr rfl) (l := [.bool true]) [rB [vI x1, vI y1, vI z1, vS 0 L1.length] 24, rB [vI x2, vI y2, vI z2, vS 1 L2.length] 24] (by kernel_rfl) (by first | rfl | kernel_rfl) rfl rfl hcl rfl

set_option maxRecDepth 100000 in
set_option maxHeartbeats 4000000 in
theorem lawJoinHeaps_bigA_sn (x1 : Int) (y1 : Int) (z1 : Int) (L1 : List A3) (x2 : Int) (y2 : Int) (z2 : Int) (hl : 1048576 < L1.length) (hm1 : L1.length ≤ 9223372036854775807) : Sound Try.prog 8 [.agg #[vI x1, vI y1, vI z1, vS 0 L1.length], .agg #[vI x2, vI y2, vI z2, .slice none 0 0]] [some ⟨a3s L1, 25, false, false⟩] (.bool true) [some ⟨a3s L1, 25, false, false⟩] := by
  refine sound_intro (C := cx) Try.func8 rfl (by kernel_rfl) fun hcl => ?_
  refine cSeq ?_
  refine cReg ?_
  refine segEnd [2, 3] (T1 := (mkT 119 [(2, vP 1 0), (3, vP 2 0)])) (H1 := [some ⟨a3s L1, 25, false, false⟩, rB [vI x1, vI y1, vI z1, vS 0 L1.length] 24, rB [vI x2, vI y2, vI z2, .slice none 0 0] 24]) (by kernel_rfl) ?_
  refine kSeq ?_
  refine cSeq ?_
  refine cReg ?_
  refine segEndH [2, 3, 5] (T1 := (mkT 119 [(2, vP 1 0), (3, vP 2 0), (5, vI 1048576)])) (by kernel_rfl) ?_
  refine kSeq ?_
  refine cSeq ?_
  refine cReg ?_
  refine segH 2 (T1 := (mkT 119 [(2, vP 1 0), (3, vP 2 0), (5, vI 1048576), (17, .agg #[vI x1, vI y1, vI z1, vS 0 L1.length]), (18, vI 1048576)])) (by kernel_rfl) ?_
  refine rCall (v := vI (-1)) (args := [.agg #[vI x1, vI y1, vI z1, vS 0 L1.length], vI 1048576]) (by kernel_rfl) rfl (by kernel_rfl) (Sound.lay0 [0] (szHeapG x1 y1 z1 L1 1048576 (by first | omega | assumption | (simp; done)) (by first | assumption | omega | rfl | decide | exact HeapL.list _ _ _ _ | exact HeapL.nil _ _ _ | exact HeapL.all _ _ _ | (apply HeapL.lt64 <;> assumption) | (repeat' (first | assumption | apply or_lt64 | apply and_lt64 | apply andn_lt64 | apply pow_lt64 | (apply HeapL.lt64 <;> assumption)))) (by first | omega | assumption | decide)) ⟨rdF false (flatA3 _ _ _ _) rfl rfl, trivial⟩ rfl ⟨clF (flatA3 _ _ _ _), trivial⟩ rfl (by first | rfl | simp [mpV, mpA, mpS, mpP, renId, shift]) rfl) ?_
  refine segEndH [2, 3, 5] (T1 := (mkT 119 [(2, vP 1 0), (3, vP 2 0), (5, vI (-1))])) (by kernel_rfl) ?_
  refine kSeq ?_
  refine cSeq ?_
  refine cSeq ?_
  refine cReg ?_
  refine segEndH [2, 3, 5, 21] (T1 := (mkT 119 [(2, vP 1 0), (3, vP 2 0), (5, vI (-1)), (21, .bool true)])) (by kernel_rfl) ?_
  refine kSeq ?_
  refine cTrue (by kernel_rfl) ?_
  refine cSeq ?_
  refine cReg ?_
  refine segEndH [4] (T1 := (mkT 119 [(4, .bool true)])) (by kernel_rfl) ?_
  refine kSeq ?_
  refine cRet ?_
  refine kSeqR ?_
  -- end
  exact endQ (Or.inr rfl) (l := [.bool true]) [rB [vI x1, vI y1, vI z1, vS 0 L1.length] 24, rB [vI x2, vI y2, vI z2, .slice none 0 0] 24] (by kernel_rfl) (by first | rfl | kernel_rfl) rfl rfl hcl rfl

set_option maxRecDepth 100000 in
set_option maxHeartbeats 4000000 in
theorem lawJoinHeaps_bigB_ss (x1 : Int) (y1 : Int) (z1 : Int) (L1 : List A3) (x2 : Int) (y2 : Int) (z2 : Int) (L2 : List A3) (hl1 : L1.length ≤ 1048576) (hl : 1048576 - L1.length < L2.length) (hm1 : L1.length ≤ 9223372036854775807) (hm2 : L2.length ≤ 9223372036854775807) : Sound Try.prog 8 [.agg #[vI x1, vI y1, vI z1, vS 0 L1.length], .agg #[vI x2, vI y2, vI z2, vS 1 L2.length]] [some ⟨a3s L1, 25, false, false⟩, some ⟨a3s L2, 25, false, false⟩] (.bool true) [some ⟨a3s L1, 25, false, false⟩, some ⟨a3s L2, 25, false, false⟩] := by
  refine sound_intro (C := cx) Try.func8 rfl (by kernel_rfl) fun hcl => ?_
  refine cSeq ?_
  refine cReg ?_
  refine segEnd [2, 3] (T1 := (mkT 119 [(2, vP 2 0), (3, vP 3 0)])) (H1 := [some ⟨a3s L1, 25, false, false⟩, some ⟨a3s L2, 25, false, false⟩, rB [vI x1, vI y1, vI z1, vS 0 L1.length] 24, rB [vI x2, vI y2, vI z2, vS 1 L2.length] 24]) (by kernel_rfl) ?_
  refine kSeq ?_
  refine cSeq ?_
  refine cReg ?_
  refine segEndH [2, 3, 5] (T1 := (mkT 119 [(2, vP 2 0), (3, vP 3 0), (5, vI 1048576)])) (by kernel_rfl) ?_
  refine kSeq ?_
  refine cSeq ?_
  refine cReg ?_
  refine segH 2 (T1 := (mkT 119 [(2, vP 2 0), (3, vP 3 0), (5, vI 1048576), (17, .agg #[vI x1, vI y1, vI z1, vS 0 L1.length]), (18, vI 1048576)])) (by kernel_rfl) ?_
  refine rCall (v := vN (1048576 - L1.length)) (args := [.agg #[vI x1, vI y1, vI z1, vS 0 L1.length], vI 1048576]) (by kernel_rfl) rfl (by kernel_rfl) (Sound.lay0 [0] (szHeapS x1 y1 z1 L1 1048576 (by first | omega | assumption | (simp; done)) (by first | omega | assumption | decide)) ⟨rdF false (flatA3 _ _ _ _) rfl rfl, trivial⟩ rfl ⟨clF (flatA3 _ _ _ _), trivial⟩ rfl (by first | rfl | simp [mpV, mpA, mpS, mpP, renId, shift]) rfl) ?_
  refine segEndH [2, 3, 5] (T1 := (mkT 119 [(2, vP 2 0), (3, vP 3 0), (5, vN (1048576 - L1.length))])) (by kernel_rfl) ?_
  refine kSeq ?_
  refine cSeq ?_
  refine cSeq ?_
  refine cReg ?_
  refine segEndH [2, 3, 5, 21] (T1 := (mkT 119 [(2, vP 2 0), (3, vP 3 0), (5, vN (1048576 - L1.length)), (21, .bool (decide (((1048576 - L1.length : Nat) : Int) < 0)))])) (by kernel_rfl) ?_
  refine kSeq ?_
  cases h1 : (decide (((1048576 - L1.length : Nat) : Int) < 0) : Bool)
  ·
    (try simp only [Bool.not_eq_true', Bool.not_eq_false', decide_eq_true_eq, decide_eq_false_iff_not, beq_iff_eq, bne_iff_ne, beq_eq_false_iff_ne, bne_eq_false_iff_eq, ne_eq, Decidable.not_not, Bool.and_eq_true, Bool.and_eq_false_imp, Bool.or_eq_true, Bool.or_eq_false_iff, Bool.not_eq_true, Int.not_lt, Int.not_le, ge_iff_le, gt_iff_lt] at h1)
    refine cFalse (by kernel_rfl) ?_
    refine cSkip ?_
    refine kSeq ?_
    refine cSeq ?_
    refine cReg ?_
    refine segH 2 (T1 := (mkT 119 [(2, vP 2 0), (3, vP 3 0), (5, vN (1048576 - L1.length)), (21, .bool false), (22, .agg #[vI x2, vI y2, vI z2, vS 1 L2.length]), (23, vN (1048576 - L1.length))])) (by kernel_rfl) ?_
    refine rCall (v := vI (-1)) (args := [.agg #[vI x2, vI y2, vI z2, vS 1 L2.length], vN (1048576 - L1.length)]) (by kernel_rfl) rfl (by kernel_rfl) (Sound.lay0 [1] (szHeapG x2 y2 z2 L2 (1048576 - L1.length) (by first | omega | assumption | (simp; done)) (by first | assumption | omega | rfl | decide | exact HeapL.list _ _ _ _ | exact HeapL.nil _ _ _ | exact HeapL.all _ _ _ | (apply HeapL.lt64 <;> assumption) | (repeat' (first | assumption | apply or_lt64 | apply and_lt64 | apply andn_lt64 | apply pow_lt64 | (apply HeapL.lt64 <;> assumption)))) (by first | omega | assumption | decide)) ⟨rdF false (flatA3 _ _ _ _) rfl rfl, trivial⟩ rfl ⟨clF (flatA3 _ _ _ _), trivial⟩ rfl (by first | rfl | simp [mpV, mpA, mpS, mpP, renId, shift]) rfl) ?_
    refine segEndH [2, 3, 5] (T1 := (mkT 119 [(2, vP 2 0), (3, vP 3 0), (5, vI (-1))])) (by kernel_rfl) ?_
    refine kSeq ?_
    refine cSeq ?_
    refine cSeq ?_
    refine cReg ?_
    refine segEndH [2, 3, 26] (T1 := (mkT 119 [(2, vP 2 0), (3, vP 3 0), (26, .bool true)])) (by kernel_rfl) ?_
    refine kSeq ?_
    refine cTrue (by kernel_rfl) ?_
    refine cSeq ?_
    refine cReg ?_
    refine segEndH [4] (T1 := (mkT 119 [(4, .bool true)])) (by kernel_rfl) ?_
    refine kSeq ?_
    refine cRet ?_
    refine kSeqR ?_
    -- end
    exact endQ (Or.inr rfl) (l := [.bool true]) [rB [vI x1, vI y1, vI z1, vS 0 L1.length] 24, rB [vI x2, vI y2, vI z2, vS 1 L2.length] 24] (by kernel_rfl) (by first | rfl | kernel_rfl) rfl rfl hcl rfl
  ·
    (try simp only [Bool.not_eq_true', Bool.not_eq_false', decide_eq_true_eq, decide_eq_false_iff_not, beq_iff_eq, bne_iff_ne, beq_eq_false_iff_ne, bne_eq_false_iff_eq, ne_eq, Decidable.not_not, Bool.and_eq_true, Bool.and_eq_false_imp, Bool.or_eq_true, Bool.or_eq_false_iff, Bool.not_eq_true, Int.not_lt, Int.not_le, ge_iff_le, gt_iff_lt] at h1)
    exfalso; omega

set_option maxRecDepth 100000 in
set_option maxHeartbeats 4000000 in
theorem lawJoinHeaps_bigB_ns (x1 : Int) (y1 : Int) (z1 : Int) (x2 : Int) (y2 : Int) (z2 : Int) (L2 : List A3) (hl : 1048576 < L2.length) (hm2 : L2.length ≤ 9223372036854775807) : Sound Try.prog 8 [.agg #[vI x1, vI y1, vI z1, .slice none 0 0], .agg #[vI x2, vI y2, vI z2, vS 0 L2.length]] [some ⟨a3s L2, 25, false, false⟩] (.bool true) [some ⟨a3s L2, 25, false, false⟩] := by
  refine sound_intro (C := cx) Try.func8 rfl (by kernel_rfl) fun hcl => ?_
  refine cSeq ?_
  refine cReg ?_
  refine segEnd [2, 3] (T1 := (mkT 119 [(2, vP 1 0), (3, vP 2 0)])) (H1 := [some ⟨a3s L2, 25, false, false⟩, rB [vI x1, vI y1, vI z1, .slice none 0 0] 24, rB [vI x2, vI y2, vI z2, vS 0 L2.length] 24]) (by kernel_rfl) ?_
  refine kSeq ?_
  refine cSeq ?_
  refine cReg ?_
  refine segEndH [2, 3, 5] (T1 := (mkT 119 [(2, vP 1 0), (3, vP 2 0), (5, vI 1048576)])) (by kernel_rfl) ?_
  refine kSeq ?_
  refine cSeq ?_
  refine cReg ?_
  refine segH 2 (T1 := (mkT 119 [(2, vP 1 0), (3, vP 2 0), (5, vI 1048576), (17, .agg #[vI x1, vI y1, vI z1, .slice none 0 0]), (18, vI 1048576)])) (by kernel_rfl) ?_
  refine rCall (v := vI 1048576) (args := [.agg #[vI x1, vI y1, vI z1, .slice none 0 0], vI 1048576]) (by kernel_rfl) rfl (by kernel_rfl) (Sound.lay0 [] (szHeapN x1 y1 z1 1048576 (by first | omega | assumption | decide)) trivial rfl trivial rfl (by first | rfl | simp [mpV, mpA, mpS, mpP, renId, shift]) rfl) ?_
  refine segEndH [2, 3, 5] (T1 := (mkT 119 [(2, vP 1 0), (3, vP 2 0), (5, vI 1048576)])) (by kernel_rfl) ?_
  refine kSeq ?_
  refine cSeq ?_
  refine cSeq ?_
  refine cReg ?_
  refine segEndH [2, 3, 5, 21] (T1 := (mkT 119 [(2, vP 1 0), (3, vP 2 0), (5, vI 1048576), (21, .bool false)])) (by kernel_rfl) ?_
  refine kSeq ?_
  refine cFalse (by kernel_rfl) ?_
  refine cSkip ?_
  refine kSeq ?_
  refine cSeq ?_
  refine cReg ?_
  refine segH 2 (T1 := (mkT 119 [(2, vP 1 0), (3, vP 2 0), (5, vI 1048576), (21, .bool false), (22, .agg #[vI x2, vI y2, vI z2, vS 0 L2.length]), (23, vI 1048576)])) (by kernel_rfl) ?_
  refine rCall (v := vI (-1)) (args := [.agg #[vI x2, vI y2, vI z2, vS 0 L2.length], vI 1048576]) (by kernel_rfl) rfl (by kernel_rfl) (Sound.lay0 [0] (szHeapG x2 y2 z2 L2 1048576 (by first | omega | assumption | (simp; done)) (by first | assumption | omega | rfl | decide | exact HeapL.list _ _ _ _ | exact HeapL.nil _ _ _ | exact HeapL.all _ _ _ | (apply HeapL.lt64 <;> assumption) | (repeat' (first | assumption | apply or_lt64 | apply and_lt64 | apply andn_lt64 | apply pow_lt64 | (apply HeapL.lt64 <;> assumption)))) (by first | omega | assumption | decide)) ⟨rdF false (flatA3 _ _ _ _) rfl rfl, trivial⟩ rfl ⟨clF (flatA3 _ _ _ _), trivial⟩ rfl (by first | rfl | simp [mpV, mpA, mpS, mpP, renId, shift]) rfl) ?_
  refine segEndH [2, 3, 5] (T1 := (mkT 119 [(2, vP 1 0), (3, vP 2 0), (5, vI (-1))])) (by kernel_rfl) ?_
  refine kSeq ?_
  refine cSeq ?_
  refine cSeq ?_
  refine cReg ?_
  refine segEndH [2, 3, 26] (T1 := (mkT 119 [(2, vP 1 0), (3, vP 2 0), (26, .bool true)])) (by kernel_rfl) ?_
  refine kSeq ?_
  refine cTrue (by kernel_rfl) ?_
  refine cSeq ?_
  refine cReg ?_
  refine segEndH [4] (T1 := (mkT 119 [(4, .bool true)])) (by kernel_rfl) ?_
  refine kSeq ?_
  refine cRet ?_
  refine kSeqR ?_
  -- end
  exact endQ (Or.inr rfl) (l := [.bool true]) [rB [vI x1, vI y1, vI z1, .slice none 0 0] 24, rB [vI x2, vI y2, vI z2, vS 0 L2.length] 24] (by kernel_rfl) (by first | rfl | kernel_rfl) rfl rfl hcl rfl

set_option maxRecDepth 100000 in
set_option maxHeartbeats 4000000 in
theorem lawJoinHeaps_no_ss (x1 : Int) (y1 : Int) (z1 : Int) (L1 : List A3) (x2 : Int) (y2 : Int) (z2 : Int) (L2 : List A3) (hl12 : L1.length + L2.length ≤ 1048576) (hv : alikeB x1 y1 z1 L1 x2 y2 z2 L2 = false) : Sound Try.prog 8 [.agg #[vI x1, vI y1, vI z1, vS 0 L1.length], .agg #[vI x2, vI y2, vI z2, vS 1 L2.length]] [some ⟨a3s L1, 25, false, false⟩, some ⟨a3s L2, 25, false, false⟩] (.bool true) [some ⟨a3s L1, 25, false, false⟩, some ⟨a3s L2, 25, false, false⟩] := by
  refine sound_intro (C := cx) Try.func8 rfl (by kernel_rfl) fun hcl => ?_
  skip
  have hl1 : L1.length ≤ 1048576 := by first | omega | (simp at hl12; omega) | (simp; done)
  have hl2 : L2.length ≤ 1048576 := by first | omega | (simp at hl12; omega) | (simp; done)
  refine cSeq ?_
  refine cReg ?_
  refine segEnd [2, 3] (T1 := (mkT 119 [(2, vP 2 0), (3, vP 3 0)])) (H1 := [some ⟨a3s L1, 25, false, false⟩, some ⟨a3s L2, 25, false, false⟩, rB [vI x1, vI y1, vI z1, vS 0 L1.length] 24, rB [vI x2, vI y2, vI z2, vS 1 L2.length] 24]) (by kernel_rfl) ?_
  refine kSeq ?_
  refine cSeq ?_
  refine cReg ?_
  refine segEndH [2, 3, 5] (T1 := (mkT 119 [(2, vP 2 0), (3, vP 3 0), (5, vI 1048576)])) (by kernel_rfl) ?_
  refine kSeq ?_
  refine cSeq ?_
  refine cReg ?_
  refine segH 2 (T1 := (mkT 119 [(2, vP 2 0), (3, vP 3 0), (5, vI 1048576), (17, .agg #[vI x1, vI y1, vI z1, vS 0 L1.length]), (18, vI 1048576)])) (by kernel_rfl) ?_
  refine rCall (v := vN (1048576 - L1.length)) (args := [.agg #[vI x1, vI y1, vI z1, vS 0 L1.length], vI 1048576]) (by kernel_rfl) rfl (by kernel_rfl) (Sound.lay0 [0] (szHeapS x1 y1 z1 L1 1048576 (by first | omega | assumption | (simp; done)) (by first | omega | assumption | decide)) ⟨rdF false (flatA3 _ _ _ _) rfl rfl, trivial⟩ rfl ⟨clF (flatA3 _ _ _ _), trivial⟩ rfl (by first | rfl | simp [mpV, mpA, mpS, mpP, renId, shift]) rfl) ?_
  refine segEndH [2, 3, 5] (T1 := (mkT 119 [(2, vP 2 0), (3, vP 3 0), (5, vN (1048576 - L1.length))])) (by kernel_rfl) ?_
  refine kSeq ?_
  refine cSeq ?_
  refine cSeq ?_
  refine cReg ?_
  refine segEndH [2, 3, 5, 21] (T1 := (mkT 119 [(2, vP 2 0), (3, vP 3 0), (5, vN (1048576 - L1.length)), (21, .bool (decide (((1048576 - L1.length : Nat) : Int) < 0)))])) (by kernel_rfl) ?_
  refine kSeq ?_
  cases h1 : (decide (((1048576 - L1.length : Nat) : Int) < 0) : Bool)
  ·
    (try simp only [Bool.not_eq_true', Bool.not_eq_false', decide_eq_true_eq, decide_eq_false_iff_not, beq_iff_eq, bne_iff_ne, beq_eq_false_iff_ne, bne_eq_false_iff_eq, ne_eq, Decidable.not_not, Bool.and_eq_true, Bool.and_eq_false_imp, Bool.or_eq_true, Bool.or_eq_false_iff, Bool.not_eq_true, Int.not_lt, Int.not_le, ge_iff_le, gt_iff_lt] at h1)
    refine cFalse (by kernel_rfl) ?_
    refine cSkip ?_
    refine kSeq ?_
    refine cSeq ?_
    refine cReg ?_
    refine segH 2 (T1 := (mkT 119 [(2, vP 2 0), (3, vP 3 0), (5, vN (1048576 - L1.length)), (21, .bool false), (22, .agg #[vI x2, vI y2, vI z2, vS 1 L2.length]), (23, vN (1048576 - L1.length))])) (by kernel_rfl) ?_
    refine rCall (v := vN ((1048576 - L1.length) - L2.length)) (args := [.agg #[vI x2, vI y2, vI z2, vS 1 L2.length], vN (1048576 - L1.length)]) (by kernel_rfl) rfl (by kernel_rfl) (Sound.lay0 [1] (szHeapS x2 y2 z2 L2 (1048576 - L1.length) (by first | omega | assumption | (simp; done)) (by first | omega | assumption | decide)) ⟨rdF false (flatA3 _ _ _ _) rfl rfl, trivial⟩ rfl ⟨clF (flatA3 _ _ _ _), trivial⟩ rfl (by first | rfl | simp [mpV, mpA, mpS, mpP, renId, shift]) rfl) ?_
    refine segEndH [2, 3, 5] (T1 := (mkT 119 [(2, vP 2 0), (3, vP 3 0), (5, vN ((1048576 - L1.length) - L2.length))])) (by kernel_rfl) ?_
    refine kSeq ?_
    refine cSeq ?_
    refine cSeq ?_
    refine cReg ?_
    refine segEndH [2, 3, 26] (T1 := (mkT 119 [(2, vP 2 0), (3, vP 3 0), (26, .bool (decide ((((1048576 - L1.length) - L2.length : Nat) : Int) < 0)))])) (by kernel_rfl) ?_
    refine kSeq ?_
    cases h2 : (decide ((((1048576 - L1.length) - L2.length : Nat) : Int) < 0) : Bool)
    ·
      (try simp only [Bool.not_eq_true', Bool.not_eq_false', decide_eq_true_eq, decide_eq_false_iff_not, beq_iff_eq, bne_iff_ne, beq_eq_false_iff_ne, bne_eq_false_iff_eq, ne_eq, Decidable.not_not, Bool.and_eq_true, Bool.and_eq_false_imp, Bool.or_eq_true, Bool.or_eq_false_iff, Bool.not_eq_true, Int.not_lt, Int.not_le, ge_iff_le, gt_iff_lt] at h2)
      refine cFalse (by kernel_rfl) ?_
      refine cSkip ?_
      refine kSeq ?_
      refine cSeq ?_
      refine cRegW (N := 7) [⟨[], [], [2]⟩, ⟨[4], [], [0]⟩, ⟨[], [], [3]⟩, ⟨[5], [], [1]⟩, ⟨[], [], [4, 5]⟩, ⟨[], [], []⟩, ⟨[], [], []⟩, ⟨[], [], []⟩, ⟨[6], [], []⟩, ⟨[], [6], []⟩, ⟨[], [], []⟩] 3 [4, 5, 6] (by rfl) (by rfl) (by kernel_rfl) (by kernel_rfl) (by kernel_rfl) ⟨nmsF (flatA3 _ _ _ _), ⟨nmsF (flatA3 _ _ _ _), ⟨nmsX (by kernel_rfl), ⟨nmsX (by kernel_rfl), trivial⟩⟩⟩⟩ ?_
      refine segWH 1 (T1 := (mkT 119 [(2, vP 2 0), (3, vP 3 0), (26, .bool false), (28, .agg #[vI x1, vI y1, vI z1, vS 0 L1.length])])) (by kernel_rfl) ?_
      refine rW (m := ⟨[4], [], [0]⟩) (v := .agg #[vI x1, vI y1, vI z1, vS 4 L1.length]) rfl (by kernel_rfl) (stN (i := 4) (E := [some ⟨a3s L1, 25, false, true⟩]) (v1 := .agg #[vI x1, vI y1, vI z1, vS 7 L1.length]) (args := [.agg #[vI x1, vI y1, vI z1, vS 0 L1.length]]) rfl (by kernel_rfl) (Any.lay [0] (toHeapB x1 y1 z1 L1 (by first | omega | assumption | (simp; done))) ⟨rdF false (flatA3 _ _ _ _) rfl rfl, trivial⟩ rfl ⟨clF (flatA3 _ _ _ _), trivial⟩ rfl (by first | rfl | simp [mpV, mpA, mpS, mpP, renId, shift]) (by first | rfl | simp [mpV, mpA, mpS, mpP, renId, shift]) ⟨enF (flatA3 _ _ _ _) (Or.inl rfl), trivial⟩) rfl (by kernel_rfl) (by kernel_rfl) (by kernel_rfl) (by kernel_rfl) (FlatH.cons (flatA3 _ _ _ _) FlatH.nil)) (by kernel_rfl) (NRs.all ⟨nrOf (by rfl) (nmF (flatA3 _ _ _ _)), trivial⟩) ?_
      refine segWH 1 (T1 := (mkT 119 [(2, vP 2 0), (3, vP 3 0), (26, .bool false), (28, .agg #[vI x1, vI y1, vI z1, vS 0 L1.length]), (29, .agg #[vI x1, vI y1, vI z1, vS 4 L1.length]), (30, .agg #[vI x2, vI y2, vI z2, vS 1 L2.length])])) (by kernel_rfl) ?_
      refine rW (m := ⟨[5], [], [1]⟩) (v := .agg #[vI x2, vI y2, vI z2, vS 5 L2.length]) rfl (by kernel_rfl) (stN (i := 5) (E := [some ⟨a3s L2, 25, false, true⟩]) (v1 := .agg #[vI x2, vI y2, vI z2, vS 7 L2.length]) (args := [.agg #[vI x2, vI y2, vI z2, vS 1 L2.length]]) rfl (by kernel_rfl) (Any.lay [1] (toHeapB x2 y2 z2 L2 (by first | omega | assumption | (simp; done))) ⟨rdF false (flatA3 _ _ _ _) rfl rfl, trivial⟩ rfl ⟨clF (flatA3 _ _ _ _), trivial⟩ rfl (by first | rfl | simp [mpV, mpA, mpS, mpP, renId, shift]) (by first | rfl | simp [mpV, mpA, mpS, mpP, renId, shift]) ⟨enF (flatA3 _ _ _ _) (Or.inl rfl), trivial⟩) rfl (by kernel_rfl) (by kernel_rfl) (by kernel_rfl) (by kernel_rfl) (FlatH.cons (flatA3 _ _ _ _) FlatH.nil)) (by kernel_rfl) (NRs.all ⟨nrOf (by rfl) (nmF (flatA3 _ _ _ _)), trivial⟩) ?_
      refine rW (m := ⟨[], [], [4, 5]⟩) (v := .tuple #[.agg #[vI 0, vI 0, vI 0, .slice none 0 0], .bool false]) rfl (by kernel_rfl) (stQ (args := [.agg #[vI x1, vI y1, vI z1, vS 4 L1.length], .agg #[vI x2, vI y2, vI z2, vS 5 L2.length]]) rfl (by kernel_rfl) (Any.lay0 [4, 5] (specJoinHeaps_no x1 y1 z1 L1 x2 y2 z2 L2 (by first | assumption | omega | rfl | decide | exact HeapL.list _ _ _ _ | exact HeapL.nil _ _ _ | exact HeapL.all _ _ _ | (apply HeapL.lt64 <;> assumption) | (repeat' (first | assumption | apply or_lt64 | apply and_lt64 | apply andn_lt64 | apply pow_lt64 | (apply HeapL.lt64 <;> assumption)))) (by first | assumption | omega | rfl | decide | exact HeapL.list _ _ _ _ | exact HeapL.nil _ _ _ | exact HeapL.all _ _ _ | (apply HeapL.lt64 <;> assumption) | (repeat' (first | assumption | apply or_lt64 | apply and_lt64 | apply andn_lt64 | apply pow_lt64 | (apply HeapL.lt64 <;> assumption)))) (by first | assumption | omega | rfl | decide | exact HeapL.list _ _ _ _ | exact HeapL.nil _ _ _ | exact HeapL.all _ _ _ | (apply HeapL.lt64 <;> assumption) | (repeat' (first | assumption | apply or_lt64 | apply and_lt64 | apply andn_lt64 | apply pow_lt64 | (apply HeapL.lt64 <;> assumption))))) ⟨rdF true (flatA3 _ _ _ _) rfl rfl, ⟨rdF true (flatA3 _ _ _ _) rfl rfl, trivial⟩⟩ rfl ⟨clF (flatA3 _ _ _ _), ⟨clF (flatA3 _ _ _ _), trivial⟩⟩ rfl (by first | rfl | simp [mpV, mpA, mpS, mpP, renId, shift]) (by first | rfl | simp [mpV, mpA, mpS, mpP, renId, shift])) rfl (by kernel_rfl) (by kernel_rfl)) (by kernel_rfl) nr0 ?_
      refine segWH 3 (T1 := (mkT 119 [(2, vP 2 0), (3, vP 3 0), (26, .bool false), (27, .tuple #[.agg #[vI 0, vI 0, vI 0, .slice none 0 0], .bool false]), (28, .agg #[vI x1, vI y1, vI z1, vS 0 L1.length]), (29, .agg #[vI x1, vI y1, vI z1, vS 4 L1.length]), (30, .agg #[vI x2, vI y2, vI z2, vS 1 L2.length]), (31, .agg #[vI x2, vI y2, vI z2, vS 5 L2.length]), (32, .tuple #[.agg #[vI 0, vI 0, vI 0, .slice none 0 0], .bool false]), (33, .agg #[vI 0, vI 0, vI 0, .slice none 0 0]), (34, .bool false)])) (by kernel_rfl) ?_
      refine rW (m := ⟨[6], [], []⟩) (v := vP 6 0) rfl (by kernel_rfl) (stNew (i := 6) (v1 := vP 7 0) (r := ⟨[vI 0, vI 0, vI 0, .slice none 0 0], 29, true, true⟩) (by kernel_rfl) rfl (by kernel_rfl) (by kernel_rfl) (by kernel_rfl) (by kernel_rfl) (nmX (by kernel_rfl)) (clX (by kernel_rfl))) (by kernel_rfl) (NRs.all ⟨nrOf (by rfl) (nmX (by kernel_rfl)), trivial⟩) ?_
      refine rW (m := ⟨[], [6], []⟩) (v := .tuple #[]) rfl (by kernel_rfl) (stSet (b := 6) (r := ⟨[vI 0, vI 0, vI 0, .slice none 0 0], 29, true, true⟩) (by kernel_rfl) rfl (by kernel_rfl) (by kernel_rfl) (by kernel_rfl) (by kernel_rfl) (nmX (by kernel_rfl)) (clX (by kernel_rfl))) (by kernel_rfl) (NRs.all ⟨nrOf (by rfl) (nmX (by kernel_rfl)), trivial⟩) ?_
      refine segEndW [2, 3, 6, 7] (T1 := (mkT 119 [(2, vP 2 0), (3, vP 3 0), (6, vP 6 0), (7, .bool false)])) (H1 := [some ⟨a3s L1, 25, false, false⟩, some ⟨a3s L2, 25, false, false⟩, rB [vI x1, vI y1, vI z1, vS 0 L1.length] 24, rB [vI x2, vI y2, vI z2, vS 1 L2.length] 24, some ⟨a3s L1, 25, false, true⟩, some ⟨a3s L2, 25, false, true⟩, rB [vI 0, vI 0, vI 0, .slice none 0 0] 29]) (by kernel_rfl) ?_
      refine kSeq ?_
      refine cSeq ?_
      refine cReg ?_
      refine segH 1 (T1 := (mkT 119 [(2, vP 2 0), (3, vP 3 0), (6, vP 6 0), (7, .bool false), (35, .agg #[vI x1, vI y1, vI z1, vS 0 L1.length])])) (by kernel_rfl) ?_
      refine rCall (v := .agg #[vI x1, vI y1, vI z1, vS 7 L1.length]) (args := [.agg #[vI x1, vI y1, vI z1, vS 0 L1.length]]) (by kernel_rfl) rfl (by kernel_rfl) (Sound.lay (E := [some ⟨a3s L1, 25, false, true⟩]) [0] (toHeapB x1 y1 z1 L1 (by first | omega | assumption | (simp; done))) ⟨rdF false (flatA3 _ _ _ _) rfl rfl, trivial⟩ rfl ⟨clF (flatA3 _ _ _ _), trivial⟩ rfl (by first | rfl | simp [mpV, mpA, mpS, mpP, renId, shift]) (by first | rfl | simp [mpV, mpA, mpS, mpP, renId, shift]) ⟨enF (flatA3 _ _ _ _) (Or.inl rfl), trivial⟩) ?_
      refine segEnd [2, 3, 6, 7, 8] (T1 := (mkT 119 [(2, vP 2 0), (3, vP 3 0), (6, vP 6 0), (7, .bool false), (8, vP 8 0)])) (H1 := [some ⟨a3s L1, 25, false, false⟩, some ⟨a3s L2, 25, false, false⟩, rB [vI x1, vI y1, vI z1, vS 0 L1.length] 24, rB [vI x2, vI y2, vI z2, vS 1 L2.length] 24, some ⟨a3s L1, 25, false, true⟩, some ⟨a3s L2, 25, false, true⟩, rB [vI 0, vI 0, vI 0, .slice none 0 0] 29, some ⟨a3s L1, 25, false, true⟩, rB [vI x1, vI y1, vI z1, vS 7 L1.length] 29]) (by kernel_rfl) ?_
      refine kSeq ?_
      refine cSeq ?_
      refine cReg ?_
      refine segH 1 (T1 := (mkT 119 [(2, vP 2 0), (3, vP 3 0), (6, vP 6 0), (7, .bool false), (8, vP 8 0), (37, .agg #[vI x2, vI y2, vI z2, vS 1 L2.length])])) (by kernel_rfl) ?_
      refine rCall (v := .agg #[vI x2, vI y2, vI z2, vS 9 L2.length]) (args := [.agg #[vI x2, vI y2, vI z2, vS 1 L2.length]]) (by kernel_rfl) rfl (by kernel_rfl) (Sound.lay (E := [some ⟨a3s L2, 25, false, true⟩]) [1] (toHeapB x2 y2 z2 L2 (by first | omega | assumption | (simp; done))) ⟨rdF false (flatA3 _ _ _ _) rfl rfl, trivial⟩ rfl ⟨clF (flatA3 _ _ _ _), trivial⟩ rfl (by first | rfl | simp [mpV, mpA, mpS, mpP, renId, shift]) (by first | rfl | simp [mpV, mpA, mpS, mpP, renId, shift]) ⟨enF (flatA3 _ _ _ _) (Or.inl rfl), trivial⟩) ?_
      refine segEnd [2, 3, 6, 7, 8, 9] (T1 := (mkT 119 [(2, vP 2 0), (3, vP 3 0), (6, vP 6 0), (7, .bool false), (8, vP 8 0), (9, vP 10 0)])) (H1 := [some ⟨a3s L1, 25, false, false⟩, some ⟨a3s L2, 25, false, false⟩, rB [vI x1, vI y1, vI z1, vS 0 L1.length] 24, rB [vI x2, vI y2, vI z2, vS 1 L2.length] 24, some ⟨a3s L1, 25, false, true⟩, some ⟨a3s L2, 25, false, true⟩, rB [vI 0, vI 0, vI 0, .slice none 0 0] 29, some ⟨a3s L1, 25, false, true⟩, rB [vI x1, vI y1, vI z1, vS 7 L1.length] 29, some ⟨a3s L2, 25, false, true⟩, rB [vI x2, vI y2, vI z2, vS 9 L2.length] 29]) (by kernel_rfl) ?_
      refine kSeq ?_
      refine cSeq ?_
      refine cReg ?_
      refine segH 2 (T1 := (mkT 119 [(2, vP 2 0), (3, vP 3 0), (6, vP 6 0), (7, .bool false), (8, vP 8 0), (9, vP 10 0), (40, .agg #[vI x1, vI y1, vI z1, vS 7 L1.length]), (41, .agg #[vI x2, vI y2, vI z2, vS 9 L2.length])])) (by kernel_rfl) ?_
      refine rCall (v := .tuple #[.agg #[vI 0, vI 0, vI 0, .slice none 0 0], .bool false]) (args := [.agg #[vI x1, vI y1, vI z1, vS 7 L1.length], .agg #[vI x2, vI y2, vI z2, vS 9 L2.length]]) (by kernel_rfl) rfl (by kernel_rfl) (Sound.lay0 [7, 9] (implJoinHeaps_no x1 y1 z1 L1 x2 y2 z2 L2 (by first | assumption | omega | rfl | decide | exact HeapL.list _ _ _ _ | exact HeapL.nil _ _ _ | exact HeapL.all _ _ _ | (apply HeapL.lt64 <;> assumption) | (repeat' (first | assumption | apply or_lt64 | apply and_lt64 | apply andn_lt64 | apply pow_lt64 | (apply HeapL.lt64 <;> assumption)))) (by first | assumption | omega | rfl | decide | exact HeapL.list _ _ _ _ | exact HeapL.nil _ _ _ | exact HeapL.all _ _ _ | (apply HeapL.lt64 <;> assumption) | (repeat' (first | assumption | apply or_lt64 | apply and_lt64 | apply andn_lt64 | apply pow_lt64 | (apply HeapL.lt64 <;> assumption)))) (by first | assumption | omega | rfl | decide | exact HeapL.list _ _ _ _ | exact HeapL.nil _ _ _ | exact HeapL.all _ _ _ | (apply HeapL.lt64 <;> assumption) | (repeat' (first | assumption | apply or_lt64 | apply and_lt64 | apply andn_lt64 | apply pow_lt64 | (apply HeapL.lt64 <;> assumption))))) ⟨rdF true (flatA3 _ _ _ _) rfl rfl, ⟨rdF true (flatA3 _ _ _ _) rfl rfl, trivial⟩⟩ rfl ⟨clF (flatA3 _ _ _ _), ⟨clF (flatA3 _ _ _ _), trivial⟩⟩ rfl (by first | rfl | simp [mpV, mpA, mpS, mpP, renId, shift]) (by first | rfl | simp [mpV, mpA, mpS, mpP, renId, shift])) ?_
      refine segEnd [2, 3, 6, 7, 8, 9, 10, 11] (T1 := (mkT 119 [(2, vP 2 0), (3, vP 3 0), (6, vP 6 0), (7, .bool false), (8, vP 8 0), (9, vP 10 0), (10, vP 11 0), (11, .bool false)])) (H1 := [some ⟨a3s L1, 25, false, false⟩, some ⟨a3s L2, 25, false, false⟩, rB [vI x1, vI y1, vI z1, vS 0 L1.length] 24, rB [vI x2, vI y2, vI z2, vS 1 L2.length] 24, some ⟨a3s L1, 25, false, true⟩, some ⟨a3s L2, 25, false, true⟩, rB [vI 0, vI 0, vI 0, .slice none 0 0] 29, some ⟨a3s L1, 25, false, true⟩, rB [vI x1, vI y1, vI z1, vS 7 L1.length] 29, some ⟨a3s L2, 25, false, true⟩, rB [vI x2, vI y2, vI z2, vS 9 L2.length] 29, rB [vI 0, vI 0, vI 0, .slice none 0 0] 29]) (by kernel_rfl) ?_
      refine kSeq ?_
      refine cSeq ?_
      refine cSeq ?_
      refine cReg ?_
      refine segH 2 (T1 := (mkT 119 [(2, vP 2 0), (3, vP 3 0), (6, vP 6 0), (7, .bool false), (8, vP 8 0), (9, vP 10 0), (10, vP 11 0), (11, .bool false), (45, .agg #[vI 0, vI 0, vI 0, .slice none 0 0]), (46, .agg #[vI 0, vI 0, vI 0, .slice none 0 0])])) (by kernel_rfl) ?_
      refine rCall (v := .bool true) (args := [.agg #[vI 0, vI 0, vI 0, .slice none 0 0], .agg #[vI 0, vI 0, vI 0, .slice none 0 0]]) (by kernel_rfl) rfl (by kernel_rfl) (Sound.lay0 [] (eqHeapN) trivial rfl trivial rfl (by first | rfl | simp [mpV, mpA, mpS, mpP, renId, shift]) rfl) ?_
      refine segEndH [2, 3, 6, 7, 8, 9, 10, 11, 53] (T1 := (mkT 119 [(2, vP 2 0), (3, vP 3 0), (6, vP 6 0), (7, .bool false), (8, vP 8 0), (9, vP 10 0), (10, vP 11 0), (11, .bool false), (53, .bool false)])) (by kernel_rfl) ?_
      refine kSeq ?_
      refine cFalse (by kernel_rfl) ?_
      refine cSkip ?_
      refine kSeq ?_
      refine cSeq ?_
      refine cSeq ?_
      refine cRegW (N := 13) [⟨[], [], [8]⟩, ⟨[], [], [2]⟩, ⟨[12], [], [0]⟩, ⟨[], [], [7, 12]⟩, ⟨[], [], []⟩] 1 [12] (by rfl) (by rfl) (by kernel_rfl) (by kernel_rfl) (by kernel_rfl) ⟨nmsF (flatA3 _ _ _ _), ⟨nmsF (flatA3 _ _ _ _), ⟨nmsX (by kernel_rfl), ⟨nmsX (by kernel_rfl), ⟨nmsF (flatA3 _ _ _ _), ⟨nmsF (flatA3 _ _ _ _), ⟨nmsX (by kernel_rfl), ⟨nmsF (flatA3 _ _ _ _), ⟨nmsX (by kernel_rfl), ⟨nmsF (flatA3 _ _ _ _), ⟨nmsX (by kernel_rfl), ⟨nmsX (by kernel_rfl), trivial⟩⟩⟩⟩⟩⟩⟩⟩⟩⟩⟩⟩ ?_
      refine segWH 2 (T1 := (mkT 119 [(2, vP 2 0), (3, vP 3 0), (6, vP 6 0), (7, .bool false), (8, vP 8 0), (9, vP 10 0), (10, vP 11 0), (11, .bool false), (53, .bool false), (54, .agg #[vI x1, vI y1, vI z1, vS 7 L1.length]), (55, .agg #[vI x1, vI y1, vI z1, vS 0 L1.length])])) (by kernel_rfl) ?_
      refine rW (m := ⟨[12], [], [0]⟩) (v := .agg #[vI x1, vI y1, vI z1, vS 12 L1.length]) rfl (by kernel_rfl) (stN (i := 12) (E := [some ⟨a3s L1, 25, false, true⟩]) (v1 := .agg #[vI x1, vI y1, vI z1, vS 13 L1.length]) (args := [.agg #[vI x1, vI y1, vI z1, vS 0 L1.length]]) rfl (by kernel_rfl) (Any.lay [0] (toHeapB x1 y1 z1 L1 (by first | omega | assumption | (simp; done))) ⟨rdF false (flatA3 _ _ _ _) rfl rfl, trivial⟩ rfl ⟨clF (flatA3 _ _ _ _), trivial⟩ rfl (by first | rfl | simp [mpV, mpA, mpS, mpP, renId, shift]) (by first | rfl | simp [mpV, mpA, mpS, mpP, renId, shift]) ⟨enF (flatA3 _ _ _ _) (Or.inl rfl), trivial⟩) rfl (by kernel_rfl) (by kernel_rfl) (by kernel_rfl) (by kernel_rfl) (FlatH.cons (flatA3 _ _ _ _) FlatH.nil)) (by kernel_rfl) (NRs.all ⟨nrOf (by rfl) (nmF (flatA3 _ _ _ _)), trivial⟩) ?_
      refine rW (m := ⟨[], [], [7, 12]⟩) (v := .bool true) rfl (by kernel_rfl) (stQ (args := [.agg #[vI x1, vI y1, vI z1, vS 7 L1.length], .agg #[vI x1, vI y1, vI z1, vS 12 L1.length]]) rfl (by kernel_rfl) (Any.lay0 [7, 12] (eqHeapB x1 y1 z1 L1 (by first | omega | assumption | (simp; done))) ⟨rdF true (flatA3 _ _ _ _) rfl rfl, ⟨rdF true (flatA3 _ _ _ _) rfl rfl, trivial⟩⟩ rfl ⟨clF (flatA3 _ _ _ _), ⟨clF (flatA3 _ _ _ _), trivial⟩⟩ rfl (by first | rfl | simp [mpV, mpA, mpS, mpP, renId, shift]) rfl) rfl (by kernel_rfl) (by kernel_rfl)) (by kernel_rfl) nr0 ?_
      refine segEndW [2, 3, 6, 7, 8, 9, 10, 11, 58] (T1 := (mkT 119 [(2, vP 2 0), (3, vP 3 0), (6, vP 6 0), (7, .bool false), (8, vP 8 0), (9, vP 10 0), (10, vP 11 0), (11, .bool false), (58, .bool false)])) (H1 := [some ⟨a3s L1, 25, false, false⟩, some ⟨a3s L2, 25, false, false⟩, rB [vI x1, vI y1, vI z1, vS 0 L1.length] 24, rB [vI x2, vI y2, vI z2, vS 1 L2.length] 24, some ⟨a3s L1, 25, false, true⟩, some ⟨a3s L2, 25, false, true⟩, rB [vI 0, vI 0, vI 0, .slice none 0 0] 29, some ⟨a3s L1, 25, false, true⟩, rB [vI x1, vI y1, vI z1, vS 7 L1.length] 29, some ⟨a3s L2, 25, false, true⟩, rB [vI x2, vI y2, vI z2, vS 9 L2.length] 29, rB [vI 0, vI 0, vI 0, .slice none 0 0] 29, some ⟨a3s L1, 25, false, true⟩]) (by kernel_rfl) ?_
      refine kSeq ?_
      refine cFalse (by kernel_rfl) ?_
      refine cSkip ?_
      refine kSeq ?_
      refine cSeq ?_
      refine cSeq ?_
      refine cRegW (N := 14) [⟨[], [], [10]⟩, ⟨[], [], [3]⟩, ⟨[13], [], [1]⟩, ⟨[], [], [9, 13]⟩, ⟨[], [], []⟩] 1 [13] (by rfl) (by rfl) (by kernel_rfl) (by kernel_rfl) (by kernel_rfl) ⟨nmsF (flatA3 _ _ _ _), ⟨nmsF (flatA3 _ _ _ _), ⟨nmsX (by kernel_rfl), ⟨nmsX (by kernel_rfl), ⟨nmsF (flatA3 _ _ _ _), ⟨nmsF (flatA3 _ _ _ _), ⟨nmsX (by kernel_rfl), ⟨nmsF (flatA3 _ _ _ _), ⟨nmsX (by kernel_rfl), ⟨nmsF (flatA3 _ _ _ _), ⟨nmsX (by kernel_rfl), ⟨nmsX (by kernel_rfl), ⟨nmsF (flatA3 _ _ _ _), trivial⟩⟩⟩⟩⟩⟩⟩⟩⟩⟩⟩⟩⟩ ?_
      refine segWH 2 (T1 := (mkT 119 [(2, vP 2 0), (3, vP 3 0), (6, vP 6 0), (7, .bool false), (8, vP 8 0), (9, vP 10 0), (10, vP 11 0), (11, .bool false), (58, .bool false), (59, .agg #[vI x2, vI y2, vI z2, vS 9 L2.length]), (60, .agg #[vI x2, vI y2, vI z2, vS 1 L2.length])])) (by kernel_rfl) ?_
      refine rW (m := ⟨[13], [], [1]⟩) (v := .agg #[vI x2, vI y2, vI z2, vS 13 L2.length]) rfl (by kernel_rfl) (stN (i := 13) (E := [some ⟨a3s L2, 25, false, true⟩]) (v1 := .agg #[vI x2, vI y2, vI z2, vS 14 L2.length]) (args := [.agg #[vI x2, vI y2, vI z2, vS 1 L2.length]]) rfl (by kernel_rfl) (Any.lay [1] (toHeapB x2 y2 z2 L2 (by first | omega | assumption | (simp; done))) ⟨rdF false (flatA3 _ _ _ _) rfl rfl, trivial⟩ rfl ⟨clF (flatA3 _ _ _ _), trivial⟩ rfl (by first | rfl | simp [mpV, mpA, mpS, mpP, renId, shift]) (by first | rfl | simp [mpV, mpA, mpS, mpP, renId, shift]) ⟨enF (flatA3 _ _ _ _) (Or.inl rfl), trivial⟩) rfl (by kernel_rfl) (by kernel_rfl) (by kernel_rfl) (by kernel_rfl) (FlatH.cons (flatA3 _ _ _ _) FlatH.nil)) (by kernel_rfl) (NRs.all ⟨nrOf (by rfl) (nmF (flatA3 _ _ _ _)), trivial⟩) ?_
      refine rW (m := ⟨[], [], [9, 13]⟩) (v := .bool true) rfl (by kernel_rfl) (stQ (args := [.agg #[vI x2, vI y2, vI z2, vS 9 L2.length], .agg #[vI x2, vI y2, vI z2, vS 13 L2.length]]) rfl (by kernel_rfl) (Any.lay0 [9, 13] (eqHeapB x2 y2 z2 L2 (by first | omega | assumption | (simp; done))) ⟨rdF true (flatA3 _ _ _ _) rfl rfl, ⟨rdF true (flatA3 _ _ _ _) rfl rfl, trivial⟩⟩ rfl ⟨clF (flatA3 _ _ _ _), ⟨clF (flatA3 _ _ _ _), trivial⟩⟩ rfl (by first | rfl | simp [mpV, mpA, mpS, mpP, renId, shift]) rfl) rfl (by kernel_rfl) (by kernel_rfl)) (by kernel_rfl) nr0 ?_
      refine segEndW [2, 3, 6, 7, 8, 9, 10, 11, 63] (T1 := (mkT 119 [(2, vP 2 0), (3, vP 3 0), (6, vP 6 0), (7, .bool false), (8, vP 8 0), (9, vP 10 0), (10, vP 11 0), (11, .bool false), (63, .bool false)])) (H1 := [some ⟨a3s L1, 25, false, false⟩, some ⟨a3s L2, 25, false, false⟩, rB [vI x1, vI y1, vI z1, vS 0 L1.length] 24, rB [vI x2, vI y2, vI z2, vS 1 L2.length] 24, some ⟨a3s L1, 25, false, true⟩, some ⟨a3s L2, 25, false, true⟩, rB [vI 0, vI 0, vI 0, .slice none 0 0] 29, some ⟨a3s L1, 25, false, true⟩, rB [vI x1, vI y1, vI z1, vS 7 L1.length] 29, some ⟨a3s L2, 25, false, true⟩, rB [vI x2, vI y2, vI z2, vS 9 L2.length] 29, rB [vI 0, vI 0, vI 0, .slice none 0 0] 29, some ⟨a3s L1, 25, false, true⟩, some ⟨a3s L2, 25, false, true⟩]) (by kernel_rfl) ?_
      refine kSeq ?_
      refine cFalse (by kernel_rfl) ?_
      refine cSkip ?_
      refine kSeq ?_
      refine cSeq ?_
      refine cReg ?_
      refine segEndH [2, 3, 6, 7, 8, 9, 10, 11, 12] (T1 := (mkT 119 [(2, vP 2 0), (3, vP 3 0), (6, vP 6 0), (7, .bool false), (8, vP 8 0), (9, vP 10 0), (10, vP 11 0), (11, .bool false), (12, vI 1)])) (by kernel_rfl) ?_
      refine kSeq ?_
      refine cSeq ?_
      refine cReg ?_
      refine segH 2 (T1 := (mkT 119 [(2, vP 2 0), (3, vP 3 0), (6, vP 6 0), (7, .bool false), (8, vP 8 0), (9, vP 10 0), (10, vP 11 0), (11, .bool false), (12, vI 1), (64, .agg #[vI x1, vI y1, vI z1, vS 7 L1.length]), (65, vI 1)])) (by kernel_rfl) ?_
      refine rCall (v := vN (1 + 3 * L1.length)) (args := [.agg #[vI x1, vI y1, vI z1, vS 7 L1.length], vI 1]) (by kernel_rfl) rfl (by kernel_rfl) (Sound.emb_set (r := ⟨a3s L1, 25, false, true⟩) (r' := ⟨a3s (mk3 1 L1.length), 25, false, true⟩) 7 (markHeapB x1 y1 z1 L1 1 (by first | omega | assumption | (simp; done)) (by first | assumption | omega | rfl | decide | exact HeapL.list _ _ _ _ | exact HeapL.nil _ _ _ | exact HeapL.all _ _ _ | (apply HeapL.lt64 <;> assumption) | (repeat' (first | assumption | apply or_lt64 | apply and_lt64 | apply andn_lt64 | apply pow_lt64 | (apply HeapL.lt64 <;> assumption))))) (flatA3 _ _ _ _) rfl (flatA3 _ _ _ _) rfl rfl rfl (by first | rfl | simp [mpV, mpA, mpS, mpP, renId, shift]) rfl) ?_
      refine segEnd [2, 3, 6, 7, 9, 10, 11, 12] (T1 := (mkT 119 [(2, vP 2 0), (3, vP 3 0), (6, vP 6 0), (7, .bool false), (9, vP 10 0), (10, vP 11 0), (11, .bool false), (12, vN (1 + 3 * L1.length))])) (H1 := [some ⟨a3s L1, 25, false, false⟩, some ⟨a3s L2, 25, false, false⟩, rB [vI x1, vI y1, vI z1, vS 0 L1.length] 24, rB [vI x2, vI y2, vI z2, vS 1 L2.length] 24, some ⟨a3s L1, 25, false, true⟩, some ⟨a3s L2, 25, false, true⟩, rB [vI 0, vI 0, vI 0, .slice none 0 0] 29, some ⟨a3s (mk3 1 L1.length), 25, false, true⟩, rB [vI x1, vI y1, vI z1, vS 7 L1.length] 29, some ⟨a3s L2, 25, false, true⟩, rB [vI x2, vI y2, vI z2, vS 9 L2.length] 29, rB [vI 0, vI 0, vI 0, .slice none 0 0] 29, some ⟨a3s L1, 25, false, true⟩, some ⟨a3s L2, 25, false, true⟩]) (by kernel_rfl) ?_
      refine kSeq ?_
      refine cSeq ?_
      refine cReg ?_
      refine segH 2 (T1 := (mkT 119 [(2, vP 2 0), (3, vP 3 0), (6, vP 6 0), (7, .bool false), (9, vP 10 0), (10, vP 11 0), (11, .bool false), (12, vN (1 + 3 * L1.length)), (67, .agg #[vI x2, vI y2, vI z2, vS 9 L2.length]), (68, vN (1 + 3 * L1.length))])) (by kernel_rfl) ?_
      refine rCall (v := vN ((1 + 3 * L1.length) + 3 * L2.length)) (args := [.agg #[vI x2, vI y2, vI z2, vS 9 L2.length], vN (1 + 3 * L1.length)]) (by kernel_rfl) rfl (by kernel_rfl) (Sound.emb_set (r := ⟨a3s L2, 25, false, true⟩) (r' := ⟨a3s (mk3 (1 + 3 * L1.length) L2.length), 25, false, true⟩) 9 (markHeapB x2 y2 z2 L2 (1 + 3 * L1.length) (by first | omega | assumption | (simp; done)) (by first | assumption | omega | rfl | decide | exact HeapL.list _ _ _ _ | exact HeapL.nil _ _ _ | exact HeapL.all _ _ _ | (apply HeapL.lt64 <;> assumption) | (repeat' (first | assumption | apply or_lt64 | apply and_lt64 | apply andn_lt64 | apply pow_lt64 | (apply HeapL.lt64 <;> assumption))))) (flatA3 _ _ _ _) rfl (flatA3 _ _ _ _) rfl rfl rfl (by first | rfl | simp [mpV, mpA, mpS, mpP, renId, shift]) rfl) ?_
      refine segEnd [2, 3, 6, 7, 10, 11, 12] (T1 := (mkT 119 [(2, vP 2 0), (3, vP 3 0), (6, vP 6 0), (7, .bool false), (10, vP 11 0), (11, .bool false), (12, vN ((1 + 3 * L1.length) + 3 * L2.length))])) (H1 := [some ⟨a3s L1, 25, false, false⟩, some ⟨a3s L2, 25, false, false⟩, rB [vI x1, vI y1, vI z1, vS 0 L1.length] 24, rB [vI x2, vI y2, vI z2, vS 1 L2.length] 24, some ⟨a3s L1, 25, false, true⟩, some ⟨a3s L2, 25, false, true⟩, rB [vI 0, vI 0, vI 0, .slice none 0 0] 29, some ⟨a3s (mk3 1 L1.length), 25, false, true⟩, rB [vI x1, vI y1, vI z1, vS 7 L1.length] 29, some ⟨a3s (mk3 (1 + 3 * L1.length) L2.length), 25, false, true⟩, rB [vI x2, vI y2, vI z2, vS 9 L2.length] 29, rB [vI 0, vI 0, vI 0, .slice none 0 0] 29, some ⟨a3s L1, 25, false, true⟩, some ⟨a3s L2, 25, false, true⟩]) (by kernel_rfl) ?_
      refine kSeq ?_
      refine cSeq ?_
      refine cSeq ?_
      refine cReg ?_
      refine segH 3 (T1 := (mkT 119 [(2, vP 2 0), (3, vP 3 0), (6, vP 6 0), (7, .bool false), (10, vP 11 0), (11, .bool false), (12, vN ((1 + 3 * L1.length) + 3 * L2.length)), (70, vN ((1 + 3 * L1.length) + 3 * L2.length)), (71, .bool (decide ((((1 + 3 * L1.length) + 3 * L2.length : Nat) : Int) < 0))), (72, .bool (decide ((((1 + 3 * L1.length) + 3 * L2.length : Nat) : Int) < 0)))])) (by kernel_rfl) ?_
      cases h3 : (decide ((((1 + 3 * L1.length) + 3 * L2.length : Nat) : Int) < 0) : Bool)
      ·
        (try simp only [Bool.not_eq_true', Bool.not_eq_false', decide_eq_true_eq, decide_eq_false_iff_not, beq_iff_eq, bne_iff_ne, beq_eq_false_iff_ne, bne_eq_false_iff_eq, ne_eq, Decidable.not_not, Bool.and_eq_true, Bool.and_eq_false_imp, Bool.or_eq_true, Bool.or_eq_false_iff, Bool.not_eq_true, Int.not_lt, Int.not_le, ge_iff_le, gt_iff_lt] at h3)
        refine seg 2 (T1 := (mkT 119 [(2, vP 2 0), (3, vP 3 0), (6, vP 6 0), (7, .bool false), (10, vP 11 0), (11, .bool false), (12, vN ((1 + 3 * L1.length) + 3 * L2.length)), (70, vN ((1 + 3 * L1.length) + 3 * L2.length)), (71, .bool false), (72, .bool false), (73, .agg #[vI 0, vI 0, vI 0, .slice none 0 0]), (74, .agg #[vI 0, vI 0, vI 0, .slice none 0 0])])) (H1 := [some ⟨a3s L1, 25, false, false⟩, some ⟨a3s L2, 25, false, false⟩, rB [vI x1, vI y1, vI z1, vS 0 L1.length] 24, rB [vI x2, vI y2, vI z2, vS 1 L2.length] 24, some ⟨a3s L1, 25, false, true⟩, some ⟨a3s L2, 25, false, true⟩, rB [vI 0, vI 0, vI 0, .slice none 0 0] 29, some ⟨a3s (mk3 1 L1.length), 25, false, true⟩, rB [vI x1, vI y1, vI z1, vS 7 L1.length] 29, some ⟨a3s (mk3 (1 + 3 * L1.length) L2.length), 25, false, true⟩, rB [vI x2, vI y2, vI z2, vS 9 L2.length] 29, rB [vI 0, vI 0, vI 0, .slice none 0 0] 29, some ⟨a3s L1, 25, false, true⟩, some ⟨a3s L2, 25, false, true⟩]) (by kernel_rfl) ?_
        refine rCall (v := .bool true) (args := [.agg #[vI 0, vI 0, vI 0, .slice none 0 0], .agg #[vI 0, vI 0, vI 0, .slice none 0 0]]) (by kernel_rfl) rfl (by kernel_rfl) (Sound.lay0 [] (eqHeapN) trivial rfl trivial rfl (by first | rfl | simp [mpV, mpA, mpS, mpP, renId, shift]) rfl) ?_
        refine segEnd [2, 3, 6, 7, 10, 82] (T1 := (mkT 119 [(2, vP 2 0), (3, vP 3 0), (6, vP 6 0), (7, .bool false), (10, vP 11 0), (82, .bool false)])) (H1 := [some ⟨a3s L1, 25, false, false⟩, some ⟨a3s L2, 25, false, false⟩, rB [vI x1, vI y1, vI z1, vS 0 L1.length] 24, rB [vI x2, vI y2, vI z2, vS 1 L2.length] 24, some ⟨a3s L1, 25, false, true⟩, some ⟨a3s L2, 25, false, true⟩, rB [vI 0, vI 0, vI 0, .slice none 0 0] 29, some ⟨a3s (mk3 1 L1.length), 25, false, true⟩, rB [vI x1, vI y1, vI z1, vS 7 L1.length] 29, some ⟨a3s (mk3 (1 + 3 * L1.length) L2.length), 25, false, true⟩, rB [vI x2, vI y2, vI z2, vS 9 L2.length] 29, rB [vI 0, vI 0, vI 0, .slice none 0 0] 29, some ⟨a3s L1, 25, false, true⟩, some ⟨a3s L2, 25, false, true⟩]) (by kernel_rfl) ?_
        refine kSeq ?_
        refine cFalse (by kernel_rfl) ?_
        refine cSkip ?_
        refine kSeq ?_
        refine cSeq ?_
        refine cReg ?_
        refine segEndH [2, 3, 6, 7, 10, 13] (T1 := (mkT 119 [(2, vP 2 0), (3, vP 3 0), (6, vP 6 0), (7, .bool false), (10, vP 11 0), (13, vI 1)])) (by kernel_rfl) ?_
        refine kSeq ?_
        refine cSeq ?_
        refine cReg ?_
        refine segH 2 (T1 := (mkT 119 [(2, vP 2 0), (3, vP 3 0), (6, vP 6 0), (7, .bool false), (10, vP 11 0), (13, vI 1), (83, .agg #[vI 0, vI 0, vI 0, .slice none 0 0]), (84, vI 1)])) (by kernel_rfl) ?_
        refine rCall (v := vI 1) (args := [.agg #[vI 0, vI 0, vI 0, .slice none 0 0], vI 1]) (by kernel_rfl) rfl (by kernel_rfl) (Sound.lay0 [] (markHeapN 1) trivial rfl trivial rfl (by first | rfl | simp [mpV, mpA, mpS, mpP, renId, shift]) rfl) ?_
        refine segEndH [2, 3, 6, 7, 10, 13] (T1 := (mkT 119 [(2, vP 2 0), (3, vP 3 0), (6, vP 6 0), (7, .bool false), (10, vP 11 0), (13, vI 1)])) (by kernel_rfl) ?_
        refine kSeq ?_
        refine cSeq ?_
        refine cReg ?_
        refine segEndH [2, 3, 6, 7, 10, 13, 14] (T1 := (mkT 119 [(2, vP 2 0), (3, vP 3 0), (6, vP 6 0), (7, .bool false), (10, vP 11 0), (13, vI 1), (14, vI 1)])) (by kernel_rfl) ?_
        refine kSeq ?_
        refine cSeq ?_
        refine cReg ?_
        refine segH 2 (T1 := (mkT 119 [(2, vP 2 0), (3, vP 3 0), (6, vP 6 0), (7, .bool false), (10, vP 11 0), (13, vI 1), (14, vI 1), (86, .agg #[vI 0, vI 0, vI 0, .slice none 0 0]), (87, vI 1)])) (by kernel_rfl) ?_
        refine rCall (v := vI 1) (args := [.agg #[vI 0, vI 0, vI 0, .slice none 0 0], vI 1]) (by kernel_rfl) rfl (by kernel_rfl) (Sound.lay0 [] (heldHeapN) trivial rfl trivial rfl (by first | rfl | simp [mpV, mpA, mpS, mpP, renId, shift]) rfl) ?_
        refine segEndH [2, 3, 6, 7, 10, 13, 14] (T1 := (mkT 119 [(2, vP 2 0), (3, vP 3 0), (6, vP 6 0), (7, .bool false), (10, vP 11 0), (13, vI 1), (14, vI 1)])) (by kernel_rfl) ?_
        refine kSeq ?_
        refine cSeq ?_
        refine cSeq ?_
        refine cReg ?_
        refine segEndH [2, 3, 6, 7, 10, 13, 14, 90] (T1 := (mkT 119 [(2, vP 2 0), (3, vP 3 0), (6, vP 6 0), (7, .bool false), (10, vP 11 0), (13, vI 1), (14, vI 1), (90, .bool false)])) (by kernel_rfl) ?_
        refine kSeq ?_
        refine cFalse (by kernel_rfl) ?_
        refine cSkip ?_
        refine kSeq ?_
        refine cSeq ?_
        refine cSeq ?_
        refine cReg ?_
        refine segEndH [2, 3, 6, 7, 10, 13, 93] (T1 := (mkT 119 [(2, vP 2 0), (3, vP 3 0), (6, vP 6 0), (7, .bool false), (10, vP 11 0), (13, vI 1), (93, .bool false)])) (by kernel_rfl) ?_
        refine kSeq ?_
        refine cFalse (by kernel_rfl) ?_
        refine cSkip ?_
        refine kSeq ?_
        refine cSeq ?_
        refine cRegW (N := 17) [⟨[], [], [2]⟩, ⟨[14], [], [0]⟩, ⟨[], [], [3]⟩, ⟨[15], [], [1]⟩, ⟨[], [], [14, 15]⟩, ⟨[], [], []⟩, ⟨[], [], []⟩, ⟨[], [], []⟩, ⟨[16], [], []⟩, ⟨[], [16], []⟩, ⟨[], [], []⟩] 3 [14, 15, 16] (by rfl) (by rfl) (by kernel_rfl) (by kernel_rfl) (by kernel_rfl) ⟨nmsF (flatA3 _ _ _ _), ⟨nmsF (flatA3 _ _ _ _), ⟨nmsX (by kernel_rfl), ⟨nmsX (by kernel_rfl), ⟨nmsF (flatA3 _ _ _ _), ⟨nmsF (flatA3 _ _ _ _), ⟨nmsX (by kernel_rfl), ⟨nmsF (flatA3 _ _ _ _), ⟨nmsX (by kernel_rfl), ⟨nmsF (flatA3 _ _ _ _), ⟨nmsX (by kernel_rfl), ⟨nmsX (by kernel_rfl), ⟨nmsF (flatA3 _ _ _ _), ⟨nmsF (flatA3 _ _ _ _), trivial⟩⟩⟩⟩⟩⟩⟩⟩⟩⟩⟩⟩⟩⟩ ?_
        refine segWH 1 (T1 := (mkT 119 [(2, vP 2 0), (3, vP 3 0), (6, vP 6 0), (7, .bool false), (10, vP 11 0), (13, vI 1), (93, .bool false), (95, .agg #[vI x1, vI y1, vI z1, vS 0 L1.length])])) (by kernel_rfl) ?_
        refine rW (m := ⟨[14], [], [0]⟩) (v := .agg #[vI x1, vI y1, vI z1, vS 14 L1.length]) rfl (by kernel_rfl) (stN (i := 14) (E := [some ⟨a3s L1, 25, false, true⟩]) (v1 := .agg #[vI x1, vI y1, vI z1, vS 17 L1.length]) (args := [.agg #[vI x1, vI y1, vI z1, vS 0 L1.length]]) rfl (by kernel_rfl) (Any.lay [0] (toHeapB x1 y1 z1 L1 (by first | omega | assumption | (simp; done))) ⟨rdF false (flatA3 _ _ _ _) rfl rfl, trivial⟩ rfl ⟨clF (flatA3 _ _ _ _), trivial⟩ rfl (by first | rfl | simp [mpV, mpA, mpS, mpP, renId, shift]) (by first | rfl | simp [mpV, mpA, mpS, mpP, renId, shift]) ⟨enF (flatA3 _ _ _ _) (Or.inl rfl), trivial⟩) rfl (by kernel_rfl) (by kernel_rfl) (by kernel_rfl) (by kernel_rfl) (FlatH.cons (flatA3 _ _ _ _) FlatH.nil)) (by kernel_rfl) (NRs.all ⟨nrOf (by rfl) (nmF (flatA3 _ _ _ _)), trivial⟩) ?_
        refine segWH 1 (T1 := (mkT 119 [(2, vP 2 0), (3, vP 3 0), (6, vP 6 0), (7, .bool false), (10, vP 11 0), (13, vI 1), (93, .bool false), (95, .agg #[vI x1, vI y1, vI z1, vS 0 L1.length]), (96, .agg #[vI x1, vI y1, vI z1, vS 14 L1.length]), (97, .agg #[vI x2, vI y2, vI z2, vS 1 L2.length])])) (by kernel_rfl) ?_
        refine rW (m := ⟨[15], [], [1]⟩) (v := .agg #[vI x2, vI y2, vI z2, vS 15 L2.length]) rfl (by kernel_rfl) (stN (i := 15) (E := [some ⟨a3s L2, 25, false, true⟩]) (v1 := .agg #[vI x2, vI y2, vI z2, vS 17 L2.length]) (args := [.agg #[vI x2, vI y2, vI z2, vS 1 L2.length]]) rfl (by kernel_rfl) (Any.lay [1] (toHeapB x2 y2 z2 L2 (by first | omega | assumption | (simp; done))) ⟨rdF false (flatA3 _ _ _ _) rfl rfl, trivial⟩ rfl ⟨clF (flatA3 _ _ _ _), trivial⟩ rfl (by first | rfl | simp [mpV, mpA, mpS, mpP, renId, shift]) (by first | rfl | simp [mpV, mpA, mpS, mpP, renId, shift]) ⟨enF (flatA3 _ _ _ _) (Or.inl rfl), trivial⟩) rfl (by kernel_rfl) (by kernel_rfl) (by kernel_rfl) (by kernel_rfl) (FlatH.cons (flatA3 _ _ _ _) FlatH.nil)) (by kernel_rfl) (NRs.all ⟨nrOf (by rfl) (nmF (flatA3 _ _ _ _)), trivial⟩) ?_
        refine rW (m := ⟨[], [], [14, 15]⟩) (v := .tuple #[.agg #[vI 0, vI 0, vI 0, .slice none 0 0], .bool false]) rfl (by kernel_rfl) (stQ (args := [.agg #[vI x1, vI y1, vI z1, vS 14 L1.length], .agg #[vI x2, vI y2, vI z2, vS 15 L2.length]]) rfl (by kernel_rfl) (Any.lay0 [14, 15] (implJoinHeaps_no x1 y1 z1 L1 x2 y2 z2 L2 (by first | assumption | omega | rfl | decide | exact HeapL.list _ _ _ _ | exact HeapL.nil _ _ _ | exact HeapL.all _ _ _ | (apply HeapL.lt64 <;> assumption) | (repeat' (first | assumption | apply or_lt64 | apply and_lt64 | apply andn_lt64 | apply pow_lt64 | (apply HeapL.lt64 <;> assumption)))) (by first | assumption | omega | rfl | decide | exact HeapL.list _ _ _ _ | exact HeapL.nil _ _ _ | exact HeapL.all _ _ _ | (apply HeapL.lt64 <;> assumption) | (repeat' (first | assumption | apply or_lt64 | apply and_lt64 | apply andn_lt64 | apply pow_lt64 | (apply HeapL.lt64 <;> assumption)))) (by first | assumption | omega | rfl | decide | exact HeapL.list _ _ _ _ | exact HeapL.nil _ _ _ | exact HeapL.all _ _ _ | (apply HeapL.lt64 <;> assumption) | (repeat' (first | assumption | apply or_lt64 | apply and_lt64 | apply andn_lt64 | apply pow_lt64 | (apply HeapL.lt64 <;> assumption))))) ⟨rdF true (flatA3 _ _ _ _) rfl rfl, ⟨rdF true (flatA3 _ _ _ _) rfl rfl, trivial⟩⟩ rfl ⟨clF (flatA3 _ _ _ _), ⟨clF (flatA3 _ _ _ _), trivial⟩⟩ rfl (by first | rfl | simp [mpV, mpA, mpS, mpP, renId, shift]) (by first | rfl | simp [mpV, mpA, mpS, mpP, renId, shift])) rfl (by kernel_rfl) (by kernel_rfl)) (by kernel_rfl) nr0 ?_
        refine segWH 3 (T1 := (mkT 119 [(2, vP 2 0), (3, vP 3 0), (6, vP 6 0), (7, .bool false), (10, vP 11 0), (13, vI 1), (93, .bool false), (94, .tuple #[.agg #[vI 0, vI 0, vI 0, .slice none 0 0], .bool false]), (95, .agg #[vI x1, vI y1, vI z1, vS 0 L1.length]), (96, .agg #[vI x1, vI y1, vI z1, vS 14 L1.length]), (97, .agg #[vI x2, vI y2, vI z2, vS 1 L2.length]), (98, .agg #[vI x2, vI y2, vI z2, vS 15 L2.length]), (99, .tuple #[.agg #[vI 0, vI 0, vI 0, .slice none 0 0], .bool false]), (100, .agg #[vI 0, vI 0, vI 0, .slice none 0 0]), (101, .bool false)])) (by kernel_rfl) ?_
        refine rW (m := ⟨[16], [], []⟩) (v := vP 16 0) rfl (by kernel_rfl) (stNew (i := 16) (v1 := vP 17 0) (r := ⟨[vI 0, vI 0, vI 0, .slice none 0 0], 29, true, true⟩) (by kernel_rfl) rfl (by kernel_rfl) (by kernel_rfl) (by kernel_rfl) (by kernel_rfl) (nmX (by kernel_rfl)) (clX (by kernel_rfl))) (by kernel_rfl) (NRs.all ⟨nrOf (by rfl) (nmX (by kernel_rfl)), trivial⟩) ?_
        refine rW (m := ⟨[], [16], []⟩) (v := .tuple #[]) rfl (by kernel_rfl) (stSet (b := 16) (r := ⟨[vI 0, vI 0, vI 0, .slice none 0 0], 29, true, true⟩) (by kernel_rfl) rfl (by kernel_rfl) (by kernel_rfl) (by kernel_rfl) (by kernel_rfl) (nmX (by kernel_rfl)) (clX (by kernel_rfl))) (by kernel_rfl) (NRs.all ⟨nrOf (by rfl) (nmX (by kernel_rfl)), trivial⟩) ?_
        refine segEndW [6, 7, 10, 13, 15, 16] (T1 := (mkT 119 [(6, vP 6 0), (7, .bool false), (10, vP 11 0), (13, vI 1), (15, vP 16 0), (16, .bool false)])) (H1 := [some ⟨a3s L1, 25, false, false⟩, some ⟨a3s L2, 25, false, false⟩, rB [vI x1, vI y1, vI z1, vS 0 L1.length] 24, rB [vI x2, vI y2, vI z2, vS 1 L2.length] 24, some ⟨a3s L1, 25, false, true⟩, some ⟨a3s L2, 25, false, true⟩, rB [vI 0, vI 0, vI 0, .slice none 0 0] 29, some ⟨a3s (mk3 1 L1.length), 25, false, true⟩, rB [vI x1, vI y1, vI z1, vS 7 L1.length] 29, some ⟨a3s (mk3 (1 + 3 * L1.length) L2.length), 25, false, true⟩, rB [vI x2, vI y2, vI z2, vS 9 L2.length] 29, rB [vI 0, vI 0, vI 0, .slice none 0 0] 29, some ⟨a3s L1, 25, false, true⟩, some ⟨a3s L2, 25, false, true⟩, some ⟨a3s L1, 25, false, true⟩, some ⟨a3s L2, 25, false, true⟩, rB [vI 0, vI 0, vI 0, .slice none 0 0] 29]) (by kernel_rfl) ?_
        refine kSeq ?_
        refine cSeq ?_
        refine cSeq ?_
        refine cReg ?_
        refine segH 2 (T1 := (mkT 119 [(6, vP 6 0), (7, .bool false), (10, vP 11 0), (13, vI 1), (15, vP 16 0), (16, .bool false), (102, .agg #[vI 0, vI 0, vI 0, .slice none 0 0]), (103, .agg #[vI 0, vI 0, vI 0, .slice none 0 0])])) (by kernel_rfl) ?_
        refine rCall (v := .bool true) (args := [.agg #[vI 0, vI 0, vI 0, .slice none 0 0], .agg #[vI 0, vI 0, vI 0, .slice none 0 0]]) (by kernel_rfl) rfl (by kernel_rfl) (Sound.lay0 [] (eqHeapN) trivial rfl trivial rfl (by first | rfl | simp [mpV, mpA, mpS, mpP, renId, shift]) rfl) ?_
        refine segEndH [10, 13, 110] (T1 := (mkT 119 [(10, vP 11 0), (13, vI 1), (110, .bool false)])) (by kernel_rfl) ?_
        refine kSeq ?_
        refine cFalse (by kernel_rfl) ?_
        refine cSkip ?_
        refine kSeq ?_
        refine cSeq ?_
        refine cReg ?_
        refine segEndH [10, 13, 14] (T1 := (mkT 119 [(10, vP 11 0), (13, vI 1), (14, vI 1)])) (by kernel_rfl) ?_
        refine kSeq ?_
        refine cSeq ?_
        refine cReg ?_
        refine segH 2 (T1 := (mkT 119 [(10, vP 11 0), (13, vI 1), (14, vI 1), (111, .agg #[vI 0, vI 0, vI 0, .slice none 0 0]), (112, vI 1)])) (by kernel_rfl) ?_
        refine rCall (v := vI 1) (args := [.agg #[vI 0, vI 0, vI 0, .slice none 0 0], vI 1]) (by kernel_rfl) rfl (by kernel_rfl) (Sound.lay0 [] (heldHeapN) trivial rfl trivial rfl (by first | rfl | simp [mpV, mpA, mpS, mpP, renId, shift]) rfl) ?_
        refine segEndH [13, 14] (T1 := (mkT 119 [(13, vI 1), (14, vI 1)])) (by kernel_rfl) ?_
        refine kSeq ?_
        refine cSeq ?_
        refine cSeq ?_
        refine cReg ?_
        refine segEndH [13, 14, 115] (T1 := (mkT 119 [(13, vI 1), (14, vI 1), (115, .bool false)])) (by kernel_rfl) ?_
        refine kSeq ?_
        refine cFalse (by kernel_rfl) ?_
        refine cSkip ?_
        refine kSeq ?_
        refine cSeq ?_
        refine cSeq ?_
        refine cReg ?_
        refine segEndH [118] (T1 := (mkT 119 [(118, .bool false)])) (by kernel_rfl) ?_
        refine kSeq ?_
        refine cFalse (by kernel_rfl) ?_
        refine cSkip ?_
        refine kSeq ?_
        refine cSeq ?_
        refine cReg ?_
        refine segEndH [4] (T1 := (mkT 119 [(4, .bool true)])) (by kernel_rfl) ?_
        refine kSeq ?_
        refine cRet ?_
        -- end
        exact endQ (Or.inr rfl) (l := [.bool true]) [rB [vI x1, vI y1, vI z1, vS 0 L1.length] 24, rB [vI x2, vI y2, vI z2, vS 1 L2.length] 24, some ⟨a3s L1, 25, false, true⟩, some ⟨a3s L2, 25, false, true⟩, rB [vI 0, vI 0, vI 0, .slice none 0 0] 29, some ⟨a3s (mk3 1 L1.length), 25, false, true⟩, rB [vI x1, vI y1, vI z1, vS 7 L1.length] 29, some ⟨a3s (mk3 (1 + 3 * L1.length) L2.length), 25, false, true⟩, rB [vI x2, vI y2, vI z2, vS 9 L2.length] 29, rB [vI 0, vI 0, vI 0, .slice none 0 0] 29, some ⟨a3s L1, 25, false, true⟩, some ⟨a3s L2, 25, false, true⟩, some ⟨a3s L1, 25, false, true⟩, some ⟨a3s L2, 25, false, true⟩, rB [vI 0, vI 0, vI 0, .slice none 0 0] 29] (by kernel_rfl) (by first | rfl | kernel_rfl) rfl rfl hcl rfl
      ·
        (try simp only [Bool.not_eq_true', Bool.not_eq_false', decide_eq_true_eq, decide_eq_false_iff_not, beq_iff_eq, bne_iff_ne, beq_eq_false_iff_ne, bne_eq_false_iff_eq, ne_eq, Decidable.not_not, Bool.and_eq_true, Bool.and_eq_false_imp, Bool.or_eq_true, Bool.or_eq_false_iff, Bool.not_eq_true, Int.not_lt, Int.not_le, ge_iff_le, gt_iff_lt] at h3)
        exfalso; omega
    ·
      (try simp only [Bool.not_eq_true', Bool.not_eq_false', decide_eq_true_eq, decide_eq_false_iff_not, beq_iff_eq, bne_iff_ne, beq_eq_false_iff_ne, bne_eq_false_iff_eq, ne_eq, Decidable.not_not, Bool.and_eq_true, Bool.and_eq_false_imp, Bool.or_eq_true, Bool.or_eq_false_iff, Bool.not_eq_true, Int.not_lt, Int.not_le, ge_iff_le, gt_iff_lt] at h2)
      exfalso; omega
  ·
    (try simp only [Bool.not_eq_true', Bool.not_eq_false', decide_eq_true_eq, decide_eq_false_iff_not, beq_iff_eq, bne_iff_ne, beq_eq_false_iff_ne, bne_eq_false_iff_eq, ne_eq, Decidable.not_not, Bool.and_eq_true, Bool.and_eq_false_imp, Bool.or_eq_true, Bool.or_eq_false_iff, Bool.not_eq_true, Int.not_lt, Int.not_le, ge_iff_le, gt_iff_lt] at h1)
    exfalso; omega

set_option maxRecDepth 100000 in
set_option maxHeartbeats 4000000 in
theorem lawJoinHeaps_no_sn (x1 : Int) (y1 : Int) (z1 : Int) (L1 : List A3) (x2 : Int) (y2 : Int) (z2 : Int) (hl12 : L1.length + ([] : List A3).length ≤ 1048576) (hv : alikeB x1 y1 z1 L1 x2 y2 z2 ([] : List A3) = false) : Sound Try.prog 8 [.agg #[vI x1, vI y1, vI z1, vS 0 L1.length], .agg #[vI x2, vI y2, vI z2, .slice none 0 0]] [some ⟨a3s L1, 25, false, false⟩] (.bool true) [some ⟨a3s L1, 25, false, false⟩] := by
  refine sound_intro (C := cx) Try.func8 rfl (by kernel_rfl) fun hcl => ?_
  skip
  have hl1 : L1.length ≤ 1048576 := by first | omega | (simp at hl12; omega) | (simp; done)
  have hl2 : ([] : List A3).length ≤ 1048576 := by first | omega | (simp at hl12; omega) | (simp; done)
  refine cSeq ?_
  refine cReg ?_
  refine segEnd [2, 3] (T1 := (mkT 119 [(2, vP 1 0), (3, vP 2 0)])) (H1 := [some ⟨a3s L1, 25, false, false⟩, rB [vI x1, vI y1, vI z1, vS 0 L1.length] 24, rB [vI x2, vI y2, vI z2, .slice none 0 0] 24]) (by kernel_rfl) ?_
  refine kSeq ?_
  refine cSeq ?_
  refine cReg ?_
  refine segEndH [2, 3, 5] (T1 := (mkT 119 [(2, vP 1 0), (3, vP 2 0), (5, vI 1048576)])) (by kernel_rfl) ?_
  refine kSeq ?_
  refine cSeq ?_
  refine cReg ?_
  refine segH 2 (T1 := (mkT 119 [(2, vP 1 0), (3, vP 2 0), (5, vI 1048576), (17, .agg #[vI x1, vI y1, vI z1, vS 0 L1.length]), (18, vI 1048576)])) (by kernel_rfl) ?_
  refine rCall (v := vN (1048576 - L1.length)) (args := [.agg #[vI x1, vI y1, vI z1, vS 0 L1.length], vI 1048576]) (by kernel_rfl) rfl (by kernel_rfl) (Sound.lay0 [0] (szHeapS x1 y1 z1 L1 1048576 (by first | omega | assumption | (simp; done)) (by first | omega | assumption | decide)) ⟨rdF false (flatA3 _ _ _ _) rfl rfl, trivial⟩ rfl ⟨clF (flatA3 _ _ _ _), trivial⟩ rfl (by first | rfl | simp [mpV, mpA, mpS, mpP, renId, shift]) rfl) ?_
  refine segEndH [2, 3, 5] (T1 := (mkT 119 [(2, vP 1 0), (3, vP 2 0), (5, vN (1048576 - L1.length))])) (by kernel_rfl) ?_
  refine kSeq ?_
  refine cSeq ?_
  refine cSeq ?_
  refine cReg ?_
  refine segEndH [2, 3, 5, 21] (T1 := (mkT 119 [(2, vP 1 0), (3, vP 2 0), (5, vN (1048576 - L1.length)), (21, .bool (decide (((1048576 - L1.length : Nat) : Int) < 0)))])) (by kernel_rfl) ?_
  refine kSeq ?_
  cases h1 : (decide (((1048576 - L1.length : Nat) : Int) < 0) : Bool)
  ·
    (try simp only [Bool.not_eq_true', Bool.not_eq_false', decide_eq_true_eq, decide_eq_false_iff_not, beq_iff_eq, bne_iff_ne, beq_eq_false_iff_ne, bne_eq_false_iff_eq, ne_eq, Decidable.not_not, Bool.and_eq_true, Bool.and_eq_false_imp, Bool.or_eq_true, Bool.or_eq_false_iff, Bool.not_eq_true, Int.not_lt, Int.not_le, ge_iff_le, gt_iff_lt] at h1)
    refine cFalse (by kernel_rfl) ?_
    refine cSkip ?_
    refine kSeq ?_
    refine cSeq ?_
    refine cReg ?_
    refine segH 2 (T1 := (mkT 119 [(2, vP 1 0), (3, vP 2 0), (5, vN (1048576 - L1.length)), (21, .bool false), (22, .agg #[vI x2, vI y2, vI z2, .slice none 0 0]), (23, vN (1048576 - L1.length))])) (by kernel_rfl) ?_
    refine rCall (v := vN (1048576 - L1.length)) (args := [.agg #[vI x2, vI y2, vI z2, .slice none 0 0], vN (1048576 - L1.length)]) (by kernel_rfl) rfl (by kernel_rfl) (Sound.lay0 [] (szHeapN x2 y2 z2 (1048576 - L1.length) (by first | omega | assumption | decide)) trivial rfl trivial rfl (by first | rfl | simp [mpV, mpA, mpS, mpP, renId, shift]) rfl) ?_
    refine segEndH [2, 3, 5] (T1 := (mkT 119 [(2, vP 1 0), (3, vP 2 0), (5, vN (1048576 - L1.length))])) (by kernel_rfl) ?_
    refine kSeq ?_
    refine cSeq ?_
    refine cSeq ?_
    refine cReg ?_
    refine segEndH [2, 3, 26] (T1 := (mkT 119 [(2, vP 1 0), (3, vP 2 0), (26, .bool (decide (((1048576 - L1.length : Nat) : Int) < 0)))])) (by kernel_rfl) ?_
    refine kSeq ?_
    cases h2 : (decide (((1048576 - L1.length : Nat) : Int) < 0) : Bool)
    ·
      (try simp only [Bool.not_eq_true', Bool.not_eq_false', decide_eq_true_eq, decide_eq_false_iff_not, beq_iff_eq, bne_iff_ne, beq_eq_false_iff_ne, bne_eq_false_iff_eq, ne_eq, Decidable.not_not, Bool.and_eq_true, Bool.and_eq_false_imp, Bool.or_eq_true, Bool.or_eq_false_iff, Bool.not_eq_true, Int.not_lt, Int.not_le, ge_iff_le, gt_iff_lt] at h2)
      refine cFalse (by kernel_rfl) ?_
      refine cSkip ?_
      refine kSeq ?_
      refine cSeq ?_
      refine cRegW (N := 6) [⟨[], [], [1]⟩, ⟨[3], [], [0]⟩, ⟨[], [], [2]⟩, ⟨[4], [], []⟩, ⟨[], [], [3, 4]⟩, ⟨[], [], []⟩, ⟨[], [], []⟩, ⟨[], [], []⟩, ⟨[5], [], []⟩, ⟨[], [5], []⟩, ⟨[], [], []⟩] 3 [3, 4, 5] (by rfl) (by rfl) (by kernel_rfl) (by kernel_rfl) (by kernel_rfl) ⟨nmsF (flatA3 _ _ _ _), ⟨nmsX (by kernel_rfl), ⟨nmsX (by kernel_rfl), trivial⟩⟩⟩ ?_
      refine segWH 1 (T1 := (mkT 119 [(2, vP 1 0), (3, vP 2 0), (26, .bool false), (28, .agg #[vI x1, vI y1, vI z1, vS 0 L1.length])])) (by kernel_rfl) ?_
      refine rW (m := ⟨[3], [], [0]⟩) (v := .agg #[vI x1, vI y1, vI z1, vS 3 L1.length]) rfl (by kernel_rfl) (stN (i := 3) (E := [some ⟨a3s L1, 25, false, true⟩]) (v1 := .agg #[vI x1, vI y1, vI z1, vS 6 L1.length]) (args := [.agg #[vI x1, vI y1, vI z1, vS 0 L1.length]]) rfl (by kernel_rfl) (Any.lay [0] (toHeapB x1 y1 z1 L1 (by first | omega | assumption | (simp; done))) ⟨rdF false (flatA3 _ _ _ _) rfl rfl, trivial⟩ rfl ⟨clF (flatA3 _ _ _ _), trivial⟩ rfl (by first | rfl | simp [mpV, mpA, mpS, mpP, renId, shift]) (by first | rfl | simp [mpV, mpA, mpS, mpP, renId, shift]) ⟨enF (flatA3 _ _ _ _) (Or.inl rfl), trivial⟩) rfl (by kernel_rfl) (by kernel_rfl) (by kernel_rfl) (by kernel_rfl) (FlatH.cons (flatA3 _ _ _ _) FlatH.nil)) (by kernel_rfl) (NRs.all ⟨nrOf (by rfl) (nmF (flatA3 _ _ _ _)), trivial⟩) ?_
      refine segWH 1 (T1 := (mkT 119 [(2, vP 1 0), (3, vP 2 0), (26, .bool false), (28, .agg #[vI x1, vI y1, vI z1, vS 0 L1.length]), (29, .agg #[vI x1, vI y1, vI z1, vS 3 L1.length]), (30, .agg #[vI x2, vI y2, vI z2, .slice none 0 0])])) (by kernel_rfl) ?_
      refine rW (m := ⟨[4], [], []⟩) (v := .agg #[vI x2, vI y2, vI z2, vS 4 0]) rfl (by kernel_rfl) (stN (i := 4) (E := [some ⟨[], 25, false, true⟩]) (v1 := .agg #[vI x2, vI y2, vI z2, vS 6 0]) (args := [.agg #[vI x2, vI y2, vI z2, .slice none 0 0]]) rfl (by kernel_rfl) (Any.lay [] (toHeapN x2 y2 z2) trivial rfl trivial rfl (by first | rfl | simp [mpV, mpA, mpS, mpP, renId, shift]) (by first | rfl | simp [mpV, mpA, mpS, mpP, renId, shift]) ⟨enX rfl (Or.inl rfl), trivial⟩) rfl (by kernel_rfl) (by kernel_rfl) (by kernel_rfl) (by kernel_rfl) (FlatH.cons (flatRow_of rfl) FlatH.nil)) (by kernel_rfl) (NRs.all ⟨nrOf (by rfl) (nmX (by kernel_rfl)), trivial⟩) ?_
      refine rW (m := ⟨[], [], [3, 4]⟩) (v := .tuple #[.agg #[vI 0, vI 0, vI 0, .slice none 0 0], .bool false]) rfl (by kernel_rfl) (stQ (args := [.agg #[vI x1, vI y1, vI z1, vS 3 L1.length], .agg #[vI x2, vI y2, vI z2, vS 4 0]]) rfl (by kernel_rfl) (Any.lay0 [3, 4] (specJoinHeaps_no x1 y1 z1 L1 x2 y2 z2 ([] : List A3) (by first | assumption | omega | rfl | decide | exact HeapL.list _ _ _ _ | exact HeapL.nil _ _ _ | exact HeapL.all _ _ _ | (apply HeapL.lt64 <;> assumption) | (repeat' (first | assumption | apply or_lt64 | apply and_lt64 | apply andn_lt64 | apply pow_lt64 | (apply HeapL.lt64 <;> assumption)))) (by first | assumption | omega | rfl | decide | exact HeapL.list _ _ _ _ | exact HeapL.nil _ _ _ | exact HeapL.all _ _ _ | (apply HeapL.lt64 <;> assumption) | (repeat' (first | assumption | apply or_lt64 | apply and_lt64 | apply andn_lt64 | apply pow_lt64 | (apply HeapL.lt64 <;> assumption)))) (by first | assumption | omega | rfl | decide | exact HeapL.list _ _ _ _ | exact HeapL.nil _ _ _ | exact HeapL.all _ _ _ | (apply HeapL.lt64 <;> assumption) | (repeat' (first | assumption | apply or_lt64 | apply and_lt64 | apply andn_lt64 | apply pow_lt64 | (apply HeapL.lt64 <;> assumption))))) ⟨rdF true (flatA3 _ _ _ _) rfl rfl, ⟨rdF true (flatA3 _ _ _ _) rfl rfl, trivial⟩⟩ rfl ⟨clF (flatA3 _ _ _ _), ⟨clF (flatA3 _ _ _ _), trivial⟩⟩ rfl (by first | rfl | simp [mpV, mpA, mpS, mpP, renId, shift]) (by first | rfl | simp [mpV, mpA, mpS, mpP, renId, shift])) rfl (by kernel_rfl) (by kernel_rfl)) (by kernel_rfl) nr0 ?_
      refine segWH 3 (T1 := (mkT 119 [(2, vP 1 0), (3, vP 2 0), (26, .bool false), (27, .tuple #[.agg #[vI 0, vI 0, vI 0, .slice none 0 0], .bool false]), (28, .agg #[vI x1, vI y1, vI z1, vS 0 L1.length]), (29, .agg #[vI x1, vI y1, vI z1, vS 3 L1.length]), (30, .agg #[vI x2, vI y2, vI z2, .slice none 0 0]), (31, .agg #[vI x2, vI y2, vI z2, vS 4 0]), (32, .tuple #[.agg #[vI 0, vI 0, vI 0, .slice none 0 0], .bool false]), (33, .agg #[vI 0, vI 0, vI 0, .slice none 0 0]), (34, .bool false)])) (by kernel_rfl) ?_
      refine rW (m := ⟨[5], [], []⟩) (v := vP 5 0) rfl (by kernel_rfl) (stNew (i := 5) (v1 := vP 6 0) (r := ⟨[vI 0, vI 0, vI 0, .slice none 0 0], 29, true, true⟩) (by kernel_rfl) rfl (by kernel_rfl) (by kernel_rfl) (by kernel_rfl) (by kernel_rfl) (nmX (by kernel_rfl)) (clX (by kernel_rfl))) (by kernel_rfl) (NRs.all ⟨nrOf (by rfl) (nmX (by kernel_rfl)), trivial⟩) ?_
      refine rW (m := ⟨[], [5], []⟩) (v := .tuple #[]) rfl (by kernel_rfl) (stSet (b := 5) (r := ⟨[vI 0, vI 0, vI 0, .slice none 0 0], 29, true, true⟩) (by kernel_rfl) rfl (by kernel_rfl) (by kernel_rfl) (by kernel_rfl) (by kernel_rfl) (nmX (by kernel_rfl)) (clX (by kernel_rfl))) (by kernel_rfl) (NRs.all ⟨nrOf (by rfl) (nmX (by kernel_rfl)), trivial⟩) ?_
      refine segEndW [2, 3, 6, 7] (T1 := (mkT 119 [(2, vP 1 0), (3, vP 2 0), (6, vP 5 0), (7, .bool false)])) (H1 := [some ⟨a3s L1, 25, false, false⟩, rB [vI x1, vI y1, vI z1, vS 0 L1.length] 24, rB [vI x2, vI y2, vI z2, .slice none 0 0] 24, some ⟨a3s L1, 25, false, true⟩, some ⟨[], 25, false, true⟩, rB [vI 0, vI 0, vI 0, .slice none 0 0] 29]) (by kernel_rfl) ?_
      refine kSeq ?_
      refine cSeq ?_
      refine cReg ?_
      refine segH 1 (T1 := (mkT 119 [(2, vP 1 0), (3, vP 2 0), (6, vP 5 0), (7, .bool false), (35, .agg #[vI x1, vI y1, vI z1, vS 0 L1.length])])) (by kernel_rfl) ?_
      refine rCall (v := .agg #[vI x1, vI y1, vI z1, vS 6 L1.length]) (args := [.agg #[vI x1, vI y1, vI z1, vS 0 L1.length]]) (by kernel_rfl) rfl (by kernel_rfl) (Sound.lay (E := [some ⟨a3s L1, 25, false, true⟩]) [0] (toHeapB x1 y1 z1 L1 (by first | omega | assumption | (simp; done))) ⟨rdF false (flatA3 _ _ _ _) rfl rfl, trivial⟩ rfl ⟨clF (flatA3 _ _ _ _), trivial⟩ rfl (by first | rfl | simp [mpV, mpA, mpS, mpP, renId, shift]) (by first | rfl | simp [mpV, mpA, mpS, mpP, renId, shift]) ⟨enF (flatA3 _ _ _ _) (Or.inl rfl), trivial⟩) ?_
      refine segEnd [2, 3, 6, 7, 8] (T1 := (mkT 119 [(2, vP 1 0), (3, vP 2 0), (6, vP 5 0), (7, .bool false), (8, vP 7 0)])) (H1 := [some ⟨a3s L1, 25, false, false⟩, rB [vI x1, vI y1, vI z1, vS 0 L1.length] 24, rB [vI x2, vI y2, vI z2, .slice none 0 0] 24, some ⟨a3s L1, 25, false, true⟩, some ⟨[], 25, false, true⟩, rB [vI 0, vI 0, vI 0, .slice none 0 0] 29, some ⟨a3s L1, 25, false, true⟩, rB [vI x1, vI y1, vI z1, vS 6 L1.length] 29]) (by kernel_rfl) ?_
      refine kSeq ?_
      refine cSeq ?_
      refine cReg ?_
      refine segH 1 (T1 := (mkT 119 [(2, vP 1 0), (3, vP 2 0), (6, vP 5 0), (7, .bool false), (8, vP 7 0), (37, .agg #[vI x2, vI y2, vI z2, .slice none 0 0])])) (by kernel_rfl) ?_
      refine rCall (v := .agg #[vI x2, vI y2, vI z2, vS 8 0]) (args := [.agg #[vI x2, vI y2, vI z2, .slice none 0 0]]) (by kernel_rfl) rfl (by kernel_rfl) (Sound.lay (E := [some ⟨[], 25, false, true⟩]) [] (toHeapN x2 y2 z2) trivial rfl trivial rfl (by first | rfl | simp [mpV, mpA, mpS, mpP, renId, shift]) (by first | rfl | simp [mpV, mpA, mpS, mpP, renId, shift]) ⟨enX rfl (Or.inl rfl), trivial⟩) ?_
      refine segEnd [2, 3, 6, 7, 8, 9] (T1 := (mkT 119 [(2, vP 1 0), (3, vP 2 0), (6, vP 5 0), (7, .bool false), (8, vP 7 0), (9, vP 9 0)])) (H1 := [some ⟨a3s L1, 25, false, false⟩, rB [vI x1, vI y1, vI z1, vS 0 L1.length] 24, rB [vI x2, vI y2, vI z2, .slice none 0 0] 24, some ⟨a3s L1, 25, false, true⟩, some ⟨[], 25, false, true⟩, rB [vI 0, vI 0, vI 0, .slice none 0 0] 29, some ⟨a3s L1, 25, false, true⟩, rB [vI x1, vI y1, vI z1, vS 6 L1.length] 29, some ⟨[], 25, false, true⟩, rB [vI x2, vI y2, vI z2, vS 8 0] 29]) (by kernel_rfl) ?_
      refine kSeq ?_
      refine cSeq ?_
      refine cReg ?_
      refine segH 2 (T1 := (mkT 119 [(2, vP 1 0), (3, vP 2 0), (6, vP 5 0), (7, .bool false), (8, vP 7 0), (9, vP 9 0), (40, .agg #[vI x1, vI y1, vI z1, vS 6 L1.length]), (41, .agg #[vI x2, vI y2, vI z2, vS 8 0])])) (by kernel_rfl) ?_
      refine rCall (v := .tuple #[.agg #[vI 0, vI 0, vI 0, .slice none 0 0], .bool false]) (args := [.agg #[vI x1, vI y1, vI z1, vS 6 L1.length], .agg #[vI x2, vI y2, vI z2, vS 8 0]]) (by kernel_rfl) rfl (by kernel_rfl) (Sound.lay0 [6, 8] (implJoinHeaps_no x1 y1 z1 L1 x2 y2 z2 ([] : List A3) (by first | assumption | omega | rfl | decide | exact HeapL.list _ _ _ _ | exact HeapL.nil _ _ _ | exact HeapL.all _ _ _ | (apply HeapL.lt64 <;> assumption) | (repeat' (first | assumption | apply or_lt64 | apply and_lt64 | apply andn_lt64 | apply pow_lt64 | (apply HeapL.lt64 <;> assumption)))) (by first | assumption | omega | rfl | decide | exact HeapL.list _ _ _ _ | exact HeapL.nil _ _ _ | exact HeapL.all _ _ _ | (apply HeapL.lt64 <;> assumption) | (repeat' (first | assumption | apply or_lt64 | apply and_lt64 | apply andn_lt64 | apply pow_lt64 | (apply HeapL.lt64 <;> assumption)))) (by first | assumption | omega | rfl | decide | exact HeapL.list _ _ _ _ | exact HeapL.nil _ _ _ | exact HeapL.all _ _ _ | (apply HeapL.lt64 <;> assumption) | (repeat' (first | assumption | apply or_lt64 | apply and_lt64 | apply andn_lt64 | apply pow_lt64 | (apply HeapL.lt64 <;> assumption))))) ⟨rdF true (flatA3 _ _ _ _) rfl rfl, ⟨rdF true (flatA3 _ _ _ _) rfl rfl, trivial⟩⟩ rfl ⟨clF (flatA3 _ _ _ _), ⟨clF (flatA3 _ _ _ _), trivial⟩⟩ rfl (by first | rfl | simp [mpV, mpA, mpS, mpP, renId, shift]) (by first | rfl | simp [mpV, mpA, mpS, mpP, renId, shift])) ?_
      refine segEnd [2, 3, 6, 7, 8, 9, 10, 11] (T1 := (mkT 119 [(2, vP 1 0), (3, vP 2 0), (6, vP 5 0), (7, .bool false), (8, vP 7 0), (9, vP 9 0), (10, vP 10 0), (11, .bool false)])) (H1 := [some ⟨a3s L1, 25, false, false⟩, rB [vI x1, vI y1, vI z1, vS 0 L1.length] 24, rB [vI x2, vI y2, vI z2, .slice none 0 0] 24, some ⟨a3s L1, 25, false, true⟩, some ⟨[], 25, false, true⟩, rB [vI 0, vI 0, vI 0, .slice none 0 0] 29, some ⟨a3s L1, 25, false, true⟩, rB [vI x1, vI y1, vI z1, vS 6 L1.length] 29, some ⟨[], 25, false, true⟩, rB [vI x2, vI y2, vI z2, vS 8 0] 29, rB [vI 0, vI 0, vI 0, .slice none 0 0] 29]) (by kernel_rfl) ?_
      refine kSeq ?_
      refine cSeq ?_
      refine cSeq ?_
      refine cReg ?_
      refine segH 2 (T1 := (mkT 119 [(2, vP 1 0), (3, vP 2 0), (6, vP 5 0), (7, .bool false), (8, vP 7 0), (9, vP 9 0), (10, vP 10 0), (11, .bool false), (45, .agg #[vI 0, vI 0, vI 0, .slice none 0 0]), (46, .agg #[vI 0, vI 0, vI 0, .slice none 0 0])])) (by kernel_rfl) ?_
      refine rCall (v := .bool true) (args := [.agg #[vI 0, vI 0, vI 0, .slice none 0 0], .agg #[vI 0, vI 0, vI 0, .slice none 0 0]]) (by kernel_rfl) rfl (by kernel_rfl) (Sound.lay0 [] (eqHeapN) trivial rfl trivial rfl (by first | rfl | simp [mpV, mpA, mpS, mpP, renId, shift]) rfl) ?_
      refine segEndH [2, 3, 6, 7, 8, 9, 10, 11, 53] (T1 := (mkT 119 [(2, vP 1 0), (3, vP 2 0), (6, vP 5 0), (7, .bool false), (8, vP 7 0), (9, vP 9 0), (10, vP 10 0), (11, .bool false), (53, .bool false)])) (by kernel_rfl) ?_
      refine kSeq ?_
      refine cFalse (by kernel_rfl) ?_
      refine cSkip ?_
      refine kSeq ?_
      refine cSeq ?_
      refine cSeq ?_
      refine cRegW (N := 12) [⟨[], [], [7]⟩, ⟨[], [], [1]⟩, ⟨[11], [], [0]⟩, ⟨[], [], [6, 11]⟩, ⟨[], [], []⟩] 1 [11] (by rfl) (by rfl) (by kernel_rfl) (by kernel_rfl) (by kernel_rfl) ⟨nmsF (flatA3 _ _ _ _), ⟨nmsX (by kernel_rfl), ⟨nmsX (by kernel_rfl), ⟨nmsF (flatA3 _ _ _ _), ⟨nmsX (by kernel_rfl), ⟨nmsX (by kernel_rfl), ⟨nmsF (flatA3 _ _ _ _), ⟨nmsX (by kernel_rfl), ⟨nmsX (by kernel_rfl), ⟨nmsX (by kernel_rfl), ⟨nmsX (by kernel_rfl), trivial⟩⟩⟩⟩⟩⟩⟩⟩⟩⟩⟩ ?_
      refine segWH 2 (T1 := (mkT 119 [(2, vP 1 0), (3, vP 2 0), (6, vP 5 0), (7, .bool false), (8, vP 7 0), (9, vP 9 0), (10, vP 10 0), (11, .bool false), (53, .bool false), (54, .agg #[vI x1, vI y1, vI z1, vS 6 L1.length]), (55, .agg #[vI x1, vI y1, vI z1, vS 0 L1.length])])) (by kernel_rfl) ?_
      refine rW (m := ⟨[11], [], [0]⟩) (v := .agg #[vI x1, vI y1, vI z1, vS 11 L1.length]) rfl (by kernel_rfl) (stN (i := 11) (E := [some ⟨a3s L1, 25, false, true⟩]) (v1 := .agg #[vI x1, vI y1, vI z1, vS 12 L1.length]) (args := [.agg #[vI x1, vI y1, vI z1, vS 0 L1.length]]) rfl (by kernel_rfl) (Any.lay [0] (toHeapB x1 y1 z1 L1 (by first | omega | assumption | (simp; done))) ⟨rdF false (flatA3 _ _ _ _) rfl rfl, trivial⟩ rfl ⟨clF (flatA3 _ _ _ _), trivial⟩ rfl (by first | rfl | simp [mpV, mpA, mpS, mpP, renId, shift]) (by first | rfl | simp [mpV, mpA, mpS, mpP, renId, shift]) ⟨enF (flatA3 _ _ _ _) (Or.inl rfl), trivial⟩) rfl (by kernel_rfl) (by kernel_rfl) (by kernel_rfl) (by kernel_rfl) (FlatH.cons (flatA3 _ _ _ _) FlatH.nil)) (by kernel_rfl) (NRs.all ⟨nrOf (by rfl) (nmF (flatA3 _ _ _ _)), trivial⟩) ?_
      refine rW (m := ⟨[], [], [6, 11]⟩) (v := .bool true) rfl (by kernel_rfl) (stQ (args := [.agg #[vI x1, vI y1, vI z1, vS 6 L1.length], .agg #[vI x1, vI y1, vI z1, vS 11 L1.length]]) rfl (by kernel_rfl) (Any.lay0 [6, 11] (eqHeapB x1 y1 z1 L1 (by first | omega | assumption | (simp; done))) ⟨rdF true (flatA3 _ _ _ _) rfl rfl, ⟨rdF true (flatA3 _ _ _ _) rfl rfl, trivial⟩⟩ rfl ⟨clF (flatA3 _ _ _ _), ⟨clF (flatA3 _ _ _ _), trivial⟩⟩ rfl (by first | rfl | simp [mpV, mpA, mpS, mpP, renId, shift]) rfl) rfl (by kernel_rfl) (by kernel_rfl)) (by kernel_rfl) nr0 ?_
      refine segEndW [2, 3, 6, 7, 8, 9, 10, 11, 58] (T1 := (mkT 119 [(2, vP 1 0), (3, vP 2 0), (6, vP 5 0), (7, .bool false), (8, vP 7 0), (9, vP 9 0), (10, vP 10 0), (11, .bool false), (58, .bool false)])) (H1 := [some ⟨a3s L1, 25, false, false⟩, rB [vI x1, vI y1, vI z1, vS 0 L1.length] 24, rB [vI x2, vI y2, vI z2, .slice none 0 0] 24, some ⟨a3s L1, 25, false, true⟩, some ⟨[], 25, false, true⟩, rB [vI 0, vI 0, vI 0, .slice none 0 0] 29, some ⟨a3s L1, 25, false, true⟩, rB [vI x1, vI y1, vI z1, vS 6 L1.length] 29, some ⟨[], 25, false, true⟩, rB [vI x2, vI y2, vI z2, vS 8 0] 29, rB [vI 0, vI 0, vI 0, .slice none 0 0] 29, some ⟨a3s L1, 25, false, true⟩]) (by kernel_rfl) ?_
      refine kSeq ?_
      refine cFalse (by kernel_rfl) ?_
      refine cSkip ?_
      refine kSeq ?_
      refine cSeq ?_
      refine cSeq ?_
      refine cRegW (N := 13) [⟨[], [], [9]⟩, ⟨[], [], [2]⟩, ⟨[12], [], []⟩, ⟨[], [], [8, 12]⟩, ⟨[], [], []⟩] 1 [12] (by rfl) (by rfl) (by kernel_rfl) (by kernel_rfl) (by kernel_rfl) ⟨nmsF (flatA3 _ _ _ _), ⟨nmsX (by kernel_rfl), ⟨nmsX (by kernel_rfl), ⟨nmsF (flatA3 _ _ _ _), ⟨nmsX (by kernel_rfl), ⟨nmsX (by kernel_rfl), ⟨nmsF (flatA3 _ _ _ _), ⟨nmsX (by kernel_rfl), ⟨nmsX (by kernel_rfl), ⟨nmsX (by kernel_rfl), ⟨nmsX (by kernel_rfl), ⟨nmsF (flatA3 _ _ _ _), trivial⟩⟩⟩⟩⟩⟩⟩⟩⟩⟩⟩⟩ ?_
      refine segWH 2 (T1 := (mkT 119 [(2, vP 1 0), (3, vP 2 0), (6, vP 5 0), (7, .bool false), (8, vP 7 0), (9, vP 9 0), (10, vP 10 0), (11, .bool false), (58, .bool false), (59, .agg #[vI x2, vI y2, vI z2, vS 8 0]), (60, .agg #[vI x2, vI y2, vI z2, .slice none 0 0])])) (by kernel_rfl) ?_
      refine rW (m := ⟨[12], [], []⟩) (v := .agg #[vI x2, vI y2, vI z2, vS 12 0]) rfl (by kernel_rfl) (stN (i := 12) (E := [some ⟨[], 25, false, true⟩]) (v1 := .agg #[vI x2, vI y2, vI z2, vS 13 0]) (args := [.agg #[vI x2, vI y2, vI z2, .slice none 0 0]]) rfl (by kernel_rfl) (Any.lay [] (toHeapN x2 y2 z2) trivial rfl trivial rfl (by first | rfl | simp [mpV, mpA, mpS, mpP, renId, shift]) (by first | rfl | simp [mpV, mpA, mpS, mpP, renId, shift]) ⟨enX rfl (Or.inl rfl), trivial⟩) rfl (by kernel_rfl) (by kernel_rfl) (by kernel_rfl) (by kernel_rfl) (FlatH.cons (flatRow_of rfl) FlatH.nil)) (by kernel_rfl) (NRs.all ⟨nrOf (by rfl) (nmX (by kernel_rfl)), trivial⟩) ?_
      refine rW (m := ⟨[], [], [8, 12]⟩) (v := .bool true) rfl (by kernel_rfl) (stQ (args := [.agg #[vI x2, vI y2, vI z2, vS 8 0], .agg #[vI x2, vI y2, vI z2, vS 12 0]]) rfl (by kernel_rfl) (Any.lay0 [8, 12] (eqHeapB x2 y2 z2 ([] : List A3) (by first | omega | assumption | (simp; done))) ⟨rdF true (flatA3 _ _ _ _) rfl rfl, ⟨rdF true (flatA3 _ _ _ _) rfl rfl, trivial⟩⟩ rfl ⟨clF (flatA3 _ _ _ _), ⟨clF (flatA3 _ _ _ _), trivial⟩⟩ rfl (by first | rfl | simp [mpV, mpA, mpS, mpP, renId, shift]) rfl) rfl (by kernel_rfl) (by kernel_rfl)) (by kernel_rfl) nr0 ?_
      refine segEndW [2, 3, 6, 7, 8, 9, 10, 11, 63] (T1 := (mkT 119 [(2, vP 1 0), (3, vP 2 0), (6, vP 5 0), (7, .bool false), (8, vP 7 0), (9, vP 9 0), (10, vP 10 0), (11, .bool false), (63, .bool false)])) (H1 := [some ⟨a3s L1, 25, false, false⟩, rB [vI x1, vI y1, vI z1, vS 0 L1.length] 24, rB [vI x2, vI y2, vI z2, .slice none 0 0] 24, some ⟨a3s L1, 25, false, true⟩, some ⟨[], 25, false, true⟩, rB [vI 0, vI 0, vI 0, .slice none 0 0] 29, some ⟨a3s L1, 25, false, true⟩, rB [vI x1, vI y1, vI z1, vS 6 L1.length] 29, some ⟨[], 25, false, true⟩, rB [vI x2, vI y2, vI z2, vS 8 0] 29, rB [vI 0, vI 0, vI 0, .slice none 0 0] 29, some ⟨a3s L1, 25, false, true⟩, some ⟨[], 25, false, true⟩]) (by kernel_rfl) ?_
      refine kSeq ?_
      refine cFalse (by kernel_rfl) ?_
      refine cSkip ?_
      refine kSeq ?_
      refine cSeq ?_
      refine cReg ?_
      refine segEndH [2, 3, 6, 7, 8, 9, 10, 11, 12] (T1 := (mkT 119 [(2, vP 1 0), (3, vP 2 0), (6, vP 5 0), (7, .bool false), (8, vP 7 0), (9, vP 9 0), (10, vP 10 0), (11, .bool false), (12, vI 1)])) (by kernel_rfl) ?_
      refine kSeq ?_
      refine cSeq ?_
      refine cReg ?_
      refine segH 2 (T1 := (mkT 119 [(2, vP 1 0), (3, vP 2 0), (6, vP 5 0), (7, .bool false), (8, vP 7 0), (9, vP 9 0), (10, vP 10 0), (11, .bool false), (12, vI 1), (64, .agg #[vI x1, vI y1, vI z1, vS 6 L1.length]), (65, vI 1)])) (by kernel_rfl) ?_
      refine rCall (v := vN (1 + 3 * L1.length)) (args := [.agg #[vI x1, vI y1, vI z1, vS 6 L1.length], vI 1]) (by kernel_rfl) rfl (by kernel_rfl) (Sound.emb_set (r := ⟨a3s L1, 25, false, true⟩) (r' := ⟨a3s (mk3 1 L1.length), 25, false, true⟩) 6 (markHeapB x1 y1 z1 L1 1 (by first | omega | assumption | (simp; done)) (by first | assumption | omega | rfl | decide | exact HeapL.list _ _ _ _ | exact HeapL.nil _ _ _ | exact HeapL.all _ _ _ | (apply HeapL.lt64 <;> assumption) | (repeat' (first | assumption | apply or_lt64 | apply and_lt64 | apply andn_lt64 | apply pow_lt64 | (apply HeapL.lt64 <;> assumption))))) (flatA3 _ _ _ _) rfl (flatA3 _ _ _ _) rfl rfl rfl (by first | rfl | simp [mpV, mpA, mpS, mpP, renId, shift]) rfl) ?_
      refine segEnd [2, 3, 6, 7, 9, 10, 11, 12] (T1 := (mkT 119 [(2, vP 1 0), (3, vP 2 0), (6, vP 5 0), (7, .bool false), (9, vP 9 0), (10, vP 10 0), (11, .bool false), (12, vN (1 + 3 * L1.length))])) (H1 := [some ⟨a3s L1, 25, false, false⟩, rB [vI x1, vI y1, vI z1, vS 0 L1.length] 24, rB [vI x2, vI y2, vI z2, .slice none 0 0] 24, some ⟨a3s L1, 25, false, true⟩, some ⟨[], 25, false, true⟩, rB [vI 0, vI 0, vI 0, .slice none 0 0] 29, some ⟨a3s (mk3 1 L1.length), 25, false, true⟩, rB [vI x1, vI y1, vI z1, vS 6 L1.length] 29, some ⟨[], 25, false, true⟩, rB [vI x2, vI y2, vI z2, vS 8 0] 29, rB [vI 0, vI 0, vI 0, .slice none 0 0] 29, some ⟨a3s L1, 25, false, true⟩, some ⟨[], 25, false, true⟩]) (by kernel_rfl) ?_
      refine kSeq ?_
      refine cSeq ?_
      refine cReg ?_
      refine segH 2 (T1 := (mkT 119 [(2, vP 1 0), (3, vP 2 0), (6, vP 5 0), (7, .bool false), (9, vP 9 0), (10, vP 10 0), (11, .bool false), (12, vN (1 + 3 * L1.length)), (67, .agg #[vI x2, vI y2, vI z2, vS 8 0]), (68, vN (1 + 3 * L1.length))])) (by kernel_rfl) ?_
      refine rCall (v := vN ((1 + 3 * L1.length) + 3 * ([] : List A3).length)) (args := [.agg #[vI x2, vI y2, vI z2, vS 8 0], vN (1 + 3 * L1.length)]) (by kernel_rfl) rfl (by kernel_rfl) (Sound.emb_set (r := ⟨a3s ([] : List A3), 25, false, true⟩) (r' := ⟨a3s (mk3 (1 + 3 * L1.length) ([] : List A3).length), 25, false, true⟩) 8 (markHeapB x2 y2 z2 ([] : List A3) (1 + 3 * L1.length) (by first | omega | assumption | (simp; done)) (by first | assumption | omega | rfl | decide | exact HeapL.list _ _ _ _ | exact HeapL.nil _ _ _ | exact HeapL.all _ _ _ | (apply HeapL.lt64 <;> assumption) | (repeat' (first | assumption | apply or_lt64 | apply and_lt64 | apply andn_lt64 | apply pow_lt64 | (apply HeapL.lt64 <;> assumption))))) (flatA3 _ _ _ _) rfl (flatA3 _ _ _ _) rfl rfl rfl (by first | rfl | simp [mpV, mpA, mpS, mpP, renId, shift]) rfl) ?_
      refine segEnd [2, 3, 6, 7, 10, 11, 12] (T1 := (mkT 119 [(2, vP 1 0), (3, vP 2 0), (6, vP 5 0), (7, .bool false), (10, vP 10 0), (11, .bool false), (12, vN ((1 + 3 * L1.length) + 3 * ([] : List A3).length))])) (H1 := [some ⟨a3s L1, 25, false, false⟩, rB [vI x1, vI y1, vI z1, vS 0 L1.length] 24, rB [vI x2, vI y2, vI z2, .slice none 0 0] 24, some ⟨a3s L1, 25, false, true⟩, some ⟨[], 25, false, true⟩, rB [vI 0, vI 0, vI 0, .slice none 0 0] 29, some ⟨a3s (mk3 1 L1.length), 25, false, true⟩, rB [vI x1, vI y1, vI z1, vS 6 L1.length] 29, some ⟨a3s (mk3 (1 + 3 * L1.length) ([] : List A3).length), 25, false, true⟩, rB [vI x2, vI y2, vI z2, vS 8 0] 29, rB [vI 0, vI 0, vI 0, .slice none 0 0] 29, some ⟨a3s L1, 25, false, true⟩, some ⟨[], 25, false, true⟩]) (by kernel_rfl) ?_
      refine kSeq ?_
      refine cSeq ?_
      refine cSeq ?_
      refine cReg ?_
      refine segH 3 (T1 := (mkT 119 [(2, vP 1 0), (3, vP 2 0), (6, vP 5 0), (7, .bool false), (10, vP 10 0), (11, .bool false), (12, vN ((1 + 3 * L1.length) + 3 * ([] : List A3).length)), (70, vN ((1 + 3 * L1.length) + 3 * ([] : List A3).length)), (71, .bool (decide ((((1 + 3 * L1.length) + 3 * ([] : List A3).length : Nat) : Int) < 0))), (72, .bool (decide ((((1 + 3 * L1.length) + 3 * ([] : List A3).length : Nat) : Int) < 0)))])) (by kernel_rfl) ?_
      cases h3 : (decide ((((1 + 3 * L1.length) + 3 * ([] : List A3).length : Nat) : Int) < 0) : Bool)
      ·
        (try simp only [Bool.not_eq_true', Bool.not_eq_false', decide_eq_true_eq, decide_eq_false_iff_not, beq_iff_eq, bne_iff_ne, beq_eq_false_iff_ne, bne_eq_false_iff_eq, ne_eq, Decidable.not_not, Bool.and_eq_true, Bool.and_eq_false_imp, Bool.or_eq_true, Bool.or_eq_false_iff, Bool.not_eq_true, Int.not_lt, Int.not_le, ge_iff_le, gt_iff_lt] at h3)
        refine seg 2 (T1 := (mkT 119 [(2, vP 1 0), (3, vP 2 0), (6, vP 5 0), (7, .bool false), (10, vP 10 0), (11, .bool false), (12, vN ((1 + 3 * L1.length) + 3 * ([] : List A3).length)), (70, vN ((1 + 3 * L1.length) + 3 * ([] : List A3).length)), (71, .bool false), (72, .bool false), (73, .agg #[vI 0, vI 0, vI 0, .slice none 0 0]), (74, .agg #[vI 0, vI 0, vI 0, .slice none 0 0])])) (H1 := [some ⟨a3s L1, 25, false, false⟩, rB [vI x1, vI y1, vI z1, vS 0 L1.length] 24, rB [vI x2, vI y2, vI z2, .slice none 0 0] 24, some ⟨a3s L1, 25, false, true⟩, some ⟨[], 25, false, true⟩, rB [vI 0, vI 0, vI 0, .slice none 0 0] 29, some ⟨a3s (mk3 1 L1.length), 25, false, true⟩, rB [vI x1, vI y1, vI z1, vS 6 L1.length] 29, some ⟨a3s (mk3 (1 + 3 * L1.length) ([] : List A3).length), 25, false, true⟩, rB [vI x2, vI y2, vI z2, vS 8 0] 29, rB [vI 0, vI 0, vI 0, .slice none 0 0] 29, some ⟨a3s L1, 25, false, true⟩, some ⟨[], 25, false, true⟩]) (by kernel_rfl) ?_
        refine rCall (v := .bool true) (args := [.agg #[vI 0, vI 0, vI 0, .slice none 0 0], .agg #[vI 0, vI 0, vI 0, .slice none 0 0]]) (by kernel_rfl) rfl (by kernel_rfl) (Sound.lay0 [] (eqHeapN) trivial rfl trivial rfl (by first | rfl | simp [mpV, mpA, mpS, mpP, renId, shift]) rfl) ?_
        refine segEnd [2, 3, 6, 7, 10, 82] (T1 := (mkT 119 [(2, vP 1 0), (3, vP 2 0), (6, vP 5 0), (7, .bool false), (10, vP 10 0), (82, .bool false)])) (H1 := [some ⟨a3s L1, 25, false, false⟩, rB [vI x1, vI y1, vI z1, vS 0 L1.length] 24, rB [vI x2, vI y2, vI z2, .slice none 0 0] 24, some ⟨a3s L1, 25, false, true⟩, some ⟨[], 25, false, true⟩, rB [vI 0, vI 0, vI 0, .slice none 0 0] 29, some ⟨a3s (mk3 1 L1.length), 25, false, true⟩, rB [vI x1, vI y1, vI z1, vS 6 L1.length] 29, some ⟨a3s (mk3 (1 + 3 * L1.length) ([] : List A3).length), 25, false, true⟩, rB [vI x2, vI y2, vI z2, vS 8 0] 29, rB [vI 0, vI 0, vI 0, .slice none 0 0] 29, some ⟨a3s L1, 25, false, true⟩, some ⟨[], 25, false, true⟩]) (by kernel_rfl) ?_
        refine kSeq ?_
        refine cFalse (by kernel_rfl) ?_
        refine cSkip ?_
        refine kSeq ?_
        refine cSeq ?_
        refine cReg ?_
        refine segEndH [2, 3, 6, 7, 10, 13] (T1 := (mkT 119 [(2, vP 1 0), (3, vP 2 0), (6, vP 5 0), (7, .bool false), (10, vP 10 0), (13, vI 1)])) (by kernel_rfl) ?_
        refine kSeq ?_
        refine cSeq ?_
        refine cReg ?_
        refine segH 2 (T1 := (mkT 119 [(2, vP 1 0), (3, vP 2 0), (6, vP 5 0), (7, .bool false), (10, vP 10 0), (13, vI 1), (83, .agg #[vI 0, vI 0, vI 0, .slice none 0 0]), (84, vI 1)])) (by kernel_rfl) ?_
        refine rCall (v := vI 1) (args := [.agg #[vI 0, vI 0, vI 0, .slice none 0 0], vI 1]) (by kernel_rfl) rfl (by kernel_rfl) (Sound.lay0 [] (markHeapN 1) trivial rfl trivial rfl (by first | rfl | simp [mpV, mpA, mpS, mpP, renId, shift]) rfl) ?_
        refine segEndH [2, 3, 6, 7, 10, 13] (T1 := (mkT 119 [(2, vP 1 0), (3, vP 2 0), (6, vP 5 0), (7, .bool false), (10, vP 10 0), (13, vI 1)])) (by kernel_rfl) ?_
        refine kSeq ?_
        refine cSeq ?_
        refine cReg ?_
        refine segEndH [2, 3, 6, 7, 10, 13, 14] (T1 := (mkT 119 [(2, vP 1 0), (3, vP 2 0), (6, vP 5 0), (7, .bool false), (10, vP 10 0), (13, vI 1), (14, vI 1)])) (by kernel_rfl) ?_
        refine kSeq ?_
        refine cSeq ?_
        refine cReg ?_
        refine segH 2 (T1 := (mkT 119 [(2, vP 1 0), (3, vP 2 0), (6, vP 5 0), (7, .bool false), (10, vP 10 0), (13, vI 1), (14, vI 1), (86, .agg #[vI 0, vI 0, vI 0, .slice none 0 0]), (87, vI 1)])) (by kernel_rfl) ?_
        refine rCall (v := vI 1) (args := [.agg #[vI 0, vI 0, vI 0, .slice none 0 0], vI 1]) (by kernel_rfl) rfl (by kernel_rfl) (Sound.lay0 [] (heldHeapN) trivial rfl trivial rfl (by first | rfl | simp [mpV, mpA, mpS, mpP, renId, shift]) rfl) ?_
        refine segEndH [2, 3, 6, 7, 10, 13, 14] (T1 := (mkT 119 [(2, vP 1 0), (3, vP 2 0), (6, vP 5 0), (7, .bool false), (10, vP 10 0), (13, vI 1), (14, vI 1)])) (by kernel_rfl) ?_
        refine kSeq ?_
        refine cSeq ?_
        refine cSeq ?_
        refine cReg ?_
        refine segEndH [2, 3, 6, 7, 10, 13, 14, 90] (T1 := (mkT 119 [(2, vP 1 0), (3, vP 2 0), (6, vP 5 0), (7, .bool false), (10, vP 10 0), (13, vI 1), (14, vI 1), (90, .bool false)])) (by kernel_rfl) ?_
        refine kSeq ?_
        refine cFalse (by kernel_rfl) ?_
        refine cSkip ?_
        refine kSeq ?_
        refine cSeq ?_
        refine cSeq ?_
        refine cReg ?_
        refine segEndH [2, 3, 6, 7, 10, 13, 93] (T1 := (mkT 119 [(2, vP 1 0), (3, vP 2 0), (6, vP 5 0), (7, .bool false), (10, vP 10 0), (13, vI 1), (93, .bool false)])) (by kernel_rfl) ?_
        refine kSeq ?_
        refine cFalse (by kernel_rfl) ?_
        refine cSkip ?_
        refine kSeq ?_
        refine cSeq ?_
        refine cRegW (N := 16) [⟨[], [], [1]⟩, ⟨[13], [], [0]⟩, ⟨[], [], [2]⟩, ⟨[14], [], []⟩, ⟨[], [], [13, 14]⟩, ⟨[], [], []⟩, ⟨[], [], []⟩, ⟨[], [], []⟩, ⟨[15], [], []⟩, ⟨[], [15], []⟩, ⟨[], [], []⟩] 3 [13, 14, 15] (by rfl) (by rfl) (by kernel_rfl) (by kernel_rfl) (by kernel_rfl) ⟨nmsF (flatA3 _ _ _ _), ⟨nmsX (by kernel_rfl), ⟨nmsX (by kernel_rfl), ⟨nmsF (flatA3 _ _ _ _), ⟨nmsX (by kernel_rfl), ⟨nmsX (by kernel_rfl), ⟨nmsF (flatA3 _ _ _ _), ⟨nmsX (by kernel_rfl), ⟨nmsF (flatA3 _ _ _ _), ⟨nmsX (by kernel_rfl), ⟨nmsX (by kernel_rfl), ⟨nmsF (flatA3 _ _ _ _), ⟨nmsX (by kernel_rfl), trivial⟩⟩⟩⟩⟩⟩⟩⟩⟩⟩⟩⟩⟩ ?_
        refine segWH 1 (T1 := (mkT 119 [(2, vP 1 0), (3, vP 2 0), (6, vP 5 0), (7, .bool false), (10, vP 10 0), (13, vI 1), (93, .bool false), (95, .agg #[vI x1, vI y1, vI z1, vS 0 L1.length])])) (by kernel_rfl) ?_
        refine rW (m := ⟨[13], [], [0]⟩) (v := .agg #[vI x1, vI y1, vI z1, vS 13 L1.length]) rfl (by kernel_rfl) (stN (i := 13) (E := [some ⟨a3s L1, 25, false, true⟩]) (v1 := .agg #[vI x1, vI y1, vI z1, vS 16 L1.length]) (args := [.agg #[vI x1, vI y1, vI z1, vS 0 L1.length]]) rfl (by kernel_rfl) (Any.lay [0] (toHeapB x1 y1 z1 L1 (by first | omega | assumption | (simp; done))) ⟨rdF false (flatA3 _ _ _ _) rfl rfl, trivial⟩ rfl ⟨clF (flatA3 _ _ _ _), trivial⟩ rfl (by first | rfl | simp [mpV, mpA, mpS, mpP, renId, shift]) (by first | rfl | simp [mpV, mpA, mpS, mpP, renId, shift]) ⟨enF (flatA3 _ _ _ _) (Or.inl rfl), trivial⟩) rfl (by kernel_rfl) (by kernel_rfl) (by kernel_rfl) (by kernel_rfl) (FlatH.cons (flatA3 _ _ _ _) FlatH.nil)) (by kernel_rfl) (NRs.all ⟨nrOf (by rfl) (nmF (flatA3 _ _ _ _)), trivial⟩) ?_
        refine segWH 1 (T1 := (mkT 119 [(2, vP 1 0), (3, vP 2 0), (6, vP 5 0), (7, .bool false), (10, vP 10 0), (13, vI 1), (93, .bool false), (95, .agg #[vI x1, vI y1, vI z1, vS 0 L1.length]), (96, .agg #[vI x1, vI y1, vI z1, vS 13 L1.length]), (97, .agg #[vI x2, vI y2, vI z2, .slice none 0 0])])) (by kernel_rfl) ?_
        refine rW (m := ⟨[14], [], []⟩) (v := .agg #[vI x2, vI y2, vI z2, vS 14 0]) rfl (by kernel_rfl) (stN (i := 14) (E := [some ⟨[], 25, false, true⟩]) (v1 := .agg #[vI x2, vI y2, vI z2, vS 16 0]) (args := [.agg #[vI x2, vI y2, vI z2, .slice none 0 0]]) rfl (by kernel_rfl) (Any.lay [] (toHeapN x2 y2 z2) trivial rfl trivial rfl (by first | rfl | simp [mpV, mpA, mpS, mpP, renId, shift]) (by first | rfl | simp [mpV, mpA, mpS, mpP, renId, shift]) ⟨enX rfl (Or.inl rfl), trivial⟩) rfl (by kernel_rfl) (by kernel_rfl) (by kernel_rfl) (by kernel_rfl) (FlatH.cons (flatRow_of rfl) FlatH.nil)) (by kernel_rfl) (NRs.all ⟨nrOf (by rfl) (nmX (by kernel_rfl)), trivial⟩) ?_
        refine rW (m := ⟨[], [], [13, 14]⟩) (v := .tuple #[.agg #[vI 0, vI 0, vI 0, .slice none 0 0], .bool false]) rfl (by kernel_rfl) (stQ (args := [.agg #[vI x1, vI y1, vI z1, vS 13 L1.length], .agg #[vI x2, vI y2, vI z2, vS 14 0]]) rfl (by kernel_rfl) (Any.lay0 [13, 14] (implJoinHeaps_no x1 y1 z1 L1 x2 y2 z2 ([] : List A3) (by first | assumption | omega | rfl | decide | exact HeapL.list _ _ _ _ | exact HeapL.nil _ _ _ | exact HeapL.all _ _ _ | (apply HeapL.lt64 <;> assumption) | (repeat' (first | assumption | apply or_lt64 | apply and_lt64 | apply andn_lt64 | apply pow_lt64 | (apply HeapL.lt64 <;> assumption)))) (by first | assumption | omega | rfl | decide | exact HeapL.list _ _ _ _ | exact HeapL.nil _ _ _ | exact HeapL.all _ _ _ | (apply HeapL.lt64 <;> assumption) | (repeat' (first | assumption | apply or_lt64 | apply and_lt64 | apply andn_lt64 | apply pow_lt64 | (apply HeapL.lt64 <;> assumption)))) (by first | assumption | omega | rfl | decide | exact HeapL.list _ _ _ _ | exact HeapL.nil _ _ _ | exact HeapL.all _ _ _ | (apply HeapL.lt64 <;> assumption) | (repeat' (first | assumption | apply or_lt64 | apply and_lt64 | apply andn_lt64 | apply pow_lt64 | (apply HeapL.lt64 <;> assumption))))) ⟨rdF true (flatA3 _ _ _ _) rfl rfl, ⟨rdF true (flatA3 _ _ _ _) rfl rfl, trivial⟩⟩ rfl ⟨clF (flatA3 _ _ _ _), ⟨clF (flatA3 _ _ _ _), trivial⟩⟩ rfl (by first | rfl | simp [mpV, mpA, mpS, mpP, renId, shift]) (by first | rfl | simp [mpV, mpA, mpS, mpP, renId, shift])) rfl (by kernel_rfl) (by kernel_rfl)) (by kernel_rfl) nr0 ?_
        refine segWH 3 (T1 := (mkT 119 [(2, vP 1 0), (3, vP 2 0), (6, vP 5 0), (7, .bool false), (10, vP 10 0), (13, vI 1), (93, .bool false), (94, .tuple #[.agg #[vI 0, vI 0, vI 0, .slice none 0 0], .bool false]), (95, .agg #[vI x1, vI y1, vI z1, vS 0 L1.length]), (96, .agg #[vI x1, vI y1, vI z1, vS 13 L1.length]), (97, .agg #[vI x2, vI y2, vI z2, .slice none 0 0]), (98, .agg #[vI x2, vI y2, vI z2, vS 14 0]), (99, .tuple #[.agg #[vI 0, vI 0, vI 0, .slice none 0 0], .bool false]), (100, .agg #[vI 0, vI 0, vI 0, .slice none 0 0]), (101, .bool false)])) (by kernel_rfl) ?_
        refine rW (m := ⟨[15], [], []⟩) (v := vP 15 0) rfl (by kernel_rfl) (stNew (i := 15) (v1 := vP 16 0) (r := ⟨[vI 0, vI 0, vI 0, .slice none 0 0], 29, true, true⟩) (by kernel_rfl) rfl (by kernel_rfl) (by kernel_rfl) (by kernel_rfl) (by kernel_rfl) (nmX (by kernel_rfl)) (clX (by kernel_rfl))) (by kernel_rfl) (NRs.all ⟨nrOf (by rfl) (nmX (by kernel_rfl)), trivial⟩) ?_
        refine rW (m := ⟨[], [15], []⟩) (v := .tuple #[]) rfl (by kernel_rfl) (stSet (b := 15) (r := ⟨[vI 0, vI 0, vI 0, .slice none 0 0], 29, true, true⟩) (by kernel_rfl) rfl (by kernel_rfl) (by kernel_rfl) (by kernel_rfl) (by kernel_rfl) (nmX (by kernel_rfl)) (clX (by kernel_rfl))) (by kernel_rfl) (NRs.all ⟨nrOf (by rfl) (nmX (by kernel_rfl)), trivial⟩) ?_
        refine segEndW [6, 7, 10, 13, 15, 16] (T1 := (mkT 119 [(6, vP 5 0), (7, .bool false), (10, vP 10 0), (13, vI 1), (15, vP 15 0), (16, .bool false)])) (H1 := [some ⟨a3s L1, 25, false, false⟩, rB [vI x1, vI y1, vI z1, vS 0 L1.length] 24, rB [vI x2, vI y2, vI z2, .slice none 0 0] 24, some ⟨a3s L1, 25, false, true⟩, some ⟨[], 25, false, true⟩, rB [vI 0, vI 0, vI 0, .slice none 0 0] 29, some ⟨a3s (mk3 1 L1.length), 25, false, true⟩, rB [vI x1, vI y1, vI z1, vS 6 L1.length] 29, some ⟨a3s (mk3 (1 + 3 * L1.length) ([] : List A3).length), 25, false, true⟩, rB [vI x2, vI y2, vI z2, vS 8 0] 29, rB [vI 0, vI 0, vI 0, .slice none 0 0] 29, some ⟨a3s L1, 25, false, true⟩, some ⟨[], 25, false, true⟩, some ⟨a3s L1, 25, false, true⟩, some ⟨[], 25, false, true⟩, rB [vI 0, vI 0, vI 0, .slice none 0 0] 29]) (by kernel_rfl) ?_
        refine kSeq ?_
        refine cSeq ?_
        refine cSeq ?_
        refine cReg ?_
        refine segH 2 (T1 := (mkT 119 [(6, vP 5 0), (7, .bool false), (10, vP 10 0), (13, vI 1), (15, vP 15 0), (16, .bool false), (102, .agg #[vI 0, vI 0, vI 0, .slice none 0 0]), (103, .agg #[vI 0, vI 0, vI 0, .slice none 0 0])])) (by kernel_rfl) ?_
        refine rCall (v := .bool true) (args := [.agg #[vI 0, vI 0, vI 0, .slice none 0 0], .agg #[vI 0, vI 0, vI 0, .slice none 0 0]]) (by kernel_rfl) rfl (by kernel_rfl) (Sound.lay0 [] (eqHeapN) trivial rfl trivial rfl (by first | rfl | simp [mpV, mpA, mpS, mpP, renId, shift]) rfl) ?_
        refine segEndH [10, 13, 110] (T1 := (mkT 119 [(10, vP 10 0), (13, vI 1), (110, .bool false)])) (by kernel_rfl) ?_
        refine kSeq ?_
        refine cFalse (by kernel_rfl) ?_
        refine cSkip ?_
        refine kSeq ?_
        refine cSeq ?_
        refine cReg ?_
        refine segEndH [10, 13, 14] (T1 := (mkT 119 [(10, vP 10 0), (13, vI 1), (14, vI 1)])) (by kernel_rfl) ?_
        refine kSeq ?_
        refine cSeq ?_
        refine cReg ?_
        refine segH 2 (T1 := (mkT 119 [(10, vP 10 0), (13, vI 1), (14, vI 1), (111, .agg #[vI 0, vI 0, vI 0, .slice none 0 0]), (112, vI 1)])) (by kernel_rfl) ?_
        refine rCall (v := vI 1) (args := [.agg #[vI 0, vI 0, vI 0, .slice none 0 0], vI 1]) (by kernel_rfl) rfl (by kernel_rfl) (Sound.lay0 [] (heldHeapN) trivial rfl trivial rfl (by first | rfl | simp [mpV, mpA, mpS, mpP, renId, shift]) rfl) ?_
        refine segEndH [13, 14] (T1 := (mkT 119 [(13, vI 1), (14, vI 1)])) (by kernel_rfl) ?_
        refine kSeq ?_
        refine cSeq ?_
        refine cSeq ?_
        refine cReg ?_
        refine segEndH [13, 14, 115] (T1 := (mkT 119 [(13, vI 1), (14, vI 1), (115, .bool false)])) (by kernel_rfl) ?_
        refine kSeq ?_
        refine cFalse (by kernel_rfl) ?_
        refine cSkip ?_
        refine kSeq ?_
        refine cSeq ?_
        refine cSeq ?_
        refine cReg ?_
        refine segEndH [118] (T1 := (mkT 119 [(118, .bool false)])) (by kernel_rfl) ?_
        refine kSeq ?_
        refine cFalse (by kernel_rfl) ?_
        refine cSkip ?_
        refine kSeq ?_
        refine cSeq ?_
        refine cReg ?_
        refine segEndH [4] (T1 := (mkT 119 [(4, .bool true)])) (by kernel_rfl) ?_
        refine kSeq ?_
        refine cRet ?_
        -- end
        exact endQ (Or.inr rfl) (l := [.bool true]) [rB [vI x1, vI y1, vI z1, vS 0 L1.length] 24, rB [vI x2, vI y2, vI z2, .slice none 0 0] 24, some ⟨a3s L1, 25, false, true⟩, some ⟨[], 25, false, true⟩, rB [vI 0, vI 0, vI 0, .slice none 0 0] 29, some ⟨a3s (mk3 1 L1.length), 25, false, true⟩, rB [vI x1, vI y1, vI z1, vS 6 L1.length] 29, some ⟨a3s (mk3 (1 + 3 * L1.length) ([] : List A3).length), 25, false, true⟩, rB [vI x2, vI y2, vI z2, vS 8 0] 29, rB [vI 0, vI 0, vI 0, .slice none 0 0] 29, some ⟨a3s L1, 25, false, true⟩, some ⟨[], 25, false, true⟩, some ⟨a3s L1, 25, false, true⟩, some ⟨[], 25, false, true⟩, rB [vI 0, vI 0, vI 0, .slice none 0 0] 29] (by kernel_rfl) (by first | rfl | kernel_rfl) rfl rfl hcl rfl
      ·
        (try simp only [Bool.not_eq_true', Bool.not_eq_false', decide_eq_true_eq, decide_eq_false_iff_not, beq_iff_eq, bne_iff_ne, beq_eq_false_iff_ne, bne_eq_false_iff_eq, ne_eq, Decidable.not_not, Bool.and_eq_true, Bool.and_eq_false_imp, Bool.or_eq_true, Bool.or_eq_false_iff, Bool.not_eq_true, Int.not_lt, Int.not_le, ge_iff_le, gt_iff_lt] at h3)
        exfalso; omega
    ·
      (try simp only [Bool.not_eq_true', Bool.not_eq_false', decide_eq_true_eq, decide_eq_false_iff_not, beq_iff_eq, bne_iff_ne, beq_eq_false_iff_ne, bne_eq_false_iff_eq, ne_eq, Decidable.not_not, Bool.and_eq_true, Bool.and_eq_false_imp, Bool.or_eq_true, Bool.or_eq_false_iff, Bool.not_eq_true, Int.not_lt, Int.not_le, ge_iff_le, gt_iff_lt] at h2)
      exfalso; omega
  ·
    (try simp only [Bool.not_eq_true', Bool.not_eq_false', decide_eq_true_eq, decide_eq_false_iff_not, beq_iff_eq, bne_iff_ne, beq_eq_false_iff_ne, bne_eq_false_iff_eq, ne_eq, Decidable.not_not, Bool.and_eq_true, Bool.and_eq_false_imp, Bool.or_eq_true, Bool.or_eq_false_iff, Bool.not_eq_true, Int.not_lt, Int.not_le, ge_iff_le, gt_iff_lt] at h1)
    exfalso; omega

set_option maxRecDepth 100000 in
set_option maxHeartbeats 4000000 in
theorem lawJoinHeaps_no_ns (x1 : Int) (y1 : Int) (z1 : Int) (x2 : Int) (y2 : Int) (z2 : Int) (L2 : List A3) (hl12 : ([] : List A3).length + L2.length ≤ 1048576) (hv : alikeB x1 y1 z1 ([] : List A3) x2 y2 z2 L2 = false) : Sound Try.prog 8 [.agg #[vI x1, vI y1, vI z1, .slice none 0 0], .agg #[vI x2, vI y2, vI z2, vS 0 L2.length]] [some ⟨a3s L2, 25, false, false⟩] (.bool true) [some ⟨a3s L2, 25, false, false⟩] := by
  refine sound_intro (C := cx) Try.func8 rfl (by kernel_rfl) fun hcl => ?_
  skip
  have hl1 : ([] : List A3).length ≤ 1048576 := by first | omega | (simp at hl12; omega) | (simp; done)
  have hl2 : L2.length ≤ 1048576 := by first | omega | (simp at hl12; omega) | (simp; done)
  refine cSeq ?_
  refine cReg ?_
  refine segEnd [2, 3] (T1 := (mkT 119 [(2, vP 1 0), (3, vP 2 0)])) (H1 := [some ⟨a3s L2, 25, false, false⟩, rB [vI x1, vI y1, vI z1, .slice none 0 0] 24, rB [vI x2, vI y2, vI z2, vS 0 L2.length] 24]) (by kernel_rfl) ?_
  refine kSeq ?_
  refine cSeq ?_
  refine cReg ?_
  refine segEndH [2, 3, 5] (T1 := (mkT 119 [(2, vP 1 0), (3, vP 2 0), (5, vI 1048576)])) (by kernel_rfl) ?_
  refine kSeq ?_
  refine cSeq ?_
  refine cReg ?_
  refine segH 2 (T1 := (mkT 119 [(2, vP 1 0), (3, vP 2 0), (5, vI 1048576), (17, .agg #[vI x1, vI y1, vI z1, .slice none 0 0]), (18, vI 1048576)])) (by kernel_rfl) ?_
  refine rCall (v := vI 1048576) (args := [.agg #[vI x1, vI y1, vI z1, .slice none 0 0], vI 1048576]) (by kernel_rfl) rfl (by kernel_rfl) (Sound.lay0 [] (szHeapN x1 y1 z1 1048576 (by first | omega | assumption | decide)) trivial rfl trivial rfl (by first | rfl | simp [mpV, mpA, mpS, mpP, renId, shift]) rfl) ?_
  refine segEndH [2, 3, 5] (T1 := (mkT 119 [(2, vP 1 0), (3, vP 2 0), (5, vI 1048576)])) (by kernel_rfl) ?_
  refine kSeq ?_
  refine cSeq ?_
  refine cSeq ?_
  refine cReg ?_
  refine segEndH [2, 3, 5, 21] (T1 := (mkT 119 [(2, vP 1 0), (3, vP 2 0), (5, vI 1048576), (21, .bool false)])) (by kernel_rfl) ?_
  refine kSeq ?_
  refine cFalse (by kernel_rfl) ?_
  refine cSkip ?_
  refine kSeq ?_
  refine cSeq ?_
  refine cReg ?_
  refine segH 2 (T1 := (mkT 119 [(2, vP 1 0), (3, vP 2 0), (5, vI 1048576), (21, .bool false), (22, .agg #[vI x2, vI y2, vI z2, vS 0 L2.length]), (23, vI 1048576)])) (by kernel_rfl) ?_
  refine rCall (v := vN (1048576 - L2.length)) (args := [.agg #[vI x2, vI y2, vI z2, vS 0 L2.length], vI 1048576]) (by kernel_rfl) rfl (by kernel_rfl) (Sound.lay0 [0] (szHeapS x2 y2 z2 L2 1048576 (by first | omega | assumption | (simp; done)) (by first | omega | assumption | decide)) ⟨rdF false (flatA3 _ _ _ _) rfl rfl, trivial⟩ rfl ⟨clF (flatA3 _ _ _ _), trivial⟩ rfl (by first | rfl | simp [mpV, mpA, mpS, mpP, renId, shift]) rfl) ?_
  refine segEndH [2, 3, 5] (T1 := (mkT 119 [(2, vP 1 0), (3, vP 2 0), (5, vN (1048576 - L2.length))])) (by kernel_rfl) ?_
  refine kSeq ?_
  refine cSeq ?_
  refine cSeq ?_
  refine cReg ?_
  refine segEndH [2, 3, 26] (T1 := (mkT 119 [(2, vP 1 0), (3, vP 2 0), (26, .bool (decide (((1048576 - L2.length : Nat) : Int) < 0)))])) (by kernel_rfl) ?_
  refine kSeq ?_
  cases h1 : (decide (((1048576 - L2.length : Nat) : Int) < 0) : Bool)
  ·
    (try simp only [Bool.not_eq_true', Bool.not_eq_false', decide_eq_true_eq, decide_eq_false_iff_not, beq_iff_eq, bne_iff_ne, beq_eq_false_iff_ne, bne_eq_false_iff_eq, ne_eq, Decidable.not_not, Bool.and_eq_true, Bool.and_eq_false_imp, Bool.or_eq_true, Bool.or_eq_false_iff, Bool.not_eq_true, Int.not_lt, Int.not_le, ge_iff_le, gt_iff_lt] at h1)
    refine cFalse (by kernel_rfl) ?_
    refine cSkip ?_
    refine kSeq ?_
    refine cSeq ?_
    refine cRegW (N := 6) [⟨[], [], [1]⟩, ⟨[3], [], []⟩, ⟨[], [], [2]⟩, ⟨[4], [], [0]⟩, ⟨[], [], [3, 4]⟩, ⟨[], [], []⟩, ⟨[], [], []⟩, ⟨[], [], []⟩, ⟨[5], [], []⟩, ⟨[], [5], []⟩, ⟨[], [], []⟩] 3 [3, 4, 5] (by rfl) (by rfl) (by kernel_rfl) (by kernel_rfl) (by kernel_rfl) ⟨nmsF (flatA3 _ _ _ _), ⟨nmsX (by kernel_rfl), ⟨nmsX (by kernel_rfl), trivial⟩⟩⟩ ?_
    refine segWH 1 (T1 := (mkT 119 [(2, vP 1 0), (3, vP 2 0), (26, .bool false), (28, .agg #[vI x1, vI y1, vI z1, .slice none 0 0])])) (by kernel_rfl) ?_
    refine rW (m := ⟨[3], [], []⟩) (v := .agg #[vI x1, vI y1, vI z1, vS 3 0]) rfl (by kernel_rfl) (stN (i := 3) (E := [some ⟨[], 25, false, true⟩]) (v1 := .agg #[vI x1, vI y1, vI z1, vS 6 0]) (args := [.agg #[vI x1, vI y1, vI z1, .slice none 0 0]]) rfl (by kernel_rfl) (Any.lay [] (toHeapN x1 y1 z1) trivial rfl trivial rfl (by first | rfl | simp [mpV, mpA, mpS, mpP, renId, shift]) (by first | rfl | simp [mpV, mpA, mpS, mpP, renId, shift]) ⟨enX rfl (Or.inl rfl), trivial⟩) rfl (by kernel_rfl) (by kernel_rfl) (by kernel_rfl) (by kernel_rfl) (FlatH.cons (flatRow_of rfl) FlatH.nil)) (by kernel_rfl) (NRs.all ⟨nrOf (by rfl) (nmX (by kernel_rfl)), trivial⟩) ?_
    refine segWH 1 (T1 := (mkT 119 [(2, vP 1 0), (3, vP 2 0), (26, .bool false), (28, .agg #[vI x1, vI y1, vI z1, .slice none 0 0]), (29, .agg #[vI x1, vI y1, vI z1, vS 3 0]), (30, .agg #[vI x2, vI y2, vI z2, vS 0 L2.length])])) (by kernel_rfl) ?_
    refine rW (m := ⟨[4], [], [0]⟩) (v := .agg #[vI x2, vI y2, vI z2, vS 4 L2.length]) rfl (by kernel_rfl) (stN (i := 4) (E := [some ⟨a3s L2, 25, false, true⟩]) (v1 := .agg #[vI x2, vI y2, vI z2, vS 6 L2.length]) (args := [.agg #[vI x2, vI y2, vI z2, vS 0 L2.length]]) rfl (by kernel_rfl) (Any.lay [0] (toHeapB x2 y2 z2 L2 (by first | omega | assumption | (simp; done))) ⟨rdF false (flatA3 _ _ _ _) rfl rfl, trivial⟩ rfl ⟨clF (flatA3 _ _ _ _), trivial⟩ rfl (by first | rfl | simp [mpV, mpA, mpS, mpP, renId, shift]) (by first | rfl | simp [mpV, mpA, mpS, mpP, renId, shift]) ⟨enF (flatA3 _ _ _ _) (Or.inl rfl), trivial⟩) rfl (by kernel_rfl) (by kernel_rfl) (by kernel_rfl) (by kernel_rfl) (FlatH.cons (flatA3 _ _ _ _) FlatH.nil)) (by kernel_rfl) (NRs.all ⟨nrOf (by rfl) (nmF (flatA3 _ _ _ _)), trivial⟩) ?_
    refine rW (m := ⟨[], [], [3, 4]⟩) (v := .tuple #[.agg #[vI 0, vI 0, vI 0, .slice none 0 0], .bool false]) rfl (by kernel_rfl) (stQ (args := [.agg #[vI x1, vI y1, vI z1, vS 3 0], .agg #[vI x2, vI y2, vI z2, vS 4 L2.length]]) rfl (by kernel_rfl) (Any.lay0 [3, 4] (specJoinHeaps_no x1 y1 z1 ([] : List A3) x2 y2 z2 L2 (by first | assumption | omega | rfl | decide | exact HeapL.list _ _ _ _ | exact HeapL.nil _ _ _ | exact HeapL.all _ _ _ | (apply HeapL.lt64 <;> assumption) | (repeat' (first | assumption | apply or_lt64 | apply and_lt64 | apply andn_lt64 | apply pow_lt64 | (apply HeapL.lt64 <;> assumption)))) (by first | assumption | omega | rfl | decide | exact HeapL.list _ _ _ _ | exact HeapL.nil _ _ _ | exact HeapL.all _ _ _ | (apply HeapL.lt64 <;> assumption) | (repeat' (first | assumption | apply or_lt64 | apply and_lt64 | apply andn_lt64 | apply pow_lt64 | (apply HeapL.lt64 <;> assumption)))) (by first | assumption | omega | rfl | decide | exact HeapL.list _ _ _ _ | exact HeapL.nil _ _ _ | exact HeapL.all _ _ _ | (apply HeapL.lt64 <;> assumption) | (repeat' (first | assumption | apply or_lt64 | apply and_lt64 | apply andn_lt64 | apply pow_lt64 | (apply HeapL.lt64 <;> assumption))))) ⟨rdF true (flatA3 _ _ _ _) rfl rfl, ⟨rdF true (flatA3 _ _ _ _) rfl rfl, trivial⟩⟩ rfl ⟨clF (flatA3 _ _ _ _), ⟨clF (flatA3 _ _ _ _), trivial⟩⟩ rfl (by first | rfl | simp [mpV, mpA, mpS, mpP, renId, shift]) (by first | rfl | simp [mpV, mpA, mpS, mpP, renId, shift])) rfl (by kernel_rfl) (by kernel_rfl)) (by kernel_rfl) nr0 ?_
    refine segWH 3 (T1 := (mkT 119 [(2, vP 1 0), (3, vP 2 0), (26, .bool false), (27, .tuple #[.agg #[vI 0, vI 0, vI 0, .slice none 0 0], .bool false]), (28, .agg #[vI x1, vI y1, vI z1, .slice none 0 0]), (29, .agg #[vI x1, vI y1, vI z1, vS 3 0]), (30, .agg #[vI x2, vI y2, vI z2, vS 0 L2.length]), (31, .agg #[vI x2, vI y2, vI z2, vS 4 L2.length]), (32, .tuple #[.agg #[vI 0, vI 0, vI 0, .slice none 0 0], .bool false]), (33, .agg #[vI 0, vI 0, vI 0, .slice none 0 0]), (34, .bool false)])) (by kernel_rfl) ?_
    refine rW (m := ⟨[5], [], []⟩) (v := vP 5 0) rfl (by kernel_rfl) (stNew (i := 5) (v1 := vP 6 0) (r := ⟨[vI 0, vI 0, vI 0, .slice none 0 0], 29, true, true⟩) (by kernel_rfl) rfl (by kernel_rfl) (by kernel_rfl) (by kernel_rfl) (by kernel_rfl) (nmX (by kernel_rfl)) (clX (by kernel_rfl))) (by kernel_rfl) (NRs.all ⟨nrOf (by rfl) (nmX (by kernel_rfl)), trivial⟩) ?_
    refine rW (m := ⟨[], [5], []⟩) (v := .tuple #[]) rfl (by kernel_rfl) (stSet (b := 5) (r := ⟨[vI 0, vI 0, vI 0, .slice none 0 0], 29, true, true⟩) (by kernel_rfl) rfl (by kernel_rfl) (by kernel_rfl) (by kernel_rfl) (by kernel_rfl) (nmX (by kernel_rfl)) (clX (by kernel_rfl))) (by kernel_rfl) (NRs.all ⟨nrOf (by rfl) (nmX (by kernel_rfl)), trivial⟩) ?_
    refine segEndW [2, 3, 6, 7] (T1 := (mkT 119 [(2, vP 1 0), (3, vP 2 0), (6, vP 5 0), (7, .bool false)])) (H1 := [some ⟨a3s L2, 25, false, false⟩, rB [vI x1, vI y1, vI z1, .slice none 0 0] 24, rB [vI x2, vI y2, vI z2, vS 0 L2.length] 24, some ⟨[], 25, false, true⟩, some ⟨a3s L2, 25, false, true⟩, rB [vI 0, vI 0, vI 0, .slice none 0 0] 29]) (by kernel_rfl) ?_
    refine kSeq ?_
    refine cSeq ?_
    refine cReg ?_
    refine segH 1 (T1 := (mkT 119 [(2, vP 1 0), (3, vP 2 0), (6, vP 5 0), (7, .bool false), (35, .agg #[vI x1, vI y1, vI z1, .slice none 0 0])])) (by kernel_rfl) ?_
    refine rCall (v := .agg #[vI x1, vI y1, vI z1, vS 6 0]) (args := [.agg #[vI x1, vI y1, vI z1, .slice none 0 0]]) (by kernel_rfl) rfl (by kernel_rfl) (Sound.lay (E := [some ⟨[], 25, false, true⟩]) [] (toHeapN x1 y1 z1) trivial rfl trivial rfl (by first | rfl | simp [mpV, mpA, mpS, mpP, renId, shift]) (by first | rfl | simp [mpV, mpA, mpS, mpP, renId, shift]) ⟨enX rfl (Or.inl rfl), trivial⟩) ?_
    refine segEnd [2, 3, 6, 7, 8] (T1 := (mkT 119 [(2, vP 1 0), (3, vP 2 0), (6, vP 5 0), (7, .bool false), (8, vP 7 0)])) (H1 := [some ⟨a3s L2, 25, false, false⟩, rB [vI x1, vI y1, vI z1, .slice none 0 0] 24, rB [vI x2, vI y2, vI z2, vS 0 L2.length] 24, some ⟨[], 25, false, true⟩, some ⟨a3s L2, 25, false, true⟩, rB [vI 0, vI 0, vI 0, .slice none 0 0] 29, some ⟨[], 25, false, true⟩, rB [vI x1, vI y1, vI z1, vS 6 0] 29]) (by kernel_rfl) ?_
    refine kSeq ?_
    refine cSeq ?_
    refine cReg ?_
    refine segH 1 (T1 := (mkT 119 [(2, vP 1 0), (3, vP 2 0), (6, vP 5 0), (7, .bool false), (8, vP 7 0), (37, .agg #[vI x2, vI y2, vI z2, vS 0 L2.length])])) (by kernel_rfl) ?_
    refine rCall (v := .agg #[vI x2, vI y2, vI z2, vS 8 L2.length]) (args := [.agg #[vI x2, vI y2, vI z2, vS 0 L2.length]]) (by kernel_rfl) rfl (by kernel_rfl) (Sound.lay (E := [some ⟨a3s L2, 25, false, true⟩]) [0] (toHeapB x2 y2 z2 L2 (by first | omega | assumption | (simp; done))) ⟨rdF false (flatA3 _ _ _ _) rfl rfl, trivial⟩ rfl ⟨clF (flatA3 _ _ _ _), trivial⟩ rfl (by first | rfl | simp [mpV, mpA, mpS, mpP, renId, shift]) (by first | rfl | simp [mpV, mpA, mpS, mpP, renId, shift]) ⟨enF (flatA3 _ _ _ _) (Or.inl rfl), trivial⟩) ?_
    refine segEnd [2, 3, 6, 7, 8, 9] (T1 := (mkT 119 [(2, vP 1 0), (3, vP 2 0), (6, vP 5 0), (7, .bool false), (8, vP 7 0), (9, vP 9 0)])) (H1 := [some ⟨a3s L2, 25, false, false⟩, rB [vI x1, vI y1, vI z1, .slice none 0 0] 24, rB [vI x2, vI y2, vI z2, vS 0 L2.length] 24, some ⟨[], 25, false, true⟩, some ⟨a3s L2, 25, false, true⟩, rB [vI 0, vI 0, vI 0, .slice none 0 0] 29, some ⟨[], 25, false, true⟩, rB [vI x1, vI y1, vI z1, vS 6 0] 29, some ⟨a3s L2, 25, false, true⟩, rB [vI x2, vI y2, vI z2, vS 8 L2.length] 29]) (by kernel_rfl) ?_
    refine kSeq ?_
    refine cSeq ?_
    refine cReg ?_
    refine segH 2 (T1 := (mkT 119 [(2, vP 1 0), (3, vP 2 0), (6, vP 5 0), (7, .bool false), (8, vP 7 0), (9, vP 9 0), (40, .agg #[vI x1, vI y1, vI z1, vS 6 0]), (41, .agg #[vI x2, vI y2, vI z2, vS 8 L2.length])])) (by kernel_rfl) ?_
    refine rCall (v := .tuple #[.agg #[vI 0, vI 0, vI 0, .slice none 0 0], .bool false]) (args := [.agg #[vI x1, vI y1, vI z1, vS 6 0], .agg #[vI x2, vI y2, vI z2, vS 8 L2.length]]) (by kernel_rfl) rfl (by kernel_rfl) (Sound.lay0 [6, 8] (implJoinHeaps_no x1 y1 z1 ([] : List A3) x2 y2 z2 L2 (by first | assumption | omega | rfl | decide | exact HeapL.list _ _ _ _ | exact HeapL.nil _ _ _ | exact HeapL.all _ _ _ | (apply HeapL.lt64 <;> assumption) | (repeat' (first | assumption | apply or_lt64 | apply and_lt64 | apply andn_lt64 | apply pow_lt64 | (apply HeapL.lt64 <;> assumption)))) (by first | assumption | omega | rfl | decide | exact HeapL.list _ _ _ _ | exact HeapL.nil _ _ _ | exact HeapL.all _ _ _ | (apply HeapL.lt64 <;> assumption) | (repeat' (first | assumption | apply or_lt64 | apply and_lt64 | apply andn_lt64 | apply pow_lt64 | (apply HeapL.lt64 <;> assumption)))) (by first | assumption | omega | rfl | decide | exact HeapL.list _ _ _ _ | exact HeapL.nil _ _ _ | exact HeapL.all _ _ _ | (apply HeapL.lt64 <;> assumption) | (repeat' (first | assumption | apply or_lt64 | apply and_lt64 | apply andn_lt64 | apply pow_lt64 | (apply HeapL.lt64 <;> assumption))))) ⟨rdF true (flatA3 _ _ _ _) rfl rfl, ⟨rdF true (flatA3 _ _ _ _) rfl rfl, trivial⟩⟩ rfl ⟨clF (flatA3 _ _ _ _), ⟨clF (flatA3 _ _ _ _), trivial⟩⟩ rfl (by first | rfl | simp [mpV, mpA, mpS, mpP, renId, shift]) (by first | rfl | simp [mpV, mpA, mpS, mpP, renId, shift])) ?_
    refine segEnd [2, 3, 6, 7, 8, 9, 10, 11] (T1 := (mkT 119 [(2, vP 1 0), (3, vP 2 0), (6, vP 5 0), (7, .bool false), (8, vP 7 0), (9, vP 9 0), (10, vP 10 0), (11, .bool false)])) (H1 := [some ⟨a3s L2, 25, false, false⟩, rB [vI x1, vI y1, vI z1, .slice none 0 0] 24, rB [vI x2, vI y2, vI z2, vS 0 L2.length] 24, some ⟨[], 25, false, true⟩, some ⟨a3s L2, 25, false, true⟩, rB [vI 0, vI 0, vI 0, .slice none 0 0] 29, some ⟨[], 25, false, true⟩, rB [vI x1, vI y1, vI z1, vS 6 0] 29, some ⟨a3s L2, 25, false, true⟩, rB [vI x2, vI y2, vI z2, vS 8 L2.length] 29, rB [vI 0, vI 0, vI 0, .slice none 0 0] 29]) (by kernel_rfl) ?_
    refine kSeq ?_
    refine cSeq ?_
    refine cSeq ?_
    refine cReg ?_
    refine segH 2 (T1 := (mkT 119 [(2, vP 1 0), (3, vP 2 0), (6, vP 5 0), (7, .bool false), (8, vP 7 0), (9, vP 9 0), (10, vP 10 0), (11, .bool false), (45, .agg #[vI 0, vI 0, vI 0, .slice none 0 0]), (46, .agg #[vI 0, vI 0, vI 0, .slice none 0 0])])) (by kernel_rfl) ?_
    refine rCall (v := .bool true) (args := [.agg #[vI 0, vI 0, vI 0, .slice none 0 0], .agg #[vI 0, vI 0, vI 0, .slice none 0 0]]) (by kernel_rfl) rfl (by kernel_rfl) (Sound.lay0 [] (eqHeapN) trivial rfl trivial rfl (by first | rfl | simp [mpV, mpA, mpS, mpP, renId, shift]) rfl) ?_
    refine segEndH [2, 3, 6, 7, 8, 9, 10, 11, 53] (T1 := (mkT 119 [(2, vP 1 0), (3, vP 2 0), (6, vP 5 0), (7, .bool false), (8, vP 7 0), (9, vP 9 0), (10, vP 10 0), (11, .bool false), (53, .bool false)])) (by kernel_rfl) ?_
    refine kSeq ?_
    refine cFalse (by kernel_rfl) ?_
    refine cSkip ?_
    refine kSeq ?_
    refine cSeq ?_
    refine cSeq ?_
    refine cRegW (N := 12) [⟨[], [], [7]⟩, ⟨[], [], [1]⟩, ⟨[11], [], []⟩, ⟨[], [], [6, 11]⟩, ⟨[], [], []⟩] 1 [11] (by rfl) (by rfl) (by kernel_rfl) (by kernel_rfl) (by kernel_rfl) ⟨nmsF (flatA3 _ _ _ _), ⟨nmsX (by kernel_rfl), ⟨nmsX (by kernel_rfl), ⟨nmsX (by kernel_rfl), ⟨nmsF (flatA3 _ _ _ _), ⟨nmsX (by kernel_rfl), ⟨nmsX (by kernel_rfl), ⟨nmsX (by kernel_rfl), ⟨nmsF (flatA3 _ _ _ _), ⟨nmsX (by kernel_rfl), ⟨nmsX (by kernel_rfl), trivial⟩⟩⟩⟩⟩⟩⟩⟩⟩⟩⟩ ?_
    refine segWH 2 (T1 := (mkT 119 [(2, vP 1 0), (3, vP 2 0), (6, vP 5 0), (7, .bool false), (8, vP 7 0), (9, vP 9 0), (10, vP 10 0), (11, .bool false), (53, .bool false), (54, .agg #[vI x1, vI y1, vI z1, vS 6 0]), (55, .agg #[vI x1, vI y1, vI z1, .slice none 0 0])])) (by kernel_rfl) ?_
    refine rW (m := ⟨[11], [], []⟩) (v := .agg #[vI x1, vI y1, vI z1, vS 11 0]) rfl (by kernel_rfl) (stN (i := 11) (E := [some ⟨[], 25, false, true⟩]) (v1 := .agg #[vI x1, vI y1, vI z1, vS 12 0]) (args := [.agg #[vI x1, vI y1, vI z1, .slice none 0 0]]) rfl (by kernel_rfl) (Any.lay [] (toHeapN x1 y1 z1) trivial rfl trivial rfl (by first | rfl | simp [mpV, mpA, mpS, mpP, renId, shift]) (by first | rfl | simp [mpV, mpA, mpS, mpP, renId, shift]) ⟨enX rfl (Or.inl rfl), trivial⟩) rfl (by kernel_rfl) (by kernel_rfl) (by kernel_rfl) (by kernel_rfl) (FlatH.cons (flatRow_of rfl) FlatH.nil)) (by kernel_rfl) (NRs.all ⟨nrOf (by rfl) (nmX (by kernel_rfl)), trivial⟩) ?_
    refine rW (m := ⟨[], [], [6, 11]⟩) (v := .bool true) rfl (by kernel_rfl) (stQ (args := [.agg #[vI x1, vI y1, vI z1, vS 6 0], .agg #[vI x1, vI y1, vI z1, vS 11 0]]) rfl (by kernel_rfl) (Any.lay0 [6, 11] (eqHeapB x1 y1 z1 ([] : List A3) (by first | omega | assumption | (simp; done))) ⟨rdF true (flatA3 _ _ _ _) rfl rfl, ⟨rdF true (flatA3 _ _ _ _) rfl rfl, trivial⟩⟩ rfl ⟨clF (flatA3 _ _ _ _), ⟨clF (flatA3 _ _ _ _), trivial⟩⟩ rfl (by first | rfl | simp [mpV, mpA, mpS, mpP, renId, shift]) rfl) rfl (by kernel_rfl) (by kernel_rfl)) (by kernel_rfl) nr0 ?_
    refine segEndW [2, 3, 6, 7, 8, 9, 10, 11, 58] (T1 := (mkT 119 [(2, vP 1 0), (3, vP 2 0), (6, vP 5 0), (7, .bool false), (8, vP 7 0), (9, vP 9 0), (10, vP 10 0), (11, .bool false), (58, .bool false)])) (H1 := [some ⟨a3s L2, 25, false, false⟩, rB [vI x1, vI y1, vI z1, .slice none 0 0] 24, rB [vI x2, vI y2, vI z2, vS 0 L2.length] 24, some ⟨[], 25, false, true⟩, some ⟨a3s L2, 25, false, true⟩, rB [vI 0, vI 0, vI 0, .slice none 0 0] 29, some ⟨[], 25, false, true⟩, rB [vI x1, vI y1, vI z1, vS 6 0] 29, some ⟨a3s L2, 25, false, true⟩, rB [vI x2, vI y2, vI z2, vS 8 L2.length] 29, rB [vI 0, vI 0, vI 0, .slice none 0 0] 29, some ⟨[], 25, false, true⟩]) (by kernel_rfl) ?_
    refine kSeq ?_
    refine cFalse (by kernel_rfl) ?_
    refine cSkip ?_
    refine kSeq ?_
    refine cSeq ?_
    refine cSeq ?_
    refine cRegW (N := 13) [⟨[], [], [9]⟩, ⟨[], [], [2]⟩, ⟨[12], [], [0]⟩, ⟨[], [], [8, 12]⟩, ⟨[], [], []⟩] 1 [12] (by rfl) (by rfl) (by kernel_rfl) (by kernel_rfl) (by kernel_rfl) ⟨nmsF (flatA3 _ _ _ _), ⟨nmsX (by kernel_rfl), ⟨nmsX (by kernel_rfl), ⟨nmsX (by kernel_rfl), ⟨nmsF (flatA3 _ _ _ _), ⟨nmsX (by kernel_rfl), ⟨nmsX (by kernel_rfl), ⟨nmsX (by kernel_rfl), ⟨nmsF (flatA3 _ _ _ _), ⟨nmsX (by kernel_rfl), ⟨nmsX (by kernel_rfl), ⟨nmsX (by kernel_rfl), trivial⟩⟩⟩⟩⟩⟩⟩⟩⟩⟩⟩⟩ ?_
    refine segWH 2 (T1 := (mkT 119 [(2, vP 1 0), (3, vP 2 0), (6, vP 5 0), (7, .bool false), (8, vP 7 0), (9, vP 9 0), (10, vP 10 0), (11, .bool false), (58, .bool false), (59, .agg #[vI x2, vI y2, vI z2, vS 8 L2.length]), (60, .agg #[vI x2, vI y2, vI z2, vS 0 L2.length])])) (by kernel_rfl) ?_
    refine rW (m := ⟨[12], [], [0]⟩) (v := .agg #[vI x2, vI y2, vI z2, vS 12 L2.length]) rfl (by kernel_rfl) (stN (i := 12) (E := [some ⟨a3s L2, 25, false, true⟩]) (v1 := .agg #[vI x2, vI y2, vI z2, vS 13 L2.length]) (args := [.agg #[vI x2, vI y2, vI z2, vS 0 L2.length]]) rfl (by kernel_rfl) (Any.lay [0] (toHeapB x2 y2 z2 L2 (by first | omega | assumption | (simp; done))) ⟨rdF false (flatA3 _ _ _ _) rfl rfl, trivial⟩ rfl ⟨clF (flatA3 _ _ _ _), trivial⟩ rfl (by first | rfl | simp [mpV, mpA, mpS, mpP, renId, shift]) (by first | rfl | simp [mpV, mpA, mpS, mpP, renId, shift]) ⟨enF (flatA3 _ _ _ _) (Or.inl rfl), trivial⟩) rfl (by kernel_rfl) (by kernel_rfl) (by kernel_rfl) (by kernel_rfl) (FlatH.cons (flatA3 _ _ _ _) FlatH.nil)) (by kernel_rfl) (NRs.all ⟨nrOf (by rfl) (nmF (flatA3 _ _ _ _)), trivial⟩) ?_
    refine rW (m := ⟨[], [], [8, 12]⟩) (v := .bool true) rfl (by kernel_rfl) (stQ (args := [.agg #[vI x2, vI y2, vI z2, vS 8 L2.length], .agg #[vI x2, vI y2, vI z2, vS 12 L2.length]]) rfl (by kernel_rfl) (Any.lay0 [8, 12] (eqHeapB x2 y2 z2 L2 (by first | omega | assumption | (simp; done))) ⟨rdF true (flatA3 _ _ _ _) rfl rfl, ⟨rdF true (flatA3 _ _ _ _) rfl rfl, trivial⟩⟩ rfl ⟨clF (flatA3 _ _ _ _), ⟨clF (flatA3 _ _ _ _), trivial⟩⟩ rfl (by first | rfl | simp [mpV, mpA, mpS, mpP, renId, shift]) rfl) rfl (by kernel_rfl) (by kernel_rfl)) (by kernel_rfl) nr0 ?_
    refine segEndW [2, 3, 6, 7, 8, 9, 10, 11, 63] (T1 := (mkT 119 [(2, vP 1 0), (3, vP 2 0), (6, vP 5 0), (7, .bool false), (8, vP 7 0), (9, vP 9 0), (10, vP 10 0), (11, .bool false), (63, .bool false)])) (H1 := [some ⟨a3s L2, 25, false, false⟩, rB [vI x1, vI y1, vI z1, .slice none 0 0] 24, rB [vI x2, vI y2, vI z2, vS 0 L2.length] 24, some ⟨[], 25, false, true⟩, some ⟨a3s L2, 25, false, true⟩, rB [vI 0, vI 0, vI 0, .slice none 0 0] 29, some ⟨[], 25, false, true⟩, rB [vI x1, vI y1, vI z1, vS 6 0] 29, some ⟨a3s L2, 25, false, true⟩, rB [vI x2, vI y2, vI z2, vS 8 L2.length] 29, rB [vI 0, vI 0, vI 0, .slice none 0 0] 29, some ⟨[], 25, false, true⟩, some ⟨a3s L2, 25, false, true⟩]) (by kernel_rfl) ?_
    refine kSeq ?_
    refine cFalse (by kernel_rfl) ?_
    refine cSkip ?_
    refine kSeq ?_
    refine cSeq ?_
    refine cReg ?_
    refine segEndH [2, 3, 6, 7, 8, 9, 10, 11, 12] (T1 := (mkT 119 [(2, vP 1 0), (3, vP 2 0), (6, vP 5 0), (7, .bool false), (8, vP 7 0), (9, vP 9 0), (10, vP 10 0), (11, .bool false), (12, vI 1)])) (by kernel_rfl) ?_
    refine kSeq ?_
    refine cSeq ?_
    refine cReg ?_
    refine segH 2 (T1 := (mkT 119 [(2, vP 1 0), (3, vP 2 0), (6, vP 5 0), (7, .bool false), (8, vP 7 0), (9, vP 9 0), (10, vP 10 0), (11, .bool false), (12, vI 1), (64, .agg #[vI x1, vI y1, vI z1, vS 6 0]), (65, vI 1)])) (by kernel_rfl) ?_
    refine rCall (v := vN (1 + 3 * ([] : List A3).length)) (args := [.agg #[vI x1, vI y1, vI z1, vS 6 0], vI 1]) (by kernel_rfl) rfl (by kernel_rfl) (Sound.emb_set (r := ⟨a3s ([] : List A3), 25, false, true⟩) (r' := ⟨a3s (mk3 1 ([] : List A3).length), 25, false, true⟩) 6 (markHeapB x1 y1 z1 ([] : List A3) 1 (by first | omega | assumption | (simp; done)) (by first | assumption | omega | rfl | decide | exact HeapL.list _ _ _ _ | exact HeapL.nil _ _ _ | exact HeapL.all _ _ _ | (apply HeapL.lt64 <;> assumption) | (repeat' (first | assumption | apply or_lt64 | apply and_lt64 | apply andn_lt64 | apply pow_lt64 | (apply HeapL.lt64 <;> assumption))))) (flatA3 _ _ _ _) rfl (flatA3 _ _ _ _) rfl rfl rfl (by first | rfl | simp [mpV, mpA, mpS, mpP, renId, shift]) rfl) ?_
    refine segEnd [2, 3, 6, 7, 9, 10, 11, 12] (T1 := (mkT 119 [(2, vP 1 0), (3, vP 2 0), (6, vP 5 0), (7, .bool false), (9, vP 9 0), (10, vP 10 0), (11, .bool false), (12, vN (1 + 3 * ([] : List A3).length))])) (H1 := [some ⟨a3s L2, 25, false, false⟩, rB [vI x1, vI y1, vI z1, .slice none 0 0] 24, rB [vI x2, vI y2, vI z2, vS 0 L2.length] 24, some ⟨[], 25, false, true⟩, some ⟨a3s L2, 25, false, true⟩, rB [vI 0, vI 0, vI 0, .slice none 0 0] 29, some ⟨a3s (mk3 1 ([] : List A3).length), 25, false, true⟩, rB [vI x1, vI y1, vI z1, vS 6 0] 29, some ⟨a3s L2, 25, false, true⟩, rB [vI x2, vI y2, vI z2, vS 8 L2.length] 29, rB [vI 0, vI 0, vI 0, .slice none 0 0] 29, some ⟨[], 25, false, true⟩, some ⟨a3s L2, 25, false, true⟩]) (by kernel_rfl) ?_
    refine kSeq ?_
    refine cSeq ?_
    refine cReg ?_
    refine segH 2 (T1 := (mkT 119 [(2, vP 1 0), (3, vP 2 0), (6, vP 5 0), (7, .bool false), (9, vP 9 0), (10, vP 10 0), (11, .bool false), (12, vN (1 + 3 * ([] : List A3).length)), (67, .agg #[vI x2, vI y2, vI z2, vS 8 L2.length]), (68, vN (1 + 3 * ([] : List A3).length))])) (by kernel_rfl) ?_
    refine rCall (v := vN ((1 + 3 * ([] : List A3).length) + 3 * L2.length)) (args := [.agg #[vI x2, vI y2, vI z2, vS 8 L2.length], vN (1 + 3 * ([] : List A3).length)]) (by kernel_rfl) rfl (by kernel_rfl) (Sound.emb_set (r := ⟨a3s L2, 25, false, true⟩) (r' := ⟨a3s (mk3 (1 + 3 * ([] : List A3).length) L2.length), 25, false, true⟩) 8 (markHeapB x2 y2 z2 L2 (1 + 3 * ([] : List A3).length) (by first | omega | assumption | (simp; done)) (by first | assumption | omega | rfl | decide | exact HeapL.list _ _ _ _ | exact HeapL.nil _ _ _ | exact HeapL.all _ _ _ | (apply HeapL.lt64 <;> assumption) | (repeat' (first | assumption | apply or_lt64 | apply and_lt64 | apply andn_lt64 | apply pow_lt64 | (apply HeapL.lt64 <;> assumption))))) (flatA3 _ _ _ _) rfl (flatA3 _ _ _ _) rfl rfl rfl (by first | rfl | simp [mpV, mpA, mpS, mpP, renId, shift]) rfl) ?_
    refine segEnd [2, 3, 6, 7, 10, 11, 12] (T1 := (mkT 119 [(2, vP 1 0), (3, vP 2 0), (6, vP 5 0), (7, .bool false), (10, vP 10 0), (11, .bool false), (12, vN ((1 + 3 * ([] : List A3).length) + 3 * L2.length))])) (H1 := [some ⟨a3s L2, 25, false, false⟩, rB [vI x1, vI y1, vI z1, .slice none 0 0] 24, rB [vI x2, vI y2, vI z2, vS 0 L2.length] 24, some ⟨[], 25, false, true⟩, some ⟨a3s L2, 25, false, true⟩, rB [vI 0, vI 0, vI 0, .slice none 0 0] 29, some ⟨a3s (mk3 1 ([] : List A3).length), 25, false, true⟩, rB [vI x1, vI y1, vI z1, vS 6 0] 29, some ⟨a3s (mk3 (1 + 3 * ([] : List A3).length) L2.length), 25, false, true⟩, rB [vI x2, vI y2, vI z2, vS 8 L2.length] 29, rB [vI 0, vI 0, vI 0, .slice none 0 0] 29, some ⟨[], 25, false, true⟩, some ⟨a3s L2, 25, false, true⟩]) (by kernel_rfl) ?_
    refine kSeq ?_
    refine cSeq ?_
    refine cSeq ?_
    refine cReg ?_
    refine segH 3 (T1 := (mkT 119 [(2, vP 1 0), (3, vP 2 0), (6, vP 5 0), (7, .bool false), (10, vP 10 0), (11, .bool false), (12, vN ((1 + 3 * ([] : List A3).length) + 3 * L2.length)), (70, vN ((1 + 3 * ([] : List A3).length) + 3 * L2.length)), (71, .bool (decide ((((1 + 3 * ([] : List A3).length) + 3 * L2.length : Nat) : Int) < 0))), (72, .bool (decide ((((1 + 3 * ([] : List A3).length) + 3 * L2.length : Nat) : Int) < 0)))])) (by kernel_rfl) ?_
    cases h2 : (decide ((((1 + 3 * ([] : List A3).length) + 3 * L2.length : Nat) : Int) < 0) : Bool)
    ·
      (try simp only [Bool.not_eq_true', Bool.not_eq_false', decide_eq_true_eq, decide_eq_false_iff_not, beq_iff_eq, bne_iff_ne, beq_eq_false_iff_ne, bne_eq_false_iff_eq, ne_eq, Decidable.not_not, Bool.and_eq_true, Bool.and_eq_false_imp, Bool.or_eq_true, Bool.or_eq_false_iff, Bool.not_eq_true, Int.not_lt, Int.not_le, ge_iff_le, gt_iff_lt] at h2)
      refine seg 2 (T1 := (mkT 119 [(2, vP 1 0), (3, vP 2 0), (6, vP 5 0), (7, .bool false), (10, vP 10 0), (11, .bool false), (12, vN ((1 + 3 * ([] : List A3).length) + 3 * L2.length)), (70, vN ((1 + 3 * ([] : List A3).length) + 3 * L2.length)), (71, .bool false), (72, .bool false), (73, .agg #[vI 0, vI 0, vI 0, .slice none 0 0]), (74, .agg #[vI 0, vI 0, vI 0, .slice none 0 0])])) (H1 := [some ⟨a3s L2, 25, false, false⟩, rB [vI x1, vI y1, vI z1, .slice none 0 0] 24, rB [vI x2, vI y2, vI z2, vS 0 L2.length] 24, some ⟨[], 25, false, true⟩, some ⟨a3s L2, 25, false, true⟩, rB [vI 0, vI 0, vI 0, .slice none 0 0] 29, some ⟨a3s (mk3 1 ([] : List A3).length), 25, false, true⟩, rB [vI x1, vI y1, vI z1, vS 6 0] 29, some ⟨a3s (mk3 (1 + 3 * ([] : List A3).length) L2.length), 25, false, true⟩, rB [vI x2, vI y2, vI z2, vS 8 L2.length] 29, rB [vI 0, vI 0, vI 0, .slice none 0 0] 29, some ⟨[], 25, false, true⟩, some ⟨a3s L2, 25, false, true⟩]) (by kernel_rfl) ?_
      refine rCall (v := .bool true) (args := [.agg #[vI 0, vI 0, vI 0, .slice none 0 0], .agg #[vI 0, vI 0, vI 0, .slice none 0 0]]) (by kernel_rfl) rfl (by kernel_rfl) (Sound.lay0 [] (eqHeapN) trivial rfl trivial rfl (by first | rfl | simp [mpV, mpA, mpS, mpP, renId, shift]) rfl) ?_
      refine segEnd [2, 3, 6, 7, 10, 82] (T1 := (mkT 119 [(2, vP 1 0), (3, vP 2 0), (6, vP 5 0), (7, .bool false), (10, vP 10 0), (82, .bool false)])) (H1 := [some ⟨a3s L2, 25, false, false⟩, rB [vI x1, vI y1, vI z1, .slice none 0 0] 24, rB [vI x2, vI y2, vI z2, vS 0 L2.length] 24, some ⟨[], 25, false, true⟩, some ⟨a3s L2, 25, false, true⟩, rB [vI 0, vI 0, vI 0, .slice none 0 0] 29, some ⟨a3s (mk3 1 ([] : List A3).length), 25, false, true⟩, rB [vI x1, vI y1, vI z1, vS 6 0] 29, some ⟨a3s (mk3 (1 + 3 * ([] : List A3).length) L2.length), 25, false, true⟩, rB [vI x2, vI y2, vI z2, vS 8 L2.length] 29, rB [vI 0, vI 0, vI 0, .slice none 0 0] 29, some ⟨[], 25, false, true⟩, some ⟨a3s L2, 25, false, true⟩]) (by kernel_rfl) ?_
      refine kSeq ?_
      refine cFalse (by kernel_rfl) ?_
      refine cSkip ?_
      refine kSeq ?_
      refine cSeq ?_
      refine cReg ?_
      refine segEndH [2, 3, 6, 7, 10, 13] (T1 := (mkT 119 [(2, vP 1 0), (3, vP 2 0), (6, vP 5 0), (7, .bool false), (10, vP 10 0), (13, vI 1)])) (by kernel_rfl) ?_
      refine kSeq ?_
      refine cSeq ?_
      refine cReg ?_
      refine segH 2 (T1 := (mkT 119 [(2, vP 1 0), (3, vP 2 0), (6, vP 5 0), (7, .bool false), (10, vP 10 0), (13, vI 1), (83, .agg #[vI 0, vI 0, vI 0, .slice none 0 0]), (84, vI 1)])) (by kernel_rfl) ?_
      refine rCall (v := vI 1) (args := [.agg #[vI 0, vI 0, vI 0, .slice none 0 0], vI 1]) (by kernel_rfl) rfl (by kernel_rfl) (Sound.lay0 [] (markHeapN 1) trivial rfl trivial rfl (by first | rfl | simp [mpV, mpA, mpS, mpP, renId, shift]) rfl) ?_
      refine segEndH [2, 3, 6, 7, 10, 13] (T1 := (mkT 119 [(2, vP 1 0), (3, vP 2 0), (6, vP 5 0), (7, .bool false), (10, vP 10 0), (13, vI 1)])) (by kernel_rfl) ?_
      refine kSeq ?_
      refine cSeq ?_
      refine cReg ?_
      refine segEndH [2, 3, 6, 7, 10, 13, 14] (T1 := (mkT 119 [(2, vP 1 0), (3, vP 2 0), (6, vP 5 0), (7, .bool false), (10, vP 10 0), (13, vI 1), (14, vI 1)])) (by kernel_rfl) ?_
      refine kSeq ?_
      refine cSeq ?_
      refine cReg ?_
      refine segH 2 (T1 := (mkT 119 [(2, vP 1 0), (3, vP 2 0), (6, vP 5 0), (7, .bool false), (10, vP 10 0), (13, vI 1), (14, vI 1), (86, .agg #[vI 0, vI 0, vI 0, .slice none 0 0]), (87, vI 1)])) (by kernel_rfl) ?_
      refine rCall (v := vI 1) (args := [.agg #[vI 0, vI 0, vI 0, .slice none 0 0], vI 1]) (by kernel_rfl) rfl (by kernel_rfl) (Sound.lay0 [] (heldHeapN) trivial rfl trivial rfl (by first | rfl | simp [mpV, mpA, mpS, mpP, renId, shift]) rfl) ?_
      refine segEndH [2, 3, 6, 7, 10, 13, 14] (T1 := (mkT 119 [(2, vP 1 0), (3, vP 2 0), (6, vP 5 0), (7, .bool false), (10, vP 10 0), (13, vI 1), (14, vI 1)])) (by kernel_rfl) ?_
      refine kSeq ?_
      refine cSeq ?_
      refine cSeq ?_
      refine cReg ?_
      refine segEndH [2, 3, 6, 7, 10, 13, 14, 90] (T1 := (mkT 119 [(2, vP 1 0), (3, vP 2 0), (6, vP 5 0), (7, .bool false), (10, vP 10 0), (13, vI 1), (14, vI 1), (90, .bool false)])) (by kernel_rfl) ?_
      refine kSeq ?_
      refine cFalse (by kernel_rfl) ?_
      refine cSkip ?_
      refine kSeq ?_
      refine cSeq ?_
      refine cSeq ?_
      refine cReg ?_
      refine segEndH [2, 3, 6, 7, 10, 13, 93] (T1 := (mkT 119 [(2, vP 1 0), (3, vP 2 0), (6, vP 5 0), (7, .bool false), (10, vP 10 0), (13, vI 1), (93, .bool false)])) (by kernel_rfl) ?_
      refine kSeq ?_
      refine cFalse (by kernel_rfl) ?_
      refine cSkip ?_
      refine kSeq ?_
      refine cSeq ?_
      refine cRegW (N := 16) [⟨[], [], [1]⟩, ⟨[13], [], []⟩, ⟨[], [], [2]⟩, ⟨[14], [], [0]⟩, ⟨[], [], [13, 14]⟩, ⟨[], [], []⟩, ⟨[], [], []⟩, ⟨[], [], []⟩, ⟨[15], [], []⟩, ⟨[], [15], []⟩, ⟨[], [], []⟩] 3 [13, 14, 15] (by rfl) (by rfl) (by kernel_rfl) (by kernel_rfl) (by kernel_rfl) ⟨nmsF (flatA3 _ _ _ _), ⟨nmsX (by kernel_rfl), ⟨nmsX (by kernel_rfl), ⟨nmsX (by kernel_rfl), ⟨nmsF (flatA3 _ _ _ _), ⟨nmsX (by kernel_rfl), ⟨nmsF (flatA3 _ _ _ _), ⟨nmsX (by kernel_rfl), ⟨nmsF (flatA3 _ _ _ _), ⟨nmsX (by kernel_rfl), ⟨nmsX (by kernel_rfl), ⟨nmsX (by kernel_rfl), ⟨nmsF (flatA3 _ _ _ _), trivial⟩⟩⟩⟩⟩⟩⟩⟩⟩⟩⟩⟩⟩ ?_
      refine segWH 1 (T1 := (mkT 119 [(2, vP 1 0), (3, vP 2 0), (6, vP 5 0), (7, .bool false), (10, vP 10 0), (13, vI 1), (93, .bool false), (95, .agg #[vI x1, vI y1, vI z1, .slice none 0 0])])) (by kernel_rfl) ?_
      refine rW (m := ⟨[13], [], []⟩) (v := .agg #[vI x1, vI y1, vI z1, vS 13 0]) rfl (by kernel_rfl) (stN (i := 13) (E := [some ⟨[], 25, false, true⟩]) (v1 := .agg #[vI x1, vI y1, vI z1, vS 16 0]) (args := [.agg #[vI x1, vI y1, vI z1, .slice none 0 0]]) rfl (by kernel_rfl) (Any.lay [] (toHeapN x1 y1 z1) trivial rfl trivial rfl (by first | rfl | simp [mpV, mpA, mpS, mpP, renId, shift]) (by first | rfl | simp [mpV, mpA, mpS, mpP, renId, shift]) ⟨enX rfl (Or.inl rfl), trivial⟩) rfl (by kernel_rfl) (by kernel_rfl) (by kernel_rfl) (by kernel_rfl) (FlatH.cons (flatRow_of rfl) FlatH.nil)) (by kernel_rfl) (NRs.all ⟨nrOf (by rfl) (nmX (by kernel_rfl)), trivial⟩) ?_
      refine segWH 1 (T1 := (mkT 119 [(2, vP 1 0), (3, vP 2 0), (6, vP 5 0), (7, .bool false), (10, vP 10 0), (13, vI 1), (93, .bool false), (95, .agg #[vI x1, vI y1, vI z1, .slice none 0 0]), (96, .agg #[vI x1, vI y1, vI z1, vS 13 0]), (97, .agg #[vI x2, vI y2, vI z2, vS 0 L2.length])])) (by kernel_rfl) ?_
      refine rW (m := ⟨[14], [], [0]⟩) (v := .agg #[vI x2, vI y2, vI z2, vS 14 L2.length]) rfl (by kernel_rfl) (stN (i := 14) (E := [some ⟨a3s L2, 25, false, true⟩]) (v1 := .agg #[vI x2, vI y2, vI z2, vS 16 L2.length]) (args := [.agg #[vI x2, vI y2, vI z2, vS 0 L2.length]]) rfl (by kernel_rfl) (Any.lay [0] (toHeapB x2 y2 z2 L2 (by first | omega | assumption | (simp; done))) ⟨rdF false (flatA3 _ _ _ _) rfl rfl, trivial⟩ rfl ⟨clF (flatA3 _ _ _ _), trivial⟩ rfl (by first | rfl | simp [mpV, mpA, mpS, mpP, renId, shift]) (by first | rfl | simp [mpV, mpA, mpS, mpP, renId, shift]) ⟨enF (flatA3 _ _ _ _) (Or.inl rfl), trivial⟩) rfl (by kernel_rfl) (by kernel_rfl) (by kernel_rfl) (by kernel_rfl) (FlatH.cons (flatA3 _ _ _ _) FlatH.nil)) (by kernel_rfl) (NRs.all ⟨nrOf (by rfl) (nmF (flatA3 _ _ _ _)), trivial⟩) ?_
      refine rW (m := ⟨[], [], [13, 14]⟩) (v := .tuple #[.agg #[vI 0, vI 0, vI 0, .slice none 0 0], .bool false]) rfl (by kernel_rfl) (stQ (args := [.agg #[vI x1, vI y1, vI z1, vS 13 0], .agg #[vI x2, vI y2, vI z2, vS 14 L2.length]]) rfl (by kernel_rfl) (Any.lay0 [13, 14] (implJoinHeaps_no x1 y1 z1 ([] : List A3) x2 y2 z2 L2 (by first | assumption | omega | rfl | decide | exact HeapL.list _ _ _ _ | exact HeapL.nil _ _ _ | exact HeapL.all _ _ _ | (apply HeapL.lt64 <;> assumption) | (repeat' (first | assumption | apply or_lt64 | apply and_lt64 | apply andn_lt64 | apply pow_lt64 | (apply HeapL.lt64 <;> assumption)))) (by first | assumption | omega | rfl | decide | exact HeapL.list _ _ _ _ | exact HeapL.nil _ _ _ | exact HeapL.all _ _ _ | (apply HeapL.lt64 <;> assumption) | (repeat' (first | assumption | apply or_lt64 | apply and_lt64 | apply andn_lt64 | apply pow_lt64 | (apply HeapL.lt64 <;> assumption)))) (by first | assumption | omega | rfl | decide | exact HeapL.list _ _ _ _ | exact HeapL.nil _ _ _ | exact HeapL.all _ _ _ | (apply HeapL.lt64 <;> assumption) | (repeat' (first | assumption | apply or_lt64 | apply and_lt64 | apply andn_lt64 | apply pow_lt64 | (apply HeapL.lt64 <;> assumption))))) ⟨rdF true (flatA3 _ _ _ _) rfl rfl, ⟨rdF true (flatA3 _ _ _ _) rfl rfl, trivial⟩⟩ rfl ⟨clF (flatA3 _ _ _ _), ⟨clF (flatA3 _ _ _ _), trivial⟩⟩ rfl (by first | rfl | simp [mpV, mpA, mpS, mpP, renId, shift]) (by first | rfl | simp [mpV, mpA, mpS, mpP, renId, shift])) rfl (by kernel_rfl) (by kernel_rfl)) (by kernel_rfl) nr0 ?_
      refine segWH 3 (T1 := (mkT 119 [(2, vP 1 0), (3, vP 2 0), (6, vP 5 0), (7, .bool false), (10, vP 10 0), (13, vI 1), (93, .bool false), (94, .tuple #[.agg #[vI 0, vI 0, vI 0, .slice none 0 0], .bool false]), (95, .agg #[vI x1, vI y1, vI z1, .slice none 0 0]), (96, .agg #[vI x1, vI y1, vI z1, vS 13 0]), (97, .agg #[vI x2, vI y2, vI z2, vS 0 L2.length]), (98, .agg #[vI x2, vI y2, vI z2, vS 14 L2.length]), (99, .tuple #[.agg #[vI 0, vI 0, vI 0, .slice none 0 0], .bool false]), (100, .agg #[vI 0, vI 0, vI 0, .slice none 0 0]), (101, .bool false)])) (by kernel_rfl) ?_
      refine rW (m := ⟨[15], [], []⟩) (v := vP 15 0) rfl (by kernel_rfl) (stNew (i := 15) (v1 := vP 16 0) (r := ⟨[vI 0, vI 0, vI 0, .slice none 0 0], 29, true, true⟩) (by kernel_rfl) rfl (by kernel_rfl) (by kernel_rfl) (by kernel_rfl) (by kernel_rfl) (nmX (by kernel_rfl)) (clX (by kernel_rfl))) (by kernel_rfl) (NRs.all ⟨nrOf (by rfl) (nmX (by kernel_rfl)), trivial⟩) ?_
      refine rW (m := ⟨[], [15], []⟩) (v := .tuple #[]) rfl (by kernel_rfl) (stSet (b := 15) (r := ⟨[vI 0, vI 0, vI 0, .slice none 0 0], 29, true, true⟩) (by kernel_rfl) rfl (by kernel_rfl) (by kernel_rfl) (by kernel_rfl) (by kernel_rfl) (nmX (by kernel_rfl)) (clX (by kernel_rfl))) (by kernel_rfl) (NRs.all ⟨nrOf (by rfl) (nmX (by kernel_rfl)), trivial⟩) ?_
      refine segEndW [6, 7, 10, 13, 15, 16] (T1 := (mkT 119 [(6, vP 5 0), (7, .bool false), (10, vP 10 0), (13, vI 1), (15, vP 15 0), (16, .bool false)])) (H1 := [some ⟨a3s L2, 25, false, false⟩, rB [vI x1, vI y1, vI z1, .slice none 0 0] 24, rB [vI x2, vI y2, vI z2, vS 0 L2.length] 24, some ⟨[], 25, false, true⟩, some ⟨a3s L2, 25, false, true⟩, rB [vI 0, vI 0, vI 0, .slice none 0 0] 29, some ⟨a3s (mk3 1 ([] : List A3).length), 25, false, true⟩, rB [vI x1, vI y1, vI z1, vS 6 0] 29, some ⟨a3s (mk3 (1 + 3 * ([] : List A3).length) L2.length), 25, false, true⟩, rB [vI x2, vI y2, vI z2, vS 8 L2.length] 29, rB [vI 0, vI 0, vI 0, .slice none 0 0] 29, some ⟨[], 25, false, true⟩, some ⟨a3s L2, 25, false, true⟩, some ⟨[], 25, false, true⟩, some ⟨a3s L2, 25, false, true⟩, rB [vI 0, vI 0, vI 0, .slice none 0 0] 29]) (by kernel_rfl) ?_
      refine kSeq ?_
      refine cSeq ?_
      refine cSeq ?_
      refine cReg ?_
      refine segH 2 (T1 := (mkT 119 [(6, vP 5 0), (7, .bool false), (10, vP 10 0), (13, vI 1), (15, vP 15 0), (16, .bool false), (102, .agg #[vI 0, vI 0, vI 0, .slice none 0 0]), (103, .agg #[vI 0, vI 0, vI 0, .slice none 0 0])])) (by kernel_rfl) ?_
      refine rCall (v := .bool true) (args := [.agg #[vI 0, vI 0, vI 0, .slice none 0 0], .agg #[vI 0, vI 0, vI 0, .slice none 0 0]]) (by kernel_rfl) rfl (by kernel_rfl) (Sound.lay0 [] (eqHeapN) trivial rfl trivial rfl (by first | rfl | simp [mpV, mpA, mpS, mpP, renId, shift]) rfl) ?_
      refine segEndH [10, 13, 110] (T1 := (mkT 119 [(10, vP 10 0), (13, vI 1), (110, .bool false)])) (by kernel_rfl) ?_
      refine kSeq ?_
      refine cFalse (by kernel_rfl) ?_
      refine cSkip ?_
      refine kSeq ?_
      refine cSeq ?_
      refine cReg ?_
      refine segEndH [10, 13, 14] (T1 := (mkT 119 [(10, vP 10 0), (13, vI 1), (14, vI 1)])) (by kernel_rfl) ?_
      refine kSeq ?_
      refine cSeq ?_
      refine cReg ?_
      refine segH 2 (T1 := (mkT 119 [(10, vP 10 0), (13, vI 1), (14, vI 1), (111, .agg #[vI 0, vI 0, vI 0, .slice none 0 0]), (112, vI 1)])) (by kernel_rfl) ?_
      refine rCall (v := vI 1) (args := [.agg #[vI 0, vI 0, vI 0, .slice none 0 0], vI 1]) (by kernel_rfl) rfl (by kernel_rfl) (Sound.lay0 [] (heldHeapN) trivial rfl trivial rfl (by first | rfl | simp [mpV, mpA, mpS, mpP, renId, shift]) rfl) ?_
      refine segEndH [13, 14] (T1 := (mkT 119 [(13, vI 1), (14, vI 1)])) (by kernel_rfl) ?_
      refine kSeq ?_
      refine cSeq ?_
      refine cSeq ?_
      refine cReg ?_
      refine segEndH [13, 14, 115] (T1 := (mkT 119 [(13, vI 1), (14, vI 1), (115, .bool false)])) (by kernel_rfl) ?_
      refine kSeq ?_
      refine cFalse (by kernel_rfl) ?_
      refine cSkip ?_
      refine kSeq ?_
      refine cSeq ?_
      refine cSeq ?_
      refine cReg ?_
      refine segEndH [118] (T1 := (mkT 119 [(118, .bool false)])) (by kernel_rfl) ?_
      refine kSeq ?_
      refine cFalse (by kernel_rfl) ?_
      refine cSkip ?_
      refine kSeq ?_
      refine cSeq ?_
      refine cReg ?_
      refine segEndH [4] (T1 := (mkT 119 [(4, .bool true)])) (by kernel_rfl) ?_
      refine kSeq ?_
      refine cRet ?_
      -- end
      exact endQ (Or.inr rfl) (l := [.bool true]) [rB [vI x1, vI y1, vI z1, .slice none 0 0] 24, rB [vI x2, vI y2, vI z2, vS 0 L2.length] 24, some ⟨[], 25, false, true⟩, some ⟨a3s L2, 25, false, true⟩, rB [vI 0, vI 0, vI 0, .slice none 0 0] 29, some ⟨a3s (mk3 1 ([] : List A3).length), 25, false, true⟩, rB [vI x1, vI y1, vI z1, vS 6 0] 29, some ⟨a3s (mk3 (1 + 3 * ([] : List A3).length) L2.length), 25, false, true⟩, rB [vI x2, vI y2, vI z2, vS 8 L2.length] 29, rB [vI 0, vI 0, vI 0, .slice none 0 0] 29, some ⟨[], 25, false, true⟩, some ⟨a3s L2, 25, false, true⟩, some ⟨[], 25, false, true⟩, some ⟨a3s L2, 25, false, true⟩, rB [vI 0, vI 0, vI 0, .slice none 0 0] 29] (by kernel_rfl) (by first | rfl | kernel_rfl) rfl rfl hcl rfl
    ·
      (try simp only [Bool.not_eq_true', Bool.not_eq_false', decide_eq_true_eq, decide_eq_false_iff_not, beq_iff_eq, bne_iff_ne, beq_eq_false_iff_ne, bne_eq_false_iff_eq, ne_eq, Decidable.not_not, Bool.and_eq_true, Bool.and_eq_false_imp, Bool.or_eq_true, Bool.or_eq_false_iff, Bool.not_eq_true, Int.not_lt, Int.not_le, ge_iff_le, gt_iff_lt] at h2)
      exfalso; omega
  ·
    (try simp only [Bool.not_eq_true', Bool.not_eq_false', decide_eq_true_eq, decide_eq_false_iff_not, beq_iff_eq, bne_iff_ne, beq_eq_false_iff_ne, bne_eq_false_iff_eq, ne_eq, Decidable.not_not, Bool.and_eq_true, Bool.and_eq_false_imp, Bool.or_eq_true, Bool.or_eq_false_iff, Bool.not_eq_true, Int.not_lt, Int.not_le, ge_iff_le, gt_iff_lt] at h1)
    exfalso; omega

set_option maxRecDepth 100000 in
set_option maxHeartbeats 4000000 in
theorem lawJoinHeaps_no_nn (x1 : Int) (y1 : Int) (z1 : Int) (x2 : Int) (y2 : Int) (z2 : Int) (hl12 : ([] : List A3).length + ([] : List A3).length ≤ 1048576) (hv : alikeB x1 y1 z1 ([] : List A3) x2 y2 z2 ([] : List A3) = false) : Sound Try.prog 8 [.agg #[vI x1, vI y1, vI z1, .slice none 0 0], .agg #[vI x2, vI y2, vI z2, .slice none 0 0]] [] (.bool true) [] := by
  refine sound_intro (C := cx) Try.func8 rfl (by kernel_rfl) fun hcl => ?_
  skip
  have hl1 : ([] : List A3).length ≤ 1048576 := by first | omega | (simp at hl12; omega) | (simp; done)
  have hl2 : ([] : List A3).length ≤ 1048576 := by first | omega | (simp at hl12; omega) | (simp; done)
  refine cSeq ?_
  refine cReg ?_
  refine segEnd [2, 3] (T1 := (mkT 119 [(2, vP 0 0), (3, vP 1 0)])) (H1 := [rB [vI x1, vI y1, vI z1, .slice none 0 0] 24, rB [vI x2, vI y2, vI z2, .slice none 0 0] 24]) (by kernel_rfl) ?_
  refine kSeq ?_
  refine cSeq ?_
  refine cReg ?_
  refine segEndH [2, 3, 5] (T1 := (mkT 119 [(2, vP 0 0), (3, vP 1 0), (5, vI 1048576)])) (by kernel_rfl) ?_
  refine kSeq ?_
  refine cSeq ?_
  refine cReg ?_
  refine segH 2 (T1 := (mkT 119 [(2, vP 0 0), (3, vP 1 0), (5, vI 1048576), (17, .agg #[vI x1, vI y1, vI z1, .slice none 0 0]), (18, vI 1048576)])) (by kernel_rfl) ?_
  refine rCall (v := vI 1048576) (args := [.agg #[vI x1, vI y1, vI z1, .slice none 0 0], vI 1048576]) (by kernel_rfl) rfl (by kernel_rfl) (Sound.lay0 [] (szHeapN x1 y1 z1 1048576 (by first | omega | assumption | decide)) trivial rfl trivial rfl (by first | rfl | simp [mpV, mpA, mpS, mpP, renId, shift]) rfl) ?_
  refine segEndH [2, 3, 5] (T1 := (mkT 119 [(2, vP 0 0), (3, vP 1 0), (5, vI 1048576)])) (by kernel_rfl) ?_
  refine kSeq ?_
  refine cSeq ?_
  refine cSeq ?_
  refine cReg ?_
  refine segEndH [2, 3, 5, 21] (T1 := (mkT 119 [(2, vP 0 0), (3, vP 1 0), (5, vI 1048576), (21, .bool false)])) (by kernel_rfl) ?_
  refine kSeq ?_
  refine cFalse (by kernel_rfl) ?_
  refine cSkip ?_
  refine kSeq ?_
  refine cSeq ?_
  refine cReg ?_
  refine segH 2 (T1 := (mkT 119 [(2, vP 0 0), (3, vP 1 0), (5, vI 1048576), (21, .bool false), (22, .agg #[vI x2, vI y2, vI z2, .slice none 0 0]), (23, vI 1048576)])) (by kernel_rfl) ?_
  refine rCall (v := vI 1048576) (args := [.agg #[vI x2, vI y2, vI z2, .slice none 0 0], vI 1048576]) (by kernel_rfl) rfl (by kernel_rfl) (Sound.lay0 [] (szHeapN x2 y2 z2 1048576 (by first | omega | assumption | decide)) trivial rfl trivial rfl (by first | rfl | simp [mpV, mpA, mpS, mpP, renId, shift]) rfl) ?_
  refine segEndH [2, 3, 5] (T1 := (mkT 119 [(2, vP 0 0), (3, vP 1 0), (5, vI 1048576)])) (by kernel_rfl) ?_
  refine kSeq ?_
  refine cSeq ?_
  refine cSeq ?_
  refine cReg ?_
  refine segEndH [2, 3, 26] (T1 := (mkT 119 [(2, vP 0 0), (3, vP 1 0), (26, .bool false)])) (by kernel_rfl) ?_
  refine kSeq ?_
  refine cFalse (by kernel_rfl) ?_
  refine cSkip ?_
  refine kSeq ?_
  refine cSeq ?_
  refine cRegW (N := 5) [⟨[], [], [0]⟩, ⟨[2], [], []⟩, ⟨[], [], [1]⟩, ⟨[3], [], []⟩, ⟨[], [], [2, 3]⟩, ⟨[], [], []⟩, ⟨[], [], []⟩, ⟨[], [], []⟩, ⟨[4], [], []⟩, ⟨[], [4], []⟩, ⟨[], [], []⟩] 3 [2, 3, 4] (by rfl) (by rfl) (by kernel_rfl) (by kernel_rfl) (by kernel_rfl) ⟨nmsX (by kernel_rfl), ⟨nmsX (by kernel_rfl), trivial⟩⟩ ?_
  refine segWH 1 (T1 := (mkT 119 [(2, vP 0 0), (3, vP 1 0), (26, .bool false), (28, .agg #[vI x1, vI y1, vI z1, .slice none 0 0])])) (by kernel_rfl) ?_
  refine rW (m := ⟨[2], [], []⟩) (v := .agg #[vI x1, vI y1, vI z1, vS 2 0]) rfl (by kernel_rfl) (stN (i := 2) (E := [some ⟨[], 25, false, true⟩]) (v1 := .agg #[vI x1, vI y1, vI z1, vS 5 0]) (args := [.agg #[vI x1, vI y1, vI z1, .slice none 0 0]]) rfl (by kernel_rfl) (Any.lay [] (toHeapN x1 y1 z1) trivial rfl trivial rfl (by first | rfl | simp [mpV, mpA, mpS, mpP, renId, shift]) (by first | rfl | simp [mpV, mpA, mpS, mpP, renId, shift]) ⟨enX rfl (Or.inl rfl), trivial⟩) rfl (by kernel_rfl) (by kernel_rfl) (by kernel_rfl) (by kernel_rfl) (FlatH.cons (flatRow_of rfl) FlatH.nil)) (by kernel_rfl) (NRs.all ⟨nrOf (by rfl) (nmX (by kernel_rfl)), trivial⟩) ?_
  refine segWH 1 (T1 := (mkT 119 [(2, vP 0 0), (3, vP 1 0), (26, .bool false), (28, .agg #[vI x1, vI y1, vI z1, .slice none 0 0]), (29, .agg #[vI x1, vI y1, vI z1, vS 2 0]), (30, .agg #[vI x2, vI y2, vI z2, .slice none 0 0])])) (by kernel_rfl) ?_
  refine rW (m := ⟨[3], [], []⟩) (v := .agg #[vI x2, vI y2, vI z2, vS 3 0]) rfl (by kernel_rfl) (stN (i := 3) (E := [some ⟨[], 25, false, true⟩]) (v1 := .agg #[vI x2, vI y2, vI z2, vS 5 0]) (args := [.agg #[vI x2, vI y2, vI z2, .slice none 0 0]]) rfl (by kernel_rfl) (Any.lay [] (toHeapN x2 y2 z2) trivial rfl trivial rfl (by first | rfl | simp [mpV, mpA, mpS, mpP, renId, shift]) (by first | rfl | simp [mpV, mpA, mpS, mpP, renId, shift]) ⟨enX rfl (Or.inl rfl), trivial⟩) rfl (by kernel_rfl) (by kernel_rfl) (by kernel_rfl) (by kernel_rfl) (FlatH.cons (flatRow_of rfl) FlatH.nil)) (by kernel_rfl) (NRs.all ⟨nrOf (by rfl) (nmX (by kernel_rfl)), trivial⟩) ?_
  refine rW (m := ⟨[], [], [2, 3]⟩) (v := .tuple #[.agg #[vI 0, vI 0, vI 0, .slice none 0 0], .bool false]) rfl (by kernel_rfl) (stQ (args := [.agg #[vI x1, vI y1, vI z1, vS 2 0], .agg #[vI x2, vI y2, vI z2, vS 3 0]]) rfl (by kernel_rfl) (Any.lay0 [2, 3] (specJoinHeaps_no x1 y1 z1 ([] : List A3) x2 y2 z2 ([] : List A3) (by first | assumption | omega | rfl | decide | exact HeapL.list _ _ _ _ | exact HeapL.nil _ _ _ | exact HeapL.all _ _ _ | (apply HeapL.lt64 <;> assumption) | (repeat' (first | assumption | apply or_lt64 | apply and_lt64 | apply andn_lt64 | apply pow_lt64 | (apply HeapL.lt64 <;> assumption)))) (by first | assumption | omega | rfl | decide | exact HeapL.list _ _ _ _ | exact HeapL.nil _ _ _ | exact HeapL.all _ _ _ | (apply HeapL.lt64 <;> assumption) | (repeat' (first | assumption | apply or_lt64 | apply and_lt64 | apply andn_lt64 | apply pow_lt64 | (apply HeapL.lt64 <;> assumption)))) (by first | assumption | omega | rfl | decide | exact HeapL.list _ _ _ _ | exact HeapL.nil _ _ _ | exact HeapL.all _ _ _ | (apply HeapL.lt64 <;> assumption) | (repeat' (first | assumption | apply or_lt64 | apply and_lt64 | apply andn_lt64 | apply pow_lt64 | (apply HeapL.lt64 <;> assumption))))) ⟨rdF true (flatA3 _ _ _ _) rfl rfl, ⟨rdF true (flatA3 _ _ _ _) rfl rfl, trivial⟩⟩ rfl ⟨clF (flatA3 _ _ _ _), ⟨clF (flatA3 _ _ _ _), trivial⟩⟩ rfl (by first | rfl | simp [mpV, mpA, mpS, mpP, renId, shift]) (by first | rfl | simp [mpV, mpA, mpS, mpP, renId, shift])) rfl (by kernel_rfl) (by kernel_rfl)) (by kernel_rfl) nr0 ?_
  refine segWH 3 (T1 := (mkT 119 [(2, vP 0 0), (3, vP 1 0), (26, .bool false), (27, .tuple #[.agg #[vI 0, vI 0, vI 0, .slice none 0 0], .bool false]), (28, .agg #[vI x1, vI y1, vI z1, .slice none 0 0]), (29, .agg #[vI x1, vI y1, vI z1, vS 2 0]), (30, .agg #[vI x2, vI y2, vI z2, .slice none 0 0]), (31, .agg #[vI x2, vI y2, vI z2, vS 3 0]), (32, .tuple #[.agg #[vI 0, vI 0, vI 0, .slice none 0 0], .bool false]), (33, .agg #[vI 0, vI 0, vI 0, .slice none 0 0]), (34, .bool false)])) (by kernel_rfl) ?_
  refine rW (m := ⟨[4], [], []⟩) (v := vP 4 0) rfl (by kernel_rfl) (stNew (i := 4) (v1 := vP 5 0) (r := ⟨[vI 0, vI 0, vI 0, .slice none 0 0], 29, true, true⟩) (by kernel_rfl) rfl (by kernel_rfl) (by kernel_rfl) (by kernel_rfl) (by kernel_rfl) (nmX (by kernel_rfl)) (clX (by kernel_rfl))) (by kernel_rfl) (NRs.all ⟨nrOf (by rfl) (nmX (by kernel_rfl)), trivial⟩) ?_
  refine rW (m := ⟨[], [4], []⟩) (v := .tuple #[]) rfl (by kernel_rfl) (stSet (b := 4) (r := ⟨[vI 0, vI 0, vI 0, .slice none 0 0], 29, true, true⟩) (by kernel_rfl) rfl (by kernel_rfl) (by kernel_rfl) (by kernel_rfl) (by kernel_rfl) (nmX (by kernel_rfl)) (clX (by kernel_rfl))) (by kernel_rfl) (NRs.all ⟨nrOf (by rfl) (nmX (by kernel_rfl)), trivial⟩) ?_
  refine segEndW [2, 3, 6, 7] (T1 := (mkT 119 [(2, vP 0 0), (3, vP 1 0), (6, vP 4 0), (7, .bool false)])) (H1 := [rB [vI x1, vI y1, vI z1, .slice none 0 0] 24, rB [vI x2, vI y2, vI z2, .slice none 0 0] 24, some ⟨[], 25, false, true⟩, some ⟨[], 25, false, true⟩, rB [vI 0, vI 0, vI 0, .slice none 0 0] 29]) (by kernel_rfl) ?_
  refine kSeq ?_
  refine cSeq ?_
  refine cReg ?_
  refine segH 1 (T1 := (mkT 119 [(2, vP 0 0), (3, vP 1 0), (6, vP 4 0), (7, .bool false), (35, .agg #[vI x1, vI y1, vI z1, .slice none 0 0])])) (by kernel_rfl) ?_
  refine rCall (v := .agg #[vI x1, vI y1, vI z1, vS 5 0]) (args := [.agg #[vI x1, vI y1, vI z1, .slice none 0 0]]) (by kernel_rfl) rfl (by kernel_rfl) (Sound.lay (E := [some ⟨[], 25, false, true⟩]) [] (toHeapN x1 y1 z1) trivial rfl trivial rfl (by first | rfl | simp [mpV, mpA, mpS, mpP, renId, shift]) (by first | rfl | simp [mpV, mpA, mpS, mpP, renId, shift]) ⟨enX rfl (Or.inl rfl), trivial⟩) ?_
  refine segEnd [2, 3, 6, 7, 8] (T1 := (mkT 119 [(2, vP 0 0), (3, vP 1 0), (6, vP 4 0), (7, .bool false), (8, vP 6 0)])) (H1 := [rB [vI x1, vI y1, vI z1, .slice none 0 0] 24, rB [vI x2, vI y2, vI z2, .slice none 0 0] 24, some ⟨[], 25, false, true⟩, some ⟨[], 25, false, true⟩, rB [vI 0, vI 0, vI 0, .slice none 0 0] 29, some ⟨[], 25, false, true⟩, rB [vI x1, vI y1, vI z1, vS 5 0] 29]) (by kernel_rfl) ?_
  refine kSeq ?_
  refine cSeq ?_
  refine cReg ?_
  refine segH 1 (T1 := (mkT 119 [(2, vP 0 0), (3, vP 1 0), (6, vP 4 0), (7, .bool false), (8, vP 6 0), (37, .agg #[vI x2, vI y2, vI z2, .slice none 0 0])])) (by kernel_rfl) ?_
  refine rCall (v := .agg #[vI x2, vI y2, vI z2, vS 7 0]) (args := [.agg #[vI x2, vI y2, vI z2, .slice none 0 0]]) (by kernel_rfl) rfl (by kernel_rfl) (Sound.lay (E := [some ⟨[], 25, false, true⟩]) [] (toHeapN x2 y2 z2) trivial rfl trivial rfl (by first | rfl | simp [mpV, mpA, mpS, mpP, renId, shift]) (by first | rfl | simp [mpV, mpA, mpS, mpP, renId, shift]) ⟨enX rfl (Or.inl rfl), trivial⟩) ?_
  refine segEnd [2, 3, 6, 7, 8, 9] (T1 := (mkT 119 [(2, vP 0 0), (3, vP 1 0), (6, vP 4 0), (7, .bool false), (8, vP 6 0), (9, vP 8 0)])) (H1 := [rB [vI x1, vI y1, vI z1, .slice none 0 0] 24, rB [vI x2, vI y2, vI z2, .slice none 0 0] 24, some ⟨[], 25, false, true⟩, some ⟨[], 25, false, true⟩, rB [vI 0, vI 0, vI 0, .slice none 0 0] 29, some ⟨[], 25, false, true⟩, rB [vI x1, vI y1, vI z1, vS 5 0] 29, some ⟨[], 25, false, true⟩, rB [vI x2, vI y2, vI z2, vS 7 0] 29]) (by kernel_rfl) ?_
  refine kSeq ?_
  refine cSeq ?_
  refine cReg ?_
  refine segH 2 (T1 := (mkT 119 [(2, vP 0 0), (3, vP 1 0), (6, vP 4 0), (7, .bool false), (8, vP 6 0), (9, vP 8 0), (40, .agg #[vI x1, vI y1, vI z1, vS 5 0]), (41, .agg #[vI x2, vI y2, vI z2, vS 7 0])])) (by kernel_rfl) ?_
  refine rCall (v := .tuple #[.agg #[vI 0, vI 0, vI 0, .slice none 0 0], .bool false]) (args := [.agg #[vI x1, vI y1, vI z1, vS 5 0], .agg #[vI x2, vI y2, vI z2, vS 7 0]]) (by kernel_rfl) rfl (by kernel_rfl) (Sound.lay0 [5, 7] (implJoinHeaps_no x1 y1 z1 ([] : List A3) x2 y2 z2 ([] : List A3) (by first | assumption | omega | rfl | decide | exact HeapL.list _ _ _ _ | exact HeapL.nil _ _ _ | exact HeapL.all _ _ _ | (apply HeapL.lt64 <;> assumption) | (repeat' (first | assumption | apply or_lt64 | apply and_lt64 | apply andn_lt64 | apply pow_lt64 | (apply HeapL.lt64 <;> assumption)))) (by first | assumption | omega | rfl | decide | exact HeapL.list _ _ _ _ | exact HeapL.nil _ _ _ | exact HeapL.all _ _ _ | (apply HeapL.lt64 <;> assumption) | (repeat' (first | assumption | apply or_lt64 | apply and_lt64 | apply andn_lt64 | apply pow_lt64 | (apply HeapL.lt64 <;> assumption)))) (by first | assumption | omega | rfl | decide | exact HeapL.list _ _ _ _ | exact HeapL.nil _ _ _ | exact HeapL.all _ _ _ | (apply HeapL.lt64 <;> assumption) | (repeat' (first | assumption | apply or_lt64 | apply and_lt64 | apply andn_lt64 | apply pow_lt64 | (apply HeapL.lt64 <;> assumption))))) ⟨rdF true (flatA3 _ _ _ _) rfl rfl, ⟨rdF true (flatA3 _ _ _ _) rfl rfl, trivial⟩⟩ rfl ⟨clF (flatA3 _ _ _ _), ⟨clF (flatA3 _ _ _ _), trivial⟩⟩ rfl (by first | rfl | simp [mpV, mpA, mpS, mpP, renId, shift]) (by first | rfl | simp [mpV, mpA, mpS, mpP, renId, shift])) ?_
  refine segEnd [2, 3, 6, 7, 8, 9, 10, 11] (T1 := (mkT 119 [(2, vP 0 0), (3, vP 1 0), (6, vP 4 0), (7, .bool false), (8, vP 6 0), (9, vP 8 0), (10, vP 9 0), (11, .bool false)])) (H1 := [rB [vI x1, vI y1, vI z1, .slice none 0 0] 24, rB [vI x2, vI y2, vI z2, .slice none 0 0] 24, some ⟨[], 25, false, true⟩, some ⟨[], 25, false, true⟩, rB [vI 0, vI 0, vI 0, .slice none 0 0] 29, some ⟨[], 25, false, true⟩, rB [vI x1, vI y1, vI z1, vS 5 0] 29, some ⟨[], 25, false, true⟩, rB [vI x2, vI y2, vI z2, vS 7 0] 29, rB [vI 0, vI 0, vI 0, .slice none 0 0] 29]) (by kernel_rfl) ?_
  refine kSeq ?_
  refine cSeq ?_
  refine cSeq ?_
  refine cReg ?_
  refine segH 2 (T1 := (mkT 119 [(2, vP 0 0), (3, vP 1 0), (6, vP 4 0), (7, .bool false), (8, vP 6 0), (9, vP 8 0), (10, vP 9 0), (11, .bool false), (45, .agg #[vI 0, vI 0, vI 0, .slice none 0 0]), (46, .agg #[vI 0, vI 0, vI 0, .slice none 0 0])])) (by kernel_rfl) ?_
  refine rCall (v := .bool true) (args := [.agg #[vI 0, vI 0, vI 0, .slice none 0 0], .agg #[vI 0, vI 0, vI 0, .slice none 0 0]]) (by kernel_rfl) rfl (by kernel_rfl) (Sound.lay0 [] (eqHeapN) trivial rfl trivial rfl (by first | rfl | simp [mpV, mpA, mpS, mpP, renId, shift]) rfl) ?_
  refine segEndH [2, 3, 6, 7, 8, 9, 10, 11, 53] (T1 := (mkT 119 [(2, vP 0 0), (3, vP 1 0), (6, vP 4 0), (7, .bool false), (8, vP 6 0), (9, vP 8 0), (10, vP 9 0), (11, .bool false), (53, .bool false)])) (by kernel_rfl) ?_
  refine kSeq ?_
  refine cFalse (by kernel_rfl) ?_
  refine cSkip ?_
  refine kSeq ?_
  refine cSeq ?_
  refine cSeq ?_
  refine cRegW (N := 11) [⟨[], [], [6]⟩, ⟨[], [], [0]⟩, ⟨[10], [], []⟩, ⟨[], [], [5, 10]⟩, ⟨[], [], []⟩] 1 [10] (by rfl) (by rfl) (by kernel_rfl) (by kernel_rfl) (by kernel_rfl) ⟨nmsX (by kernel_rfl), ⟨nmsX (by kernel_rfl), ⟨nmsX (by kernel_rfl), ⟨nmsX (by kernel_rfl), ⟨nmsX (by kernel_rfl), ⟨nmsX (by kernel_rfl), ⟨nmsX (by kernel_rfl), ⟨nmsX (by kernel_rfl), ⟨nmsX (by kernel_rfl), ⟨nmsX (by kernel_rfl), trivial⟩⟩⟩⟩⟩⟩⟩⟩⟩⟩ ?_
  refine segWH 2 (T1 := (mkT 119 [(2, vP 0 0), (3, vP 1 0), (6, vP 4 0), (7, .bool false), (8, vP 6 0), (9, vP 8 0), (10, vP 9 0), (11, .bool false), (53, .bool false), (54, .agg #[vI x1, vI y1, vI z1, vS 5 0]), (55, .agg #[vI x1, vI y1, vI z1, .slice none 0 0])])) (by kernel_rfl) ?_
  refine rW (m := ⟨[10], [], []⟩) (v := .agg #[vI x1, vI y1, vI z1, vS 10 0]) rfl (by kernel_rfl) (stN (i := 10) (E := [some ⟨[], 25, false, true⟩]) (v1 := .agg #[vI x1, vI y1, vI z1, vS 11 0]) (args := [.agg #[vI x1, vI y1, vI z1, .slice none 0 0]]) rfl (by kernel_rfl) (Any.lay [] (toHeapN x1 y1 z1) trivial rfl trivial rfl (by first | rfl | simp [mpV, mpA, mpS, mpP, renId, shift]) (by first | rfl | simp [mpV, mpA, mpS, mpP, renId, shift]) ⟨enX rfl (Or.inl rfl), trivial⟩) rfl (by kernel_rfl) (by kernel_rfl) (by kernel_rfl) (by kernel_rfl) (FlatH.cons (flatRow_of rfl) FlatH.nil)) (by kernel_rfl) (NRs.all ⟨nrOf (by rfl) (nmX (by kernel_rfl)), trivial⟩) ?_
  refine rW (m := ⟨[], [], [5, 10]⟩) (v := .bool true) rfl (by kernel_rfl) (stQ (args := [.agg #[vI x1, vI y1, vI z1, vS 5 0], .agg #[vI x1, vI y1, vI z1, vS 10 0]]) rfl (by kernel_rfl) (Any.lay0 [5, 10] (eqHeapB x1 y1 z1 ([] : List A3) (by first | omega | assumption | (simp; done))) ⟨rdF true (flatA3 _ _ _ _) rfl rfl, ⟨rdF true (flatA3 _ _ _ _) rfl rfl, trivial⟩⟩ rfl ⟨clF (flatA3 _ _ _ _), ⟨clF (flatA3 _ _ _ _), trivial⟩⟩ rfl (by first | rfl | simp [mpV, mpA, mpS, mpP, renId, shift]) rfl) rfl (by kernel_rfl) (by kernel_rfl)) (by kernel_rfl) nr0 ?_
  refine segEndW [2, 3, 6, 7, 8, 9, 10, 11, 58] (T1 := (mkT 119 [(2, vP 0 0), (3, vP 1 0), (6, vP 4 0), (7, .bool false), (8, vP 6 0), (9, vP 8 0), (10, vP 9 0), (11, .bool false), (58, .bool false)])) (H1 := [rB [vI x1, vI y1, vI z1, .slice none 0 0] 24, rB [vI x2, vI y2, vI z2, .slice none 0 0] 24, some ⟨[], 25, false, true⟩, some ⟨[], 25, false, true⟩, rB [vI 0, vI 0, vI 0, .slice none 0 0] 29, some ⟨[], 25, false, true⟩, rB [vI x1, vI y1, vI z1, vS 5 0] 29, some ⟨[], 25, false, true⟩, rB [vI x2, vI y2, vI z2, vS 7 0] 29, rB [vI 0, vI 0, vI 0, .slice none 0 0] 29, some ⟨[], 25, false, true⟩]) (by kernel_rfl) ?_
  refine kSeq ?_
  refine cFalse (by kernel_rfl) ?_
  refine cSkip ?_
  refine kSeq ?_
  refine cSeq ?_
  refine cSeq ?_
  refine cRegW (N := 12) [⟨[], [], [8]⟩, ⟨[], [], [1]⟩, ⟨[11], [], []⟩, ⟨[], [], [7, 11]⟩, ⟨[], [], []⟩] 1 [11] (by rfl) (by rfl) (by kernel_rfl) (by kernel_rfl) (by kernel_rfl) ⟨nmsX (by kernel_rfl), ⟨nmsX (by kernel_rfl), ⟨nmsX (by kernel_rfl), ⟨nmsX (by kernel_rfl), ⟨nmsX (by kernel_rfl), ⟨nmsX (by kernel_rfl), ⟨nmsX (by kernel_rfl), ⟨nmsX (by kernel_rfl), ⟨nmsX (by kernel_rfl), ⟨nmsX (by kernel_rfl), ⟨nmsX (by kernel_rfl), trivial⟩⟩⟩⟩⟩⟩⟩⟩⟩⟩⟩ ?_
  refine segWH 2 (T1 := (mkT 119 [(2, vP 0 0), (3, vP 1 0), (6, vP 4 0), (7, .bool false), (8, vP 6 0), (9, vP 8 0), (10, vP 9 0), (11, .bool false), (58, .bool false), (59, .agg #[vI x2, vI y2, vI z2, vS 7 0]), (60, .agg #[vI x2, vI y2, vI z2, .slice none 0 0])])) (by kernel_rfl) ?_
  refine rW (m := ⟨[11], [], []⟩) (v := .agg #[vI x2, vI y2, vI z2, vS 11 0]) rfl (by kernel_rfl) (stN (i := 11) (E := [some ⟨[], 25, false, true⟩]) (v1 := .agg #[vI x2, vI y2, vI z2, vS 12 0]) (args := [.agg #[vI x2, vI y2, vI z2, .slice none 0 0]]) rfl (by kernel_rfl) (Any.lay [] (toHeapN x2 y2 z2) trivial rfl trivial rfl (by first | rfl | simp [mpV, mpA, mpS, mpP, renId, shift]) (by first | rfl | simp [mpV, mpA, mpS, mpP, renId, shift]) ⟨enX rfl (Or.inl rfl), trivial⟩) rfl (by kernel_rfl) (by kernel_rfl) (by kernel_rfl) (by kernel_rfl) (FlatH.cons (flatRow_of rfl) FlatH.nil)) (by kernel_rfl) (NRs.all ⟨nrOf (by rfl) (nmX (by kernel_rfl)), trivial⟩) ?_
  refine rW (m := ⟨[], [], [7, 11]⟩) (v := .bool true) rfl (by kernel_rfl) (stQ (args := [.agg #[vI x2, vI y2, vI z2, vS 7 0], .agg #[vI x2, vI y2, vI z2, vS 11 0]]) rfl (by kernel_rfl) (Any.lay0 [7, 11] (eqHeapB x2 y2 z2 ([] : List A3) (by first | omega | assumption | (simp; done))) ⟨rdF true (flatA3 _ _ _ _) rfl rfl, ⟨rdF true (flatA3 _ _ _ _) rfl rfl, trivial⟩⟩ rfl ⟨clF (flatA3 _ _ _ _), ⟨clF (flatA3 _ _ _ _), trivial⟩⟩ rfl (by first | rfl | simp [mpV, mpA, mpS, mpP, renId, shift]) rfl) rfl (by kernel_rfl) (by kernel_rfl)) (by kernel_rfl) nr0 ?_
  refine segEndW [2, 3, 6, 7, 8, 9, 10, 11, 63] (T1 := (mkT 119 [(2, vP 0 0), (3, vP 1 0), (6, vP 4 0), (7, .bool false), (8, vP 6 0), (9, vP 8 0), (10, vP 9 0), (11, .bool false), (63, .bool false)])) (H1 := [rB [vI x1, vI y1, vI z1, .slice none 0 0] 24, rB [vI x2, vI y2, vI z2, .slice none 0 0] 24, some ⟨[], 25, false, true⟩, some ⟨[], 25, false, true⟩, rB [vI 0, vI 0, vI 0, .slice none 0 0] 29, some ⟨[], 25, false, true⟩, rB [vI x1, vI y1, vI z1, vS 5 0] 29, some ⟨[], 25, false, true⟩, rB [vI x2, vI y2, vI z2, vS 7 0] 29, rB [vI 0, vI 0, vI 0, .slice none 0 0] 29, some ⟨[], 25, false, true⟩, some ⟨[], 25, false, true⟩]) (by kernel_rfl) ?_
  refine kSeq ?_
  refine cFalse (by kernel_rfl) ?_
  refine cSkip ?_
  refine kSeq ?_
  refine cSeq ?_
  refine cReg ?_
  refine segEndH [2, 3, 6, 7, 8, 9, 10, 11, 12] (T1 := (mkT 119 [(2, vP 0 0), (3, vP 1 0), (6, vP 4 0), (7, .bool false), (8, vP 6 0), (9, vP 8 0), (10, vP 9 0), (11, .bool false), (12, vI 1)])) (by kernel_rfl) ?_
  refine kSeq ?_
  refine cSeq ?_
  refine cReg ?_
  refine segH 2 (T1 := (mkT 119 [(2, vP 0 0), (3, vP 1 0), (6, vP 4 0), (7, .bool false), (8, vP 6 0), (9, vP 8 0), (10, vP 9 0), (11, .bool false), (12, vI 1), (64, .agg #[vI x1, vI y1, vI z1, vS 5 0]), (65, vI 1)])) (by kernel_rfl) ?_
  refine rCall (v := vN (1 + 3 * ([] : List A3).length)) (args := [.agg #[vI x1, vI y1, vI z1, vS 5 0], vI 1]) (by kernel_rfl) rfl (by kernel_rfl) (Sound.emb_set (r := ⟨a3s ([] : List A3), 25, false, true⟩) (r' := ⟨a3s (mk3 1 ([] : List A3).length), 25, false, true⟩) 5 (markHeapB x1 y1 z1 ([] : List A3) 1 (by first | omega | assumption | (simp; done)) (by first | assumption | omega | rfl | decide | exact HeapL.list _ _ _ _ | exact HeapL.nil _ _ _ | exact HeapL.all _ _ _ | (apply HeapL.lt64 <;> assumption) | (repeat' (first | assumption | apply or_lt64 | apply and_lt64 | apply andn_lt64 | apply pow_lt64 | (apply HeapL.lt64 <;> assumption))))) (flatA3 _ _ _ _) rfl (flatA3 _ _ _ _) rfl rfl rfl (by first | rfl | simp [mpV, mpA, mpS, mpP, renId, shift]) rfl) ?_
  refine segEnd [2, 3, 6, 7, 9, 10, 11, 12] (T1 := (mkT 119 [(2, vP 0 0), (3, vP 1 0), (6, vP 4 0), (7, .bool false), (9, vP 8 0), (10, vP 9 0), (11, .bool false), (12, vN (1 + 3 * ([] : List A3).length))])) (H1 := [rB [vI x1, vI y1, vI z1, .slice none 0 0] 24, rB [vI x2, vI y2, vI z2, .slice none 0 0] 24, some ⟨[], 25, false, true⟩, some ⟨[], 25, false, true⟩, rB [vI 0, vI 0, vI 0, .slice none 0 0] 29, some ⟨a3s (mk3 1 ([] : List A3).length), 25, false, true⟩, rB [vI x1, vI y1, vI z1, vS 5 0] 29, some ⟨[], 25, false, true⟩, rB [vI x2, vI y2, vI z2, vS 7 0] 29, rB [vI 0, vI 0, vI 0, .slice none 0 0] 29, some ⟨[], 25, false, true⟩, some ⟨[], 25, false, true⟩]) (by kernel_rfl) ?_
  refine kSeq ?_
  refine cSeq ?_
  refine cReg ?_
  refine segH 2 (T1 := (mkT 119 [(2, vP 0 0), (3, vP 1 0), (6, vP 4 0), (7, .bool false), (9, vP 8 0), (10, vP 9 0), (11, .bool false), (12, vN (1 + 3 * ([] : List A3).length)), (67, .agg #[vI x2, vI y2, vI z2, vS 7 0]), (68, vN (1 + 3 * ([] : List A3).length))])) (by kernel_rfl) ?_
  refine rCall (v := vN ((1 + 3 * ([] : List A3).length) + 3 * ([] : List A3).length)) (args := [.agg #[vI x2, vI y2, vI z2, vS 7 0], vN (1 + 3 * ([] : List A3).length)]) (by kernel_rfl) rfl (by kernel_rfl) (Sound.emb_set (r := ⟨a3s ([] : List A3), 25, false, true⟩) (r' := ⟨a3s (mk3 (1 + 3 * ([] : List A3).length) ([] : List A3).length), 25, false, true⟩) 7 (markHeapB x2 y2 z2 ([] : List A3) (1 + 3 * ([] : List A3).length) (by first | omega | assumption | (simp; done)) (by first | assumption | omega | rfl | decide | exact HeapL.list _ _ _ _ | exact HeapL.nil _ _ _ | exact HeapL.all _ _ _ | (apply HeapL.lt64 <;> assumption) | (repeat' (first | assumption | apply or_lt64 | apply and_lt64 | apply andn_lt64 | apply pow_lt64 | (apply HeapL.lt64 <;> assumption))))) (flatA3 _ _ _ _) rfl (flatA3 _ _ _ _) rfl rfl rfl (by first | rfl | simp [mpV, mpA, mpS, mpP, renId, shift]) rfl) ?_
  refine segEnd [2, 3, 6, 7, 10, 11, 12] (T1 := (mkT 119 [(2, vP 0 0), (3, vP 1 0), (6, vP 4 0), (7, .bool false), (10, vP 9 0), (11, .bool false), (12, vN ((1 + 3 * ([] : List A3).length) + 3 * ([] : List A3).length))])) (H1 := [rB [vI x1, vI y1, vI z1, .slice none 0 0] 24, rB [vI x2, vI y2, vI z2, .slice none 0 0] 24, some ⟨[], 25, false, true⟩, some ⟨[], 25, false, true⟩, rB [vI 0, vI 0, vI 0, .slice none 0 0] 29, some ⟨a3s (mk3 1 ([] : List A3).length), 25, false, true⟩, rB [vI x1, vI y1, vI z1, vS 5 0] 29, some ⟨a3s (mk3 (1 + 3 * ([] : List A3).length) ([] : List A3).length), 25, false, true⟩, rB [vI x2, vI y2, vI z2, vS 7 0] 29, rB [vI 0, vI 0, vI 0, .slice none 0 0] 29, some ⟨[], 25, false, true⟩, some ⟨[], 25, false, true⟩]) (by kernel_rfl) ?_
  refine kSeq ?_
  refine cSeq ?_
  refine cSeq ?_
  refine cReg ?_
  refine segH 3 (T1 := (mkT 119 [(2, vP 0 0), (3, vP 1 0), (6, vP 4 0), (7, .bool false), (10, vP 9 0), (11, .bool false), (12, vN ((1 + 3 * ([] : List A3).length) + 3 * ([] : List A3).length)), (70, vN ((1 + 3 * ([] : List A3).length) + 3 * ([] : List A3).length)), (71, .bool (decide ((((1 + 3 * ([] : List A3).length) + 3 * ([] : List A3).length : Nat) : Int) < 0))), (72, .bool (decide ((((1 + 3 * ([] : List A3).length) + 3 * ([] : List A3).length : Nat) : Int) < 0)))])) (by kernel_rfl) ?_
  cases h1 : (decide ((((1 + 3 * ([] : List A3).length) + 3 * ([] : List A3).length : Nat) : Int) < 0) : Bool)
  ·
    (try simp only [Bool.not_eq_true', Bool.not_eq_false', decide_eq_true_eq, decide_eq_false_iff_not, beq_iff_eq, bne_iff_ne, beq_eq_false_iff_ne, bne_eq_false_iff_eq, ne_eq, Decidable.not_not, Bool.and_eq_true, Bool.and_eq_false_imp, Bool.or_eq_true, Bool.or_eq_false_iff, Bool.not_eq_true, Int.not_lt, Int.not_le, ge_iff_le, gt_iff_lt] at h1)
    refine seg 2 (T1 := (mkT 119 [(2, vP 0 0), (3, vP 1 0), (6, vP 4 0), (7, .bool false), (10, vP 9 0), (11, .bool false), (12, vN ((1 + 3 * ([] : List A3).length) + 3 * ([] : List A3).length)), (70, vN ((1 + 3 * ([] : List A3).length) + 3 * ([] : List A3).length)), (71, .bool false), (72, .bool false), (73, .agg #[vI 0, vI 0, vI 0, .slice none 0 0]), (74, .agg #[vI 0, vI 0, vI 0, .slice none 0 0])])) (H1 := [rB [vI x1, vI y1, vI z1, .slice none 0 0] 24, rB [vI x2, vI y2, vI z2, .slice none 0 0] 24, some ⟨[], 25, false, true⟩, some ⟨[], 25, false, true⟩, rB [vI 0, vI 0, vI 0, .slice none 0 0] 29, some ⟨a3s (mk3 1 ([] : List A3).length), 25, false, true⟩, rB [vI x1, vI y1, vI z1, vS 5 0] 29, some ⟨a3s (mk3 (1 + 3 * ([] : List A3).length) ([] : List A3).length), 25, false, true⟩, rB [vI x2, vI y2, vI z2, vS 7 0] 29, rB [vI 0, vI 0, vI 0, .slice none 0 0] 29, some ⟨[], 25, false, true⟩, some ⟨[], 25, false, true⟩]) (by kernel_rfl) ?_
    refine rCall (v := .bool true) (args := [.agg #[vI 0, vI 0, vI 0, .slice none 0 0], .agg #[vI 0, vI 0, vI 0, .slice none 0 0]]) (by kernel_rfl) rfl (by kernel_rfl) (Sound.lay0 [] (eqHeapN) trivial rfl trivial rfl (by first | rfl | simp [mpV, mpA, mpS, mpP, renId, shift]) rfl) ?_
    refine segEnd [2, 3, 6, 7, 10, 82] (T1 := (mkT 119 [(2, vP 0 0), (3, vP 1 0), (6, vP 4 0), (7, .bool false), (10, vP 9 0), (82, .bool false)])) (H1 := [rB [vI x1, vI y1, vI z1, .slice none 0 0] 24, rB [vI x2, vI y2, vI z2, .slice none 0 0] 24, some ⟨[], 25, false, true⟩, some ⟨[], 25, false, true⟩, rB [vI 0, vI 0, vI 0, .slice none 0 0] 29, some ⟨a3s (mk3 1 ([] : List A3).length), 25, false, true⟩, rB [vI x1, vI y1, vI z1, vS 5 0] 29, some ⟨a3s (mk3 (1 + 3 * ([] : List A3).length) ([] : List A3).length), 25, false, true⟩, rB [vI x2, vI y2, vI z2, vS 7 0] 29, rB [vI 0, vI 0, vI 0, .slice none 0 0] 29, some ⟨[], 25, false, true⟩, some ⟨[], 25, false, true⟩]) (by kernel_rfl) ?_
    refine kSeq ?_
    refine cFalse (by kernel_rfl) ?_
    refine cSkip ?_
    refine kSeq ?_
    refine cSeq ?_
    refine cReg ?_
    refine segEndH [2, 3, 6, 7, 10, 13] (T1 := (mkT 119 [(2, vP 0 0), (3, vP 1 0), (6, vP 4 0), (7, .bool false), (10, vP 9 0), (13, vI 1)])) (by kernel_rfl) ?_
    refine kSeq ?_
    refine cSeq ?_
    refine cReg ?_
    refine segH 2 (T1 := (mkT 119 [(2, vP 0 0), (3, vP 1 0), (6, vP 4 0), (7, .bool false), (10, vP 9 0), (13, vI 1), (83, .agg #[vI 0, vI 0, vI 0, .slice none 0 0]), (84, vI 1)])) (by kernel_rfl) ?_
    refine rCall (v := vI 1) (args := [.agg #[vI 0, vI 0, vI 0, .slice none 0 0], vI 1]) (by kernel_rfl) rfl (by kernel_rfl) (Sound.lay0 [] (markHeapN 1) trivial rfl trivial rfl (by first | rfl | simp [mpV, mpA, mpS, mpP, renId, shift]) rfl) ?_
    refine segEndH [2, 3, 6, 7, 10, 13] (T1 := (mkT 119 [(2, vP 0 0), (3, vP 1 0), (6, vP 4 0), (7, .bool false), (10, vP 9 0), (13, vI 1)])) (by kernel_rfl) ?_
    refine kSeq ?_
    refine cSeq ?_
    refine cReg ?_
    refine segEndH [2, 3, 6, 7, 10, 13, 14] (T1 := (mkT 119 [(2, vP 0 0), (3, vP 1 0), (6, vP 4 0), (7, .bool false), (10, vP 9 0), (13, vI 1), (14, vI 1)])) (by kernel_rfl) ?_
    refine kSeq ?_
    refine cSeq ?_
    refine cReg ?_
    refine segH 2 (T1 := (mkT 119 [(2, vP 0 0), (3, vP 1 0), (6, vP 4 0), (7, .bool false), (10, vP 9 0), (13, vI 1), (14, vI 1), (86, .agg #[vI 0, vI 0, vI 0, .slice none 0 0]), (87, vI 1)])) (by kernel_rfl) ?_
    refine rCall (v := vI 1) (args := [.agg #[vI 0, vI 0, vI 0, .slice none 0 0], vI 1]) (by kernel_rfl) rfl (by kernel_rfl) (Sound.lay0 [] (heldHeapN) trivial rfl trivial rfl (by first | rfl | simp [mpV, mpA, mpS, mpP, renId, shift]) rfl) ?_
    refine segEndH [2, 3, 6, 7, 10, 13, 14] (T1 := (mkT 119 [(2, vP 0 0), (3, vP 1 0), (6, vP 4 0), (7, .bool false), (10, vP 9 0), (13, vI 1), (14, vI 1)])) (by kernel_rfl) ?_
    refine kSeq ?_
    refine cSeq ?_
    refine cSeq ?_
    refine cReg ?_
    refine segEndH [2, 3, 6, 7, 10, 13, 14, 90] (T1 := (mkT 119 [(2, vP 0 0), (3, vP 1 0), (6, vP 4 0), (7, .bool false), (10, vP 9 0), (13, vI 1), (14, vI 1), (90, .bool false)])) (by kernel_rfl) ?_
    refine kSeq ?_
    refine cFalse (by kernel_rfl) ?_
    refine cSkip ?_
    refine kSeq ?_
    refine cSeq ?_
    refine cSeq ?_
    refine cReg ?_
    refine segEndH [2, 3, 6, 7, 10, 13, 93] (T1 := (mkT 119 [(2, vP 0 0), (3, vP 1 0), (6, vP 4 0), (7, .bool false), (10, vP 9 0), (13, vI 1), (93, .bool false)])) (by kernel_rfl) ?_
    refine kSeq ?_
    refine cFalse (by kernel_rfl) ?_
    refine cSkip ?_
    refine kSeq ?_
    refine cSeq ?_
    refine cRegW (N := 15) [⟨[], [], [0]⟩, ⟨[12], [], []⟩, ⟨[], [], [1]⟩, ⟨[13], [], []⟩, ⟨[], [], [12, 13]⟩, ⟨[], [], []⟩, ⟨[], [], []⟩, ⟨[], [], []⟩, ⟨[14], [], []⟩, ⟨[], [14], []⟩, ⟨[], [], []⟩] 3 [12, 13, 14] (by rfl) (by rfl) (by kernel_rfl) (by kernel_rfl) (by kernel_rfl) ⟨nmsX (by kernel_rfl), ⟨nmsX (by kernel_rfl), ⟨nmsX (by kernel_rfl), ⟨nmsX (by kernel_rfl), ⟨nmsX (by kernel_rfl), ⟨nmsF (flatA3 _ _ _ _), ⟨nmsX (by kernel_rfl), ⟨nmsF (flatA3 _ _ _ _), ⟨nmsX (by kernel_rfl), ⟨nmsX (by kernel_rfl), ⟨nmsX (by kernel_rfl), ⟨nmsX (by kernel_rfl), trivial⟩⟩⟩⟩⟩⟩⟩⟩⟩⟩⟩⟩ ?_
    refine segWH 1 (T1 := (mkT 119 [(2, vP 0 0), (3, vP 1 0), (6, vP 4 0), (7, .bool false), (10, vP 9 0), (13, vI 1), (93, .bool false), (95, .agg #[vI x1, vI y1, vI z1, .slice none 0 0])])) (by kernel_rfl) ?_
    refine rW (m := ⟨[12], [], []⟩) (v := .agg #[vI x1, vI y1, vI z1, vS 12 0]) rfl (by kernel_rfl) (stN (i := 12) (E := [some ⟨[], 25, false, true⟩]) (v1 := .agg #[vI x1, vI y1, vI z1, vS 15 0]) (args := [.agg #[vI x1, vI y1, vI z1, .slice none 0 0]]) rfl (by kernel_rfl) (Any.lay [] (toHeapN x1 y1 z1) trivial rfl trivial rfl (by first | rfl | simp [mpV, mpA, mpS, mpP, renId, shift]) (by first | rfl | simp [mpV, mpA, mpS, mpP, renId, shift]) ⟨enX rfl (Or.inl rfl), trivial⟩) rfl (by kernel_rfl) (by kernel_rfl) (by kernel_rfl) (by kernel_rfl) (FlatH.cons (flatRow_of rfl) FlatH.nil)) (by kernel_rfl) (NRs.all ⟨nrOf (by rfl) (nmX (by kernel_rfl)), trivial⟩) ?_
    refine segWH 1 (T1 := (mkT 119 [(2, vP 0 0), (3, vP 1 0), (6, vP 4 0), (7, .bool false), (10, vP 9 0), (13, vI 1), (93, .bool false), (95, .agg #[vI x1, vI y1, vI z1, .slice none 0 0]), (96, .agg #[vI x1, vI y1, vI z1, vS 12 0]), (97, .agg #[vI x2, vI y2, vI z2, .slice none 0 0])])) (by kernel_rfl) ?_
    refine rW (m := ⟨[13], [], []⟩) (v := .agg #[vI x2, vI y2, vI z2, vS 13 0]) rfl (by kernel_rfl) (stN (i := 13) (E := [some ⟨[], 25, false, true⟩]) (v1 := .agg #[vI x2, vI y2, vI z2, vS 15 0]) (args := [.agg #[vI x2, vI y2, vI z2, .slice none 0 0]]) rfl (by kernel_rfl) (Any.lay [] (toHeapN x2 y2 z2) trivial rfl trivial rfl (by first | rfl | simp [mpV, mpA, mpS, mpP, renId, shift]) (by first | rfl | simp [mpV, mpA, mpS, mpP, renId, shift]) ⟨enX rfl (Or.inl rfl), trivial⟩) rfl (by kernel_rfl) (by kernel_rfl) (by kernel_rfl) (by kernel_rfl) (FlatH.cons (flatRow_of rfl) FlatH.nil)) (by kernel_rfl) (NRs.all ⟨nrOf (by rfl) (nmX (by kernel_rfl)), trivial⟩) ?_
    refine rW (m := ⟨[], [], [12, 13]⟩) (v := .tuple #[.agg #[vI 0, vI 0, vI 0, .slice none 0 0], .bool false]) rfl (by kernel_rfl) (stQ (args := [.agg #[vI x1, vI y1, vI z1, vS 12 0], .agg #[vI x2, vI y2, vI z2, vS 13 0]]) rfl (by kernel_rfl) (Any.lay0 [12, 13] (implJoinHeaps_no x1 y1 z1 ([] : List A3) x2 y2 z2 ([] : List A3) (by first | assumption | omega | rfl | decide | exact HeapL.list _ _ _ _ | exact HeapL.nil _ _ _ | exact HeapL.all _ _ _ | (apply HeapL.lt64 <;> assumption) | (repeat' (first | assumption | apply or_lt64 | apply and_lt64 | apply andn_lt64 | apply pow_lt64 | (apply HeapL.lt64 <;> assumption)))) (by first | assumption | omega | rfl | decide | exact HeapL.list _ _ _ _ | exact HeapL.nil _ _ _ | exact HeapL.all _ _ _ | (apply HeapL.lt64 <;> assumption) | (repeat' (first | assumption | apply or_lt64 | apply and_lt64 | apply andn_lt64 | apply pow_lt64 | (apply HeapL.lt64 <;> assumption)))) (by first | assumption | omega | rfl | decide | exact HeapL.list _ _ _ _ | exact HeapL.nil _ _ _ | exact HeapL.all _ _ _ | (apply HeapL.lt64 <;> assumption) | (repeat' (first | assumption | apply or_lt64 | apply and_lt64 | apply andn_lt64 | apply pow_lt64 | (apply HeapL.lt64 <;> assumption))))) ⟨rdF true (flatA3 _ _ _ _) rfl rfl, ⟨rdF true (flatA3 _ _ _ _) rfl rfl, trivial⟩⟩ rfl ⟨clF (flatA3 _ _ _ _), ⟨clF (flatA3 _ _ _ _), trivial⟩⟩ rfl (by first | rfl | simp [mpV, mpA, mpS, mpP, renId, shift]) (by first | rfl | simp [mpV, mpA, mpS, mpP, renId, shift])) rfl (by kernel_rfl) (by kernel_rfl)) (by kernel_rfl) nr0 ?_
    refine segWH 3 (T1 := (mkT 119 [(2, vP 0 0), (3, vP 1 0), (6, vP 4 0), (7, .bool false), (10, vP 9 0), (13, vI 1), (93, .bool false), (94, .tuple #[.agg #[vI 0, vI 0, vI 0, .slice none 0 0], .bool false]), (95, .agg #[vI x1, vI y1, vI z1, .slice none 0 0]), (96, .agg #[vI x1, vI y1, vI z1, vS 12 0]), (97, .agg #[vI x2, vI y2, vI z2, .slice none 0 0]), (98, .agg #[vI x2, vI y2, vI z2, vS 13 0]), (99, .tuple #[.agg #[vI 0, vI 0, vI 0, .slice none 0 0], .bool false]), (100, .agg #[vI 0, vI 0, vI 0, .slice none 0 0]), (101, .bool false)])) (by kernel_rfl) ?_
    refine rW (m := ⟨[14], [], []⟩) (v := vP 14 0) rfl (by kernel_rfl) (stNew (i := 14) (v1 := vP 15 0) (r := ⟨[vI 0, vI 0, vI 0, .slice none 0 0], 29, true, true⟩) (by kernel_rfl) rfl (by kernel_rfl) (by kernel_rfl) (by kernel_rfl) (by kernel_rfl) (nmX (by kernel_rfl)) (clX (by kernel_rfl))) (by kernel_rfl) (NRs.all ⟨nrOf (by rfl) (nmX (by kernel_rfl)), trivial⟩) ?_
    refine rW (m := ⟨[], [14], []⟩) (v := .tuple #[]) rfl (by kernel_rfl) (stSet (b := 14) (r := ⟨[vI 0, vI 0, vI 0, .slice none 0 0], 29, true, true⟩) (by kernel_rfl) rfl (by kernel_rfl) (by kernel_rfl) (by kernel_rfl) (by kernel_rfl) (nmX (by kernel_rfl)) (clX (by kernel_rfl))) (by kernel_rfl) (NRs.all ⟨nrOf (by rfl) (nmX (by kernel_rfl)), trivial⟩) ?_
    refine segEndW [6, 7, 10, 13, 15, 16] (T1 := (mkT 119 [(6, vP 4 0), (7, .bool false), (10, vP 9 0), (13, vI 1), (15, vP 14 0), (16, .bool false)])) (H1 := [rB [vI x1, vI y1, vI z1, .slice none 0 0] 24, rB [vI x2, vI y2, vI z2, .slice none 0 0] 24, some ⟨[], 25, false, true⟩, some ⟨[], 25, false, true⟩, rB [vI 0, vI 0, vI 0, .slice none 0 0] 29, some ⟨a3s (mk3 1 ([] : List A3).length), 25, false, true⟩, rB [vI x1, vI y1, vI z1, vS 5 0] 29, some ⟨a3s (mk3 (1 + 3 * ([] : List A3).length) ([] : List A3).length), 25, false, true⟩, rB [vI x2, vI y2, vI z2, vS 7 0] 29, rB [vI 0, vI 0, vI 0, .slice none 0 0] 29, some ⟨[], 25, false, true⟩, some ⟨[], 25, false, true⟩, some ⟨[], 25, false, true⟩, some ⟨[], 25, false, true⟩, rB [vI 0, vI 0, vI 0, .slice none 0 0] 29]) (by kernel_rfl) ?_
    refine kSeq ?_
    refine cSeq ?_
    refine cSeq ?_
    refine cReg ?_
    refine segH 2 (T1 := (mkT 119 [(6, vP 4 0), (7, .bool false), (10, vP 9 0), (13, vI 1), (15, vP 14 0), (16, .bool false), (102, .agg #[vI 0, vI 0, vI 0, .slice none 0 0]), (103, .agg #[vI 0, vI 0, vI 0, .slice none 0 0])])) (by kernel_rfl) ?_
    refine rCall (v := .bool true) (args := [.agg #[vI 0, vI 0, vI 0, .slice none 0 0], .agg #[vI 0, vI 0, vI 0, .slice none 0 0]]) (by kernel_rfl) rfl (by kernel_rfl) (Sound.lay0 [] (eqHeapN) trivial rfl trivial rfl (by first | rfl | simp [mpV, mpA, mpS, mpP, renId, shift]) rfl) ?_
    refine segEndH [10, 13, 110] (T1 := (mkT 119 [(10, vP 9 0), (13, vI 1), (110, .bool false)])) (by kernel_rfl) ?_
    refine kSeq ?_
    refine cFalse (by kernel_rfl) ?_
    refine cSkip ?_
    refine kSeq ?_
    refine cSeq ?_
    refine cReg ?_
    refine segEndH [10, 13, 14] (T1 := (mkT 119 [(10, vP 9 0), (13, vI 1), (14, vI 1)])) (by kernel_rfl) ?_
    refine kSeq ?_
    refine cSeq ?_
    refine cReg ?_
    refine segH 2 (T1 := (mkT 119 [(10, vP 9 0), (13, vI 1), (14, vI 1), (111, .agg #[vI 0, vI 0, vI 0, .slice none 0 0]), (112, vI 1)])) (by kernel_rfl) ?_
    refine rCall (v := vI 1) (args := [.agg #[vI 0, vI 0, vI 0, .slice none 0 0], vI 1]) (by kernel_rfl) rfl (by kernel_rfl) (Sound.lay0 [] (heldHeapN) trivial rfl trivial rfl (by first | rfl | simp [mpV, mpA, mpS, mpP, renId, shift]) rfl) ?_
    refine segEndH [13, 14] (T1 := (mkT 119 [(13, vI 1), (14, vI 1)])) (by kernel_rfl) ?_
    refine kSeq ?_
    refine cSeq ?_
    refine cSeq ?_
    refine cReg ?_
    refine segEndH [13, 14, 115] (T1 := (mkT 119 [(13, vI 1), (14, vI 1), (115, .bool false)])) (by kernel_rfl) ?_
    refine kSeq ?_
    refine cFalse (by kernel_rfl) ?_
    refine cSkip ?_
    refine kSeq ?_
    refine cSeq ?_
    refine cSeq ?_
    refine cReg ?_
    refine segEndH [118] (T1 := (mkT 119 [(118, .bool false)])) (by kernel_rfl) ?_
    refine kSeq ?_
    refine cFalse (by kernel_rfl) ?_
    refine cSkip ?_
    refine kSeq ?_
    refine cSeq ?_
    refine cReg ?_
    refine segEndH [4] (T1 := (mkT 119 [(4, .bool true)])) (by kernel_rfl) ?_
    refine kSeq ?_
    refine cRet ?_
    -- end
    exact endQ (Or.inr rfl) (l := [.bool true]) [rB [vI x1, vI y1, vI z1, .slice none 0 0] 24, rB [vI x2, vI y2, vI z2, .slice none 0 0] 24, some ⟨[], 25, false, true⟩, some ⟨[], 25, false, true⟩, rB [vI 0, vI 0, vI 0, .slice none 0 0] 29, some ⟨a3s (mk3 1 ([] : List A3).length), 25, false, true⟩, rB [vI x1, vI y1, vI z1, vS 5 0] 29, some ⟨a3s (mk3 (1 + 3 * ([] : List A3).length) ([] : List A3).length), 25, false, true⟩, rB [vI x2, vI y2, vI z2, vS 7 0] 29, rB [vI 0, vI 0, vI 0, .slice none 0 0] 29, some ⟨[], 25, false, true⟩, some ⟨[], 25, false, true⟩, some ⟨[], 25, false, true⟩, some ⟨[], 25, false, true⟩, rB [vI 0, vI 0, vI 0, .slice none 0 0] 29] (by kernel_rfl) (by first | rfl | kernel_rfl) rfl rfl hcl rfl
  ·
    (try simp only [Bool.not_eq_true', Bool.not_eq_false', decide_eq_true_eq, decide_eq_false_iff_not, beq_iff_eq, bne_iff_ne, beq_eq_false_iff_ne, bne_eq_false_iff_eq, ne_eq, Decidable.not_not, Bool.and_eq_true, Bool.and_eq_false_imp, Bool.or_eq_true, Bool.or_eq_false_iff, Bool.not_eq_true, Int.not_lt, Int.not_le, ge_iff_le, gt_iff_lt] at h1)
    exfalso; omega
end Go.Proofs.Ytenkiofddpjidaa
