/- A law, whole: the walks, and the row. No condition. -/
import Derived.Test.YtenkiofddpjidaaAmJ6
import Derived.Test.YtenkiofddpjidaaAmR
import Derived.WalkKit
import Derived.ProofKit
import Derived.OpenShut
import Derived.ShutString
import Derived.ChangeOld
import Derived.Below
import Derived.SizedLaws
set_option linter.unusedVariables false
set_option linter.unusedSimpArgs false
namespace Go.Proofs.Ytenkiofddpjidaa
open Go.Am Go.RowKit
theorem specMirrorHeap_0R (X : Nat) (Y : Nat) (Z : Nat) (L : List A3) (R : List A3) (hs : Sides X Y Z) (hL : HeapL X Y Z L) (hR : R = listOf X Y Z (setOf Y Z (L.map (mir X Y Z 0)))) : Sound Try.prog 44 [.agg #[vN X, vN Y, vN Z, vS 0 L.length], vI 0] [some ⟨a3s L, 25, false, false⟩] (.tuple #[.agg #[vN X, vN Y, vN Z, vS 1 R.length], .bool true]) [some ⟨a3s L, 25, false, false⟩, some ⟨a3s R, 25, false, true⟩] := by
  subst hR; exact specMirrorHeap_0 X Y Z L hs hL

theorem specMirrorHeap_1R (X : Nat) (Y : Nat) (Z : Nat) (L : List A3) (R : List A3) (hs : Sides X Y Z) (hL : HeapL X Y Z L) (hR : R = listOf X Y Z (setOf Y Z (L.map (mir X Y Z 1)))) : Sound Try.prog 44 [.agg #[vN X, vN Y, vN Z, vS 0 L.length], vI 1] [some ⟨a3s L, 25, false, false⟩] (.tuple #[.agg #[vN X, vN Y, vN Z, vS 1 R.length], .bool true]) [some ⟨a3s L, 25, false, false⟩, some ⟨a3s R, 25, false, true⟩] := by
  subst hR; exact specMirrorHeap_1 X Y Z L hs hL

theorem specMirrorHeap_2R (X : Nat) (Y : Nat) (Z : Nat) (L : List A3) (R : List A3) (hs : Sides X Y Z) (hL : HeapL X Y Z L) (hR : R = listOf X Y Z (setOf Y Z (L.map (mir X Y Z 2)))) : Sound Try.prog 44 [.agg #[vN X, vN Y, vN Z, vS 0 L.length], vI 2] [some ⟨a3s L, 25, false, false⟩] (.tuple #[.agg #[vN X, vN Y, vN Z, vS 1 R.length], .bool true]) [some ⟨a3s L, 25, false, false⟩, some ⟨a3s R, 25, false, true⟩] := by
  subst hR; exact specMirrorHeap_2 X Y Z L hs hL

theorem implMirrorHeap_0R (X : Nat) (Y : Nat) (Z : Nat) (L : List A3) (R : List A3) (hs : Sides X Y Z) (hL : HeapL X Y Z L) (hR : R = listOf X Y Z (setOf Y Z (L.map (mir X Y Z 0)))) : Sound Try.prog 45 [.agg #[vN X, vN Y, vN Z, vS 0 L.length], vI 0] [some ⟨a3s L, 25, false, false⟩] (.tuple #[.agg #[vN X, vN Y, vN Z, vS 1 R.length], .bool true]) [some ⟨a3s L, 25, false, false⟩, some ⟨a3s R, 25, false, true⟩] := by
  subst hR; exact implMirrorHeap_0 X Y Z L hs hL

theorem implMirrorHeap_1R (X : Nat) (Y : Nat) (Z : Nat) (L : List A3) (R : List A3) (hs : Sides X Y Z) (hL : HeapL X Y Z L) (hR : R = listOf X Y Z (setOf Y Z (L.map (mir X Y Z 1)))) : Sound Try.prog 45 [.agg #[vN X, vN Y, vN Z, vS 0 L.length], vI 1] [some ⟨a3s L, 25, false, false⟩] (.tuple #[.agg #[vN X, vN Y, vN Z, vS 1 R.length], .bool true]) [some ⟨a3s L, 25, false, false⟩, some ⟨a3s R, 25, false, true⟩] := by
  subst hR; exact implMirrorHeap_1 X Y Z L hs hL

theorem implMirrorHeap_2R (X : Nat) (Y : Nat) (Z : Nat) (L : List A3) (R : List A3) (hs : Sides X Y Z) (hL : HeapL X Y Z L) (hR : R = listOf X Y Z (setOf Y Z (L.map (mir X Y Z 2)))) : Sound Try.prog 45 [.agg #[vN X, vN Y, vN Z, vS 0 L.length], vI 2] [some ⟨a3s L, 25, false, false⟩] (.tuple #[.agg #[vN X, vN Y, vN Z, vS 1 R.length], .bool true]) [some ⟨a3s L, 25, false, false⟩, some ⟨a3s R, 25, false, true⟩] := by
  subst hR; exact implMirrorHeap_2 X Y Z L hs hL

set_option maxRecDepth 100000 in
set_option maxHeartbeats 4000000 in
theorem lawMirrorHeap_big_s (x : Int) (y : Int) (z : Int) (L : List A3) (k : Int) (hl : 1048576 < L.length) (hm : L.length ≤ 9223372036854775807) : Sound Try.prog 13 [.agg #[vI x, vI y, vI z, vS 0 L.length], vI k] [some ⟨a3s L, 25, false, false⟩] (.bool true) [some ⟨a3s L, 25, false, false⟩] := by
  refine sound_intro (C := cx) Try.func13 rfl (by kernel_rfl) fun hcl => ?_
  refine cSeq ?_
  refine cReg ?_
  refine segEnd [1, 2] (T1 := (mkT 101 [(1, vI k), (2, vP 1 0)])) (H1 := [some ⟨a3s L, 25, false, false⟩, rB [vI x, vI y, vI z, vS 0 L.length] 24]) (by kernel_rfl) ?_
  refine kSeq ?_
  refine cSeq ?_
  refine cReg ?_
  refine segEndH [1, 2, 5] (T1 := (mkT 101 [(1, vI k), (2, vP 1 0), (5, vI 1048576)])) (by kernel_rfl) ?_
  refine kSeq ?_
  refine cSeq ?_
  refine cReg ?_
  refine segH 2 (T1 := (mkT 101 [(1, vI k), (2, vP 1 0), (5, vI 1048576), (16, .agg #[vI x, vI y, vI z, vS 0 L.length]), (17, vI 1048576)])) (by kernel_rfl) ?_
  refine rCall (v := vI (-1)) (args := [.agg #[vI x, vI y, vI z, vS 0 L.length], vI 1048576]) (by kernel_rfl) rfl (by kernel_rfl) (Sound.lay0 [0] (szHeapG x y z L 1048576 (by first | omega | assumption | (simp; done)) (by first | assumption | omega | rfl | decide | exact HeapL.list _ _ _ _ | exact HeapL.nil _ _ _ | exact HeapL.all _ _ _ | (apply HeapL.lt64 <;> assumption) | (repeat' (first | assumption | apply or_lt64 | apply and_lt64 | apply andn_lt64 | apply pow_lt64 | (apply HeapL.lt64 <;> assumption)))) (by first | omega | assumption | decide)) ⟨rdF false (flatA3 _ _ _ _) rfl rfl, trivial⟩ rfl ⟨clF (flatA3 _ _ _ _), trivial⟩ rfl (by first | rfl | simp [mpV, mpA, mpS, mpP, renId, shift]) rfl) ?_
  refine segEndH [1, 2, 5] (T1 := (mkT 101 [(1, vI k), (2, vP 1 0), (5, vI (-1))])) (by kernel_rfl) ?_
  refine kSeq ?_
  refine cSeq ?_
  refine cSeq ?_
  refine cReg ?_
  refine segEndH [1, 2, 20] (T1 := (mkT 101 [(1, vI k), (2, vP 1 0), (20, .bool true)])) (by kernel_rfl) ?_
  refine kSeq ?_
  refine cTrue (by kernel_rfl) ?_
  refine cSeq ?_
  refine cReg ?_
  refine segEndH [4] (T1 := (mkT 101 [(4, .bool true)])) (by kernel_rfl) ?_
  refine kSeq ?_
  refine cRet ?_
  refine kSeqR ?_
  -- end
  exact endQ (Or.inr rfl) (l := [.bool true]) [rB [vI x, vI y, vI z, vS 0 L.length] 24] (by kernel_rfl) (by first | rfl | kernel_rfl) rfl rfl hcl rfl

set_option maxRecDepth 100000 in
set_option maxHeartbeats 4000000 in
theorem lawMirrorHeap_no_s (x : Int) (y : Int) (z : Int) (L : List A3) (k : Int) (hl : L.length ≤ 1048576) (hv : isHeapB x y z L = false) : Sound Try.prog 13 [.agg #[vI x, vI y, vI z, vS 0 L.length], vI k] [some ⟨a3s L, 25, false, false⟩] (.bool true) [some ⟨a3s L, 25, false, false⟩] := by
  refine sound_intro (C := cx) Try.func13 rfl (by kernel_rfl) fun hcl => ?_
  refine cSeq ?_
  refine cReg ?_
  refine segEnd [1, 2] (T1 := (mkT 101 [(1, vI k), (2, vP 1 0)])) (H1 := [some ⟨a3s L, 25, false, false⟩, rB [vI x, vI y, vI z, vS 0 L.length] 24]) (by kernel_rfl) ?_
  refine kSeq ?_
  refine cSeq ?_
  refine cReg ?_
  refine segEndH [1, 2, 5] (T1 := (mkT 101 [(1, vI k), (2, vP 1 0), (5, vI 1048576)])) (by kernel_rfl) ?_
  refine kSeq ?_
  refine cSeq ?_
  refine cReg ?_
  refine segH 2 (T1 := (mkT 101 [(1, vI k), (2, vP 1 0), (5, vI 1048576), (16, .agg #[vI x, vI y, vI z, vS 0 L.length]), (17, vI 1048576)])) (by kernel_rfl) ?_
  refine rCall (v := vN (1048576 - L.length)) (args := [.agg #[vI x, vI y, vI z, vS 0 L.length], vI 1048576]) (by kernel_rfl) rfl (by kernel_rfl) (Sound.lay0 [0] (szHeapS x y z L 1048576 (by first | omega | assumption | (simp; done)) (by first | omega | assumption | decide)) ⟨rdF false (flatA3 _ _ _ _) rfl rfl, trivial⟩ rfl ⟨clF (flatA3 _ _ _ _), trivial⟩ rfl (by first | rfl | simp [mpV, mpA, mpS, mpP, renId, shift]) rfl) ?_
  refine segEndH [1, 2, 5] (T1 := (mkT 101 [(1, vI k), (2, vP 1 0), (5, vN (1048576 - L.length))])) (by kernel_rfl) ?_
  refine kSeq ?_
  refine cSeq ?_
  refine cSeq ?_
  refine cReg ?_
  refine segEndH [1, 2, 20] (T1 := (mkT 101 [(1, vI k), (2, vP 1 0), (20, .bool (decide (((1048576 - L.length : Nat) : Int) < 0)))])) (by kernel_rfl) ?_
  refine kSeq ?_
  cases h1 : (decide (((1048576 - L.length : Nat) : Int) < 0) : Bool)
  ·
    (try simp only [Bool.not_eq_true', Bool.not_eq_false', decide_eq_true_eq, decide_eq_false_iff_not, beq_iff_eq, bne_iff_ne, beq_eq_false_iff_ne, bne_eq_false_iff_eq, ne_eq, Decidable.not_not, Bool.and_eq_true, Bool.and_eq_false_imp, Bool.or_eq_true, Bool.or_eq_false_iff, Bool.not_eq_true, Int.not_lt, Int.not_le, ge_iff_le, gt_iff_lt] at h1)
    refine cFalse (by kernel_rfl) ?_
    refine cSkip ?_
    refine kSeq ?_
    refine cSeq ?_
    refine cReg ?_
    refine segH 1 (T1 := (mkT 101 [(1, vI k), (2, vP 1 0), (20, .bool false), (22, .agg #[vI x, vI y, vI z, vS 0 L.length])])) (by kernel_rfl) ?_
    refine rCall (v := .agg #[vI x, vI y, vI z, vS 2 L.length]) (args := [.agg #[vI x, vI y, vI z, vS 0 L.length]]) (by kernel_rfl) rfl (by kernel_rfl) (Sound.lay (E := [some ⟨a3s L, 25, false, true⟩]) [0] (toHeapB x y z L (by first | omega | assumption | (simp; done))) ⟨rdF false (flatA3 _ _ _ _) rfl rfl, trivial⟩ rfl ⟨clF (flatA3 _ _ _ _), trivial⟩ rfl (by first | rfl | simp [mpV, mpA, mpS, mpP, renId, shift]) (by first | rfl | simp [mpV, mpA, mpS, mpP, renId, shift]) ⟨enF (flatA3 _ _ _ _) (Or.inl rfl), trivial⟩) ?_
    refine seg 1 (T1 := (mkT 101 [(1, vI k), (2, vP 1 0), (20, .bool false), (22, .agg #[vI x, vI y, vI z, vS 0 L.length]), (23, .agg #[vI x, vI y, vI z, vS 2 L.length]), (24, vI k)])) (H1 := [some ⟨a3s L, 25, false, false⟩, rB [vI x, vI y, vI z, vS 0 L.length] 24, some ⟨a3s L, 25, false, true⟩]) (by kernel_rfl) ?_
    refine rCall (v := .tuple #[.agg #[vI 0, vI 0, vI 0, .slice none 0 0], .bool false]) (args := [.agg #[vI x, vI y, vI z, vS 2 L.length], vI k]) (by kernel_rfl) rfl (by kernel_rfl) (Sound.lay0 [2] (specMirrorHeap_no1 x y z L k (by first | assumption | omega | rfl | decide | exact HeapL.list _ _ _ _ | exact HeapL.nil _ _ _ | exact HeapL.all _ _ _ | (apply HeapL.lt64 <;> assumption) | (repeat' (first | assumption | apply or_lt64 | apply and_lt64 | apply andn_lt64 | apply pow_lt64 | (apply HeapL.lt64 <;> assumption)))) (by first | assumption | omega | rfl | decide | exact HeapL.list _ _ _ _ | exact HeapL.nil _ _ _ | exact HeapL.all _ _ _ | (apply HeapL.lt64 <;> assumption) | (repeat' (first | assumption | apply or_lt64 | apply and_lt64 | apply andn_lt64 | apply pow_lt64 | (apply HeapL.lt64 <;> assumption))))) ⟨rdF true (flatA3 _ _ _ _) rfl rfl, trivial⟩ rfl ⟨clF (flatA3 _ _ _ _), trivial⟩ rfl (by first | rfl | simp [mpV, mpA, mpS, mpP, renId, shift]) (by first | rfl | simp [mpV, mpA, mpS, mpP, renId, shift])) ?_
    refine segEnd [1, 2, 6, 7] (T1 := (mkT 101 [(1, vI k), (2, vP 1 0), (6, vP 3 0), (7, .bool false)])) (H1 := [some ⟨a3s L, 25, false, false⟩, rB [vI x, vI y, vI z, vS 0 L.length] 24, some ⟨a3s L, 25, false, true⟩, rB [vI 0, vI 0, vI 0, .slice none 0 0] 29]) (by kernel_rfl) ?_
    refine kSeq ?_
    refine cSeq ?_
    refine cReg ?_
    refine segH 1 (T1 := (mkT 101 [(1, vI k), (2, vP 1 0), (6, vP 3 0), (7, .bool false), (28, .agg #[vI x, vI y, vI z, vS 0 L.length])])) (by kernel_rfl) ?_
    refine rCall (v := .agg #[vI x, vI y, vI z, vS 4 L.length]) (args := [.agg #[vI x, vI y, vI z, vS 0 L.length]]) (by kernel_rfl) rfl (by kernel_rfl) (Sound.lay (E := [some ⟨a3s L, 25, false, true⟩]) [0] (toHeapB x y z L (by first | omega | assumption | (simp; done))) ⟨rdF false (flatA3 _ _ _ _) rfl rfl, trivial⟩ rfl ⟨clF (flatA3 _ _ _ _), trivial⟩ rfl (by first | rfl | simp [mpV, mpA, mpS, mpP, renId, shift]) (by first | rfl | simp [mpV, mpA, mpS, mpP, renId, shift]) ⟨enF (flatA3 _ _ _ _) (Or.inl rfl), trivial⟩) ?_
    refine segEnd [1, 2, 6, 7, 8] (T1 := (mkT 101 [(1, vI k), (2, vP 1 0), (6, vP 3 0), (7, .bool false), (8, vP 5 0)])) (H1 := [some ⟨a3s L, 25, false, false⟩, rB [vI x, vI y, vI z, vS 0 L.length] 24, some ⟨a3s L, 25, false, true⟩, rB [vI 0, vI 0, vI 0, .slice none 0 0] 29, some ⟨a3s L, 25, false, true⟩, rB [vI x, vI y, vI z, vS 4 L.length] 29]) (by kernel_rfl) ?_
    refine kSeq ?_
    refine cSeq ?_
    refine cReg ?_
    refine segH 2 (T1 := (mkT 101 [(1, vI k), (2, vP 1 0), (6, vP 3 0), (7, .bool false), (8, vP 5 0), (31, .agg #[vI x, vI y, vI z, vS 4 L.length]), (32, vI k)])) (by kernel_rfl) ?_
    refine rCall (v := .tuple #[.agg #[vI 0, vI 0, vI 0, .slice none 0 0], .bool false]) (args := [.agg #[vI x, vI y, vI z, vS 4 L.length], vI k]) (by kernel_rfl) rfl (by kernel_rfl) (Sound.lay0 [4] (implMirrorHeap_no1 x y z L k (by first | assumption | omega | rfl | decide | exact HeapL.list _ _ _ _ | exact HeapL.nil _ _ _ | exact HeapL.all _ _ _ | (apply HeapL.lt64 <;> assumption) | (repeat' (first | assumption | apply or_lt64 | apply and_lt64 | apply andn_lt64 | apply pow_lt64 | (apply HeapL.lt64 <;> assumption)))) (by first | assumption | omega | rfl | decide | exact HeapL.list _ _ _ _ | exact HeapL.nil _ _ _ | exact HeapL.all _ _ _ | (apply HeapL.lt64 <;> assumption) | (repeat' (first | assumption | apply or_lt64 | apply and_lt64 | apply andn_lt64 | apply pow_lt64 | (apply HeapL.lt64 <;> assumption))))) ⟨rdF true (flatA3 _ _ _ _) rfl rfl, trivial⟩ rfl ⟨clF (flatA3 _ _ _ _), trivial⟩ rfl (by first | rfl | simp [mpV, mpA, mpS, mpP, renId, shift]) (by first | rfl | simp [mpV, mpA, mpS, mpP, renId, shift])) ?_
    refine segEnd [1, 2, 6, 7, 8, 9, 10] (T1 := (mkT 101 [(1, vI k), (2, vP 1 0), (6, vP 3 0), (7, .bool false), (8, vP 5 0), (9, vP 6 0), (10, .bool false)])) (H1 := [some ⟨a3s L, 25, false, false⟩, rB [vI x, vI y, vI z, vS 0 L.length] 24, some ⟨a3s L, 25, false, true⟩, rB [vI 0, vI 0, vI 0, .slice none 0 0] 29, some ⟨a3s L, 25, false, true⟩, rB [vI x, vI y, vI z, vS 4 L.length] 29, rB [vI 0, vI 0, vI 0, .slice none 0 0] 29]) (by kernel_rfl) ?_
    refine kSeq ?_
    refine cSeq ?_
    refine cSeq ?_
    refine cReg ?_
    refine segH 2 (T1 := (mkT 101 [(1, vI k), (2, vP 1 0), (6, vP 3 0), (7, .bool false), (8, vP 5 0), (9, vP 6 0), (10, .bool false), (36, .agg #[vI 0, vI 0, vI 0, .slice none 0 0]), (37, .agg #[vI 0, vI 0, vI 0, .slice none 0 0])])) (by kernel_rfl) ?_
    refine rCall (v := .bool true) (args := [.agg #[vI 0, vI 0, vI 0, .slice none 0 0], .agg #[vI 0, vI 0, vI 0, .slice none 0 0]]) (by kernel_rfl) rfl (by kernel_rfl) (Sound.lay0 [] (eqHeapN) trivial rfl trivial rfl (by first | rfl | simp [mpV, mpA, mpS, mpP, renId, shift]) rfl) ?_
    refine segEndH [1, 2, 6, 7, 8, 9, 10, 44] (T1 := (mkT 101 [(1, vI k), (2, vP 1 0), (6, vP 3 0), (7, .bool false), (8, vP 5 0), (9, vP 6 0), (10, .bool false), (44, .bool false)])) (by kernel_rfl) ?_
    refine kSeq ?_
    refine cFalse (by kernel_rfl) ?_
    refine cSkip ?_
    refine kSeq ?_
    refine cSeq ?_
    refine cSeq ?_
    refine cRegW (N := 8) [⟨[], [], [5]⟩, ⟨[], [], [1]⟩, ⟨[7], [], [0]⟩, ⟨[], [], [4, 7]⟩, ⟨[], [], []⟩] 1 [7] (by rfl) (by rfl) (by kernel_rfl) (by kernel_rfl) (by kernel_rfl) ⟨nmsF (flatA3 _ _ _ _), ⟨nmsX (by kernel_rfl), ⟨nmsF (flatA3 _ _ _ _), ⟨nmsX (by kernel_rfl), ⟨nmsF (flatA3 _ _ _ _), ⟨nmsX (by kernel_rfl), ⟨nmsX (by kernel_rfl), trivial⟩⟩⟩⟩⟩⟩⟩ ?_
    refine segWH 2 (T1 := (mkT 101 [(1, vI k), (2, vP 1 0), (6, vP 3 0), (7, .bool false), (8, vP 5 0), (9, vP 6 0), (10, .bool false), (44, .bool false), (45, .agg #[vI x, vI y, vI z, vS 4 L.length]), (46, .agg #[vI x, vI y, vI z, vS 0 L.length])])) (by kernel_rfl) ?_
    refine rW (m := ⟨[7], [], [0]⟩) (v := .agg #[vI x, vI y, vI z, vS 7 L.length]) rfl (by kernel_rfl) (stN (i := 7) (E := [some ⟨a3s L, 25, false, true⟩]) (v1 := .agg #[vI x, vI y, vI z, vS 8 L.length]) (args := [.agg #[vI x, vI y, vI z, vS 0 L.length]]) rfl (by kernel_rfl) (Any.lay (E := [some ⟨a3s L, 25, false, true⟩]) (N := 8) [0] (toHeapB x y z L (by first | omega | assumption | (simp; done))) ⟨rdF false (flatA3 _ _ _ _) rfl rfl, trivial⟩ rfl ⟨clF (flatA3 _ _ _ _), trivial⟩ rfl (by first | rfl | simp [mpV, mpA, mpS, mpP, renId, shift]) (by first | rfl | simp [mpV, mpA, mpS, mpP, renId, shift]) ⟨enF (flatA3 _ _ _ _) (Or.inl rfl), trivial⟩) rfl (by kernel_rfl) (by kernel_rfl) (by kernel_rfl) (by kernel_rfl) (FlatH.cons (flatA3 _ _ _ _) FlatH.nil)) (by kernel_rfl) (NRs.all ⟨nrOf (by rfl) (nmF (flatA3 _ _ _ _)), trivial⟩) ?_
    refine rW (m := ⟨[], [], [4, 7]⟩) (v := .bool true) rfl (by kernel_rfl) (stQ (args := [.agg #[vI x, vI y, vI z, vS 4 L.length], .agg #[vI x, vI y, vI z, vS 7 L.length]]) rfl (by kernel_rfl) (Any.lay0 [4, 7] (eqHeapB x y z L (by first | omega | assumption | (simp; done))) ⟨rdF true (flatA3 _ _ _ _) rfl rfl, ⟨rdF true (flatA3 _ _ _ _) rfl rfl, trivial⟩⟩ rfl ⟨clF (flatA3 _ _ _ _), ⟨clF (flatA3 _ _ _ _), trivial⟩⟩ rfl (by first | rfl | simp [mpV, mpA, mpS, mpP, renId, shift]) rfl) rfl (by kernel_rfl) (by kernel_rfl)) (by kernel_rfl) nr0 ?_
    refine segEndW [1, 2, 6, 7, 8, 9, 10, 49] (T1 := (mkT 101 [(1, vI k), (2, vP 1 0), (6, vP 3 0), (7, .bool false), (8, vP 5 0), (9, vP 6 0), (10, .bool false), (49, .bool false)])) (H1 := [some ⟨a3s L, 25, false, false⟩, rB [vI x, vI y, vI z, vS 0 L.length] 24, some ⟨a3s L, 25, false, true⟩, rB [vI 0, vI 0, vI 0, .slice none 0 0] 29, some ⟨a3s L, 25, false, true⟩, rB [vI x, vI y, vI z, vS 4 L.length] 29, rB [vI 0, vI 0, vI 0, .slice none 0 0] 29, some ⟨a3s L, 25, false, true⟩]) (by kernel_rfl) ?_
    refine kSeq ?_
    refine cFalse (by kernel_rfl) ?_
    refine cSkip ?_
    refine kSeq ?_
    refine cSeq ?_
    refine cReg ?_
    refine segEndH [1, 2, 6, 7, 8, 9, 10, 11] (T1 := (mkT 101 [(1, vI k), (2, vP 1 0), (6, vP 3 0), (7, .bool false), (8, vP 5 0), (9, vP 6 0), (10, .bool false), (11, vI 1)])) (by kernel_rfl) ?_
    refine kSeq ?_
    refine cSeq ?_
    refine cReg ?_
    refine segH 2 (T1 := (mkT 101 [(1, vI k), (2, vP 1 0), (6, vP 3 0), (7, .bool false), (8, vP 5 0), (9, vP 6 0), (10, .bool false), (11, vI 1), (50, .agg #[vI x, vI y, vI z, vS 4 L.length]), (51, vI 1)])) (by kernel_rfl) ?_
    refine rCall (v := vN (1 + 3 * L.length)) (args := [.agg #[vI x, vI y, vI z, vS 4 L.length], vI 1]) (by kernel_rfl) rfl (by kernel_rfl) (Sound.emb_set (r := ⟨a3s L, 25, false, true⟩) (r' := ⟨a3s (mk3 1 L.length), 25, false, true⟩) 4 (markHeapB x y z L 1 (by first | omega | assumption | (simp; done)) (by first | assumption | omega | rfl | decide | exact HeapL.list _ _ _ _ | exact HeapL.nil _ _ _ | exact HeapL.all _ _ _ | (apply HeapL.lt64 <;> assumption) | (repeat' (first | assumption | apply or_lt64 | apply and_lt64 | apply andn_lt64 | apply pow_lt64 | (apply HeapL.lt64 <;> assumption))))) (flatA3 _ _ _ _) rfl (flatA3 _ _ _ _) rfl rfl rfl (by first | rfl | simp [mpV, mpA, mpS, mpP, renId, shift]) rfl) ?_
    refine segEnd [1, 2, 6, 7, 9, 10, 11] (T1 := (mkT 101 [(1, vI k), (2, vP 1 0), (6, vP 3 0), (7, .bool false), (9, vP 6 0), (10, .bool false), (11, vN (1 + 3 * L.length))])) (H1 := [some ⟨a3s L, 25, false, false⟩, rB [vI x, vI y, vI z, vS 0 L.length] 24, some ⟨a3s L, 25, false, true⟩, rB [vI 0, vI 0, vI 0, .slice none 0 0] 29, some ⟨a3s (mk3 1 L.length), 25, false, true⟩, rB [vI x, vI y, vI z, vS 4 L.length] 29, rB [vI 0, vI 0, vI 0, .slice none 0 0] 29, some ⟨a3s L, 25, false, true⟩]) (by kernel_rfl) ?_
    refine kSeq ?_
    refine cSeq ?_
    refine cSeq ?_
    refine cReg ?_
    refine segH 3 (T1 := (mkT 101 [(1, vI k), (2, vP 1 0), (6, vP 3 0), (7, .bool false), (9, vP 6 0), (10, .bool false), (11, vN (1 + 3 * L.length)), (53, vN (1 + 3 * L.length)), (54, .bool (decide (((1 + 3 * L.length : Nat) : Int) < 0))), (55, .bool (decide (((1 + 3 * L.length : Nat) : Int) < 0)))])) (by kernel_rfl) ?_
    cases h2 : (decide (((1 + 3 * L.length : Nat) : Int) < 0) : Bool)
    ·
      (try simp only [Bool.not_eq_true', Bool.not_eq_false', decide_eq_true_eq, decide_eq_false_iff_not, beq_iff_eq, bne_iff_ne, beq_eq_false_iff_ne, bne_eq_false_iff_eq, ne_eq, Decidable.not_not, Bool.and_eq_true, Bool.and_eq_false_imp, Bool.or_eq_true, Bool.or_eq_false_iff, Bool.not_eq_true, Int.not_lt, Int.not_le, ge_iff_le, gt_iff_lt] at h2)
      refine seg 2 (T1 := (mkT 101 [(1, vI k), (2, vP 1 0), (6, vP 3 0), (7, .bool false), (9, vP 6 0), (10, .bool false), (11, vN (1 + 3 * L.length)), (53, vN (1 + 3 * L.length)), (54, .bool false), (55, .bool false), (56, .agg #[vI 0, vI 0, vI 0, .slice none 0 0]), (57, .agg #[vI 0, vI 0, vI 0, .slice none 0 0])])) (H1 := [some ⟨a3s L, 25, false, false⟩, rB [vI x, vI y, vI z, vS 0 L.length] 24, some ⟨a3s L, 25, false, true⟩, rB [vI 0, vI 0, vI 0, .slice none 0 0] 29, some ⟨a3s (mk3 1 L.length), 25, false, true⟩, rB [vI x, vI y, vI z, vS 4 L.length] 29, rB [vI 0, vI 0, vI 0, .slice none 0 0] 29, some ⟨a3s L, 25, false, true⟩]) (by kernel_rfl) ?_
      refine rCall (v := .bool true) (args := [.agg #[vI 0, vI 0, vI 0, .slice none 0 0], .agg #[vI 0, vI 0, vI 0, .slice none 0 0]]) (by kernel_rfl) rfl (by kernel_rfl) (Sound.lay0 [] (eqHeapN) trivial rfl trivial rfl (by first | rfl | simp [mpV, mpA, mpS, mpP, renId, shift]) rfl) ?_
      refine segEnd [1, 2, 6, 7, 9, 65] (T1 := (mkT 101 [(1, vI k), (2, vP 1 0), (6, vP 3 0), (7, .bool false), (9, vP 6 0), (65, .bool false)])) (H1 := [some ⟨a3s L, 25, false, false⟩, rB [vI x, vI y, vI z, vS 0 L.length] 24, some ⟨a3s L, 25, false, true⟩, rB [vI 0, vI 0, vI 0, .slice none 0 0] 29, some ⟨a3s (mk3 1 L.length), 25, false, true⟩, rB [vI x, vI y, vI z, vS 4 L.length] 29, rB [vI 0, vI 0, vI 0, .slice none 0 0] 29, some ⟨a3s L, 25, false, true⟩]) (by kernel_rfl) ?_
      refine kSeq ?_
      refine cFalse (by kernel_rfl) ?_
      refine cSkip ?_
      refine kSeq ?_
      refine cSeq ?_
      refine cReg ?_
      refine segEndH [1, 2, 6, 7, 9, 12] (T1 := (mkT 101 [(1, vI k), (2, vP 1 0), (6, vP 3 0), (7, .bool false), (9, vP 6 0), (12, vI 1)])) (by kernel_rfl) ?_
      refine kSeq ?_
      refine cSeq ?_
      refine cReg ?_
      refine segH 2 (T1 := (mkT 101 [(1, vI k), (2, vP 1 0), (6, vP 3 0), (7, .bool false), (9, vP 6 0), (12, vI 1), (66, .agg #[vI 0, vI 0, vI 0, .slice none 0 0]), (67, vI 1)])) (by kernel_rfl) ?_
      refine rCall (v := vI 1) (args := [.agg #[vI 0, vI 0, vI 0, .slice none 0 0], vI 1]) (by kernel_rfl) rfl (by kernel_rfl) (Sound.lay0 [] (markHeapN 1) trivial rfl trivial rfl (by first | rfl | simp [mpV, mpA, mpS, mpP, renId, shift]) rfl) ?_
      refine segEndH [1, 2, 6, 7, 9, 12] (T1 := (mkT 101 [(1, vI k), (2, vP 1 0), (6, vP 3 0), (7, .bool false), (9, vP 6 0), (12, vI 1)])) (by kernel_rfl) ?_
      refine kSeq ?_
      refine cSeq ?_
      refine cReg ?_
      refine segEndH [1, 2, 6, 7, 9, 12, 13] (T1 := (mkT 101 [(1, vI k), (2, vP 1 0), (6, vP 3 0), (7, .bool false), (9, vP 6 0), (12, vI 1), (13, vI 1)])) (by kernel_rfl) ?_
      refine kSeq ?_
      refine cSeq ?_
      refine cReg ?_
      refine segH 2 (T1 := (mkT 101 [(1, vI k), (2, vP 1 0), (6, vP 3 0), (7, .bool false), (9, vP 6 0), (12, vI 1), (13, vI 1), (69, .agg #[vI 0, vI 0, vI 0, .slice none 0 0]), (70, vI 1)])) (by kernel_rfl) ?_
      refine rCall (v := vI 1) (args := [.agg #[vI 0, vI 0, vI 0, .slice none 0 0], vI 1]) (by kernel_rfl) rfl (by kernel_rfl) (Sound.lay0 [] (heldHeapN) trivial rfl trivial rfl (by first | rfl | simp [mpV, mpA, mpS, mpP, renId, shift]) rfl) ?_
      refine segEndH [1, 2, 6, 7, 9, 12, 13] (T1 := (mkT 101 [(1, vI k), (2, vP 1 0), (6, vP 3 0), (7, .bool false), (9, vP 6 0), (12, vI 1), (13, vI 1)])) (by kernel_rfl) ?_
      refine kSeq ?_
      refine cSeq ?_
      refine cSeq ?_
      refine cReg ?_
      refine segEndH [1, 2, 6, 7, 9, 12, 13, 73] (T1 := (mkT 101 [(1, vI k), (2, vP 1 0), (6, vP 3 0), (7, .bool false), (9, vP 6 0), (12, vI 1), (13, vI 1), (73, .bool false)])) (by kernel_rfl) ?_
      refine kSeq ?_
      refine cFalse (by kernel_rfl) ?_
      refine cSkip ?_
      refine kSeq ?_
      refine cSeq ?_
      refine cSeq ?_
      refine cReg ?_
      refine segEndH [1, 2, 6, 7, 9, 12, 76] (T1 := (mkT 101 [(1, vI k), (2, vP 1 0), (6, vP 3 0), (7, .bool false), (9, vP 6 0), (12, vI 1), (76, .bool false)])) (by kernel_rfl) ?_
      refine kSeq ?_
      refine cFalse (by kernel_rfl) ?_
      refine cSkip ?_
      refine kSeq ?_
      refine cSeq ?_
      refine cReg ?_
      refine segH 1 (T1 := (mkT 101 [(1, vI k), (2, vP 1 0), (6, vP 3 0), (7, .bool false), (9, vP 6 0), (12, vI 1), (76, .bool false), (78, .agg #[vI x, vI y, vI z, vS 0 L.length])])) (by kernel_rfl) ?_
      refine rCall (v := .agg #[vI x, vI y, vI z, vS 8 L.length]) (args := [.agg #[vI x, vI y, vI z, vS 0 L.length]]) (by kernel_rfl) rfl (by kernel_rfl) (Sound.lay (E := [some ⟨a3s L, 25, false, true⟩]) [0] (toHeapB x y z L (by first | omega | assumption | (simp; done))) ⟨rdF false (flatA3 _ _ _ _) rfl rfl, trivial⟩ rfl ⟨clF (flatA3 _ _ _ _), trivial⟩ rfl (by first | rfl | simp [mpV, mpA, mpS, mpP, renId, shift]) (by first | rfl | simp [mpV, mpA, mpS, mpP, renId, shift]) ⟨enF (flatA3 _ _ _ _) (Or.inl rfl), trivial⟩) ?_
      refine seg 1 (T1 := (mkT 101 [(1, vI k), (2, vP 1 0), (6, vP 3 0), (7, .bool false), (9, vP 6 0), (12, vI 1), (76, .bool false), (78, .agg #[vI x, vI y, vI z, vS 0 L.length]), (79, .agg #[vI x, vI y, vI z, vS 8 L.length]), (80, vI k)])) (H1 := [some ⟨a3s L, 25, false, false⟩, rB [vI x, vI y, vI z, vS 0 L.length] 24, some ⟨a3s L, 25, false, true⟩, rB [vI 0, vI 0, vI 0, .slice none 0 0] 29, some ⟨a3s (mk3 1 L.length), 25, false, true⟩, rB [vI x, vI y, vI z, vS 4 L.length] 29, rB [vI 0, vI 0, vI 0, .slice none 0 0] 29, some ⟨a3s L, 25, false, true⟩, some ⟨a3s L, 25, false, true⟩]) (by kernel_rfl) ?_
      refine rCall (v := .tuple #[.agg #[vI 0, vI 0, vI 0, .slice none 0 0], .bool false]) (args := [.agg #[vI x, vI y, vI z, vS 8 L.length], vI k]) (by kernel_rfl) rfl (by kernel_rfl) (Sound.lay0 [8] (implMirrorHeap_no1 x y z L k (by first | assumption | omega | rfl | decide | exact HeapL.list _ _ _ _ | exact HeapL.nil _ _ _ | exact HeapL.all _ _ _ | (apply HeapL.lt64 <;> assumption) | (repeat' (first | assumption | apply or_lt64 | apply and_lt64 | apply andn_lt64 | apply pow_lt64 | (apply HeapL.lt64 <;> assumption)))) (by first | assumption | omega | rfl | decide | exact HeapL.list _ _ _ _ | exact HeapL.nil _ _ _ | exact HeapL.all _ _ _ | (apply HeapL.lt64 <;> assumption) | (repeat' (first | assumption | apply or_lt64 | apply and_lt64 | apply andn_lt64 | apply pow_lt64 | (apply HeapL.lt64 <;> assumption))))) ⟨rdF true (flatA3 _ _ _ _) rfl rfl, trivial⟩ rfl ⟨clF (flatA3 _ _ _ _), trivial⟩ rfl (by first | rfl | simp [mpV, mpA, mpS, mpP, renId, shift]) (by first | rfl | simp [mpV, mpA, mpS, mpP, renId, shift])) ?_
      refine segEnd [6, 7, 9, 12, 14, 15] (T1 := (mkT 101 [(6, vP 3 0), (7, .bool false), (9, vP 6 0), (12, vI 1), (14, vP 9 0), (15, .bool false)])) (H1 := [some ⟨a3s L, 25, false, false⟩, rB [vI x, vI y, vI z, vS 0 L.length] 24, some ⟨a3s L, 25, false, true⟩, rB [vI 0, vI 0, vI 0, .slice none 0 0] 29, some ⟨a3s (mk3 1 L.length), 25, false, true⟩, rB [vI x, vI y, vI z, vS 4 L.length] 29, rB [vI 0, vI 0, vI 0, .slice none 0 0] 29, some ⟨a3s L, 25, false, true⟩, some ⟨a3s L, 25, false, true⟩, rB [vI 0, vI 0, vI 0, .slice none 0 0] 29]) (by kernel_rfl) ?_
      refine kSeq ?_
      refine cSeq ?_
      refine cSeq ?_
      refine cReg ?_
      refine segH 2 (T1 := (mkT 101 [(6, vP 3 0), (7, .bool false), (9, vP 6 0), (12, vI 1), (14, vP 9 0), (15, .bool false), (84, .agg #[vI 0, vI 0, vI 0, .slice none 0 0]), (85, .agg #[vI 0, vI 0, vI 0, .slice none 0 0])])) (by kernel_rfl) ?_
      refine rCall (v := .bool true) (args := [.agg #[vI 0, vI 0, vI 0, .slice none 0 0], .agg #[vI 0, vI 0, vI 0, .slice none 0 0]]) (by kernel_rfl) rfl (by kernel_rfl) (Sound.lay0 [] (eqHeapN) trivial rfl trivial rfl (by first | rfl | simp [mpV, mpA, mpS, mpP, renId, shift]) rfl) ?_
      refine segEndH [9, 12, 92] (T1 := (mkT 101 [(9, vP 6 0), (12, vI 1), (92, .bool false)])) (by kernel_rfl) ?_
      refine kSeq ?_
      refine cFalse (by kernel_rfl) ?_
      refine cSkip ?_
      refine kSeq ?_
      refine cSeq ?_
      refine cReg ?_
      refine segEndH [9, 12, 13] (T1 := (mkT 101 [(9, vP 6 0), (12, vI 1), (13, vI 1)])) (by kernel_rfl) ?_
      refine kSeq ?_
      refine cSeq ?_
      refine cReg ?_
      refine segH 2 (T1 := (mkT 101 [(9, vP 6 0), (12, vI 1), (13, vI 1), (93, .agg #[vI 0, vI 0, vI 0, .slice none 0 0]), (94, vI 1)])) (by kernel_rfl) ?_
      refine rCall (v := vI 1) (args := [.agg #[vI 0, vI 0, vI 0, .slice none 0 0], vI 1]) (by kernel_rfl) rfl (by kernel_rfl) (Sound.lay0 [] (heldHeapN) trivial rfl trivial rfl (by first | rfl | simp [mpV, mpA, mpS, mpP, renId, shift]) rfl) ?_
      refine segEndH [12, 13] (T1 := (mkT 101 [(12, vI 1), (13, vI 1)])) (by kernel_rfl) ?_
      refine kSeq ?_
      refine cSeq ?_
      refine cSeq ?_
      refine cReg ?_
      refine segEndH [12, 13, 97] (T1 := (mkT 101 [(12, vI 1), (13, vI 1), (97, .bool false)])) (by kernel_rfl) ?_
      refine kSeq ?_
      refine cFalse (by kernel_rfl) ?_
      refine cSkip ?_
      refine kSeq ?_
      refine cSeq ?_
      refine cSeq ?_
      refine cReg ?_
      refine segEndH [100] (T1 := (mkT 101 [(100, .bool false)])) (by kernel_rfl) ?_
      refine kSeq ?_
      refine cFalse (by kernel_rfl) ?_
      refine cSkip ?_
      refine kSeq ?_
      refine cSeq ?_
      refine cReg ?_
      refine segEndH [4] (T1 := (mkT 101 [(4, .bool true)])) (by kernel_rfl) ?_
      refine kSeq ?_
      refine cRet ?_
      -- end
      exact endQ (Or.inr rfl) (l := [.bool true]) [rB [vI x, vI y, vI z, vS 0 L.length] 24, some ⟨a3s L, 25, false, true⟩, rB [vI 0, vI 0, vI 0, .slice none 0 0] 29, some ⟨a3s (mk3 1 L.length), 25, false, true⟩, rB [vI x, vI y, vI z, vS 4 L.length] 29, rB [vI 0, vI 0, vI 0, .slice none 0 0] 29, some ⟨a3s L, 25, false, true⟩, some ⟨a3s L, 25, false, true⟩, rB [vI 0, vI 0, vI 0, .slice none 0 0] 29] (by kernel_rfl) (by first | rfl | kernel_rfl) rfl rfl hcl rfl
    ·
      (try simp only [Bool.not_eq_true', Bool.not_eq_false', decide_eq_true_eq, decide_eq_false_iff_not, beq_iff_eq, bne_iff_ne, beq_eq_false_iff_ne, bne_eq_false_iff_eq, ne_eq, Decidable.not_not, Bool.and_eq_true, Bool.and_eq_false_imp, Bool.or_eq_true, Bool.or_eq_false_iff, Bool.not_eq_true, Int.not_lt, Int.not_le, ge_iff_le, gt_iff_lt] at h2)
      exfalso; omega
  ·
    (try simp only [Bool.not_eq_true', Bool.not_eq_false', decide_eq_true_eq, decide_eq_false_iff_not, beq_iff_eq, bne_iff_ne, beq_eq_false_iff_ne, bne_eq_false_iff_eq, ne_eq, Decidable.not_not, Bool.and_eq_true, Bool.and_eq_false_imp, Bool.or_eq_true, Bool.or_eq_false_iff, Bool.not_eq_true, Int.not_lt, Int.not_le, ge_iff_le, gt_iff_lt] at h1)
    exfalso; omega

set_option maxRecDepth 100000 in
set_option maxHeartbeats 4000000 in
theorem lawMirrorHeap_no_n (x : Int) (y : Int) (z : Int) (k : Int) (hv : isHeapB x y z ([] : List A3) = false) : Sound Try.prog 13 [.agg #[vI x, vI y, vI z, .slice none 0 0], vI k] [] (.bool true) [] := by
  refine sound_intro (C := cx) Try.func13 rfl (by kernel_rfl) fun hcl => ?_
  refine cSeq ?_
  refine cReg ?_
  refine segEnd [1, 2] (T1 := (mkT 101 [(1, vI k), (2, vP 0 0)])) (H1 := [rB [vI x, vI y, vI z, .slice none 0 0] 24]) (by kernel_rfl) ?_
  refine kSeq ?_
  refine cSeq ?_
  refine cReg ?_
  refine segEndH [1, 2, 5] (T1 := (mkT 101 [(1, vI k), (2, vP 0 0), (5, vI 1048576)])) (by kernel_rfl) ?_
  refine kSeq ?_
  refine cSeq ?_
  refine cReg ?_
  refine segH 2 (T1 := (mkT 101 [(1, vI k), (2, vP 0 0), (5, vI 1048576), (16, .agg #[vI x, vI y, vI z, .slice none 0 0]), (17, vI 1048576)])) (by kernel_rfl) ?_
  refine rCall (v := vI 1048576) (args := [.agg #[vI x, vI y, vI z, .slice none 0 0], vI 1048576]) (by kernel_rfl) rfl (by kernel_rfl) (Sound.lay0 [] (szHeapN x y z 1048576 (by first | omega | assumption | decide)) trivial rfl trivial rfl (by first | rfl | simp [mpV, mpA, mpS, mpP, renId, shift]) rfl) ?_
  refine segEndH [1, 2, 5] (T1 := (mkT 101 [(1, vI k), (2, vP 0 0), (5, vI 1048576)])) (by kernel_rfl) ?_
  refine kSeq ?_
  refine cSeq ?_
  refine cSeq ?_
  refine cReg ?_
  refine segEndH [1, 2, 20] (T1 := (mkT 101 [(1, vI k), (2, vP 0 0), (20, .bool false)])) (by kernel_rfl) ?_
  refine kSeq ?_
  refine cFalse (by kernel_rfl) ?_
  refine cSkip ?_
  refine kSeq ?_
  refine cSeq ?_
  refine cReg ?_
  refine segH 1 (T1 := (mkT 101 [(1, vI k), (2, vP 0 0), (20, .bool false), (22, .agg #[vI x, vI y, vI z, .slice none 0 0])])) (by kernel_rfl) ?_
  refine rCall (v := .agg #[vI x, vI y, vI z, vS 1 0]) (args := [.agg #[vI x, vI y, vI z, .slice none 0 0]]) (by kernel_rfl) rfl (by kernel_rfl) (Sound.lay (E := [some ⟨[], 25, false, true⟩]) [] (toHeapN x y z) trivial rfl trivial rfl (by first | rfl | simp [mpV, mpA, mpS, mpP, renId, shift]) (by first | rfl | simp [mpV, mpA, mpS, mpP, renId, shift]) ⟨enX rfl (Or.inl rfl), trivial⟩) ?_
  refine seg 1 (T1 := (mkT 101 [(1, vI k), (2, vP 0 0), (20, .bool false), (22, .agg #[vI x, vI y, vI z, .slice none 0 0]), (23, .agg #[vI x, vI y, vI z, vS 1 0]), (24, vI k)])) (H1 := [rB [vI x, vI y, vI z, .slice none 0 0] 24, some ⟨[], 25, false, true⟩]) (by kernel_rfl) ?_
  refine rCall (v := .tuple #[.agg #[vI 0, vI 0, vI 0, .slice none 0 0], .bool false]) (args := [.agg #[vI x, vI y, vI z, vS 1 0], vI k]) (by kernel_rfl) rfl (by kernel_rfl) (Sound.lay0 [1] (specMirrorHeap_no1 x y z ([] : List A3) k (by first | assumption | omega | rfl | decide | exact HeapL.list _ _ _ _ | exact HeapL.nil _ _ _ | exact HeapL.all _ _ _ | (apply HeapL.lt64 <;> assumption) | (repeat' (first | assumption | apply or_lt64 | apply and_lt64 | apply andn_lt64 | apply pow_lt64 | (apply HeapL.lt64 <;> assumption)))) (by first | assumption | omega | rfl | decide | exact HeapL.list _ _ _ _ | exact HeapL.nil _ _ _ | exact HeapL.all _ _ _ | (apply HeapL.lt64 <;> assumption) | (repeat' (first | assumption | apply or_lt64 | apply and_lt64 | apply andn_lt64 | apply pow_lt64 | (apply HeapL.lt64 <;> assumption))))) ⟨rdF true (flatA3 _ _ _ _) rfl rfl, trivial⟩ rfl ⟨clF (flatA3 _ _ _ _), trivial⟩ rfl (by first | rfl | simp [mpV, mpA, mpS, mpP, renId, shift]) (by first | rfl | simp [mpV, mpA, mpS, mpP, renId, shift])) ?_
  refine segEnd [1, 2, 6, 7] (T1 := (mkT 101 [(1, vI k), (2, vP 0 0), (6, vP 2 0), (7, .bool false)])) (H1 := [rB [vI x, vI y, vI z, .slice none 0 0] 24, some ⟨[], 25, false, true⟩, rB [vI 0, vI 0, vI 0, .slice none 0 0] 29]) (by kernel_rfl) ?_
  refine kSeq ?_
  refine cSeq ?_
  refine cReg ?_
  refine segH 1 (T1 := (mkT 101 [(1, vI k), (2, vP 0 0), (6, vP 2 0), (7, .bool false), (28, .agg #[vI x, vI y, vI z, .slice none 0 0])])) (by kernel_rfl) ?_
  refine rCall (v := .agg #[vI x, vI y, vI z, vS 3 0]) (args := [.agg #[vI x, vI y, vI z, .slice none 0 0]]) (by kernel_rfl) rfl (by kernel_rfl) (Sound.lay (E := [some ⟨[], 25, false, true⟩]) [] (toHeapN x y z) trivial rfl trivial rfl (by first | rfl | simp [mpV, mpA, mpS, mpP, renId, shift]) (by first | rfl | simp [mpV, mpA, mpS, mpP, renId, shift]) ⟨enX rfl (Or.inl rfl), trivial⟩) ?_
  refine segEnd [1, 2, 6, 7, 8] (T1 := (mkT 101 [(1, vI k), (2, vP 0 0), (6, vP 2 0), (7, .bool false), (8, vP 4 0)])) (H1 := [rB [vI x, vI y, vI z, .slice none 0 0] 24, some ⟨[], 25, false, true⟩, rB [vI 0, vI 0, vI 0, .slice none 0 0] 29, some ⟨[], 25, false, true⟩, rB [vI x, vI y, vI z, vS 3 0] 29]) (by kernel_rfl) ?_
  refine kSeq ?_
  refine cSeq ?_
  refine cReg ?_
  refine segH 2 (T1 := (mkT 101 [(1, vI k), (2, vP 0 0), (6, vP 2 0), (7, .bool false), (8, vP 4 0), (31, .agg #[vI x, vI y, vI z, vS 3 0]), (32, vI k)])) (by kernel_rfl) ?_
  refine rCall (v := .tuple #[.agg #[vI 0, vI 0, vI 0, .slice none 0 0], .bool false]) (args := [.agg #[vI x, vI y, vI z, vS 3 0], vI k]) (by kernel_rfl) rfl (by kernel_rfl) (Sound.lay0 [3] (implMirrorHeap_no1 x y z ([] : List A3) k (by first | assumption | omega | rfl | decide | exact HeapL.list _ _ _ _ | exact HeapL.nil _ _ _ | exact HeapL.all _ _ _ | (apply HeapL.lt64 <;> assumption) | (repeat' (first | assumption | apply or_lt64 | apply and_lt64 | apply andn_lt64 | apply pow_lt64 | (apply HeapL.lt64 <;> assumption)))) (by first | assumption | omega | rfl | decide | exact HeapL.list _ _ _ _ | exact HeapL.nil _ _ _ | exact HeapL.all _ _ _ | (apply HeapL.lt64 <;> assumption) | (repeat' (first | assumption | apply or_lt64 | apply and_lt64 | apply andn_lt64 | apply pow_lt64 | (apply HeapL.lt64 <;> assumption))))) ⟨rdF true (flatA3 _ _ _ _) rfl rfl, trivial⟩ rfl ⟨clF (flatA3 _ _ _ _), trivial⟩ rfl (by first | rfl | simp [mpV, mpA, mpS, mpP, renId, shift]) (by first | rfl | simp [mpV, mpA, mpS, mpP, renId, shift])) ?_
  refine segEnd [1, 2, 6, 7, 8, 9, 10] (T1 := (mkT 101 [(1, vI k), (2, vP 0 0), (6, vP 2 0), (7, .bool false), (8, vP 4 0), (9, vP 5 0), (10, .bool false)])) (H1 := [rB [vI x, vI y, vI z, .slice none 0 0] 24, some ⟨[], 25, false, true⟩, rB [vI 0, vI 0, vI 0, .slice none 0 0] 29, some ⟨[], 25, false, true⟩, rB [vI x, vI y, vI z, vS 3 0] 29, rB [vI 0, vI 0, vI 0, .slice none 0 0] 29]) (by kernel_rfl) ?_
  refine kSeq ?_
  refine cSeq ?_
  refine cSeq ?_
  refine cReg ?_
  refine segH 2 (T1 := (mkT 101 [(1, vI k), (2, vP 0 0), (6, vP 2 0), (7, .bool false), (8, vP 4 0), (9, vP 5 0), (10, .bool false), (36, .agg #[vI 0, vI 0, vI 0, .slice none 0 0]), (37, .agg #[vI 0, vI 0, vI 0, .slice none 0 0])])) (by kernel_rfl) ?_
  refine rCall (v := .bool true) (args := [.agg #[vI 0, vI 0, vI 0, .slice none 0 0], .agg #[vI 0, vI 0, vI 0, .slice none 0 0]]) (by kernel_rfl) rfl (by kernel_rfl) (Sound.lay0 [] (eqHeapN) trivial rfl trivial rfl (by first | rfl | simp [mpV, mpA, mpS, mpP, renId, shift]) rfl) ?_
  refine segEndH [1, 2, 6, 7, 8, 9, 10, 44] (T1 := (mkT 101 [(1, vI k), (2, vP 0 0), (6, vP 2 0), (7, .bool false), (8, vP 4 0), (9, vP 5 0), (10, .bool false), (44, .bool false)])) (by kernel_rfl) ?_
  refine kSeq ?_
  refine cFalse (by kernel_rfl) ?_
  refine cSkip ?_
  refine kSeq ?_
  refine cSeq ?_
  refine cSeq ?_
  refine cRegW (N := 7) [⟨[], [], [4]⟩, ⟨[], [], [0]⟩, ⟨[6], [], []⟩, ⟨[], [], [3, 6]⟩, ⟨[], [], []⟩] 1 [6] (by rfl) (by rfl) (by kernel_rfl) (by kernel_rfl) (by kernel_rfl) ⟨nmsX (by kernel_rfl), ⟨nmsX (by kernel_rfl), ⟨nmsX (by kernel_rfl), ⟨nmsX (by kernel_rfl), ⟨nmsX (by kernel_rfl), ⟨nmsX (by kernel_rfl), trivial⟩⟩⟩⟩⟩⟩ ?_
  refine segWH 2 (T1 := (mkT 101 [(1, vI k), (2, vP 0 0), (6, vP 2 0), (7, .bool false), (8, vP 4 0), (9, vP 5 0), (10, .bool false), (44, .bool false), (45, .agg #[vI x, vI y, vI z, vS 3 0]), (46, .agg #[vI x, vI y, vI z, .slice none 0 0])])) (by kernel_rfl) ?_
  refine rW (m := ⟨[6], [], []⟩) (v := .agg #[vI x, vI y, vI z, vS 6 0]) rfl (by kernel_rfl) (stN (i := 6) (E := [some ⟨[], 25, false, true⟩]) (v1 := .agg #[vI x, vI y, vI z, vS 7 0]) (args := [.agg #[vI x, vI y, vI z, .slice none 0 0]]) rfl (by kernel_rfl) (Any.lay (E := [some ⟨[], 25, false, true⟩]) (N := 7) [] (toHeapN x y z) trivial rfl trivial rfl (by first | rfl | simp [mpV, mpA, mpS, mpP, renId, shift]) (by first | rfl | simp [mpV, mpA, mpS, mpP, renId, shift]) ⟨enX rfl (Or.inl rfl), trivial⟩) rfl (by kernel_rfl) (by kernel_rfl) (by kernel_rfl) (by kernel_rfl) (FlatH.cons (flatRow_of rfl) FlatH.nil)) (by kernel_rfl) (NRs.all ⟨nrOf (by rfl) (nmX (by kernel_rfl)), trivial⟩) ?_
  refine rW (m := ⟨[], [], [3, 6]⟩) (v := .bool true) rfl (by kernel_rfl) (stQ (args := [.agg #[vI x, vI y, vI z, vS 3 0], .agg #[vI x, vI y, vI z, vS 6 0]]) rfl (by kernel_rfl) (Any.lay0 [3, 6] (eqHeapB x y z ([] : List A3) (by first | omega | assumption | (simp; done))) ⟨rdF true (flatA3 _ _ _ _) rfl rfl, ⟨rdF true (flatA3 _ _ _ _) rfl rfl, trivial⟩⟩ rfl ⟨clF (flatA3 _ _ _ _), ⟨clF (flatA3 _ _ _ _), trivial⟩⟩ rfl (by first | rfl | simp [mpV, mpA, mpS, mpP, renId, shift]) rfl) rfl (by kernel_rfl) (by kernel_rfl)) (by kernel_rfl) nr0 ?_
  refine segEndW [1, 2, 6, 7, 8, 9, 10, 49] (T1 := (mkT 101 [(1, vI k), (2, vP 0 0), (6, vP 2 0), (7, .bool false), (8, vP 4 0), (9, vP 5 0), (10, .bool false), (49, .bool false)])) (H1 := [rB [vI x, vI y, vI z, .slice none 0 0] 24, some ⟨[], 25, false, true⟩, rB [vI 0, vI 0, vI 0, .slice none 0 0] 29, some ⟨[], 25, false, true⟩, rB [vI x, vI y, vI z, vS 3 0] 29, rB [vI 0, vI 0, vI 0, .slice none 0 0] 29, some ⟨[], 25, false, true⟩]) (by kernel_rfl) ?_
  refine kSeq ?_
  refine cFalse (by kernel_rfl) ?_
  refine cSkip ?_
  refine kSeq ?_
  refine cSeq ?_
  refine cReg ?_
  refine segEndH [1, 2, 6, 7, 8, 9, 10, 11] (T1 := (mkT 101 [(1, vI k), (2, vP 0 0), (6, vP 2 0), (7, .bool false), (8, vP 4 0), (9, vP 5 0), (10, .bool false), (11, vI 1)])) (by kernel_rfl) ?_
  refine kSeq ?_
  refine cSeq ?_
  refine cReg ?_
  refine segH 2 (T1 := (mkT 101 [(1, vI k), (2, vP 0 0), (6, vP 2 0), (7, .bool false), (8, vP 4 0), (9, vP 5 0), (10, .bool false), (11, vI 1), (50, .agg #[vI x, vI y, vI z, vS 3 0]), (51, vI 1)])) (by kernel_rfl) ?_
  refine rCall (v := vN (1 + 3 * ([] : List A3).length)) (args := [.agg #[vI x, vI y, vI z, vS 3 0], vI 1]) (by kernel_rfl) rfl (by kernel_rfl) (Sound.emb_set (r := ⟨a3s ([] : List A3), 25, false, true⟩) (r' := ⟨a3s (mk3 1 ([] : List A3).length), 25, false, true⟩) 3 (markHeapB x y z ([] : List A3) 1 (by first | omega | assumption | (simp; done)) (by first | assumption | omega | rfl | decide | exact HeapL.list _ _ _ _ | exact HeapL.nil _ _ _ | exact HeapL.all _ _ _ | (apply HeapL.lt64 <;> assumption) | (repeat' (first | assumption | apply or_lt64 | apply and_lt64 | apply andn_lt64 | apply pow_lt64 | (apply HeapL.lt64 <;> assumption))))) (flatA3 _ _ _ _) rfl (flatA3 _ _ _ _) rfl rfl rfl (by first | rfl | simp [mpV, mpA, mpS, mpP, renId, shift]) rfl) ?_
  refine segEnd [1, 2, 6, 7, 9, 10, 11] (T1 := (mkT 101 [(1, vI k), (2, vP 0 0), (6, vP 2 0), (7, .bool false), (9, vP 5 0), (10, .bool false), (11, vN (1 + 3 * ([] : List A3).length))])) (H1 := [rB [vI x, vI y, vI z, .slice none 0 0] 24, some ⟨[], 25, false, true⟩, rB [vI 0, vI 0, vI 0, .slice none 0 0] 29, some ⟨a3s (mk3 1 ([] : List A3).length), 25, false, true⟩, rB [vI x, vI y, vI z, vS 3 0] 29, rB [vI 0, vI 0, vI 0, .slice none 0 0] 29, some ⟨[], 25, false, true⟩]) (by kernel_rfl) ?_
  refine kSeq ?_
  refine cSeq ?_
  refine cSeq ?_
  refine cReg ?_
  refine segH 3 (T1 := (mkT 101 [(1, vI k), (2, vP 0 0), (6, vP 2 0), (7, .bool false), (9, vP 5 0), (10, .bool false), (11, vN (1 + 3 * ([] : List A3).length)), (53, vN (1 + 3 * ([] : List A3).length)), (54, .bool (decide (((1 + 3 * ([] : List A3).length : Nat) : Int) < 0))), (55, .bool (decide (((1 + 3 * ([] : List A3).length : Nat) : Int) < 0)))])) (by kernel_rfl) ?_
  cases h1 : (decide (((1 + 3 * ([] : List A3).length : Nat) : Int) < 0) : Bool)
  ·
    (try simp only [Bool.not_eq_true', Bool.not_eq_false', decide_eq_true_eq, decide_eq_false_iff_not, beq_iff_eq, bne_iff_ne, beq_eq_false_iff_ne, bne_eq_false_iff_eq, ne_eq, Decidable.not_not, Bool.and_eq_true, Bool.and_eq_false_imp, Bool.or_eq_true, Bool.or_eq_false_iff, Bool.not_eq_true, Int.not_lt, Int.not_le, ge_iff_le, gt_iff_lt] at h1)
    refine seg 2 (T1 := (mkT 101 [(1, vI k), (2, vP 0 0), (6, vP 2 0), (7, .bool false), (9, vP 5 0), (10, .bool false), (11, vN (1 + 3 * ([] : List A3).length)), (53, vN (1 + 3 * ([] : List A3).length)), (54, .bool false), (55, .bool false), (56, .agg #[vI 0, vI 0, vI 0, .slice none 0 0]), (57, .agg #[vI 0, vI 0, vI 0, .slice none 0 0])])) (H1 := [rB [vI x, vI y, vI z, .slice none 0 0] 24, some ⟨[], 25, false, true⟩, rB [vI 0, vI 0, vI 0, .slice none 0 0] 29, some ⟨a3s (mk3 1 ([] : List A3).length), 25, false, true⟩, rB [vI x, vI y, vI z, vS 3 0] 29, rB [vI 0, vI 0, vI 0, .slice none 0 0] 29, some ⟨[], 25, false, true⟩]) (by kernel_rfl) ?_
    refine rCall (v := .bool true) (args := [.agg #[vI 0, vI 0, vI 0, .slice none 0 0], .agg #[vI 0, vI 0, vI 0, .slice none 0 0]]) (by kernel_rfl) rfl (by kernel_rfl) (Sound.lay0 [] (eqHeapN) trivial rfl trivial rfl (by first | rfl | simp [mpV, mpA, mpS, mpP, renId, shift]) rfl) ?_
    refine segEnd [1, 2, 6, 7, 9, 65] (T1 := (mkT 101 [(1, vI k), (2, vP 0 0), (6, vP 2 0), (7, .bool false), (9, vP 5 0), (65, .bool false)])) (H1 := [rB [vI x, vI y, vI z, .slice none 0 0] 24, some ⟨[], 25, false, true⟩, rB [vI 0, vI 0, vI 0, .slice none 0 0] 29, some ⟨a3s (mk3 1 ([] : List A3).length), 25, false, true⟩, rB [vI x, vI y, vI z, vS 3 0] 29, rB [vI 0, vI 0, vI 0, .slice none 0 0] 29, some ⟨[], 25, false, true⟩]) (by kernel_rfl) ?_
    refine kSeq ?_
    refine cFalse (by kernel_rfl) ?_
    refine cSkip ?_
    refine kSeq ?_
    refine cSeq ?_
    refine cReg ?_
    refine segEndH [1, 2, 6, 7, 9, 12] (T1 := (mkT 101 [(1, vI k), (2, vP 0 0), (6, vP 2 0), (7, .bool false), (9, vP 5 0), (12, vI 1)])) (by kernel_rfl) ?_
    refine kSeq ?_
    refine cSeq ?_
    refine cReg ?_
    refine segH 2 (T1 := (mkT 101 [(1, vI k), (2, vP 0 0), (6, vP 2 0), (7, .bool false), (9, vP 5 0), (12, vI 1), (66, .agg #[vI 0, vI 0, vI 0, .slice none 0 0]), (67, vI 1)])) (by kernel_rfl) ?_
    refine rCall (v := vI 1) (args := [.agg #[vI 0, vI 0, vI 0, .slice none 0 0], vI 1]) (by kernel_rfl) rfl (by kernel_rfl) (Sound.lay0 [] (markHeapN 1) trivial rfl trivial rfl (by first | rfl | simp [mpV, mpA, mpS, mpP, renId, shift]) rfl) ?_
    refine segEndH [1, 2, 6, 7, 9, 12] (T1 := (mkT 101 [(1, vI k), (2, vP 0 0), (6, vP 2 0), (7, .bool false), (9, vP 5 0), (12, vI 1)])) (by kernel_rfl) ?_
    refine kSeq ?_
    refine cSeq ?_
    refine cReg ?_
    refine segEndH [1, 2, 6, 7, 9, 12, 13] (T1 := (mkT 101 [(1, vI k), (2, vP 0 0), (6, vP 2 0), (7, .bool false), (9, vP 5 0), (12, vI 1), (13, vI 1)])) (by kernel_rfl) ?_
    refine kSeq ?_
    refine cSeq ?_
    refine cReg ?_
    refine segH 2 (T1 := (mkT 101 [(1, vI k), (2, vP 0 0), (6, vP 2 0), (7, .bool false), (9, vP 5 0), (12, vI 1), (13, vI 1), (69, .agg #[vI 0, vI 0, vI 0, .slice none 0 0]), (70, vI 1)])) (by kernel_rfl) ?_
    refine rCall (v := vI 1) (args := [.agg #[vI 0, vI 0, vI 0, .slice none 0 0], vI 1]) (by kernel_rfl) rfl (by kernel_rfl) (Sound.lay0 [] (heldHeapN) trivial rfl trivial rfl (by first | rfl | simp [mpV, mpA, mpS, mpP, renId, shift]) rfl) ?_
    refine segEndH [1, 2, 6, 7, 9, 12, 13] (T1 := (mkT 101 [(1, vI k), (2, vP 0 0), (6, vP 2 0), (7, .bool false), (9, vP 5 0), (12, vI 1), (13, vI 1)])) (by kernel_rfl) ?_
    refine kSeq ?_
    refine cSeq ?_
    refine cSeq ?_
    refine cReg ?_
    refine segEndH [1, 2, 6, 7, 9, 12, 13, 73] (T1 := (mkT 101 [(1, vI k), (2, vP 0 0), (6, vP 2 0), (7, .bool false), (9, vP 5 0), (12, vI 1), (13, vI 1), (73, .bool false)])) (by kernel_rfl) ?_
    refine kSeq ?_
    refine cFalse (by kernel_rfl) ?_
    refine cSkip ?_
    refine kSeq ?_
    refine cSeq ?_
    refine cSeq ?_
    refine cReg ?_
    refine segEndH [1, 2, 6, 7, 9, 12, 76] (T1 := (mkT 101 [(1, vI k), (2, vP 0 0), (6, vP 2 0), (7, .bool false), (9, vP 5 0), (12, vI 1), (76, .bool false)])) (by kernel_rfl) ?_
    refine kSeq ?_
    refine cFalse (by kernel_rfl) ?_
    refine cSkip ?_
    refine kSeq ?_
    refine cSeq ?_
    refine cReg ?_
    refine segH 1 (T1 := (mkT 101 [(1, vI k), (2, vP 0 0), (6, vP 2 0), (7, .bool false), (9, vP 5 0), (12, vI 1), (76, .bool false), (78, .agg #[vI x, vI y, vI z, .slice none 0 0])])) (by kernel_rfl) ?_
    refine rCall (v := .agg #[vI x, vI y, vI z, vS 7 0]) (args := [.agg #[vI x, vI y, vI z, .slice none 0 0]]) (by kernel_rfl) rfl (by kernel_rfl) (Sound.lay (E := [some ⟨[], 25, false, true⟩]) [] (toHeapN x y z) trivial rfl trivial rfl (by first | rfl | simp [mpV, mpA, mpS, mpP, renId, shift]) (by first | rfl | simp [mpV, mpA, mpS, mpP, renId, shift]) ⟨enX rfl (Or.inl rfl), trivial⟩) ?_
    refine seg 1 (T1 := (mkT 101 [(1, vI k), (2, vP 0 0), (6, vP 2 0), (7, .bool false), (9, vP 5 0), (12, vI 1), (76, .bool false), (78, .agg #[vI x, vI y, vI z, .slice none 0 0]), (79, .agg #[vI x, vI y, vI z, vS 7 0]), (80, vI k)])) (H1 := [rB [vI x, vI y, vI z, .slice none 0 0] 24, some ⟨[], 25, false, true⟩, rB [vI 0, vI 0, vI 0, .slice none 0 0] 29, some ⟨a3s (mk3 1 ([] : List A3).length), 25, false, true⟩, rB [vI x, vI y, vI z, vS 3 0] 29, rB [vI 0, vI 0, vI 0, .slice none 0 0] 29, some ⟨[], 25, false, true⟩, some ⟨[], 25, false, true⟩]) (by kernel_rfl) ?_
    refine rCall (v := .tuple #[.agg #[vI 0, vI 0, vI 0, .slice none 0 0], .bool false]) (args := [.agg #[vI x, vI y, vI z, vS 7 0], vI k]) (by kernel_rfl) rfl (by kernel_rfl) (Sound.lay0 [7] (implMirrorHeap_no1 x y z ([] : List A3) k (by first | assumption | omega | rfl | decide | exact HeapL.list _ _ _ _ | exact HeapL.nil _ _ _ | exact HeapL.all _ _ _ | (apply HeapL.lt64 <;> assumption) | (repeat' (first | assumption | apply or_lt64 | apply and_lt64 | apply andn_lt64 | apply pow_lt64 | (apply HeapL.lt64 <;> assumption)))) (by first | assumption | omega | rfl | decide | exact HeapL.list _ _ _ _ | exact HeapL.nil _ _ _ | exact HeapL.all _ _ _ | (apply HeapL.lt64 <;> assumption) | (repeat' (first | assumption | apply or_lt64 | apply and_lt64 | apply andn_lt64 | apply pow_lt64 | (apply HeapL.lt64 <;> assumption))))) ⟨rdF true (flatA3 _ _ _ _) rfl rfl, trivial⟩ rfl ⟨clF (flatA3 _ _ _ _), trivial⟩ rfl (by first | rfl | simp [mpV, mpA, mpS, mpP, renId, shift]) (by first | rfl | simp [mpV, mpA, mpS, mpP, renId, shift])) ?_
    refine segEnd [6, 7, 9, 12, 14, 15] (T1 := (mkT 101 [(6, vP 2 0), (7, .bool false), (9, vP 5 0), (12, vI 1), (14, vP 8 0), (15, .bool false)])) (H1 := [rB [vI x, vI y, vI z, .slice none 0 0] 24, some ⟨[], 25, false, true⟩, rB [vI 0, vI 0, vI 0, .slice none 0 0] 29, some ⟨a3s (mk3 1 ([] : List A3).length), 25, false, true⟩, rB [vI x, vI y, vI z, vS 3 0] 29, rB [vI 0, vI 0, vI 0, .slice none 0 0] 29, some ⟨[], 25, false, true⟩, some ⟨[], 25, false, true⟩, rB [vI 0, vI 0, vI 0, .slice none 0 0] 29]) (by kernel_rfl) ?_
    refine kSeq ?_
    refine cSeq ?_
    refine cSeq ?_
    refine cReg ?_
    refine segH 2 (T1 := (mkT 101 [(6, vP 2 0), (7, .bool false), (9, vP 5 0), (12, vI 1), (14, vP 8 0), (15, .bool false), (84, .agg #[vI 0, vI 0, vI 0, .slice none 0 0]), (85, .agg #[vI 0, vI 0, vI 0, .slice none 0 0])])) (by kernel_rfl) ?_
    refine rCall (v := .bool true) (args := [.agg #[vI 0, vI 0, vI 0, .slice none 0 0], .agg #[vI 0, vI 0, vI 0, .slice none 0 0]]) (by kernel_rfl) rfl (by kernel_rfl) (Sound.lay0 [] (eqHeapN) trivial rfl trivial rfl (by first | rfl | simp [mpV, mpA, mpS, mpP, renId, shift]) rfl) ?_
    refine segEndH [9, 12, 92] (T1 := (mkT 101 [(9, vP 5 0), (12, vI 1), (92, .bool false)])) (by kernel_rfl) ?_
    refine kSeq ?_
    refine cFalse (by kernel_rfl) ?_
    refine cSkip ?_
    refine kSeq ?_
    refine cSeq ?_
    refine cReg ?_
    refine segEndH [9, 12, 13] (T1 := (mkT 101 [(9, vP 5 0), (12, vI 1), (13, vI 1)])) (by kernel_rfl) ?_
    refine kSeq ?_
    refine cSeq ?_
    refine cReg ?_
    refine segH 2 (T1 := (mkT 101 [(9, vP 5 0), (12, vI 1), (13, vI 1), (93, .agg #[vI 0, vI 0, vI 0, .slice none 0 0]), (94, vI 1)])) (by kernel_rfl) ?_
    refine rCall (v := vI 1) (args := [.agg #[vI 0, vI 0, vI 0, .slice none 0 0], vI 1]) (by kernel_rfl) rfl (by kernel_rfl) (Sound.lay0 [] (heldHeapN) trivial rfl trivial rfl (by first | rfl | simp [mpV, mpA, mpS, mpP, renId, shift]) rfl) ?_
    refine segEndH [12, 13] (T1 := (mkT 101 [(12, vI 1), (13, vI 1)])) (by kernel_rfl) ?_
    refine kSeq ?_
    refine cSeq ?_
    refine cSeq ?_
    refine cReg ?_
    refine segEndH [12, 13, 97] (T1 := (mkT 101 [(12, vI 1), (13, vI 1), (97, .bool false)])) (by kernel_rfl) ?_
    refine kSeq ?_
    refine cFalse (by kernel_rfl) ?_
    refine cSkip ?_
    refine kSeq ?_
    refine cSeq ?_
    refine cSeq ?_
    refine cReg ?_
    refine segEndH [100] (T1 := (mkT 101 [(100, .bool false)])) (by kernel_rfl) ?_
    refine kSeq ?_
    refine cFalse (by kernel_rfl) ?_
    refine cSkip ?_
    refine kSeq ?_
    refine cSeq ?_
    refine cReg ?_
    refine segEndH [4] (T1 := (mkT 101 [(4, .bool true)])) (by kernel_rfl) ?_
    refine kSeq ?_
    refine cRet ?_
    -- end
    exact endQ (Or.inr rfl) (l := [.bool true]) [rB [vI x, vI y, vI z, .slice none 0 0] 24, some ⟨[], 25, false, true⟩, rB [vI 0, vI 0, vI 0, .slice none 0 0] 29, some ⟨a3s (mk3 1 ([] : List A3).length), 25, false, true⟩, rB [vI x, vI y, vI z, vS 3 0] 29, rB [vI 0, vI 0, vI 0, .slice none 0 0] 29, some ⟨[], 25, false, true⟩, some ⟨[], 25, false, true⟩, rB [vI 0, vI 0, vI 0, .slice none 0 0] 29] (by kernel_rfl) (by first | rfl | kernel_rfl) rfl rfl hcl rfl
  ·
    (try simp only [Bool.not_eq_true', Bool.not_eq_false', decide_eq_true_eq, decide_eq_false_iff_not, beq_iff_eq, bne_iff_ne, beq_eq_false_iff_ne, bne_eq_false_iff_eq, ne_eq, Decidable.not_not, Bool.and_eq_true, Bool.and_eq_false_imp, Bool.or_eq_true, Bool.or_eq_false_iff, Bool.not_eq_true, Int.not_lt, Int.not_le, ge_iff_le, gt_iff_lt] at h1)
    exfalso; omega

set_option maxRecDepth 100000 in
set_option maxHeartbeats 4000000 in
theorem lawMirrorHeap_no2_s (X : Nat) (Y : Nat) (Z : Nat) (L : List A3) (k : Int) (hs : Sides X Y Z) (hL : HeapL X Y Z L) (hk : inR k 0 2 = false) : Sound Try.prog 13 [.agg #[vN X, vN Y, vN Z, vS 0 L.length], vI k] [some ⟨a3s L, 25, false, false⟩] (.bool true) [some ⟨a3s L, 25, false, false⟩] := by
  refine sound_intro (C := cx) Try.func13 rfl (by kernel_rfl) fun hcl => ?_
  have hz := hs.size
  have hx0 := hs.x0
  have hx4 := hs.x4
  have hy0 := hs.y0
  have hy4 := hs.y4
  have hz0 := hs.z0
  have hz4 := hs.z4
  have hlen : L.length ≤ 64 := by first | (have := hL.len; have := hs.size; omega) | simp
  refine cSeq ?_
  refine cReg ?_
  refine segEnd [1, 2] (T1 := (mkT 101 [(1, vI k), (2, vP 1 0)])) (H1 := [some ⟨a3s L, 25, false, false⟩, rB [vN X, vN Y, vN Z, vS 0 L.length] 24]) (by kernel_rfl) ?_
  refine kSeq ?_
  refine cSeq ?_
  refine cReg ?_
  refine segEndH [1, 2, 5] (T1 := (mkT 101 [(1, vI k), (2, vP 1 0), (5, vI 1048576)])) (by kernel_rfl) ?_
  refine kSeq ?_
  refine cSeq ?_
  refine cReg ?_
  refine segH 2 (T1 := (mkT 101 [(1, vI k), (2, vP 1 0), (5, vI 1048576), (16, .agg #[vN X, vN Y, vN Z, vS 0 L.length]), (17, vI 1048576)])) (by kernel_rfl) ?_
  refine rCall (v := vN (1048576 - L.length)) (args := [.agg #[vN X, vN Y, vN Z, vS 0 L.length], vI 1048576]) (by kernel_rfl) rfl (by kernel_rfl) (Sound.lay0 [0] (szHeapS ((X : Nat) : Int) ((Y : Nat) : Int) ((Z : Nat) : Int) L 1048576 (by first | omega | assumption | (simp; done)) (by first | omega | assumption | decide)) ⟨rdF false (flatA3 _ _ _ _) rfl rfl, trivial⟩ rfl ⟨clF (flatA3 _ _ _ _), trivial⟩ rfl (by first | rfl | simp [mpV, mpA, mpS, mpP, renId, shift]) rfl) ?_
  refine segEndH [1, 2, 5] (T1 := (mkT 101 [(1, vI k), (2, vP 1 0), (5, vN (1048576 - L.length))])) (by kernel_rfl) ?_
  refine kSeq ?_
  refine cSeq ?_
  refine cSeq ?_
  refine cReg ?_
  refine segEndH [1, 2, 20] (T1 := (mkT 101 [(1, vI k), (2, vP 1 0), (20, .bool (decide (((1048576 - L.length : Nat) : Int) < 0)))])) (by kernel_rfl) ?_
  refine kSeq ?_
  cases h1 : (decide (((1048576 - L.length : Nat) : Int) < 0) : Bool)
  ·
    (try simp only [Bool.not_eq_true', Bool.not_eq_false', decide_eq_true_eq, decide_eq_false_iff_not, beq_iff_eq, bne_iff_ne, beq_eq_false_iff_ne, bne_eq_false_iff_eq, ne_eq, Decidable.not_not, Bool.and_eq_true, Bool.and_eq_false_imp, Bool.or_eq_true, Bool.or_eq_false_iff, Bool.not_eq_true, Int.not_lt, Int.not_le, ge_iff_le, gt_iff_lt] at h1)
    refine cFalse (by kernel_rfl) ?_
    refine cSkip ?_
    refine kSeq ?_
    refine cSeq ?_
    refine cReg ?_
    refine segH 1 (T1 := (mkT 101 [(1, vI k), (2, vP 1 0), (20, .bool false), (22, .agg #[vN X, vN Y, vN Z, vS 0 L.length])])) (by kernel_rfl) ?_
    refine rCall (v := .agg #[vN X, vN Y, vN Z, vS 2 L.length]) (args := [.agg #[vN X, vN Y, vN Z, vS 0 L.length]]) (by kernel_rfl) rfl (by kernel_rfl) (Sound.lay (E := [some ⟨a3s L, 25, false, true⟩]) [0] (toHeapB ((X : Nat) : Int) ((Y : Nat) : Int) ((Z : Nat) : Int) L (by first | omega | assumption | (simp; done))) ⟨rdF false (flatA3 _ _ _ _) rfl rfl, trivial⟩ rfl ⟨clF (flatA3 _ _ _ _), trivial⟩ rfl (by first | rfl | simp [mpV, mpA, mpS, mpP, renId, shift]) (by first | rfl | simp [mpV, mpA, mpS, mpP, renId, shift]) ⟨enF (flatA3 _ _ _ _) (Or.inl rfl), trivial⟩) ?_
    refine seg 1 (T1 := (mkT 101 [(1, vI k), (2, vP 1 0), (20, .bool false), (22, .agg #[vN X, vN Y, vN Z, vS 0 L.length]), (23, .agg #[vN X, vN Y, vN Z, vS 2 L.length]), (24, vI k)])) (H1 := [some ⟨a3s L, 25, false, false⟩, rB [vN X, vN Y, vN Z, vS 0 L.length] 24, some ⟨a3s L, 25, false, true⟩]) (by kernel_rfl) ?_
    refine rCall (v := .tuple #[.agg #[vI 0, vI 0, vI 0, .slice none 0 0], .bool false]) (args := [.agg #[vN X, vN Y, vN Z, vS 2 L.length], vI k]) (by kernel_rfl) rfl (by kernel_rfl) (Sound.lay0 [2] (specMirrorHeap_no2 X Y Z L k (by first | assumption | omega | rfl | decide | exact HeapL.list _ _ _ _ | exact HeapL.nil _ _ _ | exact HeapL.all _ _ _ | (apply HeapL.lt64 <;> assumption) | (repeat' (first | assumption | apply or_lt64 | apply and_lt64 | apply andn_lt64 | apply pow_lt64 | (apply HeapL.lt64 <;> assumption)))) (by first | assumption | omega | rfl | decide | exact HeapL.list _ _ _ _ | exact HeapL.nil _ _ _ | exact HeapL.all _ _ _ | (apply HeapL.lt64 <;> assumption) | (repeat' (first | assumption | apply or_lt64 | apply and_lt64 | apply andn_lt64 | apply pow_lt64 | (apply HeapL.lt64 <;> assumption)))) (by first | assumption | omega | rfl | decide | exact HeapL.list _ _ _ _ | exact HeapL.nil _ _ _ | exact HeapL.all _ _ _ | (apply HeapL.lt64 <;> assumption) | (repeat' (first | assumption | apply or_lt64 | apply and_lt64 | apply andn_lt64 | apply pow_lt64 | (apply HeapL.lt64 <;> assumption))))) ⟨rdF true (flatA3 _ _ _ _) rfl rfl, trivial⟩ rfl ⟨clF (flatA3 _ _ _ _), trivial⟩ rfl (by first | rfl | simp [mpV, mpA, mpS, mpP, renId, shift]) (by first | rfl | simp [mpV, mpA, mpS, mpP, renId, shift])) ?_
    refine segEnd [1, 2, 6, 7] (T1 := (mkT 101 [(1, vI k), (2, vP 1 0), (6, vP 3 0), (7, .bool false)])) (H1 := [some ⟨a3s L, 25, false, false⟩, rB [vN X, vN Y, vN Z, vS 0 L.length] 24, some ⟨a3s L, 25, false, true⟩, rB [vI 0, vI 0, vI 0, .slice none 0 0] 29]) (by kernel_rfl) ?_
    refine kSeq ?_
    refine cSeq ?_
    refine cReg ?_
    refine segH 1 (T1 := (mkT 101 [(1, vI k), (2, vP 1 0), (6, vP 3 0), (7, .bool false), (28, .agg #[vN X, vN Y, vN Z, vS 0 L.length])])) (by kernel_rfl) ?_
    refine rCall (v := .agg #[vN X, vN Y, vN Z, vS 4 L.length]) (args := [.agg #[vN X, vN Y, vN Z, vS 0 L.length]]) (by kernel_rfl) rfl (by kernel_rfl) (Sound.lay (E := [some ⟨a3s L, 25, false, true⟩]) [0] (toHeapB ((X : Nat) : Int) ((Y : Nat) : Int) ((Z : Nat) : Int) L (by first | omega | assumption | (simp; done))) ⟨rdF false (flatA3 _ _ _ _) rfl rfl, trivial⟩ rfl ⟨clF (flatA3 _ _ _ _), trivial⟩ rfl (by first | rfl | simp [mpV, mpA, mpS, mpP, renId, shift]) (by first | rfl | simp [mpV, mpA, mpS, mpP, renId, shift]) ⟨enF (flatA3 _ _ _ _) (Or.inl rfl), trivial⟩) ?_
    refine segEnd [1, 2, 6, 7, 8] (T1 := (mkT 101 [(1, vI k), (2, vP 1 0), (6, vP 3 0), (7, .bool false), (8, vP 5 0)])) (H1 := [some ⟨a3s L, 25, false, false⟩, rB [vN X, vN Y, vN Z, vS 0 L.length] 24, some ⟨a3s L, 25, false, true⟩, rB [vI 0, vI 0, vI 0, .slice none 0 0] 29, some ⟨a3s L, 25, false, true⟩, rB [vN X, vN Y, vN Z, vS 4 L.length] 29]) (by kernel_rfl) ?_
    refine kSeq ?_
    refine cSeq ?_
    refine cReg ?_
    refine segH 2 (T1 := (mkT 101 [(1, vI k), (2, vP 1 0), (6, vP 3 0), (7, .bool false), (8, vP 5 0), (31, .agg #[vN X, vN Y, vN Z, vS 4 L.length]), (32, vI k)])) (by kernel_rfl) ?_
    refine rCall (v := .tuple #[.agg #[vI 0, vI 0, vI 0, .slice none 0 0], .bool false]) (args := [.agg #[vN X, vN Y, vN Z, vS 4 L.length], vI k]) (by kernel_rfl) rfl (by kernel_rfl) (Sound.lay0 [4] (implMirrorHeap_no2 X Y Z L k (by first | assumption | omega | rfl | decide | exact HeapL.list _ _ _ _ | exact HeapL.nil _ _ _ | exact HeapL.all _ _ _ | (apply HeapL.lt64 <;> assumption) | (repeat' (first | assumption | apply or_lt64 | apply and_lt64 | apply andn_lt64 | apply pow_lt64 | (apply HeapL.lt64 <;> assumption)))) (by first | assumption | omega | rfl | decide | exact HeapL.list _ _ _ _ | exact HeapL.nil _ _ _ | exact HeapL.all _ _ _ | (apply HeapL.lt64 <;> assumption) | (repeat' (first | assumption | apply or_lt64 | apply and_lt64 | apply andn_lt64 | apply pow_lt64 | (apply HeapL.lt64 <;> assumption)))) (by first | assumption | omega | rfl | decide | exact HeapL.list _ _ _ _ | exact HeapL.nil _ _ _ | exact HeapL.all _ _ _ | (apply HeapL.lt64 <;> assumption) | (repeat' (first | assumption | apply or_lt64 | apply and_lt64 | apply andn_lt64 | apply pow_lt64 | (apply HeapL.lt64 <;> assumption))))) ⟨rdF true (flatA3 _ _ _ _) rfl rfl, trivial⟩ rfl ⟨clF (flatA3 _ _ _ _), trivial⟩ rfl (by first | rfl | simp [mpV, mpA, mpS, mpP, renId, shift]) (by first | rfl | simp [mpV, mpA, mpS, mpP, renId, shift])) ?_
    refine segEnd [1, 2, 6, 7, 8, 9, 10] (T1 := (mkT 101 [(1, vI k), (2, vP 1 0), (6, vP 3 0), (7, .bool false), (8, vP 5 0), (9, vP 6 0), (10, .bool false)])) (H1 := [some ⟨a3s L, 25, false, false⟩, rB [vN X, vN Y, vN Z, vS 0 L.length] 24, some ⟨a3s L, 25, false, true⟩, rB [vI 0, vI 0, vI 0, .slice none 0 0] 29, some ⟨a3s L, 25, false, true⟩, rB [vN X, vN Y, vN Z, vS 4 L.length] 29, rB [vI 0, vI 0, vI 0, .slice none 0 0] 29]) (by kernel_rfl) ?_
    refine kSeq ?_
    refine cSeq ?_
    refine cSeq ?_
    refine cReg ?_
    refine segH 2 (T1 := (mkT 101 [(1, vI k), (2, vP 1 0), (6, vP 3 0), (7, .bool false), (8, vP 5 0), (9, vP 6 0), (10, .bool false), (36, .agg #[vI 0, vI 0, vI 0, .slice none 0 0]), (37, .agg #[vI 0, vI 0, vI 0, .slice none 0 0])])) (by kernel_rfl) ?_
    refine rCall (v := .bool true) (args := [.agg #[vI 0, vI 0, vI 0, .slice none 0 0], .agg #[vI 0, vI 0, vI 0, .slice none 0 0]]) (by kernel_rfl) rfl (by kernel_rfl) (Sound.lay0 [] (eqHeapN) trivial rfl trivial rfl (by first | rfl | simp [mpV, mpA, mpS, mpP, renId, shift]) rfl) ?_
    refine segEndH [1, 2, 6, 7, 8, 9, 10, 44] (T1 := (mkT 101 [(1, vI k), (2, vP 1 0), (6, vP 3 0), (7, .bool false), (8, vP 5 0), (9, vP 6 0), (10, .bool false), (44, .bool false)])) (by kernel_rfl) ?_
    refine kSeq ?_
    refine cFalse (by kernel_rfl) ?_
    refine cSkip ?_
    refine kSeq ?_
    refine cSeq ?_
    refine cSeq ?_
    refine cRegW (N := 8) [⟨[], [], [5]⟩, ⟨[], [], [1]⟩, ⟨[7], [], [0]⟩, ⟨[], [], [4, 7]⟩, ⟨[], [], []⟩] 1 [7] (by rfl) (by rfl) (by kernel_rfl) (by kernel_rfl) (by kernel_rfl) ⟨nmsF (flatA3 _ _ _ _), ⟨nmsX (by kernel_rfl), ⟨nmsF (flatA3 _ _ _ _), ⟨nmsX (by kernel_rfl), ⟨nmsF (flatA3 _ _ _ _), ⟨nmsX (by kernel_rfl), ⟨nmsX (by kernel_rfl), trivial⟩⟩⟩⟩⟩⟩⟩ ?_
    refine segWH 2 (T1 := (mkT 101 [(1, vI k), (2, vP 1 0), (6, vP 3 0), (7, .bool false), (8, vP 5 0), (9, vP 6 0), (10, .bool false), (44, .bool false), (45, .agg #[vN X, vN Y, vN Z, vS 4 L.length]), (46, .agg #[vN X, vN Y, vN Z, vS 0 L.length])])) (by kernel_rfl) ?_
    refine rW (m := ⟨[7], [], [0]⟩) (v := .agg #[vN X, vN Y, vN Z, vS 7 L.length]) rfl (by kernel_rfl) (stN (i := 7) (E := [some ⟨a3s L, 25, false, true⟩]) (v1 := .agg #[vN X, vN Y, vN Z, vS 8 L.length]) (args := [.agg #[vN X, vN Y, vN Z, vS 0 L.length]]) rfl (by kernel_rfl) (Any.lay (E := [some ⟨a3s L, 25, false, true⟩]) (N := 8) [0] (toHeapB ((X : Nat) : Int) ((Y : Nat) : Int) ((Z : Nat) : Int) L (by first | omega | assumption | (simp; done))) ⟨rdF false (flatA3 _ _ _ _) rfl rfl, trivial⟩ rfl ⟨clF (flatA3 _ _ _ _), trivial⟩ rfl (by first | rfl | simp [mpV, mpA, mpS, mpP, renId, shift]) (by first | rfl | simp [mpV, mpA, mpS, mpP, renId, shift]) ⟨enF (flatA3 _ _ _ _) (Or.inl rfl), trivial⟩) rfl (by kernel_rfl) (by kernel_rfl) (by kernel_rfl) (by kernel_rfl) (FlatH.cons (flatA3 _ _ _ _) FlatH.nil)) (by kernel_rfl) (NRs.all ⟨nrOf (by rfl) (nmF (flatA3 _ _ _ _)), trivial⟩) ?_
    refine rW (m := ⟨[], [], [4, 7]⟩) (v := .bool true) rfl (by kernel_rfl) (stQ (args := [.agg #[vN X, vN Y, vN Z, vS 4 L.length], .agg #[vN X, vN Y, vN Z, vS 7 L.length]]) rfl (by kernel_rfl) (Any.lay0 [4, 7] (eqHeapB ((X : Nat) : Int) ((Y : Nat) : Int) ((Z : Nat) : Int) L (by first | omega | assumption | (simp; done))) ⟨rdF true (flatA3 _ _ _ _) rfl rfl, ⟨rdF true (flatA3 _ _ _ _) rfl rfl, trivial⟩⟩ rfl ⟨clF (flatA3 _ _ _ _), ⟨clF (flatA3 _ _ _ _), trivial⟩⟩ rfl (by first | rfl | simp [mpV, mpA, mpS, mpP, renId, shift]) rfl) rfl (by kernel_rfl) (by kernel_rfl)) (by kernel_rfl) nr0 ?_
    refine segEndW [1, 2, 6, 7, 8, 9, 10, 49] (T1 := (mkT 101 [(1, vI k), (2, vP 1 0), (6, vP 3 0), (7, .bool false), (8, vP 5 0), (9, vP 6 0), (10, .bool false), (49, .bool false)])) (H1 := [some ⟨a3s L, 25, false, false⟩, rB [vN X, vN Y, vN Z, vS 0 L.length] 24, some ⟨a3s L, 25, false, true⟩, rB [vI 0, vI 0, vI 0, .slice none 0 0] 29, some ⟨a3s L, 25, false, true⟩, rB [vN X, vN Y, vN Z, vS 4 L.length] 29, rB [vI 0, vI 0, vI 0, .slice none 0 0] 29, some ⟨a3s L, 25, false, true⟩]) (by kernel_rfl) ?_
    refine kSeq ?_
    refine cFalse (by kernel_rfl) ?_
    refine cSkip ?_
    refine kSeq ?_
    refine cSeq ?_
    refine cReg ?_
    refine segEndH [1, 2, 6, 7, 8, 9, 10, 11] (T1 := (mkT 101 [(1, vI k), (2, vP 1 0), (6, vP 3 0), (7, .bool false), (8, vP 5 0), (9, vP 6 0), (10, .bool false), (11, vI 1)])) (by kernel_rfl) ?_
    refine kSeq ?_
    refine cSeq ?_
    refine cReg ?_
    refine segH 2 (T1 := (mkT 101 [(1, vI k), (2, vP 1 0), (6, vP 3 0), (7, .bool false), (8, vP 5 0), (9, vP 6 0), (10, .bool false), (11, vI 1), (50, .agg #[vN X, vN Y, vN Z, vS 4 L.length]), (51, vI 1)])) (by kernel_rfl) ?_
    refine rCall (v := vN (1 + 3 * L.length)) (args := [.agg #[vN X, vN Y, vN Z, vS 4 L.length], vI 1]) (by kernel_rfl) rfl (by kernel_rfl) (Sound.emb_set (r := ⟨a3s L, 25, false, true⟩) (r' := ⟨a3s (mk3 1 L.length), 25, false, true⟩) 4 (markHeapB ((X : Nat) : Int) ((Y : Nat) : Int) ((Z : Nat) : Int) L 1 (by first | omega | assumption | (simp; done)) (by first | assumption | omega | rfl | decide | exact HeapL.list _ _ _ _ | exact HeapL.nil _ _ _ | exact HeapL.all _ _ _ | (apply HeapL.lt64 <;> assumption) | (repeat' (first | assumption | apply or_lt64 | apply and_lt64 | apply andn_lt64 | apply pow_lt64 | (apply HeapL.lt64 <;> assumption))))) (flatA3 _ _ _ _) rfl (flatA3 _ _ _ _) rfl rfl rfl (by first | rfl | simp [mpV, mpA, mpS, mpP, renId, shift]) rfl) ?_
    refine segEnd [1, 2, 6, 7, 9, 10, 11] (T1 := (mkT 101 [(1, vI k), (2, vP 1 0), (6, vP 3 0), (7, .bool false), (9, vP 6 0), (10, .bool false), (11, vN (1 + 3 * L.length))])) (H1 := [some ⟨a3s L, 25, false, false⟩, rB [vN X, vN Y, vN Z, vS 0 L.length] 24, some ⟨a3s L, 25, false, true⟩, rB [vI 0, vI 0, vI 0, .slice none 0 0] 29, some ⟨a3s (mk3 1 L.length), 25, false, true⟩, rB [vN X, vN Y, vN Z, vS 4 L.length] 29, rB [vI 0, vI 0, vI 0, .slice none 0 0] 29, some ⟨a3s L, 25, false, true⟩]) (by kernel_rfl) ?_
    refine kSeq ?_
    refine cSeq ?_
    refine cSeq ?_
    refine cReg ?_
    refine segH 3 (T1 := (mkT 101 [(1, vI k), (2, vP 1 0), (6, vP 3 0), (7, .bool false), (9, vP 6 0), (10, .bool false), (11, vN (1 + 3 * L.length)), (53, vN (1 + 3 * L.length)), (54, .bool (decide (((1 + 3 * L.length : Nat) : Int) < 0))), (55, .bool (decide (((1 + 3 * L.length : Nat) : Int) < 0)))])) (by kernel_rfl) ?_
    cases h2 : (decide (((1 + 3 * L.length : Nat) : Int) < 0) : Bool)
    ·
      (try simp only [Bool.not_eq_true', Bool.not_eq_false', decide_eq_true_eq, decide_eq_false_iff_not, beq_iff_eq, bne_iff_ne, beq_eq_false_iff_ne, bne_eq_false_iff_eq, ne_eq, Decidable.not_not, Bool.and_eq_true, Bool.and_eq_false_imp, Bool.or_eq_true, Bool.or_eq_false_iff, Bool.not_eq_true, Int.not_lt, Int.not_le, ge_iff_le, gt_iff_lt] at h2)
      refine seg 2 (T1 := (mkT 101 [(1, vI k), (2, vP 1 0), (6, vP 3 0), (7, .bool false), (9, vP 6 0), (10, .bool false), (11, vN (1 + 3 * L.length)), (53, vN (1 + 3 * L.length)), (54, .bool false), (55, .bool false), (56, .agg #[vI 0, vI 0, vI 0, .slice none 0 0]), (57, .agg #[vI 0, vI 0, vI 0, .slice none 0 0])])) (H1 := [some ⟨a3s L, 25, false, false⟩, rB [vN X, vN Y, vN Z, vS 0 L.length] 24, some ⟨a3s L, 25, false, true⟩, rB [vI 0, vI 0, vI 0, .slice none 0 0] 29, some ⟨a3s (mk3 1 L.length), 25, false, true⟩, rB [vN X, vN Y, vN Z, vS 4 L.length] 29, rB [vI 0, vI 0, vI 0, .slice none 0 0] 29, some ⟨a3s L, 25, false, true⟩]) (by kernel_rfl) ?_
      refine rCall (v := .bool true) (args := [.agg #[vI 0, vI 0, vI 0, .slice none 0 0], .agg #[vI 0, vI 0, vI 0, .slice none 0 0]]) (by kernel_rfl) rfl (by kernel_rfl) (Sound.lay0 [] (eqHeapN) trivial rfl trivial rfl (by first | rfl | simp [mpV, mpA, mpS, mpP, renId, shift]) rfl) ?_
      refine segEnd [1, 2, 6, 7, 9, 65] (T1 := (mkT 101 [(1, vI k), (2, vP 1 0), (6, vP 3 0), (7, .bool false), (9, vP 6 0), (65, .bool false)])) (H1 := [some ⟨a3s L, 25, false, false⟩, rB [vN X, vN Y, vN Z, vS 0 L.length] 24, some ⟨a3s L, 25, false, true⟩, rB [vI 0, vI 0, vI 0, .slice none 0 0] 29, some ⟨a3s (mk3 1 L.length), 25, false, true⟩, rB [vN X, vN Y, vN Z, vS 4 L.length] 29, rB [vI 0, vI 0, vI 0, .slice none 0 0] 29, some ⟨a3s L, 25, false, true⟩]) (by kernel_rfl) ?_
      refine kSeq ?_
      refine cFalse (by kernel_rfl) ?_
      refine cSkip ?_
      refine kSeq ?_
      refine cSeq ?_
      refine cReg ?_
      refine segEndH [1, 2, 6, 7, 9, 12] (T1 := (mkT 101 [(1, vI k), (2, vP 1 0), (6, vP 3 0), (7, .bool false), (9, vP 6 0), (12, vI 1)])) (by kernel_rfl) ?_
      refine kSeq ?_
      refine cSeq ?_
      refine cReg ?_
      refine segH 2 (T1 := (mkT 101 [(1, vI k), (2, vP 1 0), (6, vP 3 0), (7, .bool false), (9, vP 6 0), (12, vI 1), (66, .agg #[vI 0, vI 0, vI 0, .slice none 0 0]), (67, vI 1)])) (by kernel_rfl) ?_
      refine rCall (v := vI 1) (args := [.agg #[vI 0, vI 0, vI 0, .slice none 0 0], vI 1]) (by kernel_rfl) rfl (by kernel_rfl) (Sound.lay0 [] (markHeapN 1) trivial rfl trivial rfl (by first | rfl | simp [mpV, mpA, mpS, mpP, renId, shift]) rfl) ?_
      refine segEndH [1, 2, 6, 7, 9, 12] (T1 := (mkT 101 [(1, vI k), (2, vP 1 0), (6, vP 3 0), (7, .bool false), (9, vP 6 0), (12, vI 1)])) (by kernel_rfl) ?_
      refine kSeq ?_
      refine cSeq ?_
      refine cReg ?_
      refine segEndH [1, 2, 6, 7, 9, 12, 13] (T1 := (mkT 101 [(1, vI k), (2, vP 1 0), (6, vP 3 0), (7, .bool false), (9, vP 6 0), (12, vI 1), (13, vI 1)])) (by kernel_rfl) ?_
      refine kSeq ?_
      refine cSeq ?_
      refine cReg ?_
      refine segH 2 (T1 := (mkT 101 [(1, vI k), (2, vP 1 0), (6, vP 3 0), (7, .bool false), (9, vP 6 0), (12, vI 1), (13, vI 1), (69, .agg #[vI 0, vI 0, vI 0, .slice none 0 0]), (70, vI 1)])) (by kernel_rfl) ?_
      refine rCall (v := vI 1) (args := [.agg #[vI 0, vI 0, vI 0, .slice none 0 0], vI 1]) (by kernel_rfl) rfl (by kernel_rfl) (Sound.lay0 [] (heldHeapN) trivial rfl trivial rfl (by first | rfl | simp [mpV, mpA, mpS, mpP, renId, shift]) rfl) ?_
      refine segEndH [1, 2, 6, 7, 9, 12, 13] (T1 := (mkT 101 [(1, vI k), (2, vP 1 0), (6, vP 3 0), (7, .bool false), (9, vP 6 0), (12, vI 1), (13, vI 1)])) (by kernel_rfl) ?_
      refine kSeq ?_
      refine cSeq ?_
      refine cSeq ?_
      refine cReg ?_
      refine segEndH [1, 2, 6, 7, 9, 12, 13, 73] (T1 := (mkT 101 [(1, vI k), (2, vP 1 0), (6, vP 3 0), (7, .bool false), (9, vP 6 0), (12, vI 1), (13, vI 1), (73, .bool false)])) (by kernel_rfl) ?_
      refine kSeq ?_
      refine cFalse (by kernel_rfl) ?_
      refine cSkip ?_
      refine kSeq ?_
      refine cSeq ?_
      refine cSeq ?_
      refine cReg ?_
      refine segEndH [1, 2, 6, 7, 9, 12, 76] (T1 := (mkT 101 [(1, vI k), (2, vP 1 0), (6, vP 3 0), (7, .bool false), (9, vP 6 0), (12, vI 1), (76, .bool false)])) (by kernel_rfl) ?_
      refine kSeq ?_
      refine cFalse (by kernel_rfl) ?_
      refine cSkip ?_
      refine kSeq ?_
      refine cSeq ?_
      refine cReg ?_
      refine segH 1 (T1 := (mkT 101 [(1, vI k), (2, vP 1 0), (6, vP 3 0), (7, .bool false), (9, vP 6 0), (12, vI 1), (76, .bool false), (78, .agg #[vN X, vN Y, vN Z, vS 0 L.length])])) (by kernel_rfl) ?_
      refine rCall (v := .agg #[vN X, vN Y, vN Z, vS 8 L.length]) (args := [.agg #[vN X, vN Y, vN Z, vS 0 L.length]]) (by kernel_rfl) rfl (by kernel_rfl) (Sound.lay (E := [some ⟨a3s L, 25, false, true⟩]) [0] (toHeapB ((X : Nat) : Int) ((Y : Nat) : Int) ((Z : Nat) : Int) L (by first | omega | assumption | (simp; done))) ⟨rdF false (flatA3 _ _ _ _) rfl rfl, trivial⟩ rfl ⟨clF (flatA3 _ _ _ _), trivial⟩ rfl (by first | rfl | simp [mpV, mpA, mpS, mpP, renId, shift]) (by first | rfl | simp [mpV, mpA, mpS, mpP, renId, shift]) ⟨enF (flatA3 _ _ _ _) (Or.inl rfl), trivial⟩) ?_
      refine seg 1 (T1 := (mkT 101 [(1, vI k), (2, vP 1 0), (6, vP 3 0), (7, .bool false), (9, vP 6 0), (12, vI 1), (76, .bool false), (78, .agg #[vN X, vN Y, vN Z, vS 0 L.length]), (79, .agg #[vN X, vN Y, vN Z, vS 8 L.length]), (80, vI k)])) (H1 := [some ⟨a3s L, 25, false, false⟩, rB [vN X, vN Y, vN Z, vS 0 L.length] 24, some ⟨a3s L, 25, false, true⟩, rB [vI 0, vI 0, vI 0, .slice none 0 0] 29, some ⟨a3s (mk3 1 L.length), 25, false, true⟩, rB [vN X, vN Y, vN Z, vS 4 L.length] 29, rB [vI 0, vI 0, vI 0, .slice none 0 0] 29, some ⟨a3s L, 25, false, true⟩, some ⟨a3s L, 25, false, true⟩]) (by kernel_rfl) ?_
      refine rCall (v := .tuple #[.agg #[vI 0, vI 0, vI 0, .slice none 0 0], .bool false]) (args := [.agg #[vN X, vN Y, vN Z, vS 8 L.length], vI k]) (by kernel_rfl) rfl (by kernel_rfl) (Sound.lay0 [8] (implMirrorHeap_no2 X Y Z L k (by first | assumption | omega | rfl | decide | exact HeapL.list _ _ _ _ | exact HeapL.nil _ _ _ | exact HeapL.all _ _ _ | (apply HeapL.lt64 <;> assumption) | (repeat' (first | assumption | apply or_lt64 | apply and_lt64 | apply andn_lt64 | apply pow_lt64 | (apply HeapL.lt64 <;> assumption)))) (by first | assumption | omega | rfl | decide | exact HeapL.list _ _ _ _ | exact HeapL.nil _ _ _ | exact HeapL.all _ _ _ | (apply HeapL.lt64 <;> assumption) | (repeat' (first | assumption | apply or_lt64 | apply and_lt64 | apply andn_lt64 | apply pow_lt64 | (apply HeapL.lt64 <;> assumption)))) (by first | assumption | omega | rfl | decide | exact HeapL.list _ _ _ _ | exact HeapL.nil _ _ _ | exact HeapL.all _ _ _ | (apply HeapL.lt64 <;> assumption) | (repeat' (first | assumption | apply or_lt64 | apply and_lt64 | apply andn_lt64 | apply pow_lt64 | (apply HeapL.lt64 <;> assumption))))) ⟨rdF true (flatA3 _ _ _ _) rfl rfl, trivial⟩ rfl ⟨clF (flatA3 _ _ _ _), trivial⟩ rfl (by first | rfl | simp [mpV, mpA, mpS, mpP, renId, shift]) (by first | rfl | simp [mpV, mpA, mpS, mpP, renId, shift])) ?_
      refine segEnd [6, 7, 9, 12, 14, 15] (T1 := (mkT 101 [(6, vP 3 0), (7, .bool false), (9, vP 6 0), (12, vI 1), (14, vP 9 0), (15, .bool false)])) (H1 := [some ⟨a3s L, 25, false, false⟩, rB [vN X, vN Y, vN Z, vS 0 L.length] 24, some ⟨a3s L, 25, false, true⟩, rB [vI 0, vI 0, vI 0, .slice none 0 0] 29, some ⟨a3s (mk3 1 L.length), 25, false, true⟩, rB [vN X, vN Y, vN Z, vS 4 L.length] 29, rB [vI 0, vI 0, vI 0, .slice none 0 0] 29, some ⟨a3s L, 25, false, true⟩, some ⟨a3s L, 25, false, true⟩, rB [vI 0, vI 0, vI 0, .slice none 0 0] 29]) (by kernel_rfl) ?_
      refine kSeq ?_
      refine cSeq ?_
      refine cSeq ?_
      refine cReg ?_
      refine segH 2 (T1 := (mkT 101 [(6, vP 3 0), (7, .bool false), (9, vP 6 0), (12, vI 1), (14, vP 9 0), (15, .bool false), (84, .agg #[vI 0, vI 0, vI 0, .slice none 0 0]), (85, .agg #[vI 0, vI 0, vI 0, .slice none 0 0])])) (by kernel_rfl) ?_
      refine rCall (v := .bool true) (args := [.agg #[vI 0, vI 0, vI 0, .slice none 0 0], .agg #[vI 0, vI 0, vI 0, .slice none 0 0]]) (by kernel_rfl) rfl (by kernel_rfl) (Sound.lay0 [] (eqHeapN) trivial rfl trivial rfl (by first | rfl | simp [mpV, mpA, mpS, mpP, renId, shift]) rfl) ?_
      refine segEndH [9, 12, 92] (T1 := (mkT 101 [(9, vP 6 0), (12, vI 1), (92, .bool false)])) (by kernel_rfl) ?_
      refine kSeq ?_
      refine cFalse (by kernel_rfl) ?_
      refine cSkip ?_
      refine kSeq ?_
      refine cSeq ?_
      refine cReg ?_
      refine segEndH [9, 12, 13] (T1 := (mkT 101 [(9, vP 6 0), (12, vI 1), (13, vI 1)])) (by kernel_rfl) ?_
      refine kSeq ?_
      refine cSeq ?_
      refine cReg ?_
      refine segH 2 (T1 := (mkT 101 [(9, vP 6 0), (12, vI 1), (13, vI 1), (93, .agg #[vI 0, vI 0, vI 0, .slice none 0 0]), (94, vI 1)])) (by kernel_rfl) ?_
      refine rCall (v := vI 1) (args := [.agg #[vI 0, vI 0, vI 0, .slice none 0 0], vI 1]) (by kernel_rfl) rfl (by kernel_rfl) (Sound.lay0 [] (heldHeapN) trivial rfl trivial rfl (by first | rfl | simp [mpV, mpA, mpS, mpP, renId, shift]) rfl) ?_
      refine segEndH [12, 13] (T1 := (mkT 101 [(12, vI 1), (13, vI 1)])) (by kernel_rfl) ?_
      refine kSeq ?_
      refine cSeq ?_
      refine cSeq ?_
      refine cReg ?_
      refine segEndH [12, 13, 97] (T1 := (mkT 101 [(12, vI 1), (13, vI 1), (97, .bool false)])) (by kernel_rfl) ?_
      refine kSeq ?_
      refine cFalse (by kernel_rfl) ?_
      refine cSkip ?_
      refine kSeq ?_
      refine cSeq ?_
      refine cSeq ?_
      refine cReg ?_
      refine segEndH [100] (T1 := (mkT 101 [(100, .bool false)])) (by kernel_rfl) ?_
      refine kSeq ?_
      refine cFalse (by kernel_rfl) ?_
      refine cSkip ?_
      refine kSeq ?_
      refine cSeq ?_
      refine cReg ?_
      refine segEndH [4] (T1 := (mkT 101 [(4, .bool true)])) (by kernel_rfl) ?_
      refine kSeq ?_
      refine cRet ?_
      -- end
      exact endQ (Or.inr rfl) (l := [.bool true]) [rB [vN X, vN Y, vN Z, vS 0 L.length] 24, some ⟨a3s L, 25, false, true⟩, rB [vI 0, vI 0, vI 0, .slice none 0 0] 29, some ⟨a3s (mk3 1 L.length), 25, false, true⟩, rB [vN X, vN Y, vN Z, vS 4 L.length] 29, rB [vI 0, vI 0, vI 0, .slice none 0 0] 29, some ⟨a3s L, 25, false, true⟩, some ⟨a3s L, 25, false, true⟩, rB [vI 0, vI 0, vI 0, .slice none 0 0] 29] (by kernel_rfl) (by first | rfl | kernel_rfl) rfl rfl hcl rfl
    ·
      (try simp only [Bool.not_eq_true', Bool.not_eq_false', decide_eq_true_eq, decide_eq_false_iff_not, beq_iff_eq, bne_iff_ne, beq_eq_false_iff_ne, bne_eq_false_iff_eq, ne_eq, Decidable.not_not, Bool.and_eq_true, Bool.and_eq_false_imp, Bool.or_eq_true, Bool.or_eq_false_iff, Bool.not_eq_true, Int.not_lt, Int.not_le, ge_iff_le, gt_iff_lt] at h2)
      exfalso; omega
  ·
    (try simp only [Bool.not_eq_true', Bool.not_eq_false', decide_eq_true_eq, decide_eq_false_iff_not, beq_iff_eq, bne_iff_ne, beq_eq_false_iff_ne, bne_eq_false_iff_eq, ne_eq, Decidable.not_not, Bool.and_eq_true, Bool.and_eq_false_imp, Bool.or_eq_true, Bool.or_eq_false_iff, Bool.not_eq_true, Int.not_lt, Int.not_le, ge_iff_le, gt_iff_lt] at h1)
    exfalso; omega

set_option maxRecDepth 100000 in
set_option maxHeartbeats 4000000 in
theorem lawMirrorHeap_no2_n (X : Nat) (Y : Nat) (Z : Nat) (k : Int) (hs : Sides X Y Z) (hk : inR k 0 2 = false) : Sound Try.prog 13 [.agg #[vN X, vN Y, vN Z, .slice none 0 0], vI k] [] (.bool true) [] := by
  refine sound_intro (C := cx) Try.func13 rfl (by kernel_rfl) fun hcl => ?_
  have hz := hs.size
  have hx0 := hs.x0
  have hx4 := hs.x4
  have hy0 := hs.y0
  have hy4 := hs.y4
  have hz0 := hs.z0
  have hz4 := hs.z4
  have hlen : ([] : List A3).length ≤ 64 := by first | (have := hL.len; have := hs.size; omega) | simp
  refine cSeq ?_
  refine cReg ?_
  refine segEnd [1, 2] (T1 := (mkT 101 [(1, vI k), (2, vP 0 0)])) (H1 := [rB [vN X, vN Y, vN Z, .slice none 0 0] 24]) (by kernel_rfl) ?_
  refine kSeq ?_
  refine cSeq ?_
  refine cReg ?_
  refine segEndH [1, 2, 5] (T1 := (mkT 101 [(1, vI k), (2, vP 0 0), (5, vI 1048576)])) (by kernel_rfl) ?_
  refine kSeq ?_
  refine cSeq ?_
  refine cReg ?_
  refine segH 2 (T1 := (mkT 101 [(1, vI k), (2, vP 0 0), (5, vI 1048576), (16, .agg #[vN X, vN Y, vN Z, .slice none 0 0]), (17, vI 1048576)])) (by kernel_rfl) ?_
  refine rCall (v := vI 1048576) (args := [.agg #[vN X, vN Y, vN Z, .slice none 0 0], vI 1048576]) (by kernel_rfl) rfl (by kernel_rfl) (Sound.lay0 [] (szHeapN ((X : Nat) : Int) ((Y : Nat) : Int) ((Z : Nat) : Int) 1048576 (by first | omega | assumption | decide)) trivial rfl trivial rfl (by first | rfl | simp [mpV, mpA, mpS, mpP, renId, shift]) rfl) ?_
  refine segEndH [1, 2, 5] (T1 := (mkT 101 [(1, vI k), (2, vP 0 0), (5, vI 1048576)])) (by kernel_rfl) ?_
  refine kSeq ?_
  refine cSeq ?_
  refine cSeq ?_
  refine cReg ?_
  refine segEndH [1, 2, 20] (T1 := (mkT 101 [(1, vI k), (2, vP 0 0), (20, .bool false)])) (by kernel_rfl) ?_
  refine kSeq ?_
  refine cFalse (by kernel_rfl) ?_
  refine cSkip ?_
  refine kSeq ?_
  refine cSeq ?_
  refine cReg ?_
  refine segH 1 (T1 := (mkT 101 [(1, vI k), (2, vP 0 0), (20, .bool false), (22, .agg #[vN X, vN Y, vN Z, .slice none 0 0])])) (by kernel_rfl) ?_
  refine rCall (v := .agg #[vN X, vN Y, vN Z, vS 1 0]) (args := [.agg #[vN X, vN Y, vN Z, .slice none 0 0]]) (by kernel_rfl) rfl (by kernel_rfl) (Sound.lay (E := [some ⟨[], 25, false, true⟩]) [] (toHeapN ((X : Nat) : Int) ((Y : Nat) : Int) ((Z : Nat) : Int)) trivial rfl trivial rfl (by first | rfl | simp [mpV, mpA, mpS, mpP, renId, shift]) (by first | rfl | simp [mpV, mpA, mpS, mpP, renId, shift]) ⟨enX rfl (Or.inl rfl), trivial⟩) ?_
  refine seg 1 (T1 := (mkT 101 [(1, vI k), (2, vP 0 0), (20, .bool false), (22, .agg #[vN X, vN Y, vN Z, .slice none 0 0]), (23, .agg #[vN X, vN Y, vN Z, vS 1 0]), (24, vI k)])) (H1 := [rB [vN X, vN Y, vN Z, .slice none 0 0] 24, some ⟨[], 25, false, true⟩]) (by kernel_rfl) ?_
  refine rCall (v := .tuple #[.agg #[vI 0, vI 0, vI 0, .slice none 0 0], .bool false]) (args := [.agg #[vN X, vN Y, vN Z, vS 1 0], vI k]) (by kernel_rfl) rfl (by kernel_rfl) (Sound.lay0 [1] (specMirrorHeap_no2 X Y Z ([] : List A3) k (by first | assumption | omega | rfl | decide | exact HeapL.list _ _ _ _ | exact HeapL.nil _ _ _ | exact HeapL.all _ _ _ | (apply HeapL.lt64 <;> assumption) | (repeat' (first | assumption | apply or_lt64 | apply and_lt64 | apply andn_lt64 | apply pow_lt64 | (apply HeapL.lt64 <;> assumption)))) (by first | assumption | omega | rfl | decide | exact HeapL.list _ _ _ _ | exact HeapL.nil _ _ _ | exact HeapL.all _ _ _ | (apply HeapL.lt64 <;> assumption) | (repeat' (first | assumption | apply or_lt64 | apply and_lt64 | apply andn_lt64 | apply pow_lt64 | (apply HeapL.lt64 <;> assumption)))) (by first | assumption | omega | rfl | decide | exact HeapL.list _ _ _ _ | exact HeapL.nil _ _ _ | exact HeapL.all _ _ _ | (apply HeapL.lt64 <;> assumption) | (repeat' (first | assumption | apply or_lt64 | apply and_lt64 | apply andn_lt64 | apply pow_lt64 | (apply HeapL.lt64 <;> assumption))))) ⟨rdF true (flatA3 _ _ _ _) rfl rfl, trivial⟩ rfl ⟨clF (flatA3 _ _ _ _), trivial⟩ rfl (by first | rfl | simp [mpV, mpA, mpS, mpP, renId, shift]) (by first | rfl | simp [mpV, mpA, mpS, mpP, renId, shift])) ?_
  refine segEnd [1, 2, 6, 7] (T1 := (mkT 101 [(1, vI k), (2, vP 0 0), (6, vP 2 0), (7, .bool false)])) (H1 := [rB [vN X, vN Y, vN Z, .slice none 0 0] 24, some ⟨[], 25, false, true⟩, rB [vI 0, vI 0, vI 0, .slice none 0 0] 29]) (by kernel_rfl) ?_
  refine kSeq ?_
  refine cSeq ?_
  refine cReg ?_
  refine segH 1 (T1 := (mkT 101 [(1, vI k), (2, vP 0 0), (6, vP 2 0), (7, .bool false), (28, .agg #[vN X, vN Y, vN Z, .slice none 0 0])])) (by kernel_rfl) ?_
  refine rCall (v := .agg #[vN X, vN Y, vN Z, vS 3 0]) (args := [.agg #[vN X, vN Y, vN Z, .slice none 0 0]]) (by kernel_rfl) rfl (by kernel_rfl) (Sound.lay (E := [some ⟨[], 25, false, true⟩]) [] (toHeapN ((X : Nat) : Int) ((Y : Nat) : Int) ((Z : Nat) : Int)) trivial rfl trivial rfl (by first | rfl | simp [mpV, mpA, mpS, mpP, renId, shift]) (by first | rfl | simp [mpV, mpA, mpS, mpP, renId, shift]) ⟨enX rfl (Or.inl rfl), trivial⟩) ?_
  refine segEnd [1, 2, 6, 7, 8] (T1 := (mkT 101 [(1, vI k), (2, vP 0 0), (6, vP 2 0), (7, .bool false), (8, vP 4 0)])) (H1 := [rB [vN X, vN Y, vN Z, .slice none 0 0] 24, some ⟨[], 25, false, true⟩, rB [vI 0, vI 0, vI 0, .slice none 0 0] 29, some ⟨[], 25, false, true⟩, rB [vN X, vN Y, vN Z, vS 3 0] 29]) (by kernel_rfl) ?_
  refine kSeq ?_
  refine cSeq ?_
  refine cReg ?_
  refine segH 2 (T1 := (mkT 101 [(1, vI k), (2, vP 0 0), (6, vP 2 0), (7, .bool false), (8, vP 4 0), (31, .agg #[vN X, vN Y, vN Z, vS 3 0]), (32, vI k)])) (by kernel_rfl) ?_
  refine rCall (v := .tuple #[.agg #[vI 0, vI 0, vI 0, .slice none 0 0], .bool false]) (args := [.agg #[vN X, vN Y, vN Z, vS 3 0], vI k]) (by kernel_rfl) rfl (by kernel_rfl) (Sound.lay0 [3] (implMirrorHeap_no2 X Y Z ([] : List A3) k (by first | assumption | omega | rfl | decide | exact HeapL.list _ _ _ _ | exact HeapL.nil _ _ _ | exact HeapL.all _ _ _ | (apply HeapL.lt64 <;> assumption) | (repeat' (first | assumption | apply or_lt64 | apply and_lt64 | apply andn_lt64 | apply pow_lt64 | (apply HeapL.lt64 <;> assumption)))) (by first | assumption | omega | rfl | decide | exact HeapL.list _ _ _ _ | exact HeapL.nil _ _ _ | exact HeapL.all _ _ _ | (apply HeapL.lt64 <;> assumption) | (repeat' (first | assumption | apply or_lt64 | apply and_lt64 | apply andn_lt64 | apply pow_lt64 | (apply HeapL.lt64 <;> assumption)))) (by first | assumption | omega | rfl | decide | exact HeapL.list _ _ _ _ | exact HeapL.nil _ _ _ | exact HeapL.all _ _ _ | (apply HeapL.lt64 <;> assumption) | (repeat' (first | assumption | apply or_lt64 | apply and_lt64 | apply andn_lt64 | apply pow_lt64 | (apply HeapL.lt64 <;> assumption))))) ⟨rdF true (flatA3 _ _ _ _) rfl rfl, trivial⟩ rfl ⟨clF (flatA3 _ _ _ _), trivial⟩ rfl (by first | rfl | simp [mpV, mpA, mpS, mpP, renId, shift]) (by first | rfl | simp [mpV, mpA, mpS, mpP, renId, shift])) ?_
  refine segEnd [1, 2, 6, 7, 8, 9, 10] (T1 := (mkT 101 [(1, vI k), (2, vP 0 0), (6, vP 2 0), (7, .bool false), (8, vP 4 0), (9, vP 5 0), (10, .bool false)])) (H1 := [rB [vN X, vN Y, vN Z, .slice none 0 0] 24, some ⟨[], 25, false, true⟩, rB [vI 0, vI 0, vI 0, .slice none 0 0] 29, some ⟨[], 25, false, true⟩, rB [vN X, vN Y, vN Z, vS 3 0] 29, rB [vI 0, vI 0, vI 0, .slice none 0 0] 29]) (by kernel_rfl) ?_
  refine kSeq ?_
  refine cSeq ?_
  refine cSeq ?_
  refine cReg ?_
  refine segH 2 (T1 := (mkT 101 [(1, vI k), (2, vP 0 0), (6, vP 2 0), (7, .bool false), (8, vP 4 0), (9, vP 5 0), (10, .bool false), (36, .agg #[vI 0, vI 0, vI 0, .slice none 0 0]), (37, .agg #[vI 0, vI 0, vI 0, .slice none 0 0])])) (by kernel_rfl) ?_
  refine rCall (v := .bool true) (args := [.agg #[vI 0, vI 0, vI 0, .slice none 0 0], .agg #[vI 0, vI 0, vI 0, .slice none 0 0]]) (by kernel_rfl) rfl (by kernel_rfl) (Sound.lay0 [] (eqHeapN) trivial rfl trivial rfl (by first | rfl | simp [mpV, mpA, mpS, mpP, renId, shift]) rfl) ?_
  refine segEndH [1, 2, 6, 7, 8, 9, 10, 44] (T1 := (mkT 101 [(1, vI k), (2, vP 0 0), (6, vP 2 0), (7, .bool false), (8, vP 4 0), (9, vP 5 0), (10, .bool false), (44, .bool false)])) (by kernel_rfl) ?_
  refine kSeq ?_
  refine cFalse (by kernel_rfl) ?_
  refine cSkip ?_
  refine kSeq ?_
  refine cSeq ?_
  refine cSeq ?_
  refine cRegW (N := 7) [⟨[], [], [4]⟩, ⟨[], [], [0]⟩, ⟨[6], [], []⟩, ⟨[], [], [3, 6]⟩, ⟨[], [], []⟩] 1 [6] (by rfl) (by rfl) (by kernel_rfl) (by kernel_rfl) (by kernel_rfl) ⟨nmsX (by kernel_rfl), ⟨nmsX (by kernel_rfl), ⟨nmsX (by kernel_rfl), ⟨nmsX (by kernel_rfl), ⟨nmsX (by kernel_rfl), ⟨nmsX (by kernel_rfl), trivial⟩⟩⟩⟩⟩⟩ ?_
  refine segWH 2 (T1 := (mkT 101 [(1, vI k), (2, vP 0 0), (6, vP 2 0), (7, .bool false), (8, vP 4 0), (9, vP 5 0), (10, .bool false), (44, .bool false), (45, .agg #[vN X, vN Y, vN Z, vS 3 0]), (46, .agg #[vN X, vN Y, vN Z, .slice none 0 0])])) (by kernel_rfl) ?_
  refine rW (m := ⟨[6], [], []⟩) (v := .agg #[vN X, vN Y, vN Z, vS 6 0]) rfl (by kernel_rfl) (stN (i := 6) (E := [some ⟨[], 25, false, true⟩]) (v1 := .agg #[vN X, vN Y, vN Z, vS 7 0]) (args := [.agg #[vN X, vN Y, vN Z, .slice none 0 0]]) rfl (by kernel_rfl) (Any.lay (E := [some ⟨[], 25, false, true⟩]) (N := 7) [] (toHeapN ((X : Nat) : Int) ((Y : Nat) : Int) ((Z : Nat) : Int)) trivial rfl trivial rfl (by first | rfl | simp [mpV, mpA, mpS, mpP, renId, shift]) (by first | rfl | simp [mpV, mpA, mpS, mpP, renId, shift]) ⟨enX rfl (Or.inl rfl), trivial⟩) rfl (by kernel_rfl) (by kernel_rfl) (by kernel_rfl) (by kernel_rfl) (FlatH.cons (flatRow_of rfl) FlatH.nil)) (by kernel_rfl) (NRs.all ⟨nrOf (by rfl) (nmX (by kernel_rfl)), trivial⟩) ?_
  refine rW (m := ⟨[], [], [3, 6]⟩) (v := .bool true) rfl (by kernel_rfl) (stQ (args := [.agg #[vN X, vN Y, vN Z, vS 3 0], .agg #[vN X, vN Y, vN Z, vS 6 0]]) rfl (by kernel_rfl) (Any.lay0 [3, 6] (eqHeapB ((X : Nat) : Int) ((Y : Nat) : Int) ((Z : Nat) : Int) ([] : List A3) (by first | omega | assumption | (simp; done))) ⟨rdF true (flatA3 _ _ _ _) rfl rfl, ⟨rdF true (flatA3 _ _ _ _) rfl rfl, trivial⟩⟩ rfl ⟨clF (flatA3 _ _ _ _), ⟨clF (flatA3 _ _ _ _), trivial⟩⟩ rfl (by first | rfl | simp [mpV, mpA, mpS, mpP, renId, shift]) rfl) rfl (by kernel_rfl) (by kernel_rfl)) (by kernel_rfl) nr0 ?_
  refine segEndW [1, 2, 6, 7, 8, 9, 10, 49] (T1 := (mkT 101 [(1, vI k), (2, vP 0 0), (6, vP 2 0), (7, .bool false), (8, vP 4 0), (9, vP 5 0), (10, .bool false), (49, .bool false)])) (H1 := [rB [vN X, vN Y, vN Z, .slice none 0 0] 24, some ⟨[], 25, false, true⟩, rB [vI 0, vI 0, vI 0, .slice none 0 0] 29, some ⟨[], 25, false, true⟩, rB [vN X, vN Y, vN Z, vS 3 0] 29, rB [vI 0, vI 0, vI 0, .slice none 0 0] 29, some ⟨[], 25, false, true⟩]) (by kernel_rfl) ?_
  refine kSeq ?_
  refine cFalse (by kernel_rfl) ?_
  refine cSkip ?_
  refine kSeq ?_
  refine cSeq ?_
  refine cReg ?_
  refine segEndH [1, 2, 6, 7, 8, 9, 10, 11] (T1 := (mkT 101 [(1, vI k), (2, vP 0 0), (6, vP 2 0), (7, .bool false), (8, vP 4 0), (9, vP 5 0), (10, .bool false), (11, vI 1)])) (by kernel_rfl) ?_
  refine kSeq ?_
  refine cSeq ?_
  refine cReg ?_
  refine segH 2 (T1 := (mkT 101 [(1, vI k), (2, vP 0 0), (6, vP 2 0), (7, .bool false), (8, vP 4 0), (9, vP 5 0), (10, .bool false), (11, vI 1), (50, .agg #[vN X, vN Y, vN Z, vS 3 0]), (51, vI 1)])) (by kernel_rfl) ?_
  refine rCall (v := vN (1 + 3 * ([] : List A3).length)) (args := [.agg #[vN X, vN Y, vN Z, vS 3 0], vI 1]) (by kernel_rfl) rfl (by kernel_rfl) (Sound.emb_set (r := ⟨a3s ([] : List A3), 25, false, true⟩) (r' := ⟨a3s (mk3 1 ([] : List A3).length), 25, false, true⟩) 3 (markHeapB ((X : Nat) : Int) ((Y : Nat) : Int) ((Z : Nat) : Int) ([] : List A3) 1 (by first | omega | assumption | (simp; done)) (by first | assumption | omega | rfl | decide | exact HeapL.list _ _ _ _ | exact HeapL.nil _ _ _ | exact HeapL.all _ _ _ | (apply HeapL.lt64 <;> assumption) | (repeat' (first | assumption | apply or_lt64 | apply and_lt64 | apply andn_lt64 | apply pow_lt64 | (apply HeapL.lt64 <;> assumption))))) (flatA3 _ _ _ _) rfl (flatA3 _ _ _ _) rfl rfl rfl (by first | rfl | simp [mpV, mpA, mpS, mpP, renId, shift]) rfl) ?_
  refine segEnd [1, 2, 6, 7, 9, 10, 11] (T1 := (mkT 101 [(1, vI k), (2, vP 0 0), (6, vP 2 0), (7, .bool false), (9, vP 5 0), (10, .bool false), (11, vN (1 + 3 * ([] : List A3).length))])) (H1 := [rB [vN X, vN Y, vN Z, .slice none 0 0] 24, some ⟨[], 25, false, true⟩, rB [vI 0, vI 0, vI 0, .slice none 0 0] 29, some ⟨a3s (mk3 1 ([] : List A3).length), 25, false, true⟩, rB [vN X, vN Y, vN Z, vS 3 0] 29, rB [vI 0, vI 0, vI 0, .slice none 0 0] 29, some ⟨[], 25, false, true⟩]) (by kernel_rfl) ?_
  refine kSeq ?_
  refine cSeq ?_
  refine cSeq ?_
  refine cReg ?_
  refine segH 3 (T1 := (mkT 101 [(1, vI k), (2, vP 0 0), (6, vP 2 0), (7, .bool false), (9, vP 5 0), (10, .bool false), (11, vN (1 + 3 * ([] : List A3).length)), (53, vN (1 + 3 * ([] : List A3).length)), (54, .bool (decide (((1 + 3 * ([] : List A3).length : Nat) : Int) < 0))), (55, .bool (decide (((1 + 3 * ([] : List A3).length : Nat) : Int) < 0)))])) (by kernel_rfl) ?_
  cases h1 : (decide (((1 + 3 * ([] : List A3).length : Nat) : Int) < 0) : Bool)
  ·
    (try simp only [Bool.not_eq_true', Bool.not_eq_false', decide_eq_true_eq, decide_eq_false_iff_not, beq_iff_eq, bne_iff_ne, beq_eq_false_iff_ne, bne_eq_false_iff_eq, ne_eq, Decidable.not_not, Bool.and_eq_true, Bool.and_eq_false_imp, Bool.or_eq_true, Bool.or_eq_false_iff, Bool.not_eq_true, Int.not_lt, Int.not_le, ge_iff_le, gt_iff_lt] at h1)
    refine seg 2 (T1 := (mkT 101 [(1, vI k), (2, vP 0 0), (6, vP 2 0), (7, .bool false), (9, vP 5 0), (10, .bool false), (11, vN (1 + 3 * ([] : List A3).length)), (53, vN (1 + 3 * ([] : List A3).length)), (54, .bool false), (55, .bool false), (56, .agg #[vI 0, vI 0, vI 0, .slice none 0 0]), (57, .agg #[vI 0, vI 0, vI 0, .slice none 0 0])])) (H1 := [rB [vN X, vN Y, vN Z, .slice none 0 0] 24, some ⟨[], 25, false, true⟩, rB [vI 0, vI 0, vI 0, .slice none 0 0] 29, some ⟨a3s (mk3 1 ([] : List A3).length), 25, false, true⟩, rB [vN X, vN Y, vN Z, vS 3 0] 29, rB [vI 0, vI 0, vI 0, .slice none 0 0] 29, some ⟨[], 25, false, true⟩]) (by kernel_rfl) ?_
    refine rCall (v := .bool true) (args := [.agg #[vI 0, vI 0, vI 0, .slice none 0 0], .agg #[vI 0, vI 0, vI 0, .slice none 0 0]]) (by kernel_rfl) rfl (by kernel_rfl) (Sound.lay0 [] (eqHeapN) trivial rfl trivial rfl (by first | rfl | simp [mpV, mpA, mpS, mpP, renId, shift]) rfl) ?_
    refine segEnd [1, 2, 6, 7, 9, 65] (T1 := (mkT 101 [(1, vI k), (2, vP 0 0), (6, vP 2 0), (7, .bool false), (9, vP 5 0), (65, .bool false)])) (H1 := [rB [vN X, vN Y, vN Z, .slice none 0 0] 24, some ⟨[], 25, false, true⟩, rB [vI 0, vI 0, vI 0, .slice none 0 0] 29, some ⟨a3s (mk3 1 ([] : List A3).length), 25, false, true⟩, rB [vN X, vN Y, vN Z, vS 3 0] 29, rB [vI 0, vI 0, vI 0, .slice none 0 0] 29, some ⟨[], 25, false, true⟩]) (by kernel_rfl) ?_
    refine kSeq ?_
    refine cFalse (by kernel_rfl) ?_
    refine cSkip ?_
    refine kSeq ?_
    refine cSeq ?_
    refine cReg ?_
    refine segEndH [1, 2, 6, 7, 9, 12] (T1 := (mkT 101 [(1, vI k), (2, vP 0 0), (6, vP 2 0), (7, .bool false), (9, vP 5 0), (12, vI 1)])) (by kernel_rfl) ?_
    refine kSeq ?_
    refine cSeq ?_
    refine cReg ?_
    refine segH 2 (T1 := (mkT 101 [(1, vI k), (2, vP 0 0), (6, vP 2 0), (7, .bool false), (9, vP 5 0), (12, vI 1), (66, .agg #[vI 0, vI 0, vI 0, .slice none 0 0]), (67, vI 1)])) (by kernel_rfl) ?_
    refine rCall (v := vI 1) (args := [.agg #[vI 0, vI 0, vI 0, .slice none 0 0], vI 1]) (by kernel_rfl) rfl (by kernel_rfl) (Sound.lay0 [] (markHeapN 1) trivial rfl trivial rfl (by first | rfl | simp [mpV, mpA, mpS, mpP, renId, shift]) rfl) ?_
    refine segEndH [1, 2, 6, 7, 9, 12] (T1 := (mkT 101 [(1, vI k), (2, vP 0 0), (6, vP 2 0), (7, .bool false), (9, vP 5 0), (12, vI 1)])) (by kernel_rfl) ?_
    refine kSeq ?_
    refine cSeq ?_
    refine cReg ?_
    refine segEndH [1, 2, 6, 7, 9, 12, 13] (T1 := (mkT 101 [(1, vI k), (2, vP 0 0), (6, vP 2 0), (7, .bool false), (9, vP 5 0), (12, vI 1), (13, vI 1)])) (by kernel_rfl) ?_
    refine kSeq ?_
    refine cSeq ?_
    refine cReg ?_
    refine segH 2 (T1 := (mkT 101 [(1, vI k), (2, vP 0 0), (6, vP 2 0), (7, .bool false), (9, vP 5 0), (12, vI 1), (13, vI 1), (69, .agg #[vI 0, vI 0, vI 0, .slice none 0 0]), (70, vI 1)])) (by kernel_rfl) ?_
    refine rCall (v := vI 1) (args := [.agg #[vI 0, vI 0, vI 0, .slice none 0 0], vI 1]) (by kernel_rfl) rfl (by kernel_rfl) (Sound.lay0 [] (heldHeapN) trivial rfl trivial rfl (by first | rfl | simp [mpV, mpA, mpS, mpP, renId, shift]) rfl) ?_
    refine segEndH [1, 2, 6, 7, 9, 12, 13] (T1 := (mkT 101 [(1, vI k), (2, vP 0 0), (6, vP 2 0), (7, .bool false), (9, vP 5 0), (12, vI 1), (13, vI 1)])) (by kernel_rfl) ?_
    refine kSeq ?_
    refine cSeq ?_
    refine cSeq ?_
    refine cReg ?_
    refine segEndH [1, 2, 6, 7, 9, 12, 13, 73] (T1 := (mkT 101 [(1, vI k), (2, vP 0 0), (6, vP 2 0), (7, .bool false), (9, vP 5 0), (12, vI 1), (13, vI 1), (73, .bool false)])) (by kernel_rfl) ?_
    refine kSeq ?_
    refine cFalse (by kernel_rfl) ?_
    refine cSkip ?_
    refine kSeq ?_
    refine cSeq ?_
    refine cSeq ?_
    refine cReg ?_
    refine segEndH [1, 2, 6, 7, 9, 12, 76] (T1 := (mkT 101 [(1, vI k), (2, vP 0 0), (6, vP 2 0), (7, .bool false), (9, vP 5 0), (12, vI 1), (76, .bool false)])) (by kernel_rfl) ?_
    refine kSeq ?_
    refine cFalse (by kernel_rfl) ?_
    refine cSkip ?_
    refine kSeq ?_
    refine cSeq ?_
    refine cReg ?_
    refine segH 1 (T1 := (mkT 101 [(1, vI k), (2, vP 0 0), (6, vP 2 0), (7, .bool false), (9, vP 5 0), (12, vI 1), (76, .bool false), (78, .agg #[vN X, vN Y, vN Z, .slice none 0 0])])) (by kernel_rfl) ?_
    refine rCall (v := .agg #[vN X, vN Y, vN Z, vS 7 0]) (args := [.agg #[vN X, vN Y, vN Z, .slice none 0 0]]) (by kernel_rfl) rfl (by kernel_rfl) (Sound.lay (E := [some ⟨[], 25, false, true⟩]) [] (toHeapN ((X : Nat) : Int) ((Y : Nat) : Int) ((Z : Nat) : Int)) trivial rfl trivial rfl (by first | rfl | simp [mpV, mpA, mpS, mpP, renId, shift]) (by first | rfl | simp [mpV, mpA, mpS, mpP, renId, shift]) ⟨enX rfl (Or.inl rfl), trivial⟩) ?_
    refine seg 1 (T1 := (mkT 101 [(1, vI k), (2, vP 0 0), (6, vP 2 0), (7, .bool false), (9, vP 5 0), (12, vI 1), (76, .bool false), (78, .agg #[vN X, vN Y, vN Z, .slice none 0 0]), (79, .agg #[vN X, vN Y, vN Z, vS 7 0]), (80, vI k)])) (H1 := [rB [vN X, vN Y, vN Z, .slice none 0 0] 24, some ⟨[], 25, false, true⟩, rB [vI 0, vI 0, vI 0, .slice none 0 0] 29, some ⟨a3s (mk3 1 ([] : List A3).length), 25, false, true⟩, rB [vN X, vN Y, vN Z, vS 3 0] 29, rB [vI 0, vI 0, vI 0, .slice none 0 0] 29, some ⟨[], 25, false, true⟩, some ⟨[], 25, false, true⟩]) (by kernel_rfl) ?_
    refine rCall (v := .tuple #[.agg #[vI 0, vI 0, vI 0, .slice none 0 0], .bool false]) (args := [.agg #[vN X, vN Y, vN Z, vS 7 0], vI k]) (by kernel_rfl) rfl (by kernel_rfl) (Sound.lay0 [7] (implMirrorHeap_no2 X Y Z ([] : List A3) k (by first | assumption | omega | rfl | decide | exact HeapL.list _ _ _ _ | exact HeapL.nil _ _ _ | exact HeapL.all _ _ _ | (apply HeapL.lt64 <;> assumption) | (repeat' (first | assumption | apply or_lt64 | apply and_lt64 | apply andn_lt64 | apply pow_lt64 | (apply HeapL.lt64 <;> assumption)))) (by first | assumption | omega | rfl | decide | exact HeapL.list _ _ _ _ | exact HeapL.nil _ _ _ | exact HeapL.all _ _ _ | (apply HeapL.lt64 <;> assumption) | (repeat' (first | assumption | apply or_lt64 | apply and_lt64 | apply andn_lt64 | apply pow_lt64 | (apply HeapL.lt64 <;> assumption)))) (by first | assumption | omega | rfl | decide | exact HeapL.list _ _ _ _ | exact HeapL.nil _ _ _ | exact HeapL.all _ _ _ | (apply HeapL.lt64 <;> assumption) | (repeat' (first | assumption | apply or_lt64 | apply and_lt64 | apply andn_lt64 | apply pow_lt64 | (apply HeapL.lt64 <;> assumption))))) ⟨rdF true (flatA3 _ _ _ _) rfl rfl, trivial⟩ rfl ⟨clF (flatA3 _ _ _ _), trivial⟩ rfl (by first | rfl | simp [mpV, mpA, mpS, mpP, renId, shift]) (by first | rfl | simp [mpV, mpA, mpS, mpP, renId, shift])) ?_
    refine segEnd [6, 7, 9, 12, 14, 15] (T1 := (mkT 101 [(6, vP 2 0), (7, .bool false), (9, vP 5 0), (12, vI 1), (14, vP 8 0), (15, .bool false)])) (H1 := [rB [vN X, vN Y, vN Z, .slice none 0 0] 24, some ⟨[], 25, false, true⟩, rB [vI 0, vI 0, vI 0, .slice none 0 0] 29, some ⟨a3s (mk3 1 ([] : List A3).length), 25, false, true⟩, rB [vN X, vN Y, vN Z, vS 3 0] 29, rB [vI 0, vI 0, vI 0, .slice none 0 0] 29, some ⟨[], 25, false, true⟩, some ⟨[], 25, false, true⟩, rB [vI 0, vI 0, vI 0, .slice none 0 0] 29]) (by kernel_rfl) ?_
    refine kSeq ?_
    refine cSeq ?_
    refine cSeq ?_
    refine cReg ?_
    refine segH 2 (T1 := (mkT 101 [(6, vP 2 0), (7, .bool false), (9, vP 5 0), (12, vI 1), (14, vP 8 0), (15, .bool false), (84, .agg #[vI 0, vI 0, vI 0, .slice none 0 0]), (85, .agg #[vI 0, vI 0, vI 0, .slice none 0 0])])) (by kernel_rfl) ?_
    refine rCall (v := .bool true) (args := [.agg #[vI 0, vI 0, vI 0, .slice none 0 0], .agg #[vI 0, vI 0, vI 0, .slice none 0 0]]) (by kernel_rfl) rfl (by kernel_rfl) (Sound.lay0 [] (eqHeapN) trivial rfl trivial rfl (by first | rfl | simp [mpV, mpA, mpS, mpP, renId, shift]) rfl) ?_
    refine segEndH [9, 12, 92] (T1 := (mkT 101 [(9, vP 5 0), (12, vI 1), (92, .bool false)])) (by kernel_rfl) ?_
    refine kSeq ?_
    refine cFalse (by kernel_rfl) ?_
    refine cSkip ?_
    refine kSeq ?_
    refine cSeq ?_
    refine cReg ?_
    refine segEndH [9, 12, 13] (T1 := (mkT 101 [(9, vP 5 0), (12, vI 1), (13, vI 1)])) (by kernel_rfl) ?_
    refine kSeq ?_
    refine cSeq ?_
    refine cReg ?_
    refine segH 2 (T1 := (mkT 101 [(9, vP 5 0), (12, vI 1), (13, vI 1), (93, .agg #[vI 0, vI 0, vI 0, .slice none 0 0]), (94, vI 1)])) (by kernel_rfl) ?_
    refine rCall (v := vI 1) (args := [.agg #[vI 0, vI 0, vI 0, .slice none 0 0], vI 1]) (by kernel_rfl) rfl (by kernel_rfl) (Sound.lay0 [] (heldHeapN) trivial rfl trivial rfl (by first | rfl | simp [mpV, mpA, mpS, mpP, renId, shift]) rfl) ?_
    refine segEndH [12, 13] (T1 := (mkT 101 [(12, vI 1), (13, vI 1)])) (by kernel_rfl) ?_
    refine kSeq ?_
    refine cSeq ?_
    refine cSeq ?_
    refine cReg ?_
    refine segEndH [12, 13, 97] (T1 := (mkT 101 [(12, vI 1), (13, vI 1), (97, .bool false)])) (by kernel_rfl) ?_
    refine kSeq ?_
    refine cFalse (by kernel_rfl) ?_
    refine cSkip ?_
    refine kSeq ?_
    refine cSeq ?_
    refine cSeq ?_
    refine cReg ?_
    refine segEndH [100] (T1 := (mkT 101 [(100, .bool false)])) (by kernel_rfl) ?_
    refine kSeq ?_
    refine cFalse (by kernel_rfl) ?_
    refine cSkip ?_
    refine kSeq ?_
    refine cSeq ?_
    refine cReg ?_
    refine segEndH [4] (T1 := (mkT 101 [(4, .bool true)])) (by kernel_rfl) ?_
    refine kSeq ?_
    refine cRet ?_
    -- end
    exact endQ (Or.inr rfl) (l := [.bool true]) [rB [vN X, vN Y, vN Z, .slice none 0 0] 24, some ⟨[], 25, false, true⟩, rB [vI 0, vI 0, vI 0, .slice none 0 0] 29, some ⟨a3s (mk3 1 ([] : List A3).length), 25, false, true⟩, rB [vN X, vN Y, vN Z, vS 3 0] 29, rB [vI 0, vI 0, vI 0, .slice none 0 0] 29, some ⟨[], 25, false, true⟩, some ⟨[], 25, false, true⟩, rB [vI 0, vI 0, vI 0, .slice none 0 0] 29] (by kernel_rfl) (by first | rfl | kernel_rfl) rfl rfl hcl rfl
  ·
    (try simp only [Bool.not_eq_true', Bool.not_eq_false', decide_eq_true_eq, decide_eq_false_iff_not, beq_iff_eq, bne_iff_ne, beq_eq_false_iff_ne, bne_eq_false_iff_eq, ne_eq, Decidable.not_not, Bool.and_eq_true, Bool.and_eq_false_imp, Bool.or_eq_true, Bool.or_eq_false_iff, Bool.not_eq_true, Int.not_lt, Int.not_le, ge_iff_le, gt_iff_lt] at h1)
    exfalso; omega

set_option maxRecDepth 100000 in
set_option maxHeartbeats 4000000 in
theorem lawMirrorHeap_d0_s (X : Nat) (Y : Nat) (Z : Nat) (L : List A3) (R : List A3) (hs : Sides X Y Z) (hL : HeapL X Y Z L) (hR : R = listOf X Y Z (setOf Y Z (L.map (mir X Y Z 0)))) : Sound Try.prog 13 [.agg #[vN X, vN Y, vN Z, vS 0 L.length], vI 0] [some ⟨a3s L, 25, false, false⟩] (.bool true) [some ⟨a3s L, 25, false, false⟩] := by
  refine sound_intro (C := cx) Try.func13 rfl (by kernel_rfl) fun hcl => ?_
  have hz := hs.size
  have hx0 := hs.x0
  have hx4 := hs.x4
  have hy0 := hs.y0
  have hy4 := hs.y4
  have hz0 := hs.z0
  have hz4 := hs.z4
  have hlen : L.length ≤ 64 := by first | (have := hL.len; have := hs.size; omega) | simp
  have hr : R.length ≤ 64 := by (rw [hR]; have := (HeapL.list X Y Z (setOf Y Z (L.map (mir X Y Z 0)))).len; omega)
  refine cSeq ?_
  refine cReg ?_
  refine segEnd [1, 2] (T1 := (mkT 101 [(1, vI 0), (2, vP 1 0)])) (H1 := [some ⟨a3s L, 25, false, false⟩, rB [vN X, vN Y, vN Z, vS 0 L.length] 24]) (by kernel_rfl) ?_
  refine kSeq ?_
  refine cSeq ?_
  refine cReg ?_
  refine segEndH [1, 2, 5] (T1 := (mkT 101 [(1, vI 0), (2, vP 1 0), (5, vI 1048576)])) (by kernel_rfl) ?_
  refine kSeq ?_
  refine cSeq ?_
  refine cReg ?_
  refine segH 2 (T1 := (mkT 101 [(1, vI 0), (2, vP 1 0), (5, vI 1048576), (16, .agg #[vN X, vN Y, vN Z, vS 0 L.length]), (17, vI 1048576)])) (by kernel_rfl) ?_
  refine rCall (v := vN (1048576 - L.length)) (args := [.agg #[vN X, vN Y, vN Z, vS 0 L.length], vI 1048576]) (by kernel_rfl) rfl (by kernel_rfl) (Sound.lay0 [0] (szHeapS ((X : Nat) : Int) ((Y : Nat) : Int) ((Z : Nat) : Int) L 1048576 (by first | omega | assumption | (simp; done)) (by first | omega | assumption | decide)) ⟨rdF false (flatA3 _ _ _ _) rfl rfl, trivial⟩ rfl ⟨clF (flatA3 _ _ _ _), trivial⟩ rfl (by first | rfl | simp [mpV, mpA, mpS, mpP, renId, shift]) rfl) ?_
  refine segEndH [1, 2, 5] (T1 := (mkT 101 [(1, vI 0), (2, vP 1 0), (5, vN (1048576 - L.length))])) (by kernel_rfl) ?_
  refine kSeq ?_
  refine cSeq ?_
  refine cSeq ?_
  refine cReg ?_
  refine segEndH [1, 2, 20] (T1 := (mkT 101 [(1, vI 0), (2, vP 1 0), (20, .bool (decide (((1048576 - L.length : Nat) : Int) < 0)))])) (by kernel_rfl) ?_
  refine kSeq ?_
  cases h1 : (decide (((1048576 - L.length : Nat) : Int) < 0) : Bool)
  ·
    (try simp only [Bool.not_eq_true', Bool.not_eq_false', decide_eq_true_eq, decide_eq_false_iff_not, beq_iff_eq, bne_iff_ne, beq_eq_false_iff_ne, bne_eq_false_iff_eq, ne_eq, Decidable.not_not, Bool.and_eq_true, Bool.and_eq_false_imp, Bool.or_eq_true, Bool.or_eq_false_iff, Bool.not_eq_true, Int.not_lt, Int.not_le, ge_iff_le, gt_iff_lt] at h1)
    refine cFalse (by kernel_rfl) ?_
    refine cSkip ?_
    refine kSeq ?_
    refine cSeq ?_
    refine cReg ?_
    refine segH 1 (T1 := (mkT 101 [(1, vI 0), (2, vP 1 0), (20, .bool false), (22, .agg #[vN X, vN Y, vN Z, vS 0 L.length])])) (by kernel_rfl) ?_
    refine rCall (v := .agg #[vN X, vN Y, vN Z, vS 2 L.length]) (args := [.agg #[vN X, vN Y, vN Z, vS 0 L.length]]) (by kernel_rfl) rfl (by kernel_rfl) (Sound.lay (E := [some ⟨a3s L, 25, false, true⟩]) [0] (toHeapB ((X : Nat) : Int) ((Y : Nat) : Int) ((Z : Nat) : Int) L (by first | omega | assumption | (simp; done))) ⟨rdF false (flatA3 _ _ _ _) rfl rfl, trivial⟩ rfl ⟨clF (flatA3 _ _ _ _), trivial⟩ rfl (by first | rfl | simp [mpV, mpA, mpS, mpP, renId, shift]) (by first | rfl | simp [mpV, mpA, mpS, mpP, renId, shift]) ⟨enF (flatA3 _ _ _ _) (Or.inl rfl), trivial⟩) ?_
    refine seg 1 (T1 := (mkT 101 [(1, vI 0), (2, vP 1 0), (20, .bool false), (22, .agg #[vN X, vN Y, vN Z, vS 0 L.length]), (23, .agg #[vN X, vN Y, vN Z, vS 2 L.length]), (24, vI 0)])) (H1 := [some ⟨a3s L, 25, false, false⟩, rB [vN X, vN Y, vN Z, vS 0 L.length] 24, some ⟨a3s L, 25, false, true⟩]) (by kernel_rfl) ?_
    refine rCall (v := .tuple #[.agg #[vN X, vN Y, vN Z, vS 3 R.length], .bool true]) (args := [.agg #[vN X, vN Y, vN Z, vS 2 L.length], vI 0]) (by kernel_rfl) rfl (by kernel_rfl) (Sound.lay (E := [some ⟨a3s R, 25, false, true⟩]) [2] (specMirrorHeap_0R X Y Z L R (by first | assumption | omega | rfl | decide | exact HeapL.list _ _ _ _ | exact HeapL.nil _ _ _ | exact HeapL.all _ _ _ | (apply HeapL.lt64 <;> assumption) | (repeat' (first | assumption | apply or_lt64 | apply and_lt64 | apply andn_lt64 | apply pow_lt64 | (apply HeapL.lt64 <;> assumption)))) (by first | assumption | omega | rfl | decide | exact HeapL.list _ _ _ _ | exact HeapL.nil _ _ _ | exact HeapL.all _ _ _ | (apply HeapL.lt64 <;> assumption) | (repeat' (first | assumption | apply or_lt64 | apply and_lt64 | apply andn_lt64 | apply pow_lt64 | (apply HeapL.lt64 <;> assumption)))) (by first | assumption | omega | rfl | decide | exact HeapL.list _ _ _ _ | exact HeapL.nil _ _ _ | exact HeapL.all _ _ _ | (apply HeapL.lt64 <;> assumption) | (repeat' (first | assumption | apply or_lt64 | apply and_lt64 | apply andn_lt64 | apply pow_lt64 | (apply HeapL.lt64 <;> assumption))))) ⟨rdF true (flatA3 _ _ _ _) rfl rfl, trivial⟩ rfl ⟨clF (flatA3 _ _ _ _), trivial⟩ rfl (by first | rfl | simp [mpV, mpA, mpS, mpP, renId, shift]) (by first | rfl | simp [mpV, mpA, mpS, mpP, renId, shift]) ⟨enF (flatA3 _ _ _ _) (Or.inl rfl), trivial⟩) ?_
    refine segEnd [1, 2, 6, 7] (T1 := (mkT 101 [(1, vI 0), (2, vP 1 0), (6, vP 4 0), (7, .bool true)])) (H1 := [some ⟨a3s L, 25, false, false⟩, rB [vN X, vN Y, vN Z, vS 0 L.length] 24, some ⟨a3s L, 25, false, true⟩, some ⟨a3s R, 25, false, true⟩, rB [vN X, vN Y, vN Z, vS 3 R.length] 29]) (by kernel_rfl) ?_
    refine kSeq ?_
    refine cSeq ?_
    refine cReg ?_
    refine segH 1 (T1 := (mkT 101 [(1, vI 0), (2, vP 1 0), (6, vP 4 0), (7, .bool true), (28, .agg #[vN X, vN Y, vN Z, vS 0 L.length])])) (by kernel_rfl) ?_
    refine rCall (v := .agg #[vN X, vN Y, vN Z, vS 5 L.length]) (args := [.agg #[vN X, vN Y, vN Z, vS 0 L.length]]) (by kernel_rfl) rfl (by kernel_rfl) (Sound.lay (E := [some ⟨a3s L, 25, false, true⟩]) [0] (toHeapB ((X : Nat) : Int) ((Y : Nat) : Int) ((Z : Nat) : Int) L (by first | omega | assumption | (simp; done))) ⟨rdF false (flatA3 _ _ _ _) rfl rfl, trivial⟩ rfl ⟨clF (flatA3 _ _ _ _), trivial⟩ rfl (by first | rfl | simp [mpV, mpA, mpS, mpP, renId, shift]) (by first | rfl | simp [mpV, mpA, mpS, mpP, renId, shift]) ⟨enF (flatA3 _ _ _ _) (Or.inl rfl), trivial⟩) ?_
    refine segEnd [1, 2, 6, 7, 8] (T1 := (mkT 101 [(1, vI 0), (2, vP 1 0), (6, vP 4 0), (7, .bool true), (8, vP 6 0)])) (H1 := [some ⟨a3s L, 25, false, false⟩, rB [vN X, vN Y, vN Z, vS 0 L.length] 24, some ⟨a3s L, 25, false, true⟩, some ⟨a3s R, 25, false, true⟩, rB [vN X, vN Y, vN Z, vS 3 R.length] 29, some ⟨a3s L, 25, false, true⟩, rB [vN X, vN Y, vN Z, vS 5 L.length] 29]) (by kernel_rfl) ?_
    refine kSeq ?_
    refine cSeq ?_
    refine cReg ?_
    refine segH 2 (T1 := (mkT 101 [(1, vI 0), (2, vP 1 0), (6, vP 4 0), (7, .bool true), (8, vP 6 0), (31, .agg #[vN X, vN Y, vN Z, vS 5 L.length]), (32, vI 0)])) (by kernel_rfl) ?_
    refine rCall (v := .tuple #[.agg #[vN X, vN Y, vN Z, vS 7 R.length], .bool true]) (args := [.agg #[vN X, vN Y, vN Z, vS 5 L.length], vI 0]) (by kernel_rfl) rfl (by kernel_rfl) (Sound.lay (E := [some ⟨a3s R, 25, false, true⟩]) [5] (implMirrorHeap_0R X Y Z L R (by first | assumption | omega | rfl | decide | exact HeapL.list _ _ _ _ | exact HeapL.nil _ _ _ | exact HeapL.all _ _ _ | (apply HeapL.lt64 <;> assumption) | (repeat' (first | assumption | apply or_lt64 | apply and_lt64 | apply andn_lt64 | apply pow_lt64 | (apply HeapL.lt64 <;> assumption)))) (by first | assumption | omega | rfl | decide | exact HeapL.list _ _ _ _ | exact HeapL.nil _ _ _ | exact HeapL.all _ _ _ | (apply HeapL.lt64 <;> assumption) | (repeat' (first | assumption | apply or_lt64 | apply and_lt64 | apply andn_lt64 | apply pow_lt64 | (apply HeapL.lt64 <;> assumption)))) (by first | assumption | omega | rfl | decide | exact HeapL.list _ _ _ _ | exact HeapL.nil _ _ _ | exact HeapL.all _ _ _ | (apply HeapL.lt64 <;> assumption) | (repeat' (first | assumption | apply or_lt64 | apply and_lt64 | apply andn_lt64 | apply pow_lt64 | (apply HeapL.lt64 <;> assumption))))) ⟨rdF true (flatA3 _ _ _ _) rfl rfl, trivial⟩ rfl ⟨clF (flatA3 _ _ _ _), trivial⟩ rfl (by first | rfl | simp [mpV, mpA, mpS, mpP, renId, shift]) (by first | rfl | simp [mpV, mpA, mpS, mpP, renId, shift]) ⟨enF (flatA3 _ _ _ _) (Or.inl rfl), trivial⟩) ?_
    refine segEnd [1, 2, 6, 7, 8, 9, 10] (T1 := (mkT 101 [(1, vI 0), (2, vP 1 0), (6, vP 4 0), (7, .bool true), (8, vP 6 0), (9, vP 8 0), (10, .bool true)])) (H1 := [some ⟨a3s L, 25, false, false⟩, rB [vN X, vN Y, vN Z, vS 0 L.length] 24, some ⟨a3s L, 25, false, true⟩, some ⟨a3s R, 25, false, true⟩, rB [vN X, vN Y, vN Z, vS 3 R.length] 29, some ⟨a3s L, 25, false, true⟩, rB [vN X, vN Y, vN Z, vS 5 L.length] 29, some ⟨a3s R, 25, false, true⟩, rB [vN X, vN Y, vN Z, vS 7 R.length] 29]) (by kernel_rfl) ?_
    refine kSeq ?_
    refine cSeq ?_
    refine cSeq ?_
    refine cReg ?_
    refine segH 2 (T1 := (mkT 101 [(1, vI 0), (2, vP 1 0), (6, vP 4 0), (7, .bool true), (8, vP 6 0), (9, vP 8 0), (10, .bool true), (36, .agg #[vN X, vN Y, vN Z, vS 7 R.length]), (37, .agg #[vN X, vN Y, vN Z, vS 3 R.length])])) (by kernel_rfl) ?_
    refine rCall (v := .bool true) (args := [.agg #[vN X, vN Y, vN Z, vS 7 R.length], .agg #[vN X, vN Y, vN Z, vS 3 R.length]]) (by kernel_rfl) rfl (by kernel_rfl) (Sound.lay0 [7, 3] (eqHeapB ((X : Nat) : Int) ((Y : Nat) : Int) ((Z : Nat) : Int) R (by first | omega | assumption | (simp; done))) ⟨rdF true (flatA3 _ _ _ _) rfl rfl, ⟨rdF true (flatA3 _ _ _ _) rfl rfl, trivial⟩⟩ rfl ⟨clF (flatA3 _ _ _ _), ⟨clF (flatA3 _ _ _ _), trivial⟩⟩ rfl (by first | rfl | simp [mpV, mpA, mpS, mpP, renId, shift]) rfl) ?_
    refine segEndH [1, 2, 6, 7, 8, 9, 10, 44] (T1 := (mkT 101 [(1, vI 0), (2, vP 1 0), (6, vP 4 0), (7, .bool true), (8, vP 6 0), (9, vP 8 0), (10, .bool true), (44, .bool false)])) (by kernel_rfl) ?_
    refine kSeq ?_
    refine cFalse (by kernel_rfl) ?_
    refine cSkip ?_
    refine kSeq ?_
    refine cSeq ?_
    refine cSeq ?_
    refine cRegW (N := 10) [⟨[], [], [6]⟩, ⟨[], [], [1]⟩, ⟨[9], [], [0]⟩, ⟨[], [], [5, 9]⟩, ⟨[], [], []⟩] 1 [9] (by rfl) (by rfl) (by kernel_rfl) (by kernel_rfl) (by kernel_rfl) ⟨nmsF (flatA3 _ _ _ _), ⟨nmsX (by kernel_rfl), ⟨nmsF (flatA3 _ _ _ _), ⟨nmsF (flatA3 _ _ _ _), ⟨nmsX (by kernel_rfl), ⟨nmsF (flatA3 _ _ _ _), ⟨nmsX (by kernel_rfl), ⟨nmsF (flatA3 _ _ _ _), ⟨nmsX (by kernel_rfl), trivial⟩⟩⟩⟩⟩⟩⟩⟩⟩ ?_
    refine segWH 2 (T1 := (mkT 101 [(1, vI 0), (2, vP 1 0), (6, vP 4 0), (7, .bool true), (8, vP 6 0), (9, vP 8 0), (10, .bool true), (44, .bool false), (45, .agg #[vN X, vN Y, vN Z, vS 5 L.length]), (46, .agg #[vN X, vN Y, vN Z, vS 0 L.length])])) (by kernel_rfl) ?_
    refine rW (m := ⟨[9], [], [0]⟩) (v := .agg #[vN X, vN Y, vN Z, vS 9 L.length]) rfl (by kernel_rfl) (stN (i := 9) (E := [some ⟨a3s L, 25, false, true⟩]) (v1 := .agg #[vN X, vN Y, vN Z, vS 10 L.length]) (args := [.agg #[vN X, vN Y, vN Z, vS 0 L.length]]) rfl (by kernel_rfl) (Any.lay (E := [some ⟨a3s L, 25, false, true⟩]) (N := 10) [0] (toHeapB ((X : Nat) : Int) ((Y : Nat) : Int) ((Z : Nat) : Int) L (by first | omega | assumption | (simp; done))) ⟨rdF false (flatA3 _ _ _ _) rfl rfl, trivial⟩ rfl ⟨clF (flatA3 _ _ _ _), trivial⟩ rfl (by first | rfl | simp [mpV, mpA, mpS, mpP, renId, shift]) (by first | rfl | simp [mpV, mpA, mpS, mpP, renId, shift]) ⟨enF (flatA3 _ _ _ _) (Or.inl rfl), trivial⟩) rfl (by kernel_rfl) (by kernel_rfl) (by kernel_rfl) (by kernel_rfl) (FlatH.cons (flatA3 _ _ _ _) FlatH.nil)) (by kernel_rfl) (NRs.all ⟨nrOf (by rfl) (nmF (flatA3 _ _ _ _)), trivial⟩) ?_
    refine rW (m := ⟨[], [], [5, 9]⟩) (v := .bool true) rfl (by kernel_rfl) (stQ (args := [.agg #[vN X, vN Y, vN Z, vS 5 L.length], .agg #[vN X, vN Y, vN Z, vS 9 L.length]]) rfl (by kernel_rfl) (Any.lay0 [5, 9] (eqHeapB ((X : Nat) : Int) ((Y : Nat) : Int) ((Z : Nat) : Int) L (by first | omega | assumption | (simp; done))) ⟨rdF true (flatA3 _ _ _ _) rfl rfl, ⟨rdF true (flatA3 _ _ _ _) rfl rfl, trivial⟩⟩ rfl ⟨clF (flatA3 _ _ _ _), ⟨clF (flatA3 _ _ _ _), trivial⟩⟩ rfl (by first | rfl | simp [mpV, mpA, mpS, mpP, renId, shift]) rfl) rfl (by kernel_rfl) (by kernel_rfl)) (by kernel_rfl) nr0 ?_
    refine segEndW [1, 2, 6, 7, 8, 9, 10, 49] (T1 := (mkT 101 [(1, vI 0), (2, vP 1 0), (6, vP 4 0), (7, .bool true), (8, vP 6 0), (9, vP 8 0), (10, .bool true), (49, .bool false)])) (H1 := [some ⟨a3s L, 25, false, false⟩, rB [vN X, vN Y, vN Z, vS 0 L.length] 24, some ⟨a3s L, 25, false, true⟩, some ⟨a3s R, 25, false, true⟩, rB [vN X, vN Y, vN Z, vS 3 R.length] 29, some ⟨a3s L, 25, false, true⟩, rB [vN X, vN Y, vN Z, vS 5 L.length] 29, some ⟨a3s R, 25, false, true⟩, rB [vN X, vN Y, vN Z, vS 7 R.length] 29, some ⟨a3s L, 25, false, true⟩]) (by kernel_rfl) ?_
    refine kSeq ?_
    refine cFalse (by kernel_rfl) ?_
    refine cSkip ?_
    refine kSeq ?_
    refine cSeq ?_
    refine cReg ?_
    refine segEndH [1, 2, 6, 7, 8, 9, 10, 11] (T1 := (mkT 101 [(1, vI 0), (2, vP 1 0), (6, vP 4 0), (7, .bool true), (8, vP 6 0), (9, vP 8 0), (10, .bool true), (11, vI 1)])) (by kernel_rfl) ?_
    refine kSeq ?_
    refine cSeq ?_
    refine cReg ?_
    refine segH 2 (T1 := (mkT 101 [(1, vI 0), (2, vP 1 0), (6, vP 4 0), (7, .bool true), (8, vP 6 0), (9, vP 8 0), (10, .bool true), (11, vI 1), (50, .agg #[vN X, vN Y, vN Z, vS 5 L.length]), (51, vI 1)])) (by kernel_rfl) ?_
    refine rCall (v := vN (1 + 3 * L.length)) (args := [.agg #[vN X, vN Y, vN Z, vS 5 L.length], vI 1]) (by kernel_rfl) rfl (by kernel_rfl) (Sound.emb_set (r := ⟨a3s L, 25, false, true⟩) (r' := ⟨a3s (mk3 1 L.length), 25, false, true⟩) 5 (markHeapB ((X : Nat) : Int) ((Y : Nat) : Int) ((Z : Nat) : Int) L 1 (by first | omega | assumption | (simp; done)) (by first | assumption | omega | rfl | decide | exact HeapL.list _ _ _ _ | exact HeapL.nil _ _ _ | exact HeapL.all _ _ _ | (apply HeapL.lt64 <;> assumption) | (repeat' (first | assumption | apply or_lt64 | apply and_lt64 | apply andn_lt64 | apply pow_lt64 | (apply HeapL.lt64 <;> assumption))))) (flatA3 _ _ _ _) rfl (flatA3 _ _ _ _) rfl rfl rfl (by first | rfl | simp [mpV, mpA, mpS, mpP, renId, shift]) rfl) ?_
    refine segEnd [1, 2, 6, 7, 9, 10, 11] (T1 := (mkT 101 [(1, vI 0), (2, vP 1 0), (6, vP 4 0), (7, .bool true), (9, vP 8 0), (10, .bool true), (11, vN (1 + 3 * L.length))])) (H1 := [some ⟨a3s L, 25, false, false⟩, rB [vN X, vN Y, vN Z, vS 0 L.length] 24, some ⟨a3s L, 25, false, true⟩, some ⟨a3s R, 25, false, true⟩, rB [vN X, vN Y, vN Z, vS 3 R.length] 29, some ⟨a3s (mk3 1 L.length), 25, false, true⟩, rB [vN X, vN Y, vN Z, vS 5 L.length] 29, some ⟨a3s R, 25, false, true⟩, rB [vN X, vN Y, vN Z, vS 7 R.length] 29, some ⟨a3s L, 25, false, true⟩]) (by kernel_rfl) ?_
    refine kSeq ?_
    refine cSeq ?_
    refine cSeq ?_
    refine cReg ?_
    refine segH 3 (T1 := (mkT 101 [(1, vI 0), (2, vP 1 0), (6, vP 4 0), (7, .bool true), (9, vP 8 0), (10, .bool true), (11, vN (1 + 3 * L.length)), (53, vN (1 + 3 * L.length)), (54, .bool (decide (((1 + 3 * L.length : Nat) : Int) < 0))), (55, .bool (decide (((1 + 3 * L.length : Nat) : Int) < 0)))])) (by kernel_rfl) ?_
    cases h2 : (decide (((1 + 3 * L.length : Nat) : Int) < 0) : Bool)
    ·
      (try simp only [Bool.not_eq_true', Bool.not_eq_false', decide_eq_true_eq, decide_eq_false_iff_not, beq_iff_eq, bne_iff_ne, beq_eq_false_iff_ne, bne_eq_false_iff_eq, ne_eq, Decidable.not_not, Bool.and_eq_true, Bool.and_eq_false_imp, Bool.or_eq_true, Bool.or_eq_false_iff, Bool.not_eq_true, Int.not_lt, Int.not_le, ge_iff_le, gt_iff_lt] at h2)
      refine seg 2 (T1 := (mkT 101 [(1, vI 0), (2, vP 1 0), (6, vP 4 0), (7, .bool true), (9, vP 8 0), (10, .bool true), (11, vN (1 + 3 * L.length)), (53, vN (1 + 3 * L.length)), (54, .bool false), (55, .bool false), (56, .agg #[vN X, vN Y, vN Z, vS 7 R.length]), (57, .agg #[vN X, vN Y, vN Z, vS 3 R.length])])) (H1 := [some ⟨a3s L, 25, false, false⟩, rB [vN X, vN Y, vN Z, vS 0 L.length] 24, some ⟨a3s L, 25, false, true⟩, some ⟨a3s R, 25, false, true⟩, rB [vN X, vN Y, vN Z, vS 3 R.length] 29, some ⟨a3s (mk3 1 L.length), 25, false, true⟩, rB [vN X, vN Y, vN Z, vS 5 L.length] 29, some ⟨a3s R, 25, false, true⟩, rB [vN X, vN Y, vN Z, vS 7 R.length] 29, some ⟨a3s L, 25, false, true⟩]) (by kernel_rfl) ?_
      refine rCall (v := .bool true) (args := [.agg #[vN X, vN Y, vN Z, vS 7 R.length], .agg #[vN X, vN Y, vN Z, vS 3 R.length]]) (by kernel_rfl) rfl (by kernel_rfl) (Sound.lay0 [7, 3] (eqHeapB ((X : Nat) : Int) ((Y : Nat) : Int) ((Z : Nat) : Int) R (by first | omega | assumption | (simp; done))) ⟨rdF true (flatA3 _ _ _ _) rfl rfl, ⟨rdF true (flatA3 _ _ _ _) rfl rfl, trivial⟩⟩ rfl ⟨clF (flatA3 _ _ _ _), ⟨clF (flatA3 _ _ _ _), trivial⟩⟩ rfl (by first | rfl | simp [mpV, mpA, mpS, mpP, renId, shift]) rfl) ?_
      refine segEnd [1, 2, 6, 7, 9, 65] (T1 := (mkT 101 [(1, vI 0), (2, vP 1 0), (6, vP 4 0), (7, .bool true), (9, vP 8 0), (65, .bool false)])) (H1 := [some ⟨a3s L, 25, false, false⟩, rB [vN X, vN Y, vN Z, vS 0 L.length] 24, some ⟨a3s L, 25, false, true⟩, some ⟨a3s R, 25, false, true⟩, rB [vN X, vN Y, vN Z, vS 3 R.length] 29, some ⟨a3s (mk3 1 L.length), 25, false, true⟩, rB [vN X, vN Y, vN Z, vS 5 L.length] 29, some ⟨a3s R, 25, false, true⟩, rB [vN X, vN Y, vN Z, vS 7 R.length] 29, some ⟨a3s L, 25, false, true⟩]) (by kernel_rfl) ?_
      refine kSeq ?_
      refine cFalse (by kernel_rfl) ?_
      refine cSkip ?_
      refine kSeq ?_
      refine cSeq ?_
      refine cReg ?_
      refine segEndH [1, 2, 6, 7, 9, 12] (T1 := (mkT 101 [(1, vI 0), (2, vP 1 0), (6, vP 4 0), (7, .bool true), (9, vP 8 0), (12, vI 1)])) (by kernel_rfl) ?_
      refine kSeq ?_
      refine cSeq ?_
      refine cReg ?_
      refine segH 2 (T1 := (mkT 101 [(1, vI 0), (2, vP 1 0), (6, vP 4 0), (7, .bool true), (9, vP 8 0), (12, vI 1), (66, .agg #[vN X, vN Y, vN Z, vS 7 R.length]), (67, vI 1)])) (by kernel_rfl) ?_
      refine rCall (v := vN (1 + 3 * R.length)) (args := [.agg #[vN X, vN Y, vN Z, vS 7 R.length], vI 1]) (by kernel_rfl) rfl (by kernel_rfl) (Sound.emb_set (r := ⟨a3s R, 25, false, true⟩) (r' := ⟨a3s (mk3 1 R.length), 25, false, true⟩) 7 (markHeapB ((X : Nat) : Int) ((Y : Nat) : Int) ((Z : Nat) : Int) R 1 (by first | omega | assumption | (simp; done)) (by first | assumption | omega | rfl | decide | exact HeapL.list _ _ _ _ | exact HeapL.nil _ _ _ | exact HeapL.all _ _ _ | (apply HeapL.lt64 <;> assumption) | (repeat' (first | assumption | apply or_lt64 | apply and_lt64 | apply andn_lt64 | apply pow_lt64 | (apply HeapL.lt64 <;> assumption))))) (flatA3 _ _ _ _) rfl (flatA3 _ _ _ _) rfl rfl rfl (by first | rfl | simp [mpV, mpA, mpS, mpP, renId, shift]) rfl) ?_
      refine segEnd [1, 2, 6, 7, 9, 12] (T1 := (mkT 101 [(1, vI 0), (2, vP 1 0), (6, vP 4 0), (7, .bool true), (9, vP 8 0), (12, vN (1 + 3 * R.length))])) (H1 := [some ⟨a3s L, 25, false, false⟩, rB [vN X, vN Y, vN Z, vS 0 L.length] 24, some ⟨a3s L, 25, false, true⟩, some ⟨a3s R, 25, false, true⟩, rB [vN X, vN Y, vN Z, vS 3 R.length] 29, some ⟨a3s (mk3 1 L.length), 25, false, true⟩, rB [vN X, vN Y, vN Z, vS 5 L.length] 29, some ⟨a3s (mk3 1 R.length), 25, false, true⟩, rB [vN X, vN Y, vN Z, vS 7 R.length] 29, some ⟨a3s L, 25, false, true⟩]) (by kernel_rfl) ?_
      refine kSeq ?_
      refine cSeq ?_
      refine cReg ?_
      refine segEndH [1, 2, 6, 7, 9, 12, 13] (T1 := (mkT 101 [(1, vI 0), (2, vP 1 0), (6, vP 4 0), (7, .bool true), (9, vP 8 0), (12, vN (1 + 3 * R.length)), (13, vI 1)])) (by kernel_rfl) ?_
      refine kSeq ?_
      refine cSeq ?_
      refine cReg ?_
      refine segH 2 (T1 := (mkT 101 [(1, vI 0), (2, vP 1 0), (6, vP 4 0), (7, .bool true), (9, vP 8 0), (12, vN (1 + 3 * R.length)), (13, vI 1), (69, .agg #[vN X, vN Y, vN Z, vS 7 R.length]), (70, vI 1)])) (by kernel_rfl) ?_
      refine rCall (v := vN (1 + 3 * R.length)) (args := [.agg #[vN X, vN Y, vN Z, vS 7 R.length], vI 1]) (by kernel_rfl) rfl (by kernel_rfl) (Sound.lay0 [7] (heldHeapB ((X : Nat) : Int) ((Y : Nat) : Int) ((Z : Nat) : Int) 1 R.length (by first | omega | assumption | (simp; done)) (by first | assumption | omega | rfl | decide | exact HeapL.list _ _ _ _ | exact HeapL.nil _ _ _ | exact HeapL.all _ _ _ | (apply HeapL.lt64 <;> assumption) | (repeat' (first | assumption | apply or_lt64 | apply and_lt64 | apply andn_lt64 | apply pow_lt64 | (apply HeapL.lt64 <;> assumption))))) ⟨rdF true (flatA3 _ _ _ _) rfl rfl, trivial⟩ rfl ⟨clF (flatA3 _ _ _ _), trivial⟩ rfl (by first | rfl | simp [mpV, mpA, mpS, mpP, renId, shift]) rfl) ?_
      refine segEndH [1, 2, 6, 7, 9, 12, 13] (T1 := (mkT 101 [(1, vI 0), (2, vP 1 0), (6, vP 4 0), (7, .bool true), (9, vP 8 0), (12, vN (1 + 3 * R.length)), (13, vN (1 + 3 * R.length))])) (by kernel_rfl) ?_
      refine kSeq ?_
      refine cSeq ?_
      refine cSeq ?_
      refine cReg ?_
      refine segEndH [1, 2, 6, 7, 9, 12, 13, 73] (T1 := (mkT 101 [(1, vI 0), (2, vP 1 0), (6, vP 4 0), (7, .bool true), (9, vP 8 0), (12, vN (1 + 3 * R.length)), (13, vN (1 + 3 * R.length)), (73, .bool (decide (((1 + 3 * R.length : Nat) : Int) < 0)))])) (by kernel_rfl) ?_
      refine kSeq ?_
      cases h3 : (decide (((1 + 3 * R.length : Nat) : Int) < 0) : Bool)
      ·
        (try simp only [Bool.not_eq_true', Bool.not_eq_false', decide_eq_true_eq, decide_eq_false_iff_not, beq_iff_eq, bne_iff_ne, beq_eq_false_iff_ne, bne_eq_false_iff_eq, ne_eq, Decidable.not_not, Bool.and_eq_true, Bool.and_eq_false_imp, Bool.or_eq_true, Bool.or_eq_false_iff, Bool.not_eq_true, Int.not_lt, Int.not_le, ge_iff_le, gt_iff_lt] at h3)
        refine cFalse (by kernel_rfl) ?_
        refine cSkip ?_
        refine kSeq ?_
        refine cSeq ?_
        refine cSeq ?_
        refine cReg ?_
        refine segH 2 (T1 := (mkT 101 [(1, vI 0), (2, vP 1 0), (6, vP 4 0), (7, .bool true), (9, vP 8 0), (12, vN (1 + 3 * R.length)), (13, vN (1 + 3 * R.length)), (73, .bool false), (74, vN (1 + 3 * R.length)), (75, vN (1 + 3 * R.length))])) (by kernel_rfl) ?_
        refine rOp (v := .bool false) (by kernel_rfl) (eNeS (k := .i64) (a := ((1 + 3 * R.length : Nat) : Int)) (by kernel_rfl) (by kernel_rfl)) ?_
        refine segEndH [1, 2, 6, 7, 9, 12, 76] (T1 := (mkT 101 [(1, vI 0), (2, vP 1 0), (6, vP 4 0), (7, .bool true), (9, vP 8 0), (12, vN (1 + 3 * R.length)), (76, .bool false)])) (by kernel_rfl) ?_
        refine kSeq ?_
        refine cFalse (by kernel_rfl) ?_
        refine cSkip ?_
        refine kSeq ?_
        refine cSeq ?_
        refine cReg ?_
        refine segH 1 (T1 := (mkT 101 [(1, vI 0), (2, vP 1 0), (6, vP 4 0), (7, .bool true), (9, vP 8 0), (12, vN (1 + 3 * R.length)), (76, .bool false), (78, .agg #[vN X, vN Y, vN Z, vS 0 L.length])])) (by kernel_rfl) ?_
        refine rCall (v := .agg #[vN X, vN Y, vN Z, vS 10 L.length]) (args := [.agg #[vN X, vN Y, vN Z, vS 0 L.length]]) (by kernel_rfl) rfl (by kernel_rfl) (Sound.lay (E := [some ⟨a3s L, 25, false, true⟩]) [0] (toHeapB ((X : Nat) : Int) ((Y : Nat) : Int) ((Z : Nat) : Int) L (by first | omega | assumption | (simp; done))) ⟨rdF false (flatA3 _ _ _ _) rfl rfl, trivial⟩ rfl ⟨clF (flatA3 _ _ _ _), trivial⟩ rfl (by first | rfl | simp [mpV, mpA, mpS, mpP, renId, shift]) (by first | rfl | simp [mpV, mpA, mpS, mpP, renId, shift]) ⟨enF (flatA3 _ _ _ _) (Or.inl rfl), trivial⟩) ?_
        refine seg 1 (T1 := (mkT 101 [(1, vI 0), (2, vP 1 0), (6, vP 4 0), (7, .bool true), (9, vP 8 0), (12, vN (1 + 3 * R.length)), (76, .bool false), (78, .agg #[vN X, vN Y, vN Z, vS 0 L.length]), (79, .agg #[vN X, vN Y, vN Z, vS 10 L.length]), (80, vI 0)])) (H1 := [some ⟨a3s L, 25, false, false⟩, rB [vN X, vN Y, vN Z, vS 0 L.length] 24, some ⟨a3s L, 25, false, true⟩, some ⟨a3s R, 25, false, true⟩, rB [vN X, vN Y, vN Z, vS 3 R.length] 29, some ⟨a3s (mk3 1 L.length), 25, false, true⟩, rB [vN X, vN Y, vN Z, vS 5 L.length] 29, some ⟨a3s (mk3 1 R.length), 25, false, true⟩, rB [vN X, vN Y, vN Z, vS 7 R.length] 29, some ⟨a3s L, 25, false, true⟩, some ⟨a3s L, 25, false, true⟩]) (by kernel_rfl) ?_
        refine rCall (v := .tuple #[.agg #[vN X, vN Y, vN Z, vS 11 R.length], .bool true]) (args := [.agg #[vN X, vN Y, vN Z, vS 10 L.length], vI 0]) (by kernel_rfl) rfl (by kernel_rfl) (Sound.lay (E := [some ⟨a3s R, 25, false, true⟩]) [10] (implMirrorHeap_0R X Y Z L R (by first | assumption | omega | rfl | decide | exact HeapL.list _ _ _ _ | exact HeapL.nil _ _ _ | exact HeapL.all _ _ _ | (apply HeapL.lt64 <;> assumption) | (repeat' (first | assumption | apply or_lt64 | apply and_lt64 | apply andn_lt64 | apply pow_lt64 | (apply HeapL.lt64 <;> assumption)))) (by first | assumption | omega | rfl | decide | exact HeapL.list _ _ _ _ | exact HeapL.nil _ _ _ | exact HeapL.all _ _ _ | (apply HeapL.lt64 <;> assumption) | (repeat' (first | assumption | apply or_lt64 | apply and_lt64 | apply andn_lt64 | apply pow_lt64 | (apply HeapL.lt64 <;> assumption)))) (by first | assumption | omega | rfl | decide | exact HeapL.list _ _ _ _ | exact HeapL.nil _ _ _ | exact HeapL.all _ _ _ | (apply HeapL.lt64 <;> assumption) | (repeat' (first | assumption | apply or_lt64 | apply and_lt64 | apply andn_lt64 | apply pow_lt64 | (apply HeapL.lt64 <;> assumption))))) ⟨rdF true (flatA3 _ _ _ _) rfl rfl, trivial⟩ rfl ⟨clF (flatA3 _ _ _ _), trivial⟩ rfl (by first | rfl | simp [mpV, mpA, mpS, mpP, renId, shift]) (by first | rfl | simp [mpV, mpA, mpS, mpP, renId, shift]) ⟨enF (flatA3 _ _ _ _) (Or.inl rfl), trivial⟩) ?_
        refine segEnd [6, 7, 9, 12, 14, 15] (T1 := (mkT 101 [(6, vP 4 0), (7, .bool true), (9, vP 8 0), (12, vN (1 + 3 * R.length)), (14, vP 12 0), (15, .bool true)])) (H1 := [some ⟨a3s L, 25, false, false⟩, rB [vN X, vN Y, vN Z, vS 0 L.length] 24, some ⟨a3s L, 25, false, true⟩, some ⟨a3s R, 25, false, true⟩, rB [vN X, vN Y, vN Z, vS 3 R.length] 29, some ⟨a3s (mk3 1 L.length), 25, false, true⟩, rB [vN X, vN Y, vN Z, vS 5 L.length] 29, some ⟨a3s (mk3 1 R.length), 25, false, true⟩, rB [vN X, vN Y, vN Z, vS 7 R.length] 29, some ⟨a3s L, 25, false, true⟩, some ⟨a3s L, 25, false, true⟩, some ⟨a3s R, 25, false, true⟩, rB [vN X, vN Y, vN Z, vS 11 R.length] 29]) (by kernel_rfl) ?_
        refine kSeq ?_
        refine cSeq ?_
        refine cSeq ?_
        refine cReg ?_
        refine segH 2 (T1 := (mkT 101 [(6, vP 4 0), (7, .bool true), (9, vP 8 0), (12, vN (1 + 3 * R.length)), (14, vP 12 0), (15, .bool true), (84, .agg #[vN X, vN Y, vN Z, vS 11 R.length]), (85, .agg #[vN X, vN Y, vN Z, vS 3 R.length])])) (by kernel_rfl) ?_
        refine rCall (v := .bool true) (args := [.agg #[vN X, vN Y, vN Z, vS 11 R.length], .agg #[vN X, vN Y, vN Z, vS 3 R.length]]) (by kernel_rfl) rfl (by kernel_rfl) (Sound.lay0 [11, 3] (eqHeapB ((X : Nat) : Int) ((Y : Nat) : Int) ((Z : Nat) : Int) R (by first | omega | assumption | (simp; done))) ⟨rdF true (flatA3 _ _ _ _) rfl rfl, ⟨rdF true (flatA3 _ _ _ _) rfl rfl, trivial⟩⟩ rfl ⟨clF (flatA3 _ _ _ _), ⟨clF (flatA3 _ _ _ _), trivial⟩⟩ rfl (by first | rfl | simp [mpV, mpA, mpS, mpP, renId, shift]) rfl) ?_
        refine segEndH [9, 12, 92] (T1 := (mkT 101 [(9, vP 8 0), (12, vN (1 + 3 * R.length)), (92, .bool false)])) (by kernel_rfl) ?_
        refine kSeq ?_
        refine cFalse (by kernel_rfl) ?_
        refine cSkip ?_
        refine kSeq ?_
        refine cSeq ?_
        refine cReg ?_
        refine segEndH [9, 12, 13] (T1 := (mkT 101 [(9, vP 8 0), (12, vN (1 + 3 * R.length)), (13, vI 1)])) (by kernel_rfl) ?_
        refine kSeq ?_
        refine cSeq ?_
        refine cReg ?_
        refine segH 2 (T1 := (mkT 101 [(9, vP 8 0), (12, vN (1 + 3 * R.length)), (13, vI 1), (93, .agg #[vN X, vN Y, vN Z, vS 7 R.length]), (94, vI 1)])) (by kernel_rfl) ?_
        refine rCall (v := vN (1 + 3 * R.length)) (args := [.agg #[vN X, vN Y, vN Z, vS 7 R.length], vI 1]) (by kernel_rfl) rfl (by kernel_rfl) (Sound.lay0 [7] (heldHeapB ((X : Nat) : Int) ((Y : Nat) : Int) ((Z : Nat) : Int) 1 R.length (by first | omega | assumption | (simp; done)) (by first | assumption | omega | rfl | decide | exact HeapL.list _ _ _ _ | exact HeapL.nil _ _ _ | exact HeapL.all _ _ _ | (apply HeapL.lt64 <;> assumption) | (repeat' (first | assumption | apply or_lt64 | apply and_lt64 | apply andn_lt64 | apply pow_lt64 | (apply HeapL.lt64 <;> assumption))))) ⟨rdF true (flatA3 _ _ _ _) rfl rfl, trivial⟩ rfl ⟨clF (flatA3 _ _ _ _), trivial⟩ rfl (by first | rfl | simp [mpV, mpA, mpS, mpP, renId, shift]) rfl) ?_
        refine segEndH [12, 13] (T1 := (mkT 101 [(12, vN (1 + 3 * R.length)), (13, vN (1 + 3 * R.length))])) (by kernel_rfl) ?_
        refine kSeq ?_
        refine cSeq ?_
        refine cSeq ?_
        refine cReg ?_
        refine segEndH [12, 13, 97] (T1 := (mkT 101 [(12, vN (1 + 3 * R.length)), (13, vN (1 + 3 * R.length)), (97, .bool (decide (((1 + 3 * R.length : Nat) : Int) < 0)))])) (by kernel_rfl) ?_
        refine kSeq ?_
        cases h4 : (decide (((1 + 3 * R.length : Nat) : Int) < 0) : Bool)
        ·
          (try simp only [Bool.not_eq_true', Bool.not_eq_false', decide_eq_true_eq, decide_eq_false_iff_not, beq_iff_eq, bne_iff_ne, beq_eq_false_iff_ne, bne_eq_false_iff_eq, ne_eq, Decidable.not_not, Bool.and_eq_true, Bool.and_eq_false_imp, Bool.or_eq_true, Bool.or_eq_false_iff, Bool.not_eq_true, Int.not_lt, Int.not_le, ge_iff_le, gt_iff_lt] at h4)
          refine cFalse (by kernel_rfl) ?_
          refine cSkip ?_
          refine kSeq ?_
          refine cSeq ?_
          refine cSeq ?_
          refine cReg ?_
          refine segH 2 (T1 := (mkT 101 [(12, vN (1 + 3 * R.length)), (13, vN (1 + 3 * R.length)), (97, .bool false), (98, vN (1 + 3 * R.length)), (99, vN (1 + 3 * R.length))])) (by kernel_rfl) ?_
          refine rOp (v := .bool false) (by kernel_rfl) (eNeS (k := .i64) (a := ((1 + 3 * R.length : Nat) : Int)) (by kernel_rfl) (by kernel_rfl)) ?_
          refine segEndH [100] (T1 := (mkT 101 [(100, .bool false)])) (by kernel_rfl) ?_
          refine kSeq ?_
          refine cFalse (by kernel_rfl) ?_
          refine cSkip ?_
          refine kSeq ?_
          refine cSeq ?_
          refine cReg ?_
          refine segEndH [4] (T1 := (mkT 101 [(4, .bool true)])) (by kernel_rfl) ?_
          refine kSeq ?_
          refine cRet ?_
          -- end
          exact endQ (Or.inr rfl) (l := [.bool true]) [rB [vN X, vN Y, vN Z, vS 0 L.length] 24, some ⟨a3s L, 25, false, true⟩, some ⟨a3s R, 25, false, true⟩, rB [vN X, vN Y, vN Z, vS 3 R.length] 29, some ⟨a3s (mk3 1 L.length), 25, false, true⟩, rB [vN X, vN Y, vN Z, vS 5 L.length] 29, some ⟨a3s (mk3 1 R.length), 25, false, true⟩, rB [vN X, vN Y, vN Z, vS 7 R.length] 29, some ⟨a3s L, 25, false, true⟩, some ⟨a3s L, 25, false, true⟩, some ⟨a3s R, 25, false, true⟩, rB [vN X, vN Y, vN Z, vS 11 R.length] 29] (by kernel_rfl) (by first | rfl | kernel_rfl) rfl rfl hcl rfl
        ·
          (try simp only [Bool.not_eq_true', Bool.not_eq_false', decide_eq_true_eq, decide_eq_false_iff_not, beq_iff_eq, bne_iff_ne, beq_eq_false_iff_ne, bne_eq_false_iff_eq, ne_eq, Decidable.not_not, Bool.and_eq_true, Bool.and_eq_false_imp, Bool.or_eq_true, Bool.or_eq_false_iff, Bool.not_eq_true, Int.not_lt, Int.not_le, ge_iff_le, gt_iff_lt] at h4)
          exfalso; omega
      ·
        (try simp only [Bool.not_eq_true', Bool.not_eq_false', decide_eq_true_eq, decide_eq_false_iff_not, beq_iff_eq, bne_iff_ne, beq_eq_false_iff_ne, bne_eq_false_iff_eq, ne_eq, Decidable.not_not, Bool.and_eq_true, Bool.and_eq_false_imp, Bool.or_eq_true, Bool.or_eq_false_iff, Bool.not_eq_true, Int.not_lt, Int.not_le, ge_iff_le, gt_iff_lt] at h3)
        exfalso; omega
    ·
      (try simp only [Bool.not_eq_true', Bool.not_eq_false', decide_eq_true_eq, decide_eq_false_iff_not, beq_iff_eq, bne_iff_ne, beq_eq_false_iff_ne, bne_eq_false_iff_eq, ne_eq, Decidable.not_not, Bool.and_eq_true, Bool.and_eq_false_imp, Bool.or_eq_true, Bool.or_eq_false_iff, Bool.not_eq_true, Int.not_lt, Int.not_le, ge_iff_le, gt_iff_lt] at h2)
      exfalso; omega
  ·
    (try simp only [Bool.not_eq_true', Bool.not_eq_false', decide_eq_true_eq, decide_eq_false_iff_not, beq_iff_eq, bne_iff_ne, beq_eq_false_iff_ne, bne_eq_false_iff_eq, ne_eq, Decidable.not_not, Bool.and_eq_true, Bool.and_eq_false_imp, Bool.or_eq_true, Bool.or_eq_false_iff, Bool.not_eq_true, Int.not_lt, Int.not_le, ge_iff_le, gt_iff_lt] at h1)
    exfalso; omega

set_option maxRecDepth 100000 in
set_option maxHeartbeats 4000000 in
theorem lawMirrorHeap_d0_n (X : Nat) (Y : Nat) (Z : Nat) (R : List A3) (hs : Sides X Y Z) (hR : R = listOf X Y Z (setOf Y Z (([] : List A3).map (mir X Y Z 0)))) : Sound Try.prog 13 [.agg #[vN X, vN Y, vN Z, .slice none 0 0], vI 0] [] (.bool true) [] := by
  refine sound_intro (C := cx) Try.func13 rfl (by kernel_rfl) fun hcl => ?_
  have hz := hs.size
  have hx0 := hs.x0
  have hx4 := hs.x4
  have hy0 := hs.y0
  have hy4 := hs.y4
  have hz0 := hs.z0
  have hz4 := hs.z4
  have hlen : ([] : List A3).length ≤ 64 := by first | (have := hL.len; have := hs.size; omega) | simp
  have hr : R.length ≤ 64 := by (rw [hR]; have := (HeapL.list X Y Z (setOf Y Z (([] : List A3).map (mir X Y Z 0)))).len; omega)
  refine cSeq ?_
  refine cReg ?_
  refine segEnd [1, 2] (T1 := (mkT 101 [(1, vI 0), (2, vP 0 0)])) (H1 := [rB [vN X, vN Y, vN Z, .slice none 0 0] 24]) (by kernel_rfl) ?_
  refine kSeq ?_
  refine cSeq ?_
  refine cReg ?_
  refine segEndH [1, 2, 5] (T1 := (mkT 101 [(1, vI 0), (2, vP 0 0), (5, vI 1048576)])) (by kernel_rfl) ?_
  refine kSeq ?_
  refine cSeq ?_
  refine cReg ?_
  refine segH 2 (T1 := (mkT 101 [(1, vI 0), (2, vP 0 0), (5, vI 1048576), (16, .agg #[vN X, vN Y, vN Z, .slice none 0 0]), (17, vI 1048576)])) (by kernel_rfl) ?_
  refine rCall (v := vI 1048576) (args := [.agg #[vN X, vN Y, vN Z, .slice none 0 0], vI 1048576]) (by kernel_rfl) rfl (by kernel_rfl) (Sound.lay0 [] (szHeapN ((X : Nat) : Int) ((Y : Nat) : Int) ((Z : Nat) : Int) 1048576 (by first | omega | assumption | decide)) trivial rfl trivial rfl (by first | rfl | simp [mpV, mpA, mpS, mpP, renId, shift]) rfl) ?_
  refine segEndH [1, 2, 5] (T1 := (mkT 101 [(1, vI 0), (2, vP 0 0), (5, vI 1048576)])) (by kernel_rfl) ?_
  refine kSeq ?_
  refine cSeq ?_
  refine cSeq ?_
  refine cReg ?_
  refine segEndH [1, 2, 20] (T1 := (mkT 101 [(1, vI 0), (2, vP 0 0), (20, .bool false)])) (by kernel_rfl) ?_
  refine kSeq ?_
  refine cFalse (by kernel_rfl) ?_
  refine cSkip ?_
  refine kSeq ?_
  refine cSeq ?_
  refine cReg ?_
  refine segH 1 (T1 := (mkT 101 [(1, vI 0), (2, vP 0 0), (20, .bool false), (22, .agg #[vN X, vN Y, vN Z, .slice none 0 0])])) (by kernel_rfl) ?_
  refine rCall (v := .agg #[vN X, vN Y, vN Z, vS 1 0]) (args := [.agg #[vN X, vN Y, vN Z, .slice none 0 0]]) (by kernel_rfl) rfl (by kernel_rfl) (Sound.lay (E := [some ⟨[], 25, false, true⟩]) [] (toHeapN ((X : Nat) : Int) ((Y : Nat) : Int) ((Z : Nat) : Int)) trivial rfl trivial rfl (by first | rfl | simp [mpV, mpA, mpS, mpP, renId, shift]) (by first | rfl | simp [mpV, mpA, mpS, mpP, renId, shift]) ⟨enX rfl (Or.inl rfl), trivial⟩) ?_
  refine seg 1 (T1 := (mkT 101 [(1, vI 0), (2, vP 0 0), (20, .bool false), (22, .agg #[vN X, vN Y, vN Z, .slice none 0 0]), (23, .agg #[vN X, vN Y, vN Z, vS 1 0]), (24, vI 0)])) (H1 := [rB [vN X, vN Y, vN Z, .slice none 0 0] 24, some ⟨[], 25, false, true⟩]) (by kernel_rfl) ?_
  refine rCall (v := .tuple #[.agg #[vN X, vN Y, vN Z, vS 2 R.length], .bool true]) (args := [.agg #[vN X, vN Y, vN Z, vS 1 0], vI 0]) (by kernel_rfl) rfl (by kernel_rfl) (Sound.lay (E := [some ⟨a3s R, 25, false, true⟩]) [1] (specMirrorHeap_0R X Y Z ([] : List A3) R (by first | assumption | omega | rfl | decide | exact HeapL.list _ _ _ _ | exact HeapL.nil _ _ _ | exact HeapL.all _ _ _ | (apply HeapL.lt64 <;> assumption) | (repeat' (first | assumption | apply or_lt64 | apply and_lt64 | apply andn_lt64 | apply pow_lt64 | (apply HeapL.lt64 <;> assumption)))) (by first | assumption | omega | rfl | decide | exact HeapL.list _ _ _ _ | exact HeapL.nil _ _ _ | exact HeapL.all _ _ _ | (apply HeapL.lt64 <;> assumption) | (repeat' (first | assumption | apply or_lt64 | apply and_lt64 | apply andn_lt64 | apply pow_lt64 | (apply HeapL.lt64 <;> assumption)))) (by first | assumption | omega | rfl | decide | exact HeapL.list _ _ _ _ | exact HeapL.nil _ _ _ | exact HeapL.all _ _ _ | (apply HeapL.lt64 <;> assumption) | (repeat' (first | assumption | apply or_lt64 | apply and_lt64 | apply andn_lt64 | apply pow_lt64 | (apply HeapL.lt64 <;> assumption))))) ⟨rdF true (flatA3 _ _ _ _) rfl rfl, trivial⟩ rfl ⟨clF (flatA3 _ _ _ _), trivial⟩ rfl (by first | rfl | simp [mpV, mpA, mpS, mpP, renId, shift]) (by first | rfl | simp [mpV, mpA, mpS, mpP, renId, shift]) ⟨enF (flatA3 _ _ _ _) (Or.inl rfl), trivial⟩) ?_
  refine segEnd [1, 2, 6, 7] (T1 := (mkT 101 [(1, vI 0), (2, vP 0 0), (6, vP 3 0), (7, .bool true)])) (H1 := [rB [vN X, vN Y, vN Z, .slice none 0 0] 24, some ⟨[], 25, false, true⟩, some ⟨a3s R, 25, false, true⟩, rB [vN X, vN Y, vN Z, vS 2 R.length] 29]) (by kernel_rfl) ?_
  refine kSeq ?_
  refine cSeq ?_
  refine cReg ?_
  refine segH 1 (T1 := (mkT 101 [(1, vI 0), (2, vP 0 0), (6, vP 3 0), (7, .bool true), (28, .agg #[vN X, vN Y, vN Z, .slice none 0 0])])) (by kernel_rfl) ?_
  refine rCall (v := .agg #[vN X, vN Y, vN Z, vS 4 0]) (args := [.agg #[vN X, vN Y, vN Z, .slice none 0 0]]) (by kernel_rfl) rfl (by kernel_rfl) (Sound.lay (E := [some ⟨[], 25, false, true⟩]) [] (toHeapN ((X : Nat) : Int) ((Y : Nat) : Int) ((Z : Nat) : Int)) trivial rfl trivial rfl (by first | rfl | simp [mpV, mpA, mpS, mpP, renId, shift]) (by first | rfl | simp [mpV, mpA, mpS, mpP, renId, shift]) ⟨enX rfl (Or.inl rfl), trivial⟩) ?_
  refine segEnd [1, 2, 6, 7, 8] (T1 := (mkT 101 [(1, vI 0), (2, vP 0 0), (6, vP 3 0), (7, .bool true), (8, vP 5 0)])) (H1 := [rB [vN X, vN Y, vN Z, .slice none 0 0] 24, some ⟨[], 25, false, true⟩, some ⟨a3s R, 25, false, true⟩, rB [vN X, vN Y, vN Z, vS 2 R.length] 29, some ⟨[], 25, false, true⟩, rB [vN X, vN Y, vN Z, vS 4 0] 29]) (by kernel_rfl) ?_
  refine kSeq ?_
  refine cSeq ?_
  refine cReg ?_
  refine segH 2 (T1 := (mkT 101 [(1, vI 0), (2, vP 0 0), (6, vP 3 0), (7, .bool true), (8, vP 5 0), (31, .agg #[vN X, vN Y, vN Z, vS 4 0]), (32, vI 0)])) (by kernel_rfl) ?_
  refine rCall (v := .tuple #[.agg #[vN X, vN Y, vN Z, vS 6 R.length], .bool true]) (args := [.agg #[vN X, vN Y, vN Z, vS 4 0], vI 0]) (by kernel_rfl) rfl (by kernel_rfl) (Sound.lay (E := [some ⟨a3s R, 25, false, true⟩]) [4] (implMirrorHeap_0R X Y Z ([] : List A3) R (by first | assumption | omega | rfl | decide | exact HeapL.list _ _ _ _ | exact HeapL.nil _ _ _ | exact HeapL.all _ _ _ | (apply HeapL.lt64 <;> assumption) | (repeat' (first | assumption | apply or_lt64 | apply and_lt64 | apply andn_lt64 | apply pow_lt64 | (apply HeapL.lt64 <;> assumption)))) (by first | assumption | omega | rfl | decide | exact HeapL.list _ _ _ _ | exact HeapL.nil _ _ _ | exact HeapL.all _ _ _ | (apply HeapL.lt64 <;> assumption) | (repeat' (first | assumption | apply or_lt64 | apply and_lt64 | apply andn_lt64 | apply pow_lt64 | (apply HeapL.lt64 <;> assumption)))) (by first | assumption | omega | rfl | decide | exact HeapL.list _ _ _ _ | exact HeapL.nil _ _ _ | exact HeapL.all _ _ _ | (apply HeapL.lt64 <;> assumption) | (repeat' (first | assumption | apply or_lt64 | apply and_lt64 | apply andn_lt64 | apply pow_lt64 | (apply HeapL.lt64 <;> assumption))))) ⟨rdF true (flatA3 _ _ _ _) rfl rfl, trivial⟩ rfl ⟨clF (flatA3 _ _ _ _), trivial⟩ rfl (by first | rfl | simp [mpV, mpA, mpS, mpP, renId, shift]) (by first | rfl | simp [mpV, mpA, mpS, mpP, renId, shift]) ⟨enF (flatA3 _ _ _ _) (Or.inl rfl), trivial⟩) ?_
  refine segEnd [1, 2, 6, 7, 8, 9, 10] (T1 := (mkT 101 [(1, vI 0), (2, vP 0 0), (6, vP 3 0), (7, .bool true), (8, vP 5 0), (9, vP 7 0), (10, .bool true)])) (H1 := [rB [vN X, vN Y, vN Z, .slice none 0 0] 24, some ⟨[], 25, false, true⟩, some ⟨a3s R, 25, false, true⟩, rB [vN X, vN Y, vN Z, vS 2 R.length] 29, some ⟨[], 25, false, true⟩, rB [vN X, vN Y, vN Z, vS 4 0] 29, some ⟨a3s R, 25, false, true⟩, rB [vN X, vN Y, vN Z, vS 6 R.length] 29]) (by kernel_rfl) ?_
  refine kSeq ?_
  refine cSeq ?_
  refine cSeq ?_
  refine cReg ?_
  refine segH 2 (T1 := (mkT 101 [(1, vI 0), (2, vP 0 0), (6, vP 3 0), (7, .bool true), (8, vP 5 0), (9, vP 7 0), (10, .bool true), (36, .agg #[vN X, vN Y, vN Z, vS 6 R.length]), (37, .agg #[vN X, vN Y, vN Z, vS 2 R.length])])) (by kernel_rfl) ?_
  refine rCall (v := .bool true) (args := [.agg #[vN X, vN Y, vN Z, vS 6 R.length], .agg #[vN X, vN Y, vN Z, vS 2 R.length]]) (by kernel_rfl) rfl (by kernel_rfl) (Sound.lay0 [6, 2] (eqHeapB ((X : Nat) : Int) ((Y : Nat) : Int) ((Z : Nat) : Int) R (by first | omega | assumption | (simp; done))) ⟨rdF true (flatA3 _ _ _ _) rfl rfl, ⟨rdF true (flatA3 _ _ _ _) rfl rfl, trivial⟩⟩ rfl ⟨clF (flatA3 _ _ _ _), ⟨clF (flatA3 _ _ _ _), trivial⟩⟩ rfl (by first | rfl | simp [mpV, mpA, mpS, mpP, renId, shift]) rfl) ?_
  refine segEndH [1, 2, 6, 7, 8, 9, 10, 44] (T1 := (mkT 101 [(1, vI 0), (2, vP 0 0), (6, vP 3 0), (7, .bool true), (8, vP 5 0), (9, vP 7 0), (10, .bool true), (44, .bool false)])) (by kernel_rfl) ?_
  refine kSeq ?_
  refine cFalse (by kernel_rfl) ?_
  refine cSkip ?_
  refine kSeq ?_
  refine cSeq ?_
  refine cSeq ?_
  refine cRegW (N := 9) [⟨[], [], [5]⟩, ⟨[], [], [0]⟩, ⟨[8], [], []⟩, ⟨[], [], [4, 8]⟩, ⟨[], [], []⟩] 1 [8] (by rfl) (by rfl) (by kernel_rfl) (by kernel_rfl) (by kernel_rfl) ⟨nmsX (by kernel_rfl), ⟨nmsX (by kernel_rfl), ⟨nmsF (flatA3 _ _ _ _), ⟨nmsX (by kernel_rfl), ⟨nmsX (by kernel_rfl), ⟨nmsX (by kernel_rfl), ⟨nmsF (flatA3 _ _ _ _), ⟨nmsX (by kernel_rfl), trivial⟩⟩⟩⟩⟩⟩⟩⟩ ?_
  refine segWH 2 (T1 := (mkT 101 [(1, vI 0), (2, vP 0 0), (6, vP 3 0), (7, .bool true), (8, vP 5 0), (9, vP 7 0), (10, .bool true), (44, .bool false), (45, .agg #[vN X, vN Y, vN Z, vS 4 0]), (46, .agg #[vN X, vN Y, vN Z, .slice none 0 0])])) (by kernel_rfl) ?_
  refine rW (m := ⟨[8], [], []⟩) (v := .agg #[vN X, vN Y, vN Z, vS 8 0]) rfl (by kernel_rfl) (stN (i := 8) (E := [some ⟨[], 25, false, true⟩]) (v1 := .agg #[vN X, vN Y, vN Z, vS 9 0]) (args := [.agg #[vN X, vN Y, vN Z, .slice none 0 0]]) rfl (by kernel_rfl) (Any.lay (E := [some ⟨[], 25, false, true⟩]) (N := 9) [] (toHeapN ((X : Nat) : Int) ((Y : Nat) : Int) ((Z : Nat) : Int)) trivial rfl trivial rfl (by first | rfl | simp [mpV, mpA, mpS, mpP, renId, shift]) (by first | rfl | simp [mpV, mpA, mpS, mpP, renId, shift]) ⟨enX rfl (Or.inl rfl), trivial⟩) rfl (by kernel_rfl) (by kernel_rfl) (by kernel_rfl) (by kernel_rfl) (FlatH.cons (flatRow_of rfl) FlatH.nil)) (by kernel_rfl) (NRs.all ⟨nrOf (by rfl) (nmX (by kernel_rfl)), trivial⟩) ?_
  refine rW (m := ⟨[], [], [4, 8]⟩) (v := .bool true) rfl (by kernel_rfl) (stQ (args := [.agg #[vN X, vN Y, vN Z, vS 4 0], .agg #[vN X, vN Y, vN Z, vS 8 0]]) rfl (by kernel_rfl) (Any.lay0 [4, 8] (eqHeapB ((X : Nat) : Int) ((Y : Nat) : Int) ((Z : Nat) : Int) ([] : List A3) (by first | omega | assumption | (simp; done))) ⟨rdF true (flatA3 _ _ _ _) rfl rfl, ⟨rdF true (flatA3 _ _ _ _) rfl rfl, trivial⟩⟩ rfl ⟨clF (flatA3 _ _ _ _), ⟨clF (flatA3 _ _ _ _), trivial⟩⟩ rfl (by first | rfl | simp [mpV, mpA, mpS, mpP, renId, shift]) rfl) rfl (by kernel_rfl) (by kernel_rfl)) (by kernel_rfl) nr0 ?_
  refine segEndW [1, 2, 6, 7, 8, 9, 10, 49] (T1 := (mkT 101 [(1, vI 0), (2, vP 0 0), (6, vP 3 0), (7, .bool true), (8, vP 5 0), (9, vP 7 0), (10, .bool true), (49, .bool false)])) (H1 := [rB [vN X, vN Y, vN Z, .slice none 0 0] 24, some ⟨[], 25, false, true⟩, some ⟨a3s R, 25, false, true⟩, rB [vN X, vN Y, vN Z, vS 2 R.length] 29, some ⟨[], 25, false, true⟩, rB [vN X, vN Y, vN Z, vS 4 0] 29, some ⟨a3s R, 25, false, true⟩, rB [vN X, vN Y, vN Z, vS 6 R.length] 29, some ⟨[], 25, false, true⟩]) (by kernel_rfl) ?_
  refine kSeq ?_
  refine cFalse (by kernel_rfl) ?_
  refine cSkip ?_
  refine kSeq ?_
  refine cSeq ?_
  refine cReg ?_
  refine segEndH [1, 2, 6, 7, 8, 9, 10, 11] (T1 := (mkT 101 [(1, vI 0), (2, vP 0 0), (6, vP 3 0), (7, .bool true), (8, vP 5 0), (9, vP 7 0), (10, .bool true), (11, vI 1)])) (by kernel_rfl) ?_
  refine kSeq ?_
  refine cSeq ?_
  refine cReg ?_
  refine segH 2 (T1 := (mkT 101 [(1, vI 0), (2, vP 0 0), (6, vP 3 0), (7, .bool true), (8, vP 5 0), (9, vP 7 0), (10, .bool true), (11, vI 1), (50, .agg #[vN X, vN Y, vN Z, vS 4 0]), (51, vI 1)])) (by kernel_rfl) ?_
  refine rCall (v := vN (1 + 3 * ([] : List A3).length)) (args := [.agg #[vN X, vN Y, vN Z, vS 4 0], vI 1]) (by kernel_rfl) rfl (by kernel_rfl) (Sound.emb_set (r := ⟨a3s ([] : List A3), 25, false, true⟩) (r' := ⟨a3s (mk3 1 ([] : List A3).length), 25, false, true⟩) 4 (markHeapB ((X : Nat) : Int) ((Y : Nat) : Int) ((Z : Nat) : Int) ([] : List A3) 1 (by first | omega | assumption | (simp; done)) (by first | assumption | omega | rfl | decide | exact HeapL.list _ _ _ _ | exact HeapL.nil _ _ _ | exact HeapL.all _ _ _ | (apply HeapL.lt64 <;> assumption) | (repeat' (first | assumption | apply or_lt64 | apply and_lt64 | apply andn_lt64 | apply pow_lt64 | (apply HeapL.lt64 <;> assumption))))) (flatA3 _ _ _ _) rfl (flatA3 _ _ _ _) rfl rfl rfl (by first | rfl | simp [mpV, mpA, mpS, mpP, renId, shift]) rfl) ?_
  refine segEnd [1, 2, 6, 7, 9, 10, 11] (T1 := (mkT 101 [(1, vI 0), (2, vP 0 0), (6, vP 3 0), (7, .bool true), (9, vP 7 0), (10, .bool true), (11, vN (1 + 3 * ([] : List A3).length))])) (H1 := [rB [vN X, vN Y, vN Z, .slice none 0 0] 24, some ⟨[], 25, false, true⟩, some ⟨a3s R, 25, false, true⟩, rB [vN X, vN Y, vN Z, vS 2 R.length] 29, some ⟨a3s (mk3 1 ([] : List A3).length), 25, false, true⟩, rB [vN X, vN Y, vN Z, vS 4 0] 29, some ⟨a3s R, 25, false, true⟩, rB [vN X, vN Y, vN Z, vS 6 R.length] 29, some ⟨[], 25, false, true⟩]) (by kernel_rfl) ?_
  refine kSeq ?_
  refine cSeq ?_
  refine cSeq ?_
  refine cReg ?_
  refine segH 3 (T1 := (mkT 101 [(1, vI 0), (2, vP 0 0), (6, vP 3 0), (7, .bool true), (9, vP 7 0), (10, .bool true), (11, vN (1 + 3 * ([] : List A3).length)), (53, vN (1 + 3 * ([] : List A3).length)), (54, .bool (decide (((1 + 3 * ([] : List A3).length : Nat) : Int) < 0))), (55, .bool (decide (((1 + 3 * ([] : List A3).length : Nat) : Int) < 0)))])) (by kernel_rfl) ?_
  cases h1 : (decide (((1 + 3 * ([] : List A3).length : Nat) : Int) < 0) : Bool)
  ·
    (try simp only [Bool.not_eq_true', Bool.not_eq_false', decide_eq_true_eq, decide_eq_false_iff_not, beq_iff_eq, bne_iff_ne, beq_eq_false_iff_ne, bne_eq_false_iff_eq, ne_eq, Decidable.not_not, Bool.and_eq_true, Bool.and_eq_false_imp, Bool.or_eq_true, Bool.or_eq_false_iff, Bool.not_eq_true, Int.not_lt, Int.not_le, ge_iff_le, gt_iff_lt] at h1)
    refine seg 2 (T1 := (mkT 101 [(1, vI 0), (2, vP 0 0), (6, vP 3 0), (7, .bool true), (9, vP 7 0), (10, .bool true), (11, vN (1 + 3 * ([] : List A3).length)), (53, vN (1 + 3 * ([] : List A3).length)), (54, .bool false), (55, .bool false), (56, .agg #[vN X, vN Y, vN Z, vS 6 R.length]), (57, .agg #[vN X, vN Y, vN Z, vS 2 R.length])])) (H1 := [rB [vN X, vN Y, vN Z, .slice none 0 0] 24, some ⟨[], 25, false, true⟩, some ⟨a3s R, 25, false, true⟩, rB [vN X, vN Y, vN Z, vS 2 R.length] 29, some ⟨a3s (mk3 1 ([] : List A3).length), 25, false, true⟩, rB [vN X, vN Y, vN Z, vS 4 0] 29, some ⟨a3s R, 25, false, true⟩, rB [vN X, vN Y, vN Z, vS 6 R.length] 29, some ⟨[], 25, false, true⟩]) (by kernel_rfl) ?_
    refine rCall (v := .bool true) (args := [.agg #[vN X, vN Y, vN Z, vS 6 R.length], .agg #[vN X, vN Y, vN Z, vS 2 R.length]]) (by kernel_rfl) rfl (by kernel_rfl) (Sound.lay0 [6, 2] (eqHeapB ((X : Nat) : Int) ((Y : Nat) : Int) ((Z : Nat) : Int) R (by first | omega | assumption | (simp; done))) ⟨rdF true (flatA3 _ _ _ _) rfl rfl, ⟨rdF true (flatA3 _ _ _ _) rfl rfl, trivial⟩⟩ rfl ⟨clF (flatA3 _ _ _ _), ⟨clF (flatA3 _ _ _ _), trivial⟩⟩ rfl (by first | rfl | simp [mpV, mpA, mpS, mpP, renId, shift]) rfl) ?_
    refine segEnd [1, 2, 6, 7, 9, 65] (T1 := (mkT 101 [(1, vI 0), (2, vP 0 0), (6, vP 3 0), (7, .bool true), (9, vP 7 0), (65, .bool false)])) (H1 := [rB [vN X, vN Y, vN Z, .slice none 0 0] 24, some ⟨[], 25, false, true⟩, some ⟨a3s R, 25, false, true⟩, rB [vN X, vN Y, vN Z, vS 2 R.length] 29, some ⟨a3s (mk3 1 ([] : List A3).length), 25, false, true⟩, rB [vN X, vN Y, vN Z, vS 4 0] 29, some ⟨a3s R, 25, false, true⟩, rB [vN X, vN Y, vN Z, vS 6 R.length] 29, some ⟨[], 25, false, true⟩]) (by kernel_rfl) ?_
    refine kSeq ?_
    refine cFalse (by kernel_rfl) ?_
    refine cSkip ?_
    refine kSeq ?_
    refine cSeq ?_
    refine cReg ?_
    refine segEndH [1, 2, 6, 7, 9, 12] (T1 := (mkT 101 [(1, vI 0), (2, vP 0 0), (6, vP 3 0), (7, .bool true), (9, vP 7 0), (12, vI 1)])) (by kernel_rfl) ?_
    refine kSeq ?_
    refine cSeq ?_
    refine cReg ?_
    refine segH 2 (T1 := (mkT 101 [(1, vI 0), (2, vP 0 0), (6, vP 3 0), (7, .bool true), (9, vP 7 0), (12, vI 1), (66, .agg #[vN X, vN Y, vN Z, vS 6 R.length]), (67, vI 1)])) (by kernel_rfl) ?_
    refine rCall (v := vN (1 + 3 * R.length)) (args := [.agg #[vN X, vN Y, vN Z, vS 6 R.length], vI 1]) (by kernel_rfl) rfl (by kernel_rfl) (Sound.emb_set (r := ⟨a3s R, 25, false, true⟩) (r' := ⟨a3s (mk3 1 R.length), 25, false, true⟩) 6 (markHeapB ((X : Nat) : Int) ((Y : Nat) : Int) ((Z : Nat) : Int) R 1 (by first | omega | assumption | (simp; done)) (by first | assumption | omega | rfl | decide | exact HeapL.list _ _ _ _ | exact HeapL.nil _ _ _ | exact HeapL.all _ _ _ | (apply HeapL.lt64 <;> assumption) | (repeat' (first | assumption | apply or_lt64 | apply and_lt64 | apply andn_lt64 | apply pow_lt64 | (apply HeapL.lt64 <;> assumption))))) (flatA3 _ _ _ _) rfl (flatA3 _ _ _ _) rfl rfl rfl (by first | rfl | simp [mpV, mpA, mpS, mpP, renId, shift]) rfl) ?_
    refine segEnd [1, 2, 6, 7, 9, 12] (T1 := (mkT 101 [(1, vI 0), (2, vP 0 0), (6, vP 3 0), (7, .bool true), (9, vP 7 0), (12, vN (1 + 3 * R.length))])) (H1 := [rB [vN X, vN Y, vN Z, .slice none 0 0] 24, some ⟨[], 25, false, true⟩, some ⟨a3s R, 25, false, true⟩, rB [vN X, vN Y, vN Z, vS 2 R.length] 29, some ⟨a3s (mk3 1 ([] : List A3).length), 25, false, true⟩, rB [vN X, vN Y, vN Z, vS 4 0] 29, some ⟨a3s (mk3 1 R.length), 25, false, true⟩, rB [vN X, vN Y, vN Z, vS 6 R.length] 29, some ⟨[], 25, false, true⟩]) (by kernel_rfl) ?_
    refine kSeq ?_
    refine cSeq ?_
    refine cReg ?_
    refine segEndH [1, 2, 6, 7, 9, 12, 13] (T1 := (mkT 101 [(1, vI 0), (2, vP 0 0), (6, vP 3 0), (7, .bool true), (9, vP 7 0), (12, vN (1 + 3 * R.length)), (13, vI 1)])) (by kernel_rfl) ?_
    refine kSeq ?_
    refine cSeq ?_
    refine cReg ?_
    refine segH 2 (T1 := (mkT 101 [(1, vI 0), (2, vP 0 0), (6, vP 3 0), (7, .bool true), (9, vP 7 0), (12, vN (1 + 3 * R.length)), (13, vI 1), (69, .agg #[vN X, vN Y, vN Z, vS 6 R.length]), (70, vI 1)])) (by kernel_rfl) ?_
    refine rCall (v := vN (1 + 3 * R.length)) (args := [.agg #[vN X, vN Y, vN Z, vS 6 R.length], vI 1]) (by kernel_rfl) rfl (by kernel_rfl) (Sound.lay0 [6] (heldHeapB ((X : Nat) : Int) ((Y : Nat) : Int) ((Z : Nat) : Int) 1 R.length (by first | omega | assumption | (simp; done)) (by first | assumption | omega | rfl | decide | exact HeapL.list _ _ _ _ | exact HeapL.nil _ _ _ | exact HeapL.all _ _ _ | (apply HeapL.lt64 <;> assumption) | (repeat' (first | assumption | apply or_lt64 | apply and_lt64 | apply andn_lt64 | apply pow_lt64 | (apply HeapL.lt64 <;> assumption))))) ⟨rdF true (flatA3 _ _ _ _) rfl rfl, trivial⟩ rfl ⟨clF (flatA3 _ _ _ _), trivial⟩ rfl (by first | rfl | simp [mpV, mpA, mpS, mpP, renId, shift]) rfl) ?_
    refine segEndH [1, 2, 6, 7, 9, 12, 13] (T1 := (mkT 101 [(1, vI 0), (2, vP 0 0), (6, vP 3 0), (7, .bool true), (9, vP 7 0), (12, vN (1 + 3 * R.length)), (13, vN (1 + 3 * R.length))])) (by kernel_rfl) ?_
    refine kSeq ?_
    refine cSeq ?_
    refine cSeq ?_
    refine cReg ?_
    refine segEndH [1, 2, 6, 7, 9, 12, 13, 73] (T1 := (mkT 101 [(1, vI 0), (2, vP 0 0), (6, vP 3 0), (7, .bool true), (9, vP 7 0), (12, vN (1 + 3 * R.length)), (13, vN (1 + 3 * R.length)), (73, .bool (decide (((1 + 3 * R.length : Nat) : Int) < 0)))])) (by kernel_rfl) ?_
    refine kSeq ?_
    cases h2 : (decide (((1 + 3 * R.length : Nat) : Int) < 0) : Bool)
    ·
      (try simp only [Bool.not_eq_true', Bool.not_eq_false', decide_eq_true_eq, decide_eq_false_iff_not, beq_iff_eq, bne_iff_ne, beq_eq_false_iff_ne, bne_eq_false_iff_eq, ne_eq, Decidable.not_not, Bool.and_eq_true, Bool.and_eq_false_imp, Bool.or_eq_true, Bool.or_eq_false_iff, Bool.not_eq_true, Int.not_lt, Int.not_le, ge_iff_le, gt_iff_lt] at h2)
      refine cFalse (by kernel_rfl) ?_
      refine cSkip ?_
      refine kSeq ?_
      refine cSeq ?_
      refine cSeq ?_
      refine cReg ?_
      refine segH 2 (T1 := (mkT 101 [(1, vI 0), (2, vP 0 0), (6, vP 3 0), (7, .bool true), (9, vP 7 0), (12, vN (1 + 3 * R.length)), (13, vN (1 + 3 * R.length)), (73, .bool false), (74, vN (1 + 3 * R.length)), (75, vN (1 + 3 * R.length))])) (by kernel_rfl) ?_
      refine rOp (v := .bool false) (by kernel_rfl) (eNeS (k := .i64) (a := ((1 + 3 * R.length : Nat) : Int)) (by kernel_rfl) (by kernel_rfl)) ?_
      refine segEndH [1, 2, 6, 7, 9, 12, 76] (T1 := (mkT 101 [(1, vI 0), (2, vP 0 0), (6, vP 3 0), (7, .bool true), (9, vP 7 0), (12, vN (1 + 3 * R.length)), (76, .bool false)])) (by kernel_rfl) ?_
      refine kSeq ?_
      refine cFalse (by kernel_rfl) ?_
      refine cSkip ?_
      refine kSeq ?_
      refine cSeq ?_
      refine cReg ?_
      refine segH 1 (T1 := (mkT 101 [(1, vI 0), (2, vP 0 0), (6, vP 3 0), (7, .bool true), (9, vP 7 0), (12, vN (1 + 3 * R.length)), (76, .bool false), (78, .agg #[vN X, vN Y, vN Z, .slice none 0 0])])) (by kernel_rfl) ?_
      refine rCall (v := .agg #[vN X, vN Y, vN Z, vS 9 0]) (args := [.agg #[vN X, vN Y, vN Z, .slice none 0 0]]) (by kernel_rfl) rfl (by kernel_rfl) (Sound.lay (E := [some ⟨[], 25, false, true⟩]) [] (toHeapN ((X : Nat) : Int) ((Y : Nat) : Int) ((Z : Nat) : Int)) trivial rfl trivial rfl (by first | rfl | simp [mpV, mpA, mpS, mpP, renId, shift]) (by first | rfl | simp [mpV, mpA, mpS, mpP, renId, shift]) ⟨enX rfl (Or.inl rfl), trivial⟩) ?_
      refine seg 1 (T1 := (mkT 101 [(1, vI 0), (2, vP 0 0), (6, vP 3 0), (7, .bool true), (9, vP 7 0), (12, vN (1 + 3 * R.length)), (76, .bool false), (78, .agg #[vN X, vN Y, vN Z, .slice none 0 0]), (79, .agg #[vN X, vN Y, vN Z, vS 9 0]), (80, vI 0)])) (H1 := [rB [vN X, vN Y, vN Z, .slice none 0 0] 24, some ⟨[], 25, false, true⟩, some ⟨a3s R, 25, false, true⟩, rB [vN X, vN Y, vN Z, vS 2 R.length] 29, some ⟨a3s (mk3 1 ([] : List A3).length), 25, false, true⟩, rB [vN X, vN Y, vN Z, vS 4 0] 29, some ⟨a3s (mk3 1 R.length), 25, false, true⟩, rB [vN X, vN Y, vN Z, vS 6 R.length] 29, some ⟨[], 25, false, true⟩, some ⟨[], 25, false, true⟩]) (by kernel_rfl) ?_
      refine rCall (v := .tuple #[.agg #[vN X, vN Y, vN Z, vS 10 R.length], .bool true]) (args := [.agg #[vN X, vN Y, vN Z, vS 9 0], vI 0]) (by kernel_rfl) rfl (by kernel_rfl) (Sound.lay (E := [some ⟨a3s R, 25, false, true⟩]) [9] (implMirrorHeap_0R X Y Z ([] : List A3) R (by first | assumption | omega | rfl | decide | exact HeapL.list _ _ _ _ | exact HeapL.nil _ _ _ | exact HeapL.all _ _ _ | (apply HeapL.lt64 <;> assumption) | (repeat' (first | assumption | apply or_lt64 | apply and_lt64 | apply andn_lt64 | apply pow_lt64 | (apply HeapL.lt64 <;> assumption)))) (by first | assumption | omega | rfl | decide | exact HeapL.list _ _ _ _ | exact HeapL.nil _ _ _ | exact HeapL.all _ _ _ | (apply HeapL.lt64 <;> assumption) | (repeat' (first | assumption | apply or_lt64 | apply and_lt64 | apply andn_lt64 | apply pow_lt64 | (apply HeapL.lt64 <;> assumption)))) (by first | assumption | omega | rfl | decide | exact HeapL.list _ _ _ _ | exact HeapL.nil _ _ _ | exact HeapL.all _ _ _ | (apply HeapL.lt64 <;> assumption) | (repeat' (first | assumption | apply or_lt64 | apply and_lt64 | apply andn_lt64 | apply pow_lt64 | (apply HeapL.lt64 <;> assumption))))) ⟨rdF true (flatA3 _ _ _ _) rfl rfl, trivial⟩ rfl ⟨clF (flatA3 _ _ _ _), trivial⟩ rfl (by first | rfl | simp [mpV, mpA, mpS, mpP, renId, shift]) (by first | rfl | simp [mpV, mpA, mpS, mpP, renId, shift]) ⟨enF (flatA3 _ _ _ _) (Or.inl rfl), trivial⟩) ?_
      refine segEnd [6, 7, 9, 12, 14, 15] (T1 := (mkT 101 [(6, vP 3 0), (7, .bool true), (9, vP 7 0), (12, vN (1 + 3 * R.length)), (14, vP 11 0), (15, .bool true)])) (H1 := [rB [vN X, vN Y, vN Z, .slice none 0 0] 24, some ⟨[], 25, false, true⟩, some ⟨a3s R, 25, false, true⟩, rB [vN X, vN Y, vN Z, vS 2 R.length] 29, some ⟨a3s (mk3 1 ([] : List A3).length), 25, false, true⟩, rB [vN X, vN Y, vN Z, vS 4 0] 29, some ⟨a3s (mk3 1 R.length), 25, false, true⟩, rB [vN X, vN Y, vN Z, vS 6 R.length] 29, some ⟨[], 25, false, true⟩, some ⟨[], 25, false, true⟩, some ⟨a3s R, 25, false, true⟩, rB [vN X, vN Y, vN Z, vS 10 R.length] 29]) (by kernel_rfl) ?_
      refine kSeq ?_
      refine cSeq ?_
      refine cSeq ?_
      refine cReg ?_
      refine segH 2 (T1 := (mkT 101 [(6, vP 3 0), (7, .bool true), (9, vP 7 0), (12, vN (1 + 3 * R.length)), (14, vP 11 0), (15, .bool true), (84, .agg #[vN X, vN Y, vN Z, vS 10 R.length]), (85, .agg #[vN X, vN Y, vN Z, vS 2 R.length])])) (by kernel_rfl) ?_
      refine rCall (v := .bool true) (args := [.agg #[vN X, vN Y, vN Z, vS 10 R.length], .agg #[vN X, vN Y, vN Z, vS 2 R.length]]) (by kernel_rfl) rfl (by kernel_rfl) (Sound.lay0 [10, 2] (eqHeapB ((X : Nat) : Int) ((Y : Nat) : Int) ((Z : Nat) : Int) R (by first | omega | assumption | (simp; done))) ⟨rdF true (flatA3 _ _ _ _) rfl rfl, ⟨rdF true (flatA3 _ _ _ _) rfl rfl, trivial⟩⟩ rfl ⟨clF (flatA3 _ _ _ _), ⟨clF (flatA3 _ _ _ _), trivial⟩⟩ rfl (by first | rfl | simp [mpV, mpA, mpS, mpP, renId, shift]) rfl) ?_
      refine segEndH [9, 12, 92] (T1 := (mkT 101 [(9, vP 7 0), (12, vN (1 + 3 * R.length)), (92, .bool false)])) (by kernel_rfl) ?_
      refine kSeq ?_
      refine cFalse (by kernel_rfl) ?_
      refine cSkip ?_
      refine kSeq ?_
      refine cSeq ?_
      refine cReg ?_
      refine segEndH [9, 12, 13] (T1 := (mkT 101 [(9, vP 7 0), (12, vN (1 + 3 * R.length)), (13, vI 1)])) (by kernel_rfl) ?_
      refine kSeq ?_
      refine cSeq ?_
      refine cReg ?_
      refine segH 2 (T1 := (mkT 101 [(9, vP 7 0), (12, vN (1 + 3 * R.length)), (13, vI 1), (93, .agg #[vN X, vN Y, vN Z, vS 6 R.length]), (94, vI 1)])) (by kernel_rfl) ?_
      refine rCall (v := vN (1 + 3 * R.length)) (args := [.agg #[vN X, vN Y, vN Z, vS 6 R.length], vI 1]) (by kernel_rfl) rfl (by kernel_rfl) (Sound.lay0 [6] (heldHeapB ((X : Nat) : Int) ((Y : Nat) : Int) ((Z : Nat) : Int) 1 R.length (by first | omega | assumption | (simp; done)) (by first | assumption | omega | rfl | decide | exact HeapL.list _ _ _ _ | exact HeapL.nil _ _ _ | exact HeapL.all _ _ _ | (apply HeapL.lt64 <;> assumption) | (repeat' (first | assumption | apply or_lt64 | apply and_lt64 | apply andn_lt64 | apply pow_lt64 | (apply HeapL.lt64 <;> assumption))))) ⟨rdF true (flatA3 _ _ _ _) rfl rfl, trivial⟩ rfl ⟨clF (flatA3 _ _ _ _), trivial⟩ rfl (by first | rfl | simp [mpV, mpA, mpS, mpP, renId, shift]) rfl) ?_
      refine segEndH [12, 13] (T1 := (mkT 101 [(12, vN (1 + 3 * R.length)), (13, vN (1 + 3 * R.length))])) (by kernel_rfl) ?_
      refine kSeq ?_
      refine cSeq ?_
      refine cSeq ?_
      refine cReg ?_
      refine segEndH [12, 13, 97] (T1 := (mkT 101 [(12, vN (1 + 3 * R.length)), (13, vN (1 + 3 * R.length)), (97, .bool (decide (((1 + 3 * R.length : Nat) : Int) < 0)))])) (by kernel_rfl) ?_
      refine kSeq ?_
      cases h3 : (decide (((1 + 3 * R.length : Nat) : Int) < 0) : Bool)
      ·
        (try simp only [Bool.not_eq_true', Bool.not_eq_false', decide_eq_true_eq, decide_eq_false_iff_not, beq_iff_eq, bne_iff_ne, beq_eq_false_iff_ne, bne_eq_false_iff_eq, ne_eq, Decidable.not_not, Bool.and_eq_true, Bool.and_eq_false_imp, Bool.or_eq_true, Bool.or_eq_false_iff, Bool.not_eq_true, Int.not_lt, Int.not_le, ge_iff_le, gt_iff_lt] at h3)
        refine cFalse (by kernel_rfl) ?_
        refine cSkip ?_
        refine kSeq ?_
        refine cSeq ?_
        refine cSeq ?_
        refine cReg ?_
        refine segH 2 (T1 := (mkT 101 [(12, vN (1 + 3 * R.length)), (13, vN (1 + 3 * R.length)), (97, .bool false), (98, vN (1 + 3 * R.length)), (99, vN (1 + 3 * R.length))])) (by kernel_rfl) ?_
        refine rOp (v := .bool false) (by kernel_rfl) (eNeS (k := .i64) (a := ((1 + 3 * R.length : Nat) : Int)) (by kernel_rfl) (by kernel_rfl)) ?_
        refine segEndH [100] (T1 := (mkT 101 [(100, .bool false)])) (by kernel_rfl) ?_
        refine kSeq ?_
        refine cFalse (by kernel_rfl) ?_
        refine cSkip ?_
        refine kSeq ?_
        refine cSeq ?_
        refine cReg ?_
        refine segEndH [4] (T1 := (mkT 101 [(4, .bool true)])) (by kernel_rfl) ?_
        refine kSeq ?_
        refine cRet ?_
        -- end
        exact endQ (Or.inr rfl) (l := [.bool true]) [rB [vN X, vN Y, vN Z, .slice none 0 0] 24, some ⟨[], 25, false, true⟩, some ⟨a3s R, 25, false, true⟩, rB [vN X, vN Y, vN Z, vS 2 R.length] 29, some ⟨a3s (mk3 1 ([] : List A3).length), 25, false, true⟩, rB [vN X, vN Y, vN Z, vS 4 0] 29, some ⟨a3s (mk3 1 R.length), 25, false, true⟩, rB [vN X, vN Y, vN Z, vS 6 R.length] 29, some ⟨[], 25, false, true⟩, some ⟨[], 25, false, true⟩, some ⟨a3s R, 25, false, true⟩, rB [vN X, vN Y, vN Z, vS 10 R.length] 29] (by kernel_rfl) (by first | rfl | kernel_rfl) rfl rfl hcl rfl
      ·
        (try simp only [Bool.not_eq_true', Bool.not_eq_false', decide_eq_true_eq, decide_eq_false_iff_not, beq_iff_eq, bne_iff_ne, beq_eq_false_iff_ne, bne_eq_false_iff_eq, ne_eq, Decidable.not_not, Bool.and_eq_true, Bool.and_eq_false_imp, Bool.or_eq_true, Bool.or_eq_false_iff, Bool.not_eq_true, Int.not_lt, Int.not_le, ge_iff_le, gt_iff_lt] at h3)
        exfalso; omega
    ·
      (try simp only [Bool.not_eq_true', Bool.not_eq_false', decide_eq_true_eq, decide_eq_false_iff_not, beq_iff_eq, bne_iff_ne, beq_eq_false_iff_ne, bne_eq_false_iff_eq, ne_eq, Decidable.not_not, Bool.and_eq_true, Bool.and_eq_false_imp, Bool.or_eq_true, Bool.or_eq_false_iff, Bool.not_eq_true, Int.not_lt, Int.not_le, ge_iff_le, gt_iff_lt] at h2)
      exfalso; omega
  ·
    (try simp only [Bool.not_eq_true', Bool.not_eq_false', decide_eq_true_eq, decide_eq_false_iff_not, beq_iff_eq, bne_iff_ne, beq_eq_false_iff_ne, bne_eq_false_iff_eq, ne_eq, Decidable.not_not, Bool.and_eq_true, Bool.and_eq_false_imp, Bool.or_eq_true, Bool.or_eq_false_iff, Bool.not_eq_true, Int.not_lt, Int.not_le, ge_iff_le, gt_iff_lt] at h1)
    exfalso; omega

set_option maxRecDepth 100000 in
set_option maxHeartbeats 4000000 in
theorem lawMirrorHeap_d1_s (X : Nat) (Y : Nat) (Z : Nat) (L : List A3) (R : List A3) (hs : Sides X Y Z) (hL : HeapL X Y Z L) (hR : R = listOf X Y Z (setOf Y Z (L.map (mir X Y Z 1)))) : Sound Try.prog 13 [.agg #[vN X, vN Y, vN Z, vS 0 L.length], vI 1] [some ⟨a3s L, 25, false, false⟩] (.bool true) [some ⟨a3s L, 25, false, false⟩] := by
  refine sound_intro (C := cx) Try.func13 rfl (by kernel_rfl) fun hcl => ?_
  have hz := hs.size
  have hx0 := hs.x0
  have hx4 := hs.x4
  have hy0 := hs.y0
  have hy4 := hs.y4
  have hz0 := hs.z0
  have hz4 := hs.z4
  have hlen : L.length ≤ 64 := by first | (have := hL.len; have := hs.size; omega) | simp
  have hr : R.length ≤ 64 := by (rw [hR]; have := (HeapL.list X Y Z (setOf Y Z (L.map (mir X Y Z 1)))).len; omega)
  refine cSeq ?_
  refine cReg ?_
  refine segEnd [1, 2] (T1 := (mkT 101 [(1, vI 1), (2, vP 1 0)])) (H1 := [some ⟨a3s L, 25, false, false⟩, rB [vN X, vN Y, vN Z, vS 0 L.length] 24]) (by kernel_rfl) ?_
  refine kSeq ?_
  refine cSeq ?_
  refine cReg ?_
  refine segEndH [1, 2, 5] (T1 := (mkT 101 [(1, vI 1), (2, vP 1 0), (5, vI 1048576)])) (by kernel_rfl) ?_
  refine kSeq ?_
  refine cSeq ?_
  refine cReg ?_
  refine segH 2 (T1 := (mkT 101 [(1, vI 1), (2, vP 1 0), (5, vI 1048576), (16, .agg #[vN X, vN Y, vN Z, vS 0 L.length]), (17, vI 1048576)])) (by kernel_rfl) ?_
  refine rCall (v := vN (1048576 - L.length)) (args := [.agg #[vN X, vN Y, vN Z, vS 0 L.length], vI 1048576]) (by kernel_rfl) rfl (by kernel_rfl) (Sound.lay0 [0] (szHeapS ((X : Nat) : Int) ((Y : Nat) : Int) ((Z : Nat) : Int) L 1048576 (by first | omega | assumption | (simp; done)) (by first | omega | assumption | decide)) ⟨rdF false (flatA3 _ _ _ _) rfl rfl, trivial⟩ rfl ⟨clF (flatA3 _ _ _ _), trivial⟩ rfl (by first | rfl | simp [mpV, mpA, mpS, mpP, renId, shift]) rfl) ?_
  refine segEndH [1, 2, 5] (T1 := (mkT 101 [(1, vI 1), (2, vP 1 0), (5, vN (1048576 - L.length))])) (by kernel_rfl) ?_
  refine kSeq ?_
  refine cSeq ?_
  refine cSeq ?_
  refine cReg ?_
  refine segEndH [1, 2, 20] (T1 := (mkT 101 [(1, vI 1), (2, vP 1 0), (20, .bool (decide (((1048576 - L.length : Nat) : Int) < 0)))])) (by kernel_rfl) ?_
  refine kSeq ?_
  cases h1 : (decide (((1048576 - L.length : Nat) : Int) < 0) : Bool)
  ·
    (try simp only [Bool.not_eq_true', Bool.not_eq_false', decide_eq_true_eq, decide_eq_false_iff_not, beq_iff_eq, bne_iff_ne, beq_eq_false_iff_ne, bne_eq_false_iff_eq, ne_eq, Decidable.not_not, Bool.and_eq_true, Bool.and_eq_false_imp, Bool.or_eq_true, Bool.or_eq_false_iff, Bool.not_eq_true, Int.not_lt, Int.not_le, ge_iff_le, gt_iff_lt] at h1)
    refine cFalse (by kernel_rfl) ?_
    refine cSkip ?_
    refine kSeq ?_
    refine cSeq ?_
    refine cReg ?_
    refine segH 1 (T1 := (mkT 101 [(1, vI 1), (2, vP 1 0), (20, .bool false), (22, .agg #[vN X, vN Y, vN Z, vS 0 L.length])])) (by kernel_rfl) ?_
    refine rCall (v := .agg #[vN X, vN Y, vN Z, vS 2 L.length]) (args := [.agg #[vN X, vN Y, vN Z, vS 0 L.length]]) (by kernel_rfl) rfl (by kernel_rfl) (Sound.lay (E := [some ⟨a3s L, 25, false, true⟩]) [0] (toHeapB ((X : Nat) : Int) ((Y : Nat) : Int) ((Z : Nat) : Int) L (by first | omega | assumption | (simp; done))) ⟨rdF false (flatA3 _ _ _ _) rfl rfl, trivial⟩ rfl ⟨clF (flatA3 _ _ _ _), trivial⟩ rfl (by first | rfl | simp [mpV, mpA, mpS, mpP, renId, shift]) (by first | rfl | simp [mpV, mpA, mpS, mpP, renId, shift]) ⟨enF (flatA3 _ _ _ _) (Or.inl rfl), trivial⟩) ?_
    refine seg 1 (T1 := (mkT 101 [(1, vI 1), (2, vP 1 0), (20, .bool false), (22, .agg #[vN X, vN Y, vN Z, vS 0 L.length]), (23, .agg #[vN X, vN Y, vN Z, vS 2 L.length]), (24, vI 1)])) (H1 := [some ⟨a3s L, 25, false, false⟩, rB [vN X, vN Y, vN Z, vS 0 L.length] 24, some ⟨a3s L, 25, false, true⟩]) (by kernel_rfl) ?_
    refine rCall (v := .tuple #[.agg #[vN X, vN Y, vN Z, vS 3 R.length], .bool true]) (args := [.agg #[vN X, vN Y, vN Z, vS 2 L.length], vI 1]) (by kernel_rfl) rfl (by kernel_rfl) (Sound.lay (E := [some ⟨a3s R, 25, false, true⟩]) [2] (specMirrorHeap_1R X Y Z L R (by first | assumption | omega | rfl | decide | exact HeapL.list _ _ _ _ | exact HeapL.nil _ _ _ | exact HeapL.all _ _ _ | (apply HeapL.lt64 <;> assumption) | (repeat' (first | assumption | apply or_lt64 | apply and_lt64 | apply andn_lt64 | apply pow_lt64 | (apply HeapL.lt64 <;> assumption)))) (by first | assumption | omega | rfl | decide | exact HeapL.list _ _ _ _ | exact HeapL.nil _ _ _ | exact HeapL.all _ _ _ | (apply HeapL.lt64 <;> assumption) | (repeat' (first | assumption | apply or_lt64 | apply and_lt64 | apply andn_lt64 | apply pow_lt64 | (apply HeapL.lt64 <;> assumption)))) (by first | assumption | omega | rfl | decide | exact HeapL.list _ _ _ _ | exact HeapL.nil _ _ _ | exact HeapL.all _ _ _ | (apply HeapL.lt64 <;> assumption) | (repeat' (first | assumption | apply or_lt64 | apply and_lt64 | apply andn_lt64 | apply pow_lt64 | (apply HeapL.lt64 <;> assumption))))) ⟨rdF true (flatA3 _ _ _ _) rfl rfl, trivial⟩ rfl ⟨clF (flatA3 _ _ _ _), trivial⟩ rfl (by first | rfl | simp [mpV, mpA, mpS, mpP, renId, shift]) (by first | rfl | simp [mpV, mpA, mpS, mpP, renId, shift]) ⟨enF (flatA3 _ _ _ _) (Or.inl rfl), trivial⟩) ?_
    refine segEnd [1, 2, 6, 7] (T1 := (mkT 101 [(1, vI 1), (2, vP 1 0), (6, vP 4 0), (7, .bool true)])) (H1 := [some ⟨a3s L, 25, false, false⟩, rB [vN X, vN Y, vN Z, vS 0 L.length] 24, some ⟨a3s L, 25, false, true⟩, some ⟨a3s R, 25, false, true⟩, rB [vN X, vN Y, vN Z, vS 3 R.length] 29]) (by kernel_rfl) ?_
    refine kSeq ?_
    refine cSeq ?_
    refine cReg ?_
    refine segH 1 (T1 := (mkT 101 [(1, vI 1), (2, vP 1 0), (6, vP 4 0), (7, .bool true), (28, .agg #[vN X, vN Y, vN Z, vS 0 L.length])])) (by kernel_rfl) ?_
    refine rCall (v := .agg #[vN X, vN Y, vN Z, vS 5 L.length]) (args := [.agg #[vN X, vN Y, vN Z, vS 0 L.length]]) (by kernel_rfl) rfl (by kernel_rfl) (Sound.lay (E := [some ⟨a3s L, 25, false, true⟩]) [0] (toHeapB ((X : Nat) : Int) ((Y : Nat) : Int) ((Z : Nat) : Int) L (by first | omega | assumption | (simp; done))) ⟨rdF false (flatA3 _ _ _ _) rfl rfl, trivial⟩ rfl ⟨clF (flatA3 _ _ _ _), trivial⟩ rfl (by first | rfl | simp [mpV, mpA, mpS, mpP, renId, shift]) (by first | rfl | simp [mpV, mpA, mpS, mpP, renId, shift]) ⟨enF (flatA3 _ _ _ _) (Or.inl rfl), trivial⟩) ?_
    refine segEnd [1, 2, 6, 7, 8] (T1 := (mkT 101 [(1, vI 1), (2, vP 1 0), (6, vP 4 0), (7, .bool true), (8, vP 6 0)])) (H1 := [some ⟨a3s L, 25, false, false⟩, rB [vN X, vN Y, vN Z, vS 0 L.length] 24, some ⟨a3s L, 25, false, true⟩, some ⟨a3s R, 25, false, true⟩, rB [vN X, vN Y, vN Z, vS 3 R.length] 29, some ⟨a3s L, 25, false, true⟩, rB [vN X, vN Y, vN Z, vS 5 L.length] 29]) (by kernel_rfl) ?_
    refine kSeq ?_
    refine cSeq ?_
    refine cReg ?_
    refine segH 2 (T1 := (mkT 101 [(1, vI 1), (2, vP 1 0), (6, vP 4 0), (7, .bool true), (8, vP 6 0), (31, .agg #[vN X, vN Y, vN Z, vS 5 L.length]), (32, vI 1)])) (by kernel_rfl) ?_
    refine rCall (v := .tuple #[.agg #[vN X, vN Y, vN Z, vS 7 R.length], .bool true]) (args := [.agg #[vN X, vN Y, vN Z, vS 5 L.length], vI 1]) (by kernel_rfl) rfl (by kernel_rfl) (Sound.lay (E := [some ⟨a3s R, 25, false, true⟩]) [5] (implMirrorHeap_1R X Y Z L R (by first | assumption | omega | rfl | decide | exact HeapL.list _ _ _ _ | exact HeapL.nil _ _ _ | exact HeapL.all _ _ _ | (apply HeapL.lt64 <;> assumption) | (repeat' (first | assumption | apply or_lt64 | apply and_lt64 | apply andn_lt64 | apply pow_lt64 | (apply HeapL.lt64 <;> assumption)))) (by first | assumption | omega | rfl | decide | exact HeapL.list _ _ _ _ | exact HeapL.nil _ _ _ | exact HeapL.all _ _ _ | (apply HeapL.lt64 <;> assumption) | (repeat' (first | assumption | apply or_lt64 | apply and_lt64 | apply andn_lt64 | apply pow_lt64 | (apply HeapL.lt64 <;> assumption)))) (by first | assumption | omega | rfl | decide | exact HeapL.list _ _ _ _ | exact HeapL.nil _ _ _ | exact HeapL.all _ _ _ | (apply HeapL.lt64 <;> assumption) | (repeat' (first | assumption | apply or_lt64 | apply and_lt64 | apply andn_lt64 | apply pow_lt64 | (apply HeapL.lt64 <;> assumption))))) ⟨rdF true (flatA3 _ _ _ _) rfl rfl, trivial⟩ rfl ⟨clF (flatA3 _ _ _ _), trivial⟩ rfl (by first | rfl | simp [mpV, mpA, mpS, mpP, renId, shift]) (by first | rfl | simp [mpV, mpA, mpS, mpP, renId, shift]) ⟨enF (flatA3 _ _ _ _) (Or.inl rfl), trivial⟩) ?_
    refine segEnd [1, 2, 6, 7, 8, 9, 10] (T1 := (mkT 101 [(1, vI 1), (2, vP 1 0), (6, vP 4 0), (7, .bool true), (8, vP 6 0), (9, vP 8 0), (10, .bool true)])) (H1 := [some ⟨a3s L, 25, false, false⟩, rB [vN X, vN Y, vN Z, vS 0 L.length] 24, some ⟨a3s L, 25, false, true⟩, some ⟨a3s R, 25, false, true⟩, rB [vN X, vN Y, vN Z, vS 3 R.length] 29, some ⟨a3s L, 25, false, true⟩, rB [vN X, vN Y, vN Z, vS 5 L.length] 29, some ⟨a3s R, 25, false, true⟩, rB [vN X, vN Y, vN Z, vS 7 R.length] 29]) (by kernel_rfl) ?_
    refine kSeq ?_
    refine cSeq ?_
    refine cSeq ?_
    refine cReg ?_
    refine segH 2 (T1 := (mkT 101 [(1, vI 1), (2, vP 1 0), (6, vP 4 0), (7, .bool true), (8, vP 6 0), (9, vP 8 0), (10, .bool true), (36, .agg #[vN X, vN Y, vN Z, vS 7 R.length]), (37, .agg #[vN X, vN Y, vN Z, vS 3 R.length])])) (by kernel_rfl) ?_
    refine rCall (v := .bool true) (args := [.agg #[vN X, vN Y, vN Z, vS 7 R.length], .agg #[vN X, vN Y, vN Z, vS 3 R.length]]) (by kernel_rfl) rfl (by kernel_rfl) (Sound.lay0 [7, 3] (eqHeapB ((X : Nat) : Int) ((Y : Nat) : Int) ((Z : Nat) : Int) R (by first | omega | assumption | (simp; done))) ⟨rdF true (flatA3 _ _ _ _) rfl rfl, ⟨rdF true (flatA3 _ _ _ _) rfl rfl, trivial⟩⟩ rfl ⟨clF (flatA3 _ _ _ _), ⟨clF (flatA3 _ _ _ _), trivial⟩⟩ rfl (by first | rfl | simp [mpV, mpA, mpS, mpP, renId, shift]) rfl) ?_
    refine segEndH [1, 2, 6, 7, 8, 9, 10, 44] (T1 := (mkT 101 [(1, vI 1), (2, vP 1 0), (6, vP 4 0), (7, .bool true), (8, vP 6 0), (9, vP 8 0), (10, .bool true), (44, .bool false)])) (by kernel_rfl) ?_
    refine kSeq ?_
    refine cFalse (by kernel_rfl) ?_
    refine cSkip ?_
    refine kSeq ?_
    refine cSeq ?_
    refine cSeq ?_
    refine cRegW (N := 10) [⟨[], [], [6]⟩, ⟨[], [], [1]⟩, ⟨[9], [], [0]⟩, ⟨[], [], [5, 9]⟩, ⟨[], [], []⟩] 1 [9] (by rfl) (by rfl) (by kernel_rfl) (by kernel_rfl) (by kernel_rfl) ⟨nmsF (flatA3 _ _ _ _), ⟨nmsX (by kernel_rfl), ⟨nmsF (flatA3 _ _ _ _), ⟨nmsF (flatA3 _ _ _ _), ⟨nmsX (by kernel_rfl), ⟨nmsF (flatA3 _ _ _ _), ⟨nmsX (by kernel_rfl), ⟨nmsF (flatA3 _ _ _ _), ⟨nmsX (by kernel_rfl), trivial⟩⟩⟩⟩⟩⟩⟩⟩⟩ ?_
    refine segWH 2 (T1 := (mkT 101 [(1, vI 1), (2, vP 1 0), (6, vP 4 0), (7, .bool true), (8, vP 6 0), (9, vP 8 0), (10, .bool true), (44, .bool false), (45, .agg #[vN X, vN Y, vN Z, vS 5 L.length]), (46, .agg #[vN X, vN Y, vN Z, vS 0 L.length])])) (by kernel_rfl) ?_
    refine rW (m := ⟨[9], [], [0]⟩) (v := .agg #[vN X, vN Y, vN Z, vS 9 L.length]) rfl (by kernel_rfl) (stN (i := 9) (E := [some ⟨a3s L, 25, false, true⟩]) (v1 := .agg #[vN X, vN Y, vN Z, vS 10 L.length]) (args := [.agg #[vN X, vN Y, vN Z, vS 0 L.length]]) rfl (by kernel_rfl) (Any.lay (E := [some ⟨a3s L, 25, false, true⟩]) (N := 10) [0] (toHeapB ((X : Nat) : Int) ((Y : Nat) : Int) ((Z : Nat) : Int) L (by first | omega | assumption | (simp; done))) ⟨rdF false (flatA3 _ _ _ _) rfl rfl, trivial⟩ rfl ⟨clF (flatA3 _ _ _ _), trivial⟩ rfl (by first | rfl | simp [mpV, mpA, mpS, mpP, renId, shift]) (by first | rfl | simp [mpV, mpA, mpS, mpP, renId, shift]) ⟨enF (flatA3 _ _ _ _) (Or.inl rfl), trivial⟩) rfl (by kernel_rfl) (by kernel_rfl) (by kernel_rfl) (by kernel_rfl) (FlatH.cons (flatA3 _ _ _ _) FlatH.nil)) (by kernel_rfl) (NRs.all ⟨nrOf (by rfl) (nmF (flatA3 _ _ _ _)), trivial⟩) ?_
    refine rW (m := ⟨[], [], [5, 9]⟩) (v := .bool true) rfl (by kernel_rfl) (stQ (args := [.agg #[vN X, vN Y, vN Z, vS 5 L.length], .agg #[vN X, vN Y, vN Z, vS 9 L.length]]) rfl (by kernel_rfl) (Any.lay0 [5, 9] (eqHeapB ((X : Nat) : Int) ((Y : Nat) : Int) ((Z : Nat) : Int) L (by first | omega | assumption | (simp; done))) ⟨rdF true (flatA3 _ _ _ _) rfl rfl, ⟨rdF true (flatA3 _ _ _ _) rfl rfl, trivial⟩⟩ rfl ⟨clF (flatA3 _ _ _ _), ⟨clF (flatA3 _ _ _ _), trivial⟩⟩ rfl (by first | rfl | simp [mpV, mpA, mpS, mpP, renId, shift]) rfl) rfl (by kernel_rfl) (by kernel_rfl)) (by kernel_rfl) nr0 ?_
    refine segEndW [1, 2, 6, 7, 8, 9, 10, 49] (T1 := (mkT 101 [(1, vI 1), (2, vP 1 0), (6, vP 4 0), (7, .bool true), (8, vP 6 0), (9, vP 8 0), (10, .bool true), (49, .bool false)])) (H1 := [some ⟨a3s L, 25, false, false⟩, rB [vN X, vN Y, vN Z, vS 0 L.length] 24, some ⟨a3s L, 25, false, true⟩, some ⟨a3s R, 25, false, true⟩, rB [vN X, vN Y, vN Z, vS 3 R.length] 29, some ⟨a3s L, 25, false, true⟩, rB [vN X, vN Y, vN Z, vS 5 L.length] 29, some ⟨a3s R, 25, false, true⟩, rB [vN X, vN Y, vN Z, vS 7 R.length] 29, some ⟨a3s L, 25, false, true⟩]) (by kernel_rfl) ?_
    refine kSeq ?_
    refine cFalse (by kernel_rfl) ?_
    refine cSkip ?_
    refine kSeq ?_
    refine cSeq ?_
    refine cReg ?_
    refine segEndH [1, 2, 6, 7, 8, 9, 10, 11] (T1 := (mkT 101 [(1, vI 1), (2, vP 1 0), (6, vP 4 0), (7, .bool true), (8, vP 6 0), (9, vP 8 0), (10, .bool true), (11, vI 1)])) (by kernel_rfl) ?_
    refine kSeq ?_
    refine cSeq ?_
    refine cReg ?_
    refine segH 2 (T1 := (mkT 101 [(1, vI 1), (2, vP 1 0), (6, vP 4 0), (7, .bool true), (8, vP 6 0), (9, vP 8 0), (10, .bool true), (11, vI 1), (50, .agg #[vN X, vN Y, vN Z, vS 5 L.length]), (51, vI 1)])) (by kernel_rfl) ?_
    refine rCall (v := vN (1 + 3 * L.length)) (args := [.agg #[vN X, vN Y, vN Z, vS 5 L.length], vI 1]) (by kernel_rfl) rfl (by kernel_rfl) (Sound.emb_set (r := ⟨a3s L, 25, false, true⟩) (r' := ⟨a3s (mk3 1 L.length), 25, false, true⟩) 5 (markHeapB ((X : Nat) : Int) ((Y : Nat) : Int) ((Z : Nat) : Int) L 1 (by first | omega | assumption | (simp; done)) (by first | assumption | omega | rfl | decide | exact HeapL.list _ _ _ _ | exact HeapL.nil _ _ _ | exact HeapL.all _ _ _ | (apply HeapL.lt64 <;> assumption) | (repeat' (first | assumption | apply or_lt64 | apply and_lt64 | apply andn_lt64 | apply pow_lt64 | (apply HeapL.lt64 <;> assumption))))) (flatA3 _ _ _ _) rfl (flatA3 _ _ _ _) rfl rfl rfl (by first | rfl | simp [mpV, mpA, mpS, mpP, renId, shift]) rfl) ?_
    refine segEnd [1, 2, 6, 7, 9, 10, 11] (T1 := (mkT 101 [(1, vI 1), (2, vP 1 0), (6, vP 4 0), (7, .bool true), (9, vP 8 0), (10, .bool true), (11, vN (1 + 3 * L.length))])) (H1 := [some ⟨a3s L, 25, false, false⟩, rB [vN X, vN Y, vN Z, vS 0 L.length] 24, some ⟨a3s L, 25, false, true⟩, some ⟨a3s R, 25, false, true⟩, rB [vN X, vN Y, vN Z, vS 3 R.length] 29, some ⟨a3s (mk3 1 L.length), 25, false, true⟩, rB [vN X, vN Y, vN Z, vS 5 L.length] 29, some ⟨a3s R, 25, false, true⟩, rB [vN X, vN Y, vN Z, vS 7 R.length] 29, some ⟨a3s L, 25, false, true⟩]) (by kernel_rfl) ?_
    refine kSeq ?_
    refine cSeq ?_
    refine cSeq ?_
    refine cReg ?_
    refine segH 3 (T1 := (mkT 101 [(1, vI 1), (2, vP 1 0), (6, vP 4 0), (7, .bool true), (9, vP 8 0), (10, .bool true), (11, vN (1 + 3 * L.length)), (53, vN (1 + 3 * L.length)), (54, .bool (decide (((1 + 3 * L.length : Nat) : Int) < 0))), (55, .bool (decide (((1 + 3 * L.length : Nat) : Int) < 0)))])) (by kernel_rfl) ?_
    cases h2 : (decide (((1 + 3 * L.length : Nat) : Int) < 0) : Bool)
    ·
      (try simp only [Bool.not_eq_true', Bool.not_eq_false', decide_eq_true_eq, decide_eq_false_iff_not, beq_iff_eq, bne_iff_ne, beq_eq_false_iff_ne, bne_eq_false_iff_eq, ne_eq, Decidable.not_not, Bool.and_eq_true, Bool.and_eq_false_imp, Bool.or_eq_true, Bool.or_eq_false_iff, Bool.not_eq_true, Int.not_lt, Int.not_le, ge_iff_le, gt_iff_lt] at h2)
      refine seg 2 (T1 := (mkT 101 [(1, vI 1), (2, vP 1 0), (6, vP 4 0), (7, .bool true), (9, vP 8 0), (10, .bool true), (11, vN (1 + 3 * L.length)), (53, vN (1 + 3 * L.length)), (54, .bool false), (55, .bool false), (56, .agg #[vN X, vN Y, vN Z, vS 7 R.length]), (57, .agg #[vN X, vN Y, vN Z, vS 3 R.length])])) (H1 := [some ⟨a3s L, 25, false, false⟩, rB [vN X, vN Y, vN Z, vS 0 L.length] 24, some ⟨a3s L, 25, false, true⟩, some ⟨a3s R, 25, false, true⟩, rB [vN X, vN Y, vN Z, vS 3 R.length] 29, some ⟨a3s (mk3 1 L.length), 25, false, true⟩, rB [vN X, vN Y, vN Z, vS 5 L.length] 29, some ⟨a3s R, 25, false, true⟩, rB [vN X, vN Y, vN Z, vS 7 R.length] 29, some ⟨a3s L, 25, false, true⟩]) (by kernel_rfl) ?_
      refine rCall (v := .bool true) (args := [.agg #[vN X, vN Y, vN Z, vS 7 R.length], .agg #[vN X, vN Y, vN Z, vS 3 R.length]]) (by kernel_rfl) rfl (by kernel_rfl) (Sound.lay0 [7, 3] (eqHeapB ((X : Nat) : Int) ((Y : Nat) : Int) ((Z : Nat) : Int) R (by first | omega | assumption | (simp; done))) ⟨rdF true (flatA3 _ _ _ _) rfl rfl, ⟨rdF true (flatA3 _ _ _ _) rfl rfl, trivial⟩⟩ rfl ⟨clF (flatA3 _ _ _ _), ⟨clF (flatA3 _ _ _ _), trivial⟩⟩ rfl (by first | rfl | simp [mpV, mpA, mpS, mpP, renId, shift]) rfl) ?_
      refine segEnd [1, 2, 6, 7, 9, 65] (T1 := (mkT 101 [(1, vI 1), (2, vP 1 0), (6, vP 4 0), (7, .bool true), (9, vP 8 0), (65, .bool false)])) (H1 := [some ⟨a3s L, 25, false, false⟩, rB [vN X, vN Y, vN Z, vS 0 L.length] 24, some ⟨a3s L, 25, false, true⟩, some ⟨a3s R, 25, false, true⟩, rB [vN X, vN Y, vN Z, vS 3 R.length] 29, some ⟨a3s (mk3 1 L.length), 25, false, true⟩, rB [vN X, vN Y, vN Z, vS 5 L.length] 29, some ⟨a3s R, 25, false, true⟩, rB [vN X, vN Y, vN Z, vS 7 R.length] 29, some ⟨a3s L, 25, false, true⟩]) (by kernel_rfl) ?_
      refine kSeq ?_
      refine cFalse (by kernel_rfl) ?_
      refine cSkip ?_
      refine kSeq ?_
      refine cSeq ?_
      refine cReg ?_
      refine segEndH [1, 2, 6, 7, 9, 12] (T1 := (mkT 101 [(1, vI 1), (2, vP 1 0), (6, vP 4 0), (7, .bool true), (9, vP 8 0), (12, vI 1)])) (by kernel_rfl) ?_
      refine kSeq ?_
      refine cSeq ?_
      refine cReg ?_
      refine segH 2 (T1 := (mkT 101 [(1, vI 1), (2, vP 1 0), (6, vP 4 0), (7, .bool true), (9, vP 8 0), (12, vI 1), (66, .agg #[vN X, vN Y, vN Z, vS 7 R.length]), (67, vI 1)])) (by kernel_rfl) ?_
      refine rCall (v := vN (1 + 3 * R.length)) (args := [.agg #[vN X, vN Y, vN Z, vS 7 R.length], vI 1]) (by kernel_rfl) rfl (by kernel_rfl) (Sound.emb_set (r := ⟨a3s R, 25, false, true⟩) (r' := ⟨a3s (mk3 1 R.length), 25, false, true⟩) 7 (markHeapB ((X : Nat) : Int) ((Y : Nat) : Int) ((Z : Nat) : Int) R 1 (by first | omega | assumption | (simp; done)) (by first | assumption | omega | rfl | decide | exact HeapL.list _ _ _ _ | exact HeapL.nil _ _ _ | exact HeapL.all _ _ _ | (apply HeapL.lt64 <;> assumption) | (repeat' (first | assumption | apply or_lt64 | apply and_lt64 | apply andn_lt64 | apply pow_lt64 | (apply HeapL.lt64 <;> assumption))))) (flatA3 _ _ _ _) rfl (flatA3 _ _ _ _) rfl rfl rfl (by first | rfl | simp [mpV, mpA, mpS, mpP, renId, shift]) rfl) ?_
      refine segEnd [1, 2, 6, 7, 9, 12] (T1 := (mkT 101 [(1, vI 1), (2, vP 1 0), (6, vP 4 0), (7, .bool true), (9, vP 8 0), (12, vN (1 + 3 * R.length))])) (H1 := [some ⟨a3s L, 25, false, false⟩, rB [vN X, vN Y, vN Z, vS 0 L.length] 24, some ⟨a3s L, 25, false, true⟩, some ⟨a3s R, 25, false, true⟩, rB [vN X, vN Y, vN Z, vS 3 R.length] 29, some ⟨a3s (mk3 1 L.length), 25, false, true⟩, rB [vN X, vN Y, vN Z, vS 5 L.length] 29, some ⟨a3s (mk3 1 R.length), 25, false, true⟩, rB [vN X, vN Y, vN Z, vS 7 R.length] 29, some ⟨a3s L, 25, false, true⟩]) (by kernel_rfl) ?_
      refine kSeq ?_
      refine cSeq ?_
      refine cReg ?_
      refine segEndH [1, 2, 6, 7, 9, 12, 13] (T1 := (mkT 101 [(1, vI 1), (2, vP 1 0), (6, vP 4 0), (7, .bool true), (9, vP 8 0), (12, vN (1 + 3 * R.length)), (13, vI 1)])) (by kernel_rfl) ?_
      refine kSeq ?_
      refine cSeq ?_
      refine cReg ?_
      refine segH 2 (T1 := (mkT 101 [(1, vI 1), (2, vP 1 0), (6, vP 4 0), (7, .bool true), (9, vP 8 0), (12, vN (1 + 3 * R.length)), (13, vI 1), (69, .agg #[vN X, vN Y, vN Z, vS 7 R.length]), (70, vI 1)])) (by kernel_rfl) ?_
      refine rCall (v := vN (1 + 3 * R.length)) (args := [.agg #[vN X, vN Y, vN Z, vS 7 R.length], vI 1]) (by kernel_rfl) rfl (by kernel_rfl) (Sound.lay0 [7] (heldHeapB ((X : Nat) : Int) ((Y : Nat) : Int) ((Z : Nat) : Int) 1 R.length (by first | omega | assumption | (simp; done)) (by first | assumption | omega | rfl | decide | exact HeapL.list _ _ _ _ | exact HeapL.nil _ _ _ | exact HeapL.all _ _ _ | (apply HeapL.lt64 <;> assumption) | (repeat' (first | assumption | apply or_lt64 | apply and_lt64 | apply andn_lt64 | apply pow_lt64 | (apply HeapL.lt64 <;> assumption))))) ⟨rdF true (flatA3 _ _ _ _) rfl rfl, trivial⟩ rfl ⟨clF (flatA3 _ _ _ _), trivial⟩ rfl (by first | rfl | simp [mpV, mpA, mpS, mpP, renId, shift]) rfl) ?_
      refine segEndH [1, 2, 6, 7, 9, 12, 13] (T1 := (mkT 101 [(1, vI 1), (2, vP 1 0), (6, vP 4 0), (7, .bool true), (9, vP 8 0), (12, vN (1 + 3 * R.length)), (13, vN (1 + 3 * R.length))])) (by kernel_rfl) ?_
      refine kSeq ?_
      refine cSeq ?_
      refine cSeq ?_
      refine cReg ?_
      refine segEndH [1, 2, 6, 7, 9, 12, 13, 73] (T1 := (mkT 101 [(1, vI 1), (2, vP 1 0), (6, vP 4 0), (7, .bool true), (9, vP 8 0), (12, vN (1 + 3 * R.length)), (13, vN (1 + 3 * R.length)), (73, .bool (decide (((1 + 3 * R.length : Nat) : Int) < 0)))])) (by kernel_rfl) ?_
      refine kSeq ?_
      cases h3 : (decide (((1 + 3 * R.length : Nat) : Int) < 0) : Bool)
      ·
        (try simp only [Bool.not_eq_true', Bool.not_eq_false', decide_eq_true_eq, decide_eq_false_iff_not, beq_iff_eq, bne_iff_ne, beq_eq_false_iff_ne, bne_eq_false_iff_eq, ne_eq, Decidable.not_not, Bool.and_eq_true, Bool.and_eq_false_imp, Bool.or_eq_true, Bool.or_eq_false_iff, Bool.not_eq_true, Int.not_lt, Int.not_le, ge_iff_le, gt_iff_lt] at h3)
        refine cFalse (by kernel_rfl) ?_
        refine cSkip ?_
        refine kSeq ?_
        refine cSeq ?_
        refine cSeq ?_
        refine cReg ?_
        refine segH 2 (T1 := (mkT 101 [(1, vI 1), (2, vP 1 0), (6, vP 4 0), (7, .bool true), (9, vP 8 0), (12, vN (1 + 3 * R.length)), (13, vN (1 + 3 * R.length)), (73, .bool false), (74, vN (1 + 3 * R.length)), (75, vN (1 + 3 * R.length))])) (by kernel_rfl) ?_
        refine rOp (v := .bool false) (by kernel_rfl) (eNeS (k := .i64) (a := ((1 + 3 * R.length : Nat) : Int)) (by kernel_rfl) (by kernel_rfl)) ?_
        refine segEndH [1, 2, 6, 7, 9, 12, 76] (T1 := (mkT 101 [(1, vI 1), (2, vP 1 0), (6, vP 4 0), (7, .bool true), (9, vP 8 0), (12, vN (1 + 3 * R.length)), (76, .bool false)])) (by kernel_rfl) ?_
        refine kSeq ?_
        refine cFalse (by kernel_rfl) ?_
        refine cSkip ?_
        refine kSeq ?_
        refine cSeq ?_
        refine cReg ?_
        refine segH 1 (T1 := (mkT 101 [(1, vI 1), (2, vP 1 0), (6, vP 4 0), (7, .bool true), (9, vP 8 0), (12, vN (1 + 3 * R.length)), (76, .bool false), (78, .agg #[vN X, vN Y, vN Z, vS 0 L.length])])) (by kernel_rfl) ?_
        refine rCall (v := .agg #[vN X, vN Y, vN Z, vS 10 L.length]) (args := [.agg #[vN X, vN Y, vN Z, vS 0 L.length]]) (by kernel_rfl) rfl (by kernel_rfl) (Sound.lay (E := [some ⟨a3s L, 25, false, true⟩]) [0] (toHeapB ((X : Nat) : Int) ((Y : Nat) : Int) ((Z : Nat) : Int) L (by first | omega | assumption | (simp; done))) ⟨rdF false (flatA3 _ _ _ _) rfl rfl, trivial⟩ rfl ⟨clF (flatA3 _ _ _ _), trivial⟩ rfl (by first | rfl | simp [mpV, mpA, mpS, mpP, renId, shift]) (by first | rfl | simp [mpV, mpA, mpS, mpP, renId, shift]) ⟨enF (flatA3 _ _ _ _) (Or.inl rfl), trivial⟩) ?_
        refine seg 1 (T1 := (mkT 101 [(1, vI 1), (2, vP 1 0), (6, vP 4 0), (7, .bool true), (9, vP 8 0), (12, vN (1 + 3 * R.length)), (76, .bool false), (78, .agg #[vN X, vN Y, vN Z, vS 0 L.length]), (79, .agg #[vN X, vN Y, vN Z, vS 10 L.length]), (80, vI 1)])) (H1 := [some ⟨a3s L, 25, false, false⟩, rB [vN X, vN Y, vN Z, vS 0 L.length] 24, some ⟨a3s L, 25, false, true⟩, some ⟨a3s R, 25, false, true⟩, rB [vN X, vN Y, vN Z, vS 3 R.length] 29, some ⟨a3s (mk3 1 L.length), 25, false, true⟩, rB [vN X, vN Y, vN Z, vS 5 L.length] 29, some ⟨a3s (mk3 1 R.length), 25, false, true⟩, rB [vN X, vN Y, vN Z, vS 7 R.length] 29, some ⟨a3s L, 25, false, true⟩, some ⟨a3s L, 25, false, true⟩]) (by kernel_rfl) ?_
        refine rCall (v := .tuple #[.agg #[vN X, vN Y, vN Z, vS 11 R.length], .bool true]) (args := [.agg #[vN X, vN Y, vN Z, vS 10 L.length], vI 1]) (by kernel_rfl) rfl (by kernel_rfl) (Sound.lay (E := [some ⟨a3s R, 25, false, true⟩]) [10] (implMirrorHeap_1R X Y Z L R (by first | assumption | omega | rfl | decide | exact HeapL.list _ _ _ _ | exact HeapL.nil _ _ _ | exact HeapL.all _ _ _ | (apply HeapL.lt64 <;> assumption) | (repeat' (first | assumption | apply or_lt64 | apply and_lt64 | apply andn_lt64 | apply pow_lt64 | (apply HeapL.lt64 <;> assumption)))) (by first | assumption | omega | rfl | decide | exact HeapL.list _ _ _ _ | exact HeapL.nil _ _ _ | exact HeapL.all _ _ _ | (apply HeapL.lt64 <;> assumption) | (repeat' (first | assumption | apply or_lt64 | apply and_lt64 | apply andn_lt64 | apply pow_lt64 | (apply HeapL.lt64 <;> assumption)))) (by first | assumption | omega | rfl | decide | exact HeapL.list _ _ _ _ | exact HeapL.nil _ _ _ | exact HeapL.all _ _ _ | (apply HeapL.lt64 <;> assumption) | (repeat' (first | assumption | apply or_lt64 | apply and_lt64 | apply andn_lt64 | apply pow_lt64 | (apply HeapL.lt64 <;> assumption))))) ⟨rdF true (flatA3 _ _ _ _) rfl rfl, trivial⟩ rfl ⟨clF (flatA3 _ _ _ _), trivial⟩ rfl (by first | rfl | simp [mpV, mpA, mpS, mpP, renId, shift]) (by first | rfl | simp [mpV, mpA, mpS, mpP, renId, shift]) ⟨enF (flatA3 _ _ _ _) (Or.inl rfl), trivial⟩) ?_
        refine segEnd [6, 7, 9, 12, 14, 15] (T1 := (mkT 101 [(6, vP 4 0), (7, .bool true), (9, vP 8 0), (12, vN (1 + 3 * R.length)), (14, vP 12 0), (15, .bool true)])) (H1 := [some ⟨a3s L, 25, false, false⟩, rB [vN X, vN Y, vN Z, vS 0 L.length] 24, some ⟨a3s L, 25, false, true⟩, some ⟨a3s R, 25, false, true⟩, rB [vN X, vN Y, vN Z, vS 3 R.length] 29, some ⟨a3s (mk3 1 L.length), 25, false, true⟩, rB [vN X, vN Y, vN Z, vS 5 L.length] 29, some ⟨a3s (mk3 1 R.length), 25, false, true⟩, rB [vN X, vN Y, vN Z, vS 7 R.length] 29, some ⟨a3s L, 25, false, true⟩, some ⟨a3s L, 25, false, true⟩, some ⟨a3s R, 25, false, true⟩, rB [vN X, vN Y, vN Z, vS 11 R.length] 29]) (by kernel_rfl) ?_
        refine kSeq ?_
        refine cSeq ?_
        refine cSeq ?_
        refine cReg ?_
        refine segH 2 (T1 := (mkT 101 [(6, vP 4 0), (7, .bool true), (9, vP 8 0), (12, vN (1 + 3 * R.length)), (14, vP 12 0), (15, .bool true), (84, .agg #[vN X, vN Y, vN Z, vS 11 R.length]), (85, .agg #[vN X, vN Y, vN Z, vS 3 R.length])])) (by kernel_rfl) ?_
        refine rCall (v := .bool true) (args := [.agg #[vN X, vN Y, vN Z, vS 11 R.length], .agg #[vN X, vN Y, vN Z, vS 3 R.length]]) (by kernel_rfl) rfl (by kernel_rfl) (Sound.lay0 [11, 3] (eqHeapB ((X : Nat) : Int) ((Y : Nat) : Int) ((Z : Nat) : Int) R (by first | omega | assumption | (simp; done))) ⟨rdF true (flatA3 _ _ _ _) rfl rfl, ⟨rdF true (flatA3 _ _ _ _) rfl rfl, trivial⟩⟩ rfl ⟨clF (flatA3 _ _ _ _), ⟨clF (flatA3 _ _ _ _), trivial⟩⟩ rfl (by first | rfl | simp [mpV, mpA, mpS, mpP, renId, shift]) rfl) ?_
        refine segEndH [9, 12, 92] (T1 := (mkT 101 [(9, vP 8 0), (12, vN (1 + 3 * R.length)), (92, .bool false)])) (by kernel_rfl) ?_
        refine kSeq ?_
        refine cFalse (by kernel_rfl) ?_
        refine cSkip ?_
        refine kSeq ?_
        refine cSeq ?_
        refine cReg ?_
        refine segEndH [9, 12, 13] (T1 := (mkT 101 [(9, vP 8 0), (12, vN (1 + 3 * R.length)), (13, vI 1)])) (by kernel_rfl) ?_
        refine kSeq ?_
        refine cSeq ?_
        refine cReg ?_
        refine segH 2 (T1 := (mkT 101 [(9, vP 8 0), (12, vN (1 + 3 * R.length)), (13, vI 1), (93, .agg #[vN X, vN Y, vN Z, vS 7 R.length]), (94, vI 1)])) (by kernel_rfl) ?_
        refine rCall (v := vN (1 + 3 * R.length)) (args := [.agg #[vN X, vN Y, vN Z, vS 7 R.length], vI 1]) (by kernel_rfl) rfl (by kernel_rfl) (Sound.lay0 [7] (heldHeapB ((X : Nat) : Int) ((Y : Nat) : Int) ((Z : Nat) : Int) 1 R.length (by first | omega | assumption | (simp; done)) (by first | assumption | omega | rfl | decide | exact HeapL.list _ _ _ _ | exact HeapL.nil _ _ _ | exact HeapL.all _ _ _ | (apply HeapL.lt64 <;> assumption) | (repeat' (first | assumption | apply or_lt64 | apply and_lt64 | apply andn_lt64 | apply pow_lt64 | (apply HeapL.lt64 <;> assumption))))) ⟨rdF true (flatA3 _ _ _ _) rfl rfl, trivial⟩ rfl ⟨clF (flatA3 _ _ _ _), trivial⟩ rfl (by first | rfl | simp [mpV, mpA, mpS, mpP, renId, shift]) rfl) ?_
        refine segEndH [12, 13] (T1 := (mkT 101 [(12, vN (1 + 3 * R.length)), (13, vN (1 + 3 * R.length))])) (by kernel_rfl) ?_
        refine kSeq ?_
        refine cSeq ?_
        refine cSeq ?_
        refine cReg ?_
        refine segEndH [12, 13, 97] (T1 := (mkT 101 [(12, vN (1 + 3 * R.length)), (13, vN (1 + 3 * R.length)), (97, .bool (decide (((1 + 3 * R.length : Nat) : Int) < 0)))])) (by kernel_rfl) ?_
        refine kSeq ?_
        cases h4 : (decide (((1 + 3 * R.length : Nat) : Int) < 0) : Bool)
        ·
          (try simp only [Bool.not_eq_true', Bool.not_eq_false', decide_eq_true_eq, decide_eq_false_iff_not, beq_iff_eq, bne_iff_ne, beq_eq_false_iff_ne, bne_eq_false_iff_eq, ne_eq, Decidable.not_not, Bool.and_eq_true, Bool.and_eq_false_imp, Bool.or_eq_true, Bool.or_eq_false_iff, Bool.not_eq_true, Int.not_lt, Int.not_le, ge_iff_le, gt_iff_lt] at h4)
          refine cFalse (by kernel_rfl) ?_
          refine cSkip ?_
          refine kSeq ?_
          refine cSeq ?_
          refine cSeq ?_
          refine cReg ?_
          refine segH 2 (T1 := (mkT 101 [(12, vN (1 + 3 * R.length)), (13, vN (1 + 3 * R.length)), (97, .bool false), (98, vN (1 + 3 * R.length)), (99, vN (1 + 3 * R.length))])) (by kernel_rfl) ?_
          refine rOp (v := .bool false) (by kernel_rfl) (eNeS (k := .i64) (a := ((1 + 3 * R.length : Nat) : Int)) (by kernel_rfl) (by kernel_rfl)) ?_
          refine segEndH [100] (T1 := (mkT 101 [(100, .bool false)])) (by kernel_rfl) ?_
          refine kSeq ?_
          refine cFalse (by kernel_rfl) ?_
          refine cSkip ?_
          refine kSeq ?_
          refine cSeq ?_
          refine cReg ?_
          refine segEndH [4] (T1 := (mkT 101 [(4, .bool true)])) (by kernel_rfl) ?_
          refine kSeq ?_
          refine cRet ?_
          -- end
          exact endQ (Or.inr rfl) (l := [.bool true]) [rB [vN X, vN Y, vN Z, vS 0 L.length] 24, some ⟨a3s L, 25, false, true⟩, some ⟨a3s R, 25, false, true⟩, rB [vN X, vN Y, vN Z, vS 3 R.length] 29, some ⟨a3s (mk3 1 L.length), 25, false, true⟩, rB [vN X, vN Y, vN Z, vS 5 L.length] 29, some ⟨a3s (mk3 1 R.length), 25, false, true⟩, rB [vN X, vN Y, vN Z, vS 7 R.length] 29, some ⟨a3s L, 25, false, true⟩, some ⟨a3s L, 25, false, true⟩, some ⟨a3s R, 25, false, true⟩, rB [vN X, vN Y, vN Z, vS 11 R.length] 29] (by kernel_rfl) (by first | rfl | kernel_rfl) rfl rfl hcl rfl
        ·
          (try simp only [Bool.not_eq_true', Bool.not_eq_false', decide_eq_true_eq, decide_eq_false_iff_not, beq_iff_eq, bne_iff_ne, beq_eq_false_iff_ne, bne_eq_false_iff_eq, ne_eq, Decidable.not_not, Bool.and_eq_true, Bool.and_eq_false_imp, Bool.or_eq_true, Bool.or_eq_false_iff, Bool.not_eq_true, Int.not_lt, Int.not_le, ge_iff_le, gt_iff_lt] at h4)
          exfalso; omega
      ·
        (try simp only [Bool.not_eq_true', Bool.not_eq_false', decide_eq_true_eq, decide_eq_false_iff_not, beq_iff_eq, bne_iff_ne, beq_eq_false_iff_ne, bne_eq_false_iff_eq, ne_eq, Decidable.not_not, Bool.and_eq_true, Bool.and_eq_false_imp, Bool.or_eq_true, Bool.or_eq_false_iff, Bool.not_eq_true, Int.not_lt, Int.not_le, ge_iff_le, gt_iff_lt] at h3)
        exfalso; omega
    ·
      (try simp only [Bool.not_eq_true', Bool.not_eq_false', decide_eq_true_eq, decide_eq_false_iff_not, beq_iff_eq, bne_iff_ne, beq_eq_false_iff_ne, bne_eq_false_iff_eq, ne_eq, Decidable.not_not, Bool.and_eq_true, Bool.and_eq_false_imp, Bool.or_eq_true, Bool.or_eq_false_iff, Bool.not_eq_true, Int.not_lt, Int.not_le, ge_iff_le, gt_iff_lt] at h2)
      exfalso; omega
  ·
    (try simp only [Bool.not_eq_true', Bool.not_eq_false', decide_eq_true_eq, decide_eq_false_iff_not, beq_iff_eq, bne_iff_ne, beq_eq_false_iff_ne, bne_eq_false_iff_eq, ne_eq, Decidable.not_not, Bool.and_eq_true, Bool.and_eq_false_imp, Bool.or_eq_true, Bool.or_eq_false_iff, Bool.not_eq_true, Int.not_lt, Int.not_le, ge_iff_le, gt_iff_lt] at h1)
    exfalso; omega

set_option maxRecDepth 100000 in
set_option maxHeartbeats 4000000 in
theorem lawMirrorHeap_d1_n (X : Nat) (Y : Nat) (Z : Nat) (R : List A3) (hs : Sides X Y Z) (hR : R = listOf X Y Z (setOf Y Z (([] : List A3).map (mir X Y Z 1)))) : Sound Try.prog 13 [.agg #[vN X, vN Y, vN Z, .slice none 0 0], vI 1] [] (.bool true) [] := by
  refine sound_intro (C := cx) Try.func13 rfl (by kernel_rfl) fun hcl => ?_
  have hz := hs.size
  have hx0 := hs.x0
  have hx4 := hs.x4
  have hy0 := hs.y0
  have hy4 := hs.y4
  have hz0 := hs.z0
  have hz4 := hs.z4
  have hlen : ([] : List A3).length ≤ 64 := by first | (have := hL.len; have := hs.size; omega) | simp
  have hr : R.length ≤ 64 := by (rw [hR]; have := (HeapL.list X Y Z (setOf Y Z (([] : List A3).map (mir X Y Z 1)))).len; omega)
  refine cSeq ?_
  refine cReg ?_
  refine segEnd [1, 2] (T1 := (mkT 101 [(1, vI 1), (2, vP 0 0)])) (H1 := [rB [vN X, vN Y, vN Z, .slice none 0 0] 24]) (by kernel_rfl) ?_
  refine kSeq ?_
  refine cSeq ?_
  refine cReg ?_
  refine segEndH [1, 2, 5] (T1 := (mkT 101 [(1, vI 1), (2, vP 0 0), (5, vI 1048576)])) (by kernel_rfl) ?_
  refine kSeq ?_
  refine cSeq ?_
  refine cReg ?_
  refine segH 2 (T1 := (mkT 101 [(1, vI 1), (2, vP 0 0), (5, vI 1048576), (16, .agg #[vN X, vN Y, vN Z, .slice none 0 0]), (17, vI 1048576)])) (by kernel_rfl) ?_
  refine rCall (v := vI 1048576) (args := [.agg #[vN X, vN Y, vN Z, .slice none 0 0], vI 1048576]) (by kernel_rfl) rfl (by kernel_rfl) (Sound.lay0 [] (szHeapN ((X : Nat) : Int) ((Y : Nat) : Int) ((Z : Nat) : Int) 1048576 (by first | omega | assumption | decide)) trivial rfl trivial rfl (by first | rfl | simp [mpV, mpA, mpS, mpP, renId, shift]) rfl) ?_
  refine segEndH [1, 2, 5] (T1 := (mkT 101 [(1, vI 1), (2, vP 0 0), (5, vI 1048576)])) (by kernel_rfl) ?_
  refine kSeq ?_
  refine cSeq ?_
  refine cSeq ?_
  refine cReg ?_
  refine segEndH [1, 2, 20] (T1 := (mkT 101 [(1, vI 1), (2, vP 0 0), (20, .bool false)])) (by kernel_rfl) ?_
  refine kSeq ?_
  refine cFalse (by kernel_rfl) ?_
  refine cSkip ?_
  refine kSeq ?_
  refine cSeq ?_
  refine cReg ?_
  refine segH 1 (T1 := (mkT 101 [(1, vI 1), (2, vP 0 0), (20, .bool false), (22, .agg #[vN X, vN Y, vN Z, .slice none 0 0])])) (by kernel_rfl) ?_
  refine rCall (v := .agg #[vN X, vN Y, vN Z, vS 1 0]) (args := [.agg #[vN X, vN Y, vN Z, .slice none 0 0]]) (by kernel_rfl) rfl (by kernel_rfl) (Sound.lay (E := [some ⟨[], 25, false, true⟩]) [] (toHeapN ((X : Nat) : Int) ((Y : Nat) : Int) ((Z : Nat) : Int)) trivial rfl trivial rfl (by first | rfl | simp [mpV, mpA, mpS, mpP, renId, shift]) (by first | rfl | simp [mpV, mpA, mpS, mpP, renId, shift]) ⟨enX rfl (Or.inl rfl), trivial⟩) ?_
  refine seg 1 (T1 := (mkT 101 [(1, vI 1), (2, vP 0 0), (20, .bool false), (22, .agg #[vN X, vN Y, vN Z, .slice none 0 0]), (23, .agg #[vN X, vN Y, vN Z, vS 1 0]), (24, vI 1)])) (H1 := [rB [vN X, vN Y, vN Z, .slice none 0 0] 24, some ⟨[], 25, false, true⟩]) (by kernel_rfl) ?_
  refine rCall (v := .tuple #[.agg #[vN X, vN Y, vN Z, vS 2 R.length], .bool true]) (args := [.agg #[vN X, vN Y, vN Z, vS 1 0], vI 1]) (by kernel_rfl) rfl (by kernel_rfl) (Sound.lay (E := [some ⟨a3s R, 25, false, true⟩]) [1] (specMirrorHeap_1R X Y Z ([] : List A3) R (by first | assumption | omega | rfl | decide | exact HeapL.list _ _ _ _ | exact HeapL.nil _ _ _ | exact HeapL.all _ _ _ | (apply HeapL.lt64 <;> assumption) | (repeat' (first | assumption | apply or_lt64 | apply and_lt64 | apply andn_lt64 | apply pow_lt64 | (apply HeapL.lt64 <;> assumption)))) (by first | assumption | omega | rfl | decide | exact HeapL.list _ _ _ _ | exact HeapL.nil _ _ _ | exact HeapL.all _ _ _ | (apply HeapL.lt64 <;> assumption) | (repeat' (first | assumption | apply or_lt64 | apply and_lt64 | apply andn_lt64 | apply pow_lt64 | (apply HeapL.lt64 <;> assumption)))) (by first | assumption | omega | rfl | decide | exact HeapL.list _ _ _ _ | exact HeapL.nil _ _ _ | exact HeapL.all _ _ _ | (apply HeapL.lt64 <;> assumption) | (repeat' (first | assumption | apply or_lt64 | apply and_lt64 | apply andn_lt64 | apply pow_lt64 | (apply HeapL.lt64 <;> assumption))))) ⟨rdF true (flatA3 _ _ _ _) rfl rfl, trivial⟩ rfl ⟨clF (flatA3 _ _ _ _), trivial⟩ rfl (by first | rfl | simp [mpV, mpA, mpS, mpP, renId, shift]) (by first | rfl | simp [mpV, mpA, mpS, mpP, renId, shift]) ⟨enF (flatA3 _ _ _ _) (Or.inl rfl), trivial⟩) ?_
  refine segEnd [1, 2, 6, 7] (T1 := (mkT 101 [(1, vI 1), (2, vP 0 0), (6, vP 3 0), (7, .bool true)])) (H1 := [rB [vN X, vN Y, vN Z, .slice none 0 0] 24, some ⟨[], 25, false, true⟩, some ⟨a3s R, 25, false, true⟩, rB [vN X, vN Y, vN Z, vS 2 R.length] 29]) (by kernel_rfl) ?_
  refine kSeq ?_
  refine cSeq ?_
  refine cReg ?_
  refine segH 1 (T1 := (mkT 101 [(1, vI 1), (2, vP 0 0), (6, vP 3 0), (7, .bool true), (28, .agg #[vN X, vN Y, vN Z, .slice none 0 0])])) (by kernel_rfl) ?_
  refine rCall (v := .agg #[vN X, vN Y, vN Z, vS 4 0]) (args := [.agg #[vN X, vN Y, vN Z, .slice none 0 0]]) (by kernel_rfl) rfl (by kernel_rfl) (Sound.lay (E := [some ⟨[], 25, false, true⟩]) [] (toHeapN ((X : Nat) : Int) ((Y : Nat) : Int) ((Z : Nat) : Int)) trivial rfl trivial rfl (by first | rfl | simp [mpV, mpA, mpS, mpP, renId, shift]) (by first | rfl | simp [mpV, mpA, mpS, mpP, renId, shift]) ⟨enX rfl (Or.inl rfl), trivial⟩) ?_
  refine segEnd [1, 2, 6, 7, 8] (T1 := (mkT 101 [(1, vI 1), (2, vP 0 0), (6, vP 3 0), (7, .bool true), (8, vP 5 0)])) (H1 := [rB [vN X, vN Y, vN Z, .slice none 0 0] 24, some ⟨[], 25, false, true⟩, some ⟨a3s R, 25, false, true⟩, rB [vN X, vN Y, vN Z, vS 2 R.length] 29, some ⟨[], 25, false, true⟩, rB [vN X, vN Y, vN Z, vS 4 0] 29]) (by kernel_rfl) ?_
  refine kSeq ?_
  refine cSeq ?_
  refine cReg ?_
  refine segH 2 (T1 := (mkT 101 [(1, vI 1), (2, vP 0 0), (6, vP 3 0), (7, .bool true), (8, vP 5 0), (31, .agg #[vN X, vN Y, vN Z, vS 4 0]), (32, vI 1)])) (by kernel_rfl) ?_
  refine rCall (v := .tuple #[.agg #[vN X, vN Y, vN Z, vS 6 R.length], .bool true]) (args := [.agg #[vN X, vN Y, vN Z, vS 4 0], vI 1]) (by kernel_rfl) rfl (by kernel_rfl) (Sound.lay (E := [some ⟨a3s R, 25, false, true⟩]) [4] (implMirrorHeap_1R X Y Z ([] : List A3) R (by first | assumption | omega | rfl | decide | exact HeapL.list _ _ _ _ | exact HeapL.nil _ _ _ | exact HeapL.all _ _ _ | (apply HeapL.lt64 <;> assumption) | (repeat' (first | assumption | apply or_lt64 | apply and_lt64 | apply andn_lt64 | apply pow_lt64 | (apply HeapL.lt64 <;> assumption)))) (by first | assumption | omega | rfl | decide | exact HeapL.list _ _ _ _ | exact HeapL.nil _ _ _ | exact HeapL.all _ _ _ | (apply HeapL.lt64 <;> assumption) | (repeat' (first | assumption | apply or_lt64 | apply and_lt64 | apply andn_lt64 | apply pow_lt64 | (apply HeapL.lt64 <;> assumption)))) (by first | assumption | omega | rfl | decide | exact HeapL.list _ _ _ _ | exact HeapL.nil _ _ _ | exact HeapL.all _ _ _ | (apply HeapL.lt64 <;> assumption) | (repeat' (first | assumption | apply or_lt64 | apply and_lt64 | apply andn_lt64 | apply pow_lt64 | (apply HeapL.lt64 <;> assumption))))) ⟨rdF true (flatA3 _ _ _ _) rfl rfl, trivial⟩ rfl ⟨clF (flatA3 _ _ _ _), trivial⟩ rfl (by first | rfl | simp [mpV, mpA, mpS, mpP, renId, shift]) (by first | rfl | simp [mpV, mpA, mpS, mpP, renId, shift]) ⟨enF (flatA3 _ _ _ _) (Or.inl rfl), trivial⟩) ?_
  refine segEnd [1, 2, 6, 7, 8, 9, 10] (T1 := (mkT 101 [(1, vI 1), (2, vP 0 0), (6, vP 3 0), (7, .bool true), (8, vP 5 0), (9, vP 7 0), (10, .bool true)])) (H1 := [rB [vN X, vN Y, vN Z, .slice none 0 0] 24, some ⟨[], 25, false, true⟩, some ⟨a3s R, 25, false, true⟩, rB [vN X, vN Y, vN Z, vS 2 R.length] 29, some ⟨[], 25, false, true⟩, rB [vN X, vN Y, vN Z, vS 4 0] 29, some ⟨a3s R, 25, false, true⟩, rB [vN X, vN Y, vN Z, vS 6 R.length] 29]) (by kernel_rfl) ?_
  refine kSeq ?_
  refine cSeq ?_
  refine cSeq ?_
  refine cReg ?_
  refine segH 2 (T1 := (mkT 101 [(1, vI 1), (2, vP 0 0), (6, vP 3 0), (7, .bool true), (8, vP 5 0), (9, vP 7 0), (10, .bool true), (36, .agg #[vN X, vN Y, vN Z, vS 6 R.length]), (37, .agg #[vN X, vN Y, vN Z, vS 2 R.length])])) (by kernel_rfl) ?_
  refine rCall (v := .bool true) (args := [.agg #[vN X, vN Y, vN Z, vS 6 R.length], .agg #[vN X, vN Y, vN Z, vS 2 R.length]]) (by kernel_rfl) rfl (by kernel_rfl) (Sound.lay0 [6, 2] (eqHeapB ((X : Nat) : Int) ((Y : Nat) : Int) ((Z : Nat) : Int) R (by first | omega | assumption | (simp; done))) ⟨rdF true (flatA3 _ _ _ _) rfl rfl, ⟨rdF true (flatA3 _ _ _ _) rfl rfl, trivial⟩⟩ rfl ⟨clF (flatA3 _ _ _ _), ⟨clF (flatA3 _ _ _ _), trivial⟩⟩ rfl (by first | rfl | simp [mpV, mpA, mpS, mpP, renId, shift]) rfl) ?_
  refine segEndH [1, 2, 6, 7, 8, 9, 10, 44] (T1 := (mkT 101 [(1, vI 1), (2, vP 0 0), (6, vP 3 0), (7, .bool true), (8, vP 5 0), (9, vP 7 0), (10, .bool true), (44, .bool false)])) (by kernel_rfl) ?_
  refine kSeq ?_
  refine cFalse (by kernel_rfl) ?_
  refine cSkip ?_
  refine kSeq ?_
  refine cSeq ?_
  refine cSeq ?_
  refine cRegW (N := 9) [⟨[], [], [5]⟩, ⟨[], [], [0]⟩, ⟨[8], [], []⟩, ⟨[], [], [4, 8]⟩, ⟨[], [], []⟩] 1 [8] (by rfl) (by rfl) (by kernel_rfl) (by kernel_rfl) (by kernel_rfl) ⟨nmsX (by kernel_rfl), ⟨nmsX (by kernel_rfl), ⟨nmsF (flatA3 _ _ _ _), ⟨nmsX (by kernel_rfl), ⟨nmsX (by kernel_rfl), ⟨nmsX (by kernel_rfl), ⟨nmsF (flatA3 _ _ _ _), ⟨nmsX (by kernel_rfl), trivial⟩⟩⟩⟩⟩⟩⟩⟩ ?_
  refine segWH 2 (T1 := (mkT 101 [(1, vI 1), (2, vP 0 0), (6, vP 3 0), (7, .bool true), (8, vP 5 0), (9, vP 7 0), (10, .bool true), (44, .bool false), (45, .agg #[vN X, vN Y, vN Z, vS 4 0]), (46, .agg #[vN X, vN Y, vN Z, .slice none 0 0])])) (by kernel_rfl) ?_
  refine rW (m := ⟨[8], [], []⟩) (v := .agg #[vN X, vN Y, vN Z, vS 8 0]) rfl (by kernel_rfl) (stN (i := 8) (E := [some ⟨[], 25, false, true⟩]) (v1 := .agg #[vN X, vN Y, vN Z, vS 9 0]) (args := [.agg #[vN X, vN Y, vN Z, .slice none 0 0]]) rfl (by kernel_rfl) (Any.lay (E := [some ⟨[], 25, false, true⟩]) (N := 9) [] (toHeapN ((X : Nat) : Int) ((Y : Nat) : Int) ((Z : Nat) : Int)) trivial rfl trivial rfl (by first | rfl | simp [mpV, mpA, mpS, mpP, renId, shift]) (by first | rfl | simp [mpV, mpA, mpS, mpP, renId, shift]) ⟨enX rfl (Or.inl rfl), trivial⟩) rfl (by kernel_rfl) (by kernel_rfl) (by kernel_rfl) (by kernel_rfl) (FlatH.cons (flatRow_of rfl) FlatH.nil)) (by kernel_rfl) (NRs.all ⟨nrOf (by rfl) (nmX (by kernel_rfl)), trivial⟩) ?_
  refine rW (m := ⟨[], [], [4, 8]⟩) (v := .bool true) rfl (by kernel_rfl) (stQ (args := [.agg #[vN X, vN Y, vN Z, vS 4 0], .agg #[vN X, vN Y, vN Z, vS 8 0]]) rfl (by kernel_rfl) (Any.lay0 [4, 8] (eqHeapB ((X : Nat) : Int) ((Y : Nat) : Int) ((Z : Nat) : Int) ([] : List A3) (by first | omega | assumption | (simp; done))) ⟨rdF true (flatA3 _ _ _ _) rfl rfl, ⟨rdF true (flatA3 _ _ _ _) rfl rfl, trivial⟩⟩ rfl ⟨clF (flatA3 _ _ _ _), ⟨clF (flatA3 _ _ _ _), trivial⟩⟩ rfl (by first | rfl | simp [mpV, mpA, mpS, mpP, renId, shift]) rfl) rfl (by kernel_rfl) (by kernel_rfl)) (by kernel_rfl) nr0 ?_
  refine segEndW [1, 2, 6, 7, 8, 9, 10, 49] (T1 := (mkT 101 [(1, vI 1), (2, vP 0 0), (6, vP 3 0), (7, .bool true), (8, vP 5 0), (9, vP 7 0), (10, .bool true), (49, .bool false)])) (H1 := [rB [vN X, vN Y, vN Z, .slice none 0 0] 24, some ⟨[], 25, false, true⟩, some ⟨a3s R, 25, false, true⟩, rB [vN X, vN Y, vN Z, vS 2 R.length] 29, some ⟨[], 25, false, true⟩, rB [vN X, vN Y, vN Z, vS 4 0] 29, some ⟨a3s R, 25, false, true⟩, rB [vN X, vN Y, vN Z, vS 6 R.length] 29, some ⟨[], 25, false, true⟩]) (by kernel_rfl) ?_
  refine kSeq ?_
  refine cFalse (by kernel_rfl) ?_
  refine cSkip ?_
  refine kSeq ?_
  refine cSeq ?_
  refine cReg ?_
  refine segEndH [1, 2, 6, 7, 8, 9, 10, 11] (T1 := (mkT 101 [(1, vI 1), (2, vP 0 0), (6, vP 3 0), (7, .bool true), (8, vP 5 0), (9, vP 7 0), (10, .bool true), (11, vI 1)])) (by kernel_rfl) ?_
  refine kSeq ?_
  refine cSeq ?_
  refine cReg ?_
  refine segH 2 (T1 := (mkT 101 [(1, vI 1), (2, vP 0 0), (6, vP 3 0), (7, .bool true), (8, vP 5 0), (9, vP 7 0), (10, .bool true), (11, vI 1), (50, .agg #[vN X, vN Y, vN Z, vS 4 0]), (51, vI 1)])) (by kernel_rfl) ?_
  refine rCall (v := vN (1 + 3 * ([] : List A3).length)) (args := [.agg #[vN X, vN Y, vN Z, vS 4 0], vI 1]) (by kernel_rfl) rfl (by kernel_rfl) (Sound.emb_set (r := ⟨a3s ([] : List A3), 25, false, true⟩) (r' := ⟨a3s (mk3 1 ([] : List A3).length), 25, false, true⟩) 4 (markHeapB ((X : Nat) : Int) ((Y : Nat) : Int) ((Z : Nat) : Int) ([] : List A3) 1 (by first | omega | assumption | (simp; done)) (by first | assumption | omega | rfl | decide | exact HeapL.list _ _ _ _ | exact HeapL.nil _ _ _ | exact HeapL.all _ _ _ | (apply HeapL.lt64 <;> assumption) | (repeat' (first | assumption | apply or_lt64 | apply and_lt64 | apply andn_lt64 | apply pow_lt64 | (apply HeapL.lt64 <;> assumption))))) (flatA3 _ _ _ _) rfl (flatA3 _ _ _ _) rfl rfl rfl (by first | rfl | simp [mpV, mpA, mpS, mpP, renId, shift]) rfl) ?_
  refine segEnd [1, 2, 6, 7, 9, 10, 11] (T1 := (mkT 101 [(1, vI 1), (2, vP 0 0), (6, vP 3 0), (7, .bool true), (9, vP 7 0), (10, .bool true), (11, vN (1 + 3 * ([] : List A3).length))])) (H1 := [rB [vN X, vN Y, vN Z, .slice none 0 0] 24, some ⟨[], 25, false, true⟩, some ⟨a3s R, 25, false, true⟩, rB [vN X, vN Y, vN Z, vS 2 R.length] 29, some ⟨a3s (mk3 1 ([] : List A3).length), 25, false, true⟩, rB [vN X, vN Y, vN Z, vS 4 0] 29, some ⟨a3s R, 25, false, true⟩, rB [vN X, vN Y, vN Z, vS 6 R.length] 29, some ⟨[], 25, false, true⟩]) (by kernel_rfl) ?_
  refine kSeq ?_
  refine cSeq ?_
  refine cSeq ?_
  refine cReg ?_
  refine segH 3 (T1 := (mkT 101 [(1, vI 1), (2, vP 0 0), (6, vP 3 0), (7, .bool true), (9, vP 7 0), (10, .bool true), (11, vN (1 + 3 * ([] : List A3).length)), (53, vN (1 + 3 * ([] : List A3).length)), (54, .bool (decide (((1 + 3 * ([] : List A3).length : Nat) : Int) < 0))), (55, .bool (decide (((1 + 3 * ([] : List A3).length : Nat) : Int) < 0)))])) (by kernel_rfl) ?_
  cases h1 : (decide (((1 + 3 * ([] : List A3).length : Nat) : Int) < 0) : Bool)
  ·
    (try simp only [Bool.not_eq_true', Bool.not_eq_false', decide_eq_true_eq, decide_eq_false_iff_not, beq_iff_eq, bne_iff_ne, beq_eq_false_iff_ne, bne_eq_false_iff_eq, ne_eq, Decidable.not_not, Bool.and_eq_true, Bool.and_eq_false_imp, Bool.or_eq_true, Bool.or_eq_false_iff, Bool.not_eq_true, Int.not_lt, Int.not_le, ge_iff_le, gt_iff_lt] at h1)
    refine seg 2 (T1 := (mkT 101 [(1, vI 1), (2, vP 0 0), (6, vP 3 0), (7, .bool true), (9, vP 7 0), (10, .bool true), (11, vN (1 + 3 * ([] : List A3).length)), (53, vN (1 + 3 * ([] : List A3).length)), (54, .bool false), (55, .bool false), (56, .agg #[vN X, vN Y, vN Z, vS 6 R.length]), (57, .agg #[vN X, vN Y, vN Z, vS 2 R.length])])) (H1 := [rB [vN X, vN Y, vN Z, .slice none 0 0] 24, some ⟨[], 25, false, true⟩, some ⟨a3s R, 25, false, true⟩, rB [vN X, vN Y, vN Z, vS 2 R.length] 29, some ⟨a3s (mk3 1 ([] : List A3).length), 25, false, true⟩, rB [vN X, vN Y, vN Z, vS 4 0] 29, some ⟨a3s R, 25, false, true⟩, rB [vN X, vN Y, vN Z, vS 6 R.length] 29, some ⟨[], 25, false, true⟩]) (by kernel_rfl) ?_
    refine rCall (v := .bool true) (args := [.agg #[vN X, vN Y, vN Z, vS 6 R.length], .agg #[vN X, vN Y, vN Z, vS 2 R.length]]) (by kernel_rfl) rfl (by kernel_rfl) (Sound.lay0 [6, 2] (eqHeapB ((X : Nat) : Int) ((Y : Nat) : Int) ((Z : Nat) : Int) R (by first | omega | assumption | (simp; done))) ⟨rdF true (flatA3 _ _ _ _) rfl rfl, ⟨rdF true (flatA3 _ _ _ _) rfl rfl, trivial⟩⟩ rfl ⟨clF (flatA3 _ _ _ _), ⟨clF (flatA3 _ _ _ _), trivial⟩⟩ rfl (by first | rfl | simp [mpV, mpA, mpS, mpP, renId, shift]) rfl) ?_
    refine segEnd [1, 2, 6, 7, 9, 65] (T1 := (mkT 101 [(1, vI 1), (2, vP 0 0), (6, vP 3 0), (7, .bool true), (9, vP 7 0), (65, .bool false)])) (H1 := [rB [vN X, vN Y, vN Z, .slice none 0 0] 24, some ⟨[], 25, false, true⟩, some ⟨a3s R, 25, false, true⟩, rB [vN X, vN Y, vN Z, vS 2 R.length] 29, some ⟨a3s (mk3 1 ([] : List A3).length), 25, false, true⟩, rB [vN X, vN Y, vN Z, vS 4 0] 29, some ⟨a3s R, 25, false, true⟩, rB [vN X, vN Y, vN Z, vS 6 R.length] 29, some ⟨[], 25, false, true⟩]) (by kernel_rfl) ?_
    refine kSeq ?_
    refine cFalse (by kernel_rfl) ?_
    refine cSkip ?_
    refine kSeq ?_
    refine cSeq ?_
    refine cReg ?_
    refine segEndH [1, 2, 6, 7, 9, 12] (T1 := (mkT 101 [(1, vI 1), (2, vP 0 0), (6, vP 3 0), (7, .bool true), (9, vP 7 0), (12, vI 1)])) (by kernel_rfl) ?_
    refine kSeq ?_
    refine cSeq ?_
    refine cReg ?_
    refine segH 2 (T1 := (mkT 101 [(1, vI 1), (2, vP 0 0), (6, vP 3 0), (7, .bool true), (9, vP 7 0), (12, vI 1), (66, .agg #[vN X, vN Y, vN Z, vS 6 R.length]), (67, vI 1)])) (by kernel_rfl) ?_
    refine rCall (v := vN (1 + 3 * R.length)) (args := [.agg #[vN X, vN Y, vN Z, vS 6 R.length], vI 1]) (by kernel_rfl) rfl (by kernel_rfl) (Sound.emb_set (r := ⟨a3s R, 25, false, true⟩) (r' := ⟨a3s (mk3 1 R.length), 25, false, true⟩) 6 (markHeapB ((X : Nat) : Int) ((Y : Nat) : Int) ((Z : Nat) : Int) R 1 (by first | omega | assumption | (simp; done)) (by first | assumption | omega | rfl | decide | exact HeapL.list _ _ _ _ | exact HeapL.nil _ _ _ | exact HeapL.all _ _ _ | (apply HeapL.lt64 <;> assumption) | (repeat' (first | assumption | apply or_lt64 | apply and_lt64 | apply andn_lt64 | apply pow_lt64 | (apply HeapL.lt64 <;> assumption))))) (flatA3 _ _ _ _) rfl (flatA3 _ _ _ _) rfl rfl rfl (by first | rfl | simp [mpV, mpA, mpS, mpP, renId, shift]) rfl) ?_
    refine segEnd [1, 2, 6, 7, 9, 12] (T1 := (mkT 101 [(1, vI 1), (2, vP 0 0), (6, vP 3 0), (7, .bool true), (9, vP 7 0), (12, vN (1 + 3 * R.length))])) (H1 := [rB [vN X, vN Y, vN Z, .slice none 0 0] 24, some ⟨[], 25, false, true⟩, some ⟨a3s R, 25, false, true⟩, rB [vN X, vN Y, vN Z, vS 2 R.length] 29, some ⟨a3s (mk3 1 ([] : List A3).length), 25, false, true⟩, rB [vN X, vN Y, vN Z, vS 4 0] 29, some ⟨a3s (mk3 1 R.length), 25, false, true⟩, rB [vN X, vN Y, vN Z, vS 6 R.length] 29, some ⟨[], 25, false, true⟩]) (by kernel_rfl) ?_
    refine kSeq ?_
    refine cSeq ?_
    refine cReg ?_
    refine segEndH [1, 2, 6, 7, 9, 12, 13] (T1 := (mkT 101 [(1, vI 1), (2, vP 0 0), (6, vP 3 0), (7, .bool true), (9, vP 7 0), (12, vN (1 + 3 * R.length)), (13, vI 1)])) (by kernel_rfl) ?_
    refine kSeq ?_
    refine cSeq ?_
    refine cReg ?_
    refine segH 2 (T1 := (mkT 101 [(1, vI 1), (2, vP 0 0), (6, vP 3 0), (7, .bool true), (9, vP 7 0), (12, vN (1 + 3 * R.length)), (13, vI 1), (69, .agg #[vN X, vN Y, vN Z, vS 6 R.length]), (70, vI 1)])) (by kernel_rfl) ?_
    refine rCall (v := vN (1 + 3 * R.length)) (args := [.agg #[vN X, vN Y, vN Z, vS 6 R.length], vI 1]) (by kernel_rfl) rfl (by kernel_rfl) (Sound.lay0 [6] (heldHeapB ((X : Nat) : Int) ((Y : Nat) : Int) ((Z : Nat) : Int) 1 R.length (by first | omega | assumption | (simp; done)) (by first | assumption | omega | rfl | decide | exact HeapL.list _ _ _ _ | exact HeapL.nil _ _ _ | exact HeapL.all _ _ _ | (apply HeapL.lt64 <;> assumption) | (repeat' (first | assumption | apply or_lt64 | apply and_lt64 | apply andn_lt64 | apply pow_lt64 | (apply HeapL.lt64 <;> assumption))))) ⟨rdF true (flatA3 _ _ _ _) rfl rfl, trivial⟩ rfl ⟨clF (flatA3 _ _ _ _), trivial⟩ rfl (by first | rfl | simp [mpV, mpA, mpS, mpP, renId, shift]) rfl) ?_
    refine segEndH [1, 2, 6, 7, 9, 12, 13] (T1 := (mkT 101 [(1, vI 1), (2, vP 0 0), (6, vP 3 0), (7, .bool true), (9, vP 7 0), (12, vN (1 + 3 * R.length)), (13, vN (1 + 3 * R.length))])) (by kernel_rfl) ?_
    refine kSeq ?_
    refine cSeq ?_
    refine cSeq ?_
    refine cReg ?_
    refine segEndH [1, 2, 6, 7, 9, 12, 13, 73] (T1 := (mkT 101 [(1, vI 1), (2, vP 0 0), (6, vP 3 0), (7, .bool true), (9, vP 7 0), (12, vN (1 + 3 * R.length)), (13, vN (1 + 3 * R.length)), (73, .bool (decide (((1 + 3 * R.length : Nat) : Int) < 0)))])) (by kernel_rfl) ?_
    refine kSeq ?_
    cases h2 : (decide (((1 + 3 * R.length : Nat) : Int) < 0) : Bool)
    ·
      (try simp only [Bool.not_eq_true', Bool.not_eq_false', decide_eq_true_eq, decide_eq_false_iff_not, beq_iff_eq, bne_iff_ne, beq_eq_false_iff_ne, bne_eq_false_iff_eq, ne_eq, Decidable.not_not, Bool.and_eq_true, Bool.and_eq_false_imp, Bool.or_eq_true, Bool.or_eq_false_iff, Bool.not_eq_true, Int.not_lt, Int.not_le, ge_iff_le, gt_iff_lt] at h2)
      refine cFalse (by kernel_rfl) ?_
      refine cSkip ?_
      refine kSeq ?_
      refine cSeq ?_
      refine cSeq ?_
      refine cReg ?_
      refine segH 2 (T1 := (mkT 101 [(1, vI 1), (2, vP 0 0), (6, vP 3 0), (7, .bool true), (9, vP 7 0), (12, vN (1 + 3 * R.length)), (13, vN (1 + 3 * R.length)), (73, .bool false), (74, vN (1 + 3 * R.length)), (75, vN (1 + 3 * R.length))])) (by kernel_rfl) ?_
      refine rOp (v := .bool false) (by kernel_rfl) (eNeS (k := .i64) (a := ((1 + 3 * R.length : Nat) : Int)) (by kernel_rfl) (by kernel_rfl)) ?_
      refine segEndH [1, 2, 6, 7, 9, 12, 76] (T1 := (mkT 101 [(1, vI 1), (2, vP 0 0), (6, vP 3 0), (7, .bool true), (9, vP 7 0), (12, vN (1 + 3 * R.length)), (76, .bool false)])) (by kernel_rfl) ?_
      refine kSeq ?_
      refine cFalse (by kernel_rfl) ?_
      refine cSkip ?_
      refine kSeq ?_
      refine cSeq ?_
      refine cReg ?_
      refine segH 1 (T1 := (mkT 101 [(1, vI 1), (2, vP 0 0), (6, vP 3 0), (7, .bool true), (9, vP 7 0), (12, vN (1 + 3 * R.length)), (76, .bool false), (78, .agg #[vN X, vN Y, vN Z, .slice none 0 0])])) (by kernel_rfl) ?_
      refine rCall (v := .agg #[vN X, vN Y, vN Z, vS 9 0]) (args := [.agg #[vN X, vN Y, vN Z, .slice none 0 0]]) (by kernel_rfl) rfl (by kernel_rfl) (Sound.lay (E := [some ⟨[], 25, false, true⟩]) [] (toHeapN ((X : Nat) : Int) ((Y : Nat) : Int) ((Z : Nat) : Int)) trivial rfl trivial rfl (by first | rfl | simp [mpV, mpA, mpS, mpP, renId, shift]) (by first | rfl | simp [mpV, mpA, mpS, mpP, renId, shift]) ⟨enX rfl (Or.inl rfl), trivial⟩) ?_
      refine seg 1 (T1 := (mkT 101 [(1, vI 1), (2, vP 0 0), (6, vP 3 0), (7, .bool true), (9, vP 7 0), (12, vN (1 + 3 * R.length)), (76, .bool false), (78, .agg #[vN X, vN Y, vN Z, .slice none 0 0]), (79, .agg #[vN X, vN Y, vN Z, vS 9 0]), (80, vI 1)])) (H1 := [rB [vN X, vN Y, vN Z, .slice none 0 0] 24, some ⟨[], 25, false, true⟩, some ⟨a3s R, 25, false, true⟩, rB [vN X, vN Y, vN Z, vS 2 R.length] 29, some ⟨a3s (mk3 1 ([] : List A3).length), 25, false, true⟩, rB [vN X, vN Y, vN Z, vS 4 0] 29, some ⟨a3s (mk3 1 R.length), 25, false, true⟩, rB [vN X, vN Y, vN Z, vS 6 R.length] 29, some ⟨[], 25, false, true⟩, some ⟨[], 25, false, true⟩]) (by kernel_rfl) ?_
      refine rCall (v := .tuple #[.agg #[vN X, vN Y, vN Z, vS 10 R.length], .bool true]) (args := [.agg #[vN X, vN Y, vN Z, vS 9 0], vI 1]) (by kernel_rfl) rfl (by kernel_rfl) (Sound.lay (E := [some ⟨a3s R, 25, false, true⟩]) [9] (implMirrorHeap_1R X Y Z ([] : List A3) R (by first | assumption | omega | rfl | decide | exact HeapL.list _ _ _ _ | exact HeapL.nil _ _ _ | exact HeapL.all _ _ _ | (apply HeapL.lt64 <;> assumption) | (repeat' (first | assumption | apply or_lt64 | apply and_lt64 | apply andn_lt64 | apply pow_lt64 | (apply HeapL.lt64 <;> assumption)))) (by first | assumption | omega | rfl | decide | exact HeapL.list _ _ _ _ | exact HeapL.nil _ _ _ | exact HeapL.all _ _ _ | (apply HeapL.lt64 <;> assumption) | (repeat' (first | assumption | apply or_lt64 | apply and_lt64 | apply andn_lt64 | apply pow_lt64 | (apply HeapL.lt64 <;> assumption)))) (by first | assumption | omega | rfl | decide | exact HeapL.list _ _ _ _ | exact HeapL.nil _ _ _ | exact HeapL.all _ _ _ | (apply HeapL.lt64 <;> assumption) | (repeat' (first | assumption | apply or_lt64 | apply and_lt64 | apply andn_lt64 | apply pow_lt64 | (apply HeapL.lt64 <;> assumption))))) ⟨rdF true (flatA3 _ _ _ _) rfl rfl, trivial⟩ rfl ⟨clF (flatA3 _ _ _ _), trivial⟩ rfl (by first | rfl | simp [mpV, mpA, mpS, mpP, renId, shift]) (by first | rfl | simp [mpV, mpA, mpS, mpP, renId, shift]) ⟨enF (flatA3 _ _ _ _) (Or.inl rfl), trivial⟩) ?_
      refine segEnd [6, 7, 9, 12, 14, 15] (T1 := (mkT 101 [(6, vP 3 0), (7, .bool true), (9, vP 7 0), (12, vN (1 + 3 * R.length)), (14, vP 11 0), (15, .bool true)])) (H1 := [rB [vN X, vN Y, vN Z, .slice none 0 0] 24, some ⟨[], 25, false, true⟩, some ⟨a3s R, 25, false, true⟩, rB [vN X, vN Y, vN Z, vS 2 R.length] 29, some ⟨a3s (mk3 1 ([] : List A3).length), 25, false, true⟩, rB [vN X, vN Y, vN Z, vS 4 0] 29, some ⟨a3s (mk3 1 R.length), 25, false, true⟩, rB [vN X, vN Y, vN Z, vS 6 R.length] 29, some ⟨[], 25, false, true⟩, some ⟨[], 25, false, true⟩, some ⟨a3s R, 25, false, true⟩, rB [vN X, vN Y, vN Z, vS 10 R.length] 29]) (by kernel_rfl) ?_
      refine kSeq ?_
      refine cSeq ?_
      refine cSeq ?_
      refine cReg ?_
      refine segH 2 (T1 := (mkT 101 [(6, vP 3 0), (7, .bool true), (9, vP 7 0), (12, vN (1 + 3 * R.length)), (14, vP 11 0), (15, .bool true), (84, .agg #[vN X, vN Y, vN Z, vS 10 R.length]), (85, .agg #[vN X, vN Y, vN Z, vS 2 R.length])])) (by kernel_rfl) ?_
      refine rCall (v := .bool true) (args := [.agg #[vN X, vN Y, vN Z, vS 10 R.length], .agg #[vN X, vN Y, vN Z, vS 2 R.length]]) (by kernel_rfl) rfl (by kernel_rfl) (Sound.lay0 [10, 2] (eqHeapB ((X : Nat) : Int) ((Y : Nat) : Int) ((Z : Nat) : Int) R (by first | omega | assumption | (simp; done))) ⟨rdF true (flatA3 _ _ _ _) rfl rfl, ⟨rdF true (flatA3 _ _ _ _) rfl rfl, trivial⟩⟩ rfl ⟨clF (flatA3 _ _ _ _), ⟨clF (flatA3 _ _ _ _), trivial⟩⟩ rfl (by first | rfl | simp [mpV, mpA, mpS, mpP, renId, shift]) rfl) ?_
      refine segEndH [9, 12, 92] (T1 := (mkT 101 [(9, vP 7 0), (12, vN (1 + 3 * R.length)), (92, .bool false)])) (by kernel_rfl) ?_
      refine kSeq ?_
      refine cFalse (by kernel_rfl) ?_
      refine cSkip ?_
      refine kSeq ?_
      refine cSeq ?_
      refine cReg ?_
      refine segEndH [9, 12, 13] (T1 := (mkT 101 [(9, vP 7 0), (12, vN (1 + 3 * R.length)), (13, vI 1)])) (by kernel_rfl) ?_
      refine kSeq ?_
      refine cSeq ?_
      refine cReg ?_
      refine segH 2 (T1 := (mkT 101 [(9, vP 7 0), (12, vN (1 + 3 * R.length)), (13, vI 1), (93, .agg #[vN X, vN Y, vN Z, vS 6 R.length]), (94, vI 1)])) (by kernel_rfl) ?_
      refine rCall (v := vN (1 + 3 * R.length)) (args := [.agg #[vN X, vN Y, vN Z, vS 6 R.length], vI 1]) (by kernel_rfl) rfl (by kernel_rfl) (Sound.lay0 [6] (heldHeapB ((X : Nat) : Int) ((Y : Nat) : Int) ((Z : Nat) : Int) 1 R.length (by first | omega | assumption | (simp; done)) (by first | assumption | omega | rfl | decide | exact HeapL.list _ _ _ _ | exact HeapL.nil _ _ _ | exact HeapL.all _ _ _ | (apply HeapL.lt64 <;> assumption) | (repeat' (first | assumption | apply or_lt64 | apply and_lt64 | apply andn_lt64 | apply pow_lt64 | (apply HeapL.lt64 <;> assumption))))) ⟨rdF true (flatA3 _ _ _ _) rfl rfl, trivial⟩ rfl ⟨clF (flatA3 _ _ _ _), trivial⟩ rfl (by first | rfl | simp [mpV, mpA, mpS, mpP, renId, shift]) rfl) ?_
      refine segEndH [12, 13] (T1 := (mkT 101 [(12, vN (1 + 3 * R.length)), (13, vN (1 + 3 * R.length))])) (by kernel_rfl) ?_
      refine kSeq ?_
      refine cSeq ?_
      refine cSeq ?_
      refine cReg ?_
      refine segEndH [12, 13, 97] (T1 := (mkT 101 [(12, vN (1 + 3 * R.length)), (13, vN (1 + 3 * R.length)), (97, .bool (decide (((1 + 3 * R.length : Nat) : Int) < 0)))])) (by kernel_rfl) ?_
      refine kSeq ?_
      cases h3 : (decide (((1 + 3 * R.length : Nat) : Int) < 0) : Bool)
      ·
        (try simp only [Bool.not_eq_true', Bool.not_eq_false', decide_eq_true_eq, decide_eq_false_iff_not, beq_iff_eq, bne_iff_ne, beq_eq_false_iff_ne, bne_eq_false_iff_eq, ne_eq, Decidable.not_not, Bool.and_eq_true, Bool.and_eq_false_imp, Bool.or_eq_true, Bool.or_eq_false_iff, Bool.not_eq_true, Int.not_lt, Int.not_le, ge_iff_le, gt_iff_lt] at h3)
        refine cFalse (by kernel_rfl) ?_
        refine cSkip ?_
        refine kSeq ?_
        refine cSeq ?_
        refine cSeq ?_
        refine cReg ?_
        refine segH 2 (T1 := (mkT 101 [(12, vN (1 + 3 * R.length)), (13, vN (1 + 3 * R.length)), (97, .bool false), (98, vN (1 + 3 * R.length)), (99, vN (1 + 3 * R.length))])) (by kernel_rfl) ?_
        refine rOp (v := .bool false) (by kernel_rfl) (eNeS (k := .i64) (a := ((1 + 3 * R.length : Nat) : Int)) (by kernel_rfl) (by kernel_rfl)) ?_
        refine segEndH [100] (T1 := (mkT 101 [(100, .bool false)])) (by kernel_rfl) ?_
        refine kSeq ?_
        refine cFalse (by kernel_rfl) ?_
        refine cSkip ?_
        refine kSeq ?_
        refine cSeq ?_
        refine cReg ?_
        refine segEndH [4] (T1 := (mkT 101 [(4, .bool true)])) (by kernel_rfl) ?_
        refine kSeq ?_
        refine cRet ?_
        -- end
        exact endQ (Or.inr rfl) (l := [.bool true]) [rB [vN X, vN Y, vN Z, .slice none 0 0] 24, some ⟨[], 25, false, true⟩, some ⟨a3s R, 25, false, true⟩, rB [vN X, vN Y, vN Z, vS 2 R.length] 29, some ⟨a3s (mk3 1 ([] : List A3).length), 25, false, true⟩, rB [vN X, vN Y, vN Z, vS 4 0] 29, some ⟨a3s (mk3 1 R.length), 25, false, true⟩, rB [vN X, vN Y, vN Z, vS 6 R.length] 29, some ⟨[], 25, false, true⟩, some ⟨[], 25, false, true⟩, some ⟨a3s R, 25, false, true⟩, rB [vN X, vN Y, vN Z, vS 10 R.length] 29] (by kernel_rfl) (by first | rfl | kernel_rfl) rfl rfl hcl rfl
      ·
        (try simp only [Bool.not_eq_true', Bool.not_eq_false', decide_eq_true_eq, decide_eq_false_iff_not, beq_iff_eq, bne_iff_ne, beq_eq_false_iff_ne, bne_eq_false_iff_eq, ne_eq, Decidable.not_not, Bool.and_eq_true, Bool.and_eq_false_imp, Bool.or_eq_true, Bool.or_eq_false_iff, Bool.not_eq_true, Int.not_lt, Int.not_le, ge_iff_le, gt_iff_lt] at h3)
        exfalso; omega
    ·
      (try simp only [Bool.not_eq_true', Bool.not_eq_false', decide_eq_true_eq, decide_eq_false_iff_not, beq_iff_eq, bne_iff_ne, beq_eq_false_iff_ne, bne_eq_false_iff_eq, ne_eq, Decidable.not_not, Bool.and_eq_true, Bool.and_eq_false_imp, Bool.or_eq_true, Bool.or_eq_false_iff, Bool.not_eq_true, Int.not_lt, Int.not_le, ge_iff_le, gt_iff_lt] at h2)
      exfalso; omega
  ·
    (try simp only [Bool.not_eq_true', Bool.not_eq_false', decide_eq_true_eq, decide_eq_false_iff_not, beq_iff_eq, bne_iff_ne, beq_eq_false_iff_ne, bne_eq_false_iff_eq, ne_eq, Decidable.not_not, Bool.and_eq_true, Bool.and_eq_false_imp, Bool.or_eq_true, Bool.or_eq_false_iff, Bool.not_eq_true, Int.not_lt, Int.not_le, ge_iff_le, gt_iff_lt] at h1)
    exfalso; omega

set_option maxRecDepth 100000 in
set_option maxHeartbeats 4000000 in
theorem lawMirrorHeap_d2_s (X : Nat) (Y : Nat) (Z : Nat) (L : List A3) (R : List A3) (hs : Sides X Y Z) (hL : HeapL X Y Z L) (hR : R = listOf X Y Z (setOf Y Z (L.map (mir X Y Z 2)))) : Sound Try.prog 13 [.agg #[vN X, vN Y, vN Z, vS 0 L.length], vI 2] [some ⟨a3s L, 25, false, false⟩] (.bool true) [some ⟨a3s L, 25, false, false⟩] := by
  refine sound_intro (C := cx) Try.func13 rfl (by kernel_rfl) fun hcl => ?_
  have hz := hs.size
  have hx0 := hs.x0
  have hx4 := hs.x4
  have hy0 := hs.y0
  have hy4 := hs.y4
  have hz0 := hs.z0
  have hz4 := hs.z4
  have hlen : L.length ≤ 64 := by first | (have := hL.len; have := hs.size; omega) | simp
  have hr : R.length ≤ 64 := by (rw [hR]; have := (HeapL.list X Y Z (setOf Y Z (L.map (mir X Y Z 2)))).len; omega)
  refine cSeq ?_
  refine cReg ?_
  refine segEnd [1, 2] (T1 := (mkT 101 [(1, vI 2), (2, vP 1 0)])) (H1 := [some ⟨a3s L, 25, false, false⟩, rB [vN X, vN Y, vN Z, vS 0 L.length] 24]) (by kernel_rfl) ?_
  refine kSeq ?_
  refine cSeq ?_
  refine cReg ?_
  refine segEndH [1, 2, 5] (T1 := (mkT 101 [(1, vI 2), (2, vP 1 0), (5, vI 1048576)])) (by kernel_rfl) ?_
  refine kSeq ?_
  refine cSeq ?_
  refine cReg ?_
  refine segH 2 (T1 := (mkT 101 [(1, vI 2), (2, vP 1 0), (5, vI 1048576), (16, .agg #[vN X, vN Y, vN Z, vS 0 L.length]), (17, vI 1048576)])) (by kernel_rfl) ?_
  refine rCall (v := vN (1048576 - L.length)) (args := [.agg #[vN X, vN Y, vN Z, vS 0 L.length], vI 1048576]) (by kernel_rfl) rfl (by kernel_rfl) (Sound.lay0 [0] (szHeapS ((X : Nat) : Int) ((Y : Nat) : Int) ((Z : Nat) : Int) L 1048576 (by first | omega | assumption | (simp; done)) (by first | omega | assumption | decide)) ⟨rdF false (flatA3 _ _ _ _) rfl rfl, trivial⟩ rfl ⟨clF (flatA3 _ _ _ _), trivial⟩ rfl (by first | rfl | simp [mpV, mpA, mpS, mpP, renId, shift]) rfl) ?_
  refine segEndH [1, 2, 5] (T1 := (mkT 101 [(1, vI 2), (2, vP 1 0), (5, vN (1048576 - L.length))])) (by kernel_rfl) ?_
  refine kSeq ?_
  refine cSeq ?_
  refine cSeq ?_
  refine cReg ?_
  refine segEndH [1, 2, 20] (T1 := (mkT 101 [(1, vI 2), (2, vP 1 0), (20, .bool (decide (((1048576 - L.length : Nat) : Int) < 0)))])) (by kernel_rfl) ?_
  refine kSeq ?_
  cases h1 : (decide (((1048576 - L.length : Nat) : Int) < 0) : Bool)
  ·
    (try simp only [Bool.not_eq_true', Bool.not_eq_false', decide_eq_true_eq, decide_eq_false_iff_not, beq_iff_eq, bne_iff_ne, beq_eq_false_iff_ne, bne_eq_false_iff_eq, ne_eq, Decidable.not_not, Bool.and_eq_true, Bool.and_eq_false_imp, Bool.or_eq_true, Bool.or_eq_false_iff, Bool.not_eq_true, Int.not_lt, Int.not_le, ge_iff_le, gt_iff_lt] at h1)
    refine cFalse (by kernel_rfl) ?_
    refine cSkip ?_
    refine kSeq ?_
    refine cSeq ?_
    refine cReg ?_
    refine segH 1 (T1 := (mkT 101 [(1, vI 2), (2, vP 1 0), (20, .bool false), (22, .agg #[vN X, vN Y, vN Z, vS 0 L.length])])) (by kernel_rfl) ?_
    refine rCall (v := .agg #[vN X, vN Y, vN Z, vS 2 L.length]) (args := [.agg #[vN X, vN Y, vN Z, vS 0 L.length]]) (by kernel_rfl) rfl (by kernel_rfl) (Sound.lay (E := [some ⟨a3s L, 25, false, true⟩]) [0] (toHeapB ((X : Nat) : Int) ((Y : Nat) : Int) ((Z : Nat) : Int) L (by first | omega | assumption | (simp; done))) ⟨rdF false (flatA3 _ _ _ _) rfl rfl, trivial⟩ rfl ⟨clF (flatA3 _ _ _ _), trivial⟩ rfl (by first | rfl | simp [mpV, mpA, mpS, mpP, renId, shift]) (by first | rfl | simp [mpV, mpA, mpS, mpP, renId, shift]) ⟨enF (flatA3 _ _ _ _) (Or.inl rfl), trivial⟩) ?_
    refine seg 1 (T1 := (mkT 101 [(1, vI 2), (2, vP 1 0), (20, .bool false), (22, .agg #[vN X, vN Y, vN Z, vS 0 L.length]), (23, .agg #[vN X, vN Y, vN Z, vS 2 L.length]), (24, vI 2)])) (H1 := [some ⟨a3s L, 25, false, false⟩, rB [vN X, vN Y, vN Z, vS 0 L.length] 24, some ⟨a3s L, 25, false, true⟩]) (by kernel_rfl) ?_
    refine rCall (v := .tuple #[.agg #[vN X, vN Y, vN Z, vS 3 R.length], .bool true]) (args := [.agg #[vN X, vN Y, vN Z, vS 2 L.length], vI 2]) (by kernel_rfl) rfl (by kernel_rfl) (Sound.lay (E := [some ⟨a3s R, 25, false, true⟩]) [2] (specMirrorHeap_2R X Y Z L R (by first | assumption | omega | rfl | decide | exact HeapL.list _ _ _ _ | exact HeapL.nil _ _ _ | exact HeapL.all _ _ _ | (apply HeapL.lt64 <;> assumption) | (repeat' (first | assumption | apply or_lt64 | apply and_lt64 | apply andn_lt64 | apply pow_lt64 | (apply HeapL.lt64 <;> assumption)))) (by first | assumption | omega | rfl | decide | exact HeapL.list _ _ _ _ | exact HeapL.nil _ _ _ | exact HeapL.all _ _ _ | (apply HeapL.lt64 <;> assumption) | (repeat' (first | assumption | apply or_lt64 | apply and_lt64 | apply andn_lt64 | apply pow_lt64 | (apply HeapL.lt64 <;> assumption)))) (by first | assumption | omega | rfl | decide | exact HeapL.list _ _ _ _ | exact HeapL.nil _ _ _ | exact HeapL.all _ _ _ | (apply HeapL.lt64 <;> assumption) | (repeat' (first | assumption | apply or_lt64 | apply and_lt64 | apply andn_lt64 | apply pow_lt64 | (apply HeapL.lt64 <;> assumption))))) ⟨rdF true (flatA3 _ _ _ _) rfl rfl, trivial⟩ rfl ⟨clF (flatA3 _ _ _ _), trivial⟩ rfl (by first | rfl | simp [mpV, mpA, mpS, mpP, renId, shift]) (by first | rfl | simp [mpV, mpA, mpS, mpP, renId, shift]) ⟨enF (flatA3 _ _ _ _) (Or.inl rfl), trivial⟩) ?_
    refine segEnd [1, 2, 6, 7] (T1 := (mkT 101 [(1, vI 2), (2, vP 1 0), (6, vP 4 0), (7, .bool true)])) (H1 := [some ⟨a3s L, 25, false, false⟩, rB [vN X, vN Y, vN Z, vS 0 L.length] 24, some ⟨a3s L, 25, false, true⟩, some ⟨a3s R, 25, false, true⟩, rB [vN X, vN Y, vN Z, vS 3 R.length] 29]) (by kernel_rfl) ?_
    refine kSeq ?_
    refine cSeq ?_
    refine cReg ?_
    refine segH 1 (T1 := (mkT 101 [(1, vI 2), (2, vP 1 0), (6, vP 4 0), (7, .bool true), (28, .agg #[vN X, vN Y, vN Z, vS 0 L.length])])) (by kernel_rfl) ?_
    refine rCall (v := .agg #[vN X, vN Y, vN Z, vS 5 L.length]) (args := [.agg #[vN X, vN Y, vN Z, vS 0 L.length]]) (by kernel_rfl) rfl (by kernel_rfl) (Sound.lay (E := [some ⟨a3s L, 25, false, true⟩]) [0] (toHeapB ((X : Nat) : Int) ((Y : Nat) : Int) ((Z : Nat) : Int) L (by first | omega | assumption | (simp; done))) ⟨rdF false (flatA3 _ _ _ _) rfl rfl, trivial⟩ rfl ⟨clF (flatA3 _ _ _ _), trivial⟩ rfl (by first | rfl | simp [mpV, mpA, mpS, mpP, renId, shift]) (by first | rfl | simp [mpV, mpA, mpS, mpP, renId, shift]) ⟨enF (flatA3 _ _ _ _) (Or.inl rfl), trivial⟩) ?_
    refine segEnd [1, 2, 6, 7, 8] (T1 := (mkT 101 [(1, vI 2), (2, vP 1 0), (6, vP 4 0), (7, .bool true), (8, vP 6 0)])) (H1 := [some ⟨a3s L, 25, false, false⟩, rB [vN X, vN Y, vN Z, vS 0 L.length] 24, some ⟨a3s L, 25, false, true⟩, some ⟨a3s R, 25, false, true⟩, rB [vN X, vN Y, vN Z, vS 3 R.length] 29, some ⟨a3s L, 25, false, true⟩, rB [vN X, vN Y, vN Z, vS 5 L.length] 29]) (by kernel_rfl) ?_
    refine kSeq ?_
    refine cSeq ?_
    refine cReg ?_
    refine segH 2 (T1 := (mkT 101 [(1, vI 2), (2, vP 1 0), (6, vP 4 0), (7, .bool true), (8, vP 6 0), (31, .agg #[vN X, vN Y, vN Z, vS 5 L.length]), (32, vI 2)])) (by kernel_rfl) ?_
    refine rCall (v := .tuple #[.agg #[vN X, vN Y, vN Z, vS 7 R.length], .bool true]) (args := [.agg #[vN X, vN Y, vN Z, vS 5 L.length], vI 2]) (by kernel_rfl) rfl (by kernel_rfl) (Sound.lay (E := [some ⟨a3s R, 25, false, true⟩]) [5] (implMirrorHeap_2R X Y Z L R (by first | assumption | omega | rfl | decide | exact HeapL.list _ _ _ _ | exact HeapL.nil _ _ _ | exact HeapL.all _ _ _ | (apply HeapL.lt64 <;> assumption) | (repeat' (first | assumption | apply or_lt64 | apply and_lt64 | apply andn_lt64 | apply pow_lt64 | (apply HeapL.lt64 <;> assumption)))) (by first | assumption | omega | rfl | decide | exact HeapL.list _ _ _ _ | exact HeapL.nil _ _ _ | exact HeapL.all _ _ _ | (apply HeapL.lt64 <;> assumption) | (repeat' (first | assumption | apply or_lt64 | apply and_lt64 | apply andn_lt64 | apply pow_lt64 | (apply HeapL.lt64 <;> assumption)))) (by first | assumption | omega | rfl | decide | exact HeapL.list _ _ _ _ | exact HeapL.nil _ _ _ | exact HeapL.all _ _ _ | (apply HeapL.lt64 <;> assumption) | (repeat' (first | assumption | apply or_lt64 | apply and_lt64 | apply andn_lt64 | apply pow_lt64 | (apply HeapL.lt64 <;> assumption))))) ⟨rdF true (flatA3 _ _ _ _) rfl rfl, trivial⟩ rfl ⟨clF (flatA3 _ _ _ _), trivial⟩ rfl (by first | rfl | simp [mpV, mpA, mpS, mpP, renId, shift]) (by first | rfl | simp [mpV, mpA, mpS, mpP, renId, shift]) ⟨enF (flatA3 _ _ _ _) (Or.inl rfl), trivial⟩) ?_
    refine segEnd [1, 2, 6, 7, 8, 9, 10] (T1 := (mkT 101 [(1, vI 2), (2, vP 1 0), (6, vP 4 0), (7, .bool true), (8, vP 6 0), (9, vP 8 0), (10, .bool true)])) (H1 := [some ⟨a3s L, 25, false, false⟩, rB [vN X, vN Y, vN Z, vS 0 L.length] 24, some ⟨a3s L, 25, false, true⟩, some ⟨a3s R, 25, false, true⟩, rB [vN X, vN Y, vN Z, vS 3 R.length] 29, some ⟨a3s L, 25, false, true⟩, rB [vN X, vN Y, vN Z, vS 5 L.length] 29, some ⟨a3s R, 25, false, true⟩, rB [vN X, vN Y, vN Z, vS 7 R.length] 29]) (by kernel_rfl) ?_
    refine kSeq ?_
    refine cSeq ?_
    refine cSeq ?_
    refine cReg ?_
    refine segH 2 (T1 := (mkT 101 [(1, vI 2), (2, vP 1 0), (6, vP 4 0), (7, .bool true), (8, vP 6 0), (9, vP 8 0), (10, .bool true), (36, .agg #[vN X, vN Y, vN Z, vS 7 R.length]), (37, .agg #[vN X, vN Y, vN Z, vS 3 R.length])])) (by kernel_rfl) ?_
    refine rCall (v := .bool true) (args := [.agg #[vN X, vN Y, vN Z, vS 7 R.length], .agg #[vN X, vN Y, vN Z, vS 3 R.length]]) (by kernel_rfl) rfl (by kernel_rfl) (Sound.lay0 [7, 3] (eqHeapB ((X : Nat) : Int) ((Y : Nat) : Int) ((Z : Nat) : Int) R (by first | omega | assumption | (simp; done))) ⟨rdF true (flatA3 _ _ _ _) rfl rfl, ⟨rdF true (flatA3 _ _ _ _) rfl rfl, trivial⟩⟩ rfl ⟨clF (flatA3 _ _ _ _), ⟨clF (flatA3 _ _ _ _), trivial⟩⟩ rfl (by first | rfl | simp [mpV, mpA, mpS, mpP, renId, shift]) rfl) ?_
    refine segEndH [1, 2, 6, 7, 8, 9, 10, 44] (T1 := (mkT 101 [(1, vI 2), (2, vP 1 0), (6, vP 4 0), (7, .bool true), (8, vP 6 0), (9, vP 8 0), (10, .bool true), (44, .bool false)])) (by kernel_rfl) ?_
    refine kSeq ?_
    refine cFalse (by kernel_rfl) ?_
    refine cSkip ?_
    refine kSeq ?_
    refine cSeq ?_
    refine cSeq ?_
    refine cRegW (N := 10) [⟨[], [], [6]⟩, ⟨[], [], [1]⟩, ⟨[9], [], [0]⟩, ⟨[], [], [5, 9]⟩, ⟨[], [], []⟩] 1 [9] (by rfl) (by rfl) (by kernel_rfl) (by kernel_rfl) (by kernel_rfl) ⟨nmsF (flatA3 _ _ _ _), ⟨nmsX (by kernel_rfl), ⟨nmsF (flatA3 _ _ _ _), ⟨nmsF (flatA3 _ _ _ _), ⟨nmsX (by kernel_rfl), ⟨nmsF (flatA3 _ _ _ _), ⟨nmsX (by kernel_rfl), ⟨nmsF (flatA3 _ _ _ _), ⟨nmsX (by kernel_rfl), trivial⟩⟩⟩⟩⟩⟩⟩⟩⟩ ?_
    refine segWH 2 (T1 := (mkT 101 [(1, vI 2), (2, vP 1 0), (6, vP 4 0), (7, .bool true), (8, vP 6 0), (9, vP 8 0), (10, .bool true), (44, .bool false), (45, .agg #[vN X, vN Y, vN Z, vS 5 L.length]), (46, .agg #[vN X, vN Y, vN Z, vS 0 L.length])])) (by kernel_rfl) ?_
    refine rW (m := ⟨[9], [], [0]⟩) (v := .agg #[vN X, vN Y, vN Z, vS 9 L.length]) rfl (by kernel_rfl) (stN (i := 9) (E := [some ⟨a3s L, 25, false, true⟩]) (v1 := .agg #[vN X, vN Y, vN Z, vS 10 L.length]) (args := [.agg #[vN X, vN Y, vN Z, vS 0 L.length]]) rfl (by kernel_rfl) (Any.lay (E := [some ⟨a3s L, 25, false, true⟩]) (N := 10) [0] (toHeapB ((X : Nat) : Int) ((Y : Nat) : Int) ((Z : Nat) : Int) L (by first | omega | assumption | (simp; done))) ⟨rdF false (flatA3 _ _ _ _) rfl rfl, trivial⟩ rfl ⟨clF (flatA3 _ _ _ _), trivial⟩ rfl (by first | rfl | simp [mpV, mpA, mpS, mpP, renId, shift]) (by first | rfl | simp [mpV, mpA, mpS, mpP, renId, shift]) ⟨enF (flatA3 _ _ _ _) (Or.inl rfl), trivial⟩) rfl (by kernel_rfl) (by kernel_rfl) (by kernel_rfl) (by kernel_rfl) (FlatH.cons (flatA3 _ _ _ _) FlatH.nil)) (by kernel_rfl) (NRs.all ⟨nrOf (by rfl) (nmF (flatA3 _ _ _ _)), trivial⟩) ?_
    refine rW (m := ⟨[], [], [5, 9]⟩) (v := .bool true) rfl (by kernel_rfl) (stQ (args := [.agg #[vN X, vN Y, vN Z, vS 5 L.length], .agg #[vN X, vN Y, vN Z, vS 9 L.length]]) rfl (by kernel_rfl) (Any.lay0 [5, 9] (eqHeapB ((X : Nat) : Int) ((Y : Nat) : Int) ((Z : Nat) : Int) L (by first | omega | assumption | (simp; done))) ⟨rdF true (flatA3 _ _ _ _) rfl rfl, ⟨rdF true (flatA3 _ _ _ _) rfl rfl, trivial⟩⟩ rfl ⟨clF (flatA3 _ _ _ _), ⟨clF (flatA3 _ _ _ _), trivial⟩⟩ rfl (by first | rfl | simp [mpV, mpA, mpS, mpP, renId, shift]) rfl) rfl (by kernel_rfl) (by kernel_rfl)) (by kernel_rfl) nr0 ?_
    refine segEndW [1, 2, 6, 7, 8, 9, 10, 49] (T1 := (mkT 101 [(1, vI 2), (2, vP 1 0), (6, vP 4 0), (7, .bool true), (8, vP 6 0), (9, vP 8 0), (10, .bool true), (49, .bool false)])) (H1 := [some ⟨a3s L, 25, false, false⟩, rB [vN X, vN Y, vN Z, vS 0 L.length] 24, some ⟨a3s L, 25, false, true⟩, some ⟨a3s R, 25, false, true⟩, rB [vN X, vN Y, vN Z, vS 3 R.length] 29, some ⟨a3s L, 25, false, true⟩, rB [vN X, vN Y, vN Z, vS 5 L.length] 29, some ⟨a3s R, 25, false, true⟩, rB [vN X, vN Y, vN Z, vS 7 R.length] 29, some ⟨a3s L, 25, false, true⟩]) (by kernel_rfl) ?_
    refine kSeq ?_
    refine cFalse (by kernel_rfl) ?_
    refine cSkip ?_
    refine kSeq ?_
    refine cSeq ?_
    refine cReg ?_
    refine segEndH [1, 2, 6, 7, 8, 9, 10, 11] (T1 := (mkT 101 [(1, vI 2), (2, vP 1 0), (6, vP 4 0), (7, .bool true), (8, vP 6 0), (9, vP 8 0), (10, .bool true), (11, vI 1)])) (by kernel_rfl) ?_
    refine kSeq ?_
    refine cSeq ?_
    refine cReg ?_
    refine segH 2 (T1 := (mkT 101 [(1, vI 2), (2, vP 1 0), (6, vP 4 0), (7, .bool true), (8, vP 6 0), (9, vP 8 0), (10, .bool true), (11, vI 1), (50, .agg #[vN X, vN Y, vN Z, vS 5 L.length]), (51, vI 1)])) (by kernel_rfl) ?_
    refine rCall (v := vN (1 + 3 * L.length)) (args := [.agg #[vN X, vN Y, vN Z, vS 5 L.length], vI 1]) (by kernel_rfl) rfl (by kernel_rfl) (Sound.emb_set (r := ⟨a3s L, 25, false, true⟩) (r' := ⟨a3s (mk3 1 L.length), 25, false, true⟩) 5 (markHeapB ((X : Nat) : Int) ((Y : Nat) : Int) ((Z : Nat) : Int) L 1 (by first | omega | assumption | (simp; done)) (by first | assumption | omega | rfl | decide | exact HeapL.list _ _ _ _ | exact HeapL.nil _ _ _ | exact HeapL.all _ _ _ | (apply HeapL.lt64 <;> assumption) | (repeat' (first | assumption | apply or_lt64 | apply and_lt64 | apply andn_lt64 | apply pow_lt64 | (apply HeapL.lt64 <;> assumption))))) (flatA3 _ _ _ _) rfl (flatA3 _ _ _ _) rfl rfl rfl (by first | rfl | simp [mpV, mpA, mpS, mpP, renId, shift]) rfl) ?_
    refine segEnd [1, 2, 6, 7, 9, 10, 11] (T1 := (mkT 101 [(1, vI 2), (2, vP 1 0), (6, vP 4 0), (7, .bool true), (9, vP 8 0), (10, .bool true), (11, vN (1 + 3 * L.length))])) (H1 := [some ⟨a3s L, 25, false, false⟩, rB [vN X, vN Y, vN Z, vS 0 L.length] 24, some ⟨a3s L, 25, false, true⟩, some ⟨a3s R, 25, false, true⟩, rB [vN X, vN Y, vN Z, vS 3 R.length] 29, some ⟨a3s (mk3 1 L.length), 25, false, true⟩, rB [vN X, vN Y, vN Z, vS 5 L.length] 29, some ⟨a3s R, 25, false, true⟩, rB [vN X, vN Y, vN Z, vS 7 R.length] 29, some ⟨a3s L, 25, false, true⟩]) (by kernel_rfl) ?_
    refine kSeq ?_
    refine cSeq ?_
    refine cSeq ?_
    refine cReg ?_
    refine segH 3 (T1 := (mkT 101 [(1, vI 2), (2, vP 1 0), (6, vP 4 0), (7, .bool true), (9, vP 8 0), (10, .bool true), (11, vN (1 + 3 * L.length)), (53, vN (1 + 3 * L.length)), (54, .bool (decide (((1 + 3 * L.length : Nat) : Int) < 0))), (55, .bool (decide (((1 + 3 * L.length : Nat) : Int) < 0)))])) (by kernel_rfl) ?_
    cases h2 : (decide (((1 + 3 * L.length : Nat) : Int) < 0) : Bool)
    ·
      (try simp only [Bool.not_eq_true', Bool.not_eq_false', decide_eq_true_eq, decide_eq_false_iff_not, beq_iff_eq, bne_iff_ne, beq_eq_false_iff_ne, bne_eq_false_iff_eq, ne_eq, Decidable.not_not, Bool.and_eq_true, Bool.and_eq_false_imp, Bool.or_eq_true, Bool.or_eq_false_iff, Bool.not_eq_true, Int.not_lt, Int.not_le, ge_iff_le, gt_iff_lt] at h2)
      refine seg 2 (T1 := (mkT 101 [(1, vI 2), (2, vP 1 0), (6, vP 4 0), (7, .bool true), (9, vP 8 0), (10, .bool true), (11, vN (1 + 3 * L.length)), (53, vN (1 + 3 * L.length)), (54, .bool false), (55, .bool false), (56, .agg #[vN X, vN Y, vN Z, vS 7 R.length]), (57, .agg #[vN X, vN Y, vN Z, vS 3 R.length])])) (H1 := [some ⟨a3s L, 25, false, false⟩, rB [vN X, vN Y, vN Z, vS 0 L.length] 24, some ⟨a3s L, 25, false, true⟩, some ⟨a3s R, 25, false, true⟩, rB [vN X, vN Y, vN Z, vS 3 R.length] 29, some ⟨a3s (mk3 1 L.length), 25, false, true⟩, rB [vN X, vN Y, vN Z, vS 5 L.length] 29, some ⟨a3s R, 25, false, true⟩, rB [vN X, vN Y, vN Z, vS 7 R.length] 29, some ⟨a3s L, 25, false, true⟩]) (by kernel_rfl) ?_
      refine rCall (v := .bool true) (args := [.agg #[vN X, vN Y, vN Z, vS 7 R.length], .agg #[vN X, vN Y, vN Z, vS 3 R.length]]) (by kernel_rfl) rfl (by kernel_rfl) (Sound.lay0 [7, 3] (eqHeapB ((X : Nat) : Int) ((Y : Nat) : Int) ((Z : Nat) : Int) R (by first | omega | assumption | (simp; done))) ⟨rdF true (flatA3 _ _ _ _) rfl rfl, ⟨rdF true (flatA3 _ _ _ _) rfl rfl, trivial⟩⟩ rfl ⟨clF (flatA3 _ _ _ _), ⟨clF (flatA3 _ _ _ _), trivial⟩⟩ rfl (by first | rfl | simp [mpV, mpA, mpS, mpP, renId, shift]) rfl) ?_
      refine segEnd [1, 2, 6, 7, 9, 65] (T1 := (mkT 101 [(1, vI 2), (2, vP 1 0), (6, vP 4 0), (7, .bool true), (9, vP 8 0), (65, .bool false)])) (H1 := [some ⟨a3s L, 25, false, false⟩, rB [vN X, vN Y, vN Z, vS 0 L.length] 24, some ⟨a3s L, 25, false, true⟩, some ⟨a3s R, 25, false, true⟩, rB [vN X, vN Y, vN Z, vS 3 R.length] 29, some ⟨a3s (mk3 1 L.length), 25, false, true⟩, rB [vN X, vN Y, vN Z, vS 5 L.length] 29, some ⟨a3s R, 25, false, true⟩, rB [vN X, vN Y, vN Z, vS 7 R.length] 29, some ⟨a3s L, 25, false, true⟩]) (by kernel_rfl) ?_
      refine kSeq ?_
      refine cFalse (by kernel_rfl) ?_
      refine cSkip ?_
      refine kSeq ?_
      refine cSeq ?_
      refine cReg ?_
      refine segEndH [1, 2, 6, 7, 9, 12] (T1 := (mkT 101 [(1, vI 2), (2, vP 1 0), (6, vP 4 0), (7, .bool true), (9, vP 8 0), (12, vI 1)])) (by kernel_rfl) ?_
      refine kSeq ?_
      refine cSeq ?_
      refine cReg ?_
      refine segH 2 (T1 := (mkT 101 [(1, vI 2), (2, vP 1 0), (6, vP 4 0), (7, .bool true), (9, vP 8 0), (12, vI 1), (66, .agg #[vN X, vN Y, vN Z, vS 7 R.length]), (67, vI 1)])) (by kernel_rfl) ?_
      refine rCall (v := vN (1 + 3 * R.length)) (args := [.agg #[vN X, vN Y, vN Z, vS 7 R.length], vI 1]) (by kernel_rfl) rfl (by kernel_rfl) (Sound.emb_set (r := ⟨a3s R, 25, false, true⟩) (r' := ⟨a3s (mk3 1 R.length), 25, false, true⟩) 7 (markHeapB ((X : Nat) : Int) ((Y : Nat) : Int) ((Z : Nat) : Int) R 1 (by first | omega | assumption | (simp; done)) (by first | assumption | omega | rfl | decide | exact HeapL.list _ _ _ _ | exact HeapL.nil _ _ _ | exact HeapL.all _ _ _ | (apply HeapL.lt64 <;> assumption) | (repeat' (first | assumption | apply or_lt64 | apply and_lt64 | apply andn_lt64 | apply pow_lt64 | (apply HeapL.lt64 <;> assumption))))) (flatA3 _ _ _ _) rfl (flatA3 _ _ _ _) rfl rfl rfl (by first | rfl | simp [mpV, mpA, mpS, mpP, renId, shift]) rfl) ?_
      refine segEnd [1, 2, 6, 7, 9, 12] (T1 := (mkT 101 [(1, vI 2), (2, vP 1 0), (6, vP 4 0), (7, .bool true), (9, vP 8 0), (12, vN (1 + 3 * R.length))])) (H1 := [some ⟨a3s L, 25, false, false⟩, rB [vN X, vN Y, vN Z, vS 0 L.length] 24, some ⟨a3s L, 25, false, true⟩, some ⟨a3s R, 25, false, true⟩, rB [vN X, vN Y, vN Z, vS 3 R.length] 29, some ⟨a3s (mk3 1 L.length), 25, false, true⟩, rB [vN X, vN Y, vN Z, vS 5 L.length] 29, some ⟨a3s (mk3 1 R.length), 25, false, true⟩, rB [vN X, vN Y, vN Z, vS 7 R.length] 29, some ⟨a3s L, 25, false, true⟩]) (by kernel_rfl) ?_
      refine kSeq ?_
      refine cSeq ?_
      refine cReg ?_
      refine segEndH [1, 2, 6, 7, 9, 12, 13] (T1 := (mkT 101 [(1, vI 2), (2, vP 1 0), (6, vP 4 0), (7, .bool true), (9, vP 8 0), (12, vN (1 + 3 * R.length)), (13, vI 1)])) (by kernel_rfl) ?_
      refine kSeq ?_
      refine cSeq ?_
      refine cReg ?_
      refine segH 2 (T1 := (mkT 101 [(1, vI 2), (2, vP 1 0), (6, vP 4 0), (7, .bool true), (9, vP 8 0), (12, vN (1 + 3 * R.length)), (13, vI 1), (69, .agg #[vN X, vN Y, vN Z, vS 7 R.length]), (70, vI 1)])) (by kernel_rfl) ?_
      refine rCall (v := vN (1 + 3 * R.length)) (args := [.agg #[vN X, vN Y, vN Z, vS 7 R.length], vI 1]) (by kernel_rfl) rfl (by kernel_rfl) (Sound.lay0 [7] (heldHeapB ((X : Nat) : Int) ((Y : Nat) : Int) ((Z : Nat) : Int) 1 R.length (by first | omega | assumption | (simp; done)) (by first | assumption | omega | rfl | decide | exact HeapL.list _ _ _ _ | exact HeapL.nil _ _ _ | exact HeapL.all _ _ _ | (apply HeapL.lt64 <;> assumption) | (repeat' (first | assumption | apply or_lt64 | apply and_lt64 | apply andn_lt64 | apply pow_lt64 | (apply HeapL.lt64 <;> assumption))))) ⟨rdF true (flatA3 _ _ _ _) rfl rfl, trivial⟩ rfl ⟨clF (flatA3 _ _ _ _), trivial⟩ rfl (by first | rfl | simp [mpV, mpA, mpS, mpP, renId, shift]) rfl) ?_
      refine segEndH [1, 2, 6, 7, 9, 12, 13] (T1 := (mkT 101 [(1, vI 2), (2, vP 1 0), (6, vP 4 0), (7, .bool true), (9, vP 8 0), (12, vN (1 + 3 * R.length)), (13, vN (1 + 3 * R.length))])) (by kernel_rfl) ?_
      refine kSeq ?_
      refine cSeq ?_
      refine cSeq ?_
      refine cReg ?_
      refine segEndH [1, 2, 6, 7, 9, 12, 13, 73] (T1 := (mkT 101 [(1, vI 2), (2, vP 1 0), (6, vP 4 0), (7, .bool true), (9, vP 8 0), (12, vN (1 + 3 * R.length)), (13, vN (1 + 3 * R.length)), (73, .bool (decide (((1 + 3 * R.length : Nat) : Int) < 0)))])) (by kernel_rfl) ?_
      refine kSeq ?_
      cases h3 : (decide (((1 + 3 * R.length : Nat) : Int) < 0) : Bool)
      ·
        (try simp only [Bool.not_eq_true', Bool.not_eq_false', decide_eq_true_eq, decide_eq_false_iff_not, beq_iff_eq, bne_iff_ne, beq_eq_false_iff_ne, bne_eq_false_iff_eq, ne_eq, Decidable.not_not, Bool.and_eq_true, Bool.and_eq_false_imp, Bool.or_eq_true, Bool.or_eq_false_iff, Bool.not_eq_true, Int.not_lt, Int.not_le, ge_iff_le, gt_iff_lt] at h3)
        refine cFalse (by kernel_rfl) ?_
        refine cSkip ?_
        refine kSeq ?_
        refine cSeq ?_
        refine cSeq ?_
        refine cReg ?_
        refine segH 2 (T1 := (mkT 101 [(1, vI 2), (2, vP 1 0), (6, vP 4 0), (7, .bool true), (9, vP 8 0), (12, vN (1 + 3 * R.length)), (13, vN (1 + 3 * R.length)), (73, .bool false), (74, vN (1 + 3 * R.length)), (75, vN (1 + 3 * R.length))])) (by kernel_rfl) ?_
        refine rOp (v := .bool false) (by kernel_rfl) (eNeS (k := .i64) (a := ((1 + 3 * R.length : Nat) : Int)) (by kernel_rfl) (by kernel_rfl)) ?_
        refine segEndH [1, 2, 6, 7, 9, 12, 76] (T1 := (mkT 101 [(1, vI 2), (2, vP 1 0), (6, vP 4 0), (7, .bool true), (9, vP 8 0), (12, vN (1 + 3 * R.length)), (76, .bool false)])) (by kernel_rfl) ?_
        refine kSeq ?_
        refine cFalse (by kernel_rfl) ?_
        refine cSkip ?_
        refine kSeq ?_
        refine cSeq ?_
        refine cReg ?_
        refine segH 1 (T1 := (mkT 101 [(1, vI 2), (2, vP 1 0), (6, vP 4 0), (7, .bool true), (9, vP 8 0), (12, vN (1 + 3 * R.length)), (76, .bool false), (78, .agg #[vN X, vN Y, vN Z, vS 0 L.length])])) (by kernel_rfl) ?_
        refine rCall (v := .agg #[vN X, vN Y, vN Z, vS 10 L.length]) (args := [.agg #[vN X, vN Y, vN Z, vS 0 L.length]]) (by kernel_rfl) rfl (by kernel_rfl) (Sound.lay (E := [some ⟨a3s L, 25, false, true⟩]) [0] (toHeapB ((X : Nat) : Int) ((Y : Nat) : Int) ((Z : Nat) : Int) L (by first | omega | assumption | (simp; done))) ⟨rdF false (flatA3 _ _ _ _) rfl rfl, trivial⟩ rfl ⟨clF (flatA3 _ _ _ _), trivial⟩ rfl (by first | rfl | simp [mpV, mpA, mpS, mpP, renId, shift]) (by first | rfl | simp [mpV, mpA, mpS, mpP, renId, shift]) ⟨enF (flatA3 _ _ _ _) (Or.inl rfl), trivial⟩) ?_
        refine seg 1 (T1 := (mkT 101 [(1, vI 2), (2, vP 1 0), (6, vP 4 0), (7, .bool true), (9, vP 8 0), (12, vN (1 + 3 * R.length)), (76, .bool false), (78, .agg #[vN X, vN Y, vN Z, vS 0 L.length]), (79, .agg #[vN X, vN Y, vN Z, vS 10 L.length]), (80, vI 2)])) (H1 := [some ⟨a3s L, 25, false, false⟩, rB [vN X, vN Y, vN Z, vS 0 L.length] 24, some ⟨a3s L, 25, false, true⟩, some ⟨a3s R, 25, false, true⟩, rB [vN X, vN Y, vN Z, vS 3 R.length] 29, some ⟨a3s (mk3 1 L.length), 25, false, true⟩, rB [vN X, vN Y, vN Z, vS 5 L.length] 29, some ⟨a3s (mk3 1 R.length), 25, false, true⟩, rB [vN X, vN Y, vN Z, vS 7 R.length] 29, some ⟨a3s L, 25, false, true⟩, some ⟨a3s L, 25, false, true⟩]) (by kernel_rfl) ?_
        refine rCall (v := .tuple #[.agg #[vN X, vN Y, vN Z, vS 11 R.length], .bool true]) (args := [.agg #[vN X, vN Y, vN Z, vS 10 L.length], vI 2]) (by kernel_rfl) rfl (by kernel_rfl) (Sound.lay (E := [some ⟨a3s R, 25, false, true⟩]) [10] (implMirrorHeap_2R X Y Z L R (by first | assumption | omega | rfl | decide | exact HeapL.list _ _ _ _ | exact HeapL.nil _ _ _ | exact HeapL.all _ _ _ | (apply HeapL.lt64 <;> assumption) | (repeat' (first | assumption | apply or_lt64 | apply and_lt64 | apply andn_lt64 | apply pow_lt64 | (apply HeapL.lt64 <;> assumption)))) (by first | assumption | omega | rfl | decide | exact HeapL.list _ _ _ _ | exact HeapL.nil _ _ _ | exact HeapL.all _ _ _ | (apply HeapL.lt64 <;> assumption) | (repeat' (first | assumption | apply or_lt64 | apply and_lt64 | apply andn_lt64 | apply pow_lt64 | (apply HeapL.lt64 <;> assumption)))) (by first | assumption | omega | rfl | decide | exact HeapL.list _ _ _ _ | exact HeapL.nil _ _ _ | exact HeapL.all _ _ _ | (apply HeapL.lt64 <;> assumption) | (repeat' (first | assumption | apply or_lt64 | apply and_lt64 | apply andn_lt64 | apply pow_lt64 | (apply HeapL.lt64 <;> assumption))))) ⟨rdF true (flatA3 _ _ _ _) rfl rfl, trivial⟩ rfl ⟨clF (flatA3 _ _ _ _), trivial⟩ rfl (by first | rfl | simp [mpV, mpA, mpS, mpP, renId, shift]) (by first | rfl | simp [mpV, mpA, mpS, mpP, renId, shift]) ⟨enF (flatA3 _ _ _ _) (Or.inl rfl), trivial⟩) ?_
        refine segEnd [6, 7, 9, 12, 14, 15] (T1 := (mkT 101 [(6, vP 4 0), (7, .bool true), (9, vP 8 0), (12, vN (1 + 3 * R.length)), (14, vP 12 0), (15, .bool true)])) (H1 := [some ⟨a3s L, 25, false, false⟩, rB [vN X, vN Y, vN Z, vS 0 L.length] 24, some ⟨a3s L, 25, false, true⟩, some ⟨a3s R, 25, false, true⟩, rB [vN X, vN Y, vN Z, vS 3 R.length] 29, some ⟨a3s (mk3 1 L.length), 25, false, true⟩, rB [vN X, vN Y, vN Z, vS 5 L.length] 29, some ⟨a3s (mk3 1 R.length), 25, false, true⟩, rB [vN X, vN Y, vN Z, vS 7 R.length] 29, some ⟨a3s L, 25, false, true⟩, some ⟨a3s L, 25, false, true⟩, some ⟨a3s R, 25, false, true⟩, rB [vN X, vN Y, vN Z, vS 11 R.length] 29]) (by kernel_rfl) ?_
        refine kSeq ?_
        refine cSeq ?_
        refine cSeq ?_
        refine cReg ?_
        refine segH 2 (T1 := (mkT 101 [(6, vP 4 0), (7, .bool true), (9, vP 8 0), (12, vN (1 + 3 * R.length)), (14, vP 12 0), (15, .bool true), (84, .agg #[vN X, vN Y, vN Z, vS 11 R.length]), (85, .agg #[vN X, vN Y, vN Z, vS 3 R.length])])) (by kernel_rfl) ?_
        refine rCall (v := .bool true) (args := [.agg #[vN X, vN Y, vN Z, vS 11 R.length], .agg #[vN X, vN Y, vN Z, vS 3 R.length]]) (by kernel_rfl) rfl (by kernel_rfl) (Sound.lay0 [11, 3] (eqHeapB ((X : Nat) : Int) ((Y : Nat) : Int) ((Z : Nat) : Int) R (by first | omega | assumption | (simp; done))) ⟨rdF true (flatA3 _ _ _ _) rfl rfl, ⟨rdF true (flatA3 _ _ _ _) rfl rfl, trivial⟩⟩ rfl ⟨clF (flatA3 _ _ _ _), ⟨clF (flatA3 _ _ _ _), trivial⟩⟩ rfl (by first | rfl | simp [mpV, mpA, mpS, mpP, renId, shift]) rfl) ?_
        refine segEndH [9, 12, 92] (T1 := (mkT 101 [(9, vP 8 0), (12, vN (1 + 3 * R.length)), (92, .bool false)])) (by kernel_rfl) ?_
        refine kSeq ?_
        refine cFalse (by kernel_rfl) ?_
        refine cSkip ?_
        refine kSeq ?_
        refine cSeq ?_
        refine cReg ?_
        refine segEndH [9, 12, 13] (T1 := (mkT 101 [(9, vP 8 0), (12, vN (1 + 3 * R.length)), (13, vI 1)])) (by kernel_rfl) ?_
        refine kSeq ?_
        refine cSeq ?_
        refine cReg ?_
        refine segH 2 (T1 := (mkT 101 [(9, vP 8 0), (12, vN (1 + 3 * R.length)), (13, vI 1), (93, .agg #[vN X, vN Y, vN Z, vS 7 R.length]), (94, vI 1)])) (by kernel_rfl) ?_
        refine rCall (v := vN (1 + 3 * R.length)) (args := [.agg #[vN X, vN Y, vN Z, vS 7 R.length], vI 1]) (by kernel_rfl) rfl (by kernel_rfl) (Sound.lay0 [7] (heldHeapB ((X : Nat) : Int) ((Y : Nat) : Int) ((Z : Nat) : Int) 1 R.length (by first | omega | assumption | (simp; done)) (by first | assumption | omega | rfl | decide | exact HeapL.list _ _ _ _ | exact HeapL.nil _ _ _ | exact HeapL.all _ _ _ | (apply HeapL.lt64 <;> assumption) | (repeat' (first | assumption | apply or_lt64 | apply and_lt64 | apply andn_lt64 | apply pow_lt64 | (apply HeapL.lt64 <;> assumption))))) ⟨rdF true (flatA3 _ _ _ _) rfl rfl, trivial⟩ rfl ⟨clF (flatA3 _ _ _ _), trivial⟩ rfl (by first | rfl | simp [mpV, mpA, mpS, mpP, renId, shift]) rfl) ?_
        refine segEndH [12, 13] (T1 := (mkT 101 [(12, vN (1 + 3 * R.length)), (13, vN (1 + 3 * R.length))])) (by kernel_rfl) ?_
        refine kSeq ?_
        refine cSeq ?_
        refine cSeq ?_
        refine cReg ?_
        refine segEndH [12, 13, 97] (T1 := (mkT 101 [(12, vN (1 + 3 * R.length)), (13, vN (1 + 3 * R.length)), (97, .bool (decide (((1 + 3 * R.length : Nat) : Int) < 0)))])) (by kernel_rfl) ?_
        refine kSeq ?_
        cases h4 : (decide (((1 + 3 * R.length : Nat) : Int) < 0) : Bool)
        ·
          (try simp only [Bool.not_eq_true', Bool.not_eq_false', decide_eq_true_eq, decide_eq_false_iff_not, beq_iff_eq, bne_iff_ne, beq_eq_false_iff_ne, bne_eq_false_iff_eq, ne_eq, Decidable.not_not, Bool.and_eq_true, Bool.and_eq_false_imp, Bool.or_eq_true, Bool.or_eq_false_iff, Bool.not_eq_true, Int.not_lt, Int.not_le, ge_iff_le, gt_iff_lt] at h4)
          refine cFalse (by kernel_rfl) ?_
          refine cSkip ?_
          refine kSeq ?_
          refine cSeq ?_
          refine cSeq ?_
          refine cReg ?_
          refine segH 2 (T1 := (mkT 101 [(12, vN (1 + 3 * R.length)), (13, vN (1 + 3 * R.length)), (97, .bool false), (98, vN (1 + 3 * R.length)), (99, vN (1 + 3 * R.length))])) (by kernel_rfl) ?_
          refine rOp (v := .bool false) (by kernel_rfl) (eNeS (k := .i64) (a := ((1 + 3 * R.length : Nat) : Int)) (by kernel_rfl) (by kernel_rfl)) ?_
          refine segEndH [100] (T1 := (mkT 101 [(100, .bool false)])) (by kernel_rfl) ?_
          refine kSeq ?_
          refine cFalse (by kernel_rfl) ?_
          refine cSkip ?_
          refine kSeq ?_
          refine cSeq ?_
          refine cReg ?_
          refine segEndH [4] (T1 := (mkT 101 [(4, .bool true)])) (by kernel_rfl) ?_
          refine kSeq ?_
          refine cRet ?_
          -- end
          exact endQ (Or.inr rfl) (l := [.bool true]) [rB [vN X, vN Y, vN Z, vS 0 L.length] 24, some ⟨a3s L, 25, false, true⟩, some ⟨a3s R, 25, false, true⟩, rB [vN X, vN Y, vN Z, vS 3 R.length] 29, some ⟨a3s (mk3 1 L.length), 25, false, true⟩, rB [vN X, vN Y, vN Z, vS 5 L.length] 29, some ⟨a3s (mk3 1 R.length), 25, false, true⟩, rB [vN X, vN Y, vN Z, vS 7 R.length] 29, some ⟨a3s L, 25, false, true⟩, some ⟨a3s L, 25, false, true⟩, some ⟨a3s R, 25, false, true⟩, rB [vN X, vN Y, vN Z, vS 11 R.length] 29] (by kernel_rfl) (by first | rfl | kernel_rfl) rfl rfl hcl rfl
        ·
          (try simp only [Bool.not_eq_true', Bool.not_eq_false', decide_eq_true_eq, decide_eq_false_iff_not, beq_iff_eq, bne_iff_ne, beq_eq_false_iff_ne, bne_eq_false_iff_eq, ne_eq, Decidable.not_not, Bool.and_eq_true, Bool.and_eq_false_imp, Bool.or_eq_true, Bool.or_eq_false_iff, Bool.not_eq_true, Int.not_lt, Int.not_le, ge_iff_le, gt_iff_lt] at h4)
          exfalso; omega
      ·
        (try simp only [Bool.not_eq_true', Bool.not_eq_false', decide_eq_true_eq, decide_eq_false_iff_not, beq_iff_eq, bne_iff_ne, beq_eq_false_iff_ne, bne_eq_false_iff_eq, ne_eq, Decidable.not_not, Bool.and_eq_true, Bool.and_eq_false_imp, Bool.or_eq_true, Bool.or_eq_false_iff, Bool.not_eq_true, Int.not_lt, Int.not_le, ge_iff_le, gt_iff_lt] at h3)
        exfalso; omega
    ·
      (try simp only [Bool.not_eq_true', Bool.not_eq_false', decide_eq_true_eq, decide_eq_false_iff_not, beq_iff_eq, bne_iff_ne, beq_eq_false_iff_ne, bne_eq_false_iff_eq, ne_eq, Decidable.not_not, Bool.and_eq_true, Bool.and_eq_false_imp, Bool.or_eq_true, Bool.or_eq_false_iff, Bool.not_eq_true, Int.not_lt, Int.not_le, ge_iff_le, gt_iff_lt] at h2)
      exfalso; omega
  ·
    (try simp only [Bool.not_eq_true', Bool.not_eq_false', decide_eq_true_eq, decide_eq_false_iff_not, beq_iff_eq, bne_iff_ne, beq_eq_false_iff_ne, bne_eq_false_iff_eq, ne_eq, Decidable.not_not, Bool.and_eq_true, Bool.and_eq_false_imp, Bool.or_eq_true, Bool.or_eq_false_iff, Bool.not_eq_true, Int.not_lt, Int.not_le, ge_iff_le, gt_iff_lt] at h1)
    exfalso; omega

set_option maxRecDepth 100000 in
set_option maxHeartbeats 4000000 in
theorem lawMirrorHeap_d2_n (X : Nat) (Y : Nat) (Z : Nat) (R : List A3) (hs : Sides X Y Z) (hR : R = listOf X Y Z (setOf Y Z (([] : List A3).map (mir X Y Z 2)))) : Sound Try.prog 13 [.agg #[vN X, vN Y, vN Z, .slice none 0 0], vI 2] [] (.bool true) [] := by
  refine sound_intro (C := cx) Try.func13 rfl (by kernel_rfl) fun hcl => ?_
  have hz := hs.size
  have hx0 := hs.x0
  have hx4 := hs.x4
  have hy0 := hs.y0
  have hy4 := hs.y4
  have hz0 := hs.z0
  have hz4 := hs.z4
  have hlen : ([] : List A3).length ≤ 64 := by first | (have := hL.len; have := hs.size; omega) | simp
  have hr : R.length ≤ 64 := by (rw [hR]; have := (HeapL.list X Y Z (setOf Y Z (([] : List A3).map (mir X Y Z 2)))).len; omega)
  refine cSeq ?_
  refine cReg ?_
  refine segEnd [1, 2] (T1 := (mkT 101 [(1, vI 2), (2, vP 0 0)])) (H1 := [rB [vN X, vN Y, vN Z, .slice none 0 0] 24]) (by kernel_rfl) ?_
  refine kSeq ?_
  refine cSeq ?_
  refine cReg ?_
  refine segEndH [1, 2, 5] (T1 := (mkT 101 [(1, vI 2), (2, vP 0 0), (5, vI 1048576)])) (by kernel_rfl) ?_
  refine kSeq ?_
  refine cSeq ?_
  refine cReg ?_
  refine segH 2 (T1 := (mkT 101 [(1, vI 2), (2, vP 0 0), (5, vI 1048576), (16, .agg #[vN X, vN Y, vN Z, .slice none 0 0]), (17, vI 1048576)])) (by kernel_rfl) ?_
  refine rCall (v := vI 1048576) (args := [.agg #[vN X, vN Y, vN Z, .slice none 0 0], vI 1048576]) (by kernel_rfl) rfl (by kernel_rfl) (Sound.lay0 [] (szHeapN ((X : Nat) : Int) ((Y : Nat) : Int) ((Z : Nat) : Int) 1048576 (by first | omega | assumption | decide)) trivial rfl trivial rfl (by first | rfl | simp [mpV, mpA, mpS, mpP, renId, shift]) rfl) ?_
  refine segEndH [1, 2, 5] (T1 := (mkT 101 [(1, vI 2), (2, vP 0 0), (5, vI 1048576)])) (by kernel_rfl) ?_
  refine kSeq ?_
  refine cSeq ?_
  refine cSeq ?_
  refine cReg ?_
  refine segEndH [1, 2, 20] (T1 := (mkT 101 [(1, vI 2), (2, vP 0 0), (20, .bool false)])) (by kernel_rfl) ?_
  refine kSeq ?_
  refine cFalse (by kernel_rfl) ?_
  refine cSkip ?_
  refine kSeq ?_
  refine cSeq ?_
  refine cReg ?_
  refine segH 1 (T1 := (mkT 101 [(1, vI 2), (2, vP 0 0), (20, .bool false), (22, .agg #[vN X, vN Y, vN Z, .slice none 0 0])])) (by kernel_rfl) ?_
  refine rCall (v := .agg #[vN X, vN Y, vN Z, vS 1 0]) (args := [.agg #[vN X, vN Y, vN Z, .slice none 0 0]]) (by kernel_rfl) rfl (by kernel_rfl) (Sound.lay (E := [some ⟨[], 25, false, true⟩]) [] (toHeapN ((X : Nat) : Int) ((Y : Nat) : Int) ((Z : Nat) : Int)) trivial rfl trivial rfl (by first | rfl | simp [mpV, mpA, mpS, mpP, renId, shift]) (by first | rfl | simp [mpV, mpA, mpS, mpP, renId, shift]) ⟨enX rfl (Or.inl rfl), trivial⟩) ?_
  refine seg 1 (T1 := (mkT 101 [(1, vI 2), (2, vP 0 0), (20, .bool false), (22, .agg #[vN X, vN Y, vN Z, .slice none 0 0]), (23, .agg #[vN X, vN Y, vN Z, vS 1 0]), (24, vI 2)])) (H1 := [rB [vN X, vN Y, vN Z, .slice none 0 0] 24, some ⟨[], 25, false, true⟩]) (by kernel_rfl) ?_
  refine rCall (v := .tuple #[.agg #[vN X, vN Y, vN Z, vS 2 R.length], .bool true]) (args := [.agg #[vN X, vN Y, vN Z, vS 1 0], vI 2]) (by kernel_rfl) rfl (by kernel_rfl) (Sound.lay (E := [some ⟨a3s R, 25, false, true⟩]) [1] (specMirrorHeap_2R X Y Z ([] : List A3) R (by first | assumption | omega | rfl | decide | exact HeapL.list _ _ _ _ | exact HeapL.nil _ _ _ | exact HeapL.all _ _ _ | (apply HeapL.lt64 <;> assumption) | (repeat' (first | assumption | apply or_lt64 | apply and_lt64 | apply andn_lt64 | apply pow_lt64 | (apply HeapL.lt64 <;> assumption)))) (by first | assumption | omega | rfl | decide | exact HeapL.list _ _ _ _ | exact HeapL.nil _ _ _ | exact HeapL.all _ _ _ | (apply HeapL.lt64 <;> assumption) | (repeat' (first | assumption | apply or_lt64 | apply and_lt64 | apply andn_lt64 | apply pow_lt64 | (apply HeapL.lt64 <;> assumption)))) (by first | assumption | omega | rfl | decide | exact HeapL.list _ _ _ _ | exact HeapL.nil _ _ _ | exact HeapL.all _ _ _ | (apply HeapL.lt64 <;> assumption) | (repeat' (first | assumption | apply or_lt64 | apply and_lt64 | apply andn_lt64 | apply pow_lt64 | (apply HeapL.lt64 <;> assumption))))) ⟨rdF true (flatA3 _ _ _ _) rfl rfl, trivial⟩ rfl ⟨clF (flatA3 _ _ _ _), trivial⟩ rfl (by first | rfl | simp [mpV, mpA, mpS, mpP, renId, shift]) (by first | rfl | simp [mpV, mpA, mpS, mpP, renId, shift]) ⟨enF (flatA3 _ _ _ _) (Or.inl rfl), trivial⟩) ?_
  refine segEnd [1, 2, 6, 7] (T1 := (mkT 101 [(1, vI 2), (2, vP 0 0), (6, vP 3 0), (7, .bool true)])) (H1 := [rB [vN X, vN Y, vN Z, .slice none 0 0] 24, some ⟨[], 25, false, true⟩, some ⟨a3s R, 25, false, true⟩, rB [vN X, vN Y, vN Z, vS 2 R.length] 29]) (by kernel_rfl) ?_
  refine kSeq ?_
  refine cSeq ?_
  refine cReg ?_
  refine segH 1 (T1 := (mkT 101 [(1, vI 2), (2, vP 0 0), (6, vP 3 0), (7, .bool true), (28, .agg #[vN X, vN Y, vN Z, .slice none 0 0])])) (by kernel_rfl) ?_
  refine rCall (v := .agg #[vN X, vN Y, vN Z, vS 4 0]) (args := [.agg #[vN X, vN Y, vN Z, .slice none 0 0]]) (by kernel_rfl) rfl (by kernel_rfl) (Sound.lay (E := [some ⟨[], 25, false, true⟩]) [] (toHeapN ((X : Nat) : Int) ((Y : Nat) : Int) ((Z : Nat) : Int)) trivial rfl trivial rfl (by first | rfl | simp [mpV, mpA, mpS, mpP, renId, shift]) (by first | rfl | simp [mpV, mpA, mpS, mpP, renId, shift]) ⟨enX rfl (Or.inl rfl), trivial⟩) ?_
  refine segEnd [1, 2, 6, 7, 8] (T1 := (mkT 101 [(1, vI 2), (2, vP 0 0), (6, vP 3 0), (7, .bool true), (8, vP 5 0)])) (H1 := [rB [vN X, vN Y, vN Z, .slice none 0 0] 24, some ⟨[], 25, false, true⟩, some ⟨a3s R, 25, false, true⟩, rB [vN X, vN Y, vN Z, vS 2 R.length] 29, some ⟨[], 25, false, true⟩, rB [vN X, vN Y, vN Z, vS 4 0] 29]) (by kernel_rfl) ?_
  refine kSeq ?_
  refine cSeq ?_
  refine cReg ?_
  refine segH 2 (T1 := (mkT 101 [(1, vI 2), (2, vP 0 0), (6, vP 3 0), (7, .bool true), (8, vP 5 0), (31, .agg #[vN X, vN Y, vN Z, vS 4 0]), (32, vI 2)])) (by kernel_rfl) ?_
  refine rCall (v := .tuple #[.agg #[vN X, vN Y, vN Z, vS 6 R.length], .bool true]) (args := [.agg #[vN X, vN Y, vN Z, vS 4 0], vI 2]) (by kernel_rfl) rfl (by kernel_rfl) (Sound.lay (E := [some ⟨a3s R, 25, false, true⟩]) [4] (implMirrorHeap_2R X Y Z ([] : List A3) R (by first | assumption | omega | rfl | decide | exact HeapL.list _ _ _ _ | exact HeapL.nil _ _ _ | exact HeapL.all _ _ _ | (apply HeapL.lt64 <;> assumption) | (repeat' (first | assumption | apply or_lt64 | apply and_lt64 | apply andn_lt64 | apply pow_lt64 | (apply HeapL.lt64 <;> assumption)))) (by first | assumption | omega | rfl | decide | exact HeapL.list _ _ _ _ | exact HeapL.nil _ _ _ | exact HeapL.all _ _ _ | (apply HeapL.lt64 <;> assumption) | (repeat' (first | assumption | apply or_lt64 | apply and_lt64 | apply andn_lt64 | apply pow_lt64 | (apply HeapL.lt64 <;> assumption)))) (by first | assumption | omega | rfl | decide | exact HeapL.list _ _ _ _ | exact HeapL.nil _ _ _ | exact HeapL.all _ _ _ | (apply HeapL.lt64 <;> assumption) | (repeat' (first | assumption | apply or_lt64 | apply and_lt64 | apply andn_lt64 | apply pow_lt64 | (apply HeapL.lt64 <;> assumption))))) ⟨rdF true (flatA3 _ _ _ _) rfl rfl, trivial⟩ rfl ⟨clF (flatA3 _ _ _ _), trivial⟩ rfl (by first | rfl | simp [mpV, mpA, mpS, mpP, renId, shift]) (by first | rfl | simp [mpV, mpA, mpS, mpP, renId, shift]) ⟨enF (flatA3 _ _ _ _) (Or.inl rfl), trivial⟩) ?_
  refine segEnd [1, 2, 6, 7, 8, 9, 10] (T1 := (mkT 101 [(1, vI 2), (2, vP 0 0), (6, vP 3 0), (7, .bool true), (8, vP 5 0), (9, vP 7 0), (10, .bool true)])) (H1 := [rB [vN X, vN Y, vN Z, .slice none 0 0] 24, some ⟨[], 25, false, true⟩, some ⟨a3s R, 25, false, true⟩, rB [vN X, vN Y, vN Z, vS 2 R.length] 29, some ⟨[], 25, false, true⟩, rB [vN X, vN Y, vN Z, vS 4 0] 29, some ⟨a3s R, 25, false, true⟩, rB [vN X, vN Y, vN Z, vS 6 R.length] 29]) (by kernel_rfl) ?_
  refine kSeq ?_
  refine cSeq ?_
  refine cSeq ?_
  refine cReg ?_
  refine segH 2 (T1 := (mkT 101 [(1, vI 2), (2, vP 0 0), (6, vP 3 0), (7, .bool true), (8, vP 5 0), (9, vP 7 0), (10, .bool true), (36, .agg #[vN X, vN Y, vN Z, vS 6 R.length]), (37, .agg #[vN X, vN Y, vN Z, vS 2 R.length])])) (by kernel_rfl) ?_
  refine rCall (v := .bool true) (args := [.agg #[vN X, vN Y, vN Z, vS 6 R.length], .agg #[vN X, vN Y, vN Z, vS 2 R.length]]) (by kernel_rfl) rfl (by kernel_rfl) (Sound.lay0 [6, 2] (eqHeapB ((X : Nat) : Int) ((Y : Nat) : Int) ((Z : Nat) : Int) R (by first | omega | assumption | (simp; done))) ⟨rdF true (flatA3 _ _ _ _) rfl rfl, ⟨rdF true (flatA3 _ _ _ _) rfl rfl, trivial⟩⟩ rfl ⟨clF (flatA3 _ _ _ _), ⟨clF (flatA3 _ _ _ _), trivial⟩⟩ rfl (by first | rfl | simp [mpV, mpA, mpS, mpP, renId, shift]) rfl) ?_
  refine segEndH [1, 2, 6, 7, 8, 9, 10, 44] (T1 := (mkT 101 [(1, vI 2), (2, vP 0 0), (6, vP 3 0), (7, .bool true), (8, vP 5 0), (9, vP 7 0), (10, .bool true), (44, .bool false)])) (by kernel_rfl) ?_
  refine kSeq ?_
  refine cFalse (by kernel_rfl) ?_
  refine cSkip ?_
  refine kSeq ?_
  refine cSeq ?_
  refine cSeq ?_
  refine cRegW (N := 9) [⟨[], [], [5]⟩, ⟨[], [], [0]⟩, ⟨[8], [], []⟩, ⟨[], [], [4, 8]⟩, ⟨[], [], []⟩] 1 [8] (by rfl) (by rfl) (by kernel_rfl) (by kernel_rfl) (by kernel_rfl) ⟨nmsX (by kernel_rfl), ⟨nmsX (by kernel_rfl), ⟨nmsF (flatA3 _ _ _ _), ⟨nmsX (by kernel_rfl), ⟨nmsX (by kernel_rfl), ⟨nmsX (by kernel_rfl), ⟨nmsF (flatA3 _ _ _ _), ⟨nmsX (by kernel_rfl), trivial⟩⟩⟩⟩⟩⟩⟩⟩ ?_
  refine segWH 2 (T1 := (mkT 101 [(1, vI 2), (2, vP 0 0), (6, vP 3 0), (7, .bool true), (8, vP 5 0), (9, vP 7 0), (10, .bool true), (44, .bool false), (45, .agg #[vN X, vN Y, vN Z, vS 4 0]), (46, .agg #[vN X, vN Y, vN Z, .slice none 0 0])])) (by kernel_rfl) ?_
  refine rW (m := ⟨[8], [], []⟩) (v := .agg #[vN X, vN Y, vN Z, vS 8 0]) rfl (by kernel_rfl) (stN (i := 8) (E := [some ⟨[], 25, false, true⟩]) (v1 := .agg #[vN X, vN Y, vN Z, vS 9 0]) (args := [.agg #[vN X, vN Y, vN Z, .slice none 0 0]]) rfl (by kernel_rfl) (Any.lay (E := [some ⟨[], 25, false, true⟩]) (N := 9) [] (toHeapN ((X : Nat) : Int) ((Y : Nat) : Int) ((Z : Nat) : Int)) trivial rfl trivial rfl (by first | rfl | simp [mpV, mpA, mpS, mpP, renId, shift]) (by first | rfl | simp [mpV, mpA, mpS, mpP, renId, shift]) ⟨enX rfl (Or.inl rfl), trivial⟩) rfl (by kernel_rfl) (by kernel_rfl) (by kernel_rfl) (by kernel_rfl) (FlatH.cons (flatRow_of rfl) FlatH.nil)) (by kernel_rfl) (NRs.all ⟨nrOf (by rfl) (nmX (by kernel_rfl)), trivial⟩) ?_
  refine rW (m := ⟨[], [], [4, 8]⟩) (v := .bool true) rfl (by kernel_rfl) (stQ (args := [.agg #[vN X, vN Y, vN Z, vS 4 0], .agg #[vN X, vN Y, vN Z, vS 8 0]]) rfl (by kernel_rfl) (Any.lay0 [4, 8] (eqHeapB ((X : Nat) : Int) ((Y : Nat) : Int) ((Z : Nat) : Int) ([] : List A3) (by first | omega | assumption | (simp; done))) ⟨rdF true (flatA3 _ _ _ _) rfl rfl, ⟨rdF true (flatA3 _ _ _ _) rfl rfl, trivial⟩⟩ rfl ⟨clF (flatA3 _ _ _ _), ⟨clF (flatA3 _ _ _ _), trivial⟩⟩ rfl (by first | rfl | simp [mpV, mpA, mpS, mpP, renId, shift]) rfl) rfl (by kernel_rfl) (by kernel_rfl)) (by kernel_rfl) nr0 ?_
  refine segEndW [1, 2, 6, 7, 8, 9, 10, 49] (T1 := (mkT 101 [(1, vI 2), (2, vP 0 0), (6, vP 3 0), (7, .bool true), (8, vP 5 0), (9, vP 7 0), (10, .bool true), (49, .bool false)])) (H1 := [rB [vN X, vN Y, vN Z, .slice none 0 0] 24, some ⟨[], 25, false, true⟩, some ⟨a3s R, 25, false, true⟩, rB [vN X, vN Y, vN Z, vS 2 R.length] 29, some ⟨[], 25, false, true⟩, rB [vN X, vN Y, vN Z, vS 4 0] 29, some ⟨a3s R, 25, false, true⟩, rB [vN X, vN Y, vN Z, vS 6 R.length] 29, some ⟨[], 25, false, true⟩]) (by kernel_rfl) ?_
  refine kSeq ?_
  refine cFalse (by kernel_rfl) ?_
  refine cSkip ?_
  refine kSeq ?_
  refine cSeq ?_
  refine cReg ?_
  refine segEndH [1, 2, 6, 7, 8, 9, 10, 11] (T1 := (mkT 101 [(1, vI 2), (2, vP 0 0), (6, vP 3 0), (7, .bool true), (8, vP 5 0), (9, vP 7 0), (10, .bool true), (11, vI 1)])) (by kernel_rfl) ?_
  refine kSeq ?_
  refine cSeq ?_
  refine cReg ?_
  refine segH 2 (T1 := (mkT 101 [(1, vI 2), (2, vP 0 0), (6, vP 3 0), (7, .bool true), (8, vP 5 0), (9, vP 7 0), (10, .bool true), (11, vI 1), (50, .agg #[vN X, vN Y, vN Z, vS 4 0]), (51, vI 1)])) (by kernel_rfl) ?_
  refine rCall (v := vN (1 + 3 * ([] : List A3).length)) (args := [.agg #[vN X, vN Y, vN Z, vS 4 0], vI 1]) (by kernel_rfl) rfl (by kernel_rfl) (Sound.emb_set (r := ⟨a3s ([] : List A3), 25, false, true⟩) (r' := ⟨a3s (mk3 1 ([] : List A3).length), 25, false, true⟩) 4 (markHeapB ((X : Nat) : Int) ((Y : Nat) : Int) ((Z : Nat) : Int) ([] : List A3) 1 (by first | omega | assumption | (simp; done)) (by first | assumption | omega | rfl | decide | exact HeapL.list _ _ _ _ | exact HeapL.nil _ _ _ | exact HeapL.all _ _ _ | (apply HeapL.lt64 <;> assumption) | (repeat' (first | assumption | apply or_lt64 | apply and_lt64 | apply andn_lt64 | apply pow_lt64 | (apply HeapL.lt64 <;> assumption))))) (flatA3 _ _ _ _) rfl (flatA3 _ _ _ _) rfl rfl rfl (by first | rfl | simp [mpV, mpA, mpS, mpP, renId, shift]) rfl) ?_
  refine segEnd [1, 2, 6, 7, 9, 10, 11] (T1 := (mkT 101 [(1, vI 2), (2, vP 0 0), (6, vP 3 0), (7, .bool true), (9, vP 7 0), (10, .bool true), (11, vN (1 + 3 * ([] : List A3).length))])) (H1 := [rB [vN X, vN Y, vN Z, .slice none 0 0] 24, some ⟨[], 25, false, true⟩, some ⟨a3s R, 25, false, true⟩, rB [vN X, vN Y, vN Z, vS 2 R.length] 29, some ⟨a3s (mk3 1 ([] : List A3).length), 25, false, true⟩, rB [vN X, vN Y, vN Z, vS 4 0] 29, some ⟨a3s R, 25, false, true⟩, rB [vN X, vN Y, vN Z, vS 6 R.length] 29, some ⟨[], 25, false, true⟩]) (by kernel_rfl) ?_
  refine kSeq ?_
  refine cSeq ?_
  refine cSeq ?_
  refine cReg ?_
  refine segH 3 (T1 := (mkT 101 [(1, vI 2), (2, vP 0 0), (6, vP 3 0), (7, .bool true), (9, vP 7 0), (10, .bool true), (11, vN (1 + 3 * ([] : List A3).length)), (53, vN (1 + 3 * ([] : List A3).length)), (54, .bool (decide (((1 + 3 * ([] : List A3).length : Nat) : Int) < 0))), (55, .bool (decide (((1 + 3 * ([] : List A3).length : Nat) : Int) < 0)))])) (by kernel_rfl) ?_
  cases h1 : (decide (((1 + 3 * ([] : List A3).length : Nat) : Int) < 0) : Bool)
  ·
    (try simp only [Bool.not_eq_true', Bool.not_eq_false', decide_eq_true_eq, decide_eq_false_iff_not, beq_iff_eq, bne_iff_ne, beq_eq_false_iff_ne, bne_eq_false_iff_eq, ne_eq, Decidable.not_not, Bool.and_eq_true, Bool.and_eq_false_imp, Bool.or_eq_true, Bool.or_eq_false_iff, Bool.not_eq_true, Int.not_lt, Int.not_le, ge_iff_le, gt_iff_lt] at h1)
    refine seg 2 (T1 := (mkT 101 [(1, vI 2), (2, vP 0 0), (6, vP 3 0), (7, .bool true), (9, vP 7 0), (10, .bool true), (11, vN (1 + 3 * ([] : List A3).length)), (53, vN (1 + 3 * ([] : List A3).length)), (54, .bool false), (55, .bool false), (56, .agg #[vN X, vN Y, vN Z, vS 6 R.length]), (57, .agg #[vN X, vN Y, vN Z, vS 2 R.length])])) (H1 := [rB [vN X, vN Y, vN Z, .slice none 0 0] 24, some ⟨[], 25, false, true⟩, some ⟨a3s R, 25, false, true⟩, rB [vN X, vN Y, vN Z, vS 2 R.length] 29, some ⟨a3s (mk3 1 ([] : List A3).length), 25, false, true⟩, rB [vN X, vN Y, vN Z, vS 4 0] 29, some ⟨a3s R, 25, false, true⟩, rB [vN X, vN Y, vN Z, vS 6 R.length] 29, some ⟨[], 25, false, true⟩]) (by kernel_rfl) ?_
    refine rCall (v := .bool true) (args := [.agg #[vN X, vN Y, vN Z, vS 6 R.length], .agg #[vN X, vN Y, vN Z, vS 2 R.length]]) (by kernel_rfl) rfl (by kernel_rfl) (Sound.lay0 [6, 2] (eqHeapB ((X : Nat) : Int) ((Y : Nat) : Int) ((Z : Nat) : Int) R (by first | omega | assumption | (simp; done))) ⟨rdF true (flatA3 _ _ _ _) rfl rfl, ⟨rdF true (flatA3 _ _ _ _) rfl rfl, trivial⟩⟩ rfl ⟨clF (flatA3 _ _ _ _), ⟨clF (flatA3 _ _ _ _), trivial⟩⟩ rfl (by first | rfl | simp [mpV, mpA, mpS, mpP, renId, shift]) rfl) ?_
    refine segEnd [1, 2, 6, 7, 9, 65] (T1 := (mkT 101 [(1, vI 2), (2, vP 0 0), (6, vP 3 0), (7, .bool true), (9, vP 7 0), (65, .bool false)])) (H1 := [rB [vN X, vN Y, vN Z, .slice none 0 0] 24, some ⟨[], 25, false, true⟩, some ⟨a3s R, 25, false, true⟩, rB [vN X, vN Y, vN Z, vS 2 R.length] 29, some ⟨a3s (mk3 1 ([] : List A3).length), 25, false, true⟩, rB [vN X, vN Y, vN Z, vS 4 0] 29, some ⟨a3s R, 25, false, true⟩, rB [vN X, vN Y, vN Z, vS 6 R.length] 29, some ⟨[], 25, false, true⟩]) (by kernel_rfl) ?_
    refine kSeq ?_
    refine cFalse (by kernel_rfl) ?_
    refine cSkip ?_
    refine kSeq ?_
    refine cSeq ?_
    refine cReg ?_
    refine segEndH [1, 2, 6, 7, 9, 12] (T1 := (mkT 101 [(1, vI 2), (2, vP 0 0), (6, vP 3 0), (7, .bool true), (9, vP 7 0), (12, vI 1)])) (by kernel_rfl) ?_
    refine kSeq ?_
    refine cSeq ?_
    refine cReg ?_
    refine segH 2 (T1 := (mkT 101 [(1, vI 2), (2, vP 0 0), (6, vP 3 0), (7, .bool true), (9, vP 7 0), (12, vI 1), (66, .agg #[vN X, vN Y, vN Z, vS 6 R.length]), (67, vI 1)])) (by kernel_rfl) ?_
    refine rCall (v := vN (1 + 3 * R.length)) (args := [.agg #[vN X, vN Y, vN Z, vS 6 R.length], vI 1]) (by kernel_rfl) rfl (by kernel_rfl) (Sound.emb_set (r := ⟨a3s R, 25, false, true⟩) (r' := ⟨a3s (mk3 1 R.length), 25, false, true⟩) 6 (markHeapB ((X : Nat) : Int) ((Y : Nat) : Int) ((Z : Nat) : Int) R 1 (by first | omega | assumption | (simp; done)) (by first | assumption | omega | rfl | decide | exact HeapL.list _ _ _ _ | exact HeapL.nil _ _ _ | exact HeapL.all _ _ _ | (apply HeapL.lt64 <;> assumption) | (repeat' (first | assumption | apply or_lt64 | apply and_lt64 | apply andn_lt64 | apply pow_lt64 | (apply HeapL.lt64 <;> assumption))))) (flatA3 _ _ _ _) rfl (flatA3 _ _ _ _) rfl rfl rfl (by first | rfl | simp [mpV, mpA, mpS, mpP, renId, shift]) rfl) ?_
    refine segEnd [1, 2, 6, 7, 9, 12] (T1 := (mkT 101 [(1, vI 2), (2, vP 0 0), (6, vP 3 0), (7, .bool true), (9, vP 7 0), (12, vN (1 + 3 * R.length))])) (H1 := [rB [vN X, vN Y, vN Z, .slice none 0 0] 24, some ⟨[], 25, false, true⟩, some ⟨a3s R, 25, false, true⟩, rB [vN X, vN Y, vN Z, vS 2 R.length] 29, some ⟨a3s (mk3 1 ([] : List A3).length), 25, false, true⟩, rB [vN X, vN Y, vN Z, vS 4 0] 29, some ⟨a3s (mk3 1 R.length), 25, false, true⟩, rB [vN X, vN Y, vN Z, vS 6 R.length] 29, some ⟨[], 25, false, true⟩]) (by kernel_rfl) ?_
    refine kSeq ?_
    refine cSeq ?_
    refine cReg ?_
    refine segEndH [1, 2, 6, 7, 9, 12, 13] (T1 := (mkT 101 [(1, vI 2), (2, vP 0 0), (6, vP 3 0), (7, .bool true), (9, vP 7 0), (12, vN (1 + 3 * R.length)), (13, vI 1)])) (by kernel_rfl) ?_
    refine kSeq ?_
    refine cSeq ?_
    refine cReg ?_
    refine segH 2 (T1 := (mkT 101 [(1, vI 2), (2, vP 0 0), (6, vP 3 0), (7, .bool true), (9, vP 7 0), (12, vN (1 + 3 * R.length)), (13, vI 1), (69, .agg #[vN X, vN Y, vN Z, vS 6 R.length]), (70, vI 1)])) (by kernel_rfl) ?_
    refine rCall (v := vN (1 + 3 * R.length)) (args := [.agg #[vN X, vN Y, vN Z, vS 6 R.length], vI 1]) (by kernel_rfl) rfl (by kernel_rfl) (Sound.lay0 [6] (heldHeapB ((X : Nat) : Int) ((Y : Nat) : Int) ((Z : Nat) : Int) 1 R.length (by first | omega | assumption | (simp; done)) (by first | assumption | omega | rfl | decide | exact HeapL.list _ _ _ _ | exact HeapL.nil _ _ _ | exact HeapL.all _ _ _ | (apply HeapL.lt64 <;> assumption) | (repeat' (first | assumption | apply or_lt64 | apply and_lt64 | apply andn_lt64 | apply pow_lt64 | (apply HeapL.lt64 <;> assumption))))) ⟨rdF true (flatA3 _ _ _ _) rfl rfl, trivial⟩ rfl ⟨clF (flatA3 _ _ _ _), trivial⟩ rfl (by first | rfl | simp [mpV, mpA, mpS, mpP, renId, shift]) rfl) ?_
    refine segEndH [1, 2, 6, 7, 9, 12, 13] (T1 := (mkT 101 [(1, vI 2), (2, vP 0 0), (6, vP 3 0), (7, .bool true), (9, vP 7 0), (12, vN (1 + 3 * R.length)), (13, vN (1 + 3 * R.length))])) (by kernel_rfl) ?_
    refine kSeq ?_
    refine cSeq ?_
    refine cSeq ?_
    refine cReg ?_
    refine segEndH [1, 2, 6, 7, 9, 12, 13, 73] (T1 := (mkT 101 [(1, vI 2), (2, vP 0 0), (6, vP 3 0), (7, .bool true), (9, vP 7 0), (12, vN (1 + 3 * R.length)), (13, vN (1 + 3 * R.length)), (73, .bool (decide (((1 + 3 * R.length : Nat) : Int) < 0)))])) (by kernel_rfl) ?_
    refine kSeq ?_
    cases h2 : (decide (((1 + 3 * R.length : Nat) : Int) < 0) : Bool)
    ·
      (try simp only [Bool.not_eq_true', Bool.not_eq_false', decide_eq_true_eq, decide_eq_false_iff_not, beq_iff_eq, bne_iff_ne, beq_eq_false_iff_ne, bne_eq_false_iff_eq, ne_eq, Decidable.not_not, Bool.and_eq_true, Bool.and_eq_false_imp, Bool.or_eq_true, Bool.or_eq_false_iff, Bool.not_eq_true, Int.not_lt, Int.not_le, ge_iff_le, gt_iff_lt] at h2)
      refine cFalse (by kernel_rfl) ?_
      refine cSkip ?_
      refine kSeq ?_
      refine cSeq ?_
      refine cSeq ?_
      refine cReg ?_
      refine segH 2 (T1 := (mkT 101 [(1, vI 2), (2, vP 0 0), (6, vP 3 0), (7, .bool true), (9, vP 7 0), (12, vN (1 + 3 * R.length)), (13, vN (1 + 3 * R.length)), (73, .bool false), (74, vN (1 + 3 * R.length)), (75, vN (1 + 3 * R.length))])) (by kernel_rfl) ?_
      refine rOp (v := .bool false) (by kernel_rfl) (eNeS (k := .i64) (a := ((1 + 3 * R.length : Nat) : Int)) (by kernel_rfl) (by kernel_rfl)) ?_
      refine segEndH [1, 2, 6, 7, 9, 12, 76] (T1 := (mkT 101 [(1, vI 2), (2, vP 0 0), (6, vP 3 0), (7, .bool true), (9, vP 7 0), (12, vN (1 + 3 * R.length)), (76, .bool false)])) (by kernel_rfl) ?_
      refine kSeq ?_
      refine cFalse (by kernel_rfl) ?_
      refine cSkip ?_
      refine kSeq ?_
      refine cSeq ?_
      refine cReg ?_
      refine segH 1 (T1 := (mkT 101 [(1, vI 2), (2, vP 0 0), (6, vP 3 0), (7, .bool true), (9, vP 7 0), (12, vN (1 + 3 * R.length)), (76, .bool false), (78, .agg #[vN X, vN Y, vN Z, .slice none 0 0])])) (by kernel_rfl) ?_
      refine rCall (v := .agg #[vN X, vN Y, vN Z, vS 9 0]) (args := [.agg #[vN X, vN Y, vN Z, .slice none 0 0]]) (by kernel_rfl) rfl (by kernel_rfl) (Sound.lay (E := [some ⟨[], 25, false, true⟩]) [] (toHeapN ((X : Nat) : Int) ((Y : Nat) : Int) ((Z : Nat) : Int)) trivial rfl trivial rfl (by first | rfl | simp [mpV, mpA, mpS, mpP, renId, shift]) (by first | rfl | simp [mpV, mpA, mpS, mpP, renId, shift]) ⟨enX rfl (Or.inl rfl), trivial⟩) ?_
      refine seg 1 (T1 := (mkT 101 [(1, vI 2), (2, vP 0 0), (6, vP 3 0), (7, .bool true), (9, vP 7 0), (12, vN (1 + 3 * R.length)), (76, .bool false), (78, .agg #[vN X, vN Y, vN Z, .slice none 0 0]), (79, .agg #[vN X, vN Y, vN Z, vS 9 0]), (80, vI 2)])) (H1 := [rB [vN X, vN Y, vN Z, .slice none 0 0] 24, some ⟨[], 25, false, true⟩, some ⟨a3s R, 25, false, true⟩, rB [vN X, vN Y, vN Z, vS 2 R.length] 29, some ⟨a3s (mk3 1 ([] : List A3).length), 25, false, true⟩, rB [vN X, vN Y, vN Z, vS 4 0] 29, some ⟨a3s (mk3 1 R.length), 25, false, true⟩, rB [vN X, vN Y, vN Z, vS 6 R.length] 29, some ⟨[], 25, false, true⟩, some ⟨[], 25, false, true⟩]) (by kernel_rfl) ?_
      refine rCall (v := .tuple #[.agg #[vN X, vN Y, vN Z, vS 10 R.length], .bool true]) (args := [.agg #[vN X, vN Y, vN Z, vS 9 0], vI 2]) (by kernel_rfl) rfl (by kernel_rfl) (Sound.lay (E := [some ⟨a3s R, 25, false, true⟩]) [9] (implMirrorHeap_2R X Y Z ([] : List A3) R (by first | assumption | omega | rfl | decide | exact HeapL.list _ _ _ _ | exact HeapL.nil _ _ _ | exact HeapL.all _ _ _ | (apply HeapL.lt64 <;> assumption) | (repeat' (first | assumption | apply or_lt64 | apply and_lt64 | apply andn_lt64 | apply pow_lt64 | (apply HeapL.lt64 <;> assumption)))) (by first | assumption | omega | rfl | decide | exact HeapL.list _ _ _ _ | exact HeapL.nil _ _ _ | exact HeapL.all _ _ _ | (apply HeapL.lt64 <;> assumption) | (repeat' (first | assumption | apply or_lt64 | apply and_lt64 | apply andn_lt64 | apply pow_lt64 | (apply HeapL.lt64 <;> assumption)))) (by first | assumption | omega | rfl | decide | exact HeapL.list _ _ _ _ | exact HeapL.nil _ _ _ | exact HeapL.all _ _ _ | (apply HeapL.lt64 <;> assumption) | (repeat' (first | assumption | apply or_lt64 | apply and_lt64 | apply andn_lt64 | apply pow_lt64 | (apply HeapL.lt64 <;> assumption))))) ⟨rdF true (flatA3 _ _ _ _) rfl rfl, trivial⟩ rfl ⟨clF (flatA3 _ _ _ _), trivial⟩ rfl (by first | rfl | simp [mpV, mpA, mpS, mpP, renId, shift]) (by first | rfl | simp [mpV, mpA, mpS, mpP, renId, shift]) ⟨enF (flatA3 _ _ _ _) (Or.inl rfl), trivial⟩) ?_
      refine segEnd [6, 7, 9, 12, 14, 15] (T1 := (mkT 101 [(6, vP 3 0), (7, .bool true), (9, vP 7 0), (12, vN (1 + 3 * R.length)), (14, vP 11 0), (15, .bool true)])) (H1 := [rB [vN X, vN Y, vN Z, .slice none 0 0] 24, some ⟨[], 25, false, true⟩, some ⟨a3s R, 25, false, true⟩, rB [vN X, vN Y, vN Z, vS 2 R.length] 29, some ⟨a3s (mk3 1 ([] : List A3).length), 25, false, true⟩, rB [vN X, vN Y, vN Z, vS 4 0] 29, some ⟨a3s (mk3 1 R.length), 25, false, true⟩, rB [vN X, vN Y, vN Z, vS 6 R.length] 29, some ⟨[], 25, false, true⟩, some ⟨[], 25, false, true⟩, some ⟨a3s R, 25, false, true⟩, rB [vN X, vN Y, vN Z, vS 10 R.length] 29]) (by kernel_rfl) ?_
      refine kSeq ?_
      refine cSeq ?_
      refine cSeq ?_
      refine cReg ?_
      refine segH 2 (T1 := (mkT 101 [(6, vP 3 0), (7, .bool true), (9, vP 7 0), (12, vN (1 + 3 * R.length)), (14, vP 11 0), (15, .bool true), (84, .agg #[vN X, vN Y, vN Z, vS 10 R.length]), (85, .agg #[vN X, vN Y, vN Z, vS 2 R.length])])) (by kernel_rfl) ?_
      refine rCall (v := .bool true) (args := [.agg #[vN X, vN Y, vN Z, vS 10 R.length], .agg #[vN X, vN Y, vN Z, vS 2 R.length]]) (by kernel_rfl) rfl (by kernel_rfl) (Sound.lay0 [10, 2] (eqHeapB ((X : Nat) : Int) ((Y : Nat) : Int) ((Z : Nat) : Int) R (by first | omega | assumption | (simp; done))) ⟨rdF true (flatA3 _ _ _ _) rfl rfl, ⟨rdF true (flatA3 _ _ _ _) rfl rfl, trivial⟩⟩ rfl ⟨clF (flatA3 _ _ _ _), ⟨clF (flatA3 _ _ _ _), trivial⟩⟩ rfl (by first | rfl | simp [mpV, mpA, mpS, mpP, renId, shift]) rfl) ?_
      refine segEndH [9, 12, 92] (T1 := (mkT 101 [(9, vP 7 0), (12, vN (1 + 3 * R.length)), (92, .bool false)])) (by kernel_rfl) ?_
      refine kSeq ?_
      refine cFalse (by kernel_rfl) ?_
      refine cSkip ?_
      refine kSeq ?_
      refine cSeq ?_
      refine cReg ?_
      refine segEndH [9, 12, 13] (T1 := (mkT 101 [(9, vP 7 0), (12, vN (1 + 3 * R.length)), (13, vI 1)])) (by kernel_rfl) ?_
      refine kSeq ?_
      refine cSeq ?_
      refine cReg ?_
      refine segH 2 (T1 := (mkT 101 [(9, vP 7 0), (12, vN (1 + 3 * R.length)), (13, vI 1), (93, .agg #[vN X, vN Y, vN Z, vS 6 R.length]), (94, vI 1)])) (by kernel_rfl) ?_
      refine rCall (v := vN (1 + 3 * R.length)) (args := [.agg #[vN X, vN Y, vN Z, vS 6 R.length], vI 1]) (by kernel_rfl) rfl (by kernel_rfl) (Sound.lay0 [6] (heldHeapB ((X : Nat) : Int) ((Y : Nat) : Int) ((Z : Nat) : Int) 1 R.length (by first | omega | assumption | (simp; done)) (by first | assumption | omega | rfl | decide | exact HeapL.list _ _ _ _ | exact HeapL.nil _ _ _ | exact HeapL.all _ _ _ | (apply HeapL.lt64 <;> assumption) | (repeat' (first | assumption | apply or_lt64 | apply and_lt64 | apply andn_lt64 | apply pow_lt64 | (apply HeapL.lt64 <;> assumption))))) ⟨rdF true (flatA3 _ _ _ _) rfl rfl, trivial⟩ rfl ⟨clF (flatA3 _ _ _ _), trivial⟩ rfl (by first | rfl | simp [mpV, mpA, mpS, mpP, renId, shift]) rfl) ?_
      refine segEndH [12, 13] (T1 := (mkT 101 [(12, vN (1 + 3 * R.length)), (13, vN (1 + 3 * R.length))])) (by kernel_rfl) ?_
      refine kSeq ?_
      refine cSeq ?_
      refine cSeq ?_
      refine cReg ?_
      refine segEndH [12, 13, 97] (T1 := (mkT 101 [(12, vN (1 + 3 * R.length)), (13, vN (1 + 3 * R.length)), (97, .bool (decide (((1 + 3 * R.length : Nat) : Int) < 0)))])) (by kernel_rfl) ?_
      refine kSeq ?_
      cases h3 : (decide (((1 + 3 * R.length : Nat) : Int) < 0) : Bool)
      ·
        (try simp only [Bool.not_eq_true', Bool.not_eq_false', decide_eq_true_eq, decide_eq_false_iff_not, beq_iff_eq, bne_iff_ne, beq_eq_false_iff_ne, bne_eq_false_iff_eq, ne_eq, Decidable.not_not, Bool.and_eq_true, Bool.and_eq_false_imp, Bool.or_eq_true, Bool.or_eq_false_iff, Bool.not_eq_true, Int.not_lt, Int.not_le, ge_iff_le, gt_iff_lt] at h3)
        refine cFalse (by kernel_rfl) ?_
        refine cSkip ?_
        refine kSeq ?_
        refine cSeq ?_
        refine cSeq ?_
        refine cReg ?_
        refine segH 2 (T1 := (mkT 101 [(12, vN (1 + 3 * R.length)), (13, vN (1 + 3 * R.length)), (97, .bool false), (98, vN (1 + 3 * R.length)), (99, vN (1 + 3 * R.length))])) (by kernel_rfl) ?_
        refine rOp (v := .bool false) (by kernel_rfl) (eNeS (k := .i64) (a := ((1 + 3 * R.length : Nat) : Int)) (by kernel_rfl) (by kernel_rfl)) ?_
        refine segEndH [100] (T1 := (mkT 101 [(100, .bool false)])) (by kernel_rfl) ?_
        refine kSeq ?_
        refine cFalse (by kernel_rfl) ?_
        refine cSkip ?_
        refine kSeq ?_
        refine cSeq ?_
        refine cReg ?_
        refine segEndH [4] (T1 := (mkT 101 [(4, .bool true)])) (by kernel_rfl) ?_
        refine kSeq ?_
        refine cRet ?_
        -- end
        exact endQ (Or.inr rfl) (l := [.bool true]) [rB [vN X, vN Y, vN Z, .slice none 0 0] 24, some ⟨[], 25, false, true⟩, some ⟨a3s R, 25, false, true⟩, rB [vN X, vN Y, vN Z, vS 2 R.length] 29, some ⟨a3s (mk3 1 ([] : List A3).length), 25, false, true⟩, rB [vN X, vN Y, vN Z, vS 4 0] 29, some ⟨a3s (mk3 1 R.length), 25, false, true⟩, rB [vN X, vN Y, vN Z, vS 6 R.length] 29, some ⟨[], 25, false, true⟩, some ⟨[], 25, false, true⟩, some ⟨a3s R, 25, false, true⟩, rB [vN X, vN Y, vN Z, vS 10 R.length] 29] (by kernel_rfl) (by first | rfl | kernel_rfl) rfl rfl hcl rfl
      ·
        (try simp only [Bool.not_eq_true', Bool.not_eq_false', decide_eq_true_eq, decide_eq_false_iff_not, beq_iff_eq, bne_iff_ne, beq_eq_false_iff_ne, bne_eq_false_iff_eq, ne_eq, Decidable.not_not, Bool.and_eq_true, Bool.and_eq_false_imp, Bool.or_eq_true, Bool.or_eq_false_iff, Bool.not_eq_true, Int.not_lt, Int.not_le, ge_iff_le, gt_iff_lt] at h3)
        exfalso; omega
    ·
      (try simp only [Bool.not_eq_true', Bool.not_eq_false', decide_eq_true_eq, decide_eq_false_iff_not, beq_iff_eq, bne_iff_ne, beq_eq_false_iff_ne, bne_eq_false_iff_eq, ne_eq, Decidable.not_not, Bool.and_eq_true, Bool.and_eq_false_imp, Bool.or_eq_true, Bool.or_eq_false_iff, Bool.not_eq_true, Int.not_lt, Int.not_le, ge_iff_le, gt_iff_lt] at h2)
      exfalso; omega
  ·
    (try simp only [Bool.not_eq_true', Bool.not_eq_false', decide_eq_true_eq, decide_eq_false_iff_not, beq_iff_eq, bne_iff_ne, beq_eq_false_iff_ne, bne_eq_false_iff_eq, ne_eq, Decidable.not_not, Bool.and_eq_true, Bool.and_eq_false_imp, Bool.or_eq_true, Bool.or_eq_false_iff, Bool.not_eq_true, Int.not_lt, Int.not_le, ge_iff_le, gt_iff_lt] at h1)
    exfalso; omega

theorem lawMirrorHeap_s (x y z : Int) (L : List A3) (k : Int) (hm : L.length ≤ 9223372036854775807) : Sound Try.prog 13 [.agg #[vI x, vI y, vI z, vS 0 L.length], vI k] [some ⟨a3s L, 25, false, false⟩] (.bool true) [some ⟨a3s L, 25, false, false⟩] := by
  by_cases hl : L.length ≤ 1048576
  · cases hv : isHeapB x y z L
    · exact lawMirrorHeap_no_s x y z L k hl hv
    · obtain ⟨X, Y, Z, rfl, rfl, rfl, hs, hL⟩ := heapL_of hv
      cases hk : inR k 0 2
      · exact lawMirrorHeap_no2_s X Y Z L k hs hL hk
      · simp only [inR, Bool.and_eq_true, decide_eq_true_eq] at hk
        have hd : k = 0 ∨ k = 1 ∨ k = 2 := by omega
        rcases hd with rfl | rfl | rfl
        · exact lawMirrorHeap_d0_s X Y Z L _ hs hL rfl
        · exact lawMirrorHeap_d1_s X Y Z L _ hs hL rfl
        · exact lawMirrorHeap_d2_s X Y Z L _ hs hL rfl
  · exact lawMirrorHeap_big_s x y z L k (by omega) hm

theorem lawMirrorHeap_n (x y z : Int) (k : Int)  : Sound Try.prog 13 [.agg #[vI x, vI y, vI z, .slice none 0 0], vI k] [] (.bool true) [] := by
  cases hv : isHeapB x y z ([] : List A3)
  · exact lawMirrorHeap_no_n x y z k hv
  · obtain ⟨X, Y, Z, rfl, rfl, rfl, hs, hL⟩ := heapL_of hv
    cases hk : inR k 0 2
    · exact lawMirrorHeap_no2_n X Y Z k hs hk
    · simp only [inR, Bool.and_eq_true, decide_eq_true_eq] at hk
      have hd : k = 0 ∨ k = 1 ∨ k = 2 := by omega
      rcases hd with rfl | rfl | rfl
      · exact lawMirrorHeap_d0_n X Y Z _ hs rfl
      · exact lawMirrorHeap_d1_n X Y Z _ hs rfl
      · exact lawMirrorHeap_d2_n X Y Z _ hs rfl
end Go.Proofs.Ytenkiofddpjidaa
namespace Go.Proofs.Ytenkiofddpjidaa.fnExactMirrorHeap
open Go.Am Go.ChangeShapes Go.WideShapes Go.ChangeAt Go.RowKit
theorem own : ownKnob Try.prog.godebug = none := by kernel_rfl
theorem laidOut : laidOutB Try.prog = true := by kernel_rfl
set_option maxRecDepth 100000 in
theorem lifted (os : Os) (started : os.Started) (H : Type) (enc : TypeId × Value → H) :
    ReturnsInHanded {} Try.checked os 13 .any (Rows.fnExactMirrorHeapSpec.pre6 enc Try.prog Try.f13 Rows.fnExactMirrorHeapRow.domain false) (Rows.fnExactMirrorHeapSpec.post enc Try.prog Try.f13 false true false false) := by
  refine returnsInHanded_of_change_sized (C := Try.checked) own started (by kernel_rfl) Try.func13
    (ChangeSpec.witness6 (enc := enc) (C := Try.checked) false ⟨#[], #[.agg #[.int .i64 0, .int .i64 0, .int .i64 0, .slice none 0 0], .int .i64 0], []⟩ 8 (by kernel_rfl) (by kernel_rfl) (by kernel_rfl) (by kernel_rfl)) ?_
  intro W base args ds gs before hval0 hW hcnd hsz0 _
  have hval : ∀ (j : Nat) t v, Try.f13.params[j]? = some t → args[j]? = some v → Value.okWide Try.prog W .any base t v := hval0
  have hW' := hW
  obtain ⟨p, q, hA0, hV, rfl, hfz, hnd⟩ := hW
  have hA : DataW.TrodAll enc Try.prog W 0 (fun _ => true) true Try.f13.params.toList args.toList ds p := hA0
  rw [Try.params13] at hA hval
  obtain ⟨v0, vs0, d0, ds0, p0, q0, hargs, rfl, rfl, h0, r0⟩ := trodAll_cons hA
  obtain ⟨v1, vs1, d1, ds1, p1, q1, rfl, rfl, rfl, h1, r1⟩ := trodAll_cons r0
  obtain ⟨rfl, rfl, rfl⟩ := trodAll_nil r1
  obtain rfl : args = #[v0, v1] := by cases args; simp_all
  obtain ⟨rfl, rfl⟩ := trodVars_none hV
  have hlt0 : ∀ x ∈ p0, x.block < W.heap.size := fun x hx => by simpa using hW'.lt x (by simp [hx])
  have hlt1 : ∀ x ∈ p1, x.block < W.heap.size := fun x hx => by simpa using hW'.lt x (by simp [hx])
  have fin : (∃ Q : Prop, Q) ∧ Calls Try.prog 13 #[v0, v1] W (fun e W' => e = .returned (.bool true) ∧ Below W.heap.size W W') := by
    refine ⟨⟨True, trivial⟩, ?_⟩
    obtain ⟨x0, y0, z0, wx0, wy0, wz0, hor0⟩ := open_heap (b0 := base) Try.underlying24 ⟨rfl, rfl⟩ ⟨rfl, rfl⟩ ⟨rfl, rfl⟩ ⟨rfl, rfl⟩ Try.underlying22 Try.underlying25 Try.underlying3 (by kernel_rfl) (by kernel_rfl) (by kernel_rfl) (by kernel_rfl) (by kernel_rfl) (hval 0 24 v0 rfl rfl) h0
    obtain ⟨n1, rfl, _, _, w1⟩ := open_int Try.underlying3 (hval 1 3 v1 rfl rfl) h1
    rcases hor0 with rfl | ⟨ad0, cap0, L0, rfl, hl0, hm0, hsp0, hhas0, hcell0⟩
    · have hS : Sound Try.prog 13 [.agg #[.int .i64 x0, .int .i64 y0, .int .i64 z0, .slice none 0 0], .int .i64 n1] [] (.bool true) [] := lawMirrorHeap_n x0 y0 z0 n1
      exact hS.top0 rfl rfl W
    · have hS : Sound Try.prog 13 [.agg #[.int .i64 x0, .int .i64 y0, .int .i64 z0, .slice (some ⟨0, 0, none⟩) L0.length 0], .int .i64 n1] [some ⟨a3s L0, 25, false, false⟩] (.bool true) [some ⟨a3s L0, 25, false, false⟩] := lawMirrorHeap_s x0 y0 z0 L0 n1 (by have : maxLen = 9223372036854775807 := rfl; omega)
      have hrep := rep_one (P := Try.prog) (b0 := base) (ta := 25) (by kernel_rfl) hhas0 (by rw [Try.underlying25]; simp) hcell0 hl0
      have h := hS.top (fun i r hi => by cases i with
        | zero => simp at hi; subst hi; rfl
        | succ i => simp at hi) hrep (fun x hx i hi => by
        simp at hx
        rcases hx with rfl | rfl <;> simp [idsV, idsA, idsS, idsP] at hi
        simp [hi]) rfl
      obtain ⟨blk0, off0, spot0⟩ := ad0
      simp only at hsp0
      subst hsp0
      simpa [mapV, mpV, mpA, mpS, mpP, toReal] using h
  clear hA0 hval0 hsz0
  refine fin.2.mono fun e W' ⟨he, bel⟩ => ?_
  subst he
  exact ⟨_, rfl, _, _, _, [], _, [], hW', trodAll_mk1 (shut_bool Try.underlying4 _), (trodAll_cons_mk (Below.trod laidOut (by kernel_rfl) (of_decide_eq_true (by kernel_rfl)) h0 bel hlt0) (trodAll_cons_mk (Below.trod laidOut (by kernel_rfl) (of_decide_eq_true (by kernel_rfl)) h1 bel hlt1) trodAll_mk0)), rfl, bel.frame _, fun h => by cases h⟩
theorem over : Rows.fnExactMirrorHeapRow.holds Try.pinned (OpenSpec.ofChange Rows.fnExactMirrorHeapSpec) :=
  OpenClaim.holds_of_wide 13 Try.f13 rfl rfl rfl rfl rfl rfl rfl ⟨rfl, rfl, rfl, rfl, rfl⟩ rfl rfl rfl rfl rfl (by kernel_rfl) Try.func13 (by kernel_rfl)
    (of_decide_eq_true (by kernel_rfl)) (by unfold Func.isWrapper; first | (rw [if_pos (by decide +kernel)]; kernel_rfl) | (rw [if_neg (by decide +kernel)]; exact ⟨rfl, rfl⟩))
    (fun os started H enc _ => lifted os started H enc)
end Go.Proofs.Ytenkiofddpjidaa.fnExactMirrorHeap
namespace Go.Proofs.Ytenkiofddpjidaa
/-- The row, under a short name, for the claim. -/
theorem fnExactMirrorHeap_holds : Rows.FnExactMirrorHeapSaid := fnExactMirrorHeap.over
#print axioms fnExactMirrorHeap_holds
end Go.Proofs.Ytenkiofddpjidaa
