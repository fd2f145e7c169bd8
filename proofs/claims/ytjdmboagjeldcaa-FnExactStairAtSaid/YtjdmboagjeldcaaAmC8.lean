/- Part of the proof, merged out of smaller texts. No condition. -/
import Derived.Test.YtjdmboagjeldcaaAmC2
import Derived.Test.YtjdmboagjeldcaaAmC7
import Derived.Test.YtjdmboagjeldcaaAmC6
import Derived.WalkKit
import Derived.ProofKit
import Derived.OpenShut
import Derived.ShutString
import Derived.ChangeOld
import Derived.Below
import Derived.SizedLaws
set_option linter.unusedVariables false
set_option linter.unusedSimpArgs false
namespace Go.Proofs.Ytjdmboagjeldcaa.F
open Go.Am Go.RowKit
theorem specStairAt_no (x : Int) (y : Int) (z : Int) (k : Int) (hv : okS x y z k = false) : Sound Try.prog 10 [vI x, vI y, vI z, vI k] [] (.tuple #[.agg #[vI 0, vI 0, vI 0, .slice none 0 0], .bool false]) [] := by
 exact specStair_no hv
theorem specStairAt_yes (X : Nat) (Y : Nat) (Z : Nat) (K : Nat) (hs : Sides X Y Z) (ho : okS (X : Int) (Y : Int) (Z : Int) (K : Int) = true) : Sound Try.prog 10 [vN X, vN Y, vN Z, vN K] [] (.tuple #[.agg #[vN X, vN Y, vN Z, vS 0 ((listOf X Y Z (stackS X Y Z (rowS X Y Z K))).length)], .bool true]) [some ⟨a3s (listOf X Y Z (stackS X Y Z (rowS X Y Z K))), 38, false, true⟩] := by
 exact specStair_yes hs ho
theorem implStairAt_no (x : Int) (y : Int) (z : Int) (k : Int) (hv : okS x y z k = false) : Sound Try.prog 11 [vI x, vI y, vI z, vI k] [] (.tuple #[.agg #[vI 0, vI 0, vI 0, .slice none 0 0], .bool false]) [] := by
 exact implStair_no hv
theorem implStairAt_yes (X : Nat) (Y : Nat) (Z : Nat) (K : Nat) (hs : Sides X Y Z) (ho : okS (X : Int) (Y : Int) (Z : Int) (K : Int) = true) : Sound Try.prog 11 [vN X, vN Y, vN Z, vN K] [] (.tuple #[.agg #[vN X, vN Y, vN Z, vS 0 ((listOf X Y Z (stackS X Y Z (rowS X Y Z K))).length)], .bool true]) [some ⟨a3s (listOf X Y Z (stackS X Y Z (rowS X Y Z K))), 38, false, true⟩] := by
 exact implStair_yes hs ho
end Go.Proofs.Ytjdmboagjeldcaa.F
set_option linter.unusedVariables false
set_option linter.unusedSimpArgs false
namespace Go.Proofs.Ytjdmboagjeldcaa.F
open Go.Am Go.RowKit
theorem specStairAt_yesR (X : Nat) (Y : Nat) (Z : Nat) (K : Nat) (R : List A3) (hs : Sides X Y Z) (ho : okS (X : Int) (Y : Int) (Z : Int) (K : Int) = true) (hR : R = listOf X Y Z (stackS X Y Z (rowS X Y Z K))) : Sound Try.prog 10 [vN X, vN Y, vN Z, vN K] [] (.tuple #[.agg #[vN X, vN Y, vN Z, vS 0 R.length], .bool true]) [some ⟨a3s R, 38, false, true⟩] := by
 subst hR; exact specStairAt_yes X Y Z K hs ho
theorem implStairAt_yesR (X : Nat) (Y : Nat) (Z : Nat) (K : Nat) (R : List A3) (hs : Sides X Y Z) (ho : okS (X : Int) (Y : Int) (Z : Int) (K : Int) = true) (hR : R = listOf X Y Z (stackS X Y Z (rowS X Y Z K))) : Sound Try.prog 11 [vN X, vN Y, vN Z, vN K] [] (.tuple #[.agg #[vN X, vN Y, vN Z, vS 0 R.length], .bool true]) [some ⟨a3s R, 38, false, true⟩] := by
 subst hR; exact implStairAt_yes X Y Z K hs ho
set_option maxRecDepth 100000 in
set_option maxHeartbeats 4000000 in
theorem lawStairAt_no_ (x : Int) (y : Int) (z : Int) (k : Int) (hv : okS x y z k = false) : Sound Try.prog 4 [vI x, vI y, vI z, vI k] [] (.bool true) [] := by
 refine sound_intro (C := cx) Try.func4 rfl (by kernel_rfl) fun hcl => ?_
 refine cSeq ?_
 refine cReg ?_
 refine segEndH [0, 1, 2, 3] (T1 := (mkT 78 [(0, vI x), (1, vI y), (2, vI z), (3, vI k)])) (by kernel_rfl) ?_
 refine kSeq ?_
 refine cSeq ?_
 refine cReg ?_
 refine segH 4 (T1 := (mkT 78 [(0, vI x), (1, vI y), (2, vI z), (3, vI k), (18, vI x), (19, vI y), (20, vI z), (21, vI k)])) (by kernel_rfl) ?_
 refine rCall (v := .tuple #[.agg #[vI 0, vI 0, vI 0, .slice none 0 0], .bool false]) (args := [vI x, vI y, vI z, vI k]) (by kernel_rfl) rfl (by kernel_rfl) (Sound.lay0 [] (specStairAt_no x y z k (by first | assumption | omega | rfl | decide | exact HeapL.list _ _ _ _ | exact HeapL.nil _ _ _ | exact HeapL.all _ _ _ | (apply HeapL.lt64 <;> assumption) | (repeat' (first | assumption | apply or_lt64 | apply and_lt64 | apply andn_lt64 | apply pow_lt64 | (apply HeapL.lt64 <;> assumption))))) trivial rfl trivial rfl (by first | rfl | simp [mpV, mpA, mpS, mpP, renId, shift]) (by first | rfl | simp [mpV, mpA, mpS, mpP, renId, shift])) ?_
 refine segEnd [0, 1, 2, 3, 9, 10] (T1 := (mkT 78 [(0, vI x), (1, vI y), (2, vI z), (3, vI k), (9, vP 0 0), (10, .bool false)])) (H1 := [rB [vI 0, vI 0, vI 0, .slice none 0 0] 30]) (by kernel_rfl) ?_
 refine kSeq ?_
 refine cSeq ?_
 refine cReg ?_
 refine segH 4 (T1 := (mkT 78 [(0, vI x), (1, vI y), (2, vI z), (3, vI k), (9, vP 0 0), (10, .bool false), (26, vI x), (27, vI y), (28, vI z), (29, vI k)])) (by kernel_rfl) ?_
 refine rCall (v := .tuple #[.agg #[vI 0, vI 0, vI 0, .slice none 0 0], .bool false]) (args := [vI x, vI y, vI z, vI k]) (by kernel_rfl) rfl (by kernel_rfl) (Sound.lay0 [] (implStairAt_no x y z k (by first | assumption | omega | rfl | decide | exact HeapL.list _ _ _ _ | exact HeapL.nil _ _ _ | exact HeapL.all _ _ _ | (apply HeapL.lt64 <;> assumption) | (repeat' (first | assumption | apply or_lt64 | apply and_lt64 | apply andn_lt64 | apply pow_lt64 | (apply HeapL.lt64 <;> assumption))))) trivial rfl trivial rfl (by first | rfl | simp [mpV, mpA, mpS, mpP, renId, shift]) (by first | rfl | simp [mpV, mpA, mpS, mpP, renId, shift])) ?_
 refine segEnd [0, 1, 2, 3, 9, 10, 11, 12] (T1 := (mkT 78 [(0, vI x), (1, vI y), (2, vI z), (3, vI k), (9, vP 0 0), (10, .bool false), (11, vP 1 0), (12, .bool false)])) (H1 := [rB [vI 0, vI 0, vI 0, .slice none 0 0] 30, rB [vI 0, vI 0, vI 0, .slice none 0 0] 30]) (by kernel_rfl) ?_
 refine kSeq ?_
 refine cSeq ?_
 refine cSeq ?_
 refine cReg ?_
 refine segH 2 (T1 := (mkT 78 [(0, vI x), (1, vI y), (2, vI z), (3, vI k), (9, vP 0 0), (10, .bool false), (11, vP 1 0), (12, .bool false), (33, .agg #[vI 0, vI 0, vI 0, .slice none 0 0]), (34, .agg #[vI 0, vI 0, vI 0, .slice none 0 0])])) (by kernel_rfl) ?_
 refine rCall (v := .bool true) (args := [.agg #[vI 0, vI 0, vI 0, .slice none 0 0], .agg #[vI 0, vI 0, vI 0, .slice none 0 0]]) (by kernel_rfl) rfl (by kernel_rfl) (Sound.lay0 [] (eqHeapN) trivial rfl trivial rfl (by first | rfl | simp [mpV, mpA, mpS, mpP, renId, shift]) rfl) ?_
 refine segEndH [0, 1, 2, 3, 9, 10, 11, 41] (T1 := (mkT 78 [(0, vI x), (1, vI y), (2, vI z), (3, vI k), (9, vP 0 0), (10, .bool false), (11, vP 1 0), (41, .bool false)])) (by kernel_rfl) ?_
 refine kSeq ?_
 refine cFalse (by kernel_rfl) ?_
 refine cSkip ?_
 refine kSeq ?_
 refine cSeq ?_
 refine cReg ?_
 refine segEndH [0, 1, 2, 3, 9, 10, 11, 13] (T1 := (mkT 78 [(0, vI x), (1, vI y), (2, vI z), (3, vI k), (9, vP 0 0), (10, .bool false), (11, vP 1 0), (13, vI 1)])) (by kernel_rfl) ?_
 refine kSeq ?_
 refine cSeq ?_
 refine cReg ?_
 refine segH 2 (T1 := (mkT 78 [(0, vI x), (1, vI y), (2, vI z), (3, vI k), (9, vP 0 0), (10, .bool false), (11, vP 1 0), (13, vI 1), (42, .agg #[vI 0, vI 0, vI 0, .slice none 0 0]), (43, vI 1)])) (by kernel_rfl) ?_
 refine rCall (v := vI 1) (args := [.agg #[vI 0, vI 0, vI 0, .slice none 0 0], vI 1]) (by kernel_rfl) rfl (by kernel_rfl) (Sound.lay0 [] (markHeapN 1) trivial rfl trivial rfl (by first | rfl | simp [mpV, mpA, mpS, mpP, renId, shift]) rfl) ?_
 refine segEndH [0, 1, 2, 3, 9, 10, 11, 13] (T1 := (mkT 78 [(0, vI x), (1, vI y), (2, vI z), (3, vI k), (9, vP 0 0), (10, .bool false), (11, vP 1 0), (13, vI 1)])) (by kernel_rfl) ?_
 refine kSeq ?_
 refine cSeq ?_
 refine cReg ?_
 refine segEndH [0, 1, 2, 3, 9, 10, 11, 13, 14] (T1 := (mkT 78 [(0, vI x), (1, vI y), (2, vI z), (3, vI k), (9, vP 0 0), (10, .bool false), (11, vP 1 0), (13, vI 1), (14, vI 1)])) (by kernel_rfl) ?_
 refine kSeq ?_
 refine cSeq ?_
 refine cReg ?_
 refine segH 2 (T1 := (mkT 78 [(0, vI x), (1, vI y), (2, vI z), (3, vI k), (9, vP 0 0), (10, .bool false), (11, vP 1 0), (13, vI 1), (14, vI 1), (45, .agg #[vI 0, vI 0, vI 0, .slice none 0 0]), (46, vI 1)])) (by kernel_rfl) ?_
 refine rCall (v := vI 1) (args := [.agg #[vI 0, vI 0, vI 0, .slice none 0 0], vI 1]) (by kernel_rfl) rfl (by kernel_rfl) (Sound.lay0 [] (heldHeapN) trivial rfl trivial rfl (by first | rfl | simp [mpV, mpA, mpS, mpP, renId, shift]) rfl) ?_
 refine segEndH [0, 1, 2, 3, 9, 10, 11, 13, 14] (T1 := (mkT 78 [(0, vI x), (1, vI y), (2, vI z), (3, vI k), (9, vP 0 0), (10, .bool false), (11, vP 1 0), (13, vI 1), (14, vI 1)])) (by kernel_rfl) ?_
 refine kSeq ?_
 refine cSeq ?_
 refine cSeq ?_
 refine cReg ?_
 refine segEndH [0, 1, 2, 3, 9, 10, 11, 13, 14, 49] (T1 := (mkT 78 [(0, vI x), (1, vI y), (2, vI z), (3, vI k), (9, vP 0 0), (10, .bool false), (11, vP 1 0), (13, vI 1), (14, vI 1), (49, .bool false)])) (by kernel_rfl) ?_
 refine kSeq ?_
 refine cFalse (by kernel_rfl) ?_
 refine cSkip ?_
 refine kSeq ?_
 refine cSeq ?_
 refine cSeq ?_
 refine cReg ?_
 refine segEndH [0, 1, 2, 3, 9, 10, 11, 13, 52] (T1 := (mkT 78 [(0, vI x), (1, vI y), (2, vI z), (3, vI k), (9, vP 0 0), (10, .bool false), (11, vP 1 0), (13, vI 1), (52, .bool false)])) (by kernel_rfl) ?_
 refine kSeq ?_
 refine cFalse (by kernel_rfl) ?_
 refine cSkip ?_
 refine kSeq ?_
 refine cSeq ?_
 refine cReg ?_
 refine segH 4 (T1 := (mkT 78 [(0, vI x), (1, vI y), (2, vI z), (3, vI k), (9, vP 0 0), (10, .bool false), (11, vP 1 0), (13, vI 1), (52, .bool false), (54, vI x), (55, vI y), (56, vI z), (57, vI k)])) (by kernel_rfl) ?_
 refine rCall (v := .tuple #[.agg #[vI 0, vI 0, vI 0, .slice none 0 0], .bool false]) (args := [vI x, vI y, vI z, vI k]) (by kernel_rfl) rfl (by kernel_rfl) (Sound.lay0 [] (implStairAt_no x y z k (by first | assumption | omega | rfl | decide | exact HeapL.list _ _ _ _ | exact HeapL.nil _ _ _ | exact HeapL.all _ _ _ | (apply HeapL.lt64 <;> assumption) | (repeat' (first | assumption | apply or_lt64 | apply and_lt64 | apply andn_lt64 | apply pow_lt64 | (apply HeapL.lt64 <;> assumption))))) trivial rfl trivial rfl (by first | rfl | simp [mpV, mpA, mpS, mpP, renId, shift]) (by first | rfl | simp [mpV, mpA, mpS, mpP, renId, shift])) ?_
 refine segEnd [9, 10, 11, 13, 15, 16] (T1 := (mkT 78 [(9, vP 0 0), (10, .bool false), (11, vP 1 0), (13, vI 1), (15, vP 2 0), (16, .bool false)])) (H1 := [rB [vI 0, vI 0, vI 0, .slice none 0 0] 30, rB [vI 0, vI 0, vI 0, .slice none 0 0] 30, rB [vI 0, vI 0, vI 0, .slice none 0 0] 30]) (by kernel_rfl) ?_
 refine kSeq ?_
 refine cSeq ?_
 refine cSeq ?_
 refine cReg ?_
 refine segH 2 (T1 := (mkT 78 [(9, vP 0 0), (10, .bool false), (11, vP 1 0), (13, vI 1), (15, vP 2 0), (16, .bool false), (61, .agg #[vI 0, vI 0, vI 0, .slice none 0 0]), (62, .agg #[vI 0, vI 0, vI 0, .slice none 0 0])])) (by kernel_rfl) ?_
 refine rCall (v := .bool true) (args := [.agg #[vI 0, vI 0, vI 0, .slice none 0 0], .agg #[vI 0, vI 0, vI 0, .slice none 0 0]]) (by kernel_rfl) rfl (by kernel_rfl) (Sound.lay0 [] (eqHeapN) trivial rfl trivial rfl (by first | rfl | simp [mpV, mpA, mpS, mpP, renId, shift]) rfl) ?_
 refine segEndH [11, 13, 69] (T1 := (mkT 78 [(11, vP 1 0), (13, vI 1), (69, .bool false)])) (by kernel_rfl) ?_
 refine kSeq ?_
 refine cFalse (by kernel_rfl) ?_
 refine cSkip ?_
 refine kSeq ?_
 refine cSeq ?_
 refine cReg ?_
 refine segEndH [11, 13, 14] (T1 := (mkT 78 [(11, vP 1 0), (13, vI 1), (14, vI 1)])) (by kernel_rfl) ?_
 refine kSeq ?_
 refine cSeq ?_
 refine cReg ?_
 refine segH 2 (T1 := (mkT 78 [(11, vP 1 0), (13, vI 1), (14, vI 1), (70, .agg #[vI 0, vI 0, vI 0, .slice none 0 0]), (71, vI 1)])) (by kernel_rfl) ?_
 refine rCall (v := vI 1) (args := [.agg #[vI 0, vI 0, vI 0, .slice none 0 0], vI 1]) (by kernel_rfl) rfl (by kernel_rfl) (Sound.lay0 [] (heldHeapN) trivial rfl trivial rfl (by first | rfl | simp [mpV, mpA, mpS, mpP, renId, shift]) rfl) ?_
 refine segEndH [13, 14] (T1 := (mkT 78 [(13, vI 1), (14, vI 1)])) (by kernel_rfl) ?_
 refine kSeq ?_
 refine cSeq ?_
 refine cSeq ?_
 refine cReg ?_
 refine segEndH [13, 14, 74] (T1 := (mkT 78 [(13, vI 1), (14, vI 1), (74, .bool false)])) (by kernel_rfl) ?_
 refine kSeq ?_
 refine cFalse (by kernel_rfl) ?_
 refine cSkip ?_
 refine kSeq ?_
 refine cSeq ?_
 refine cSeq ?_
 refine cReg ?_
 refine segEndH [77] (T1 := (mkT 78 [(77, .bool false)])) (by kernel_rfl) ?_
 refine kSeq ?_
 refine cFalse (by kernel_rfl) ?_
 refine cSkip ?_
 refine kSeq ?_
 refine cSeq ?_
 refine cReg ?_
 refine segEndH [8] (T1 := (mkT 78 [(8, .bool true)])) (by kernel_rfl) ?_
 refine kSeq ?_
 refine cRet ?_
 exact endQ (Or.inr rfl) (l := [.bool true]) [rB [vI 0, vI 0, vI 0, .slice none 0 0] 30, rB [vI 0, vI 0, vI 0, .slice none 0 0] 30, rB [vI 0, vI 0, vI 0, .slice none 0 0] 30] (by kernel_rfl) (by first | rfl | kernel_rfl) rfl rfl hcl rfl
set_option maxRecDepth 100000 in
set_option maxHeartbeats 4000000 in
theorem lawStairAt_yes_ (X : Nat) (Y : Nat) (Z : Nat) (K : Nat) (R : List A3) (hs : Sides X Y Z) (ho : okS (X : Int) (Y : Int) (Z : Int) (K : Int) = true) (hR : R = listOf X Y Z (stackS X Y Z (rowS X Y Z K))) : Sound Try.prog 4 [vN X, vN Y, vN Z, vN K] [] (.bool true) [] := by
 refine sound_intro (C := cx) Try.func4 rfl (by kernel_rfl) fun hcl => ?_
 have hr : R.length ≤ 64 := by (rw [hR]; have := (HeapL.list X Y Z (stackS X Y Z (rowS X Y Z K))).len; have := hs.size; omega)
 refine cSeq ?_
 refine cReg ?_
 refine segEndH [0, 1, 2, 3] (T1 := (mkT 78 [(0, vN X), (1, vN Y), (2, vN Z), (3, vN K)])) (by kernel_rfl) ?_
 refine kSeq ?_
 refine cSeq ?_
 refine cReg ?_
 refine segH 4 (T1 := (mkT 78 [(0, vN X), (1, vN Y), (2, vN Z), (3, vN K), (18, vN X), (19, vN Y), (20, vN Z), (21, vN K)])) (by kernel_rfl) ?_
 refine rCall (v := .tuple #[.agg #[vN X, vN Y, vN Z, vS 0 R.length], .bool true]) (args := [vN X, vN Y, vN Z, vN K]) (by kernel_rfl) rfl (by kernel_rfl) (Sound.lay (E := [some ⟨a3s R, 38, false, true⟩]) [] (specStairAt_yesR X Y Z K R (by first | assumption | omega | rfl | decide | exact HeapL.list _ _ _ _ | exact HeapL.nil _ _ _ | exact HeapL.all _ _ _ | (apply HeapL.lt64 <;> assumption) | (repeat' (first | assumption | apply or_lt64 | apply and_lt64 | apply andn_lt64 | apply pow_lt64 | (apply HeapL.lt64 <;> assumption)))) (by first | assumption | omega | rfl | decide | exact HeapL.list _ _ _ _ | exact HeapL.nil _ _ _ | exact HeapL.all _ _ _ | (apply HeapL.lt64 <;> assumption) | (repeat' (first | assumption | apply or_lt64 | apply and_lt64 | apply andn_lt64 | apply pow_lt64 | (apply HeapL.lt64 <;> assumption)))) (by first | assumption | omega | rfl | decide | exact HeapL.list _ _ _ _ | exact HeapL.nil _ _ _ | exact HeapL.all _ _ _ | (apply HeapL.lt64 <;> assumption) | (repeat' (first | assumption | apply or_lt64 | apply and_lt64 | apply andn_lt64 | apply pow_lt64 | (apply HeapL.lt64 <;> assumption))))) trivial rfl trivial rfl (by first | rfl | simp [mpV, mpA, mpS, mpP, renId, shift]) (by first | rfl | simp [mpV, mpA, mpS, mpP, renId, shift]) ⟨enF (flatA3 _ _ _ _) (Or.inl rfl), trivial⟩) ?_
 refine segEnd [0, 1, 2, 3, 9, 10] (T1 := (mkT 78 [(0, vN X), (1, vN Y), (2, vN Z), (3, vN K), (9, vP 1 0), (10, .bool true)])) (H1 := [some ⟨a3s R, 38, false, true⟩, rB [vN X, vN Y, vN Z, vS 0 R.length] 30]) (by kernel_rfl) ?_
 refine kSeq ?_
 refine cSeq ?_
 refine cReg ?_
 refine segH 4 (T1 := (mkT 78 [(0, vN X), (1, vN Y), (2, vN Z), (3, vN K), (9, vP 1 0), (10, .bool true), (26, vN X), (27, vN Y), (28, vN Z), (29, vN K)])) (by kernel_rfl) ?_
 refine rCall (v := .tuple #[.agg #[vN X, vN Y, vN Z, vS 2 R.length], .bool true]) (args := [vN X, vN Y, vN Z, vN K]) (by kernel_rfl) rfl (by kernel_rfl) (Sound.lay (E := [some ⟨a3s R, 38, false, true⟩]) [] (implStairAt_yesR X Y Z K R (by first | assumption | omega | rfl | decide | exact HeapL.list _ _ _ _ | exact HeapL.nil _ _ _ | exact HeapL.all _ _ _ | (apply HeapL.lt64 <;> assumption) | (repeat' (first | assumption | apply or_lt64 | apply and_lt64 | apply andn_lt64 | apply pow_lt64 | (apply HeapL.lt64 <;> assumption)))) (by first | assumption | omega | rfl | decide | exact HeapL.list _ _ _ _ | exact HeapL.nil _ _ _ | exact HeapL.all _ _ _ | (apply HeapL.lt64 <;> assumption) | (repeat' (first | assumption | apply or_lt64 | apply and_lt64 | apply andn_lt64 | apply pow_lt64 | (apply HeapL.lt64 <;> assumption)))) (by first | assumption | omega | rfl | decide | exact HeapL.list _ _ _ _ | exact HeapL.nil _ _ _ | exact HeapL.all _ _ _ | (apply HeapL.lt64 <;> assumption) | (repeat' (first | assumption | apply or_lt64 | apply and_lt64 | apply andn_lt64 | apply pow_lt64 | (apply HeapL.lt64 <;> assumption))))) trivial rfl trivial rfl (by first | rfl | simp [mpV, mpA, mpS, mpP, renId, shift]) (by first | rfl | simp [mpV, mpA, mpS, mpP, renId, shift]) ⟨enF (flatA3 _ _ _ _) (Or.inl rfl), trivial⟩) ?_
 refine segEnd [0, 1, 2, 3, 9, 10, 11, 12] (T1 := (mkT 78 [(0, vN X), (1, vN Y), (2, vN Z), (3, vN K), (9, vP 1 0), (10, .bool true), (11, vP 3 0), (12, .bool true)])) (H1 := [some ⟨a3s R, 38, false, true⟩, rB [vN X, vN Y, vN Z, vS 0 R.length] 30, some ⟨a3s R, 38, false, true⟩, rB [vN X, vN Y, vN Z, vS 2 R.length] 30]) (by kernel_rfl) ?_
 refine kSeq ?_
 refine cSeq ?_
 refine cSeq ?_
 refine cReg ?_
 refine segH 2 (T1 := (mkT 78 [(0, vN X), (1, vN Y), (2, vN Z), (3, vN K), (9, vP 1 0), (10, .bool true), (11, vP 3 0), (12, .bool true), (33, .agg #[vN X, vN Y, vN Z, vS 2 R.length]), (34, .agg #[vN X, vN Y, vN Z, vS 0 R.length])])) (by kernel_rfl) ?_
 refine rCall (v := .bool true) (args := [.agg #[vN X, vN Y, vN Z, vS 2 R.length], .agg #[vN X, vN Y, vN Z, vS 0 R.length]]) (by kernel_rfl) rfl (by kernel_rfl) (Sound.lay0 [2, 0] (eqHeapB ((X : Nat) : Int) ((Y : Nat) : Int) ((Z : Nat) : Int) R (by first | omega | assumption | (simp; done))) ⟨rdF true (flatA3 _ _ _ _) rfl rfl, ⟨rdF true (flatA3 _ _ _ _) rfl rfl, trivial⟩⟩ rfl ⟨clF (flatA3 _ _ _ _), ⟨clF (flatA3 _ _ _ _), trivial⟩⟩ rfl (by first | rfl | simp [mpV, mpA, mpS, mpP, renId, shift]) rfl) ?_
 refine segEndH [0, 1, 2, 3, 9, 10, 11, 41] (T1 := (mkT 78 [(0, vN X), (1, vN Y), (2, vN Z), (3, vN K), (9, vP 1 0), (10, .bool true), (11, vP 3 0), (41, .bool false)])) (by kernel_rfl) ?_
 refine kSeq ?_
 refine cFalse (by kernel_rfl) ?_
 refine cSkip ?_
 refine kSeq ?_
 refine cSeq ?_
 refine cReg ?_
 refine segEndH [0, 1, 2, 3, 9, 10, 11, 13] (T1 := (mkT 78 [(0, vN X), (1, vN Y), (2, vN Z), (3, vN K), (9, vP 1 0), (10, .bool true), (11, vP 3 0), (13, vI 1)])) (by kernel_rfl) ?_
 refine kSeq ?_
 refine cSeq ?_
 refine cReg ?_
 refine segH 2 (T1 := (mkT 78 [(0, vN X), (1, vN Y), (2, vN Z), (3, vN K), (9, vP 1 0), (10, .bool true), (11, vP 3 0), (13, vI 1), (42, .agg #[vN X, vN Y, vN Z, vS 2 R.length]), (43, vI 1)])) (by kernel_rfl) ?_
 refine rCall (v := vN (1 + 3 * R.length)) (args := [.agg #[vN X, vN Y, vN Z, vS 2 R.length], vI 1]) (by kernel_rfl) rfl (by kernel_rfl) (Sound.emb_set (r := ⟨a3s R, 38, false, true⟩) (r' := ⟨a3s (mk3 1 R.length), 38, false, true⟩) 2 (markHeapB ((X : Nat) : Int) ((Y : Nat) : Int) ((Z : Nat) : Int) R 1 (by first | omega | assumption | (simp; done)) (by first | assumption | omega | rfl | decide | exact HeapL.list _ _ _ _ | exact HeapL.nil _ _ _ | exact HeapL.all _ _ _ | (apply HeapL.lt64 <;> assumption) | (repeat' (first | assumption | apply or_lt64 | apply and_lt64 | apply andn_lt64 | apply pow_lt64 | (apply HeapL.lt64 <;> assumption))))) (flatA3 _ _ _ _) rfl (flatA3 _ _ _ _) rfl rfl rfl (by first | rfl | simp [mpV, mpA, mpS, mpP, renId, shift]) rfl) ?_
 refine segEnd [0, 1, 2, 3, 9, 10, 11, 13] (T1 := (mkT 78 [(0, vN X), (1, vN Y), (2, vN Z), (3, vN K), (9, vP 1 0), (10, .bool true), (11, vP 3 0), (13, vN (1 + 3 * R.length))])) (H1 := [some ⟨a3s R, 38, false, true⟩, rB [vN X, vN Y, vN Z, vS 0 R.length] 30, some ⟨a3s (mk3 1 R.length), 38, false, true⟩, rB [vN X, vN Y, vN Z, vS 2 R.length] 30]) (by kernel_rfl) ?_
 refine kSeq ?_
 refine cSeq ?_
 refine cReg ?_
 refine segEndH [0, 1, 2, 3, 9, 10, 11, 13, 14] (T1 := (mkT 78 [(0, vN X), (1, vN Y), (2, vN Z), (3, vN K), (9, vP 1 0), (10, .bool true), (11, vP 3 0), (13, vN (1 + 3 * R.length)), (14, vI 1)])) (by kernel_rfl) ?_
 refine kSeq ?_
 refine cSeq ?_
 refine cReg ?_
 refine segH 2 (T1 := (mkT 78 [(0, vN X), (1, vN Y), (2, vN Z), (3, vN K), (9, vP 1 0), (10, .bool true), (11, vP 3 0), (13, vN (1 + 3 * R.length)), (14, vI 1), (45, .agg #[vN X, vN Y, vN Z, vS 2 R.length]), (46, vI 1)])) (by kernel_rfl) ?_
 refine rCall (v := vN (1 + 3 * R.length)) (args := [.agg #[vN X, vN Y, vN Z, vS 2 R.length], vI 1]) (by kernel_rfl) rfl (by kernel_rfl) (Sound.lay0 [2] (heldHeapB ((X : Nat) : Int) ((Y : Nat) : Int) ((Z : Nat) : Int) 1 R.length (by first | omega | assumption | (simp; done)) (by first | assumption | omega | rfl | decide | exact HeapL.list _ _ _ _ | exact HeapL.nil _ _ _ | exact HeapL.all _ _ _ | (apply HeapL.lt64 <;> assumption) | (repeat' (first | assumption | apply or_lt64 | apply and_lt64 | apply andn_lt64 | apply pow_lt64 | (apply HeapL.lt64 <;> assumption))))) ⟨rdF true (flatA3 _ _ _ _) rfl rfl, trivial⟩ rfl ⟨clF (flatA3 _ _ _ _), trivial⟩ rfl (by first | rfl | simp [mpV, mpA, mpS, mpP, renId, shift]) rfl) ?_
 refine segEndH [0, 1, 2, 3, 9, 10, 11, 13, 14] (T1 := (mkT 78 [(0, vN X), (1, vN Y), (2, vN Z), (3, vN K), (9, vP 1 0), (10, .bool true), (11, vP 3 0), (13, vN (1 + 3 * R.length)), (14, vN (1 + 3 * R.length))])) (by kernel_rfl) ?_
 refine kSeq ?_
 refine cSeq ?_
 refine cSeq ?_
 refine cReg ?_
 refine segEndH [0, 1, 2, 3, 9, 10, 11, 13, 14, 49] (T1 := (mkT 78 [(0, vN X), (1, vN Y), (2, vN Z), (3, vN K), (9, vP 1 0), (10, .bool true), (11, vP 3 0), (13, vN (1 + 3 * R.length)), (14, vN (1 + 3 * R.length)), (49, .bool (decide (((1 + 3 * R.length : Nat) : Int) < 0)))])) (by kernel_rfl) ?_
 refine kSeq ?_
 cases h1 : (decide (((1 + 3 * R.length : Nat) : Int) < 0) : Bool)
 ·
  (try simp only [bs0, bs1, bs2, bs3, beq_iff_eq, bne_iff_ne, beq_eq_false_iff_ne, bne_eq_false_iff_eq, ne_eq, bs4, bs5, bs6, bs7, bs8, bs9, bs10, bs11, ge_iff_le, gt_iff_lt] at h1)
  refine cFalse (by kernel_rfl) ?_
  refine cSkip ?_
  refine kSeq ?_
  refine cSeq ?_
  refine cSeq ?_
  refine cReg ?_
  refine segH 2 (T1 := (mkT 78 [(0, vN X), (1, vN Y), (2, vN Z), (3, vN K), (9, vP 1 0), (10, .bool true), (11, vP 3 0), (13, vN (1 + 3 * R.length)), (14, vN (1 + 3 * R.length)), (49, .bool false), (50, vN (1 + 3 * R.length)), (51, vN (1 + 3 * R.length))])) (by kernel_rfl) ?_
  refine rOp (v := .bool false) (by kernel_rfl) (eNeS (k := .i64) (a := ((1 + 3 * R.length : Nat) : Int)) (by kernel_rfl) (by kernel_rfl)) ?_
  refine segEndH [0, 1, 2, 3, 9, 10, 11, 13, 52] (T1 := (mkT 78 [(0, vN X), (1, vN Y), (2, vN Z), (3, vN K), (9, vP 1 0), (10, .bool true), (11, vP 3 0), (13, vN (1 + 3 * R.length)), (52, .bool false)])) (by kernel_rfl) ?_
  refine kSeq ?_
  refine cFalse (by kernel_rfl) ?_
  refine cSkip ?_
  refine kSeq ?_
  refine cSeq ?_
  refine cReg ?_
  refine segH 4 (T1 := (mkT 78 [(0, vN X), (1, vN Y), (2, vN Z), (3, vN K), (9, vP 1 0), (10, .bool true), (11, vP 3 0), (13, vN (1 + 3 * R.length)), (52, .bool false), (54, vN X), (55, vN Y), (56, vN Z), (57, vN K)])) (by kernel_rfl) ?_
  refine rCall (v := .tuple #[.agg #[vN X, vN Y, vN Z, vS 4 R.length], .bool true]) (args := [vN X, vN Y, vN Z, vN K]) (by kernel_rfl) rfl (by kernel_rfl) (Sound.lay (E := [some ⟨a3s R, 38, false, true⟩]) [] (implStairAt_yesR X Y Z K R (by first | assumption | omega | rfl | decide | exact HeapL.list _ _ _ _ | exact HeapL.nil _ _ _ | exact HeapL.all _ _ _ | (apply HeapL.lt64 <;> assumption) | (repeat' (first | assumption | apply or_lt64 | apply and_lt64 | apply andn_lt64 | apply pow_lt64 | (apply HeapL.lt64 <;> assumption)))) (by first | assumption | omega | rfl | decide | exact HeapL.list _ _ _ _ | exact HeapL.nil _ _ _ | exact HeapL.all _ _ _ | (apply HeapL.lt64 <;> assumption) | (repeat' (first | assumption | apply or_lt64 | apply and_lt64 | apply andn_lt64 | apply pow_lt64 | (apply HeapL.lt64 <;> assumption)))) (by first | assumption | omega | rfl | decide | exact HeapL.list _ _ _ _ | exact HeapL.nil _ _ _ | exact HeapL.all _ _ _ | (apply HeapL.lt64 <;> assumption) | (repeat' (first | assumption | apply or_lt64 | apply and_lt64 | apply andn_lt64 | apply pow_lt64 | (apply HeapL.lt64 <;> assumption))))) trivial rfl trivial rfl (by first | rfl | simp [mpV, mpA, mpS, mpP, renId, shift]) (by first | rfl | simp [mpV, mpA, mpS, mpP, renId, shift]) ⟨enF (flatA3 _ _ _ _) (Or.inl rfl), trivial⟩) ?_
  refine segEnd [9, 10, 11, 13, 15, 16] (T1 := (mkT 78 [(9, vP 1 0), (10, .bool true), (11, vP 3 0), (13, vN (1 + 3 * R.length)), (15, vP 5 0), (16, .bool true)])) (H1 := [some ⟨a3s R, 38, false, true⟩, rB [vN X, vN Y, vN Z, vS 0 R.length] 30, some ⟨a3s (mk3 1 R.length), 38, false, true⟩, rB [vN X, vN Y, vN Z, vS 2 R.length] 30, some ⟨a3s R, 38, false, true⟩, rB [vN X, vN Y, vN Z, vS 4 R.length] 30]) (by kernel_rfl) ?_
  refine kSeq ?_
  refine cSeq ?_
  refine cSeq ?_
  refine cReg ?_
  refine segH 2 (T1 := (mkT 78 [(9, vP 1 0), (10, .bool true), (11, vP 3 0), (13, vN (1 + 3 * R.length)), (15, vP 5 0), (16, .bool true), (61, .agg #[vN X, vN Y, vN Z, vS 4 R.length]), (62, .agg #[vN X, vN Y, vN Z, vS 0 R.length])])) (by kernel_rfl) ?_
  refine rCall (v := .bool true) (args := [.agg #[vN X, vN Y, vN Z, vS 4 R.length], .agg #[vN X, vN Y, vN Z, vS 0 R.length]]) (by kernel_rfl) rfl (by kernel_rfl) (Sound.lay0 [4, 0] (eqHeapB ((X : Nat) : Int) ((Y : Nat) : Int) ((Z : Nat) : Int) R (by first | omega | assumption | (simp; done))) ⟨rdF true (flatA3 _ _ _ _) rfl rfl, ⟨rdF true (flatA3 _ _ _ _) rfl rfl, trivial⟩⟩ rfl ⟨clF (flatA3 _ _ _ _), ⟨clF (flatA3 _ _ _ _), trivial⟩⟩ rfl (by first | rfl | simp [mpV, mpA, mpS, mpP, renId, shift]) rfl) ?_
  refine segEndH [11, 13, 69] (T1 := (mkT 78 [(11, vP 3 0), (13, vN (1 + 3 * R.length)), (69, .bool false)])) (by kernel_rfl) ?_
  refine kSeq ?_
  refine cFalse (by kernel_rfl) ?_
  refine cSkip ?_
  refine kSeq ?_
  refine cSeq ?_
  refine cReg ?_
  refine segEndH [11, 13, 14] (T1 := (mkT 78 [(11, vP 3 0), (13, vN (1 + 3 * R.length)), (14, vI 1)])) (by kernel_rfl) ?_
  refine kSeq ?_
  refine cSeq ?_
  refine cReg ?_
  refine segH 2 (T1 := (mkT 78 [(11, vP 3 0), (13, vN (1 + 3 * R.length)), (14, vI 1), (70, .agg #[vN X, vN Y, vN Z, vS 2 R.length]), (71, vI 1)])) (by kernel_rfl) ?_
  refine rCall (v := vN (1 + 3 * R.length)) (args := [.agg #[vN X, vN Y, vN Z, vS 2 R.length], vI 1]) (by kernel_rfl) rfl (by kernel_rfl) (Sound.lay0 [2] (heldHeapB ((X : Nat) : Int) ((Y : Nat) : Int) ((Z : Nat) : Int) 1 R.length (by first | omega | assumption | (simp; done)) (by first | assumption | omega | rfl | decide | exact HeapL.list _ _ _ _ | exact HeapL.nil _ _ _ | exact HeapL.all _ _ _ | (apply HeapL.lt64 <;> assumption) | (repeat' (first | assumption | apply or_lt64 | apply and_lt64 | apply andn_lt64 | apply pow_lt64 | (apply HeapL.lt64 <;> assumption))))) ⟨rdF true (flatA3 _ _ _ _) rfl rfl, trivial⟩ rfl ⟨clF (flatA3 _ _ _ _), trivial⟩ rfl (by first | rfl | simp [mpV, mpA, mpS, mpP, renId, shift]) rfl) ?_
  refine segEndH [13, 14] (T1 := (mkT 78 [(13, vN (1 + 3 * R.length)), (14, vN (1 + 3 * R.length))])) (by kernel_rfl) ?_
  refine kSeq ?_
  refine cSeq ?_
  refine cSeq ?_
  refine cReg ?_
  refine segEndH [13, 14, 74] (T1 := (mkT 78 [(13, vN (1 + 3 * R.length)), (14, vN (1 + 3 * R.length)), (74, .bool (decide (((1 + 3 * R.length : Nat) : Int) < 0)))])) (by kernel_rfl) ?_
  refine kSeq ?_
  cases h2 : (decide (((1 + 3 * R.length : Nat) : Int) < 0) : Bool)
  ·
   (try simp only [bs0, bs1, bs2, bs3, beq_iff_eq, bne_iff_ne, beq_eq_false_iff_ne, bne_eq_false_iff_eq, ne_eq, bs4, bs5, bs6, bs7, bs8, bs9, bs10, bs11, ge_iff_le, gt_iff_lt] at h2)
   refine cFalse (by kernel_rfl) ?_
   refine cSkip ?_
   refine kSeq ?_
   refine cSeq ?_
   refine cSeq ?_
   refine cReg ?_
   refine segH 2 (T1 := (mkT 78 [(13, vN (1 + 3 * R.length)), (14, vN (1 + 3 * R.length)), (74, .bool false), (75, vN (1 + 3 * R.length)), (76, vN (1 + 3 * R.length))])) (by kernel_rfl) ?_
   refine rOp (v := .bool false) (by kernel_rfl) (eNeS (k := .i64) (a := ((1 + 3 * R.length : Nat) : Int)) (by kernel_rfl) (by kernel_rfl)) ?_
   refine segEndH [77] (T1 := (mkT 78 [(77, .bool false)])) (by kernel_rfl) ?_
   refine kSeq ?_
   refine cFalse (by kernel_rfl) ?_
   refine cSkip ?_
   refine kSeq ?_
   refine cSeq ?_
   refine cReg ?_
   refine segEndH [8] (T1 := (mkT 78 [(8, .bool true)])) (by kernel_rfl) ?_
   refine kSeq ?_
   refine cRet ?_
   exact endQ (Or.inr rfl) (l := [.bool true]) [some ⟨a3s R, 38, false, true⟩, rB [vN X, vN Y, vN Z, vS 0 R.length] 30, some ⟨a3s (mk3 1 R.length), 38, false, true⟩, rB [vN X, vN Y, vN Z, vS 2 R.length] 30, some ⟨a3s R, 38, false, true⟩, rB [vN X, vN Y, vN Z, vS 4 R.length] 30] (by kernel_rfl) (by first | rfl | kernel_rfl) rfl rfl hcl rfl
  ·
   (try simp only [bs0, bs1, bs2, bs3, beq_iff_eq, bne_iff_ne, beq_eq_false_iff_ne, bne_eq_false_iff_eq, ne_eq, bs4, bs5, bs6, bs7, bs8, bs9, bs10, bs11, ge_iff_le, gt_iff_lt] at h2)
   exfalso; omega
 ·
  (try simp only [bs0, bs1, bs2, bs3, beq_iff_eq, bne_iff_ne, beq_eq_false_iff_ne, bne_eq_false_iff_eq, ne_eq, bs4, bs5, bs6, bs7, bs8, bs9, bs10, bs11, ge_iff_le, gt_iff_lt] at h1)
  exfalso; omega
theorem lawStairAt_ (x : Int) (y : Int) (z : Int) (k : Int)  : Sound Try.prog 4 [vI x, vI y, vI z, vI k] [] (.bool true) [] := by
 cases hv : okS x y z k
 ·
  exact lawStairAt_no_ x y z k hv
 ·
  obtain ⟨X, Y, Z, K, rfl, rfl, rfl, rfl, hs⟩ := okS_nat hv
  exact lawStairAt_yes_ X Y Z K _ hs hv rfl
end Go.Proofs.Ytjdmboagjeldcaa.F
namespace Go.Proofs.Ytjdmboagjeldcaa.F.fnExactStairAt
open Go.Am Go.ChangeShapes Go.WideShapes Go.ChangeAt Go.RowKit
theorem own : ownKnob Try.prog.godebug = none := by kernel_rfl
theorem laidOut : laidOutB Try.prog = true := by kernel_rfl
set_option maxRecDepth 100000 in
theorem lifted (os : Os) (started : os.Started) (H : Type) (enc : TypeId × Value → H) :
  ReturnsInHanded {} Try.checked os 4 .any (Rows.fnExactStairAtSpec.pre6 enc Try.prog Try.f4 Rows.fnExactStairAtRow.domain false) (Rows.fnExactStairAtSpec.post enc Try.prog Try.f4 false true false false) := by
 refine returnsInHanded_of_change_sized (C := Try.checked) own started (by kernel_rfl) Try.func4
  (ChangeSpec.witness6 (enc := enc) (C := Try.checked) false ⟨#[], #[.int .i64 0, .int .i64 0, .int .i64 0, .int .i64 0], []⟩ 8 (by kernel_rfl) (by kernel_rfl) (by kernel_rfl) (by kernel_rfl)) ?_
 intro W base args ds gs before hval0 hW hcnd hsz0 _
 have hval : ∀ (j : Nat) t v, Try.f4.params[j]? = some t → args[j]? = some v → Value.okWide Try.prog W .any base t v := hval0
 have hW' := hW
 obtain ⟨p, q, hA0, hV, rfl, hfz, hnd⟩ := hW
 have hA : DataW.TrodAll enc Try.prog W 0 (fun _ => true) true Try.f4.params.toList args.toList ds p := hA0
 rw [Try.params4] at hA hval
 obtain ⟨v0, vs0, d0, ds0, p0, q0, hargs, rfl, rfl, h0, r0⟩ := trodAll_cons hA
 obtain ⟨v1, vs1, d1, ds1, p1, q1, rfl, rfl, rfl, h1, r1⟩ := trodAll_cons r0
 obtain ⟨v2, vs2, d2, ds2, p2, q2, rfl, rfl, rfl, h2, r2⟩ := trodAll_cons r1
 obtain ⟨v3, vs3, d3, ds3, p3, q3, rfl, rfl, rfl, h3, r3⟩ := trodAll_cons r2
 obtain ⟨rfl, rfl, rfl⟩ := trodAll_nil r3
 obtain rfl : args = #[v0, v1, v2, v3] := by cases args; simp_all
 obtain ⟨rfl, rfl⟩ := trodVars_none hV
 have hlt0 : ∀ x ∈ p0, x.block < W.heap.size := fun x hx => by simpa using hW'.lt x (by simp [hx])
 have hlt1 : ∀ x ∈ p1, x.block < W.heap.size := fun x hx => by simpa using hW'.lt x (by simp [hx])
 have hlt2 : ∀ x ∈ p2, x.block < W.heap.size := fun x hx => by simpa using hW'.lt x (by simp [hx])
 have hlt3 : ∀ x ∈ p3, x.block < W.heap.size := fun x hx => by simpa using hW'.lt x (by simp [hx])
 have fin : (∃ Q : Prop, Q) ∧ Calls Try.prog 4 #[v0, v1, v2, v3] W (fun e W' => e = .returned (.bool true) ∧ Below W.heap.size W W') := by
  refine ⟨⟨True, trivial⟩, ?_⟩
  obtain ⟨x, rfl, _, _, wx⟩ := open_int Try.underlying3 (hval 0 3 v0 rfl rfl) h0
  obtain ⟨y, rfl, _, _, wy⟩ := open_int Try.underlying3 (hval 1 3 v1 rfl rfl) h1
  obtain ⟨z, rfl, _, _, wz⟩ := open_int Try.underlying3 (hval 2 3 v2 rfl rfl) h2
  obtain ⟨k, rfl, _, _, wk⟩ := open_int Try.underlying3 (hval 3 3 v3 rfl rfl) h3
  have hS : Sound Try.prog 4 [vI x, vI y, vI z, vI k] [] (.bool true) [] := lawStairAt_ x y z k
  exact hS.top0 rfl rfl W
 clear hA0 hval0 hsz0
 refine fin.2.mono fun e W' ⟨he, bel⟩ => ?_
 subst he
 exact ⟨_, rfl, _, _, _, [], _, [], hW', trodAll_mk1 (shut_bool Try.underlying4 _), (trodAll_cons_mk (Below.trod laidOut (by kernel_rfl) (of_decide_eq_true (by kernel_rfl)) h0 bel hlt0) (trodAll_cons_mk (Below.trod laidOut (by kernel_rfl) (of_decide_eq_true (by kernel_rfl)) h1 bel hlt1) (trodAll_cons_mk (Below.trod laidOut (by kernel_rfl) (of_decide_eq_true (by kernel_rfl)) h2 bel hlt2) (trodAll_cons_mk (Below.trod laidOut (by kernel_rfl) (of_decide_eq_true (by kernel_rfl)) h3 bel hlt3) trodAll_mk0)))), rfl, bel.frame _, fun h => by cases h⟩
theorem over : Rows.fnExactStairAtRow.holds Try.pinned (OpenSpec.ofChange Rows.fnExactStairAtSpec) :=
 OpenClaim.holds_of_wide 4 Try.f4 rfl rfl rfl rfl rfl rfl rfl ⟨rfl, rfl, rfl, rfl, rfl⟩ rfl rfl rfl rfl rfl (by kernel_rfl) Try.func4 (by kernel_rfl)
  (of_decide_eq_true (by kernel_rfl)) (by unfold Func.isWrapper; first | (rw [if_pos (by decide +kernel)]; kernel_rfl) | (rw [if_neg (by decide +kernel)]; exact ⟨rfl, rfl⟩))
  (fun os started H enc _ => lifted os started H enc)
end Go.Proofs.Ytjdmboagjeldcaa.F.fnExactStairAt
namespace Go.Proofs.Ytjdmboagjeldcaa.F
theorem fnExactStairAt_holds : Rows.FnExactStairAtSaid := fnExactStairAt.over
#print axioms fnExactStairAt_holds
end Go.Proofs.Ytjdmboagjeldcaa.F
