/- Part of the proof, merged out of smaller texts. No condition. -/
import Derived.Test.YteohlhpdbnhbaaaAmC3
import Derived.Test.YteohlhpdbnhbaaaAmC4
import Derived.WalkKit
import Derived.ProofKit
import Derived.OpenShut
import Derived.ShutString
import Derived.ChangeOld
import Derived.Below
import Derived.SizedLaws
set_option linter.unusedVariables false
set_option linter.unusedSimpArgs false
namespace Go.Proofs.Yteohlhpdbnhbaaa.F
open Go.Am Go.RowKit
theorem l6CountsB (X : Nat) (Y : Nat) (Z : Nat) (L : List A3) (hs : Sides X Y Z) (hL : HeapL X Y Z L) : Sound Try.prog 15 [.agg #[vN X, vN Y, vN Z, vS 0 L.length]] [some ⟨a3s L, 46, false, false⟩] (.agg #[vN (cntP (metI L L.length) 0), vN (cntP (metI L L.length) 1), vN (cntP (metI L L.length) 2), vN (cntP (metI L L.length) 3)]) [some ⟨a3s L, 46, false, false⟩] := by
 exact specCountsS hs hL
theorem countsB (X : Nat) (Y : Nat) (Z : Nat) (L : List A3) (hs : Sides X Y Z) (hL : HeapL X Y Z L) : Sound Try.prog 18 [.agg #[vN X, vN Y, vN Z, vS 0 L.length]] [some ⟨a3s L, 46, false, false⟩] (.agg #[vN (cntP (metI L L.length) 0), vN (cntP (metI L L.length) 1), vN (cntP (metI L L.length) 2), vN (cntP (metI L L.length) 3)]) [some ⟨a3s L, 46, false, false⟩] := by
 exact implCountsS hs hL
set_option maxRecDepth 100000 in
set_option maxHeartbeats 4000000 in
theorem l6EulerB (X : Nat) (Y : Nat) (Z : Nat) (L : List A3) (hs : Sides X Y Z) (hL : HeapL X Y Z L) : Sound Try.prog 20 [.agg #[vN X, vN Y, vN Z, vS 0 L.length]] [some ⟨a3s L, 46, false, false⟩] (vI (((cntP (metI L L.length) 0 : Nat) : Int) - ((cntP (metI L L.length) 1 : Nat) : Int) + ((cntP (metI L L.length) 2 : Nat) : Int) - ((cntP (metI L L.length) 3 : Nat) : Int))) [some ⟨a3s L, 46, false, false⟩] := by
 refine sound_intro (C := cx) Try.func20 rfl (by kernel_rfl) fun hcl => ?_
 have hz := hs.size
 have hx0 := hs.x0
 have hx4 := hs.x4
 have hy0 := hs.y0
 have hy4 := hs.y4
 have hz0 := hs.z0
 have hz4 := hs.z4
 have hlen := hL.len
 have hlt := hL.lt64 hs
 have hc0 := cnt_lt hs hL 0
 have hc1 := cnt_lt hs hL 1
 have hc2 := cnt_lt hs hL 2
 have hc3 := cnt_lt hs hL 3
 refine cSeq ?_
 refine cReg ?_
 refine segEnd [1] (T1 := (mkT 17 [(1, vP 1 0)])) (H1 := [some ⟨a3s L, 46, false, false⟩, rB [vN X, vN Y, vN Z, vS 0 L.length] 29]) (by kernel_rfl) ?_
 refine kSeq ?_
 refine cSeq ?_
 refine cReg ?_
 refine segH 1 (T1 := (mkT 17 [(1, vP 1 0), (4, .agg #[vN X, vN Y, vN Z, vS 0 L.length])])) (by kernel_rfl) ?_
 refine rCall (v := .agg #[vN (cntP (metI L L.length) 0), vN (cntP (metI L L.length) 1), vN (cntP (metI L L.length) 2), vN (cntP (metI L L.length) 3)]) (args := [.agg #[vN X, vN Y, vN Z, vS 0 L.length]]) (by kernel_rfl) rfl (by kernel_rfl) (Sound.lay0 [0] (l6CountsB X Y Z L (by first | assumption | omega | rfl | decide | exact HeapL.list _ _ _ _ | exact HeapL.nil _ _ _ | exact HeapL.all _ _ _ | (apply HeapL.lt64 <;> assumption) | (repeat' (first | assumption | apply or_lt64 | apply and_lt64 | apply andn_lt64 | apply pow_lt64 | (apply HeapL.lt64 <;> assumption)))) (by first | assumption | omega | rfl | decide | exact HeapL.list _ _ _ _ | exact HeapL.nil _ _ _ | exact HeapL.all _ _ _ | (apply HeapL.lt64 <;> assumption) | (repeat' (first | assumption | apply or_lt64 | apply and_lt64 | apply andn_lt64 | apply pow_lt64 | (apply HeapL.lt64 <;> assumption))))) ⟨rdF false (flatA3 _ _ _ _) rfl rfl, trivial⟩ rfl ⟨clF (flatA3 _ _ _ _), trivial⟩ rfl (by first | rfl | simp [mpV, mpA, mpS, mpP, renId, shift]) (by first | rfl | simp [mpV, mpA, mpS, mpP, renId, shift])) ?_
 refine segEnd [3] (T1 := (mkT 17 [(3, vP 2 0)])) (H1 := [some ⟨a3s L, 46, false, false⟩, rB [vN X, vN Y, vN Z, vS 0 L.length] 29, rB [vN (cntP (metI L L.length) 0), vN (cntP (metI L L.length) 1), vN (cntP (metI L L.length) 2), vN (cntP (metI L L.length) 3)] 26]) (by kernel_rfl) ?_
 refine kSeq ?_
 refine cSeq ?_
 refine cReg ?_
 refine segH 4 (T1 := (mkT 17 [(3, vP 2 0), (6, vP 2 0), (7, vN (cntP (metI L L.length) 0)), (8, vP 2 1), (9, vN (cntP (metI L L.length) 1))])) (by kernel_rfl) ?_
 refine rOp (v := vI (((cntP (metI L L.length) 0 : Nat) : Int) - ((cntP (metI L L.length) 1 : Nat) : Int))) (by kernel_rfl) (eSub (k := .i64) (a := ((cntP (metI L L.length) 0 : Nat) : Int)) (b := ((cntP (metI L L.length) 1 : Nat) : Int)) (c := (((cntP (metI L L.length) 0 : Nat) : Int) - ((cntP (metI L L.length) 1 : Nat) : Int))) (by kernel_rfl) (by kernel_rfl) (wr64 (by omega) (by omega) (by omega))) ?_
 refine segH 2 (T1 := (mkT 17 [(3, vP 2 0), (6, vP 2 0), (7, vN (cntP (metI L L.length) 0)), (8, vP 2 1), (9, vN (cntP (metI L L.length) 1)), (10, vI (((cntP (metI L L.length) 0 : Nat) : Int) - ((cntP (metI L L.length) 1 : Nat) : Int))), (11, vP 2 2), (12, vN (cntP (metI L L.length) 2))])) (by kernel_rfl) ?_
 refine rOp (v := vI (((cntP (metI L L.length) 0 : Nat) : Int) - ((cntP (metI L L.length) 1 : Nat) : Int) + ((cntP (metI L L.length) 2 : Nat) : Int))) (by kernel_rfl) (eAdd (k := .i64) (a := (((cntP (metI L L.length) 0 : Nat) : Int) - ((cntP (metI L L.length) 1 : Nat) : Int))) (b := ((cntP (metI L L.length) 2 : Nat) : Int)) (c := (((cntP (metI L L.length) 0 : Nat) : Int) - ((cntP (metI L L.length) 1 : Nat) : Int) + ((cntP (metI L L.length) 2 : Nat) : Int))) (by kernel_rfl) (by kernel_rfl) (wr64 (by omega) (by omega) (by omega))) ?_
 refine segH 2 (T1 := (mkT 17 [(3, vP 2 0), (6, vP 2 0), (7, vN (cntP (metI L L.length) 0)), (8, vP 2 1), (9, vN (cntP (metI L L.length) 1)), (10, vI (((cntP (metI L L.length) 0 : Nat) : Int) - ((cntP (metI L L.length) 1 : Nat) : Int))), (11, vP 2 2), (12, vN (cntP (metI L L.length) 2)), (13, vI (((cntP (metI L L.length) 0 : Nat) : Int) - ((cntP (metI L L.length) 1 : Nat) : Int) + ((cntP (metI L L.length) 2 : Nat) : Int))), (14, vP 2 3), (15, vN (cntP (metI L L.length) 3))])) (by kernel_rfl) ?_
 refine rOp (v := vI (((cntP (metI L L.length) 0 : Nat) : Int) - ((cntP (metI L L.length) 1 : Nat) : Int) + ((cntP (metI L L.length) 2 : Nat) : Int) - ((cntP (metI L L.length) 3 : Nat) : Int))) (by kernel_rfl) (eSub (k := .i64) (a := (((cntP (metI L L.length) 0 : Nat) : Int) - ((cntP (metI L L.length) 1 : Nat) : Int) + ((cntP (metI L L.length) 2 : Nat) : Int))) (b := ((cntP (metI L L.length) 3 : Nat) : Int)) (c := (((cntP (metI L L.length) 0 : Nat) : Int) - ((cntP (metI L L.length) 1 : Nat) : Int) + ((cntP (metI L L.length) 2 : Nat) : Int) - ((cntP (metI L L.length) 3 : Nat) : Int))) (by kernel_rfl) (by kernel_rfl) (wr64 (by omega) (by omega) (by omega))) ?_
 refine segEndH [2] (T1 := (mkT 17 [(2, vI (((cntP (metI L L.length) 0 : Nat) : Int) - ((cntP (metI L L.length) 1 : Nat) : Int) + ((cntP (metI L L.length) 2 : Nat) : Int) - ((cntP (metI L L.length) 3 : Nat) : Int)))])) (by kernel_rfl) ?_
 refine kSeq ?_
 refine cRet ?_
 exact endQ (Or.inr rfl) (l := [vI (((cntP (metI L L.length) 0 : Nat) : Int) - ((cntP (metI L L.length) 1 : Nat) : Int) + ((cntP (metI L L.length) 2 : Nat) : Int) - ((cntP (metI L L.length) 3 : Nat) : Int))]) [rB [vN X, vN Y, vN Z, vS 0 L.length] 29, rB [vN (cntP (metI L L.length) 0), vN (cntP (metI L L.length) 1), vN (cntP (metI L L.length) 2), vN (cntP (metI L L.length) 3)] 26] (by kernel_rfl) (by first | rfl | kernel_rfl) rfl rfl hcl rfl
set_option maxRecDepth 100000 in
set_option maxHeartbeats 4000000 in
theorem eulerB (X : Nat) (Y : Nat) (Z : Nat) (L : List A3) (hs : Sides X Y Z) (hL : HeapL X Y Z L) : Sound Try.prog 21 [.agg #[vN X, vN Y, vN Z, vS 0 L.length]] [some ⟨a3s L, 46, false, false⟩] (vI (((cntP (metI L L.length) 0 : Nat) : Int) - ((cntP (metI L L.length) 1 : Nat) : Int) + ((cntP (metI L L.length) 2 : Nat) : Int) - ((cntP (metI L L.length) 3 : Nat) : Int))) [some ⟨a3s L, 46, false, false⟩] := by
 refine sound_intro (C := cx) Try.func21 rfl (by kernel_rfl) fun hcl => ?_
 have hz := hs.size
 have hx0 := hs.x0
 have hx4 := hs.x4
 have hy0 := hs.y0
 have hy4 := hs.y4
 have hz0 := hs.z0
 have hz4 := hs.z4
 have hlen := hL.len
 have hlt := hL.lt64 hs
 have hc0 := cnt_lt hs hL 0
 have hc1 := cnt_lt hs hL 1
 have hc2 := cnt_lt hs hL 2
 have hc3 := cnt_lt hs hL 3
 refine cSeq ?_
 refine cReg ?_
 refine segEnd [1] (T1 := (mkT 17 [(1, vP 1 0)])) (H1 := [some ⟨a3s L, 46, false, false⟩, rB [vN X, vN Y, vN Z, vS 0 L.length] 29]) (by kernel_rfl) ?_
 refine kSeq ?_
 refine cSeq ?_
 refine cReg ?_
 refine segH 1 (T1 := (mkT 17 [(1, vP 1 0), (4, .agg #[vN X, vN Y, vN Z, vS 0 L.length])])) (by kernel_rfl) ?_
 refine rCall (v := .agg #[vN (cntP (metI L L.length) 0), vN (cntP (metI L L.length) 1), vN (cntP (metI L L.length) 2), vN (cntP (metI L L.length) 3)]) (args := [.agg #[vN X, vN Y, vN Z, vS 0 L.length]]) (by kernel_rfl) rfl (by kernel_rfl) (Sound.lay0 [0] (countsB X Y Z L (by first | assumption | omega | rfl | decide | exact HeapL.list _ _ _ _ | exact HeapL.nil _ _ _ | exact HeapL.all _ _ _ | (apply HeapL.lt64 <;> assumption) | (repeat' (first | assumption | apply or_lt64 | apply and_lt64 | apply andn_lt64 | apply pow_lt64 | (apply HeapL.lt64 <;> assumption)))) (by first | assumption | omega | rfl | decide | exact HeapL.list _ _ _ _ | exact HeapL.nil _ _ _ | exact HeapL.all _ _ _ | (apply HeapL.lt64 <;> assumption) | (repeat' (first | assumption | apply or_lt64 | apply and_lt64 | apply andn_lt64 | apply pow_lt64 | (apply HeapL.lt64 <;> assumption))))) ⟨rdF false (flatA3 _ _ _ _) rfl rfl, trivial⟩ rfl ⟨clF (flatA3 _ _ _ _), trivial⟩ rfl (by first | rfl | simp [mpV, mpA, mpS, mpP, renId, shift]) (by first | rfl | simp [mpV, mpA, mpS, mpP, renId, shift])) ?_
 refine segEnd [3] (T1 := (mkT 17 [(3, vP 2 0)])) (H1 := [some ⟨a3s L, 46, false, false⟩, rB [vN X, vN Y, vN Z, vS 0 L.length] 29, rB [vN (cntP (metI L L.length) 0), vN (cntP (metI L L.length) 1), vN (cntP (metI L L.length) 2), vN (cntP (metI L L.length) 3)] 26]) (by kernel_rfl) ?_
 refine kSeq ?_
 refine cSeq ?_
 refine cReg ?_
 refine segH 4 (T1 := (mkT 17 [(3, vP 2 0), (6, vP 2 0), (7, vN (cntP (metI L L.length) 0)), (8, vP 2 1), (9, vN (cntP (metI L L.length) 1))])) (by kernel_rfl) ?_
 refine rOp (v := vI (((cntP (metI L L.length) 0 : Nat) : Int) - ((cntP (metI L L.length) 1 : Nat) : Int))) (by kernel_rfl) (eSub (k := .i64) (a := ((cntP (metI L L.length) 0 : Nat) : Int)) (b := ((cntP (metI L L.length) 1 : Nat) : Int)) (c := (((cntP (metI L L.length) 0 : Nat) : Int) - ((cntP (metI L L.length) 1 : Nat) : Int))) (by kernel_rfl) (by kernel_rfl) (wr64 (by omega) (by omega) (by omega))) ?_
 refine segH 2 (T1 := (mkT 17 [(3, vP 2 0), (6, vP 2 0), (7, vN (cntP (metI L L.length) 0)), (8, vP 2 1), (9, vN (cntP (metI L L.length) 1)), (10, vI (((cntP (metI L L.length) 0 : Nat) : Int) - ((cntP (metI L L.length) 1 : Nat) : Int))), (11, vP 2 2), (12, vN (cntP (metI L L.length) 2))])) (by kernel_rfl) ?_
 refine rOp (v := vI (((cntP (metI L L.length) 0 : Nat) : Int) - ((cntP (metI L L.length) 1 : Nat) : Int) + ((cntP (metI L L.length) 2 : Nat) : Int))) (by kernel_rfl) (eAdd (k := .i64) (a := (((cntP (metI L L.length) 0 : Nat) : Int) - ((cntP (metI L L.length) 1 : Nat) : Int))) (b := ((cntP (metI L L.length) 2 : Nat) : Int)) (c := (((cntP (metI L L.length) 0 : Nat) : Int) - ((cntP (metI L L.length) 1 : Nat) : Int) + ((cntP (metI L L.length) 2 : Nat) : Int))) (by kernel_rfl) (by kernel_rfl) (wr64 (by omega) (by omega) (by omega))) ?_
 refine segH 2 (T1 := (mkT 17 [(3, vP 2 0), (6, vP 2 0), (7, vN (cntP (metI L L.length) 0)), (8, vP 2 1), (9, vN (cntP (metI L L.length) 1)), (10, vI (((cntP (metI L L.length) 0 : Nat) : Int) - ((cntP (metI L L.length) 1 : Nat) : Int))), (11, vP 2 2), (12, vN (cntP (metI L L.length) 2)), (13, vI (((cntP (metI L L.length) 0 : Nat) : Int) - ((cntP (metI L L.length) 1 : Nat) : Int) + ((cntP (metI L L.length) 2 : Nat) : Int))), (14, vP 2 3), (15, vN (cntP (metI L L.length) 3))])) (by kernel_rfl) ?_
 refine rOp (v := vI (((cntP (metI L L.length) 0 : Nat) : Int) - ((cntP (metI L L.length) 1 : Nat) : Int) + ((cntP (metI L L.length) 2 : Nat) : Int) - ((cntP (metI L L.length) 3 : Nat) : Int))) (by kernel_rfl) (eSub (k := .i64) (a := (((cntP (metI L L.length) 0 : Nat) : Int) - ((cntP (metI L L.length) 1 : Nat) : Int) + ((cntP (metI L L.length) 2 : Nat) : Int))) (b := ((cntP (metI L L.length) 3 : Nat) : Int)) (c := (((cntP (metI L L.length) 0 : Nat) : Int) - ((cntP (metI L L.length) 1 : Nat) : Int) + ((cntP (metI L L.length) 2 : Nat) : Int) - ((cntP (metI L L.length) 3 : Nat) : Int))) (by kernel_rfl) (by kernel_rfl) (wr64 (by omega) (by omega) (by omega))) ?_
 refine segEndH [2] (T1 := (mkT 17 [(2, vI (((cntP (metI L L.length) 0 : Nat) : Int) - ((cntP (metI L L.length) 1 : Nat) : Int) + ((cntP (metI L L.length) 2 : Nat) : Int) - ((cntP (metI L L.length) 3 : Nat) : Int)))])) (by kernel_rfl) ?_
 refine kSeq ?_
 refine cRet ?_
 exact endQ (Or.inr rfl) (l := [vI (((cntP (metI L L.length) 0 : Nat) : Int) - ((cntP (metI L L.length) 1 : Nat) : Int) + ((cntP (metI L L.length) 2 : Nat) : Int) - ((cntP (metI L L.length) 3 : Nat) : Int))]) [rB [vN X, vN Y, vN Z, vS 0 L.length] 29, rB [vN (cntP (metI L L.length) 0), vN (cntP (metI L L.length) 1), vN (cntP (metI L L.length) 2), vN (cntP (metI L L.length) 3)] 26] (by kernel_rfl) (by first | rfl | kernel_rfl) rfl rfl hcl rfl
set_option maxRecDepth 100000 in
set_option maxHeartbeats 4000000 in
theorem specEulerNumber_no (x : Int) (y : Int) (z : Int) (L : List A3) (hl : L.length ≤ 1048576) (hv : isHeapB x y z L = false) : Sound Try.prog 11 [.agg #[vI x, vI y, vI z, vS 0 L.length]] [some ⟨a3s L, 46, false, false⟩] (.tuple #[vI 0, .bool false]) [some ⟨a3s L, 46, false, false⟩] := by
 refine sound_intro (C := cx) Try.func11 rfl (by kernel_rfl) fun hcl => ?_
 refine cSeq ?_
 refine cReg ?_
 refine segEnd [1] (T1 := (mkT 9 [(1, vP 1 0)])) (H1 := [some ⟨a3s L, 46, false, false⟩, rB [vI x, vI y, vI z, vS 0 L.length] 29]) (by kernel_rfl) ?_
 refine kSeq ?_
 refine cSeq ?_
 refine cSeq ?_
 refine cReg ?_
 refine segH 1 (T1 := (mkT 9 [(1, vP 1 0), (4, .agg #[vI x, vI y, vI z, vS 0 L.length])])) (by kernel_rfl) ?_
 refine rCall (v := .bool false) (args := [.agg #[vI x, vI y, vI z, vS 0 L.length]]) (by kernel_rfl) rfl (by kernel_rfl) (Sound.lay0 [0] (l2HeapB_no x y z L (by first | assumption | omega | rfl | decide | exact HeapL.list _ _ _ _ | exact HeapL.nil _ _ _ | exact HeapL.all _ _ _ | (apply HeapL.lt64 <;> assumption) | (repeat' (first | assumption | apply or_lt64 | apply and_lt64 | apply andn_lt64 | apply pow_lt64 | (apply HeapL.lt64 <;> assumption)))) (by first | assumption | omega | rfl | decide | exact HeapL.list _ _ _ _ | exact HeapL.nil _ _ _ | exact HeapL.all _ _ _ | (apply HeapL.lt64 <;> assumption) | (repeat' (first | assumption | apply or_lt64 | apply and_lt64 | apply andn_lt64 | apply pow_lt64 | (apply HeapL.lt64 <;> assumption))))) ⟨rdF false (flatA3 _ _ _ _) rfl rfl, trivial⟩ rfl ⟨clF (flatA3 _ _ _ _), trivial⟩ rfl (by first | rfl | simp [mpV, mpA, mpS, mpP, renId, shift]) rfl) ?_
 refine segEndH [1, 6] (T1 := (mkT 9 [(1, vP 1 0), (6, .bool true)])) (by kernel_rfl) ?_
 refine kSeq ?_
 refine cTrue (by kernel_rfl) ?_
 refine cSeq ?_
 refine cReg ?_
 refine segEndH [2, 3] (T1 := (mkT 9 [(2, vI 0), (3, .bool false)])) (by kernel_rfl) ?_
 refine kSeq ?_
 refine cRet ?_
 refine kSeqR ?_
 exact endQ (Or.inr rfl) (l := [vI 0, .bool false]) [rB [vI x, vI y, vI z, vS 0 L.length] 29] (by kernel_rfl) (by first | rfl | kernel_rfl) rfl rfl hcl rfl
set_option maxRecDepth 100000 in
set_option maxHeartbeats 4000000 in
theorem specEulerNumber_yes (X : Nat) (Y : Nat) (Z : Nat) (L : List A3) (hs : Sides X Y Z) (hL : HeapL X Y Z L) : Sound Try.prog 11 [.agg #[vN X, vN Y, vN Z, vS 0 L.length]] [some ⟨a3s L, 46, false, false⟩] (.tuple #[vI (((cntP (metI L L.length) 0 : Nat) : Int) - ((cntP (metI L L.length) 1 : Nat) : Int) + ((cntP (metI L L.length) 2 : Nat) : Int) - ((cntP (metI L L.length) 3 : Nat) : Int)), .bool true]) [some ⟨a3s L, 46, false, false⟩] := by
 refine sound_intro (C := cx) Try.func11 rfl (by kernel_rfl) fun hcl => ?_
 have hz := hs.size
 have hx0 := hs.x0
 have hx4 := hs.x4
 have hy0 := hs.y0
 have hy4 := hs.y4
 have hz0 := hs.z0
 have hz4 := hs.z4
 have hlen := hL.len
 have hlt := hL.lt64 hs
 have hc0 := cnt_lt hs hL 0
 have hc1 := cnt_lt hs hL 1
 have hc2 := cnt_lt hs hL 2
 have hc3 := cnt_lt hs hL 3
 refine cSeq ?_
 refine cReg ?_
 refine segEnd [1] (T1 := (mkT 9 [(1, vP 1 0)])) (H1 := [some ⟨a3s L, 46, false, false⟩, rB [vN X, vN Y, vN Z, vS 0 L.length] 29]) (by kernel_rfl) ?_
 refine kSeq ?_
 refine cSeq ?_
 refine cSeq ?_
 refine cReg ?_
 refine segH 1 (T1 := (mkT 9 [(1, vP 1 0), (4, .agg #[vN X, vN Y, vN Z, vS 0 L.length])])) (by kernel_rfl) ?_
 refine rCall (v := .bool true) (args := [.agg #[vN X, vN Y, vN Z, vS 0 L.length]]) (by kernel_rfl) rfl (by kernel_rfl) (Sound.lay0 [0] (l2HeapB X Y Z L (by first | assumption | omega | rfl | decide | exact HeapL.list _ _ _ _ | exact HeapL.nil _ _ _ | exact HeapL.all _ _ _ | (apply HeapL.lt64 <;> assumption) | (repeat' (first | assumption | apply or_lt64 | apply and_lt64 | apply andn_lt64 | apply pow_lt64 | (apply HeapL.lt64 <;> assumption)))) (by first | assumption | omega | rfl | decide | exact HeapL.list _ _ _ _ | exact HeapL.nil _ _ _ | exact HeapL.all _ _ _ | (apply HeapL.lt64 <;> assumption) | (repeat' (first | assumption | apply or_lt64 | apply and_lt64 | apply andn_lt64 | apply pow_lt64 | (apply HeapL.lt64 <;> assumption))))) ⟨rdF false (flatA3 _ _ _ _) rfl rfl, trivial⟩ rfl ⟨clF (flatA3 _ _ _ _), trivial⟩ rfl (by first | rfl | simp [mpV, mpA, mpS, mpP, renId, shift]) rfl) ?_
 refine segEndH [1, 6] (T1 := (mkT 9 [(1, vP 1 0), (6, .bool false)])) (by kernel_rfl) ?_
 refine kSeq ?_
 refine cFalse (by kernel_rfl) ?_
 refine cSkip ?_
 refine kSeq ?_
 refine cSeq ?_
 refine cReg ?_
 refine segH 1 (T1 := (mkT 9 [(1, vP 1 0), (6, .bool false), (7, .agg #[vN X, vN Y, vN Z, vS 0 L.length])])) (by kernel_rfl) ?_
 refine rCall (v := vI (((cntP (metI L L.length) 0 : Nat) : Int) - ((cntP (metI L L.length) 1 : Nat) : Int) + ((cntP (metI L L.length) 2 : Nat) : Int) - ((cntP (metI L L.length) 3 : Nat) : Int))) (args := [.agg #[vN X, vN Y, vN Z, vS 0 L.length]]) (by kernel_rfl) rfl (by kernel_rfl) (Sound.lay0 [0] (l6EulerB X Y Z L (by first | assumption | omega | rfl | decide | exact HeapL.list _ _ _ _ | exact HeapL.nil _ _ _ | exact HeapL.all _ _ _ | (apply HeapL.lt64 <;> assumption) | (repeat' (first | assumption | apply or_lt64 | apply and_lt64 | apply andn_lt64 | apply pow_lt64 | (apply HeapL.lt64 <;> assumption)))) (by first | assumption | omega | rfl | decide | exact HeapL.list _ _ _ _ | exact HeapL.nil _ _ _ | exact HeapL.all _ _ _ | (apply HeapL.lt64 <;> assumption) | (repeat' (first | assumption | apply or_lt64 | apply and_lt64 | apply andn_lt64 | apply pow_lt64 | (apply HeapL.lt64 <;> assumption))))) ⟨rdF false (flatA3 _ _ _ _) rfl rfl, trivial⟩ rfl ⟨clF (flatA3 _ _ _ _), trivial⟩ rfl (by first | rfl | simp [mpV, mpA, mpS, mpP, renId, shift]) rfl) ?_
 refine segEndH [2, 3] (T1 := (mkT 9 [(2, vI (((cntP (metI L L.length) 0 : Nat) : Int) - ((cntP (metI L L.length) 1 : Nat) : Int) + ((cntP (metI L L.length) 2 : Nat) : Int) - ((cntP (metI L L.length) 3 : Nat) : Int))), (3, .bool true)])) (by kernel_rfl) ?_
 refine kSeq ?_
 refine cRet ?_
 exact endQ (Or.inr rfl) (l := [vI (((cntP (metI L L.length) 0 : Nat) : Int) - ((cntP (metI L L.length) 1 : Nat) : Int) + ((cntP (metI L L.length) 2 : Nat) : Int) - ((cntP (metI L L.length) 3 : Nat) : Int)), .bool true]) [rB [vN X, vN Y, vN Z, vS 0 L.length] 29] (by kernel_rfl) (by first | rfl | kernel_rfl) rfl rfl hcl rfl
set_option maxRecDepth 100000 in
set_option maxHeartbeats 4000000 in
theorem implEulerNumber_no (x : Int) (y : Int) (z : Int) (L : List A3) (hl : L.length ≤ 1048576) (hv : isHeapB x y z L = false) : Sound Try.prog 12 [.agg #[vI x, vI y, vI z, vS 0 L.length]] [some ⟨a3s L, 46, false, false⟩] (.tuple #[vI 0, .bool false]) [some ⟨a3s L, 46, false, false⟩] := by
 refine sound_intro (C := cx) Try.func12 rfl (by kernel_rfl) fun hcl => ?_
 refine cSeq ?_
 refine cReg ?_
 refine segEnd [1] (T1 := (mkT 9 [(1, vP 1 0)])) (H1 := [some ⟨a3s L, 46, false, false⟩, rB [vI x, vI y, vI z, vS 0 L.length] 29]) (by kernel_rfl) ?_
 refine kSeq ?_
 refine cSeq ?_
 refine cSeq ?_
 refine cReg ?_
 refine segH 1 (T1 := (mkT 9 [(1, vP 1 0), (4, .agg #[vI x, vI y, vI z, vS 0 L.length])])) (by kernel_rfl) ?_
 refine rCall (v := .bool false) (args := [.agg #[vI x, vI y, vI z, vS 0 L.length]]) (by kernel_rfl) rfl (by kernel_rfl) (Sound.lay0 [0] (isHeapBt_no x y z L (by first | assumption | omega | rfl | decide | exact HeapL.list _ _ _ _ | exact HeapL.nil _ _ _ | exact HeapL.all _ _ _ | (apply HeapL.lt64 <;> assumption) | (repeat' (first | assumption | apply or_lt64 | apply and_lt64 | apply andn_lt64 | apply pow_lt64 | (apply HeapL.lt64 <;> assumption)))) (by first | assumption | omega | rfl | decide | exact HeapL.list _ _ _ _ | exact HeapL.nil _ _ _ | exact HeapL.all _ _ _ | (apply HeapL.lt64 <;> assumption) | (repeat' (first | assumption | apply or_lt64 | apply and_lt64 | apply andn_lt64 | apply pow_lt64 | (apply HeapL.lt64 <;> assumption))))) ⟨rdF false (flatA3 _ _ _ _) rfl rfl, trivial⟩ rfl ⟨clF (flatA3 _ _ _ _), trivial⟩ rfl (by first | rfl | simp [mpV, mpA, mpS, mpP, renId, shift]) rfl) ?_
 refine segEndH [1, 6] (T1 := (mkT 9 [(1, vP 1 0), (6, .bool true)])) (by kernel_rfl) ?_
 refine kSeq ?_
 refine cTrue (by kernel_rfl) ?_
 refine cSeq ?_
 refine cReg ?_
 refine segEndH [2, 3] (T1 := (mkT 9 [(2, vI 0), (3, .bool false)])) (by kernel_rfl) ?_
 refine kSeq ?_
 refine cRet ?_
 refine kSeqR ?_
 exact endQ (Or.inr rfl) (l := [vI 0, .bool false]) [rB [vI x, vI y, vI z, vS 0 L.length] 29] (by kernel_rfl) (by first | rfl | kernel_rfl) rfl rfl hcl rfl
set_option maxRecDepth 100000 in
set_option maxHeartbeats 4000000 in
theorem implEulerNumber_yes (X : Nat) (Y : Nat) (Z : Nat) (L : List A3) (hs : Sides X Y Z) (hL : HeapL X Y Z L) : Sound Try.prog 12 [.agg #[vN X, vN Y, vN Z, vS 0 L.length]] [some ⟨a3s L, 46, false, false⟩] (.tuple #[vI (((cntP (metI L L.length) 0 : Nat) : Int) - ((cntP (metI L L.length) 1 : Nat) : Int) + ((cntP (metI L L.length) 2 : Nat) : Int) - ((cntP (metI L L.length) 3 : Nat) : Int)), .bool true]) [some ⟨a3s L, 46, false, false⟩] := by
 refine sound_intro (C := cx) Try.func12 rfl (by kernel_rfl) fun hcl => ?_
 have hz := hs.size
 have hx0 := hs.x0
 have hx4 := hs.x4
 have hy0 := hs.y0
 have hy4 := hs.y4
 have hz0 := hs.z0
 have hz4 := hs.z4
 have hlen := hL.len
 have hlt := hL.lt64 hs
 have hc0 := cnt_lt hs hL 0
 have hc1 := cnt_lt hs hL 1
 have hc2 := cnt_lt hs hL 2
 have hc3 := cnt_lt hs hL 3
 refine cSeq ?_
 refine cReg ?_
 refine segEnd [1] (T1 := (mkT 9 [(1, vP 1 0)])) (H1 := [some ⟨a3s L, 46, false, false⟩, rB [vN X, vN Y, vN Z, vS 0 L.length] 29]) (by kernel_rfl) ?_
 refine kSeq ?_
 refine cSeq ?_
 refine cSeq ?_
 refine cReg ?_
 refine segH 1 (T1 := (mkT 9 [(1, vP 1 0), (4, .agg #[vN X, vN Y, vN Z, vS 0 L.length])])) (by kernel_rfl) ?_
 refine rCall (v := .bool true) (args := [.agg #[vN X, vN Y, vN Z, vS 0 L.length]]) (by kernel_rfl) rfl (by kernel_rfl) (Sound.lay0 [0] (isHeapBt X Y Z L (by first | assumption | omega | rfl | decide | exact HeapL.list _ _ _ _ | exact HeapL.nil _ _ _ | exact HeapL.all _ _ _ | (apply HeapL.lt64 <;> assumption) | (repeat' (first | assumption | apply or_lt64 | apply and_lt64 | apply andn_lt64 | apply pow_lt64 | (apply HeapL.lt64 <;> assumption)))) (by first | assumption | omega | rfl | decide | exact HeapL.list _ _ _ _ | exact HeapL.nil _ _ _ | exact HeapL.all _ _ _ | (apply HeapL.lt64 <;> assumption) | (repeat' (first | assumption | apply or_lt64 | apply and_lt64 | apply andn_lt64 | apply pow_lt64 | (apply HeapL.lt64 <;> assumption))))) ⟨rdF false (flatA3 _ _ _ _) rfl rfl, trivial⟩ rfl ⟨clF (flatA3 _ _ _ _), trivial⟩ rfl (by first | rfl | simp [mpV, mpA, mpS, mpP, renId, shift]) rfl) ?_
 refine segEndH [1, 6] (T1 := (mkT 9 [(1, vP 1 0), (6, .bool false)])) (by kernel_rfl) ?_
 refine kSeq ?_
 refine cFalse (by kernel_rfl) ?_
 refine cSkip ?_
 refine kSeq ?_
 refine cSeq ?_
 refine cReg ?_
 refine segH 1 (T1 := (mkT 9 [(1, vP 1 0), (6, .bool false), (7, .agg #[vN X, vN Y, vN Z, vS 0 L.length])])) (by kernel_rfl) ?_
 refine rCall (v := vI (((cntP (metI L L.length) 0 : Nat) : Int) - ((cntP (metI L L.length) 1 : Nat) : Int) + ((cntP (metI L L.length) 2 : Nat) : Int) - ((cntP (metI L L.length) 3 : Nat) : Int))) (args := [.agg #[vN X, vN Y, vN Z, vS 0 L.length]]) (by kernel_rfl) rfl (by kernel_rfl) (Sound.lay0 [0] (eulerB X Y Z L (by first | assumption | omega | rfl | decide | exact HeapL.list _ _ _ _ | exact HeapL.nil _ _ _ | exact HeapL.all _ _ _ | (apply HeapL.lt64 <;> assumption) | (repeat' (first | assumption | apply or_lt64 | apply and_lt64 | apply andn_lt64 | apply pow_lt64 | (apply HeapL.lt64 <;> assumption)))) (by first | assumption | omega | rfl | decide | exact HeapL.list _ _ _ _ | exact HeapL.nil _ _ _ | exact HeapL.all _ _ _ | (apply HeapL.lt64 <;> assumption) | (repeat' (first | assumption | apply or_lt64 | apply and_lt64 | apply andn_lt64 | apply pow_lt64 | (apply HeapL.lt64 <;> assumption))))) ⟨rdF false (flatA3 _ _ _ _) rfl rfl, trivial⟩ rfl ⟨clF (flatA3 _ _ _ _), trivial⟩ rfl (by first | rfl | simp [mpV, mpA, mpS, mpP, renId, shift]) rfl) ?_
 refine segEndH [2, 3] (T1 := (mkT 9 [(2, vI (((cntP (metI L L.length) 0 : Nat) : Int) - ((cntP (metI L L.length) 1 : Nat) : Int) + ((cntP (metI L L.length) 2 : Nat) : Int) - ((cntP (metI L L.length) 3 : Nat) : Int))), (3, .bool true)])) (by kernel_rfl) ?_
 refine kSeq ?_
 refine cRet ?_
 exact endQ (Or.inr rfl) (l := [vI (((cntP (metI L L.length) 0 : Nat) : Int) - ((cntP (metI L L.length) 1 : Nat) : Int) + ((cntP (metI L L.length) 2 : Nat) : Int) - ((cntP (metI L L.length) 3 : Nat) : Int)), .bool true]) [rB [vN X, vN Y, vN Z, vS 0 L.length] 29] (by kernel_rfl) (by first | rfl | kernel_rfl) rfl rfl hcl rfl
end Go.Proofs.Yteohlhpdbnhbaaa.F
set_option linter.unusedVariables false
set_option linter.unusedSimpArgs false
namespace Go.Proofs.Yteohlhpdbnhbaaa.F
open Go.Am Go.RowKit
set_option maxRecDepth 100000 in
set_option maxHeartbeats 4000000 in
theorem lawEulerNumber_big_s (x : Int) (y : Int) (z : Int) (L : List A3) (hl : 1048576 < L.length) (hm : L.length ≤ 9223372036854775807) : Sound Try.prog 4 [.agg #[vI x, vI y, vI z, vS 0 L.length]] [some ⟨a3s L, 46, false, false⟩] (.bool true) [some ⟨a3s L, 46, false, false⟩] := by
 refine sound_intro (C := cx) Try.func4 rfl (by kernel_rfl) fun hcl => ?_
 refine cSeq ?_
 refine cReg ?_
 refine segEnd [1] (T1 := (mkT 40 [(1, vP 1 0)])) (H1 := [some ⟨a3s L, 46, false, false⟩, rB [vI x, vI y, vI z, vS 0 L.length] 24]) (by kernel_rfl) ?_
 refine kSeq ?_
 refine cSeq ?_
 refine cReg ?_
 refine segEndH [1, 3] (T1 := (mkT 40 [(1, vP 1 0), (3, vI 1048576)])) (by kernel_rfl) ?_
 refine kSeq ?_
 refine cSeq ?_
 refine cReg ?_
 refine segH 2 (T1 := (mkT 40 [(1, vP 1 0), (3, vI 1048576), (9, .agg #[vI x, vI y, vI z, vS 0 L.length]), (10, vI 1048576)])) (by kernel_rfl) ?_
 refine rCall (v := vI (-1)) (args := [.agg #[vI x, vI y, vI z, vS 0 L.length], vI 1048576]) (by kernel_rfl) rfl (by kernel_rfl) (Sound.lay0 [0] (szHeapG x y z L 1048576 (by first | omega | assumption | (simp; done)) (by first | assumption | omega | rfl | decide | exact HeapL.list _ _ _ _ | exact HeapL.nil _ _ _ | exact HeapL.all _ _ _ | (apply HeapL.lt64 <;> assumption) | (repeat' (first | assumption | apply or_lt64 | apply and_lt64 | apply andn_lt64 | apply pow_lt64 | (apply HeapL.lt64 <;> assumption)))) (by first | omega | assumption | decide)) ⟨rdF false (flatA3 _ _ _ _) rfl rfl, trivial⟩ rfl ⟨clF (flatA3 _ _ _ _), trivial⟩ rfl (by first | rfl | simp [mpV, mpA, mpS, mpP, renId, shift]) rfl) ?_
 refine segEndH [1, 3] (T1 := (mkT 40 [(1, vP 1 0), (3, vI (-1))])) (by kernel_rfl) ?_
 refine kSeq ?_
 refine cSeq ?_
 refine cSeq ?_
 refine cReg ?_
 refine segEndH [1, 13] (T1 := (mkT 40 [(1, vP 1 0), (13, .bool true)])) (by kernel_rfl) ?_
 refine kSeq ?_
 refine cTrue (by kernel_rfl) ?_
 refine cSeq ?_
 refine cReg ?_
 refine segEndH [2] (T1 := (mkT 40 [(2, .bool true)])) (by kernel_rfl) ?_
 refine kSeq ?_
 refine cRet ?_
 refine kSeqR ?_
 exact endQ (Or.inr rfl) (l := [.bool true]) [rB [vI x, vI y, vI z, vS 0 L.length] 24] (by kernel_rfl) (by first | rfl | kernel_rfl) rfl rfl hcl rfl
set_option maxRecDepth 100000 in
set_option maxHeartbeats 4000000 in
theorem lawEulerNumber_no_s (x : Int) (y : Int) (z : Int) (L : List A3) (hl : L.length ≤ 1048576) (hv : isHeapB x y z L = false) : Sound Try.prog 4 [.agg #[vI x, vI y, vI z, vS 0 L.length]] [some ⟨a3s L, 46, false, false⟩] (.bool true) [some ⟨a3s L, 46, false, false⟩] := by
 refine sound_intro (C := cx) Try.func4 rfl (by kernel_rfl) fun hcl => ?_
 refine cSeq ?_
 refine cReg ?_
 refine segEnd [1] (T1 := (mkT 40 [(1, vP 1 0)])) (H1 := [some ⟨a3s L, 46, false, false⟩, rB [vI x, vI y, vI z, vS 0 L.length] 24]) (by kernel_rfl) ?_
 refine kSeq ?_
 refine cSeq ?_
 refine cReg ?_
 refine segEndH [1, 3] (T1 := (mkT 40 [(1, vP 1 0), (3, vI 1048576)])) (by kernel_rfl) ?_
 refine kSeq ?_
 refine cSeq ?_
 refine cReg ?_
 refine segH 2 (T1 := (mkT 40 [(1, vP 1 0), (3, vI 1048576), (9, .agg #[vI x, vI y, vI z, vS 0 L.length]), (10, vI 1048576)])) (by kernel_rfl) ?_
 refine rCall (v := vN (1048576 - L.length)) (args := [.agg #[vI x, vI y, vI z, vS 0 L.length], vI 1048576]) (by kernel_rfl) rfl (by kernel_rfl) (Sound.lay0 [0] (szHeapS x y z L 1048576 (by first | omega | assumption | (simp; done)) (by first | omega | assumption | decide)) ⟨rdF false (flatA3 _ _ _ _) rfl rfl, trivial⟩ rfl ⟨clF (flatA3 _ _ _ _), trivial⟩ rfl (by first | rfl | simp [mpV, mpA, mpS, mpP, renId, shift]) rfl) ?_
 refine segEndH [1, 3] (T1 := (mkT 40 [(1, vP 1 0), (3, vN (1048576 - L.length))])) (by kernel_rfl) ?_
 refine kSeq ?_
 refine cSeq ?_
 refine cSeq ?_
 refine cReg ?_
 refine segEndH [1, 13] (T1 := (mkT 40 [(1, vP 1 0), (13, .bool (decide (((1048576 - L.length : Nat) : Int) < 0)))])) (by kernel_rfl) ?_
 refine kSeq ?_
 cases h1 : (decide (((1048576 - L.length : Nat) : Int) < 0) : Bool)
 ·
  (try simp only [bs0, bs1, bs2, bs3, beq_iff_eq, bne_iff_ne, beq_eq_false_iff_ne, bne_eq_false_iff_eq, ne_eq, bs4, bs5, bs6, bs7, bs8, bs9, bs10, bs11, ge_iff_le, gt_iff_lt] at h1)
  refine cFalse (by kernel_rfl) ?_
  refine cSkip ?_
  refine kSeq ?_
  refine cSeq ?_
  refine cReg ?_
  refine segH 1 (T1 := (mkT 40 [(1, vP 1 0), (13, .bool false), (15, .agg #[vI x, vI y, vI z, vS 0 L.length])])) (by kernel_rfl) ?_
  refine rCall (v := .agg #[vI x, vI y, vI z, vS 2 L.length]) (args := [.agg #[vI x, vI y, vI z, vS 0 L.length]]) (by kernel_rfl) rfl (by kernel_rfl) (Sound.lay (E := [some ⟨a3s L, 46, false, true⟩]) [0] (toHeapB x y z L (by first | omega | assumption | (simp; done))) ⟨rdF false (flatA3 _ _ _ _) rfl rfl, trivial⟩ rfl ⟨clF (flatA3 _ _ _ _), trivial⟩ rfl (by first | rfl | simp [mpV, mpA, mpS, mpP, renId, shift]) (by first | rfl | simp [mpV, mpA, mpS, mpP, renId, shift]) ⟨enF (flatA3 _ _ _ _) (Or.inl rfl), trivial⟩) ?_
  refine rCall (v := .tuple #[vI 0, .bool false]) (args := [.agg #[vI x, vI y, vI z, vS 2 L.length]]) (by kernel_rfl) rfl (by kernel_rfl) (Sound.lay0 [2] (specEulerNumber_no x y z L (by first | assumption | omega | rfl | decide | exact HeapL.list _ _ _ _ | exact HeapL.nil _ _ _ | exact HeapL.all _ _ _ | (apply HeapL.lt64 <;> assumption) | (repeat' (first | assumption | apply or_lt64 | apply and_lt64 | apply andn_lt64 | apply pow_lt64 | (apply HeapL.lt64 <;> assumption)))) (by first | assumption | omega | rfl | decide | exact HeapL.list _ _ _ _ | exact HeapL.nil _ _ _ | exact HeapL.all _ _ _ | (apply HeapL.lt64 <;> assumption) | (repeat' (first | assumption | apply or_lt64 | apply and_lt64 | apply andn_lt64 | apply pow_lt64 | (apply HeapL.lt64 <;> assumption))))) ⟨rdF true (flatA3 _ _ _ _) rfl rfl, trivial⟩ rfl ⟨clF (flatA3 _ _ _ _), trivial⟩ rfl (by first | rfl | simp [mpV, mpA, mpS, mpP, renId, shift]) (by first | rfl | simp [mpV, mpA, mpS, mpP, renId, shift])) ?_
  refine segEnd [1, 4, 5] (T1 := (mkT 40 [(1, vP 1 0), (4, vI 0), (5, .bool false)])) (H1 := [some ⟨a3s L, 46, false, false⟩, rB [vI x, vI y, vI z, vS 0 L.length] 24, some ⟨a3s L, 46, false, true⟩]) (by kernel_rfl) ?_
  refine kSeq ?_
  refine cSeq ?_
  refine cReg ?_
  refine segH 1 (T1 := (mkT 40 [(1, vP 1 0), (4, vI 0), (5, .bool false), (20, .agg #[vI x, vI y, vI z, vS 0 L.length])])) (by kernel_rfl) ?_
  refine rCall (v := .agg #[vI x, vI y, vI z, vS 3 L.length]) (args := [.agg #[vI x, vI y, vI z, vS 0 L.length]]) (by kernel_rfl) rfl (by kernel_rfl) (Sound.lay (E := [some ⟨a3s L, 46, false, true⟩]) [0] (toHeapB x y z L (by first | omega | assumption | (simp; done))) ⟨rdF false (flatA3 _ _ _ _) rfl rfl, trivial⟩ rfl ⟨clF (flatA3 _ _ _ _), trivial⟩ rfl (by first | rfl | simp [mpV, mpA, mpS, mpP, renId, shift]) (by first | rfl | simp [mpV, mpA, mpS, mpP, renId, shift]) ⟨enF (flatA3 _ _ _ _) (Or.inl rfl), trivial⟩) ?_
  refine segEnd [1, 4, 5, 6] (T1 := (mkT 40 [(1, vP 1 0), (4, vI 0), (5, .bool false), (6, vP 4 0)])) (H1 := [some ⟨a3s L, 46, false, false⟩, rB [vI x, vI y, vI z, vS 0 L.length] 24, some ⟨a3s L, 46, false, true⟩, some ⟨a3s L, 46, false, true⟩, rB [vI x, vI y, vI z, vS 3 L.length] 29]) (by kernel_rfl) ?_
  refine kSeq ?_
  refine cSeq ?_
  refine cReg ?_
  refine segH 1 (T1 := (mkT 40 [(1, vP 1 0), (4, vI 0), (5, .bool false), (6, vP 4 0), (23, .agg #[vI x, vI y, vI z, vS 3 L.length])])) (by kernel_rfl) ?_
  refine rCall (v := .tuple #[vI 0, .bool false]) (args := [.agg #[vI x, vI y, vI z, vS 3 L.length]]) (by kernel_rfl) rfl (by kernel_rfl) (Sound.lay0 [3] (implEulerNumber_no x y z L (by first | assumption | omega | rfl | decide | exact HeapL.list _ _ _ _ | exact HeapL.nil _ _ _ | exact HeapL.all _ _ _ | (apply HeapL.lt64 <;> assumption) | (repeat' (first | assumption | apply or_lt64 | apply and_lt64 | apply andn_lt64 | apply pow_lt64 | (apply HeapL.lt64 <;> assumption)))) (by first | assumption | omega | rfl | decide | exact HeapL.list _ _ _ _ | exact HeapL.nil _ _ _ | exact HeapL.all _ _ _ | (apply HeapL.lt64 <;> assumption) | (repeat' (first | assumption | apply or_lt64 | apply and_lt64 | apply andn_lt64 | apply pow_lt64 | (apply HeapL.lt64 <;> assumption))))) ⟨rdF true (flatA3 _ _ _ _) rfl rfl, trivial⟩ rfl ⟨clF (flatA3 _ _ _ _), trivial⟩ rfl (by first | rfl | simp [mpV, mpA, mpS, mpP, renId, shift]) (by first | rfl | simp [mpV, mpA, mpS, mpP, renId, shift])) ?_
  refine segEndH [1, 4, 5, 6, 7, 8] (T1 := (mkT 40 [(1, vP 1 0), (4, vI 0), (5, .bool false), (6, vP 4 0), (7, vI 0), (8, .bool false)])) (by kernel_rfl) ?_
  refine kSeq ?_
  refine cSeq ?_
  refine cSeq ?_
  refine cReg ?_
  refine segEndH [1, 6, 34] (T1 := (mkT 40 [(1, vP 1 0), (6, vP 4 0), (34, .bool false)])) (by kernel_rfl) ?_
  refine kSeq ?_
  refine cFalse (by kernel_rfl) ?_
  refine cSkip ?_
  refine kSeq ?_
  refine cSeq ?_
  refine cSeq ?_
  refine cRegW (N := 6) [⟨[], [], [4]⟩, ⟨[], [], [1]⟩, ⟨[5], [], [0]⟩, ⟨[], [], [3, 5]⟩, ⟨[], [], []⟩] 1 [5] (by rfl) (by rfl) (by kernel_rfl) (by kernel_rfl) (by kernel_rfl) ⟨nmsF (flatA3 _ _ _ _), ⟨nmsX (by kernel_rfl), ⟨nmsF (flatA3 _ _ _ _), ⟨nmsF (flatA3 _ _ _ _), ⟨nmsX (by kernel_rfl), trivial⟩⟩⟩⟩⟩ ?_
  refine segWH 2 (T1 := (mkT 40 [(1, vP 1 0), (6, vP 4 0), (34, .bool false), (35, .agg #[vI x, vI y, vI z, vS 3 L.length]), (36, .agg #[vI x, vI y, vI z, vS 0 L.length])])) (by kernel_rfl) ?_
  refine rW (m := ⟨[5], [], [0]⟩) (v := .agg #[vI x, vI y, vI z, vS 5 L.length]) rfl (by kernel_rfl) (stN (i := 5) (E := [some ⟨a3s L, 46, false, true⟩]) (v1 := .agg #[vI x, vI y, vI z, vS 6 L.length]) (args := [.agg #[vI x, vI y, vI z, vS 0 L.length]]) rfl (by kernel_rfl) (Any.lay (E := [some ⟨a3s L, 46, false, true⟩]) (N := 6) [0] (toHeapB x y z L (by first | omega | assumption | (simp; done))) ⟨rdF false (flatA3 _ _ _ _) rfl rfl, trivial⟩ rfl ⟨clF (flatA3 _ _ _ _), trivial⟩ rfl (by first | rfl | simp [mpV, mpA, mpS, mpP, renId, shift]) (by first | rfl | simp [mpV, mpA, mpS, mpP, renId, shift]) ⟨enF (flatA3 _ _ _ _) (Or.inl rfl), trivial⟩) rfl (by kernel_rfl) (by kernel_rfl) (by kernel_rfl) (by kernel_rfl) (FlatH.cons (flatA3 _ _ _ _) FlatH.nil)) (by kernel_rfl) (NRs.all ⟨nrOf (by rfl) (nmF (flatA3 _ _ _ _)), trivial⟩) ?_
  refine rW (m := ⟨[], [], [3, 5]⟩) (v := .bool true) rfl (by kernel_rfl) (stQ (args := [.agg #[vI x, vI y, vI z, vS 3 L.length], .agg #[vI x, vI y, vI z, vS 5 L.length]]) rfl (by kernel_rfl) (Any.lay0 [3, 5] (eqHeapB x y z L (by first | omega | assumption | (simp; done))) ⟨rdF true (flatA3 _ _ _ _) rfl rfl, ⟨rdF true (flatA3 _ _ _ _) rfl rfl, trivial⟩⟩ rfl ⟨clF (flatA3 _ _ _ _), ⟨clF (flatA3 _ _ _ _), trivial⟩⟩ rfl (by first | rfl | simp [mpV, mpA, mpS, mpP, renId, shift]) rfl) rfl (by kernel_rfl) (by kernel_rfl)) (by kernel_rfl) nr0 ?_
  refine segEndW [39] (T1 := (mkT 40 [(39, .bool false)])) (H1 := [some ⟨a3s L, 46, false, false⟩, rB [vI x, vI y, vI z, vS 0 L.length] 24, some ⟨a3s L, 46, false, true⟩, some ⟨a3s L, 46, false, true⟩, rB [vI x, vI y, vI z, vS 3 L.length] 29, some ⟨a3s L, 46, false, true⟩]) (by kernel_rfl) ?_
  refine kSeq ?_
  refine cFalse (by kernel_rfl) ?_
  refine cSkip ?_
  refine kSeq ?_
  refine cSeq ?_
  refine cReg ?_
  refine segEndH [2] (T1 := (mkT 40 [(2, .bool true)])) (by kernel_rfl) ?_
  refine kSeq ?_
  refine cRet ?_
  exact endQ (Or.inr rfl) (l := [.bool true]) [rB [vI x, vI y, vI z, vS 0 L.length] 24, some ⟨a3s L, 46, false, true⟩, some ⟨a3s L, 46, false, true⟩, rB [vI x, vI y, vI z, vS 3 L.length] 29, some ⟨a3s L, 46, false, true⟩] (by kernel_rfl) (by first | rfl | kernel_rfl) rfl rfl hcl rfl
 ·
  (try simp only [bs0, bs1, bs2, bs3, beq_iff_eq, bne_iff_ne, beq_eq_false_iff_ne, bne_eq_false_iff_eq, ne_eq, bs4, bs5, bs6, bs7, bs8, bs9, bs10, bs11, ge_iff_le, gt_iff_lt] at h1)
  exfalso; omega
set_option maxRecDepth 100000 in
set_option maxHeartbeats 4000000 in
theorem lawEulerNumber_no_n (x : Int) (y : Int) (z : Int) (hv : isHeapB x y z ([] : List A3) = false) : Sound Try.prog 4 [.agg #[vI x, vI y, vI z, .slice none 0 0]] [] (.bool true) [] := by
 refine sound_intro (C := cx) Try.func4 rfl (by kernel_rfl) fun hcl => ?_
 refine cSeq ?_
 refine cReg ?_
 refine segEnd [1] (T1 := (mkT 40 [(1, vP 0 0)])) (H1 := [rB [vI x, vI y, vI z, .slice none 0 0] 24]) (by kernel_rfl) ?_
 refine kSeq ?_
 refine cSeq ?_
 refine cReg ?_
 refine segEndH [1, 3] (T1 := (mkT 40 [(1, vP 0 0), (3, vI 1048576)])) (by kernel_rfl) ?_
 refine kSeq ?_
 refine cSeq ?_
 refine cReg ?_
 refine segH 2 (T1 := (mkT 40 [(1, vP 0 0), (3, vI 1048576), (9, .agg #[vI x, vI y, vI z, .slice none 0 0]), (10, vI 1048576)])) (by kernel_rfl) ?_
 refine rCall (v := vI 1048576) (args := [.agg #[vI x, vI y, vI z, .slice none 0 0], vI 1048576]) (by kernel_rfl) rfl (by kernel_rfl) (Sound.lay0 [] (szHeapN x y z 1048576 (by first | omega | assumption | decide)) trivial rfl trivial rfl (by first | rfl | simp [mpV, mpA, mpS, mpP, renId, shift]) rfl) ?_
 refine segEndH [1, 3] (T1 := (mkT 40 [(1, vP 0 0), (3, vI 1048576)])) (by kernel_rfl) ?_
 refine kSeq ?_
 refine cSeq ?_
 refine cSeq ?_
 refine cReg ?_
 refine segEndH [1, 13] (T1 := (mkT 40 [(1, vP 0 0), (13, .bool false)])) (by kernel_rfl) ?_
 refine kSeq ?_
 refine cFalse (by kernel_rfl) ?_
 refine cSkip ?_
 refine kSeq ?_
 refine cSeq ?_
 refine cReg ?_
 refine segH 1 (T1 := (mkT 40 [(1, vP 0 0), (13, .bool false), (15, .agg #[vI x, vI y, vI z, .slice none 0 0])])) (by kernel_rfl) ?_
 refine rCall (v := .agg #[vI x, vI y, vI z, vS 1 0]) (args := [.agg #[vI x, vI y, vI z, .slice none 0 0]]) (by kernel_rfl) rfl (by kernel_rfl) (Sound.lay (E := [some ⟨[], 46, false, true⟩]) [] (toHeapN x y z) trivial rfl trivial rfl (by first | rfl | simp [mpV, mpA, mpS, mpP, renId, shift]) (by first | rfl | simp [mpV, mpA, mpS, mpP, renId, shift]) ⟨enX rfl (Or.inl rfl), trivial⟩) ?_
 refine rCall (v := .tuple #[vI 0, .bool false]) (args := [.agg #[vI x, vI y, vI z, vS 1 0]]) (by kernel_rfl) rfl (by kernel_rfl) (Sound.lay0 [1] (specEulerNumber_no x y z ([] : List A3) (by first | assumption | omega | rfl | decide | exact HeapL.list _ _ _ _ | exact HeapL.nil _ _ _ | exact HeapL.all _ _ _ | (apply HeapL.lt64 <;> assumption) | (repeat' (first | assumption | apply or_lt64 | apply and_lt64 | apply andn_lt64 | apply pow_lt64 | (apply HeapL.lt64 <;> assumption)))) (by first | assumption | omega | rfl | decide | exact HeapL.list _ _ _ _ | exact HeapL.nil _ _ _ | exact HeapL.all _ _ _ | (apply HeapL.lt64 <;> assumption) | (repeat' (first | assumption | apply or_lt64 | apply and_lt64 | apply andn_lt64 | apply pow_lt64 | (apply HeapL.lt64 <;> assumption))))) ⟨rdF true (flatA3 _ _ _ _) rfl rfl, trivial⟩ rfl ⟨clF (flatA3 _ _ _ _), trivial⟩ rfl (by first | rfl | simp [mpV, mpA, mpS, mpP, renId, shift]) (by first | rfl | simp [mpV, mpA, mpS, mpP, renId, shift])) ?_
 refine segEnd [1, 4, 5] (T1 := (mkT 40 [(1, vP 0 0), (4, vI 0), (5, .bool false)])) (H1 := [rB [vI x, vI y, vI z, .slice none 0 0] 24, some ⟨[], 46, false, true⟩]) (by kernel_rfl) ?_
 refine kSeq ?_
 refine cSeq ?_
 refine cReg ?_
 refine segH 1 (T1 := (mkT 40 [(1, vP 0 0), (4, vI 0), (5, .bool false), (20, .agg #[vI x, vI y, vI z, .slice none 0 0])])) (by kernel_rfl) ?_
 refine rCall (v := .agg #[vI x, vI y, vI z, vS 2 0]) (args := [.agg #[vI x, vI y, vI z, .slice none 0 0]]) (by kernel_rfl) rfl (by kernel_rfl) (Sound.lay (E := [some ⟨[], 46, false, true⟩]) [] (toHeapN x y z) trivial rfl trivial rfl (by first | rfl | simp [mpV, mpA, mpS, mpP, renId, shift]) (by first | rfl | simp [mpV, mpA, mpS, mpP, renId, shift]) ⟨enX rfl (Or.inl rfl), trivial⟩) ?_
 refine segEnd [1, 4, 5, 6] (T1 := (mkT 40 [(1, vP 0 0), (4, vI 0), (5, .bool false), (6, vP 3 0)])) (H1 := [rB [vI x, vI y, vI z, .slice none 0 0] 24, some ⟨[], 46, false, true⟩, some ⟨[], 46, false, true⟩, rB [vI x, vI y, vI z, vS 2 0] 29]) (by kernel_rfl) ?_
 refine kSeq ?_
 refine cSeq ?_
 refine cReg ?_
 refine segH 1 (T1 := (mkT 40 [(1, vP 0 0), (4, vI 0), (5, .bool false), (6, vP 3 0), (23, .agg #[vI x, vI y, vI z, vS 2 0])])) (by kernel_rfl) ?_
 refine rCall (v := .tuple #[vI 0, .bool false]) (args := [.agg #[vI x, vI y, vI z, vS 2 0]]) (by kernel_rfl) rfl (by kernel_rfl) (Sound.lay0 [2] (implEulerNumber_no x y z ([] : List A3) (by first | assumption | omega | rfl | decide | exact HeapL.list _ _ _ _ | exact HeapL.nil _ _ _ | exact HeapL.all _ _ _ | (apply HeapL.lt64 <;> assumption) | (repeat' (first | assumption | apply or_lt64 | apply and_lt64 | apply andn_lt64 | apply pow_lt64 | (apply HeapL.lt64 <;> assumption)))) (by first | assumption | omega | rfl | decide | exact HeapL.list _ _ _ _ | exact HeapL.nil _ _ _ | exact HeapL.all _ _ _ | (apply HeapL.lt64 <;> assumption) | (repeat' (first | assumption | apply or_lt64 | apply and_lt64 | apply andn_lt64 | apply pow_lt64 | (apply HeapL.lt64 <;> assumption))))) ⟨rdF true (flatA3 _ _ _ _) rfl rfl, trivial⟩ rfl ⟨clF (flatA3 _ _ _ _), trivial⟩ rfl (by first | rfl | simp [mpV, mpA, mpS, mpP, renId, shift]) (by first | rfl | simp [mpV, mpA, mpS, mpP, renId, shift])) ?_
 refine segEndH [1, 4, 5, 6, 7, 8] (T1 := (mkT 40 [(1, vP 0 0), (4, vI 0), (5, .bool false), (6, vP 3 0), (7, vI 0), (8, .bool false)])) (by kernel_rfl) ?_
 refine kSeq ?_
 refine cSeq ?_
 refine cSeq ?_
 refine cReg ?_
 refine segEndH [1, 6, 34] (T1 := (mkT 40 [(1, vP 0 0), (6, vP 3 0), (34, .bool false)])) (by kernel_rfl) ?_
 refine kSeq ?_
 refine cFalse (by kernel_rfl) ?_
 refine cSkip ?_
 refine kSeq ?_
 refine cSeq ?_
 refine cSeq ?_
 refine cRegW (N := 5) [⟨[], [], [3]⟩, ⟨[], [], [0]⟩, ⟨[4], [], []⟩, ⟨[], [], [2, 4]⟩, ⟨[], [], []⟩] 1 [4] (by rfl) (by rfl) (by kernel_rfl) (by kernel_rfl) (by kernel_rfl) ⟨nmsX (by kernel_rfl), ⟨nmsX (by kernel_rfl), ⟨nmsX (by kernel_rfl), ⟨nmsX (by kernel_rfl), trivial⟩⟩⟩⟩ ?_
 refine segWH 2 (T1 := (mkT 40 [(1, vP 0 0), (6, vP 3 0), (34, .bool false), (35, .agg #[vI x, vI y, vI z, vS 2 0]), (36, .agg #[vI x, vI y, vI z, .slice none 0 0])])) (by kernel_rfl) ?_
 refine rW (m := ⟨[4], [], []⟩) (v := .agg #[vI x, vI y, vI z, vS 4 0]) rfl (by kernel_rfl) (stN (i := 4) (E := [some ⟨[], 46, false, true⟩]) (v1 := .agg #[vI x, vI y, vI z, vS 5 0]) (args := [.agg #[vI x, vI y, vI z, .slice none 0 0]]) rfl (by kernel_rfl) (Any.lay (E := [some ⟨[], 46, false, true⟩]) (N := 5) [] (toHeapN x y z) trivial rfl trivial rfl (by first | rfl | simp [mpV, mpA, mpS, mpP, renId, shift]) (by first | rfl | simp [mpV, mpA, mpS, mpP, renId, shift]) ⟨enX rfl (Or.inl rfl), trivial⟩) rfl (by kernel_rfl) (by kernel_rfl) (by kernel_rfl) (by kernel_rfl) (FlatH.cons (flatRow_of rfl) FlatH.nil)) (by kernel_rfl) (NRs.all ⟨nrOf (by rfl) (nmX (by kernel_rfl)), trivial⟩) ?_
 refine rW (m := ⟨[], [], [2, 4]⟩) (v := .bool true) rfl (by kernel_rfl) (stQ (args := [.agg #[vI x, vI y, vI z, vS 2 0], .agg #[vI x, vI y, vI z, vS 4 0]]) rfl (by kernel_rfl) (Any.lay0 [2, 4] (eqHeapB x y z ([] : List A3) (by first | omega | assumption | (simp; done))) ⟨rdF true (flatA3 _ _ _ _) rfl rfl, ⟨rdF true (flatA3 _ _ _ _) rfl rfl, trivial⟩⟩ rfl ⟨clF (flatA3 _ _ _ _), ⟨clF (flatA3 _ _ _ _), trivial⟩⟩ rfl (by first | rfl | simp [mpV, mpA, mpS, mpP, renId, shift]) rfl) rfl (by kernel_rfl) (by kernel_rfl)) (by kernel_rfl) nr0 ?_
 refine segEndW [39] (T1 := (mkT 40 [(39, .bool false)])) (H1 := [rB [vI x, vI y, vI z, .slice none 0 0] 24, some ⟨[], 46, false, true⟩, some ⟨[], 46, false, true⟩, rB [vI x, vI y, vI z, vS 2 0] 29, some ⟨[], 46, false, true⟩]) (by kernel_rfl) ?_
 refine kSeq ?_
 refine cFalse (by kernel_rfl) ?_
 refine cSkip ?_
 refine kSeq ?_
 refine cSeq ?_
 refine cReg ?_
 refine segEndH [2] (T1 := (mkT 40 [(2, .bool true)])) (by kernel_rfl) ?_
 refine kSeq ?_
 refine cRet ?_
 exact endQ (Or.inr rfl) (l := [.bool true]) [rB [vI x, vI y, vI z, .slice none 0 0] 24, some ⟨[], 46, false, true⟩, some ⟨[], 46, false, true⟩, rB [vI x, vI y, vI z, vS 2 0] 29, some ⟨[], 46, false, true⟩] (by kernel_rfl) (by first | rfl | kernel_rfl) rfl rfl hcl rfl
set_option maxRecDepth 100000 in
set_option maxHeartbeats 4000000 in
theorem lawEulerNumber_yes_s (X : Nat) (Y : Nat) (Z : Nat) (L : List A3) (hs : Sides X Y Z) (hL : HeapL X Y Z L) : Sound Try.prog 4 [.agg #[vN X, vN Y, vN Z, vS 0 L.length]] [some ⟨a3s L, 46, false, false⟩] (.bool true) [some ⟨a3s L, 46, false, false⟩] := by
 refine sound_intro (C := cx) Try.func4 rfl (by kernel_rfl) fun hcl => ?_
 have hz := hs.size
 have hx0 := hs.x0
 have hx4 := hs.x4
 have hy0 := hs.y0
 have hy4 := hs.y4
 have hz0 := hs.z0
 have hz4 := hs.z4
 have hlen : L.length ≤ 64 := by first | (have := hL.len; omega) | simp
 refine cSeq ?_
 refine cReg ?_
 refine segEnd [1] (T1 := (mkT 40 [(1, vP 1 0)])) (H1 := [some ⟨a3s L, 46, false, false⟩, rB [vN X, vN Y, vN Z, vS 0 L.length] 24]) (by kernel_rfl) ?_
 refine kSeq ?_
 refine cSeq ?_
 refine cReg ?_
 refine segEndH [1, 3] (T1 := (mkT 40 [(1, vP 1 0), (3, vI 1048576)])) (by kernel_rfl) ?_
 refine kSeq ?_
 refine cSeq ?_
 refine cReg ?_
 refine segH 2 (T1 := (mkT 40 [(1, vP 1 0), (3, vI 1048576), (9, .agg #[vN X, vN Y, vN Z, vS 0 L.length]), (10, vI 1048576)])) (by kernel_rfl) ?_
 refine rCall (v := vN (1048576 - L.length)) (args := [.agg #[vN X, vN Y, vN Z, vS 0 L.length], vI 1048576]) (by kernel_rfl) rfl (by kernel_rfl) (Sound.lay0 [0] (szHeapS ((X : Nat) : Int) ((Y : Nat) : Int) ((Z : Nat) : Int) L 1048576 (by first | omega | assumption | (simp; done)) (by first | omega | assumption | decide)) ⟨rdF false (flatA3 _ _ _ _) rfl rfl, trivial⟩ rfl ⟨clF (flatA3 _ _ _ _), trivial⟩ rfl (by first | rfl | simp [mpV, mpA, mpS, mpP, renId, shift]) rfl) ?_
 refine segEndH [1, 3] (T1 := (mkT 40 [(1, vP 1 0), (3, vN (1048576 - L.length))])) (by kernel_rfl) ?_
 refine kSeq ?_
 refine cSeq ?_
 refine cSeq ?_
 refine cReg ?_
 refine segEndH [1, 13] (T1 := (mkT 40 [(1, vP 1 0), (13, .bool (decide (((1048576 - L.length : Nat) : Int) < 0)))])) (by kernel_rfl) ?_
 refine kSeq ?_
 cases h1 : (decide (((1048576 - L.length : Nat) : Int) < 0) : Bool)
 ·
  (try simp only [bs0, bs1, bs2, bs3, beq_iff_eq, bne_iff_ne, beq_eq_false_iff_ne, bne_eq_false_iff_eq, ne_eq, bs4, bs5, bs6, bs7, bs8, bs9, bs10, bs11, ge_iff_le, gt_iff_lt] at h1)
  refine cFalse (by kernel_rfl) ?_
  refine cSkip ?_
  refine kSeq ?_
  refine cSeq ?_
  refine cReg ?_
  refine segH 1 (T1 := (mkT 40 [(1, vP 1 0), (13, .bool false), (15, .agg #[vN X, vN Y, vN Z, vS 0 L.length])])) (by kernel_rfl) ?_
  refine rCall (v := .agg #[vN X, vN Y, vN Z, vS 2 L.length]) (args := [.agg #[vN X, vN Y, vN Z, vS 0 L.length]]) (by kernel_rfl) rfl (by kernel_rfl) (Sound.lay (E := [some ⟨a3s L, 46, false, true⟩]) [0] (toHeapB ((X : Nat) : Int) ((Y : Nat) : Int) ((Z : Nat) : Int) L (by first | omega | assumption | (simp; done))) ⟨rdF false (flatA3 _ _ _ _) rfl rfl, trivial⟩ rfl ⟨clF (flatA3 _ _ _ _), trivial⟩ rfl (by first | rfl | simp [mpV, mpA, mpS, mpP, renId, shift]) (by first | rfl | simp [mpV, mpA, mpS, mpP, renId, shift]) ⟨enF (flatA3 _ _ _ _) (Or.inl rfl), trivial⟩) ?_
  refine rCall (v := .tuple #[vI (((cntP (metI L L.length) 0 : Nat) : Int) - ((cntP (metI L L.length) 1 : Nat) : Int) + ((cntP (metI L L.length) 2 : Nat) : Int) - ((cntP (metI L L.length) 3 : Nat) : Int)), .bool true]) (args := [.agg #[vN X, vN Y, vN Z, vS 2 L.length]]) (by kernel_rfl) rfl (by kernel_rfl) (Sound.lay0 [2] (specEulerNumber_yes X Y Z L (by first | assumption | omega | rfl | decide | exact HeapL.list _ _ _ _ | exact HeapL.nil _ _ _ | exact HeapL.all _ _ _ | (apply HeapL.lt64 <;> assumption) | (repeat' (first | assumption | apply or_lt64 | apply and_lt64 | apply andn_lt64 | apply pow_lt64 | (apply HeapL.lt64 <;> assumption)))) (by first | assumption | omega | rfl | decide | exact HeapL.list _ _ _ _ | exact HeapL.nil _ _ _ | exact HeapL.all _ _ _ | (apply HeapL.lt64 <;> assumption) | (repeat' (first | assumption | apply or_lt64 | apply and_lt64 | apply andn_lt64 | apply pow_lt64 | (apply HeapL.lt64 <;> assumption))))) ⟨rdF true (flatA3 _ _ _ _) rfl rfl, trivial⟩ rfl ⟨clF (flatA3 _ _ _ _), trivial⟩ rfl (by first | rfl | simp [mpV, mpA, mpS, mpP, renId, shift]) (by first | rfl | simp [mpV, mpA, mpS, mpP, renId, shift])) ?_
  refine segEnd [1, 4, 5] (T1 := (mkT 40 [(1, vP 1 0), (4, vI (((cntP (metI L L.length) 0 : Nat) : Int) - ((cntP (metI L L.length) 1 : Nat) : Int) + ((cntP (metI L L.length) 2 : Nat) : Int) - ((cntP (metI L L.length) 3 : Nat) : Int))), (5, .bool true)])) (H1 := [some ⟨a3s L, 46, false, false⟩, rB [vN X, vN Y, vN Z, vS 0 L.length] 24, some ⟨a3s L, 46, false, true⟩]) (by kernel_rfl) ?_
  refine kSeq ?_
  refine cSeq ?_
  refine cReg ?_
  refine segH 1 (T1 := (mkT 40 [(1, vP 1 0), (4, vI (((cntP (metI L L.length) 0 : Nat) : Int) - ((cntP (metI L L.length) 1 : Nat) : Int) + ((cntP (metI L L.length) 2 : Nat) : Int) - ((cntP (metI L L.length) 3 : Nat) : Int))), (5, .bool true), (20, .agg #[vN X, vN Y, vN Z, vS 0 L.length])])) (by kernel_rfl) ?_
  refine rCall (v := .agg #[vN X, vN Y, vN Z, vS 3 L.length]) (args := [.agg #[vN X, vN Y, vN Z, vS 0 L.length]]) (by kernel_rfl) rfl (by kernel_rfl) (Sound.lay (E := [some ⟨a3s L, 46, false, true⟩]) [0] (toHeapB ((X : Nat) : Int) ((Y : Nat) : Int) ((Z : Nat) : Int) L (by first | omega | assumption | (simp; done))) ⟨rdF false (flatA3 _ _ _ _) rfl rfl, trivial⟩ rfl ⟨clF (flatA3 _ _ _ _), trivial⟩ rfl (by first | rfl | simp [mpV, mpA, mpS, mpP, renId, shift]) (by first | rfl | simp [mpV, mpA, mpS, mpP, renId, shift]) ⟨enF (flatA3 _ _ _ _) (Or.inl rfl), trivial⟩) ?_
  refine segEnd [1, 4, 5, 6] (T1 := (mkT 40 [(1, vP 1 0), (4, vI (((cntP (metI L L.length) 0 : Nat) : Int) - ((cntP (metI L L.length) 1 : Nat) : Int) + ((cntP (metI L L.length) 2 : Nat) : Int) - ((cntP (metI L L.length) 3 : Nat) : Int))), (5, .bool true), (6, vP 4 0)])) (H1 := [some ⟨a3s L, 46, false, false⟩, rB [vN X, vN Y, vN Z, vS 0 L.length] 24, some ⟨a3s L, 46, false, true⟩, some ⟨a3s L, 46, false, true⟩, rB [vN X, vN Y, vN Z, vS 3 L.length] 29]) (by kernel_rfl) ?_
  refine kSeq ?_
  refine cSeq ?_
  refine cReg ?_
  refine segH 1 (T1 := (mkT 40 [(1, vP 1 0), (4, vI (((cntP (metI L L.length) 0 : Nat) : Int) - ((cntP (metI L L.length) 1 : Nat) : Int) + ((cntP (metI L L.length) 2 : Nat) : Int) - ((cntP (metI L L.length) 3 : Nat) : Int))), (5, .bool true), (6, vP 4 0), (23, .agg #[vN X, vN Y, vN Z, vS 3 L.length])])) (by kernel_rfl) ?_
  refine rCall (v := .tuple #[vI (((cntP (metI L L.length) 0 : Nat) : Int) - ((cntP (metI L L.length) 1 : Nat) : Int) + ((cntP (metI L L.length) 2 : Nat) : Int) - ((cntP (metI L L.length) 3 : Nat) : Int)), .bool true]) (args := [.agg #[vN X, vN Y, vN Z, vS 3 L.length]]) (by kernel_rfl) rfl (by kernel_rfl) (Sound.lay0 [3] (implEulerNumber_yes X Y Z L (by first | assumption | omega | rfl | decide | exact HeapL.list _ _ _ _ | exact HeapL.nil _ _ _ | exact HeapL.all _ _ _ | (apply HeapL.lt64 <;> assumption) | (repeat' (first | assumption | apply or_lt64 | apply and_lt64 | apply andn_lt64 | apply pow_lt64 | (apply HeapL.lt64 <;> assumption)))) (by first | assumption | omega | rfl | decide | exact HeapL.list _ _ _ _ | exact HeapL.nil _ _ _ | exact HeapL.all _ _ _ | (apply HeapL.lt64 <;> assumption) | (repeat' (first | assumption | apply or_lt64 | apply and_lt64 | apply andn_lt64 | apply pow_lt64 | (apply HeapL.lt64 <;> assumption))))) ⟨rdF true (flatA3 _ _ _ _) rfl rfl, trivial⟩ rfl ⟨clF (flatA3 _ _ _ _), trivial⟩ rfl (by first | rfl | simp [mpV, mpA, mpS, mpP, renId, shift]) (by first | rfl | simp [mpV, mpA, mpS, mpP, renId, shift])) ?_
  refine segEndH [1, 4, 5, 6, 7, 8] (T1 := (mkT 40 [(1, vP 1 0), (4, vI (((cntP (metI L L.length) 0 : Nat) : Int) - ((cntP (metI L L.length) 1 : Nat) : Int) + ((cntP (metI L L.length) 2 : Nat) : Int) - ((cntP (metI L L.length) 3 : Nat) : Int))), (5, .bool true), (6, vP 4 0), (7, vI (((cntP (metI L L.length) 0 : Nat) : Int) - ((cntP (metI L L.length) 1 : Nat) : Int) + ((cntP (metI L L.length) 2 : Nat) : Int) - ((cntP (metI L L.length) 3 : Nat) : Int))), (8, .bool true)])) (by kernel_rfl) ?_
  refine kSeq ?_
  refine cSeq ?_
  refine cSeq ?_
  refine cReg ?_
  refine segH 2 (T1 := (mkT 40 [(1, vP 1 0), (4, vI (((cntP (metI L L.length) 0 : Nat) : Int) - ((cntP (metI L L.length) 1 : Nat) : Int) + ((cntP (metI L L.length) 2 : Nat) : Int) - ((cntP (metI L L.length) 3 : Nat) : Int))), (5, .bool true), (6, vP 4 0), (7, vI (((cntP (metI L L.length) 0 : Nat) : Int) - ((cntP (metI L L.length) 1 : Nat) : Int) + ((cntP (metI L L.length) 2 : Nat) : Int) - ((cntP (metI L L.length) 3 : Nat) : Int))), (8, .bool true), (27, vI (((cntP (metI L L.length) 0 : Nat) : Int) - ((cntP (metI L L.length) 1 : Nat) : Int) + ((cntP (metI L L.length) 2 : Nat) : Int) - ((cntP (metI L L.length) 3 : Nat) : Int))), (28, vI (((cntP (metI L L.length) 0 : Nat) : Int) - ((cntP (metI L L.length) 1 : Nat) : Int) + ((cntP (metI L L.length) 2 : Nat) : Int) - ((cntP (metI L L.length) 3 : Nat) : Int)))])) (by kernel_rfl) ?_
  refine rOp (v := .bool false) (by kernel_rfl) (eNeS (k := .i64) (a := (((cntP (metI L L.length) 0 : Nat) : Int) - ((cntP (metI L L.length) 1 : Nat) : Int) + ((cntP (metI L L.length) 2 : Nat) : Int) - ((cntP (metI L L.length) 3 : Nat) : Int))) (by kernel_rfl) (by kernel_rfl)) ?_
  refine segEndH [1, 6, 34] (T1 := (mkT 40 [(1, vP 1 0), (6, vP 4 0), (34, .bool false)])) (by kernel_rfl) ?_
  refine kSeq ?_
  refine cFalse (by kernel_rfl) ?_
  refine cSkip ?_
  refine kSeq ?_
  refine cSeq ?_
  refine cSeq ?_
  refine cRegW (N := 6) [⟨[], [], [4]⟩, ⟨[], [], [1]⟩, ⟨[5], [], [0]⟩, ⟨[], [], [3, 5]⟩, ⟨[], [], []⟩] 1 [5] (by rfl) (by rfl) (by kernel_rfl) (by kernel_rfl) (by kernel_rfl) ⟨nmsF (flatA3 _ _ _ _), ⟨nmsX (by kernel_rfl), ⟨nmsF (flatA3 _ _ _ _), ⟨nmsF (flatA3 _ _ _ _), ⟨nmsX (by kernel_rfl), trivial⟩⟩⟩⟩⟩ ?_
  refine segWH 2 (T1 := (mkT 40 [(1, vP 1 0), (6, vP 4 0), (34, .bool false), (35, .agg #[vN X, vN Y, vN Z, vS 3 L.length]), (36, .agg #[vN X, vN Y, vN Z, vS 0 L.length])])) (by kernel_rfl) ?_
  refine rW (m := ⟨[5], [], [0]⟩) (v := .agg #[vN X, vN Y, vN Z, vS 5 L.length]) rfl (by kernel_rfl) (stN (i := 5) (E := [some ⟨a3s L, 46, false, true⟩]) (v1 := .agg #[vN X, vN Y, vN Z, vS 6 L.length]) (args := [.agg #[vN X, vN Y, vN Z, vS 0 L.length]]) rfl (by kernel_rfl) (Any.lay (E := [some ⟨a3s L, 46, false, true⟩]) (N := 6) [0] (toHeapB ((X : Nat) : Int) ((Y : Nat) : Int) ((Z : Nat) : Int) L (by first | omega | assumption | (simp; done))) ⟨rdF false (flatA3 _ _ _ _) rfl rfl, trivial⟩ rfl ⟨clF (flatA3 _ _ _ _), trivial⟩ rfl (by first | rfl | simp [mpV, mpA, mpS, mpP, renId, shift]) (by first | rfl | simp [mpV, mpA, mpS, mpP, renId, shift]) ⟨enF (flatA3 _ _ _ _) (Or.inl rfl), trivial⟩) rfl (by kernel_rfl) (by kernel_rfl) (by kernel_rfl) (by kernel_rfl) (FlatH.cons (flatA3 _ _ _ _) FlatH.nil)) (by kernel_rfl) (NRs.all ⟨nrOf (by rfl) (nmF (flatA3 _ _ _ _)), trivial⟩) ?_
  refine rW (m := ⟨[], [], [3, 5]⟩) (v := .bool true) rfl (by kernel_rfl) (stQ (args := [.agg #[vN X, vN Y, vN Z, vS 3 L.length], .agg #[vN X, vN Y, vN Z, vS 5 L.length]]) rfl (by kernel_rfl) (Any.lay0 [3, 5] (eqHeapB ((X : Nat) : Int) ((Y : Nat) : Int) ((Z : Nat) : Int) L (by first | omega | assumption | (simp; done))) ⟨rdF true (flatA3 _ _ _ _) rfl rfl, ⟨rdF true (flatA3 _ _ _ _) rfl rfl, trivial⟩⟩ rfl ⟨clF (flatA3 _ _ _ _), ⟨clF (flatA3 _ _ _ _), trivial⟩⟩ rfl (by first | rfl | simp [mpV, mpA, mpS, mpP, renId, shift]) rfl) rfl (by kernel_rfl) (by kernel_rfl)) (by kernel_rfl) nr0 ?_
  refine segEndW [39] (T1 := (mkT 40 [(39, .bool false)])) (H1 := [some ⟨a3s L, 46, false, false⟩, rB [vN X, vN Y, vN Z, vS 0 L.length] 24, some ⟨a3s L, 46, false, true⟩, some ⟨a3s L, 46, false, true⟩, rB [vN X, vN Y, vN Z, vS 3 L.length] 29, some ⟨a3s L, 46, false, true⟩]) (by kernel_rfl) ?_
  refine kSeq ?_
  refine cFalse (by kernel_rfl) ?_
  refine cSkip ?_
  refine kSeq ?_
  refine cSeq ?_
  refine cReg ?_
  refine segEndH [2] (T1 := (mkT 40 [(2, .bool true)])) (by kernel_rfl) ?_
  refine kSeq ?_
  refine cRet ?_
  exact endQ (Or.inr rfl) (l := [.bool true]) [rB [vN X, vN Y, vN Z, vS 0 L.length] 24, some ⟨a3s L, 46, false, true⟩, some ⟨a3s L, 46, false, true⟩, rB [vN X, vN Y, vN Z, vS 3 L.length] 29, some ⟨a3s L, 46, false, true⟩] (by kernel_rfl) (by first | rfl | kernel_rfl) rfl rfl hcl rfl
 ·
  (try simp only [bs0, bs1, bs2, bs3, beq_iff_eq, bne_iff_ne, beq_eq_false_iff_ne, bne_eq_false_iff_eq, ne_eq, bs4, bs5, bs6, bs7, bs8, bs9, bs10, bs11, ge_iff_le, gt_iff_lt] at h1)
  exfalso; omega
set_option maxRecDepth 100000 in
set_option maxHeartbeats 4000000 in
theorem lawEulerNumber_yes_n (X : Nat) (Y : Nat) (Z : Nat) (hs : Sides X Y Z) : Sound Try.prog 4 [.agg #[vN X, vN Y, vN Z, .slice none 0 0]] [] (.bool true) [] := by
 refine sound_intro (C := cx) Try.func4 rfl (by kernel_rfl) fun hcl => ?_
 have hz := hs.size
 have hx0 := hs.x0
 have hx4 := hs.x4
 have hy0 := hs.y0
 have hy4 := hs.y4
 have hz0 := hs.z0
 have hz4 := hs.z4
 have hlen : ([] : List A3).length ≤ 64 := by first | (have := hL.len; omega) | simp
 refine cSeq ?_
 refine cReg ?_
 refine segEnd [1] (T1 := (mkT 40 [(1, vP 0 0)])) (H1 := [rB [vN X, vN Y, vN Z, .slice none 0 0] 24]) (by kernel_rfl) ?_
 refine kSeq ?_
 refine cSeq ?_
 refine cReg ?_
 refine segEndH [1, 3] (T1 := (mkT 40 [(1, vP 0 0), (3, vI 1048576)])) (by kernel_rfl) ?_
 refine kSeq ?_
 refine cSeq ?_
 refine cReg ?_
 refine segH 2 (T1 := (mkT 40 [(1, vP 0 0), (3, vI 1048576), (9, .agg #[vN X, vN Y, vN Z, .slice none 0 0]), (10, vI 1048576)])) (by kernel_rfl) ?_
 refine rCall (v := vI 1048576) (args := [.agg #[vN X, vN Y, vN Z, .slice none 0 0], vI 1048576]) (by kernel_rfl) rfl (by kernel_rfl) (Sound.lay0 [] (szHeapN ((X : Nat) : Int) ((Y : Nat) : Int) ((Z : Nat) : Int) 1048576 (by first | omega | assumption | decide)) trivial rfl trivial rfl (by first | rfl | simp [mpV, mpA, mpS, mpP, renId, shift]) rfl) ?_
 refine segEndH [1, 3] (T1 := (mkT 40 [(1, vP 0 0), (3, vI 1048576)])) (by kernel_rfl) ?_
 refine kSeq ?_
 refine cSeq ?_
 refine cSeq ?_
 refine cReg ?_
 refine segEndH [1, 13] (T1 := (mkT 40 [(1, vP 0 0), (13, .bool false)])) (by kernel_rfl) ?_
 refine kSeq ?_
 refine cFalse (by kernel_rfl) ?_
 refine cSkip ?_
 refine kSeq ?_
 refine cSeq ?_
 refine cReg ?_
 refine segH 1 (T1 := (mkT 40 [(1, vP 0 0), (13, .bool false), (15, .agg #[vN X, vN Y, vN Z, .slice none 0 0])])) (by kernel_rfl) ?_
 refine rCall (v := .agg #[vN X, vN Y, vN Z, vS 1 0]) (args := [.agg #[vN X, vN Y, vN Z, .slice none 0 0]]) (by kernel_rfl) rfl (by kernel_rfl) (Sound.lay (E := [some ⟨[], 46, false, true⟩]) [] (toHeapN ((X : Nat) : Int) ((Y : Nat) : Int) ((Z : Nat) : Int)) trivial rfl trivial rfl (by first | rfl | simp [mpV, mpA, mpS, mpP, renId, shift]) (by first | rfl | simp [mpV, mpA, mpS, mpP, renId, shift]) ⟨enX rfl (Or.inl rfl), trivial⟩) ?_
 refine rCall (v := .tuple #[vI (((cntP (metI ([] : List A3) ([] : List A3).length) 0 : Nat) : Int) - ((cntP (metI ([] : List A3) ([] : List A3).length) 1 : Nat) : Int) + ((cntP (metI ([] : List A3) ([] : List A3).length) 2 : Nat) : Int) - ((cntP (metI ([] : List A3) ([] : List A3).length) 3 : Nat) : Int)), .bool true]) (args := [.agg #[vN X, vN Y, vN Z, vS 1 0]]) (by kernel_rfl) rfl (by kernel_rfl) (Sound.lay0 [1] (specEulerNumber_yes X Y Z ([] : List A3) (by first | assumption | omega | rfl | decide | exact HeapL.list _ _ _ _ | exact HeapL.nil _ _ _ | exact HeapL.all _ _ _ | (apply HeapL.lt64 <;> assumption) | (repeat' (first | assumption | apply or_lt64 | apply and_lt64 | apply andn_lt64 | apply pow_lt64 | (apply HeapL.lt64 <;> assumption)))) (by first | assumption | omega | rfl | decide | exact HeapL.list _ _ _ _ | exact HeapL.nil _ _ _ | exact HeapL.all _ _ _ | (apply HeapL.lt64 <;> assumption) | (repeat' (first | assumption | apply or_lt64 | apply and_lt64 | apply andn_lt64 | apply pow_lt64 | (apply HeapL.lt64 <;> assumption))))) ⟨rdF true (flatA3 _ _ _ _) rfl rfl, trivial⟩ rfl ⟨clF (flatA3 _ _ _ _), trivial⟩ rfl (by first | rfl | simp [mpV, mpA, mpS, mpP, renId, shift]) (by first | rfl | simp [mpV, mpA, mpS, mpP, renId, shift])) ?_
 refine segEnd [1, 4, 5] (T1 := (mkT 40 [(1, vP 0 0), (4, vI (((cntP (metI ([] : List A3) ([] : List A3).length) 0 : Nat) : Int) - ((cntP (metI ([] : List A3) ([] : List A3).length) 1 : Nat) : Int) + ((cntP (metI ([] : List A3) ([] : List A3).length) 2 : Nat) : Int) - ((cntP (metI ([] : List A3) ([] : List A3).length) 3 : Nat) : Int))), (5, .bool true)])) (H1 := [rB [vN X, vN Y, vN Z, .slice none 0 0] 24, some ⟨[], 46, false, true⟩]) (by kernel_rfl) ?_
 refine kSeq ?_
 refine cSeq ?_
 refine cReg ?_
 refine segH 1 (T1 := (mkT 40 [(1, vP 0 0), (4, vI (((cntP (metI ([] : List A3) ([] : List A3).length) 0 : Nat) : Int) - ((cntP (metI ([] : List A3) ([] : List A3).length) 1 : Nat) : Int) + ((cntP (metI ([] : List A3) ([] : List A3).length) 2 : Nat) : Int) - ((cntP (metI ([] : List A3) ([] : List A3).length) 3 : Nat) : Int))), (5, .bool true), (20, .agg #[vN X, vN Y, vN Z, .slice none 0 0])])) (by kernel_rfl) ?_
 refine rCall (v := .agg #[vN X, vN Y, vN Z, vS 2 0]) (args := [.agg #[vN X, vN Y, vN Z, .slice none 0 0]]) (by kernel_rfl) rfl (by kernel_rfl) (Sound.lay (E := [some ⟨[], 46, false, true⟩]) [] (toHeapN ((X : Nat) : Int) ((Y : Nat) : Int) ((Z : Nat) : Int)) trivial rfl trivial rfl (by first | rfl | simp [mpV, mpA, mpS, mpP, renId, shift]) (by first | rfl | simp [mpV, mpA, mpS, mpP, renId, shift]) ⟨enX rfl (Or.inl rfl), trivial⟩) ?_
 refine segEnd [1, 4, 5, 6] (T1 := (mkT 40 [(1, vP 0 0), (4, vI (((cntP (metI ([] : List A3) ([] : List A3).length) 0 : Nat) : Int) - ((cntP (metI ([] : List A3) ([] : List A3).length) 1 : Nat) : Int) + ((cntP (metI ([] : List A3) ([] : List A3).length) 2 : Nat) : Int) - ((cntP (metI ([] : List A3) ([] : List A3).length) 3 : Nat) : Int))), (5, .bool true), (6, vP 3 0)])) (H1 := [rB [vN X, vN Y, vN Z, .slice none 0 0] 24, some ⟨[], 46, false, true⟩, some ⟨[], 46, false, true⟩, rB [vN X, vN Y, vN Z, vS 2 0] 29]) (by kernel_rfl) ?_
 refine kSeq ?_
 refine cSeq ?_
 refine cReg ?_
 refine segH 1 (T1 := (mkT 40 [(1, vP 0 0), (4, vI (((cntP (metI ([] : List A3) ([] : List A3).length) 0 : Nat) : Int) - ((cntP (metI ([] : List A3) ([] : List A3).length) 1 : Nat) : Int) + ((cntP (metI ([] : List A3) ([] : List A3).length) 2 : Nat) : Int) - ((cntP (metI ([] : List A3) ([] : List A3).length) 3 : Nat) : Int))), (5, .bool true), (6, vP 3 0), (23, .agg #[vN X, vN Y, vN Z, vS 2 0])])) (by kernel_rfl) ?_
 refine rCall (v := .tuple #[vI (((cntP (metI ([] : List A3) ([] : List A3).length) 0 : Nat) : Int) - ((cntP (metI ([] : List A3) ([] : List A3).length) 1 : Nat) : Int) + ((cntP (metI ([] : List A3) ([] : List A3).length) 2 : Nat) : Int) - ((cntP (metI ([] : List A3) ([] : List A3).length) 3 : Nat) : Int)), .bool true]) (args := [.agg #[vN X, vN Y, vN Z, vS 2 0]]) (by kernel_rfl) rfl (by kernel_rfl) (Sound.lay0 [2] (implEulerNumber_yes X Y Z ([] : List A3) (by first | assumption | omega | rfl | decide | exact HeapL.list _ _ _ _ | exact HeapL.nil _ _ _ | exact HeapL.all _ _ _ | (apply HeapL.lt64 <;> assumption) | (repeat' (first | assumption | apply or_lt64 | apply and_lt64 | apply andn_lt64 | apply pow_lt64 | (apply HeapL.lt64 <;> assumption)))) (by first | assumption | omega | rfl | decide | exact HeapL.list _ _ _ _ | exact HeapL.nil _ _ _ | exact HeapL.all _ _ _ | (apply HeapL.lt64 <;> assumption) | (repeat' (first | assumption | apply or_lt64 | apply and_lt64 | apply andn_lt64 | apply pow_lt64 | (apply HeapL.lt64 <;> assumption))))) ⟨rdF true (flatA3 _ _ _ _) rfl rfl, trivial⟩ rfl ⟨clF (flatA3 _ _ _ _), trivial⟩ rfl (by first | rfl | simp [mpV, mpA, mpS, mpP, renId, shift]) (by first | rfl | simp [mpV, mpA, mpS, mpP, renId, shift])) ?_
 refine segEndH [1, 4, 5, 6, 7, 8] (T1 := (mkT 40 [(1, vP 0 0), (4, vI (((cntP (metI ([] : List A3) ([] : List A3).length) 0 : Nat) : Int) - ((cntP (metI ([] : List A3) ([] : List A3).length) 1 : Nat) : Int) + ((cntP (metI ([] : List A3) ([] : List A3).length) 2 : Nat) : Int) - ((cntP (metI ([] : List A3) ([] : List A3).length) 3 : Nat) : Int))), (5, .bool true), (6, vP 3 0), (7, vI (((cntP (metI ([] : List A3) ([] : List A3).length) 0 : Nat) : Int) - ((cntP (metI ([] : List A3) ([] : List A3).length) 1 : Nat) : Int) + ((cntP (metI ([] : List A3) ([] : List A3).length) 2 : Nat) : Int) - ((cntP (metI ([] : List A3) ([] : List A3).length) 3 : Nat) : Int))), (8, .bool true)])) (by kernel_rfl) ?_
 refine kSeq ?_
 refine cSeq ?_
 refine cSeq ?_
 refine cReg ?_
 refine segH 2 (T1 := (mkT 40 [(1, vP 0 0), (4, vI (((cntP (metI ([] : List A3) ([] : List A3).length) 0 : Nat) : Int) - ((cntP (metI ([] : List A3) ([] : List A3).length) 1 : Nat) : Int) + ((cntP (metI ([] : List A3) ([] : List A3).length) 2 : Nat) : Int) - ((cntP (metI ([] : List A3) ([] : List A3).length) 3 : Nat) : Int))), (5, .bool true), (6, vP 3 0), (7, vI (((cntP (metI ([] : List A3) ([] : List A3).length) 0 : Nat) : Int) - ((cntP (metI ([] : List A3) ([] : List A3).length) 1 : Nat) : Int) + ((cntP (metI ([] : List A3) ([] : List A3).length) 2 : Nat) : Int) - ((cntP (metI ([] : List A3) ([] : List A3).length) 3 : Nat) : Int))), (8, .bool true), (27, vI (((cntP (metI ([] : List A3) ([] : List A3).length) 0 : Nat) : Int) - ((cntP (metI ([] : List A3) ([] : List A3).length) 1 : Nat) : Int) + ((cntP (metI ([] : List A3) ([] : List A3).length) 2 : Nat) : Int) - ((cntP (metI ([] : List A3) ([] : List A3).length) 3 : Nat) : Int))), (28, vI (((cntP (metI ([] : List A3) ([] : List A3).length) 0 : Nat) : Int) - ((cntP (metI ([] : List A3) ([] : List A3).length) 1 : Nat) : Int) + ((cntP (metI ([] : List A3) ([] : List A3).length) 2 : Nat) : Int) - ((cntP (metI ([] : List A3) ([] : List A3).length) 3 : Nat) : Int)))])) (by kernel_rfl) ?_
 refine rOp (v := .bool false) (by kernel_rfl) (eNeS (k := .i64) (a := (((cntP (metI ([] : List A3) ([] : List A3).length) 0 : Nat) : Int) - ((cntP (metI ([] : List A3) ([] : List A3).length) 1 : Nat) : Int) + ((cntP (metI ([] : List A3) ([] : List A3).length) 2 : Nat) : Int) - ((cntP (metI ([] : List A3) ([] : List A3).length) 3 : Nat) : Int))) (by kernel_rfl) (by kernel_rfl)) ?_
 refine segEndH [1, 6, 34] (T1 := (mkT 40 [(1, vP 0 0), (6, vP 3 0), (34, .bool false)])) (by kernel_rfl) ?_
 refine kSeq ?_
 refine cFalse (by kernel_rfl) ?_
 refine cSkip ?_
 refine kSeq ?_
 refine cSeq ?_
 refine cSeq ?_
 refine cRegW (N := 5) [⟨[], [], [3]⟩, ⟨[], [], [0]⟩, ⟨[4], [], []⟩, ⟨[], [], [2, 4]⟩, ⟨[], [], []⟩] 1 [4] (by rfl) (by rfl) (by kernel_rfl) (by kernel_rfl) (by kernel_rfl) ⟨nmsX (by kernel_rfl), ⟨nmsX (by kernel_rfl), ⟨nmsX (by kernel_rfl), ⟨nmsX (by kernel_rfl), trivial⟩⟩⟩⟩ ?_
 refine segWH 2 (T1 := (mkT 40 [(1, vP 0 0), (6, vP 3 0), (34, .bool false), (35, .agg #[vN X, vN Y, vN Z, vS 2 0]), (36, .agg #[vN X, vN Y, vN Z, .slice none 0 0])])) (by kernel_rfl) ?_
 refine rW (m := ⟨[4], [], []⟩) (v := .agg #[vN X, vN Y, vN Z, vS 4 0]) rfl (by kernel_rfl) (stN (i := 4) (E := [some ⟨[], 46, false, true⟩]) (v1 := .agg #[vN X, vN Y, vN Z, vS 5 0]) (args := [.agg #[vN X, vN Y, vN Z, .slice none 0 0]]) rfl (by kernel_rfl) (Any.lay (E := [some ⟨[], 46, false, true⟩]) (N := 5) [] (toHeapN ((X : Nat) : Int) ((Y : Nat) : Int) ((Z : Nat) : Int)) trivial rfl trivial rfl (by first | rfl | simp [mpV, mpA, mpS, mpP, renId, shift]) (by first | rfl | simp [mpV, mpA, mpS, mpP, renId, shift]) ⟨enX rfl (Or.inl rfl), trivial⟩) rfl (by kernel_rfl) (by kernel_rfl) (by kernel_rfl) (by kernel_rfl) (FlatH.cons (flatRow_of rfl) FlatH.nil)) (by kernel_rfl) (NRs.all ⟨nrOf (by rfl) (nmX (by kernel_rfl)), trivial⟩) ?_
 refine rW (m := ⟨[], [], [2, 4]⟩) (v := .bool true) rfl (by kernel_rfl) (stQ (args := [.agg #[vN X, vN Y, vN Z, vS 2 0], .agg #[vN X, vN Y, vN Z, vS 4 0]]) rfl (by kernel_rfl) (Any.lay0 [2, 4] (eqHeapB ((X : Nat) : Int) ((Y : Nat) : Int) ((Z : Nat) : Int) ([] : List A3) (by first | omega | assumption | (simp; done))) ⟨rdF true (flatA3 _ _ _ _) rfl rfl, ⟨rdF true (flatA3 _ _ _ _) rfl rfl, trivial⟩⟩ rfl ⟨clF (flatA3 _ _ _ _), ⟨clF (flatA3 _ _ _ _), trivial⟩⟩ rfl (by first | rfl | simp [mpV, mpA, mpS, mpP, renId, shift]) rfl) rfl (by kernel_rfl) (by kernel_rfl)) (by kernel_rfl) nr0 ?_
 refine segEndW [39] (T1 := (mkT 40 [(39, .bool false)])) (H1 := [rB [vN X, vN Y, vN Z, .slice none 0 0] 24, some ⟨[], 46, false, true⟩, some ⟨[], 46, false, true⟩, rB [vN X, vN Y, vN Z, vS 2 0] 29, some ⟨[], 46, false, true⟩]) (by kernel_rfl) ?_
 refine kSeq ?_
 refine cFalse (by kernel_rfl) ?_
 refine cSkip ?_
 refine kSeq ?_
 refine cSeq ?_
 refine cReg ?_
 refine segEndH [2] (T1 := (mkT 40 [(2, .bool true)])) (by kernel_rfl) ?_
 refine kSeq ?_
 refine cRet ?_
 exact endQ (Or.inr rfl) (l := [.bool true]) [rB [vN X, vN Y, vN Z, .slice none 0 0] 24, some ⟨[], 46, false, true⟩, some ⟨[], 46, false, true⟩, rB [vN X, vN Y, vN Z, vS 2 0] 29, some ⟨[], 46, false, true⟩] (by kernel_rfl) (by first | rfl | kernel_rfl) rfl rfl hcl rfl
theorem lawEulerNumber_s (x y z : Int) (L : List A3) (hm : L.length ≤ 9223372036854775807) : Sound Try.prog 4 [.agg #[vI x, vI y, vI z, vS 0 L.length]] [some ⟨a3s L, 46, false, false⟩] (.bool true) [some ⟨a3s L, 46, false, false⟩] := by
 by_cases hl : L.length ≤ 1048576
 ·
  cases hv : isHeapB x y z L
  ·
   exact lawEulerNumber_no_s x y z L hl hv
  ·
   obtain ⟨X, Y, Z, rfl, rfl, rfl, hs, hL⟩ := heapL_of hv
   exact lawEulerNumber_yes_s X Y Z L hs hL
 ·
  exact lawEulerNumber_big_s x y z L (by omega) hm
theorem lawEulerNumber_n (x y z : Int)  : Sound Try.prog 4 [.agg #[vI x, vI y, vI z, .slice none 0 0]] [] (.bool true) [] := by
 cases hv : isHeapB x y z ([] : List A3)
 ·
  exact lawEulerNumber_no_n x y z hv
 ·
  obtain ⟨X, Y, Z, rfl, rfl, rfl, hs, hL⟩ := heapL_of hv
  exact lawEulerNumber_yes_n X Y Z hs
end Go.Proofs.Yteohlhpdbnhbaaa.F
namespace Go.Proofs.Yteohlhpdbnhbaaa.F.fnExactEulerNumber
open Go.Am Go.ChangeShapes Go.WideShapes Go.ChangeAt Go.RowKit
theorem own : ownKnob Try.prog.godebug = none := by kernel_rfl
theorem laidOut : laidOutB Try.prog = true := by kernel_rfl
set_option maxRecDepth 100000 in
theorem lifted (os : Os) (started : os.Started) (H : Type) (enc : TypeId × Value → H) :
  ReturnsInHanded {} Try.checked os 4 .any (Rows.fnExactEulerNumberSpec.pre6 enc Try.prog Try.f4 Rows.fnExactEulerNumberRow.domain false) (Rows.fnExactEulerNumberSpec.post enc Try.prog Try.f4 false true false false) := by
 refine returnsInHanded_of_change_sized (C := Try.checked) own started (by kernel_rfl) Try.func4
  (ChangeSpec.witness6 (enc := enc) (C := Try.checked) false ⟨#[], #[.agg #[.int .i64 0, .int .i64 0, .int .i64 0, .slice none 0 0]], []⟩ 8 (by kernel_rfl) (by kernel_rfl) (by kernel_rfl) (by kernel_rfl)) ?_
 intro W base args ds gs before hval0 hW hcnd hsz0 _
 have hval : ∀ (j : Nat) t v, Try.f4.params[j]? = some t → args[j]? = some v → Value.okWide Try.prog W .any base t v := hval0
 have hW' := hW
 obtain ⟨p, q, hA0, hV, rfl, hfz, hnd⟩ := hW
 have hA : DataW.TrodAll enc Try.prog W 0 (fun _ => true) true Try.f4.params.toList args.toList ds p := hA0
 rw [Try.params4] at hA hval
 obtain ⟨v0, vs0, d0, ds0, p0, q0, hargs, rfl, rfl, h0, r0⟩ := trodAll_cons hA
 obtain ⟨rfl, rfl, rfl⟩ := trodAll_nil r0
 obtain rfl : args = #[v0] := by cases args; simp_all
 obtain ⟨rfl, rfl⟩ := trodVars_none hV
 have hlt0 : ∀ x ∈ p0, x.block < W.heap.size := fun x hx => by simpa using hW'.lt x (by simp [hx])
 have fin : (∃ Q : Prop, Q) ∧ Calls Try.prog 4 #[v0] W (fun e W' => e = .returned (.bool true) ∧ Below W.heap.size W W') := by
  refine ⟨⟨True, trivial⟩, ?_⟩
  obtain ⟨x0, y0, z0, wx0, wy0, wz0, hor0⟩ := open_heap (b0 := base) Try.underlying24 ⟨rfl, rfl⟩ ⟨rfl, rfl⟩ ⟨rfl, rfl⟩ ⟨rfl, rfl⟩ Try.underlying22 Try.underlying46 Try.underlying3 (by kernel_rfl) (by kernel_rfl) (by kernel_rfl) (by kernel_rfl) (by kernel_rfl) (hval 0 24 v0 rfl rfl) h0
  rcases hor0 with rfl | ⟨ad0, cap0, L0, rfl, hl0, hm0, hsp0, hhas0, hcell0⟩
  ·
   have hS : Sound Try.prog 4 [.agg #[.int .i64 x0, .int .i64 y0, .int .i64 z0, .slice none 0 0]] [] (.bool true) [] := lawEulerNumber_n x0 y0 z0
   exact hS.top0 rfl rfl W
  ·
   have hS : Sound Try.prog 4 [.agg #[.int .i64 x0, .int .i64 y0, .int .i64 z0, .slice (some ⟨0, 0, none⟩) L0.length 0]] [some ⟨a3s L0, 46, false, false⟩] (.bool true) [some ⟨a3s L0, 46, false, false⟩] := lawEulerNumber_s x0 y0 z0 L0 (by have : maxLen = 9223372036854775807 := rfl; omega)
   have hrep := rep_one (P := Try.prog) (b0 := base) (ta := 46) (by kernel_rfl) hhas0 (by rw [Try.underlying46]; simp) hcell0 hl0
   have h := hS.top (fun i r hi => by cases i with
    | zero => simp at hi; subst hi; rfl
    | succ i => simp at hi) hrep (fun x hx i hi => by
    simp at hx
    rcases hx with rfl <;> simp [idsV, idsA, idsS, idsP] at hi
    simp [hi]) rfl
   obtain ⟨blk0, off0, spot0⟩ := ad0
   simp only at hsp0
   subst hsp0
   simpa [mapV, mpV, mpA, mpS, mpP, toReal] using h
 clear hA0 hval0 hsz0
 refine fin.2.mono fun e W' ⟨he, bel⟩ => ?_
 subst he
 exact ⟨_, rfl, _, _, _, [], _, [], hW', trodAll_mk1 (shut_bool Try.underlying4 _), (trodAll_cons_mk (Below.trod laidOut (by kernel_rfl) (of_decide_eq_true (by kernel_rfl)) h0 bel hlt0) trodAll_mk0), rfl, bel.frame _, fun h => by cases h⟩
theorem over : Rows.fnExactEulerNumberRow.holds Try.pinned (OpenSpec.ofChange Rows.fnExactEulerNumberSpec) :=
 OpenClaim.holds_of_wide 4 Try.f4 rfl rfl rfl rfl rfl rfl rfl ⟨rfl, rfl, rfl, rfl, rfl⟩ rfl rfl rfl rfl rfl (by kernel_rfl) Try.func4 (by kernel_rfl)
  (of_decide_eq_true (by kernel_rfl)) (by unfold Func.isWrapper; first | (rw [if_pos (by decide +kernel)]; kernel_rfl) | (rw [if_neg (by decide +kernel)]; exact ⟨rfl, rfl⟩))
  (fun os started H enc _ => lifted os started H enc)
end Go.Proofs.Yteohlhpdbnhbaaa.F.fnExactEulerNumber
namespace Go.Proofs.Yteohlhpdbnhbaaa.F
theorem fnExactEulerNumber_holds : Rows.FnExactEulerNumberSaid := fnExactEulerNumber.over
#print axioms fnExactEulerNumber_holds
end Go.Proofs.Yteohlhpdbnhbaaa.F
