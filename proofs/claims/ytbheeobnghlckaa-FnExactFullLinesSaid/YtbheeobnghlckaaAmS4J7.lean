/- Walks. No condition. -/
import Derived.Test.YtbheeobnghlckaaAmS4J6
import Derived.Test.YtbheeobnghlckaaAmQ4
set_option linter.unusedVariables false
set_option linter.unusedSimpArgs false
namespace Go.Proofs.Ytbheeobnghlckaa
open Go.Am Go.RowKit
set_option maxRecDepth 100000 in
set_option maxHeartbeats 4000000 in
theorem lines0 (X : Nat) (Y : Nat) (Z : Nat) (hs : Sides X Y Z) : Sound Try.prog 64 [.agg #[vN X, vN Y, vN Z], vI 0] [] (vN (Y * Z)) [] := by
  refine sound_intro (C := cx) Try.func64 rfl (by kernel_rfl) fun hcl => ?_
  have hz := hs.size
  have hx0 := hs.x0
  have hx4 := hs.x4
  have hy0 := hs.y0
  have hy4 := hs.y4
  have hz0 := hs.z0
  have hz4 := hs.z4
  refine cSeq ?_
  refine cReg ?_
  refine segEnd [1, 2] (T1 := (mkT 11 [(1, vI 0), (2, vP 0 0)])) (H1 := [rB [vN X, vN Y, vN Z] 75]) (by kernel_rfl) ?_
  refine kSeq ?_
  refine cSeq ?_
  refine cRegW (N := 1) [⟨[], [], [0]⟩, ⟨[], [], []⟩, ⟨[], [], []⟩, ⟨[], [], []⟩, ⟨[], [], [0]⟩, ⟨[], [], []⟩, ⟨[], [], []⟩] 0 [] (by rfl) (by rfl) (by kernel_rfl) (by kernel_rfl) (by kernel_rfl) ⟨nmsX (by kernel_rfl), trivial⟩ ?_
  refine segWH 1 (T1 := (mkT 11 [(1, vI 0), (2, vP 0 0), (5, .agg #[vN X, vN Y, vN Z])])) (by kernel_rfl) ?_
  refine rW (m := ⟨[], [], []⟩) (v := vN (X * Y * Z)) rfl (by kernel_rfl) (stQ (args := [.agg #[vN X, vN Y, vN Z]]) rfl (by kernel_rfl) (Any.lay0 [] (sizeB X Y Z (by first | assumption | omega | rfl | decide | exact HeapL.list _ _ _ _ | exact HeapL.nil _ _ _ | exact HeapL.all _ _ _ | (apply HeapL.lt64 <;> assumption) | (repeat' (first | assumption | apply or_lt64 | apply and_lt64 | apply andn_lt64 | apply pow_lt64 | (apply HeapL.lt64 <;> assumption))))) trivial rfl trivial rfl (by first | rfl | simp [mpV, mpA, mpS, mpP, renId, shift]) rfl) rfl (by kernel_rfl) (by kernel_rfl)) (by kernel_rfl) nr0 ?_
  refine segWH 3 (T1 := (mkT 11 [(1, vI 0), (2, vP 0 0), (5, .agg #[vN X, vN Y, vN Z]), (6, vN (X * Y * Z)), (7, vI 0), (8, vP 0 0), (9, vN X)])) (by kernel_rfl) ?_
  refine rW (m := ⟨[], [], []⟩) (v := vN ((X * Y * Z) / X)) rfl (by kernel_rfl) (stId (eQuo (k := .i64) (a := ((X * Y * Z : Nat) : Int)) (b := ((X : Nat) : Int)) (c := (((X * Y * Z) / X : Nat) : Int)) (by kernel_rfl) (by kernel_rfl) (by omega) (nQuo (by omega))) rfl (by kernel_rfl) (by kernel_rfl) (by kernel_rfl)) (by kernel_rfl) nr0 ?_
  refine segEndWH [4] (T1 := (mkT 11 [(4, vN ((X * Y * Z) / X))])) (by kernel_rfl) ?_
  refine kSeq ?_
  refine cRet ?_
  -- end
  have he0 : ((X * Y * Z) / X : Nat) = Y * Z := by first | exact (by rw [Nat.mul_assoc, Nat.mul_div_cancel_left _ (by omega)])
  refine endCast (v1 := vN ((X * Y * Z) / X)) (H1 := []) (by first | rfl | ((try rw [← he0]); done) | (simp only [← he0]; done)) (by first | rfl | ((try rw [← he0]); done) | (simp only [← he0]; done)) ?_
  exact endQ (Or.inr rfl) (l := [vN ((X * Y * Z) / X)]) [rB [vN X, vN Y, vN Z] 75] (by kernel_rfl) (by first | rfl | kernel_rfl) rfl rfl hcl rfl

set_option maxRecDepth 100000 in
set_option maxHeartbeats 4000000 in
theorem lines1 (X : Nat) (Y : Nat) (Z : Nat) (hs : Sides X Y Z) : Sound Try.prog 64 [.agg #[vN X, vN Y, vN Z], vI 1] [] (vN (X * Z)) [] := by
  refine sound_intro (C := cx) Try.func64 rfl (by kernel_rfl) fun hcl => ?_
  have hz := hs.size
  have hx0 := hs.x0
  have hx4 := hs.x4
  have hy0 := hs.y0
  have hy4 := hs.y4
  have hz0 := hs.z0
  have hz4 := hs.z4
  refine cSeq ?_
  refine cReg ?_
  refine segEnd [1, 2] (T1 := (mkT 11 [(1, vI 1), (2, vP 0 0)])) (H1 := [rB [vN X, vN Y, vN Z] 75]) (by kernel_rfl) ?_
  refine kSeq ?_
  refine cSeq ?_
  refine cRegW (N := 1) [⟨[], [], [0]⟩, ⟨[], [], []⟩, ⟨[], [], []⟩, ⟨[], [], []⟩, ⟨[], [], [0]⟩, ⟨[], [], []⟩, ⟨[], [], []⟩] 0 [] (by rfl) (by rfl) (by kernel_rfl) (by kernel_rfl) (by kernel_rfl) ⟨nmsX (by kernel_rfl), trivial⟩ ?_
  refine segWH 1 (T1 := (mkT 11 [(1, vI 1), (2, vP 0 0), (5, .agg #[vN X, vN Y, vN Z])])) (by kernel_rfl) ?_
  refine rW (m := ⟨[], [], []⟩) (v := vN (X * Y * Z)) rfl (by kernel_rfl) (stQ (args := [.agg #[vN X, vN Y, vN Z]]) rfl (by kernel_rfl) (Any.lay0 [] (sizeB X Y Z (by first | assumption | omega | rfl | decide | exact HeapL.list _ _ _ _ | exact HeapL.nil _ _ _ | exact HeapL.all _ _ _ | (apply HeapL.lt64 <;> assumption) | (repeat' (first | assumption | apply or_lt64 | apply and_lt64 | apply andn_lt64 | apply pow_lt64 | (apply HeapL.lt64 <;> assumption))))) trivial rfl trivial rfl (by first | rfl | simp [mpV, mpA, mpS, mpP, renId, shift]) rfl) rfl (by kernel_rfl) (by kernel_rfl)) (by kernel_rfl) nr0 ?_
  refine segWH 3 (T1 := (mkT 11 [(1, vI 1), (2, vP 0 0), (5, .agg #[vN X, vN Y, vN Z]), (6, vN (X * Y * Z)), (7, vI 1), (8, vP 0 1), (9, vN Y)])) (by kernel_rfl) ?_
  refine rW (m := ⟨[], [], []⟩) (v := vN ((X * Y * Z) / Y)) rfl (by kernel_rfl) (stId (eQuo (k := .i64) (a := ((X * Y * Z : Nat) : Int)) (b := ((Y : Nat) : Int)) (c := (((X * Y * Z) / Y : Nat) : Int)) (by kernel_rfl) (by kernel_rfl) (by omega) (nQuo (by omega))) rfl (by kernel_rfl) (by kernel_rfl) (by kernel_rfl)) (by kernel_rfl) nr0 ?_
  refine segEndWH [4] (T1 := (mkT 11 [(4, vN ((X * Y * Z) / Y))])) (by kernel_rfl) ?_
  refine kSeq ?_
  refine cRet ?_
  -- end
  have he0 : ((X * Y * Z) / Y : Nat) = X * Z := by first | exact (by rw [Nat.mul_right_comm X Y Z, Nat.mul_div_cancel _ (by omega)])
  refine endCast (v1 := vN ((X * Y * Z) / Y)) (H1 := []) (by first | rfl | ((try rw [← he0]); done) | (simp only [← he0]; done)) (by first | rfl | ((try rw [← he0]); done) | (simp only [← he0]; done)) ?_
  exact endQ (Or.inr rfl) (l := [vN ((X * Y * Z) / Y)]) [rB [vN X, vN Y, vN Z] 75] (by kernel_rfl) (by first | rfl | kernel_rfl) rfl rfl hcl rfl

set_option maxRecDepth 100000 in
set_option maxHeartbeats 4000000 in
theorem lines2r (X : Nat) (Y : Nat) (Z : Nat) (hs : Sides X Y Z) : Sound Try.prog 64 [.agg #[vN X, vN Y, vN Z], vI 2] [] (vN (X * Y * Z / Z)) [] := by
  refine sound_intro (C := cx) Try.func64 rfl (by kernel_rfl) fun hcl => ?_
  have hz := hs.size
  have hx0 := hs.x0
  have hx4 := hs.x4
  have hy0 := hs.y0
  have hy4 := hs.y4
  have hz0 := hs.z0
  have hz4 := hs.z4
  refine cSeq ?_
  refine cReg ?_
  refine segEnd [1, 2] (T1 := (mkT 11 [(1, vI 2), (2, vP 0 0)])) (H1 := [rB [vN X, vN Y, vN Z] 75]) (by kernel_rfl) ?_
  refine kSeq ?_
  refine cSeq ?_
  refine cRegW (N := 1) [⟨[], [], [0]⟩, ⟨[], [], []⟩, ⟨[], [], []⟩, ⟨[], [], []⟩, ⟨[], [], [0]⟩, ⟨[], [], []⟩, ⟨[], [], []⟩] 0 [] (by rfl) (by rfl) (by kernel_rfl) (by kernel_rfl) (by kernel_rfl) ⟨nmsX (by kernel_rfl), trivial⟩ ?_
  refine segWH 1 (T1 := (mkT 11 [(1, vI 2), (2, vP 0 0), (5, .agg #[vN X, vN Y, vN Z])])) (by kernel_rfl) ?_
  refine rW (m := ⟨[], [], []⟩) (v := vN (X * Y * Z)) rfl (by kernel_rfl) (stQ (args := [.agg #[vN X, vN Y, vN Z]]) rfl (by kernel_rfl) (Any.lay0 [] (sizeB X Y Z (by first | assumption | omega | rfl | decide | exact HeapL.list _ _ _ _ | exact HeapL.nil _ _ _ | exact HeapL.all _ _ _ | (apply HeapL.lt64 <;> assumption) | (repeat' (first | assumption | apply or_lt64 | apply and_lt64 | apply andn_lt64 | apply pow_lt64 | (apply HeapL.lt64 <;> assumption))))) trivial rfl trivial rfl (by first | rfl | simp [mpV, mpA, mpS, mpP, renId, shift]) rfl) rfl (by kernel_rfl) (by kernel_rfl)) (by kernel_rfl) nr0 ?_
  refine segWH 3 (T1 := (mkT 11 [(1, vI 2), (2, vP 0 0), (5, .agg #[vN X, vN Y, vN Z]), (6, vN (X * Y * Z)), (7, vI 2), (8, vP 0 2), (9, vN Z)])) (by kernel_rfl) ?_
  refine rW (m := ⟨[], [], []⟩) (v := vN ((X * Y * Z) / Z)) rfl (by kernel_rfl) (stId (eQuo (k := .i64) (a := ((X * Y * Z : Nat) : Int)) (b := ((Z : Nat) : Int)) (c := (((X * Y * Z) / Z : Nat) : Int)) (by kernel_rfl) (by kernel_rfl) (by omega) (nQuo (by omega))) rfl (by kernel_rfl) (by kernel_rfl) (by kernel_rfl)) (by kernel_rfl) nr0 ?_
  refine segEndWH [4] (T1 := (mkT 11 [(4, vN ((X * Y * Z) / Z))])) (by kernel_rfl) ?_
  refine kSeq ?_
  refine cRet ?_
  -- end
  have he0 : ((X * Y * Z) / Z : Nat) = X * Y * Z / Z := by first | omega | assumption | rfl | (symm; assumption) | (simp_all; done)
  refine endCast (v1 := vN ((X * Y * Z) / Z)) (H1 := []) (by first | rfl | ((try rw [← he0]); done) | (simp only [← he0]; done)) (by first | rfl | ((try rw [← he0]); done) | (simp only [← he0]; done)) ?_
  exact endQ (Or.inr rfl) (l := [vN ((X * Y * Z) / Z)]) [rB [vN X, vN Y, vN Z] 75] (by kernel_rfl) (by first | rfl | kernel_rfl) rfl rfl hcl rfl

theorem lines2 (X : Nat) (Y : Nat) (Z : Nat) (hs : Sides X Y Z) : Sound Try.prog 64 [.agg #[vN X, vN Y, vN Z], vI 2] [] (vN (X * Y)) [] := by
  have h := lines2r X Y Z hs; rw [Nat.mul_div_cancel _ (by have := hs.z0; omega)] at h; exact h

end Go.Proofs.Ytbheeobnghlckaa
