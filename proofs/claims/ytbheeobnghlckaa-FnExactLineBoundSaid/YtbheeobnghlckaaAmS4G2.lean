/- Walks. No condition. -/
import Derived.Test.YtbheeobnghlckaaAmS4G1
set_option linter.unusedVariables false
set_option linter.unusedSimpArgs false
namespace Go.Proofs.Ytbheeobnghlckaa
open Go.Am Go.RowKit
set_option maxRecDepth 100000 in
set_option maxHeartbeats 4000000 in
theorem size_ok (X Y Z : Nat) (hX : X ≤ 4) (hY : Y ≤ 4) (hZ : Z ≤ 4) : Sound Try.prog 96 [.agg #[vN X, vN Y, vN Z]] [] (vN (X * Y * Z)) [] := by
  refine sound_intro (C := cx) Try.func96 rfl (by kernel_rfl) fun hcl => ?_
  have hsz := size_le hX hY hZ
  refine cSeq ?_
  refine cReg ?_
  refine segEnd [0, 1, 2] (T1 := (mkT 11 [(0, .agg #[vN X, vN Y, vN Z]), (1, vP 0 0), (2, vI 0)])) (H1 := [rB [vN X, vN Y, vN Z] 75]) (by kernel_rfl) ?_
  refine kSeq ?_
  refine cSeq ?_
  refine cReg ?_
  refine seg 4 (T1 := (mkT 11 [(0, .agg #[vN X, vN Y, vN Z]), (1, vP 0 0), (2, vI 0), (3, vP 0 0), (4, vN X), (5, vP 0 1), (6, vN Y)])) (H1 := [rB [vN X, vN Y, vN Z] 75]) (by kernel_rfl) ?_
  refine rOp (v := vN (X * Y)) (H' := [rB [vN X, vN Y, vN Z] 75]) (by kernel_rfl) (eMul (k := .i64) (a := ((X : Nat) : Int)) (b := ((Y : Nat) : Int)) (c := ((X * Y : Nat) : Int)) (by kernel_rfl) (by kernel_rfl) (nMul (by omega))) ?_
  refine seg 2 (T1 := (mkT 11 [(0, .agg #[vN X, vN Y, vN Z]), (1, vP 0 0), (2, vI 0), (3, vP 0 0), (4, vN X), (5, vP 0 1), (6, vN Y), (7, vN (X * Y)), (8, vP 0 2), (9, vN Z)])) (H1 := [rB [vN X, vN Y, vN Z] 75]) (by kernel_rfl) ?_
  refine rOp (v := vN ((X * Y) * Z)) (H' := [rB [vN X, vN Y, vN Z] 75]) (by kernel_rfl) (eMul (k := .i64) (a := ((X * Y : Nat) : Int)) (b := ((Z : Nat) : Int)) (c := (((X * Y) * Z : Nat) : Int)) (by kernel_rfl) (by kernel_rfl) (nMul (by omega))) ?_
  refine segEnd [0, 1, 2] (T1 := (mkT 11 [(0, .agg #[vN X, vN Y, vN Z]), (1, vP 0 0), (2, vN ((X * Y) * Z))])) (H1 := [rB [vN X, vN Y, vN Z] 75]) (by kernel_rfl) ?_
  refine kSeq ?_
  refine cRet ?_
  exact endQ (Or.inr rfl) (l := [vN ((X * Y) * Z)]) [rB [vN X, vN Y, vN Z] 75] (by kernel_rfl) (rfl) rfl rfl hcl rfl

end Go.Proofs.Ytbheeobnghlckaa
