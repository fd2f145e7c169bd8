/- Walks. No condition. -/
import Derived.Test.YtbheeobnghlckaaAmS4G1
set_option linter.unusedVariables false
set_option linter.unusedSimpArgs false
namespace Go.Proofs.Ytbheeobnghlckaa
open Go.Am Go.RowKit
set_option maxRecDepth 100000 in
set_option maxHeartbeats 4000000 in
theorem setHas_ok (s i : Nat) (hs : s < 18446744073709551616) (hi : i < 64) : Sound Try.prog 132 [vU s, vN i] [] (.bool (s.testBit i)) [] := by
  refine sound_intro (C := cx) Try.func132 rfl (by kernel_rfl) fun hcl => ?_
  refine cSeq ?_
  refine cReg ?_
  refine segEnd [0, 1, 4] (T1 := (mkT 10 [(0, vU s), (1, vN i), (4, .bool false)])) (H1 := []) (by kernel_rfl) ?_
  refine kSeq ?_
  refine cSeq ?_
  refine cReg ?_
  refine seg 2 (T1 := (mkT 10 [(0, vU s), (1, vN i), (4, .bool false), (5, vU s), (6, vN i)])) (H1 := []) (by kernel_rfl) ?_
  refine rOp (v := vU (s >>> i)) (H' := []) (by kernel_rfl) (eShr (k := .u64) (a := ((s : Nat) : Int)) (b := ((i : Nat) : Int)) (k' := .i64) (c := ((s >>> i : Nat) : Int)) (by kernel_rfl) (by kernel_rfl) (by omega) (shrU s i hi)) ?_
  refine rOp (v := vU (s >>> i &&& 1)) (H' := []) (by kernel_rfl) (eOp (k := .u64) (a := ((s >>> i : Nat) : Int)) (b := 1) (by kernel_rfl) (by kernel_rfl) ⟨by decide, by decide⟩ (andU _ 1 (shr_le s i hs) (by decide))) ?_
  refine segEnd [0, 1, 4] (T1 := (mkT 10 [(0, vU s), (1, vN i), (4, .bool (((s >>> i &&& 1 : Nat) : Int) == 1))])) (H1 := []) (by kernel_rfl) ?_
  refine kSeq ?_
  refine cRet ?_
  exact endQ (Or.inr rfl) (l := [.bool (((s >>> i &&& 1 : Nat) : Int) == 1)]) [] (by kernel_rfl) (congrArg Value.bool (bit_eq s i)) rfl rfl hcl rfl

end Go.Proofs.Ytbheeobnghlckaa
