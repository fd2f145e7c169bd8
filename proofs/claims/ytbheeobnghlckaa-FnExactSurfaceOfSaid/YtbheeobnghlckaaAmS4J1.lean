/- Walks. No condition. -/
import Derived.Test.YtbheeobnghlckaaAmS4J0
import Derived.Test.YtbheeobnghlckaaAmQ2
set_option linter.unusedVariables false
set_option linter.unusedSimpArgs false
namespace Go.Proofs.Ytbheeobnghlckaa
open Go.Am Go.RowKit
set_option maxRecDepth 100000 in
set_option maxHeartbeats 4000000 in
theorem l2MadeB (x : Int) (y : Int) (z : Int) (L : List A3) (M : List A3)  : Sound Try.prog 122 [.agg #[vI x, vI y, vI z, vS 0 L.length], vS 1 M.length] [some ⟨a3s L, 74, false, false⟩, some ⟨a3s M, 74, false, false⟩] (.agg #[vI x, vI y, vI z, vS 1 M.length]) [some ⟨a3s L, 74, false, false⟩, some ⟨a3s M, 74, false, false⟩] := by
  refine sound_intro (C := cx) Try.func122 rfl (by kernel_rfl) fun hcl => ?_
  refine cSeq ?_
  refine cReg ?_
  refine segEnd [1, 2, 4] (T1 := (mkT 13 [(1, vS 1 M.length), (2, vP 2 0), (4, vP 3 0)])) (H1 := [some ⟨a3s L, 74, false, false⟩, some ⟨a3s M, 74, false, false⟩, rB [vI x, vI y, vI z, vS 0 L.length] 40, rB [vI 0, vI 0, vI 0, .slice none 0 0] 40]) (by kernel_rfl) ?_
  refine kSeq ?_
  refine cSeq ?_
  refine cReg ?_
  refine segEnd [4] (T1 := (mkT 13 [(4, vP 3 0)])) (H1 := [some ⟨a3s L, 74, false, false⟩, some ⟨a3s M, 74, false, false⟩, rB [vI x, vI y, vI z, vS 0 L.length] 40, rB [vI x, vI y, vI z, vS 1 M.length] 40]) (by kernel_rfl) ?_
  refine kSeq ?_
  refine cRet ?_
  -- end
  exact endQ (Or.inr rfl) (l := [.agg #[vI x, vI y, vI z, vS 1 M.length]]) [rB [vI x, vI y, vI z, vS 0 L.length] 40, rB [vI x, vI y, vI z, vS 1 M.length] 40] (by kernel_rfl) (by first | rfl | kernel_rfl) rfl rfl hcl rfl
end Go.Proofs.Ytbheeobnghlckaa
