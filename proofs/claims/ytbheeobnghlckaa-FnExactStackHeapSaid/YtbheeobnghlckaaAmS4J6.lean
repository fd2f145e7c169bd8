/- Walks. No condition. -/
import Derived.Test.YtbheeobnghlckaaAmS4J5
import Derived.Test.YtbheeobnghlckaaAmQ4
set_option linter.unusedVariables false
set_option linter.unusedSimpArgs false
namespace Go.Proofs.Ytbheeobnghlckaa
open Go.Am Go.RowKit
theorem valid_no (x : Int) (y : Int) (z : Int) (hv2 : valid3 x y z = false) : Sound Try.prog 62 [.agg #[vI x, vI y, vI z]] [] (.bool false) [] := by
  have h := valid_ok x y z; rw [hv2] at h; exact h

theorem sides_no (x : Int) (y : Int) (z : Int) (hv2 : valid3 x y z = false) : Sound Try.prog 75 [vI x, vI y, vI z] [] (.bool false) [] := by
  have h := sides_ok x y z; rw [hv2] at h; exact h

end Go.Proofs.Ytbheeobnghlckaa
