/- Walks. No condition. -/
import Derived.Test.YtbheeobnghlckaaAmS4G7
import Derived.Test.YtbheeobnghlckaaAmP
set_option linter.unusedVariables false
set_option linter.unusedSimpArgs false
namespace Go.Proofs.Ytbheeobnghlckaa
open Go.Am Go.RowKit
theorem sizeB (X : Nat) (Y : Nat) (Z : Nat) (hs : Sides X Y Z) : Sound Try.prog 96 [.agg #[vN X, vN Y, vN Z]] [] (vN (X * Y * Z)) [] := by
  exact size_ok X Y Z hs.x4 hs.y4 hs.z4

theorem validB (X : Nat) (Y : Nat) (Z : Nat) (hs : Sides X Y Z) : Sound Try.prog 62 [.agg #[vN X, vN Y, vN Z]] [] (.bool true) [] := by
  have h := valid_ok X Y Z; rw [valid_nat hs.x0 hs.x4 hs.y0 hs.y4 hs.z0 hs.z4] at h; exact h

theorem sidesB (X : Nat) (Y : Nat) (Z : Nat) (hs : Sides X Y Z) : Sound Try.prog 75 [vN X, vN Y, vN Z] [] (.bool true) [] := by
  have h := sides_ok X Y Z; rw [valid_nat hs.x0 hs.x4 hs.y0 hs.y4 hs.z0 hs.z4] at h; exact h

theorem withinB (n : Int) (lo : Int) (hi : Int)  : Sound Try.prog 68 [vI n, vI lo, vI hi] [] (.bool (inR n lo hi)) [] := by
  exact within_ok n lo hi

theorem l1InB (n : Int) (lo : Int) (hi : Int)  : Sound Try.prog 76 [vI n, vI lo, vI hi] [] (.bool (inR n lo hi)) [] := by
  exact l1In_ok n lo hi

end Go.Proofs.Ytbheeobnghlckaa
