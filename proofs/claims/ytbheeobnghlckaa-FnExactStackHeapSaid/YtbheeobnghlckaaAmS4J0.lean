/- Walks. No condition. -/
import Derived.Test.YtbheeobnghlckaaAmS4G7
import Derived.Test.YtbheeobnghlckaaAmP
set_option linter.unusedVariables false
set_option linter.unusedSimpArgs false
namespace Go.Proofs.Ytbheeobnghlckaa
open Go.Am Go.RowKit
theorem sizeB (X : Nat) (Y : Nat) (Z : Nat) (hs : Sides X Y Z) : Sound Try.prog 96 [.agg #[vN X, vN Y, vN Z]] [] (vN (X * Y * Z)) [] := by
  exact size_ok X Y Z hs.x4 hs.y4 hs.z4

theorem cellB (X : Nat) (Y : Nat) (Z : Nat) (i : Nat) (hs : Sides X Y Z) (hi : i ≤ 64) : Sound Try.prog 97 [.agg #[vN X, vN Y, vN Z], vN i] [] (.agg #[vN (i / Z / Y), vN (i / Z % Y), vN (i % Z)]) [] := by
  exact cell_ok X Y Z i hs.y0 hs.z0 hi

theorem heapB (X : Nat) (Y : Nat) (Z : Nat) (s : Nat) (hs : Sides X Y Z) (hlt : s < 18446744073709551616) : Sound Try.prog 78 [.agg #[vN X, vN Y, vN Z], vU s] [] (.agg #[vN X, vN Y, vN Z, vS 0 ((listOf X Y Z s).length)]) [some ⟨a3s (listOf X Y Z s), 74, false, true⟩] := by
  exact heap_ok X Y Z s hs.x0 hs.x4 hs.y0 hs.y4 hs.z0 hs.z4 hlt

theorem validB (X : Nat) (Y : Nat) (Z : Nat) (hs : Sides X Y Z) : Sound Try.prog 62 [.agg #[vN X, vN Y, vN Z]] [] (.bool true) [] := by
  have h := valid_ok X Y Z; rw [valid_nat hs.x0 hs.x4 hs.y0 hs.y4 hs.z0 hs.z4] at h; exact h

theorem sidesB (X : Nat) (Y : Nat) (Z : Nat) (hs : Sides X Y Z) : Sound Try.prog 75 [vN X, vN Y, vN Z] [] (.bool true) [] := by
  have h := sides_ok X Y Z; rw [valid_nat hs.x0 hs.x4 hs.y0 hs.y4 hs.z0 hs.z4] at h; exact h

theorem l2EmptyB (x : Int) (y : Int) (z : Int)  : Sound Try.prog 109 [vI x, vI y, vI z] [] (.agg #[vI x, vI y, vI z, vS 0 0]) [some ⟨[], 74, false, true⟩] := by
  exact l2Empty_ok x y z

theorem withinB (n : Int) (lo : Int) (hi : Int)  : Sound Try.prog 68 [vI n, vI lo, vI hi] [] (.bool (inR n lo hi)) [] := by
  exact within_ok n lo hi

theorem l1InB (n : Int) (lo : Int) (hi : Int)  : Sound Try.prog 76 [vI n, vI lo, vI hi] [] (.bool (inR n lo hi)) [] := by
  exact l1In_ok n lo hi

theorem eqHeapB (x : Int) (y : Int) (z : Int) (L : List A3) (hl : L.length ≤ 1048576) : Sound Try.prog 32 [.agg #[vI x, vI y, vI z, vS 0 L.length], .agg #[vI x, vI y, vI z, vS 1 L.length]] [some ⟨a3s L, 74, false, false⟩, some ⟨a3s L, 74, false, false⟩] (.bool true) [some ⟨a3s L, 74, false, false⟩, some ⟨a3s L, 74, false, false⟩] := by
  exact eqHeap_same x y z L hl

theorem eqHeapN   : Sound Try.prog 32 [.agg #[vI 0, vI 0, vI 0, .slice none 0 0], .agg #[vI 0, vI 0, vI 0, .slice none 0 0]] [] (.bool true) [] := by
  exact exF_sound (C := cx) told_none 8 32 _ _ _ _ (by kernel_rfl)

theorem markHeapB (x : Int) (y : Int) (z : Int) (L : List A3) (m : Nat) (hl : L.length ≤ 1048576) (hm : m ≤ 1099511627776) : Sound Try.prog 35 [.agg #[vI x, vI y, vI z, vS 0 L.length], vN m] [some ⟨a3s L, 74, false, true⟩] (vN (m + 3 * L.length)) [some ⟨a3s (mk3 m L.length), 74, false, true⟩] := by
  exact markHeap_ok x y z L m hl hm

theorem markHeapN (m : Nat)  : Sound Try.prog 35 [.agg #[vI 0, vI 0, vI 0, .slice none 0 0], vN m] [] (vN m) [] := by
  exact exF_sound (C := cx) told_none 8 35 _ _ _ _ (by kernel_rfl)

theorem heldHeapB (x : Int) (y : Int) (z : Int) (m : Nat) (n : Nat) (hn : n ≤ 1048576) (hm : m ≤ 1099511627776) : Sound Try.prog 36 [.agg #[vI x, vI y, vI z, vS 0 n], vN m] [some ⟨a3s (mk3 m n), 74, false, false⟩] (vN (m + 3 * n)) [some ⟨a3s (mk3 m n), 74, false, false⟩] := by
  exact heldHeap_ok x y z m n hn hm

theorem heldHeapN   : Sound Try.prog 36 [.agg #[vI 0, vI 0, vI 0, .slice none 0 0], vI 1] [] (vI 1) [] := by
  exact exF_sound (C := cx) told_none 8 36 _ _ _ _ (by kernel_rfl)

end Go.Proofs.Ytbheeobnghlckaa
