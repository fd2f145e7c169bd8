/- Walks. No condition. -/
import Derived.Test.YtenkiofddpjidaaAmG9
import Derived.Test.YtenkiofddpjidaaAmP
set_option linter.unusedVariables false
set_option linter.unusedSimpArgs false
namespace Go.Proofs.Ytenkiofddpjidaa
open Go.Am Go.RowKit
theorem cubesB (X : Nat) (Y : Nat) (Z : Nat) (L : List A3) (hs : Sides X Y Z) (hL : HeapL X Y Z L) : Sound Try.prog 60 [.agg #[vN X, vN Y, vN Z, vS 0 L.length]] [some ⟨a3s L, 25, false, false⟩] (vU (setOf Y Z L)) [some ⟨a3s L, 25, false, false⟩] := by
  obtain ⟨p, rfl⟩ := hL; exact cubes_ok X Y Z hs.x0 hs.x4 hs.y0 hs.y4 hs.z0 hs.z4 p

theorem l2HasB (X : Nat) (Y : Nat) (Z : Nat) (L : List A3) (a : Int) (b : Int) (c : Int) (hs : Sides X Y Z) (hL : HeapL X Y Z L) : Sound Try.prog 53 [.agg #[vN X, vN Y, vN Z, vS 0 L.length], .agg #[vI a, vI b, vI c]] [some ⟨a3s L, 25, false, false⟩] (.bool (hasL L a b c)) [some ⟨a3s L, 25, false, false⟩] := by
  obtain ⟨p, rfl⟩ := hL; exact l2Has_ok X Y Z hs.x0 hs.x4 hs.y0 hs.y4 hs.z0 hs.z4 p a b c

theorem hasCubeB (X : Nat) (Y : Nat) (Z : Nat) (L : List A3) (a : Int) (b : Int) (c : Int) (hs : Sides X Y Z) (hL : HeapL X Y Z L) (hh : has3 (X : Int) (Y : Int) (Z : Int) a b c = true) : Sound Try.prog 56 [.agg #[vN X, vN Y, vN Z, vS 0 L.length], .agg #[vI a, vI b, vI c]] [some ⟨a3s L, 25, false, false⟩] (.bool (hasL L a b c)) [some ⟨a3s L, 25, false, false⟩] := by
  obtain ⟨p, rfl⟩ := hL; exact hasCube_ok X Y Z hs.x0 hs.x4 hs.y0 hs.y4 hs.z0 hs.z4 p a b c hh

theorem indexB (X : Nat) (Y : Nat) (Z : Nat) (a : Int) (b : Int) (c : Int) (hs : Sides X Y Z) (hh : has3 (X : Int) (Y : Int) (Z : Int) a b c = true) : Sound Try.prog 61 [.agg #[vN X, vN Y, vN Z], .agg #[vI a, vI b, vI c]] [] (vN (idxN Y Z (A3.mk a b c))) [] := by
  exact index_ok X Y Z hs.x4 hs.y4 hs.z4 a b c hh

theorem heapB (X : Nat) (Y : Nat) (Z : Nat) (s : Nat) (hs : Sides X Y Z) (hlt : s < 18446744073709551616) : Sound Try.prog 59 [.agg #[vN X, vN Y, vN Z], vU s] [] (.agg #[vN X, vN Y, vN Z, vS 0 ((listOf X Y Z s).length)]) [some ⟨a3s (listOf X Y Z s), 25, false, true⟩] := by
  exact heap_ok X Y Z s hs.x0 hs.x4 hs.y0 hs.y4 hs.z0 hs.z4 hlt

theorem boxB (x : Int) (y : Int) (z : Int) (L : List A3)  : Sound Try.prog 58 [.agg #[vI x, vI y, vI z, vS 0 L.length]] [some ⟨a3s L, 25, false, false⟩] (.agg #[vI x, vI y, vI z]) [some ⟨a3s L, 25, false, false⟩] := by
  exact box_ok x y z L

theorem l2CellB_no (x : Int) (y : Int) (z : Int) (L : List A3) (a : Int) (b : Int) (c : Int) (hl : L.length ≤ 1048576) (hv : (isHeapB x y z L && has3 x y z a b c) = false) : Sound Try.prog 52 [.agg #[vI x, vI y, vI z, vS 0 L.length], .agg #[vI a, vI b, vI c]] [some ⟨a3s L, 25, false, false⟩] (.bool false) [some ⟨a3s L, 25, false, false⟩] := by
  have h := l2Cell_ok x y z L a b c hl; rw [hv] at h; exact h

theorem l2CellB (X : Nat) (Y : Nat) (Z : Nat) (L : List A3) (a : Int) (b : Int) (c : Int) (hs : Sides X Y Z) (hL : HeapL X Y Z L) (hh : has3 (X : Int) (Y : Int) (Z : Int) a b c = true) : Sound Try.prog 52 [.agg #[vN X, vN Y, vN Z, vS 0 L.length], .agg #[vI a, vI b, vI c]] [some ⟨a3s L, 25, false, false⟩] (.bool true) [some ⟨a3s L, 25, false, false⟩] := by
  have h := l2Cell_ok X Y Z L a b c (by have := hL.len; have := hs.size; omega); rw [isHeapB_of hs hL, hh] at h; exact h

theorem isCellB_no (x : Int) (y : Int) (z : Int) (L : List A3) (a : Int) (b : Int) (c : Int) (hl : L.length ≤ 1048576) (hv : (isHeapB x y z L && has3 x y z a b c) = false) : Sound Try.prog 55 [.agg #[vI x, vI y, vI z, vS 0 L.length], .agg #[vI a, vI b, vI c]] [some ⟨a3s L, 25, false, false⟩] (.bool false) [some ⟨a3s L, 25, false, false⟩] := by
  have h := isCell_ok x y z L a b c hl; rw [hv] at h; exact h

theorem isCellB (X : Nat) (Y : Nat) (Z : Nat) (L : List A3) (a : Int) (b : Int) (c : Int) (hs : Sides X Y Z) (hL : HeapL X Y Z L) (hh : has3 (X : Int) (Y : Int) (Z : Int) a b c = true) : Sound Try.prog 55 [.agg #[vN X, vN Y, vN Z, vS 0 L.length], .agg #[vI a, vI b, vI c]] [some ⟨a3s L, 25, false, false⟩] (.bool true) [some ⟨a3s L, 25, false, false⟩] := by
  have h := isCell_ok X Y Z L a b c (by have := hL.len; have := hs.size; omega); rw [isHeapB_of hs hL, hh] at h; exact h

theorem l2BeforeB (a : Int) (b : Int) (c : Int) (x : Int) (y : Int) (z : Int)  : Sound Try.prog 95 [.agg #[vI a, vI b, vI c], .agg #[vI x, vI y, vI z]] [] (.bool (lexB a b c x y z)) [] := by
  exact l2Before_ok a b c x y z

theorem toHeapB (x : Int) (y : Int) (z : Int) (L : List A3) (hl : L.length ≤ 1048576) : Sound Try.prog 17 [.agg #[vI x, vI y, vI z, vS 0 L.length]] [some ⟨a3s L, 25, false, false⟩] (.agg #[vI x, vI y, vI z, vS 1 L.length]) [some ⟨a3s L, 25, false, false⟩, some ⟨a3s L, 25, false, true⟩] := by
  exact toHeap_ok x y z L hl

theorem toHeapN (x : Int) (y : Int) (z : Int)  : Sound Try.prog 17 [.agg #[vI x, vI y, vI z, .slice none 0 0]] [] (.agg #[vI x, vI y, vI z, vS 0 0]) [some ⟨[], 25, false, true⟩] := by
  exact toHeap_ok_nil x y z

theorem toA3B (a : Int) (b : Int) (c : Int)  : Sound Try.prog 18 [.agg #[vI a, vI b, vI c]] [] (.agg #[vI a, vI b, vI c]) [] := by
  exact toA3_ok a b c

theorem eqHeapB (x : Int) (y : Int) (z : Int) (L : List A3) (hl : L.length ≤ 1048576) : Sound Try.prog 20 [.agg #[vI x, vI y, vI z, vS 0 L.length], .agg #[vI x, vI y, vI z, vS 1 L.length]] [some ⟨a3s L, 25, false, false⟩, some ⟨a3s L, 25, false, false⟩] (.bool true) [some ⟨a3s L, 25, false, false⟩, some ⟨a3s L, 25, false, false⟩] := by
  exact eqHeap_same x y z L hl

theorem eqHeapN   : Sound Try.prog 20 [.agg #[vI 0, vI 0, vI 0, .slice none 0 0], .agg #[vI 0, vI 0, vI 0, .slice none 0 0]] [] (.bool true) [] := by
  exact exF_sound (C := cx) told_none 8 20 _ _ _ _ (by kernel_rfl)

theorem markHeapB (x : Int) (y : Int) (z : Int) (L : List A3) (m : Nat) (hl : L.length ≤ 1048576) (hm : m ≤ 1099511627776) : Sound Try.prog 23 [.agg #[vI x, vI y, vI z, vS 0 L.length], vN m] [some ⟨a3s L, 25, false, true⟩] (vN (m + 3 * L.length)) [some ⟨a3s (mk3 m L.length), 25, false, true⟩] := by
  exact markHeap_ok x y z L m hl hm

theorem markHeapN (m : Nat)  : Sound Try.prog 23 [.agg #[vI 0, vI 0, vI 0, .slice none 0 0], vN m] [] (vN m) [] := by
  exact exF_sound (C := cx) told_none 8 23 _ _ _ _ (by kernel_rfl)

theorem heldHeapB (x : Int) (y : Int) (z : Int) (m : Nat) (n : Nat) (hn : n ≤ 1048576) (hm : m ≤ 1099511627776) : Sound Try.prog 24 [.agg #[vI x, vI y, vI z, vS 0 n], vN m] [some ⟨a3s (mk3 m n), 25, false, false⟩] (vN (m + 3 * n)) [some ⟨a3s (mk3 m n), 25, false, false⟩] := by
  exact heldHeap_ok x y z m n hn hm

theorem heldHeapN   : Sound Try.prog 24 [.agg #[vI 0, vI 0, vI 0, .slice none 0 0], vI 1] [] (vI 1) [] := by
  exact exF_sound (C := cx) told_none 8 24 _ _ _ _ (by kernel_rfl)

theorem szHeapN (x : Int) (y : Int) (z : Int)  : Sound Try.prog 15 [.agg #[vI x, vI y, vI z, .slice none 0 0], vI 1048576] [] (vI 1048576) [] := by
  exact szHeap_nil x y z

theorem szHeapS (x : Int) (y : Int) (z : Int) (L : List A3) (hl : L.length ≤ 1048576) : Sound Try.prog 15 [.agg #[vI x, vI y, vI z, vS 0 L.length], vI 1048576] [some ⟨a3s L, 25, false, false⟩] (vN (1048576 - L.length)) [some ⟨a3s L, 25, false, false⟩] := by
  exact szHeap_small x y z L hl

theorem szHeapG (x : Int) (y : Int) (z : Int) (L : List A3) (hl : 1048576 < L.length) (hm : L.length ≤ 9223372036854775807) : Sound Try.prog 15 [.agg #[vI x, vI y, vI z, vS 0 L.length], vI 1048576] [some ⟨a3s L, 25, false, false⟩] (vI (-1)) [some ⟨a3s L, 25, false, false⟩] := by
  exact szHeap_big x y z L hl hm
end Go.Proofs.Ytenkiofddpjidaa
