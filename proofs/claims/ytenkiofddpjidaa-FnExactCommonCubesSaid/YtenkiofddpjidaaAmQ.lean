/- The sums behind single laws. No condition. -/
import Derived.Test.YtenkiofddpjidaaAmP
set_option linter.unusedVariables false
set_option linter.unusedSimpArgs false
namespace Go.Am
open Go.RowKit
/-- two triples told apart number by number -/
theorem eqA3t {d : A3} {a b c : Int} (h : ((d.x == a) && ((d.y == b) && ((d.z == c) && true))) = true) : d = A3.mk a b c := by
  obtain ⟨x, y, z⟩ := d
  simpa [A3.mk.injEq] using h
theorem eqA3f {d : A3} {a b c : Int} (h : ((d.x == a) && ((d.y == b) && ((d.z == c) && true))) = false) : d ≠ A3.mk a b c := by
  obtain ⟨x, y, z⟩ := d
  intro e
  rw [A3.mk.injEq] at e
  simp [e.1, e.2.1, e.2.2] at h
theorem neA3t {d : A3} {a b c : Int} (h : ((d.x == a) && ((d.y == b) && ((d.z == c) && true))) = false) : (!decide (d = A3.mk a b c)) = true := by
  simpa using eqA3f h
theorem neA3f {d : A3} {a b c : Int} (h : ((d.x == a) && ((d.y == b) && ((d.z == c) && true))) = true) : (!decide (d = A3.mk a b c)) = false := by
  simpa using eqA3t h
end Go.Am
namespace Go.Am
theorem with_end {X Y Z : Nat} {L : List A3} {c : A3} {k : Nat} (h : HeapL X Y Z L) (hs : Sides X Y Z) (hc : has3 (X : Int) (Y : Int) (Z : Int) c.x c.y c.z = true) (hk : k = L.length)
    (hb : ∀ j, j < k → lex3 (L.getD j default) c = true) : L.take k ++ [c] ++ [] = listOf X Y Z (setOf Y Z L ||| 2 ^ idxN Y Z c) := by
  rw [← with_mid h hs hc (k := k) (by omega) hb (fun h => absurd h (by omega))]
  subst hk
  simp
theorem with_nil {X Y Z : Nat} {L : List A3} {c : A3} (h : HeapL X Y Z L) (hs : Sides X Y Z) (hc : has3 (X : Int) (Y : Int) (Z : Int) c.x c.y c.z = true) (hk : L.length = 0) : ([] : List A3) ++ [] ++ [c] ++ [] = listOf X Y Z (setOf Y Z L ||| 2 ^ idxN Y Z c) := by
  have := with_end h hs hc (k := 0) hk.symm (fun j hj => absurd hj (Nat.not_lt_zero j))
  rw [← this]
  simp
end Go.Am
namespace Go.Am
theorem lexTo_next {L : List A3} {a b c : Int} {k : Nat} (hb : ∀ j, j < k → lex3 (L.getD j default) (A3.mk a b c) = true) (h : lexB (L.getD k default).x (L.getD k default).y (L.getD k default).z a b c = true) : ∀ j, j < k + 1 → lex3 (L.getD j default) (A3.mk a b c) = true := fun j hj => by
  rcases Nat.lt_or_ge j k with hlt | hge
  · exact hb j hlt
  · have e : j = k := by omega
    subst e
    exact h
end Go.Am
namespace Go.Am
/-- two valid heaps in boxes with the same sides? -/
def alikeB (x1 y1 z1 : Int) (L1 : List A3) (x2 y2 z2 : Int) (L2 : List A3) : Bool := isHeapB x1 y1 z1 L1 && (isHeapB x2 y2 z2 L2 && ((x1 == x2) && ((y1 == y2) && ((z1 == z2) && true))))
theorem alike_of {X Y Z : Nat} {L1 L2 : List A3} (hs : Sides X Y Z) (h1 : HeapL X Y Z L1) (h2 : HeapL X Y Z L2) : alikeB (X : Int) (Y : Int) (Z : Int) L1 (X : Int) (Y : Int) (Z : Int) L2 = true := by
  simp [alikeB, isHeapB_of hs h1, isHeapB_of hs h2]
theorem alike_cases {x1 y1 z1 : Int} {L1 : List A3} {x2 y2 z2 : Int} {L2 : List A3} (h : alikeB x1 y1 z1 L1 x2 y2 z2 L2 = true) : ∃ X Y Z : Nat, x1 = (X : Int) ∧ y1 = (Y : Int) ∧ z1 = (Z : Int) ∧ x2 = (X : Int) ∧ y2 = (Y : Int) ∧ z2 = (Z : Int) ∧ Sides X Y Z ∧ HeapL X Y Z L1 ∧ HeapL X Y Z L2 := by
  simp only [alikeB, Bool.and_eq_true, beq_iff_eq] at h
  obtain ⟨h1, h2, rfl, rfl, rfl, _⟩ := h
  obtain ⟨X, Y, Z, rfl, rfl, rfl, hs, hL1⟩ := heapL_of h1
  obtain ⟨X', Y', Z', e1, e2, e3, hs', hL2⟩ := heapL_of h2
  obtain rfl : X = X' := by omega
  obtain rfl : Y = Y' := by omega
  obtain rfl : Z = Z' := by omega
  exact ⟨X, Y, Z, rfl, rfl, rfl, rfl, rfl, rfl, hs, hL1, hL2⟩
theorem setOf_nil (Y Z : Nat) : setOf Y Z [] = 0 := rfl
/-- one cell more of the second heap -/
theorem join_step {X Y Z : Nat} {L2 M : List A3} {s : Nat} {i : Nat} (hs : Sides X Y Z) (hM : M = listOf X Y Z (s ||| setOf Y Z (L2.take i))) (hi : i < L2.length) :
    listOf X Y Z (setOf Y Z M ||| 2 ^ idxN Y Z (L2.getD i default)) = listOf X Y Z (s ||| setOf Y Z (L2.take (i + 1))) := by
  refine listOf_congr fun j hj => ?_
  rw [setOf_take Y Z L2 i hi, Nat.testBit_or, hM, setOf_listOf hs, Nat.testBit_or, Nat.testBit_or, Nat.testBit_or]
  simp [hj, Bool.or_assoc]
theorem common_end {X Y Z : Nat} {L1 L2 : List A3} (hs : Sides X Y Z) (h1 : HeapL X Y Z L1) (h2 : HeapL X Y Z L2) : L1.filter (fun d => hasL L2 d.x d.y d.z) = listOf X Y Z (setOf Y Z L1 &&& setOf Y Z L2) := by
  refine filter_list h1 hs fun i hi => ?_
  rw [Nat.testBit_and, hasL_bit h2 hs (cellOf_has hs.y0 hs.z0 hi)]
  congr 2
  exact (idx_cellOf hs.y0 hs.z0 i).symm
theorem others_end {X Y Z : Nat} {L : List A3} (hs : Sides X Y Z) (h : HeapL X Y Z L) : (allOf X Y Z).filter (fun d => !hasL L d.x d.y d.z) = listOf X Y Z (andn (2 ^ (X * Y * Z) - 1) (setOf Y Z L)) := by
  refine filter_allList fun i hi => ?_
  rw [andn_bit, full_bit, hasL_bit h hs (cellOf_has hs.y0 hs.z0 hi)]
  have e : idxN Y Z ⟨(cellOf Y Z i).x, (cellOf Y Z i).y, (cellOf Y Z i).z⟩ = i := idx_cellOf hs.y0 hs.z0 i
  rw [e]
  simp [hi]
theorem notB_f {b : Bool} (h : b = true) : (!b) = false := by rw [h]; rfl
theorem notB_t {b : Bool} (h : b = false) : (!b) = true := by rw [h]; rfl
end Go.Am
