/- The sums behind single laws. No condition. -/
import Derived.Test.YtenkiofddpjidaaAmP
set_option linter.unusedVariables false
set_option linter.unusedSimpArgs false
namespace Go.Am
open Go.RowKit
/-- two triples told apart number by number -/
theorem eqA3t {d : A3} {a b c : Int} (h : ((d.x == a) && ((d.y == b) && ((d.z == c) && true))) = true) : d = A3.mk a b c := by
  obtain ⟨x, y, z⟩ := d
  simpa [A3.mk.injEq] using h
theorem eqA3f {d : A3} {a b c : Int} (h : ((d.x == a) && ((d.y == b) && ((d.z == c) && true))) = false) : d ≠ A3.mk a b c := by
  obtain ⟨x, y, z⟩ := d
  intro e
  rw [A3.mk.injEq] at e
  simp [e.1, e.2.1, e.2.2] at h
theorem neA3t {d : A3} {a b c : Int} (h : ((d.x == a) && ((d.y == b) && ((d.z == c) && true))) = false) : (!decide (d = A3.mk a b c)) = true := by
  simpa using eqA3f h
theorem neA3f {d : A3} {a b c : Int} (h : ((d.x == a) && ((d.y == b) && ((d.z == c) && true))) = true) : (!decide (d = A3.mk a b c)) = false := by
  simpa using eqA3t h
end Go.Am
namespace Go.Am
theorem with_end {X Y Z : Nat} {L : List A3} {c : A3} {k : Nat} (h : HeapL X Y Z L) (hs : Sides X Y Z) (hc : has3 (X : Int) (Y : Int) (Z : Int) c.x c.y c.z = true) (hk : k = L.length)
    (hb : ∀ j, j < k → lex3 (L.getD j default) c = true) : L.take k ++ [c] ++ [] = listOf X Y Z (setOf Y Z L ||| 2 ^ idxN Y Z c) := by
  rw [← with_mid h hs hc (k := k) (by omega) hb (fun h => absurd h (by omega))]
  subst hk
  simp
theorem with_nil {X Y Z : Nat} {L : List A3} {c : A3} (h : HeapL X Y Z L) (hs : Sides X Y Z) (hc : has3 (X : Int) (Y : Int) (Z : Int) c.x c.y c.z = true) (hk : L.length = 0) : ([] : List A3) ++ [] ++ [c] ++ [] = listOf X Y Z (setOf Y Z L ||| 2 ^ idxN Y Z c) := by
  have := with_end h hs hc (k := 0) hk.symm (fun j hj => absurd hj (Nat.not_lt_zero j))
  rw [← this]
  simp
end Go.Am
namespace Go.Am
theorem lexTo_next {L : List A3} {a b c : Int} {k : Nat} (hb : ∀ j, j < k → lex3 (L.getD j default) (A3.mk a b c) = true) (h : lexB (L.getD k default).x (L.getD k default).y (L.getD k default).z a b c = true) : ∀ j, j < k + 1 → lex3 (L.getD j default) (A3.mk a b c) = true := fun j hj => by
  rcases Nat.lt_or_ge j k with hlt | hge
  · exact hb j hlt
  · have e : j = k := by omega
    subst e
    exact h
end Go.Am
