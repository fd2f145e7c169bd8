/- The sums behind single laws. No condition. -/
import Derived.Test.YtenkiofddpjidaaAmP
set_option linter.unusedVariables false
set_option linter.unusedSimpArgs false
namespace Go.Am
open Go.RowKit
/-- two triples told apart number by number -/
theorem eqA3t {d : A3} {a b c : Int} (h : ((d.x == a) && ((d.y == b) && ((d.z == c) && true))) = true) : d = A3.mk a b c := by
  obtain ⟨x, y, z⟩ := d
  simpa [A3.mk.injEq] using h
theorem eqA3f {d : A3} {a b c : Int} (h : ((d.x == a) && ((d.y == b) && ((d.z == c) && true))) = false) : d ≠ A3.mk a b c := by
  obtain ⟨x, y, z⟩ := d
  intro e
  rw [A3.mk.injEq] at e
  simp [e.1, e.2.1, e.2.2] at h
theorem neA3t {d : A3} {a b c : Int} (h : ((d.x == a) && ((d.y == b) && ((d.z == c) && true))) = false) : (!decide (d = A3.mk a b c)) = true := by
  simpa using eqA3f h
theorem neA3f {d : A3} {a b c : Int} (h : ((d.x == a) && ((d.y == b) && ((d.z == c) && true))) = true) : (!decide (d = A3.mk a b c)) = false := by
  simpa using eqA3t h
end Go.Am
