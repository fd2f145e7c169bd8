/- Opening a []byte argument of a row. No condition. -/
import Derived.Test.YtnbcmjoimenhjaaDoorCo
import Derived.Test.YtnbcmjoimenhjaaDoorS8
import Derived.ChangeSlices
namespace Go.Proofs.YtnbcmjoimenhjaaDoor
open Go.ChangeShapes Go.WideShapes Go.ChangeAt Go.RowKit Go.Proofs.YtnbcmjoimenhjaaDoorW.PrintWords
theorem open_bytes {H : Type} {enc : TypeId × Value → H} {W : World} {base : Nat} {spare : Nat → Bool} {held : Bool} {fuel : Nat} {cs : List Value} {x : DataW H × List MemPlace} (h : DataW.trod enc Tryd.prog W base spare held fuel 22 cs = some x) :
    ∃ (A : Option Addr) (c : Nat) (l : List Int), cs = [.slice A l.length c] ∧ (∀ x ∈ l, 0 ≤ x ∧ x ≤ 255) ∧ l.length ≤ c ∧ Kd.C (Kd.int .u8) W A l.length l := by
  rcases open_ints Tryd.underlying22 Tryd.underlying5 (by kernel_rfl) h with ⟨rfl, _⟩ | ⟨a, len, cap, zs, rfl, _, hlc, hcm, hz, _, hcell, hwf⟩
  · exact ⟨none, 0, [], rfl, (fun p hp => by cases hp), by simp, rfl, by simp, fun h => absurd h (by simp)⟩
  · have hle : len ≤ zs.length := by rw [hz]; split <;> omega
    have hl : (zs.take len).length = len := by rw [List.length_take]; omega
    have hm : maxLen = 9223372036854775807 := rfl
    refine ⟨some a, cap, zs.take len, by rw [hl], (fun p hp => by have := hwf p (List.mem_of_mem_take hp); simpa [Lit.wf, IntKind.min, IntKind.max, IntKind.signed, IntKind.bits] using this), by omega, ?_⟩
    refine ⟨rfl, by omega, fun _ => ⟨a, rfl, fun j p hp => ⟨[.int .u8 p], rfl, rfl, fun i u hu => ?_⟩⟩⟩
    have hj : j < len := by
      have := (List.getElem?_eq_some_iff.1 hp).1
      omega
    cases i with
    | zero =>
      simp only [List.getElem?_cons_zero, Option.some.injEq] at hu
      subst hu
      rw [List.getElem?_take, if_pos hj] at hp
      have h2 := hcell j (by omega)
      rw [show zs.getD j 0 = p by rw [List.getD_eq_getElem?_getD, hp]; rfl] at h2
      have e : j * (Kd.int .u8).sz + 0 = j := by show j * 1 + 0 = j; omega
      rw [e]
      exact h2
    | succ i => simp at hu
end Go.Proofs.YtnbcmjoimenhjaaDoor
