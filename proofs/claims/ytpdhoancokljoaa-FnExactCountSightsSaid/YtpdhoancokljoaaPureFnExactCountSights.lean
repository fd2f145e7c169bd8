/- The law FnExactCountSights: CountSights answers as the reference does, for all numbers; no condition. -/
import Derived.Test.YtpdhoancokljoaaPFnExactCountSightsx2
namespace Go.Proofs.Ytpdhoancokljoaa.Pure
open Go.RowKit Go.Proofs.Ytpdhoancokljoaa.PFnExactCountSights Go.Proofs.YtpdhoancokljoaaW.PrintWords Go.Proofs.YtpdhoancokljoaaW.PrintLast

set_option maxRecDepth 100000 in
theorem small : ∀ n : Fin 13, ∀ m : Fin 13, laws_FnExactCountSights.f 300 (n.val : Int) (m.val : Int) = some true := by decide +kernel

theorem FnExactCountSights : laws_FnExactCountSights.Pure := by
  intro a0 a1 _ _
  refine ⟨300, ?_⟩
  by_cases hr : 1 ≤ a0 ∧ a0 ≤ 12 ∧ 0 ≤ a1 ∧ a1 ≤ a0
  · obtain ⟨n, rfl⟩ := Int.eq_ofNat_of_zero_le (show 0 ≤ a0 by omega)
    obtain ⟨m, rfl⟩ := Int.eq_ofNat_of_zero_le (show 0 ≤ a1 by omega)
    exact small ⟨n, by omega⟩ ⟨m, by omega⟩
  · have hs : spec_CountSights.f 300 a0 a1 = some (0, false) := by
      unfold spec_CountSights.f spec_l1In.f
      by_cases h1 : 1 ≤ a0
      · by_cases h2 : a0 ≤ 12
        · by_cases h3 : 0 ≤ a1
          · have h4 : ¬ a1 ≤ a0 := by omega
            simp [h1, h2, h3, h4, spec_CountSights.j0]
          · simp [h1, h2, h3, spec_CountSights.j0]
        · simp [h1, h2, spec_CountSights.j0]
      · simp [h1, spec_CountSights.j0]
    have hi : impl_CountSights.f 300 a0 a1 = some (0, false) := by
      unfold impl_CountSights.f impl_within.f
      by_cases h1 : 1 ≤ a0
      · by_cases h2 : a0 ≤ 12
        · by_cases h3 : 0 ≤ a1
          · have h4 : ¬ a1 ≤ a0 := by omega
            simp [h1, h2, h3, h4, impl_CountSights.j0]
          · simp [h1, h2, h3, impl_CountSights.j0]
        · simp [h1, h2, impl_CountSights.j0]
      · simp [h1, impl_CountSights.j0]
    unfold laws_FnExactCountSights.f
    rw [hs, hi]
    simp

end Go.Proofs.Ytpdhoancokljoaa.Pure
