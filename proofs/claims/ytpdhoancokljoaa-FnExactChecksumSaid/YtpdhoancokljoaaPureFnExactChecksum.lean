/- The law FnExactChecksum: Checksum answers as the reference does, for all strings; no condition. -/
import Derived.Test.YtpdhoancokljoaaPFnExactChecksumx1
namespace Go.Proofs.Ytpdhoancokljoaa.Pure
open Go.RowKit Go.Proofs.Ytpdhoancokljoaa.PFnExactChecksum Go.Proofs.YtpdhoancokljoaaW.PrintWords Go.Proofs.YtpdhoancokljoaaW.PrintLast

theorem wrap_small {x : Int} (h0 : 0 ≤ x) (h : x ≤ 4001) : wrap64 x = x := by
  unfold wrap64; omega

theorem same_round (s : ByteArray) (hs : (s.size : Int) ≤ 4000) : ∀ (k : Nat) (h i : Int), 0 ≤ i → spec_l1Sum.l0 k s h i = impl_checksum.l0 k s h (s.size : Int) i
  | 0, _, _, _ => rfl
  | k + 1, h, i, h0 => by
    simp only [spec_l1Sum.l0, impl_checksum.l0]
    by_cases hl : i < (s.size : Int)
    · rw [if_pos hl, if_pos h0, if_pos hl, if_pos h0, if_pos hl]
      exact same_round s hs k _ _ (by rw [wrap_small (by omega) (by omega)]; omega)
    · rw [if_neg hl, if_neg hl]

theorem ends (s : ByteArray) (hs : (s.size : Int) ≤ 4000) (d : Nat) : ∀ (k : Nat) (h i : Int), 0 ≤ i → (s.size : Int) - i ≤ d → d < k → ∃ r, spec_l1Sum.l0 k s h i = some r := by
  induction d with
  | zero =>
    intro k h i h0 hd hk
    obtain ⟨k, rfl⟩ : ∃ m, k = m + 1 := ⟨k - 1, by omega⟩
    exact ⟨h, by simp only [spec_l1Sum.l0]; rw [if_neg (by omega)]⟩
  | succ d ih =>
    intro k h i h0 hd hk
    obtain ⟨k, rfl⟩ : ∃ m, k = m + 1 := ⟨k - 1, by omega⟩
    simp only [spec_l1Sum.l0]
    by_cases hl : i < (s.size : Int)
    · rw [if_pos hl, if_pos h0, wrap_small (x := i + 1) (by omega) (by omega)]
      exact ih k _ (i + 1) (by omega) (by omega) (by omega)
    · exact ⟨h, by rw [if_neg hl]⟩

theorem FnExactChecksum : laws_FnExactChecksum.Pure := by
  intro s _
  by_cases hs : (s.size : Int) > 4000
  · refine ⟨0, ?_⟩
    unfold laws_FnExactChecksum.f spec_Checksum.f impl_Checksum.f
    rw [if_pos hs, if_pos hs]
    simp
  · obtain ⟨r, hr⟩ := ends s (by omega) s.size (s.size + 1) 7 0 (by omega) (by omega) (by omega)
    refine ⟨s.size + 1, ?_⟩
    unfold laws_FnExactChecksum.f spec_Checksum.f impl_Checksum.f spec_l1Sum.f impl_checksum.f
    rw [if_neg hs, if_neg hs, ← same_round s (by omega) _ _ _ (by omega), hr, if_neg (by omega)]
    simp

end Go.Proofs.Ytpdhoancokljoaa.Pure
