/- Plain law: the text of a number, as the reference makes it, is the decimal numeral. No condition beyond the bounds. -/
import Derived.Test.YtnbcmjoimenhjaaDoorS1
import Derived.Lib.ItoaNum
namespace Go.Proofs.YtnbcmjoimenhjaaDoor
open Go.RowKit S
theorem digit_at : ∀ d : Nat, d < 10 → (⟨#[48, 49, 50, 51, 52, 53, 54, 55, 56, 57]⟩ : ByteArray).extract d (d + 1) = ⟨#[UInt8.ofNat (48 + d)]⟩ := by decide +kernel
theorem num_nat : ∀ (k u : Nat), k ≤ 50 → u < 10 ^ (k + 1) → u ≤ 9999999 → spec_l1Num.f (k + 1) (u : Int) = some ⟨(Lib.decDigits u).toArray⟩ ∧ (Lib.decDigits u).length ≤ k + 1
  | 0, u, hk, h, hb => by
    have hu : u < 10 := by simpa using h
    rw [Lib.decDigits, dif_pos hu]
    refine ⟨?_, by simp⟩
    simp only [spec_l1Num.f]
    have e : wrap64 ((u : Int) + 1) = ((u + 1 : Nat) : Int) := by unfold wrap64; omega
    rw [if_neg (by omega), if_pos (by omega), if_pos (by omega), e, if_pos (by omega), if_pos (by omega)]
    have := digit_at u hu
    simpa using this
  | k + 1, u, hk, h, hb => by
    by_cases hu : u < 10
    · rw [Lib.decDigits, dif_pos hu]
      refine ⟨?_, by simp⟩
      simp only [spec_l1Num.f]
      have e : wrap64 ((u : Int) + 1) = ((u + 1 : Nat) : Int) := by unfold wrap64; omega
      rw [if_neg (by omega), if_pos (by omega), if_pos (by omega), e, if_pos (by omega), if_pos (by omega)]
      have := digit_at u hu
      simpa using this
    · have ih := num_nat k (u / 10) (by omega) (by rw [Nat.pow_succ] at h; omega) (by omega)
      rw [Lib.decDigits, dif_neg hu]
      refine ⟨?_, by simp; exact ih.2⟩
      rw [spec_l1Num.f]
      have e1 : Int.tdiv (u : Int) 10 = ((u / 10 : Nat) : Int) := by rw [Int.tdiv_eq_ediv_of_nonneg (by omega)]; omega
      have e2 : Int.tmod (u : Int) 10 = ((u % 10 : Nat) : Int) := by rw [Int.tmod_eq_emod_of_nonneg (by omega)]; omega
      have e3 : wrap64 ((u / 10 : Nat) : Int) = ((u / 10 : Nat) : Int) := by unfold wrap64; omega
      have e4 : wrap64 (((u % 10 : Nat) : Int) + 1) = ((u % 10 + 1 : Nat) : Int) := by unfold wrap64; omega
      have hd := digit_at (u % 10) (by omega)
      rw [if_neg (by omega), if_neg (by omega), e1, e2, e3, ih.1, e4]
      simp only [Option.bind_some, Int.toNat_natCast]
      rw [hd, if_pos (by omega), if_pos (by omega), if_pos (by omega)]
      have hl := ih.2
      rw [if_pos (by show (Lib.decDigits (u / 10)).toArray.size + 1 ≤ _; simp; omega)]
      rfl
theorem num_int (n : Int) (h0 : -999999 ≤ n) (h1 : n ≤ 999999) : spec_l1Num.f 9 n = some ⟨(Lib.itoa n).toArray⟩ := by
  unfold Lib.itoa
  by_cases hn : n < 0
  · rw [if_pos hn, spec_l1Num.f, if_pos hn]
    have e : wrap64 (-n) = ((n.natAbs : Nat) : Int) := by unfold wrap64; omega
    have h := num_nat 7 n.natAbs (by omega) (by omega) (by omega)
    rw [e, h.1]
    simp only [Option.bind_some]
    rw [if_pos (by show 1 + (Lib.decDigits n.natAbs).toArray.size ≤ _; have := h.2; simp; omega)]
    rfl
  · rw [if_neg hn]
    have h := num_nat 8 n.toNat (by omega) (by omega) (by omega)
    have e : ((n.toNat : Nat) : Int) = n := by omega
    rw [e] at h
    exact h.1
end Go.Proofs.YtnbcmjoimenhjaaDoor
