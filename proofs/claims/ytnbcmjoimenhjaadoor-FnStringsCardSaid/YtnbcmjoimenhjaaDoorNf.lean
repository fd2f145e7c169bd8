/- Plain law: the reader of draws always answers, within its bounds. -/
import Derived.Test.YtnbcmjoimenhjaaDoorS8
namespace Go.Proofs.YtnbcmjoimenhjaaDoor
open Go.RowKit S Go.Proofs.YtnbcmjoimenhjaaDoorW.PrintWords Go.Proofs.YtnbcmjoimenhjaaDoorW.PrintLast
theorem rd_bytes (l : List Int) (hb : ∀ x ∈ l, 0 ≤ x ∧ x ≤ 255) (i : Int) : 0 ≤ rd l i ∧ rd l i ≤ 255 := by
  unfold rd
  rw [List.getD_eq_getElem?_getD]
  cases h : l[i.toNat]? with
  | none => simp
  | some x => exact hb x (List.mem_of_getElem? h)
theorem bits255 (x : Int) : 0 ≤ Go.bits .and .u64 x 255 ∧ Go.bits .and .u64 x 255 ≤ 255 := by
  have h : (BitVec.ofInt 64 x &&& BitVec.ofInt 64 255).toNat ≤ 255 := by
    rw [BitVec.toNat_and]
    exact Nat.and_le_right
  show 0 ≤ IntKind.u64.wrap ((BitVec.ofInt 64 x &&& BitVec.ofInt 64 255).toNat : Int) ∧ IntKind.u64.wrap ((BitVec.ofInt 64 x &&& BitVec.ofInt 64 255).toNat : Int) ≤ 255
  generalize (BitVec.ofInt 64 x &&& BitVec.ofInt 64 255).toNat = n at h
  have e : IntKind.u64.wrap (n : Int) = n := by
    simp [IntKind.wrap, IntKind.bits, IntKind.signed]
    omega
  rw [e]; omega
theorem next_ok (l : List Int) (hb : ∀ x ∈ l, 0 ≤ x ∧ x ≤ 255) (a s : Int) (h0 : 0 ≤ a) (h1 : a ≤ 1000000) : ∃ v s', spec_l1Cur_next.f l a s = some (v, a + 1, s') ∧ 0 ≤ v ∧ v ≤ 255 := by
  have e : wrap64 (a + 1) = a + 1 := by unfold wrap64; omega
  have hr := rd_bytes l hb a
  have er : wrap64 (rd l a) = rd l a := by unfold wrap64; omega
  unfold spec_l1Cur_next.f
  rw [e, er]
  by_cases c1 : a < (l.length : Int)
  · rw [if_pos c1, if_pos h0, if_pos (by omega)]
    exact ⟨_, _, rfl, hr⟩
  · rw [if_neg c1, if_neg (by omega)]
    have hb := bits255 ((IntKind.u64.wrap ((IntKind.u64.wrap ((IntKind.u64.wrap (s * 6364136223846793005)) + 0)) + 462197)) / 1099511627776)
    refine ⟨_, _, rfl, ?_⟩
    generalize Go.bits .and .u64 _ 255 = z at hb
    have ez : wrap64 z = z := by unfold wrap64; omega
    rw [ez]; exact hb
theorem pick_ok (l : List Int) (hb : ∀ x ∈ l, 0 ≤ x ∧ x ≤ 255) (a s n : Int) (h0 : 0 ≤ a) (h1 : a ≤ 900000) (hn : 1 ≤ n) (hn2 : n ≤ 1000000) : ∃ r a' s', spec_l1Cur_pick.f l a s n = some (r, a', s') ∧ 0 ≤ r ∧ r < n ∧ a ≤ a' ∧ a' ≤ a + 2 := by
  unfold spec_l1Cur_pick.f
  by_cases c1 : n ≤ 1
  · rw [if_pos c1]
    exact ⟨_, _, _, rfl, by omega, by omega, by omega, by omega⟩
  · obtain ⟨v, s1, e1, hv0, hv1⟩ := next_ok l hb a s h0 (by omega)
    rw [if_neg c1, e1]
    simp only [Option.bind_some]
    by_cases c2 : n > 200
    · obtain ⟨v2, s2, e2, hw0, hw1⟩ := next_ok l hb (a + 1) s1 (by omega) (by omega)
      rw [if_pos c2, e2]
      simp only [Option.bind_some]
      rw [if_neg (by omega)]
      have ew : wrap64 (wrap64 (v * 256) + v2) = v * 256 + v2 := by
        have : wrap64 (v * 256) = v * 256 := by unfold wrap64; omega
        rw [this]; unfold wrap64; omega
      refine ⟨_, _, _, rfl, ?_, ?_, by omega, by omega⟩
      · rw [ew]; exact Int.tmod_nonneg _ (by omega)
      · rw [ew]; exact Int.tmod_lt_of_pos _ (by omega)
    · rw [if_neg c2, if_neg (by omega)]
      exact ⟨_, _, _, rfl, Int.tmod_nonneg _ hv0, Int.tmod_lt_of_pos _ (by omega), by omega, by omega⟩
theorem of_ok (l : List Int) (hb : ∀ x ∈ l, 0 ≤ x ∧ x ≤ 255) (a s : Int) (L : List ByteArray) (h0 : 0 ≤ a) (h1 : a ≤ 900000) (hL : 0 < L.length) (hL2 : L.length ≤ 1000) : ∃ t a' s', spec_l1Cur_of.f l a s L = some (t, a', s') ∧ t ∈ L ∧ a ≤ a' ∧ a' ≤ a + 2 := by
  obtain ⟨r, a', s', e, hr0, hr1, ha, ha2⟩ := pick_ok l hb a s (L.length : Int) h0 h1 (by omega) (by omega)
  unfold spec_l1Cur_of.f
  rw [e]
  simp only [Option.bind_some]
  rw [if_pos hr0, if_pos hr1]
  refine ⟨_, _, _, rfl, ?_, ha, ha2⟩
  unfold rdOf
  have hlt : r.toNat < L.length := by omega
  rw [List.getD_eq_getElem?_getD, List.getElem?_eq_getElem hlt]
  exact List.getElem_mem hlt
theorem any1_ok (l : List Int) (hb : ∀ x ∈ l, 0 ≤ x ∧ x ≤ 255) (a s : Int) (h0 : 0 ≤ a) (h1 : a ≤ 900000) : ∃ t a' s', spec_l1Cur_any1.f l a s = some (t, a', s') ∧ t.size ≤ 10 ∧ a ≤ a' ∧ a' ≤ a + 2 := by
  unfold spec_l1Cur_any1.f
  obtain ⟨t, a', s', e, ht, ha, ha2⟩ := of_ok l hb a s [(⟨#[]⟩ : ByteArray), (⟨#[97]⟩ : ByteArray), (⟨#[97, 44, 98]⟩ : ByteArray), (⟨#[115, 111, 109, 101, 32, 119, 111, 114, 100, 115]⟩ : ByteArray), (⟨#[120, 35, 121]⟩ : ByteArray), (⟨#[45, 49, 50]⟩ : ByteArray), (⟨#[0, 255]⟩ : ByteArray), (⟨#[44, 44]⟩ : ByteArray), (⟨#[48]⟩ : ByteArray)] h0 h1 (by decide) (by decide)
  rw [e]
  refine ⟨t, a', s', rfl, ?_, ha, ha2⟩
  simp only [List.mem_cons, List.not_mem_nil, or_false] at ht
  rcases ht with rfl | rfl | rfl | rfl | rfl | rfl | rfl | rfl | rfl <;> decide
theorem one_ok (l : List Int) (hb : ∀ x ∈ l, 0 ≤ x ∧ x ≤ 255) (a s n : Int) (h0 : 0 ≤ a) (h1 : a ≤ 900000) (hn : 1 ≤ n) (hn2 : n ≤ 1000000) : ∃ r a' s', spec_l1Cur_one.f l a s n = some (r, a', s') ∧ a ≤ a' ∧ a' ≤ a + 2 := by
  obtain ⟨r, a', s', e, hr0, hr1, ha, ha2⟩ := pick_ok l hb a s n h0 h1 hn hn2
  unfold spec_l1Cur_one.f
  rw [e]
  exact ⟨_, _, _, rfl, ha, ha2⟩
end Go.Proofs.YtnbcmjoimenhjaaDoor
