/- Plain law: the parts of a text, joined again, are the text; the order of texts is strict. No condition. -/
import Derived.Test.YtnbcmjoimenhjaaDoorNj
namespace Go.Proofs.YtnbcmjoimenhjaaDoor
open Go.RowKit S Go.Proofs.YtnbcmjoimenhjaaDoorW.PrintWords
theorem less_asym : ∀ (x y : List UInt8), Op.bytesLess x y = true → Op.bytesLess y x = false
  | _, [], h => by simp [Op.bytesLess] at h
  | [], _ :: _, _ => rfl
  | a :: x, b :: y, h => by
    have ih := less_asym x y
    simp only [Op.bytesLess, Bool.or_eq_true, decide_eq_true_eq, Bool.and_eq_true, beq_iff_eq] at h
    rcases h with h | ⟨rfl, h⟩
    · have h1 : ¬ b < a := by intro h2; rw [UInt8.lt_iff_toNat_lt] at h h2; omega
      have h2 : (b == a) = false := by rw [beq_eq_false_iff_ne]; rintro rfl; rw [UInt8.lt_iff_toNat_lt] at h; omega
      simp [Op.bytesLess, h1, h2]
    · have h1 : ¬ a < a := by intro h2; rw [UInt8.lt_iff_toNat_lt] at h2; omega
      simp [Op.bytesLess, ih h]
theorem join_pcs (c : UInt8) : ∀ (l cur : List UInt8), Lib.join (pcs c cur l) [c] = cur ++ l
  | [], cur => by simp [pcs, Lib.join]
  | b :: r, cur => by
    rw [pcs]
    by_cases h : b = c
    · subst h
      rw [if_pos rfl]
      have ih := join_pcs b r []
      have hne := pcs_ne b r []
      generalize pcs b [] r = L at ih hne
      cases L with
      | nil => exact absurd rfl hne
      | cons x L =>
        rw [List.nil_append] at ih
        rw [← ih]
        simp [Lib.join, List.intercalate, List.intersperse]
    · rw [if_neg h, join_pcs c r _]; simp
theorem pcs_free (c : UInt8) : ∀ (l cur : List UInt8), c ∉ cur → ∀ p ∈ pcs c cur l, c ∉ p
  | [], cur, h, p, hp => by simp [pcs] at hp; subst hp; exact h
  | b :: r, cur, h, p, hp => by
    rw [pcs] at hp
    by_cases hb : b = c
    · rw [if_pos hb] at hp
      rcases List.mem_cons.1 hp with rfl | hp
      · exact h
      · exact pcs_free c r [] (by simp) p hp
    · rw [if_neg hb] at hp
      exact pcs_free c r _ (fun h2 => (List.mem_append.1 h2).elim h (fun h3 => hb (List.mem_singleton.1 h3).symm)) p hp
theorem join_parts (s sep : ByteArray) (h1 : sep.size = 1) (h2 : s.size ≤ 4000) : joinRes (partsOf s (sep.data.toList.headD 0)) sep = (s, true) := by
  have hsep := one_byte sep h1
  generalize hc : sep.data.toList.headD 0 = c at hsep ⊢
  have hsd : sep.data.toList = [c] := by rw [hsep]
  have hout : outAt (partsOf s c) sep (partsOf s c).length = s := by
    apply ByteArray.ext
    apply Array.ext'
    rw [out_join _ _ _ (Nat.le_refl _), List.take_length, hsd]
    unfold partsOf
    rw [List.map_map, show ((fun x : ByteArray => x.data.toList) ∘ ofL) = id from rfl, List.map_id, join_pcs]
    rfl
  have hz := out_size (partsOf s c) sep h1 _ (Nat.le_refl _)
  rw [List.take_length, hout] at hz
  unfold joinRes
  rw [if_pos, hout]
  refine ⟨h1, ?_, ?_, by omega⟩
  · unfold partsOf
    intro h
    exact pcs_ne c _ _ (List.map_eq_nil_iff.1 h)
  · intro p hp
    obtain ⟨q, hq, rfl⟩ := List.mem_map.1 hp
    have := pcs_free c _ [] (by simp) q hq
    rw [hc]
    rw [ofL_list]
    simpa using this
theorem parts_tot (s sep : ByteArray) (h1 : sep.size = 1) (h2 : s.size ≤ 4000) : tot (partsOf s (sep.data.toList.headD 0)) + ((partsOf s (sep.data.toList.headD 0)).length - 1) = s.size := by
  have hj := join_parts s sep h1 h2
  have hz := out_size (partsOf s (sep.data.toList.headD 0)) sep h1 _ (Nat.le_refl _)
  rw [List.take_length] at hz
  unfold joinRes at hj
  split at hj
  · rw [(Prod.mk.inj hj).1] at hz
    omega
  · simp at hj
theorem split_join (s sep : ByteArray) (hs : s.size ≤ 4000) : (sep.size = 1 ∧ (splitRes s sep).2 = true ∧ joinRes (splitRes s sep).1 sep = (s, true) ∧ (splitRes s sep).1.length ≤ 4001 ∧ tot (splitRes s sep).1 ≤ 4000) ∨ (((sep.size : Int) == 1) = false ∧ (splitRes s sep).2 = false ∧ (splitRes s sep).1 = []) := by
  by_cases h1 : sep.size = 1
  · left
    have e : splitRes s sep = (partsOf s (sep.data.toList.headD 0), true) := by unfold splitRes; rw [if_pos ⟨h1, hs⟩]
    have hj := join_parts s sep h1 hs
    have ht := parts_tot s sep h1 hs
    rw [e]
    exact ⟨h1, rfl, hj, by simp only; omega, by simp only; omega⟩
  · right
    have e : splitRes s sep = ([], false) := by unfold splitRes; rw [if_neg (fun h => h1 h.1)]
    rw [e]
    exact ⟨by rw [beq_eq_false_iff_ne]; omega, rfl, rfl⟩
theorem tot_le_all (B : Nat) : ∀ (l : List ByteArray), (∀ p ∈ l, p.size ≤ B) → tot l ≤ B * l.length
  | [], _ => by simp [tot]
  | a :: r, h => by
    have ih := tot_le_all B r (fun p hp => h p (List.mem_cons_of_mem _ hp))
    have ha := h a (List.mem_cons_self)
    unfold tot at ih ⊢
    rw [List.map_cons, List.sum_cons, List.length_cons, Nat.mul_add]
    omega
end Go.Proofs.YtnbcmjoimenhjaaDoor
