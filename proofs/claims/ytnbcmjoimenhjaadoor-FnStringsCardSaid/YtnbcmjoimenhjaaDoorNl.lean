/- Plain law: the numeral read back is the number; one changed byte of a sealed text is seen. No condition. -/
import Derived.Test.YtnbcmjoimenhjaaDoorNd
namespace Go.Proofs.YtnbcmjoimenhjaaDoor
open Go.RowKit S Go.Proofs.YtnbcmjoimenhjaaDoorW.PrintWords
theorem digit_nat (d : Nat) (h : d < 10) : (UInt8.ofNat (48 + d)).toNat = 48 + d := by simp; omega
theorem dec_parse (u : Nat) : u ≤ 9999999 → ∀ r, Lib.parseUint10 0 (Lib.decDigits u ++ r) = Lib.parseUint10 u r := by
  induction u using Nat.strongRecOn with
  | _ u ih =>
    intro hu r
    rw [Lib.decDigits]
    by_cases h : u < 10
    · have e := digit_nat u h
      rw [dif_pos h, List.singleton_append, Lib.parseUint10, e, if_pos (by omega), if_neg (by omega), if_neg (by omega)]
      congr 1; omega
    · have e := digit_nat (u % 10) (by omega)
      rw [dif_neg h, List.append_assoc, ih (u / 10) (by omega) (by omega), List.singleton_append, Lib.parseUint10, e, if_pos (by omega), if_neg (by omega), if_neg (by omega)]
      congr 1; omega
theorem dec_digits (u : Nat) : ∀ c ∈ Lib.decDigits u, 48 ≤ c.toNat ∧ c.toNat ≤ 57 := by
  induction u using Nat.strongRecOn with
  | _ u ih =>
    rw [Lib.decDigits]
    by_cases h : u < 10
    · have e := digit_nat u h
      rw [dif_pos h]
      intro c hc
      rw [List.mem_singleton.1 hc, e]; omega
    · have e := digit_nat (u % 10) (by omega)
      rw [dif_neg h]
      intro c hc
      rcases List.mem_append.1 hc with hc | hc
      · exact ih (u / 10) (by omega) c hc
      · rw [List.mem_singleton.1 hc, e]; omega
theorem parse_nat (u : Nat) (h : u ≤ 9999999) : Lib.parseMag (Lib.decDigits u) = .ok u := by
  obtain ⟨c, r, e, _⟩ := dec_head u
  have := dec_parse u h []
  rw [List.append_nil, Lib.parseUint10] at this
  unfold Lib.parseMag
  rw [if_neg (by rw [e]; simp), this]
theorem atoi_itoa (n : Int) (h0 : -999999 ≤ n) (h1 : n ≤ 999999) : Lib.atoiAll (Lib.itoa n) = .ok n ∧ (Lib.itoa n).length ≤ 7 := by
  by_cases hn : 0 ≤ n
  · obtain ⟨u, rfl⟩ : ∃ u : Nat, n = (u : Int) := ⟨n.toNat, by omega⟩
    have hp := parse_nat u (by omega)
    have hl := dec_len6 u (by omega)
    obtain ⟨c, r, e, hc0, hc1⟩ := dec_head u
    rw [itoa_nat]
    refine ⟨?_, by omega⟩
    rw [e] at hp ⊢
    unfold Lib.atoiAll
    simp only
    rw [if_neg (by omega), hp]
    simp only
    rw [if_neg (by omega), if_neg (by omega), if_neg (by omega)]
  · obtain ⟨u, hu, rfl⟩ : ∃ u : Nat, 0 < u ∧ n = -(u : Int) := ⟨n.natAbs, by omega, by omega⟩
    have hp := parse_nat u (by omega)
    have hl := dec_len6 u (by omega)
    rw [itoa_neg u hu]
    refine ⟨?_, by simp; omega⟩
    unfold Lib.atoiAll
    have e45 : (45 : UInt8).toNat = 45 := rfl
    simp only
    rw [if_pos (Or.inr e45), hp]
    simp only
    rw [if_neg (by omega), if_neg (by omega), if_pos e45]
theorem parse_itoa (n : Int) (h0 : -999999 ≤ n) (h1 : n ≤ 999999) : parseRes (Lib.itoa n) = (n, true) := by
  obtain ⟨h, hl⟩ := atoi_itoa n h0 h1
  unfold parseRes
  rw [if_pos hl, h]
  simp only
  rw [if_pos ⟨h0, h1, trivial⟩]
theorem itoa_inj (u v : Nat) (hu : u ≤ 999999) (hv : v ≤ 999999) (h : Lib.itoa (u : Int) = Lib.itoa (v : Int)) : u = v := by
  have h1 := parse_itoa u (by omega) (by omega)
  have h2 := parse_itoa v (by omega) (by omega)
  rw [h, h2] at h1
  have := (Prod.mk.inj h1).1
  omega
theorem itoa_no (u : Nat) : (35 : UInt8) ∉ Lib.itoa (u : Int) := by
  rw [itoa_nat]
  intro h
  have := dec_digits u 35 h
  have e : (35 : UInt8).toNat = 35 := rfl
  omega
theorem sumL_append : ∀ (a b : List UInt8) (h : Nat), sumL h (a ++ b) = sumL (sumL h a) b
  | [], b, h => rfl
  | c :: r, b, h => by rw [List.cons_append, sumL, sumL_append r b]; rfl
theorem sumL_ne : ∀ (l : List UInt8) (h k : Nat), h < 999979 → k < 999979 → h ≠ k → sumL h l ≠ sumL k l
  | [], h, k, _, _, hn => hn
  | c :: r, h, k, hh, hk, hn => by
    rw [sumL, sumL]
    refine sumL_ne r _ _ (Nat.mod_lt _ (by decide)) (Nat.mod_lt _ (by decide)) ?_
    intro e
    apply hn
    have h1 := Nat.div_add_mod (41 * h + c.toNat + 1) 999979
    have h2 := Nat.div_add_mod (41 * k + c.toNat + 1) 999979
    rw [e] at h1
    omega
theorem sum_set (l : List UInt8) (k : Nat) (hk : k < l.length) (v : UInt8) (hv : v ≠ l[k]) : sumL 7 (l.set k v) ≠ sumL 7 l := by
  have e1 : l = l.take k ++ l[k] :: l.drop (k + 1) := by rw [← List.drop_eq_getElem_cons hk, List.take_append_drop]
  have e2 : l.set k v = l.take k ++ v :: l.drop (k + 1) := by rw [List.set_eq_take_append_cons_drop, if_pos hk]
  rw [e2]
  conv => rhs; rw [e1]
  rw [sumL_append, sumL_append, sumL, sumL]
  have hs := sumL_lt (l.take k) 7 (by decide)
  refine sumL_ne _ _ _ (Nat.mod_lt _ (by decide)) (Nat.mod_lt _ (by decide)) ?_
  intro e
  apply hv
  have a1 := Nat.div_add_mod (41 * sumL 7 (l.take k) + v.toNat + 1) 999979
  have a2 := Nat.div_add_mod (41 * sumL 7 (l.take k) + l[k].toNat + 1) 999979
  rw [e] at a1
  have b1 := v.toNat_lt
  have b2 := l[k].toNat_lt
  exact UInt8.toNat_inj.1 (by omega)
theorem cut_hit (a b : List UInt8) (h : (35 : UInt8) ∉ a) : cutOf (a ++ 35 :: b) 35 = a := by
  unfold cutOf
  rw [pcs_hit 35 a b [] h]
  rfl
theorem cut_all (a : List UInt8) (h : (35 : UInt8) ∉ a) : cutOf a 35 = a := by
  unfold cutOf
  rw [pcs_none 35 a [] h]
  rfl
theorem seal_list (s : ByteArray) : (sealOf s).data.toList = s.data.toList ++ 35 :: Lib.itoa ((sumOf s : Nat) : Int) := by
  unfold sealOf
  simp
/-- a sealed text with one byte changed is not the seal of its own head -/
theorem seal_seen (x : List UInt8) (hx : (35 : UInt8) ∉ x) (k : Nat) (v : UInt8) (hk : k < (x ++ 35 :: Lib.itoa ((sumL 7 x : Nat) : Int)).length) (hv : v ≠ (x ++ 35 :: Lib.itoa ((sumL 7 x : Nat) : Int))[k]) :
    let b := (x ++ 35 :: Lib.itoa ((sumL 7 x : Nat) : Int)).set k v
    cutOf b 35 ++ 35 :: Lib.itoa ((sumL 7 (cutOf b 35) : Nat) : Int) ≠ b := by
  intro b
  have hs := sumL_lt x 7 (by decide)
  have hno := itoa_no (sumL 7 x)
  by_cases h1 : k < x.length
  · have hb : b = x.set k v ++ 35 :: Lib.itoa ((sumL 7 x : Nat) : Int) := by
      show (x ++ _).set k v = _
      rw [List.set_append, if_pos h1]
    have hv' : v ≠ x[k] := by rwa [List.getElem_append_left h1] at hv
    have e2 : x.set k v = x.take k ++ v :: x.drop (k + 1) := by rw [List.set_eq_take_append_cons_drop, if_pos h1]
    by_cases hv35 : v = 35
    · subst hv35
      have hna : (35 : UInt8) ∉ x.take k := fun h => hx (List.mem_of_mem_take h)
      have hc : cutOf b 35 = x.take k := by rw [hb, e2, List.append_assoc, List.cons_append]; exact cut_hit _ _ hna
      rw [hc, hb, e2, List.append_assoc, List.cons_append]
      intro e
      have e3 := List.append_cancel_left e
      injection e3 with _ e4
      have := itoa_no (sumL 7 (x.take k))
      rw [e4] at this
      exact this (by simp)
    · have hna : (35 : UInt8) ∉ x.set k v := fun h => by
        rcases List.mem_or_eq_of_mem_set h with h | h
        · exact hx h
        · exact hv35 h.symm
      have hc : cutOf b 35 = x.set k v := by rw [hb]; exact cut_hit _ _ hna
      rw [hc, hb]
      intro e
      have e3 := List.append_cancel_left e
      injection e3 with _ e4
      have hs2 := sumL_lt (x.set k v) 7 (by decide)
      exact sum_set x k h1 v hv' (itoa_inj _ _ (by omega) (by omega) e4)
  · by_cases h2 : k = x.length
    · subst h2
      have hb : b = x ++ v :: Lib.itoa ((sumL 7 x : Nat) : Int) := by
        show (x ++ _).set x.length v = _
        rw [List.set_append, if_neg (by omega), Nat.sub_self, List.set_cons_zero]
      have hv' : v ≠ 35 := by simpa using hv
      have hna : (35 : UInt8) ∉ b := by
        rw [hb]
        intro h
        rcases List.mem_append.1 h with h | h
        · exact hx h
        · rcases List.mem_cons.1 h with h | h
          · exact hv' h.symm
          · exact hno h
      rw [cut_all b hna]
      intro e
      have := congrArg List.length e
      simp at this
    · obtain ⟨j, rfl⟩ : ∃ j, k = x.length + (j + 1) := ⟨k - x.length - 1, by omega⟩
      have hb : b = x ++ 35 :: (Lib.itoa ((sumL 7 x : Nat) : Int)).set j v := by
        show (x ++ _).set (x.length + (j + 1)) v = _
        rw [List.set_append, if_neg h1, show x.length + (j + 1) - x.length = j + 1 by omega, List.set_cons_succ]
      have hc : cutOf b 35 = x := by rw [hb]; exact cut_hit _ _ hx
      rw [hc, hb]
      intro e
      have e3 := List.append_cancel_left e
      injection e3 with _ e4
      have hlen : j < (Lib.itoa ((sumL 7 x : Nat) : Int)).length := by simp at hk; omega
      have hg : (x ++ 35 :: Lib.itoa ((sumL 7 x : Nat) : Int))[x.length + (j + 1)]? = (Lib.itoa ((sumL 7 x : Nat) : Int))[j]? := by
        rw [List.getElem?_append_right (by omega), show x.length + (j + 1) - x.length = j + 1 by omega, List.getElem?_cons_succ]
      rw [List.getElem?_eq_getElem hk, List.getElem?_eq_getElem hlen] at hg
      have hv' : v ≠ (Lib.itoa ((sumL 7 x : Nat) : Int))[j] := by rw [← Option.some.inj hg]; exact hv
      have e5 : (Lib.itoa ((sumL 7 x : Nat) : Int))[j]? = some v := by
        rw [e4, List.getElem?_set, if_pos rfl, if_pos hlen]
      rw [List.getElem?_eq_getElem hlen] at e5
      exact hv' (Option.some.inj e5).symm
theorem ver_seal (x : ByteArray) (h : (appRes x).2 = true) : (appRes x).1 = sealOf x ∧ verRes (sealOf x) = (x, true) ∧ (35 : UInt8) ∉ x.data.toList ∧ (sealOf x).size ≤ 4000 := by
  unfold appRes at h
  split at h
  · rename_i hh
    have hno : (35 : UInt8) ∉ x.data.toList := by simpa using hh.2.1
    have ha : appRes x = (sealOf x, true) := by unfold appRes; rw [if_pos hh]
    have hc : ofL (cutOf (sealOf x).data.toList 35) = x := by rw [seal_list, cut_hit _ _ hno]; rfl
    refine ⟨by rw [ha], ?_, hno, hh.2.2⟩
    unfold verRes
    rw [hc, ha, if_pos ⟨rfl, rfl⟩]
  · exact absurd h (by simp)
theorem ver_bad (b : ByteArray) (h : cutOf b.data.toList 35 ++ 35 :: Lib.itoa ((sumL 7 (cutOf b.data.toList 35) : Nat) : Int) ≠ b.data.toList) : (verRes b).2 = false := by
  unfold verRes
  rw [if_neg]
  rintro ⟨h1, h2⟩
  rw [(ver_seal _ h1).1] at h2
  have h3 := seal_list (ofL (cutOf b.data.toList 35))
  rw [h2] at h3
  exact h h3.symm
theorem ver_changed (x : ByteArray) (h : (appRes x).2 = true) (k : Nat) (v : UInt8) (hk : k < (sealOf x).data.toList.length) (hv : v ≠ (sealOf x).data.toList[k]) : (verRes (ofL ((sealOf x).data.toList.set k v))).2 = false := by
  have hs := ver_seal x h
  have e := seal_list x
  refine ver_bad _ ?_
  rw [ofL_list]
  have hn := seal_seen x.data.toList hs.2.2.1 k v (by have := congrArg List.length e; show k < (x.data.toList ++ 35 :: Lib.itoa ((sumOf x : Nat) : Int)).length; omega) (by
    intro hvv
    apply hv
    rw [hvv]
    exact (List.getElem_of_eq e hk).symm)
  have e' : (sealOf x).data.toList = x.data.toList ++ 35 :: Lib.itoa ((sumL 7 x.data.toList : Nat) : Int) := e
  simp only [e']
  exact hn
end Go.Proofs.YtnbcmjoimenhjaaDoor
