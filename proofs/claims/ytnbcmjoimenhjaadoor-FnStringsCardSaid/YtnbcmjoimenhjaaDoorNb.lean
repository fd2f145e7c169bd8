/- Plain law: what the reference reads off a text is what Go's Atoi, held against its own numeral, reads. No condition. -/
import Derived.Test.YtnbcmjoimenhjaaDoorS2
import Derived.Test.YtnbcmjoimenhjaaDoorNa
import Derived.Lib.AtoiAll
import Derived.Lib.Strings
namespace Go.Proofs.YtnbcmjoimenhjaaDoor
open Go.RowKit S Go.Proofs.YtnbcmjoimenhjaaDoorW.PrintWords
def parseRes (l : List UInt8) : Int × Bool :=
  if l.length ≤ 7 then (match Lib.atoiAll l with
    | .ok v => if -999999 ≤ v ∧ v ≤ 999999 ∧ Lib.itoa v = l then (v, true) else (0, false)
    | _ => (0, false)) else (0, false)
theorem bt_list (s : ByteArray) (i : Nat) (h : i < s.data.toList.length) : bt s (i : Int) = ((s.data.toList[i]).toNat : Int) := by
  have h' : i < s.size := by simpa using h
  unfold bt
  rw [dif_pos (by simpa using h')]
  simp [ByteArray.getElem_eq_getElem_data]
theorem size_len (s : ByteArray) : s.size = s.data.toList.length := by simp
def fin (l : List UInt8) (neg : Bool) (u : Nat) : Int × Bool := if Lib.itoa (if neg = true then -(u : Int) else u) = l then ((if neg = true then -(u : Int) else u), true) else (0, false)
def endP (l : List UInt8) (neg : Bool) : Lib.NumEnd Nat → Int × Bool
  | .ok u => fin l neg u
  | _ => (0, false)
theorem mk_eq (l : List UInt8) (s : ByteArray) : ((⟨l.toArray⟩ : ByteArray).toList = s.toList) = (l = s.data.toList) := by
  rw [Lib.toList_data, Lib.toList_data]
theorem step_n (n c : Nat) (hn : n ≤ 999999) (h1 : 48 ≤ c) (h2 : c ≤ 57) : wrap64 (wrap64 (10 * (n : Int)) + (((c : Int) - 48) % 256)) = ((n * 10 + (c - 48) : Nat) : Int) := by
  have e0 : wrap64 (10 * (n : Int)) = 10 * (n : Int) := by unfold wrap64; omega
  have e1 : ((c : Int) - 48) % 256 = (c : Int) - 48 := by omega
  rw [e0, e1]
  have e2 : wrap64 (10 * (n : Int) + ((c : Int) - 48)) = 10 * (n : Int) + ((c : Int) - 48) := by unfold wrap64; omega
  rw [e2]; omega
theorem step_i (i : Nat) (h : i ≤ 1000) : wrap64 ((i : Int) + 1) = ((i + 1 : Nat) : Int) := by unfold wrap64; omega
theorem pow_step {n i c : Nat} (hn : n < 10 ^ i) (h1 : 48 ≤ c) (h2 : c ≤ 57) : n * 10 + (c - 48) < 10 ^ (i + 1) := by
  rw [Nat.pow_succ]
  generalize (10 : Nat) ^ i = p at hn
  omega
theorem le_pow6 {n i : Nat} (hn : n < 10 ^ i) (hi : i ≤ 6) : n ≤ 999999 := by
  have h : (10 : Nat) ^ i ≤ 1000000 := Nat.le_trans (Nat.pow_le_pow_right (by decide) hi) (by decide)
  generalize (10 : Nat) ^ i = p at hn h
  omega
theorem l0_eq (s t : ByteArray) (neg : Bool) (hneg : neg = decide ((t.size : Int) < (s.size : Int))) (ht : t.size ≤ 6) : ∀ (d i n k : Nat), i + d = t.size → n < 10 ^ i → d + 10 ≤ k →
    spec_l1Read.l0 k s t (n : Int) (i : Int) = some (endP s.data.toList neg (Lib.parseUint10 n (t.data.toList.drop i)))
  | 0, i, n, k, hi, hn, hk => by
    obtain ⟨k, rfl⟩ : ∃ m, k = m + 1 := ⟨k - 1, by omega⟩
    have hn6 : n ≤ 999999 := le_pow6 hn (by omega)
    have hm : ∀ m : Int, -999999 ≤ m → m ≤ 999999 → spec_l1Num.f k m = some ⟨(Lib.itoa m).toArray⟩ := fun m h0 h1 => at_rounds (fun k => spec_l1Num.mono m k) (by omega) (num_int m h0 h1)
    rw [spec_l1Read.l0, if_neg (by omega), List.drop_of_length_le (by rw [← size_len]; omega), Lib.parseUint10]
    unfold endP fin
    subst hneg
    by_cases hlt : (t.size : Int) < (s.size : Int)
    · have e : wrap64 (-(n : Int)) = -(n : Int) := by unfold wrap64; omega
      rw [if_pos hlt, e, hm _ (by omega) (by omega)]
      simp only [Option.bind_some, hlt, decide_true, if_true, mk_eq]
      split <;> rfl
    · rw [if_neg hlt, hm _ (by omega) (by omega)]
      simp only [Option.bind_some, hlt, decide_false, mk_eq]
      simp
      split <;> rfl
  | d + 1, i, n, k, hi, hn, hk => by
    obtain ⟨k, rfl⟩ : ∃ m, k = m + 1 := ⟨k - 1, by omega⟩
    have hil : i < t.data.toList.length := by rw [← size_len]; omega
    have hn6 : n ≤ 999999 := le_pow6 hn (by omega)
    rw [spec_l1Read.l0, if_pos (by omega), if_pos (by omega), bt_list t i hil, List.drop_eq_getElem_cons hil, Lib.parseUint10]
    have hb : (t.data.toList[i]).toNat < 256 := UInt8.toNat_lt _
    generalize hc : (t.data.toList[i]).toNat = c at hb
    by_cases h1 : c < 48
    · rw [if_pos (by omega), if_neg (by omega)]; rfl
    · rw [if_neg (by omega)]
      by_cases h2 : c > 57
      · rw [if_pos (by omega), if_neg (by omega)]; rfl
      · rw [if_neg (by omega), if_pos (by omega), if_neg (by omega), if_neg (by omega)]
        rw [step_n n c hn6 (by omega) (by omega), step_i i (by omega)]
        exact l0_eq s t neg hneg ht d (i + 1) (n * 10 + (c - 48)) k (by omega) (pow_step hn (by omega) (by omega)) (by omega)
theorem j1_eq (s t : ByteArray) (neg : Bool) (hneg : neg = decide ((t.size : Int) < (s.size : Int))) (k : Nat) (hk : 20 ≤ k) :
    spec_l1Read.j1 k s t = some (if 1 ≤ t.size ∧ t.size ≤ 6 then endP s.data.toList neg (Lib.parseUint10 0 t.data.toList) else (0, false)) := by
  obtain ⟨k, rfl⟩ : ∃ m, k = m + 1 := ⟨k - 1, by omega⟩
  rw [spec_l1Read.j1]
  unfold spec_l1In.f
  by_cases h1 : 1 ≤ t.size
  · rw [if_pos (by omega)]
    by_cases h6 : t.size ≤ 6
    · have := l0_eq s t neg hneg h6 t.size 0 0 k (by omega) (by decide) (by omega)
      simp only [Option.bind_some, show decide ((t.size : Int) ≤ 6) = true from decide_eq_true (by omega), if_true]
      rw [if_pos ⟨h1, h6⟩]
      simpa using this
    · have c6 : ¬ (1 ≤ t.size ∧ t.size ≤ 6) := fun h => h6 h.2
      simp only [Option.bind_some, show decide ((t.size : Int) ≤ 6) = false from decide_eq_false (by omega), if_neg c6]
      simp
  · rw [if_neg (by omega), if_neg (by omega)]
    simp
theorem parse_lt : ∀ (l : List UInt8) (n i u : Nat), n < 10 ^ i → Lib.parseUint10 n l = .ok u → u < 10 ^ (i + l.length)
  | [], n, i, u, hn, h => by
    simp only [Lib.parseUint10] at h
    injection h with h
    subst h; simpa using hn
  | c :: r, n, i, u, hn, h => by
    simp only [Lib.parseUint10] at h
    split at h
    · rename_i hc
      split at h
      · cases h
      · split at h
        · cases h
        · have := parse_lt r _ (i + 1) u (pow_step hn hc.1 hc.2) h
          rw [List.length_cons, show i + (r.length + 1) = i + 1 + r.length by omega]; exact this
    · cases h
theorem parse_range : ∀ (l : List UInt8) (n i : Nat), n < 10 ^ i → i + l.length ≤ 18 → Lib.parseUint10 n l ≠ .range
  | [], n, i, hn, hl => by simp [Lib.parseUint10]
  | c :: r, n, i, hn, hl => by
    have hp : 10 ^ i ≤ 10 ^ 17 := Nat.pow_le_pow_right (by decide) (by simp at hl; omega)
    simp only [Lib.parseUint10]
    split
    · rename_i hc
      rw [if_neg (by omega), if_neg (by omega)]
      exact parse_range r _ (i + 1) (pow_step hn hc.1 hc.2) (by simp at hl; omega)
    · simp
theorem dec_head : ∀ u : Nat, ∃ c r, Lib.decDigits u = c :: r ∧ 48 ≤ c.toNat ∧ c.toNat ≤ 57 := by
  intro u
  induction u using Nat.strongRecOn with
  | _ u ih =>
    rw [Lib.decDigits]
    by_cases h : u < 10
    · rw [dif_pos h]
      refine ⟨_, _, rfl, ?_⟩
      have e : (UInt8.ofNat (48 + u)).toNat = 48 + u := by simp; omega
      omega
    · rw [dif_neg h]
      obtain ⟨c, r, e, hc⟩ := ih (u / 10) (by omega)
      rw [e]
      exact ⟨c, _, rfl, hc⟩
theorem dec_len6 (u : Nat) (h : u ≤ 999999) : (Lib.decDigits u).length ≤ 6 := (num_nat 5 u (by omega) (by omega) (by omega)).2
theorem itoa_nat (u : Nat) : Lib.itoa (u : Int) = Lib.decDigits u := by unfold Lib.itoa; rw [if_neg (by omega)]; simp
theorem itoa_neg (u : Nat) (h : 0 < u) : Lib.itoa (-(u : Int)) = 45 :: Lib.decDigits u := by unfold Lib.itoa; rw [if_pos (by omega)]; simp
theorem pow6 {n : Nat} (h : n ≤ 6) : (10 : Nat) ^ n ≤ 1000000 := Nat.le_trans (Nat.pow_le_pow_right (by decide) h) (by decide)
/-- behind the sign, or without one -/
theorem tail_eq (l r : List UInt8) (neg : Bool) (h1 : 1 ≤ r.length) (h6 : r.length ≤ 6) :
    endP l neg (Lib.parseUint10 0 r) = (match (match Lib.parseMag r with
      | .syntax => Lib.NumEnd.syntax
      | .range => .range
      | .ok u => if ¬ (neg = true) ∧ 9223372036854775808 ≤ u then .range else if neg = true ∧ 9223372036854775808 < u then .range else .ok (if neg = true then -(u : Int) else u)) with
      | .ok v => if -999999 ≤ v ∧ v ≤ 999999 ∧ Lib.itoa v = l then (v, true) else (0, false)
      | _ => (0, false)) := by
  have hm : Lib.parseMag r = Lib.parseUint10 0 r := by
    unfold Lib.parseMag
    rw [if_neg (by intro e; subst e; simp at h1)]
  rw [hm]
  cases hp : Lib.parseUint10 0 r with
  | «syntax» => rfl
  | range => rfl
  | ok u =>
    have hu := parse_lt r 0 0 u (by decide) hp
    have hu6 : u < 1000000 := by
      have h7 := le_pow6 hu (by omega)
      omega
    have c1 : ¬ (¬ (neg = true) ∧ 9223372036854775808 ≤ u) := fun h => by have := h.2; omega
    have c2 : ¬ (neg = true ∧ 9223372036854775808 < u) := fun h => by have := h.2; omega
    simp only [endP, fin, if_neg c1, if_neg c2]
    clear c1 c2
    cases neg with
    | true =>
      simp only [if_true]
      by_cases he : Lib.itoa (-(u : Int)) = l
      · rw [if_pos he, if_pos ⟨by omega, by omega, he⟩]
      · rw [if_neg he, if_neg fun h => he h.2.2]
    | false =>
      simp only [Bool.false_eq_true, if_false]
      by_cases he : Lib.itoa (u : Int) = l
      · rw [if_pos he, if_pos ⟨by omega, by omega, he⟩]
      · rw [if_neg he, if_neg fun h => he h.2.2]
theorem extract_size (s : ByteArray) : (s.extract 1 s.size).data.toList = s.data.toList.drop 1 := by
  rw [Lib.extract_data, List.take_of_length_le]
  rw [List.length_drop, ← size_len]; exact Nat.le_refl _
theorem specParse (s : ByteArray) : spec_ParseInt.f 30 s = some (parseRes s.data.toList) := by
  unfold spec_ParseInt.f
  have key : spec_l1Read.f 30 s = some (parseRes s.data.toList) := by
    unfold spec_l1Read.f parseRes
    cases hl : s.data.toList with
    | nil =>
      have hz : s.size = 0 := by rw [size_len, hl]; rfl
      rw [if_neg (by omega), spec_l1Read.j0, if_neg (by simp), j1_eq s s false (by simp) 29 (by omega), hz]
      simp [Lib.atoiAll]
    | cons c r =>
      have hz : s.size = r.length + 1 := by rw [size_len, hl]; rfl
      have hb0 : bt s 0 = (c.toNat : Int) := by
        have := bt_list s 0 (by rw [hl]; simp)
        simpa [hl] using this
      by_cases hm : c.toNat = 45 ∧ r ≠ []
      · obtain ⟨hc, hr⟩ := hm
        have hr1 : 1 ≤ r.length := by cases r with | nil => exact absurd rfl hr | cons => simp
        have hts : (s.extract 1 s.size).data.toList = r := by rw [extract_size, hl]; rfl
        have htz : (s.extract 1 s.size).size = r.length := by rw [size_len, hts]
        rw [if_pos (by omega), if_pos (by omega), hb0, hc]
        rw [spec_l1Read.j0, if_pos (by decide), if_pos (by omega), j1_eq s (s.extract 1 s.size) true (by rw [htz, hz]; simp; omega) 29 (by omega), htz, hts, hl]
        by_cases h6 : r.length ≤ 6
        · rw [if_pos ⟨hr1, h6⟩, if_pos (by simp; omega), tail_eq (c :: r) r true hr1 h6]
          simp only [Lib.atoiAll, hc, or_true, if_true, true_and, not_true, false_and, if_false]
          generalize Lib.parseMag r = pm
          cases pm <;> rfl
        · rw [if_neg (fun h => h6 h.2), if_neg (by simp; omega)]
      · have hj : (if (s.size : Int) > 1 then (if 0 < (s.size : Int) then (spec_l1Read.j0 30 s s ((bt s 0) == 45)) else (none)) else (spec_l1Read.j0 30 s s false)) = spec_l1Read.j1 29 s s := by
          by_cases h1 : (s.size : Int) > 1
          · rw [if_pos h1, if_pos (by omega), hb0]
            have hc : ¬ c.toNat = 45 := fun h => hm ⟨h, by intro e; subst e; simp at hz; omega⟩
            rw [show (((c.toNat : Int) == 45) = false) by rw [beq_eq_false_iff_ne]; omega, spec_l1Read.j0, if_neg (by simp)]
          · rw [if_neg h1, spec_l1Read.j0, if_neg (by simp)]
        rw [hj, j1_eq s s false (by simp) 29 (by omega), hz, hl]
        by_cases hc45 : c.toNat = 45
        · -- a lone sign
          have hr : r = [] := Classical.byContradiction fun h => hm ⟨hc45, h⟩
          subst hr
          simp [Lib.atoiAll, hc45, Lib.parseMag, endP, Lib.parseUint10]
        · by_cases hc43 : c.toNat = 43
          · have hp : Lib.parseUint10 0 (c :: r) = .syntax := by rw [Lib.parseUint10, if_neg (by omega)]
            have hno : ∀ v : Int, Lib.itoa v ≠ c :: r := fun v => by
              unfold Lib.itoa
              split
              · intro h
                have := (List.cons.inj h).1
                rw [← this] at hc43
                exact absurd hc43 (by decide)
              · intro h
                obtain ⟨c', r', e, h1, h2⟩ := dec_head v.toNat
                rw [e] at h
                have := (List.cons.inj h).1
                rw [this] at h1
                omega
            rw [hp]
            have e1 : (if 1 ≤ r.length + 1 ∧ r.length + 1 ≤ 6 then endP (c :: r) false Lib.NumEnd.syntax else (0, false)) = (0, false) := by split <;> rfl
            rw [e1]
            split
            · split
              · rw [if_neg fun h => hno _ h.2.2]
              · rfl
            · rfl
          · have hat : Lib.atoiAll (c :: r) = (match Lib.parseMag (c :: r) with
              | .syntax => Lib.NumEnd.syntax
              | .range => .range
              | .ok u => if ¬ (false = true) ∧ 9223372036854775808 ≤ u then .range else if false = true ∧ 9223372036854775808 < u then .range else .ok (if false = true then -(u : Int) else u)) := by
              simp only [Lib.atoiAll, hc45, hc43, or_self, if_false]
              generalize Lib.parseMag (c :: r) = pm
              cases pm <;> simp
            by_cases h6 : r.length + 1 ≤ 6
            · rw [if_pos ⟨by omega, h6⟩, if_pos (by simp; omega), hat]
              exact congrArg some (tail_eq (c :: r) (c :: r) false (by simp) (by simpa using h6))
            · rw [if_neg (fun h => h6 h.2)]
              split
              · rename_i h7
                split
                · rename_i v hv
                  rw [if_neg]
                  intro h
                  have hv0 : ¬ v < 0 := fun hn => by
                    have h3 := h.2.2
                    unfold Lib.itoa at h3
                    rw [if_pos hn] at h3
                    have := (List.cons.inj h3).1
                    rw [← this] at hc45
                    exact hc45 (by decide)
                  have h3 := h.2.2
                  unfold Lib.itoa at h3
                  rw [if_neg hv0] at h3
                  have h4 := dec_len6 v.toNat (by omega)
                  rw [h3] at h4
                  simp at h4
                  omega
                · rfl
              · rfl
  rw [key]
  rfl
end Go.Proofs.YtnbcmjoimenhjaaDoor
