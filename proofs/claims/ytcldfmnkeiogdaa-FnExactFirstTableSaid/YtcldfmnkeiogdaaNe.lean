/- Plain law: a table's mask and its bits. No condition beyond the bounds. -/
import Derived.Test.YtcldfmnkeiogdaaNd
namespace Go.Proofs.Ytcldfmnkeiogdaa
open Go.RowKit S Go.Proofs.YtcldfmnkeiogdaaW.PrintWords
def bitsVal : List Int → Nat
  | [] => 0
  | b :: bs => (if b = 1 then 1 else 0) + 2 * bitsVal bs
theorem bitsVal_lt : ∀ bs : List Int, bitsVal bs < 2 ^ bs.length
  | [] => by simp [bitsVal]
  | b :: bs => by
    have := bitsVal_lt bs
    rw [bitsVal, List.length_cons, Nat.pow_succ]
    split <;> omega
theorem orI_add (m i : Nat) (hm : m < 2 ^ i) (hi : i ≤ 16) : orI (m : Int) i = ((m + 2 ^ i : Nat) : Int) := by
  have hp : 2 ^ i ≤ 2 ^ 16 := Nat.pow_le_pow_right (by decide) hi
  have hmin : min i 64 = i := by omega
  unfold orI
  rw [hmin]
  have hw : IntKind.u64.wrap (2 ^ i) = ((2 ^ i : Nat) : Int) := by
    have : (2 ^ i : Int) = ((2 ^ i : Nat) : Int) := by simp
    rw [this]
    generalize 2 ^ i = P at hp
    simp [IntKind.wrap, IntKind.bits, IntKind.signed]
    omega
  rw [hw]
  show IntKind.u64.wrap ((BitVec.ofInt 64 (m : Int) ||| BitVec.ofInt 64 ((2 ^ i : Nat) : Int)).toNat : Int) = _
  have h1 : (BitVec.ofInt 64 (m : Int)).toNat = m := by
    rw [BitVec.ofInt_natCast, BitVec.toNat_ofNat]
    exact Nat.mod_eq_of_lt (by omega)
  have h2 : (BitVec.ofInt 64 ((2 ^ i : Nat) : Int)).toNat = 2 ^ i := by
    rw [BitVec.ofInt_natCast, BitVec.toNat_ofNat]
    exact Nat.mod_eq_of_lt (by omega)
  have h3 : m ||| 2 ^ i = m + 2 ^ i := by
    have := Nat.two_pow_add_eq_or_of_lt hm 1
    rw [Nat.mul_one] at this
    rw [Nat.or_comm, ← this, Nat.add_comm]
  rw [BitVec.toNat_or, h1, h2, h3]
  generalize 2 ^ i = P at hp hm
  simp [IntKind.wrap, IntKind.bits, IntKind.signed]
  omega
theorem maskRow_val : ∀ (bs : List Int) (m i : Nat), m < 2 ^ i → i + bs.length ≤ 16 → maskRow (m : Int) i bs = ((m + 2 ^ i * bitsVal bs : Nat) : Int)
  | [], m, i, _, _ => by simp [maskRow, bitsVal]
  | b :: bs, m, i, hm, hi => by
    rw [List.length_cons] at hi
    have hp : 2 ^ (i + 1) = 2 * 2 ^ i := by rw [Nat.pow_succ]; omega
    rw [maskRow, bitsVal]
    by_cases hb : b = 1
    · rw [if_pos hb, if_pos hb, orI_add m i hm (by omega), maskRow_val bs (m + 2 ^ i) (i + 1) (by omega) (by omega), hp]
      congr 1
      rw [Nat.mul_add, Nat.mul_one, ← Nat.add_assoc, Nat.mul_comm 2 (2 ^ i), Nat.mul_assoc]
    · rw [if_neg hb, if_neg hb, maskRow_val bs m (i + 1) (by omega) (by omega), hp, Nat.zero_add, Nat.mul_comm 2 (2 ^ i), Nat.mul_assoc]
theorem maskRow_append : ∀ (a b : List Int) (m : Int) (i : Nat), maskRow m i (a ++ b) = maskRow (maskRow m i a) (i + a.length) b
  | [], b, m, i => rfl
  | x :: a, b, m, i => by
    rw [List.cons_append, maskRow, maskRow_append a b, maskRow, List.length_cons]
    congr 1; omega
theorem maskTab_flat (n : Nat) : ∀ (t : List (List Int)) (m : Int) (i : Nat), (∀ r ∈ t, r.length = n) → maskTab n m i t = maskRow m i t.flatten
  | [], m, i, _ => rfl
  | r :: t, m, i, h => by
    rw [maskTab, maskTab_flat n t _ _ (fun q hq => h q (List.mem_cons_of_mem _ hq)), List.flatten_cons, maskRow_append, h r List.mem_cons_self]
theorem bit_at : ∀ (bs : List Int) (p : Nat), (∀ b ∈ bs, b = 0 ∨ b = 1) → (h : p < bs.length) → ((bitsVal bs / 2 ^ p % 2 : Nat) : Int) = bs[p]
  | [], p, _, h => by cases h
  | b :: bs, 0, hb, _ => by
    rw [bitsVal, Nat.pow_zero, Nat.div_one]
    have := hb b List.mem_cons_self
    simp only [List.getElem_cons_zero]
    split <;> omega
  | b :: bs, p + 1, hb, h => by
    have ih := bit_at bs p (fun x hx => hb x (List.mem_cons_of_mem _ hx)) (by simpa using h)
    rw [List.getElem_cons_succ, ← ih, bitsVal, Nat.pow_succ, Nat.mul_comm (2 ^ p) 2, ← Nat.div_div_eq_div_mul]
    congr 3
    split <;> omega
theorem tabs_rows : ∀ (rows cols : List Int), ∀ t ∈ tabs rows cols, ∀ r ∈ t, r.length = cols.length ∧ ∀ b ∈ r, b = 0 ∨ b = 1
  | [], cols, t, ht, r, hr => by
    unfold tabs at ht
    split at ht
    · simp at ht; subst ht; cases hr
    · cases ht
  | x :: rs, cols, t, ht, r, hr => by
    unfold tabs at ht
    obtain ⟨row, h1, h2⟩ := List.mem_flatMap.1 ht
    split at h2
    · obtain ⟨q, hq, rfl⟩ := List.mem_map.1 h2
      rcases List.mem_cons.1 hr with rfl | hr
      · exact row_len _ _ _ h1
      · have := tabs_rows rs _ q hq r hr
        rw [sub_len] at this
        exact this
    · cases h2
theorem flat_len2 (n : Nat) : ∀ t : List (List Int), (∀ r ∈ t, r.length = n) → t.flatten.length = t.length * n
  | [], _ => by simp
  | r :: t, h => by
    rw [List.flatten_cons, List.length_append, flat_len2 n t (fun q hq => h q (List.mem_cons_of_mem _ hq)), h r List.mem_cons_self, List.length_cons, Nat.add_mul]; omega
theorem flat_at (n : Nat) : ∀ (t : List (List Int)) (i k : Nat), (∀ r ∈ t, r.length = n) → (hi : i < t.length) → (hk : k < n) → t.flatten[i * n + k]? = (t[i])[k]?
  | [], _, _, _, h, _ => by cases h
  | r :: t, 0, k, h, _, hk => by
    have hr := h r List.mem_cons_self
    rw [Nat.zero_mul, Nat.zero_add, List.flatten_cons, List.getElem?_append_left (by omega)]; rfl
  | r :: t, i + 1, k, h, hi, hk => by
    have hr := h r List.mem_cons_self
    rw [Nat.add_mul, Nat.one_mul, List.flatten_cons, List.getElem?_append_right (by omega), hr, show i * n + n + k - n = i * n + k by omega, flat_at n t i k (fun q hq => h q (List.mem_cons_of_mem _ hq)) (by simpa using hi) hk]
    rfl
/-- the first table's mask, and its bits -/
theorem first_bits (rows cols : List Int) (hok : okB rows cols = true) (t : List (List Int)) (ts : List (List (List Int))) (ht : tabs rows cols = t :: ts) :
    ∃ F : Nat, (tabV cols.length rows cols 0 0).headD 0 = (F : Int) ∧ F < 65536 ∧ t.length = rows.length ∧ (∀ r ∈ t, r.length = cols.length ∧ ∀ b ∈ r, b = 0 ∨ b = 1) ∧ ∀ (i k : Nat) (hi : i < t.length) (hk : k < (t[i]).length), ((F / 2 ^ (i * cols.length + k) % 2 : Nat) : Int) = (t[i])[k] := by
  obtain ⟨h1, h2, h3⟩ := ok_facts hok
  have hmem : t ∈ tabs rows cols := by rw [ht]; exact List.mem_cons_self
  have htl := tab_len rows cols t hmem
  have htr := tabs_rows rows cols t hmem
  have hv := tab_visits cols.length rows cols 0 0 (fun v hv => (h2 v hv).1) (fun v hv => (h3 v hv).1) rfl
  have hfl := flat_len2 cols.length t (fun r hr => (htr r hr).1)
  have hb16 : t.flatten.length ≤ 16 := by
    rw [hfl, htl]
    exact Nat.le_trans (Nat.mul_le_mul h1.2.1 h1.2.2.2) (by decide)
  have hm := maskRow_val t.flatten 0 0 (by simp) (by omega)
  have hbits : ∀ b ∈ t.flatten, b = 0 ∨ b = 1 := fun b hb => by
    obtain ⟨r, hr, hbr⟩ := List.mem_flatten.1 hb
    exact (htr r hr).2 b hbr
  refine ⟨bitsVal t.flatten, ?_, ?_, htl, htr, fun i k hi hk => ?_⟩
  · rw [hv, ht, List.map_cons, List.headD_cons, maskTab_flat cols.length t _ _ (fun r hr => (htr r hr).1)]
    rw [show ((0 : Nat) : Int) = 0 from rfl] at hm
    rw [hm, Nat.pow_zero, Nat.zero_add, Nat.one_mul]
  · have := bitsVal_lt t.flatten
    have hp : 2 ^ t.flatten.length ≤ 2 ^ 16 := Nat.pow_le_pow_right (by decide) hb16
    omega
  · have hrk := (htr _ (List.getElem_mem hi)).1
    have hfa := flat_at cols.length t i k (fun r hr => (htr r hr).1) hi (by omega)
    have hlt : i * cols.length + k < t.flatten.length := by
      rw [hfl]
      have : (i + 1) * cols.length ≤ t.length * cols.length := Nat.mul_le_mul_right _ hi
      rw [Nat.add_mul] at this
      omega
    rw [bit_at t.flatten _ hbits hlt]
    rw [List.getElem?_eq_getElem hlt, List.getElem?_eq_getElem hk] at hfa
    exact Option.some.inj hfa
end Go.Proofs.Ytcldfmnkeiogdaa
