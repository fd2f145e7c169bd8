/- Plain law: which lists are sums, copies of lists, counts. No condition beyond the bounds. -/
import Derived.Test.YtcldfmnkeiogdaaNc
import Derived.Test.YtcldfmnkeiogdaaWx
namespace Go.Proofs.Ytcldfmnkeiogdaa
open Go.RowKit S Go.Proofs.YtcldfmnkeiogdaaW.PrintWords
theorem run_count : ∀ (L : List Int) (s : Nat), s + L.length ≤ 1000000 → runV stepC (s : Int) L = (((s + L.length : Nat) : Int), true)
  | [], s, h => by simp [runV]
  | m :: ms, s, h => by
    rw [List.length_cons] at h
    have e : stepC (s : Int) m = (((s + 1 : Nat) : Int), true) := by
      unfold stepC
      rw [step1 s (by omega)]
    rw [runV, e, if_pos rfl, run_count ms (s + 1) (by omega), List.length_cons]
    congr 2; omega
def inB (x a b : Int) : Bool := decide (a ≤ x) && decide (x ≤ b)
def okB (rows cols : List Int) : Bool := decide (1 ≤ rows.length ∧ rows.length ≤ 4 ∧ 1 ≤ cols.length ∧ cols.length ≤ 4) && (rows.all (fun x => inB x 0 cols.length) && cols.all (fun x => inB x 0 rows.length))
theorem in_spec (x a b : Int) : spec_l1In.f x a b = some (inB x a b) := by
  unfold spec_l1In.f inB
  by_cases h : x ≥ a
  · rw [if_pos h, decide_eq_true h]; simp
  · rw [if_neg h, decide_eq_false h]; rfl
theorem in_impl (x a b : Int) : impl_within.f x a b = some (inB x a b) := by
  unfold impl_within.f inB
  by_cases h : x ≥ a
  · rw [if_pos h, decide_eq_true h]; simp
  · rw [if_neg h, decide_eq_false h]; rfl
theorem lists_l1 (cols : List Int) (n m : Int) (hm : m = cols.length) (hc : cols.length ≤ 4) : ∀ (d j k : Nat), j + d = cols.length → d < k → spec_l4Lists.l1 k cols n m (j : Int) = some ((cols.drop j).all fun x => inB x 0 n)
  | 0, j, k, hj, hk => by
    obtain ⟨k, rfl⟩ : ∃ m, k = m + 1 := ⟨k - 1, by omega⟩
    rw [spec_l4Lists.l1, if_neg (by omega), List.drop_of_length_le (by omega)]; rfl
  | d + 1, j, k, hj, hk => by
    obtain ⟨k, rfl⟩ : ∃ m, k = m + 1 := ⟨k - 1, by omega⟩
    have hl : j < cols.length := by omega
    rw [spec_l4Lists.l1, if_pos (by omega), if_pos (by omega), if_pos (by omega), in_spec, rd_eq cols j hl, List.drop_eq_getElem_cons hl, List.all_cons]
    simp only [Option.bind_some]
    cases inB cols[j] 0 n with
    | true => rw [if_pos rfl, step1 j (by omega), lists_l1 cols n m hm hc d (j + 1) k (by omega) (by omega)]; rfl
    | false => rw [if_neg (by simp)]; rfl
theorem lists_l0 (rows cols : List Int) (n m : Int) (hn : n = rows.length) (hm : m = cols.length) (hc : cols.length ≤ 4) (hr : rows.length ≤ 4) : ∀ (d j k : Nat), j + d = rows.length → d + 10 < k →
    spec_l4Lists.l0 k rows cols n m (j : Int) = some (((rows.drop j).all fun x => inB x 0 m) && cols.all fun x => inB x 0 n)
  | 0, j, k, hj, hk => by
    obtain ⟨k, rfl⟩ : ∃ m, k = m + 1 := ⟨k - 1, by omega⟩
    have h := lists_l1 cols n m hm hc cols.length 0 k (by omega) (by omega)
    rw [show ((0 : Nat) : Int) = 0 from rfl, List.drop_zero] at h
    rw [spec_l4Lists.l0, if_neg (by omega), List.drop_of_length_le (by omega), h]; rfl
  | d + 1, j, k, hj, hk => by
    obtain ⟨k, rfl⟩ : ∃ m, k = m + 1 := ⟨k - 1, by omega⟩
    have hl : j < rows.length := by omega
    rw [spec_l4Lists.l0, if_pos (by omega), if_pos (by omega), if_pos (by omega), in_spec, rd_eq rows j hl, List.drop_eq_getElem_cons hl, List.all_cons]
    simp only [Option.bind_some]
    cases inB rows[j] 0 m with
    | true => rw [if_pos rfl, step1 j (by omega), lists_l0 rows cols n m hn hm hc hr d (j + 1) k (by omega) (by omega)]; rfl
    | false => rw [if_neg (by simp)]; rfl
theorem inB_len (l : List Int) : inB (l.length : Int) 1 4 = decide (1 ≤ l.length ∧ l.length ≤ 4) := by
  unfold inB
  by_cases h1 : 1 ≤ l.length
  · by_cases h2 : l.length ≤ 4
    · rw [decide_eq_true (by omega), decide_eq_true (by omega), decide_eq_true (by omega)]; rfl
    · rw [decide_eq_true (by omega), decide_eq_false (by omega), decide_eq_false (by omega)]; rfl
  · rw [decide_eq_false (by omega), decide_eq_false (p := 1 ≤ l.length ∧ l.length ≤ 4) (by omega)]; rfl
theorem spec_lists (rows cols : List Int) (k : Nat) (hk : 20 ≤ k) : spec_l4Lists.f k rows cols = some (okB rows cols) := by
  unfold spec_l4Lists.f okB
  rw [in_spec, inB_len]
  simp only [Option.bind_some]
  obtain ⟨k, rfl⟩ : ∃ m, k = m + 1 := ⟨k - 1, by omega⟩
  by_cases h1 : 1 ≤ rows.length ∧ rows.length ≤ 4
  · rw [if_pos (by simpa using h1), in_spec, inB_len]
    simp only [Option.bind_some]
    rw [spec_l4Lists.j0]
    by_cases h2 : 1 ≤ cols.length ∧ cols.length ≤ 4
    · have h := lists_l0 rows cols rows.length cols.length rfl rfl h2.2 h1.2 rows.length 0 k (by omega) (by omega)
      rw [show ((0 : Nat) : Int) = 0 from rfl, List.drop_zero] at h
      rw [decide_eq_true h2, if_neg (by simp), h, decide_eq_true ⟨h1.1, h1.2, h2.1, h2.2⟩, Bool.true_and]
    · rw [decide_eq_false h2, if_pos (by simp), decide_eq_false (fun h => h2 ⟨h.2.2.1, h.2.2.2⟩), Bool.false_and]
  · rw [if_neg (by simpa using h1), spec_l4Lists.j0, if_pos rfl, decide_eq_false (fun h => h1 ⟨h.1, h.2.1⟩), Bool.false_and]
theorem all_l0 (l : List Int) (a b : Int) (hc : l.length ≤ 4) : ∀ (d j k : Nat), j + d = l.length → d < k → impl_allWithin.l0 k a b l (l.length : Int) (j : Int) = some ((l.drop j).all fun x => inB x a b)
  | 0, j, k, hj, hk => by
    obtain ⟨k, rfl⟩ : ∃ m, k = m + 1 := ⟨k - 1, by omega⟩
    rw [impl_allWithin.l0, if_neg (by omega), List.drop_of_length_le (by omega)]; rfl
  | d + 1, j, k, hj, hk => by
    obtain ⟨k, rfl⟩ : ∃ m, k = m + 1 := ⟨k - 1, by omega⟩
    have hl : j < l.length := by omega
    rw [impl_allWithin.l0, if_pos (by omega), if_pos (by omega), if_pos (by omega), in_impl, rd_eq l j hl, List.drop_eq_getElem_cons hl, List.all_cons]
    simp only [Option.bind_some]
    cases inB l[j] a b with
    | true => rw [if_pos rfl, step1 j (by omega), all_l0 l a b hc d (j + 1) k (by omega) (by omega)]; rfl
    | false => rw [if_neg (by simp)]; rfl
theorem impl_all (l : List Int) (a b : Int) (hc : l.length ≤ 4) (k : Nat) (hk : 20 ≤ k) : impl_allWithin.f k l a b = some (l.all fun x => inB x a b) := by
  have h := all_l0 l a b hc l.length 0 k (by omega) (by omega)
  rw [show ((0 : Nat) : Int) = 0 from rfl, List.drop_zero] at h
  exact h
theorem impl_sums (rows cols : List Int) (k : Nat) (hk : 20 ≤ k) : impl_areSums.f k rows cols = some (okB rows cols) := by
  unfold impl_areSums.f okB
  rw [in_impl, inB_len]
  simp only [Option.bind_some]
  by_cases h1 : 1 ≤ rows.length ∧ rows.length ≤ 4
  · rw [if_pos (by simpa using h1), in_impl, inB_len]
    simp only [Option.bind_some]
    by_cases h2 : 1 ≤ cols.length ∧ cols.length ≤ 4
    · rw [if_pos (by simpa using h2), impl_all rows 0 cols.length h1.2 k hk, decide_eq_true ⟨h1.1, h1.2, h2.1, h2.2⟩, Bool.true_and]
      simp only [Option.bind_some]
      cases (rows.all fun x => inB x 0 cols.length) with
      | true => rw [if_pos rfl, impl_all cols 0 rows.length h2.2 k hk]; rfl
      | false => rw [if_neg (by simp)]; rfl
    · rw [if_neg (by simpa using h2), decide_eq_false (fun h => h2 ⟨h.2.2.1, h.2.2.2⟩), Bool.false_and]
  · rw [if_neg (by simpa using h1), decide_eq_false (fun h => h1 ⟨h.1, h.2.1⟩), Bool.false_and]
theorem ok_facts {rows cols : List Int} (h : okB rows cols = true) : (1 ≤ rows.length ∧ rows.length ≤ 4 ∧ 1 ≤ cols.length ∧ cols.length ≤ 4) ∧ (∀ v ∈ rows, 0 ≤ v ∧ v ≤ 4) ∧ (∀ v ∈ cols, 0 ≤ v ∧ v ≤ 4) := by
  unfold okB at h
  simp only [Bool.and_eq_true, decide_eq_true_eq, List.all_eq_true, inB] at h
  refine ⟨h.1, fun v hv => ?_, fun v hv => ?_⟩
  · have := h.2.1 v hv; omega
  · have := h.2.2 v hv; omega
theorem fuel_le (n : Nat) (h : n ≤ 4) : fuelT n ≤ 2000000 := by
  have : n = 0 ∨ n = 1 ∨ n = 2 ∨ n = 3 ∨ n = 4 := by omega
  rcases this with rfl | rfl | rfl | rfl | rfl <;> decide
theorem spec_count (rows cols : List Int) : spec_CountTables.f 2000000 rows cols = some (if okB rows cols = true then (((tabs rows cols).length : Nat) : Int) else 0, okB rows cols) := by
  unfold spec_CountTables.f
  rw [spec_lists rows cols 2000000 (by omega)]
  simp only [Option.bind_some]
  cases h : okB rows cols with
  | true =>
    obtain ⟨h1, h2, h3⟩ := ok_facts h
    rw [if_pos rfl, spec_tabs rows cols h1.2.1 h1.2.2.2 (fun v hv => by have := h2 v hv; omega) (fun v hv => by have := h3 v hv; omega) 2000000 (fuel_le _ h1.2.1)]
    rfl
  | false => rw [if_neg (by simp)]; rfl
theorem impl_count (rows cols : List Int) (h : okB rows cols = true) : (runV stepC 0 (tabV cols.length rows cols 0 0)).1 = (((tabs rows cols).length : Nat) : Int) := by
  obtain ⟨h1, h2, h3⟩ := ok_facts h
  have hl := visits_len rows cols (fun v hv => (h2 v hv).1) (fun v hv => (h3 v hv).1)
  have ht := tabs_len rows cols h1.2.2.2
  have hp : 16 ^ rows.length ≤ 16 ^ 4 := Nat.pow_le_pow_right (by decide) h1.2.1
  have := run_count (tabV cols.length rows cols 0 0) 0 (by omega)
  rw [show ((0 : Nat) : Int) = 0 from rfl] at this
  rw [this, hl, Nat.zero_add]
theorem to_l0 (l : List Int) (hl : l.length ≤ 1048576) : ∀ (d i k : Nat), i + d = l.length → d < k → laws_toIntS.l0 k l (l.take i ++ List.replicate d 0) (i : Int) = some l
  | 0, i, k, hi, hk => by
    obtain ⟨k, rfl⟩ : ∃ m, k = m + 1 := ⟨k - 1, by omega⟩
    rw [laws_toIntS.l0, if_neg (by omega), show i = l.length by omega]
    simp
  | d + 1, i, k, hi, hk => by
    obtain ⟨k, rfl⟩ : ∃ m, k = m + 1 := ⟨k - 1, by omega⟩
    have hlen : (l.take i ++ List.replicate (d + 1) (0 : Int)).length = l.length := by simp; omega
    have hil : i < l.length := by omega
    rw [laws_toIntS.l0, if_pos (by omega), if_pos (by omega), if_pos (by rw [hlen]; omega), rd_eq l i hil, Int.toNat_natCast, step1 i (by omega)]
    have e : (l.take i ++ List.replicate (d + 1) (0 : Int)).set i l[i] = l.take (i + 1) ++ List.replicate d 0 := by
      have hti : (l.take i).length = i := by rw [List.length_take]; omega
      rw [List.set_append, if_neg (by omega), hti, Nat.sub_self, List.replicate_succ, List.set_cons_zero, List.take_succ_eq_append_getElem hil, List.append_assoc]
      rfl
    rw [e]
    exact to_l0 l hl d (i + 1) k (by omega) (by omega)
theorem to_eq (l : List Int) (hl : l.length ≤ 1048576) : laws_toIntS.f 2000000 l = some l := by
  unfold laws_toIntS.f
  rw [if_pos (by omega), if_pos (by omega), Int.toNat_natCast]
  have := to_l0 l hl l.length 0 2000000 (by omega) (by omega)
  rw [List.take_zero, List.nil_append] at this
  exact this
theorem eqi_l0 (L : List Int) (hl : L.length < 90000000) : ∀ (d i k : Nat), i + d = L.length → d < k → laws_eqIntS.l0 k L L (i : Int) = some true
  | 0, i, k, hi, hk => by
    obtain ⟨k, rfl⟩ : ∃ m, k = m + 1 := ⟨k - 1, by omega⟩
    rw [laws_eqIntS.l0, if_neg (by omega)]
  | d + 1, i, k, hi, hk => by
    obtain ⟨k, rfl⟩ : ∃ m, k = m + 1 := ⟨k - 1, by omega⟩
    rw [laws_eqIntS.l0, if_pos (by omega), if_pos (by omega), if_pos (by omega), if_pos rfl, step1 i (by omega)]
    exact eqi_l0 L hl d (i + 1) k (by omega) (by omega)
theorem eqi_same (L : List Int) (hl : L.length < 90000000) (k : Nat) (hk : L.length < k) : laws_eqIntS.f k L L = some true := by
  unfold laws_eqIntS.f
  rw [if_pos rfl]
  exact eqi_l0 L hl L.length 0 k (by omega) hk
end Go.Proofs.Ytcldfmnkeiogdaa
