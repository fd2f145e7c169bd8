/- Plain law: all tables with given sums, as the reference makes them. No condition beyond the bounds. -/
import Derived.Test.YtcldfmnkeiogdaaS2
namespace Go.Proofs.Ytcldfmnkeiogdaa
open Go.RowKit S Go.Proofs.YtcldfmnkeiogdaaW.PrintWords
def rowsOf : Nat → Int → List (List Int)
  | 0, s => if s = 0 then [[]] else []
  | n + 1, s => (rowsOf n s).map (0 :: ·) ++ (if 1 ≤ s then (rowsOf n (s - 1)).map (1 :: ·) else [])
def fitsB : List Int → List Int → Bool
  | c :: cs, b :: bs => decide (0 ≤ c - b) && fitsB cs bs
  | _, _ => true
def subL : List Int → List Int → List Int
  | c :: cs, b :: bs => (c - b) :: subL cs bs
  | cs, _ => cs
def tabs : List Int → List Int → List (List (List Int))
  | [], cols => if cols.all (· == 0) then [[]] else []
  | r :: rs, cols => (rowsOf cols.length r).flatMap fun row => if fitsB cols row = true then (tabs rs (subL cols row)).map (row :: ·) else []
theorem rows_len : ∀ (n : Nat) (s : Int), (rowsOf n s).length ≤ 2 ^ n
  | 0, s => by unfold rowsOf; split <;> simp
  | n + 1, s => by
    unfold rowsOf
    have h1 := rows_len n s
    have h2 := rows_len n (s - 1)
    rw [List.length_append, List.length_map, Nat.pow_succ]
    split
    · rw [List.length_map]; omega
    · simp; omega
theorem row_len : ∀ (n : Nat) (s : Int), ∀ r ∈ rowsOf n s, r.length = n ∧ ∀ b ∈ r, b = 0 ∨ b = 1
  | 0, s, r, h => by
    unfold rowsOf at h
    split at h
    · simp at h; subst h; simp
    · cases h
  | n + 1, s, r, h => by
    unfold rowsOf at h
    rcases List.mem_append.1 h with h | h
    · obtain ⟨q, hq, rfl⟩ := List.mem_map.1 h
      have := row_len n s q hq
      exact ⟨by simp [this.1], fun b hb => by rcases List.mem_cons.1 hb with rfl | hb; exact Or.inl rfl; exact this.2 b hb⟩
    · split at h
      · obtain ⟨q, hq, rfl⟩ := List.mem_map.1 h
        have := row_len n (s - 1) q hq
        exact ⟨by simp [this.1], fun b hb => by rcases List.mem_cons.1 hb with rfl | hb; exact Or.inr rfl; exact this.2 b hb⟩
      · cases h
theorem sub_len : ∀ (cs bs : List Int), (subL cs bs).length = cs.length
  | [], bs => by cases bs <;> rfl
  | c :: cs, [] => rfl
  | c :: cs, b :: bs => by simp [subL, sub_len cs bs]
theorem sub_nn : ∀ (cs bs : List Int), (∀ c ∈ cs, 0 ≤ c) → fitsB cs bs = true → ∀ x ∈ subL cs bs, 0 ≤ x
  | [], bs, _, _, x, hx => by cases bs <;> cases hx
  | c :: cs, [], h, _, x, hx => h x hx
  | c :: cs, b :: bs, h, hf, x, hx => by
    simp only [fitsB, Bool.and_eq_true, decide_eq_true_eq] at hf
    rcases List.mem_cons.1 hx with rfl | hx
    · exact hf.1
    · exact sub_nn cs bs (fun y hy => h y (List.mem_cons_of_mem _ hy)) hf.2 x hx
theorem sub_le : ∀ (cs bs : List Int) (B : Int), (∀ c ∈ cs, c ≤ B) → (∀ b ∈ bs, b = 0 ∨ b = 1) → ∀ x ∈ subL cs bs, x ≤ B
  | [], bs, B, _, _, x, hx => by cases bs <;> cases hx
  | c :: cs, [], B, h, _, x, hx => h x hx
  | c :: cs, b :: bs, B, h, hb, x, hx => by
    rcases List.mem_cons.1 hx with rfl | hx
    · have := h c List.mem_cons_self
      have := hb b List.mem_cons_self
      omega
    · exact sub_le cs bs B (fun y hy => h y (List.mem_cons_of_mem _ hy)) (fun y hy => hb y (List.mem_cons_of_mem _ hy)) x hx
theorem flat_len {α β : Type} (f : α → List β) (B : Nat) : ∀ (l : List α), (∀ x ∈ l, (f x).length ≤ B) → (l.flatMap f).length ≤ B * l.length
  | [], _ => by simp
  | a :: r, h => by
    rw [List.flatMap_cons, List.length_append, List.length_cons, Nat.mul_add]
    have h1 := h a List.mem_cons_self
    have h2 := flat_len f B r (fun x hx => h x (List.mem_cons_of_mem _ hx))
    omega
theorem tabs_len : ∀ (rows cols : List Int), cols.length ≤ 4 → (tabs rows cols).length ≤ 16 ^ rows.length
  | [], cols, h => by unfold tabs; split <;> simp
  | r :: rs, cols, h => by
    unfold tabs
    have hr := rows_len cols.length r
    have hp : 2 ^ cols.length ≤ 2 ^ 4 := Nat.pow_le_pow_right (by decide) h
    have := flat_len (fun row => if fitsB cols row = true then (tabs rs (subL cols row)).map (row :: ·) else []) (16 ^ rs.length) (rowsOf cols.length r) (fun row _ => by
      split
      · rw [List.length_map]; exact tabs_len rs _ (by rw [sub_len]; exact h)
      · simp)
    rw [List.length_cons, Nat.pow_succ]
    refine Nat.le_trans this (Nat.mul_le_mul_left _ (by omega))
theorem tab_len : ∀ (rows cols : List Int), ∀ t ∈ tabs rows cols, t.length = rows.length
  | [], cols, t, h => by
    unfold tabs at h
    split at h
    · simp at h; subst h; rfl
    · cases h
  | r :: rs, cols, t, h => by
    unfold tabs at h
    obtain ⟨row, _, h2⟩ := List.mem_flatMap.1 h
    split at h2
    · obtain ⟨q, hq, rfl⟩ := List.mem_map.1 h2
      simp [tab_len rs _ q hq]
    · cases h2
/-! the reference's rows -/
theorem step1 (i : Nat) (h : i ≤ 1000000000) : wrap64 ((i : Int) + 1) = ((i + 1 : Nat) : Int) := by unfold wrap64; omega
theorem rdL1_eq (xs : List (List Int)) (i : Nat) (h : i < xs.length) : rd_L1 xs (i : Int) = xs[i] := by
  unfold rd_L1
  rw [Int.toNat_natCast, List.getD_eq_getElem?_getD, List.getElem?_eq_getElem h]; rfl
theorem rows_l1 (x0 x1 first : Int) (rest : List (List Int)) (hr : rest.length ≤ 1000) (hq : ∀ r ∈ rest, r.length ≤ 1000) : ∀ (d i k : Nat) (out : List (List Int)), i + d = rest.length → out.length ≤ 100000 - d →
    spec_l4Rows.l1 (d + 1 + k) x0 x1 out first rest (i : Int) = spec_l4Rows.l0 k x0 x1 (out ++ (rest.drop i).map (first :: ·)) (wrap64 (first + 1))
  | 0, i, k, out, hi, ho => by
    rw [show 0 + 1 + k = k + 1 by omega, spec_l4Rows.l1, if_neg (by omega), List.drop_of_length_le (by omega)]
    simp
  | d + 1, i, k, out, hi, ho => by
    have hil : i < rest.length := by omega
    have hl := hq _ (List.getElem_mem hil)
    rw [show d + 1 + 1 + k = (d + 1 + k) + 1 by omega, spec_l4Rows.l1, if_pos (by omega)]
    simp only [Option.bind_some]
    rw [if_pos (by omega), rdL1_eq rest i hil, if_pos (by simp; omega), if_pos (by omega), step1 i (by omega), rows_l1 x0 x1 first rest hr hq d (i + 1) k _ (by omega) (by simp; omega)]
    have e := List.drop_eq_getElem_cons hil
    rw [e, List.map_cons, List.append_assoc]
    rfl
theorem rows_bound (n : Nat) (h : n ≤ 4) (s : Int) : (rowsOf n s).length ≤ 16 ∧ ∀ r ∈ rowsOf n s, r.length ≤ 1000 := by
  have h1 := rows_len n s
  have h2 : 2 ^ n ≤ 2 ^ 4 := Nat.pow_le_pow_right (by decide) h
  exact ⟨by omega, fun r hr => by rw [(row_len n s r hr).1]; omega⟩
theorem spec_rows : ∀ (n : Nat) (s : Int) (k : Nat), n ≤ 4 → 0 ≤ s → s ≤ 100 → 60 * n + 1 ≤ k → spec_l4Rows.f k (n : Int) s = some (rowsOf n s)
  | 0, s, k, hn, h0, h1, hk => by
    obtain ⟨k, rfl⟩ : ∃ m, k = m + 1 := ⟨k - 1, by omega⟩
    rw [spec_l4Rows.f, if_pos (show ((0 : Nat) : Int) = 0 from rfl)]
    unfold rowsOf
    split <;> rfl
  | n + 1, s, k, hn, h0, h1, hk => by
    have b0 := rows_bound n (by omega) s
    have b1 := rows_bound n (by omega) (s - 1)
    obtain ⟨k, rfl⟩ : ∃ m, k = m + 3 := ⟨k - 3, by omega⟩
    have e1 : wrap64 (((n + 1 : Nat) : Int) - 1) = (n : Int) := by unfold wrap64; omega
    have e2 : wrap64 (s - 0) = s := by unfold wrap64; omega
    have e3 : wrap64 (s - 1) = s - 1 := by unfold wrap64; omega
    have w1 : wrap64 ((0 : Int) + 1) = 1 := by unfold wrap64; omega
    have w2 : wrap64 ((1 : Int) + 1) = 2 := by unfold wrap64; omega
    rw [spec_l4Rows.f, if_neg (by omega), spec_l4Rows.l0, if_pos (by omega), spec_l4Rows.j1, decide_eq_true h0, if_pos rfl, e1, e2, spec_rows n s k (by omega) h0 h1 (by omega)]
    simp only [Option.bind_some]
    obtain ⟨k2, hk2⟩ : ∃ m, k = (rowsOf n s).length + 1 + (m + 2) := ⟨k - (rowsOf n s).length - 3, by omega⟩
    rw [hk2]
    have hl := rows_l1 ((n + 1 : Nat) : Int) s 0 (rowsOf n s) (by omega) b0.2 (rowsOf n s).length 0 (k2 + 2) [] (by omega) (by simp)
    rw [show ((0 : Nat) : Int) = 0 from rfl] at hl
    rw [hl, w1, List.drop_zero, List.nil_append, spec_l4Rows.l0, if_pos (by omega), spec_l4Rows.j1]
    by_cases hs : 1 ≤ s
    · rw [decide_eq_true hs, if_pos rfl, e1, e3, spec_rows n (s - 1) k2 (by omega) (by omega) (by omega) (by omega)]
      simp only [Option.bind_some]
      obtain ⟨k3, hk3⟩ : ∃ m, k2 = (rowsOf n (s - 1)).length + 1 + (m + 2) := ⟨k2 - (rowsOf n (s - 1)).length - 3, by omega⟩
      rw [hk3]
      have hl := rows_l1 ((n + 1 : Nat) : Int) s 1 (rowsOf n (s - 1)) (by omega) b1.2 (rowsOf n (s - 1)).length 0 (k3 + 2) ((rowsOf n s).map (0 :: ·)) (by omega) (by simp; omega)
      rw [show ((0 : Nat) : Int) = 0 from rfl] at hl
      rw [hl, w2, List.drop_zero, spec_l4Rows.l0, if_neg (by omega), spec_l4Rows.j1, if_neg (by simp), rowsOf, if_pos hs]
    · rw [decide_eq_false hs, if_neg (by simp), rowsOf, if_neg hs, List.append_nil]
end Go.Proofs.Ytcldfmnkeiogdaa
