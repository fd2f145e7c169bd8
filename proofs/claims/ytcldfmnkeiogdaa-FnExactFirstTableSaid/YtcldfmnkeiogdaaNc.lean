/- Plain law: what the program's search visits are the reference's tables, in order. No condition. -/
import Derived.Test.YtcldfmnkeiogdaaNm
namespace Go.Proofs.Ytcldfmnkeiogdaa
open Go.RowKit S Go.Proofs.YtcldfmnkeiogdaaW.PrintWords
def maskRow : Int → Nat → List Int → Int
  | mask, _, [] => mask
  | mask, i, b :: bs => maskRow (if b = 1 then orI mask i else mask) (i + 1) bs
def maskTab (n : Nat) : Int → Nat → List (List Int) → Int
  | mask, _, [] => mask
  | mask, i, r :: t => maskTab n (maskRow mask i r) (i + n) t
theorem row_visits (next : List Int → Int → List Int) : ∀ (suf pre : List Int) (row mask : Int) (i : Nat), 0 ≤ row → (∀ x ∈ suf, 0 ≤ x) →
    rowV next pre suf row mask i = (rowsOf suf.length row).flatMap fun r => if fitsB suf r = true then next (pre ++ subL suf r) (maskRow mask i r) else []
  | [], pre, row, mask, i, h0, _ => by
    rw [rowV, List.length_nil, rowsOf]
    by_cases h : row = 0
    · rw [if_pos h, if_neg (by omega)]
      simp [fitsB, subL, maskRow]
    · rw [if_neg h, if_pos (by omega)]; rfl
  | c :: cs, pre, row, mask, i, h0, hs => by
    have hc := hs c List.mem_cons_self
    have hs' : ∀ x ∈ cs, 0 ≤ x := fun x hx => hs x (List.mem_cons_of_mem _ hx)
    rw [rowV, row_visits next cs (pre ++ [c]) row mask (i + 1) h0 hs', List.length_cons, rowsOf, List.flatMap_append, List.flatMap_map]
    congr 1
    · congr 1
      funext r
      have e : fitsB (c :: cs) (0 :: r) = fitsB cs r := by simp only [fitsB]; rw [decide_eq_true (by omega)]; rfl
      have e2 : pre ++ subL (c :: cs) (0 :: r) = (pre ++ [c]) ++ subL cs r := by simp [subL]
      rw [e, e2, maskRow, if_neg (show ¬ ((0 : Int) = 1) by decide)]
    · by_cases hr : row = 0
      · rw [if_pos hr, if_neg (show ¬ 1 ≤ row by omega)]; rfl
      · rw [if_neg hr, if_pos (show 1 ≤ row by omega), List.flatMap_map]
        by_cases hc0 : c = 0
        · rw [if_pos hc0]
          symm
          rw [List.flatMap_eq_nil_iff]
          intro r _
          have e : fitsB (c :: cs) (1 :: r) = false := by simp only [fitsB]; rw [decide_eq_false (by omega)]; rfl
          rw [e, if_neg (by simp)]
        · rw [if_neg hc0, row_visits next cs (pre ++ [c - 1]) (row - 1) (orI mask i) (i + 1) (by omega) hs']
          congr 1
          funext r
          have e : fitsB (c :: cs) (1 :: r) = fitsB cs r := by simp only [fitsB]; rw [decide_eq_true (by omega)]; rfl
          have e2 : pre ++ subL (c :: cs) (1 :: r) = (pre ++ [c - 1]) ++ subL cs r := by simp [subL]
          rw [e, e2, maskRow, if_pos rfl]
theorem tab_visits (n : Nat) : ∀ (rows left : List Int) (mask : Int) (i : Nat), (∀ x ∈ rows, 0 ≤ x) → (∀ x ∈ left, 0 ≤ x) → left.length = n →
    tabV n rows left mask i = (tabs rows left).map (maskTab n mask i)
  | [], left, mask, i, _, hl, _ => by
    rw [tabV, tabs]
    by_cases h : left.all (· == 0) = true
    · have h2 : ¬ left.any (fun x => decide (0 < x)) = true := by
        intro ha
        obtain ⟨x, hx, h3⟩ := List.any_eq_true.1 ha
        have := List.all_eq_true.1 h x hx
        simp at this h3
        omega
      rw [if_pos h, if_neg h2]; rfl
    · have h2 : left.any (fun x => decide (0 < x)) = true := by
        apply Decidable.byContradiction
        intro ha
        apply h
        rw [List.all_eq_true]
        intro x hx
        have h3 : ¬ 0 < x := fun h3 => ha (List.any_eq_true.2 ⟨x, hx, by simpa using h3⟩)
        have := hl x hx
        simp; omega
      rw [if_neg h, if_pos h2]; rfl
  | r :: rs, left, mask, i, hr, hl, hn => by
    rw [tabV, row_visits _ left [] r mask i (hr r List.mem_cons_self) hl, tabs, List.map_flatMap]
    congr 1
    funext row
    by_cases hf : fitsB left row = true
    · rw [if_pos hf, if_pos hf, List.nil_append, tab_visits n rs (subL left row) _ _ (fun x hx => hr x (List.mem_cons_of_mem _ hx)) (sub_nn left row hl hf) (by rw [sub_len]; exact hn), List.map_map]
      rfl
    · rw [if_neg hf, if_neg hf]; rfl
theorem visits_len (rows cols : List Int) (hr : ∀ x ∈ rows, 0 ≤ x) (hc : ∀ x ∈ cols, 0 ≤ x) : (tabV cols.length rows cols 0 0).length = (tabs rows cols).length := by
  rw [tab_visits cols.length rows cols 0 0 hr hc rfl, List.length_map]
end Go.Proofs.Ytcldfmnkeiogdaa
