/- The memory of the search for tables (impl.tables and its closures), and what it visits. No condition. -/
import Derived.Test.YtcldfmnkeiogdaaNb
import Derived.WalkKit
import Derived.Lib.Slices
namespace Go.Proofs.Ytcldfmnkeiogdaa
open Go.RowKit S Go.Proofs.YtcldfmnkeiogdaaW.PrintWords Go.Proofs.YtcldfmnkeiogdaaW.PrintLast Go.Proofs.YtcldfmnkeiogdaaW.PrintMore
/-- the variables of a search: the rows' slice, the width, the left sums' slice and row, the two closures; X: the visitor's own variables -/
structure Mem {σ : Type} (X : σ → World → Prop) (W0 : World) (A : Option Addr) (c : Nat) (rows : List Int) (n cl br bn bl bv bf g : Nat) (fv ff : Value) (left : List Int) (s : σ) (w : World) : Prop where
  bel : Below W0.heap.size W0 w
  hr : w.heap[br]? = some (.cells #[.slice A rows.length c] 27 (0, 0))
  hn : w.heap[bn]? = some (.cells #[.int .i64 n] 3 (0, 0))
  hl : w.heap[bl]? = some (.cells #[.slice (some ⟨g, 0, none⟩) n cl] 27 (0, 0))
  hv : w.heap[bv]? = some (.cells #[fv] 86 (0, 0))
  hf : w.heap[bf]? = some (.cells #[ff] 97 (0, 0))
  hg : ∃ spare : List Value, w.heap[g]? = some (.cells (left.map (Value.int .i64) ++ spare).toArray 3 (0, 0))
  len : left.length = n
  x : X s w
section
variable {σ : Type} {X : σ → World → Prop} {W0 : World} {A : Option Addr} {c : Nat} {rows : List Int} {n cl br bn bl bv bf g : Nat} {fv ff : Value} {left : List Int} {s : σ} {w : World}
theorem Mem.cr (h : Mem X W0 A c rows n cl br bn bl bv bf g fv ff left s w) :
    w.cell? ⟨br, 0, none⟩ = some (.slice A rows.length c) ∧ w.cell? ⟨bn, 0, none⟩ = some (.int .i64 n) ∧ w.cell? ⟨bl, 0, none⟩ = some (.slice (some ⟨g, 0, none⟩) n cl) ∧ w.cell? ⟨bv, 0, none⟩ = some fv ∧ w.cell? ⟨bf, 0, none⟩ = some ff :=
  ⟨cell_of_one h.hr, cell_of_one h.hn, cell_of_one h.hl, cell_of_one h.hv, cell_of_one h.hf⟩
theorem Mem.cg (h : Mem X W0 A c rows n cl br bn bl bv bf g fv ff left s w) (j : Nat) (v : Int) (hj : left[j]? = some v) :
    w.cell? ⟨g, j, none⟩ = some (.int .i64 v) ∧ w.frozen? ⟨g, j, none⟩ = false := by
  obtain ⟨spare, hg⟩ := h.hg
  obtain ⟨hl, rfl⟩ := List.getElem?_eq_some_iff.1 hj
  constructor
  · unfold World.cell?
    rw [hg]
    simp [List.getElem?_append_left, hl]
  · unfold World.frozen?
    rw [hg]
    simp
theorem Mem.drewN (hX : ∀ s w w', w'.heap = w.heap → X s w → X s w') (h : Mem X W0 A c rows n cl br bn bl bv bf g fv ff left s w) (m : Nat) : Mem X W0 A c rows n cl br bn bl bv bf g fv ff left s (w.drewN m) :=
  ⟨h.bel.trans ⟨rfl, rfl, rfl, Nat.le_refl _, fun _ _ => rfl⟩, h.hr, h.hn, h.hl, h.hv, h.hf, h.hg, h.len, hX s w _ rfl h.x⟩
theorem Mem.drew (hX : ∀ s w w', w'.heap = w.heap → X s w → X s w') (h : Mem X W0 A c rows n cl br bn bl bv bf g fv ff left s w) : Mem X W0 A c rows n cl br bn bl bv bf g fv ff left s w.drew :=
  ⟨h.bel.trans ⟨rfl, rfl, rfl, Nat.le_refl _, fun _ _ => rfl⟩, h.hr, h.hn, h.hl, h.hv, h.hf, h.hg, h.len, hX s w _ rfl h.x⟩
theorem Mem.set {pre suf : List Int} {u : Int} (hX : ∀ s w w', (∀ k, k ≠ g → w'.heap[k]? = w.heap[k]?) → X s w → X s w') (hne : br ≠ g ∧ bn ≠ g ∧ bl ≠ g ∧ bv ≠ g ∧ bf ≠ g) (h0 : W0.heap.size ≤ g)
    (h : Mem X W0 A c rows n cl br bn bl bv bf g fv ff (pre ++ u :: suf) s w) (v : Int) : Mem X W0 A c rows n cl br bn bl bv bf g fv ff (pre ++ v :: suf) s (w.setCell ⟨g, pre.length, none⟩ (.int .i64 v)) := by
  have far : ∀ k, k ≠ g → (w.setCell ⟨g, pre.length, none⟩ (.int .i64 v)).heap[k]? = w.heap[k]? := fun k hk => Below.heap_setCell w ⟨g, pre.length, none⟩ _ k hk
  refine ⟨h.bel.setCell h0 _, (far br hne.1).trans h.hr, (far bn hne.2.1).trans h.hn, (far bl hne.2.2.1).trans h.hl, (far bv hne.2.2.2.1).trans h.hv, (far bf hne.2.2.2.2).trans h.hf, ?_, by have := h.len; simpa using this, hX s w _ far h.x⟩
  obtain ⟨spare, hg⟩ := h.hg
  refine ⟨spare, ?_⟩
  simp only [World.setCell, Array.getElem?_modify, if_pos, hg]
  simp [List.map_append]
end
theorem iwrap (x : Int) (h0 : -1000 ≤ x) (h1 : x ≤ 1000) : IntKind.i64.wrap x = x := by
  rw [i64_w]; unfold wrap64; omega
/-- how one step of the search ends -/
def ResP (b1 b2 : Bool) (row c0 : Int) (e : Ending) (M1 M2 : Prop) : Prop := (b1 = false ∧ e = .returned (.bool false) ∧ M1) ∨ (b1 = true ∧ (row = 0 ∨ c0 = 0) ∧ e = .returned (.bool true) ∧ M1) ∨ (b1 = true ∧ row ≠ 0 ∧ c0 ≠ 0 ∧ e = .returned (.bool b2) ∧ M2)
/-! what it visits -/
def orI (mask : Int) (i : Nat) : Int := Go.bits .or .u64 mask (IntKind.u64.wrap (2 ^ min i 64))
def rowV (next : List Int → Int → List Int) : List Int → List Int → Int → Int → Nat → List Int
  | pre, [], row, mask, _ => if 0 < row then [] else next pre mask
  | pre, c :: cs, row, mask, i => rowV next (pre ++ [c]) cs row mask (i + 1) ++ (if row = 0 then [] else if c = 0 then [] else rowV next (pre ++ [c - 1]) cs (row - 1) (orI mask i) (i + 1))
def tabV (n : Nat) : List Int → List Int → Int → Nat → List Int
  | [], left, mask, _ => if left.any (fun x => decide (0 < x)) = true then [] else [mask]
  | r :: rs, left, mask, i => rowV (fun l m => tabV n rs l m (i + n)) [] left r mask i
def runV {σ : Type} (step : σ → Int → σ × Bool) : σ → List Int → σ × Bool
  | s, [] => (s, true)
  | s, m :: ms => if (step s m).2 = true then runV step (step s m).1 ms else ((step s m).1, false)
theorem runV_append {σ : Type} (step : σ → Int → σ × Bool) : ∀ (a b : List Int) (s : σ), runV step s (a ++ b) = if (runV step s a).2 = true then runV step (runV step s a).1 b else runV step s a
  | [], b, s => by simp [runV]
  | m :: ms, b, s => by
    simp only [List.cons_append, runV]
    split
    · exact runV_append step ms b _
    · simp
theorem runV_one {σ : Type} (step : σ → Int → σ × Bool) (s : σ) (m : Int) : runV step s [m] = step s m := by
  simp only [runV]
  split
  · rename_i h; rw [← h]
  · rename_i h
    have : (step s m).2 = false := by simpa using h
    rw [← this]
theorem resP_run {σ : Type} (step : σ → Int → σ × Bool) {s : σ} {V1 V2 : List Int} {row c0 : Int} {e : Ending} (M : σ → Prop)
    (h : ResP (runV step s V1).2 (runV step (runV step s V1).1 V2).2 row c0 e (M (runV step s V1).1) (M (runV step (runV step s V1).1 V2).1)) :
    e = .returned (.bool (runV step s (V1 ++ (if row = 0 then [] else if c0 = 0 then [] else V2))).2) ∧ M (runV step s (V1 ++ (if row = 0 then [] else if c0 = 0 then [] else V2))).1 := by
  rw [runV_append]
  rcases h with ⟨h1, h2, h3⟩ | ⟨h1, h2, h3, h4⟩ | ⟨h1, h2, h3, h4, h5⟩
  · rw [if_neg (by rw [h1]; simp), h1]; exact ⟨h2, h3⟩
  · rw [if_pos h1]
    have : (if row = 0 then [] else if c0 = 0 then [] else V2) = ([] : List Int) := by
      rcases h2 with h | h
      · rw [if_pos h]
      · by_cases hr : row = 0
        · rw [if_pos hr]
        · rw [if_neg hr, if_pos h]
    rw [this]
    exact ⟨h3, h4⟩
  · rw [if_pos h1, if_neg h2, if_neg h3]
    exact ⟨h4, h5⟩
theorem foldl_max : ∀ (l : List Int) (a : Int), 0 < l.foldl max a ↔ (0 < a ∨ ∃ x ∈ l, 0 < x)
  | [], a => by simp
  | b :: r, a => by
    rw [List.foldl_cons, foldl_max r]
    constructor
    · rintro (h | ⟨x, hx, h⟩)
      · by_cases ha : 0 < a
        · exact Or.inl ha
        · exact Or.inr ⟨b, List.mem_cons_self, by omega⟩
      · exact Or.inr ⟨x, List.mem_cons_of_mem _ hx, h⟩
    · rintro (h | ⟨x, hx, h⟩)
      · left; omega
      · rcases List.mem_cons.1 hx with rfl | hx
        · left; omega
        · exact Or.inr ⟨x, hx, h⟩
theorem max_any (l : List Int) (hl : l ≠ []) : 0 < Lib.maxOf l ↔ l.any (fun x => decide (0 < x)) = true := by
  unfold Lib.maxOf
  rw [foldl_max]
  cases l with
  | nil => exact absurd rfl hl
  | cons a r => simp
end Go.Proofs.Ytcldfmnkeiogdaa
