/- The search's memory from step to step: a store into one's own row, a fresh row, a row given back. No condition beyond the bounds. -/
import Derived.Test.YtjdmboagjeldcaaWf
namespace Go.Proofs.Ytjdmboagjeldcaa
open Go.RowKit S Go.Proofs.YtjdmboagjeldcaaW.PrintWords Go.Proofs.YtjdmboagjeldcaaW.PrintLast Go.Proofs.YtjdmboagjeldcaaW.PrintMore
theorem below_weak {a b : Nat} {w w' : World} (h : Below a w w') (hb : b ≤ a) : Below b w w' := ⟨h.1, h.2, h.3, h.size, fun k hk => h.block k (Nat.lt_of_lt_of_le hk hb)⟩
theorem Sm.below {W0 w w1 : World} {bb bo bf x y z : Nat} {Z : Nat → Prop} {L : List (List Int)} (hm : Sm W0 bb bo bf x y z Z L w) (hb : Below w.heap.size w w1) : Sm W0 bb bo bf x y z Z L w1 := by
  obtain ⟨v, ho1, ho2⟩ := hm.ho
  exact ⟨hm.bel.trans (below_weak hb hm.bel.size), (hb.block _ (lt_of_block hm.hb)).trans hm.hb, (hb.block _ (lt_of_block hm.hf)).trans hm.hf,
    ⟨v, (hb.block _ (lt_of_block ho1)).trans ho1, Kd.S_below ho2 hb⟩, fun k hk => Nat.lt_of_lt_of_le (hm.hz k hk) hb.size, hm.nbo⟩
theorem Sm.more {W0 w w1 : World} {bb bo bf x y z : Nat} {Z : Nat → Prop} {L : List (List Int)} {g : Nat} (hm : Sm W0 bb bo bf x y z Z L w) (hb : Below w.heap.size w w1) (hg : w.heap.size ≤ g) (hg1 : g < w1.heap.size) : Sm W0 bb bo bf x y z (fun k => Z k ∨ k = g) L w1 := by
  obtain ⟨v, ho1, ho2⟩ := hm.ho
  have h := hm.below hb
  refine ⟨h.bel, h.hb, h.hf, ⟨v, (hb.block _ (lt_of_block ho1)).trans ho1, Kd.S_below (Kd.S_mono (Kd.S_bound ho2) (fun k hk => ⟨hk.1.1, fun hz => ?_⟩)) hb⟩, fun k hk => ?_, fun h => h.elim hm.nbo (fun e => by have := lt_of_block ho1; omega)⟩
  · rcases hz with hz | hz
    · exact hk.1.2 hz
    · have := hk.2.2.1; omega
  · rcases hk with hk | hk
    · exact h.hz k hk
    · omega
theorem Sm.less {W0 w : World} {bb bo bf x y z : Nat} {Z Z' : Nat → Prop} {L : List (List Int)} (hm : Sm W0 bb bo bf x y z Z' L w) (hZ : ∀ k, Z k → Z' k) : Sm W0 bb bo bf x y z Z L w := by
  obtain ⟨v, ho1, ho2⟩ := hm.ho
  exact ⟨hm.bel, hm.hb, hm.hf, ⟨v, ho1, Kd.S_mono ho2 (fun k hk => ⟨hk.1, fun hz => hk.2 (hZ k hz)⟩)⟩, fun k hk => hm.hz k (hZ k hk), fun h => hm.nbo (hZ _ h)⟩
theorem Sm.put {W0 w : World} {bb bo bf x y z : Nat} {Z : Nat → Prop} {L : List (List Int)} {g : Nat} {cells : Array Value} (hm : Sm W0 bb bo bf x y z Z L w) (hg : w.heap[g]? = some (.cells cells 3 (0, 0))) (hZ : Z g) (hg0 : W0.heap.size ≤ g) (j : Nat) (u : Value) : Sm W0 bb bo bf x y z Z L (w.setCell ⟨g, j, none⟩ u) := by
  obtain ⟨v, ho1, ho2⟩ := hm.ho
  have far : ∀ k, k ≠ g → (w.setCell ⟨g, j, none⟩ u).heap[k]? = w.heap[k]? := fun k hk => Below.heap_setCell w ⟨g, j, none⟩ _ k hk
  refine ⟨hm.bel.setCell hg0 _, (far bb (ne_of_types hm.hb hg (by decide))).trans hm.hb, (far bf (ne_of_types hm.hf hg (by decide))).trans hm.hf, ⟨v, (far bo (ne_of_types ho1 hg (by decide))).trans ho1, Kd.S_far ho2 (p := ⟨g, j, none⟩) (fun k hk e => hk.2 (e ▸ hZ)) u⟩, fun k hk => ?_, hm.nbo⟩
  have := hm.hz k hk
  simp only [World.setCell, Array.size_modify]; exact this
theorem OwnL.below {w w1 : World} {v : Value} {l : List Int} (h : OwnL w v l) (hb : Below w.heap.size w w1) : OwnL w1 v l := by
  rcases h with h | ⟨g, c, sp, hv, hh, hc⟩
  · exact Or.inl h
  · exact Or.inr ⟨g, c, sp, hv, (hb.block _ (lt_of_block hh)).trans hh, hc⟩
theorem OwnL.cut {w : World} {g c : Nat} {l : List Int} {u : Int} (h : OwnL w (.slice (some ⟨g, 0, none⟩) (l ++ [u]).length c) (l ++ [u])) : OwnL w (.slice (some ⟨g, 0, none⟩) l.length c) l := by
  rcases h with ⟨h, _⟩ | ⟨g', c', sp, hv, hh, hc⟩
  · cases h
  · injection hv with h1 _ h3
    injection h1 with h1
    injection h1 with h1
    subst h1 h3
    refine Or.inr ⟨g, c, .int .i64 u :: sp, rfl, ?_, ?_⟩
    · rw [hh, List.map_append, List.append_assoc]; rfl
    · rw [List.length_append, List.length_singleton] at hc
      rw [List.length_cons]; omega
theorem OwnL.at {w : World} {g c : Nat} {l : List Int} (h : OwnL w (.slice (some ⟨g, 0, none⟩) l.length c) l) : ∃ sp : List Value, w.heap[g]? = some (.cells (l.map (Value.int .i64) ++ sp).toArray 3 (0, 0)) ∧ l.length + sp.length = c := by
  rcases h with ⟨h, _⟩ | ⟨g', c', sp, hv, hh, hc⟩
  · cases h
  · injection hv with h1 _ h3
    injection h1 with h1
    injection h1 with h1
    subst h1 h3
    exact ⟨sp, hh, hc⟩
theorem OwnL.put {w : World} {g c : Nat} {l : List Int} (h : OwnL w (.slice (some ⟨g, 0, none⟩) l.length c) l) (hc : l.length < c) (u : Int) : OwnL (w.setCell ⟨g, l.length, none⟩ (.int .i64 u)) (.slice (some ⟨g, 0, none⟩) (l ++ [u]).length c) (l ++ [u]) := by
  obtain ⟨sp, hh, hs⟩ := h.at
  cases sp with
  | nil => rw [List.length_nil] at hs; omega
  | cons s sp =>
    refine Or.inr ⟨g, c, sp, rfl, ?_, by rw [List.length_append, List.length_singleton]; rw [List.length_cons] at hs; omega⟩
    unfold World.setCell
    simp only [Array.getElem?_modify, if_pos, hh, Option.map_some]
    congr 1
    simp only [List.setIfInBounds_toArray]
    rw [List.set_append_right _ _ (by rw [List.length_map]; omega), List.length_map, Nat.sub_self, List.set_cons_zero, List.map_append, List.append_assoc]
    rfl
theorem OwnL.spare {w : World} {g c : Nat} {l : List Int} (h : OwnL w (.slice (some ⟨g, 0, none⟩) l.length c) l) (hc : l.length < c) : (w.cell? ⟨g, l.length, none⟩).isSome = true ∧ w.frozen? ⟨g, l.length, none⟩ = false := by
  obtain ⟨sp, hh, hs⟩ := h.at
  refine ⟨?_, by simp [World.frozen?, hh]⟩
  unfold World.cell?
  rw [hh]
  cases sp with
  | nil => rw [List.length_nil] at hs; omega
  | cons s sp => simp
theorem OwnL.le {w : World} {ao : Option Addr} {c : Nat} {l : List Int} (h : OwnL w (.slice ao l.length c) l) : l.length ≤ c := by
  rcases h with ⟨h, rfl⟩ | ⟨g', c', sp, hv, hh, hc⟩
  · exact Nat.zero_le _
  · injection hv with _ _ h3
    omega
theorem OwnL.olds {w : World} {ao : Option Addr} {c : Nat} {l : List Int} (h : OwnL w (.slice ao l.length c) l) : ∀ b, ao = some b → ∀ (j : Nat) (u : Value), (l.map (Value.int .i64))[j]? = some u → w.cell? (b.add j) = some u := by
  rintro b rfl j u hj
  rcases h with ⟨h, _⟩ | ⟨g', c', sp, hv, hh, hc⟩
  · cases h
  · injection hv with h1 _ h3
    injection h1 with h1
    subst h1 h3
    obtain ⟨hjl, rfl⟩ := List.getElem?_eq_some_iff.1 hj
    have ha : (⟨g', 0, Option.none⟩ : Addr).add j = ⟨g', j, Option.none⟩ := by
      unfold Addr.add
      split
      · rename_i h; rw [h]
      · simp
    rw [ha]
    unfold World.cell?
    rw [hh]
    rw [List.length_map] at hjl
    simp [List.getElem?_append_left, hjl]
theorem OwnL.nil0 {w : World} {ao : Option Addr} {c : Nat} {l : List Int} (h : OwnL w (.slice ao l.length c) l) (ha : ao = none) : l.length = 0 ∧ c = 0 := by
  rcases h with ⟨h, rfl⟩ | ⟨g', c', sp, hv, hh, hc⟩
  · injection h with _ _ h3
    exact ⟨rfl, h3⟩
  · injection hv with h1 _ h3
    rw [ha] at h1; cases h1
theorem OwnL.form {w : World} {v : Value} {l : List Int} (h : OwnL w v l) : ∃ ao c, v = .slice ao l.length c := by
  rcases h with ⟨h, rfl⟩ | ⟨g', c', sp, hv, hh, hc⟩
  · exact ⟨_, _, h⟩
  · exact ⟨_, _, hv⟩
theorem OwnL.of_owns {w : World} {base n : Nat} {v : Value} {l : List Int} {u : Int} (h : w.ownsRow base 3 1 v (n + 1) (l.map (Value.int .i64) ++ [.int .i64 u])) (hn : l.length = n) : ∃ g c, v = .slice (some ⟨g, 0, none⟩) (l ++ [u]).length c ∧ base ≤ g ∧ g < w.heap.size ∧ OwnL w v (l ++ [u]) := by
  obtain ⟨h0, h | ⟨g, cap, cur, rfl, hb, hh, h1, h2, h3, h4⟩⟩ := h
  · omega
  · refine ⟨g, cap, by rw [List.length_append, List.length_singleton, hn], hb, lt_of_block hh, Or.inr ⟨g, cap, cur.toList.drop (n + 1), by rw [List.length_append, List.length_singleton, hn], ?_, ?_⟩⟩
    · rw [hh]
      congr 2
      apply Array.ext'
      rw [Nat.mul_one] at h4
      conv => lhs; rw [← List.take_append_drop (n + 1) cur.toList, h4]
      simp
    · have h5 : cur.toList.length = cap := by rw [Array.length_toList, h3, Nat.mul_one]
      rw [List.length_drop, List.length_append, List.length_singleton, h5, hn]; omega
end Go.Proofs.Ytjdmboagjeldcaa
