/- The search's lower calls: into the spare room of one's own row, into a fresh row. No condition beyond the bounds. -/
import Derived.Test.YtjdmboagjeldcaaWh
namespace Go.Proofs.Ytjdmboagjeldcaa
open Go.RowKit S Go.Proofs.YtjdmboagjeldcaaW.PrintWords Go.Proofs.YtjdmboagjeldcaaW.PrintLast Go.Proofs.YtjdmboagjeldcaaW.PrintMore
/-- what a call of the search leaves -/
structure Post35 (W0 : World) (bb bo bf x y z : Nat) (Z : Nat → Prop) (L : List (List Int)) (w : World) (v : Value) (l : List Int) (e : Ending) (w' : World) : Prop where
  out : e = .returned (.tuple #[])
  sm : Sm W0 bb bo bf x y z Z L w'
  own : OwnL w' v l
  keep : ∀ k, Z k → some k ≠ v.ownBlock → w'.heap[k]? = w.heap[k]?
  size : w.heap.size ≤ w'.heap.size
theorem Post35.from {W0 w w1 w' : World} {bb bo bf x y z : Nat} {Z : Nat → Prop} {L : List (List Int)} {v : Value} {l : List Int} {e : Ending} (h : Post35 W0 bb bo bf x y z Z L w1 v l e w') (hZ : ∀ k, Z k → k < w.heap.size) (hb : Below w.heap.size w w1) : Post35 W0 bb bo bf x y z Z L w v l e w' :=
  ⟨h.out, h.sm, h.own, fun k hk hn => (h.keep k hk hn).trans (hb.block k (hZ k hk)), Nat.le_trans hb.size h.size⟩
/-- the arguments of the search: a list, and the three variables -/
abbrev a35 (bb bo bf : Nat) (v : Value) : Array Value := #[v, .pointer (some ⟨bb, 0, none⟩), .pointer (some ⟨bo, 0, none⟩), .pointer (some ⟨bf, 0, none⟩)]
section
variable (W0 : World) (bb bo bf x y z m : Nat) (l : List Int) (F : Nat → List (List Int))
abbrev Low : Prop := ∀ j, j ≤ m → ∀ (Z' : Nat → Prop) (W : World) (g' c' : Nat), Sm W0 bb bo bf x y z Z' (F j) W → OwnL W (.slice (some ⟨g', 0, none⟩) (l ++ [(j : Int)]).length c') (l ++ [(j : Int)]) → Z' g' → W0.heap.size ≤ g' →
    Calls Try.prog 35 (a35 bb bo bf (.slice (some ⟨g', 0, none⟩) (l ++ [(j : Int)]).length c')) W (Post35 W0 bb bo bf x y z Z' (F (j + 1)) W (.slice (some ⟨g', 0, none⟩) (l ++ [(j : Int)]).length c') (l ++ [(j : Int)]))
theorem low_room (h : Low W0 bb bo bf x y z m l F) (j : Nat) (hj : j ≤ m) (Z : Nat → Prop) (W : World) (g c : Nat) (hm : Sm W0 bb bo bf x y z Z (F j) W) (ho : OwnL W (.slice (some ⟨g, 0, none⟩) l.length c) l) (hc : l.length < c) (hg : Z g) (hg0 : W0.heap.size ≤ g) :
    Calls Try.prog 35 (a35 bb bo bf (.slice (some ⟨g, 0, none⟩) (l.length + 1) c)) (W.setCell ⟨g, l.length, none⟩ (.int .i64 j)) (Post35 W0 bb bo bf x y z Z (F (j + 1)) W (.slice (some ⟨g, 0, none⟩) l.length c) l) := by
  have e1 : (l ++ [(j : Int)]).length = l.length + 1 := by simp
  obtain ⟨sp, hh, _⟩ := ho.at
  have h1 := h j hj Z _ g c (hm.put hh hg hg0 l.length (.int .i64 j)) (ho.put hc j) hg hg0
  rw [e1] at h1
  refine h1.mono ?_
  rintro e w' hp
  refine ⟨hp.out, hp.sm, OwnL.cut (u := j) (by have := hp.own; rw [e1]; exact this), fun k hk hn => (hp.keep k hk hn).trans (Below.heap_setCell W ⟨g, l.length, none⟩ _ k ?_), ?_⟩
  · rintro rfl; exact hn rfl
  · have := hp.size; simp only [World.setCell, Array.size_modify] at this; exact this
theorem low_grow (h : Low W0 bb bo bf x y z m l F) (j : Nat) (hj : j ≤ m) (Z : Nat → Prop) (W W2 : World) (v v' : Value) (hm : Sm W0 bb bo bf x y z Z (F j) W) (ho : OwnL W v l) (hv : ∀ k, v.ownBlock = some k → Z k) (hb : Below W.heap.size W W2) (hr : W2.ownsRow W.heap.size 3 1 v' (l.length + 1) (l.map (Value.int .i64) ++ [.int .i64 j])) :
    Calls Try.prog 35 (a35 bb bo bf v') W2 (Post35 W0 bb bo bf x y z Z (F (j + 1)) W v l) := by
  obtain ⟨g', c', rfl, hg, hg1, ho2⟩ := OwnL.of_owns hr rfl
  have h1 := h j hj (fun k => Z k ∨ k = g') W2 g' c' (hm.more hb hg hg1) ho2 (Or.inr rfl) (Nat.le_trans hm.bel.size hg)
  refine h1.mono ?_
  rintro e w' hp
  have keep : ∀ k, Z k → w'.heap[k]? = W.heap[k]? := fun k hk => by
    have hlt := hm.hz k hk
    refine (hp.keep k (Or.inl hk) (fun e => ?_)).trans (hb.block k hlt)
    have e : k = g' := by injection e
    omega
  refine ⟨hp.out, hp.sm.less (fun k hk => Or.inl hk), ?_, fun k hk _ => keep k hk, Nat.le_trans hb.size hp.size⟩
  rcases ho with ho | ⟨g, c, sp, rfl, hh, hc⟩
  · exact Or.inl ho
  · exact Or.inr ⟨g, c, sp, rfl, (keep g (hv g rfl)).trans hh, hc⟩
end
end Go.Proofs.Ytjdmboagjeldcaa
