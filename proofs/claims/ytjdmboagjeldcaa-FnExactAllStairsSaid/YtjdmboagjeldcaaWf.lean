/- impl.box.stairs' closure (function 35): its memory; a full list is taken down. No condition beyond the bounds. -/
import Derived.Test.YtjdmboagjeldcaaWd
import Derived.Test.YtjdmboagjeldcaaShA
import Derived.Laws.EntriesVeiled
import Derived.Deep.RegionHeld3
import Derived.Deep.RegionLawGrows
namespace Go.Proofs.Ytjdmboagjeldcaa
open Go.RowKit S Go.Proofs.YtjdmboagjeldcaaW.PrintWords Go.Proofs.YtjdmboagjeldcaaW.PrintLast Go.Proofs.YtjdmboagjeldcaaW.PrintMore
/-- the variables of the search: the box, what is out, the closure; Z: blocks that stay as they are -/
structure Sm (W0 : World) (bb bo bf : Nat) (x y z : Nat) (Z : Nat → Prop) (L : List (List Int)) (w : World) : Prop where
  bel : Below W0.heap.size W0 w
  hb : w.heap[bb]? = some (.cells #[.int .i64 x, .int .i64 y, .int .i64 z] 39 (0, 0))
  hf : w.heap[bf]? = some (.cells #[.func (.func 35) #[] #[.pointer (some ⟨bb, 0, none⟩), .pointer (some ⟨bo, 0, none⟩), .pointer (some ⟨bf, 0, none⟩)]] 55 (0, 0))
  ho : ∃ v, w.heap[bo]? = some (.cells #[v] 22 (0, 0)) ∧ Kd.S (Kd.slice 3 (Kd.int .i64)) 37 w W0.heap.size (fun k => W0.heap.size ≤ k ∧ ¬ Z k) v L
  hz : ∀ k, Z k → k < w.heap.size
  nbo : ¬ Z bo
/-- a list of ints in a block of its own, with spare room behind it -/
def OwnL (w : World) (v : Value) (l : List Int) : Prop := (v = .slice none 0 0 ∧ l = []) ∨ ∃ g c, ∃ sp : List Value, v = .slice (some ⟨g, 0, none⟩) l.length c ∧ w.heap[g]? = some (.cells (l.map (Value.int .i64) ++ sp).toArray 3 (0, 0)) ∧ l.length + sp.length = c
theorem OwnL.cell {w : World} {g c : Nat} {l : List Int} (h : OwnL w (.slice (some ⟨g, 0, none⟩) l.length c) l) (j : Nat) (u : Int) (hj : l[j]? = some u) : w.cell? ⟨g, j, none⟩ = some (.int .i64 u) := by
  rcases h with ⟨h, rfl⟩ | ⟨g', c', sp, hv, hh, hc⟩
  · cases hj
  · injection hv with h1 _ _
    injection h1 with h1
    injection h1 with h1
    subst h1
    obtain ⟨hjl, rfl⟩ := List.getElem?_eq_some_iff.1 hj
    unfold World.cell?
    rw [hh]
    simp [List.getElem?_append_left, hjl]
theorem BoxAt_of {w : World} {bb : Nat} {x y z : Int} (h : w.heap[bb]? = some (.cells #[.int .i64 x, .int .i64 y, .int .i64 z] 39 (0, 0))) : BoxAt w bb x y z := by
  refine ⟨?_, ?_, ?_⟩ <;> (unfold World.cell?; rw [h]; rfl)
theorem info37 : (Try.prog.info? 37).map (fun i => (i.zero, i.size, i.bytes)) = some (some (.slice none 0 0), 1, 24) := by kernel_rfl
theorem leaf_row {w w2 : World} {v : Value} {l : List Int} {base : Nat} (h : w2.ownsRow w.drew.heap.size 3 1 v l.length ((l.take l.length).map (Value.int .i64))) (hb : base ≤ w.heap.size) : (Kd.slice 3 (Kd.int .i64)).M w2 base (fun k => w.heap.size ≤ k) l [v] := by
  rw [List.take_length] at h
  have hR : Kd.R (Kd.int .i64) 3 w2 w.heap.size (fun k => w.heap.size ≤ k) v l := Kd.R_of_own (xs := l) h (fun k hk => own_base h k hk)
  exact ⟨v, rfl, Kd.R_lower hR hb⟩
theorem ne_of_types {w : World} {a b : Nat} {c1 c2 : Array Value} {t1 t2 : TypeId} (h1 : w.heap[a]? = some (.cells c1 t1 (0, 0))) (h2 : w.heap[b]? = some (.cells c2 t2 (0, 0))) (hn : t1 ≠ t2) : a ≠ b := by
  rintro rfl
  rw [h1] at h2
  injection h2 with h2
  injection h2 with _ h3 _
  exact hn h3
theorem leaf_end {W0 w w2 w3 : World} {bb bo bf x y z : Nat} {Z : Nat → Prop} {L L2 : List (List Int)} {vo v1 : Value} (hbo0 : W0.heap.size ≤ bo) (hZbo : ¬ Z bo) (hm : Sm W0 bb bo bf x y z Z L w) (ho1 : w.heap[bo]? = some (.cells #[vo] 22 (0, 0))) (ho2 : Kd.S (Kd.slice 3 (Kd.int .i64)) 37 w W0.heap.size (fun k => W0.heap.size ≤ k ∧ ¬ Z k) vo L)
    (hb2 : Below w.drew.heap.size w.drew w2) (hg3 : w2.grownBy w3 vo.ownBlock) (hS3 : Kd.S (Kd.slice 3 (Kd.int .i64)) 37 w3 W0.heap.size (fun k => W0.heap.size ≤ k ∧ ¬ Z k) v1 L2) (hB3 : Below W0.heap.size W0 w3) :
    Sm W0 bb bo bf x y z Z L2 (w3.setCell ⟨bo, 0, none⟩ v1) ∧ (∀ k, Z k → (w3.setCell ⟨bo, 0, none⟩ v1).heap[k]? = w.heap[k]?) ∧ w.heap.size ≤ (w3.setCell ⟨bo, 0, none⟩ v1).heap.size := by
  have hs2 : w.heap.size ≤ w2.heap.size := hb2.size
  have keep : ∀ k, k < w.heap.size → some k ≠ vo.ownBlock → w3.heap[k]? = w.heap[k]? := fun k hk hn => (hg3.block k (Nat.lt_of_lt_of_le hk hs2) hn).trans (hb2.block k hk)
  have far : ∀ k, k ≠ bo → (w3.setCell ⟨bo, 0, none⟩ v1).heap[k]? = w3.heap[k]? := fun k hk => Below.heap_setCell w3 ⟨bo, 0, none⟩ _ k hk
  have hbo3 : w3.heap[bo]? = some (.cells #[vo] 22 (0, 0)) := (keep bo (lt_of_block ho1) (Kd.S_ne ho2 ho1 (by decide))).trans ho1
  have hsz : (w3.setCell ⟨bo, 0, none⟩ v1).heap.size = w3.heap.size := by simp only [World.setCell, Array.size_modify]
  have hs3 : w.heap.size ≤ w3.heap.size := Nat.le_trans hs2 hg3.size
  refine ⟨⟨hB3.setCell hbo0 _, ?_, ?_, ⟨v1, one_setCell hbo3, Kd.S_set hS3 hbo3 (by decide) 0 _⟩, fun k hk => ?_, hZbo⟩, fun k hk => ?_, ?_⟩
  · exact (far bb (ne_of_types hm.hb ho1 (by decide))).trans ((keep bb (lt_of_block hm.hb) (Kd.S_ne ho2 hm.hb (by decide))).trans hm.hb)
  · exact (far bf (ne_of_types hm.hf ho1 (by decide))).trans ((keep bf (lt_of_block hm.hf) (Kd.S_ne ho2 hm.hf (by decide))).trans hm.hf)
  · have := hm.hz k hk; omega
  · have hkb : k ≠ bo := fun h => hZbo (h ▸ hk)
    refine (far k hkb).trans (keep k (hm.hz k hk) (fun he => ?_))
    obtain ⟨f, hf⟩ := ho2
    exact (hf.1 k he.symm).2 hk
  · omega
theorem leaf35 (W0 w : World) (bb bo bf x y z : Nat) (Z : Nat → Prop) (L : List (List Int)) (g c : Nat) (l : List Int) (hx : x ≤ 4) (hy : y ≤ 4) (hl : l.length = x * y) (hp : 0 < l.length) (hbo0 : W0.heap.size ≤ bo) (hZbo : ¬ Z bo) (hL : L.length ≤ 100000)
    (hm : Sm W0 bb bo bf x y z Z L w) (ho : OwnL w (.slice (some ⟨g, 0, none⟩) l.length c) l) :
    Calls Try.prog 35 #[.slice (some ⟨g, 0, none⟩) l.length c, .pointer (some ⟨bb, 0, none⟩), .pointer (some ⟨bo, 0, none⟩), .pointer (some ⟨bf, 0, none⟩)] w fun e w' => e = .returned (.tuple #[]) ∧ Sm W0 bb bo bf x y z Z (L ++ [l]) w' ∧ (∀ k, Z k → w'.heap[k]? = w.heap[k]?) ∧ w.heap.size ≤ w'.heap.size := by
  obtain ⟨c1, c2, c3⟩ := BoxAt_of hm.hb
  have hl16 : l.length ≤ 16 := by rw [hl]; exact Nat.le_trans (Nat.mul_le_mul hx hy) (by decide)
  obtain ⟨vo, ho1, ho2⟩ := hm.ho
  have c4 := cell_of_one ho1
  have hP : (x : Int) * (y : Int) = (l.length : Int) := by rw [hl]; simp
  have hlb : (l.length : Int) ≤ 16 := by omega
  have hcl := fun (W : World) (hW : ∀ j, j < l.length → W.cell? ⟨g, j, none⟩ = w.cell? ⟨g, j, none⟩) => Any.slices_Clone_int Try.lays15 g 0 l.length c l W (Nat.le_refl _) (by omega) (fun j hj => by
    rw [Nat.zero_add, hW j hj, ho.cell j l[j] (List.getElem?_eq_getElem hj), List.getD_eq_getElem?_getD, List.getElem?_eq_getElem hj]; rfl)
  have Hm := Lib.hid hm
  have Ho := Lib.hid ho
  have Ho2 := Lib.hid ho2
  have Hl := Lib.hid hl
  have Ho1 := Lib.hid ho1
  clear hm ho ho2 hl
  go_enter Try.func35, Try.ntmps35
  go_wp2_with (fail)
  have hbo := lt_of_block ho1
  have hne : some bo ≠ vo.ownBlock := Kd.S_ne Ho2.out ho1 (by decide)
  have hbelw := Hm.out.bel
  have hzz := Hm.out.hz
  have c4d : w.drew.cell? ⟨bo, 0, none⟩ = some vo := c4
  have Hbel := Lib.hid hbelw
  have Hzz := Lib.hid hzz
  clear hbelw hzz
  have hbase := Hm.out.bel.size
  have hL4 := hL
  have f4d : w.drew.frozen? ⟨bo, 0, none⟩ = false := free_of_one ho1
  have hlv := Lib.hid (Kd.S_lt Ho2.out)
  go_region_law (first
    | (go_simp; go_at_call 36; refine (hcl w.drew (fun j hj => rfl)).mono ?_; rintro e w2 ⟨v', rfl, hown, hvn, hb2⟩; obtain ⟨g2, cap2, rfl, hg2⟩ := hown.form hp; have c4' := (hb2.cell (p := ⟨bo, 0, none⟩) (show bo < w.drew.heap.size from hbo)).trans c4d; have f4' := (hb2.frozen (p := ⟨bo, 0, none⟩) (show bo < w.drew.heap.size from hbo)).trans f4d; have Hown := Lib.hid hown; have Hb2 := Lib.hid hb2; have c4a : ∀ o, (w2.alloc o).cell? ⟨bo, 0, none⟩ = some vo := fun o => ((below_alloc (Below.refl w2.heap.size w2) o).cell (p := ⟨bo, 0, none⟩) (Nat.lt_of_lt_of_le (show bo < w.drew.heap.size from hbo) hb2.size)).trans c4')
    | (refine Kd.S_append_step (Kd.slice 3 (Kd.int .i64)) (w0 := W0) W0.heap.size rfl (.tmp 17) (.tmp 20) 22 37 (.slice none 0 0) 24 rfl Try.underlying22 info37 rfl (by decide) (by omega) vo L l [.slice (some ⟨g2, 0, none⟩) l.length cap2] (fun k => W0.heap.size ≤ k ∧ ¬ Z k) (fun k => w.heap.size ≤ k) rfl rfl (leaf_row Hown.out hbase) (fun k hk => ⟨⟨Nat.le_trans hbase hk, fun hz => by have := Hzz.out k hz; omega⟩, fun he => by have := hlv.out k he.symm; omega⟩) (fun k hk => ⟨Nat.le_trans hbase (Nat.le_trans Hb2.out.size hk), fun hz => by have := Hzz.out k hz; have h2 : w.heap.size ≤ w2.heap.size := Hb2.out.size; omega⟩) (Kd.S_below (Kd.S_drew (Kd.S_mono (Kd.S_bound Ho2.out) (fun k hk => ⟨hk.1, by have := hk.2.2.1; omega⟩))) Hb2.out) (Hbel.out.trans (show Below W0.heap.size w w2 from (⟨Hb2.out.1, Hb2.out.2, Hb2.out.3, Hb2.out.size, fun k hk => Hb2.out.block k (Nat.lt_of_lt_of_le hk hbase)⟩))) (Nat.le_trans hbase Hb2.out.size) (by omega) ?_; intro v1 w3 hS3 hB3 hg3 hat3; obtain ⟨A1, k1, rfl⟩ := Kd.S_slice hS3; have hbo2 : bo < w2.heap.size := Nat.lt_of_lt_of_le hbo Hb2.out.size; have c5 := (hg3.cell_far ⟨bo, 0, none⟩ hbo2 hne).trans c4'; have f5 := (hg3.frozen_far ⟨bo, 0, none⟩ hbo2 hne).trans f4'))
  all_goals (have Hend := Lib.hid (leaf_end hbo0 hZbo Hm.out Ho1.out Ho2.out Hb2.out hg3 hS3 hB3); have hlen2 : (L ++ [l]).length = L.length + 1 := by simp
             )
  all_goals (rw [hlen2] at Hend; clear hlen2)
  all_goals go_wp2_with (fail)
  all_goals ((try simp only [Exit.inBlock, Exit.then]); refine bodyPost_ret (results_none rfl _ _ _) rfl ?_; exact ⟨rfl, Hend.out.1, Hend.out.2.1, Hend.out.2.2⟩)
end Go.Proofs.Ytjdmboagjeldcaa
