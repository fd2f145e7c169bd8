/- impl.tables with the visitor that takes the first. No condition beyond the bounds. -/
import Derived.Test.YtcldfmnkeiogdaaWqf
import Derived.Laws.EntriesVeiled
namespace Go.Proofs.Ytcldfmnkeiogdaa
open Go.RowKit S Go.Proofs.YtcldfmnkeiogdaaW.PrintWords Go.Proofs.YtcldfmnkeiogdaaW.PrintLast Go.Proofs.YtcldfmnkeiogdaaW.PrintMore
def XF (bc bd : Nat) (s : Int × Bool) (w : World) : Prop := w.heap[bc]? = some (.cells #[.int .u64 s.1] 64 (0, 0)) ∧ w.heap[bd]? = some (.cells #[.bool s.2] 4 (0, 0))
def stepF (_ : Int × Bool) (m : Int) : (Int × Bool) × Bool := ((m, true), false)
section
variable (W0 : World) (ab c : Nat) (rows : List Int) (n cl br bn bl bv bf g bc bd : Nat) (fv ff : Value)
theorem visit68 (hbc : W0.heap.size ≤ bc) (hbd : W0.heap.size ≤ bd) (hcd : bc ≠ bd) (hne : br ≠ bc ∧ bn ≠ bc ∧ bl ≠ bc ∧ bv ≠ bc ∧ bf ≠ bc ∧ g ≠ bc) (hnd : br ≠ bd ∧ bn ≠ bd ∧ bl ≠ bd ∧ bv ≠ bd ∧ bf ≠ bd ∧ g ≠ bd) (s : Int × Bool) (m : Int) (left : List Int) (w : World) (hm : Mem (XF bc bd) W0 (some ⟨ab, 0, none⟩) c rows n cl br bn bl bv bf g fv ff left s w) :
    Calls Try.prog 68 #[.int .u64 m, .pointer (some ⟨bc, 0, none⟩), .pointer (some ⟨bd, 0, none⟩)] w fun e w' => e = .returned (.bool (stepF s m).2) ∧ Mem (XF bc bd) W0 (some ⟨ab, 0, none⟩) c rows n cl br bn bl bv bf g fv ff left (stepF s m).1 w' := by
  have c1 := cell_of_one hm.x.1
  have c2 := free_of_one hm.x.1
  have d1 := cell_of_one hm.x.2
  have d2 := free_of_one hm.x.2
  have far : ∀ k, k ≠ bc → k ≠ bd → ((w.setCell ⟨bc, 0, none⟩ (.int .u64 m)).setCell ⟨bd, 0, none⟩ (.bool true)).heap[k]? = w.heap[k]? := fun k hk hk2 => (Below.heap_setCell _ ⟨bd, 0, none⟩ _ k hk2).trans (Below.heap_setCell w ⟨bc, 0, none⟩ _ k hk)
  have hM : Mem (XF bc bd) W0 (some ⟨ab, 0, none⟩) c rows n cl br bn bl bv bf g fv ff left (m, true) ((w.setCell ⟨bc, 0, none⟩ (.int .u64 m)).setCell ⟨bd, 0, none⟩ (.bool true)) := by
    obtain ⟨n1, n2, n3, n4, n5, n6⟩ := hne
    obtain ⟨m1, m2, m3, m4, m5, m6⟩ := hnd
    refine ⟨(hm.bel.setCell hbc _).setCell hbd _, (far br n1 m1).trans hm.hr, (far bn n2 m2).trans hm.hn, (far bl n3 m3).trans hm.hl, (far bv n4 m4).trans hm.hv, (far bf n5 m5).trans hm.hf, by obtain ⟨sp, h⟩ := hm.hg; exact ⟨sp, (far g n6 m6).trans h⟩, hm.len, ?_, ?_⟩
    · rw [Below.heap_setCell _ ⟨bd, 0, none⟩ _ bc hcd]; exact one_setCell hm.x.1
    · have h : (w.setCell ⟨bc, 0, none⟩ (.int .u64 m)).heap[bd]? = some (.cells #[.bool s.2] 4 (0, 0)) := (Below.heap_setCell w ⟨bc, 0, none⟩ _ bd (Ne.symm hcd)).trans hm.x.2
      exact one_setCell h
  have HM := Lib.hid hM
  have hdc := Ne.symm hcd
  clear hm hM far hne hnd
  have d1' : (w.setCell ⟨bc, 0, none⟩ (.int .u64 m)).cell? ⟨bd, 0, none⟩ = some (.bool s.2) := (World.cell?_setCell_other _ _ _ _ (by intro h; injection h with h _ _; exact hcd h)).trans d1
  have d2' : (w.setCell ⟨bc, 0, none⟩ (.int .u64 m)).frozen? ⟨bd, 0, none⟩ = false := by rw [World.frozen?_setCell]; exact d2
  go_enter Try.func68, Try.ntmps68
  go_wp2_with (fail)
  all_goals (go_ret; exact ⟨rfl, HM.out⟩)
end
theorem tables68 (W0 : World) (ab c cb c2 bc bd : Nat) (rows cols : List Int) (w : World) (hbel : Below W0.heap.size W0 w) (hbc : W0.heap.size ≤ bc) (hbd : W0.heap.size ≤ bd) (hcd : bc ≠ bd) (hx : XF bc bd (0, false) w)
    (hab : ab < W0.heap.size) (hcb : cb < W0.heap.size) (hrc : ∀ (j : Nat) (v : Int), rows[j]? = some v → W0.cell? ⟨ab, j, none⟩ = some (.int .i64 v)) (hcc : ∀ (j : Nat) (v : Int), cols[j]? = some v → W0.cell? ⟨cb, j, none⟩ = some (.int .i64 v))
    (hR : rows.length ≤ 4) (hn0 : 0 < cols.length) (hn4 : cols.length ≤ 4) (hrb : ∀ v ∈ rows, 0 ≤ v ∧ v ≤ 4) (hcbd : ∀ v ∈ cols, 0 ≤ v ∧ v ≤ 4) :
    Calls Try.prog 66 #[.slice (some ⟨ab, 0, none⟩) rows.length c, .slice (some ⟨cb, 0, none⟩) cols.length c2, .func (.func 68) #[] #[.pointer (some ⟨bc, 0, none⟩), .pointer (some ⟨bd, 0, none⟩)]] w fun e w' => e = .returned (.tuple #[]) ∧ Below W0.heap.size W0 w' ∧ XF bc bd (runV stepF (0, false) (tabV cols.length rows cols 0 0)).1 w' := by
  have hcl := fun (w' : World) (hb : Below W0.heap.size W0 w') => Any.slices_Clone_int Try.lays15 cb 0 cols.length c2 cols w' (Nat.le_refl _) (by omega) (fun j hj => by
    rw [Nat.zero_add, hb.cell (p := ⟨cb, j, none⟩) hcb, hcc j cols[j] (List.getElem?_eq_getElem hj), List.getD_eq_getElem?_getD, List.getElem?_eq_getElem hj]
    rfl)
  have hmf : ∀ (fn : Fn) (first cap : Array Value) (w : World), (Instr.makeFunc fn first cap).run Try.prog w = .ok (.func fn first cap) w := fun _ _ _ _ => rfl
  have hw2 : Below W0.heap.size W0 ((w.alloc (.cells #[.slice (some ⟨ab, 0, none⟩) rows.length c] 27)).alloc (.cells #[.func (.func 68) #[] #[.pointer (some ⟨bc, 0, none⟩), .pointer (some ⟨bd, 0, none⟩)]] 86)) := below_alloc (below_alloc hbel _) _
  have hcl2 := hcl _ hw2
  have hbr : ((w.alloc (.cells #[.slice (some ⟨ab, 0, none⟩) rows.length c] 27)).alloc (.cells #[.func (.func 68) #[] #[.pointer (some ⟨bc, 0, none⟩), .pointer (some ⟨bd, 0, none⟩)]] 86)).heap[w.heap.size]? = some (.cells #[.slice (some ⟨ab, 0, none⟩) rows.length c] 27 (0, 0)) := by
    simp only [World.alloc]
    rw [Array.getElem?_push, if_neg (by simp only [Array.size_push]; omega), Array.getElem?_push, if_pos rfl]
  have hbv : ((w.alloc (.cells #[.slice (some ⟨ab, 0, none⟩) rows.length c] 27)).alloc (.cells #[.func (.func 68) #[] #[.pointer (some ⟨bc, 0, none⟩), .pointer (some ⟨bd, 0, none⟩)]] 86)).heap[w.heap.size + 1]? = some (.cells #[.func (.func 68) #[] #[.pointer (some ⟨bc, 0, none⟩), .pointer (some ⟨bd, 0, none⟩)]] 86 (0, 0)) := by
    simp only [World.alloc]
    rw [Array.getElem?_push, if_pos (by simp only [Array.size_push])]
  have hlt : bc < w.heap.size := lt_of_block hx.1
  have hltd : bd < w.heap.size := lt_of_block hx.2
  have hbcx : ((w.alloc (.cells #[.slice (some ⟨ab, 0, none⟩) rows.length c] 27)).alloc (.cells #[.func (.func 68) #[] #[.pointer (some ⟨bc, 0, none⟩), .pointer (some ⟨bd, 0, none⟩)]] 86)).heap[bc]? = some (.cells #[.int .u64 0] 64 (0, 0)) := by
    simp only [World.alloc]
    rw [Array.getElem?_push, if_neg (by simp only [Array.size_push]; omega), Array.getElem?_push, if_neg (by omega)]
    exact hx.1
  have hbdx : ((w.alloc (.cells #[.slice (some ⟨ab, 0, none⟩) rows.length c] 27)).alloc (.cells #[.func (.func 68) #[] #[.pointer (some ⟨bc, 0, none⟩), .pointer (some ⟨bd, 0, none⟩)]] 86)).heap[bd]? = some (.cells #[.bool false] 4 (0, 0)) := by
    simp only [World.alloc]
    rw [Array.getElem?_push, if_neg (by simp only [Array.size_push]; omega), Array.getElem?_push, if_neg (by omega)]
    exact hx.2
  have hz2 : ((w.alloc (.cells #[.slice (some ⟨ab, 0, none⟩) rows.length c] 27)).alloc (.cells #[.func (.func 68) #[] #[.pointer (some ⟨bc, 0, none⟩), .pointer (some ⟨bd, 0, none⟩)]] 86)).heap.size = w.heap.size + 2 := by simp only [World.alloc, Array.size_push]
  have Hbr := Lib.hid hbr
  have Hbv := Lib.hid hbv
  have Hbcx := Lib.hid hbcx
  have Hbdx := Lib.hid hbdx
  have Hz2 := Lib.hid hz2
  have Hw2 := Lib.hid hw2
  clear hcl hw2 hbr hbv hbcx hbdx hz2
  go_enter Try.func66, Try.ntmps66
  go_wp2_with (go_at_call 80; refine hcl2.mono ?_; rintro e w1 ⟨v, rfl, hown, hvn, hb1⟩; refine Hid.out ?_)
  refine Lib.hid ?_
  have hsz1 := hb1.size
  rw [Hz2.out] at hsz1
  have k1 := (hb1.block w.heap.size (by rw [Hz2.out]; omega)).trans Hbr.out
  have k2 := (hb1.block (w.heap.size + 1) (by rw [Hz2.out]; omega)).trans Hbv.out
  have k3 := (hb1.block bc (by rw [Hz2.out]; omega)).trans Hbcx.out
  have k3d := (hb1.block bd (by rw [Hz2.out]; omega)).trans Hbdx.out
  have hW1 := Hw2.out.trans (hb1.mono Hw2.out.size)
  rcases hown.2 with ⟨hv0, _⟩ | ⟨g, cap, cur, rfl, hg1, hg2, hg3⟩
  · exact absurd hv0 hvn
  rw [Hz2.out] at hg1
  have hgl : g < w1.heap.size := lt_of_block hg2
  clear Hbr Hbv Hbcx Hbdx hcl2 hb1 Hw2 hown hvn
  have K1 := Lib.hid k1
  have K2 := Lib.hid k2
  have K3 := Lib.hid k3
  have K3d := Lib.hid k3d
  have K4 := Lib.hid hg2
  have K5 := Lib.hid hg3
  clear k1 k2 k3 k3d hg2
  have hs4 : (((w1.alloc (.cells #[.int .i64 cols.length] 3)).alloc (.cells #[.slice (some ⟨g, 0, none⟩) cols.length cap] 27)).alloc (.cells #[(.func (.func 81) #[] #[.pointer (some ⟨w1.heap.size, 0, none⟩), .pointer (some ⟨w.heap.size, 0, none⟩), .pointer (some ⟨w1.heap.size + 1, 0, none⟩), .pointer (some ⟨w.heap.size + 1, 0, none⟩), .pointer (some ⟨w1.heap.size + 1 + 1, 0, none⟩)])] 97)).heap[w1.heap.size + 1 + 1]? = some (.cells #[(.func (.func 81) #[] #[.pointer (some ⟨w1.heap.size, 0, none⟩), .pointer (some ⟨w.heap.size, 0, none⟩), .pointer (some ⟨w1.heap.size + 1, 0, none⟩), .pointer (some ⟨w.heap.size + 1, 0, none⟩), .pointer (some ⟨w1.heap.size + 1 + 1, 0, none⟩)])] 97 (0, 0)) := by
    simp only [World.alloc]
    rw [Array.getElem?_push, if_pos (by simp only [Array.size_push])]
  have far4 : ∀ k, k < w1.heap.size → (((w1.alloc (.cells #[.int .i64 cols.length] 3)).alloc (.cells #[.slice (some ⟨g, 0, none⟩) cols.length cap] 27)).alloc (.cells #[(.func (.func 81) #[] #[.pointer (some ⟨w1.heap.size, 0, none⟩), .pointer (some ⟨w.heap.size, 0, none⟩), .pointer (some ⟨w1.heap.size + 1, 0, none⟩), .pointer (some ⟨w.heap.size + 1, 0, none⟩), .pointer (some ⟨w1.heap.size + 1 + 1, 0, none⟩)])] 97)).heap[k]? = w1.heap[k]? := fun k hk => by
    simp only [World.alloc]
    rw [Array.getElem?_push, if_neg (by simp only [Array.size_push]; omega), Array.getElem?_push, if_neg (by simp only [Array.size_push]; omega), Array.getElem?_push, if_neg (by omega)]
  have hn4b : (((w1.alloc (.cells #[.int .i64 cols.length] 3)).alloc (.cells #[.slice (some ⟨g, 0, none⟩) cols.length cap] 27)).alloc (.cells #[(.func (.func 81) #[] #[.pointer (some ⟨w1.heap.size, 0, none⟩), .pointer (some ⟨w.heap.size, 0, none⟩), .pointer (some ⟨w1.heap.size + 1, 0, none⟩), .pointer (some ⟨w.heap.size + 1, 0, none⟩), .pointer (some ⟨w1.heap.size + 1 + 1, 0, none⟩)])] 97)).heap[w1.heap.size]? = some (.cells #[.int .i64 cols.length] 3 (0, 0)) := by
    simp only [World.alloc]
    rw [Array.getElem?_push, if_neg (by simp only [Array.size_push]; omega), Array.getElem?_push, if_neg (by simp only [Array.size_push]; omega), Array.getElem?_push, if_pos rfl]
  have hl4 : (((w1.alloc (.cells #[.int .i64 cols.length] 3)).alloc (.cells #[.slice (some ⟨g, 0, none⟩) cols.length cap] 27)).alloc (.cells #[(.func (.func 81) #[] #[.pointer (some ⟨w1.heap.size, 0, none⟩), .pointer (some ⟨w.heap.size, 0, none⟩), .pointer (some ⟨w1.heap.size + 1, 0, none⟩), .pointer (some ⟨w.heap.size + 1, 0, none⟩), .pointer (some ⟨w1.heap.size + 1 + 1, 0, none⟩)])] 97)).heap[w1.heap.size + 1]? = some (.cells #[.slice (some ⟨g, 0, none⟩) cols.length cap] 27 (0, 0)) := by
    simp only [World.alloc]
    rw [Array.getElem?_push, if_neg (by simp only [Array.size_push]; omega), Array.getElem?_push, if_pos (by simp only [Array.size_push])]
  have hbel4 : Below W0.heap.size W0 (((w1.alloc (.cells #[.int .i64 cols.length] 3)).alloc (.cells #[.slice (some ⟨g, 0, none⟩) cols.length cap] 27)).alloc (.cells #[(.func (.func 81) #[] #[.pointer (some ⟨w1.heap.size, 0, none⟩), .pointer (some ⟨w.heap.size, 0, none⟩), .pointer (some ⟨w1.heap.size + 1, 0, none⟩), .pointer (some ⟨w.heap.size + 1, 0, none⟩), .pointer (some ⟨w1.heap.size + 1 + 1, 0, none⟩)])] 97)) := below_alloc (below_alloc (below_alloc hW1 _) _) _
  have hbel0 := hbel.size
  have hM : Mem (XF bc bd) W0 (some ⟨ab, 0, none⟩) c rows cols.length cap w.heap.size w1.heap.size (w1.heap.size + 1) (w.heap.size + 1) (w1.heap.size + 1 + 1) g (.func (.func 68) #[] #[.pointer (some ⟨bc, 0, none⟩), .pointer (some ⟨bd, 0, none⟩)]) (.func (.func 81) #[] #[.pointer (some ⟨w1.heap.size, 0, none⟩), .pointer (some ⟨w.heap.size, 0, none⟩), .pointer (some ⟨w1.heap.size + 1, 0, none⟩), .pointer (some ⟨w.heap.size + 1, 0, none⟩), .pointer (some ⟨w1.heap.size + 1 + 1, 0, none⟩)]) cols (0, false) (((w1.alloc (.cells #[.int .i64 cols.length] 3)).alloc (.cells #[.slice (some ⟨g, 0, none⟩) cols.length cap] 27)).alloc (.cells #[(.func (.func 81) #[] #[.pointer (some ⟨w1.heap.size, 0, none⟩), .pointer (some ⟨w.heap.size, 0, none⟩), .pointer (some ⟨w1.heap.size + 1, 0, none⟩), .pointer (some ⟨w.heap.size + 1, 0, none⟩), .pointer (some ⟨w1.heap.size + 1 + 1, 0, none⟩)])] 97)) := by
    refine ⟨hbel4, ?_, hn4b, hl4, ?_, hs4, ?_, rfl, ?_⟩
    · rw [far4 _ (by omega)]; exact K1.out
    · rw [far4 _ (by omega)]; exact K2.out
    · refine ⟨cur.toList.drop cols.length, ?_⟩
      rw [far4 _ (by omega), K4.out]
      have h := K5.out.2.2.2
      rw [Nat.mul_one, List.take_length] at h
      rw [← h, List.take_append_drop]
      rfl
    · refine ⟨?_, ?_⟩
      · rw [far4 _ (by omega)]; exact K3.out
      · rw [far4 _ (by omega)]; exact K3d.out
  have hfill := fill68 stepF (XF bc bd) W0 ab c rows cols.length cap w.heap.size w1.heap.size (w1.heap.size + 1) (w.heap.size + 1) (w1.heap.size + 1 + 1) g bc bd
    (fun s w w' h hx => by unfold XF at hx ⊢; rw [h]; exact hx) (fun s w w' h hx => by unfold XF at hx ⊢; rw [h bc (by omega), h bd (by omega)]; exact hx)
    ⟨by omega, by omega, by omega, by omega, by omega⟩ (by omega) hn0 hn4 hR hab hrc hrb
    (fun s m left w' hm => visit68 W0 ab c rows cols.length cap w.heap.size w1.heap.size (w1.heap.size + 1) (w.heap.size + 1) (w1.heap.size + 1 + 1) g bc bd _ _ hbc hbd hcd ⟨by omega, by omega, by omega, by omega, by omega, by omega⟩ ⟨by omega, by omega, by omega, by omega, by omega, by omega⟩ s m left w' hm)
    (0 + cols.length * rows.length) cols [] rows 0 0 0 0 (0, false) (((w1.alloc (.cells #[.int .i64 cols.length] 3)).alloc (.cells #[.slice (some ⟨g, 0, none⟩) cols.length cap] 27)).alloc (.cells #[(.func (.func 81) #[] #[.pointer (some ⟨w1.heap.size, 0, none⟩), .pointer (some ⟨w.heap.size, 0, none⟩), .pointer (some ⟨w1.heap.size + 1, 0, none⟩), .pointer (some ⟨w.heap.size + 1, 0, none⟩), .pointer (some ⟨w1.heap.size + 1 + 1, 0, none⟩)])] 97)) (by simp) (by simp) (Or.inl rfl) (by simp) (by simp) (by simp) (by omega) (by omega) (by simpa using hcbd) (by simpa using hM)
  rw [rowV, if_neg (by omega)] at hfill
  simp only [List.append_nil, List.length_nil, Nat.add_zero] at hfill
  have hfill2 := Calls.mono hfill (fun e w' (h : _ ∧ _) => (⟨_, h.1, h.2.bel, h.2.x⟩ : ∃ b, e = Ending.returned (.bool b) ∧ Below W0.heap.size W0 w' ∧ XF bc bd (runV stepF (0, false) (tabV cols.length rows cols 0 0)).1 w'))
  clear hfill hM hbel4 hl4 hn4b far4 hs4 K1 K2 K3 K3d K4 K5 hg3 hW1 hrc hcc hrb hcbd
  go_wp2_with (go_at_call 81; refine hfill2.mono ?_; rintro e w6 ⟨b, rfl, hb6, hx6⟩)
  all_goals (go_end0; exact ⟨rfl, hb6, hx6⟩)
end Go.Proofs.Ytcldfmnkeiogdaa
