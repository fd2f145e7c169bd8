/- impl.tables with the visitor that counts. No condition beyond the bounds. -/
import Derived.Test.YtcldfmnkeiogdaaWuf
import Derived.Laws.EntriesVeiled
namespace Go.Proofs.Ytcldfmnkeiogdaa
open Go.RowKit S Go.Proofs.YtcldfmnkeiogdaaW.PrintWords Go.Proofs.YtcldfmnkeiogdaaW.PrintLast Go.Proofs.YtcldfmnkeiogdaaW.PrintMore
def XC (bc : Nat) (s : Int) (w : World) : Prop := w.heap[bc]? = some (.cells #[.int .i64 s] 3 (0, 0))
def stepC (s : Int) (_ : Int) : Int × Bool := (wrap64 (s + 1), true)
section
variable (W0 : World) (ab c : Nat) (rows : List Int) (n cl br bn bl bv bf g bc : Nat) (fv ff : Value)
theorem visit67 (hbc : W0.heap.size ≤ bc) (hne : br ≠ bc ∧ bn ≠ bc ∧ bl ≠ bc ∧ bv ≠ bc ∧ bf ≠ bc ∧ g ≠ bc) (s m : Int) (left : List Int) (w : World) (hm : Mem (XC bc) W0 (some ⟨ab, 0, none⟩) c rows n cl br bn bl bv bf g fv ff left s w) :
    Calls Try.prog 67 #[.int .u64 m, .pointer (some ⟨bc, 0, none⟩)] w fun e w' => e = .returned (.bool (stepC s m).2) ∧ Mem (XC bc) W0 (some ⟨ab, 0, none⟩) c rows n cl br bn bl bv bf g fv ff left (stepC s m).1 w' := by
  have c1 := cell_of_one hm.x
  have c2 := free_of_one hm.x
  have far : ∀ k, k ≠ bc → (w.setCell ⟨bc, 0, none⟩ (.int .i64 (wrap64 (s + 1)))).heap[k]? = w.heap[k]? := fun k hk => Below.heap_setCell w ⟨bc, 0, none⟩ _ k hk
  have hM : Mem (XC bc) W0 (some ⟨ab, 0, none⟩) c rows n cl br bn bl bv bf g fv ff left (wrap64 (s + 1)) (w.setCell ⟨bc, 0, none⟩ (.int .i64 (wrap64 (s + 1)))) := by
    obtain ⟨n1, n2, n3, n4, n5, n6⟩ := hne
    exact ⟨hm.bel.setCell hbc _, (far br n1).trans hm.hr, (far bn n2).trans hm.hn, (far bl n3).trans hm.hl, (far bv n4).trans hm.hv, (far bf n5).trans hm.hf, by obtain ⟨sp, h⟩ := hm.hg; exact ⟨sp, (far g n6).trans h⟩, hm.len, one_setCell hm.x⟩
  have HM := Lib.hid hM
  clear hm hM far hne
  go_enter Try.func67, Try.ntmps67
  go_wp2_with (fail)
  all_goals (go_ret; exact ⟨rfl, HM.out⟩)
end
theorem tables67 (W0 : World) (ab c cb c2 bc : Nat) (rows cols : List Int) (w : World) (hbel : Below W0.heap.size W0 w) (hbc : W0.heap.size ≤ bc) (hx : XC bc 0 w)
    (hab : ab < W0.heap.size) (hcb : cb < W0.heap.size) (hrc : ∀ (j : Nat) (v : Int), rows[j]? = some v → W0.cell? ⟨ab, j, none⟩ = some (.int .i64 v)) (hcc : ∀ (j : Nat) (v : Int), cols[j]? = some v → W0.cell? ⟨cb, j, none⟩ = some (.int .i64 v))
    (hR : rows.length ≤ 4) (hn0 : 0 < cols.length) (hn4 : cols.length ≤ 4) (hrb : ∀ v ∈ rows, 0 ≤ v ∧ v ≤ 4) (hcbd : ∀ v ∈ cols, 0 ≤ v ∧ v ≤ 4) :
    Calls Try.prog 66 #[.slice (some ⟨ab, 0, none⟩) rows.length c, .slice (some ⟨cb, 0, none⟩) cols.length c2, .func (.func 67) #[] #[.pointer (some ⟨bc, 0, none⟩)]] w fun e w' => e = .returned (.tuple #[]) ∧ Below W0.heap.size W0 w' ∧ XC bc (runV stepC 0 (tabV cols.length rows cols 0 0)).1 w' := by
  have hcl := fun (w' : World) (hb : Below W0.heap.size W0 w') => Any.slices_Clone_int Try.lays15 cb 0 cols.length c2 cols w' (Nat.le_refl _) (by omega) (fun j hj => by
    rw [Nat.zero_add, hb.cell (p := ⟨cb, j, none⟩) hcb, hcc j cols[j] (List.getElem?_eq_getElem hj), List.getD_eq_getElem?_getD, List.getElem?_eq_getElem hj]
    rfl)
  have hmf : ∀ (fn : Fn) (first cap : Array Value) (w : World), (Instr.makeFunc fn first cap).run Try.prog w = .ok (.func fn first cap) w := fun _ _ _ _ => rfl
  have hw2 : Below W0.heap.size W0 ((w.alloc (.cells #[.slice (some ⟨ab, 0, none⟩) rows.length c] 27)).alloc (.cells #[.func (.func 67) #[] #[.pointer (some ⟨bc, 0, none⟩)]] 86)) := below_alloc (below_alloc hbel _) _
  have hcl2 := hcl _ hw2
  have hbr : ((w.alloc (.cells #[.slice (some ⟨ab, 0, none⟩) rows.length c] 27)).alloc (.cells #[.func (.func 67) #[] #[.pointer (some ⟨bc, 0, none⟩)]] 86)).heap[w.heap.size]? = some (.cells #[.slice (some ⟨ab, 0, none⟩) rows.length c] 27 (0, 0)) := by
    simp only [World.alloc]
    rw [Array.getElem?_push, if_neg (by simp only [Array.size_push]; omega), Array.getElem?_push, if_pos rfl]
  have hbv : ((w.alloc (.cells #[.slice (some ⟨ab, 0, none⟩) rows.length c] 27)).alloc (.cells #[.func (.func 67) #[] #[.pointer (some ⟨bc, 0, none⟩)]] 86)).heap[w.heap.size + 1]? = some (.cells #[.func (.func 67) #[] #[.pointer (some ⟨bc, 0, none⟩)]] 86 (0, 0)) := by
    simp only [World.alloc]
    rw [Array.getElem?_push, if_pos (by simp only [Array.size_push])]
  have hlt : bc < w.heap.size := lt_of_block hx
  have hbcx : ((w.alloc (.cells #[.slice (some ⟨ab, 0, none⟩) rows.length c] 27)).alloc (.cells #[.func (.func 67) #[] #[.pointer (some ⟨bc, 0, none⟩)]] 86)).heap[bc]? = some (.cells #[.int .i64 0] 3 (0, 0)) := by
    simp only [World.alloc]
    rw [Array.getElem?_push, if_neg (by simp only [Array.size_push]; omega), Array.getElem?_push, if_neg (by omega)]
    exact hx
  have hz2 : ((w.alloc (.cells #[.slice (some ⟨ab, 0, none⟩) rows.length c] 27)).alloc (.cells #[.func (.func 67) #[] #[.pointer (some ⟨bc, 0, none⟩)]] 86)).heap.size = w.heap.size + 2 := by simp only [World.alloc, Array.size_push]
  have Hbr := Lib.hid hbr
  have Hbv := Lib.hid hbv
  have Hbcx := Lib.hid hbcx
  have Hz2 := Lib.hid hz2
  have Hw2 := Lib.hid hw2
  clear hcl hw2 hbr hbv hbcx hz2
  go_enter Try.func66, Try.ntmps66
  go_wp2_with (go_at_call 80; refine hcl2.mono ?_; rintro e w1 ⟨v, rfl, hown, hvn, hb1⟩; refine Hid.out ?_)
  refine Lib.hid ?_
  have hsz1 := hb1.size
  rw [Hz2.out] at hsz1
  have k1 := (hb1.block w.heap.size (by rw [Hz2.out]; omega)).trans Hbr.out
  have k2 := (hb1.block (w.heap.size + 1) (by rw [Hz2.out]; omega)).trans Hbv.out
  have k3 := (hb1.block bc (by rw [Hz2.out]; omega)).trans Hbcx.out
  have hW1 := Hw2.out.trans (hb1.mono Hw2.out.size)
  rcases hown.2 with ⟨hv0, _⟩ | ⟨g, cap, cur, rfl, hg1, hg2, hg3⟩
  · exact absurd hv0 hvn
  rw [Hz2.out] at hg1
  have hgl : g < w1.heap.size := lt_of_block hg2
  clear Hbr Hbv Hbcx hcl2 hb1 Hw2 hown hvn
  have K1 := Lib.hid k1
  have K2 := Lib.hid k2
  have K3 := Lib.hid k3
  have K4 := Lib.hid hg2
  have K5 := Lib.hid hg3
  clear k1 k2 k3 hg2
  have hs4 : (((w1.alloc (.cells #[.int .i64 cols.length] 3)).alloc (.cells #[.slice (some ⟨g, 0, none⟩) cols.length cap] 27)).alloc (.cells #[(.func (.func 81) #[] #[.pointer (some ⟨w1.heap.size, 0, none⟩), .pointer (some ⟨w.heap.size, 0, none⟩), .pointer (some ⟨w1.heap.size + 1, 0, none⟩), .pointer (some ⟨w.heap.size + 1, 0, none⟩), .pointer (some ⟨w1.heap.size + 1 + 1, 0, none⟩)])] 97)).heap[w1.heap.size + 1 + 1]? = some (.cells #[(.func (.func 81) #[] #[.pointer (some ⟨w1.heap.size, 0, none⟩), .pointer (some ⟨w.heap.size, 0, none⟩), .pointer (some ⟨w1.heap.size + 1, 0, none⟩), .pointer (some ⟨w.heap.size + 1, 0, none⟩), .pointer (some ⟨w1.heap.size + 1 + 1, 0, none⟩)])] 97 (0, 0)) := by
    simp only [World.alloc]
    rw [Array.getElem?_push, if_pos (by simp only [Array.size_push])]
  have far4 : ∀ k, k < w1.heap.size → (((w1.alloc (.cells #[.int .i64 cols.length] 3)).alloc (.cells #[.slice (some ⟨g, 0, none⟩) cols.length cap] 27)).alloc (.cells #[(.func (.func 81) #[] #[.pointer (some ⟨w1.heap.size, 0, none⟩), .pointer (some ⟨w.heap.size, 0, none⟩), .pointer (some ⟨w1.heap.size + 1, 0, none⟩), .pointer (some ⟨w.heap.size + 1, 0, none⟩), .pointer (some ⟨w1.heap.size + 1 + 1, 0, none⟩)])] 97)).heap[k]? = w1.heap[k]? := fun k hk => by
    simp only [World.alloc]
    rw [Array.getElem?_push, if_neg (by simp only [Array.size_push]; omega), Array.getElem?_push, if_neg (by simp only [Array.size_push]; omega), Array.getElem?_push, if_neg (by omega)]
  have hn4b : (((w1.alloc (.cells #[.int .i64 cols.length] 3)).alloc (.cells #[.slice (some ⟨g, 0, none⟩) cols.length cap] 27)).alloc (.cells #[(.func (.func 81) #[] #[.pointer (some ⟨w1.heap.size, 0, none⟩), .pointer (some ⟨w.heap.size, 0, none⟩), .pointer (some ⟨w1.heap.size + 1, 0, none⟩), .pointer (some ⟨w.heap.size + 1, 0, none⟩), .pointer (some ⟨w1.heap.size + 1 + 1, 0, none⟩)])] 97)).heap[w1.heap.size]? = some (.cells #[.int .i64 cols.length] 3 (0, 0)) := by
    simp only [World.alloc]
    rw [Array.getElem?_push, if_neg (by simp only [Array.size_push]; omega), Array.getElem?_push, if_neg (by simp only [Array.size_push]; omega), Array.getElem?_push, if_pos rfl]
  have hl4 : (((w1.alloc (.cells #[.int .i64 cols.length] 3)).alloc (.cells #[.slice (some ⟨g, 0, none⟩) cols.length cap] 27)).alloc (.cells #[(.func (.func 81) #[] #[.pointer (some ⟨w1.heap.size, 0, none⟩), .pointer (some ⟨w.heap.size, 0, none⟩), .pointer (some ⟨w1.heap.size + 1, 0, none⟩), .pointer (some ⟨w.heap.size + 1, 0, none⟩), .pointer (some ⟨w1.heap.size + 1 + 1, 0, none⟩)])] 97)).heap[w1.heap.size + 1]? = some (.cells #[.slice (some ⟨g, 0, none⟩) cols.length cap] 27 (0, 0)) := by
    simp only [World.alloc]
    rw [Array.getElem?_push, if_neg (by simp only [Array.size_push]; omega), Array.getElem?_push, if_pos (by simp only [Array.size_push])]
  have hbel4 : Below W0.heap.size W0 (((w1.alloc (.cells #[.int .i64 cols.length] 3)).alloc (.cells #[.slice (some ⟨g, 0, none⟩) cols.length cap] 27)).alloc (.cells #[(.func (.func 81) #[] #[.pointer (some ⟨w1.heap.size, 0, none⟩), .pointer (some ⟨w.heap.size, 0, none⟩), .pointer (some ⟨w1.heap.size + 1, 0, none⟩), .pointer (some ⟨w.heap.size + 1, 0, none⟩), .pointer (some ⟨w1.heap.size + 1 + 1, 0, none⟩)])] 97)) := below_alloc (below_alloc (below_alloc hW1 _) _) _
  have hbel0 := hbel.size
  have hM : Mem (XC bc) W0 (some ⟨ab, 0, none⟩) c rows cols.length cap w.heap.size w1.heap.size (w1.heap.size + 1) (w.heap.size + 1) (w1.heap.size + 1 + 1) g (.func (.func 67) #[] #[.pointer (some ⟨bc, 0, none⟩)]) (.func (.func 81) #[] #[.pointer (some ⟨w1.heap.size, 0, none⟩), .pointer (some ⟨w.heap.size, 0, none⟩), .pointer (some ⟨w1.heap.size + 1, 0, none⟩), .pointer (some ⟨w.heap.size + 1, 0, none⟩), .pointer (some ⟨w1.heap.size + 1 + 1, 0, none⟩)]) cols 0 (((w1.alloc (.cells #[.int .i64 cols.length] 3)).alloc (.cells #[.slice (some ⟨g, 0, none⟩) cols.length cap] 27)).alloc (.cells #[(.func (.func 81) #[] #[.pointer (some ⟨w1.heap.size, 0, none⟩), .pointer (some ⟨w.heap.size, 0, none⟩), .pointer (some ⟨w1.heap.size + 1, 0, none⟩), .pointer (some ⟨w.heap.size + 1, 0, none⟩), .pointer (some ⟨w1.heap.size + 1 + 1, 0, none⟩)])] 97)) := by
    refine ⟨hbel4, ?_, hn4b, hl4, ?_, hs4, ?_, rfl, ?_⟩
    · rw [far4 _ (by omega)]; exact K1.out
    · rw [far4 _ (by omega)]; exact K2.out
    · refine ⟨cur.toList.drop cols.length, ?_⟩
      rw [far4 _ (by omega), K4.out]
      have h := K5.out.2.2.2
      rw [Nat.mul_one, List.take_length] at h
      rw [← h, List.take_append_drop]
      rfl
    · show (((w1.alloc (.cells #[.int .i64 cols.length] 3)).alloc (.cells #[.slice (some ⟨g, 0, none⟩) cols.length cap] 27)).alloc (.cells #[(.func (.func 81) #[] #[.pointer (some ⟨w1.heap.size, 0, none⟩), .pointer (some ⟨w.heap.size, 0, none⟩), .pointer (some ⟨w1.heap.size + 1, 0, none⟩), .pointer (some ⟨w.heap.size + 1, 0, none⟩), .pointer (some ⟨w1.heap.size + 1 + 1, 0, none⟩)])] 97)).heap[bc]? = _
      rw [far4 _ (by omega)]; exact K3.out
  have hfill := fill67 stepC (XC bc) W0 ab c rows cols.length cap w.heap.size w1.heap.size (w1.heap.size + 1) (w.heap.size + 1) (w1.heap.size + 1 + 1) g bc
    (fun s w w' h hx => by unfold XC at hx ⊢; rw [h]; exact hx) (fun s w w' h hx => by unfold XC at hx ⊢; rw [h bc (by omega)]; exact hx)
    ⟨by omega, by omega, by omega, by omega, by omega⟩ (by omega) hn0 hn4 hR hab hrc hrb
    (fun s m left w' hm => visit67 W0 ab c rows cols.length cap w.heap.size w1.heap.size (w1.heap.size + 1) (w.heap.size + 1) (w1.heap.size + 1 + 1) g bc _ _ hbc ⟨by omega, by omega, by omega, by omega, by omega, by omega⟩ s m left w' hm)
    (0 + cols.length * rows.length) cols [] rows 0 0 0 0 0 (((w1.alloc (.cells #[.int .i64 cols.length] 3)).alloc (.cells #[.slice (some ⟨g, 0, none⟩) cols.length cap] 27)).alloc (.cells #[(.func (.func 81) #[] #[.pointer (some ⟨w1.heap.size, 0, none⟩), .pointer (some ⟨w.heap.size, 0, none⟩), .pointer (some ⟨w1.heap.size + 1, 0, none⟩), .pointer (some ⟨w.heap.size + 1, 0, none⟩), .pointer (some ⟨w1.heap.size + 1 + 1, 0, none⟩)])] 97)) (by simp) (by simp) (Or.inl rfl) (by simp) (by simp) (by simp) (by omega) (by omega) (by simpa using hcbd) (by simpa using hM)
  rw [rowV, if_neg (by omega)] at hfill
  simp only [List.append_nil, List.length_nil, Nat.add_zero] at hfill
  have hfill2 := Calls.mono hfill (fun e w' (h : _ ∧ _) => (⟨_, h.1, h.2.bel, h.2.x⟩ : ∃ b, e = Ending.returned (.bool b) ∧ Below W0.heap.size W0 w' ∧ XC bc (runV stepC 0 (tabV cols.length rows cols 0 0)).1 w'))
  clear hfill hM hbel4 hl4 hn4b far4 hs4 K1 K2 K3 K4 K5 hg3 hW1 hrc hcc hrb hcbd
  go_wp2_with (go_at_call 81; refine hfill2.mono ?_; rintro e w6 ⟨b, rfl, hb6, hx6⟩)
  all_goals (go_end0; exact ⟨rfl, hb6, hx6⟩)
end Go.Proofs.Ytcldfmnkeiogdaa
