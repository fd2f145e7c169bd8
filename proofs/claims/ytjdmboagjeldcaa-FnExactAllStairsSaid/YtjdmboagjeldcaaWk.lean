/- impl.box.stairs and impl.AllStairs, walked. No condition. -/
import Derived.Test.YtjdmboagjeldcaaWj
namespace Go.Proofs.Ytjdmboagjeldcaa
open Go.RowKit S Go.Proofs.YtjdmboagjeldcaaW.PrintWords Go.Proofs.YtjdmboagjeldcaaW.PrintLast Go.Proofs.YtjdmboagjeldcaaW.PrintMore
theorem all_few : ((List.range 4).all fun x => (List.range 4).all fun y => (List.range 4).all fun z => if countC (x + 1) (y + 1) (z + 1) ≤ 1000 then decide ((allL (y + 1) (z + 1) ((x + 1) * (y + 1)) []).length ≤ 1000) else true) = true := by decide +kernel
theorem few_lists {x y z : Nat} (hx0 : 0 < x) (hx : x ≤ 4) (hy0 : 0 < y) (hy : y ≤ 4) (hz0 : 0 < z) (hz : z ≤ 4) (hc : countC x y z ≤ 1000) : (allL y z (x * y) []).length ≤ 1000 := by
  have h := List.all_eq_true.1 (List.all_eq_true.1 (List.all_eq_true.1 all_few (x - 1) (List.mem_range.2 (by omega))) (y - 1) (List.mem_range.2 (by omega))) (z - 1) (List.mem_range.2 (by omega))
  rw [show x - 1 + 1 = x by omega, show y - 1 + 1 = y by omega, show z - 1 + 1 = z by omega, if_pos hc, decide_eq_true_eq] at h
  exact h
theorem S_empty {α : Type} (d : Kd α) {e g base : Nat} {w : World} {ok : Nat → Prop} (h : w.heap[g]? = some (.cells #[] e (0, 0))) (hb : base ≤ g) (hok : ok g) : Kd.S d e w base ok (.slice (some ⟨g, 0, none⟩) 0 0) [] := by
  refine ⟨fun _ => 0, fun k hk => ?_, [], ⟨by simp, Or.inr ⟨g, 0, #[], rfl, hb, h, Nat.le_refl _, Nat.zero_le _, by simp, by simp⟩⟩, ?_⟩
  · injection hk with hk
    subst hk
    exact hok
  · exact ⟨by simp, fun j x hx => by simp at hx⟩
theorem sm_start {w w2 : World} {bb x y z : Nat} (hb : w2.heap[bb]? = some (.cells #[.int .i64 x, .int .i64 y, .int .i64 z] 39 (0, 0))) (hw : Below w.heap.size w w2) :
    Sm w bb (w2.heap.size + 1) (w2.heap.size + 1 + 1) x y z (fun _ => False) [] (((w2.alloc (.cells #[] 37)).alloc (.cells #[.slice (some ⟨w2.heap.size, 0, none⟩) 0 0] 22)).alloc (.cells #[.func (.func 35) #[] #[.pointer (some ⟨bb, 0, none⟩), .pointer (some ⟨w2.heap.size + 1, 0, none⟩), .pointer (some ⟨w2.heap.size + 1 + 1, 0, none⟩)]] 55)) := by
  have hlt := lt_of_block hb
  have h1 := below_alloc (below_alloc (below_alloc (Below.refl w2.heap.size w2) (.cells #[] 37)) (.cells #[.slice (some ⟨w2.heap.size, 0, none⟩) 0 0] 22)) (.cells #[.func (.func 35) #[] #[.pointer (some ⟨bb, 0, none⟩), .pointer (some ⟨w2.heap.size + 1, 0, none⟩), .pointer (some ⟨w2.heap.size + 1 + 1, 0, none⟩)]] 55)
  refine ⟨hw.trans (below_weak h1 hw.size), (h1.block _ hlt).trans hb, ?_, ⟨_, ?_, S_empty _ (g := w2.heap.size) ?_ hw.size ⟨hw.size, fun h => h⟩⟩, fun k hk => hk.elim, fun h => h⟩
  · simp only [World.alloc]
    rw [Array.getElem?_push, if_pos (by simp only [Array.size_push])]
  · simp only [World.alloc]
    rw [Array.getElem?_push, if_neg (by simp only [Array.size_push]; omega), Array.getElem?_push, if_pos (by simp only [Array.size_push])]
  · simp only [World.alloc]
    rw [Array.getElem?_push, if_neg (by simp only [Array.size_push]; omega), Array.getElem?_push, if_neg (by simp only [Array.size_push]; omega), Array.getElem?_push, if_pos rfl]
set_option maxRecDepth 100000 in
theorem boxStairs (x y z : Int) (w : World) :
    Calls Try.prog 17 #[.agg #[.int .i64 x, .int .i64 y, .int .i64 z]] w fun e w' => ∃ v, e = .returned (.tuple #[v, .bool (stairsRes x y z).2]) ∧ Kd.S (Kd.slice 3 (Kd.int .i64)) 37 w' w.heap.size (fun _ => True) v (stairsRes x y z).1 ∧ Below w.heap.size w w' := by
  have hbk : (w.alloc (.cells #[.int .i64 x, .int .i64 y, .int .i64 z] 39)).heap[w.heap.size]? = some (.cells #[.int .i64 x, .int .i64 y, .int .i64 z] 39 (0, 0)) := by simp only [World.alloc]; rw [Array.getElem?_push, if_pos rfl]
  have hb := BoxAt_of hbk
  have Hbk := Lib.hid hbk
  clear hbk
  have hw1 : Below w.heap.size w (w.alloc (.cells #[.int .i64 x, .int .i64 y, .int .i64 z] 39)) := below_alloc (Below.refl _ _) _
  have Hb := Lib.hid hb
  have Hw := Lib.hid hw1
  clear hb hw1
  unfold stairsRes fewB
  have hvB := fun W => boxValid x y z W
  cases hv : validB x y z with
  | false =>
    simp only [hv] at hvB
    simp only [Bool.false_and, Bool.false_eq_true, if_false]
    go_enter Try.func17, Try.ntmps17
    go_wp2_with (go_at_call 33; refine (hvB _).mono ?_; rintro e w1 ⟨rfl, hd1⟩)
    all_goals (go_ret2; exact ⟨_, rfl, Kd.S_nil _ _ _ _ _, Hw.out.trans (hd1.mono Hw.out.size)⟩)
  | true =>
    obtain ⟨a, b, c, rfl, rfl, rfl, ha0, ha, hb0, hb, hc0, hc⟩ := valid_facts hv
    simp only [hv] at hvB
    simp only [Bool.true_and, decide_eq_true_eq, Int.toNat_natCast]
    have hcs := fun W => countStairs a b c ha hb0 hb hc W
    have hfl := few_lists ha0 ha hb0 hb hc0 hc
    have hcb : countC a b c ≤ 1000000000 := by
      have h1 := st_small hb0 hb hc (n := a * b) (Nat.le_trans (Nat.mul_le_mul ha hb) (by decide))
      unfold countC
      exact Nat.le_trans (Nat.div_le_self _ _) h1.2.1
    generalize countC a b c = N at hcs hfl hcb ⊢
    have hlt : w.heap.size < (w.alloc (.cells #[.int .i64 a, .int .i64 b, .int .i64 c] 39)).heap.size := by simp only [World.alloc, Array.size_push]; omega
    by_cases hN : N ≤ 1000
    · have hN2 : ¬ (1000 : Int) < (N : Int) := by omega
      have hN3 : (N : Int) ≤ 1000 := by omega
      rw [if_pos hN]
      have Hfl := Lib.hid (hfl hN)
      clear hfl
      go_enter Try.func17, Try.ntmps17
      have hmf : ∀ (fn : Fn) (first cap : Array Value) (w : World), (Instr.makeFunc fn first cap).run Try.prog w = .ok (.func fn first cap) w := fun _ _ _ _ => rfl
      go_wp2_with (first | (go_at_call 33; refine (hvB _).mono ?_; rintro e w1 ⟨rfl, hd1⟩; have k1 := (hd1.cell (p := ⟨w.heap.size, 0, none⟩) hlt).trans Hb.out.1; have k2 := (hd1.cell (p := ⟨w.heap.size, 1, none⟩) hlt).trans Hb.out.2.1; have k3 := (hd1.cell (p := ⟨w.heap.size, 2, none⟩) hlt).trans Hb.out.2.2) | (go_at_call 34; refine (hcs _).mono ?_; rintro e w2 ⟨rfl, hd2⟩))
      have hbw := Hw.out.trans ((hd1.trans (hd2.mono hd1.size)).mono Hw.out.size)
      have hbb := ((hd1.trans (hd2.mono hd1.size)).block _ hlt).trans Hbk.out
      have hwk := walk35 w w.heap.size (w2.heap.size + 1) (w2.heap.size + 1 + 1) a b c ha hb0 hb hc (Nat.mul_pos ha0 hb0) (Nat.le_trans hbw.size (by omega)) (a * b) [] (fun _ => False) [] _ (.slice none 0 0) (by simp) (fun t ht => by cases ht) (by have := Hfl.out; simp only [List.length_nil]; omega) (sm_start hbb hbw) (Or.inl ⟨rfl, rfl⟩) (fun k hk => by cases hk)
      rw [List.nil_append] at hwk
      refine hwk.mono ?_
      rintro e w3 hp
      have he := hp.out
      subst he
      obtain ⟨vo, ho1, ho2⟩ := hp.sm.ho
      have c4 := cell_of_one ho1
      have Hs := Lib.hid (Kd.S_mono ho2 (ok' := fun _ => True) (fun _ _ => trivial))
      have Hbel := Lib.hid hp.sm.bel
      clear hwk hp hd1 hd2 hbw hbb ho1 ho2
      refine Hid.out ?_
      refine Lib.hid ?_
      go_wp2_with (fail)
      all_goals (go_ret2; exact ⟨_, rfl, Hs.out, Hbel.out⟩)
    · have hN2 : (1000 : Int) < (N : Int) := by omega
      rw [if_neg hN]
      clear hfl
      go_enter Try.func17, Try.ntmps17
      go_wp2_with (first | (go_at_call 33; refine (hvB _).mono ?_; rintro e w1 ⟨rfl, hd1⟩; have k1 := (hd1.cell (p := ⟨w.heap.size, 0, none⟩) hlt).trans Hb.out.1; have k2 := (hd1.cell (p := ⟨w.heap.size, 1, none⟩) hlt).trans Hb.out.2.1; have k3 := (hd1.cell (p := ⟨w.heap.size, 2, none⟩) hlt).trans Hb.out.2.2) | (go_at_call 34; refine (hcs _).mono ?_; rintro e w2 ⟨rfl, hd2⟩))
      all_goals (go_ret2; exact ⟨_, rfl, Kd.S_nil _ _ _ _ _, Hw.out.trans ((hd1.trans (hd2.mono hd1.size)).mono Hw.out.size)⟩)
theorem implAllStairs (x y z : Int) (w : World) : Calls Try.prog 6 #[.int .i64 x, .int .i64 y, .int .i64 z] w fun e w' => ∃ v, e = .returned (.tuple #[v, .bool (stairsRes x y z).2]) ∧ Kd.S (Kd.slice 3 (Kd.int .i64)) 37 w' w.heap.size (fun _ => True) v (stairsRes x y z).1 ∧ Below w.heap.size w w' := by
  have hs := fun W => boxStairs x y z W
  generalize stairsRes x y z = R at hs ⊢
  go_enter Try.func6, Try.ntmps6
  go_wp2_with (go_at_call 17; refine (hs _).mono ?_; rintro e w1 ⟨v, rfl, hS, hB⟩)
  all_goals (go_ret2; exact ⟨v, rfl, hS, hB⟩)
end Go.Proofs.Ytjdmboagjeldcaa
