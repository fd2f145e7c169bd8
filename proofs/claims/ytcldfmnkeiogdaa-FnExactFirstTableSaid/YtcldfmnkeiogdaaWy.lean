/- impl.CountTables and the law FnExactCountTables. No condition. -/
import Derived.Test.YtcldfmnkeiogdaaNd
namespace Go.Proofs.Ytcldfmnkeiogdaa
open Go.RowKit S Go.Proofs.YtcldfmnkeiogdaaW.PrintWords Go.Proofs.YtcldfmnkeiogdaaW.PrintLast Go.Proofs.YtcldfmnkeiogdaaW.PrintMore
/-- a list of ints lying in a world, at a block's begin -/
def RowAt (W : World) (b : Nat) (l : List Int) : Prop := b < W.heap.size ∧ ∀ (j : Nat) (v : Int), l[j]? = some v → W.cell? ⟨b, j, none⟩ = some (.int .i64 v)
theorem countTables (W0 : World) (ab c cb c2 : Nat) (rows cols : List Int) (ha : RowAt W0 ab rows) (hb : RowAt W0 cb cols) (hok : okB rows cols = true) :
    Calls Try.prog 46 #[.slice (some ⟨ab, 0, none⟩) rows.length c, .slice (some ⟨cb, 0, none⟩) cols.length c2] W0 fun e w' => e = .returned (.int .i64 (((tabs rows cols).length : Nat) : Int)) ∧ Below W0.heap.size W0 w' := by
  obtain ⟨h1, h2, h3⟩ := ok_facts hok
  have hx : XC W0.heap.size 0 (W0.alloc (.cells #[.int .i64 0] 3)) := by
    unfold XC
    simp only [World.alloc]
    rw [Array.getElem?_push, if_pos rfl]
  have ht := tables67 W0 ab c cb c2 W0.heap.size rows cols (W0.alloc (.cells #[.int .i64 0] 3)) (below_alloc (Below.refl _ _) _) (Nat.le_refl _) hx ha.1 hb.1 ha.2 hb.2 h1.2.1 h1.2.2.1 h1.2.2.2 h2 h3
  rw [impl_count rows cols hok] at ht
  have ht2 := Calls.mono ht (fun e w' (h : _ ∧ _ ∧ _) => (⟨h.1, h.2.1, cell_of_one h.2.2⟩ : e = Ending.returned (.tuple #[]) ∧ Below W0.heap.size W0 w' ∧ w'.cell? ⟨W0.heap.size, 0, none⟩ = some (.int .i64 (((tabs rows cols).length : Nat) : Int))))
  clear ht hx h1 h2 h3 hok ha hb
  have hmf : ∀ (fn : Fn) (first cap : Array Value) (w : World), (Instr.makeFunc fn first cap).run Try.prog w = .ok (.func fn first cap) w := fun _ _ _ _ => rfl
  go_enter Try.func46, Try.ntmps46
  go_wp2_with (go_at_call 66; refine ht2.mono ?_; rintro e w6 ⟨rfl, hb6, hc6⟩)
  all_goals (go_ret; exact ⟨rfl, hb6⟩)
/-- the place of a nonempty list that a call has made -/
theorem made_at {w : World} {base : Nat} {ok : Nat → Prop} {A : Option Addr} {n c : Nat} {l : List Int} (h : Kd.R (Kd.int .i64) 3 w base ok (.slice A n c) l) (hl : l ≠ []) : ∃ ab, A = some ⟨ab, 0, none⟩ ∧ ab < w.heap.size := by
  have ho := Kd.own_of_R h
  have hr := Kd.R_reads' h
  rcases ho.2 with ⟨hv, hx⟩ | ⟨g, cap, cur, hv, hb, hh, _⟩
  · injection hv with h1 h2 _
    exfalso
    apply hl
    have : l.length = 0 := by rw [← hr.1]; exact h2
    exact List.length_eq_zero_iff.1 this
  · injection hv with h1
    subst h1
    refine ⟨g, rfl, ?_⟩
    rcases Nat.lt_or_ge g w.heap.size with h | h
    · exact h
    · rw [Array.getElem?_eq_none h] at hh; cases hh
theorem row_at {w : World} {ab : Nat} {l : List Int} (hC : Kd.C (Kd.int .i64) w (some ⟨ab, 0, none⟩) l.length l) (hlt : ab < w.heap.size) : RowAt w ab l := by
  refine ⟨hlt, fun j v hj => ?_⟩
  have hjl := (List.getElem?_eq_some_iff.1 hj).1
  obtain ⟨ad, e, h⟩ := Kd.at_int hC (j : Int) (by omega) (by omega)
  injection e with e
  subst e
  rw [rd_eq l j hjl, Int.toNat_natCast, (List.getElem?_eq_some_iff.1 hj).2] at h
  have ea : (⟨ab, 0, none⟩ : Addr).add j = ⟨ab, j, none⟩ := by cases j <;> simp [Addr.add]
  rw [ea] at h
  exact h
theorem CountTables {w : World} {b1 b2 : Nat} {k1 k2 : Nat → Prop} (A B : Option Addr) (c c2 : Nat) (rows cols : List Int) (hA : Kd.R (Kd.int .i64) 3 w b1 k1 (.slice A rows.length c) rows) (hB : Kd.R (Kd.int .i64) 3 w b2 k2 (.slice B cols.length c2) cols) :
    Calls Try.prog 19 #[.slice A rows.length c, .slice B cols.length c2] w fun e w' => e = .returned (.tuple #[.int .i64 (if okB rows cols = true then (((tabs rows cols).length : Nat) : Int) else 0), .bool (okB rows cols)]) ∧ Below w.heap.size w w' := by
  have hs := impl_sums rows cols 20 (by omega)
  have rA := Kd.R_reads' hA
  have rB := Kd.R_reads' hB
  cases hok : okB rows cols with
  | false =>
    rw [hok] at hs
    go_enter Try.func19, Try.ntmps19
    go_wp2_with (go_at_call 45; refine (S.impl_areSums.calls 20 _ c rows _ c2 cols false _ rA.2.2 rA.2.1 rB.2.2 rB.2.1 hs).mono ?_; rintro e w1 ⟨rfl, hd1⟩)
    all_goals (go_ret2; exact ⟨rfl, hd1.below⟩)
  | true =>
    rw [hok] at hs
    rw [if_pos rfl]
    obtain ⟨h1, _, _⟩ := ok_facts hok
    obtain ⟨ab, rfl, hab⟩ := made_at hA (List.length_pos_iff.1 (by omega))
    obtain ⟨cb, rfl, hcb⟩ := made_at hB (List.length_pos_iff.1 (by omega))
    have ha := row_at rA.2.2 hab
    have hb := row_at rB.2.2 hcb
    have hct := fun (W : World) (h : Below w.heap.size w W) => countTables W ab c cb c2 rows cols ⟨Nat.lt_of_lt_of_le ha.1 h.size, fun j v hj => (h.cell (p := ⟨ab, j, none⟩) ha.1).trans (ha.2 j v hj)⟩ ⟨Nat.lt_of_lt_of_le hb.1 h.size, fun j v hj => (h.cell (p := ⟨cb, j, none⟩) hb.1).trans (hb.2 j v hj)⟩ hok
    clear hok ha hb h1 hab hcb hA hB
    generalize (((tabs rows cols).length : Nat) : Int) = N at hct ⊢
    go_enter Try.func19, Try.ntmps19
    go_wp2_with (first | (go_at_call 45; refine (S.impl_areSums.calls 20 _ c rows _ c2 cols true _ rA.2.2 rA.2.1 rB.2.2 rB.2.1 hs).mono ?_; rintro e w1 ⟨rfl, hd1⟩) | (go_at_call 46; refine (hct _ hd1.below).mono ?_; rintro e w2 ⟨rfl, hb2⟩))
    all_goals (go_ret2; exact ⟨rfl, hd1.below.trans (hb2.mono hd1.below.size)⟩)
theorem lawCountTables_in (A B : Option Addr) (c c2 : Nat) (rows cols : List Int) (hl : rows.length ≤ 1048576) (hl2 : cols.length ≤ 1048576) (w : World) (hc : rows.length ≤ c) (hc2 : cols.length ≤ c2) (hA : Kd.C (Kd.int .i64) w A rows.length rows) (hB : Kd.C (Kd.int .i64) w B cols.length cols) :
    Calls Try.prog 6 #[.slice A rows.length c, .slice B cols.length c2] w fun e w' => e = .returned (.bool true) ∧ Below w.heap.size w w' := by
  have t1 := to_eq rows hl
  have t2 := to_eq cols hl2
  have q1 := eqi_same rows (by omega) 2000000 (by omega)
  have q2 := eqi_same cols (by omega) 2000000 (by omega)
  have hs := spec_count rows cols
  have hi := fun (w : World) (b1 b2 : Nat) (k1 k2 : Nat → Prop) (A B : Option Addr) (c c2 : Nat) h1 h2 => CountTables (w := w) (b1 := b1) (b2 := b2) (k1 := k1) (k2 := k2) A B c c2 rows cols h1 h2
  generalize (if okB rows cols = true then (((tabs rows cols).length : Nat) : Int) else 0) = N at hs hi
  generalize okB rows cols = b at hs hi
  go_enter Try.func6, Try.ntmps6
  go_wp2_with (go_at_call 18; refine (S.laws_toIntS.calls 2000000 A c rows rows _ hA hc t1).mono ?_; rintro e w1 ⟨v1, rfl, hR1, hb1⟩; obtain ⟨A1, c1, rfl⟩ := Kd.R_slice hR1; refine Hid.out ?_)
  refine Lib.hid ?_
  have hB1 := Kd.C_below hB hb1
  go_wp2_with (go_at_call 18; refine (S.laws_toIntS.calls 2000000 B c2 cols cols _ hB1 hc2 t2).mono ?_; rintro e w2 ⟨v2, rfl, hR2, hb2⟩; obtain ⟨A2, c3, rfl⟩ := Kd.R_slice hR2; refine Hid.out ?_)
  refine Lib.hid ?_
  have hw2 := hb1.trans (hb2.mono hb1.size)
  have r1 := Kd.R_reads' (Kd.R_below hR1 hb2)
  have r2 := Kd.R_reads' hR2
  clear hB1 hR1 hR2
  go_wp2_with (go_at_call 17; refine (S.spec_CountTables.calls 2000000 A1 c1 rows A2 c3 cols N b _ r1.2.2 r1.2.1 r2.2.2 r2.2.1 hs).mono ?_; rintro e w3 ⟨rfl, hb3⟩; refine Hid.out ?_)
  refine Lib.hid ?_
  have hw3 := hw2.trans (hb3.mono hw2.size)
  have hA3 := Kd.C_below hA hw3
  clear r1 r2 hb1 hb2 hw2 hb3
  go_wp2_with (go_at_call 18; refine (S.laws_toIntS.calls 2000000 A c rows rows _ hA3 hc t1).mono ?_; rintro e w4 ⟨v4, rfl, hR4, hb4⟩; obtain ⟨A4, c4, rfl⟩ := Kd.R_slice hR4; refine Hid.out ?_)
  refine Lib.hid ?_
  have hw4 := hw3.trans (hb4.mono hw3.size)
  have hB4 := Kd.C_below hB hw4
  clear hA3 hw3 hb4
  go_wp2_with (go_at_call 18; refine (S.laws_toIntS.calls 2000000 B c2 cols cols _ hB4 hc2 t2).mono ?_; rintro e w5 ⟨v5, rfl, hR5, hb5⟩; obtain ⟨A5, c5, rfl⟩ := Kd.R_slice hR5; refine Hid.out ?_)
  refine Lib.hid ?_
  have hw5 := hw4.trans (hb5.mono hw4.size)
  have hR4b := Kd.R_below hR4 hb5
  clear hB4 hw4 hb5 hR4
  go_wp2_with (go_at_call 19; refine (hi _ _ _ _ _ A4 A5 c4 c5 hR4b hR5).mono ?_; rintro e w6 ⟨rfl, hb6⟩; refine Hid.out ?_)
  refine Lib.hid ?_
  have hw6 := hw5.trans (hb6.mono hw5.size)
  have hR4c := Kd.R_below hR4b hb6
  have hR5c := Kd.R_below hR5 hb6
  have hA6 := Kd.C_below hA hw6
  clear hR4b hR5 hw5 hb6 hi hs
  go_wp2_with (go_at_call 18; refine (S.laws_toIntS.calls 2000000 A c rows rows _ hA6 hc t1).mono ?_; rintro e w7 ⟨v7, rfl, hR7, hb7⟩; obtain ⟨A7, c7, rfl⟩ := Kd.R_slice hR7; refine Hid.out ?_)
  refine Lib.hid ?_
  have hw7 := hw6.trans (hb7.mono hw6.size)
  have r4 := Kd.R_reads' (Kd.R_below hR4c hb7)
  have hR5d := Kd.R_below hR5c hb7
  have r7 := Kd.R_reads' hR7
  clear hA6 hw6 hb7 hR4c hR5c hR7
  go_wp2_with (go_at_call 20; refine (S.laws_eqIntS.calls 2000000 A4 c4 rows A7 c7 rows true _ r4.2.2 r4.2.1 r7.2.2 r7.2.1 q1).mono ?_; rintro e w8 ⟨rfl, hd8⟩; refine Hid.out ?_)
  refine Lib.hid ?_
  have hw8 := hw7.trans (hd8.below.mono hw7.size)
  have hR5e := Kd.R_below hR5d hd8.below
  have hB8 := Kd.C_below hB hw8
  clear r4 r7 hR5d hw7 hd8
  go_wp2_with (go_at_call 18; refine (S.laws_toIntS.calls 2000000 B c2 cols cols _ hB8 hc2 t2).mono ?_; rintro e w9 ⟨v9, rfl, hR9, hb9⟩; obtain ⟨A9, c9, rfl⟩ := Kd.R_slice hR9; refine Hid.out ?_)
  refine Lib.hid ?_
  have hw9 := hw8.trans (hb9.mono hw8.size)
  have r5 := Kd.R_reads' (Kd.R_below hR5e hb9)
  have r9 := Kd.R_reads' hR9
  clear hB8 hw8 hb9 hR5e hR9
  go_wp2_with (go_at_call 20; refine (S.laws_eqIntS.calls 2000000 A5 c5 cols A9 c9 cols true _ r5.2.2 r5.2.1 r9.2.2 r9.2.1 q2).mono ?_; rintro e w10 ⟨rfl, hd10⟩)
  all_goals (go_ret; exact ⟨rfl, hw9.trans (hd10.below.mono hw9.size)⟩)
theorem lawCountTables (A B : Option Addr) (c c2 : Nat) (rows cols : List Int) (w : World) (hc : rows.length ≤ c) (hc2 : cols.length ≤ c2) (hA : Kd.C (Kd.int .i64) w A rows.length rows) (hB : Kd.C (Kd.int .i64) w B cols.length cols) :
    Calls Try.prog 6 #[.slice A rows.length c, .slice B cols.length c2] w fun e w' => e = .returned (.bool true) ∧ Below w.heap.size w w' := by
  by_cases hl : rows.length ≤ 1048576
  · by_cases hl2 : cols.length ≤ 1048576
    · exact lawCountTables_in A B c c2 rows cols hl hl2 w hc hc2 hA hB
    · clear hA hB
      go_enter Try.func6, Try.ntmps6
      go_wp2_with (fail)
      all_goals first | (exfalso; simp at *; omega) | (go_ret; exact ⟨rfl, Below.refl _ _⟩)
  · clear hA hB
    go_enter Try.func6, Try.ntmps6
    go_wp2_with (fail)
    all_goals first | (exfalso; simp at *; omega) | (go_ret; exact ⟨rfl, Below.refl _ _⟩)
end Go.Proofs.Ytcldfmnkeiogdaa
