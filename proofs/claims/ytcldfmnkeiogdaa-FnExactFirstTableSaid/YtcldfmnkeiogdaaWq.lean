/- The walk of impl.tables' own search (a closure that calls itself), with the visitor 68. No condition. -/
import Derived.Test.YtcldfmnkeiogdaaNm
import Derived.Test.YtcldfmnkeiogdaaShA
import Derived.WalkKit
import Derived.BigCall
import Derived.LoopTactic
import Derived.Lib.Hide
import Derived.Deep.RegionHeld3
import Derived.Deep.RegionWith
import Derived.Deep.QuietTactic
namespace Go.Proofs.Ytcldfmnkeiogdaa
open Go.RowKit S Go.Proofs.YtcldfmnkeiogdaaW.PrintWords Go.Proofs.YtcldfmnkeiogdaaW.PrintLast Go.Proofs.YtcldfmnkeiogdaaW.PrintMore
section
variable {σ : Type} (step : σ → Int → σ × Bool) (X : σ → World → Prop) (W0 : World) (ab c : Nat) (rows : List Int) (n cl br bn bl bv bf g bc bd : Nat)
  (hX0 : ∀ s w w', w'.heap = w.heap → X s w → X s w') (hXg : ∀ s w w', (∀ k, k ≠ g → w'.heap[k]? = w.heap[k]?) → X s w → X s w')
  (hne : br ≠ g ∧ bn ≠ g ∧ bl ≠ g ∧ bv ≠ g ∧ bf ≠ g) (hg0 : W0.heap.size ≤ g) (hn0 : 0 < n) (hn4 : n ≤ 4)
include hX0 hXg hne hg0 hn0 hn4
set_option maxHeartbeats 2000000 in
/-- in the midst of a row -/
theorem inrow68 (k i : Nat) (pre cs : List Int) (c0 row mask : Int) (s s1 s2 : σ) (b1 b2 : Bool) (w : World) (hk : pre.length = k) (hkn : k < n) (hk0 : 0 < k) (hi : Int.tmod (i : Int) (n : Int) = (k : Int)) (hi1 : (i : Int) ≤ 100) (hr0 : 0 ≤ row) (hr4 : row ≤ 4) (hc0 : 0 ≤ c0) (hc4 : c0 ≤ 4)
    (hm : Mem X W0 (some ⟨ab, 0, none⟩) c rows n cl br bn bl bv bf g (.func (.func 68) #[] #[.pointer (some ⟨bc, 0, none⟩), .pointer (some ⟨bd, 0, none⟩)]) (.func (.func 81) #[] #[.pointer (some ⟨bn, 0, none⟩), .pointer (some ⟨br, 0, none⟩), .pointer (some ⟨bl, 0, none⟩), .pointer (some ⟨bv, 0, none⟩), .pointer (some ⟨bf, 0, none⟩)]) (pre ++ c0 :: cs) (s) w)
    (ih1 : Calls Try.prog 81 #[.int .i64 ((i : Int) + 1), .int .i64 (row), .int .u64 (mask), .pointer (some ⟨bn, 0, none⟩), .pointer (some ⟨br, 0, none⟩), .pointer (some ⟨bl, 0, none⟩), .pointer (some ⟨bv, 0, none⟩), .pointer (some ⟨bf, 0, none⟩)] w fun e w' => e = .returned (.bool b1) ∧ Mem X W0 (some ⟨ab, 0, none⟩) c rows n cl br bn bl bv bf g (.func (.func 68) #[] #[.pointer (some ⟨bc, 0, none⟩), .pointer (some ⟨bd, 0, none⟩)]) (.func (.func 81) #[] #[.pointer (some ⟨bn, 0, none⟩), .pointer (some ⟨br, 0, none⟩), .pointer (some ⟨bl, 0, none⟩), .pointer (some ⟨bv, 0, none⟩), .pointer (some ⟨bf, 0, none⟩)]) (pre ++ c0 :: cs) (s1) w')
    (ih2 : row ≠ 0 → c0 ≠ 0 → ∀ w, Mem X W0 (some ⟨ab, 0, none⟩) c rows n cl br bn bl bv bf g (.func (.func 68) #[] #[.pointer (some ⟨bc, 0, none⟩), .pointer (some ⟨bd, 0, none⟩)]) (.func (.func 81) #[] #[.pointer (some ⟨bn, 0, none⟩), .pointer (some ⟨br, 0, none⟩), .pointer (some ⟨bl, 0, none⟩), .pointer (some ⟨bv, 0, none⟩), .pointer (some ⟨bf, 0, none⟩)]) (pre ++ (c0 - 1) :: cs) (s1) w → Calls Try.prog 81 #[.int .i64 ((i : Int) + 1), .int .i64 (row - 1), .int .u64 (orI mask i), .pointer (some ⟨bn, 0, none⟩), .pointer (some ⟨br, 0, none⟩), .pointer (some ⟨bl, 0, none⟩), .pointer (some ⟨bv, 0, none⟩), .pointer (some ⟨bf, 0, none⟩)] w fun e w' => e = .returned (.bool b2) ∧ Mem X W0 (some ⟨ab, 0, none⟩) c rows n cl br bn bl bv bf g (.func (.func 68) #[] #[.pointer (some ⟨bc, 0, none⟩), .pointer (some ⟨bd, 0, none⟩)]) (.func (.func 81) #[] #[.pointer (some ⟨bn, 0, none⟩), .pointer (some ⟨br, 0, none⟩), .pointer (some ⟨bl, 0, none⟩), .pointer (some ⟨bv, 0, none⟩), .pointer (some ⟨bf, 0, none⟩)]) (pre ++ (c0 - 1) :: cs) (s2) w') :
    Calls Try.prog 81 #[.int .i64 (i : Int), .int .i64 (row), .int .u64 (mask), .pointer (some ⟨bn, 0, none⟩), .pointer (some ⟨br, 0, none⟩), .pointer (some ⟨bl, 0, none⟩), .pointer (some ⟨bv, 0, none⟩), .pointer (some ⟨bf, 0, none⟩)] w fun e w' => ResP b1 b2 row c0 e (Mem X W0 (some ⟨ab, 0, none⟩) c rows n cl br bn bl bv bf g (.func (.func 68) #[] #[.pointer (some ⟨bc, 0, none⟩), .pointer (some ⟨bd, 0, none⟩)]) (.func (.func 81) #[] #[.pointer (some ⟨bn, 0, none⟩), .pointer (some ⟨br, 0, none⟩), .pointer (some ⟨bl, 0, none⟩), .pointer (some ⟨bv, 0, none⟩), .pointer (some ⟨bf, 0, none⟩)]) (pre ++ c0 :: cs) (s1) w') (Mem X W0 (some ⟨ab, 0, none⟩) c rows n cl br bn bl bv bf g (.func (.func 68) #[] #[.pointer (some ⟨bc, 0, none⟩), .pointer (some ⟨bd, 0, none⟩)]) (.func (.func 81) #[] #[.pointer (some ⟨bn, 0, none⟩), .pointer (some ⟨br, 0, none⟩), .pointer (some ⟨bl, 0, none⟩), .pointer (some ⟨bv, 0, none⟩), .pointer (some ⟨bf, 0, none⟩)]) (pre ++ c0 :: cs) (s2) w') := by
  obtain ⟨c1, c2, c3, c4, c5⟩ := hm.cr
  have hkz : ((k : Int) == 0) = false := by rw [beq_eq_false_iff_ne]; omega
  have hnz : (n : Int) ≠ 0 := by omega
  have hi0 : (0 : Int) ≤ (i : Int) := by omega
  have hkn1 : (k : Int) < (n : Int) := by omega
  have hkn2 : (0 : Int) ≤ (k : Int) := by omega
  have hget : (pre ++ c0 :: cs)[k]? = some c0 := by rw [List.getElem?_append_right (by omega), hk, Nat.sub_self]; rfl
  clear hm
  cases b1 with
  | false =>
    clear ih2
    go_enter Try.func81, Try.ntmps81
    go_wp2_with (go_at_call 81; refine ih1.mono ?_; rintro e w1 ⟨rfl, hm1⟩)
    all_goals (go_ret; exact Or.inl ⟨rfl, rfl, hm1⟩)
  | true =>
    go_enter Try.func81, Try.ntmps81
    go_wp2_with (go_at_call 81; refine ih1.mono ?_; rintro e w1 ⟨rfl, hm1⟩; refine Hid.out ?_)
    refine Lib.hid ?_
    clear ih1 c1 c2 c3 c4 c5
    obtain ⟨d1, d2, d3, d4, d5⟩ := hm1.cr
    obtain ⟨d6, d7⟩ := hm1.cg k c0 hget
    have HM := Lib.hid hm1
    clear hm1
    have hnz2 : (n : Int) ≠ 0 := hnz
    by_cases hrow : row = 0
    · subst hrow
      clear ih2
      go_wp2_with (fail)
      go_quiet (fail)
      go_wp2
      all_goals (go_ret; exact Or.inr (Or.inl ⟨rfl, Or.inl rfl, rfl, HM.out.drewN hX0 nq⟩))
    · have hrb : (row == 0) = false := by rw [beq_eq_false_iff_ne]; exact hrow
      by_cases hl0 : c0 = 0
      · subst hl0
        clear ih2
        go_wp2_with (fail)
        go_quiet (fail)
        go_wp2
        all_goals (go_ret; exact Or.inr (Or.inl ⟨rfl, Or.inr rfl, rfl, HM.out.drewN hX0 nq⟩))
      · have hlb : (c0 == 0) = false := by rw [beq_eq_false_iff_ne]; exact hl0
        have ih3 := ih2 hrow hl0
        clear ih2
        unfold orI at ih3
        have ih3 := Lib.hid ih3
        have hl1 : 1 ≤ c0 := by omega
        have hr1 : 1 ≤ row := by omega
        go_wp2_with (fail)
        go_quiet (fail)
        go_wp2_with (fail)
        have HM2 := Lib.hid (HM.out.drewN hX0 nq)
        clear HM
        have D2 : (w1.drewN nq).cell? ⟨bn, 0, none⟩ = some (.int .i64 n) := d2
        have D3 : (w1.drewN nq).cell? ⟨bl, 0, none⟩ = some (.slice (some ⟨g, 0, none⟩) n cl) := d3
        have D6 : (w1.drewN nq).cell? ⟨g, k, none⟩ = some (.int .i64 c0) := d6
        have D7 : (w1.drewN nq).frozen? ⟨g, k, none⟩ = false := d7
        clear d1 d2 d3 d4 d5 d6 d7
        generalize w1.drewN nq = w2 at HM2 D2 D3 D6 D7 ⊢
        obtain ⟨hne1, hne2, hne3, hne4, hne5⟩ := id hne
        have hne2' := hne2.symm
        have hne3' := hne3.symm
        go_region
        have HM3 := HM2.out.set (v := c0 - 1) hXg hne hg0
        rw [hk] at HM3
        have HM3 := Lib.hid (HM3.drew hX0)
        clear HM2 D2 D3 D6 D7
        generalize (w2.setCell ⟨g, k, none⟩ (.int .i64 (c0 - 1))).drew = w3 at HM3 ⊢
        have HM3d := Lib.hid (HM3.out.drew hX0)
        obtain ⟨f1, f2, f3, f4, f5⟩ := HM3.out.cr
        go_wp2_with (fail)
        go_region_with (go_at_call 81; rw [iwrap ((i : Int) + 1) (by omega) (by omega), iwrap (row - 1) (by omega) (by omega)]; refine (ih3.out _ HM3d.out).mono ?_; rintro e w4 ⟨rfl, hm4⟩)
        clear f1 f2 f3 f4 f5 HM3 HM3d ih3
        obtain ⟨d1, d2, d3, d4, d5⟩ := hm4.cr
        obtain ⟨d6, d7⟩ := hm4.cg k (c0 - 1) (by rw [List.getElem?_append_right (by omega), hk, Nat.sub_self]; rfl)
        have HM4 := Lib.hid hm4
        clear hm4
        have hnN : n ≠ 0 := by omega
        simp only [Act.put, List.getElem_toArray, List.getElem_cons_succ, List.getElem_cons_zero, List.setIfInBounds_toArray, List.set_cons_succ, List.set_cons_zero]
        go_wp2_with (fail)
        go_region
        have HM5 := HM4.out.set (v := c0) hXg hne hg0
        rw [hk] at HM5
        have HM5 := Lib.hid (HM5.drew hX0)
        clear HM4 d1 d2 d3 d4 d5 d6 d7
        go_wp2_with (fail)
        all_goals (go_ret; exact Or.inr (Or.inr ⟨rfl, hrow, hl0, rfl, HM5.out⟩))


set_option maxHeartbeats 2000000 in
/-- at a row's begin -/
theorem begin68 (k i q : Nat) (N : Nat) (pre cs : List Int) (c0 row mask : Int) (s s1 s2 : σ) (b1 b2 : Bool) (w : World) (hk : pre.length = k) (hkn : k < n) (hk0 : k = 0) (hi : Int.tmod (i : Int) (n : Int) = (k : Int)) (hq : Int.tdiv (i : Int) (n : Int) = (q : Int)) (hi1 : (i : Int) ≤ 100) (hr0 : 0 ≤ row) (hr4 : row ≤ 4) (hc0 : 0 ≤ c0) (hc4 : c0 ≤ 4)
    (hqr : q < rows.length) (hqb : (q : Int) ≤ 100) (hN : (rows.length : Int) * (n : Int) = (N : Int)) (hNb : (N : Int) ≤ 100) (hiN : i ≠ N)
    (hrow0 : w.cell? ⟨ab, q, none⟩ = some (.int .i64 row))
    (hm : Mem X W0 (some ⟨ab, 0, none⟩) c rows n cl br bn bl bv bf g (.func (.func 68) #[] #[.pointer (some ⟨bc, 0, none⟩), .pointer (some ⟨bd, 0, none⟩)]) (.func (.func 81) #[] #[.pointer (some ⟨bn, 0, none⟩), .pointer (some ⟨br, 0, none⟩), .pointer (some ⟨bl, 0, none⟩), .pointer (some ⟨bv, 0, none⟩), .pointer (some ⟨bf, 0, none⟩)]) (pre ++ c0 :: cs) (s) w)
    (ih1 : ∀ w, Mem X W0 (some ⟨ab, 0, none⟩) c rows n cl br bn bl bv bf g (.func (.func 68) #[] #[.pointer (some ⟨bc, 0, none⟩), .pointer (some ⟨bd, 0, none⟩)]) (.func (.func 81) #[] #[.pointer (some ⟨bn, 0, none⟩), .pointer (some ⟨br, 0, none⟩), .pointer (some ⟨bl, 0, none⟩), .pointer (some ⟨bv, 0, none⟩), .pointer (some ⟨bf, 0, none⟩)]) (pre ++ c0 :: cs) (s) w → Calls Try.prog 81 #[.int .i64 ((i : Int) + 1), .int .i64 (row), .int .u64 (mask), .pointer (some ⟨bn, 0, none⟩), .pointer (some ⟨br, 0, none⟩), .pointer (some ⟨bl, 0, none⟩), .pointer (some ⟨bv, 0, none⟩), .pointer (some ⟨bf, 0, none⟩)] w fun e w' => e = .returned (.bool b1) ∧ Mem X W0 (some ⟨ab, 0, none⟩) c rows n cl br bn bl bv bf g (.func (.func 68) #[] #[.pointer (some ⟨bc, 0, none⟩), .pointer (some ⟨bd, 0, none⟩)]) (.func (.func 81) #[] #[.pointer (some ⟨bn, 0, none⟩), .pointer (some ⟨br, 0, none⟩), .pointer (some ⟨bl, 0, none⟩), .pointer (some ⟨bv, 0, none⟩), .pointer (some ⟨bf, 0, none⟩)]) (pre ++ c0 :: cs) (s1) w')
    (ih2 : row ≠ 0 → c0 ≠ 0 → ∀ w, Mem X W0 (some ⟨ab, 0, none⟩) c rows n cl br bn bl bv bf g (.func (.func 68) #[] #[.pointer (some ⟨bc, 0, none⟩), .pointer (some ⟨bd, 0, none⟩)]) (.func (.func 81) #[] #[.pointer (some ⟨bn, 0, none⟩), .pointer (some ⟨br, 0, none⟩), .pointer (some ⟨bl, 0, none⟩), .pointer (some ⟨bv, 0, none⟩), .pointer (some ⟨bf, 0, none⟩)]) (pre ++ (c0 - 1) :: cs) (s1) w → Calls Try.prog 81 #[.int .i64 ((i : Int) + 1), .int .i64 (row - 1), .int .u64 (orI mask i), .pointer (some ⟨bn, 0, none⟩), .pointer (some ⟨br, 0, none⟩), .pointer (some ⟨bl, 0, none⟩), .pointer (some ⟨bv, 0, none⟩), .pointer (some ⟨bf, 0, none⟩)] w fun e w' => e = .returned (.bool b2) ∧ Mem X W0 (some ⟨ab, 0, none⟩) c rows n cl br bn bl bv bf g (.func (.func 68) #[] #[.pointer (some ⟨bc, 0, none⟩), .pointer (some ⟨bd, 0, none⟩)]) (.func (.func 81) #[] #[.pointer (some ⟨bn, 0, none⟩), .pointer (some ⟨br, 0, none⟩), .pointer (some ⟨bl, 0, none⟩), .pointer (some ⟨bv, 0, none⟩), .pointer (some ⟨bf, 0, none⟩)]) (pre ++ (c0 - 1) :: cs) (s2) w') :
    Calls Try.prog 81 #[.int .i64 (i : Int), .int .i64 (0), .int .u64 (mask), .pointer (some ⟨bn, 0, none⟩), .pointer (some ⟨br, 0, none⟩), .pointer (some ⟨bl, 0, none⟩), .pointer (some ⟨bv, 0, none⟩), .pointer (some ⟨bf, 0, none⟩)] w fun e w' => ResP b1 b2 row c0 e (Mem X W0 (some ⟨ab, 0, none⟩) c rows n cl br bn bl bv bf g (.func (.func 68) #[] #[.pointer (some ⟨bc, 0, none⟩), .pointer (some ⟨bd, 0, none⟩)]) (.func (.func 81) #[] #[.pointer (some ⟨bn, 0, none⟩), .pointer (some ⟨br, 0, none⟩), .pointer (some ⟨bl, 0, none⟩), .pointer (some ⟨bv, 0, none⟩), .pointer (some ⟨bf, 0, none⟩)]) (pre ++ c0 :: cs) (s1) w') (Mem X W0 (some ⟨ab, 0, none⟩) c rows n cl br bn bl bv bf g (.func (.func 68) #[] #[.pointer (some ⟨bc, 0, none⟩), .pointer (some ⟨bd, 0, none⟩)]) (.func (.func 81) #[] #[.pointer (some ⟨bn, 0, none⟩), .pointer (some ⟨br, 0, none⟩), .pointer (some ⟨bl, 0, none⟩), .pointer (some ⟨bv, 0, none⟩), .pointer (some ⟨bf, 0, none⟩)]) (pre ++ c0 :: cs) (s2) w') := by
  obtain ⟨c1, c2, c3, c4, c5⟩ := hm.cr
  have hkz : ((k : Int) == 0) = true := by rw [hk0]; rfl
  have hnN0 : n ≠ 0 := by omega
  have hiN2 : ((i : Int) == (N : Int)) = false := by rw [beq_eq_false_iff_ne]; omega
  have hnz : (n : Int) ≠ 0 := by omega
  have hi0 : (0 : Int) ≤ (i : Int) := by omega
  have hkn1 : (k : Int) < (n : Int) := by omega
  have hkn2 : (0 : Int) ≤ (k : Int) := by omega
  have hqr1 : (q : Int) < (rows.length : Int) := by omega
  have hqr2 : (0 : Int) ≤ (q : Int) := by omega
  have hget : (pre ++ c0 :: cs)[k]? = some c0 := by rw [List.getElem?_append_right (by omega), hk, Nat.sub_self]; rfl
  have Hm := Lib.hid hm
  have Ih1 := Lib.hid ih1
  have Hk0 := Lib.hid hk0
  have HiN := Lib.hid hiN
  clear hm ih1 hk0 hiN
  cases b1 with
  | false =>
    clear ih2
    go_enter Try.func81, Try.ntmps81
    go_wp2_with (fail)
    go_quiet (fail)
    have HM0 := Lib.hid (Hm.out.drewN hX0 nq)
    obtain ⟨c1, c2, c3, c4, c5⟩ := HM0.out.cr
    go_wp2_with (go_at_call 81; refine (Ih1.out _ HM0.out).mono ?_; rintro e w1 ⟨rfl, hm1⟩)
    all_goals (go_ret; exact Or.inl ⟨rfl, rfl, hm1⟩)
  | true =>
    go_enter Try.func81, Try.ntmps81
    go_wp2_with (fail)
    go_quiet (fail)
    have HM0 := Lib.hid (Hm.out.drewN hX0 nq)
    obtain ⟨c1, c2, c3, c4, c5⟩ := HM0.out.cr
    go_wp2_with (go_at_call 81; refine (Ih1.out _ HM0.out).mono ?_; rintro e w1 ⟨rfl, hm1⟩; refine Hid.out ?_)
    refine Lib.hid ?_
    clear Ih1 c1 c2 c3 c4 c5 HM0 Hm
    obtain ⟨d1, d2, d3, d4, d5⟩ := hm1.cr
    obtain ⟨d6, d7⟩ := hm1.cg k c0 hget
    have HM := Lib.hid hm1
    clear hm1
    have hnz2 : (n : Int) ≠ 0 := hnz
    by_cases hrow : row = 0
    · subst hrow
      clear ih2
      go_wp2_with (fail)
      go_quiet (fail)
      go_wp2
      all_goals (go_ret; exact Or.inr (Or.inl ⟨rfl, Or.inl rfl, rfl, HM.out.drewN hX0 nq⟩))
    · have hrb : (row == 0) = false := by rw [beq_eq_false_iff_ne]; exact hrow
      by_cases hl0 : c0 = 0
      · subst hl0
        clear ih2
        go_wp2_with (fail)
        go_quiet (fail)
        go_wp2
        all_goals (go_ret; exact Or.inr (Or.inl ⟨rfl, Or.inr rfl, rfl, HM.out.drewN hX0 nq⟩))
      · have hlb : (c0 == 0) = false := by rw [beq_eq_false_iff_ne]; exact hl0
        have ih3 := ih2 hrow hl0
        clear ih2
        unfold orI at ih3
        have ih3 := Lib.hid ih3
        have hl1 : 1 ≤ c0 := by omega
        have hr1 : 1 ≤ row := by omega
        go_wp2_with (fail)
        go_quiet (fail)
        go_wp2_with (fail)
        have HM2 := Lib.hid (HM.out.drewN hX0 nq)
        clear HM
        have D2 : (w1.drewN nq).cell? ⟨bn, 0, none⟩ = some (.int .i64 n) := d2
        have D3 : (w1.drewN nq).cell? ⟨bl, 0, none⟩ = some (.slice (some ⟨g, 0, none⟩) n cl) := d3
        have D6 : (w1.drewN nq).cell? ⟨g, k, none⟩ = some (.int .i64 c0) := d6
        have D7 : (w1.drewN nq).frozen? ⟨g, k, none⟩ = false := d7
        clear d1 d2 d3 d4 d5 d6 d7
        generalize w1.drewN nq = w2 at HM2 D2 D3 D6 D7 ⊢
        obtain ⟨hne1, hne2, hne3, hne4, hne5⟩ := id hne
        have hne2' := hne2.symm
        have hne3' := hne3.symm
        go_region
        have HM3 := HM2.out.set (v := c0 - 1) hXg hne hg0
        rw [hk] at HM3
        have HM3 := Lib.hid (HM3.drew hX0)
        clear HM2 D2 D3 D6 D7
        generalize (w2.setCell ⟨g, k, none⟩ (.int .i64 (c0 - 1))).drew = w3 at HM3 ⊢
        have HM3d := Lib.hid (HM3.out.drew hX0)
        obtain ⟨f1, f2, f3, f4, f5⟩ := HM3.out.cr
        go_wp2_with (fail)
        go_region_with (go_at_call 81; rw [iwrap ((i : Int) + 1) (by omega) (by omega), iwrap (row - 1) (by omega) (by omega)]; refine (ih3.out _ HM3d.out).mono ?_; rintro e w4 ⟨rfl, hm4⟩)
        clear f1 f2 f3 f4 f5 HM3 HM3d ih3
        obtain ⟨d1, d2, d3, d4, d5⟩ := hm4.cr
        obtain ⟨d6, d7⟩ := hm4.cg k (c0 - 1) (by rw [List.getElem?_append_right (by omega), hk, Nat.sub_self]; rfl)
        have HM4 := Lib.hid hm4
        clear hm4
        have hnN : n ≠ 0 := by omega
        simp only [Act.put, List.getElem_toArray, List.getElem_cons_succ, List.getElem_cons_zero, List.setIfInBounds_toArray, List.set_cons_succ, List.set_cons_zero]
        go_wp2_with (fail)
        go_region
        have HM5 := HM4.out.set (v := c0) hXg hne hg0
        rw [hk] at HM5
        have HM5 := Lib.hid (HM5.drew hX0)
        clear HM4 d1 d2 d3 d4 d5 d6 d7
        go_wp2_with (fail)
        all_goals (go_ret; exact Or.inr (Or.inr ⟨rfl, hrow, hl0, rfl, HM5.out⟩))

end
end Go.Proofs.Ytcldfmnkeiogdaa
