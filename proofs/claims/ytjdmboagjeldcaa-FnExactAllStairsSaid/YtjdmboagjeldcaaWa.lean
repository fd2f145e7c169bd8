/- The count of staircases in a box (impl.box.countStairs), walked. No condition beyond the bounds. -/
import Derived.Test.YtjdmboagjeldcaaNa
import Derived.WalkKit
import Derived.BigCall
import Derived.LoopTactic
import Derived.Lib.Hide
import Derived.Deep.QuietTactic
import Derived.Deep.RegionWith
namespace Go.Proofs.Ytjdmboagjeldcaa
open Go.RowKit S Go.Proofs.YtjdmboagjeldcaaW.PrintWords Go.Proofs.YtjdmboagjeldcaaW.PrintLast Go.Proofs.YtjdmboagjeldcaaW.PrintMore
def stC (y z : Nat) : Nat → Nat × Nat
  | 0 => (1, 1)
  | n + 1 =>
    let o := (stC y z n).1 * (n / y + n % y + 1 + z)
    let u := (stC y z n).2 * (n / y + n % y + 1)
    (o / Nat.gcd o u, u / Nat.gcd o u)
def countC (x y z : Nat) : Nat := (stC y z (x * y)).1 / (stC y z (x * y)).2
theorem st_all : ((List.range 5).all fun y => (List.range 5).all fun z => (List.range 17).all fun n => y == 0 || (decide (0 < (stC y z n).1) && decide ((stC y z n).1 ≤ 1000000000) && decide (0 < (stC y z n).2) && decide ((stC y z n).2 ≤ 1000000000))) = true := by decide +kernel
theorem st_small {y z n : Nat} (hy0 : 0 < y) (hy : y ≤ 4) (hz : z ≤ 4) (hn : n ≤ 16) : 0 < (stC y z n).1 ∧ (stC y z n).1 ≤ 1000000000 ∧ 0 < (stC y z n).2 ∧ (stC y z n).2 ≤ 1000000000 := by
  have h := List.all_eq_true.1 (List.all_eq_true.1 (List.all_eq_true.1 st_all y (List.mem_range.2 (by omega))) z (List.mem_range.2 (by omega))) n (List.mem_range.2 (by omega))
  have hb : (y == 0) = false := by rw [beq_eq_false_iff_ne]; omega
  rw [hb, Bool.false_or] at h
  simp only [Bool.and_eq_true, decide_eq_true_eq] at h
  omega
theorem few_all : ((List.range 4).all fun x => (List.range 4).all fun y => (List.range 4).all fun z => decide (spec_l5Few.f 3000 ((x + 1 : Nat) : Int) ((y + 1 : Nat) : Int) ((z + 1 : Nat) : Int) = some (decide (countC (x + 1) (y + 1) (z + 1) ≤ 1000)))) = true := by decide +kernel
theorem few_closed {x y z : Nat} (hx0 : 0 < x) (hx : x ≤ 4) (hy0 : 0 < y) (hy : y ≤ 4) (hz0 : 0 < z) (hz : z ≤ 4) : spec_l5Few.f 3000 (x : Int) (y : Int) (z : Int) = some (decide (countC x y z ≤ 1000)) := by
  have h := List.all_eq_true.1 (List.all_eq_true.1 (List.all_eq_true.1 few_all (x - 1) (List.mem_range.2 (by omega))) (y - 1) (List.mem_range.2 (by omega))) (z - 1) (List.mem_range.2 (by omega))
  rw [decide_eq_true_eq, show x - 1 + 1 = x by omega, show y - 1 + 1 = y by omega, show z - 1 + 1 = z by omega] at h
  exact h
/-- a box's three sides, in a world -/
def BoxAt (w : World) (b : Nat) (x y z : Int) : Prop := w.cell? ⟨b, 0, none⟩ = some (.int .i64 x) ∧ w.cell? ⟨b, 1, none⟩ = some (.int .i64 y) ∧ w.cell? ⟨b, 2, none⟩ = some (.int .i64 z)
theorem st_step {y z n k : Nat} (hk : k < y) : stC y z (n * y + k + 1) = ((stC y z (n * y + k)).1 * (n + k + 1 + z) / Nat.gcd ((stC y z (n * y + k)).1 * (n + k + 1 + z)) ((stC y z (n * y + k)).2 * (n + k + 1)), (stC y z (n * y + k)).2 * (n + k + 1) / Nat.gcd ((stC y z (n * y + k)).1 * (n + k + 1 + z)) ((stC y z (n * y + k)).2 * (n + k + 1))) := by
  have h1 : (n * y + k) / y = n := by
    rw [Nat.mul_comm, Nat.mul_add_div (by omega), Nat.div_eq_of_lt hk, Nat.add_zero]
  have h2 : (n * y + k) % y = k := by
    rw [Nat.mul_comm, Nat.mul_add_mod, Nat.mod_eq_of_lt hk]
  rw [stC, h1, h2]
set_option maxRecDepth 100000 in
set_option maxHeartbeats 4000000 in
theorem countStairs (x y z : Nat) (hx : x ≤ 4) (hy0 : 0 < y) (hy : y ≤ 4) (hz : z ≤ 4) (w : World) :
    Calls Try.prog 34 #[.agg #[.int .i64 x, .int .i64 y, .int .i64 z]] w fun e w' => e = .returned (.int .i64 ((countC x y z : Nat) : Int)) ∧ Below w.heap.size w w' := by
  have hw1 : Below w.heap.size w (w.alloc (.cells #[.int .i64 x, .int .i64 y, .int .i64 z] 39)) := below_alloc (Below.refl _ _) _
  have hb1 : BoxAt (w.alloc (.cells #[.int .i64 x, .int .i64 y, .int .i64 z] 39)) w.heap.size x y z := by
    have hb : (w.alloc (.cells #[.int .i64 x, .int .i64 y, .int .i64 z] 39)).heap[w.heap.size]? = some (.cells #[.int .i64 x, .int .i64 y, .int .i64 z] 39 (0, 0)) := by simp only [World.alloc]; rw [Array.getElem?_push, if_pos rfl]
    refine ⟨?_, ?_, ?_⟩ <;> (unfold World.cell?; rw [hb]; rfl)
  obtain ⟨R, hR⟩ : ∃ R : Nat, countC x y z = R := ⟨_, rfl⟩
  rw [hR]
  have HR := Lib.hid hR
  clear hR
  have h0 : stC y z (0 * y) = (1, 1) := by rw [Nat.zero_mul]; rfl
  have Hb1 := Lib.hid hb1
  have Hw1 := Lib.hid hw1
  have H0 := Lib.hid h0
  clear hb1 hw1 h0
  go_enter Try.func34, Try.ntmps34
  go_wp2_with (fail)
  go_loopw [3, 4, 11] (fun o u i wr => ∃ n : Nat, n ≤ x ∧ i = .int .i64 n ∧ o = .int .i64 ((stC y z (n * y)).1 : Int) ∧ u = .int .i64 ((stC y z (n * y)).2 : Int) ∧ BoxAt wr w.heap.size x y z ∧ Below w.heap.size w wr) (fun _ _ i _ => x - (intOf i).toNat)
  case atStart => exact ⟨0, Nat.zero_le _, rfl, by rw [H0.out]; rfl, by rw [H0.out]; rfl, Hb1.out, Hw1.out⟩
  case round =>
    obtain ⟨n, hn, rfl, rfl, rfl, hbx, hbw⟩ := hrel
    by_cases hnx : n < x
    · have hnx2 : (n : Int) < (x : Int) := by omega
      have hc2 := hbx.2.1
      have Hbx := Lib.hid hbx
      have Hbw := Lib.hid hbw
      clear hbx hbw
      go_wp2_with (fail)
      go_loopw [3, 4, 16] (fun o u i wr => ∃ k : Nat, k ≤ y ∧ i = .int .i64 k ∧ o = .int .i64 ((stC y z (n * y + k)).1 : Int) ∧ u = .int .i64 ((stC y z (n * y + k)).2 : Int) ∧ BoxAt wr w.heap.size x y z ∧ Below w.heap.size w wr) (fun _ _ i _ => y - (intOf i).toNat)
      case atStart => exact ⟨0, Nat.zero_le _, rfl, rfl, rfl, Hbx.out, Hbw.out⟩
      case round =>
        obtain ⟨k, hk, rfl, rfl, rfl, hbx2, hbw2⟩ := hrel
        clear Hbx Hbw hc2
        by_cases hky : k < y
        · have hky2 : (k : Int) < (y : Int) := by omega
          have hst := st_step (z := z) (n := n) hky
          have hi16 : n * y + k ≤ 16 := by
            have : n * y ≤ 3 * 4 := Nat.mul_le_mul (by omega) hy
            omega
          have hsm := st_small hy0 hy hz hi16
          generalize (stC y z (n * y + k)).1 = O at hst hsm
          generalize (stC y z (n * y + k)).2 = U at hst hsm
          obtain ⟨O2, hO2, hO2e⟩ : ∃ O2 : Nat, (O : Int) * ((n : Int) + (k : Int) + 1 + (z : Int)) = (O2 : Int) ∧ O2 = O * (n + k + 1 + z) := ⟨O * (n + k + 1 + z), by simp, rfl⟩
          obtain ⟨U2, hU2, hU2e⟩ : ∃ U2 : Nat, (U : Int) * ((n : Int) + (k : Int) + 1) = (U2 : Int) ∧ U2 = U * (n + k + 1) := ⟨U * (n + k + 1), by simp, rfl⟩
          rw [← hO2e, ← hU2e] at hst
          have hO2p : 0 < O2 := by rw [hO2e]; exact Nat.mul_pos hsm.1 (by omega)
          have hU2p : 0 < U2 := by rw [hU2e]; exact Nat.mul_pos hsm.2.2.1 (by omega)
          have hO2b : (O2 : Int) ≤ 20000000000 := by
            have : O2 ≤ 1000000000 * 12 := by rw [hO2e]; exact Nat.mul_le_mul hsm.2.1 (by omega)
            omega
          have hU2b : (U2 : Int) ≤ 20000000000 := by
            have : U2 ≤ 1000000000 * 12 := by rw [hU2e]; exact Nat.mul_le_mul hsm.2.2.2 (by omega)
            omega
          have hn4 : (n : Int) ≤ 4 := by omega
          have hk4 : (k : Int) ≤ 4 := by omega
          have hz4 : (z : Int) ≤ 4 := by omega
          have hc3 := hbx2.2.2
          have Hst := Lib.hid hst
          have Hbx2 := Lib.hid hbx2
          have Hbw2 := Lib.hid hbw2
          clear hst hbx2 hbw2 hO2e hU2e hsm hi16
          go_wp2_with (fail)
          go_loopw [7, 8] (fun a b wr => ∃ A B : Nat, a = .int .i64 A ∧ b = .int .i64 B ∧ 0 < A ∧ Nat.gcd A B = Nat.gcd O2 U2 ∧ (A : Int) ≤ 20000000000 ∧ (B : Int) ≤ 20000000000 ∧ BoxAt wr w.heap.size x y z ∧ Below w.heap.size w wr) (fun _ b _ => (intOf b).toNat)
          case atStart => exact ⟨O2, U2, rfl, rfl, hO2p, rfl, hO2b, hU2b, Hbx2.out, Hbw2.out⟩
          case round =>
            obtain ⟨A, B, rfl, rfl, hA0, hg, hAb, hBb, hbx3, hbw3⟩ := hrel
            clear Hbx2 Hbw2
            have Hbx3 := Lib.hid hbx3
            have Hbw3 := Lib.hid hbw3
            have Hg := Lib.hid hg
            clear hbx3 hbw3 hg
            by_cases hB0 : B = 0
            · subst hB0
              have hAg : A = Nat.gcd O2 U2 := by rw [← Hg.out, Nat.gcd_zero_right]
              have hA1 : (A : Int) ≠ 0 := by omega
              have hA2 : A ≠ 0 := by omega
              obtain ⟨O3, hO3, hO3e⟩ : ∃ O3 : Nat, Int.tdiv (O2 : Int) (A : Int) = (O3 : Int) ∧ O3 = O2 / A := ⟨O2 / A, (Int.ofNat_tdiv O2 A).symm, rfl⟩
              obtain ⟨U3, hU3, hU3e⟩ : ∃ U3 : Nat, Int.tdiv (U2 : Int) (A : Int) = (U3 : Int) ∧ U3 = U2 / A := ⟨U2 / A, (Int.ofNat_tdiv U2 A).symm, rfl⟩
              have hO3' : (O2 : Int) / (A : Int) = (O3 : Int) := by rw [hO3e]; simp
              have hU3' : (U2 : Int) / (A : Int) = (U3 : Int) := by rw [hU3e]; simp
              have hO3b : (O3 : Int) ≤ 20000000000 := by
                have : O2 / A ≤ O2 := Nat.div_le_self _ _
                omega
              have hU3b : (U3 : Int) ≤ 20000000000 := by
                have : U2 / A ≤ U2 := Nat.div_le_self _ _
                omega
              have Hst3 := Lib.hid (show stC y z (n * y + k + 1) = (O3, U3) by rw [Hst.out, ← hAg, hO3e, hU3e])
              clear hO3e hU3e hAg
              go_wp2_with (fail)
              go_quiet (fail)
              have hbw4 := Lib.hid (Hbw3.out.trans (show Below w.heap.size wr (wr.drewN nq) from ⟨rfl, rfl, rfl, Nat.le_refl _, fun _ _ => rfl⟩))
              have hbx4 := Lib.hid (show BoxAt (wr.drewN nq) w.heap.size x y z from Hbx3.out)
              go_wp2_with (fail)
              go_roundw
              case rel => exact ⟨k + 1, by omega, by go_num, by rw [← Nat.add_assoc, Hst3.out], by rw [← Nat.add_assoc, Hst3.out], hbx4.out, hbw4.out⟩
              case measure => simp [intOf]; omega
            · have hBb0 : ((B : Int) == 0) = false := by rw [beq_eq_false_iff_ne]; omega
              have hB1 : (B : Int) ≠ 0 := by omega
              obtain ⟨C, hC, hCe⟩ : ∃ C : Nat, Int.tmod (A : Int) (B : Int) = (C : Int) ∧ C = A % B := ⟨A % B, (Int.ofNat_tmod A B).symm, rfl⟩
              have hC' : (A : Int) % (B : Int) = (C : Int) := by rw [hCe]; simp
              have hCB : C < B := by rw [hCe]; exact Nat.mod_lt _ (by omega)
              have hgC : Nat.gcd B C = Nat.gcd O2 U2 := by rw [← Hg.out, hCe, Nat.gcd_comm A B, Nat.gcd_rec B A, Nat.gcd_comm]
              have HgC := Lib.hid hgC
              clear hgC hCe
              go_wp2_with (fail)
              go_quiet (fail)
              have hbw4 := Lib.hid (Hbw3.out.trans (show Below w.heap.size wr (wr.drewN nq) from ⟨rfl, rfl, rfl, Nat.le_refl _, fun _ _ => rfl⟩))
              have hbx4 := Lib.hid (show BoxAt (wr.drewN nq) w.heap.size x y z from Hbx3.out)
              go_wp2_with (fail)
              go_roundw
              case rel => exact ⟨B, C, rfl, rfl, by omega, HgC.out, hBb, by omega, hbx4.out, hbw4.out⟩
              case measure => simp [intOf]; omega
        · have hky2 : ¬ (k : Int) < (y : Int) := by omega
          obtain rfl : k = y := by omega
          go_wp2_with (fail)
          go_roundw
          case rel => exact ⟨n + 1, by omega, by go_num, by rw [Nat.add_mul, Nat.one_mul], by rw [Nat.add_mul, Nat.one_mul], hbx2, hbw2⟩
          case measure => simp [intOf]; omega
    · have hnx2 : ¬ (n : Int) < (x : Int) := by omega
      obtain rfl : n = x := by omega
      have hsm := st_small hy0 hy hz (show n * y ≤ 16 from Nat.le_trans (Nat.mul_le_mul hx hy) (by decide))
      have hcc : (stC y z (n * y)).1 / (stC y z (n * y)).2 = R := HR.out
      generalize (stC y z (n * y)).1 = O at hsm hcc ⊢
      generalize (stC y z (n * y)).2 = U at hsm hcc ⊢
      have hU1 : (U : Int) ≠ 0 := by omega
      have hU2 : U ≠ 0 := by omega
      have hD : (O : Int) / (U : Int) = (R : Int) := by rw [← hcc]; simp
      have hD2 : Int.tdiv (O : Int) (U : Int) = (R : Int) := by rw [← hcc]; exact (Int.ofNat_tdiv O U).symm
      have hDb : (R : Int) ≤ 1000000000 := by
        have : O / U ≤ O := Nat.div_le_self _ _
        omega
      have Hbw := Lib.hid hbw
      clear hcc hsm hbx hbw HR
      go_wp2_with (fail)
      all_goals (go_ret; exact ⟨rfl, Hbw.out⟩)
end Go.Proofs.Ytjdmboagjeldcaa
