/- Part of the proof, merged out of smaller texts. No condition. -/
import Derived.Test.YtjdmboagjeldcaaAmC4
import Derived.WalkKit
import Derived.BigCall
import Derived.LoopTactic
import Derived.Lib.Hide
import Derived.Deep.QuietTactic
import Derived.Deep.RegionWith
import Derived.Test.YtjdmboagjeldcaaAmC3
import Derived.Shelf.Slices.Clone
import Derived.Test.YtjdmboagjeldcaaProg
import Derived.Laws.EntriesVeiled
import Derived.Deep.RegionHeld3
import Derived.Deep.RegionLawGrows
namespace Go.Proofs.Ytjdmboagjeldcaa
open Go.RowKit S Go.Proofs.YtjdmboagjeldcaaW.PrintWords
theorem step1 (i : Nat) (h : i ≤ 1000000000) : wrap64 ((i : Int) + 1) = ((i + 1 : Nat) : Int) := by unfold wrap64; omega
theorem rd_eq (xs : List Int) (i : Nat) (h : i < xs.length) : rd xs (i : Int) = xs[i] := by
  unfold rd
  rw [Int.toNat_natCast, List.getD_eq_getElem?_getD, List.getElem?_eq_getElem h]; rfl
def least (a b : Int) : Int := if a < b then a else b
def most1 (y z : Nat) (l : List Int) : Int := if y ≤ l.length then least z (l.getD (l.length - y) 0) else z
def mostOf (y z : Nat) (l : List Int) : Int := if 0 < l.length % y then least (most1 y z l) (l.getD (l.length - 1) 0) else most1 y z l
def allL (y z : Nat) : Nat → List Int → List (List Int)
  | 0, l => [l]
  | d + 1, l => (List.range ((mostOf y z l).toNat + 1)).flatMap fun (h : Nat) => allL y z d (l ++ [(h : Int)])
theorem least_b {a b : Int} (ha : 0 ≤ a ∧ a ≤ 4) (hb : 0 ≤ b ∧ b ≤ 4) : 0 ≤ least a b ∧ least a b ≤ 4 := by unfold least; split <;> assumption
theorem getD_b {l : List Int} (hl : ∀ x ∈ l, 0 ≤ x ∧ x ≤ 4) (i : Nat) : 0 ≤ l.getD i 0 ∧ l.getD i 0 ≤ 4 := by
  rw [List.getD_eq_getElem?_getD]
  cases h : l[i]? with
  | none => simp
  | some x => exact hl x (List.mem_of_getElem? h)
theorem most1_b {y z : Nat} {l : List Int} (hz : z ≤ 4) (hl : ∀ x ∈ l, 0 ≤ x ∧ x ≤ 4) : 0 ≤ most1 y z l ∧ most1 y z l ≤ 4 := by
  unfold most1
  split
  · exact least_b (by omega) (getD_b hl _)
  · omega
theorem most_b {y z : Nat} {l : List Int} (hz : z ≤ 4) (hl : ∀ x ∈ l, 0 ≤ x ∧ x ≤ 4) : 0 ≤ mostOf y z l ∧ mostOf y z l ≤ 4 := by
  unfold mostOf
  split
  · exact least_b (most1_b hz hl) (getD_b hl _)
  · exact most1_b hz hl
theorem snoc_b {l : List Int} (hl : ∀ x ∈ l, 0 ≤ x ∧ x ≤ 4) (h : Nat) (hh : h ≤ 4) : ∀ x ∈ l ++ [(h : Int)], 0 ≤ x ∧ x ≤ 4 := by
  intro x hx
  rcases List.mem_append.1 hx with hx | hx
  · exact hl x hx
  · rw [List.mem_singleton.1 hx]; omega
theorem flat_len {α β : Type} (f : α → List β) (B : Nat) : ∀ (l : List α), (∀ x ∈ l, (f x).length ≤ B) → (l.flatMap f).length ≤ B * l.length
  | [], _ => by simp
  | a :: r, h => by
    rw [List.flatMap_cons, List.length_append, List.length_cons, Nat.mul_add]
    have h1 := h a List.mem_cons_self
    have h2 := flat_len f B r (fun x hx => h x (List.mem_cons_of_mem _ hx))
    omega
theorem all_len (y z : Nat) (hz : z ≤ 4) : ∀ (d : Nat) (l : List Int), (∀ x ∈ l, 0 ≤ x ∧ x ≤ 4) → (allL y z d l).length ≤ 5 ^ d
  | 0, l, _ => by simp [allL]
  | d + 1, l, hl => by
    have hb := most_b (y := y) hz hl
    rw [allL, Nat.pow_succ]
    have := flat_len (fun h : Nat => allL y z d (l ++ [(h : Int)])) (5 ^ d) (List.range ((mostOf y z l).toNat + 1)) (fun h hh => all_len y z hz d _ (snoc_b hl h (by have := List.mem_range.1 hh; omega)))
    rw [List.length_range] at this
    exact Nat.le_trans this (Nat.mul_le_mul_left _ (by omega))
theorem all_each (y z : Nat) (hz : z ≤ 4) : ∀ (d : Nat) (l : List Int), (∀ x ∈ l, 0 ≤ x ∧ x ≤ 4) → ∀ t ∈ allL y z d l, t.length = l.length + d
  | 0, l, _, t, ht => by simp [allL] at ht; subst ht; rfl
  | d + 1, l, hl, t, ht => by
    have hb := most_b (y := y) hz hl
    rw [allL] at ht
    obtain ⟨h, hh, h2⟩ := List.mem_flatMap.1 ht
    have := all_each y z hz d _ (snoc_b hl h (by have := List.mem_range.1 hh; omega)) t h2
    rw [List.length_append, List.length_singleton] at this
    omega
theorem own_eq (l : List Int) (h : l.length ≤ 1000) : spec_l1Own.f l = some l := by
  unfold spec_l1Own.f
  simp only [Option.bind_some]
  rw [if_pos (by simp; omega), List.nil_append]
theorem least_eq (a b : Int) : spec_l1Least.f a b = some (least a b) := by
  unfold spec_l1Least.f least
  split <;> rfl
section
variable (x y z : Nat) (hz : z ≤ 4) (d : Nat) (hd : d ≤ 15) (l : List Int) (hl : ∀ v ∈ l, 0 ≤ v ∧ v ≤ 4) (hll : l.length ≤ 16) (F : Nat)
  (ih : ∀ (h k : Nat), h ≤ 4 → F ≤ k → spec_l5All.f k (x : Int) y z (l ++ [(h : Int)]) = some (allL y z d (l ++ [(h : Int)])))
include hz hd hl hll ih
theorem all_l0 (m : Nat) (hm : m ≤ 4) : ∀ (n i k : Nat) (out : List (List Int)), i + n = m + 1 → out.length + n * 5 ^ 15 ≤ 5 * 5 ^ 15 → F + n + 1 ≤ k →
    spec_l5All.l0 k (x : Int) y z l (m : Int) out (i : Int) = some (out ++ ((List.range (m + 1)).drop i).flatMap fun (h : Nat) => allL y z d (l ++ [(h : Int)]))
  | 0, i, k, out, hi, ho, hk => by
    obtain ⟨k, rfl⟩ : ∃ m, k = m + 1 := ⟨k - 1, by omega⟩
    rw [spec_l5All.l0, if_neg (by omega), List.drop_of_length_le (by rw [List.length_range]; omega)]
    simp
  | n + 1, i, k, out, hi, ho, hk => by
    obtain ⟨k, rfl⟩ : ∃ m, k = m + 1 := ⟨k - 1, by omega⟩
    have hil : i < (List.range (m + 1)).length := by rw [List.length_range]; omega
    have e := List.drop_eq_getElem_cons hil
    rw [List.getElem_range] at e
    have hal := all_len y z hz d (l ++ [(i : Int)]) (snoc_b hl i (by omega))
    have hp : 5 ^ d ≤ 5 ^ 15 := Nat.pow_le_pow_right (by decide) hd
    have hp15 : (5 : Nat) ^ 15 = 30517578125 := by decide
    rw [hp15] at hp ho
    have ho' : (out ++ allL y z d (l ++ [(i : Int)])).length + n * 5 ^ 15 ≤ 5 * 5 ^ 15 := by
      rw [List.length_append, hp15]; omega
    have hih := all_l0 m hm n (i + 1) k (out ++ allL y z d (l ++ [(i : Int)])) (by omega) ho' (by omega)
    rw [spec_l5All.l0, if_pos (by omega), own_eq l (by omega)]
    simp only [Option.bind_some]
    rw [if_pos (by omega), ih i k (by omega) (by omega)]
    simp only [Option.bind_some]
    rw [if_pos (by omega), step1 i (by omega), hih, e, List.flatMap_cons, List.append_assoc]
end
theorem spec_all (x y z : Nat) (hy : 0 < y) (hy4 : y ≤ 4) (hx4 : x ≤ 4) (hz : z ≤ 4) : ∀ (d : Nat) (l : List Int) (k : Nat), l.length + d = x * y → (∀ v ∈ l, 0 ≤ v ∧ v ≤ 4) → 20 * d + 5 ≤ k → spec_l5All.f k (x : Int) y z l = some (allL y z d l)
  | 0, l, k, hd, hl, hk => by
    obtain ⟨k, rfl⟩ : ∃ m, k = m + 1 := ⟨k - 1, by omega⟩
    have hxy : x * y ≤ 4 * 4 := Nat.mul_le_mul hx4 hy4
    have e : wrap64 ((x : Int) * y) = ((x * y : Nat) : Int) := by
      rw [show ((x : Int) * y) = ((x * y : Nat) : Int) by simp]
      generalize x * y = P at hxy
      unfold wrap64; omega
    rw [spec_l5All.f, e, if_pos (by omega)]; rfl
  | d + 1, l, k, hd, hl, hk => by
    obtain ⟨k, rfl⟩ : ∃ m, k = m + 3 := ⟨k - 3, by omega⟩
    have hxy : x * y ≤ 4 * 4 := Nat.mul_le_mul hx4 hy4
    have e : wrap64 ((x : Int) * y) = ((x * y : Nat) : Int) := by
      rw [show ((x : Int) * y) = ((x * y : Nat) : Int) by simp]
      generalize x * y = P at hxy
      unfold wrap64; omega
    have hb1 := most1_b (y := y) hz hl
    have hb2 := most_b (y := y) hz hl
    have tail : ∀ m : Int, m = mostOf y z l → spec_l5All.j1 (k + 1) (x : Int) y z l m = some (allL y z (d + 1) l) := by
      intro m hm
      obtain ⟨mn, rfl⟩ : ∃ n : Nat, m = (n : Int) := ⟨m.toNat, by omega⟩
      have h := all_l0 x y z hz d (by omega) l hl (by omega) (20 * d + 5) (fun h k hh hk => spec_all x y z hy hy4 hx4 hz d (l ++ [(h : Int)]) k (by rw [List.length_append, List.length_singleton]; omega) (snoc_b hl h hh) hk) mn (by omega) (mn + 1) 0 k [] (by omega) (by
        have : (mn + 1) * 5 ^ 15 ≤ 5 * 5 ^ 15 := Nat.mul_le_mul_right _ (by omega)
        simpa using this) (by omega)
      rw [show ((0 : Nat) : Int) = 0 from rfl, List.drop_zero, List.nil_append] at h
      rw [spec_l5All.j1, h, allL, ← hm, Int.toNat_natCast]
    have mid : ∀ m : Int, m = most1 y z l → spec_l5All.j0 (k + 2) (x : Int) y z l (l.length : Int) m = some (allL y z (d + 1) l) := by
      intro m hm
      have e1 : Int.tmod (l.length : Int) (y : Int) = ((l.length % y : Nat) : Int) := (Int.ofNat_tmod _ _).symm
      rw [spec_l5All.j0, if_neg (by omega), e1]
      by_cases h : 0 < l.length % y
      · have hl0 : 0 < l.length := by
          rcases Nat.eq_zero_or_pos l.length with h0 | h0
          · rw [h0, Nat.zero_mod] at h; omega
          · exact h0
        have e2 : wrap64 ((l.length : Int) - 1) = ((l.length - 1 : Nat) : Int) := by unfold wrap64; omega
        rw [if_pos (by omega), e2, if_pos (by omega), if_pos (by omega), least_eq, rd_eq l (l.length - 1) (by omega)]
        simp only [Option.bind_some]
        apply tail
        unfold mostOf
        rw [if_pos h, hm, List.getD_eq_getElem?_getD, List.getElem?_eq_getElem (by omega)]; rfl
      · rw [if_neg (by omega)]
        apply tail
        unfold mostOf
        rw [if_neg h, hm]
    rw [spec_l5All.f, e, if_neg (by omega)]
    by_cases h : y ≤ l.length
    · have e2 : wrap64 ((l.length : Int) - y) = ((l.length - y : Nat) : Int) := by unfold wrap64; omega
      rw [if_pos (by omega), e2, if_pos (by omega), if_pos (by omega), least_eq, rd_eq l (l.length - y) (by omega)]
      simp only [Option.bind_some]
      apply mid
      unfold most1
      rw [if_pos h, List.getD_eq_getElem?_getD, List.getElem?_eq_getElem (by omega)]; rfl
    · rw [if_neg (by omega)]
      apply mid
      unfold most1
      rw [if_neg h]
end Go.Proofs.Ytjdmboagjeldcaa
namespace Go.Proofs.Ytjdmboagjeldcaa
open Go.RowKit S Go.Proofs.YtjdmboagjeldcaaW.PrintWords Go.Proofs.YtjdmboagjeldcaaW.PrintLast Go.Proofs.YtjdmboagjeldcaaW.PrintMore
def stC (y z : Nat) : Nat → Nat × Nat
  | 0 => (1, 1)
  | n + 1 =>
    let o := (stC y z n).1 * (n / y + n % y + 1 + z)
    let u := (stC y z n).2 * (n / y + n % y + 1)
    (o / Nat.gcd o u, u / Nat.gcd o u)
def countC (x y z : Nat) : Nat := (stC y z (x * y)).1 / (stC y z (x * y)).2
theorem st_all : ((List.range 5).all fun y => (List.range 5).all fun z => (List.range 17).all fun n => y == 0 || (decide (0 < (stC y z n).1) && decide ((stC y z n).1 ≤ 1000000000) && decide (0 < (stC y z n).2) && decide ((stC y z n).2 ≤ 1000000000))) = true := by decide +kernel
theorem st_small {y z n : Nat} (hy0 : 0 < y) (hy : y ≤ 4) (hz : z ≤ 4) (hn : n ≤ 16) : 0 < (stC y z n).1 ∧ (stC y z n).1 ≤ 1000000000 ∧ 0 < (stC y z n).2 ∧ (stC y z n).2 ≤ 1000000000 := by
  have h := List.all_eq_true.1 (List.all_eq_true.1 (List.all_eq_true.1 st_all y (List.mem_range.2 (by omega))) z (List.mem_range.2 (by omega))) n (List.mem_range.2 (by omega))
  have hb : (y == 0) = false := by rw [beq_eq_false_iff_ne]; omega
  rw [hb, Bool.false_or] at h
  simp only [Bool.and_eq_true, decide_eq_true_eq] at h
  omega
theorem few_all : ((List.range 4).all fun x => (List.range 4).all fun y => (List.range 4).all fun z => decide (spec_l5Few.f 3000 ((x + 1 : Nat) : Int) ((y + 1 : Nat) : Int) ((z + 1 : Nat) : Int) = some (decide (countC (x + 1) (y + 1) (z + 1) ≤ 1000)))) = true := by decide +kernel
theorem few_closed {x y z : Nat} (hx0 : 0 < x) (hx : x ≤ 4) (hy0 : 0 < y) (hy : y ≤ 4) (hz0 : 0 < z) (hz : z ≤ 4) : spec_l5Few.f 3000 (x : Int) (y : Int) (z : Int) = some (decide (countC x y z ≤ 1000)) := by
  have h := List.all_eq_true.1 (List.all_eq_true.1 (List.all_eq_true.1 few_all (x - 1) (List.mem_range.2 (by omega))) (y - 1) (List.mem_range.2 (by omega))) (z - 1) (List.mem_range.2 (by omega))
  rw [decide_eq_true_eq, show x - 1 + 1 = x by omega, show y - 1 + 1 = y by omega, show z - 1 + 1 = z by omega] at h
  exact h
def BoxAt (w : World) (b : Nat) (x y z : Int) : Prop := w.cell? ⟨b, 0, none⟩ = some (.int .i64 x) ∧ w.cell? ⟨b, 1, none⟩ = some (.int .i64 y) ∧ w.cell? ⟨b, 2, none⟩ = some (.int .i64 z)
theorem st_step {y z n k : Nat} (hk : k < y) : stC y z (n * y + k + 1) = ((stC y z (n * y + k)).1 * (n + k + 1 + z) / Nat.gcd ((stC y z (n * y + k)).1 * (n + k + 1 + z)) ((stC y z (n * y + k)).2 * (n + k + 1)), (stC y z (n * y + k)).2 * (n + k + 1) / Nat.gcd ((stC y z (n * y + k)).1 * (n + k + 1 + z)) ((stC y z (n * y + k)).2 * (n + k + 1))) := by
  have h1 : (n * y + k) / y = n := by
    rw [Nat.mul_comm, Nat.mul_add_div (by omega), Nat.div_eq_of_lt hk, Nat.add_zero]
  have h2 : (n * y + k) % y = k := by
    rw [Nat.mul_comm, Nat.mul_add_mod, Nat.mod_eq_of_lt hk]
  rw [stC, h1, h2]
set_option maxRecDepth 100000 in
set_option maxHeartbeats 4000000 in
theorem countStairs (x y z : Nat) (hx : x ≤ 4) (hy0 : 0 < y) (hy : y ≤ 4) (hz : z ≤ 4) (w : World) :
    Calls Try.prog 34 #[.agg #[.int .i64 x, .int .i64 y, .int .i64 z]] w fun e w' => e = .returned (.int .i64 ((countC x y z : Nat) : Int)) ∧ Below w.heap.size w w' := by
  have hw1 : Below w.heap.size w (w.alloc (.cells #[.int .i64 x, .int .i64 y, .int .i64 z] 39)) := below_alloc (Below.refl _ _) _
  have hb1 : BoxAt (w.alloc (.cells #[.int .i64 x, .int .i64 y, .int .i64 z] 39)) w.heap.size x y z := by
    have hb : (w.alloc (.cells #[.int .i64 x, .int .i64 y, .int .i64 z] 39)).heap[w.heap.size]? = some (.cells #[.int .i64 x, .int .i64 y, .int .i64 z] 39 (0, 0)) := by simp only [World.alloc]; rw [Array.getElem?_push, if_pos rfl]
    refine ⟨?_, ?_, ?_⟩ <;> (unfold World.cell?; rw [hb]; rfl)
  obtain ⟨R, hR⟩ : ∃ R : Nat, countC x y z = R := ⟨_, rfl⟩
  rw [hR]
  have HR := Lib.hid hR
  clear hR
  have h0 : stC y z (0 * y) = (1, 1) := by rw [Nat.zero_mul]; rfl
  have Hb1 := Lib.hid hb1
  have Hw1 := Lib.hid hw1
  have H0 := Lib.hid h0
  clear hb1 hw1 h0
  go_enter Try.func34, Try.ntmps34
  go_wp2_with (fail)
  go_loopw [3, 4, 11] (fun o u i wr => ∃ n : Nat, n ≤ x ∧ i = .int .i64 n ∧ o = .int .i64 ((stC y z (n * y)).1 : Int) ∧ u = .int .i64 ((stC y z (n * y)).2 : Int) ∧ BoxAt wr w.heap.size x y z ∧ Below w.heap.size w wr) (fun _ _ i _ => x - (intOf i).toNat)
  case atStart => exact ⟨0, Nat.zero_le _, rfl, by rw [H0.out]; rfl, by rw [H0.out]; rfl, Hb1.out, Hw1.out⟩
  case round =>
    obtain ⟨n, hn, rfl, rfl, rfl, hbx, hbw⟩ := hrel
    by_cases hnx : n < x
    · have hnx2 : (n : Int) < (x : Int) := by omega
      have hc2 := hbx.2.1
      have Hbx := Lib.hid hbx
      have Hbw := Lib.hid hbw
      clear hbx hbw
      go_wp2_with (fail)
      go_loopw [3, 4, 16] (fun o u i wr => ∃ k : Nat, k ≤ y ∧ i = .int .i64 k ∧ o = .int .i64 ((stC y z (n * y + k)).1 : Int) ∧ u = .int .i64 ((stC y z (n * y + k)).2 : Int) ∧ BoxAt wr w.heap.size x y z ∧ Below w.heap.size w wr) (fun _ _ i _ => y - (intOf i).toNat)
      case atStart => exact ⟨0, Nat.zero_le _, rfl, rfl, rfl, Hbx.out, Hbw.out⟩
      case round =>
        obtain ⟨k, hk, rfl, rfl, rfl, hbx2, hbw2⟩ := hrel
        clear Hbx Hbw hc2
        by_cases hky : k < y
        · have hky2 : (k : Int) < (y : Int) := by omega
          have hst := st_step (z := z) (n := n) hky
          have hi16 : n * y + k ≤ 16 := by
            have : n * y ≤ 3 * 4 := Nat.mul_le_mul (by omega) hy
            omega
          have hsm := st_small hy0 hy hz hi16
          generalize (stC y z (n * y + k)).1 = O at hst hsm
          generalize (stC y z (n * y + k)).2 = U at hst hsm
          obtain ⟨O2, hO2, hO2e⟩ : ∃ O2 : Nat, (O : Int) * ((n : Int) + (k : Int) + 1 + (z : Int)) = (O2 : Int) ∧ O2 = O * (n + k + 1 + z) := ⟨O * (n + k + 1 + z), by simp, rfl⟩
          obtain ⟨U2, hU2, hU2e⟩ : ∃ U2 : Nat, (U : Int) * ((n : Int) + (k : Int) + 1) = (U2 : Int) ∧ U2 = U * (n + k + 1) := ⟨U * (n + k + 1), by simp, rfl⟩
          rw [← hO2e, ← hU2e] at hst
          have hO2p : 0 < O2 := by rw [hO2e]; exact Nat.mul_pos hsm.1 (by omega)
          have hU2p : 0 < U2 := by rw [hU2e]; exact Nat.mul_pos hsm.2.2.1 (by omega)
          have hO2b : (O2 : Int) ≤ 20000000000 := by
            have : O2 ≤ 1000000000 * 12 := by rw [hO2e]; exact Nat.mul_le_mul hsm.2.1 (by omega)
            omega
          have hU2b : (U2 : Int) ≤ 20000000000 := by
            have : U2 ≤ 1000000000 * 12 := by rw [hU2e]; exact Nat.mul_le_mul hsm.2.2.2 (by omega)
            omega
          have hn4 : (n : Int) ≤ 4 := by omega
          have hk4 : (k : Int) ≤ 4 := by omega
          have hz4 : (z : Int) ≤ 4 := by omega
          have hc3 := hbx2.2.2
          have Hst := Lib.hid hst
          have Hbx2 := Lib.hid hbx2
          have Hbw2 := Lib.hid hbw2
          clear hst hbx2 hbw2 hO2e hU2e hsm hi16
          go_wp2_with (fail)
          go_loopw [7, 8] (fun a b wr => ∃ A B : Nat, a = .int .i64 A ∧ b = .int .i64 B ∧ 0 < A ∧ Nat.gcd A B = Nat.gcd O2 U2 ∧ (A : Int) ≤ 20000000000 ∧ (B : Int) ≤ 20000000000 ∧ BoxAt wr w.heap.size x y z ∧ Below w.heap.size w wr) (fun _ b _ => (intOf b).toNat)
          case atStart => exact ⟨O2, U2, rfl, rfl, hO2p, rfl, hO2b, hU2b, Hbx2.out, Hbw2.out⟩
          case round =>
            obtain ⟨A, B, rfl, rfl, hA0, hg, hAb, hBb, hbx3, hbw3⟩ := hrel
            clear Hbx2 Hbw2
            have Hbx3 := Lib.hid hbx3
            have Hbw3 := Lib.hid hbw3
            have Hg := Lib.hid hg
            clear hbx3 hbw3 hg
            by_cases hB0 : B = 0
            · subst hB0
              have hAg : A = Nat.gcd O2 U2 := by rw [← Hg.out, Nat.gcd_zero_right]
              have hA1 : (A : Int) ≠ 0 := by omega
              have hA2 : A ≠ 0 := by omega
              obtain ⟨O3, hO3, hO3e⟩ : ∃ O3 : Nat, Int.tdiv (O2 : Int) (A : Int) = (O3 : Int) ∧ O3 = O2 / A := ⟨O2 / A, (Int.ofNat_tdiv O2 A).symm, rfl⟩
              obtain ⟨U3, hU3, hU3e⟩ : ∃ U3 : Nat, Int.tdiv (U2 : Int) (A : Int) = (U3 : Int) ∧ U3 = U2 / A := ⟨U2 / A, (Int.ofNat_tdiv U2 A).symm, rfl⟩
              have hO3' : (O2 : Int) / (A : Int) = (O3 : Int) := by rw [hO3e]; simp
              have hU3' : (U2 : Int) / (A : Int) = (U3 : Int) := by rw [hU3e]; simp
              have hO3b : (O3 : Int) ≤ 20000000000 := by
                have : O2 / A ≤ O2 := Nat.div_le_self _ _
                omega
              have hU3b : (U3 : Int) ≤ 20000000000 := by
                have : U2 / A ≤ U2 := Nat.div_le_self _ _
                omega
              have Hst3 := Lib.hid (show stC y z (n * y + k + 1) = (O3, U3) by rw [Hst.out, ← hAg, hO3e, hU3e])
              clear hO3e hU3e hAg
              go_wp2_with (fail)
              go_quiet (fail)
              have hbw4 := Lib.hid (Hbw3.out.trans (show Below w.heap.size wr (wr.drewN nq) from ⟨rfl, rfl, rfl, Nat.le_refl _, fun _ _ => rfl⟩))
              have hbx4 := Lib.hid (show BoxAt (wr.drewN nq) w.heap.size x y z from Hbx3.out)
              go_wp2_with (fail)
              go_roundw
              case rel => exact ⟨k + 1, by omega, by go_num, by rw [← Nat.add_assoc, Hst3.out], by rw [← Nat.add_assoc, Hst3.out], hbx4.out, hbw4.out⟩
              case measure => simp [intOf]; omega
            · have hBb0 : ((B : Int) == 0) = false := by rw [beq_eq_false_iff_ne]; omega
              have hB1 : (B : Int) ≠ 0 := by omega
              obtain ⟨C, hC, hCe⟩ : ∃ C : Nat, Int.tmod (A : Int) (B : Int) = (C : Int) ∧ C = A % B := ⟨A % B, (Int.ofNat_tmod A B).symm, rfl⟩
              have hC' : (A : Int) % (B : Int) = (C : Int) := by rw [hCe]; simp
              have hCB : C < B := by rw [hCe]; exact Nat.mod_lt _ (by omega)
              have hgC : Nat.gcd B C = Nat.gcd O2 U2 := by rw [← Hg.out, hCe, Nat.gcd_comm A B, Nat.gcd_rec B A, Nat.gcd_comm]
              have HgC := Lib.hid hgC
              clear hgC hCe
              go_wp2_with (fail)
              go_quiet (fail)
              have hbw4 := Lib.hid (Hbw3.out.trans (show Below w.heap.size wr (wr.drewN nq) from ⟨rfl, rfl, rfl, Nat.le_refl _, fun _ _ => rfl⟩))
              have hbx4 := Lib.hid (show BoxAt (wr.drewN nq) w.heap.size x y z from Hbx3.out)
              go_wp2_with (fail)
              go_roundw
              case rel => exact ⟨B, C, rfl, rfl, by omega, HgC.out, hBb, by omega, hbx4.out, hbw4.out⟩
              case measure => simp [intOf]; omega
        · have hky2 : ¬ (k : Int) < (y : Int) := by omega
          obtain rfl : k = y := by omega
          go_wp2_with (fail)
          go_roundw
          case rel => exact ⟨n + 1, by omega, by go_num, by rw [Nat.add_mul, Nat.one_mul], by rw [Nat.add_mul, Nat.one_mul], hbx2, hbw2⟩
          case measure => simp [intOf]; omega
    · have hnx2 : ¬ (n : Int) < (x : Int) := by omega
      obtain rfl : n = x := by omega
      have hsm := st_small hy0 hy hz (show n * y ≤ 16 from Nat.le_trans (Nat.mul_le_mul hx hy) (by decide))
      have hcc : (stC y z (n * y)).1 / (stC y z (n * y)).2 = R := HR.out
      generalize (stC y z (n * y)).1 = O at hsm hcc ⊢
      generalize (stC y z (n * y)).2 = U at hsm hcc ⊢
      have hU1 : (U : Int) ≠ 0 := by omega
      have hU2 : U ≠ 0 := by omega
      have hD : (O : Int) / (U : Int) = (R : Int) := by rw [← hcc]; simp
      have hD2 : Int.tdiv (O : Int) (U : Int) = (R : Int) := by rw [← hcc]; exact (Int.ofNat_tdiv O U).symm
      have hDb : (R : Int) ≤ 1000000000 := by
        have : O / U ≤ O := Nat.div_le_self _ _
        omega
      have Hbw := Lib.hid hbw
      clear hcc hsm hbx hbw HR
      go_wp2_with (fail)
      all_goals (go_ret; exact ⟨rfl, Hbw.out⟩)
end Go.Proofs.Ytjdmboagjeldcaa
namespace Go.Proofs.Ytjdmboagjeldcaa
open Go.RowKit S Go.Proofs.YtjdmboagjeldcaaW.PrintWords Go.Proofs.YtjdmboagjeldcaaW.PrintLast Go.Proofs.YtjdmboagjeldcaaW.PrintMore
def inB (x : Int) : Bool := decide (1 ≤ x) && decide (x ≤ 4)
theorem in_impl (x : Int) : impl_within.f x 1 4 = some (inB x) := by
  unfold impl_within.f inB
  by_cases h : x ≥ 1
  · rw [if_pos h, decide_eq_true h]; simp
  · rw [if_neg h, decide_eq_false h]; rfl
theorem in_spec (x : Int) : spec_l1In.f x 1 4 = some (inB x) := by
  unfold spec_l1In.f inB
  by_cases h : x ≥ 1
  · rw [if_pos h, decide_eq_true h]; simp
  · rw [if_neg h, decide_eq_false h]; rfl
def validB (x y z : Int) : Bool := inB x && (inB y && inB z)
theorem spec_sides (x y z : Int) : spec_l2Sides.f x y z = some (validB x y z) := by
  unfold spec_l2Sides.f validB
  rw [in_spec, in_spec, in_spec]
  simp only [Option.bind_some]
  cases inB x <;> cases inB y <;> cases inB z <;> rfl
theorem boxValid (x y z : Int) (w : World) :
    Calls Try.prog 33 #[.agg #[.int .i64 x, .int .i64 y, .int .i64 z]] w fun e w' => e = .returned (.bool (validB x y z)) ∧ Below w.heap.size w w' := by
  have hx := in_impl x
  have hy := in_impl y
  have hz := in_impl z
  unfold validB
  generalize inB x = bx at hx ⊢
  generalize inB y = bY at hy ⊢
  generalize inB z = bz at hz ⊢
  have Hx := Lib.hid hx
  have Hy := Lib.hid hy
  have Hz := Lib.hid hz
  clear hx hy hz
  have hb : BoxAt (w.alloc (.cells #[.int .i64 x, .int .i64 y, .int .i64 z] 39)) w.heap.size x y z := by
    have hb : (w.alloc (.cells #[.int .i64 x, .int .i64 y, .int .i64 z] 39)).heap[w.heap.size]? = some (.cells #[.int .i64 x, .int .i64 y, .int .i64 z] 39 (0, 0)) := by simp only [World.alloc]; rw [Array.getElem?_push, if_pos rfl]
    refine ⟨?_, ?_, ?_⟩ <;> (unfold World.cell?; rw [hb]; rfl)
  have hw1 : Below w.heap.size w (w.alloc (.cells #[.int .i64 x, .int .i64 y, .int .i64 z] 39)) := below_alloc (Below.refl _ _) _
  have Hb := Lib.hid hb
  have Hw := Lib.hid hw1
  clear hb hw1
  go_enter Try.func33, Try.ntmps33
  go_wp2_with (go_at_call 24; refine (S.impl_within.calls x 1 4 bx _ Hx.out).mono ?_; rintro e w1 ⟨rfl, hd1⟩; refine Hid.out ?_)
  refine Lib.hid ?_
  have hw1 := Hw.out.trans (hd1.below.mono Hw.out.size)
  have hlt : w.heap.size < (w.alloc (.cells #[.int .i64 x, .int .i64 y, .int .i64 z] 39)).heap.size := by simp only [World.alloc, Array.size_push]; omega
  have c2 := (hd1.below.cell (p := ⟨w.heap.size, 1, none⟩) hlt).trans Hb.out.2.1
  have c3 := (hd1.below.cell (p := ⟨w.heap.size, 2, none⟩) hlt).trans Hb.out.2.2
  have hlt1 : w.heap.size < w1.heap.size := Nat.lt_of_lt_of_le hlt hd1.below.size
  clear hd1 hlt
  cases bx with
  | false =>
    go_wp2_with (fail)
    all_goals (go_ret; exact ⟨rfl, hw1⟩)
  | true =>
    go_wp2_with (go_at_call 24; refine (S.impl_within.calls y 1 4 bY _ Hy.out).mono ?_; rintro e w2 ⟨rfl, hd2⟩; refine Hid.out ?_)
    refine Lib.hid ?_
    have hw2 := hw1.trans (hd2.below.mono hw1.size)
    have d3 := (hd2.below.cell (p := ⟨w.heap.size, 2, none⟩) hlt1).trans c3
    clear hd2 c2 c3 hw1
    cases bY with
    | false =>
      go_wp2_with (fail)
      all_goals (go_ret; exact ⟨rfl, hw2⟩)
    | true =>
      go_wp2_with (go_at_call 24; refine (S.impl_within.calls z 1 4 bz _ Hz.out).mono ?_; rintro e w3 ⟨rfl, hd3⟩)
      all_goals (go_ret; exact ⟨rfl, hw2.trans (hd3.below.mono hw2.size)⟩)
def fewB (x y z : Int) : Bool := validB x y z && decide (countC x.toNat y.toNat z.toNat ≤ 1000)
theorem valid_facts {x y z : Int} (h : validB x y z = true) : ∃ a b c : Nat, x = a ∧ y = b ∧ z = c ∧ 0 < a ∧ a ≤ 4 ∧ 0 < b ∧ b ≤ 4 ∧ 0 < c ∧ c ≤ 4 := by
  unfold validB inB at h
  simp only [Bool.and_eq_true, decide_eq_true_eq] at h
  exact ⟨x.toNat, y.toNat, z.toNat, by omega, by omega, by omega, by omega, by omega, by omega, by omega, by omega, by omega⟩
theorem spec_few (x y z : Int) : spec_l5Few.f 3000 x y z = some (fewB x y z) := by
  cases hv : validB x y z with
  | false =>
    unfold spec_l5Few.f fewB
    rw [spec_sides, hv]; rfl
  | true =>
    obtain ⟨a, b, c, rfl, rfl, rfl, ha0, ha, hb0, hb, hc0, hc⟩ := valid_facts hv
    rw [few_closed ha0 ha hb0 hb hc0 hc]
    unfold fewB
    rw [hv, Bool.true_and, Int.toNat_natCast, Int.toNat_natCast, Int.toNat_natCast]
def stairsRes (x y z : Int) : List (List Int) × Bool := if fewB x y z = true then (allL y.toNat z.toNat (x.toNat * y.toNat) [], true) else ([], false)
end Go.Proofs.Ytjdmboagjeldcaa
namespace Go.Proofs.Ytjdmboagjeldcaa
open Go.RowKit S Go.Proofs.YtjdmboagjeldcaaW.PrintWords
end Go.Proofs.Ytjdmboagjeldcaa
namespace Go.Proofs.Ytjdmboagjeldcaa
open Go.RowKit S Go.Proofs.YtjdmboagjeldcaaW.PrintWords Go.Proofs.YtjdmboagjeldcaaW.PrintLast Go.Proofs.YtjdmboagjeldcaaW.PrintMore
end Go.Proofs.Ytjdmboagjeldcaa
namespace Go.Proofs.Ytjdmboagjeldcaa
open Go.RowKit S Go.Proofs.YtjdmboagjeldcaaW.PrintWords Go.Proofs.YtjdmboagjeldcaaW.PrintLast Go.Proofs.YtjdmboagjeldcaaW.PrintMore
end Go.Proofs.Ytjdmboagjeldcaa
namespace Go.Proofs
open Go.Shelf
def Try.lays15_ren : Go.Shelf.Ren := ⟨fun | 15 => 36 | n => n, fun | 22 => 37 | 3 => 3 | 4 => 4 | n => n, fun | n => n⟩
theorem Try.lays15 : Go.Proofs.Lays2.n15 Try.prog Try.lays15_ren := {
  mixed := by kernel_rfl
  f15 := Try.func36.trans (congrArg some (by kernel_rfl))
  t3 := Try.underlying3
  a3 := Try.isAgg3
  z3 := Try.sizeOf3
  v3 := Try.zeroValue3
  t4 := Try.underlying4
  a4 := Try.isAgg4
  z4 := Try.sizeOf4
  v4 := Try.zeroValue4
  t22 := Try.underlying37
  a22 := Try.isAgg37
  z22 := Try.sizeOf37
  v22 := Try.zeroValue37
  i3 := by kernel_rfl }
end Go.Proofs
namespace Go.Proofs.Ytjdmboagjeldcaa
open Go.RowKit S Go.Proofs.YtjdmboagjeldcaaW.PrintWords Go.Proofs.YtjdmboagjeldcaaW.PrintLast Go.Proofs.YtjdmboagjeldcaaW.PrintMore
structure Sm (W0 : World) (bb bo bf : Nat) (x y z : Nat) (Z : Nat → Prop) (L : List (List Int)) (w : World) : Prop where
  bel : Below W0.heap.size W0 w
  hb : w.heap[bb]? = some (.cells #[.int .i64 x, .int .i64 y, .int .i64 z] 39 (0, 0))
  hf : w.heap[bf]? = some (.cells #[.func (.func 35) #[] #[.pointer (some ⟨bb, 0, none⟩), .pointer (some ⟨bo, 0, none⟩), .pointer (some ⟨bf, 0, none⟩)]] 55 (0, 0))
  ho : ∃ v, w.heap[bo]? = some (.cells #[v] 22 (0, 0)) ∧ Kd.S (Kd.slice 3 (Kd.int .i64)) 37 w W0.heap.size (fun k => W0.heap.size ≤ k ∧ ¬ Z k) v L
  hz : ∀ k, Z k → k < w.heap.size
  nbo : ¬ Z bo
def OwnL (w : World) (v : Value) (l : List Int) : Prop := (v = .slice none 0 0 ∧ l = []) ∨ ∃ g c, ∃ sp : List Value, v = .slice (some ⟨g, 0, none⟩) l.length c ∧ w.heap[g]? = some (.cells (l.map (Value.int .i64) ++ sp).toArray 3 (0, 0)) ∧ l.length + sp.length = c
theorem OwnL.cell {w : World} {g c : Nat} {l : List Int} (h : OwnL w (.slice (some ⟨g, 0, none⟩) l.length c) l) (j : Nat) (u : Int) (hj : l[j]? = some u) : w.cell? ⟨g, j, none⟩ = some (.int .i64 u) := by
  rcases h with ⟨h, rfl⟩ | ⟨g', c', sp, hv, hh, hc⟩
  · cases hj
  · injection hv with h1 _ _
    injection h1 with h1
    injection h1 with h1
    subst h1
    obtain ⟨hjl, rfl⟩ := List.getElem?_eq_some_iff.1 hj
    unfold World.cell?
    rw [hh]
    simp [List.getElem?_append_left, hjl]
theorem BoxAt_of {w : World} {bb : Nat} {x y z : Int} (h : w.heap[bb]? = some (.cells #[.int .i64 x, .int .i64 y, .int .i64 z] 39 (0, 0))) : BoxAt w bb x y z := by
  refine ⟨?_, ?_, ?_⟩ <;> (unfold World.cell?; rw [h]; rfl)
theorem info37 : (Try.prog.info? 37).map (fun i => (i.zero, i.size, i.bytes)) = some (some (.slice none 0 0), 1, 24) := by kernel_rfl
theorem leaf_row {w w2 : World} {v : Value} {l : List Int} {base : Nat} (h : w2.ownsRow w.drew.heap.size 3 1 v l.length ((l.take l.length).map (Value.int .i64))) (hb : base ≤ w.heap.size) : (Kd.slice 3 (Kd.int .i64)).M w2 base (fun k => w.heap.size ≤ k) l [v] := by
  rw [List.take_length] at h
  have hR : Kd.R (Kd.int .i64) 3 w2 w.heap.size (fun k => w.heap.size ≤ k) v l := Kd.R_of_own (xs := l) h (fun k hk => own_base h k hk)
  exact ⟨v, rfl, Kd.R_lower hR hb⟩
theorem ne_of_types {w : World} {a b : Nat} {c1 c2 : Array Value} {t1 t2 : TypeId} (h1 : w.heap[a]? = some (.cells c1 t1 (0, 0))) (h2 : w.heap[b]? = some (.cells c2 t2 (0, 0))) (hn : t1 ≠ t2) : a ≠ b := by
  rintro rfl
  rw [h1] at h2
  injection h2 with h2
  injection h2 with _ h3 _
  exact hn h3
theorem leaf_end {W0 w w2 w3 : World} {bb bo bf x y z : Nat} {Z : Nat → Prop} {L L2 : List (List Int)} {vo v1 : Value} (hbo0 : W0.heap.size ≤ bo) (hZbo : ¬ Z bo) (hm : Sm W0 bb bo bf x y z Z L w) (ho1 : w.heap[bo]? = some (.cells #[vo] 22 (0, 0))) (ho2 : Kd.S (Kd.slice 3 (Kd.int .i64)) 37 w W0.heap.size (fun k => W0.heap.size ≤ k ∧ ¬ Z k) vo L)
    (hb2 : Below w.drew.heap.size w.drew w2) (hg3 : w2.grownBy w3 vo.ownBlock) (hS3 : Kd.S (Kd.slice 3 (Kd.int .i64)) 37 w3 W0.heap.size (fun k => W0.heap.size ≤ k ∧ ¬ Z k) v1 L2) (hB3 : Below W0.heap.size W0 w3) :
    Sm W0 bb bo bf x y z Z L2 (w3.setCell ⟨bo, 0, none⟩ v1) ∧ (∀ k, Z k → (w3.setCell ⟨bo, 0, none⟩ v1).heap[k]? = w.heap[k]?) ∧ w.heap.size ≤ (w3.setCell ⟨bo, 0, none⟩ v1).heap.size := by
  have hs2 : w.heap.size ≤ w2.heap.size := hb2.size
  have keep : ∀ k, k < w.heap.size → some k ≠ vo.ownBlock → w3.heap[k]? = w.heap[k]? := fun k hk hn => (hg3.block k (Nat.lt_of_lt_of_le hk hs2) hn).trans (hb2.block k hk)
  have far : ∀ k, k ≠ bo → (w3.setCell ⟨bo, 0, none⟩ v1).heap[k]? = w3.heap[k]? := fun k hk => Below.heap_setCell w3 ⟨bo, 0, none⟩ _ k hk
  have hbo3 : w3.heap[bo]? = some (.cells #[vo] 22 (0, 0)) := (keep bo (lt_of_block ho1) (Kd.S_ne ho2 ho1 (by decide))).trans ho1
  have hsz : (w3.setCell ⟨bo, 0, none⟩ v1).heap.size = w3.heap.size := by simp only [World.setCell, Array.size_modify]
  have hs3 : w.heap.size ≤ w3.heap.size := Nat.le_trans hs2 hg3.size
  refine ⟨⟨hB3.setCell hbo0 _, ?_, ?_, ⟨v1, one_setCell hbo3, Kd.S_set hS3 hbo3 (by decide) 0 _⟩, fun k hk => ?_, hZbo⟩, fun k hk => ?_, ?_⟩
  · exact (far bb (ne_of_types hm.hb ho1 (by decide))).trans ((keep bb (lt_of_block hm.hb) (Kd.S_ne ho2 hm.hb (by decide))).trans hm.hb)
  · exact (far bf (ne_of_types hm.hf ho1 (by decide))).trans ((keep bf (lt_of_block hm.hf) (Kd.S_ne ho2 hm.hf (by decide))).trans hm.hf)
  · have := hm.hz k hk; omega
  · have hkb : k ≠ bo := fun h => hZbo (h ▸ hk)
    refine (far k hkb).trans (keep k (hm.hz k hk) (fun he => ?_))
    obtain ⟨f, hf⟩ := ho2
    exact (hf.1 k he.symm).2 hk
  · omega
theorem leaf35 (W0 w : World) (bb bo bf x y z : Nat) (Z : Nat → Prop) (L : List (List Int)) (g c : Nat) (l : List Int) (hx : x ≤ 4) (hy : y ≤ 4) (hl : l.length = x * y) (hp : 0 < l.length) (hbo0 : W0.heap.size ≤ bo) (hZbo : ¬ Z bo) (hL : L.length ≤ 100000)
    (hm : Sm W0 bb bo bf x y z Z L w) (ho : OwnL w (.slice (some ⟨g, 0, none⟩) l.length c) l) :
    Calls Try.prog 35 #[.slice (some ⟨g, 0, none⟩) l.length c, .pointer (some ⟨bb, 0, none⟩), .pointer (some ⟨bo, 0, none⟩), .pointer (some ⟨bf, 0, none⟩)] w fun e w' => e = .returned (.tuple #[]) ∧ Sm W0 bb bo bf x y z Z (L ++ [l]) w' ∧ (∀ k, Z k → w'.heap[k]? = w.heap[k]?) ∧ w.heap.size ≤ w'.heap.size := by
  obtain ⟨c1, c2, c3⟩ := BoxAt_of hm.hb
  have hl16 : l.length ≤ 16 := by rw [hl]; exact Nat.le_trans (Nat.mul_le_mul hx hy) (by decide)
  obtain ⟨vo, ho1, ho2⟩ := hm.ho
  have c4 := cell_of_one ho1
  have hP : (x : Int) * (y : Int) = (l.length : Int) := by rw [hl]; simp
  have hlb : (l.length : Int) ≤ 16 := by omega
  have hcl := fun (W : World) (hW : ∀ j, j < l.length → W.cell? ⟨g, j, none⟩ = w.cell? ⟨g, j, none⟩) => Any.slices_Clone_int Try.lays15 g 0 l.length c l W (Nat.le_refl _) (by omega) (fun j hj => by
    rw [Nat.zero_add, hW j hj, ho.cell j l[j] (List.getElem?_eq_getElem hj), List.getD_eq_getElem?_getD, List.getElem?_eq_getElem hj]; rfl)
  have Hm := Lib.hid hm
  have Ho := Lib.hid ho
  have Ho2 := Lib.hid ho2
  have Hl := Lib.hid hl
  have Ho1 := Lib.hid ho1
  clear hm ho ho2 hl
  go_enter Try.func35, Try.ntmps35
  go_wp2_with (fail)
  have hbo := lt_of_block ho1
  have hne : some bo ≠ vo.ownBlock := Kd.S_ne Ho2.out ho1 (by decide)
  have hbelw := Hm.out.bel
  have hzz := Hm.out.hz
  have c4d : w.drew.cell? ⟨bo, 0, none⟩ = some vo := c4
  have Hbel := Lib.hid hbelw
  have Hzz := Lib.hid hzz
  clear hbelw hzz
  have hbase := Hm.out.bel.size
  have hL4 := hL
  have f4d : w.drew.frozen? ⟨bo, 0, none⟩ = false := free_of_one ho1
  have hlv := Lib.hid (Kd.S_lt Ho2.out)
  go_region_law (first
    | (go_simp; go_at_call 36; refine (hcl w.drew (fun j hj => rfl)).mono ?_; rintro e w2 ⟨v', rfl, hown, hvn, hb2⟩; obtain ⟨g2, cap2, rfl, hg2⟩ := hown.form hp; have c4' := (hb2.cell (p := ⟨bo, 0, none⟩) (show bo < w.drew.heap.size from hbo)).trans c4d; have f4' := (hb2.frozen (p := ⟨bo, 0, none⟩) (show bo < w.drew.heap.size from hbo)).trans f4d; have Hown := Lib.hid hown; have Hb2 := Lib.hid hb2; have c4a : ∀ o, (w2.alloc o).cell? ⟨bo, 0, none⟩ = some vo := fun o => ((below_alloc (Below.refl w2.heap.size w2) o).cell (p := ⟨bo, 0, none⟩) (Nat.lt_of_lt_of_le (show bo < w.drew.heap.size from hbo) hb2.size)).trans c4')
    | (refine Kd.S_append_step (Kd.slice 3 (Kd.int .i64)) (w0 := W0) W0.heap.size rfl (.tmp 17) (.tmp 20) 22 37 (.slice none 0 0) 24 rfl Try.underlying22 info37 rfl (by decide) (by omega) vo L l [.slice (some ⟨g2, 0, none⟩) l.length cap2] (fun k => W0.heap.size ≤ k ∧ ¬ Z k) (fun k => w.heap.size ≤ k) rfl rfl (leaf_row Hown.out hbase) (fun k hk => ⟨⟨Nat.le_trans hbase hk, fun hz => by have := Hzz.out k hz; omega⟩, fun he => by have := hlv.out k he.symm; omega⟩) (fun k hk => ⟨Nat.le_trans hbase (Nat.le_trans Hb2.out.size hk), fun hz => by have := Hzz.out k hz; have h2 : w.heap.size ≤ w2.heap.size := Hb2.out.size; omega⟩) (Kd.S_below (Kd.S_drew (Kd.S_mono (Kd.S_bound Ho2.out) (fun k hk => ⟨hk.1, by have := hk.2.2.1; omega⟩))) Hb2.out) (Hbel.out.trans (show Below W0.heap.size w w2 from (⟨Hb2.out.1, Hb2.out.2, Hb2.out.3, Hb2.out.size, fun k hk => Hb2.out.block k (Nat.lt_of_lt_of_le hk hbase)⟩))) (Nat.le_trans hbase Hb2.out.size) (by omega) ?_; intro v1 w3 hS3 hB3 hg3 hat3; obtain ⟨A1, k1, rfl⟩ := Kd.S_slice hS3; have hbo2 : bo < w2.heap.size := Nat.lt_of_lt_of_le hbo Hb2.out.size; have c5 := (hg3.cell_far ⟨bo, 0, none⟩ hbo2 hne).trans c4'; have f5 := (hg3.frozen_far ⟨bo, 0, none⟩ hbo2 hne).trans f4'))
  all_goals (have Hend := Lib.hid (leaf_end hbo0 hZbo Hm.out Ho1.out Ho2.out Hb2.out hg3 hS3 hB3); have hlen2 : (L ++ [l]).length = L.length + 1 := by simp
             )
  all_goals (rw [hlen2] at Hend; clear hlen2)
  all_goals go_wp2_with (fail)
  all_goals ((try simp only [Exit.inBlock, Exit.then]); refine bodyPost_ret (results_none rfl _ _ _) rfl ?_; exact ⟨rfl, Hend.out.1, Hend.out.2.1, Hend.out.2.2⟩)
end Go.Proofs.Ytjdmboagjeldcaa
namespace Go.Proofs.Ytjdmboagjeldcaa
open Go.RowKit S Go.Proofs.YtjdmboagjeldcaaW.PrintWords Go.Proofs.YtjdmboagjeldcaaW.PrintLast Go.Proofs.YtjdmboagjeldcaaW.PrintMore
theorem below_weak {a b : Nat} {w w' : World} (h : Below a w w') (hb : b ≤ a) : Below b w w' := ⟨h.1, h.2, h.3, h.size, fun k hk => h.block k (Nat.lt_of_lt_of_le hk hb)⟩
theorem Sm.below {W0 w w1 : World} {bb bo bf x y z : Nat} {Z : Nat → Prop} {L : List (List Int)} (hm : Sm W0 bb bo bf x y z Z L w) (hb : Below w.heap.size w w1) : Sm W0 bb bo bf x y z Z L w1 := by
  obtain ⟨v, ho1, ho2⟩ := hm.ho
  exact ⟨hm.bel.trans (below_weak hb hm.bel.size), (hb.block _ (lt_of_block hm.hb)).trans hm.hb, (hb.block _ (lt_of_block hm.hf)).trans hm.hf,
    ⟨v, (hb.block _ (lt_of_block ho1)).trans ho1, Kd.S_below ho2 hb⟩, fun k hk => Nat.lt_of_lt_of_le (hm.hz k hk) hb.size, hm.nbo⟩
theorem Sm.more {W0 w w1 : World} {bb bo bf x y z : Nat} {Z : Nat → Prop} {L : List (List Int)} {g : Nat} (hm : Sm W0 bb bo bf x y z Z L w) (hb : Below w.heap.size w w1) (hg : w.heap.size ≤ g) (hg1 : g < w1.heap.size) : Sm W0 bb bo bf x y z (fun k => Z k ∨ k = g) L w1 := by
  obtain ⟨v, ho1, ho2⟩ := hm.ho
  have h := hm.below hb
  refine ⟨h.bel, h.hb, h.hf, ⟨v, (hb.block _ (lt_of_block ho1)).trans ho1, Kd.S_below (Kd.S_mono (Kd.S_bound ho2) (fun k hk => ⟨hk.1.1, fun hz => ?_⟩)) hb⟩, fun k hk => ?_, fun h => h.elim hm.nbo (fun e => by have := lt_of_block ho1; omega)⟩
  · rcases hz with hz | hz
    · exact hk.1.2 hz
    · have := hk.2.2.1; omega
  · rcases hk with hk | hk
    · exact h.hz k hk
    · omega
theorem Sm.less {W0 w : World} {bb bo bf x y z : Nat} {Z Z' : Nat → Prop} {L : List (List Int)} (hm : Sm W0 bb bo bf x y z Z' L w) (hZ : ∀ k, Z k → Z' k) : Sm W0 bb bo bf x y z Z L w := by
  obtain ⟨v, ho1, ho2⟩ := hm.ho
  exact ⟨hm.bel, hm.hb, hm.hf, ⟨v, ho1, Kd.S_mono ho2 (fun k hk => ⟨hk.1, fun hz => hk.2 (hZ k hz)⟩)⟩, fun k hk => hm.hz k (hZ k hk), fun h => hm.nbo (hZ _ h)⟩
theorem Sm.put {W0 w : World} {bb bo bf x y z : Nat} {Z : Nat → Prop} {L : List (List Int)} {g : Nat} {cells : Array Value} (hm : Sm W0 bb bo bf x y z Z L w) (hg : w.heap[g]? = some (.cells cells 3 (0, 0))) (hZ : Z g) (hg0 : W0.heap.size ≤ g) (j : Nat) (u : Value) : Sm W0 bb bo bf x y z Z L (w.setCell ⟨g, j, none⟩ u) := by
  obtain ⟨v, ho1, ho2⟩ := hm.ho
  have far : ∀ k, k ≠ g → (w.setCell ⟨g, j, none⟩ u).heap[k]? = w.heap[k]? := fun k hk => Below.heap_setCell w ⟨g, j, none⟩ _ k hk
  refine ⟨hm.bel.setCell hg0 _, (far bb (ne_of_types hm.hb hg (by decide))).trans hm.hb, (far bf (ne_of_types hm.hf hg (by decide))).trans hm.hf, ⟨v, (far bo (ne_of_types ho1 hg (by decide))).trans ho1, Kd.S_far ho2 (p := ⟨g, j, none⟩) (fun k hk e => hk.2 (e ▸ hZ)) u⟩, fun k hk => ?_, hm.nbo⟩
  have := hm.hz k hk
  simp only [World.setCell, Array.size_modify]; exact this
theorem OwnL.below {w w1 : World} {v : Value} {l : List Int} (h : OwnL w v l) (hb : Below w.heap.size w w1) : OwnL w1 v l := by
  rcases h with h | ⟨g, c, sp, hv, hh, hc⟩
  · exact Or.inl h
  · exact Or.inr ⟨g, c, sp, hv, (hb.block _ (lt_of_block hh)).trans hh, hc⟩
theorem OwnL.cut {w : World} {g c : Nat} {l : List Int} {u : Int} (h : OwnL w (.slice (some ⟨g, 0, none⟩) (l ++ [u]).length c) (l ++ [u])) : OwnL w (.slice (some ⟨g, 0, none⟩) l.length c) l := by
  rcases h with ⟨h, _⟩ | ⟨g', c', sp, hv, hh, hc⟩
  · cases h
  · injection hv with h1 _ h3
    injection h1 with h1
    injection h1 with h1
    subst h1 h3
    refine Or.inr ⟨g, c, .int .i64 u :: sp, rfl, ?_, ?_⟩
    · rw [hh, List.map_append, List.append_assoc]; rfl
    · rw [List.length_append, List.length_singleton] at hc
      rw [List.length_cons]; omega
theorem OwnL.at {w : World} {g c : Nat} {l : List Int} (h : OwnL w (.slice (some ⟨g, 0, none⟩) l.length c) l) : ∃ sp : List Value, w.heap[g]? = some (.cells (l.map (Value.int .i64) ++ sp).toArray 3 (0, 0)) ∧ l.length + sp.length = c := by
  rcases h with ⟨h, _⟩ | ⟨g', c', sp, hv, hh, hc⟩
  · cases h
  · injection hv with h1 _ h3
    injection h1 with h1
    injection h1 with h1
    subst h1 h3
    exact ⟨sp, hh, hc⟩
theorem OwnL.put {w : World} {g c : Nat} {l : List Int} (h : OwnL w (.slice (some ⟨g, 0, none⟩) l.length c) l) (hc : l.length < c) (u : Int) : OwnL (w.setCell ⟨g, l.length, none⟩ (.int .i64 u)) (.slice (some ⟨g, 0, none⟩) (l ++ [u]).length c) (l ++ [u]) := by
  obtain ⟨sp, hh, hs⟩ := h.at
  cases sp with
  | nil => rw [List.length_nil] at hs; omega
  | cons s sp =>
    refine Or.inr ⟨g, c, sp, rfl, ?_, by rw [List.length_append, List.length_singleton]; rw [List.length_cons] at hs; omega⟩
    unfold World.setCell
    simp only [Array.getElem?_modify, if_pos, hh, Option.map_some]
    congr 1
    simp only [List.setIfInBounds_toArray]
    rw [List.set_append_right _ _ (by rw [List.length_map]; omega), List.length_map, Nat.sub_self, List.set_cons_zero, List.map_append, List.append_assoc]
    rfl
theorem OwnL.spare {w : World} {g c : Nat} {l : List Int} (h : OwnL w (.slice (some ⟨g, 0, none⟩) l.length c) l) (hc : l.length < c) : (w.cell? ⟨g, l.length, none⟩).isSome = true ∧ w.frozen? ⟨g, l.length, none⟩ = false := by
  obtain ⟨sp, hh, hs⟩ := h.at
  refine ⟨?_, by simp [World.frozen?, hh]⟩
  unfold World.cell?
  rw [hh]
  cases sp with
  | nil => rw [List.length_nil] at hs; omega
  | cons s sp => simp
theorem OwnL.olds {w : World} {ao : Option Addr} {c : Nat} {l : List Int} (h : OwnL w (.slice ao l.length c) l) : ∀ b, ao = some b → ∀ (j : Nat) (u : Value), (l.map (Value.int .i64))[j]? = some u → w.cell? (b.add j) = some u := by
  rintro b rfl j u hj
  rcases h with ⟨h, _⟩ | ⟨g', c', sp, hv, hh, hc⟩
  · cases h
  · injection hv with h1 _ h3
    injection h1 with h1
    subst h1 h3
    obtain ⟨hjl, rfl⟩ := List.getElem?_eq_some_iff.1 hj
    have ha : (⟨g', 0, Option.none⟩ : Addr).add j = ⟨g', j, Option.none⟩ := by
      unfold Addr.add
      split
      · rename_i h; rw [h]
      · simp
    rw [ha]
    unfold World.cell?
    rw [hh]
    rw [List.length_map] at hjl
    simp [List.getElem?_append_left, hjl]
theorem OwnL.nil0 {w : World} {ao : Option Addr} {c : Nat} {l : List Int} (h : OwnL w (.slice ao l.length c) l) (ha : ao = none) : l.length = 0 ∧ c = 0 := by
  rcases h with ⟨h, rfl⟩ | ⟨g', c', sp, hv, hh, hc⟩
  · injection h with _ _ h3
    exact ⟨rfl, h3⟩
  · injection hv with h1 _ h3
    rw [ha] at h1; cases h1
theorem OwnL.form {w : World} {v : Value} {l : List Int} (h : OwnL w v l) : ∃ ao c, v = .slice ao l.length c := by
  rcases h with ⟨h, rfl⟩ | ⟨g', c', sp, hv, hh, hc⟩
  · exact ⟨_, _, h⟩
  · exact ⟨_, _, hv⟩
theorem OwnL.of_owns {w : World} {base n : Nat} {v : Value} {l : List Int} {u : Int} (h : w.ownsRow base 3 1 v (n + 1) (l.map (Value.int .i64) ++ [.int .i64 u])) (hn : l.length = n) : ∃ g c, v = .slice (some ⟨g, 0, none⟩) (l ++ [u]).length c ∧ base ≤ g ∧ g < w.heap.size ∧ OwnL w v (l ++ [u]) := by
  obtain ⟨h0, h | ⟨g, cap, cur, rfl, hb, hh, h1, h2, h3, h4⟩⟩ := h
  · omega
  · refine ⟨g, cap, by rw [List.length_append, List.length_singleton, hn], hb, lt_of_block hh, Or.inr ⟨g, cap, cur.toList.drop (n + 1), by rw [List.length_append, List.length_singleton, hn], ?_, ?_⟩⟩
    · rw [hh]
      congr 2
      apply Array.ext'
      rw [Nat.mul_one] at h4
      conv => lhs; rw [← List.take_append_drop (n + 1) cur.toList, h4]
      simp
    · have h5 : cur.toList.length = cap := by rw [Array.length_toList, h3, Nat.mul_one]
      rw [List.length_drop, List.length_append, List.length_singleton, h5, hn]; omega
end Go.Proofs.Ytjdmboagjeldcaa
namespace Go.Proofs.Ytjdmboagjeldcaa
open Go.RowKit S Go.Proofs.YtjdmboagjeldcaaW.PrintWords Go.Proofs.YtjdmboagjeldcaaW.PrintLast Go.Proofs.YtjdmboagjeldcaaW.PrintMore
structure Post35 (W0 : World) (bb bo bf x y z : Nat) (Z : Nat → Prop) (L : List (List Int)) (w : World) (v : Value) (l : List Int) (e : Ending) (w' : World) : Prop where
  out : e = .returned (.tuple #[])
  sm : Sm W0 bb bo bf x y z Z L w'
  own : OwnL w' v l
  keep : ∀ k, Z k → some k ≠ v.ownBlock → w'.heap[k]? = w.heap[k]?
  size : w.heap.size ≤ w'.heap.size
theorem Post35.from {W0 w w1 w' : World} {bb bo bf x y z : Nat} {Z : Nat → Prop} {L : List (List Int)} {v : Value} {l : List Int} {e : Ending} (h : Post35 W0 bb bo bf x y z Z L w1 v l e w') (hZ : ∀ k, Z k → k < w.heap.size) (hb : Below w.heap.size w w1) : Post35 W0 bb bo bf x y z Z L w v l e w' :=
  ⟨h.out, h.sm, h.own, fun k hk hn => (h.keep k hk hn).trans (hb.block k (hZ k hk)), Nat.le_trans hb.size h.size⟩
abbrev a35 (bb bo bf : Nat) (v : Value) : Array Value := #[v, .pointer (some ⟨bb, 0, none⟩), .pointer (some ⟨bo, 0, none⟩), .pointer (some ⟨bf, 0, none⟩)]
section
variable (W0 : World) (bb bo bf x y z m : Nat) (l : List Int) (F : Nat → List (List Int))
abbrev Low : Prop := ∀ j, j ≤ m → ∀ (Z' : Nat → Prop) (W : World) (g' c' : Nat), Sm W0 bb bo bf x y z Z' (F j) W → OwnL W (.slice (some ⟨g', 0, none⟩) (l ++ [(j : Int)]).length c') (l ++ [(j : Int)]) → Z' g' → W0.heap.size ≤ g' →
    Calls Try.prog 35 (a35 bb bo bf (.slice (some ⟨g', 0, none⟩) (l ++ [(j : Int)]).length c')) W (Post35 W0 bb bo bf x y z Z' (F (j + 1)) W (.slice (some ⟨g', 0, none⟩) (l ++ [(j : Int)]).length c') (l ++ [(j : Int)]))
theorem low_room (h : Low W0 bb bo bf x y z m l F) (j : Nat) (hj : j ≤ m) (Z : Nat → Prop) (W : World) (g c : Nat) (hm : Sm W0 bb bo bf x y z Z (F j) W) (ho : OwnL W (.slice (some ⟨g, 0, none⟩) l.length c) l) (hc : l.length < c) (hg : Z g) (hg0 : W0.heap.size ≤ g) :
    Calls Try.prog 35 (a35 bb bo bf (.slice (some ⟨g, 0, none⟩) (l.length + 1) c)) (W.setCell ⟨g, l.length, none⟩ (.int .i64 j)) (Post35 W0 bb bo bf x y z Z (F (j + 1)) W (.slice (some ⟨g, 0, none⟩) l.length c) l) := by
  have e1 : (l ++ [(j : Int)]).length = l.length + 1 := by simp
  obtain ⟨sp, hh, _⟩ := ho.at
  have h1 := h j hj Z _ g c (hm.put hh hg hg0 l.length (.int .i64 j)) (ho.put hc j) hg hg0
  rw [e1] at h1
  refine h1.mono ?_
  rintro e w' hp
  refine ⟨hp.out, hp.sm, OwnL.cut (u := j) (by have := hp.own; rw [e1]; exact this), fun k hk hn => (hp.keep k hk hn).trans (Below.heap_setCell W ⟨g, l.length, none⟩ _ k ?_), ?_⟩
  · rintro rfl; exact hn rfl
  · have := hp.size; simp only [World.setCell, Array.size_modify] at this; exact this
theorem low_grow (h : Low W0 bb bo bf x y z m l F) (j : Nat) (hj : j ≤ m) (Z : Nat → Prop) (W W2 : World) (v v' : Value) (hm : Sm W0 bb bo bf x y z Z (F j) W) (ho : OwnL W v l) (hv : ∀ k, v.ownBlock = some k → Z k) (hb : Below W.heap.size W W2) (hr : W2.ownsRow W.heap.size 3 1 v' (l.length + 1) (l.map (Value.int .i64) ++ [.int .i64 j])) :
    Calls Try.prog 35 (a35 bb bo bf v') W2 (Post35 W0 bb bo bf x y z Z (F (j + 1)) W v l) := by
  obtain ⟨g', c', rfl, hg, hg1, ho2⟩ := OwnL.of_owns hr rfl
  have h1 := h j hj (fun k => Z k ∨ k = g') W2 g' c' (hm.more hb hg hg1) ho2 (Or.inr rfl) (Nat.le_trans hm.bel.size hg)
  refine h1.mono ?_
  rintro e w' hp
  have keep : ∀ k, Z k → w'.heap[k]? = W.heap[k]? := fun k hk => by
    have hlt := hm.hz k hk
    refine (hp.keep k (Or.inl hk) (fun e => ?_)).trans (hb.block k hlt)
    have e : k = g' := by injection e
    omega
  refine ⟨hp.out, hp.sm.less (fun k hk => Or.inl hk), ?_, fun k hk _ => keep k hk, Nat.le_trans hb.size hp.size⟩
  rcases ho with ho | ⟨g, c, sp, rfl, hh, hc⟩
  · exact Or.inl ho
  · exact Or.inr ⟨g, c, sp, rfl, (keep g (hv g rfl)).trans hh, hc⟩
end
end Go.Proofs.Ytjdmboagjeldcaa
namespace Go.Proofs.Ytjdmboagjeldcaa
open Go.RowKit S Go.Proofs.YtjdmboagjeldcaaW.PrintWords Go.Proofs.YtjdmboagjeldcaaW.PrintLast Go.Proofs.YtjdmboagjeldcaaW.PrintMore
theorem info3c : (Try.prog.info? 3).map (fun i => (i.zero, i.size, i.bytes)) = some (some (.int .i64 0), 1, 8) := by kernel_rfl
theorem info3d : ∃ i, Try.prog.info? 3 = some i ∧ i.zero = some (.int .i64 0) ∧ i.size = 1 ∧ i.bytes = 8 := by
  have h := info3c
  cases hi : Try.prog.info? 3 with
  | none => rw [hi] at h; cases h
  | some i =>
    rw [hi] at h
    simp only [Option.map_some, Option.some.injEq, Prod.mk.injEq] at h
    exact ⟨i, rfl, h.1, h.2.1, h.2.2⟩
theorem below_grown {a b : World} (h : a.grownBy b none) : Below a.heap.size a b := ⟨h.os, h.tape, h.output, h.size, fun k hk => h.block k hk (by simp)⟩
theorem lit1 (w : World) (v : Value) (t : TypeId) : ∀ (i : Nat) (u : Value), ([v] : List Value)[i]? = some u → (w.alloc (.cells #[v] t (0, 0))).cell? ((⟨w.heap.size, 0, none⟩ : Addr).add i) = some u := by
  intro i u h
  cases i with
  | zero =>
    injection h with h; subst h
    unfold World.cell? World.alloc
    simp [Addr.add]
  | succ i => cases h
theorem sc1 (W : World) (g n : Nat) (v : Value) : World.setCells W g (0 + n * 1) [v] = W.setCell ⟨g, n, none⟩ v := by
  rw [Nat.zero_add, Nat.mul_one]; rfl
theorem wno1 {m j : Nat} (h : (m : Int) + 1 ≤ (j : Int)) (hm : (m : Int) ≤ 4) : ¬ (j : Int) < wrap64 ((m : Int) + 1) := by unfold wrap64; omega
theorem wno2 {m j : Nat} (h : (j : Int) < (m : Int) + 1) (hm : (m : Int) ≤ 4) : ¬ wrap64 ((m : Int) + 1) ≤ (j : Int) := by unfold wrap64; omega
theorem Post35.chain {W0 w w1 w' : World} {bb bo bf x y z : Nat} {Z : Nat → Prop} {L L' : List (List Int)} {v : Value} {l : List Int} {e e' : Ending} (h : Post35 W0 bb bo bf x y z Z L w v l e' w1) (h' : Post35 W0 bb bo bf x y z Z L' w1 v l e w') : Post35 W0 bb bo bf x y z Z L' w v l e w' :=
  ⟨h'.out, h'.sm, h'.own, fun k hk hn => (h'.keep k hk hn).trans (h.keep k hk hn), Nat.le_trans h.size h'.size⟩
set_option maxHeartbeats 2000000 in
theorem inner35a (W0 w : World) (bb bo bf x y z m : Nat) (Z : Nat → Prop) (F : Nat → List (List Int)) (g c : Nat) (l : List Int) (hx : x ≤ 4) (hy0 : 0 < y) (hy : y ≤ 4) (hl : l.length < x * y) (hM : mostOf y z l = (m : Int)) (hm4 : (m : Int) ≤ 4)
    (hm : Sm W0 bb bo bf x y z Z (F 0) w) (ho : OwnL w (.slice (some ⟨g, 0, none⟩) l.length c) l) (hv : ∀ k, (Value.slice (some ⟨g, 0, none⟩) l.length c).ownBlock = some k → Z k ∧ W0.heap.size ≤ k) (low : Low W0 bb bo bf x y z m l F)
    (h1 : y ≤ l.length) (h2 : 0 < l.length % y) :
    Calls Try.prog 35 (a35 bb bo bf (.slice (some ⟨g, 0, none⟩) l.length c)) w (Post35 W0 bb bo bf x y z Z (F (m + 1)) w (.slice (some ⟨g, 0, none⟩) l.length c) l) := by
  obtain ⟨c1, c2, c3⟩ := BoxAt_of hm.hb
  have hxy : x * y ≤ 4 * 4 := Nat.mul_le_mul hx hy
  obtain ⟨P, hP, hPe⟩ : ∃ P : Nat, (x : Int) * (y : Int) = (P : Int) ∧ P = x * y := ⟨x * y, by simp, rfl⟩
  rw [← hPe] at hl hxy
  have hneq : ((l.length : Int) == (P : Int)) = false := by rw [beq_eq_false_iff_ne]; omega
  have hPb : (P : Int) ≤ 16 := by omega
  have hlb2 : (l.length : Int) ≤ 16 := by omega
  have hy1 : (y : Int) ≠ 0 := by omega
  have hyN : y ≠ 0 := by omega
  have hm1 : Int.tmod (l.length : Int) (y : Int) = ((l.length % y : Nat) : Int) := (Int.ofNat_tmod _ _).symm
  have hm2 : (l.length : Int) % (y : Int) = ((l.length % y : Nat) : Int) := by simp
  have Low := Lib.hid low
  have Hv := Lib.hid hv
  clear low hv
  obtain ⟨u1, hu1⟩ : ∃ u, l[l.length - y]? = some u := ⟨_, List.getElem?_eq_getElem (by omega)⟩
  obtain ⟨u2, hu2⟩ : ∃ u, l[l.length - 1]? = some u := ⟨_, List.getElem?_eq_getElem (by have : l.length ≠ 0 := (by intro h; simp [h] at h2); omega)⟩
  have hMm : min (z : Int) (min u1 u2) = (m : Int) := by
    rw [← hM]; unfold mostOf most1 least
    rw [if_pos h1, if_pos h2, List.getD_eq_getElem?_getD, hu1, List.getD_eq_getElem?_getD, hu2]
    simp only [Option.getD_some]
    split <;> split <;> omega
  have k1 := ho.cell _ _ hu1
  have k2 := ho.cell _ _ hu2
  have Hm := Lib.hid hm
  have Ho := Lib.hid ho
  have HMm := Lib.hid hMm
  have hl0 : 0 < l.length := by
    have : l.length ≠ 0 := (by intro h; simp [h] at h2)
    omega
  have h1z : (y : Int) ≤ (l.length : Int) := by omega
  have h2z : (0 : Int) < ((l.length % y : Nat) : Int) := by omega
  generalize hr : l.length % y = r at hm1 hm2 h2 h2z
  clear hm ho hPe hr hM hMm hu1 hu2
  go_enter Try.func35, Try.ntmps35
  go_wp2_with (fail)
  simp only [HMm.out]
  go_loopw [51, 7] (fun k _ wr => ∃ j : Nat, j ≤ m + 1 ∧ k = .int .i64 j ∧ Post35 W0 bb bo bf x y z Z (F j) w (.slice (some ⟨g, 0, none⟩) l.length c) l (.returned (.tuple #[])) wr) (fun k _ _ => m + 1 - (intOf k).toNat)
  case atStart => exact ⟨0, Nat.zero_le _, rfl, rfl, Hm.out, Ho.out, fun _ _ _ => rfl, Nat.le_refl _⟩
  case round =>
    obtain ⟨j, hj, rfl, hp⟩ := hrel
    have Hp := Lib.hid hp
    clear hp
    by_cases hjl : j < m + 1
    · have hjl2 : (j : Int) < (m : Int) + 1 := by omega
      have hj4 : (j : Int) ≤ 4 := by omega
      have hbfl : bf < wr.heap.size := lt_of_block Hp.out.sm.hf
      have cf : wr.cell? ⟨bf, 0, none⟩ = some (.func (.func 35) #[] #[.pointer (some ⟨bb, 0, none⟩), .pointer (some ⟨bo, 0, none⟩), .pointer (some ⟨bf, 0, none⟩)]) := cell_of_one Hp.out.sm.hf
      have cfa : ∀ o, (wr.alloc o).cell? ⟨bf, 0, none⟩ = some (.func (.func 35) #[] #[.pointer (some ⟨bb, 0, none⟩), .pointer (some ⟨bo, 0, none⟩), .pointer (some ⟨bf, 0, none⟩)]) := fun o => ((below_alloc (Below.refl wr.heap.size wr) o).cell (p := ⟨bf, 0, none⟩) hbfl).trans cf
      have HbA := Lib.hid (fun o : Obj => (below_drew (below_alloc (Below.refl wr.heap.size wr) o) : Below wr.heap.size wr (wr.alloc o).drew))
      have HsmA := Lib.hid (fun o : Obj => Hp.out.sm.below (HbA.out o))
      have HownA := Lib.hid (fun o : Obj => Hp.out.own.below (HbA.out o))
      obtain ⟨i3, hi3, hzr3, hsz3, hby3⟩ := info3d
      go_wp2_with (fail)
      all_goals try (exact absurd ‹wrap64 ((m : Int) + 1) ≤ (j : Int)› (wno2 hjl2 hm4))
      have hbfg : bf ≠ g := by
        obtain ⟨sp, hh, _⟩ := Hp.out.own.at
        exact ne_of_types Hp.out.sm.hf hh (by decide)
      by_cases hroom : l.length < c
      · have sp := (HownA.out (.cells #[.int .i64 j] 3 (0, 0))).spare hroom
        have cfs : (((wr.alloc (.cells #[.int .i64 j] 3 (0, 0))).drew).setCell ⟨g, l.length, none⟩ (.int .i64 j)).cell? ⟨bf, 0, none⟩ = some (.func (.func 35) #[] #[.pointer (some ⟨bb, 0, none⟩), .pointer (some ⟨bo, 0, none⟩), .pointer (some ⟨bf, 0, none⟩)]) := (World.cell?_of_block (Below.heap_setCell _ ⟨g, l.length, none⟩ _ bf hbfg)).trans (cfa _)
        go_region_law (first
          | (refine step_append_room rfl (.tmp 55) (.tmp 57) 37 rfl 3 i3 1 Try.underlying37 hi3 hsz3 g 0 l.length c rfl ⟨wr.heap.size, 0, none⟩ 1 1 [.int .i64 j] rfl rfl (lit1 wr (.int .i64 j) 3) (by intro u hu; cases List.mem_singleton.1 hu; rfl) hroom (by intro q hq; cases q with | zero => simp only [Nat.zero_add, Nat.mul_one, Nat.add_zero]; exact sp | succ q => simp at hq) ?_; rw [sc1])
          | (go_simp; go_at_call 35; refine (low_room W0 bb bo bf x y z m l F Low.out j (by omega) Z ((wr.alloc (.cells #[.int .i64 j] 3 (0, 0))).drew) g c (HsmA.out _) (HownA.out _) hroom (Hv.out g rfl).1 (Hv.out g rfl).2).mono ?_; rintro e w3 hp3; have hp4 := Hp.out.chain (hp3.from Hp.out.sm.hz (HbA.out (.cells #[.int .i64 j] 3 (0, 0)))); have he := hp4.out; subst he; have Hp4 := Lib.hid hp4))
        all_goals go_wp2_with (fail)
        all_goals go_roundw
        all_goals try (case rel => exact ⟨j + 1, by omega, by go_num, Hp4.out⟩)
        all_goals try (case measure => (simp [intOf]; omega))
      · go_region_law (first
          | (refine step_append_grows rfl (.tmp 55) (.tmp 57) 37 rfl 3 i3 (.int .i64 0) 1 8 Try.underlying37 hi3 hzr3 hsz3 hby3 rfl (by decide) (some ⟨g, 0, none⟩) l.length c (l.map (Value.int .i64)) rfl (HownA.out (.cells #[.int .i64 j] 3 (0, 0))).nil0 (by simp) (HownA.out (.cells #[.int .i64 j] 3 (0, 0))).olds ⟨wr.heap.size, 0, none⟩ 1 1 [.int .i64 j] rfl rfl (lit1 wr (.int .i64 j) 3) (by intro u hu; cases List.mem_singleton.1 hu; rfl) (by omega) (by have : 1000 ≤ maxLen := (by decide); omega) (by omega) ?_; intro v' w2 hown hgr; have Hown := Lib.hid hown; obtain ⟨g2, cap2, rfl, hg2⟩ := hown.form (Nat.succ_pos _); have Hgr := Lib.hid (below_grown hgr); have cf2 := (hgr.cell_far ⟨bf, 0, none⟩ (Nat.lt_of_lt_of_le hbfl (HbA.out (.cells #[.int .i64 j] 3 (0, 0))).size) (by simp)).trans (cfa _); clear hown hgr)
          | (go_simp; go_at_call 35; refine (low_grow W0 bb bo bf x y z m l F Low.out j (by omega) Z ((wr.alloc (.cells #[.int .i64 j] 3 (0, 0))).drew) w2 (.slice (some ⟨g, 0, none⟩) l.length c) _ (HsmA.out _) (HownA.out _) (fun k hk => (Hv.out k hk).1) Hgr.out Hown.out).mono ?_; rintro e w3 hp3; have hp4 := Hp.out.chain (hp3.from Hp.out.sm.hz (HbA.out (.cells #[.int .i64 j] 3 (0, 0)))); have he := hp4.out; subst he; have Hp4 := Lib.hid hp4))
        all_goals go_wp2_with (fail)
        all_goals go_roundw
        all_goals try (case rel => exact ⟨j + 1, by omega, by go_num, Hp4.out⟩)
        all_goals try (case measure => (simp [intOf]; omega))
    · have hjl2 : ¬ (j : Int) < (m : Int) + 1 := by omega
      have hpe : F j = F (m + 1) := by rw [show j = m + 1 by omega]
      rw [hpe] at Hp
      clear hpe
      go_wp2_with (fail)
      all_goals (try simp only [Exit.inBlock, Exit.then])
      all_goals first | (refine bodyPost_end (results_none rfl _ _ _) rfl ?_; exact Hp.out) | (exact absurd ‹(j : Int) < wrap64 ((m : Int) + 1)› (wno1 hjl2 hm4))
set_option maxHeartbeats 2000000 in
theorem inner35b (W0 w : World) (bb bo bf x y z m : Nat) (Z : Nat → Prop) (F : Nat → List (List Int)) (g c : Nat) (l : List Int) (hx : x ≤ 4) (hy0 : 0 < y) (hy : y ≤ 4) (hl : l.length < x * y) (hM : mostOf y z l = (m : Int)) (hm4 : (m : Int) ≤ 4)
    (hm : Sm W0 bb bo bf x y z Z (F 0) w) (ho : OwnL w (.slice (some ⟨g, 0, none⟩) l.length c) l) (hv : ∀ k, (Value.slice (some ⟨g, 0, none⟩) l.length c).ownBlock = some k → Z k ∧ W0.heap.size ≤ k) (low : Low W0 bb bo bf x y z m l F)
    (h1 : y ≤ l.length) (h2 : ¬ 0 < l.length % y) :
    Calls Try.prog 35 (a35 bb bo bf (.slice (some ⟨g, 0, none⟩) l.length c)) w (Post35 W0 bb bo bf x y z Z (F (m + 1)) w (.slice (some ⟨g, 0, none⟩) l.length c) l) := by
  obtain ⟨c1, c2, c3⟩ := BoxAt_of hm.hb
  have hxy : x * y ≤ 4 * 4 := Nat.mul_le_mul hx hy
  obtain ⟨P, hP, hPe⟩ : ∃ P : Nat, (x : Int) * (y : Int) = (P : Int) ∧ P = x * y := ⟨x * y, by simp, rfl⟩
  rw [← hPe] at hl hxy
  have hneq : ((l.length : Int) == (P : Int)) = false := by rw [beq_eq_false_iff_ne]; omega
  have hPb : (P : Int) ≤ 16 := by omega
  have hlb2 : (l.length : Int) ≤ 16 := by omega
  have hy1 : (y : Int) ≠ 0 := by omega
  have hyN : y ≠ 0 := by omega
  have hm1 : Int.tmod (l.length : Int) (y : Int) = ((l.length % y : Nat) : Int) := (Int.ofNat_tmod _ _).symm
  have hm2 : (l.length : Int) % (y : Int) = ((l.length % y : Nat) : Int) := by simp
  have Low := Lib.hid low
  have Hv := Lib.hid hv
  clear low hv
  obtain ⟨u1, hu1⟩ : ∃ u, l[l.length - y]? = some u := ⟨_, List.getElem?_eq_getElem (by omega)⟩
  have hMm : min (z : Int) u1 = (m : Int) := by
    rw [← hM]; unfold mostOf most1 least
    rw [if_pos h1, if_neg h2, List.getD_eq_getElem?_getD, hu1]
    simp only [Option.getD_some]
    split <;> omega
  have k1 := ho.cell _ _ hu1
  have Hm := Lib.hid hm
  have Ho := Lib.hid ho
  have HMm := Lib.hid hMm
  have h1z : (y : Int) ≤ (l.length : Int) := by omega
  have h2z : ¬ (0 : Int) < ((l.length % y : Nat) : Int) := by omega
  generalize hr : l.length % y = r at hm1 hm2 h2 h2z
  clear hm ho hPe hr hM hMm hu1
  go_enter Try.func35, Try.ntmps35
  go_wp2_with (fail)
  simp only [HMm.out]
  go_loopw [51, 7] (fun k _ wr => ∃ j : Nat, j ≤ m + 1 ∧ k = .int .i64 j ∧ Post35 W0 bb bo bf x y z Z (F j) w (.slice (some ⟨g, 0, none⟩) l.length c) l (.returned (.tuple #[])) wr) (fun k _ _ => m + 1 - (intOf k).toNat)
  case atStart => exact ⟨0, Nat.zero_le _, rfl, rfl, Hm.out, Ho.out, fun _ _ _ => rfl, Nat.le_refl _⟩
  case round =>
    obtain ⟨j, hj, rfl, hp⟩ := hrel
    have Hp := Lib.hid hp
    clear hp
    by_cases hjl : j < m + 1
    · have hjl2 : (j : Int) < (m : Int) + 1 := by omega
      have hj4 : (j : Int) ≤ 4 := by omega
      have hbfl : bf < wr.heap.size := lt_of_block Hp.out.sm.hf
      have cf : wr.cell? ⟨bf, 0, none⟩ = some (.func (.func 35) #[] #[.pointer (some ⟨bb, 0, none⟩), .pointer (some ⟨bo, 0, none⟩), .pointer (some ⟨bf, 0, none⟩)]) := cell_of_one Hp.out.sm.hf
      have cfa : ∀ o, (wr.alloc o).cell? ⟨bf, 0, none⟩ = some (.func (.func 35) #[] #[.pointer (some ⟨bb, 0, none⟩), .pointer (some ⟨bo, 0, none⟩), .pointer (some ⟨bf, 0, none⟩)]) := fun o => ((below_alloc (Below.refl wr.heap.size wr) o).cell (p := ⟨bf, 0, none⟩) hbfl).trans cf
      have HbA := Lib.hid (fun o : Obj => (below_drew (below_alloc (Below.refl wr.heap.size wr) o) : Below wr.heap.size wr (wr.alloc o).drew))
      have HsmA := Lib.hid (fun o : Obj => Hp.out.sm.below (HbA.out o))
      have HownA := Lib.hid (fun o : Obj => Hp.out.own.below (HbA.out o))
      obtain ⟨i3, hi3, hzr3, hsz3, hby3⟩ := info3d
      go_wp2_with (fail)
      all_goals try (exact absurd ‹wrap64 ((m : Int) + 1) ≤ (j : Int)› (wno2 hjl2 hm4))
      have hbfg : bf ≠ g := by
        obtain ⟨sp, hh, _⟩ := Hp.out.own.at
        exact ne_of_types Hp.out.sm.hf hh (by decide)
      by_cases hroom : l.length < c
      · have sp := (HownA.out (.cells #[.int .i64 j] 3 (0, 0))).spare hroom
        have cfs : (((wr.alloc (.cells #[.int .i64 j] 3 (0, 0))).drew).setCell ⟨g, l.length, none⟩ (.int .i64 j)).cell? ⟨bf, 0, none⟩ = some (.func (.func 35) #[] #[.pointer (some ⟨bb, 0, none⟩), .pointer (some ⟨bo, 0, none⟩), .pointer (some ⟨bf, 0, none⟩)]) := (World.cell?_of_block (Below.heap_setCell _ ⟨g, l.length, none⟩ _ bf hbfg)).trans (cfa _)
        go_region_law (first
          | (refine step_append_room rfl (.tmp 55) (.tmp 57) 37 rfl 3 i3 1 Try.underlying37 hi3 hsz3 g 0 l.length c rfl ⟨wr.heap.size, 0, none⟩ 1 1 [.int .i64 j] rfl rfl (lit1 wr (.int .i64 j) 3) (by intro u hu; cases List.mem_singleton.1 hu; rfl) hroom (by intro q hq; cases q with | zero => simp only [Nat.zero_add, Nat.mul_one, Nat.add_zero]; exact sp | succ q => simp at hq) ?_; rw [sc1])
          | (go_simp; go_at_call 35; refine (low_room W0 bb bo bf x y z m l F Low.out j (by omega) Z ((wr.alloc (.cells #[.int .i64 j] 3 (0, 0))).drew) g c (HsmA.out _) (HownA.out _) hroom (Hv.out g rfl).1 (Hv.out g rfl).2).mono ?_; rintro e w3 hp3; have hp4 := Hp.out.chain (hp3.from Hp.out.sm.hz (HbA.out (.cells #[.int .i64 j] 3 (0, 0)))); have he := hp4.out; subst he; have Hp4 := Lib.hid hp4))
        all_goals go_wp2_with (fail)
        all_goals go_roundw
        all_goals try (case rel => exact ⟨j + 1, by omega, by go_num, Hp4.out⟩)
        all_goals try (case measure => (simp [intOf]; omega))
      · go_region_law (first
          | (refine step_append_grows rfl (.tmp 55) (.tmp 57) 37 rfl 3 i3 (.int .i64 0) 1 8 Try.underlying37 hi3 hzr3 hsz3 hby3 rfl (by decide) (some ⟨g, 0, none⟩) l.length c (l.map (Value.int .i64)) rfl (HownA.out (.cells #[.int .i64 j] 3 (0, 0))).nil0 (by simp) (HownA.out (.cells #[.int .i64 j] 3 (0, 0))).olds ⟨wr.heap.size, 0, none⟩ 1 1 [.int .i64 j] rfl rfl (lit1 wr (.int .i64 j) 3) (by intro u hu; cases List.mem_singleton.1 hu; rfl) (by omega) (by have : 1000 ≤ maxLen := (by decide); omega) (by omega) ?_; intro v' w2 hown hgr; have Hown := Lib.hid hown; obtain ⟨g2, cap2, rfl, hg2⟩ := hown.form (Nat.succ_pos _); have Hgr := Lib.hid (below_grown hgr); have cf2 := (hgr.cell_far ⟨bf, 0, none⟩ (Nat.lt_of_lt_of_le hbfl (HbA.out (.cells #[.int .i64 j] 3 (0, 0))).size) (by simp)).trans (cfa _); clear hown hgr)
          | (go_simp; go_at_call 35; refine (low_grow W0 bb bo bf x y z m l F Low.out j (by omega) Z ((wr.alloc (.cells #[.int .i64 j] 3 (0, 0))).drew) w2 (.slice (some ⟨g, 0, none⟩) l.length c) _ (HsmA.out _) (HownA.out _) (fun k hk => (Hv.out k hk).1) Hgr.out Hown.out).mono ?_; rintro e w3 hp3; have hp4 := Hp.out.chain (hp3.from Hp.out.sm.hz (HbA.out (.cells #[.int .i64 j] 3 (0, 0)))); have he := hp4.out; subst he; have Hp4 := Lib.hid hp4))
        all_goals go_wp2_with (fail)
        all_goals go_roundw
        all_goals try (case rel => exact ⟨j + 1, by omega, by go_num, Hp4.out⟩)
        all_goals try (case measure => (simp [intOf]; omega))
    · have hjl2 : ¬ (j : Int) < (m : Int) + 1 := by omega
      have hpe : F j = F (m + 1) := by rw [show j = m + 1 by omega]
      rw [hpe] at Hp
      clear hpe
      go_wp2_with (fail)
      all_goals (try simp only [Exit.inBlock, Exit.then])
      all_goals first | (refine bodyPost_end (results_none rfl _ _ _) rfl ?_; exact Hp.out) | (exact absurd ‹(j : Int) < wrap64 ((m : Int) + 1)› (wno1 hjl2 hm4))
set_option maxHeartbeats 2000000 in
theorem inner35c (W0 w : World) (bb bo bf x y z m : Nat) (Z : Nat → Prop) (F : Nat → List (List Int)) (g c : Nat) (l : List Int) (hx : x ≤ 4) (hy0 : 0 < y) (hy : y ≤ 4) (hl : l.length < x * y) (hM : mostOf y z l = (m : Int)) (hm4 : (m : Int) ≤ 4)
    (hm : Sm W0 bb bo bf x y z Z (F 0) w) (ho : OwnL w (.slice (some ⟨g, 0, none⟩) l.length c) l) (hv : ∀ k, (Value.slice (some ⟨g, 0, none⟩) l.length c).ownBlock = some k → Z k ∧ W0.heap.size ≤ k) (low : Low W0 bb bo bf x y z m l F)
    (h1 : ¬ y ≤ l.length) (h2 : 0 < l.length % y) :
    Calls Try.prog 35 (a35 bb bo bf (.slice (some ⟨g, 0, none⟩) l.length c)) w (Post35 W0 bb bo bf x y z Z (F (m + 1)) w (.slice (some ⟨g, 0, none⟩) l.length c) l) := by
  obtain ⟨c1, c2, c3⟩ := BoxAt_of hm.hb
  have hxy : x * y ≤ 4 * 4 := Nat.mul_le_mul hx hy
  obtain ⟨P, hP, hPe⟩ : ∃ P : Nat, (x : Int) * (y : Int) = (P : Int) ∧ P = x * y := ⟨x * y, by simp, rfl⟩
  rw [← hPe] at hl hxy
  have hneq : ((l.length : Int) == (P : Int)) = false := by rw [beq_eq_false_iff_ne]; omega
  have hPb : (P : Int) ≤ 16 := by omega
  have hlb2 : (l.length : Int) ≤ 16 := by omega
  have hy1 : (y : Int) ≠ 0 := by omega
  have hyN : y ≠ 0 := by omega
  have hm1 : Int.tmod (l.length : Int) (y : Int) = ((l.length % y : Nat) : Int) := (Int.ofNat_tmod _ _).symm
  have hm2 : (l.length : Int) % (y : Int) = ((l.length % y : Nat) : Int) := by simp
  have Low := Lib.hid low
  have Hv := Lib.hid hv
  clear low hv
  obtain ⟨u2, hu2⟩ : ∃ u, l[l.length - 1]? = some u := ⟨_, List.getElem?_eq_getElem (by have : l.length ≠ 0 := (by intro h; simp [h] at h2); omega)⟩
  have hMm : min (z : Int) u2 = (m : Int) := by
    rw [← hM]; unfold mostOf most1 least
    rw [if_neg h1, if_pos h2, List.getD_eq_getElem?_getD, hu2]
    simp only [Option.getD_some]
    split <;> omega
  have k2 := ho.cell _ _ hu2
  have Hm := Lib.hid hm
  have Ho := Lib.hid ho
  have HMm := Lib.hid hMm
  have hl0 : 0 < l.length := by
    have : l.length ≠ 0 := (by intro h; simp [h] at h2)
    omega
  have h1z : ¬ (y : Int) ≤ (l.length : Int) := by omega
  have h2z : (0 : Int) < ((l.length % y : Nat) : Int) := by omega
  generalize hr : l.length % y = r at hm1 hm2 h2 h2z
  clear hm ho hPe hr hM hMm hu2
  go_enter Try.func35, Try.ntmps35
  go_wp2_with (fail)
  simp only [HMm.out]
  go_loopw [51, 7] (fun k _ wr => ∃ j : Nat, j ≤ m + 1 ∧ k = .int .i64 j ∧ Post35 W0 bb bo bf x y z Z (F j) w (.slice (some ⟨g, 0, none⟩) l.length c) l (.returned (.tuple #[])) wr) (fun k _ _ => m + 1 - (intOf k).toNat)
  case atStart => exact ⟨0, Nat.zero_le _, rfl, rfl, Hm.out, Ho.out, fun _ _ _ => rfl, Nat.le_refl _⟩
  case round =>
    obtain ⟨j, hj, rfl, hp⟩ := hrel
    have Hp := Lib.hid hp
    clear hp
    by_cases hjl : j < m + 1
    · have hjl2 : (j : Int) < (m : Int) + 1 := by omega
      have hj4 : (j : Int) ≤ 4 := by omega
      have hbfl : bf < wr.heap.size := lt_of_block Hp.out.sm.hf
      have cf : wr.cell? ⟨bf, 0, none⟩ = some (.func (.func 35) #[] #[.pointer (some ⟨bb, 0, none⟩), .pointer (some ⟨bo, 0, none⟩), .pointer (some ⟨bf, 0, none⟩)]) := cell_of_one Hp.out.sm.hf
      have cfa : ∀ o, (wr.alloc o).cell? ⟨bf, 0, none⟩ = some (.func (.func 35) #[] #[.pointer (some ⟨bb, 0, none⟩), .pointer (some ⟨bo, 0, none⟩), .pointer (some ⟨bf, 0, none⟩)]) := fun o => ((below_alloc (Below.refl wr.heap.size wr) o).cell (p := ⟨bf, 0, none⟩) hbfl).trans cf
      have HbA := Lib.hid (fun o : Obj => (below_drew (below_alloc (Below.refl wr.heap.size wr) o) : Below wr.heap.size wr (wr.alloc o).drew))
      have HsmA := Lib.hid (fun o : Obj => Hp.out.sm.below (HbA.out o))
      have HownA := Lib.hid (fun o : Obj => Hp.out.own.below (HbA.out o))
      obtain ⟨i3, hi3, hzr3, hsz3, hby3⟩ := info3d
      go_wp2_with (fail)
      all_goals try (exact absurd ‹wrap64 ((m : Int) + 1) ≤ (j : Int)› (wno2 hjl2 hm4))
      have hbfg : bf ≠ g := by
        obtain ⟨sp, hh, _⟩ := Hp.out.own.at
        exact ne_of_types Hp.out.sm.hf hh (by decide)
      by_cases hroom : l.length < c
      · have sp := (HownA.out (.cells #[.int .i64 j] 3 (0, 0))).spare hroom
        have cfs : (((wr.alloc (.cells #[.int .i64 j] 3 (0, 0))).drew).setCell ⟨g, l.length, none⟩ (.int .i64 j)).cell? ⟨bf, 0, none⟩ = some (.func (.func 35) #[] #[.pointer (some ⟨bb, 0, none⟩), .pointer (some ⟨bo, 0, none⟩), .pointer (some ⟨bf, 0, none⟩)]) := (World.cell?_of_block (Below.heap_setCell _ ⟨g, l.length, none⟩ _ bf hbfg)).trans (cfa _)
        go_region_law (first
          | (refine step_append_room rfl (.tmp 55) (.tmp 57) 37 rfl 3 i3 1 Try.underlying37 hi3 hsz3 g 0 l.length c rfl ⟨wr.heap.size, 0, none⟩ 1 1 [.int .i64 j] rfl rfl (lit1 wr (.int .i64 j) 3) (by intro u hu; cases List.mem_singleton.1 hu; rfl) hroom (by intro q hq; cases q with | zero => simp only [Nat.zero_add, Nat.mul_one, Nat.add_zero]; exact sp | succ q => simp at hq) ?_; rw [sc1])
          | (go_simp; go_at_call 35; refine (low_room W0 bb bo bf x y z m l F Low.out j (by omega) Z ((wr.alloc (.cells #[.int .i64 j] 3 (0, 0))).drew) g c (HsmA.out _) (HownA.out _) hroom (Hv.out g rfl).1 (Hv.out g rfl).2).mono ?_; rintro e w3 hp3; have hp4 := Hp.out.chain (hp3.from Hp.out.sm.hz (HbA.out (.cells #[.int .i64 j] 3 (0, 0)))); have he := hp4.out; subst he; have Hp4 := Lib.hid hp4))
        all_goals go_wp2_with (fail)
        all_goals go_roundw
        all_goals try (case rel => exact ⟨j + 1, by omega, by go_num, Hp4.out⟩)
        all_goals try (case measure => (simp [intOf]; omega))
      · go_region_law (first
          | (refine step_append_grows rfl (.tmp 55) (.tmp 57) 37 rfl 3 i3 (.int .i64 0) 1 8 Try.underlying37 hi3 hzr3 hsz3 hby3 rfl (by decide) (some ⟨g, 0, none⟩) l.length c (l.map (Value.int .i64)) rfl (HownA.out (.cells #[.int .i64 j] 3 (0, 0))).nil0 (by simp) (HownA.out (.cells #[.int .i64 j] 3 (0, 0))).olds ⟨wr.heap.size, 0, none⟩ 1 1 [.int .i64 j] rfl rfl (lit1 wr (.int .i64 j) 3) (by intro u hu; cases List.mem_singleton.1 hu; rfl) (by omega) (by have : 1000 ≤ maxLen := (by decide); omega) (by omega) ?_; intro v' w2 hown hgr; have Hown := Lib.hid hown; obtain ⟨g2, cap2, rfl, hg2⟩ := hown.form (Nat.succ_pos _); have Hgr := Lib.hid (below_grown hgr); have cf2 := (hgr.cell_far ⟨bf, 0, none⟩ (Nat.lt_of_lt_of_le hbfl (HbA.out (.cells #[.int .i64 j] 3 (0, 0))).size) (by simp)).trans (cfa _); clear hown hgr)
          | (go_simp; go_at_call 35; refine (low_grow W0 bb bo bf x y z m l F Low.out j (by omega) Z ((wr.alloc (.cells #[.int .i64 j] 3 (0, 0))).drew) w2 (.slice (some ⟨g, 0, none⟩) l.length c) _ (HsmA.out _) (HownA.out _) (fun k hk => (Hv.out k hk).1) Hgr.out Hown.out).mono ?_; rintro e w3 hp3; have hp4 := Hp.out.chain (hp3.from Hp.out.sm.hz (HbA.out (.cells #[.int .i64 j] 3 (0, 0)))); have he := hp4.out; subst he; have Hp4 := Lib.hid hp4))
        all_goals go_wp2_with (fail)
        all_goals go_roundw
        all_goals try (case rel => exact ⟨j + 1, by omega, by go_num, Hp4.out⟩)
        all_goals try (case measure => (simp [intOf]; omega))
    · have hjl2 : ¬ (j : Int) < (m : Int) + 1 := by omega
      have hpe : F j = F (m + 1) := by rw [show j = m + 1 by omega]
      rw [hpe] at Hp
      clear hpe
      go_wp2_with (fail)
      all_goals (try simp only [Exit.inBlock, Exit.then])
      all_goals first | (refine bodyPost_end (results_none rfl _ _ _) rfl ?_; exact Hp.out) | (exact absurd ‹(j : Int) < wrap64 ((m : Int) + 1)› (wno1 hjl2 hm4))
set_option maxHeartbeats 2000000 in
theorem inner35d (W0 w : World) (bb bo bf x y z m : Nat) (Z : Nat → Prop) (F : Nat → List (List Int)) (g c : Nat) (l : List Int) (hx : x ≤ 4) (hy0 : 0 < y) (hy : y ≤ 4) (hl : l.length < x * y) (hM : mostOf y z l = (m : Int)) (hm4 : (m : Int) ≤ 4)
    (hm : Sm W0 bb bo bf x y z Z (F 0) w) (ho : OwnL w (.slice (some ⟨g, 0, none⟩) l.length c) l) (hv : ∀ k, (Value.slice (some ⟨g, 0, none⟩) l.length c).ownBlock = some k → Z k ∧ W0.heap.size ≤ k) (low : Low W0 bb bo bf x y z m l F)
    (h1 : ¬ y ≤ l.length) (h2 : ¬ 0 < l.length % y) :
    Calls Try.prog 35 (a35 bb bo bf (.slice (some ⟨g, 0, none⟩) l.length c)) w (Post35 W0 bb bo bf x y z Z (F (m + 1)) w (.slice (some ⟨g, 0, none⟩) l.length c) l) := by
  obtain ⟨c1, c2, c3⟩ := BoxAt_of hm.hb
  have hxy : x * y ≤ 4 * 4 := Nat.mul_le_mul hx hy
  obtain ⟨P, hP, hPe⟩ : ∃ P : Nat, (x : Int) * (y : Int) = (P : Int) ∧ P = x * y := ⟨x * y, by simp, rfl⟩
  rw [← hPe] at hl hxy
  have hneq : ((l.length : Int) == (P : Int)) = false := by rw [beq_eq_false_iff_ne]; omega
  have hPb : (P : Int) ≤ 16 := by omega
  have hlb2 : (l.length : Int) ≤ 16 := by omega
  have hy1 : (y : Int) ≠ 0 := by omega
  have hyN : y ≠ 0 := by omega
  have hm1 : Int.tmod (l.length : Int) (y : Int) = ((l.length % y : Nat) : Int) := (Int.ofNat_tmod _ _).symm
  have hm2 : (l.length : Int) % (y : Int) = ((l.length % y : Nat) : Int) := by simp
  have Low := Lib.hid low
  have Hv := Lib.hid hv
  clear low hv
  have hMm : (z : Int) = (m : Int) := by
    rw [← hM]; unfold mostOf most1 least
    rw [if_neg h1, if_neg h2]
  have Hm := Lib.hid hm
  have Ho := Lib.hid ho
  have HMm := Lib.hid hMm
  have h1z : ¬ (y : Int) ≤ (l.length : Int) := by omega
  have h2z : ¬ (0 : Int) < ((l.length % y : Nat) : Int) := by omega
  generalize hr : l.length % y = r at hm1 hm2 h2 h2z
  clear hm ho hPe hr hM hMm
  go_enter Try.func35, Try.ntmps35
  go_wp2_with (fail)
  simp only [HMm.out]
  go_loopw [51, 7] (fun k _ wr => ∃ j : Nat, j ≤ m + 1 ∧ k = .int .i64 j ∧ Post35 W0 bb bo bf x y z Z (F j) w (.slice (some ⟨g, 0, none⟩) l.length c) l (.returned (.tuple #[])) wr) (fun k _ _ => m + 1 - (intOf k).toNat)
  case atStart => exact ⟨0, Nat.zero_le _, rfl, rfl, Hm.out, Ho.out, fun _ _ _ => rfl, Nat.le_refl _⟩
  case round =>
    obtain ⟨j, hj, rfl, hp⟩ := hrel
    have Hp := Lib.hid hp
    clear hp
    by_cases hjl : j < m + 1
    · have hjl2 : (j : Int) < (m : Int) + 1 := by omega
      have hj4 : (j : Int) ≤ 4 := by omega
      have hbfl : bf < wr.heap.size := lt_of_block Hp.out.sm.hf
      have cf : wr.cell? ⟨bf, 0, none⟩ = some (.func (.func 35) #[] #[.pointer (some ⟨bb, 0, none⟩), .pointer (some ⟨bo, 0, none⟩), .pointer (some ⟨bf, 0, none⟩)]) := cell_of_one Hp.out.sm.hf
      have cfa : ∀ o, (wr.alloc o).cell? ⟨bf, 0, none⟩ = some (.func (.func 35) #[] #[.pointer (some ⟨bb, 0, none⟩), .pointer (some ⟨bo, 0, none⟩), .pointer (some ⟨bf, 0, none⟩)]) := fun o => ((below_alloc (Below.refl wr.heap.size wr) o).cell (p := ⟨bf, 0, none⟩) hbfl).trans cf
      have HbA := Lib.hid (fun o : Obj => (below_drew (below_alloc (Below.refl wr.heap.size wr) o) : Below wr.heap.size wr (wr.alloc o).drew))
      have HsmA := Lib.hid (fun o : Obj => Hp.out.sm.below (HbA.out o))
      have HownA := Lib.hid (fun o : Obj => Hp.out.own.below (HbA.out o))
      obtain ⟨i3, hi3, hzr3, hsz3, hby3⟩ := info3d
      go_wp2_with (fail)
      all_goals try (exact absurd ‹wrap64 ((m : Int) + 1) ≤ (j : Int)› (wno2 hjl2 hm4))
      have hbfg : bf ≠ g := by
        obtain ⟨sp, hh, _⟩ := Hp.out.own.at
        exact ne_of_types Hp.out.sm.hf hh (by decide)
      by_cases hroom : l.length < c
      · have sp := (HownA.out (.cells #[.int .i64 j] 3 (0, 0))).spare hroom
        have cfs : (((wr.alloc (.cells #[.int .i64 j] 3 (0, 0))).drew).setCell ⟨g, l.length, none⟩ (.int .i64 j)).cell? ⟨bf, 0, none⟩ = some (.func (.func 35) #[] #[.pointer (some ⟨bb, 0, none⟩), .pointer (some ⟨bo, 0, none⟩), .pointer (some ⟨bf, 0, none⟩)]) := (World.cell?_of_block (Below.heap_setCell _ ⟨g, l.length, none⟩ _ bf hbfg)).trans (cfa _)
        go_region_law (first
          | (refine step_append_room rfl (.tmp 55) (.tmp 57) 37 rfl 3 i3 1 Try.underlying37 hi3 hsz3 g 0 l.length c rfl ⟨wr.heap.size, 0, none⟩ 1 1 [.int .i64 j] rfl rfl (lit1 wr (.int .i64 j) 3) (by intro u hu; cases List.mem_singleton.1 hu; rfl) hroom (by intro q hq; cases q with | zero => simp only [Nat.zero_add, Nat.mul_one, Nat.add_zero]; exact sp | succ q => simp at hq) ?_; rw [sc1])
          | (go_simp; go_at_call 35; refine (low_room W0 bb bo bf x y z m l F Low.out j (by omega) Z ((wr.alloc (.cells #[.int .i64 j] 3 (0, 0))).drew) g c (HsmA.out _) (HownA.out _) hroom (Hv.out g rfl).1 (Hv.out g rfl).2).mono ?_; rintro e w3 hp3; have hp4 := Hp.out.chain (hp3.from Hp.out.sm.hz (HbA.out (.cells #[.int .i64 j] 3 (0, 0)))); have he := hp4.out; subst he; have Hp4 := Lib.hid hp4))
        all_goals go_wp2_with (fail)
        all_goals go_roundw
        all_goals try (case rel => exact ⟨j + 1, by omega, by go_num, Hp4.out⟩)
        all_goals try (case measure => (simp [intOf]; omega))
      · go_region_law (first
          | (refine step_append_grows rfl (.tmp 55) (.tmp 57) 37 rfl 3 i3 (.int .i64 0) 1 8 Try.underlying37 hi3 hzr3 hsz3 hby3 rfl (by decide) (some ⟨g, 0, none⟩) l.length c (l.map (Value.int .i64)) rfl (HownA.out (.cells #[.int .i64 j] 3 (0, 0))).nil0 (by simp) (HownA.out (.cells #[.int .i64 j] 3 (0, 0))).olds ⟨wr.heap.size, 0, none⟩ 1 1 [.int .i64 j] rfl rfl (lit1 wr (.int .i64 j) 3) (by intro u hu; cases List.mem_singleton.1 hu; rfl) (by omega) (by have : 1000 ≤ maxLen := (by decide); omega) (by omega) ?_; intro v' w2 hown hgr; have Hown := Lib.hid hown; obtain ⟨g2, cap2, rfl, hg2⟩ := hown.form (Nat.succ_pos _); have Hgr := Lib.hid (below_grown hgr); have cf2 := (hgr.cell_far ⟨bf, 0, none⟩ (Nat.lt_of_lt_of_le hbfl (HbA.out (.cells #[.int .i64 j] 3 (0, 0))).size) (by simp)).trans (cfa _); clear hown hgr)
          | (go_simp; go_at_call 35; refine (low_grow W0 bb bo bf x y z m l F Low.out j (by omega) Z ((wr.alloc (.cells #[.int .i64 j] 3 (0, 0))).drew) w2 (.slice (some ⟨g, 0, none⟩) l.length c) _ (HsmA.out _) (HownA.out _) (fun k hk => (Hv.out k hk).1) Hgr.out Hown.out).mono ?_; rintro e w3 hp3; have hp4 := Hp.out.chain (hp3.from Hp.out.sm.hz (HbA.out (.cells #[.int .i64 j] 3 (0, 0)))); have he := hp4.out; subst he; have Hp4 := Lib.hid hp4))
        all_goals go_wp2_with (fail)
        all_goals go_roundw
        all_goals try (case rel => exact ⟨j + 1, by omega, by go_num, Hp4.out⟩)
        all_goals try (case measure => (simp [intOf]; omega))
    · have hjl2 : ¬ (j : Int) < (m : Int) + 1 := by omega
      have hpe : F j = F (m + 1) := by rw [show j = m + 1 by omega]
      rw [hpe] at Hp
      clear hpe
      go_wp2_with (fail)
      all_goals (try simp only [Exit.inBlock, Exit.then])
      all_goals first | (refine bodyPost_end (results_none rfl _ _ _) rfl ?_; exact Hp.out) | (exact absurd ‹(j : Int) < wrap64 ((m : Int) + 1)› (wno1 hjl2 hm4))
end Go.Proofs.Ytjdmboagjeldcaa
namespace Go.Proofs.Ytjdmboagjeldcaa
open Go.RowKit S Go.Proofs.YtjdmboagjeldcaaW.PrintWords Go.Proofs.YtjdmboagjeldcaaW.PrintLast Go.Proofs.YtjdmboagjeldcaaW.PrintMore
set_option maxHeartbeats 2000000 in
theorem inner35e (W0 w : World) (bb bo bf x y z m : Nat) (Z : Nat → Prop) (F : Nat → List (List Int)) (c : Nat) (l : List Int) (hx : x ≤ 4) (hy0 : 0 < y) (hy : y ≤ 4) (hl : l.length < x * y) (hM : mostOf y z l = (m : Int)) (hm4 : (m : Int) ≤ 4)
    (hm : Sm W0 bb bo bf x y z Z (F 0) w) (ho : OwnL w (.slice none l.length c) l) (hv : ∀ k, (Value.slice none l.length c).ownBlock = some k → Z k ∧ W0.heap.size ≤ k) (low : Low W0 bb bo bf x y z m l F)
    (h1 : ¬ y ≤ l.length) (h2 : ¬ 0 < l.length % y) :
    Calls Try.prog 35 (a35 bb bo bf (.slice none l.length c)) w (Post35 W0 bb bo bf x y z Z (F (m + 1)) w (.slice none l.length c) l) := by
  obtain ⟨c1, c2, c3⟩ := BoxAt_of hm.hb
  have hxy : x * y ≤ 4 * 4 := Nat.mul_le_mul hx hy
  obtain ⟨P, hP, hPe⟩ : ∃ P : Nat, (x : Int) * (y : Int) = (P : Int) ∧ P = x * y := ⟨x * y, by simp, rfl⟩
  rw [← hPe] at hl hxy
  have hneq : ((l.length : Int) == (P : Int)) = false := by rw [beq_eq_false_iff_ne]; omega
  have hPb : (P : Int) ≤ 16 := by omega
  have hlb2 : (l.length : Int) ≤ 16 := by omega
  have hy1 : (y : Int) ≠ 0 := by omega
  have hyN : y ≠ 0 := by omega
  have hm1 : Int.tmod (l.length : Int) (y : Int) = ((l.length % y : Nat) : Int) := (Int.ofNat_tmod _ _).symm
  have hm2 : (l.length : Int) % (y : Int) = ((l.length % y : Nat) : Int) := by simp
  have Low := Lib.hid low
  have Hv := Lib.hid hv
  clear low hv
  have hMm : (z : Int) = (m : Int) := by
    rw [← hM]; unfold mostOf most1 least
    rw [if_neg h1, if_neg h2]
  have Hm := Lib.hid hm
  have Ho := Lib.hid ho
  have HMm := Lib.hid hMm
  have h1z : ¬ (y : Int) ≤ (l.length : Int) := by omega
  have h2z : ¬ (0 : Int) < ((l.length % y : Nat) : Int) := by omega
  generalize hr : l.length % y = r at hm1 hm2 h2 h2z
  clear hm ho hPe hr hM hMm
  go_enter Try.func35, Try.ntmps35
  go_wp2_with (fail)
  simp only [HMm.out]
  go_loopw [51, 7] (fun k _ wr => ∃ j : Nat, j ≤ m + 1 ∧ k = .int .i64 j ∧ Post35 W0 bb bo bf x y z Z (F j) w (.slice none l.length c) l (.returned (.tuple #[])) wr) (fun k _ _ => m + 1 - (intOf k).toNat)
  case atStart => exact ⟨0, Nat.zero_le _, rfl, rfl, Hm.out, Ho.out, fun _ _ _ => rfl, Nat.le_refl _⟩
  case round =>
    obtain ⟨j, hj, rfl, hp⟩ := hrel
    have Hp := Lib.hid hp
    clear hp
    by_cases hjl : j < m + 1
    · have hjl2 : (j : Int) < (m : Int) + 1 := by omega
      have hj4 : (j : Int) ≤ 4 := by omega
      have hbfl : bf < wr.heap.size := lt_of_block Hp.out.sm.hf
      have cf : wr.cell? ⟨bf, 0, none⟩ = some (.func (.func 35) #[] #[.pointer (some ⟨bb, 0, none⟩), .pointer (some ⟨bo, 0, none⟩), .pointer (some ⟨bf, 0, none⟩)]) := cell_of_one Hp.out.sm.hf
      have cfa : ∀ o, (wr.alloc o).cell? ⟨bf, 0, none⟩ = some (.func (.func 35) #[] #[.pointer (some ⟨bb, 0, none⟩), .pointer (some ⟨bo, 0, none⟩), .pointer (some ⟨bf, 0, none⟩)]) := fun o => ((below_alloc (Below.refl wr.heap.size wr) o).cell (p := ⟨bf, 0, none⟩) hbfl).trans cf
      have HbA := Lib.hid (fun o : Obj => (below_drew (below_alloc (Below.refl wr.heap.size wr) o) : Below wr.heap.size wr (wr.alloc o).drew))
      have HsmA := Lib.hid (fun o : Obj => Hp.out.sm.below (HbA.out o))
      have HownA := Lib.hid (fun o : Obj => Hp.out.own.below (HbA.out o))
      obtain ⟨i3, hi3, hzr3, hsz3, hby3⟩ := info3d
      go_wp2_with (fail)
      all_goals try (exact absurd ‹wrap64 ((m : Int) + 1) ≤ (j : Int)› (wno2 hjl2 hm4))
      have hroom : ¬ l.length < c := by have := (HownA.out (.cells #[.int .i64 j] 3 (0, 0))).nil0 rfl; omega
      · go_region_law (first
          | (refine step_append_grows rfl (.tmp 55) (.tmp 57) 37 rfl 3 i3 (.int .i64 0) 1 8 Try.underlying37 hi3 hzr3 hsz3 hby3 rfl (by decide) none l.length c (l.map (Value.int .i64)) rfl (HownA.out (.cells #[.int .i64 j] 3 (0, 0))).nil0 (by simp) (HownA.out (.cells #[.int .i64 j] 3 (0, 0))).olds ⟨wr.heap.size, 0, none⟩ 1 1 [.int .i64 j] rfl rfl (lit1 wr (.int .i64 j) 3) (by intro u hu; cases List.mem_singleton.1 hu; rfl) (by omega) (by have : 1000 ≤ maxLen := (by decide); omega) (by omega) ?_; intro v' w2 hown hgr; have Hown := Lib.hid hown; obtain ⟨g2, cap2, rfl, hg2⟩ := hown.form (Nat.succ_pos _); have Hgr := Lib.hid (below_grown hgr); have cf2 := (hgr.cell_far ⟨bf, 0, none⟩ (Nat.lt_of_lt_of_le hbfl (HbA.out (.cells #[.int .i64 j] 3 (0, 0))).size) (by simp)).trans (cfa _); clear hown hgr)
          | (go_simp; go_at_call 35; refine (low_grow W0 bb bo bf x y z m l F Low.out j (by omega) Z ((wr.alloc (.cells #[.int .i64 j] 3 (0, 0))).drew) w2 (.slice none l.length c) _ (HsmA.out _) (HownA.out _) (fun k hk => (Hv.out k hk).1) Hgr.out Hown.out).mono ?_; rintro e w3 hp3; have hp4 := Hp.out.chain (hp3.from Hp.out.sm.hz (HbA.out (.cells #[.int .i64 j] 3 (0, 0)))); have he := hp4.out; subst he; have Hp4 := Lib.hid hp4))
        all_goals go_wp2_with (fail)
        all_goals go_roundw
        all_goals try (case rel => exact ⟨j + 1, by omega, by go_num, Hp4.out⟩)
        all_goals try (case measure => (simp [intOf]; omega))
    · have hjl2 : ¬ (j : Int) < (m : Int) + 1 := by omega
      have hpe : F j = F (m + 1) := by rw [show j = m + 1 by omega]
      rw [hpe] at Hp
      clear hpe
      go_wp2_with (fail)
      all_goals (try simp only [Exit.inBlock, Exit.then])
      all_goals first | (refine bodyPost_end (results_none rfl _ _ _) rfl ?_; exact Hp.out) | (exact absurd ‹(j : Int) < wrap64 ((m : Int) + 1)› (wno1 hjl2 hm4))
end Go.Proofs.Ytjdmboagjeldcaa
namespace Go.Proofs.Ytjdmboagjeldcaa
open Go.RowKit S Go.Proofs.YtjdmboagjeldcaaW.PrintWords Go.Proofs.YtjdmboagjeldcaaW.PrintLast Go.Proofs.YtjdmboagjeldcaaW.PrintMore
def outF (y z d : Nat) (l : List Int) (L : List (List Int)) (j : Nat) : List (List Int) := L ++ (List.range j).flatMap fun (h : Nat) => allL y z d (l ++ [(h : Int)])
theorem outF_zero (y z d : Nat) (l : List Int) (L : List (List Int)) : outF y z d l L 0 = L := by simp [outF]
theorem outF_succ (y z d : Nat) (l : List Int) (L : List (List Int)) (j : Nat) : outF y z d l L (j + 1) = outF y z d l L j ++ allL y z d (l ++ [(j : Int)]) := by
  unfold outF
  rw [List.range_succ, List.flatMap_append, List.append_assoc]; simp
theorem outF_all {y z d m : Nat} {l : List Int} (L : List (List Int)) (hM : mostOf y z l = (m : Int)) : outF y z d l L (m + 1) = L ++ allL y z (d + 1) l := by
  unfold outF
  rw [allL, hM, Int.toNat_natCast]
theorem outF_le (y z d : Nat) (l : List Int) (L : List (List Int)) (j : Nat) : ∀ n, (outF y z d l L j).length ≤ (outF y z d l L (j + n)).length
  | 0 => Nat.le_refl _
  | n + 1 => Nat.le_trans (outF_le y z d l L j n) (by rw [← Nat.add_assoc, outF_succ, List.length_append]; omega)
theorem walk35 (W0 : World) (bb bo bf x y z : Nat) (hx : x ≤ 4) (hy0 : 0 < y) (hy : y ≤ 4) (hz : z ≤ 4) (hp : 0 < x * y) (hbo0 : W0.heap.size ≤ bo) : ∀ (d : Nat) (l : List Int) (Z : Nat → Prop) (L : List (List Int)) (w : World) (v : Value), l.length + d = x * y → (∀ t ∈ l, 0 ≤ t ∧ t ≤ 4) → L.length + (allL y z d l).length ≤ 100000 →
    Sm W0 bb bo bf x y z Z L w → OwnL w v l → (∀ k, v.ownBlock = some k → Z k ∧ W0.heap.size ≤ k) →
    Calls Try.prog 35 (a35 bb bo bf v) w (Post35 W0 bb bo bf x y z Z (L ++ allL y z d l) w v l)
  | 0, l, Z, L, w, v, hd, hl, hL, hm, ho, hv => by
    rcases ho with ⟨rfl, rfl⟩ | ⟨g, c, sp, rfl, hh, hc⟩
    · simp at hd; omega
    · have ho : OwnL w (.slice (some ⟨g, 0, none⟩) l.length c) l := Or.inr ⟨g, c, sp, rfl, hh, hc⟩
      refine (leaf35 W0 w bb bo bf x y z Z L g c l hx hy (by omega) (by omega) hbo0 hm.nbo (by omega) hm ho).mono ?_
      rintro e w' ⟨rfl, hm', hk, hs⟩
      exact ⟨rfl, hm', Or.inr ⟨g, c, sp, rfl, (hk g (hv g rfl).1).trans hh, hc⟩, fun k hz _ => hk k hz, hs⟩
  | d + 1, l, Z, L, w, v, hd, hl, hL, hm, ho, hv => by
    have hb := most_b (y := y) hz hl
    obtain ⟨m, hM⟩ : ∃ m : Nat, mostOf y z l = (m : Int) := ⟨(mostOf y z l).toNat, by omega⟩
    have hm4 : (m : Int) ≤ 4 := by omega
    have hall := outF_all (d := d) L hM
    have low : Low W0 bb bo bf x y z m l (outF y z d l L) := by
      intro j hj Z' W g' c' hm' ho' hzg hg
      rw [outF_succ]
      have h1 := outF_le y z d l L (j + 1) (m - j)
      rw [show j + 1 + (m - j) = m + 1 by omega, hall, outF_succ] at h1
      simp only [List.length_append] at h1
      exact walk35 W0 bb bo bf x y z hx hy0 hy hz hp hbo0 d (l ++ [(j : Int)]) Z' (outF y z d l L j) W _ (by rw [List.length_append, List.length_singleton]; omega) (snoc_b hl j (by omega)) (by omega) hm' ho' (fun k hk => by
        injection hk with hk
        subst hk; exact ⟨hzg, hg⟩)
    rw [← hall]
    have hm0 : Sm W0 bb bo bf x y z Z (outF y z d l L 0) w := by rw [outF_zero]; exact hm
    have hl1 : l.length < x * y := by omega
    rcases ho with ⟨rfl, rfl⟩ | ⟨g, c, sp, rfl, hh, hc⟩
    · exact inner35e W0 w bb bo bf x y z m Z _ 0 [] hx hy0 hy hl1 hM hm4 hm0 (Or.inl ⟨rfl, rfl⟩) hv low (by simp; omega) (by simp)
    · have ho : OwnL w (.slice (some ⟨g, 0, none⟩) l.length c) l := Or.inr ⟨g, c, sp, rfl, hh, hc⟩
      by_cases h1 : y ≤ l.length <;> by_cases h2 : 0 < l.length % y
      · exact inner35a W0 w bb bo bf x y z m Z _ g c l hx hy0 hy hl1 hM hm4 hm0 ho hv low h1 h2
      · exact inner35b W0 w bb bo bf x y z m Z _ g c l hx hy0 hy hl1 hM hm4 hm0 ho hv low h1 h2
      · exact inner35c W0 w bb bo bf x y z m Z _ g c l hx hy0 hy hl1 hM hm4 hm0 ho hv low h1 h2
      · exact inner35d W0 w bb bo bf x y z m Z _ g c l hx hy0 hy hl1 hM hm4 hm0 ho hv low h1 h2
end Go.Proofs.Ytjdmboagjeldcaa
namespace Go.Proofs.Ytjdmboagjeldcaa
open Go.RowKit S Go.Proofs.YtjdmboagjeldcaaW.PrintWords Go.Proofs.YtjdmboagjeldcaaW.PrintLast Go.Proofs.YtjdmboagjeldcaaW.PrintMore
theorem all_few : ((List.range 4).all fun x => (List.range 4).all fun y => (List.range 4).all fun z => if countC (x + 1) (y + 1) (z + 1) ≤ 1000 then decide ((allL (y + 1) (z + 1) ((x + 1) * (y + 1)) []).length ≤ 1000) else true) = true := by decide +kernel
theorem few_lists {x y z : Nat} (hx0 : 0 < x) (hx : x ≤ 4) (hy0 : 0 < y) (hy : y ≤ 4) (hz0 : 0 < z) (hz : z ≤ 4) (hc : countC x y z ≤ 1000) : (allL y z (x * y) []).length ≤ 1000 := by
  have h := List.all_eq_true.1 (List.all_eq_true.1 (List.all_eq_true.1 all_few (x - 1) (List.mem_range.2 (by omega))) (y - 1) (List.mem_range.2 (by omega))) (z - 1) (List.mem_range.2 (by omega))
  rw [show x - 1 + 1 = x by omega, show y - 1 + 1 = y by omega, show z - 1 + 1 = z by omega, if_pos hc, decide_eq_true_eq] at h
  exact h
theorem S_empty {α : Type} (d : Kd α) {e g base : Nat} {w : World} {ok : Nat → Prop} (h : w.heap[g]? = some (.cells #[] e (0, 0))) (hb : base ≤ g) (hok : ok g) : Kd.S d e w base ok (.slice (some ⟨g, 0, none⟩) 0 0) [] := by
  refine ⟨fun _ => 0, fun k hk => ?_, [], ⟨by simp, Or.inr ⟨g, 0, #[], rfl, hb, h, Nat.le_refl _, Nat.zero_le _, by simp, by simp⟩⟩, ?_⟩
  · injection hk with hk
    subst hk
    exact hok
  · exact ⟨by simp, fun j x hx => by simp at hx⟩
theorem sm_start {w w2 : World} {bb x y z : Nat} (hb : w2.heap[bb]? = some (.cells #[.int .i64 x, .int .i64 y, .int .i64 z] 39 (0, 0))) (hw : Below w.heap.size w w2) :
    Sm w bb (w2.heap.size + 1) (w2.heap.size + 1 + 1) x y z (fun _ => False) [] (((w2.alloc (.cells #[] 37)).alloc (.cells #[.slice (some ⟨w2.heap.size, 0, none⟩) 0 0] 22)).alloc (.cells #[.func (.func 35) #[] #[.pointer (some ⟨bb, 0, none⟩), .pointer (some ⟨w2.heap.size + 1, 0, none⟩), .pointer (some ⟨w2.heap.size + 1 + 1, 0, none⟩)]] 55)) := by
  have hlt := lt_of_block hb
  have h1 := below_alloc (below_alloc (below_alloc (Below.refl w2.heap.size w2) (.cells #[] 37)) (.cells #[.slice (some ⟨w2.heap.size, 0, none⟩) 0 0] 22)) (.cells #[.func (.func 35) #[] #[.pointer (some ⟨bb, 0, none⟩), .pointer (some ⟨w2.heap.size + 1, 0, none⟩), .pointer (some ⟨w2.heap.size + 1 + 1, 0, none⟩)]] 55)
  refine ⟨hw.trans (below_weak h1 hw.size), (h1.block _ hlt).trans hb, ?_, ⟨_, ?_, S_empty _ (g := w2.heap.size) ?_ hw.size ⟨hw.size, fun h => h⟩⟩, fun k hk => hk.elim, fun h => h⟩
  · simp only [World.alloc]
    rw [Array.getElem?_push, if_pos (by simp only [Array.size_push])]
  · simp only [World.alloc]
    rw [Array.getElem?_push, if_neg (by simp only [Array.size_push]; omega), Array.getElem?_push, if_pos (by simp only [Array.size_push])]
  · simp only [World.alloc]
    rw [Array.getElem?_push, if_neg (by simp only [Array.size_push]; omega), Array.getElem?_push, if_neg (by simp only [Array.size_push]; omega), Array.getElem?_push, if_pos rfl]
set_option maxRecDepth 100000 in
theorem boxStairs (x y z : Int) (w : World) :
    Calls Try.prog 17 #[.agg #[.int .i64 x, .int .i64 y, .int .i64 z]] w fun e w' => ∃ v, e = .returned (.tuple #[v, .bool (stairsRes x y z).2]) ∧ Kd.S (Kd.slice 3 (Kd.int .i64)) 37 w' w.heap.size (fun _ => True) v (stairsRes x y z).1 ∧ Below w.heap.size w w' := by
  have hbk : (w.alloc (.cells #[.int .i64 x, .int .i64 y, .int .i64 z] 39)).heap[w.heap.size]? = some (.cells #[.int .i64 x, .int .i64 y, .int .i64 z] 39 (0, 0)) := by simp only [World.alloc]; rw [Array.getElem?_push, if_pos rfl]
  have hb := BoxAt_of hbk
  have Hbk := Lib.hid hbk
  clear hbk
  have hw1 : Below w.heap.size w (w.alloc (.cells #[.int .i64 x, .int .i64 y, .int .i64 z] 39)) := below_alloc (Below.refl _ _) _
  have Hb := Lib.hid hb
  have Hw := Lib.hid hw1
  clear hb hw1
  unfold stairsRes fewB
  have hvB := fun W => boxValid x y z W
  cases hv : validB x y z with
  | false =>
    simp only [hv] at hvB
    simp only [Bool.false_and, Bool.false_eq_true, if_false]
    go_enter Try.func17, Try.ntmps17
    go_wp2_with (go_at_call 33; refine (hvB _).mono ?_; rintro e w1 ⟨rfl, hd1⟩)
    all_goals (go_ret2; exact ⟨_, rfl, Kd.S_nil _ _ _ _ _, Hw.out.trans (hd1.mono Hw.out.size)⟩)
  | true =>
    obtain ⟨a, b, c, rfl, rfl, rfl, ha0, ha, hb0, hb, hc0, hc⟩ := valid_facts hv
    simp only [hv] at hvB
    simp only [Bool.true_and, decide_eq_true_eq, Int.toNat_natCast]
    have hcs := fun W => countStairs a b c ha hb0 hb hc W
    have hfl := few_lists ha0 ha hb0 hb hc0 hc
    have hcb : countC a b c ≤ 1000000000 := by
      have h1 := st_small hb0 hb hc (n := a * b) (Nat.le_trans (Nat.mul_le_mul ha hb) (by decide))
      unfold countC
      exact Nat.le_trans (Nat.div_le_self _ _) h1.2.1
    generalize countC a b c = N at hcs hfl hcb ⊢
    have hlt : w.heap.size < (w.alloc (.cells #[.int .i64 a, .int .i64 b, .int .i64 c] 39)).heap.size := by simp only [World.alloc, Array.size_push]; omega
    by_cases hN : N ≤ 1000
    · have hN2 : ¬ (1000 : Int) < (N : Int) := by omega
      have hN3 : (N : Int) ≤ 1000 := by omega
      rw [if_pos hN]
      have Hfl := Lib.hid (hfl hN)
      clear hfl
      go_enter Try.func17, Try.ntmps17
      have hmf : ∀ (fn : Fn) (first cap : Array Value) (w : World), (Instr.makeFunc fn first cap).run Try.prog w = .ok (.func fn first cap) w := fun _ _ _ _ => rfl
      go_wp2_with (first | (go_at_call 33; refine (hvB _).mono ?_; rintro e w1 ⟨rfl, hd1⟩; have k1 := (hd1.cell (p := ⟨w.heap.size, 0, none⟩) hlt).trans Hb.out.1; have k2 := (hd1.cell (p := ⟨w.heap.size, 1, none⟩) hlt).trans Hb.out.2.1; have k3 := (hd1.cell (p := ⟨w.heap.size, 2, none⟩) hlt).trans Hb.out.2.2) | (go_at_call 34; refine (hcs _).mono ?_; rintro e w2 ⟨rfl, hd2⟩))
      have hbw := Hw.out.trans ((hd1.trans (hd2.mono hd1.size)).mono Hw.out.size)
      have hbb := ((hd1.trans (hd2.mono hd1.size)).block _ hlt).trans Hbk.out
      have hwk := walk35 w w.heap.size (w2.heap.size + 1) (w2.heap.size + 1 + 1) a b c ha hb0 hb hc (Nat.mul_pos ha0 hb0) (Nat.le_trans hbw.size (by omega)) (a * b) [] (fun _ => False) [] _ (.slice none 0 0) (by simp) (fun t ht => by cases ht) (by have := Hfl.out; simp only [List.length_nil]; omega) (sm_start hbb hbw) (Or.inl ⟨rfl, rfl⟩) (fun k hk => by cases hk)
      rw [List.nil_append] at hwk
      refine hwk.mono ?_
      rintro e w3 hp
      have he := hp.out
      subst he
      obtain ⟨vo, ho1, ho2⟩ := hp.sm.ho
      have c4 := cell_of_one ho1
      have Hs := Lib.hid (Kd.S_mono ho2 (ok' := fun _ => True) (fun _ _ => trivial))
      have Hbel := Lib.hid hp.sm.bel
      clear hwk hp hd1 hd2 hbw hbb ho1 ho2
      refine Hid.out ?_
      refine Lib.hid ?_
      go_wp2_with (fail)
      all_goals (go_ret2; exact ⟨_, rfl, Hs.out, Hbel.out⟩)
    · have hN2 : (1000 : Int) < (N : Int) := by omega
      rw [if_neg hN]
      clear hfl
      go_enter Try.func17, Try.ntmps17
      go_wp2_with (first | (go_at_call 33; refine (hvB _).mono ?_; rintro e w1 ⟨rfl, hd1⟩; have k1 := (hd1.cell (p := ⟨w.heap.size, 0, none⟩) hlt).trans Hb.out.1; have k2 := (hd1.cell (p := ⟨w.heap.size, 1, none⟩) hlt).trans Hb.out.2.1; have k3 := (hd1.cell (p := ⟨w.heap.size, 2, none⟩) hlt).trans Hb.out.2.2) | (go_at_call 34; refine (hcs _).mono ?_; rintro e w2 ⟨rfl, hd2⟩))
      all_goals (go_ret2; exact ⟨_, rfl, Kd.S_nil _ _ _ _ _, Hw.out.trans ((hd1.trans (hd2.mono hd1.size)).mono Hw.out.size)⟩)
end Go.Proofs.Ytjdmboagjeldcaa
