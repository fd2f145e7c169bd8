/- Plain law: all heights that begin with some numbers, as the reference lists them. No condition beyond the bounds. -/
import Derived.Test.YtjdmboagjeldcaaS2
namespace Go.Proofs.Ytjdmboagjeldcaa
open Go.RowKit S Go.Proofs.YtjdmboagjeldcaaW.PrintWords
theorem step1 (i : Nat) (h : i ≤ 1000000000) : wrap64 ((i : Int) + 1) = ((i + 1 : Nat) : Int) := by unfold wrap64; omega
theorem rd_eq (xs : List Int) (i : Nat) (h : i < xs.length) : rd xs (i : Int) = xs[i] := by
  unfold rd
  rw [Int.toNat_natCast, List.getD_eq_getElem?_getD, List.getElem?_eq_getElem h]; rfl
def least (a b : Int) : Int := if a < b then a else b
def most1 (y z : Nat) (l : List Int) : Int := if y ≤ l.length then least z (l.getD (l.length - y) 0) else z
def mostOf (y z : Nat) (l : List Int) : Int := if 0 < l.length % y then least (most1 y z l) (l.getD (l.length - 1) 0) else most1 y z l
def allL (y z : Nat) : Nat → List Int → List (List Int)
  | 0, l => [l]
  | d + 1, l => (List.range ((mostOf y z l).toNat + 1)).flatMap fun (h : Nat) => allL y z d (l ++ [(h : Int)])
theorem least_b {a b : Int} (ha : 0 ≤ a ∧ a ≤ 4) (hb : 0 ≤ b ∧ b ≤ 4) : 0 ≤ least a b ∧ least a b ≤ 4 := by unfold least; split <;> assumption
theorem getD_b {l : List Int} (hl : ∀ x ∈ l, 0 ≤ x ∧ x ≤ 4) (i : Nat) : 0 ≤ l.getD i 0 ∧ l.getD i 0 ≤ 4 := by
  rw [List.getD_eq_getElem?_getD]
  cases h : l[i]? with
  | none => simp
  | some x => exact hl x (List.mem_of_getElem? h)
theorem most1_b {y z : Nat} {l : List Int} (hz : z ≤ 4) (hl : ∀ x ∈ l, 0 ≤ x ∧ x ≤ 4) : 0 ≤ most1 y z l ∧ most1 y z l ≤ 4 := by
  unfold most1
  split
  · exact least_b (by omega) (getD_b hl _)
  · omega
theorem most_b {y z : Nat} {l : List Int} (hz : z ≤ 4) (hl : ∀ x ∈ l, 0 ≤ x ∧ x ≤ 4) : 0 ≤ mostOf y z l ∧ mostOf y z l ≤ 4 := by
  unfold mostOf
  split
  · exact least_b (most1_b hz hl) (getD_b hl _)
  · exact most1_b hz hl
theorem snoc_b {l : List Int} (hl : ∀ x ∈ l, 0 ≤ x ∧ x ≤ 4) (h : Nat) (hh : h ≤ 4) : ∀ x ∈ l ++ [(h : Int)], 0 ≤ x ∧ x ≤ 4 := by
  intro x hx
  rcases List.mem_append.1 hx with hx | hx
  · exact hl x hx
  · rw [List.mem_singleton.1 hx]; omega
theorem flat_len {α β : Type} (f : α → List β) (B : Nat) : ∀ (l : List α), (∀ x ∈ l, (f x).length ≤ B) → (l.flatMap f).length ≤ B * l.length
  | [], _ => by simp
  | a :: r, h => by
    rw [List.flatMap_cons, List.length_append, List.length_cons, Nat.mul_add]
    have h1 := h a List.mem_cons_self
    have h2 := flat_len f B r (fun x hx => h x (List.mem_cons_of_mem _ hx))
    omega
theorem all_len (y z : Nat) (hz : z ≤ 4) : ∀ (d : Nat) (l : List Int), (∀ x ∈ l, 0 ≤ x ∧ x ≤ 4) → (allL y z d l).length ≤ 5 ^ d
  | 0, l, _ => by simp [allL]
  | d + 1, l, hl => by
    have hb := most_b (y := y) hz hl
    rw [allL, Nat.pow_succ]
    have := flat_len (fun h : Nat => allL y z d (l ++ [(h : Int)])) (5 ^ d) (List.range ((mostOf y z l).toNat + 1)) (fun h hh => all_len y z hz d _ (snoc_b hl h (by have := List.mem_range.1 hh; omega)))
    rw [List.length_range] at this
    exact Nat.le_trans this (Nat.mul_le_mul_left _ (by omega))
theorem all_each (y z : Nat) (hz : z ≤ 4) : ∀ (d : Nat) (l : List Int), (∀ x ∈ l, 0 ≤ x ∧ x ≤ 4) → ∀ t ∈ allL y z d l, t.length = l.length + d
  | 0, l, _, t, ht => by simp [allL] at ht; subst ht; rfl
  | d + 1, l, hl, t, ht => by
    have hb := most_b (y := y) hz hl
    rw [allL] at ht
    obtain ⟨h, hh, h2⟩ := List.mem_flatMap.1 ht
    have := all_each y z hz d _ (snoc_b hl h (by have := List.mem_range.1 hh; omega)) t h2
    rw [List.length_append, List.length_singleton] at this
    omega
theorem own_eq (l : List Int) (h : l.length ≤ 1000) : spec_l1Own.f l = some l := by
  unfold spec_l1Own.f
  simp only [Option.bind_some]
  rw [if_pos (by simp; omega), List.nil_append]
theorem least_eq (a b : Int) : spec_l1Least.f a b = some (least a b) := by
  unfold spec_l1Least.f least
  split <;> rfl
section
variable (x y z : Nat) (hz : z ≤ 4) (d : Nat) (hd : d ≤ 15) (l : List Int) (hl : ∀ v ∈ l, 0 ≤ v ∧ v ≤ 4) (hll : l.length ≤ 16) (F : Nat)
  (ih : ∀ (h k : Nat), h ≤ 4 → F ≤ k → spec_l5All.f k (x : Int) y z (l ++ [(h : Int)]) = some (allL y z d (l ++ [(h : Int)])))
include hz hd hl hll ih
theorem all_l0 (m : Nat) (hm : m ≤ 4) : ∀ (n i k : Nat) (out : List (List Int)), i + n = m + 1 → out.length + n * 5 ^ 15 ≤ 5 * 5 ^ 15 → F + n + 1 ≤ k →
    spec_l5All.l0 k (x : Int) y z l (m : Int) out (i : Int) = some (out ++ ((List.range (m + 1)).drop i).flatMap fun (h : Nat) => allL y z d (l ++ [(h : Int)]))
  | 0, i, k, out, hi, ho, hk => by
    obtain ⟨k, rfl⟩ : ∃ m, k = m + 1 := ⟨k - 1, by omega⟩
    rw [spec_l5All.l0, if_neg (by omega), List.drop_of_length_le (by rw [List.length_range]; omega)]
    simp
  | n + 1, i, k, out, hi, ho, hk => by
    obtain ⟨k, rfl⟩ : ∃ m, k = m + 1 := ⟨k - 1, by omega⟩
    have hil : i < (List.range (m + 1)).length := by rw [List.length_range]; omega
    have e := List.drop_eq_getElem_cons hil
    rw [List.getElem_range] at e
    have hal := all_len y z hz d (l ++ [(i : Int)]) (snoc_b hl i (by omega))
    have hp : 5 ^ d ≤ 5 ^ 15 := Nat.pow_le_pow_right (by decide) hd
    have hp15 : (5 : Nat) ^ 15 = 30517578125 := by decide
    rw [hp15] at hp ho
    have ho' : (out ++ allL y z d (l ++ [(i : Int)])).length + n * 5 ^ 15 ≤ 5 * 5 ^ 15 := by
      rw [List.length_append, hp15]; omega
    have hih := all_l0 m hm n (i + 1) k (out ++ allL y z d (l ++ [(i : Int)])) (by omega) ho' (by omega)
    rw [spec_l5All.l0, if_pos (by omega), own_eq l (by omega)]
    simp only [Option.bind_some]
    rw [if_pos (by omega), ih i k (by omega) (by omega)]
    simp only [Option.bind_some]
    rw [if_pos (by omega), step1 i (by omega), hih, e, List.flatMap_cons, List.append_assoc]
end
theorem spec_all (x y z : Nat) (hy : 0 < y) (hy4 : y ≤ 4) (hx4 : x ≤ 4) (hz : z ≤ 4) : ∀ (d : Nat) (l : List Int) (k : Nat), l.length + d = x * y → (∀ v ∈ l, 0 ≤ v ∧ v ≤ 4) → 20 * d + 5 ≤ k → spec_l5All.f k (x : Int) y z l = some (allL y z d l)
  | 0, l, k, hd, hl, hk => by
    obtain ⟨k, rfl⟩ : ∃ m, k = m + 1 := ⟨k - 1, by omega⟩
    have hxy : x * y ≤ 4 * 4 := Nat.mul_le_mul hx4 hy4
    have e : wrap64 ((x : Int) * y) = ((x * y : Nat) : Int) := by
      rw [show ((x : Int) * y) = ((x * y : Nat) : Int) by simp]
      generalize x * y = P at hxy
      unfold wrap64; omega
    rw [spec_l5All.f, e, if_pos (by omega)]; rfl
  | d + 1, l, k, hd, hl, hk => by
    obtain ⟨k, rfl⟩ : ∃ m, k = m + 3 := ⟨k - 3, by omega⟩
    have hxy : x * y ≤ 4 * 4 := Nat.mul_le_mul hx4 hy4
    have e : wrap64 ((x : Int) * y) = ((x * y : Nat) : Int) := by
      rw [show ((x : Int) * y) = ((x * y : Nat) : Int) by simp]
      generalize x * y = P at hxy
      unfold wrap64; omega
    have hb1 := most1_b (y := y) hz hl
    have hb2 := most_b (y := y) hz hl
    have tail : ∀ m : Int, m = mostOf y z l → spec_l5All.j1 (k + 1) (x : Int) y z l m = some (allL y z (d + 1) l) := by
      intro m hm
      obtain ⟨mn, rfl⟩ : ∃ n : Nat, m = (n : Int) := ⟨m.toNat, by omega⟩
      have h := all_l0 x y z hz d (by omega) l hl (by omega) (20 * d + 5) (fun h k hh hk => spec_all x y z hy hy4 hx4 hz d (l ++ [(h : Int)]) k (by rw [List.length_append, List.length_singleton]; omega) (snoc_b hl h hh) hk) mn (by omega) (mn + 1) 0 k [] (by omega) (by
        have : (mn + 1) * 5 ^ 15 ≤ 5 * 5 ^ 15 := Nat.mul_le_mul_right _ (by omega)
        simpa using this) (by omega)
      rw [show ((0 : Nat) : Int) = 0 from rfl, List.drop_zero, List.nil_append] at h
      rw [spec_l5All.j1, h, allL, ← hm, Int.toNat_natCast]
    have mid : ∀ m : Int, m = most1 y z l → spec_l5All.j0 (k + 2) (x : Int) y z l (l.length : Int) m = some (allL y z (d + 1) l) := by
      intro m hm
      have e1 : Int.tmod (l.length : Int) (y : Int) = ((l.length % y : Nat) : Int) := (Int.ofNat_tmod _ _).symm
      rw [spec_l5All.j0, if_neg (by omega), e1]
      by_cases h : 0 < l.length % y
      · have hl0 : 0 < l.length := by
          rcases Nat.eq_zero_or_pos l.length with h0 | h0
          · rw [h0, Nat.zero_mod] at h; omega
          · exact h0
        have e2 : wrap64 ((l.length : Int) - 1) = ((l.length - 1 : Nat) : Int) := by unfold wrap64; omega
        rw [if_pos (by omega), e2, if_pos (by omega), if_pos (by omega), least_eq, rd_eq l (l.length - 1) (by omega)]
        simp only [Option.bind_some]
        apply tail
        unfold mostOf
        rw [if_pos h, hm, List.getD_eq_getElem?_getD, List.getElem?_eq_getElem (by omega)]; rfl
      · rw [if_neg (by omega)]
        apply tail
        unfold mostOf
        rw [if_neg h, hm]
    rw [spec_l5All.f, e, if_neg (by omega)]
    by_cases h : y ≤ l.length
    · have e2 : wrap64 ((l.length : Int) - y) = ((l.length - y : Nat) : Int) := by unfold wrap64; omega
      rw [if_pos (by omega), e2, if_pos (by omega), if_pos (by omega), least_eq, rd_eq l (l.length - y) (by omega)]
      simp only [Option.bind_some]
      apply mid
      unfold most1
      rw [if_pos h, List.getD_eq_getElem?_getD, List.getElem?_eq_getElem (by omega)]; rfl
    · rw [if_neg (by omega)]
      apply mid
      unfold most1
      rw [if_neg h]
end Go.Proofs.Ytjdmboagjeldcaa
