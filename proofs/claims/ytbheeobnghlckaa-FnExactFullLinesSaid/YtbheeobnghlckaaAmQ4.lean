/- The sums behind single laws, fourth part: lists of numbers, shadows. No condition. -/
import Derived.Test.YtbheeobnghlckaaAmQ3
set_option linter.unusedVariables false
set_option linter.unusedSimpArgs false
namespace Go.Am
open Go.RowKit
theorem getI_lt {N : List Int} {i : Nat} (h : i < N.length) : N.getD i 0 = N[i] := by rw [List.getD_eq_getElem?_getD, List.getElem?_eq_getElem h]; rfl
/-! ### copies, marks -/
def cpN (N : List Int) (i : Nat) : List Int := N.take i ++ List.replicate (N.length - i) 0
theorem cpN_0 (N : List Int) : cpN N 0 = List.replicate N.length 0 := by simp [cpN]
theorem cpN_length {N : List Int} {i : Nat} (h : i ≤ N.length) : (cpN N i).length = N.length := by simp [cpN]; omega
theorem cpN_put {N : List Int} {i : Nat} (h : i < N.length) : (cpN N i).set i (N.getD i 0) = cpN N (i + 1) := by
  unfold cpN
  rw [List.set_append_right _ _ (by simp; omega), List.take_succ_eq_append_getElem h, List.append_assoc]
  congr 1
  rw [show N.length - i = (N.length - (i + 1)) + 1 by omega, List.replicate_succ]
  have : i - (N.take i).length = 0 := by simp; omega
  rw [this, List.set_cons_zero, getI_lt h]; rfl
theorem cpN_end {N : List Int} {i : Nat} (h : N.length ≤ i) : cpN N i = N := by simp [cpN, List.take_of_length_le h, h]
def mkI (m n : Nat) : List Int := (List.range n).map fun j => ((m + j : Nat) : Int)
@[simp] theorem mkI_length (m n : Nat) : (mkI m n).length = n := by simp [mkI]
theorem mkI_get {m n j : Nat} (h : j < n) : (mkI m n).getD j 0 = ((m + j : Nat) : Int) := by
  rw [getI_lt (by simpa using h)]; simp [mkI]
theorem mkI_succ (m n : Nat) : mkI m (n + 1) = mkI m n ++ [((m + n : Nat) : Int)] := by simp [mkI, List.range_succ]
theorem mkI_put {m j : Nat} {N : List Int} (h : j < N.length) : (mkI m j ++ N.drop j).set j ((m + j : Nat) : Int) = mkI m (j + 1) ++ N.drop (j + 1) := by
  rw [List.set_append_right _ _ (by simp), mkI_succ, List.append_assoc, mkI_length, Nat.sub_self]
  congr 1
  rw [List.drop_eq_getElem_cons h, List.set_cons_zero]; rfl
theorem mkI_end {m j : Nat} {N : List Int} (h : N.length ≤ j) (h2 : j ≤ N.length) : mkI m j ++ N.drop j = mkI m N.length := by
  have e : j = N.length := by omega
  subst e; simp
/-! ### numbers within -/
def allB (N : List Int) (lo hi : Int) : Bool := N.all fun n => inR n lo hi
theorem allB_no {N : List Int} {lo hi : Int} {i : Nat} (h : i < N.length) (hq : inR (N.getD i 0) lo hi = false) : false = allB N lo hi := by
  symm; unfold allB; rw [List.all_eq_false]
  exact ⟨N[i], List.getElem_mem h, by rw [← getI_lt h, hq]; decide⟩
theorem allB_yes {N : List Int} {lo hi : Int} {i : Nat} (h : N.length ≤ i) (hq : ∀ j, j < i → j < N.length → inR (N.getD j 0) lo hi = true) : true = allB N lo hi := by
  symm; unfold allB; rw [List.all_eq_true]
  intro c hc
  obtain ⟨j, hj, rfl⟩ := List.getElem_of_mem hc
  have := hq j (by omega) hj
  rwa [getI_lt hj] at this
theorem allB_get {N : List Int} {lo hi : Int} {i : Nat} (h : allB N lo hi = true) (hi' : i < N.length) : lo ≤ N.getD i 0 ∧ N.getD i 0 ≤ hi := by
  have := List.all_eq_true.1 h _ (List.getElem_mem hi')
  rw [getI_lt hi']; exact inR_le this
def onesB (N : List Int) (n : Int) : Bool := allB N 0 1 && (((N.length : Nat) : Int) == n)
theorem ones_no {N : List Int} {n : Int} {i : Nat} (h : i < N.length) (hq : inR (N.getD i 0) 0 1 = false) : false = onesB N n := by unfold onesB; rw [← allB_no h hq]; rfl
theorem ones_yes {N : List Int} {n : Int} {i : Nat} (h : N.length ≤ i) (hq : ∀ j, j < i → j < N.length → inR (N.getD j 0) 0 1 = true) : (((N.length : Nat) : Int) == n) = onesB N n := by unfold onesB; rw [← allB_yes h hq]; rfl
/-! ### shadows -/
def shadB (X Y Z : Nat) (A B C : List Int) : Bool := onesB A ((X * Y : Nat) : Int) && (onesB B ((X * Z : Nat) : Int) && onesB C ((Y * Z : Nat) : Int))
theorem ones_len {N : List Int} {n : Nat} (h : N.length ≠ n) : onesB N (n : Int) = false := by
  unfold onesB
  have : (((N.length : Nat) : Int) == (n : Int)) = false := by simp; omega
  rw [this, Bool.and_false]
theorem ones_all {N : List Int} {n : Int} (h : allB N 0 1 = false) : onesB N n = false := by unfold onesB; rw [h]; rfl
theorem ones_t {N : List Int} {n : Nat} (h : allB N 0 1 = true) (hl : N.length = n) : onesB N (n : Int) = true := by unfold onesB; rw [h, hl]; simp
theorem ones_of {N : List Int} {n : Nat} (h : onesB N (n : Int) = true) : N.length = n ∧ allB N 0 1 = true := by
  unfold onesB at h; rw [Bool.and_eq_true] at h
  exact ⟨by have := h.2; simp at this; omega, h.1⟩
theorem shad_of {X Y Z : Nat} {A B C : List Int} (h : shadB X Y Z A B C = true) : (A.length = X * Y ∧ allB A 0 1 = true) ∧ (B.length = X * Z ∧ allB B 0 1 = true) ∧ (C.length = Y * Z ∧ allB C 0 1 = true) := by
  unfold shadB at h; rw [Bool.and_eq_true, Bool.and_eq_true] at h
  exact ⟨ones_of h.1, ones_of h.2.1, ones_of h.2.2⟩
theorem shad_t {X Y Z : Nat} {A B C : List Int} (h1 : onesB A ((X * Y : Nat) : Int) = true) (h2 : onesB B ((X * Z : Nat) : Int) = true) (h3 : onesB C ((Y * Z : Nat) : Int) = true) : shadB X Y Z A B C = true := by unfold shadB; rw [h1, h2, h3]; rfl
theorem shad_1 {X Y Z : Nat} {A B C : List Int} (h : onesB A ((X * Y : Nat) : Int) = false) : shadB X Y Z A B C = false := by unfold shadB; rw [h]; rfl
theorem shad_2 {X Y Z : Nat} {A B C : List Int} (h : onesB B ((X * Z : Nat) : Int) = false) : shadB X Y Z A B C = false := by unfold shadB; rw [h]; simp
theorem shad_3 {X Y Z : Nat} {A B C : List Int} (h : onesB C ((Y * Z : Nat) : Int) = false) : shadB X Y Z A B C = false := by unfold shadB; rw [h]; simp
/-! ### how many are lit -/
def sumT (N : List Int) : Nat → Int
  | 0 => 0
  | i + 1 => sumT N i + N.getD i 0
theorem sumT_rng {N : List Int} (h : allB N 0 1 = true) : ∀ i, i ≤ N.length → 0 ≤ sumT N i ∧ sumT N i ≤ i
  | 0, _ => by simp [sumT]
  | i + 1, hi => by
    have := sumT_rng h i (by omega)
    have := allB_get h (i := i) (by omega)
    simp only [sumT]; omega
theorem sumT_nn {N : List Int} (h : allB N 0 1 = true) : 0 ≤ sumT N N.length := (sumT_rng h _ (Nat.le_refl _)).1
def mx2 (a b : Int) : Int := if a < b then b else a
def lbT (A B C : List Int) : Nat → Int
  | 0 => 0
  | 1 => mx2 0 (sumT C C.length)
  | 2 => mx2 (mx2 0 (sumT C C.length)) (sumT B B.length)
  | _ => mx2 (mx2 (mx2 0 (sumT C C.length)) (sumT B B.length)) (sumT A A.length)
def lbS (X Y Z : Nat) (A B C : List Int) : Int := if shadB X Y Z A B C = true then mxI (sumT A A.length) (mxI (sumT B B.length) (sumT C C.length)) else 0
theorem lbS_no {X Y Z : Nat} {A B C : List Int} (h : shadB X Y Z A B C = false) : 0 = lbS X Y Z A B C := by unfold lbS; rw [h]; rfl
theorem lbS_spec {X Y Z : Nat} {A B C : List Int} (h : shadB X Y Z A B C = true) : mxI (sumT A A.length) (mxI (sumT B B.length) (sumT C C.length)) = lbS X Y Z A B C := by unfold lbS; rw [h]; rfl
theorem lbS_impl {X Y Z : Nat} {A B C : List Int} {m : Int} (h : shadB X Y Z A B C = true) (hm : m = lbT A B C 3) : m = lbS X Y Z A B C := by
  rw [← lbS_spec h, hm]
  obtain ⟨⟨_, a⟩, ⟨_, b⟩, ⟨_, c⟩⟩ := shad_of h
  have := sumT_nn a; have := sumT_nn b; have := sumT_nn c
  simp only [lbT, mx2, mxI]
  repeat' split
  all_goals omega
end Go.Am
