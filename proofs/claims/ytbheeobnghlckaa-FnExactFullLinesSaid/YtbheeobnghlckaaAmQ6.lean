/- The sums behind single laws, sixth part: counting along lines. No condition. -/
import Derived.Test.YtbheeobnghlckaaAmQ5
set_option linter.unusedVariables false
set_option linter.unusedSimpArgs false
namespace Go.Am
open Go.RowKit
def incAt (M : List Int) (j : Nat) : List Int := M.set j (M.getD j 0 + 1)
@[simp] theorem incAt_length (M : List Int) (j : Nat) : (incAt M j).length = M.length := by simp [incAt]
theorem incAt_get (M : List Int) (j k : Nat) : (incAt M j).getD k 0 = M.getD k 0 + (if j = k ∧ j < M.length then 1 else 0) := by
  unfold incAt
  simp only [List.getD_eq_getElem?_getD, List.getElem?_set]
  by_cases h : j = k
  · subst h
    by_cases hj : j < M.length
    · simp [hj]
    · simp [hj]
  · simp [h]
def cntI (n : Nat) (f : Nat → Nat) : Nat → List Int
  | 0 => List.replicate n 0
  | i + 1 => incAt (cntI n f i) (f i)
@[simp] theorem cntI_length (n : Nat) (f : Nat → Nat) : ∀ i, (cntI n f i).length = n
  | 0 => by simp [cntI]
  | i + 1 => by simp [cntI, cntI_length n f i]
theorem cntI_count (n : Nat) (f : Nat → Nat) (k : Nat) : ∀ i, 0 ≤ (cntI n f i).getD k 0 ∧ (cntI n f i).getD k 0 ≤ (((List.range i).countP fun j => f j == k) : Nat)
  | 0 => by
    simp only [cntI, List.getD_eq_getElem?_getD, List.getElem?_replicate]
    split <;> simp
  | i + 1 => by
    have ih := cntI_count n f k i
    rw [cntI, incAt_get, List.range_succ, List.countP_append, List.countP_singleton]
    by_cases h : f i = k
    · have : (f i == k) = true := by simpa using h
      rw [this]
      split <;> simp only [if_true] <;> omega
    · have : (f i == k) = false := by simpa using h
      rw [if_neg (fun hh => h hh.1), this]
      simp only [Bool.false_eq_true, if_false]
      omega
theorem cntI_rng (n : Nat) (f : Nat → Nat) (k i : Nat) : 0 ≤ (cntI n f i).getD k 0 ∧ (cntI n f i).getD k 0 ≤ (i : Int) := by
  have h := cntI_count n f k i
  have := List.countP_le_length (p := fun j => f j == k) (l := List.range i)
  rw [List.length_range] at this
  omega
/-! ### the line of a cell, by direction -/
def lnI (d Y Z : Nat) (c : A3) : Int := match d with | 0 => c.y * (Z : Int) + c.z | 1 => c.x * (Z : Int) + c.z | _ => c.x * (Y : Int) + c.y
def sdN (d X Y Z : Nat) : Nat := match d with | 0 => X | 1 => Y | _ => Z
def nlN (d X Y Z : Nat) : Nat := match d with | 0 => Y * Z | 1 => X * Z | _ => X * Y
def viewT (d X Y Z : Nat) (L : List A3) (i : Nat) : List Int := cntI (nlN d X Y Z) (fun j => (lnI d Y Z (L.getD j default)).toNat) i
def withT (d X Y Z : Nat) (L : List A3) (i : Nat) : List Int := cntI (sdN d X Y Z + 1) (fun j => ((viewT d X Y Z L L.length).getD j 0).toNat) i
theorem two_lt {P Q : Nat} {a b : Int} (ha : 0 ≤ a ∧ a < P) (hb : 0 ≤ b ∧ b < Q) : 0 ≤ a * (Q : Int) ∧ 0 ≤ a * (Q : Int) + b ∧ a * (Q : Int) + b < ((P * Q : Nat) : Int) ∧ (a * (Q : Int) + b).toNat < P * Q := by
  obtain ⟨A, rfl⟩ := Int.eq_ofNat_of_zero_le ha.1
  obtain ⟨B, rfl⟩ := Int.eq_ofNat_of_zero_le hb.1
  have h1 : (A + 1) * Q ≤ P * Q := Nat.mul_le_mul_right Q (by omega)
  rw [Nat.add_mul, Nat.one_mul] at h1
  have e : ((A : Nat) : Int) * ((Q : Nat) : Int) = ((A * Q : Nat) : Int) := (Int.natCast_mul A Q).symm
  rw [e]; omega
def lineOK (d X Y Z : Nat) : Bool := (List.range 16).all fun k => decide ((allOf X Y Z).countP (fun c => (lnI d Y Z c).toNat == k) ≤ sdN d X Y Z)
def linesOK : Bool := (List.range 3).all fun d => (List.range 5).all fun X => (List.range 5).all fun Y => (List.range 5).all fun Z => lineOK d X Y Z
set_option maxRecDepth 100000 in
theorem linesOK_true : linesOK = true := by decide +kernel
theorem line_le {d X Y Z k : Nat} (hd : d < 3) (hs : Sides X Y Z) (hk : k < 16) : (allOf X Y Z).countP (fun c => (lnI d Y Z c).toNat == k) ≤ sdN d X Y Z := by
  have h := linesOK_true
  unfold linesOK at h
  have h := List.all_eq_true.1 h d (List.mem_range.2 hd)
  have h := List.all_eq_true.1 h X (List.mem_range.2 (by have := hs.x4; omega))
  have h := List.all_eq_true.1 h Y (List.mem_range.2 (by have := hs.y4; omega))
  have h := List.all_eq_true.1 h Z (List.mem_range.2 (by have := hs.z4; omega))
  unfold lineOK at h
  exact of_decide_eq_true (List.all_eq_true.1 h k (List.mem_range.2 hk))
theorem map_getD (L : List A3) : (List.range L.length).map (fun j => L.getD j default) = L := by
  apply List.ext_getElem (by simp)
  intro i h1 h2
  simp only [List.getElem_map, List.getElem_range, List.getD_eq_getElem?_getD, List.getElem?_eq_getElem h2]; rfl
theorem view_le {d X Y Z k : Nat} {L : List A3} (hd : d < 3) (hs : Sides X Y Z) (hL : HeapL X Y Z L) (hk : k < 16) : 0 ≤ (viewT d X Y Z L L.length).getD k 0 ∧ (viewT d X Y Z L L.length).getD k 0 ≤ (sdN d X Y Z : Int) := by
  have h := cntI_count (nlN d X Y Z) (fun j => (lnI d Y Z (L.getD j default)).toNat) k L.length
  refine ⟨h.1, Int.le_trans h.2 ?_⟩
  have e : (List.range L.length).countP (fun j => (lnI d Y Z (L.getD j default)).toNat == k) = L.countP (fun c => (lnI d Y Z c).toNat == k) := by
    conv => rhs; rw [← map_getD L]
    rw [List.countP_map]; rfl
  rw [e]
  have hsub : L.Sublist (allOf X Y Z) := by
    obtain ⟨p, rfl⟩ := hL
    unfold fl allOf
    exact List.Sublist.map _ List.filter_sublist
  have h1 := hsub.countP_le (p := fun c => (lnI d Y Z c).toNat == k)
  have h2 := line_le hd hs hk
  omega
theorem viewT_step (d X Y Z : Nat) (L : List A3) (i : Nat) {M : List Int} (h : M = viewT d X Y Z L i) {j : Nat} (hj : j = (lnI d Y Z (L.getD i default)).toNat) : M.set j (M.getD j 0 + 1) = viewT d X Y Z L (i + 1) := by subst h hj; rfl
theorem withT_step (d X Y Z : Nat) (L : List A3) (i : Nat) {M : List Int} (h : M = withT d X Y Z L i) : M.set ((viewT d X Y Z L L.length).getD i 0).toNat (M.getD ((viewT d X Y Z L L.length).getD i 0).toNat 0 + 1) = withT d X Y Z L (i + 1) := by subst h; rfl
theorem viewT_length (d X Y Z : Nat) (L : List A3) (i : Nat) : (viewT d X Y Z L i).length = nlN d X Y Z := cntI_length _ _ _
theorem withT_length (d X Y Z : Nat) (L : List A3) (i : Nat) : (withT d X Y Z L i).length = sdN d X Y Z + 1 := cntI_length _ _ _
theorem viewT_rng (d X Y Z : Nat) (L : List A3) (i k : Nat) : 0 ≤ (viewT d X Y Z L i).getD k 0 ∧ (viewT d X Y Z L i).getD k 0 ≤ (i : Int) := cntI_rng _ _ _ _
theorem withT_rng (d X Y Z : Nat) (L : List A3) (i k : Nat) : 0 ≤ (withT d X Y Z L i).getD k 0 ∧ (withT d X Y Z L i).getD k 0 ≤ (i : Int) := cntI_rng _ _ _ _
end Go.Am
