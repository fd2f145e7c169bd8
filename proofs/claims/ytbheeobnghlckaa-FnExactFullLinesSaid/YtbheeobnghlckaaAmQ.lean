/- The sums behind single laws. No condition. -/
import Derived.Test.YtbheeobnghlckaaAmP
set_option linter.unusedVariables false
set_option linter.unusedSimpArgs false
namespace Go.Am
open Go.RowKit
/-- two triples told apart number by number -/
theorem eqA3t {d : A3} {a b c : Int} (h : ((d.x == a) && ((d.y == b) && ((d.z == c) && true))) = true) : d = A3.mk a b c := by
  obtain ⟨x, y, z⟩ := d
  simpa [A3.mk.injEq] using h
theorem eqA3f {d : A3} {a b c : Int} (h : ((d.x == a) && ((d.y == b) && ((d.z == c) && true))) = false) : d ≠ A3.mk a b c := by
  obtain ⟨x, y, z⟩ := d
  intro e
  rw [A3.mk.injEq] at e
  simp [e.1, e.2.1, e.2.2] at h
theorem neA3t {d : A3} {a b c : Int} (h : ((d.x == a) && ((d.y == b) && ((d.z == c) && true))) = false) : (!decide (d = A3.mk a b c)) = true := by
  simpa using eqA3f h
theorem neA3f {d : A3} {a b c : Int} (h : ((d.x == a) && ((d.y == b) && ((d.z == c) && true))) = true) : (!decide (d = A3.mk a b c)) = false := by
  simpa using eqA3t h
end Go.Am
namespace Go.Am
theorem with_end {X Y Z : Nat} {L : List A3} {c : A3} {k : Nat} (h : HeapL X Y Z L) (hs : Sides X Y Z) (hc : has3 (X : Int) (Y : Int) (Z : Int) c.x c.y c.z = true) (hk : k = L.length)
    (hb : ∀ j, j < k → lex3 (L.getD j default) c = true) : L.take k ++ [c] ++ [] = listOf X Y Z (setOf Y Z L ||| 2 ^ idxN Y Z c) := by
  rw [← with_mid h hs hc (k := k) (by omega) hb (fun h => absurd h (by omega))]
  subst hk
  simp
theorem with_nil {X Y Z : Nat} {L : List A3} {c : A3} (h : HeapL X Y Z L) (hs : Sides X Y Z) (hc : has3 (X : Int) (Y : Int) (Z : Int) c.x c.y c.z = true) (hk : L.length = 0) : ([] : List A3) ++ [] ++ [c] ++ [] = listOf X Y Z (setOf Y Z L ||| 2 ^ idxN Y Z c) := by
  have := with_end h hs hc (k := 0) hk.symm (fun j hj => absurd hj (Nat.not_lt_zero j))
  rw [← this]
  simp
end Go.Am
namespace Go.Am
theorem lexTo_next {L : List A3} {a b c : Int} {k : Nat} (hb : ∀ j, j < k → lex3 (L.getD j default) (A3.mk a b c) = true) (h : lexB (L.getD k default).x (L.getD k default).y (L.getD k default).z a b c = true) : ∀ j, j < k + 1 → lex3 (L.getD j default) (A3.mk a b c) = true := fun j hj => by
  rcases Nat.lt_or_ge j k with hlt | hge
  · exact hb j hlt
  · have e : j = k := by omega
    subst e
    exact h
end Go.Am
namespace Go.Am
/-- two valid heaps in boxes with the same sides? -/
def alikeB (x1 y1 z1 : Int) (L1 : List A3) (x2 y2 z2 : Int) (L2 : List A3) : Bool := isHeapB x1 y1 z1 L1 && (isHeapB x2 y2 z2 L2 && ((x1 == x2) && ((y1 == y2) && ((z1 == z2) && true))))
theorem alike_of {X Y Z : Nat} {L1 L2 : List A3} (hs : Sides X Y Z) (h1 : HeapL X Y Z L1) (h2 : HeapL X Y Z L2) : alikeB (X : Int) (Y : Int) (Z : Int) L1 (X : Int) (Y : Int) (Z : Int) L2 = true := by
  simp [alikeB, isHeapB_of hs h1, isHeapB_of hs h2]
theorem alike_cases {x1 y1 z1 : Int} {L1 : List A3} {x2 y2 z2 : Int} {L2 : List A3} (h : alikeB x1 y1 z1 L1 x2 y2 z2 L2 = true) : ∃ X Y Z : Nat, x1 = (X : Int) ∧ y1 = (Y : Int) ∧ z1 = (Z : Int) ∧ x2 = (X : Int) ∧ y2 = (Y : Int) ∧ z2 = (Z : Int) ∧ Sides X Y Z ∧ HeapL X Y Z L1 ∧ HeapL X Y Z L2 := by
  simp only [alikeB, Bool.and_eq_true, beq_iff_eq] at h
  obtain ⟨h1, h2, rfl, rfl, rfl, _⟩ := h
  obtain ⟨X, Y, Z, rfl, rfl, rfl, hs, hL1⟩ := heapL_of h1
  obtain ⟨X', Y', Z', e1, e2, e3, hs', hL2⟩ := heapL_of h2
  obtain rfl : X = X' := by omega
  obtain rfl : Y = Y' := by omega
  obtain rfl : Z = Z' := by omega
  exact ⟨X, Y, Z, rfl, rfl, rfl, rfl, rfl, rfl, hs, hL1, hL2⟩
theorem setOf_nil (Y Z : Nat) : setOf Y Z [] = 0 := rfl
/-- one cell more of the second heap -/
theorem join_step {X Y Z : Nat} {L2 M : List A3} {s : Nat} {i : Nat} (hs : Sides X Y Z) (hM : M = listOf X Y Z (s ||| setOf Y Z (L2.take i))) (hi : i < L2.length) :
    listOf X Y Z (setOf Y Z M ||| 2 ^ idxN Y Z (L2.getD i default)) = listOf X Y Z (s ||| setOf Y Z (L2.take (i + 1))) := by
  refine listOf_congr fun j hj => ?_
  rw [setOf_take Y Z L2 i hi, Nat.testBit_or, hM, setOf_listOf hs, Nat.testBit_or, Nat.testBit_or, Nat.testBit_or]
  simp [hj, Bool.or_assoc]
theorem common_end {X Y Z : Nat} {L1 L2 : List A3} (hs : Sides X Y Z) (h1 : HeapL X Y Z L1) (h2 : HeapL X Y Z L2) : L1.filter (fun d => hasL L2 d.x d.y d.z) = listOf X Y Z (setOf Y Z L1 &&& setOf Y Z L2) := by
  refine filter_list h1 hs fun i hi => ?_
  rw [Nat.testBit_and, hasL_bit h2 hs (cellOf_has hs.y0 hs.z0 hi)]
  congr 2
  exact (idx_cellOf hs.y0 hs.z0 i).symm
theorem others_end {X Y Z : Nat} {L : List A3} (hs : Sides X Y Z) (h : HeapL X Y Z L) : (allOf X Y Z).filter (fun d => !hasL L d.x d.y d.z) = listOf X Y Z (andn (2 ^ (X * Y * Z) - 1) (setOf Y Z L)) := by
  refine filter_allList fun i hi => ?_
  rw [andn_bit, full_bit, hasL_bit h hs (cellOf_has hs.y0 hs.z0 hi)]
  have e : idxN Y Z ⟨(cellOf Y Z i).x, (cellOf Y Z i).y, (cellOf Y Z i).z⟩ = i := idx_cellOf hs.y0 hs.z0 i
  rw [e]
  simp [hi]
theorem notB_f {b : Bool} (h : b = true) : (!b) = false := by rw [h]; rfl
theorem notB_t {b : Bool} (h : b = false) : (!b) = true := by rw [h]; rfl
end Go.Am
namespace Go.Am
/-! ### parity -/
def parC (c : A3) : Int := 1 - 2 * ((c.x + c.y + c.z) % 2)
def parL (L : List A3) : Int := (L.map parC).sum
theorem parL_take {L : List A3} {i : Nat} (h : i < L.length) : parL (L.take (i + 1)) = parL (L.take i) + parC (L.getD i default) := by
  unfold parL
  rw [List.take_succ_eq_append_getElem h, List.map_append, List.sum_append, List.getD_eq_getElem?_getD, List.getElem?_eq_getElem h]
  simp
/-- cells whose numbers are small -/
def SmallL (L : List A3) : Prop := ∀ c ∈ L, (0 ≤ c.x ∧ c.x ≤ 4) ∧ (0 ≤ c.y ∧ c.y ≤ 4) ∧ (0 ≤ c.z ∧ c.z ≤ 4)
theorem SmallL.at {L : List A3} (h : SmallL L) {i : Nat} (hi : i < L.length) : (0 ≤ (L.getD i default).x ∧ (L.getD i default).x ≤ 4) ∧ (0 ≤ (L.getD i default).y ∧ (L.getD i default).y ≤ 4) ∧ (0 ≤ (L.getD i default).z ∧ (L.getD i default).z ≤ 4) := h _ (getD_mem hi)
theorem HeapL.small {X Y Z : Nat} {L : List A3} (h : HeapL X Y Z L) (hs : Sides X Y Z) : SmallL L := fun c hc => by
  have := has3_iff.1 (h.mem_has hs hc)
  have := hs.x4; have := hs.y4; have := hs.z4
  omega
/-! ### counts -/
theorem count_take_yes {L : List A3} {i : Nat} {q : A3 → Bool} (h : i < L.length) (hq : q (L.getD i default) = true) : (L.take i).countP q + 1 = (L.take (i + 1)).countP q := by
  rw [List.take_succ_eq_append_getElem h, List.countP_append]
  have e : L[i] = L.getD i default := by rw [List.getD_eq_getElem?_getD, List.getElem?_eq_getElem h]; rfl
  rw [e]; simp [List.countP_cons] at hq ⊢; simp [hq]
theorem count_take_no {L : List A3} {i : Nat} {q : A3 → Bool} (h : i < L.length) (hq : q (L.getD i default) = false) : (L.take i).countP q = (L.take (i + 1)).countP q := by
  rw [List.take_succ_eq_append_getElem h, List.countP_append]
  have e : L[i] = L.getD i default := by rw [List.getD_eq_getElem?_getD, List.getElem?_eq_getElem h]; rfl
  rw [e]; simp [List.countP_cons] at hq ⊢; simp [hq]
def looseQ (L : List A3) (c : A3) : Bool := decide (0 < c.z) && !hasL L c.x c.y (c.z - 1)
theorem looseQ_t {L : List A3} {c : A3} (h1 : 0 < c.z) (h2 : hasL L c.x c.y (c.z - 1) = false) : looseQ L c = true := by simp [looseQ, h1, h2]
theorem looseQ_f1 {L : List A3} {c : A3} (h1 : c.z ≤ 0) : looseQ L c = false := by
  have : ¬ 0 < c.z := by omega
  simp [looseQ, this]
theorem looseQ_f2 {L : List A3} {c : A3} (h2 : hasL L c.x c.y (c.z - 1) = true) : looseQ L c = false := by simp [looseQ, h2]
/-! ### the first place of a cell -/
def findL (L : List A3) (a b c : Int) : Int := if hasL L a b c = true then ((L.findIdx fun d => decide (d = ⟨a, b, c⟩) : Nat) : Int) else -1
theorem findL_ge (L : List A3) (a b c : Int) : decide (findL L a b c ≥ 0) = hasL L a b c := by
  unfold findL
  cases h : hasL L a b c
  · simp
  · simp
theorem eqA3r {d : A3} {a b c : Int} (h : ((a == d.x) && ((b == d.y) && ((c == d.z) && true))) = true) : d = A3.mk a b c := by
  obtain ⟨x, y, z⟩ := d
  simp at h
  simp [h.1, h.2.1, h.2.2]
theorem eqA3rf {d : A3} {a b c : Int} (h : ((a == d.x) && ((b == d.y) && ((c == d.z) && true))) = false) : ((d.x == a) && ((d.y == b) && ((d.z == c) && true))) = false := by
  rw [← h]
  rw [Bool.eq_iff_iff]
  simp only [Bool.and_eq_true, beq_iff_eq]
  constructor <;> (rintro ⟨h1, h2, h3, _⟩; exact ⟨h1.symm, h2.symm, h3.symm, trivial⟩)
theorem findL_at {L : List A3} {a b c : Int} {i : Nat} (hi : i < L.length) (ho : hasTo L a b c i = false) (h : L.getD i default = A3.mk a b c) : (i : Int) = findL L a b c := by
  have hm : hasL L a b c = true := by
    rw [hasL_mem, decide_eq_true_eq, ← h]; exact getD_mem hi
  unfold findL
  rw [if_pos hm]
  congr 1
  symm
  rw [List.findIdx_eq hi]
  have e : L[i] = L.getD i default := by rw [List.getD_eq_getElem?_getD, List.getElem?_eq_getElem hi]; rfl
  refine ⟨by rw [e, h]; simp, fun j hj => ?_⟩
  unfold hasTo at ho
  rw [hasL_mem, decide_eq_false_iff_not] at ho
  rw [decide_eq_false_iff_not]
  intro hc
  refine ho ?_
  rw [← hc, List.mem_iff_getElem]
  exact ⟨j, by simp; omega, by simp⟩
theorem findL_no {L : List A3} {a b c : Int} {i : Nat} (hi : i = L.length) (ho : hasTo L a b c i = false) : -1 = findL L a b c := by
  subst hi
  rw [hasTo_all] at ho
  simp [findL, ho]
theorem has_next {L : List A3} {a b c : Int} {i : Nat} (hi : i < L.length) (ho : hasTo L a b c i = false) (h : ((a == (L.getD i default).x) && ((b == (L.getD i default).y) && ((c == (L.getD i default).z) && true))) = false) : hasTo L a b c (i + 1) = false := by
  rw [hasTo_succ hi, ho, eqA3rf h]; rfl

/-! ### cells moved -/
theorem setOf_map_take {Y Z : Nat} {L : List A3} {g : A3 → A3} {i : Nat} (h : i < L.length) : setOf Y Z ((L.take (i + 1)).map g) = setOf Y Z ((L.take i).map g) ||| 2 ^ idxN Y Z (g (L.getD i default)) := by
  rw [List.take_succ_eq_append_getElem h, List.map_append, List.map_singleton, setOf_snoc, List.getD_eq_getElem?_getD, List.getElem?_eq_getElem h]
  rfl
theorem setOf_map_lt {X Y Z : Nat} {L : List A3} {g : A3 → A3} (hs : Sides X Y Z) (h : ∀ c ∈ L, has3 (X : Int) (Y : Int) (Z : Int) (g c).x (g c).y (g c).z = true) (i : Nat) : setOf Y Z ((L.take i).map g) < 18446744073709551616 :=
  setOf_lt fun c hc => by
    obtain ⟨d, hd, rfl⟩ := List.mem_map.1 hc
    exact Nat.lt_of_lt_of_le (idx_lt (h d (List.mem_of_mem_take hd))) hs.size
theorem moved_step {X Y Z : Nat} {L M : List A3} {g : A3 → A3} {i : Nat} (hs : Sides X Y Z) (hM : M = listOf X Y Z (setOf Y Z ((L.take i).map g))) (hi : i < L.length) :
    listOf X Y Z (setOf Y Z M ||| 2 ^ idxN Y Z (g (L.getD i default))) = listOf X Y Z (setOf Y Z ((L.take (i + 1)).map g)) := by
  refine listOf_congr fun j hj => ?_
  rw [setOf_map_take hi, Nat.testBit_or, hM, setOf_listOf hs, Nat.testBit_or]
  simp [hj]
def mir (X Y Z d : Nat) (c : A3) : A3 := match d with
  | 0 => ⟨(X : Int) - 1 - c.x, c.y, c.z⟩
  | 1 => ⟨c.x, (Y : Int) - 1 - c.y, c.z⟩
  | _ => ⟨c.x, c.y, (Z : Int) - 1 - c.z⟩
theorem mir_has {X Y Z d : Nat} {c : A3} (h : has3 (X : Int) (Y : Int) (Z : Int) c.x c.y c.z = true) : has3 (X : Int) (Y : Int) (Z : Int) (mir X Y Z d c).x (mir X Y Z d c).y (mir X Y Z d c).z = true := by
  have h := has3_iff.1 h
  refine has3_iff.2 ?_
  unfold mir
  split <;> simp only <;> omega
/-- the same cells in another box -/
theorem widen_heap {X Y Z X2 Y2 Z2 : Nat} {L : List A3} (hs : Sides X Y Z) (hL : HeapL X Y Z L) (hs2 : Sides X2 Y2 Z2) (h : ∀ j, j < L.length → has3 (X2 : Int) (Y2 : Int) (Z2 : Int) (L.getD j default).x (L.getD j default).y (L.getD j default).z = true) : isHeapB (X2 : Int) (Y2 : Int) (Z2 : Int) L = true := by
  have h1 := isHeapB_of hs hL
  unfold isHeapB at h1 ⊢
  rw [Bool.and_eq_true] at h1
  rw [hs2.valid, Bool.true_and]
  have h2 := h1.2
  unfold okTo at h2 ⊢
  rw [List.all_eq_true] at h2 ⊢
  intro k hk
  have := h2 k hk
  unfold cellOK at this ⊢
  rw [Bool.and_eq_true] at this
  rw [h k (List.mem_range.1 hk), this.2]
  rfl
theorem heapL_back {X Y Z : Nat} {L : List A3} (hs : Sides X Y Z) (h : isHeapB (X : Int) (Y : Int) (Z : Int) L = true) : HeapL X Y Z L := by
  obtain ⟨X', Y', Z', e1, e2, e3, _, hL⟩ := heapL_of h
  obtain rfl : X = X' := by omega
  obtain rfl : Y = Y' := by omega
  obtain rfl : Z = Z' := by omega
  exact hL
end Go.Am
namespace Go.Am
/-! ### neighbors -/
def mxI (a b : Int) : Int := if a > b then a else b
theorem mxI_abs (a : Int) : 0 ≤ mxI a (-a) := by unfold mxI; split <;> omega
def apTo (a b c x y z : Int) : Nat → Int
  | 0 => 0
  | 1 => 0 + mxI (a - x) (x - a)
  | 2 => 0 + mxI (a - x) (x - a) + mxI (b - y) (y - b)
  | _ => 0 + mxI (a - x) (x - a) + mxI (b - y) (y - b) + mxI (c - z) (z - c)
def apart (a b c x y z : Int) : Int := apTo a b c x y z 3
def nbr (a b c : Int) : Nat → A3
  | 0 => ⟨a + (-1), b, c⟩
  | 1 => ⟨a + 1, b, c⟩
  | 2 => ⟨a, b + (-1), c⟩
  | 3 => ⟨a, b + 1, c⟩
  | 4 => ⟨a, b, c + (-1)⟩
  | _ => ⟨a, b, c + 1⟩
def nearTo (X Y Z : Nat) (a b c : Int) : Nat → Nat
  | 0 => 0
  | k + 1 => if has3 (X : Int) (Y : Int) (Z : Int) (nbr a b c k).x (nbr a b c k).y (nbr a b c k).z = true then nearTo X Y Z a b c k ||| 2 ^ idxN Y Z (nbr a b c k) else nearTo X Y Z a b c k
theorem nearTo_yes {X Y Z : Nat} {a b c : Int} (k : Nat) (h : has3 (X : Int) (Y : Int) (Z : Int) (nbr a b c k).x (nbr a b c k).y (nbr a b c k).z = true) : nearTo X Y Z a b c k ||| 2 ^ idxN Y Z (nbr a b c k) = nearTo X Y Z a b c (k + 1) := by rw [nearTo, if_pos h]
theorem nearTo_no {X Y Z : Nat} {a b c : Int} (k : Nat) (h : has3 (X : Int) (Y : Int) (Z : Int) (nbr a b c k).x (nbr a b c k).y (nbr a b c k).z = false) : nearTo X Y Z a b c k = nearTo X Y Z a b c (k + 1) := by rw [nearTo, if_neg (by rw [h]; decide)]
theorem nearTo_lt {X Y Z : Nat} {a b c : Int} (hs : Sides X Y Z) : ∀ k, nearTo X Y Z a b c k < 18446744073709551616
  | 0 => by rw [nearTo]; decide
  | k + 1 => by
    rw [nearTo]
    split
    · rename_i h
      exact or_lt64 (nearTo_lt hs k) (pow_lt64 (Nat.lt_of_lt_of_le (idx_lt h) hs.size))
    · exact nearTo_lt hs k
theorem nearTo_bit {X Y Z : Nat} {a b c : Int} (i : Nat) : ∀ k, (nearTo X Y Z a b c k).testBit i = true ↔ ∃ j, j < k ∧ has3 (X : Int) (Y : Int) (Z : Int) (nbr a b c j).x (nbr a b c j).y (nbr a b c j).z = true ∧ idxN Y Z (nbr a b c j) = i
  | 0 => by simp [nearTo]
  | k + 1 => by
    have ih := nearTo_bit (X := X) (Y := Y) (Z := Z) (a := a) (b := b) (c := c) i k
    rw [nearTo]
    split
    · rename_i h
      rw [Nat.testBit_or, Bool.or_eq_true, ih, Nat.testBit_two_pow, decide_eq_true_eq]
      constructor
      · rintro (⟨j, h1, h2⟩ | h1)
        · exact ⟨j, by omega, h2⟩
        · exact ⟨k, by omega, h, h1⟩
      · rintro ⟨j, h1, h2, h3⟩
        rcases Nat.lt_or_ge j k with h4 | h4
        · exact Or.inl ⟨j, h4, h2, h3⟩
        · have : j = k := by omega
          subst this; exact Or.inr h3
    · rename_i h
      rw [ih]
      constructor
      · rintro ⟨j, h1, h2⟩; exact ⟨j, by omega, h2⟩
      · rintro ⟨j, h1, h2, h3⟩
        rcases Nat.lt_or_ge j k with h4 | h4
        · exact ⟨j, h4, h2, h3⟩
        · have : j = k := by omega
          subst this; exact absurd h2 h
theorem apart_one {a b c x y z : Int} : apart x y z a b c = 1 ↔ ∃ j, j < 6 ∧ nbr a b c j = ⟨x, y, z⟩ := by
  unfold apart apTo mxI
  constructor
  · intro h
    have : (x = a + (-1) ∧ y = b ∧ z = c) ∨ (x = a + 1 ∧ y = b ∧ z = c) ∨ (x = a ∧ y = b + (-1) ∧ z = c) ∨ (x = a ∧ y = b + 1 ∧ z = c) ∨ (x = a ∧ y = b ∧ z = c + (-1)) ∨ (x = a ∧ y = b ∧ z = c + 1) := by
      repeat' split at h
      all_goals omega
    rcases this with ⟨rfl, rfl, rfl⟩ | ⟨rfl, rfl, rfl⟩ | ⟨rfl, rfl, rfl⟩ | ⟨rfl, rfl, rfl⟩ | ⟨rfl, rfl, rfl⟩ | ⟨rfl, rfl, rfl⟩
    · exact ⟨0, by decide, rfl⟩
    · exact ⟨1, by decide, rfl⟩
    · exact ⟨2, by decide, rfl⟩
    · exact ⟨3, by decide, rfl⟩
    · exact ⟨4, by decide, rfl⟩
    · exact ⟨5, by decide, rfl⟩
  · rintro ⟨j, hj, h⟩
    have hc : j = 0 ∨ j = 1 ∨ j = 2 ∨ j = 3 ∨ j = 4 ∨ j = 5 := by omega
    rcases hc with rfl | rfl | rfl | rfl | rfl | rfl <;> simp only [nbr, A3.mk.injEq] at h <;> obtain ⟨rfl, rfl, rfl⟩ := h <;> repeat' split
    all_goals omega
theorem near_end {X Y Z : Nat} {L : List A3} {a b c : Int} (hs : Sides X Y Z) (hL : HeapL X Y Z L) : L.filter (fun d => apart d.x d.y d.z a b c == 1) = listOf X Y Z (nearTo X Y Z a b c 6 &&& setOf Y Z L) := by
  refine filter_list hL hs fun i hi => ?_
  rw [Nat.testBit_and, Bool.and_comm]
  congr 1
  rw [Bool.eq_iff_iff, nearTo_bit, beq_iff_eq, apart_one]
  constructor
  · rintro ⟨j, h1, h2, h3⟩
    refine ⟨j, h1, ?_⟩
    have := cellOf_idx h2
    rw [h3] at this
    exact this.symm
  · rintro ⟨j, h1, h2⟩
    have e : nbr a b c j = cellOf Y Z i := h2
    refine ⟨j, h1, ?_, ?_⟩
    · rw [e]; exact cellOf_has hs.y0 hs.z0 hi
    · rw [e]; exact idx_cellOf hs.y0 hs.z0 i
end Go.Am
