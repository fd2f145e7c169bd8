/- The sums behind single laws, second part: sets by a test, staircases, faces. No condition. -/
import Derived.Test.YtbheeobnghlckaaAmQ
set_option linter.unusedVariables false
set_option linter.unusedSimpArgs false
namespace Go.Am
open Go.RowKit
/-! ### sets by a test -/
def thS (n : Nat) (q : Nat → Bool) : Nat := (List.range n).foldl (fun s i => if q i = true then s ||| 2 ^ i else s) 0
theorem thS_succ (n : Nat) (q : Nat → Bool) : thS (n + 1) q = if q n = true then thS n q ||| 2 ^ n else thS n q := by
  unfold thS; rw [List.range_succ, List.foldl_append]; rfl
theorem thS_yes {n : Nat} {q : Nat → Bool} (h : q n = true) : thS n q ||| 2 ^ n = thS (n + 1) q := by rw [thS_succ, if_pos h]
theorem thS_no {n : Nat} {q : Nat → Bool} (h : q n = false) : thS n q = thS (n + 1) q := by rw [thS_succ, if_neg (by rw [h]; decide)]
theorem thS_bit (q : Nat → Bool) (i : Nat) : ∀ n, (thS n q).testBit i = (decide (i < n) && q i)
  | 0 => by simp [thS]
  | n + 1 => by
    rw [thS_succ]
    split
    · rename_i h
      rw [Nat.testBit_or, thS_bit q i n, Nat.testBit_two_pow]
      by_cases e : n = i
      · subst e; simp [h]
      · have : decide (i < n) = decide (i < n + 1) := by rw [decide_eq_decide]; omega
        rw [this]; simp [e]
    · rename_i h
      rw [thS_bit q i n]
      by_cases e : n = i
      · subst e; simp at h; simp [h]
      · have : decide (i < n) = decide (i < n + 1) := by rw [decide_eq_decide]; omega
        rw [this]
theorem thS_lt (q : Nat → Bool) (n : Nat) (h : n ≤ 64) : thS n q < 18446744073709551616 := by
  have : thS n q < 2 ^ 64 := by
    apply Nat.lt_pow_two_of_testBit
    intro i hi
    rw [thS_bit]
    have : ¬ i < n := by omega
    simp [this]
  simpa using this
theorem list_thS {X Y Z : Nat} (q : Nat → Bool) : listOf X Y Z (thS (X * Y * Z) q) = fl Y Z (X * Y * Z) q := by
  rw [listOf_fl]
  exact fl_congr fun i hi => by rw [thS_bit]; simp [hi]

/-! ### staircases -/
def belowB (d : A3) (a b c : Int) : Bool := decide (d.x ≤ a) && (decide (d.y ≤ b) && decide (d.z ≤ c))
def belowS (X Y Z : Nat) (a b c : Int) : Nat := thS (X * Y * Z) fun i => belowB (cellOf Y Z i) a b c
def stairQ (L : List A3) (c : A3) : Bool := (decide (c.x - 1 < 0) || hasL L (c.x - 1) c.y c.z) && ((decide (c.y - 1 < 0) || hasL L c.x (c.y - 1) c.z) && (decide (c.z - 1 < 0) || hasL L c.x c.y (c.z - 1)))
def stairS (L : List A3) : Bool := L.all (stairQ L)
def stairI (X Y Z s : Nat) : Bool := (listOf X Y Z s).all fun c => andn (belowS X Y Z c.x c.y c.z) s == 0
theorem stairS_no {L : List A3} {i : Nat} (h : i < L.length) (hq : stairQ L (L.getD i default) = false) : false = stairS L := by
  symm; unfold stairS; rw [List.all_eq_false]
  exact ⟨_, getD_mem h, by rw [hq]; decide⟩
theorem stairS_yes {L : List A3} {i : Nat} (h : L.length ≤ i) (hq : ∀ j, j < i → j < L.length → stairQ L (L.getD j default) = true) : true = stairS L := by
  symm; unfold stairS; rw [List.all_eq_true]
  intro c hc
  obtain ⟨j, hj, rfl⟩ := List.getElem_of_mem hc
  have := hq j (by omega) hj
  rwa [List.getD_eq_getElem?_getD, List.getElem?_eq_getElem hj] at this
theorem stairI_no {X Y Z s : Nat} {i : Nat} (h : i < (listOf X Y Z s).length) (hq : ((andn (belowS X Y Z ((listOf X Y Z s).getD i default).x ((listOf X Y Z s).getD i default).y ((listOf X Y Z s).getD i default).z) s : Nat) : Int) ≠ 0) : false = stairI X Y Z s := by
  symm; unfold stairI; rw [List.all_eq_false]
  refine ⟨_, getD_mem h, ?_⟩
  simp only [beq_iff_eq]
  omega
theorem stairI_yes {X Y Z s : Nat} {i : Nat} (h : (listOf X Y Z s).length ≤ i) (hq : ∀ j, j < i → j < (listOf X Y Z s).length → andn (belowS X Y Z ((listOf X Y Z s).getD j default).x ((listOf X Y Z s).getD j default).y ((listOf X Y Z s).getD j default).z) s = 0) : true = stairI X Y Z s := by
  symm; unfold stairI; rw [List.all_eq_true]
  intro c hc
  obtain ⟨j, hj, rfl⟩ := List.getElem_of_mem hc
  have := hq j (by omega) hj
  rw [List.getD_eq_getElem?_getD, List.getElem?_eq_getElem hj] at this
  simpa using this
theorem andn_zero {a b : Nat} : andn a b = 0 ↔ ∀ i, a.testBit i = true → b.testBit i = true := by
  constructor
  · intro h i ha
    have := congrArg (fun n => n.testBit i) h
    simp only [andn_bit, Nat.zero_testBit, ha, Bool.true_and, Bool.not_eq_false'] at this
    exact this
  · intro h
    apply Nat.eq_of_testBit_eq
    intro i
    rw [andn_bit, Nat.zero_testBit]
    cases ha : a.testBit i
    · rfl
    · rw [h i ha]; rfl
/-- with a cell, all cells below it -/
def Down (X Y Z : Nat) (L : List A3) : Prop := ∀ c ∈ L, ∀ d : A3, has3 (X : Int) (Y : Int) (Z : Int) d.x d.y d.z = true → d.x ≤ c.x → d.y ≤ c.y → d.z ≤ c.z → d ∈ L
theorem stairI_down {X Y Z : Nat} {L : List A3} (hs : Sides X Y Z) (hL : HeapL X Y Z L) : stairI X Y Z (setOf Y Z L) = true ↔ Down X Y Z L := by
  unfold stairI Down
  rw [hL.eq hs, List.all_eq_true]
  constructor
  · intro h c hc d hd h1 h2 h3
    have := h c hc
    rw [beq_iff_eq, andn_zero] at this
    rw [hL.mem hs hd]
    refine this _ ?_
    unfold belowS
    rw [thS_bit, cellOf_idx hd]
    simp [idx_lt hd, belowB, h1, h2, h3]
  · intro h c hc
    rw [beq_iff_eq, andn_zero]
    intro i hi
    unfold belowS at hi
    rw [thS_bit] at hi
    simp only [Bool.and_eq_true, decide_eq_true_eq, belowB] at hi
    obtain ⟨hi1, h1, h2, h3⟩ := hi
    have hd := cellOf_has hs.y0 hs.z0 hi1
    have := (hL.mem hs hd).1 (h c hc _ hd h1 h2 h3)
    rwa [idx_cellOf hs.y0 hs.z0] at this
theorem stairQ_iff {L : List A3} {c : A3} : stairQ L c = true ↔ ((c.x - 1 < 0 ∨ (⟨c.x - 1, c.y, c.z⟩ : A3) ∈ L) ∧ (c.y - 1 < 0 ∨ (⟨c.x, c.y - 1, c.z⟩ : A3) ∈ L) ∧ (c.z - 1 < 0 ∨ (⟨c.x, c.y, c.z - 1⟩ : A3) ∈ L)) := by
  unfold stairQ
  simp only [Bool.and_eq_true, Bool.or_eq_true, decide_eq_true_eq, hasL_mem]
theorem stairS_down {X Y Z : Nat} {L : List A3} (hs : Sides X Y Z) (hL : HeapL X Y Z L) : stairS L = true ↔ Down X Y Z L := by
  unfold stairS Down
  rw [List.all_eq_true]
  constructor
  · intro h
    have main : ∀ n : Nat, ∀ c ∈ L, ∀ d : A3, has3 (X : Int) (Y : Int) (Z : Int) d.x d.y d.z = true → d.x ≤ c.x → d.y ≤ c.y → d.z ≤ c.z → (c.x - d.x) + (c.y - d.y) + (c.z - d.z) = (n : Int) → d ∈ L := by
      intro n
      induction n with
      | zero =>
        intro c hc d hd h1 h2 h3 he
        have : d = c := by
          obtain ⟨a, b, e⟩ := d; obtain ⟨a', b', e'⟩ := c
          simp only [A3.mk.injEq] at *
          omega
        rw [this]; exact hc
      | succ n ih =>
        intro c hc d hd h1 h2 h3 he
        have hq := stairQ_iff.1 (h c hc)
        have hd3 := has3_iff.1 hd
        rcases Int.lt_or_eq_of_le h1 with g1 | g1
        · rcases hq.1 with g | g
          · omega
          · exact ih _ g d hd (by simp only; omega) h2 h3 (by simp only; omega)
        · rcases Int.lt_or_eq_of_le h2 with g2 | g2
          · rcases hq.2.1 with g | g
            · omega
            · exact ih _ g d hd h1 (by simp only; omega) h3 (by simp only; omega)
          · rcases hq.2.2 with g | g
            · omega
            · exact ih _ g d hd h1 h2 (by simp only; omega) (by simp only; omega)
    intro c hc d hd h1 h2 h3
    exact main ((c.x - d.x) + (c.y - d.y) + (c.z - d.z)).toNat c hc d hd h1 h2 h3 (by omega)
  · intro h c hc
    have h3 := has3_iff.1 (hL.mem_has hs hc)
    refine stairQ_iff.2 ⟨?_, ?_, ?_⟩
    · rcases Int.lt_or_le (c.x - 1) 0 with g | g
      · exact Or.inl g
      · exact Or.inr (h c hc _ (has3_iff.2 (by simp only; omega)) (by simp only; omega) (Int.le_refl _) (Int.le_refl _))
    · rcases Int.lt_or_le (c.y - 1) 0 with g | g
      · exact Or.inl g
      · exact Or.inr (h c hc _ (has3_iff.2 (by simp only; omega)) (Int.le_refl _) (by simp only; omega) (Int.le_refl _))
    · rcases Int.lt_or_le (c.z - 1) 0 with g | g
      · exact Or.inl g
      · exact Or.inr (h c hc _ (has3_iff.2 (by simp only; omega)) (Int.le_refl _) (Int.le_refl _) (by simp only; omega))
theorem stair_same {X Y Z : Nat} {L : List A3} (hs : Sides X Y Z) (hL : HeapL X Y Z L) : stairI X Y Z (setOf Y Z L) = stairS L := by
  rw [Bool.eq_iff_iff, stairI_down hs hL, stairS_down hs hL]

/-! ### faces -/
def bareQ (L : List A3) (k : Nat) (c : A3) : Bool := !hasL L (nbr c.x c.y c.z k).x (nbr c.x c.y c.z k).y (nbr c.x c.y c.z k).z
def cntF (L : List A3) (k i : Nat) : Nat := (L.take i).countP (bareQ L k)
theorem cntF_le (L : List A3) (k i : Nat) : cntF L k i ≤ L.length := Nat.le_trans (List.countP_le_length) (by simp; omega)
def stp (k f : Nat) : Nat := if k < f then 1 else 0
theorem cntF_yes {L : List A3} {k i m : Nat} (h : i < L.length) (hm : m = cntF L k (i + 0)) (hq : hasL L (nbr (L.getD i default).x (L.getD i default).y (L.getD i default).z k).x (nbr (L.getD i default).x (L.getD i default).y (L.getD i default).z k).y (nbr (L.getD i default).x (L.getD i default).y (L.getD i default).z k).z = false) : m + 1 = cntF L k (i + 1) := by
  rw [Nat.add_zero] at hm; rw [hm]; exact count_take_yes (q := bareQ L k) h (by unfold bareQ; rw [hq]; rfl)
theorem cntF_no {L : List A3} {k i m : Nat} (h : i < L.length) (hm : m = cntF L k (i + 0)) (hq : hasL L (nbr (L.getD i default).x (L.getD i default).y (L.getD i default).z k).x (nbr (L.getD i default).x (L.getD i default).y (L.getD i default).z k).y (nbr (L.getD i default).x (L.getD i default).y (L.getD i default).z k).z = true) : m = cntF L k (i + 1) := by
  rw [Nat.add_zero] at hm; rw [hm]; exact count_take_no (q := bareQ L k) h (by unfold bareQ; rw [hq]; rfl)
def sum6 (a b c d e f : Nat) : Nat → Nat
  | 0 => 0
  | 1 => 0 + a
  | 2 => 0 + a + b
  | 3 => 0 + a + b + c
  | 4 => 0 + a + b + c + d
  | 5 => 0 + a + b + c + d + e
  | _ => 0 + a + b + c + d + e + f
end Go.Am
namespace Go.Am
theorem stairQ_of {L : List A3} {c : A3} (h1 : c.x - 1 < 0 ∨ hasL L (c.x - 1) c.y c.z = true) (h2 : c.y - 1 < 0 ∨ hasL L c.x (c.y - 1) c.z = true) (h3 : c.z - 1 < 0 ∨ hasL L c.x c.y (c.z - 1) = true) : stairQ L c = true := by
  unfold stairQ
  simp only [Bool.and_eq_true, Bool.or_eq_true, decide_eq_true_eq]
  exact ⟨h1, h2, h3⟩
theorem stairQ_no {L : List A3} {c : A3} (h : (0 ≤ c.x - 1 ∧ hasL L (c.x - 1) c.y c.z = false) ∨ (0 ≤ c.y - 1 ∧ hasL L c.x (c.y - 1) c.z = false) ∨ (0 ≤ c.z - 1 ∧ hasL L c.x c.y (c.z - 1) = false)) : stairQ L c = false := by
  cases hq : stairQ L c
  · rfl
  · exfalso
    unfold stairQ at hq
    simp only [Bool.and_eq_true, Bool.or_eq_true, decide_eq_true_eq] at hq
    obtain ⟨g1, g2, g3⟩ := hq
    rcases h with ⟨a, b⟩ | ⟨a, b⟩ | ⟨a, b⟩
    · rcases g1 with g | g
      · omega
      · rw [b] at g; cases g
    · rcases g2 with g | g
      · omega
      · rw [b] at g; cases g
    · rcases g3 with g | g
      · omega
      · rw [b] at g; cases g
end Go.Am
