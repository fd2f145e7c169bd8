/- The sums behind the walks over valid heaps: a valid heap's cells are those with the numbers for which something is so, in order. No condition. -/
import Derived.Test.YtbheeobnghlckaaAmN
set_option linter.unusedVariables false
set_option linter.unusedSimpArgs false
namespace Go.Am

/-- the cells with the numbers below n for which p -/
def fl (Y Z n : Nat) (p : Nat → Bool) : List A3 := ((List.range n).filter p).map (cellOf Y Z)
theorem listOf_fl (X Y Z s : Nat) : listOf X Y Z s = fl Y Z (X * Y * Z) s.testBit := rfl
theorem fl_congr {Y Z n : Nat} {p q : Nat → Bool} (h : ∀ i, i < n → p i = q i) : fl Y Z n p = fl Y Z n q := by
  unfold fl
  congr 1
  exact List.filter_congr fun i hi => h i (List.mem_range.1 hi)
theorem fl_succ (Y Z n : Nat) (p : Nat → Bool) : fl Y Z (n + 1) p = if p n then fl Y Z n p ++ [cellOf Y Z n] else fl Y Z n p := by
  unfold fl
  rw [List.range_succ, List.filter_append]
  by_cases h : p n <;> simp [h]
theorem fl_length (Y Z n : Nat) (p : Nat → Bool) : (fl Y Z n p).length ≤ n := by
  unfold fl
  rw [List.length_map]
  have := List.length_filter_le p (List.range n)
  simpa using this

theorem sorted_ext : ∀ {l m : List Nat}, l.Pairwise (· < ·) → m.Pairwise (· < ·) → (∀ i, i ∈ l ↔ i ∈ m) → l = m
  | [], [], _, _, _ => rfl
  | [], b :: m, _, _, h => by have := (h b).2 (by simp); simp at this
  | a :: l, [], _, _, h => by have := (h a).1 (by simp); simp at this
  | a :: l, b :: m, hl, hm, h => by
    obtain ⟨h1, hl'⟩ := List.pairwise_cons.1 hl
    obtain ⟨h2, hm'⟩ := List.pairwise_cons.1 hm
    have hab : a = b := by
      rcases List.mem_cons.1 ((h a).1 (by simp)) with e | e
      · exact e
      · rcases List.mem_cons.1 ((h b).2 (by simp)) with e2 | e2
        · exact e2.symm
        · have := h2 a e; have := h1 b e2; omega
    subst hab
    congr 1
    refine sorted_ext hl' hm' fun i => ⟨fun hi => ?_, fun hi => ?_⟩
    · rcases List.mem_cons.1 ((h i).1 (List.mem_cons_of_mem _ hi)) with e | e
      · have := h1 i hi; omega
      · exact e
    · rcases List.mem_cons.1 ((h i).2 (List.mem_cons_of_mem _ hi)) with e | e
      · have := h2 i hi; omega
      · exact e
theorem sorted_filter {n : Nat} (p : Nat → Bool) : ((List.range n).filter p).Pairwise (· < ·) := List.Pairwise.filter _ List.pairwise_lt_range
theorem sorted_is {n : Nat} {l : List Nat} (h : l.Pairwise (· < ·)) (hn : ∀ i ∈ l, i < n) : l = (List.range n).filter fun i => decide (i ∈ l) := by
  refine sorted_ext h (sorted_filter _) fun i => ?_
  simp only [List.mem_filter, List.mem_range, decide_eq_true_eq]
  exact ⟨fun hi => ⟨hn i hi, hi⟩, fun hi => hi.2⟩

def idxN (Y Z : Nat) (c : A3) : Nat := (c.x.toNat * Y + c.y.toNat) * Z + c.z.toNat
theorem has3_iff {X Y Z : Nat} {c : A3} : has3 (X : Int) (Y : Int) (Z : Int) c.x c.y c.z = true ↔ (0 ≤ c.x ∧ c.x < X) ∧ (0 ≤ c.y ∧ c.y < Y) ∧ (0 ≤ c.z ∧ c.z < Z) := by
  simp only [has3, inR, Bool.and_eq_true, decide_eq_true_eq]
  omega
theorem cellOf_idx {X Y Z : Nat} {c : A3} (h : has3 (X : Int) (Y : Int) (Z : Int) c.x c.y c.z = true) : cellOf Y Z (idxN Y Z c) = c := by
  obtain ⟨h1, h2, h3⟩ := has3_iff.1 h
  unfold idxN
  rw [cellOf_at (by omega) (by omega)]
  obtain ⟨x, y, z⟩ := c
  simp only at h1 h2 h3 ⊢
  congr 1 <;> omega
theorem idx_bound {X Y Z a b c : Nat} (ha : a < X) (hb : b < Y) (hc : c < Z) : (a * Y + b) * Z + c < X * Y * Z := by
  have h1 : a * Y + b < X * Y := by
    have : (a + 1) * Y ≤ X * Y := Nat.mul_le_mul_right _ ha
    rw [Nat.add_mul, Nat.one_mul] at this
    omega
  have h2 : (a * Y + b + 1) * Z ≤ X * Y * Z := Nat.mul_le_mul_right _ h1
  rw [Nat.add_mul, Nat.one_mul] at h2
  omega
theorem idx_lt {X Y Z : Nat} {c : A3} (h : has3 (X : Int) (Y : Int) (Z : Int) c.x c.y c.z = true) : idxN Y Z c < X * Y * Z := by
  obtain ⟨h1, h2, h3⟩ := has3_iff.1 h
  exact idx_bound (by omega) (by omega) (by omega)
theorem idx_cellOf {Y Z : Nat} (hY : 1 ≤ Y) (hZ : 1 ≤ Z) (i : Nat) : idxN Y Z (cellOf Y Z i) = i := by
  simp only [idxN, cellOf, Int.toNat_natCast]
  have h1 : i / Z / Y * Y + i / Z % Y = i / Z := by rw [Nat.mul_comm]; exact Nat.div_add_mod _ _
  rw [h1, Nat.mul_comm]
  exact Nat.div_add_mod _ _
theorem cellOf_has {X Y Z i : Nat} (hY : 1 ≤ Y) (hZ : 1 ≤ Z) (hi : i < X * Y * Z) : has3 (X : Int) (Y : Int) (Z : Int) (cellOf Y Z i).x (cellOf Y Z i).y (cellOf Y Z i).z = true := by
  refine has3_iff.2 ?_
  simp only [cellOf]
  have h1 : i / Z < X * Y := Nat.div_lt_of_lt_mul (by rw [Nat.mul_comm]; exact hi)
  have h2 : i / Z / Y < X := Nat.div_lt_of_lt_mul (by rw [Nat.mul_comm]; exact h1)
  have h3 := Nat.mod_lt (i / Z) hY
  have h4 := Nat.mod_lt i hZ
  exact ⟨⟨Int.natCast_nonneg _, Int.ofNat_lt.2 h2⟩, ⟨Int.natCast_nonneg _, Int.ofNat_lt.2 h3⟩, ⟨Int.natCast_nonneg _, Int.ofNat_lt.2 h4⟩⟩
theorem lex_idx {X Y Z : Nat} {c d : A3} (hc : has3 (X : Int) (Y : Int) (Z : Int) c.x c.y c.z = true) (hd : has3 (X : Int) (Y : Int) (Z : Int) d.x d.y d.z = true) : lex3 c d = decide (idxN Y Z c < idxN Y Z d) := by
  obtain ⟨c1, c2, c3⟩ := has3_iff.1 hc
  obtain ⟨d1, d2, d3⟩ := has3_iff.1 hd
  have key : ∀ {a b e a' b' e' : Nat}, b < Y → e < Z → b' < Y → e' < Z → ((a * Y + b) * Z + e < (a' * Y + b') * Z + e' ↔ (a < a' ∨ (a = a' ∧ (b < b' ∨ (b = b' ∧ e < e'))))) := by
    intro a b e a' b' e' hb he hb' he'
    have lt1 : ∀ {u v r s : Nat}, r < Z → s < Z → u < v → u * Z + r < v * Z + s := by
      intro u v r s hr hs huv
      have : (u + 1) * Z ≤ v * Z := Nat.mul_le_mul_right _ huv
      rw [Nat.add_mul, Nat.one_mul] at this
      omega
    have lt2 : ∀ {u v r s : Nat}, r < Y → s < Y → u < v → u * Y + r < v * Y + s := by
      intro u v r s hr hs huv
      have : (u + 1) * Y ≤ v * Y := Nat.mul_le_mul_right _ huv
      rw [Nat.add_mul, Nat.one_mul] at this
      omega
    constructor
    · intro h
      rcases Nat.lt_trichotomy a a' with h1 | h1 | h1
      · exact Or.inl h1
      · subst h1
        refine Or.inr ⟨rfl, ?_⟩
        rcases Nat.lt_trichotomy b b' with h2 | h2 | h2
        · exact Or.inl h2
        · subst h2; exact Or.inr ⟨rfl, by omega⟩
        · have := lt1 he' he (show a * Y + b' < a * Y + b by omega); omega
      · have := lt1 he' he (lt2 hb' hb h1); omega
    · rintro (h | ⟨rfl, h | ⟨rfl, h⟩⟩)
      · exact lt1 he he' (lt2 hb hb' h)
      · exact lt1 he he' (by omega)
      · omega
  unfold lex3 lexB idxN
  rw [Bool.eq_iff_iff]
  simp only [decide_eq_true_eq]
  rw [key (by omega) (by omega) (by omega) (by omega)]
  omega

theorem okTo_at {x y z : Int} {L : List A3} {n k : Nat} (h : okTo x y z L n = true) (hk : k < n) : cellOK x y z L k = true := by
  unfold okTo at h
  rw [List.all_eq_true] at h
  exact h k (List.mem_range.2 hk)

/-- a valid heap's cells -/
theorem heap_nums {X Y Z : Nat} {L : List A3} (h : okTo (X : Int) (Y : Int) (Z : Int) L L.length = true) : ∃ p : Nat → Bool, L = fl Y Z (X * Y * Z) p := by
  have hh : ∀ k, k < L.length → has3 (X : Int) (Y : Int) (Z : Int) (L.getD k default).x (L.getD k default).y (L.getD k default).z = true := fun k hk => by
    have := okTo_at h hk
    simp only [cellOK, Bool.and_eq_true] at this
    exact this.1
  have hs : ∀ k, k + 1 < L.length → idxN Y Z (L.getD k default) < idxN Y Z (L.getD (k + 1) default) := fun k hk => by
    have := okTo_at h hk
    simp only [cellOK, Bool.and_eq_true] at this
    have h2 := this.2
    simp only [Nat.add_sub_cancel, Bool.or_eq_true, decide_eq_true_eq] at h2
    rcases h2 with h2 | h2
    · omega
    · rw [lex_idx (hh k (by omega)) (hh (k + 1) hk)] at h2
      simpa using h2
  have hall : ∀ j i, i < j → j < L.length → idxN Y Z (L.getD i default) < idxN Y Z (L.getD j default) := by
    intro j
    induction j with
    | zero => intro i hi; omega
    | succ j ih =>
      intro i hi hj
      have h1 := hs j hj
      rcases Nat.lt_or_ge i j with h2 | h2
      · exact Nat.lt_trans (ih i h2 (by omega)) h1
      · have : i = j := by omega
        subst this; exact h1
  have hsort : (L.map (idxN Y Z)).Pairwise (· < ·) := by
    rw [List.pairwise_iff_getElem]
    intro i j hi hj hij
    simp only [List.length_map] at hi hj
    have := hall j i hij hj
    simp only [List.getD_eq_getElem?_getD, List.getElem?_eq_getElem hi, List.getElem?_eq_getElem hj, Option.getD_some] at this
    simpa using this
  have hmem : ∀ c ∈ L, has3 (X : Int) (Y : Int) (Z : Int) c.x c.y c.z = true := by
    intro c hc
    obtain ⟨k, hk, rfl⟩ := List.getElem_of_mem hc
    have := hh k hk
    simpa only [List.getD_eq_getElem?_getD, List.getElem?_eq_getElem hk, Option.getD_some] using this
  refine ⟨fun i => decide (i ∈ L.map (idxN Y Z)), ?_⟩
  unfold fl
  rw [← sorted_is hsort (fun i hi => by
    obtain ⟨c, hc, rfl⟩ := List.mem_map.1 hi
    exact idx_lt (hmem c hc))]
  rw [List.map_map]
  conv => lhs; rw [← List.map_id L]
  exact List.map_congr_left fun c hc => (cellOf_idx (hmem c hc)).symm

theorem mem_fl {X Y Z : Nat} {p : Nat → Bool} {c : A3} (hY : 1 ≤ Y) (hZ : 1 ≤ Z) (hc : has3 (X : Int) (Y : Int) (Z : Int) c.x c.y c.z = true) : c ∈ fl Y Z (X * Y * Z) p ↔ p (idxN Y Z c) = true := by
  unfold fl
  simp only [List.mem_map, List.mem_filter, List.mem_range]
  constructor
  · rintro ⟨i, ⟨_, hp⟩, rfl⟩
    rw [idx_cellOf hY hZ]; exact hp
  · intro hp
    exact ⟨_, ⟨idx_lt hc, hp⟩, cellOf_idx hc⟩
end Go.Am
