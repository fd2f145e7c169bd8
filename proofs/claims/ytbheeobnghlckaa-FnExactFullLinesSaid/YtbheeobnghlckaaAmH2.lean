/- The sums behind the walks over valid heaps, second part: sets by bits, one cell more, one cell less. No condition. -/
import Derived.Test.YtbheeobnghlckaaAmH
set_option linter.unusedVariables false
set_option linter.unusedSimpArgs false
namespace Go.Am

/-- the set of some cells, by bits -/
def setOf (Y Z : Nat) (L : List A3) : Nat := L.foldl (fun s c => s ||| 2 ^ idxN Y Z c) 0
theorem setOf_snoc (Y Z : Nat) (L : List A3) (c : A3) : setOf Y Z (L ++ [c]) = setOf Y Z L ||| 2 ^ idxN Y Z c := by simp [setOf]
theorem setOf_take (Y Z : Nat) (L : List A3) (k : Nat) (h : k < L.length) : setOf Y Z (L.take (k + 1)) = setOf Y Z (L.take k) ||| 2 ^ idxN Y Z (L.getD k default) := by
  rw [List.take_succ_eq_append_getElem h, setOf_snoc, List.getD_eq_getElem?_getD, List.getElem?_eq_getElem h]
  rfl
theorem fold_bit (Y Z i : Nat) : ∀ (L : List A3) (s : Nat), (L.foldl (fun s c => s ||| 2 ^ idxN Y Z c) s).testBit i = (s.testBit i || L.any fun c => decide (idxN Y Z c = i))
  | [], s => by simp
  | c :: L, s => by
    rw [List.foldl_cons, fold_bit Y Z i L, Nat.testBit_or, Nat.testBit_two_pow, List.any_cons, Bool.or_assoc]
theorem setOf_bit (Y Z : Nat) (L : List A3) (i : Nat) : (setOf Y Z L).testBit i = L.any fun c => decide (idxN Y Z c = i) := by
  rw [setOf, fold_bit, Nat.zero_testBit, Bool.false_or]
theorem setOf_lt {Y Z : Nat} {L : List A3} (h : ∀ c ∈ L, idxN Y Z c < 64) : setOf Y Z L < 18446744073709551616 := by
  have : setOf Y Z L < 2 ^ 64 := by
    apply Nat.lt_pow_two_of_testBit
    intro i hi
    rw [setOf_bit, List.any_eq_false]
    intro c hc
    have := h c hc
    simp
    omega
  simpa using this
theorem setOf_fl {X Y Z : Nat} (hY : 1 ≤ Y) (hZ : 1 ≤ Z) (p : Nat → Bool) (i : Nat) : (setOf Y Z (fl Y Z (X * Y * Z) p)).testBit i = (decide (i < X * Y * Z) && p i) := by
  rw [setOf_bit, Bool.eq_iff_iff]
  simp only [List.any_eq_true, decide_eq_true_eq, Bool.and_eq_true, fl, List.mem_map, List.mem_filter, List.mem_range]
  constructor
  · rintro ⟨c, ⟨j, ⟨hj, hp⟩, rfl⟩, rfl⟩
    rw [idx_cellOf hY hZ]
    exact ⟨hj, hp⟩
  · rintro ⟨hi, hp⟩
    exact ⟨_, ⟨i, ⟨hi, hp⟩, rfl⟩, idx_cellOf hY hZ i⟩
theorem fl_mem {X Y Z : Nat} {p : Nat → Bool} {c : A3} (hY : 1 ≤ Y) (hZ : 1 ≤ Z) (h : c ∈ fl Y Z (X * Y * Z) p) : has3 (X : Int) (Y : Int) (Z : Int) c.x c.y c.z = true ∧ p (idxN Y Z c) = true := by
  unfold fl at h
  simp only [List.mem_map, List.mem_filter, List.mem_range] at h
  obtain ⟨i, ⟨hi, hp⟩, rfl⟩ := h
  exact ⟨cellOf_has hY hZ hi, by rw [idx_cellOf hY hZ]; exact hp⟩
theorem setOf_fl_lt {X Y Z : Nat} (hY : 1 ≤ Y) (hZ : 1 ≤ Z) (h : X * Y * Z ≤ 64) (p : Nat → Bool) : setOf Y Z (fl Y Z (X * Y * Z) p) < 18446744073709551616 :=
  setOf_lt fun c hc => Nat.lt_of_lt_of_le (idx_lt (fl_mem hY hZ hc).1) h
theorem take_lt {X Y Z : Nat} (hY : 1 ≤ Y) (hZ : 1 ≤ Z) (h : X * Y * Z ≤ 64) (p : Nat → Bool) (k : Nat) : setOf Y Z ((fl Y Z (X * Y * Z) p).take k) < 18446744073709551616 :=
  setOf_lt fun c hc => Nat.lt_of_lt_of_le (idx_lt (fl_mem hY hZ (List.mem_of_mem_take hc)).1) h
theorem listOf_setOf {X Y Z : Nat} (hY : 1 ≤ Y) (hZ : 1 ≤ Z) (p : Nat → Bool) : listOf X Y Z (setOf Y Z (fl Y Z (X * Y * Z) p)) = fl Y Z (X * Y * Z) p := by
  rw [listOf_fl]
  exact fl_congr fun i hi => by rw [setOf_fl hY hZ]; simp [hi]
/-- a list in order with the same cells is the same list -/
theorem sorted_fl {X Y Z : Nat} {L : List A3} {p : Nat → Bool} (hY : 1 ≤ Y) (hZ : 1 ≤ Z) (hL : (L.map (idxN Y Z)).Pairwise (· < ·)) (hin : ∀ c ∈ L, has3 (X : Int) (Y : Int) (Z : Int) c.x c.y c.z = true) (hp : ∀ c, has3 (X : Int) (Y : Int) (Z : Int) c.x c.y c.z = true → (c ∈ L ↔ p (idxN Y Z c) = true)) :
    L = fl Y Z (X * Y * Z) p := by
  have h1 : L.map (idxN Y Z) = (List.range (X * Y * Z)).filter p := by
    refine sorted_ext hL (sorted_filter p) fun i => ?_
    simp only [List.mem_map, List.mem_filter, List.mem_range]
    constructor
    · rintro ⟨c, hc, rfl⟩
      exact ⟨idx_lt (hin c hc), (hp c (hin c hc)).1 hc⟩
    · rintro ⟨hi, hpi⟩
      exact ⟨cellOf Y Z i, (hp _ (cellOf_has hY hZ hi)).2 (by rw [idx_cellOf hY hZ]; exact hpi), idx_cellOf hY hZ i⟩
  unfold fl
  rw [← h1, List.map_map]
  conv => lhs; rw [← List.map_id L]
  exact List.map_congr_left fun c hc => (cellOf_idx (hin c hc)).symm

/-- 1 moved to the left -/
theorem shl1 (n : Nat) (h : n < 64) : IntKind.u64.wrap (1 * 2 ^ (min (((n : Nat) : Int).toNat) (IntKind.u64.bits))) = ((2 ^ n : Nat) : Int) := by
  rw [shlU n (by omega)]
  have : 2 ^ n < 18446744073709551616 := by
    have := Nat.pow_lt_pow_right (a := 2) (by decide) h
    simpa using this
  rw [Nat.mod_eq_of_lt this]
theorem pow_lt64 {n : Nat} (h : n < 64) : 2 ^ n < 18446744073709551616 := by
  have := Nat.pow_lt_pow_right (a := 2) (by decide) h
  simpa using this

/-- is a triple of numbers in a list? -/
def hasL (L : List A3) (a b c : Int) : Bool := L.any fun d => (d.x == a) && ((d.y == b) && ((d.z == c) && true))
theorem hasL_mem (L : List A3) (a b c : Int) : hasL L a b c = decide ((⟨a, b, c⟩ : A3) ∈ L) := by
  unfold hasL
  rw [Bool.eq_iff_iff]
  simp only [List.any_eq_true, Bool.and_eq_true, beq_iff_eq, Bool.and_true, decide_eq_true_eq]
  constructor
  · rintro ⟨d, hd, h1, h2, h3⟩
    obtain ⟨x, y, z⟩ := d
    simp only at h1 h2 h3
    subst h1 h2 h3
    exact hd
  · intro h
    exact ⟨_, h, rfl, rfl, rfl⟩
theorem hasL_fl {X Y Z : Nat} {p : Nat → Bool} {a b c : Int} (hY : 1 ≤ Y) (hZ : 1 ≤ Z) (hc : has3 (X : Int) (Y : Int) (Z : Int) a b c = true) : hasL (fl Y Z (X * Y * Z) p) a b c = p (idxN Y Z ⟨a, b, c⟩) := by
  rw [hasL_mem, Bool.eq_iff_iff, decide_eq_true_eq]
  exact mem_fl (c := ⟨a, b, c⟩) hY hZ hc
def hasTo (L : List A3) (a b c : Int) (n : Nat) : Bool := hasL (L.take n) a b c
theorem hasTo_succ {L : List A3} {n : Nat} (h : n < L.length) (a b c : Int) : hasTo L a b c (n + 1) = (hasTo L a b c n || (((L.getD n default).x == a) && (((L.getD n default).y == b) && (((L.getD n default).z == c) && true)))) := by
  unfold hasTo hasL
  rw [List.take_succ_eq_append_getElem h, List.any_append, List.getD_eq_getElem?_getD, List.getElem?_eq_getElem h]
  simp
theorem hasTo_all (L : List A3) (a b c : Int) : hasTo L a b c L.length = hasL L a b c := by simp [hasTo]
theorem hasL_of {L : List A3} {n : Nat} (h : n < L.length) {a b c : Int} (he : (((L.getD n default).x == a) && (((L.getD n default).y == b) && (((L.getD n default).z == c) && true))) = true) : hasL L a b c = true := by
  unfold hasL
  rw [List.any_eq_true]
  refine ⟨L[n], List.getElem_mem h, ?_⟩
  rw [List.getD_eq_getElem?_getD, List.getElem?_eq_getElem h] at he
  exact he
end Go.Am
namespace Go.Am
theorem getD_mem {L : List A3} {i : Nat} (h : i < L.length) : L.getD i default ∈ L := by
  rw [List.getD_eq_getElem?_getD, List.getElem?_eq_getElem h]
  exact List.getElem_mem h
theorem fl_has {X Y Z : Nat} {p : Nat → Bool} {i : Nat} (hY : 1 ≤ Y) (hZ : 1 ≤ Z) (h : i < (fl Y Z (X * Y * Z) p).length) : has3 (X : Int) (Y : Int) (Z : Int) ((fl Y Z (X * Y * Z) p).getD i default).x ((fl Y Z (X * Y * Z) p).getD i default).y ((fl Y Z (X * Y * Z) p).getD i default).z = true :=
  (fl_mem hY hZ (getD_mem h)).1
end Go.Am
namespace Go.Am
theorem heap_bounds {x y z : Int} {L : List A3} (h : isHeapB x y z L = true) : (1 ≤ x ∧ x ≤ 4) ∧ (1 ≤ y ∧ y ≤ 4) ∧ (1 ≤ z ∧ z ≤ 4) := by
  unfold isHeapB at h
  rw [Bool.and_eq_true] at h
  exact valid_bounds h.1
/-- a valid heap, with natural numbers for its sides and its cells told by a test -/
theorem heap_cases {x y z : Int} {L : List A3} (h : isHeapB x y z L = true) : ∃ (X Y Z : Nat) (p : Nat → Bool), x = (X : Int) ∧ y = (Y : Int) ∧ z = (Z : Int) ∧ 1 ≤ X ∧ X ≤ 4 ∧ 1 ≤ Y ∧ Y ≤ 4 ∧ 1 ≤ Z ∧ Z ≤ 4 ∧ L = fl Y Z (X * Y * Z) p := by
  unfold isHeapB at h
  rw [Bool.and_eq_true] at h
  obtain ⟨X, Y, Z, rfl, rfl, rfl, h1, h2, h3, h4, h5, h6⟩ := nat_valid h.1
  obtain ⟨p, hp⟩ := heap_nums h.2
  exact ⟨X, Y, Z, p, rfl, rfl, rfl, h1, h2, h3, h4, h5, h6, hp⟩
end Go.Am
namespace Go.Am
theorem Sound.val {P : Program} {f : FuncId} {args : List Value} {H H' : Heap} {v v' : Value} (h : Sound P f args H v H') (e : v = v') : Sound P f args H v' H' := e ▸ h
theorem Quiet.val {P : Program} {f : FuncId} {args : List Value} {H : Heap} {v v' : Value} (h : Quiet P f args H v) (e : v = v') : Quiet P f args H v' := e ▸ h
end Go.Am
