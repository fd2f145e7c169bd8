/- The sums behind the walks. No condition. -/
import Derived.Test.YtbheeobnghlckaaAm22
set_option linter.unusedVariables false
set_option linter.unusedSimpArgs false
namespace Go.Am
def inR (n lo hi : Int) : Bool := decide (lo ≤ n) && decide (n ≤ hi)
def valid3 (x y z : Int) : Bool := inR x 1 4 && inR y 1 4 && inR z 1 4
def has3 (x y z a b c : Int) : Bool := inR a 0 (x - 1) && inR b 0 (y - 1) && inR c 0 (z - 1)

/-- the cell with a number -/
def cellOf (Y Z i : Nat) : A3 := ⟨((i / Z / Y : Nat) : Int), ((i / Z % Y : Nat) : Int), ((i % Z : Nat) : Int)⟩
/-- the cells of a set among the first n -/
def upto (Y Z s n : Nat) : List A3 := ((List.range n).filter fun i => s.testBit i).map (cellOf Y Z)
def listOf (X Y Z s : Nat) : List A3 := upto Y Z s (X * Y * Z)

theorem upto_succ (Y Z s n : Nat) : upto Y Z s (n + 1) = if s.testBit n then upto Y Z s n ++ [cellOf Y Z n] else upto Y Z s n := by
  unfold upto
  rw [List.range_succ, List.filter_append]
  by_cases h : s.testBit n <;> simp [h]
theorem upto_length (Y Z s n : Nat) : (upto Y Z s n).length ≤ n := by
  unfold upto
  rw [List.length_map]
  have := List.length_filter_le (fun i => s.testBit i) (List.range n)
  simpa using this
theorem size_le {X Y Z : Nat} (hX : X ≤ 4) (hY : Y ≤ 4) (hZ : Z ≤ 4) : X * Y ≤ 16 ∧ X * Y * Z ≤ 64 := by
  have h1 : X * Y ≤ 4 * 4 := Nat.mul_le_mul hX hY
  exact ⟨h1, Nat.mul_le_mul h1 hZ⟩

/-- three numbers each, one behind the other -/
def mk3 (m n : Nat) : List A3 := (List.range n).map fun j => ⟨((m + 3 * j : Nat) : Int), ((m + 3 * j + 1 : Nat) : Int), ((m + 3 * j + 2 : Nat) : Int)⟩
theorem mk3_length (m n : Nat) : (mk3 m n).length = n := by simp [mk3]
theorem mk3_succ (m n : Nat) : mk3 m (n + 1) = mk3 m n ++ [⟨((m + 3 * n : Nat) : Int), ((m + 3 * n + 1 : Nat) : Int), ((m + 3 * n + 2 : Nat) : Int)⟩] := by
  simp [mk3, List.range_succ]
theorem mk3_at (m n j : Nat) (h : j < n) : (mk3 m n).getD j default = ⟨((m + 3 * j : Nat) : Int), ((m + 3 * j + 1 : Nat) : Int), ((m + 3 * j + 2 : Nat) : Int)⟩ := by
  simp [mk3, List.getD_eq_getElem?_getD, h]
theorem mk3_cell (m n j k : Nat) (h : j < n) (hk : k < 3) : ((mk3 m n).getD j default).cs[k]? = some (.int .i64 ((m + 3 * j + k : Nat) : Int)) := by
  rw [mk3_at m n j h]
  match k, hk with
  | 0, _ => rfl
  | 1, _ => rfl
  | 2, _ => rfl

/-- the first k numbers of a triple marked -/
def part3 (c : A3) (m k : Nat) : A3 := ⟨if 0 < k then (m : Int) else c.x, if 1 < k then ((m + 1 : Nat) : Int) else c.y, if 2 < k then ((m + 2 : Nat) : Int) else c.z⟩
def marked (L : List A3) (m j k : Nat) : List A3 := mk3 m j ++ part3 (L.getD j default) (m + 3 * j) k :: L.drop (j + 1)
theorem part3_zero (c : A3) (m : Nat) : part3 c m 0 = c := rfl
theorem part3_three (c : A3) (m : Nat) : part3 c m 3 = ⟨(m : Int), ((m + 1 : Nat) : Int), ((m + 2 : Nat) : Int)⟩ := rfl
theorem part3_put (c : A3) (m k : Nat) (hk : k < 3) : (part3 c m k).put k ((m + k : Nat) : Int) = part3 c m (k + 1) := by
  match k, hk with
  | 0, _ => rfl
  | 1, _ => rfl
  | 2, _ => rfl
theorem marked_start (L : List A3) (m j : Nat) (h : j < L.length) : mk3 m j ++ L.drop j = marked L m j 0 := by
  unfold marked
  rw [part3_zero, List.drop_eq_getElem_cons h, List.getD_eq_getElem?_getD, List.getElem?_eq_getElem h]
  rfl
theorem marked_end (L : List A3) (m j : Nat) : marked L m j 3 = mk3 m (j + 1) ++ L.drop (j + 1) := by
  unfold marked
  rw [part3_three, mk3_succ]
  simp
theorem marked_put (L : List A3) (m j k : Nat) (hk : k < 3) : (marked L m j k).set j (((marked L m j k).getD j default).put k ((m + 3 * j + k : Nat) : Int)) = marked L m j (k + 1) := by
  unfold marked
  have e : (mk3 m j ++ part3 (L.getD j default) (m + 3 * j) k :: L.drop (j + 1)).getD j default = part3 (L.getD j default) (m + 3 * j) k := by
    rw [List.getD_eq_getElem?_getD, List.getElem?_append_right (by simp [mk3_length])]
    simp [mk3_length]
  rw [e, part3_put _ _ _ hk, List.set_append_right _ _ (by simp [mk3_length])]
  simp [mk3_length]
theorem marked_length (L : List A3) (m j k : Nat) (h : j < L.length) : (marked L m j k).length = L.length := by
  simp [marked, mk3_length]
  omega
end Go.Am
namespace Go.Am
/-! ### sets by bits -/
theorem shrU (s i : Nat) (hi : i < 64) : ((s : Nat) : Int).fdiv (2 ^ (min (((i : Nat) : Int).toNat) (IntKind.u64.bits))) = ((s >>> i : Nat) : Int) := by
  have e1 : min (((i : Nat) : Int).toNat) (IntKind.u64.bits) = i := by simp [IntKind.bits]; omega
  have e2 : ((s : Nat) : Int).fdiv ((2 : Int) ^ i) = ((s / 2 ^ i : Nat) : Int) := by
    rw [Int.fdiv_eq_ediv_of_nonneg _ (Int.le_of_lt (Int.pow_pos (by decide)))]
    push_cast
    rfl
  rw [e1, e2, Nat.shiftRight_eq_div_pow]
theorem wrapU (n : Nat) : IntKind.u64.wrap (n : Int) = ((n % 18446744073709551616 : Nat) : Int) := by
  have e : IntKind.u64.wrap (n : Int) = (n : Int) % 18446744073709551616 := by
    unfold IntKind.wrap
    simp [IntKind.signed, IntKind.bits]
  rw [e]; rfl
theorem bvNat (n : Nat) (h : n < 18446744073709551616) : (BitVec.ofInt 64 (n : Int)).toNat = n := by
  rw [BitVec.ofInt_natCast, BitVec.toNat_ofNat]
  exact Nat.mod_eq_of_lt (by simpa using h)
theorem andU (a b : Nat) (ha : a < 18446744073709551616) (hb : b < 18446744073709551616) : evInt .and .u64 (a : Int) (b : Int) = some (.int .u64 ((a &&& b : Nat) : Int)) := by
  have e : (BitVec.ofInt IntKind.u64.bits (a : Int) &&& BitVec.ofInt IntKind.u64.bits (b : Int)).toNat = a &&& b := by
    show (BitVec.ofInt 64 (a : Int) &&& BitVec.ofInt 64 (b : Int)).toNat = a &&& b
    rw [BitVec.toNat_and, bvNat a ha, bvNat b hb]
  have hlt : a &&& b < 18446744073709551616 := Nat.lt_of_le_of_lt Nat.and_le_left ha
  unfold evInt
  simp only
  rw [e, wrapU, Nat.mod_eq_of_lt hlt]
theorem orU (a b : Nat) (ha : a < 18446744073709551616) (hb : b < 18446744073709551616) : evInt .or .u64 (a : Int) (b : Int) = some (.int .u64 ((a ||| b : Nat) : Int)) := by
  have e : (BitVec.ofInt IntKind.u64.bits (a : Int) ||| BitVec.ofInt IntKind.u64.bits (b : Int)).toNat = a ||| b := by
    show (BitVec.ofInt 64 (a : Int) ||| BitVec.ofInt 64 (b : Int)).toNat = a ||| b
    rw [BitVec.toNat_or, bvNat a ha, bvNat b hb]
  have hlt : a ||| b < 2 ^ 64 := Nat.or_lt_two_pow (by simpa using ha) (by simpa using hb)
  unfold evInt
  simp only
  rw [e, wrapU, Nat.mod_eq_of_lt (by simpa using hlt)]
theorem bit_eq (s i : Nat) : ((((s >>> i &&& 1 : Nat) : Int)) == 1) = s.testBit i := by
  have h : s.testBit i = decide (s >>> i % 2 = 1) := by rw [Nat.testBit_eq_decide_div_mod_eq, Nat.shiftRight_eq_div_pow]
  rw [h, Nat.and_one_is_mod]
  rcases Nat.mod_two_eq_zero_or_one (s >>> i) with h | h <;> rw [h] <;> rfl
theorem shr_le (s i : Nat) (h : s < 18446744073709551616) : s >>> i < 18446744073709551616 := by
  rw [Nat.shiftRight_eq_div_pow]
  exact Nat.lt_of_le_of_lt (Nat.div_le_self _ _) h
end Go.Am
namespace Go.Am
theorem shlU (n : Nat) (h : n ≤ 64) : IntKind.u64.wrap (1 * 2 ^ (min (((n : Nat) : Int).toNat) (IntKind.u64.bits))) = ((2 ^ n % 18446744073709551616 : Nat) : Int) := by
  have e1 : min (((n : Nat) : Int).toNat) (IntKind.u64.bits) = n := by simp [IntKind.bits]; omega
  rw [e1, Int.one_mul]
  have e2 : (2 : Int) ^ n = ((2 ^ n : Nat) : Int) := by push_cast; rfl
  rw [e2, wrapU]
theorem pow_le64 {n : Nat} (h : n ≤ 64) : 2 ^ n ≤ 18446744073709551616 := by
  have := Nat.pow_le_pow_right (n := 2) (by decide) h
  simpa using this
theorem full_lt {n : Nat} (h : n ≤ 64) : 2 ^ n - 1 < 18446744073709551616 := by
  have := pow_le64 h
  omega
theorem subU (n : Nat) (h : n ≤ 64) : IntKind.u64.wrap (((2 ^ n % 18446744073709551616 : Nat) : Int) - 1) = ((2 ^ n - 1 : Nat) : Int) := by
  rcases Nat.lt_or_ge n 64 with hlt | hge
  · have h1 : 2 ^ n < 18446744073709551616 := by
      have := Nat.pow_lt_pow_right (a := 2) (by decide) hlt
      simpa using this
    have h2 : 0 < 2 ^ n := Nat.pow_pos (by decide)
    rw [Nat.mod_eq_of_lt h1]
    generalize 2 ^ n = q at h1 h2 ⊢
    exact wru64 (by omega) (by omega) (by omega)
  · have : n = 64 := by omega
    subst this
    have e : IntKind.u64.wrap (-1) = 18446744073709551615 := by decide
    simpa using e
def allOf (X Y Z : Nat) : List A3 := (List.range (X * Y * Z)).map (cellOf Y Z)
theorem listOf_full (X Y Z : Nat) : listOf X Y Z (2 ^ (X * Y * Z) - 1) = allOf X Y Z := by
  unfold listOf upto allOf
  congr 1
  rw [List.filter_eq_self]
  intro i hi
  have hlt := List.mem_range.1 hi
  rw [Nat.testBit_two_pow_sub_one]
  simpa using hlt
theorem listOf_zero (X Y Z : Nat) : listOf X Y Z 0 = [] := by
  unfold listOf upto
  simp
theorem allOf_length (X Y Z : Nat) : (allOf X Y Z).length = X * Y * Z := by simp [allOf]
def allUpto (Y Z n : Nat) : List A3 := (List.range n).map (cellOf Y Z)
theorem allUpto_succ (Y Z n : Nat) : allUpto Y Z (n + 1) = allUpto Y Z n ++ [cellOf Y Z n] := by simp [allUpto, List.range_succ]
theorem cellOf_at {Y Z x y z : Nat} (hy : y < Y) (hz : z < Z) : cellOf Y Z ((x * Y + y) * Z + z) = ⟨(x : Int), (y : Int), (z : Int)⟩ := by
  have h1 : ((x * Y + y) * Z + z) / Z = x * Y + y := by
    rw [Nat.mul_comm, Nat.mul_add_div (by omega), Nat.div_eq_of_lt hz, Nat.add_zero]
  have h2 : ((x * Y + y) * Z + z) % Z = z := by
    rw [Nat.mul_comm, Nat.mul_add_mod, Nat.mod_eq_of_lt hz]
  have h3 : (x * Y + y) / Y = x := by
    rw [Nat.mul_comm, Nat.mul_add_div (by omega), Nat.div_eq_of_lt hy, Nat.add_zero]
  have h4 : (x * Y + y) % Y = y := by
    rw [Nat.mul_comm, Nat.mul_add_mod, Nat.mod_eq_of_lt hy]
  unfold cellOf
  rw [h1, h2, h3, h4]

section
open Go.RowKit
variable {P : Program} {C : Ctx P} {T : Tm} {H : Heap} {t u : TypeId} {x y : Operand} {k : IntKind} {a : Int}
theorem eNeS (hx : evalO T x = some (.int k a)) (hy : evalO T y = some (.int k a)) : evOp C T H (.binOp .neq t x y u) = some (.bool false, H) := by
  simp [evOp, hx, hy, evBin, evInt]
theorem eEqS (hx : evalO T x = some (.int k a)) (hy : evalO T y = some (.int k a)) : evOp C T H (.binOp .eql t x y u) = some (.bool true, H) := by
  simp [evOp, hx, hy, evBin, evInt]

/-- one row is read -/
theorem Sound.reads1 {f : FuncId} {args0 args : List Value} {v : Value} {r : Row} (s : Nat) (b : Bool) (hS : Sound P f args0 [some r] v [some r]) (hf : FlatRow r) (hw : r.wr = false) (hs : H[s]? = some (some { r with wr := b }))
    (hi : (args0.all fun x => (idsV x).all fun i => decide (i < 1)) = true) (ha : args = args0.map (mpV (renId fun i => [s].getD i 0))) (hv : fixV v = true) : Sound P f args H v H := by
  refine Sound.reads [s] hS (FlatH.nil.cons hf) rfl (fun i q hq => ?_) (by simpa using lt_of_some hs) hi ha hv rfl
  cases i with
  | zero => simp at hq; subst hq; exact ⟨hw, b, hs⟩
  | succ i => simp at hq
/-- two rows are read -/
theorem Sound.reads2 {f : FuncId} {args0 args : List Value} {v : Value} {r r2 : Row} (s s2 : Nat) (b b2 : Bool) (hS : Sound P f args0 [some r, some r2] v [some r, some r2]) (hf : FlatRow r) (hf2 : FlatRow r2) (hw : r.wr = false) (hw2 : r2.wr = false)
    (hs : H[s]? = some (some { r with wr := b })) (hs2 : H[s2]? = some (some { r2 with wr := b2 }))
    (hi : (args0.all fun x => (idsV x).all fun i => decide (i < 2)) = true) (ha : args = args0.map (mpV (renId fun i => [s, s2].getD i 0))) (hv : fixV v = true) : Sound P f args H v H := by
  refine Sound.reads [s, s2] hS ((FlatH.nil.cons hf2).cons hf) rfl (fun i q hq => ?_) (by have h1 := lt_of_some hs; have h2 := lt_of_some hs2; simp [h1, h2]) hi ha hv rfl
  match i, hq with
  | 0, hq => simp at hq; subst hq; exact ⟨hw, b, hs⟩
  | 1, hq => simp at hq; subst hq; exact ⟨hw2, b2, hs2⟩
  | i + 2, hq => simp at hq
theorem arg_lt {args0 args : List Value} {σ : Nat → Nat} {n k : Nat} (ha : args = args0.map (mpV (renId σ))) (h0 : (args0.any fun x => (idsV x).contains k) = true) (h : ∀ x ∈ args, ∀ i ∈ idsV x, i < n) : σ k < n := by
  rw [List.any_eq_true] at h0
  obtain ⟨x, hx, hk⟩ := h0
  refine h (mpV (renId σ) x) (by rw [ha]; exact List.mem_map_of_mem hx) _ ?_
  rw [idsV_ren]
  exact List.mem_map_of_mem (by simpa using hk)
theorem Quiet.reads1 {f : FuncId} {args0 args : List Value} {v : Value} {r : Row} (s : Nat) (b : Bool) (hS : Sound P f args0 [some r] v [some r]) (hf : FlatRow r) (hw : r.wr = false) (hs : H[s]? = some (some { r with wr := b }))
    (hi : (args0.all fun x => (idsV x).all fun i => decide (i < 1)) = true) (ha : args = args0.map (mpV (renId fun i => [s].getD i 0))) (hv : fixV v = true) (h0 : (args0.any fun x => (idsV x).contains 0) = true) : Quiet P f args H v := fun H0 E hE hcl hids => by
  have hlt : s < H0.length := arg_lt ha h0 hids
  exact Sound.reads1 s b hS hf hw (by rw [hE, List.getElem?_append_left hlt] at hs; exact hs) hi ha hv
theorem Quiet.reads2 {f : FuncId} {args0 args : List Value} {v : Value} {r r2 : Row} (s s2 : Nat) (b b2 : Bool) (hS : Sound P f args0 [some r, some r2] v [some r, some r2]) (hf : FlatRow r) (hf2 : FlatRow r2) (hw : r.wr = false) (hw2 : r2.wr = false)
    (hs : H[s]? = some (some { r with wr := b })) (hs2 : H[s2]? = some (some { r2 with wr := b2 }))
    (hi : (args0.all fun x => (idsV x).all fun i => decide (i < 2)) = true) (ha : args = args0.map (mpV (renId fun i => [s, s2].getD i 0))) (hv : fixV v = true) (h0 : (args0.any fun x => (idsV x).contains 0) = true) (h1 : (args0.any fun x => (idsV x).contains 1) = true) : Quiet P f args H v := fun H0 E hE hcl hids => by
  have hlt : s < H0.length := arg_lt ha h0 hids
  have hlt2 : s2 < H0.length := arg_lt ha h1 hids
  exact Sound.reads2 s s2 b b2 hS hf hf2 hw hw2 (by rw [hE, List.getElem?_append_left hlt] at hs; exact hs) (by rw [hE, List.getElem?_append_left hlt2] at hs2; exact hs2) hi ha hv
/-- one row is read, one fresh row comes out -/
theorem Sound.reads1F {f : FuncId} {args0 args : List Value} {v0 v : Value} {r r2 : Row} (s : Nat) (b : Bool) (hS : Sound P f args0 [some r] v0 [some r, some r2]) (hf : FlatRow r) (hf2 : FlatRow r2) (hw : r.wr = false) (hw2 : r2.wr = true) (hs : H[s]? = some (some { r with wr := b }))
    (hi : (args0.all fun x => (idsV x).all fun i => decide (i < 1)) = true) (ha : args = args0.map (mpV (renId fun _ => s))) (hv : v = mpV (renId (shift 1 H.length fun _ => s)) v0) : Sound P f args H v (H ++ [some r2]) := by
  simp only [List.all_eq_true, decide_eq_true_eq] at hi
  have hlt := lt_of_some hs
  refine Sound.emb (args0 := args0) (v0 := v0) (E0 := [some r2]) (H0 := [some r]) (fun _ => s) (by simpa using hS) ⟨fun i h => hlt, fun i q hq => ?_, fun i j q t hq ht hqw hij => ?_⟩ (FlatH.nil.cons hf).closed
    (fun q hq => by simp at hq; subst hq; exact Or.inl hw2) (fun x hx i hh => hi x hx i hh) ha hv (by simp [hf2.ren])
  · cases i with
    | zero => simp at hq; subst hq; exact ⟨b, (fun h => by rw [hw] at h; cases h), by rw [hs, hf.ren]⟩
    | succ i => simp at hq
  · have := lt_of_some hq; have := lt_of_some ht; simp at *; omega
end
end Go.Am
namespace Go.Am
theorem valid_nat {X Y Z : Nat} (hX0 : 1 ≤ X) (hX : X ≤ 4) (hY0 : 1 ≤ Y) (hY : Y ≤ 4) (hZ0 : 1 ≤ Z) (hZ : Z ≤ 4) : valid3 (X : Int) (Y : Int) (Z : Int) = true := by
  simp only [valid3, inR, Bool.and_eq_true, decide_eq_true_eq]
  omega
theorem nat_valid {x y z : Int} (h : valid3 x y z = true) : ∃ X Y Z : Nat, x = (X : Int) ∧ y = (Y : Int) ∧ z = (Z : Int) ∧ 1 ≤ X ∧ X ≤ 4 ∧ 1 ≤ Y ∧ Y ≤ 4 ∧ 1 ≤ Z ∧ Z ≤ 4 := by
  simp only [valid3, inR, Bool.and_eq_true, decide_eq_true_eq] at h
  exact ⟨x.toNat, y.toNat, z.toNat, by omega, by omega, by omega, by omega, by omega, by omega, by omega, by omega, by omega⟩
end Go.Am
