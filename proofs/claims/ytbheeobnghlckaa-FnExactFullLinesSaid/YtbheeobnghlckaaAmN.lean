/- The sums behind the walks over heaps. No condition. -/
import Derived.Test.YtbheeobnghlckaaAmM
set_option linter.unusedVariables false
set_option linter.unusedSimpArgs false
namespace Go.Am
open Go.RowKit

theorem splice_drop {l x : List Value} : splice l 0 x = x ++ l.drop x.length := by simp [splice]
theorem a3s_set : ∀ (l : List A3) (j : Nat) (c : A3), j < l.length → splice (a3s l) (j * 3) c.cs = a3s (l.set j c)
  | [], j, c, h => by simp at h
  | d :: l, 0, c, h => by simp [splice, a3s, A3.cs]
  | d :: l, j + 1, c, h => by
    have ih := a3s_set l j c (by simpa using h)
    have e : (j + 1) * 3 = (j * 3) + 1 + 1 + 1 := by omega
    have e2 : a3s (d :: l) = .int .i64 d.x :: .int .i64 d.y :: .int .i64 d.z :: a3s l := rfl
    rw [e, e2, splice_cons, splice_cons, splice_cons, ih]
    rfl
def zero3 : A3 := ⟨0, 0, 0⟩
theorem reps_zero3 (n : Nat) : reps n zero3.cs = a3s (List.replicate n zero3) := by
  unfold reps a3s
  rw [List.flatMap_def, List.map_replicate]

section
variable {P : Program} {C : Ctx P} {T : Tm} {H : Heap} {t u : TypeId} {x y : Operand}
theorem eStA3 {H' : Heap} {b o : Nat} {L : List A3} {c : A3} {e : TypeId} {bx : Bool} {j : Nat} {ti : TI} (hx : evalO T x = some (.pointer (some ⟨b, o, none⟩))) (hy : evalO T y = some (.agg #[.int .i64 c.x, .int .i64 c.y, .int .i64 c.z])) (hr : row? H b = some ⟨a3s L, e, bx, true⟩) (ho : o = j * 3)
    (hj : j < L.length) (ht : tiOf P t = some ti) (hsz : ti.size = 3) (hH : H.set b (some ⟨a3s (L.set j c), e, bx, true⟩) = H') : evOp C T H (.store t x y) = some (undef, H') := by
  simp only [evOp, hx, hy, opStore, hr, ht]
  have hc : (Value.agg #[.int .i64 c.x, .int .i64 c.y, .int .i64 c.z]).cells.toList = c.cs := rfl
  rw [hc, if_pos ⟨trivial, by simp [hsz, A3.cs], by rw [a3s_length, hsz]; omega, rfl⟩]
  rw [← hH, ho, a3s_set L j c hj]
  rfl
theorem eMkA3 {n : Nat} {e : TypeId} {s1 s2 : Nat} {z : Value} {te : TI} {k k2 : IntKind} (hx : evalO T x = some (.int k (n : Int))) (hy : evalO T y = some (.int k2 (n : Int))) (ht : tiOf P t = some ⟨.slice e, s1, s2, z⟩) (he : tiOf P e = some te) (hz : te.zero.cells.toList = zero3.cs) (hsz : te.size = 3) (hby : te.bytes ≤ 1024)
    (hn : n ≤ 1048576) : evOp C T H (.makeSlice t x y) = some (.slice (some ⟨H.length, 0, none⟩) n 0, H ++ [some ⟨a3s (List.replicate n zero3), e, false, true⟩]) := by
  simp only [evOp, hx, hy, opMake, ht, he, hz, reps_zero3, Int.toNat_natCast]
  have hb : (te.bytes : Int) * (n : Int) ≤ 140737488355328 := by
    have : te.bytes * n ≤ 1024 * 1048576 := Nat.mul_le_mul hby hn
    have h2 : (te.bytes : Int) * (n : Int) = ((te.bytes * n : Nat) : Int) := by push_cast; rfl
    rw [h2]
    omega
  rw [if_pos ⟨trivial, by omega, hb, by omega, by rw [hsz]; rfl, rfl⟩]
end

/-! ### copies -/
def copied (L : List A3) (j : Nat) : List A3 := L.take j ++ List.replicate (L.length - j) zero3
theorem copied_length (L : List A3) (j : Nat) (h : j ≤ L.length) : (copied L j).length = L.length := by
  simp [copied]; omega
theorem copied_set (L : List A3) (j : Nat) (h : j < L.length) : (copied L j).set j (L.getD j default) = copied L (j + 1) := by
  unfold copied
  have e : L.length - j = (L.length - (j + 1)) + 1 := by omega
  rw [e, List.replicate_succ, List.set_append_right _ _ (by simp; omega)]
  have e2 : j - (L.take j).length = 0 := by simp; omega
  rw [e2, List.set_cons_zero, List.take_succ_eq_append_getElem h, List.append_assoc, List.singleton_append, List.getD_eq_getElem?_getD, List.getElem?_eq_getElem h]
  rfl
theorem copied_all (L : List A3) : copied L L.length = L := by simp [copied]

/-! ### order -/
def cmpI (a b : Int) : Int := if a < b then -1 else if b < a then 1 else 0
def lexC (a b c x y z : Int) : Int := if cmpI a x ≠ 0 then cmpI a x else if cmpI b y ≠ 0 then cmpI b y else cmpI c z
def lexB (a b c x y z : Int) : Bool := decide (a < x ∨ (a = x ∧ (b < y ∨ (b = y ∧ c < z))))
theorem lexC_neg (a b c x y z : Int) : (decide (lexC a b c x y z ≥ 0)) = !lexB a b c x y z := by
  unfold lexC lexB cmpI
  rw [Bool.eq_iff_iff]
  simp only [decide_eq_true_eq, Bool.not_eq_true', decide_eq_false_iff_not]
  repeat' split
  all_goals omega
def lex3 (p q : A3) : Bool := lexB p.x p.y p.z q.x q.y q.z
def cellOK (x y z : Int) (L : List A3) (k : Nat) : Bool := has3 x y z (L.getD k default).x (L.getD k default).y (L.getD k default).z && (decide (k = 0) || lex3 (L.getD (k - 1) default) (L.getD k default))
def okTo (x y z : Int) (L : List A3) (n : Nat) : Bool := (List.range n).all (cellOK x y z L)
def isHeapB (x y z : Int) (L : List A3) : Bool := valid3 x y z && okTo x y z L L.length
theorem okTo_succ (x y z : Int) (L : List A3) (n : Nat) : okTo x y z L (n + 1) = (okTo x y z L n && cellOK x y z L n) := by
  simp [okTo, List.range_succ]
theorem okTo_false {x y z : Int} {L : List A3} {n : Nat} (h : n < L.length) (hc : cellOK x y z L n = false) : okTo x y z L L.length = false := by
  unfold okTo
  rw [List.all_eq_false]
  exact ⟨n, List.mem_range.2 h, by simp [hc]⟩
end Go.Am
namespace Go.Am
theorem valid_bounds {x y z : Int} (h : valid3 x y z = true) : (1 ≤ x ∧ x ≤ 4) ∧ (1 ≤ y ∧ y ≤ 4) ∧ (1 ≤ z ∧ z ≤ 4) := by
  simp only [valid3, inR, Bool.and_eq_true, decide_eq_true_eq] at h
  omega
section
open Go.RowKit
variable {P : Program} {C : Ctx P} {T : Tm} {H : Heap} {t u : TypeId} {x y : Operand} {b : Bool}
theorem eNeB (hx : evalO T x = some (.bool b)) (hy : evalO T y = some (.bool b)) (ht : isBoolTy P t = true) : evOp C T H (.binOp .neq t x y u) = some (.bool false, H) := by
  simp [evOp, hx, hy, evBin, ht]
end
theorem okTo_step {x y z : Int} {L : List A3} {i : Nat} (ho : okTo x y z L i = true) (h1 : has3 x y z (L.getD i default).x (L.getD i default).y (L.getD i default).z = true)
    (h2 : i = 0 ∨ lexB (L.getD (i - 1) default).x (L.getD (i - 1) default).y (L.getD (i - 1) default).z (L.getD i default).x (L.getD i default).y (L.getD i default).z = true) : okTo x y z L (i + 1) = true := by
  rw [okTo_succ, ho, cellOK, h1]
  rcases h2 with h | h
  · simp [h]
  · have h' : lex3 (L.getD (i - 1) default) (L.getD i default) = true := h
    rw [h']; simp
theorem notHeap1 {x y z : Int} {L : List A3} {i : Nat} (hi : i < L.length) (h1 : has3 x y z (L.getD i default).x (L.getD i default).y (L.getD i default).z = false) : false = isHeapB x y z L := by
  rw [isHeapB, okTo_false hi (by rw [cellOK, h1]; rfl), Bool.and_false]
theorem notHeap2 {x y z : Int} {L : List A3} {i : Nat} (hi : i < L.length) (h0 : i ≠ 0)
    (h2 : lexB (L.getD (i - 1) default).x (L.getD (i - 1) default).y (L.getD (i - 1) default).z (L.getD i default).x (L.getD i default).y (L.getD i default).z = false) : false = isHeapB x y z L := by
  rw [isHeapB, okTo_false hi (by rw [cellOK, lex3, h2]; simp [h0]), Bool.and_false]
theorem notHeap0 {x y z : Int} {L : List A3} (h : valid3 x y z = false) : false = isHeapB x y z L := by rw [isHeapB, h, Bool.false_and]
theorem heapYes {x y z : Int} {L : List A3} {i : Nat} (h : valid3 x y z = true) (ho : okTo x y z L i = true) (hi : i = L.length) : true = isHeapB x y z L := by
  subst hi
  rw [isHeapB, h, ho]; rfl
end Go.Am
