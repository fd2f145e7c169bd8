/- The frame of all our walks, part 18: single operations whose numbers are not given as digits; how calls end. No condition. -/
import Derived.Test.YtbheeobnghlckaaAm17
set_option linter.unusedVariables false
set_option linter.unusedSimpArgs false
namespace Go.Am
open Go.RowKit

/-! ### short names -/
abbrev vN (n : Nat) : Value := .int .i64 (n : Int)
abbrev vI (n : Int) : Value := .int .i64 n
abbrev vU (n : Nat) : Value := .int .u64 (n : Int)
abbrev vS (b n : Nat) : Value := .slice (some ⟨b, 0, none⟩) n 0
abbrev vP (b o : Nat) : Value := .pointer (some ⟨b, o, none⟩)
abbrev rB (cs : List Value) (e : TypeId) : Option Row := some ⟨cs, e, true, true⟩

/-! ### whole numbers -/
theorem wr64 {n m : Int} (h1 : -9223372036854775808 ≤ n) (h2 : n ≤ 9223372036854775807) (h : n = m) : IntKind.i64.wrap n = m := by
  subst h
  have e : IntKind.i64.wrap n = if n % 18446744073709551616 ≥ 9223372036854775808 then n % 18446744073709551616 - 18446744073709551616 else n % 18446744073709551616 := by
    unfold IntKind.wrap
    simp [IntKind.signed, IntKind.bits]
  rw [e]
  split <;> omega
theorem wru64 {n m : Int} (h1 : 0 ≤ n) (h2 : n < 18446744073709551616) (h : n = m) : IntKind.u64.wrap n = m := by
  subst h
  have e : IntKind.u64.wrap n = n % 18446744073709551616 := by
    unfold IntKind.wrap
    simp [IntKind.signed, IntKind.bits]
  rw [e]
  omega

section
variable {P : Program} {C : Ctx P} {T : Tm} {H : Heap} {t u : TypeId} {x y : Operand} {k : IntKind} {a b c : Int}
theorem eAdd (hx : evalO T x = some (.int k a)) (hy : evalO T y = some (.int k b)) (h : k.wrap (a + b) = c) : evOp C T H (.binOp .add t x y u) = some (.int k c, H) := by
  simp [evOp, hx, hy, evBin, evInt, h]
theorem eSub (hx : evalO T x = some (.int k a)) (hy : evalO T y = some (.int k b)) (h : k.wrap (a - b) = c) : evOp C T H (.binOp .sub t x y u) = some (.int k c, H) := by
  simp [evOp, hx, hy, evBin, evInt, h]
theorem eMul (hx : evalO T x = some (.int k a)) (hy : evalO T y = some (.int k b)) (h : k.wrap (a * b) = c) : evOp C T H (.binOp .mul t x y u) = some (.int k c, H) := by
  simp [evOp, hx, hy, evBin, evInt, h]
theorem eQuo (hx : evalO T x = some (.int k a)) (hy : evalO T y = some (.int k b)) (hb : b ≠ 0) (h : k.wrap (a.tdiv b) = c) : evOp C T H (.binOp .quo t x y u) = some (.int k c, H) := by
  simp [evOp, hx, hy, evBin, evInt, h, hb]
theorem eRem (hx : evalO T x = some (.int k a)) (hy : evalO T y = some (.int k b)) (hb : b ≠ 0) (h : a.tmod b = c) : evOp C T H (.binOp .rem t x y u) = some (.int k c, H) := by
  simp [evOp, hx, hy, evBin, evInt, h, hb]
theorem eShl {k' : IntKind} (hx : evalO T x = some (.int k a)) (hy : evalO T y = some (.int k' b)) (hb : 0 ≤ b) (h : k.wrap (a * 2 ^ (min b.toNat k.bits)) = c) : evOp C T H (.binOp .shl t x y u) = some (.int k c, H) := by
  simp only [evOp, hx, hy, evBin]
  rw [if_neg (by omega), h]
  rfl
theorem eShr {k' : IntKind} (hx : evalO T x = some (.int k a)) (hy : evalO T y = some (.int k' b)) (hb : 0 ≤ b) (h : a.fdiv (2 ^ (min b.toNat k.bits)) = c) : evOp C T H (.binOp .shr t x y u) = some (.int k c, H) := by
  simp only [evOp, hx, hy, evBin]
  rw [if_neg (by omega), h]
  rfl
theorem eOp {bop : BinOp} (hx : evalO T x = some (.int k a)) (hy : evalO T y = some (.int k b)) {v : Value} (h1 : bop ≠ .shl ∧ bop ≠ .shr) (h : evInt bop k a b = some v) : evOp C T H (.binOp bop t x y u) = some (v, H) := by
  cases bop <;> simp_all [evOp, evBin]
theorem eConv {s d : TypeId} {ti : TI} {n1 n2 : Nat} {z : Value} (hs : tiOf P s = some ti) (hd : tiOf P d = some ⟨.int k, n1, n2, z⟩) {k' : IntKind} (hx : evalO T x = some (.int k' a)) (h : k.wrap a = c) : evOp C T H (.convert s d x) = some (.int k c, H) := by
  simp [evOp, hx, opConv, hs, hd, h]

/-! ### slices -/
theorem eIdxS {ad : Addr} {n m : Nat} {j : Nat} {e : TypeId} {s1 s2 : Nat} {z : Value} {te : TI} {o : Nat} (hx : evalO T x = some (.slice (some ad) n m)) (hi : evalO T y = some (.int k c)) (ht : tiOf P t = some ⟨.slice e, s1, s2, z⟩) (he : tiOf P e = some te)
    (hc : c = (j : Int)) (hj : j < n) (ho : ad.off + j * te.size = o) : evOp C T H (.indexAddr t x y) = some (.pointer (some ⟨ad.block, o, none⟩), H) := by
  subst hc
  simp only [evOp, hx, hi, opIdxAddr, ht, he]
  rw [if_pos (by omega)]
  simp [ho]
theorem eIdxA {ad : Addr} {n : Nat} {j : Nat} {e : TypeId} {s1 s2 : Nat} {z : Value} {te : TI} {o : Nat} (hx : evalO T x = some (.pointer (some ad))) (hi : evalO T y = some (.int k c)) (ht : tiOf P t = some ⟨.array n e, s1, s2, z⟩) (he : tiOf P e = some te)
    (hc : c = (j : Int)) (hj : j < n) (ho : ad.off + j * te.size = o) : evOp C T H (.indexAddr t x y) = some (.pointer (some ⟨ad.block, o, none⟩), H) := by
  subst hc
  simp only [evOp, hx, hi, opIdxAddr, ht, he]
  rw [if_pos (by omega)]
  simp [ho]
end

/-- three whole numbers -/
structure A3 where
  x : Int
  y : Int
  z : Int
  deriving DecidableEq, Inhabited
def A3.cs (c : A3) : List Value := [.int .i64 c.x, .int .i64 c.y, .int .i64 c.z]
def A3.v (c : A3) : Value := .agg #[.int .i64 c.x, .int .i64 c.y, .int .i64 c.z]
def a3s (l : List A3) : List Value := l.flatMap A3.cs
def nums (l : List Int) : List Value := l.map (Value.int .i64)

theorem a3s_length : ∀ l : List A3, (a3s l).length = l.length * 3
  | [] => rfl
  | c :: l => by have := a3s_length l; simp [a3s, A3.cs] at this ⊢; omega
theorem a3s_append (l m : List A3) : a3s (l ++ m) = a3s l ++ a3s m := by simp [a3s]
theorem a3s_at : ∀ (l : List A3) (j : Nat), j < l.length → ((a3s l).drop (j * 3)).take 3 = (l.getD j default).cs
  | [], j, h => by simp at h
  | c :: l, 0, h => by simp [a3s, A3.cs]
  | c :: l, j + 1, h => by
    have := a3s_at l j (by simpa using h)
    have e : (j + 1) * 3 = 3 + j * 3 := by omega
    rw [e, ← List.drop_drop]
    have e2 : (a3s (c :: l)).drop 3 = a3s l := by simp [a3s, A3.cs]
    rw [e2, this]
    simp
theorem a3s_cell (l : List A3) (j : Nat) (h : j < l.length) (i : Nat) (hi : i < 3) : (a3s l)[j * 3 + i]? = (l.getD j default).cs[i]? := by
  rw [← a3s_at l j h, List.getElem?_take_of_lt hi, List.getElem?_drop]
theorem a3s_all (l : List A3) : (a3s l).all flat = true := by
  rw [List.all_eq_true]
  intro v hv
  simp only [a3s, List.mem_flatMap, A3.cs, List.mem_cons, List.not_mem_nil, or_false] at hv
  obtain ⟨c, _, rfl | rfl | rfl⟩ := hv <;> rfl
theorem nums_all (l : List Int) : (nums l).all flat = true := by
  rw [List.all_eq_true]
  intro v hv
  simp only [nums, List.mem_map] at hv
  obtain ⟨c, _, rfl⟩ := hv
  rfl
theorem flatA3 (l : List A3) (e : TypeId) (b w : Bool) : FlatRow ⟨a3s l, e, b, w⟩ := flatRow_of (a3s_all l)
theorem flatNums (l : List Int) (e : TypeId) (b w : Bool) : FlatRow ⟨nums l, e, b, w⟩ := flatRow_of (nums_all l)

section
variable {P : Program} {C : Ctx P} {T : Tm} {H : Heap} {t u : TypeId} {x y : Operand}
theorem eLdA3 {ad : Addr} {r : Row} {L : List A3} {j : Nat} {n e : Nat} {s2 : Nat} {z : Value} (hx : evalO T x = some (.pointer (some ad))) (hr : row? H ad.block = some r) (hc : r.cells = a3s L) (ho : ad.off = j * 3) (hj : j < L.length)
    (ht : tiOf P t = some ⟨.array n e, 3, s2, z⟩) : evOp C T H (.load t x) = some ((L.getD j default).v, H) := by
  simp only [evOp, hx, Option.bind_some, opLoad, hr, ht, TK.isAgg, hc, ho, if_true]
  rw [if_pos (by rw [a3s_length]; omega), a3s_at L j hj]
  rfl
theorem eLdA3i {ad : Addr} {r : Row} {L : List A3} {j i : Nat} {ti : TI} {v : Value} (hx : evalO T x = some (.pointer (some ad))) (hr : row? H ad.block = some r) (hc : r.cells = a3s L) (ho : ad.off = j * 3 + i) (hj : j < L.length)
    (ht : tiOf P t = some ti) (hk : ti.kd.isAgg = false) (hv : (L.getD j default).cs[i]? = some v) : evOp C T H (.load t x) = some (v, H) := by
  have hi : i < 3 := by have := lt_of_some hv; simpa [A3.cs] using this
  have := a3s_cell L j hj i hi
  rw [hv] at this
  simp only [evOp, hx, Option.bind_some, opLoad, hr, ht, hk, hc, ho, this]
  rfl
theorem eLdNum {ad : Addr} {r : Row} {L : List Int} {j : Nat} {ti : TI} (hx : evalO T x = some (.pointer (some ad))) (hr : row? H ad.block = some r) (hc : r.cells = nums L) (ho : ad.off = j) (hj : j < L.length)
    (ht : tiOf P t = some ti) (hk : ti.kd.isAgg = false) : evOp C T H (.load t x) = some (.int .i64 (L.getD j 0), H) := by
  simp [evOp, hx, opLoad, hr, ht, hk, hc, ho, nums, List.getElem?_map, List.getElem?_eq_getElem hj, List.getD_eq_getElem?_getD]

theorem eAppA3 {H' : Heap} {b a : Nat} {L : List A3} {c : A3} {r : Row} {e : TypeId} {s1 s2 : Nat} {z : Value} {te : TI} {m : Nat} (hx : evalO T x = some (.slice (some ⟨b, 0, none⟩) L.length 0)) (hy : evalO T y = some (.slice (some ⟨a, 0, none⟩) 1 m))
    (ht : tiOf P t = some ⟨.slice e, s1, s2, z⟩) (he : tiOf P e = some te) (hsz : te.size = 3) (hz : te.zero.cells.toList.length = te.size) (hby : te.bytes ≤ 1024)
    (hb : row? H b = some ⟨a3s L, e, false, true⟩) (ha : row? H a = some r) (hc : r.cells = c.cs) (hL : L.length ≤ 1048576)
    (hH : H.set b none ++ [some ⟨a3s (L ++ [c]), e, false, true⟩] = H') :
    evOp C T H (.call ⟨.builtin .append, #[x, y], #[t, t]⟩) = some (.slice (some ⟨H.length, 0, none⟩) (L ++ [c]).length 0, H') := by
  have hl : r.cells.length = 3 := by rw [hc]; rfl
  have hrd : readS H te.size (.slice (some ⟨a, 0, none⟩) 1 m) = some c.cs := by
    simp only [readS, ha, hsz]
    rw [if_pos (by simp [hl]), hc]
    rfl
  simp only [evOp, hx, hy, if_true, opAppend, ht, he]
  rw [if_pos ⟨by omega, hz⟩]
  simp only [hb, hrd]
  have hbb : (L.length + 1) * te.bytes ≤ 140737488355328 := by
    have : (L.length + 1) * te.bytes ≤ 1048577 * 1024 := Nat.mul_le_mul (by omega) hby
    omega
  rw [if_pos ⟨trivial, trivial, trivial, trivial, by rw [a3s_length, hsz], hbb, by omega⟩]
  rw [← hH, a3s_append]
  simp [a3s]
end

/-! ### how calls end -/
section
variable {P : Program} {fn : Func} {n : Nat} {v : Value} {T : Tm} {H H' : Heap}
theorem endQ {e : Exit} (he : e = .normal ∨ e = .ret) {l : List Value} (E : Heap) (hres : resOf P T H fn.results.toList = some l) (hv : packR l = v) (hE : H = H' ++ E) (hn : (decide (n ≤ H'.length)) = true) (hc : Closed H') (hi : ((idsV v).all fun i => decide (i < H'.length)) = true) :
    Ends P fn n v H' e T H := by
  refine ⟨he, Or.inr ⟨l, E, hres, hv, hE, by simpa using hn, Or.inr hc, fun i h => ?_⟩⟩
  simp only [List.all_eq_true, decide_eq_true_eq] at hi
  exact hi i h
theorem renOK_flat (σ : List Nat) (h1 : σ.map (fun i => (H[i]?).join) = H') (h2 : (σ.take n == List.range n && decide σ.Nodup && decide (n ≤ σ.length)) = true) (h3 : FlatH H') : RenOK n H (fun i => σ.getD i 0) H' := by
  simp only [Bool.and_eq_true, beq_iff_eq, decide_eq_true_eq] at h2
  obtain ⟨⟨h2a, h2b⟩, h2c⟩ := h2
  have hlen : H'.length = σ.length := by rw [← h1]; simp
  have hat : ∀ (i : Nat) (r : Row), H'[i]? = some (some r) → ∃ s, σ[i]? = some s ∧ H[s]? = some (some r) := by
    intro i r hi
    rw [← h1, List.getElem?_map] at hi
    cases hs : σ[i]? with
    | none => rw [hs] at hi; cases hi
    | some s =>
      rw [hs] at hi
      simp only [Option.map_some, Option.some.injEq] at hi
      refine ⟨s, rfl, ?_⟩
      cases hh : H[s]? with
      | none => rw [hh] at hi; cases hi
      | some o => rw [hh] at hi; simp at hi; rw [hi]
  refine ⟨fun i hi => ?_, by omega, fun i r hi => ?_, fun i j r s hi hj hij => ?_, h3.closed⟩
  · have : (σ.take n)[i]? = some i := by rw [h2a, List.getElem?_range hi]
    rw [List.getElem?_take_of_lt hi] at this
    simp [List.getD_eq_getElem?_getD, this]
  · obtain ⟨s, hs, hr⟩ := hat i r hi
    rw [(h3 r (List.mem_of_getElem? hi)).ren]
    simpa [List.getD_eq_getElem?_getD, hs] using hr
  · obtain ⟨a, ha, _⟩ := hat i r hi
    obtain ⟨b, hb, _⟩ := hat j s hj
    simp only [List.getD_eq_getElem?_getD, ha, hb, Option.getD_some] at hij
    subst hij
    have h1 := lt_of_some ha
    have h2 := lt_of_some hb
    rw [List.getElem?_eq_getElem h1] at ha
    rw [List.getElem?_eq_getElem h2] at hb
    simp only [Option.some.injEq] at ha hb
    exact (List.getElem_inj h2b).1 (ha.trans hb.symm)
/-- a row under other numbers -/
def RR (H : Heap) (σ : Nat → Nat) (n i : Nat) (o : Option Row) : Prop := ∀ r, o = some r → H[σ i]? = some (some (renRow σ r)) ∧ ∀ v ∈ r.cells, ∀ k ∈ idsS v, k < n
def RRs (H : Heap) (σ : Nat → Nat) (n : Nat) : Nat → Heap → Prop
  | _, [] => True
  | i, o :: l => RR H σ n i o ∧ RRs H σ n (i + 1) l
theorem rrN {σ : Nat → Nat} {n i : Nat} : RR H σ n i none := fun r h => by cases h
theorem rrF {σ : Nat → Nat} {n i : Nat} {r : Row} (hf : FlatRow r) (h : H[σ i]? = some (some r)) : RR H σ n i (some r) := fun q hq => by
  simp only [Option.some.injEq] at hq
  subst hq
  exact ⟨by rw [hf.ren]; exact h, fun v hv k hk => by rw [(hf v hv).1] at hk; cases hk⟩
theorem rrX {σ : Nat → Nat} {n i : Nat} {r : Row} (h : H[σ i]? = some (some (renRow σ r))) (hb : (r.cells.all fun v => (idsS v).all fun k => decide (k < n)) = true) : RR H σ n i (some r) := fun q hq => by
  simp only [Option.some.injEq] at hq
  subst hq
  refine ⟨h, fun v hv k hk => ?_⟩
  simp only [List.all_eq_true, decide_eq_true_eq] at hb
  exact hb v hv k hk
theorem RRs.at {σ : Nat → Nat} {n : Nat} : ∀ {l : Heap} {i j : Nat} {r : Row}, RRs H σ n i l → l[j]? = some (some r) → H[σ (i + j)]? = some (some (renRow σ r)) ∧ ∀ v ∈ r.cells, ∀ k ∈ idsS v, k < n
  | [], i, j, r, _, h => by simp at h
  | o :: l, i, 0, r, h, hj => by simp at hj; exact h.1 r hj
  | o :: l, i, j + 1, r, h, hj => by
    have := RRs.at (i := i + 1) (j := j) h.2 (by simpa using hj)
    rw [show i + 1 + j = i + (j + 1) by omega] at this
    exact this
theorem renOK_rows (σ : List Nat) (hr : RRs H (fun i => σ.getD i 0) H'.length 0 H') (h2 : (σ.take n == List.range n && decide σ.Nodup && decide (n ≤ σ.length) && decide (σ.length = H'.length)) = true) : RenOK n H (fun i => σ.getD i 0) H' := by
  simp only [Bool.and_eq_true, beq_iff_eq, decide_eq_true_eq] at h2
  obtain ⟨⟨⟨h2a, h2b⟩, h2c⟩, hlen⟩ := h2
  refine ⟨fun i hi => ?_, by omega, fun i r hi => ?_, fun i j r s hi hj hij => ?_, fun i r hi => ?_⟩
  · have : (σ.take n)[i]? = some i := by rw [h2a, List.getElem?_range hi]
    rw [List.getElem?_take_of_lt hi] at this
    simp [List.getD_eq_getElem?_getD, this]
  · have := (hr.at hi).1
    rwa [Nat.zero_add] at this
  · have h1 : i < σ.length := by rw [hlen]; exact lt_of_some hi
    have h2 : j < σ.length := by rw [hlen]; exact lt_of_some hj
    simp only [List.getD_eq_getElem?_getD, List.getElem?_eq_getElem h1, List.getElem?_eq_getElem h2, Option.getD_some] at hij
    exact (List.getElem_inj h2b).1 hij
  · exact (hr.at hi).2
theorem closed_rows (hr : RRs H' id H'.length 0 H') : Closed H' := fun i r hi => (hr.at hi).2
/-- closed, row by row -/
def CLs (n : Nat) : Heap → Prop
  | [] => True
  | o :: l => (∀ r, o = some r → ∀ v ∈ r.cells, ∀ k ∈ idsS v, k < n) ∧ CLs n l
theorem clF {n : Nat} {r : Row} (hf : FlatRow r) : ∀ q, some r = some q → ∀ v ∈ q.cells, ∀ k ∈ idsS v, k < n := fun q hq v hv k hk => by
  simp only [Option.some.injEq] at hq
  subst hq
  rw [(hf v hv).1] at hk; cases hk
theorem clX {n : Nat} {r : Row} (hb : (r.cells.all fun v => (idsS v).all fun k => decide (k < n)) = true) : ∀ q, some r = some q → ∀ v ∈ q.cells, ∀ k ∈ idsS v, k < n := fun q hq v hv k hk => by
  simp only [Option.some.injEq] at hq
  subst hq
  simp only [List.all_eq_true, decide_eq_true_eq] at hb
  exact hb v hv k hk
theorem clN {n : Nat} : ∀ q, (none : Option Row) = some q → ∀ v ∈ q.cells, ∀ k ∈ idsS v, k < n := fun q hq => by cases hq
theorem CLs.at {n : Nat} : ∀ {l : Heap} {j : Nat} {r : Row}, CLs n l → l[j]? = some (some r) → ∀ v ∈ r.cells, ∀ k ∈ idsS v, k < n
  | [], j, r, _, h => by simp at h
  | o :: l, 0, r, h, hj => by simp at hj; exact h.1 r hj
  | o :: l, j + 1, r, h, hj => CLs.at h.2 (by simpa using hj)
theorem closedL (h : CLs H'.length H') : Closed H' := fun i r hi => h.at hi

theorem endF {e : Exit} (he : e = .normal ∨ e = .ret) {l : List Value} (σ : List Nat) (hres : resOf P T H fn.results.toList = some l) (hv : packR l = mpV (renId fun i => σ.getD i 0) v) (h1 : RRs H (fun i => σ.getD i 0) H'.length 0 H')
    (h2 : (σ.take n == List.range n && decide σ.Nodup && decide (n ≤ σ.length) && decide (σ.length = H'.length)) = true)
    (hi : ((idsV v).all fun i => decide (i < H'.length)) = true) : Ends P fn n v H' e T H := by
  refine ⟨he, Or.inl ⟨l, _, hres, hv, renOK_rows σ h1 h2, fun i h => ?_⟩⟩
  simp only [List.all_eq_true, decide_eq_true_eq] at hi
  exact hi i h
theorem wkRen {T' : Tm} (σ : List Nat) (ks : List Nat) (h1 : RRs H (fun i => σ.getD i 0) H'.length 0 H') (h2 : (σ.take n == List.range n && decide σ.Nodup && decide (n ≤ σ.length) && decide (σ.length = H'.length)) = true)
    (hT : (keepT ks T) = T'.map (Option.map (mpV (renId fun i => σ.getD i 0)))) (hi : idsLt H'.length T' = true) : WkAny n T H T' H' := by
  refine Or.inr (Or.inr ⟨_, renOK_rows σ h1 h2, ?_, fun t v hv => ⟨?_, idsLt_spec hi t v hv⟩⟩)
  · have := congrArg List.length hT
    rw [(sub_keep ks T).1, List.length_map] at this
    exact this.symm
  · refine (sub_keep ks T).2 t _ ?_
    rw [hT, List.getElem?_map, hv]
    rfl
end

/-! ### contracts of calls without rows -/
def fixA : Value → Bool
  | .agg cs => cs.toList.all flat
  | v => flat v
def fixV : Value → Bool
  | .tuple vs => vs.toList.all fixA
  | v => fixA v
theorem fix_flatA {v : Value} (h : flat v = true) : idsA v = [] ∧ ∀ m : Mp, mpA m v = v :=
  ⟨by rw [idsA_scal (scal_flat h), idsS_flat h], fun m => by rw [mapA_scal (scal_flat h), mpS_flat h]⟩
theorem fixA_spec {v : Value} (h : fixA v = true) : idsA v = [] ∧ ∀ m : Mp, mpA m v = v := by
  cases v with
  | agg cs =>
    simp only [fixA, List.all_eq_true] at h
    refine ⟨?_, fun m => ?_⟩
    · simp only [idsA, List.flatMap_eq_nil_iff]
      exact fun c hc => idsS_flat (h c hc)
    · simp only [mpA]
      congr 1
      conv => rhs; rw [← Array.map_id cs]
      exact Array.map_congr_left fun c hc => mpS_flat (h c (by simpa using hc))
  | _ => exact fix_flatA h
theorem fixV_spec {v : Value} (h : fixV v = true) : idsV v = [] ∧ ∀ m : Mp, mpV m v = v := by
  cases v with
  | tuple vs =>
    simp only [fixV, List.all_eq_true] at h
    refine ⟨?_, fun m => ?_⟩
    · simp only [idsV, List.flatMap_eq_nil_iff]
      exact fun c hc => (fixA_spec (h c hc)).1
    · simp only [mpV]
      congr 1
      conv => rhs; rw [← Array.map_id vs]
      exact Array.map_congr_left fun c hc => (fixA_spec (h c (by simpa using hc))).2 m
  | agg cs => exact fixA_spec (v := .agg cs) h
  | _ => exact ⟨idsV_flat h, fun m => mpV_flat h⟩

theorem emb_nil (H : Heap) (σ : Nat → Nat) : Emb [] H σ := ⟨fun i h => by simp at h, fun i r h => by simp at h, fun i j r s h => by simp at h⟩
/-- numbers in, numbers out -/
theorem Sound.flat {P : Program} {f : FuncId} {args : List Value} {v : Value} (hS : Sound P f args [] v []) (ha : (args.all fixV) = true) (hv : fixV v = true) (H : Heap) : Sound P f args H v H := by
  have ha' := List.all_eq_true.1 ha
  have h := Sound.emb (args := args) (v := v) (E := []) (H := H) (E0 := []) id hS (emb_nil H id) (fun i r h => by simp at h) (fun r h => by simp at h)
    (fun x hx i hi => by rw [(fixV_spec (ha' x hx)).1] at hi; cases hi)
    (by conv => lhs; rw [← List.map_id args]
        exact List.map_congr_left fun x hx => ((fixV_spec (ha' x hx)).2 _).symm)
    ((fixV_spec hv).2 _).symm (by simp)
  simpa using h

theorem Quiet.flat {P : Program} {f : FuncId} {args : List Value} {v : Value} {H : Heap} (hS : Sound P f args [] v []) (ha : (args.all fixV) = true) (hv : fixV v = true) : Quiet P f args H v := fun H0 _ _ _ _ => hS.flat ha hv H0

/-- numbers in, fresh rows without addresses out -/
theorem Sound.fresh {P : Program} {f : FuncId} {args : List Value} {v0 v : Value} {E : Heap} (hS : Sound P f args [] v0 E) (ha : (args.all fixV) = true) (hE : FlatH E) (hw : ∀ r, some r ∈ E → r.wr = true ∨ r.cells = []) (H : Heap)
    (hv : v = mpV (renId fun i => H.length + i) v0) : Sound P f args H v (H ++ E) := by
  have ha' := List.all_eq_true.1 ha
  have hsh : shift ([] : Heap).length H.length id = fun i => H.length + i := by funext i; simp [shift]
  refine Sound.emb (args0 := args) (v0 := v0) (E0 := E) (H0 := []) id (by simpa using hS) (emb_nil H id) (fun i r h => by simp at h) hw
    (fun x hx i hi => by rw [(fixV_spec (ha' x hx)).1] at hi; cases hi)
    (by conv => lhs; rw [← List.map_id args]
        exact List.map_congr_left fun x hx => ((fixV_spec (ha' x hx)).2 _).symm)
    (by rw [hsh]; exact hv) ?_
  conv => lhs; rw [← List.map_id E]
  refine List.map_congr_left fun o ho => ?_
  cases o with
  | none => rfl
  | some r => simp [(hE r ho).ren]

/-- rows are read -/
theorem Sound.reads {P : Program} {f : FuncId} {args0 args : List Value} {v0 v : Value} {H0 H : Heap} (σ : List Nat) (hS : Sound P f args0 H0 v0 H0) (hf : FlatH H0) (hlen : σ.length = H0.length)
    (hrow : ∀ (i : Nat) (r : Row), H0[i]? = some (some r) → r.wr = false ∧ ∃ b, H[σ.getD i 0]? = some (some { r with wr := b })) (hlt : (σ.all fun s => decide (s < H.length)) = true)
    (hi : (args0.all fun x => (idsV x).all fun i => decide (i < H0.length)) = true) (ha : args = args0.map (mpV (renId fun i => σ.getD i 0))) (hv0 : fixV v0 = true) (hv : v = v0) : Sound P f args H v H := by
  subst hv
  simp only [List.all_eq_true, decide_eq_true_eq] at hi hlt
  have h := Sound.emb (args := args) (v := v) (E := []) (H := H) (E0 := []) (fun i => σ.getD i 0) (by simpa using hS)
    ⟨fun i h => hlt _ (by rw [List.getD_eq_getElem?_getD, List.getElem?_eq_getElem (by omega)]; simp), fun i r h => by
      obtain ⟨h1, b, h2⟩ := hrow i r h
      exact ⟨b, (fun hw : r.wr = true => by rw [h1] at hw; cases hw), by rw [h2, (hf r (List.mem_of_getElem? h)).ren]⟩, fun i j r s hri _ hw => by rw [(hrow i r hri).1] at hw; cases hw⟩ hf.closed (fun r h => by simp at h)
    (fun x hx i hh => hi x hx i hh) ha ((fixV_spec hv0).2 _).symm (by simp)
  simpa using h

end Go.Am
