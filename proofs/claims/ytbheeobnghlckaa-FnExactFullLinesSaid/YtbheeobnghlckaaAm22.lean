/- The frame of all our walks, part 22: a call that changes one row; operations that change a row of triples. No condition. -/
import Derived.Test.YtbheeobnghlckaaAm21
set_option linter.unusedVariables false
set_option linter.unusedSimpArgs false
namespace Go.Am
open Go.RowKit

/-- a call that changes one row of numbers, laid into a bigger memory -/
theorem Sound.emb_set {P : Program} {f : FuncId} {args0 args : List Value} {r r' : Row} {H : Heap} {v : Value} (s : Nat) (hS : Sound P f args0 [some r] v [some r']) (hr0 : FlatRow r) (hw : r.wr = true) (hr' : FlatRow r') (hw' : r'.wr = true)
    (hs : H[s]? = some (some r)) (hi : (args0.all fun x => (idsV x).all fun i => decide (i < 1)) = true) (ha : args = args0.map (mpV (renId fun _ => s))) (hv : fixV v = true) : Sound P f args H v (H.set s (some r')) := by
  subst ha
  have hsl := lt_of_some hs
  simp only [List.all_eq_true, decide_eq_true_eq] at hi
  refine ⟨hS.can, fun ρ w hr hargs => ?_⟩
  have hrep0 : Rep P (fun _ => ρ s) [some r] w := by
    refine ⟨fun i q hq => ?_, fun i j q t hq ht _ _ hij => ?_, (FlatH.nil.cons hr0).closed⟩
    · cases i with
      | zero =>
        simp only [List.getElem?_cons_zero, Option.some.injEq] at hq
        subst hq
        obtain ⟨⟨cur, e, fz, h1, h2, h3, h4⟩, h5⟩ := hr.row s _ hs
        exact ⟨⟨cur, e, fz, h1, fun j v hv => by rw [h2 j v hv, mapS, mapS, (hr0 v (List.mem_of_getElem? hv)).2, (hr0 v (List.mem_of_getElem? hv)).2], h3, h4⟩, h5⟩
      | succ i => simp at hq
    · have := lt_of_some hq; have := lt_of_some ht; simp at *; omega
  have hargs0 : (args0.map (mpV (renId fun _ => s))).map (mapV ρ) = args0.map (mapV fun _ => ρ s) := by
    rw [List.map_map]
    exact List.map_congr_left fun x _ => mpV_ren ρ _ x
  rw [hargs0]
  refine (hS.run (fun _ => ρ s) w hrep0 (fun x hx i hh => by have := hi x hx i hh; simpa using this)).mono fun e w' hh => ?_
  obtain ⟨ρ0, rfl, ad, hvi⟩ := hh
  have hρ0 : ρ0 0 = ρ s := ad.agree 0 (by simp)
  have hset : ∀ (i : Nat) (q : Row), (H.set s (some r'))[i]? = some (some q) → (i = s ∧ q = r') ∨ (i ≠ s ∧ H[i]? = some (some q)) := by
    intro i q hq
    rcases Nat.decEq i s with hne | heq
    · rw [List.getElem?_set_ne (Ne.symm hne)] at hq; exact Or.inr ⟨hne, hq⟩
    · subst heq
      rw [List.getElem?_set_self hsl] at hq
      simp only [Option.some.injEq] at hq
      exact Or.inl ⟨rfl, hq.symm⟩
  have hnew : RepRow P ρ w' (ρ s) r' := by
    have := ad.rep.row 0 r' rfl
    rw [hρ0] at this
    obtain ⟨⟨cur, e, fz, h1, h2, h3, h4⟩, h5⟩ := this
    exact ⟨⟨cur, e, fz, h1, fun j v hv => by rw [h2 j v hv, mapS, mapS, (hr' v (List.mem_of_getElem? hv)).2, (hr' v (List.mem_of_getElem? hv)).2], h3, h4⟩, h5⟩
  refine ⟨ρ, by rw [mapV, mapV, (fixV_spec hv).2, (fixV_spec hv).2], ⟨fun _ _ => rfl, by simp, ⟨?_, ?_, ?_⟩, ad.os, ad.tape, ad.output, ad.size, ?_, ?_⟩, ?_⟩
  · intro i q hq
    rcases hset i q hq with ⟨rfl, rfl⟩ | ⟨hne, hq'⟩
    · exact hnew
    · have hR := hr.row i q hq'
      by_cases hb : (ρ s).blk = (ρ i).blk
      · have hqq : ¬ (q.wr = true ∨ q.cells ≠ []) := fun hqq => hr.sep s i r q hs hq' hw hqq (fun h => hne h.symm) hb
        have hnil : q.cells = [] := Classical.byContradiction fun hn => hqq (Or.inr hn)
        obtain ⟨⟨cur2, e2, fz2, hb2, _⟩, _⟩ := hnew
        obtain ⟨⟨cur, e, fz, hb1, hcu, hwr, hlen⟩, hsc⟩ := hR
        exact ⟨⟨cur2, e2, fz2, by rw [← hb]; exact hb2, (fun k v hv => by rw [hnil] at hv; simp at hv), (fun hw2 => absurd (Or.inl hw2) hqq), hlen⟩, hsc⟩
      · refine hR.world (ad.frame _ hR.lt fun j t hj ht hbb => hb ?_)
        cases j with
        | zero => exact hbb
        | succ j => simp at hj
  · intro i j q t hq ht hqw htw hij
    rcases hset i q hq with ⟨rfl, rfl⟩ | ⟨hne, hq'⟩
    · rcases hset j t ht with ⟨rfl, rfl⟩ | ⟨hne2, ht'⟩
      · exact absurd rfl hij
      · exact hr.sep i j r t hs ht' hw htw hij
    · rcases hset j t ht with ⟨rfl, rfl⟩ | ⟨hne2, ht'⟩
      · exact hr.sep i j q r hq' hs hqw (Or.inl hw) hij
      · exact hr.sep i j q t hq' ht' hqw htw hij
  · intro i q hq v hv k hk
    rw [List.length_set]
    rcases hset i q hq with ⟨rfl, rfl⟩ | ⟨hne, hq'⟩
    · rw [(hr' v hv).1] at hk; cases hk
    · exact hr.cl i q hq' v hv k hk
  · intro k hk hn
    refine ad.frame k hk fun j t hj ht => ?_
    cases j with
    | zero =>
      simp only [List.getElem?_cons_zero, Option.some.injEq] at hj
      subst hj
      exact hn s r hs hw
    | succ j => simp at hj
  · intro i q hq hqw
    rcases hset i q hq with ⟨rfl, rfl⟩ | ⟨hne, hq'⟩
    · exact Or.inr ⟨i, r, hs, hw, rfl⟩
    · exact Or.inr ⟨i, q, hq', hqw, rfl⟩
  · intro i hi'
    rw [(fixV_spec hv).1] at hi'
    cases hi'

/-! ### a triple's number changed -/
def A3.put (c : A3) (k : Nat) (n : Int) : A3 := match k with
  | 0 => { c with x := n }
  | 1 => { c with y := n }
  | _ => { c with z := n }
theorem A3.put_cs (c : A3) {k : Nat} (hk : k < 3) (n : Int) : (c.put k n).cs = c.cs.set k (.int .i64 n) := by
  match k, hk with
  | 0, _ => rfl
  | 1, _ => rfl
  | 2, _ => rfl
theorem splice_cons {a : Value} {l x : List Value} {o : Nat} : splice (a :: l) (o + 1) x = a :: splice l o x := by
  unfold splice
  simp [Nat.add_right_comm o 1 x.length]
theorem a3s_splice : ∀ (l : List A3) (j k : Nat) (n : Int), j < l.length → k < 3 → splice (a3s l) (j * 3 + k) [.int .i64 n] = a3s (l.set j ((l.getD j default).put k n))
  | [], j, k, n, h, _ => by simp at h
  | c :: l, 0, k, n, h, hk => by
    match k, hk with
    | 0, _ => simp [splice, a3s, A3.cs, A3.put]
    | 1, _ => simp [splice, a3s, A3.cs, A3.put]
    | 2, _ => simp [splice, a3s, A3.cs, A3.put]
  | c :: l, j + 1, k, n, h, hk => by
    have ih := a3s_splice l j k n (by simpa using h) hk
    have e : (j + 1) * 3 + k = (j * 3 + k) + 1 + 1 + 1 := by omega
    have e2 : a3s (c :: l) = .int .i64 c.x :: .int .i64 c.y :: .int .i64 c.z :: a3s l := rfl
    rw [e, e2, splice_cons, splice_cons, splice_cons, ih]
    rfl

section
variable {P : Program} {C : Ctx P} {T : Tm} {H : Heap} {t u : TypeId} {x y : Operand}
theorem eStA3i {H' : Heap} {b o : Nat} {L : List A3} {e : TypeId} {bx : Bool} {j k : Nat} {n : Int} {ti : TI} (hx : evalO T x = some (.pointer (some ⟨b, o, none⟩))) (hy : evalO T y = some (.int .i64 n)) (hr : row? H b = some ⟨a3s L, e, bx, true⟩) (ho : o = j * 3 + k)
    (hj : j < L.length) (hk : k < 3) (ht : tiOf P t = some ti) (hsz : ti.size = 1) (hH : H.set b (some ⟨a3s (L.set j ((L.getD j default).put k n)), e, bx, true⟩) = H') : evOp C T H (.store t x y) = some (undef, H') := by
  simp only [evOp, hx, hy, opStore, hr, ht]
  have hc : (Value.int .i64 n).cells.toList = [.int .i64 n] := rfl
  rw [hc, if_pos ⟨trivial, by simp [hsz], by rw [a3s_length, hsz]; omega, rfl⟩]
  rw [← hH, ho, a3s_splice L j k n hj hk]
  rfl
theorem eLdA3k {ad : Addr} {r : Row} {L : List A3} {j k : Nat} {ti : TI} {n : Int} (hx : evalO T x = some (.pointer (some ad))) (hr : row? H ad.block = some r) (hc : r.cells = a3s L) (ho : ad.off = j * 3 + k) (hj : j < L.length) (hk : k < 3)
    (ht : tiOf P t = some ti) (hg : ti.kd.isAgg = false) (hv : (L.getD j default).cs[k]? = some (.int .i64 n)) : evOp C T H (.load t x) = some (.int .i64 n, H) :=
  eLdA3i hx hr hc ho hj ht hg hv
end

/-! ### sums and parts of small numbers -/
theorem nMul {a b : Nat} (h : a * b ≤ 4611686018427387904) : IntKind.i64.wrap ((a : Int) * (b : Int)) = ((a * b : Nat) : Int) := by
  have e : (a : Int) * (b : Int) = ((a * b : Nat) : Int) := by push_cast; rfl
  rw [e]
  exact wr64 (by omega) (by omega) rfl
theorem nQuo {a b : Nat} (h : a ≤ 4611686018427387904) : IntKind.i64.wrap ((a : Int).tdiv (b : Int)) = ((a / b : Nat) : Int) := by
  rw [← Int.ofNat_tdiv]
  have h2 := Nat.div_le_self a b
  generalize a / b = q at h2 ⊢
  exact wr64 (by omega) (by omega) rfl
theorem nRem {a b : Nat} : (a : Int).tmod (b : Int) = ((a % b : Nat) : Int) := (Int.ofNat_tmod a b).symm

end Go.Am
