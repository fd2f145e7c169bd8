/- The frame of all our walks, part 13: a region whose order is open comes to what its text's order comes to. No condition. -/
import Derived.Test.YtbheeobnghlckaaAm12
set_option linter.unusedVariables false
set_option linter.unusedSimpArgs false
namespace Go.Am
open Go.RowKit

/-! ### an operation looks at its operands alone -/
theorem evalL_congr {T T' : Tm} : ∀ {xs : List Operand}, (∀ x ∈ xs, evalO T x = evalO T' x) → evalL T xs = evalL T' xs
  | [], _ => rfl
  | x :: r, h => by
    have ih := evalL_congr (T := T) (T' := T') (xs := r) fun y hy => h y (by simp [hy])
    simp only [evalL, h x (by simp), ih]
theorem evalParts_congr {T T' : Tm} : ∀ {xs : List (Nat × Operand)}, (∀ p ∈ xs, evalO T p.2 = evalO T' p.2) → evalParts T xs = evalParts T' xs
  | [], _ => rfl
  | (i, x) :: r, h => by
    have ih := evalParts_congr (T := T) (T' := T') (xs := r) fun y hy => h y (by simp [hy])
    simp only [evalParts, h (i, x) (by simp), ih]
theorem evalM_congr {T T' : Tm} {x : Option Operand} (h : ∀ y, x = some y → evalO T y = evalO T' y) : evalM T x = evalM T' x := by
  cases x with
  | none => rfl
  | some y => simp only [evalM, h y rfl]

theorem evOp_congr {P : Program} {C : Ctx P} {T T' : Tm} {H : Heap} {op : Op} (h : ∀ x ∈ op.operands, evalO T x = evalO T' x) : evOp C T H op = evOp C T' H op := by
  cases op <;> simp only [Op.operands] at h <;> simp only [evOp]
  case build t ps => rw [evalParts_congr (T := T) (T' := T') (xs := ps.toList) fun p hp => h p.2 (by simpa using ⟨p.1, by simpa using hp⟩)]
  case buildSlice t n ps => rw [evalParts_congr (T := T) (T' := T') (xs := ps.toList) fun p hp => h p.2 (by simpa using ⟨p.1, by simpa using hp⟩)]
  case makeFunc fn first cap => rw [evalL_congr (T := T) (T' := T') (xs := first.toList) fun x hx => h x (by simp at hx; simp [hx]), evalL_congr (T := T) (T' := T') (xs := cap.toList) fun x hx => h x (by simp at hx; simp [hx])]
  case slice t x lo hi mx =>
    cases mx with
    | some z => rfl
    | none =>
      simp only
      rw [h x (by simp), evalM_congr (T := T) (T' := T') (x := lo) fun y hy => h y (by subst hy; simp), evalM_congr (T := T) (T' := T') (x := hi) fun y hy => h y (by subst hy; simp)]
  case call c =>
    obtain ⟨callee, args, argTypes⟩ := c
    cases callee with
    | value f => rfl
    | invoke r m => rfl
    | builtin b =>
      have ha : ∀ x ∈ args.toList, evalO T x = evalO T' x := fun x hx => h x (by simp [Call.operands]; simpa using hx)
      cases b <;> try rfl
      case len =>
        simp only
        split
        · rename_i x t hx ht; rw [ha x (by rw [hx]; simp)]
        · rfl
      case append =>
        simp only
        split
        · rename_i x y t t' hx ht; rw [ha x (by rw [hx]; simp), ha y (by rw [hx]; simp)]
        · rfl
      case min => simp only [evalL_congr ha]
      case max => simp only [evalL_congr ha]
  all_goals (first | rfl | (simp at h; simp [h]; done) | (rw [h _ (by simp), h _ (by simp), h _ (by simp)]) | (rw [h _ (by simp), h _ (by simp)]) | (rw [h _ (by simp)]))

theorem calleeOf_congr {T T' : Tm} {c : Call} (h : ∀ x ∈ c.operands, evalO T x = evalO T' x) : calleeOf T c = calleeOf T' c := by
  obtain ⟨callee, args, argTypes⟩ := c
  cases callee with
  | value f =>
    simp only [calleeOf]
    rw [h f (by simp [Call.operands]), evalL_congr (T := T) (T' := T') (xs := args.toList) fun x hx => h x (by simp [Call.operands]; right; simpa using hx)]
  | invoke r m => rfl
  | builtin b => rfl

theorem Does.congr {P : Program} {C : Ctx P} {T T' : Tm} {H H' : Heap} {op : Op} {v : Value} (h : ∀ x ∈ op.operands, evalO T x = evalO T' x) (hd : Does C T H op v H') : Does C T' H op v H' := by
  cases hd with
  | op ho => exact .op (by rw [← evOp_congr h]; exact ho)
  | call c f args hc hcl hs => subst hc; exact .call c f args rfl (by rw [← calleeOf_congr h]; exact hcl) hs

theorem evalL_ids {T : Tm} {n : Nat} (hids : ∀ (x : Operand) (u : Value), evalO T x = some u → ∀ i ∈ idsV u, i < n) : ∀ {xs : List Operand} {l : List Value}, evalL T xs = some l → ∀ x ∈ l, ∀ i ∈ idsV x, i < n
  | [], l, hl => by simp [evalL] at hl; subst hl; simp
  | x :: r, l, hl => by
    simp only [evalL] at hl
    cases hx : evalO T x with
    | none => rw [hx] at hl; simp at hl
    | some v =>
      cases hr : evalL T r with
      | none => rw [hx, hr] at hl; simp at hl
      | some l' =>
        rw [hx, hr] at hl
        simp only [Option.some.injEq] at hl
        subst hl
        intro y hy
        rcases List.mem_cons.1 hy with rfl | hy
        · exact hids x _ hx
        · exact evalL_ids hids hr y hy
theorem calleeOf_ids {T : Tm} {n : Nat} {c : Call} {f : FuncId} {args : List Value} (hids : ∀ (x : Operand) (u : Value), evalO T x = some u → ∀ i ∈ idsV u, i < n) (h : calleeOf T c = some (f, args)) : ∀ x ∈ args, ∀ i ∈ idsV x, i < n := by
  unfold calleeOf at h
  split at h
  · rename_i g hg
    split at h
    · rename_i m first cap l hgv hl
      split at h
      · rename_i hps
        simp only [Option.some.injEq, Prod.mk.injEq] at h
        obtain ⟨rfl, rfl⟩ := h
        have g2 := hids g _ hgv
        intro x hx i hi
        rcases List.mem_append.1 hx with hx | hx
        · rcases List.mem_append.1 hx with hx | hx
          · refine g2 i ?_
            simp only [idsV, idsA, idsS, List.mem_flatMap, List.mem_append]
            exact ⟨x, Or.inl hx, by rw [← idsV_pscal ((List.all_eq_true.1 hps.1) x hx)]; exact hi⟩
          · exact evalL_ids hids hl x hx i hi
        · refine g2 i ?_
          simp only [idsV, idsA, idsS, List.mem_flatMap, List.mem_append]
          exact ⟨x, Or.inr hx, by rw [← idsV_pscal ((List.all_eq_true.1 hps.2) x hx)]; exact hi⟩
      · cases h
    · cases h
  · cases h

/-! ### the text's order, step by step -/
def StepD {P : Program} (C : Ctx P) (T : Tm) (H : Heap) (op : Op) (v : Value) (H' : Heap) : Prop :=
  match clsOf C op with
  | .P => evOp C T H op = some (v, H')
  | .Q => H' = H ∧ ((isRead op = true ∧ evOp C T H op = some (v, H)) ∨ ∃ c f args, op = .call c ∧ calleeOf T c = some (f, args) ∧ Quiet P f args H v ∧ ∀ x ∈ args, ∀ i ∈ idsV x, i < H.length)
  | .N => ∃ E, H' = H ++ E ∧ Does C T H op v H'
  | .S => Does C T H op v H'

def sOpsD {P : Program} (C : Ctx P) (ops : Array Oper) : List Oper → Tm → Heap → (Tm → Heap → Prop) → Prop
  | [], T, H, K => K T H
  | o :: rest, T, H, K =>
    match want? T ops o with
    | none => False
    | some b => (b = true → ∃ v H', StepD C T H o.op v H' ∧ sOpsD C ops rest (putT T o.dst v) H' K) ∧ (b = false → sOpsD C ops rest (putT T o.dst undef) H K)

def clsConf : Cls → Cls → Bool
  | .N, .P | .S, .P | .P, _ | .N, .Q => false
  | .N, _ | .S, _ => true
  | .Q, .S => true
  | .Q, _ => false
def conflict {P : Program} (C : Ctx P) (ops : Array Oper) (x y : Oper) : Bool :=
  (match x.dst with
    | some d => (y.looksAt ops).contains d || y.dst == some d
    | none => false) ||
  (match y.dst with
    | some d => (x.looksAt ops).contains d
    | none => false) || clsConf (clsOf C x.op) (clsOf C y.op)
def regionOK {P : Program} (C : Ctx P) (ops : Array Oper) : Bool :=
  (List.range ops.size).all fun j => match ops[j]? with
    | none => false
    | some oj => (oj.after.all fun e => !Region.binds .any e || decide (e.on < j)) && (List.range j).all fun i => match ops[i]? with
      | some oi => reach (masksGo ops.toList []) i j || !conflict C ops oi oj
      | none => false

/-- the slots behind the operations of a set, in the text's order -/
def TD : List Oper → Nat → (Nat → Value) → (Nat → Bool) → Tm → Tm
  | [], _, _, _, T => T
  | o :: r, k, vs, p, T => TD r (k + 1) vs p (if p k = true then putT T o.dst (vs k) else T)

theorem length_putT (T : Tm) (d : Option Tmp) (v : Value) : (putT T d v).length = T.length := by cases d <;> simp [putT]
theorem TD_length : ∀ (l : List Oper) (k : Nat) (vs : Nat → Value) (p : Nat → Bool) (T : Tm), (TD l k vs p T).length = T.length
  | [], _, _, _, _ => rfl
  | o :: r, k, vs, p, T => by
    rw [TD, TD_length r]
    split
    · exact length_putT _ _ _
    · rfl
theorem TD_shift : ∀ (l : List Oper) (k : Nat) (vs : Nat → Value) (p : Nat → Bool) (T : Tm), TD l (k + 1) vs p T = TD l k (fun i => vs (i + 1)) (fun i => p (i + 1)) T
  | [], _, _, _, _ => rfl
  | o :: r, k, vs, p, T => by rw [TD, TD, TD_shift r (k + 1)]
theorem putT_at (T : Tm) (d : Option Tmp) (v : Value) (t : Nat) (h : d ≠ some t) : (putT T d v)[t]? = T[t]? := by
  cases d with
  | none => rfl
  | some d => simp only [putT]; rw [List.getElem?_set_ne (fun e => h (by rw [e]))]
theorem putT_self (T : Tm) (t : Nat) (v : Value) (h : t < T.length) : (putT T (some t) v)[t]? = some (some v) := by
  simp only [putT]; rw [List.getElem?_set_self h]

theorem TD_same : ∀ (l : List Oper) (k : Nat) (vs : Nat → Value) (p q : Nat → Bool) (T T' : Tm) (t : Nat), T.length = T'.length → T[t]? = T'[t]? → (∀ i o, l[i]? = some o → o.dst = some t → p (k + i) = q (k + i)) →
    (TD l k vs p T)[t]? = (TD l k vs q T')[t]?
  | [], _, _, _, _, _, _, _, _, h, _ => h
  | o :: r, k, vs, p, q, T, T', t, hl, h, hw => by
    rw [TD, TD]
    refine TD_same r (k + 1) vs p q _ _ t ?_ ?_ fun i o' ho hd => by have := hw (i + 1) o' (by simpa using ho) hd; rwa [show k + (i + 1) = k + 1 + i by omega] at this
    · split <;> split <;> simp [length_putT, hl]
    · by_cases hd : o.dst = some t
      · have := hw 0 o rfl hd
        rw [Nat.add_zero] at this
        rw [this, hd]
        split
        · rcases Nat.lt_or_ge t T.length with hlt | hge
          · rw [putT_self _ _ _ hlt, putT_self _ _ _ (hl ▸ hlt)]
          · rw [List.getElem?_eq_none (by rw [length_putT]; exact hge), List.getElem?_eq_none (by rw [length_putT, ← hl]; exact hge)]
        · exact h
      · split <;> split <;> simp [putT_at _ _ _ _ hd, h]

theorem TD_last : ∀ (l : List Oper) (k : Nat) (vs : Nat → Value) (p : Nat → Bool) (T : Tm) (t j : Nat) (o : Oper), l[j]? = some o → o.dst = some t → p (k + j) = true → t < T.length →
    (∀ i o', l[i]? = some o' → o'.dst = some t → j < i → p (k + i) = false) → (TD l k vs p T)[t]? = some (some (vs (k + j)))
  | [], _, _, _, _, _, _, _, h, _, _, _, _ => by simp at h
  | u :: r, k, vs, p, T, t, 0, o, h, hd, hp, ht, hn => by
    simp only [List.getElem?_cons_zero, Option.some.injEq] at h
    subst h
    rw [Nat.add_zero] at hp ⊢
    rw [TD, if_pos hp]
    have := TD_same r (k + 1) vs p (fun _ => false) (putT T u.dst (vs k)) (putT T u.dst (vs k)) t rfl rfl fun i o' ho hd' => by
      have := hn (i + 1) o' (by simpa using ho) hd' (by omega)
      rwa [show k + (i + 1) = k + 1 + i by omega] at this
    rw [this]
    have none' : ∀ (l : List Oper) (k : Nat) (T : Tm), TD l k vs (fun _ => false) T = T := by
      intro l
      induction l with
      | nil => intro k T; rfl
      | cons a l ih => intro k T; rw [TD, if_neg (by simp), ih]
    rw [none', hd, putT_self _ _ _ ht]
  | u :: r, k, vs, p, T, t, j + 1, o, h, hd, hp, ht, hn => by
    rw [TD]
    rw [show k + (j + 1) = k + 1 + j by omega] at hp ⊢
    refine TD_last r (k + 1) vs p _ t j o (by simpa using h) hd hp ?_ fun i o' ho hd' hij => by
      have := hn (i + 1) o' (by simpa using ho) hd' (by omega)
      rwa [show k + (i + 1) = k + 1 + i by omega] at this
    split
    · rw [length_putT]; exact ht
    · exact ht

theorem run_of {P : Program} {C : Ctx P} {ops : Array Oper} {K : Tm → Heap → Prop} : ∀ (l : List Oper) (T : Tm) (H : Heap), sOpsD C ops l T H K →
    ∃ (vs : Nat → Value) (Hs : Nat → Heap), Hs 0 = H ∧ (∀ i o, l[i]? = some o → ∃ b, want? (TD l 0 vs (fun k => decide (k < i)) T) ops o = some b ∧
      (b = true → StepD C (TD l 0 vs (fun k => decide (k < i)) T) (Hs i) o.op (vs i) (Hs (i + 1))) ∧ (b = false → vs i = undef ∧ Hs (i + 1) = Hs i)) ∧ K (TD l 0 vs (fun k => decide (k < l.length)) T) (Hs l.length)
  | [], T, H, h => ⟨fun _ => undef, fun _ => H, rfl, fun i o hi => by simp at hi, h⟩
  | o :: r, T, H, h => by
    have none' : ∀ (vs : Nat → Value) (l : List Oper) (k : Nat) (T : Tm), TD l k vs (fun _ => false) T = T := by
      intro vs l
      induction l with
      | nil => intro k T; rfl
      | cons a l ih => intro k T; rw [TD, if_neg (by simp), ih]
    have zero : ∀ (vs : Nat → Value), TD (o :: r) 0 vs (fun k => decide (k < 0)) T = T := fun vs => by
      have : (fun k => decide (k < 0)) = (fun _ : Nat => false) := by funext k; simp
      rw [this, none']
    have succ : ∀ (v : Value) (vs : Nat → Value) (i : Nat), TD (o :: r) 0 (fun j => match j with
        | 0 => v
        | j + 1 => vs j) (fun k => decide (k < i + 1)) T = TD r 0 vs (fun k => decide (k < i)) (putT T o.dst v) := fun v vs i => by
      rw [TD, if_pos (by simp), TD_shift]
      congr 1
      funext k
      simp
    simp only [sOpsD] at h
    split at h
    · exact h.elim
    · rename_i b hb
      cases b with
      | true =>
        obtain ⟨v, H', hst, hk⟩ := h.1 rfl
        obtain ⟨vs, Hs, h0, h1, h2⟩ := run_of r _ H' hk
        refine ⟨fun j => match j with
          | 0 => v
          | j + 1 => vs j, fun j => match j with
          | 0 => H
          | j + 1 => Hs j, rfl, fun i o' hi => ?_, ?_⟩
        · cases i with
          | zero =>
            simp only [List.getElem?_cons_zero, Option.some.injEq] at hi
            subst hi
            rw [zero]
            refine ⟨true, hb, fun _ => ?_, fun h => by cases h⟩
            show StepD C T H o.op v (Hs 0)
            rw [h0]
            exact hst
          | succ i =>
            rw [succ]
            exact h1 i o' (by simpa using hi)
        · rw [List.length_cons, succ]
          exact h2
      | false =>
        have hk := h.2 rfl
        obtain ⟨vs, Hs, h0, h1, h2⟩ := run_of r _ H hk
        refine ⟨fun j => match j with
          | 0 => undef
          | j + 1 => vs j, fun j => match j with
          | 0 => H
          | j + 1 => Hs j, rfl, fun i o' hi => ?_, ?_⟩
        · cases i with
          | zero =>
            simp only [List.getElem?_cons_zero, Option.some.injEq] at hi
            subst hi
            rw [zero]
            exact ⟨false, hb, (fun h => by cases h), fun _ => ⟨rfl, h0⟩⟩
          | succ i =>
            rw [succ]
            exact h1 i o' (by simpa using hi)
        · rw [List.length_cons, succ]
          exact h2

end Go.Am
