/- The frame of all our walks, part 11: calls, and a row of operations one behind the other. No condition. -/
import Derived.Test.YtbheeobnghlckaaAm10
import Derived.Tactics
set_option linter.unusedVariables false
set_option linter.unusedSimpArgs false
namespace Go.Am
open Go.RowKit

def putT (T : Tm) (dst : Option Tmp) (v : Value) : Tm :=
  match dst with
  | some d => T.set d (some v)
  | none => T

theorem RT.adv {P : Program} {ρ ρ' : Ren} {H H' : Heap} {w w' : World} {T : Tm} {a : Act} (h : RT ρ H.length T a) (ad : Adv P ρ H w ρ' H' w') : RT ρ' H'.length T a := by
  refine ⟨h.size, fun t v hv => ?_, fun t v hv i hi => Nat.lt_of_lt_of_le (h.cl t v hv i hi) ad.len⟩
  rw [h.at_ t v hv, mapV_agree fun i hi => ad.agree i (h.cl t v hv i hi)]

theorem RT.put {ρ : Ren} {n : Nat} {T : Tm} {a : Act} (h : RT ρ n T a) (dst : Option Tmp) {v : Value} (hv : ∀ i ∈ idsV v, i < n) : RT ρ n (putT T dst v) (a.put dst (mapV ρ v)) := by
  cases dst with
  | none => exact h
  | some d =>
    refine ⟨by simp [putT, Act.put, h.size], fun t u hu => ?_, fun t u hu => ?_⟩
    · simp only [putT] at hu
      simp only [Act.put]
      rcases Nat.decEq t d with hne | heq
      · rw [List.getElem?_set_ne (Ne.symm hne)] at hu
        rw [Array.getElem?_setIfInBounds_ne (Ne.symm hne)]
        exact h.at_ t u hu
      · subst heq
        have hlt : t < (T.set t (some v)).length := lt_of_some hu
        rw [List.length_set] at hlt
        rw [List.getElem?_set_self hlt] at hu
        simp only [Option.some.injEq] at hu
        subst hu
        rw [Array.getElem?_setIfInBounds_self_of_lt (by rw [h.size]; exact hlt)]
    · simp only [putT] at hu
      rcases Nat.decEq t d with hne | heq
      · rw [List.getElem?_set_ne (Ne.symm hne)] at hu
        exact h.cl t u hu
      · subst heq
        have hlt : t < (T.set t (some v)).length := lt_of_some hu
        rw [List.length_set] at hlt
        rw [List.getElem?_set_self hlt] at hu
        simp only [Option.some.injEq] at hu
        subst hu
        exact hv

def Callable (P : Program) (f : FuncId) : Prop := ∃ fn, P.funcs[f]? = some fn ∧ (fn.name == "runtime.NumGoroutine") = false ∧ fn.body.isSome = true

/-- the function f, called with these in such a memory, gives v and leaves this memory -/
structure Sound (P : Program) (f : FuncId) (args : List Value) (H : Heap) (v : Value) (H' : Heap) : Prop where
  can : Callable P f
  run : ∀ ρ w, Rep P ρ H w → (∀ x ∈ args, ∀ i ∈ idsV x, i < H.length) →
    Calls P f (args.map (mapV ρ)).toArray w fun e w' => ∃ ρ', e = .returned (mapV ρ' v) ∧ Adv P ρ H w ρ' H' w' ∧ ∀ i ∈ idsV v, i < H'.length

def calleeOf (T : Tm) (c : Call) : Option (FuncId × List Value) :=
  match c.callee with
  | .value f => match evalO T f, evalL T c.args.toList with
    | some (.func (.func n) first cap), some args => if first.toList.all pscal = true ∧ cap.toList.all pscal = true then some (n, first.toList ++ args ++ cap.toList) else none
    | _, _ => none
  | _ => none

/-- an operation does this -/
inductive Does {P : Program} (C : Ctx P) (T : Tm) (H : Heap) (op : Op) (v : Value) (H' : Heap) : Prop
  | op : evOp C T H op = some (v, H') → Does C T H op v H'
  | call (c : Call) (f : FuncId) (args : List Value) : op = .call c → calleeOf T c = some (f, args) → Sound P f args H v H' → Does C T H op v H'

theorem does_sound {P : Program} {C : Ctx P} {ρ : Ren} {T : Tm} {H H' : Heap} {w : World} {a : Act} {o : Oper} {v : Value} (hr : Rep P ρ H w) (ht : RT ρ H.length T a) (hd : Does C T H o.op v H')
    {next : Act → World → Prop} {Q : Exit → Act → World → Prop} (hn : ∀ ρ' w', Adv P ρ H w ρ' H' w' → (∀ i ∈ idsV v, i < H'.length) → next (a.put o.dst (mapV ρ' v)) w') : o.wp P a w next Q := by
  cases hd with
  | op ho =>
    obtain ⟨ρ', w', h1, h2, h3⟩ := evOp_sound hr ht ho
    unfold Oper.wp
    rcases h1 with h1 | ⟨h1, rfl⟩
    · rw [h1]; exact hn ρ' w' h2 h3
    · rw [h1]
      have := hn ρ' w' h2 h3
      have hu : mapV ρ' undef = undef := by simp [undef, mapV, mpV]
      rw [hu] at this
      exact this
  | call c f args hc hcl hs =>
    obtain ⟨dst, op, ty, pos, after, guard⟩ := o
    simp only at hc
    subst hc
    obtain ⟨callee, cargs, argTypes⟩ := c
    unfold calleeOf at hcl
    split at hcl
    · rename_i g hcallee
      simp only at hcallee
      subst hcallee
      split at hcl
      · rename_i n first cap l hg hl
        split at hcl
        · rename_i hps
          simp only [Option.some.injEq, Prod.mk.injEq] at hcl
          obtain ⟨rfl, rfl⟩ := hcl
          obtain ⟨g1, g2⟩ := evalO_sound ht hg
          obtain ⟨l1, l2⟩ := evalL_sound ht hl
          obtain ⟨fn, hf, hname, hbody⟩ := hs.can
          have hbn : fn.body.isNone = false := by cases hb : fn.body <;> simp_all
          have e1 : cargs.map a.eval = (l.map (mapV ρ)).toArray := arr_map l1
          have hmg : mapV ρ (.func (.func n) first cap) = .func (.func n) (first.map (mpP (toReal ρ))) (cap.map (mpP (toReal ρ))) := rfl
          have e2 : (first.map (mpP (toReal ρ)) ++ cargs.map a.eval) ++ cap.map (mpP (toReal ρ)) = ((first.toList ++ l ++ cap.toList).map (mapV ρ)).toArray := by
            apply Array.ext'
            simp only [Array.toList_append, Array.toList_map, e1, List.map_append, mapV, map_pscal hps.1, map_pscal hps.2]
          have hexec : (execOp a.eval ⟨dst, .call ⟨.value g, cargs, argTypes⟩, ty, pos, after, guard⟩).run P w = .ok (.enter n ((first.toList ++ l ++ cap.toList).map (mapV ρ)).toArray) w := by
            simp only [execOp, resolve, g1, hmg, Deferred.ofValue, Sem.run_bind, Sem.run_pure, Result.andThen_ok, invoke, callFunc, run_program, hf, hname, hbn, Bool.false_eq_true, if_false, e2]
          unfold Oper.wp
          rw [hexec]
          have hcl2 : ∀ x ∈ first.toList ++ l ++ cap.toList, ∀ i ∈ idsV x, i < H.length := by
            intro x hx i hi
            rcases List.mem_append.1 hx with hx | hx
            · rcases List.mem_append.1 hx with hx | hx
              · refine g2 i ?_
                simp only [idsV, idsA, idsS, List.mem_flatMap, List.mem_append]
                exact ⟨x, Or.inl hx, by rw [← idsV_pscal ((List.all_eq_true.1 hps.1) x hx)]; exact hi⟩
              · exact l2 x hx i hi
            · refine g2 i ?_
              simp only [idsV, idsA, idsS, List.mem_flatMap, List.mem_append]
              exact ⟨x, Or.inr hx, by rw [← idsV_pscal ((List.all_eq_true.1 hps.2) x hx)]; exact hi⟩
          exact (hs.run ρ w hr hcl2).mono fun e w' he => by
            obtain ⟨ρ', rfl, had, hv⟩ := he
            exact hn ρ' w' had hv
        · cases hcl
      · cases hcl
    · cases hcl

/-- is the operation carried out? -/
def want? (T : Tm) (ops : Array Oper) (o : Oper) : Option Bool :=
  match o.guard with
  | none => some true
  | some (j, b) => match (ops[j]?).bind (·.dst) with
    | none => some false
    | some t => match getT T t with
      | some (.bool c) => some (c == b)
      | some _ => some false
      | none => none

theorem mapV_bool {m : Mp} {v : Value} {b : Bool} (h : mpV m v = .bool b) : v = .bool b := by
  cases v with
  | pointer a => cases a <;> simp [mpV, mpA, mpS, mpP] at h
  | slice a n c => cases a <;> simp [mpV, mpA, mpS, mpP] at h
  | _ => simp_all [mpV, mpA, mpS, mpP]

theorem getT_some {T : Tm} {t : Nat} {v : Value} (h : getT T t = some v) : T[t]? = some (some v) := by
  unfold getT at h
  split at h
  · simp only [Option.some.injEq] at h; subst h; assumption
  · cases h

theorem want_sound {ρ : Ren} {n : Nat} {T : Tm} {a : Act} {ops : Array Oper} {o : Oper} {b : Bool} (ht : RT ρ n T a) (hw : want? T ops o = some b) : Region.wanted o (yielded ops a.tmps) = b := by
  unfold want? at hw
  unfold Region.wanted
  split at hw
  · rename_i hg
    simp only [Option.some.injEq] at hw
    subst hw
    rw [hg]
  · rename_i j c hg
    rw [hg]
    simp only
    split at hw
    · rename_i hd
      simp only [Option.some.injEq] at hw
      subst hw
      simp [yielded, hd]
    · rename_i t hd
      split at hw
      · rename_i d hv
        simp only [Option.some.injEq] at hw
        subst hw
        have := ht.at_ t _ (getT_some hv)
        have hm : mapV ρ (.bool d) = .bool d := rfl
        rw [hm] at this
        simp only [yielded, hd, Option.bind_some, this]
        cases d <;> cases c <;> rfl
      · rename_i u hnb hv
        simp only [Option.some.injEq] at hw
        subst hw
        have := ht.at_ t _ (getT_some hv)
        simp only [yielded, hd, Option.bind_some, this]
        split
        · rename_i x hx
          simp only [Option.some.injEq] at hx
          exact absurd (mapV_bool hx) (hnb _)
        · rfl
      · cases hw

def sOps {P : Program} (C : Ctx P) (ops : Array Oper) : List Oper → Tm → Heap → (Tm → Heap → Prop) → Prop
  | [], T, H, K => K T H
  | o :: rest, T, H, K =>
    match want? T ops o with
    | none => False
    | some b => (b = true → ∃ v H', Does C T H o.op v H' ∧ sOps C ops rest (putT T o.dst v) H' K) ∧ (b = false → sOps C ops rest (putT T o.dst undef) H K)

/-- where the walk stands, against its beginning -/
structure Inv (P : Program) (ρ0 : Ren) (H0 : Heap) (w0 : World) (ρ : Ren) (T : Tm) (H : Heap) (a : Act) (w : World) : Prop where
  adv : Adv P ρ0 H0 w0 ρ H w
  rt : RT ρ H.length T a
  df : a.defers = []

theorem put_defers (a : Act) (d : Option Tmp) (v : Value) : (a.put d v).defers = a.defers := by cases d <;> rfl

theorem Inv.step {P : Program} {ρ0 ρ ρ' : Ren} {H0 H H' : Heap} {w0 w w' : World} {T : Tm} {a : Act} (h : Inv P ρ0 H0 w0 ρ T H a w) (ad : Adv P ρ H w ρ' H' w') (dst : Option Tmp) {v : Value} (hv : ∀ i ∈ idsV v, i < H'.length) :
    Inv P ρ0 H0 w0 ρ' (putT T dst v) H' (a.put dst (mapV ρ' v)) w' :=
  ⟨h.adv.trans ad, (h.rt.adv ad).put dst hv, by rw [put_defers]; exact h.df⟩

/-- what is so behind a piece of code -/
def Post (P : Program) (ρ0 : Ren) (H0 : Heap) (w0 : World) (K : Exit → Tm → Heap → Prop) : Exit → Act → World → Prop :=
  fun e a w => ∃ ρ T H, K e T H ∧ Inv P ρ0 H0 w0 ρ T H a w

theorem sOps_sound {P : Program} {C : Ctx P} {ops : Array Oper} {ρ0 : Ren} {H0 : Heap} {w0 : World} {K : Exit → Tm → Heap → Prop} : ∀ (l : List Oper) (ρ : Ren) (T : Tm) (H : Heap) (a : Act) (w : World),
    Inv P ρ0 H0 w0 ρ T H a w → sOps C ops l T H (K .normal) → wpList P ops (Post P ρ0 H0 w0 K) l a w
  | [], ρ, T, H, a, w, hi, hs => ⟨ρ, T, H, hs, hi⟩
  | o :: rest, ρ, T, H, a, w, hi, hs => by
    simp only [sOps] at hs
    split at hs
    · exact hs.elim
    · rename_i b hb
      have hw := want_sound hi.rt hb
      unfold wpList
      rw [hw]
      cases b with
      | true =>
        rw [if_pos rfl]
        obtain ⟨v, H', hd, hk⟩ := hs.1 rfl
        refine Or.inl (does_sound hi.adv.rep hi.rt hd fun ρ' w' ad hv => ?_)
        exact sOps_sound rest ρ' _ H' _ w' (hi.step ad o.dst hv) hk
      | false =>
        rw [if_neg (by simp)]
        have := hs.2 rfl
        have hu : mapV ρ undef = undef := by simp [undef, mapV, mpV]
        have hi' := hi.step (Adv.refl hi.adv.rep) o.dst (v := undef) (by simp [undef, idsV])
        rw [hu] at hi'
        exact sOps_sound rest ρ _ H _ w hi' this

end Go.Am
