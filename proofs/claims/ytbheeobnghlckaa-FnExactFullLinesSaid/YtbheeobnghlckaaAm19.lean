/- The frame of all our walks, part 19: the abstract machine, run. No condition. -/
import Derived.Test.YtbheeobnghlckaaAm18
set_option linter.unusedVariables false
set_option linter.unusedSimpArgs false
namespace Go.Am
open Go.RowKit

abbrev CallF := FuncId → List Value → Heap → Option (Value × Heap)

section
variable {P : Program}

def exOp (C : Ctx P) (call : CallF) (T : Tm) (H : Heap) (op : Op) : Option (Value × Heap) :=
  match op with
  | .call c => match c.callee with
    | .value _ => match calleeOf T c with
      | some (f, args) => call f args H
      | none => none
    | _ => evOp C T H op
  | _ => evOp C T H op
def exOps (C : Ctx P) (call : CallF) (ops : Array Oper) : List Oper → Tm → Heap → Option (Tm × Heap)
  | [], T, H => some (T, H)
  | o :: r, T, H => match want? T ops o with
    | some true => match exOp C call T H o.op with
      | some (v, H') => exOps C call ops r (putT T o.dst v) H'
      | none => none
    | some false => exOps C call ops r (putT T o.dst undef) H
    | none => none
/-- in a region that draws: a call must be quiet, or make new rows, as its class says -/
def exOpsD (C : Ctx P) (call : CallF) (ops : Array Oper) : List Oper → Tm → Heap → Option (Tm × Heap)
  | [], T, H => some (T, H)
  | o :: r, T, H => match want? T ops o with
    | some true => match o.op with
      | .call ⟨.value g, as, ts⟩ => match calleeOf T ⟨.value g, as, ts⟩ with
        | some (f, args) => if (args.all fixV) = true ∧ clsOf C o.op = .Q then (match call f args [] with
            | some (v, []) => if fixV v = true then exOpsD C call ops r (putT T o.dst v) H else none
            | _ => none) else none
        | none => none
      | op => match evOp C T H op with
        | some (v, H') => if clsOf C op = .Q ∧ H'.length ≠ H.length then none else exOpsD C call ops r (putT T o.dst v) H'
        | none => none
    | some false => exOpsD C call ops r (putT T o.dst undef) H
    | none => none

def exLoop (body : Tm → Heap → Option (Exit × Tm × Heap)) : Nat → Tm → Heap → Option (Exit × Tm × Heap)
  | 0, _, _ => none
  | k + 1, T, H => match body T H with
    | some (.normal, T', H') => exLoop body k T' H'
    | some (e, T', H') => some (e, T', H')
    | none => none

def exC (C : Ctx P) (call : CallF) (fuel : Nat) : Code → Tm → Heap → Option (Exit × Tm × Heap)
  | .skip, T, H => some (.normal, T, H)
  | .region _ ops false, T, H => match exOps C call ops ops.toList T H with
    | some (T', H') => some (.normal, T', H')
    | none => none
  | .region _ ops true, T, H => if regionOK C ops = true then (match exOpsD C call ops ops.toList T H with
    | some (T', H') => some (.normal, T', H')
    | none => none) else none
  | .seq a b, T, H => match exC C call fuel a T H with
    | some (.normal, T', H') => exC C call fuel b T' H'
    | r => r
  | .cond c a b, T, H => match evalO T c with
    | some (.bool true) => exC C call fuel a T H
    | some (.bool false) => exC C call fuel b T H
    | _ => none
  | .block id c, T, H => match exC C call fuel c T H with
    | some (.exit i, T', H') => if i = id then some (.normal, T', H') else some (.exit i, T', H')
    | r => r
  | .loop c, T, H => exLoop (exC C call fuel c) fuel T H
  | .exit id, T, H => some (.exit id, T, H)
  | .ret, T, H => some (.ret, T, H)
  | _, _, _ => none

/-- a call: of numbers alone it is run in an empty memory -/
def callX (run : CallF) : CallF := fun f args H =>
  if (args.all fixV) = true then (match run f args [] with
    | some (v, []) => if fixV v = true then some (v, H) else none
    | some (v, [some r]) => if r.wr = true ∧ r.cells.all flat = true then some (mpV (renId fun i => H.length + i) v, H ++ [some r]) else none
    | _ => none)
  else run f args H

/-- what a run leaves: nothing, or one row of numbers, or all of it -/
def leave (C : Ctx P) (v : Value) (H H' : Heap) : Option (Value × Heap) :=
  if H.isEmpty = true then
    (if fixV v = true then some (v, []) else match v with
      | .slice (some ⟨j, 0, none⟩) n 0 => match row? H' j with
        | some r => if r.wr = true ∧ r.cells.all flat = true then some (.slice (some ⟨0, 0, none⟩) n 0, [some r]) else none
        | none => none
      | _ => none)
  else if ((idsV v).all fun i => decide (i < H'.length)) = true ∧ H.length ≤ H'.length then some (v, H') else none

/-- a function run by itself; told: calls whose ends are known -/
def exF (C : Ctx P) (told : CallF) : Nat → CallF
  | 0, _, _, _ => none
  | k + 1, f, args, H => match told f args H with
    | some r => some r
    | none => match P.funcs[f]? with
      | some fn => match fn.body with
        | some c => if (fn.name == "runtime.NumGoroutine") = false then (match exC C (callX (exF C told k)) 4096 c (args.map some ++ List.replicate (fn.ntmps - args.length) (some undef)) H with
          | some (.normal, T', H') | some (.ret, T', H') => match resOf P T' H' fn.results.toList with
            | some l => leave C (packR l) H H'
            | none => none
          | _ => none) else none
        | none => none
      | none => none

theorem SubT.refl (T : Tm) : SubT T T := ⟨rfl, fun _ _ h => h⟩

def CallOK (P : Program) (call : CallF) : Prop := ∀ f args H v H', call f args H = some (v, H') → Sound P f args H v H'

theorem exOp_sound {C : Ctx P} {call : CallF} (hc : CallOK P call) {T : Tm} {H H' : Heap} {op : Op} {v : Value} (h : exOp C call T H op = some (v, H')) : Does C T H op v H' := by
  cases op with
  | call c =>
    unfold exOp at h
    obtain ⟨callee, args, tys⟩ := c
    cases callee with
    | value g =>
      simp only at h
      split at h
      · rename_i f as hcl
        exact .call _ f as rfl hcl (hc _ _ _ _ _ h)
      · cases h
    | _ => exact .op h
  | _ => exact .op h

theorem exOps_sound {C : Ctx P} {call : CallF} (hc : CallOK P call) {ops : Array Oper} {K : Tm → Heap → Prop} {T' : Tm} {H' : Heap} (hk : K T' H') : ∀ (l : List Oper) (T : Tm) (H : Heap), exOps C call ops l T H = some (T', H') → sOps C ops l T H K
  | [], T, H, h => by simp only [exOps, Option.some.injEq, Prod.mk.injEq] at h; obtain ⟨rfl, rfl⟩ := h; exact hk
  | o :: r, T, H, h => by
    simp only [exOps] at h
    split at h
    · rename_i hw
      split at h
      · rename_i v H1 he
        simp only [sOps, hw]
        exact ⟨fun _ => ⟨v, H1, exOp_sound hc he, exOps_sound hc hk r _ _ h⟩, fun h => by cases h⟩
      · cases h
    · rename_i hw
      simp only [sOps, hw]
      exact ⟨fun h => (by cases h), fun _ => exOps_sound hc hk r _ _ h⟩
    · cases h

theorem exOpsD_sound {C : Ctx P} {call : CallF} (hc : CallOK P call) {ops : Array Oper} {K : Tm → Heap → Prop} {T' : Tm} {H' : Heap} (hk : K T' H') : ∀ (l : List Oper) (T : Tm) (H : Heap), exOpsD C call ops l T H = some (T', H') → sOpsD C ops l T H K
  | [], T, H, h => by simp only [exOpsD, Option.some.injEq, Prod.mk.injEq] at h; obtain ⟨rfl, rfl⟩ := h; exact hk
  | o :: r, T, H, h => by
    simp only [exOpsD] at h
    split at h
    · rename_i hw
      simp only [sOpsD, hw]
      refine ⟨fun _ => ?_, fun h => by cases h⟩
      split at h
      · rename_i g as ts hop
        split at h
        · rename_i f args hcl
          split at h
          · rename_i hq
            split at h
            · rename_i v hcall
              split at h
              · rename_i hv
                refine ⟨v, H, ?_, exOpsD_sound hc hk r _ _ h⟩
                unfold StepD
                rw [hq.2]
                refine ⟨rfl, Or.inr ⟨_, f, args, hop, hcl, fun H0 _ _ _ _ => (hc _ _ _ _ _ hcall).flat hq.1 hv H0, fun x hx i hi => ?_⟩⟩
                rw [(fixV_spec ((List.all_eq_true.1 hq.1) x hx)).1] at hi
                cases hi
              · cases h
            · cases h
          · cases h
        · cases h
      · split at h
        · rename_i v H1 he
          split at h
          · cases h
          · rename_i hq
            exact ⟨v, H1, stepD_of he fun hcq => Classical.byContradiction fun hn => hq ⟨hcq, hn⟩, exOpsD_sound hc hk r _ _ h⟩
        · cases h
    · rename_i hw
      simp only [sOpsD, hw]
      exact ⟨fun h => (by cases h), fun _ => exOpsD_sound hc hk r _ _ h⟩
    · cases h

theorem exC_sound {C : Ctx P} {call : CallF} (hc : CallOK P call) {fuel n : Nat} : ∀ (c : Code) (T : Tm) (H : Heap) (K : Exit → Tm → Heap → Prop) (e : Exit) (T' : Tm) (H' : Heap), exC C call fuel c T H = some (e, T', H') → K e T' H' → sC C n c T H K
  | .skip, T, H, K, e, T', H', h, hk => by simp only [exC, Option.some.injEq, Prod.mk.injEq] at h; obtain ⟨rfl, rfl, rfl⟩ := h; exact hk
  | .region id ops false, T, H, K, e, T', H', h, hk => by
    simp only [exC] at h
    split at h
    · rename_i T1 H1 ho
      simp only [Option.some.injEq, Prod.mk.injEq] at h
      obtain ⟨rfl, rfl, rfl⟩ := h
      exact exOps_sound hc (K := Less K .normal) ⟨_, SubT.refl _, hk⟩ _ _ _ ho
    · cases h
  | .region id ops true, T, H, K, e, T', H', h, hk => by
    simp only [exC] at h
    split at h
    · rename_i hok
      split at h
      · rename_i T1 H1 ho
        simp only [Option.some.injEq, Prod.mk.injEq] at h
        obtain ⟨rfl, rfl, rfl⟩ := h
        exact Or.inl ⟨hok, exOpsD_sound hc (K := Less K .normal) ⟨_, SubT.refl _, hk⟩ _ _ _ ho⟩
      · cases h
    · cases h
  | .seq a b, T, H, K, e, T', H', h, hk => by
    simp only [exC] at h
    split at h
    · rename_i T1 H1 ha
      exact exC_sound hc a _ _ _ _ _ _ ha (exC_sound hc b _ _ _ _ _ _ h hk)
    · rename_i hn
      refine exC_sound hc a _ _ _ _ _ _ h ?_
      cases e with
      | normal => exact absurd h (by intro h; exact hn _ _ h)
      | _ => exact hk
  | .cond c a b, T, H, K, e, T', H', h, hk => by
    simp only [exC] at h
    split at h
    · rename_i hcv
      exact cTrue hcv (exC_sound hc a _ _ _ _ _ _ h hk)
    · rename_i hcv
      exact cFalse hcv (exC_sound hc b _ _ _ _ _ _ h hk)
    · cases h
  | .block id c, T, H, K, e, T', H', h, hk => by
    simp only [exC] at h
    split at h
    · rename_i i T1 H1 ha
      refine exC_sound hc c _ _ _ _ _ _ ha ?_
      simp only [blkK]
      split at h
      · rename_i hi
        rw [if_pos hi]
        simp only [Option.some.injEq, Prod.mk.injEq] at h
        obtain ⟨rfl, rfl, rfl⟩ := h
        exact hk
      · rename_i hi
        rw [if_neg hi]
        simp only [Option.some.injEq, Prod.mk.injEq] at h
        obtain ⟨rfl, rfl, rfl⟩ := h
        exact hk
    · rename_i hn
      refine exC_sound hc c _ _ _ _ _ _ h ?_
      cases e with
      | exit i => exact absurd h (by intro h; exact hn _ _ _ h)
      | _ => exact hk
  | .loop c, T, H, K, e, T', H', h, hk => by
    simp only [exC] at h
    refine cLoop (fun m T H => exLoop (exC C call fuel c) m T H = some (e, T', H')) fuel T H (Or.inl ⟨SubT.refl _, rfl⟩) h ?_
    intro m T1 H1 hI
    cases m with
    | zero => cases hI
    | succ m =>
      simp only [exLoop] at hI
      split at hI
      · rename_i T2 H2 hb
        exact exC_sound hc c _ _ _ _ _ _ hb (kLoop m T2 H2 (by omega) (Or.inl ⟨SubT.refl _, rfl⟩) hI)
      · rename_i e2 T2 H2 hne hb
        simp only [Option.some.injEq, Prod.mk.injEq] at hI
        obtain ⟨rfl, rfl, rfl⟩ := hI
        refine exC_sound hc c _ _ _ _ _ _ hb ?_
        cases e2 with
        | normal => exact absurd rfl (hne)
        | _ => exact hk
      · cases hI
  | .exit id, T, H, K, e, T', H', h, hk => by simp only [exC, Option.some.injEq, Prod.mk.injEq] at h; obtain ⟨rfl, rfl, rfl⟩ := h; exact hk
  | .ret, T, H, K, e, T', H', h, hk => by simp only [exC, Option.some.injEq, Prod.mk.injEq] at h; obtain ⟨rfl, rfl, rfl⟩ := h; exact hk
  | .rangeFunc .., _, _, _, _, _, _, h, _ => by simp [exC] at h
  | .scope _, _, _, _, _, _, _, h, _ => by simp [exC] at h
  | .label _, _, _, _, _, _, _, h, _ => by simp [exC] at h
  | .goto _, _, _, _, _, _, _, h, _ => by simp [exC] at h
  | .refuse _, _, _, _, _, _, _, h, _ => by simp [exC] at h

theorem callX_sound {run : CallF} (hr : CallOK P run) : CallOK P (callX run) := by
  intro f args H v H' h
  unfold callX at h
  split at h
  · rename_i ha
    split at h
    · rename_i v0 hrun
      split at h
      · rename_i hv
        simp only [Option.some.injEq, Prod.mk.injEq] at h
        obtain ⟨rfl, rfl⟩ := h
        exact (hr _ _ _ _ _ hrun).flat ha hv _
      · cases h
    · rename_i v0 r hrun
      split at h
      · rename_i hw
        simp only [Option.some.injEq, Prod.mk.injEq] at h
        obtain ⟨rfl, rfl⟩ := h
        exact (hr _ _ _ _ _ hrun).fresh ha (FlatH.nil.cons (flatRow_of hw.2)) (fun s hs => by simp at hs; subst hs; exact Or.inl hw.1) _ rfl
      · cases h
    · cases h
  · exact hr _ _ _ _ _ h

theorem leave_ends {C : Ctx P} {fn : Func} {e : Exit} (he : e = .normal ∨ e = .ret) {T' : Tm} {H H1 H' : Heap} {l : List Value} {v : Value} (hcl : Closed H) (hres : resOf P T' H1 fn.results.toList = some l) (h : leave C (packR l) H H1 = some (v, H')) : Ends P fn H.length v H' e T' H1 := by
  unfold leave at h
  split at h
  · rename_i hem
    have hH : H = [] := by simpa using hem
    subst hH
    split at h
    · rename_i hv
      simp only [Option.some.injEq, Prod.mk.injEq] at h
      obtain ⟨rfl, rfl⟩ := h
      exact ⟨he, Or.inr ⟨l, H1, hres, rfl, rfl, Nat.le_refl _, Or.inr hcl, fun i hi => by rw [(fixV_spec hv).1] at hi; cases hi⟩⟩
    · split at h
      · rename_i j n hpk
        split at h
        · rename_i r hrow
          split at h
          · rename_i hw
            simp only [Option.some.injEq, Prod.mk.injEq] at h
            obtain ⟨rfl, rfl⟩ := h
            have hr := row?_some hrow
            refine ⟨he, Or.inl ⟨l, _, hres, ?_, renOK_flat [j] (by simp [hr]) (by simp) (FlatH.nil.cons (flatRow_of hw.2)), ?_⟩⟩
            · rw [hpk]; rfl
            · intro i hi; simp [idsV, idsA, idsS, idsP] at hi; simp [hi]
          · cases h
        · cases h
      · cases h
  · rename_i hem
    split at h
    · rename_i hi
      simp only [Option.some.injEq, Prod.mk.injEq] at h
      obtain ⟨rfl, rfl⟩ := h
      refine ⟨he, Or.inr ⟨l, [], hres, rfl, by simp, hi.2, Or.inl rfl, fun i h => ?_⟩⟩
      have := hi.1
      simp only [List.all_eq_true, decide_eq_true_eq] at this
      exact this i h
    · cases h

theorem exF_sound {C : Ctx P} {told : CallF} (ht : CallOK P told) : ∀ k, CallOK P (exF C told k)
  | 0 => fun f args H v H' h => by cases h
  | k + 1 => fun f args H v H' h => by
    simp only [exF] at h
    split at h
    · rename_i r hr
      simp only [Option.some.injEq] at h
      subst h
      exact ht _ _ _ _ _ hr
    · split at h
      · rename_i fn hf
        split at h
        · rename_i c hb
          split at h
          · rename_i hn
            refine sound_intro (C := C) hf hb hn fun hcl => ?_
            split at h
            · rename_i T1 H1 hx
              split at h
              · rename_i l hres
                exact exC_sound (callX_sound (exF_sound ht k)) c _ _ _ _ _ _ hx (leave_ends (Or.inl rfl) hcl hres h)
              · cases h
            · rename_i T1 H1 hx
              split at h
              · rename_i l hres
                exact exC_sound (callX_sound (exF_sound ht k)) c _ _ _ _ _ _ hx (leave_ends (Or.inr rfl) hcl hres h)
              · cases h
            · cases h
          · cases h
        · cases h
      · cases h

theorem told_none : CallOK P (fun _ _ _ => none) := fun f args H v H' h => by cases h
end
end Go.Am
