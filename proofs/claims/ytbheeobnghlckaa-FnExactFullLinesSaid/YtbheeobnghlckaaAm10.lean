/- The frame of all our walks, part 10: one operation of a function. No condition. -/
import Derived.Test.YtbheeobnghlckaaAm9
import Derived.Deep.LoopGhost
set_option linter.unusedVariables false
set_option linter.unusedSimpArgs false
namespace Go.Am
open Go.RowKit

def evalL (T : Tm) : List Operand → Option (List Value)
  | [] => some []
  | x :: r => match evalO T x, evalL T r with
    | some v, some l => some (v :: l)
    | _, _ => none
def evalParts (T : Tm) : List (Nat × Operand) → Option (List (Nat × Value))
  | [] => some []
  | (i, x) :: r => match evalO T x, evalParts T r with
    | some v, some l => some ((i, v) :: l)
    | _, _ => none
def evalM (T : Tm) : Option Operand → Option (Option Value)
  | none => some none
  | some x => (evalO T x).map some

theorem evalL_sound {ρ : Ren} {n : Nat} {T : Tm} {a : Act} (h : RT ρ n T a) : ∀ {xs : List Operand} {l : List Value}, evalL T xs = some l → xs.map a.eval = l.map (mapV ρ) ∧ ∀ x ∈ l, ∀ i ∈ idsV x, i < n
  | [], l, hl => by simp [evalL] at hl; subst hl; simp
  | x :: r, l, hl => by
    simp only [evalL] at hl
    cases hx : evalO T x with
    | none => rw [hx] at hl; simp at hl
    | some v =>
      cases hr : evalL T r with
      | none => rw [hx, hr] at hl; simp at hl
      | some l' =>
        rw [hx, hr] at hl
        simp only [Option.some.injEq] at hl
        subst hl
        obtain ⟨h1, h2⟩ := evalO_sound h hx
        obtain ⟨h3, h4⟩ := evalL_sound h hr
        refine ⟨by simp [h1, h3], fun y hy => ?_⟩
        rcases List.mem_cons.1 hy with rfl | hy
        · exact h2
        · exact h4 y hy
theorem evalParts_sound {ρ : Ren} {n : Nat} {T : Tm} {a : Act} (h : RT ρ n T a) : ∀ {xs : List (Nat × Operand)} {l : List (Nat × Value)}, evalParts T xs = some l →
    xs.map (fun p => (p.1, a.eval p.2)) = l.map (fun p => (p.1, mapV ρ p.2)) ∧ ∀ p ∈ l, ∀ i ∈ idsV p.2, i < n
  | [], l, hl => by simp [evalParts] at hl; subst hl; simp
  | (j, x) :: r, l, hl => by
    simp only [evalParts] at hl
    cases hx : evalO T x with
    | none => rw [hx] at hl; simp at hl
    | some v =>
      cases hr : evalParts T r with
      | none => rw [hx, hr] at hl; simp at hl
      | some l' =>
        rw [hx, hr] at hl
        simp only [Option.some.injEq] at hl
        subst hl
        obtain ⟨h1, h2⟩ := evalO_sound h hx
        obtain ⟨h3, h4⟩ := evalParts_sound h hr
        refine ⟨by simp [h1, h3], fun y hy => ?_⟩
        rcases List.mem_cons.1 hy with rfl | hy
        · exact h2
        · exact h4 y hy
theorem evalM_sound {ρ : Ren} {n : Nat} {T : Tm} {a : Act} (h : RT ρ n T a) {x : Option Operand} {v : Option Value} (hx : evalM T x = some v) : x.map a.eval = v.map (mapV ρ) := by
  cases x with
  | none => simp [evalM] at hx; subst hx; rfl
  | some y =>
    simp only [evalM] at hx
    cases hy : evalO T y with
    | none => rw [hy] at hx; cases hx
    | some u =>
      rw [hy] at hx
      simp only [Option.map_some, Option.some.injEq] at hx
      subst hx
      simp [(evalO_sound h hy).1]

/-- an operation that is no call of a Go function: its value, and memory behind it -/
def evOp {P : Program} (C : Ctx P) (T : Tm) (H : Heap) (op : Op) : Option (Value × Heap) :=
  match op with
  | .move x => (evalO T x).map fun v => (v, H)
  | .assign x => (evalO T x).map fun v => (v, H)
  | .pick c x y => match evalO T c, evalO T x, evalO T y with
    | some (.bool t), some u, some v => some (if t = true then u else v, H)
    | _, _, _ => none
  | .alloc t => opAlloc P H t
  | .box t x => (evalO T x).bind fun v => opBox P H t v
  | .build t parts => (evalParts T parts.toList).bind fun ps => (opBuild P t ps).map fun v => (v, H)
  | .buildSlice t n parts => (evalParts T parts.toList).bind fun ps => opBuildSlice P H t n ps
  | .load t x => (evalO T x).bind fun a => (opLoad P H t a).map fun v => (v, H)
  | .store t x y => match evalO T x, evalO T y with
    | some a, some v => (opStore P H t a v).map fun H' => (undef, H')
    | _, _ => none
  | .nilCheck x => match evalO T x with
    | some (.pointer (some a)) => some (.pointer (some a), H)
    | _ => none
  | .binOp b t x y _ => match evalO T x, evalO T y with
    | some u, some v => (evBin C b t u v).map fun r => (r, H)
    | _, _ => none
  | .unOp u _ x => (evalO T x).bind fun v => (opUn u v).map fun r => (r, H)
  | .convert s d x => (evalO T x).bind fun v => (opConv P s d v).map fun r => (r, H)
  | .makeFunc fn first cap => match evalL T first.toList, evalL T cap.toList with
    | some l, some m => (opFunc fn l m).map fun r => (r, H)
    | _, _ => none
  | .makeSlice t l c => match evalO T l, evalO T c with
    | some u, some v => opMake P H t u v
    | _, _ => none
  | .slice t x lo hi none => match evalO T x, evalM T lo, evalM T hi with
    | some v, some l, some h => opSlice P H t v l h
    | _, _, _ => none
  | .fieldAddr t x f => (evalO T x).bind fun v => (opFldAddr P t v f).map fun r => (r, H)
  | .field t x f => (evalO T x).bind fun v => (opField P t v f).map fun r => (r, H)
  | .indexAddr t x i => match evalO T x, evalO T i with
    | some u, some v => (opIdxAddr P t u v).map fun r => (r, H)
    | _, _ => none
  | .index t x i => match evalO T x, evalO T i with
    | some u, some v => (opIndex P t u v).map fun r => (r, H)
    | _, _ => none
  | .extract x i => (evalO T x).bind fun v => (opExtract v i).map fun r => (r, H)
  | .call c => match c.callee with
    | .builtin .len => match c.args.toList, c.argTypes.toList with
      | [x], [t] => (evalO T x).bind fun v => (opLen P t v).map fun r => (r, H)
      | _, _ => none
    | .builtin .append => match c.args.toList, c.argTypes.toList with
      | [x, y], [t, t'] => if t = t' then (match evalO T x, evalO T y with
        | some u, some v => opAppend P H t u v
        | _, _ => none) else none
      | _, _ => none
    | .builtin .min => (evalL T c.args.toList).bind fun l => (opMin l).map fun r => (r, H)
    | .builtin .max => (evalL T c.args.toList).bind fun l => (opMax l).map fun r => (r, H)
    | _ => none
  | _ => none

theorem arr_map {α β : Type} {a : Array α} {f : α → β} {l : List β} (h : a.toList.map f = l) : a.map f = l.toArray := by
  apply Array.ext'
  simp [h]

/-- what one operation did -/
def Did (P : Program) (ρ : Ren) (H : Heap) (w : World) (x : Sem Next) (v : Value) (H' : Heap) : Prop :=
  ∃ ρ' w', (x.run P w = .ok (.value (mapV ρ' v)) w' ∨ (x.run P w = .ok .skip w' ∧ v = undef)) ∧ Adv P ρ H w ρ' H' w' ∧ ∀ i ∈ idsV v, i < H'.length

theorem Did.of_os {P : Program} {ρ : Ren} {H : Heap} {w : World} {x : Sem Value} {v : Value} {H' : Heap} (h : OS P ρ H w x v H') : Did P ρ H w (do pure (.value (← x))) v H' := by
  obtain ⟨ρ', w', h1, h2, h3⟩ := h
  exact ⟨ρ', w', Or.inl (by simp [h1]), h2, h3⟩
theorem Did.of_same {P : Program} {ρ : Ren} {H : Heap} {w : World} (hr : Rep P ρ H w) {x : Sem Value} {v : Value} (h : x.run P w = .ok (mapV ρ v) w) (hc : ∀ i ∈ idsV v, i < H.length) : Did P ρ H w (do pure (.value (← x))) v H :=
  Did.of_os (OS.pure hr h hc)
theorem flat_ids {v : Value} (h : flat v = true) {n : Nat} : ∀ i ∈ idsV v, i < n := by simp [idsV_flat h]

theorem evOp_sound {P : Program} {C : Ctx P} {ρ : Ren} {T : Tm} {H H' : Heap} {w : World} {a : Act} {o : Oper} {v : Value} (hr : Rep P ρ H w) (ht : RT ρ H.length T a) (ho : evOp C T H o.op = some (v, H')) :
    Did P ρ H w (execOp a.eval o) v H' := by
  obtain ⟨dst, op, ty, pos, after, guard⟩ := o
  have one : ∀ {x : Operand} {f : Value → Option Value} {v : Value} {H' : Heap}, ((evalO T x).bind fun u => (f u).map fun r => (r, H)) = some (v, H') → ∃ u, evalO T x = some u ∧ f u = some v ∧ H' = H := by
    intro x f v H' h
    cases hx : evalO T x with
    | none => rw [hx] at h; cases h
    | some u =>
      rw [hx] at h
      simp only [Option.bind_some] at h
      cases hf : f u with
      | none => rw [hf] at h; cases h
      | some r =>
        rw [hf] at h
        simp only [Option.map_some, Option.some.injEq, Prod.mk.injEq] at h
        exact ⟨u, rfl, by rw [hf, h.1], h.2.symm⟩
  have two : ∀ {x y : Operand} {f : Value → Value → Option Value} {v : Value} {H' : Heap}, (match evalO T x, evalO T y with
      | some u, some v => (f u v).map fun r => (r, H)
      | _, _ => none) = some (v, H') → ∃ u1 u2, evalO T x = some u1 ∧ evalO T y = some u2 ∧ f u1 u2 = some v ∧ H' = H := by
    intro x y f v H' h
    cases hx : evalO T x with
    | none => rw [hx] at h; simp at h
    | some u =>
      cases hy : evalO T y with
      | none => rw [hx, hy] at h; simp at h
      | some u2 =>
        rw [hx, hy] at h
        simp only at h
        cases hf : f u u2 with
        | none => rw [hf] at h; cases h
        | some r =>
          rw [hf] at h
          simp only [Option.map_some, Option.some.injEq, Prod.mk.injEq] at h
          exact ⟨u, u2, rfl, rfl, by rw [hf, h.1], h.2.symm⟩
  cases op <;> simp only [evOp] at ho <;> try (cases ho; done)
  case move x =>
    cases hx : evalO T x with
    | none => rw [hx] at ho; cases ho
    | some u =>
      rw [hx] at ho
      simp only [Option.map_some, Option.some.injEq, Prod.mk.injEq] at ho
      obtain ⟨rfl, rfl⟩ := ho
      obtain ⟨h1, h2⟩ := evalO_sound ht hx
      exact ⟨ρ, w, Or.inl (by simp [execOp, h1]), Adv.refl hr, h2⟩
  case assign x =>
    cases hx : evalO T x with
    | none => rw [hx] at ho; cases ho
    | some u =>
      rw [hx] at ho
      simp only [Option.map_some, Option.some.injEq, Prod.mk.injEq] at ho
      obtain ⟨rfl, rfl⟩ := ho
      obtain ⟨h1, h2⟩ := evalO_sound ht hx
      exact ⟨ρ, w, Or.inl (by simp [execOp, h1]), Adv.refl hr, h2⟩
  case pick c x y =>
    split at ho
    · rename_i t u1 u2 hc hx hy
      simp only [Option.some.injEq, Prod.mk.injEq] at ho
      obtain ⟨rfl, rfl⟩ := ho
      obtain ⟨c1, c2⟩ := evalO_sound ht hc
      obtain ⟨x1, x2⟩ := evalO_sound ht hx
      obtain ⟨y1, y2⟩ := evalO_sound ht hy
      refine ⟨ρ, w, Or.inl ?_, Adv.refl hr, ?_⟩
      · have : mapV ρ (.bool t) = .bool t := rfl
        simp only [execOp, c1, x1, y1, this, asBool, Sem.run_bind, Sem.run_pure, Result.andThen_ok]
        cases t <;> rfl
      · cases t
        · exact y2
        · exact x2
    · cases ho
  case alloc t =>
    exact Did.of_os (opAlloc_sound hr ho)
  case box t x =>
    cases hx : evalO T x with
    | none => rw [hx] at ho; cases ho
    | some u =>
      rw [hx] at ho
      obtain ⟨h1, h2⟩ := evalO_sound ht hx
      have := opBox_sound hr h2 ho
      rw [← h1] at this
      exact Did.of_os this
  case build t parts =>
    cases hx : evalParts T parts.toList with
    | none => rw [hx] at ho; cases ho
    | some ps =>
      rw [hx] at ho
      simp only [Option.bind_some] at ho
      cases hb : opBuild P t ps with
      | none => rw [hb] at ho; cases ho
      | some r =>
        rw [hb] at ho
        simp only [Option.map_some, Option.some.injEq, Prod.mk.injEq] at ho
        obtain ⟨rfl, rfl⟩ := ho
        obtain ⟨h1, h2⟩ := evalParts_sound ht hx
        obtain ⟨h3, h4⟩ := opBuild_sound (ρ := ρ) h2 hb w
        rw [← h1, ← arr_map (a := parts) rfl] at h3
        exact Did.of_same hr h3 h4
  case buildSlice t n parts =>
    cases hx : evalParts T parts.toList with
    | none => rw [hx] at ho; cases ho
    | some ps =>
      rw [hx] at ho
      simp only [Option.bind_some] at ho
      obtain ⟨h1, h2⟩ := evalParts_sound ht hx
      have h3 := opBuildSlice_sound hr h2 ho
      rw [← h1, ← arr_map (a := parts) rfl] at h3
      exact Did.of_os h3
  case load t x =>
    obtain ⟨u, hx, hf, rfl⟩ := one ho
    obtain ⟨h1, h2⟩ := evalO_sound ht hx
    have := opLoad_sound hr hf
    rw [← h1] at this
    exact Did.of_os this
  case store t x y =>
    split at ho
    · rename_i u1 u2 hx hy
      obtain ⟨x1, x2⟩ := evalO_sound ht hx
      obtain ⟨y1, y2⟩ := evalO_sound ht hy
      cases hs : opStore P H t u1 u2 with
      | none => rw [hs] at ho; cases ho
      | some H2 =>
        rw [hs] at ho
        simp only [Option.map_some, Option.some.injEq, Prod.mk.injEq] at ho
        obtain ⟨rfl, rfl⟩ := ho
        obtain ⟨w', h1, h2⟩ := opStore_sound hr y2 hs
        exact ⟨ρ, w', Or.inr ⟨by simp [execOp, x1, y1, h1], rfl⟩, h2, by simp [undef, idsV]⟩
    · cases ho
  case nilCheck x =>
    split at ho
    · rename_i ad hx
      simp only [Option.some.injEq, Prod.mk.injEq] at ho
      obtain ⟨rfl, rfl⟩ := ho
      obtain ⟨x1, x2⟩ := evalO_sound ht hx
      exact ⟨ρ, w, Or.inl (by simp [execOp, x1, mapV, mpV, mpA, mpS, mpP]), Adv.refl hr, x2⟩
    · cases ho
  case binOp b t x y yt =>
    obtain ⟨u1, u2, hx, hy, hf, rfl⟩ := two ho
    obtain ⟨x1, x2⟩ := evalO_sound ht hx
    obtain ⟨y1, y2⟩ := evalO_sound ht hy
    obtain ⟨h1, h2⟩ := evBin_sound (ρ := ρ) hf x y w
    rw [← x1, ← y1] at h1
    exact Did.of_same hr h1 (flat_ids h2)
  case unOp u t x =>
    obtain ⟨u1, hx, hf, rfl⟩ := one ho
    obtain ⟨x1, x2⟩ := evalO_sound ht hx
    obtain ⟨h1, h2⟩ := opUn_sound (P := P) (ρ := ρ) hf w
    rw [← x1] at h1
    exact Did.of_same hr h1 (flat_ids h2)
  case convert s d x =>
    obtain ⟨u1, hx, hf, rfl⟩ := one ho
    obtain ⟨x1, x2⟩ := evalO_sound ht hx
    obtain ⟨h1, h2⟩ := opConv_sound (ρ := ρ) hf w
    rw [← x1] at h1
    exact Did.of_same hr h1 (flat_ids h2)
  case makeFunc fn first cap =>
    split at ho
    · rename_i l m hl hm
      cases hf : opFunc fn l m with
      | none => rw [hf] at ho; cases ho
      | some r =>
        rw [hf] at ho
        simp only [Option.map_some, Option.some.injEq, Prod.mk.injEq] at ho
        obtain ⟨rfl, rfl⟩ := ho
        obtain ⟨l1, l2⟩ := evalL_sound ht hl
        obtain ⟨m1, m2⟩ := evalL_sound ht hm
        obtain ⟨h1, h2⟩ := opFunc_sound (P := P) (ρ := ρ) l2 m2 hf w
        rw [← arr_map l1, ← arr_map m1] at h1
        exact Did.of_same hr h1 h2
    · cases ho
  case makeSlice t l c =>
    split at ho
    · rename_i u1 u2 hx hy
      obtain ⟨x1, x2⟩ := evalO_sound ht hx
      obtain ⟨y1, y2⟩ := evalO_sound ht hy
      have := opMake_sound hr ho
      rw [← x1, ← y1] at this
      exact Did.of_os this
    · cases ho
  case slice t x lo hi mx =>
    cases mx with
    | some z => simp at ho
    | none =>
      simp only at ho
      split at ho
      · rename_i u l h hx hl hh
        obtain ⟨x1, x2⟩ := evalO_sound ht hx
        have := opSlice_sound hr x2 ho
        rw [← x1, ← evalM_sound ht hl, ← evalM_sound ht hh] at this
        exact Did.of_os this
      · cases ho
  case fieldAddr t x f =>
    obtain ⟨u1, hx, hf, rfl⟩ := one ho
    obtain ⟨x1, x2⟩ := evalO_sound ht hx
    obtain ⟨h1, h2⟩ := opFldAddr_sound (ρ := ρ) x2 hf w
    rw [← x1] at h1
    exact Did.of_same hr h1 h2
  case field t x f =>
    obtain ⟨u1, hx, hf, rfl⟩ := one ho
    obtain ⟨x1, x2⟩ := evalO_sound ht hx
    obtain ⟨h1, h2⟩ := opField_sound (ρ := ρ) x2 hf w
    rw [← x1] at h1
    exact Did.of_same hr h1 h2
  case indexAddr t x i =>
    obtain ⟨u1, u2, hx, hy, hf, rfl⟩ := two ho
    obtain ⟨x1, x2⟩ := evalO_sound ht hx
    obtain ⟨y1, y2⟩ := evalO_sound ht hy
    obtain ⟨h1, h2⟩ := opIdxAddr_sound (ρ := ρ) x2 hf w
    rw [← x1, ← y1] at h1
    exact Did.of_same hr h1 h2
  case index t x i =>
    obtain ⟨u1, u2, hx, hy, hf, rfl⟩ := two ho
    obtain ⟨x1, x2⟩ := evalO_sound ht hx
    obtain ⟨y1, y2⟩ := evalO_sound ht hy
    obtain ⟨h1, h2⟩ := opIndex_sound (ρ := ρ) x2 hf w
    rw [← x1, ← y1] at h1
    exact Did.of_same hr h1 h2
  case extract x i =>
    obtain ⟨u1, hx, hf, rfl⟩ := one ho
    obtain ⟨x1, x2⟩ := evalO_sound ht hx
    obtain ⟨h1, h2⟩ := opExtract_sound (P := P) (ρ := ρ) x2 hf w
    rw [← x1] at h1
    exact Did.of_same hr h1 h2
  case call c =>
    obtain ⟨callee, args, argTypes⟩ := c
    cases callee with
    | value f => simp at ho
    | invoke r m => simp at ho
    | builtin b =>
      have hres : ∀ (x : Sem Next), execOp a.eval ⟨dst, .call ⟨.builtin b, args, argTypes⟩, ty, pos, after, guard⟩ = builtin b argTypes ty (args.map fun | .const _ => true | _ => false) (args.map a.eval) := by
        intro x
        rfl
      cases b <;> simp only at ho <;> try (cases ho; done)
      case len =>
        split at ho
        · rename_i x t hxs hts
          obtain ⟨u1, hx, hf, rfl⟩ := one ho
          obtain ⟨x1, x2⟩ := evalO_sound ht hx
          obtain ⟨h1, h2⟩ := opLen_sound (ρ := ρ) (ty := ty) hf w
          rw [← x1] at h1
          have e1 : args.map a.eval = #[a.eval x] := arr_map (by rw [hxs]; rfl)
          have e2 : argTypes = #[t] := by apply Array.ext'; rw [hts]
          rw [hres (pure .skip), e1, e2]
          exact Did.of_same hr h1 (flat_ids h2)
        · cases ho
      case append =>
        split at ho
        · rename_i x y t t' hxs hts
          split at ho
          · rename_i htt
            subst htt
            split at ho
            · rename_i u1 u2 hx hy
              obtain ⟨x1, x2⟩ := evalO_sound ht hx
              obtain ⟨y1, y2⟩ := evalO_sound ht hy
              have := opAppend_sound (ty := ty) hr x2 ho
              rw [← x1, ← y1] at this
              have e1 : args.map a.eval = #[a.eval x, a.eval y] := arr_map (by rw [hxs]; rfl)
              have e2 : argTypes = #[t, t] := by apply Array.ext'; rw [hts]
              rw [hres (pure .skip), e1, e2]
              exact Did.of_os this
            · cases ho
          · cases ho
        · cases ho
      case min =>
        cases hl : evalL T args.toList with
        | none => rw [hl] at ho; cases ho
        | some l =>
          rw [hl] at ho
          simp only [Option.bind_some] at ho
          cases hm : opMin l with
          | none => rw [hm] at ho; cases ho
          | some r =>
            rw [hm] at ho
            simp only [Option.map_some, Option.some.injEq, Prod.mk.injEq] at ho
            obtain ⟨rfl, rfl⟩ := ho
            obtain ⟨l1, l2⟩ := evalL_sound ht hl
            obtain ⟨h1, h2⟩ := opMin_sound (P := P) (ρ := ρ) (ts := argTypes) (ty := ty) hm w
            rw [← arr_map l1] at h1
            rw [hres (pure .skip)]
            exact Did.of_same hr h1 (flat_ids h2)
      case max =>
        cases hl : evalL T args.toList with
        | none => rw [hl] at ho; cases ho
        | some l =>
          rw [hl] at ho
          simp only [Option.bind_some] at ho
          cases hm : opMax l with
          | none => rw [hm] at ho; cases ho
          | some r =>
            rw [hm] at ho
            simp only [Option.map_some, Option.some.injEq, Prod.mk.injEq] at ho
            obtain ⟨rfl, rfl⟩ := ho
            obtain ⟨l1, l2⟩ := evalL_sound ht hl
            obtain ⟨h1, h2⟩ := opMax_sound (P := P) (ρ := ρ) (ts := argTypes) (ty := ty) hm w
            rw [← arr_map l1] at h1
            rw [hres (pure .skip)]
            exact Did.of_same hr h1 (flat_ids h2)

end Go.Am
