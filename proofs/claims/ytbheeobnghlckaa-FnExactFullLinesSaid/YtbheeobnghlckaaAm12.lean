/- The frame of all our walks, part 12: a region whose order is open. No condition. -/
import Derived.Test.YtbheeobnghlckaaAm11
set_option linter.unusedVariables false
set_option linter.unusedSimpArgs false
namespace Go.Am
open Go.RowKit

/-! ### who must stand before whom -/
def maskOf (acc : List Nat) (o : Oper) : Nat :=
  o.after.toList.foldl (fun m e => if Region.binds .any e then m ||| ((1 <<< e.on) ||| acc.getD e.on 0) else m) 0
def masksGo : List Oper → List Nat → List Nat
  | [], acc => acc
  | o :: r, acc => masksGo r (acc ++ [maskOf acc o])
def reach (ms : List Nat) (i j : Nat) : Bool := (ms.getD j 0).testBit i

theorem maskOf_bit {acc : List Nat} {i : Nat} : ∀ {l : List Edge} {m0 : Nat}, (l.foldl (fun m e => if Region.binds .any e then m ||| ((1 <<< e.on) ||| acc.getD e.on 0) else m) m0).testBit i = true →
    m0.testBit i = true ∨ ∃ e ∈ l, Region.binds .any e = true ∧ (e.on = i ∨ (acc.getD e.on 0).testBit i = true)
  | [], m0, h => Or.inl h
  | e :: l, m0, h => by
    simp only [List.foldl_cons] at h
    rcases maskOf_bit h with h | ⟨e', he', h⟩
    · split at h
      · rename_i hb
        rw [Nat.testBit_or, Nat.testBit_or] at h
        simp only [Bool.or_eq_true] at h
        rcases h with h | h | h
        · exact Or.inl h
        · refine Or.inr ⟨e, by simp, hb, Or.inl ?_⟩
          rw [Nat.one_shiftLeft, Nat.testBit_two_pow] at h
          simpa using h
        · exact Or.inr ⟨e, by simp, hb, Or.inr h⟩
      · exact Or.inl h
    · exact Or.inr ⟨e', by simp [he'], h⟩

theorem masksGo_prefix : ∀ (l : List Oper) (acc : List Nat), ∃ t, masksGo l acc = acc ++ t
  | [], acc => ⟨[], by simp [masksGo]⟩
  | o :: r, acc => by
    obtain ⟨t, ht⟩ := masksGo_prefix r (acc ++ [maskOf acc o])
    exact ⟨maskOf acc o :: t, by simp [masksGo, ht]⟩

theorem masksGo_at : ∀ (l : List Oper) (acc : List Nat) (k : Nat) (o : Oper), l[k]? = some o → (masksGo l acc)[acc.length + k]? = some (maskOf ((masksGo l acc).take (acc.length + k)) o)
  | [], acc, k, o, h => by simp at h
  | u :: r, acc, 0, o, h => by
    simp only [List.getElem?_cons_zero, Option.some.injEq] at h
    subst h
    obtain ⟨t, ht⟩ := masksGo_prefix r (acc ++ [maskOf acc u])
    simp only [masksGo, Nat.add_zero]
    rw [ht]
    simp
  | u :: r, acc, k + 1, o, h => by
    have := masksGo_at r (acc ++ [maskOf acc u]) k o (by simpa using h)
    simp only [List.length_append, List.length_singleton] at this
    simp only [masksGo]
    rw [show acc.length + (k + 1) = acc.length + 1 + k by omega]
    exact this

theorem masksGo_length : ∀ (l : List Oper) (acc : List Nat), (masksGo l acc).length = acc.length + l.length
  | [], acc => by simp [masksGo]
  | o :: r, acc => by simp only [masksGo]; rw [masksGo_length r]; simp; omega

/-- whoever must stand before j does, in a set that is closed -/
theorem reach_spec {ops : Array Oper} {D : Nat → Prop} (hcl : ∀ (j : Nat) (o : Oper), ops[j]? = some o → D j → ∀ e ∈ o.after, Region.binds .any e = true → D e.on) :
    ∀ (j i : Nat) (o : Oper), ops[j]? = some o → (∀ e ∈ o.after, Region.binds .any e = true → D e.on) → reach (masksGo ops.toList []) i j = true → D i := by
  intro j
  induction j using Nat.strongRecOn with
  | _ j ih =>
    intro i o ho he hr
    have hat := masksGo_at ops.toList [] j o (by simpa using ho)
    simp only [List.length_nil, Nat.zero_add] at hat
    unfold reach at hr
    rw [List.getD_eq_getElem?_getD, hat] at hr
    simp only [Option.getD_some] at hr
    rcases maskOf_bit hr with h | ⟨e, hm, hb, h⟩
    · simp at h
    · have hm' : e ∈ o.after := by simpa using hm
      have hd := he e hm' hb
      rcases h with rfl | h
      · exact hd
      · have hlt : e.on < j := by
          rcases Nat.lt_or_ge e.on j with h' | h'
          · exact h'
          · rw [List.getD_eq_getElem?_getD, List.getElem?_eq_none (by simp; omega)] at h
            simp at h
        rw [List.getD_eq_getElem?_getD, List.getElem?_take_of_lt hlt, ← List.getD_eq_getElem?_getD] at h
        cases ho2 : ops[e.on]? with
        | none =>
          have : ops.size ≤ e.on := by
            rcases Nat.lt_or_ge e.on ops.size with h' | h'
            · simp [Array.getElem?_eq_getElem h'] at ho2
            · exact h'
          rw [List.getD_eq_getElem?_getD, List.getElem?_eq_none (by rw [masksGo_length]; simp; omega)] at h
          simp at h
        | some o2 => exact ih e.on hlt i o2 ho2 (fun e2 he2 hb2 => hcl e.on o2 ho2 hd e2 he2 hb2) h

/-! ### kinds of operations -/
def isPure : Op → Bool
  | .move _ | .assign _ | .pick .. | .build .. | .nilCheck _ | .binOp .. | .unOp .. | .convert .. | .makeFunc .. | .fieldAddr .. | .field .. | .indexAddr .. | .index .. | .extract .. => true
  | .call ⟨.builtin .len, _, _⟩ | .call ⟨.builtin .min, _, _⟩ | .call ⟨.builtin .max, _, _⟩ => true
  | _ => false
def isRead : Op → Bool
  | .load .. | .slice .. => true
  | _ => false

def clsOf {P : Program} (C : Ctx P) (o : Op) : Cls :=
  if isPure o then .P else if isRead o then .Q else
  match o with
  | .call ⟨.value (.func f), _, _⟩ => C.cc f
  | .call ⟨.value _, _, _⟩ => .Q
  | .alloc _ | .box .. | .makeSlice .. | .buildSlice .. => .N
  | _ => .S

theorem evOp_pure {P : Program} {C : Ctx P} {T : Tm} {H H' : Heap} {op : Op} {v : Value} (hp : isPure op = true) (h : evOp C T H op = some (v, H')) : H' = H ∧ ∀ H2, evOp C T H2 op = some (v, H2) := by
  have one : ∀ {α : Type} {x : Option α} {f : α → Option Value}, (x.bind fun u => (f u).map fun r => (r, H)) = some (v, H') → H' = H ∧ ∀ H2 : Heap, (x.bind fun u => (f u).map fun r => (r, H2)) = some (v, H2) := by
    intro α x f h
    cases x with
    | none => cases h
    | some u =>
      simp only [Option.bind_some] at h ⊢
      cases hf : f u with
      | none => rw [hf] at h; cases h
      | some r =>
        rw [hf] at h
        simp only [Option.map_some, Option.some.injEq, Prod.mk.injEq] at h
        exact ⟨h.2.symm, fun H2 => by simp [h.1]⟩
  have zero : ∀ {x : Option Value}, (x.map fun u => (u, H)) = some (v, H') → H' = H ∧ ∀ H2 : Heap, (x.map fun u => (u, H2)) = some (v, H2) := by
    intro x h
    cases x with
    | none => cases h
    | some u =>
      simp only [Option.map_some, Option.some.injEq, Prod.mk.injEq] at h
      exact ⟨h.2.symm, fun H2 => by simp [h.1]⟩
  cases op <;> simp only [isPure] at hp <;> try (cases hp; done)
  case move x => exact zero h
  case assign x => exact zero h
  case pick c x y =>
    simp only [evOp] at h ⊢
    split at h
    · rename_i t u1 u2 hc hx hy
      simp only [Option.some.injEq, Prod.mk.injEq] at h
      exact ⟨h.2.symm, fun H2 => by simp [hc, hx, hy, h.1]⟩
    · cases h
  case build t parts => exact one h
  case nilCheck x =>
    simp only [evOp] at h ⊢
    split at h
    · rename_i a hx
      simp only [Option.some.injEq, Prod.mk.injEq] at h
      exact ⟨h.2.symm, fun H2 => by simp [hx, h.1]⟩
    · cases h
  case binOp b t x y yt =>
    simp only [evOp] at h ⊢
    split at h
    · rename_i u1 u2 hx hy
      cases hf : evBin C b t u1 u2 with
      | none => rw [hf] at h; cases h
      | some r =>
        rw [hf] at h
        simp only [Option.map_some, Option.some.injEq, Prod.mk.injEq] at h
        exact ⟨h.2.symm, fun H2 => by simp [hx, hy, hf, h.1]⟩
    · cases h
  case unOp u t x => exact one h
  case convert s d x => exact one h
  case makeFunc fn first cap =>
    simp only [evOp] at h ⊢
    split at h
    · rename_i u1 u2 hx hy
      cases hf : opFunc fn u1 u2 with
      | none => rw [hf] at h; cases h
      | some r =>
        rw [hf] at h
        simp only [Option.map_some, Option.some.injEq, Prod.mk.injEq] at h
        exact ⟨h.2.symm, fun H2 => by simp [hx, hy, hf, h.1]⟩
    · cases h
  case fieldAddr t x f => exact one h
  case field t x f => exact one h
  case indexAddr t x i =>
    simp only [evOp] at h ⊢
    split at h
    · rename_i u1 u2 hx hy
      cases hf : opIdxAddr P t u1 u2 with
      | none => rw [hf] at h; cases h
      | some r =>
        rw [hf] at h
        simp only [Option.map_some, Option.some.injEq, Prod.mk.injEq] at h
        exact ⟨h.2.symm, fun H2 => by simp [hx, hy, hf, h.1]⟩
    · cases h
  case index t x i =>
    simp only [evOp] at h ⊢
    split at h
    · rename_i u1 u2 hx hy
      cases hf : opIndex P t u1 u2 with
      | none => rw [hf] at h; cases h
      | some r =>
        rw [hf] at h
        simp only [Option.map_some, Option.some.injEq, Prod.mk.injEq] at h
        exact ⟨h.2.symm, fun H2 => by simp [hx, hy, hf, h.1]⟩
    · cases h
  case extract x i => exact one h
  case call c =>
    obtain ⟨callee, args, argTypes⟩ := c
    cases callee with
    | value f => simp [isPure] at hp
    | invoke r m => simp [isPure] at hp
    | builtin b =>
      cases b <;> simp only [isPure] at hp <;> try (cases hp; done)
      case len =>
        simp only [evOp] at h ⊢
        split at h
        · rename_i x t hx ht
          exact one h
        · cases h
      case min => exact one h
      case max => exact one h

theorem row?_append {H E : Heap} {i : Nat} {r : Row} (h : row? H i = some r) : row? (H ++ E) i = some r := by
  have h' := row?_some h
  unfold row?
  rw [List.getElem?_append_left (lt_of_some h'), h']

theorem evOp_read {P : Program} {C : Ctx P} {T : Tm} {H E : Heap} {op : Op} {v : Value} (hp : isRead op = true) (h : evOp C T H op = some (v, H)) : evOp C T (H ++ E) op = some (v, H ++ E) := by
  cases op <;> simp only [isRead] at hp <;> try (cases hp; done)
  case load t x =>
    simp only [evOp] at h ⊢
    cases hx : evalO T x with
    | none => rw [hx] at h; cases h
    | some u =>
      rw [hx] at h
      simp only [Option.bind_some] at h ⊢
      cases hl : opLoad P H t u with
      | none => rw [hl] at h; cases h
      | some r =>
        rw [hl] at h
        simp only [Option.map_some, Option.some.injEq, Prod.mk.injEq] at h
        obtain ⟨rfl, _⟩ := h
        have : opLoad P (H ++ E) t u = some r := by
          unfold opLoad at hl ⊢
          split at hl
          · rename_i a
            split at hl
            · rename_i row ti hr hti
              simp only [row?_append hr, hti]
              exact hl
            · cases hl
          · cases hl
        simp [this]
  case slice t x lo hi mx =>
    simp only [evOp] at h ⊢
    cases mx with
    | some z => cases h
    | none =>
      simp only at h ⊢
      split at h
      · rename_i u l hh hx hl hhi
        unfold opSlice at h ⊢
        split at h
        · rename_i hti
          try simp only [hti]
          split at h
          · rename_i s
            try simp only
            split at h
            · rename_i l' h' e1 e2
              try simp only [e1, e2]
              split at h
              · rename_i hc
                simp only [Option.some.injEq, Prod.mk.injEq] at h
                simp [hc, h.1]
              · cases h
            · cases h
          · cases h
        · rename_i hti
          try simp only [hti]
          split at h
          · rename_i a
            try simp only
            split at h
            · rename_i r te hr hte
              try simp only [row?_append hr, hte]
              split at h
              · rename_i hc
                simp only [Option.some.injEq, Prod.mk.injEq] at h
                simp [hc, h.1]
              · cases h
            · cases h
          · cases h
        · rename_i hti
          try simp only [hti]
          split at h
          · try simp only
            split at h
            · rename_i te e1 e2 e3
              simp only [Option.some.injEq, Prod.mk.injEq] at h
              simp [e1, e2, e3, h.1]
            · cases h
          · rename_i a len c
            try simp only
            split at h
            · rename_i r te l' h' hr hte e1 e2
              try simp only [row?_append hr, hte, e1, e2]
              split at h
              · rename_i hc
                simp only [hc, and_self, if_true]
                split at h
                · rename_i hlt
                  simp only [Option.some.injEq, Prod.mk.injEq] at h
                  rw [if_pos hlt, ← h.1, hc.2.2.2.2.1]
                · simp only [Option.some.injEq, Prod.mk.injEq] at h
                  have := congrArg List.length h.2
                  simp at this
              · cases h
            · cases h
          · cases h
        · cases h
      · cases h

/-- a quiet call may be made where memory holds rows more -/
theorem Sound.ext {P : Program} {f : FuncId} {args : List Value} {H E : Heap} {v : Value} (h : Sound P f args H v H) (ha : ∀ x ∈ args, ∀ i ∈ idsV x, i < H.length)
    (hcl : ∀ (i : Nat) (r : Row), H[i]? = some (some r) → ∀ v ∈ r.cells, ∀ k ∈ idsS v, k < H.length) : Sound P f args (H ++ E) v (H ++ E) := by
  refine ⟨h.can, fun ρ w hr _ => ?_⟩
  have hsub : ∀ (i : Nat) (r : Row), H[i]? = some (some r) → (H ++ E)[i]? = some (some r) := fun i r hi => by rw [List.getElem?_append_left (lt_of_some hi)]; exact hi
  have hrep : Rep P ρ H w := ⟨fun i r hi => hr.row i r (hsub i r hi), fun i j r s hi hj => hr.sep i j r s (hsub i r hi) (hsub j s hj), hcl⟩
  refine (h.run ρ w hrep ha).mono fun e w' he => ?_
  obtain ⟨ρ', rfl, ad, hv⟩ := he
  have hag : ∀ i, i < H.length → ρ i = ρ' i := fun i hi => (ad.agree i hi).symm
  refine ⟨ρ, by rw [mapV_agree fun i hi => hag i (hv i hi)], ⟨fun _ _ => rfl, Nat.le_refl _, ⟨?_, hr.sep, hr.cl⟩, ad.os, ad.tape, ad.output, ad.size, ?_, fun i r hi hs => Or.inr ⟨i, r, hi, hs, rfl⟩⟩, fun i hi => by rw [List.length_append]; exact Nat.lt_of_lt_of_le (hv i hi) (Nat.le_add_right _ _)⟩
  · intro i r hi
    rcases Nat.lt_or_ge i H.length with hlt | hge
    · have hi' : H[i]? = some (some r) := by rw [List.getElem?_append_left hlt] at hi; exact hi
      have := ad.rep.row i r hi'
      rw [ad.agree i hlt] at this
      exact this.agree (hcl i r hi') hag
    · have hR := hr.row i r hi
      by_cases hw : ∃ (j : Nat) (s : Row), H[j]? = some (some s) ∧ s.wr = true ∧ (ρ j).blk = (ρ i).blk
      · obtain ⟨j, s, hj, hs, hb⟩ := hw
        have hjl := lt_of_some hj
        have hq : ¬ (r.wr = true ∨ r.cells ≠ []) := fun hq => hr.sep j i s r (hsub j s hj) hi hs hq (by omega) hb
        have hnil : r.cells = [] := Classical.byContradiction fun hn => hq (Or.inr hn)
        have hR2 := ad.rep.row j s hj
        rw [ad.agree j hjl, ] at hR2
        obtain ⟨⟨cur2, e2, fz2, hb2, _⟩, _⟩ := hR2
        obtain ⟨⟨cur, e, fz, hb1, hcu, hwr, hlen⟩, hsc⟩ := hR
        exact ⟨⟨cur2, e2, fz2, by rw [← hb]; exact hb2, (fun k v hv => by rw [hnil] at hv; simp at hv), (fun hw2 => absurd (Or.inl hw2) hq), hlen⟩, hsc⟩
      · refine hR.world (ad.frame _ hR.lt fun j s hj hs hb => hw ⟨j, s, hj, hs, hb⟩)
  · intro k hk hn
    exact ad.frame k hk fun i r hi hs => hn i r (hsub i r hi) hs

def Closed (H : Heap) : Prop := ∀ (i : Nat) (r : Row), H[i]? = some (some r) → ∀ v ∈ r.cells, ∀ k ∈ idsS v, k < H.length

/-- a call that leaves memory as it is, and asks for no more of it than its arguments lead to -/
def Quiet (P : Program) (f : FuncId) (args : List Value) (H : Heap) (v : Value) : Prop :=
  ∀ H0 E : Heap, H = H0 ++ E → Closed H0 → (∀ x ∈ args, ∀ i ∈ idsV x, i < H0.length) → Sound P f args H0 v H0

theorem row?_back {H E : Heap} {i : Nat} (h : i < H.length) : row? (H ++ E) i = row? H i := by
  unfold row?
  rw [List.getElem?_append_left h]

theorem evOp_read_back {P : Program} {C : Ctx P} {T : Tm} {H E : Heap} {op : Op} {v : Value} (hp : isRead op = true) (hids : ∀ (x : Operand) (u : Value), evalO T x = some u → ∀ i ∈ idsV u, i < H.length) (h : evOp C T (H ++ E) op = some (v, H ++ E)) : evOp C T H op = some (v, H) := by
  cases op with
  | load t x =>
    simp only [evOp] at h ⊢
    cases hx : evalO T x with
    | none => rw [hx] at h; cases h
    | some u =>
      rw [hx] at h
      simp only [Option.bind_some, Option.map_eq_some_iff, Prod.mk.injEq] at h ⊢
      obtain ⟨r, hr, rfl, _⟩ := h
      refine ⟨r, ?_, rfl, trivial⟩
      unfold opLoad at hr ⊢
      split at hr
      · rename_i a
        have := hids x _ hx a.block (by simp [idsV, idsA, idsS, idsP])
        rw [row?_back this] at hr
        exact hr
      · cases hr
  | slice t x lo hi mx =>
    cases mx with
    | some m => simp [evOp] at h
    | none =>
      simp only [evOp] at h ⊢
      cases hx : evalO T x with
      | none => rw [hx] at h; cases h
      | some u =>
        cases hl : evalM T lo with
        | none => rw [hx, hl] at h; cases h
        | some l =>
          cases hhi : evalM T hi with
          | none => rw [hx, hl, hhi] at h; cases h
          | some hh =>
            rw [hx, hl, hhi] at h
            simp only at h ⊢
            have key : ∀ a : Addr, a.block ∈ idsV u → row? (H ++ E) a.block = row? H a.block := fun a ha => row?_back (hids x u hx a.block ha)
            cases u with
            | pointer a =>
              cases a with
              | none => unfold opSlice at h ⊢; repeat' split at h <;> simp_all
              | some a =>
                have k := key a (by simp [idsV, idsA, idsS, idsP])
                unfold opSlice at h ⊢
                simp only [k] at h
                repeat' split at h
                all_goals simp_all
                all_goals (rw [← k]; simp_all)
            | slice a len c =>
              cases a with
              | none => unfold opSlice at h ⊢; repeat' split at h <;> simp_all
              | some a =>
                have k := key a (by simp [idsV, idsA, idsS, idsP])
                unfold opSlice at h ⊢
                simp only [k] at h
                repeat' split at h
                all_goals simp_all
            | _ =>
              unfold opSlice at h ⊢
              repeat' split at h
              all_goals simp_all
  | _ => simp [isRead] at hp

end Go.Am
