/- The frame of all our walks, part 16: the rules by which a walk is told step by step. No condition. -/
import Derived.Test.YtbheeobnghlckaaAm15
set_option linter.unusedVariables false
set_option linter.unusedSimpArgs false
namespace Go.Am
open Go.RowKit

/-- n slots, of which these are told -/
def mkT (n : Nat) (l : List (Nat × Value)) : Tm := (List.range n).map fun i => l.lookup i
def keepT (ks : List Nat) (T : Tm) : Tm := mkT T.length (ks.filterMap fun i => (getT T i).map fun v => (i, v))

theorem lookup_keep {T : Tm} {j : Nat} {v : Value} : ∀ {ks : List Nat}, (ks.filterMap fun i => (getT T i).map fun v => (i, v)).lookup j = some v → getT T j = some v
  | [], h => by simp at h
  | k :: r, h => by
    simp only [List.filterMap_cons] at h
    cases hk : getT T k with
    | none => rw [hk] at h; exact lookup_keep h
    | some u =>
      rw [hk] at h
      simp only [Option.map_some, List.lookup_cons] at h
      split at h
      · rename_i hb
        have : j = k := by simpa using hb
        subst this
        simp only [Option.some.injEq] at h
        subst h
        exact hk
      · exact lookup_keep h

theorem sub_keep (ks : List Nat) (T : Tm) : SubT (keepT ks T) T := by
  refine ⟨by simp [keepT, mkT], fun t v hv => ?_⟩
  unfold keepT mkT at hv
  rw [List.getElem?_map] at hv
  cases hr : (List.range T.length)[t]? with
  | none => rw [hr] at hv; cases hv
  | some j =>
    rw [hr] at hv
    have hlt := lt_of_some hr
    rw [List.getElem?_range (by simpa using hlt)] at hr
    simp only [Option.some.injEq] at hr
    subst hr
    simp only [Option.map_some, Option.some.injEq] at hv
    exact getT_some (lookup_keep hv)

section
variable {P : Program} {C : Ctx P}

/-! ### regions in the text's order -/
def evR (C : Ctx P) (ops : Array Oper) : Nat → List Oper → Tm → Heap → Option (Tm × Heap)
  | 0, _, T, H => some (T, H)
  | _ + 1, [], T, H => some (T, H)
  | k + 1, o :: r, T, H => match want? T ops o with
    | some true => match evOp C T H o.op with
      | some (v, H') => evR C ops k r (putT T o.dst v) H'
      | none => none
    | some false => evR C ops k r (putT T o.dst undef) H
    | none => none

theorem seg {ops : Array Oper} {K : Tm → Heap → Prop} {T1 : Tm} {H1 : Heap} : ∀ (k : Nat) {l : List Oper} {T : Tm} {H : Heap}, evR C ops k l T H = some (T1, H1) → sOps C ops (l.drop k) T1 H1 K → sOps C ops l T H K
  | 0, l, T, H, h, hk => by simp only [evR, Option.some.injEq, Prod.mk.injEq] at h; obtain ⟨rfl, rfl⟩ := h; exact hk
  | k + 1, [], T, H, h, hk => by simp only [evR, Option.some.injEq, Prod.mk.injEq] at h; obtain ⟨rfl, rfl⟩ := h; exact hk
  | k + 1, o :: r, T, H, h, hk => by
    simp only [evR] at h
    split at h
    · rename_i hw
      split at h
      · rename_i v H' he
        simp only [sOps, hw]
        exact ⟨fun _ => ⟨v, H', .op he, seg k h hk⟩, fun h => by cases h⟩
      · cases h
    · rename_i hw
      simp only [sOps, hw]
      exact ⟨fun h => (by cases h), fun _ => seg k h hk⟩
    · cases h

/-- the rest of a region, and what is kept -/
theorem segEnd {ops : Array Oper} {K : Exit → Tm → Heap → Prop} (ks : List Nat) {T1 : Tm} {H1 : Heap} {l : List Oper} {T : Tm} {H : Heap}
    (h : ((evR C ops l.length l T H).map fun p => (keepT ks p.1, p.2)) = some (T1, H1)) (hk : K .normal T1 H1) : sOps C ops l T H (Less K .normal) := by
  cases he : evR C ops l.length l T H with
  | none => rw [he] at h; cases h
  | some p =>
    rw [he] at h
    simp only [Option.map_some, Option.some.injEq, Prod.mk.injEq] at h
    obtain ⟨rfl, rfl⟩ := h
    refine seg l.length he ?_
    simp only [List.drop_length, sOps]
    exact ⟨_, sub_keep ks _, hk⟩

theorem rOp {ops : Array Oper} {K : Tm → Heap → Prop} {o : Oper} {r : List Oper} {T : Tm} {H H' : Heap} {v : Value} (hw : want? T ops o = some true) (he : evOp C T H o.op = some (v, H')) (hk : sOps C ops r (putT T o.dst v) H' K) : sOps C ops (o :: r) T H K := by
  simp only [sOps, hw]
  exact ⟨fun _ => ⟨v, H', .op he, hk⟩, fun h => by cases h⟩
theorem rCall {ops : Array Oper} {K : Tm → Heap → Prop} {o : Oper} {r : List Oper} {T : Tm} {H H' : Heap} {v : Value} {c : Call} {f : FuncId} {args : List Value} (hw : want? T ops o = some true) (ho : o.op = .call c) (hc : calleeOf T c = some (f, args))
    (hS : Sound P f args H v H') (hk : sOps C ops r (putT T o.dst v) H' K) : sOps C ops (o :: r) T H K := by
  simp only [sOps, hw]
  exact ⟨fun _ => ⟨v, H', .call c f args ho hc hS, hk⟩, fun h => by cases h⟩

/-! ### regions that draw their order -/
theorem evOp_slice_len {T : Tm} {H H' : Heap} {op : Op} {v : Value} (hr : isRead op = true) (h : evOp C T H op = some (v, H')) (hl : H'.length = H.length) : H' = H := by
  cases op with
  | load t x =>
    simp only [evOp, Option.bind_eq_some_iff, Option.map_eq_some_iff, Prod.mk.injEq] at h
    obtain ⟨_, _, _, _, _, rfl⟩ := h
    rfl
  | slice t x lo hi mx =>
    cases mx with
    | some m => simp [evOp] at h
    | none =>
      simp only [evOp] at h
      split at h
      · unfold opSlice at h
        repeat' split at h
        all_goals first
          | (simp only [Option.some.injEq, Prod.mk.injEq] at h; obtain ⟨_, rfl⟩ := h; rfl)
          | (simp only [Option.some.injEq, Prod.mk.injEq] at h; obtain ⟨_, rfl⟩ := h; simp at hl)
          | cases h
      · cases h
  | _ => simp [isRead] at hr

theorem evOp_new {T : Tm} {H H' : Heap} {op : Op} {v : Value} (hn : clsOf C op = .N) (h : evOp C T H op = some (v, H')) : ∃ E, H' = H ++ E := by
  unfold clsOf at hn
  split at hn
  · cases hn
  · split at hn
    · cases hn
    · split at hn
      · simp [evOp] at h
      · cases hn
      · simp only [evOp, opAlloc] at h
        repeat' split at h
        all_goals first
          | (simp only [Option.some.injEq, Prod.mk.injEq] at h; obtain ⟨_, rfl⟩ := h; exact ⟨_, rfl⟩)
          | cases h
      · simp only [evOp, opBox, Option.bind_eq_some_iff] at h
        obtain ⟨_, _, h⟩ := h
        split at h
        · simp only [Option.some.injEq, Prod.mk.injEq] at h; obtain ⟨_, rfl⟩ := h; exact ⟨_, rfl⟩
        · cases h
      · simp only [evOp, opMake] at h
        repeat' split at h
        all_goals first
          | (simp only [Option.some.injEq, Prod.mk.injEq] at h; obtain ⟨_, rfl⟩ := h; exact ⟨_, rfl⟩)
          | cases h
      · simp only [evOp, opBuildSlice, Option.bind_eq_some_iff] at h
        obtain ⟨_, _, h⟩ := h
        repeat' split at h
        all_goals first
          | (simp only [Option.map_eq_some_iff, Prod.mk.injEq] at h; obtain ⟨_, _, _, rfl⟩ := h; exact ⟨_, rfl⟩)
          | cases h
      · cases hn

theorem stepD_of {T : Tm} {H H' : Heap} {op : Op} {v : Value} (h : evOp C T H op = some (v, H')) (hq : clsOf C op = .Q → H'.length = H.length) : StepD C T H op v H' := by
  unfold StepD
  cases hc : clsOf C op with
  | P => exact h
  | S => exact .op h
  | N => obtain ⟨E, rfl⟩ := evOp_new hc h; exact ⟨E, rfl, .op h⟩
  | Q =>
    have hr : isRead op = true := by
      unfold clsOf at hc
      split at hc
      · cases hc
      · split at hc
        · assumption
        · split at hc <;> first
            | cases hc
            | skip
          all_goals simp [evOp] at h
    have := evOp_slice_len hr h (hq hc)
    subst this
    exact ⟨rfl, Or.inl ⟨hr, h⟩⟩

def evRD (C : Ctx P) (ops : Array Oper) : Nat → List Oper → Tm → Heap → Option (Tm × Heap)
  | 0, _, T, H => some (T, H)
  | _ + 1, [], T, H => some (T, H)
  | k + 1, o :: r, T, H => match want? T ops o with
    | some true => match evOp C T H o.op with
      | some (v, H') => if clsOf C o.op = .Q ∧ H'.length ≠ H.length then none else evRD C ops k r (putT T o.dst v) H'
      | none => none
    | some false => evRD C ops k r (putT T o.dst undef) H
    | none => none

theorem segD {ops : Array Oper} {K : Tm → Heap → Prop} {T1 : Tm} {H1 : Heap} : ∀ (k : Nat) {l : List Oper} {T : Tm} {H : Heap}, evRD C ops k l T H = some (T1, H1) → sOpsD C ops (l.drop k) T1 H1 K → sOpsD C ops l T H K
  | 0, l, T, H, h, hk => by simp only [evRD, Option.some.injEq, Prod.mk.injEq] at h; obtain ⟨rfl, rfl⟩ := h; exact hk
  | k + 1, [], T, H, h, hk => by simp only [evRD, Option.some.injEq, Prod.mk.injEq] at h; obtain ⟨rfl, rfl⟩ := h; exact hk
  | k + 1, o :: r, T, H, h, hk => by
    simp only [evRD] at h
    split at h
    · rename_i hw
      split at h
      · rename_i v H' he
        split at h
        · cases h
        · rename_i hq
          simp only [sOpsD, hw]
          exact ⟨fun _ => ⟨v, H', stepD_of he fun hc => Classical.byContradiction fun hn => hq ⟨hc, hn⟩, segD k h hk⟩, fun h => by cases h⟩
      · cases h
    · rename_i hw
      simp only [sOpsD, hw]
      exact ⟨fun h => (by cases h), fun _ => segD k h hk⟩
    · cases h
theorem segEndD {ops : Array Oper} {K : Exit → Tm → Heap → Prop} (ks : List Nat) {T1 : Tm} {H1 : Heap} {l : List Oper} {T : Tm} {H : Heap}
    (h : ((evRD C ops l.length l T H).map fun p => (keepT ks p.1, p.2)) = some (T1, H1)) (hk : K .normal T1 H1) : sOpsD C ops l T H (Less K .normal) := by
  cases he : evRD C ops l.length l T H with
  | none => rw [he] at h; cases h
  | some p =>
    rw [he] at h
    simp only [Option.map_some, Option.some.injEq, Prod.mk.injEq] at h
    obtain ⟨rfl, rfl⟩ := h
    refine segD l.length he ?_
    simp only [List.drop_length, sOpsD]
    exact ⟨_, sub_keep ks _, hk⟩
theorem rOpD {ops : Array Oper} {K : Tm → Heap → Prop} {o : Oper} {r : List Oper} {T : Tm} {H H' : Heap} {v : Value} (hw : want? T ops o = some true) (he : evOp C T H o.op = some (v, H')) (hq : (clsOf C o.op != .Q || H'.length == H.length) = true) (hk : sOpsD C ops r (putT T o.dst v) H' K) : sOpsD C ops (o :: r) T H K := by
  simp only [sOpsD, hw]
  exact ⟨fun _ => ⟨v, H', stepD_of he fun hc => by simpa [hc] using hq, hk⟩, fun h => by cases h⟩

/-- a quiet call: it leaves memory as it is -/
theorem rCallQ {ops : Array Oper} {K : Tm → Heap → Prop} {o : Oper} {r : List Oper} {T : Tm} {H : Heap} {v : Value} {c : Call} {f : FuncId} {args : List Value} (hw : want? T ops o = some true) (ho : o.op = .call c) (hcls : clsOf C (.call c) = .Q) (hc : calleeOf T c = some (f, args))
    (hids : (args.all fun x => (idsV x).all fun i => decide (i < H.length)) = true) (hS : Quiet P f args H v) (hk : sOpsD C ops r (putT T o.dst v) H K) : sOpsD C ops (o :: r) T H K := by
  simp only [sOpsD, hw]
  refine ⟨fun _ => ⟨v, H, ?_, hk⟩, fun h => by cases h⟩
  unfold StepD
  rw [ho, hcls]
  refine ⟨rfl, Or.inr ⟨c, f, args, rfl, hc, hS, fun x hx i hi => ?_⟩⟩
  simp only [List.all_eq_true, decide_eq_true_eq] at hids
  exact hids x hx i hi
theorem rCallN {ops : Array Oper} {K : Tm → Heap → Prop} {o : Oper} {r : List Oper} {T : Tm} {H E : Heap} {v : Value} {c : Call} {f : FuncId} {args : List Value} (hw : want? T ops o = some true) (ho : o.op = .call c) (hcls : clsOf C (.call c) = .N) (hc : calleeOf T c = some (f, args))
    (hS : Sound P f args H v (H ++ E)) (hk : sOpsD C ops r (putT T o.dst v) (H ++ E) K) : sOpsD C ops (o :: r) T H K := by
  simp only [sOpsD, hw]
  refine ⟨fun _ => ⟨v, H ++ E, ?_, hk⟩, fun h => by cases h⟩
  unfold StepD
  rw [ho, hcls]
  exact ⟨E, rfl, .call c f args rfl hc hS⟩
theorem rCallS {ops : Array Oper} {K : Tm → Heap → Prop} {o : Oper} {r : List Oper} {T : Tm} {H H' : Heap} {v : Value} {c : Call} {f : FuncId} {args : List Value} (hw : want? T ops o = some true) (ho : o.op = .call c) (hcls : clsOf C (.call c) = .S) (hc : calleeOf T c = some (f, args))
    (hS : Sound P f args H v H') (hk : sOpsD C ops r (putT T o.dst v) H' K) : sOpsD C ops (o :: r) T H K := by
  simp only [sOpsD, hw]
  refine ⟨fun _ => ⟨v, H', ?_, hk⟩, fun h => by cases h⟩
  unfold StepD
  rw [ho, hcls]
  exact .call c f args rfl hc hS

/-! ### code -/
variable {n : Nat} {T : Tm} {H : Heap} {K : Exit → Tm → Heap → Prop}
theorem cSkip (h : K .normal T H) : sC C n .skip T H K := h
theorem cReg {id : Nat} {ops : Array Oper} (h : sOps C ops ops.toList T H (Less K .normal)) : sC C n (.region id ops false) T H K := h
theorem cRegD {id : Nat} {ops : Array Oper} (h0 : regionOK C ops = true) (h : sOpsD C ops ops.toList T H (Less K .normal)) : sC C n (.region id ops true) T H K := Or.inl ⟨h0, h⟩
theorem cSeq {a b : Code} (h : sC C n a T H (seqK (fun T' H' => sC C n b T' H' K) K)) : sC C n (.seq a b) T H K := h
theorem cCond {c : Operand} {a b : Code} (t : Bool) (h : evalO T c = some (.bool t)) (h1 : t = true → sC C n a T H K) (h2 : t = false → sC C n b T H K) : sC C n (.cond c a b) T H K := ⟨t, h, h1, h2⟩
theorem cTrue {c : Operand} {a b : Code} (h : evalO T c = some (.bool true)) (h1 : sC C n a T H K) : sC C n (.cond c a b) T H K := ⟨true, h, fun _ => h1, fun h => by cases h⟩
theorem cFalse {c : Operand} {a b : Code} (h : evalO T c = some (.bool false)) (h1 : sC C n b T H K) : sC C n (.cond c a b) T H K := ⟨false, h, fun h => (by cases h), fun _ => h1⟩
theorem cBlk {id : Nat} {c : Code} (h : sC C n c T H (blkK id K)) : sC C n (.block id c) T H K := h
theorem cLoop {c : Code} (I : Nat → Tm → Heap → Prop) (m : Nat) (T1 : Tm) (H1 : Heap) (hw : WkAny n T H T1 H1) (hI : I m T1 H1) (h : ∀ m T H, I m T H → sC C n c T H (loopK n I m K)) : sC C n (.loop c) T H K := ⟨I, m, T1, H1, hw, hI, h⟩
theorem cExit {id : Nat} (h : K (.exit id) T H) : sC C n (.exit id) T H K := h
theorem cRet (h : K .ret T H) : sC C n .ret T H K := h

theorem kSeq {f : Tm → Heap → Prop} (h : f T H) : seqK f K .normal T H := h
theorem kSeqE {f : Tm → Heap → Prop} {i : Nat} (h : K (.exit i) T H) : seqK f K (.exit i) T H := h
theorem kSeqR {f : Tm → Heap → Prop} (h : K .ret T H) : seqK f K .ret T H := h
theorem kBlk {id : Nat} (h : K .normal T H) : blkK id K .normal T H := h
theorem kBlkHit {id : Nat} (h : K .normal T H) : blkK id K (.exit id) T H := by simp only [blkK, if_true]; exact h
theorem kBlkMiss {id i : Nat} (hn : (i == id) = false) (h : K (.exit i) T H) : blkK id K (.exit i) T H := by
  simp only [blkK]; rw [if_neg (by simpa using hn)]; exact h
theorem kBlkR {id : Nat} (h : K .ret T H) : blkK id K .ret T H := h
theorem kLoopE {I : Nat → Tm → Heap → Prop} {m i : Nat} (h : K (.exit i) T H) : loopK n I m K (.exit i) T H := h
theorem kLoopR {I : Nat → Tm → Heap → Prop} {m : Nat} (h : K .ret T H) : loopK n I m K .ret T H := h
theorem kLoop {I : Nat → Tm → Heap → Prop} {m : Nat} (m' : Nat) (T1 : Tm) (H1 : Heap) (hlt : m' < m) (hw : WkAny n T H T1 H1) (hI : I m' T1 H1) : loopK n I m K .normal T H := ⟨m', T1, H1, hlt, hw, hI⟩
end

/-! ### weakening -/
theorem wkSame {n : Nat} {T : Tm} {H : Heap} {T' : Tm} (ks : List Nat) (h : keepT ks T = T') : WkAny n T H T' H := Or.inl ⟨h ▸ sub_keep ks T, rfl⟩

def idsLt (k : Nat) (T : Tm) : Bool := T.all fun o => match o with
  | some v => (idsV v).all fun i => decide (i < k)
  | none => true
theorem idsLt_spec {k : Nat} {T : Tm} (h : idsLt k T = true) (t : Nat) (v : Value) (hv : T[t]? = some (some v)) : ∀ i ∈ idsV v, i < k := by
  intro i hi
  simp only [idsLt, List.all_eq_true] at h
  have := h (some v) (List.mem_of_getElem? hv)
  simp only [List.all_eq_true, decide_eq_true_eq] at this
  exact this i hi

/-- a row without addresses -/
def FlatRow (r : Row) : Prop := ∀ v ∈ r.cells, idsS v = [] ∧ ∀ m : Mp, mpS m v = v
/-- all rows but the dead ones bear no addresses -/
def FlatH (H : Heap) : Prop := ∀ r, some r ∈ H → FlatRow r
theorem FlatH.nil : FlatH [] := fun r h => by simp at h
theorem FlatH.cons {r : Row} {H : Heap} (h : FlatRow r) (hH : FlatH H) : FlatH (some r :: H) := fun s hs => by
  rcases List.mem_cons.1 hs with hs | hs
  · simp only [Option.some.injEq] at hs; subst hs; exact h
  · exact hH s hs
theorem FlatH.dead {H : Heap} (hH : FlatH H) : FlatH (none :: H) := fun s hs => by
  rcases List.mem_cons.1 hs with hs | hs
  · cases hs
  · exact hH s hs
theorem FlatH.closed {H : Heap} (h : FlatH H) : Closed H := fun i r hi v hv k hk => by
  rw [(h r (List.mem_of_getElem? hi) v hv).1] at hk
  cases hk
theorem FlatRow.ren {r : Row} (h : FlatRow r) (σ : Nat → Nat) : renRow σ r = r := by
  unfold renRow
  have : r.cells.map (mpS (renId σ)) = r.cells := by
    conv => rhs; rw [← List.map_id r.cells]
    exact List.map_congr_left fun v hv => (h v hv).2 _
  rw [this]
theorem flatRow_of {r : Row} (h : r.cells.all flat = true) : FlatRow r := fun v hv => by
  have := (List.all_eq_true.1 h) v hv
  exact ⟨idsS_flat this, fun m => mpS_flat this⟩

theorem wkDrop {n : Nat} {T : Tm} {H H' : Heap} {T' : Tm} (ks : List Nat) (E : Heap) (hE : H = H' ++ E) (hn : (decide (n ≤ H'.length)) = true) (hc : Closed H') (h : keepT ks T = T') (hi : idsLt H'.length T' = true) : WkAny n T H T' H' :=
  Or.inr (Or.inl ⟨h ▸ sub_keep ks T, ⟨E, hE⟩, by simpa using hn, hc, idsLt_spec hi⟩)

end Go.Am
