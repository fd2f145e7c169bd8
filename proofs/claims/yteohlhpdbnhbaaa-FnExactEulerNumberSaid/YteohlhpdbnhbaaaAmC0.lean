/- Part of the proof, merged out of smaller texts. No condition. -/
import Derived.Below
import Derived.Orders
import Derived.Laws.Cells
import Derived.Laws.CopyRow
import Derived.Laws.Tables
import Derived.Laws.MakeOwn
import Derived.Laws.OwnMore
import Derived.Laws.Rows
import Derived.Laws.StructEq
import Derived.Deep.LoopGhost
import Derived.Tactics
set_option linter.unusedVariables false
set_option linter.unusedSimpArgs false
namespace Go.Am
structure Loc where
  blk : Nat
  off : Nat
  cap : Nat
abbrev Ren := Nat → Loc
structure Mp where
  fa : Addr → Addr
  fc : Nat → Nat → Nat
def mpP (m : Mp) : Value → Value
  | .pointer (some a) => .pointer (some (m.fa a))
  | .slice (some a) n c => .slice (some (m.fa a)) n (m.fc a.block c)
  | v => v
def mpS (m : Mp) : Value → Value
  | .func fn first cap => .func fn (first.map (mpP m)) (cap.map (mpP m))
  | v => mpP m v
def mpA (m : Mp) : Value → Value
  | .agg cs => .agg (cs.map (mpS m))
  | v => mpS m v
def mpV (m : Mp) : Value → Value
  | .tuple vs => .tuple (vs.map (mpA m))
  | v => mpA m v
def toReal (ρ : Ren) : Mp := ⟨fun a => ⟨(ρ a.block).blk, (ρ a.block).off + a.off, none⟩, fun b c => (ρ b).cap - c⟩
def renId (σ : Nat → Nat) : Mp := ⟨fun a => ⟨σ a.block, a.off, none⟩, fun _ c => c⟩
abbrev mapS (ρ : Ren) := mpS (toReal ρ)
abbrev mapA (ρ : Ren) := mpA (toReal ρ)
abbrev mapV (ρ : Ren) := mpV (toReal ρ)
def idsP : Value → List Nat
  | .pointer (some a) => [a.block]
  | .slice (some a) _ _ => [a.block]
  | _ => []
def idsS : Value → List Nat
  | .func _ first cap => (first.toList ++ cap.toList).flatMap idsP
  | v => idsP v
def idsA : Value → List Nat
  | .agg cs => cs.toList.flatMap idsS
  | v => idsS v
def idsV : Value → List Nat
  | .tuple vs => vs.toList.flatMap idsA
  | v => idsA v
theorem mpP_congr {m m' : Mp} {v : Value} (h : ∀ a c, a.block ∈ idsP v → m.fa a = m'.fa a ∧ m.fc a.block c = m'.fc a.block c) : mpP m v = mpP m' v := by
  unfold mpP
  split
  · rename_i a; rw [(h a 0 (by simp [idsP])).1]
  · rename_i a n c; rw [(h a c (by simp [idsP])).1, (h a c (by simp [idsP])).2]
  · rfl
theorem mpS_congr {m m' : Mp} {v : Value} (h : ∀ a c, a.block ∈ idsS v → m.fa a = m'.fa a ∧ m.fc a.block c = m'.fc a.block c) : mpS m v = mpS m' v := by
  cases v with
  | func fn first cap =>
    simp only [mpS]
    rw [Array.map_congr_left (xs := first) (f := mpP m) (g := mpP m') fun x hx => mpP_congr fun a c ha => h a c (by simp [idsS]; exact Or.inl ⟨x, hx, ha⟩),
      Array.map_congr_left (xs := cap) (f := mpP m) (g := mpP m') fun x hx => mpP_congr fun a c ha => h a c (by simp [idsS]; exact Or.inr ⟨x, hx, ha⟩)]
  | _ => exact mpP_congr (by simpa [idsS] using h)
theorem mpA_congr {m m' : Mp} {v : Value} (h : ∀ a c, a.block ∈ idsA v → m.fa a = m'.fa a ∧ m.fc a.block c = m'.fc a.block c) : mpA m v = mpA m' v := by
  cases v with
  | agg cs =>
    simp only [mpA]
    rw [Array.map_congr_left (xs := cs) (f := mpS m) (g := mpS m') fun x hx => mpS_congr fun a c ha => h a c (by simp [idsA]; exact ⟨x, hx, ha⟩)]
  | _ => exact mpS_congr (by simpa [idsA] using h)
theorem mpV_congr {m m' : Mp} {v : Value} (h : ∀ a c, a.block ∈ idsV v → m.fa a = m'.fa a ∧ m.fc a.block c = m'.fc a.block c) : mpV m v = mpV m' v := by
  cases v with
  | tuple vs =>
    simp only [mpV]
    rw [Array.map_congr_left (xs := vs) (f := mpA m) (g := mpA m') fun x hx => mpA_congr fun a c ha => h a c (by simp [idsV]; exact ⟨x, hx, ha⟩)]
  | _ => exact mpA_congr (by simpa [idsV] using h)
theorem toReal_agree {ρ ρ' : Ren} {l : List Nat} (h : ∀ i ∈ l, ρ' i = ρ i) : ∀ (a : Addr) (c : Nat), a.block ∈ l → (toReal ρ').fa a = (toReal ρ).fa a ∧ (toReal ρ').fc a.block c = (toReal ρ).fc a.block c := by
  intro a c ha
  simp [toReal, h _ ha]
theorem mapS_agree {ρ ρ' : Ren} {v : Value} (h : ∀ i ∈ idsS v, ρ' i = ρ i) : mapS ρ' v = mapS ρ v := mpS_congr (toReal_agree h)
theorem mapV_agree {ρ ρ' : Ren} {v : Value} (h : ∀ i ∈ idsV v, ρ' i = ρ i) : mapV ρ' v = mapV ρ v := mpV_congr (toReal_agree h)
theorem mpP_ren (ρ : Ren) (σ : Nat → Nat) (v : Value) : mpP (toReal ρ) (mpP (renId σ) v) = mpP (toReal (fun i => ρ (σ i))) v := by
  cases v with
  | pointer a => cases a <;> rfl
  | slice a n c => cases a <;> rfl
  | _ => rfl
theorem mpS_ren (ρ : Ren) (σ : Nat → Nat) (v : Value) : mpS (toReal ρ) (mpS (renId σ) v) = mpS (toReal (fun i => ρ (σ i))) v := by
  cases v with
  | func fn first cap => simp [mpS, Function.comp_def, mpP_ren]
  | pointer a => cases a <;> rfl
  | slice a n c => cases a <;> rfl
  | _ => rfl
theorem mpA_ren (ρ : Ren) (σ : Nat → Nat) (v : Value) : mpA (toReal ρ) (mpA (renId σ) v) = mpA (toReal (fun i => ρ (σ i))) v := by
  cases v with
  | agg cs => simp [mpA, Function.comp_def, mpS_ren]
  | pointer a => cases a <;> rfl
  | slice a n c => cases a <;> rfl
  | func fn first cap => exact mpS_ren ρ σ (.func fn first cap)
  | _ => rfl
theorem mpV_ren (ρ : Ren) (σ : Nat → Nat) (v : Value) : mpV (toReal ρ) (mpV (renId σ) v) = mpV (toReal (fun i => ρ (σ i))) v := by
  cases v with
  | tuple vs => simp [mpV, Function.comp_def, mpA_ren]
  | pointer a => cases a <;> rfl
  | slice a n c => cases a <;> rfl
  | func fn first cap => exact mpA_ren ρ σ (.func fn first cap)
  | agg cs => exact mpA_ren ρ σ (.agg cs)
  | _ => rfl
def scal : Value → Bool
  | .agg _ | .tuple _ => false
  | _ => true
theorem scal_mpS (m : Mp) (v : Value) : scal (mpS m v) = scal v := by
  cases v with
  | pointer a => cases a <;> rfl
  | slice a n c => cases a <;> rfl
  | _ => rfl
theorem oneCell_of_scal {v : Value} (h : scal v = true) : v.oneCell' = true := by
  cases v <;> first | rfl | simp [scal] at h
theorem mapA_scal {m : Mp} {v : Value} (h : scal v = true) : mpA m v = mpS m v := by
  cases v <;> first | rfl | simp [scal] at h
theorem mapV_scal {m : Mp} {v : Value} (h : scal v = true) : mpV m v = mpS m v := by
  cases v <;> first | rfl | simp [scal] at h
theorem idsV_scal {v : Value} (h : scal v = true) : idsV v = idsS v := by
  cases v <;> first | rfl | simp [scal] at h
theorem idsA_scal {v : Value} (h : scal v = true) : idsA v = idsS v := by
  cases v <;> first | rfl | simp [scal] at h
def flat : Value → Bool
  | .bool _ | .int _ _ | .string _ | .pointer none | .slice none _ _ | .nilFunc | .nilIface | .map none => true
  | _ => false
theorem mpS_flat {m : Mp} {v : Value} (h : flat v = true) : mpS m v = v := by
  unfold flat at h
  split at h <;> first | rfl | cases h
theorem idsS_flat {v : Value} (h : flat v = true) : idsS v = [] := by
  unfold flat at h
  split at h <;> first | rfl | cases h
theorem scal_flat {v : Value} (h : flat v = true) : scal v = true := by
  unfold flat at h
  split at h <;> first | rfl | cases h
theorem mpV_flat {m : Mp} {v : Value} (h : flat v = true) : mpV m v = v := by rw [mapV_scal (scal_flat h), mpS_flat h]
theorem idsV_flat {v : Value} (h : flat v = true) : idsV v = [] := by rw [idsV_scal (scal_flat h), idsS_flat h]
inductive TK where
  | bool | int (k : IntKind) | string | func | other
  | ptr (e : TypeId)
  | slice (e : TypeId)
  | array (n : Nat) (e : TypeId)
  | struct (fs : List (Nat × TypeId))
structure TI where
  kd : TK
  size : Nat
  bytes : Nat
  zero : Value
def tkOf : TypeDesc → TK
  | .bool => .bool
  | .int k => .int k
  | .string => .string
  | .pointer e => .ptr e
  | .slice e => .slice e
  | .array n e => .array n e
  | .struct fs => .struct (fs.toList.map fun f => (f.offset, f.type))
  | .func .. => .func
  | _ => .other
def tiOf (P : Program) (t : TypeId) : Option TI :=
  match P.info? t with
  | none => none
  | some i => match P.underlying t, i.zero with
    | some d, some z => some ⟨tkOf d, i.size, i.bytes, z⟩
    | _, _ => none
theorem tiOf_spec {P : Program} {t : TypeId} {x : TI} (h : tiOf P t = some x) : ∃ i d, P.info? t = some i ∧ P.underlying t = some d ∧ i.zero = some x.zero ∧ i.size = x.size ∧ i.bytes = x.bytes ∧ tkOf d = x.kd := by
  unfold tiOf at h
  split at h
  · cases h
  · rename_i i hi
    split at h
    · rename_i d z hd hz
      simp only [Option.some.injEq] at h
      subst h
      exact ⟨i, d, hi, hd, hz, rfl, rfl, rfl⟩
    · cases h
def TK.isAgg : TK → Bool
  | .array .. | .struct _ => true
  | _ => false
theorem tk_array {d : TypeDesc} {n e} (h : tkOf d = .array n e) : d = .array n e := by
  cases d <;> simp [tkOf] at h; obtain ⟨rfl, rfl⟩ := h; rfl
theorem tk_slice {d : TypeDesc} {e} (h : tkOf d = .slice e) : d = .slice e := by
  cases d <;> simp [tkOf] at h; subst h; rfl
theorem tk_int {d : TypeDesc} {k} (h : tkOf d = .int k) : d = .int k := by
  cases d <;> simp [tkOf] at h; subst h; rfl
theorem tk_string {d : TypeDesc} (h : tkOf d = .string) : d = .string := by
  cases d <;> simp [tkOf] at h; rfl
theorem tk_struct {d : TypeDesc} {fs} (h : tkOf d = .struct fs) : ∃ gs : Array Field, d = .struct gs ∧ fs = gs.toList.map fun f => (f.offset, f.type) := by
  cases d <;> simp [tkOf] at h
  exact ⟨_, rfl, h.symm⟩
section
variable {P : Program} (w : World)
theorem run_isAgg {t : TypeId} {x : TI} (h : tiOf P t = some x) : (isAgg t).run P w = .ok x.kd.isAgg w := by
  obtain ⟨i, d, hi, hd, _, _, _, hk⟩ := tiOf_spec h
  rw [← hk]
  simp only [isAgg, Sem.run_bind, run_underlying hd, Result.andThen_ok]
  cases d <;> rfl
theorem run_size {t : TypeId} {x : TI} (h : tiOf P t = some x) : (sizeOf t).run P w = .ok x.size w := by
  obtain ⟨i, d, hi, hd, _, hs, _, hk⟩ := tiOf_spec h
  simp [sizeOf, typeInfo, hi, hs]
theorem run_zero {t : TypeId} {x : TI} (h : tiOf P t = some x) : (zeroValue t).run P w = .ok x.zero w := by
  obtain ⟨i, d, hi, hd, hz, hs, _, hk⟩ := tiOf_spec h
  simp [zeroValue, typeInfo, hi, hz]
end
structure Row where
  cells : List Value
  elem : TypeId
  box : Bool
  wr : Bool
abbrev Heap := List (Option Row)
def boxCap (P : Program) (t : TypeId) : Nat :=
  match P.underlying t with
  | some (.array n _) => n
  | _ => 1
structure RepRow (P : Program) (ρ : Ren) (w : World) (l : Loc) (r : Row) : Prop where
  at_ : ∃ cur e fz, w.heap[l.blk]? = some (.cells cur e fz) ∧ (∀ j v, r.cells[j]? = some v → cur[l.off + j]? = some (mapS ρ v)) ∧
    (r.wr = true → l.off = 0 ∧ e = r.elem ∧ fz = (0, 0) ∧ (r.box = false → l.cap ≤ maxLen ∧ cur.size = l.cap * P.cellsOf r.elem) ∧ (r.box = true → l.cap = boxCap P r.elem)) ∧
    (r.box = false → r.cells.length ≤ l.cap * P.cellsOf r.elem)
  scal : ∀ v ∈ r.cells, scal v = true
structure Rep (P : Program) (ρ : Ren) (H : Heap) (w : World) : Prop where
  row : ∀ (i : Nat) (r : Row), H[i]? = some (some r) → RepRow P ρ w (ρ i) r
  sep : ∀ (i j : Nat) (r s : Row), H[i]? = some (some r) → H[j]? = some (some s) → r.wr = true → (s.wr = true ∨ s.cells ≠ []) → i ≠ j → (ρ i).blk ≠ (ρ j).blk
  cl : ∀ (i : Nat) (r : Row), H[i]? = some (some r) → ∀ v ∈ r.cells, ∀ k ∈ idsS v, k < H.length
structure Adv (P : Program) (ρ : Ren) (H : Heap) (w : World) (ρ' : Ren) (H' : Heap) (w' : World) : Prop where
  agree : ∀ i, i < H.length → ρ' i = ρ i
  len : H.length ≤ H'.length
  rep : Rep P ρ' H' w'
  os : w'.os = w.os
  tape : w'.tape = w.tape
  output : w'.output = w.output
  size : w.heap.size ≤ w'.heap.size
  frame : ∀ k, k < w.heap.size → (∀ (i : Nat) (r : Row), H[i]? = some (some r) → r.wr = true → (ρ i).blk ≠ k) → w'.heap[k]? = w.heap[k]?
  fresh : ∀ (i : Nat) (r : Row), H'[i]? = some (some r) → r.wr = true → w.heap.size ≤ (ρ' i).blk ∨ ∃ (j : Nat) (s : Row), H[j]? = some (some s) ∧ s.wr = true ∧ (ρ j).blk = (ρ' i).blk
theorem RepRow.lt {P : Program} {ρ : Ren} {w : World} {l : Loc} {r : Row} (h : RepRow P ρ w l r) : l.blk < w.heap.size := by
  obtain ⟨cur, e, fz, hb, _⟩ := h.at_
  exact (Array.getElem?_eq_some_iff.1 hb).1
theorem Adv.refl {P : Program} {ρ : Ren} {H : Heap} {w : World} (h : Rep P ρ H w) : Adv P ρ H w ρ H w :=
  ⟨fun _ _ => rfl, Nat.le_refl _, h, rfl, rfl, rfl, Nat.le_refl _, fun _ _ _ => rfl, fun i r hi hr => Or.inr ⟨i, r, hi, hr, rfl⟩⟩
theorem Adv.trans {P : Program} {ρ ρ' ρ'' : Ren} {H H' H'' : Heap} {w w' w'' : World} (a : Adv P ρ H w ρ' H' w') (b : Adv P ρ' H' w' ρ'' H'' w'') : Adv P ρ H w ρ'' H'' w'' := by
  refine ⟨fun i hi => (b.agree i (Nat.lt_of_lt_of_le hi a.len)).trans (a.agree i hi), Nat.le_trans a.len b.len, b.rep, b.os.trans a.os, b.tape.trans a.tape, b.output.trans a.output, Nat.le_trans a.size b.size, ?_, ?_⟩
  · intro k hk hn
    refine (b.frame k (Nat.lt_of_lt_of_le hk a.size) ?_).trans (a.frame k hk hn)
    intro i r hi hr
    rcases a.fresh i r hi hr with h | ⟨j, s, hj, hs, he⟩
    · omega
    · rw [← he]; exact hn j s hj hs
  · intro i r hi hr
    rcases b.fresh i r hi hr with h | ⟨j, s, hj, hs, he⟩
    · exact Or.inl (Nat.le_trans a.size h)
    · rcases a.fresh j s hj hs with h | ⟨j', s', hj', hs', he'⟩
      · exact Or.inl (he ▸ h)
      · exact Or.inr ⟨j', s', hj', hs', he'.trans he⟩
end Go.Am
set_option linter.unusedVariables false
set_option linter.unusedSimpArgs false
namespace Go.Am
open Go.RowKit
def updR (ρ : Ren) (n : Nat) (l : Loc) : Ren := fun i => if i = n then l else ρ i
theorem updR_lt {ρ : Ren} {n : Nat} {l : Loc} {i : Nat} (h : i < n) : updR ρ n l i = ρ i := by
  unfold updR; rw [if_neg (by omega)]
theorem updR_eq {ρ : Ren} {n : Nat} {l : Loc} : updR ρ n l n = l := by unfold updR; rw [if_pos rfl]
theorem RepRow.agree {P : Program} {ρ ρ' : Ren} {w : World} {l : Loc} {r : Row} {n : Nat} (h : RepRow P ρ w l r) (hcl : ∀ v ∈ r.cells, ∀ k ∈ idsS v, k < n) (ha : ∀ i, i < n → ρ' i = ρ i) : RepRow P ρ' w l r := by
  obtain ⟨⟨cur, e, fz, hb, hc, hw, hl⟩, hs⟩ := h
  refine ⟨⟨cur, e, fz, hb, fun j v hv => ?_, hw, hl⟩, hs⟩
  rw [hc j v hv, mapS_agree fun i hi => ha i (hcl v (List.mem_of_getElem? hv) i hi)]
theorem getElem?_snoc {α : Type} {l : List α} {x : α} {i : Nat} {y : α} (h : (l ++ [x])[i]? = some y) : (i < l.length ∧ l[i]? = some y) ∨ (i = l.length ∧ x = y) := by
  rcases Nat.lt_or_ge i l.length with hi | hi
  · rw [List.getElem?_append_left hi] at h; exact Or.inl ⟨hi, h⟩
  · rw [List.getElem?_append_right hi] at h
    obtain ⟨k, rfl⟩ : ∃ k, i = l.length + k := ⟨i - l.length, by omega⟩
    rw [Nat.add_sub_cancel_left] at h
    cases k with
    | zero => exact Or.inr ⟨rfl, by simpa using h⟩
    | succ k => simp at h
theorem lt_of_some {α : Type} {l : List α} {i : Nat} {y : α} (h : l[i]? = some y) : i < l.length := (List.getElem?_eq_some_iff.1 h).1
theorem RepRow.world {P : Program} {ρ : Ren} {w w' : World} {l : Loc} {r : Row} (h : RepRow P ρ w l r) (hb : w'.heap[l.blk]? = w.heap[l.blk]?) : RepRow P ρ w' l r := by
  obtain ⟨⟨cur, e, fz, hb', rest⟩, hs⟩ := h
  exact ⟨⟨cur, e, fz, hb.trans hb', rest⟩, hs⟩
theorem adv_push {P : Program} {ρ : Ren} {H : Heap} {w w' : World} (h : Rep P ρ H w) (r : Row) (cs : Array Value) (cap : Nat)
    (hos : w'.os = w.os) (htape : w'.tape = w.tape) (hout : w'.output = w.output) (hheap : w'.heap = w.heap.push (.cells cs r.elem))
    (hc : ∀ (j : Nat) (v : Value), r.cells[j]? = some v → cs[j]? = some (mapS ρ v)) (hcl : ∀ v ∈ r.cells, ∀ k ∈ idsS v, k < H.length) (hsc : ∀ v ∈ r.cells, scal v = true)
    (hsz : r.box = false → cap ≤ maxLen ∧ cs.size = cap * P.cellsOf r.elem) (hbx : r.box = true → cap = boxCap P r.elem) :
    Adv P ρ H w (updR ρ H.length ⟨w.heap.size, 0, cap⟩) (H ++ [some r]) w' := by
  have hold : ∀ k, k < w.heap.size → w'.heap[k]? = w.heap[k]? := fun k hk => by
    rw [hheap, Array.getElem?_push, if_neg (by omega)]
  have hnew : w'.heap[w.heap.size]? = some (.cells cs r.elem) := by rw [hheap, Array.getElem?_push, if_pos rfl]
  have hlt : ∀ (i : Nat) (s : Row), H[i]? = some (some s) → (ρ i).blk < w.heap.size := fun i s hi => (h.row i s hi).lt
  refine ⟨fun i hi => updR_lt hi, by simp, ⟨?_, ?_, ?_⟩, hos, htape, hout, by rw [hheap]; simp, fun k hk _ => hold k hk, ?_⟩
  · intro i s hi
    rcases getElem?_snoc hi with ⟨hl, hi⟩ | ⟨rfl, he⟩
    · rw [updR_lt hl]
      exact ((h.row i s hi).agree (h.cl i s hi) fun j hj => updR_lt hj).world (hold _ (hlt i s hi))
    · simp only [Option.some.injEq] at he
      subst he
      rw [updR_eq]
      refine ⟨⟨cs, r.elem, (0, 0), hnew, fun j v hv => ?_, fun _ => ⟨rfl, rfl, rfl, hsz, hbx⟩, fun hb => ?_⟩, hsc⟩
      · show cs[0 + j]? = _
        rw [Nat.zero_add, hc j v hv, mapS_agree fun k hk => updR_lt (hcl v (List.mem_of_getElem? hv) k hk)]
      · have h2 := (hsz hb).2
        show r.cells.length ≤ cap * P.cellsOf r.elem
        rw [← h2]
        rcases Nat.lt_or_ge cs.size r.cells.length with hgt | hge
        · have hv : r.cells[cs.size]? = some r.cells[cs.size] := List.getElem?_eq_getElem hgt
          have := hc _ _ hv
          simp at this
        · exact hge
  · intro i j s t hi hj hs ht hij
    rcases getElem?_snoc hi with ⟨hl, hi⟩ | ⟨rfl, he⟩ <;> rcases getElem?_snoc hj with ⟨hl', hj⟩ | ⟨rfl, he'⟩
    · rw [updR_lt hl, updR_lt hl']; exact h.sep i j s t hi hj hs ht hij
    · rw [updR_lt hl, updR_eq]; have := hlt i s hi; show (ρ i).blk ≠ w.heap.size; omega
    · rw [updR_eq, updR_lt hl']; have := hlt j t hj; show w.heap.size ≠ (ρ j).blk; omega
    · exact absurd rfl hij
  · intro i s hi v hv k hk
    rw [List.length_append]
    rcases getElem?_snoc hi with ⟨hl, hi⟩ | ⟨rfl, he⟩
    · have := h.cl i s hi v hv k hk; omega
    · simp only [Option.some.injEq] at he
      subst he
      have := hcl v hv k hk; omega
  · intro i s hi hs
    rcases getElem?_snoc hi with ⟨hl, hi⟩ | ⟨rfl, he⟩
    · exact Or.inr ⟨i, s, hi, hs, by rw [updR_lt hl]⟩
    · rw [updR_eq]; exact Or.inl (Nat.le_refl _)
theorem set_none {H : Heap} {i j : Nat} {s : Row} {x : Option Row} (h : (H.set i x)[j]? = some (some s)) : (j = i ∧ x = some s ∧ i < H.length) ∨ (j ≠ i ∧ H[j]? = some (some s)) := by
  rcases Nat.decEq j i with hne | heq
  · rw [List.getElem?_set_ne (Ne.symm hne)] at h; exact Or.inr ⟨hne, h⟩
  · subst heq
    have hlt : j < (H.set j x).length := lt_of_some h
    rw [List.length_set] at hlt
    rw [List.getElem?_set_self hlt] at h
    exact Or.inl ⟨rfl, by simpa using h, hlt⟩
theorem adv_kill {P : Program} {ρ : Ren} {H : Heap} {w : World} (h : Rep P ρ H w) (i : Nat) : Adv P ρ H w ρ (H.set i none) w := by
  have hk : ∀ (j : Nat) (s : Row), (H.set i none)[j]? = some (some s) → H[j]? = some (some s) := fun j s hj => by
    rcases set_none hj with ⟨_, h0, _⟩ | ⟨_, h1⟩
    · cases h0
    · exact h1
  exact ⟨fun _ _ => rfl, by simp, ⟨fun j s hj => h.row j s (hk j s hj), fun j k s t hj hk' => h.sep j k s t (hk j s hj) (hk k t hk'), fun j s hj v hv x hx => by
    rw [List.length_set]; exact h.cl j s (hk j s hj) v hv x hx⟩, rfl, rfl, rfl, Nat.le_refl _, fun _ _ _ => rfl, fun j s hj hs => Or.inr ⟨j, s, hk j s hj, hs, rfl⟩⟩
theorem adv_move {P : Program} {ρ : Ren} {H : Heap} {w : World} (h : Rep P ρ H w) (i : Nat) (r : Row) (hi : H[i]? = some (some r)) :
    Adv P ρ H w (updR ρ H.length (ρ i)) (H.set i none ++ [some r]) w := by
  have hil : i < H.length := lt_of_some hi
  have hlen : (H.set i none).length = H.length := by simp
  have hk : ∀ (j : Nat) (s : Row), (H.set i none ++ [some r])[j]? = some (some s) → (j < H.length ∧ j ≠ i ∧ H[j]? = some (some s)) ∨ (j = H.length ∧ s = r) := fun j s hj => by
    rcases getElem?_snoc hj with ⟨hl, hj⟩ | ⟨rfl, he⟩
    · rw [hlen] at hl
      rcases set_none hj with ⟨_, h0, _⟩ | ⟨h0, h1⟩
      · cases h0
      · exact Or.inl ⟨hl, h0, h1⟩
    · simp only [Option.some.injEq] at he
      exact Or.inr ⟨hlen, he.symm⟩
  refine ⟨fun j hj => updR_lt hj, by simp, ⟨?_, ?_, ?_⟩, rfl, rfl, rfl, Nat.le_refl _, fun _ _ _ => rfl, ?_⟩
  · intro j s hj
    rcases hk j s hj with ⟨hl, hne, hj⟩ | ⟨rfl, rfl⟩
    · rw [updR_lt hl]; exact (h.row j s hj).agree (h.cl j s hj) fun k hk => updR_lt hk
    · rw [updR_eq]; exact (h.row i s hi).agree (h.cl i s hi) fun k hk => updR_lt hk
  · intro j k s t hj hk' hs ht hjk
    rcases hk j s hj with ⟨hl, hne, hj1⟩ | ⟨rfl, rfl⟩ <;> rcases hk k t hk' with ⟨hl', hne', hk1⟩ | ⟨rfl, rfl⟩
    · rw [updR_lt hl, updR_lt hl']; exact h.sep j k s t hj1 hk1 hs ht hjk
    · rw [updR_lt hl, updR_eq]; exact h.sep j i s _ hj1 hi hs ht hne
    · rw [updR_eq, updR_lt hl']; exact h.sep i k _ t hi hk1 hs ht (Ne.symm hne')
    · exact absurd rfl hjk
  · intro j s hj v hv x hx
    rw [List.length_append, hlen]
    rcases hk j s hj with ⟨hl, hne, hj⟩ | ⟨rfl, rfl⟩
    · have := h.cl j s hj v hv x hx; omega
    · have := h.cl i s hi v hv x hx; omega
  · intro j s hj hs
    rcases hk j s hj with ⟨hl, hne, hj⟩ | ⟨rfl, rfl⟩
    · exact Or.inr ⟨j, s, hj, hs, by rw [updR_lt hl]⟩
    · exact Or.inr ⟨i, s, hi, hs, by rw [updR_eq]⟩
theorem setRow_other (w : World) (g : Nat) (cs : Array Value) (k : Nat) (h : k ≠ g) : (w.setRow g cs).heap[k]? = w.heap[k]? := by
  simp only [World.setRow, Array.getElem?_modify]
  rw [if_neg (by omega)]
theorem adv_store {P : Program} {ρ : Ren} {H : Heap} {w : World} (h : Rep P ρ H w) (i : Nat) (r : Row) (hi : H[i]? = some (some r)) (hw : r.wr = true)
    (cells' : List Value) (cs' : Array Value) (hsize : ∀ cur e fz, w.heap[(ρ i).blk]? = some (.cells cur e fz) → cs'.size = cur.size)
    (hc : ∀ (j : Nat) (v : Value), cells'[j]? = some v → cs'[j]? = some (mapS ρ v)) (hcl : ∀ v ∈ cells', ∀ k ∈ idsS v, k < H.length) (hsc : ∀ v ∈ cells', scal v = true) :
    Adv P ρ H w ρ (H.set i (some { r with cells := cells' })) (w.setRow (ρ i).blk cs') := by
  obtain ⟨⟨cur, e, fz, hb, hcu, hwr, hle⟩, hs0⟩ := h.row i r hi
  obtain ⟨h0, he, hf, hbx, hbx'⟩ := hwr hw
  have hsz := hsize _ _ _ hb
  have hrow := setRow_heap w (ρ i).blk cur cs' e fz hb
  have hil : i < H.length := lt_of_some hi
  refine ⟨fun _ _ => rfl, by simp, ⟨?_, ?_, ?_⟩, rfl, rfl, rfl, by simp [World.setRow], ?_, ?_⟩
  · intro j s hj
    rcases set_none hj with ⟨rfl, h1, _⟩ | ⟨hne, hj⟩
    · simp only [Option.some.injEq] at h1
      subst h1
      refine ⟨⟨cs', e, fz, hrow, (fun k v hv => by rw [h0, Nat.zero_add]; exact hc k v hv), fun _ => ⟨h0, he, hf, fun hb => ⟨(hbx hb).1, hsz.trans (hbx hb).2⟩, hbx'⟩, fun hb => ?_⟩, hsc⟩
      have h2 := (hbx hb).2
      show cells'.length ≤ (ρ j).cap * P.cellsOf r.elem
      rw [← h2, ← hsz]
      rcases Nat.lt_or_ge cs'.size cells'.length with hgt | hge
      · have hv : cells'[cs'.size]? = some cells'[cs'.size] := List.getElem?_eq_getElem hgt
        have := hc _ _ hv
        simp at this
      · exact hge
    · by_cases hblk : (ρ j).blk = (ρ i).blk
      · have hq : ¬ (s.wr = true ∨ s.cells ≠ []) := fun hq => h.sep i j r s hi hj hw hq (Ne.symm hne) hblk.symm
        obtain ⟨⟨cur2, e2, fz2, hb2, hcu2, hwr2, hle2⟩, hs2⟩ := h.row j s hj
        have hnil : s.cells = [] := Classical.byContradiction fun hn => hq (Or.inr hn)
        refine ⟨⟨cs', e, fz, by rw [hblk]; exact hrow, (fun k v hv => by rw [hnil] at hv; simp at hv), fun hw2 => absurd (Or.inl hw2) hq, hle2⟩, hs2⟩
      · exact (h.row j s hj).world (setRow_other _ _ _ _ hblk)
  · intro j k s t hj hk hs ht hjk
    rcases set_none hj with ⟨rfl, h1, _⟩ | ⟨hne, hj1⟩ <;> rcases set_none hk with ⟨rfl, h2, _⟩ | ⟨hne', hk1⟩
    · exact absurd rfl hjk
    · exact h.sep j k r t hi hk1 hw ht hjk
    · exact h.sep j k s r hj1 hi hs (Or.inl hw) hjk
    · exact h.sep j k s t hj1 hk1 hs ht hjk
  · intro j s hj v hv x hx
    rw [List.length_set]
    rcases set_none hj with ⟨rfl, h1, _⟩ | ⟨hne, hj⟩
    · simp only [Option.some.injEq] at h1
      subst h1
      exact hcl v hv x hx
    · exact h.cl j s hj v hv x hx
  · intro k hk hn
    exact setRow_other _ _ _ _ (fun e => hn i r hi hw e.symm)
  · intro j s hj hs
    rcases set_none hj with ⟨rfl, h1, _⟩ | ⟨hne, hj⟩
    · exact Or.inr ⟨j, r, hi, hw, rfl⟩
    · exact Or.inr ⟨j, s, hj, hs, rfl⟩
theorem adv_drew {P : Program} {ρ : Ren} {H : Heap} {w : World} (h : Rep P ρ H w) (w' : World) (hos : w'.os = w.os) (htape : w'.tape = w.tape) (hout : w'.output = w.output) (hheap : w'.heap = w.heap) : Adv P ρ H w ρ H w' := by
  refine ⟨fun _ _ => rfl, Nat.le_refl _, ⟨fun i r hi => (h.row i r hi).world (by rw [hheap]), h.sep, h.cl⟩, hos, htape, hout, by rw [hheap]; exact Nat.le_refl _, fun _ _ _ => by rw [hheap], fun i r hi hr => Or.inr ⟨i, r, hi, hr, rfl⟩⟩
theorem adv_view {P : Program} {ρ : Ren} {H : Heap} {w : World} (h : Rep P ρ H w) (i : Nat) (r : Row) (hi : H[i]? = some (some r)) (l : Loc) (hl : l.blk = (ρ i).blk) (e : TypeId) :
    Adv P ρ H w (updR ρ H.length l) (H ++ [some ⟨[], e, false, false⟩]) w := by
  refine ⟨fun j hj => updR_lt hj, by simp, ⟨?_, ?_, ?_⟩, rfl, rfl, rfl, Nat.le_refl _, fun _ _ _ => rfl, ?_⟩
  · intro j s hj
    rcases getElem?_snoc hj with ⟨hl', hj⟩ | ⟨rfl, he⟩
    · rw [updR_lt hl']; exact (h.row j s hj).agree (h.cl j s hj) fun k hk => updR_lt hk
    · simp only [Option.some.injEq] at he
      subst he
      rw [updR_eq]
      obtain ⟨⟨cur, e', fz, hb, _⟩, _⟩ := h.row i r hi
      exact ⟨⟨cur, e', fz, by rw [hl]; exact hb, (fun j v hv => by simp at hv), (fun hw => by cases hw), (fun _ => by simp)⟩, (fun v hv => by simp at hv)⟩
  · intro j k s t hj hk hs ht hjk
    rcases getElem?_snoc hj with ⟨hl1, hj⟩ | ⟨rfl, he⟩
    · rcases getElem?_snoc hk with ⟨hl2, hk⟩ | ⟨rfl, he'⟩
      · rw [updR_lt hl1, updR_lt hl2]; exact h.sep j k s t hj hk hs ht hjk
      · simp only [Option.some.injEq] at he'
        subst he'
        rcases ht with ht | ht
        · cases ht
        · exact absurd rfl ht
    · simp only [Option.some.injEq] at he
      subst he
      cases hs
  · intro j s hj v hv x hx
    rw [List.length_append]
    rcases getElem?_snoc hj with ⟨hl', hj⟩ | ⟨rfl, he⟩
    · have := h.cl j s hj v hv x hx; omega
    · simp only [Option.some.injEq] at he
      subst he
      simp at hv
  · intro j s hj hs
    rcases getElem?_snoc hj with ⟨hl', hj⟩ | ⟨rfl, he⟩
    · exact Or.inr ⟨j, s, hj, hs, by rw [updR_lt hl']⟩
    · simp only [Option.some.injEq] at he
      subst he
      cases hs
end Go.Am
set_option linter.unusedVariables false
set_option linter.unusedSimpArgs false
namespace Go.Am
open Go.RowKit
abbrev Tm := List (Option Value)
def getT (T : Tm) (t : Nat) : Option Value :=
  match T[t]? with
  | some (some v) => some v
  | _ => none
def evalO (T : Tm) : Operand → Option Value
  | .tmp t => getT T t
  | .const v => if flat v then some v else none
  | .func f => some (.func (.func f) #[] #[])
  | .global _ => none
structure RT (ρ : Ren) (n : Nat) (T : Tm) (a : Act) : Prop where
  size : a.tmps.size = T.length
  at_ : ∀ (t : Nat) (v : Value), T[t]? = some (some v) → a.tmps[t]? = some (mapV ρ v)
  cl : ∀ (t : Nat) (v : Value), T[t]? = some (some v) → ∀ i ∈ idsV v, i < n
theorem evalO_sound {ρ : Ren} {n : Nat} {T : Tm} {a : Act} (h : RT ρ n T a) {x : Operand} {v : Value} (hv : evalO T x = some v) :
    a.eval x = mapV ρ v ∧ ∀ i ∈ idsV v, i < n := by
  cases x with
  | tmp t =>
    simp only [evalO, getT] at hv
    split at hv
    · rename_i u hu
      simp only [Option.some.injEq] at hv
      subst hv
      have := h.at_ t u hu
      exact ⟨by simp [Act.eval, Array.getD_eq_getD_getElem?, this], h.cl t u hu⟩
    · cases hv
  | const u =>
    simp only [evalO] at hv
    split at hv
    · rename_i hf
      simp only [Option.some.injEq] at hv
      subst hv
      exact ⟨by rw [mapV, mpV_flat hf]; rfl, by simp [idsV_flat hf]⟩
    · cases hv
  | func f =>
    simp only [evalO, Option.some.injEq] at hv
    subst hv
    exact ⟨by simp [Act.eval, mapV, mpV, mpA, mpS], by simp [idsV, idsA, idsS]⟩
  | global g => simp [evalO] at hv
def pscal : Value → Bool
  | .agg _ | .tuple _ | .func .. => false
  | _ => true
theorem mapV_pscal {m : Mp} {v : Value} (h : pscal v = true) : mpV m v = mpP m v := by
  cases v <;> first | rfl | simp [pscal] at h
theorem idsV_pscal {v : Value} (h : pscal v = true) : idsV v = idsP v := by
  cases v <;> first | rfl | simp [pscal] at h
theorem cells_mapV {m : Mp} {v : Value} (h : v.cells.all scal = true) : (mpV m v).cells = v.cells.map (mpS m) := by
  cases v with
  | agg cs => rfl
  | tuple vs => simp [Value.cells, scal] at h
  | pointer a => cases a <;> simp [Value.cells, mpV, mpA, mpS, mpP]
  | slice a n c => cases a <;> simp [Value.cells, mpV, mpA, mpS, mpP]
  | _ => simp [Value.cells, mpV, mpA, mpS, mpP]
theorem ids_cells {v : Value} (h : v.cells.all scal = true) : ∀ c ∈ v.cells.toList, ∀ i ∈ idsS c, i ∈ idsV v := by
  cases v with
  | agg cs => intro c hc i hi; simp only [idsV, idsA, List.mem_flatMap]; exact ⟨c, hc, hi⟩
  | tuple vs => simp [Value.cells, scal] at h
  | _ => intro c hc i hi; simp [Value.cells] at hc; subst hc; simpa [idsV, idsA] using hi
def evInt (op : BinOp) (k : IntKind) (a b : Int) : Option Value :=
  match op with
  | .add => some (.int k (k.wrap (a + b)))
  | .sub => some (.int k (k.wrap (a - b)))
  | .mul => some (.int k (k.wrap (a * b)))
  | .quo => if b = 0 then none else some (.int k (k.wrap (a.tdiv b)))
  | .rem => if b = 0 then none else some (.int k (a.tmod b))
  | .and => some (.int k (k.wrap (BitVec.ofInt k.bits a &&& BitVec.ofInt k.bits b).toNat))
  | .or => some (.int k (k.wrap (BitVec.ofInt k.bits a ||| BitVec.ofInt k.bits b).toNat))
  | .xor => some (.int k (k.wrap (BitVec.ofInt k.bits a ^^^ BitVec.ofInt k.bits b).toNat))
  | .andNot => some (.int k (k.wrap (BitVec.ofInt k.bits a &&& ~~~BitVec.ofInt k.bits b).toNat))
  | .eql => some (.bool (a == b))
  | .neq => some (.bool (a != b))
  | .lss => some (.bool (decide (a < b)))
  | .leq => some (.bool (decide (a ≤ b)))
  | .gtr => some (.bool (decide (a > b)))
  | .geq => some (.bool (decide (a ≥ b)))
  | _ => none
def evStr (op : BinOp) (x y : ByteArray) : Option Value :=
  match op with
  | .add => if x.size + y.size ≤ 9223372036854775807 then some (.string (x ++ y)) else none
  | .eql => some (.bool (x.toList == y.toList))
  | .neq => some (.bool (!(x.toList == y.toList)))
  | .lss => some (.bool (Op.bytesLess x.toList y.toList))
  | _ => none
def eqCells : List Value → List Value → Option Bool
  | [], [] => some true
  | .int k a :: x, .int k' b :: y => if k = k' then (eqCells x y).map fun r => (a == b) && r else none
  | _, _ => none
inductive FlatTy (P : Program) : Nat → TypeId → Nat → Prop
  | int {d : Nat} {t : TypeId} {k : IntKind} : P.underlying t = some (.int k) → FlatTy P (d + 1) t 1
  | array {d : Nat} {t e : TypeId} {n m : Nat} : P.underlying t = some (.array n e) → FlatTy P d e m → (P.info? e).map (·.size) = some m → FlatTy P (d + 1) t (n * m)
  | struct {d : Nat} {t : TypeId} {n : Nat} {fs : Array Field} {ms : List Nat} : P.underlying t = some (.struct fs) → P.stoodInHeld t = false → ms.length = fs.size →
      (∀ (i : Nat) (f : Field) (m : Nat), fs[i]? = some f → ms[i]? = some m → (f.name == "_") = false ∧ f.offset = (ms.take i).sum ∧ (P.info? f.type).map (·.size) = some m) →
      (∀ (i : Nat) (f : Field) (m : Nat), fs[i]? = some f → ms[i]? = some m → FlatTy P d f.type m) → n = ms.sum → FlatTy P (d + 1) t n
inductive Cls where
  | P | Q | N | S
  deriving DecidableEq
structure Ctx (P : Program) where
  flatN : TypeId → Option Nat
  flatOK : ∀ t n, flatN t = some n → FlatTy P 9 t n ∧ P.eqGuardType P.depth t = false ∧ ∀ k, P.underlying t ≠ some (.int k)
  cc : FuncId → Cls
  mixed : P.follows .mixedOrders = true
def isBoolTy (P : Program) (t : TypeId) : Bool :=
  match P.underlying t with
  | some .bool => true
  | _ => false
def evBin {P : Program} (C : Ctx P) (op : BinOp) (t : TypeId) (x y : Value) : Option Value :=
  match x, y with
  | .int k a, .int k' b =>
    match op with
    | .shl => if b < 0 then none else some (.int k (k.wrap (a * 2 ^ (min b.toNat k.bits))))
    | .shr => if b < 0 then none else some (.int k (a.fdiv (2 ^ (min b.toNat k.bits))))
    | _ => if k = k' then evInt op k a b else none
  | .string a, .string b => evStr op a b
  | .bool a, .bool b => if isBoolTy P t then (match op with
    | .eql => some (.bool (a == b))
    | .neq => some (.bool (!(a == b)))
    | _ => none) else none
  | .agg xs, .agg ys => if C.flatN t = some xs.toList.length then (match op with
      | .eql => (eqCells xs.toList ys.toList).map .bool
      | .neq => (eqCells xs.toList ys.toList).map fun b => .bool (!b)
      | _ => none)
    else none
  | _, _ => none
theorem evInt_sound {P : Program} {op : BinOp} {k : IntKind} {a b : Int} {v : Value} (h : evInt op k a b = some v) (t : TypeId) (w : World) :
    (binOp op t (.int k a) (.int k b)).run P w = .ok v w := by
  unfold evInt at h
  split at h <;> (try (split at h)) <;> first
    | (simp only [Option.some.injEq] at h; subst h; simp [binOp, Op.intArith, Op.intDiv, Op.intBits, Op.intCmp, *])
    | cases h
theorem evStr_sound {P : Program} {op : BinOp} {a b : ByteArray} {v : Value} (h : evStr op a b = some v) (t : TypeId) (w : World) :
    (binOp op t (.string a) (.string b)).run P w = .ok v w := by
  unfold evStr at h
  split at h
  · split at h
    · rename_i hs
      simp only [Option.some.injEq] at h
      subst h
      have : ¬ ((9223372036854775807 : Int) < (a.size : Int) + (b.size : Int)) := by omega
      simp [binOp, Op.stringOp, IntKind.max, IntKind.signed, IntKind.bits, this]
    · cases h
  all_goals first
    | (simp only [Option.some.injEq] at h; subst h; simp [binOp, Op.stringOp])
    | cases h
end Go.Am
set_option linter.unusedVariables false
set_option linter.unusedSimpArgs false
namespace Go.Am
open Go.RowKit
theorem eqCells_length : ∀ {x y : List Value} {b : Bool}, eqCells x y = some b → x.length = y.length
  | [], [], _, _ => rfl
  | [], _ :: _, _, h => by simp [eqCells] at h
  | x :: _, [], _, h => by cases x <;> simp [eqCells] at h
  | u :: x, v :: y, _, h => by
    cases u <;> cases v <;> first
      | (simp [eqCells] at h; done)
      | skip
    simp only [eqCells] at h
    split at h
    · cases he : eqCells x y with
      | none => rw [he] at h; cases h
      | some r => have := eqCells_length he; simp [this]
    · cases h
theorem eqCells_append : ∀ {x1 y1 x2 y2 : List Value} {b : Bool}, x1.length = y1.length → eqCells (x1 ++ x2) (y1 ++ y2) = some b →
    ∃ b1 b2, eqCells x1 y1 = some b1 ∧ eqCells x2 y2 = some b2 ∧ b = (b1 && b2)
  | [], [], x2, y2, b, _, h => ⟨true, b, rfl, h, by simp⟩
  | [], _ :: _, _, _, _, hl, _ => by simp at hl
  | _ :: _, [], _, _, _, hl, _ => by simp at hl
  | u :: x, v :: y, x2, y2, b, hl, h => by
    cases u <;> cases v <;> first
      | (simp [eqCells] at h; done)
      | skip
    rename_i k a k' c
    simp only [List.cons_append, eqCells] at h
    split at h
    · rename_i hk
      cases he : eqCells (x ++ x2) (y ++ y2) with
      | none => rw [he] at h; cases h
      | some r =>
        rw [he] at h
        simp only [Option.map_some, Option.some.injEq] at h
        obtain ⟨b1, b2, h1, h2, h3⟩ := eqCells_append (by simpa using hl) he
        exact ⟨(a == c) && b1, b2, by simp [eqCells, hk, h1], h2, by rw [← h, h3, Bool.and_assoc]⟩
    · cases h
def Packed (P : Program) (t : TypeId) (xs : List Value) (v : Value) : Prop :=
  ((∃ k, P.underlying t = some (.int k)) ∧ xs = [v]) ∨ (((∃ n e, P.underlying t = some (.array n e)) ∨ ∃ fs, P.underlying t = some (.struct fs)) ∧ v = .agg xs.toArray)
theorem FlatTy.packed {P : Program} {d : Nat} {t : TypeId} {n : Nat} (h : FlatTy P d t n) (xs : List Value) (hx : xs.length = n) : ∃ v, Packed P t xs v := by
  cases h with
  | int hu =>
    match xs, hx with
    | [v], _ => exact ⟨v, Or.inl ⟨⟨_, hu⟩, rfl⟩⟩
  | array hu _ _ => exact ⟨_, Or.inr ⟨Or.inl ⟨_, _, hu⟩, rfl⟩⟩
  | struct hu _ _ _ _ _ => exact ⟨_, Or.inr ⟨Or.inr ⟨_, hu⟩, rfl⟩⟩
theorem run_part_flat {P : Program} {d : Nat} {t : TypeId} {n : Nat} (h : FlatTy P d t n) (hs : (P.info? t).map (·.size) = some n) (xs : List Value) (off : Nat) (hx : off + n ≤ xs.length) {v : Value} (hv : Packed P t ((xs.drop off).take n) v) (w : World) :
    (part t xs.toArray off).run P w = .ok v w := by
  obtain ⟨i, hi, hsz⟩ : ∃ i, P.info? t = some i ∧ i.size = n := by
    cases hi : P.info? t with
    | none => rw [hi] at hs; cases hs
    | some i => rw [hi] at hs; exact ⟨i, rfl, by simpa using hs⟩
  have agg : ∀ dd, P.underlying t = some dd → (match dd with | .struct _ | .array _ _ => true | _ => false) = true → v = .agg ((xs.drop off).take n).toArray → (part t xs.toArray off).run P w = .ok v w := by
    intro dd hd hk he
    subst he
    simp only [part, isAgg, Sem.run_bind, run_underlying hd, Result.andThen_ok]
    have hex : xs.toArray.extract off (off + n) = ((xs.drop off).take n).toArray := by
      apply Array.ext'
      simp [List.extract_eq_take_drop]
    cases dd <;> first
      | (simp at hk; done)
      | simp [sizeOf, typeInfo, hi, hsz, hex]
  rcases hv with ⟨⟨k, hu⟩, he⟩ | ⟨⟨m, e, hu⟩ | ⟨fs, hu⟩, he⟩
  · have hn : n = 1 := by
      have := congrArg List.length he
      simp only [List.length_take, List.length_drop, List.length_singleton] at this
      omega
    subst hn
    have hat : xs[off]? = some v := by
      have : ((xs.drop off).take 1)[0]? = some v := by rw [he]; rfl
      simpa using this
    simp [part, isAgg, run_underlying hu, hat]
  · exact agg _ hu rfl he
  · exact agg _ hu rfl he
def eqElems (d : Nat) (e : TypeId) (s : Nat) (xs ys : Array Value) : List Nat → Sem Bool
  | [] => pure true
  | i :: is => do
    let a ← part e xs (i * s)
    let b ← part e ys (i * s)
    let r ← Op.equalIn d e a b
    if (!r) = true then pure false else eqElems d e s xs ys is
theorem run_equalIn_array {P : Program} (w : World) (d : Nat) (t e : TypeId) (n s : Nat) (xs ys : Array Value) (ht : P.underlying t = some (.array n e)) (hs : (P.info? e).map (·.size) = some s) :
    (Op.equalIn (d + 1) t (.agg xs) (.agg ys)).run P w = (eqElems d e s xs ys (List.range n)).run P w := by
  obtain ⟨i, hi, hsz⟩ : ∃ i, P.info? e = some i ∧ i.size = s := by
    cases hi : P.info? e with
    | none => rw [hi] at hs; cases hs
    | some i => rw [hi] at hs; exact ⟨i, rfl, by simpa using hs⟩
  simp only [Op.equalIn, Sem.run_bind, run_underlying ht, Result.andThen_ok, sizeOf, typeInfo, run_program, hi, Sem.run_pure, hsz]
  rw [Std.Legacy.Range.forIn_eq_forIn_range']
  simp only [Std.Legacy.Range.size, Nat.sub_zero, Nat.add_sub_cancel, Nat.div_one]
  rw [← List.range_eq_range']
  generalize List.range n = is
  induction is generalizing w with
  | nil => simp [eqElems]
  | cons f fs ih =>
    simp only [List.forIn_cons, eqElems, Sem.run_bind, Sem.run_ite]
    generalize (part e xs (f * s)).run P w = r1
    cases r1 with
    | ok a w1 =>
      simp only [Result.andThen_ok]
      generalize (part e ys (f * s)).run P w1 = r2
      cases r2 with
      | ok b w2 =>
        simp only [Result.andThen_ok]
        generalize (Op.equalIn d e a b).run P w2 = r3
        cases r3 with
        | ok r w3 =>
          cases r
          · simp only [Result.andThen_ok, Bool.not_false, if_true, Sem.run_pure]
          · simp only [Result.andThen_ok, Bool.not_true, Bool.false_eq_true, if_false, Sem.run_pure]
            exact ih w3
        | halt x w3 => simp [Result.andThen]
      | halt x w2 => simp [Result.andThen]
    | halt x w1 => simp [Result.andThen]
theorem eqFields_run {P : Program} {D : Nat} {w : World} {xs ys : Array Value} : ∀ {fs : List Field} {bs : List Bool}, bs.length = fs.length →
    (∀ (i : Nat) (f : Field) (b : Bool), fs[i]? = some f → bs[i]? = some b → (f.name == "_") = false ∧ ∃ u v, (part f.type xs f.offset).run P w = .ok u w ∧ (part f.type ys f.offset).run P w = .ok v w ∧ (Op.equalIn D f.type u v).run P w = .ok b w) →
    (Op.eqFields D xs ys fs).run P w = .ok (bs.all id) w
  | [], [], _, _ => by simp [Op.eqFields]
  | f :: fs, b :: bs, hl, h => by
    obtain ⟨hn, u, v, hu, hv, he⟩ := h 0 f b rfl rfl
    have hn' : f.name ≠ "_" := by simpa using hn
    have ih := eqFields_run (P := P) (D := D) (w := w) (xs := xs) (ys := ys) (fs := fs) (bs := bs) (by simpa using hl) (fun i g c hg hc => h (i + 1) g c hg hc)
    rw [Op.eqFields, if_pos hn']
    simp only [Sem.run_bind, hu, hv, he, Result.andThen_ok]
    cases b
    · simp
    · simpa using ih
  | [], _ :: _, hl, _ => by simp at hl
  | _ :: _, [], hl, _ => by simp at hl
theorem eqElems_run {P : Program} {D : Nat} {e : TypeId} {s : Nat} {w : World} {xs ys : Array Value} : ∀ {is : List Nat} {bs : List Bool}, bs.length = is.length →
    (∀ (i j : Nat) (b : Bool), is[i]? = some j → bs[i]? = some b → ∃ u v, (part e xs (j * s)).run P w = .ok u w ∧ (part e ys (j * s)).run P w = .ok v w ∧ (Op.equalIn D e u v).run P w = .ok b w) →
    (eqElems D e s xs ys is).run P w = .ok (bs.all id) w
  | [], [], _, _ => by simp [eqElems]
  | f :: fs, b :: bs, hl, h => by
    obtain ⟨u, v, hu, hv, he⟩ := h 0 f b rfl rfl
    have ih := eqElems_run (P := P) (D := D) (e := e) (s := s) (w := w) (xs := xs) (ys := ys) (is := fs) (bs := bs) (by simpa using hl) (fun i g c hg hc => h (i + 1) g c hg hc)
    rw [eqElems]
    simp only [Sem.run_bind, hu, hv, he, Result.andThen_ok]
    cases b
    · simp
    · simpa using ih
  | [], _ :: _, hl, _ => by simp at hl
  | _ :: _, [], hl, _ => by simp at hl
theorem eqCells_parts : ∀ (ms : List Nat) (xs ys : List Value) (b : Bool), xs.length = ms.sum → eqCells xs ys = some b →
    ∃ bs : List Bool, bs.length = ms.length ∧ b = bs.all id ∧ ∀ (i m : Nat) (c : Bool), ms[i]? = some m → bs[i]? = some c → eqCells ((xs.drop (ms.take i).sum).take m) ((ys.drop (ms.take i).sum).take m) = some c
  | [], xs, ys, b, hl, h => by
    have hx : xs = [] := List.eq_nil_of_length_eq_zero (by simpa using hl)
    subst hx
    have hy : ys = [] := List.eq_nil_of_length_eq_zero (by have := eqCells_length h; simpa using this.symm)
    subst hy
    simp only [eqCells, Option.some.injEq] at h
    exact ⟨[], rfl, by simp [← h], by simp⟩
  | m :: ms, xs, ys, b, hl, h => by
    have hxy := eqCells_length h
    simp only [List.sum_cons] at hl
    have h' : eqCells (xs.take m ++ xs.drop m) (ys.take m ++ ys.drop m) = some b := by rw [List.take_append_drop, List.take_append_drop]; exact h
    obtain ⟨b1, b2, h1, h2, h3⟩ := eqCells_append (by simp; omega) h'
    obtain ⟨bs, hb1, hb2, hb3⟩ := eqCells_parts ms (xs.drop m) (ys.drop m) b2 (by simp; omega) h2
    refine ⟨b1 :: bs, by simp [hb1], by simp [h3, hb2], ?_⟩
    intro i k c hk hc
    cases i with
    | zero =>
      simp only [List.getElem?_cons_zero, Option.some.injEq] at hk hc
      subst hk; subst hc
      simpa using h1
    | succ i =>
      simp only [List.getElem?_cons_succ] at hk hc
      have := hb3 i k c hk hc
      simpa [List.take_succ_cons, List.sum_cons, List.drop_drop, Nat.add_comm] using this
theorem take_sum_le : ∀ (ms : List Nat) (i m : Nat), ms[i]? = some m → (ms.take i).sum + m ≤ ms.sum
  | [], i, m, h => by simp at h
  | a :: ms, 0, m, h => by simp at h; subst h; simp
  | a :: ms, i + 1, m, h => by
    have := take_sum_le ms i m (by simpa using h)
    simp only [List.take_succ_cons, List.sum_cons]
    omega
theorem sum_replicate (n m : Nat) : (List.replicate n m).sum = n * m := by
  induction n with
  | zero => simp
  | succ n ih => rw [List.replicate_succ, List.sum_cons, ih, Nat.succ_mul, Nat.add_comm]
theorem flat_eq {P : Program} : ∀ (d : Nat) (t : TypeId) (n : Nat), FlatTy P d t n → ∀ (xs ys : List Value) (u v : Value) (b : Bool), xs.length = n → eqCells xs ys = some b → Packed P t xs u → Packed P t ys v →
    ∀ D, d ≤ D → ∀ w, (Op.equalIn D t u v).run P w = .ok b w
  | 0, _, _, h, _, _, _, _, _, _, _, _, _, _, _, _ => by cases h
  | d + 1, t, n, h, xs, ys, u, v, b, hl, he, hu, hv, D, hD, w => by
    obtain ⟨D, rfl⟩ : ∃ k, D = k + 1 := ⟨D - 1, by omega⟩
    have hly := eqCells_length he
    cases h with
    | @int _ _ k hk =>
      rcases hu with ⟨_, rfl⟩ | ⟨⟨_, _, h2⟩ | ⟨_, h2⟩, _⟩
      · rcases hv with ⟨_, rfl⟩ | ⟨⟨_, _, h2⟩ | ⟨_, h2⟩, _⟩
        · cases u <;> cases v <;> first
            | (simp [eqCells] at he; done)
            | skip
          rename_i k1 a k2 c
          simp only [eqCells] at he
          split at he
          · rename_i hkk
            subst hkk
            simp only [Option.map_some, Bool.and_true, Option.some.injEq] at he
            subst he
            exact run_equalIn_int w D t k1 k a c hk
          · cases he
        · rw [hk] at h2; cases h2
        · rw [hk] at h2; cases h2
      · rw [hk] at h2; cases h2
      · rw [hk] at h2; cases h2
    | @array _ _ e n m ha hf hs =>
      have hu' : u = .agg xs.toArray := by rcases hu with ⟨⟨_, h2⟩, _⟩ | ⟨_, h2⟩; (rw [ha] at h2; cases h2); exact h2
      have hv' : v = .agg ys.toArray := by rcases hv with ⟨⟨_, h2⟩, _⟩ | ⟨_, h2⟩; (rw [ha] at h2; cases h2); exact h2
      subst hu'; subst hv'
      rw [run_equalIn_array w D t e n m _ _ ha hs]
      obtain ⟨bs, hb1, hb2, hb3⟩ := eqCells_parts (List.replicate n m) xs ys b (by rw [sum_replicate]; exact hl) he
      rw [hb2]
      refine eqElems_run (by simpa using hb1) fun i j c hj hc => ?_
      have hin : i < n := by have := lt_of_some hj; simpa using this
      have hji : j = i := by rw [List.getElem?_range hin] at hj; simpa using hj.symm
      subst hji
      have hm : (List.replicate n m)[j]? = some m := by simp [hin]
      have hc3 := hb3 j m c hm hc
      have ht : ((List.replicate n m).take j).sum = j * m := by rw [List.take_replicate, sum_replicate, Nat.min_eq_left (by omega)]
      rw [ht] at hc3
      have hle : j * m + m ≤ n * m := by have := Nat.mul_le_mul_right m (show j + 1 ≤ n by omega); rw [Nat.succ_mul] at this; exact this
      have l1 : ((xs.drop (j * m)).take m).length = m := by simp; omega
      have l2 : ((ys.drop (j * m)).take m).length = m := by simp; omega
      obtain ⟨p, hp⟩ := hf.packed _ l1
      obtain ⟨q, hq⟩ := hf.packed _ l2
      exact ⟨p, q, run_part_flat hf hs xs (j * m) (by omega) hp w, run_part_flat hf hs ys (j * m) (by omega) hq w, flat_eq d e m hf _ _ p q c l1 hc3 hp hq D (by omega) w⟩
    | @struct _ _ _ fs ms ha hst hlen hA hB hn =>
      have hu' : u = .agg xs.toArray := by rcases hu with ⟨⟨_, h2⟩, _⟩ | ⟨_, h2⟩; (rw [ha] at h2; cases h2); exact h2
      have hv' : v = .agg ys.toArray := by rcases hv with ⟨⟨_, h2⟩, _⟩ | ⟨_, h2⟩; (rw [ha] at h2; cases h2); exact h2
      subst hu'; subst hv'
      have hfo : P.fieldsOf t = fs := by simp [Program.fieldsOf, ha]
      rw [run_equalIn_struct (P := P) w D t _ _ (by rw [hfo]; exact ha) hst, hfo]
      obtain ⟨bs, hb1, hb2, hb3⟩ := eqCells_parts ms xs ys b (by rw [hl, hn]) he
      rw [hb2]
      refine eqFields_run (by simp [hb1, hlen]) fun i f c hf hc => ?_
      have hil : i < ms.length := by have := lt_of_some hc; omega
      have hm : ms[i]? = some ms[i] := List.getElem?_eq_getElem hil
      have hf' : fs[i]? = some f := by simpa using hf
      obtain ⟨a1, a2, a4⟩ := hA i f _ hf' hm
      have a3 := hB i f _ hf' hm
      have hc3 := hb3 i _ c hm hc
      have hle := take_sum_le ms i _ hm
      rw [← a2] at hc3 hle
      have l1 : ((xs.drop f.offset).take ms[i]).length = ms[i] := by simp; omega
      have l2 : ((ys.drop f.offset).take ms[i]).length = ms[i] := by simp; omega
      obtain ⟨p, hp⟩ := a3.packed _ l1
      obtain ⟨q, hq⟩ := a3.packed _ l2
      exact ⟨a1, p, q, run_part_flat a3 a4 xs f.offset (by omega) hp w, run_part_flat a3 a4 ys f.offset (by omega) hq w, flat_eq d f.type _ a3 _ _ p q c l1 hc3 hp hq D (by omega) w⟩
end Go.Am
set_option linter.unusedVariables false
set_option linter.unusedSimpArgs false
namespace Go.Am
open Go.RowKit
def OS (P : Program) (ρ : Ren) (H : Heap) (w : World) (x : Sem Value) (v : Value) (H' : Heap) : Prop :=
  ∃ ρ' w', x.run P w = .ok (mapV ρ' v) w' ∧ Adv P ρ H w ρ' H' w' ∧ ∀ i ∈ idsV v, i < H'.length
theorem OS.pure {P : Program} {ρ : Ren} {H : Heap} {w : World} {x : Sem Value} {v : Value} (h : Rep P ρ H w) (hx : x.run P w = .ok (mapV ρ v) w) (hc : ∀ i ∈ idsV v, i < H.length) : OS P ρ H w x v H :=
  ⟨ρ, w, hx, Adv.refl h, hc⟩
def row? (H : Heap) (i : Nat) : Option Row :=
  match H[i]? with
  | some (some r) => some r
  | _ => none
theorem row?_some {H : Heap} {i : Nat} {r : Row} (h : row? H i = some r) : H[i]? = some (some r) := by
  unfold row? at h
  split at h
  · simp only [Option.some.injEq] at h; subst h; assumption
  · cases h
theorem cell_at {P : Program} {ρ : Ren} {w : World} {l : Loc} {r : Row} (h : RepRow P ρ w l r) {j : Nat} {v : Value} (hv : r.cells[j]? = some v) : w.cell? ⟨l.blk, l.off + j, none⟩ = some (mapS ρ v) := by
  obtain ⟨cur, e, fz, hb, hc, _⟩ := h.at_
  rw [cell_of_row w l.blk _ cur e fz hb]
  exact hc j v hv
def opBox (P : Program) (H : Heap) (t : TypeId) (x : Value) : Option (Value × Heap) :=
  if x.cells.toList.all scal then some (.pointer (some ⟨H.length, 0, none⟩), H ++ [some ⟨x.cells.toList, t, true, true⟩]) else none
theorem all_list {a : Array Value} {p : Value → Bool} (h : a.toList.all p = true) : a.all p = true := by
  rwa [Array.all_toList] at h
theorem opBox_sound {P : Program} {ρ : Ren} {H : Heap} {w : World} {t : TypeId} {x v : Value} {H' : Heap} (h : Rep P ρ H w) (hx : ∀ i ∈ idsV x, i < H.length) (ho : opBox P H t x = some (v, H')) :
    OS P ρ H w (Instr.box t (mapV ρ x)) v H' := by
  unfold opBox at ho
  split at ho
  · rename_i hs
    simp only [Option.some.injEq, Prod.mk.injEq] at ho
    obtain ⟨rfl, rfl⟩ := ho
    have hcm := cells_mapV (m := toReal ρ) (all_list hs)
    refine ⟨_, { w with heap := w.heap.push (.cells (mapV ρ x).cells t) }, ?_, adv_push h ⟨x.cells.toList, t, true, true⟩ (mapV ρ x).cells (boxCap P t) rfl rfl rfl rfl ?_ ?_ ?_ (fun h => by cases h) (fun _ => rfl), ?_⟩
    · simp [Instr.box, newVar, newRow, mapV, mpV, mpA, mpS, mpP, toReal, updR_eq]
    · intro j u hu
      rw [mapV, hcm]
      simpa using ⟨u, by simpa using hu, rfl⟩
    · intro u hu k hk
      exact hx k (ids_cells (all_list hs) u hu k hk)
    · intro u hu
      simp only [List.all_eq_true] at hs
      exact hs u hu
    · simp [idsV, idsA, idsS, idsP]
  · cases ho
def opAlloc (P : Program) (H : Heap) (t : TypeId) : Option (Value × Heap) :=
  match tiOf P t with
  | some ti => if ti.zero.cells.toList.all flat then some (.pointer (some ⟨H.length, 0, none⟩), H ++ [some ⟨ti.zero.cells.toList, t, true, true⟩]) else none
  | none => none
theorem opAlloc_sound {P : Program} {ρ : Ren} {H : Heap} {w : World} {t : TypeId} {v : Value} {H' : Heap} (h : Rep P ρ H w) (ho : opAlloc P H t = some (v, H')) :
    OS P ρ H w (Instr.alloc t true (.tuple #[])) v H' := by
  unfold opAlloc at ho
  split at ho
  · rename_i ti hti
    split at ho
    · rename_i hs
      simp only [Option.some.injEq, Prod.mk.injEq] at ho
      obtain ⟨rfl, rfl⟩ := ho
      have hf : ∀ u ∈ ti.zero.cells.toList, flat u = true := fun u hu => by rw [List.all_eq_true] at hs; exact hs u hu
      refine ⟨_, { w with heap := w.heap.push (.cells ti.zero.cells t) }, ?_, adv_push h ⟨ti.zero.cells.toList, t, true, true⟩ ti.zero.cells (boxCap P t) rfl rfl rfl rfl ?_ ?_ ?_ (fun h => by cases h) (fun _ => rfl), ?_⟩
      · simp [Instr.alloc, newVar, newRow, run_zero w hti, mapV, mpV, mpA, mpS, mpP, toReal, updR_eq]
      · intro j u hu
        rw [mapS, mpS_flat (hf u (List.mem_of_getElem? hu))]
        simpa using hu
      · intro u hu k hk
        rw [idsS_flat (hf u hu)] at hk
        cases hk
      · intro u hu
        exact scal_flat (hf u hu)
      · simp [idsV, idsA, idsS, idsP]
    · cases ho
  · cases ho
def opLoad (P : Program) (H : Heap) (t : TypeId) (x : Value) : Option Value :=
  match x with
  | .pointer (some a) => match row? H a.block, tiOf P t with
    | some r, some ti =>
      if ti.kd.isAgg then (if a.off + ti.size ≤ r.cells.length then some (.agg ((r.cells.drop a.off).take ti.size).toArray) else none)
      else r.cells[a.off]?
    | _, _ => none
  | _ => none
theorem opLoad_run {P : Program} {ρ : Ren} {H : Heap} {w : World} {t : TypeId} {x v : Value} (h : Rep P ρ H w) (ho : opLoad P H t x = some v) :
    (∃ a, x = .pointer (some a) ∧ (loadVar t ⟨(ρ a.block).blk, (ρ a.block).off + a.off, none⟩).run P w = .ok (mapV ρ v) w) ∧ (∀ i ∈ idsV v, i < H.length) ∧ ∀ vs, v ≠ .tuple vs := by
  unfold opLoad at ho
  split at ho
  · rename_i a
    split at ho
    · rename_i r ti hr hti
      have hr' := row?_some hr
      have hrow := h.row _ _ hr'
      have hcl := h.cl _ _ hr'
      have haddr : mapV ρ (.pointer (some a)) = .pointer (some ⟨(ρ a.block).blk, (ρ a.block).off + a.off, none⟩) := by simp [mapV, mpV, mpA, mpS, mpP, toReal]
      split at ho
      · rename_i hagg
        split at ho
        · rename_i hle
          simp only [Option.some.injEq] at ho
          subst ho
          have hload := run_loadCells_list (P := P) w ⟨(ρ a.block).blk, (ρ a.block).off + a.off, none⟩ (((r.cells.drop a.off).take ti.size).map (mapS ρ)) (fun j u hu => by
            rw [List.getElem?_map] at hu
            cases hj : ((r.cells.drop a.off).take ti.size)[j]? with
            | none => rw [hj] at hu; cases hu
            | some y =>
              rw [hj] at hu
              simp only [Option.map_some, Option.some.injEq] at hu
              subst hu
              have hy : r.cells[a.off + j]? = some y := by
                rw [List.getElem?_take] at hj
                split at hj
                · simpa using hj
                · cases hj
              rw [Addr.add_lit, Nat.add_assoc]
              exact cell_at hrow hy)
          have hl : (((r.cells.drop a.off).take ti.size).map (mapS ρ)).length = ti.size := by simp; omega
          rw [hl] at hload
          refine ⟨⟨a, rfl, ?_⟩, ?_, fun vs h => by cases h⟩
          · simp [loadVar, run_isAgg w hti, hagg, run_size w hti, hload, mapV, mpV, mpA]
          · intro i hi
            simp only [idsV, idsA, List.mem_flatMap] at hi
            obtain ⟨u, hu, hi⟩ := hi
            exact hcl u (List.mem_of_mem_drop (List.mem_of_mem_take (by simpa using hu))) i hi
        · cases ho
      · rename_i hagg
        have hsc := hrow.scal v (List.mem_of_getElem? ho)
        refine ⟨⟨a, rfl, ?_⟩, ?_, fun vs h => by rw [h] at hsc; cases hsc⟩
        · simp only [loadVar, Sem.run_bind, Sem.run_pure, Result.andThen_ok, run_isAgg w hti, hagg, Bool.false_eq_true, if_false]
          rw [run_load, cell_at hrow ho, mapV, mapV_scal hsc]
        · rw [idsV_scal hsc]
          exact hcl v (List.mem_of_getElem? ho)
    · cases ho
  · cases ho
theorem opLoad_sound {P : Program} {ρ : Ren} {H : Heap} {w : World} {t : TypeId} {x v : Value} (h : Rep P ρ H w) (ho : opLoad P H t x = some v) :
    OS P ρ H w (Instr.loadAt t (mapV ρ x)) v H := by
  obtain ⟨⟨a, rfl, hrun⟩, hc, _⟩ := opLoad_run h ho
  refine OS.pure h ?_ hc
  have haddr : mapV ρ (.pointer (some a)) = .pointer (some ⟨(ρ a.block).blk, (ρ a.block).off + a.off, none⟩) := by simp [mapV, mpV, mpA, mpS, mpP, toReal]
  rw [haddr]
  simp [Instr.loadAt, Instr.sureAddr, hrun]
def splice (l : List Value) (o : Nat) (x : List Value) : List Value := l.take o ++ x ++ l.drop (o + x.length)
theorem splice_map {f : Value → Value} {A B X : List Value} {o : Nat} (hle : o + X.length ≤ A.length) (h : ∀ (j : Nat) (v : Value), A[j]? = some v → B[j]? = some (f v)) :
    ∀ (j : Nat) (v : Value), (splice A o X)[j]? = some v → (splice B o (X.map f))[j]? = some (f v) := by
  have hAB : A.length ≤ B.length := by
    rcases Nat.lt_or_ge B.length A.length with hgt | hge
    · have := h B.length _ (List.getElem?_eq_getElem hgt)
      simp at this
    · exact hge
  intro j v hv
  unfold splice at hv ⊢
  rcases Nat.lt_or_ge j o with hj | hj
  · rw [List.append_assoc, List.getElem?_append_left (by simp; omega), List.getElem?_take_of_lt hj] at hv
    rw [List.append_assoc, List.getElem?_append_left (by simp; omega), List.getElem?_take_of_lt hj]
    exact h j v hv
  · rw [List.append_assoc, List.getElem?_append_right (by simp; omega)] at hv
    rw [List.append_assoc, List.getElem?_append_right (by simp; omega)]
    have e1 : (A.take o).length = o := by simp; omega
    have e2 : (B.take o).length = o := by simp; omega
    rw [e1] at hv
    rw [e2]
    rcases Nat.lt_or_ge (j - o) X.length with hk | hk
    · rw [List.getElem?_append_left hk] at hv
      rw [List.getElem?_append_left (by simpa using hk), List.getElem?_map, hv]
      rfl
    · rw [List.getElem?_append_right hk, List.getElem?_drop] at hv
      rw [List.getElem?_append_right (by simpa using hk), List.getElem?_drop, List.length_map]
      exact h _ v hv
theorem mem_splice {l x : List Value} {o : Nat} {v : Value} (h : v ∈ splice l o x) : v ∈ l ∨ v ∈ x := by
  unfold splice at h
  rcases List.mem_append.1 h with h | h
  · rcases List.mem_append.1 h with h | h
    · exact Or.inl (List.mem_of_mem_take h)
    · exact Or.inr h
  · exact Or.inl (List.mem_of_mem_drop h)
def opStore (P : Program) (H : Heap) (t : TypeId) (x v : Value) : Option Heap :=
  match x with
  | .pointer (some a) => match row? H a.block, tiOf P t with
    | some r, some ti =>
      if r.wr = true ∧ v.cells.toList.length = ti.size ∧ a.off + ti.size ≤ r.cells.length ∧ v.cells.toList.all scal = true then
        some (H.set a.block (some { r with cells := splice r.cells a.off v.cells.toList }))
      else none
    | _, _ => none
  | _ => none
theorem opStore_sound {P : Program} {ρ : Ren} {H : Heap} {w : World} {t : TypeId} {x v : Value} {H' : Heap} (h : Rep P ρ H w) (hv : ∀ i ∈ idsV v, i < H.length) (ho : opStore P H t x v = some H') :
    ∃ w', (Instr.storeAt t (mapV ρ x) (mapV ρ v)).run P w = .ok () w' ∧ Adv P ρ H w ρ H' w' := by
  unfold opStore at ho
  split at ho
  · rename_i a
    split at ho
    · rename_i r ti hr hti
      split at ho
      · rename_i hc
        obtain ⟨hw, hsz, hle, hs⟩ := hc
        simp only [Option.some.injEq] at ho
        subst ho
        have hr' := row?_some hr
        have hrow := h.row _ _ hr'
        obtain ⟨⟨cur, e, fz, hb, hcu, hwr, hlen⟩, hsc⟩ := hrow
        obtain ⟨h0, he, hf, _⟩ := hwr hw
        subst hf
        have hcm := cells_mapV (m := toReal ρ) (all_list hs)
        have haddr : mapV ρ (.pointer (some a)) = .pointer (some ⟨(ρ a.block).blk, a.off, none⟩) := by simp [mapV, mpV, mpA, mpS, mpP, toReal, h0]
        have hcur : r.cells.length ≤ cur.size := by
          rcases Nat.lt_or_ge cur.size r.cells.length with hgt | hge
          · have := hcu cur.size _ (List.getElem?_eq_getElem hgt)
            rw [h0] at this
            simp at this
          · exact hge
        have hmc : (mapV ρ v).cells.toList = v.cells.toList.map (mapS ρ) := by rw [mapV, hcm]; simp
        have hone : ∀ u ∈ v.cells.toList.map (mapS ρ), u.oneCell' = true := by
          intro u hu
          obtain ⟨y, hy, rfl⟩ := List.mem_map.1 hu
          simp only [List.all_eq_true] at hs
          exact oneCell_of_scal (by rw [mapS, scal_mpS]; exact hs y hy)
        have hrun := run_storeCells_at P (ρ a.block).blk a.off e (v.cells.toList.map (mapS ρ)) 0 cur w hb (by simp; simp at hsz; omega) hone
        simp only [Nat.add_zero] at hrun
        have hspl : (cur.toList.take a.off ++ v.cells.toList.map (mapS ρ) ++ cur.toList.drop (a.off + (v.cells.toList.map (mapS ρ)).length)) = splice cur.toList a.off (v.cells.toList.map (mapS ρ)) := rfl
        rw [hspl] at hrun
        refine ⟨_, ?_, adv_store h a.block r hr' hw (splice r.cells a.off v.cells.toList) (splice cur.toList a.off (v.cells.toList.map (mapS ρ))).toArray ?_ ?_ ?_ ?_⟩
        · rw [haddr]
          have hsz' : (mapV ρ v).cells.size = ti.size := by
            rw [← hsz, ← Array.length_toList, hmc, List.length_map]
          simp only [Instr.storeAt, Instr.sureAddr, storeVar, Sem.run_bind, Sem.run_pure, Result.andThen_ok, run_size w hti, hsz', ne_eq, not_true, if_false, hmc, hrun]
        · intro cur' e' fz' hb'
          rw [hb] at hb'
          simp only [Option.some.injEq, Obj.cells.injEq] at hb'
          obtain ⟨rfl, _, _⟩ := hb'
          simp [splice]
          simp at hsz
          omega
        · intro j u hu
          have := splice_map (f := mapS ρ) (A := r.cells) (B := cur.toList) (X := v.cells.toList) (o := a.off) (by omega) (fun j v hv => by have := hcu j v hv; rw [h0] at this; simpa using this) j u hu
          simpa using this
        · intro u hu k hk
          rcases mem_splice hu with hu | hu
          · exact h.cl _ _ hr' u hu k hk
          · exact hv k (ids_cells (all_list hs) u hu k hk)
        · intro u hu
          rcases mem_splice hu with hu | hu
          · exact hsc u hu
          · simp only [List.all_eq_true] at hs; exact hs u hu
      · cases ho
    · cases ho
  · cases ho
def opIdxAddr (P : Program) (t : TypeId) (x i : Value) : Option Value :=
  match i with
  | .int _ n => match x, tiOf P t with
    | .pointer (some a), some ⟨.array len e, _, _, _⟩ => match tiOf P e with
      | some te => if 0 ≤ n ∧ n < (len : Int) then some (.pointer (some ⟨a.block, a.off + n.toNat * te.size, none⟩)) else none
      | none => none
    | .slice (some a) len _, some ⟨.slice e, _, _, _⟩ => match tiOf P e with
      | some te => if 0 ≤ n ∧ n < (len : Int) then some (.pointer (some ⟨a.block, a.off + n.toNat * te.size, none⟩)) else none
      | none => none
    | _, _ => none
  | _ => none
theorem opIdxAddr_sound {P : Program} {ρ : Ren} {t : TypeId} {x i v : Value} {n : Nat} (hx : ∀ k ∈ idsV x, k < n) (ho : opIdxAddr P t x i = some v) (w : World) :
    (Instr.indexAt t (mapV ρ x) (mapV ρ i)).run P w = .ok (mapV ρ v) w ∧ ∀ k ∈ idsV v, k < n := by
  unfold opIdxAddr at ho
  split at ho
  · rename_i k m
    split at ho
    · rename_i a len e _ _ _ hti
      obtain ⟨i0, d, hi0, hd, hz, hs, _, hk⟩ := tiOf_spec hti
      have hd' := tk_array hk
      subst hd'
      split at ho
      · rename_i te hte
        split at ho
        · rename_i hr
          simp only [Option.some.injEq] at ho
          subst ho
          refine ⟨?_, by simpa [idsV, idsA, idsS, idsP] using hx⟩
          simp [Instr.indexAt, asIntOf, run_underlying hd, Instr.sureAddr, mapV, mpV, mpA, mpS, mpP, toReal, hr.1, hr.2, run_size w hte, Addr.add_lit, Nat.add_assoc]
        · cases ho
      · cases ho
    · rename_i a len _ e _ _ _ hti
      obtain ⟨i0, d, hi0, hd, hz, hs, _, hk⟩ := tiOf_spec hti
      have hd' := tk_slice hk
      subst hd'
      split at ho
      · rename_i te hte
        split at ho
        · rename_i hr
          simp only [Option.some.injEq] at ho
          subst ho
          refine ⟨?_, by simpa [idsV, idsA, idsS, idsP] using hx⟩
          simp [Instr.indexAt, asIntOf, run_underlying hd, Instr.sureAddr, mapV, mpV, mpA, mpS, mpP, toReal, hr.1, hr.2, run_size w hte, Addr.add_lit, Nat.add_assoc]
        · cases ho
      · cases ho
    · cases ho
  · cases ho
def opFldAddr (P : Program) (t : TypeId) (x : Value) (f : Nat) : Option Value :=
  match x, tiOf P t with
  | .pointer (some a), some ⟨.struct fs, _, _, _⟩ => match fs[f]? with
    | some (off, ft) => match tiOf P ft with
      | some tf => if tf.size = 0 then none else some (.pointer (some ⟨a.block, a.off + off, none⟩))
      | none => none
    | none => none
  | _, _ => none
theorem opFldAddr_sound {P : Program} {ρ : Ren} {t : TypeId} {x v : Value} {f n : Nat} (hx : ∀ k ∈ idsV x, k < n) (ho : opFldAddr P t x f = some v) (w : World) :
    (Instr.fieldAt t (mapV ρ x) f).run P w = .ok (mapV ρ v) w ∧ ∀ k ∈ idsV v, k < n := by
  unfold opFldAddr at ho
  split at ho
  · rename_i a fs _ _ _ hti
    obtain ⟨i0, d, hi0, hd, hz, hs, _, hk⟩ := tiOf_spec hti
    obtain ⟨gs, rfl, rfl⟩ := tk_struct hk
    split at ho
    · rename_i off ft hf
      split at ho
      · rename_i tf htf
        split at ho
        · cases ho
        · rename_i h0
          simp only [Option.some.injEq] at ho
          subst ho
          refine ⟨?_, by simpa [idsV, idsA, idsS, idsP] using hx⟩
          rw [List.getElem?_map] at hf
          cases hg : gs[f]? with
          | none =>
            rw [Array.getElem?_toList, hg] at hf
            cases hf
          | some g =>
            rw [Array.getElem?_toList, hg] at hf
            simp only [Option.map_some, Option.some.injEq, Prod.mk.injEq] at hf
            obtain ⟨rfl, rfl⟩ := hf
            simp [Instr.fieldAt, run_underlying hd, hg, Instr.sureAddr, mapV, mpV, mpA, mpS, mpP, toReal, fieldPlace, run_size w htf, h0, Addr.add_lit, Nat.add_assoc]
      · cases ho
    · cases ho
  · cases ho
end Go.Am
set_option linter.unusedVariables false
set_option linter.unusedSimpArgs false
namespace Go.Am
open Go.RowKit
theorem mapV_agg {m : Mp} {cs : Array Value} : mpV m (.agg cs) = .agg (cs.map (mpS m)) := rfl
theorem eqCells_flat : ∀ {x y : List Value} {b : Bool}, eqCells x y = some b → (∀ v ∈ x, flat v = true) ∧ ∀ v ∈ y, flat v = true
  | [], [], _, _ => ⟨(fun _ h => by cases h), (fun _ h => by cases h)⟩
  | [], _ :: _, _, h => by simp [eqCells] at h
  | x :: _, [], _, h => by cases x <;> simp [eqCells] at h
  | u :: x, v :: y, _, h => by
    cases u <;> cases v <;> first
      | (simp [eqCells] at h; done)
      | skip
    simp only [eqCells] at h
    split at h
    · cases he : eqCells x y with
      | none => rw [he] at h; cases h
      | some r =>
        have := eqCells_flat he
        refine ⟨fun v hv => ?_, fun v hv => ?_⟩
        · rcases List.mem_cons.1 hv with rfl | hv
          · rfl
          · exact this.1 v hv
        · rcases List.mem_cons.1 hv with rfl | hv
          · rfl
          · exact this.2 v hv
    · cases h
theorem map_flat {m : Mp} {a : Array Value} (h : ∀ v ∈ a.toList, flat v = true) : a.map (mpS m) = a := by
  apply Array.ext'
  rw [Array.toList_map]
  conv => rhs; rw [← List.map_id a.toList]
  exact List.map_congr_left fun v hv => mpS_flat (h v hv)
theorem FlatTy.under {P : Program} {d : Nat} {t : TypeId} {n : Nat} (h : FlatTy P d t n) : (∃ n e, P.underlying t = some (.array n e)) ∨ (∃ fs, P.underlying t = some (.struct fs)) ∨ ∃ k, P.underlying t = some (.int k) := by
  cases h with
  | int hk => exact Or.inr (Or.inr ⟨_, hk⟩)
  | array hk _ _ => exact Or.inl ⟨_, _, hk⟩
  | struct hk _ _ _ _ _ => exact Or.inr (Or.inl ⟨_, hk⟩)
theorem evBin_sound {P : Program} {C : Ctx P} {ρ : Ren} {op : BinOp} {t : TypeId} {x y v : Value} (h : evBin C op t x y = some v) (ox oy : Operand) (w : World) :
    ((do eqGuard op t ox oy (mapV ρ x) (mapV ρ y); binOp op t (mapV ρ x) (mapV ρ y)) : Sem Value).run P w = .ok (mapV ρ v) w ∧ flat v = true := by
  have intv : ∀ {op k a b v}, evInt op k a b = some v → flat v = true := by
    intro op k a b v h
    unfold evInt at h
    split at h <;> (try (split at h)) <;> first
      | (simp only [Option.some.injEq] at h; subst h; rfl)
      | cases h
  have strv : ∀ {op a b v}, evStr op a b = some v → flat v = true := by
    intro op a b v h
    unfold evStr at h
    split at h <;> (try (split at h)) <;> first
      | (simp only [Option.some.injEq] at h; subst h; rfl)
      | cases h
  unfold evBin at h
  split at h
  · rename_i k a k' b
    have hg : (eqGuard op t ox oy (.int k a) (.int k' b)).run P w = .ok () w := by cases op <;> simp [eqGuard]
    have hm : ∀ k a, mapV ρ (.int k a) = .int k a := fun _ _ => rfl
    rw [hm, hm]
    simp only [Sem.run_bind, hg, Result.andThen_ok]
    split at h
    · split at h
      · cases h
      · rename_i hb
        simp only [Option.some.injEq] at h
        subst h
        exact ⟨by simp [binOp, Op.shift, hb, mapV, mpV, mpA, mpS, mpP], rfl⟩
    · split at h
      · cases h
      · rename_i hb
        simp only [Option.some.injEq] at h
        subst h
        exact ⟨by simp [binOp, Op.shift, hb, mapV, mpV, mpA, mpS, mpP], rfl⟩
    · split at h
      · rename_i hk
        subst hk
        have hf := intv h
        rw [mapV, mpV_flat hf]
        exact ⟨evInt_sound h t w, hf⟩
      · cases h
  · rename_i a b
    have hg : (eqGuard op t ox oy (.string a) (.string b)).run P w = .ok () w := by cases op <;> simp [eqGuard]
    have hm : ∀ a, mapV ρ (.string a) = .string a := fun _ => rfl
    rw [hm, hm]
    simp only [Sem.run_bind, hg, Result.andThen_ok]
    have hf := strv h
    rw [mapV, mpV_flat hf]
    exact ⟨evStr_sound h t w, hf⟩
  · rename_i a b
    have hg : (eqGuard op t ox oy (.bool a) (.bool b)).run P w = .ok () w := by cases op <;> simp [eqGuard]
    have hm : ∀ a, mapV ρ (.bool a) = .bool a := fun _ => rfl
    rw [hm, hm]
    simp only [Sem.run_bind, hg, Result.andThen_ok]
    split at h
    · rename_i hbt
      have hd : P.underlying t = some .bool := by
        unfold isBoolTy at hbt
        split at hbt
        · assumption
        · cases hbt
      split at h
      · simp only [Option.some.injEq] at h
        subst h
        refine ⟨?_, rfl⟩
        simp [binOp, Op.equal, Op.maxDepth, run_equalIn_bool' w 9999 t a b hd, mapV, mpV, mpA, mpS, mpP]
      · simp only [Option.some.injEq] at h
        subst h
        refine ⟨?_, rfl⟩
        simp [binOp, Op.equal, Op.maxDepth, run_equalIn_bool' w 9999 t a b hd, mapV, mpV, mpA, mpS, mpP]
      · cases h
    · cases h
  · rename_i xs ys
    split at h
    · rename_i ht
      obtain ⟨hflat, hguard, hnoint⟩ := C.flatOK t _ ht
      have hu := hflat.under
      have key : ∀ b, eqCells xs.toList ys.toList = some b → (eqGuard op t ox oy (mapV ρ (.agg xs)) (mapV ρ (.agg ys))).run P w = .ok () w ∧ mapV ρ (.agg xs) = .agg xs ∧ mapV ρ (.agg ys) = .agg ys ∧
          ((∀ k, P.underlying t ≠ some (.int k)) → (Op.equalIn 10000 t (.agg xs) (.agg ys)).run P w = .ok b w) := by
        intro b hb
        obtain ⟨fx, fy⟩ := eqCells_flat hb
        rw [mapV, mapV_agg, mapV_agg, map_flat fx, map_flat fy]
        refine ⟨run_eqGuard_agg w op t ox oy xs ys hguard, rfl, rfl, fun hni => ?_⟩
        have hu' : (∃ n e, P.underlying t = some (.array n e)) ∨ (∃ fs, P.underlying t = some (.struct fs)) := by
          rcases hu with h | h | ⟨k, h⟩
          · exact Or.inl h
          · exact Or.inr h
          · exact absurd h (hni k)
        exact flat_eq 9 t _ hflat xs.toList ys.toList _ _ b rfl hb (Or.inr ⟨hu', by simp⟩) (Or.inr ⟨hu', by simp⟩) 10000 (by omega) w
      have hni : (∃ b, eqCells xs.toList ys.toList = some b) → ∀ k, P.underlying t ≠ some (.int k) := fun _ => hnoint
      split at h
      · cases hb : eqCells xs.toList ys.toList with
        | none => rw [hb] at h; cases h
        | some b =>
          rw [hb] at h
          simp only [Option.map_some, Option.some.injEq] at h
          subst h
          obtain ⟨k1, k2, k3, k4⟩ := key b hb
          refine ⟨?_, rfl⟩
          simp only [Sem.run_bind, k1, Result.andThen_ok]
          rw [k2, k3, run_eql_struct, k4 (hni ⟨b, hb⟩)]
          rfl
      · cases hb : eqCells xs.toList ys.toList with
        | none => rw [hb] at h; cases h
        | some b =>
          rw [hb] at h
          simp only [Option.map_some, Option.some.injEq] at h
          subst h
          obtain ⟨k1, k2, k3, k4⟩ := key b hb
          refine ⟨?_, rfl⟩
          simp only [Sem.run_bind, k1, Result.andThen_ok]
          rw [k2, k3, run_neq_struct, k4 (hni ⟨b, hb⟩)]
          rfl
      · cases h
    · cases h
  · cases h
def fillA (place : Nat → Option (Nat × Nat)) (cells : List Value) : List (Nat × Value) → Option (List Value)
  | [] => some cells
  | (i, v) :: rest =>
    match place i with
    | none => none
    | some (off, size) => if v.cells.toList.length = size ∧ v.cells.toList.all scal = true ∧ off + v.cells.toList.length ≤ cells.length then fillA place (splice cells off v.cells.toList) rest else none
theorem foldl_splice (off : Nat) : ∀ (x : List Value) (j : Nat) (cs : Array Value), off + j + x.length ≤ cs.size →
    (x.zipIdx j).foldl (fun cs (y : Value × Nat) => cs.setIfInBounds (off + y.2) y.1) cs = (splice cs.toList (off + j) x).toArray
  | [], j, cs, h => by simp [splice]
  | v :: x, j, cs, h => by
    simp only [List.zipIdx_cons, List.foldl_cons]
    rw [foldl_splice off x (j + 1) _ (by simp at h ⊢; omega)]
    congr 1
    unfold splice
    simp only [List.length_cons] at h
    apply List.ext_getElem?
    intro k
    simp only [Array.toList_setIfInBounds]
    rcases Nat.lt_or_ge k (off + j) with hk | hk
    · rw [List.append_assoc, List.append_assoc, List.getElem?_append_left (by simp; omega), List.getElem?_append_left (by simp; omega), List.getElem?_take_of_lt (by omega), List.getElem?_take_of_lt hk, List.getElem?_set_ne (by omega)]
    · rw [List.append_assoc, List.append_assoc, List.getElem?_append_right (l₁ := cs.toList.take (off + j)) (by simp; omega)]
      have e2 : (cs.toList.take (off + j)).length = off + j := by simp; omega
      rw [e2]
      rcases Nat.eq_or_lt_of_le hk with rfl | hk
      · rw [List.getElem?_append_left (by simp; omega), List.getElem?_take_of_lt (by omega), List.getElem?_set_self (by simp; omega)]
        simp
      · have e3 : ((cs.toList.set (off + j) v).take (off + (j + 1))).length = off + j + 1 := by simp; omega
        rw [List.getElem?_append_right (by rw [e3]; omega), e3]
        obtain ⟨m, rfl⟩ : ∃ m, k = off + j + 1 + m := ⟨k - (off + j + 1), by omega⟩
        have a1 : off + j + 1 + m - (off + j + 1) = m := by omega
        have a2 : off + j + 1 + m - (off + j) = m + 1 := by omega
        rw [a1, a2, List.cons_append, List.getElem?_cons_succ]
        rcases Nat.lt_or_ge m x.length with hm | hm
        · rw [List.getElem?_append_left hm, List.getElem?_append_left hm]
        · rw [List.getElem?_append_right hm, List.getElem?_append_right hm, List.getElem?_drop, List.getElem?_drop, List.getElem?_set_ne (by omega)]
          congr 1
          simp only [List.length_cons]
          omega
theorem length_splice {l x : List Value} {o : Nat} (h : o + x.length ≤ l.length) : (splice l o x).length = l.length := by
  simp [splice]; omega
theorem splice_maps {f : Value → Value} {A X : List Value} {o : Nat} (hle : o + X.length ≤ A.length) : splice (A.map f) o (X.map f) = (splice A o X).map f := by
  simp [splice, List.map_take, List.map_drop]
theorem fillA_sound (m : Mp) (place : Nat → Option (Nat × Nat)) : ∀ (parts : List (Nat × Value)) (cells out : List Value), fillA place cells parts = some out →
    Instr.fill place (cells.map (mpS m)).toArray (parts.map fun p => (p.1, mpV m p.2)) = some (out.map (mpS m)).toArray ∧ ∀ v ∈ out, v ∈ cells ∨ ∃ p ∈ parts, v ∈ p.2.cells.toList ∧ p.2.cells.toList.all scal = true
  | [], cells, out, h => by
    simp only [fillA, Option.some.injEq] at h
    subst h
    exact ⟨rfl, fun v hv => Or.inl hv⟩
  | (i, v) :: rest, cells, out, h => by
    simp only [fillA] at h
    cases hp : place i with
    | none => rw [hp] at h; cases h
    | some os =>
      obtain ⟨off, size⟩ := os
      rw [hp] at h
      simp only at h
      split at h
      · rename_i hc
        obtain ⟨h1, h2, h3⟩ := hc
        have hcm := cells_mapV (m := m) (all_list h2)
        have hcl : (mpV m v).cells.toList = v.cells.toList.map (mpS m) := by rw [hcm]; simp
        have hsz : (mpV m v).cells.size = size := by rw [← Array.length_toList, hcl, List.length_map, h1]
        obtain ⟨ih1, ih2⟩ := fillA_sound m place rest _ out h
        refine ⟨?_, fun u hu => ?_⟩
        · simp only [List.map_cons, Instr.fill, hp]
          have hz : ¬ ((mpV m v).cells.size ≠ size ∨ off + (mpV m v).cells.size > (cells.map (mpS m)).toArray.size) := by
            rw [hsz]; simp; omega
          have hzb : ((decide ((mpV m v).cells.size ≠ size)) || decide (off + (mpV m v).cells.size > (cells.map (mpS m)).toArray.size)) = false := by
            rw [hsz]; simp; omega
          rw [if_neg (by rw [hzb]; simp)]
          rw [← ih1]
          congr 1
          have := foldl_splice off (v.cells.toList.map (mpS m)) 0 (cells.map (mpS m)).toArray (by simp at h3 ⊢; omega)
          rw [← splice_maps h3]
          simp only [Nat.add_zero] at this
          rw [← this, ← hcl]
          rw [← Array.foldl_toList, Array.toList_zipIdx]
        · rcases ih2 u hu with h | ⟨p, hp, h⟩
          · rcases mem_splice h with h | h
            · exact Or.inl h
            · exact Or.inr ⟨(i, v), by simp, h, h2⟩
          · exact Or.inr ⟨p, by simp [hp], h⟩
      · cases h
end Go.Am
set_option linter.unusedVariables false
set_option linter.unusedSimpArgs false
namespace Go.Am
open Go.RowKit
def placesOf (P : Program) : List (Nat × TypeId) → Option (List (Nat × Nat))
  | [] => some []
  | (o, t) :: r => match tiOf P t, placesOf P r with
    | some ti, some l => some ((o, ti.size) :: l)
    | _, _ => none
def opBuild (P : Program) (t : TypeId) (parts : List (Nat × Value)) : Option Value :=
  match tiOf P t with
  | some ⟨.array _ e, _, _, z⟩ => match tiOf P e with
    | some te => if z.cells.toList.all flat then (fillA (fun i => some (i * te.size, te.size)) z.cells.toList parts).map fun l => .agg l.toArray else none
    | none => none
  | some ⟨.struct fs, _, _, z⟩ => match placesOf P fs with
    | some pl => if z.cells.toList.all flat then (fillA (fun i => pl[i]?) z.cells.toList parts).map fun l => .agg l.toArray else none
    | none => none
  | _ => none
theorem placesOf_sound {P : Program} : ∀ {fs : List Field} {pl : List (Nat × Nat)}, placesOf P (fs.map fun f => (f.offset, f.type)) = some pl →
    fs.mapM (fun f => (P.info? f.type).map fun i => (f.offset, i.size)) = some pl
  | [], pl, h => by simp [placesOf] at h; subst h; rfl
  | f :: fs, pl, h => by
    simp only [List.map_cons, placesOf] at h
    cases hti : tiOf P f.type with
    | none => rw [hti] at h; simp at h
    | some ti =>
      cases hr : placesOf P (fs.map fun f => (f.offset, f.type)) with
      | none => rw [hti, hr] at h; simp at h
      | some l =>
        rw [hti, hr] at h
        simp only [Option.some.injEq] at h
        subst h
        obtain ⟨i, d, hi, hd, hz, hs, _, hk⟩ := tiOf_spec hti
        simp [List.mapM_cons, hi, placesOf_sound hr, hs]
theorem map_flat_list {m : Mp} {l : List Value} (h : l.all flat = true) : l.map (mpS m) = l := by
  conv => rhs; rw [← List.map_id l]
  exact List.map_congr_left fun v hv => mpS_flat ((List.all_eq_true.1 h) v hv)
theorem opBuild_sound {P : Program} {ρ : Ren} {t : TypeId} {parts : List (Nat × Value)} {v : Value} {n : Nat} (hp : ∀ p ∈ parts, ∀ i ∈ idsV p.2, i < n) (ho : opBuild P t parts = some v) (w : World) :
    (Instr.build t (parts.map fun p => (p.1, mapV ρ p.2)).toArray).run P w = .ok (mapV ρ v) w ∧ (∀ i ∈ idsV v, i < n) := by
  have fin : ∀ (place : Nat → Option (Nat × Nat)) (z : Value) (l : List Value), z.cells.toList.all flat = true → fillA place z.cells.toList parts = some l →
      Instr.fill place z.cells (parts.map fun p => (p.1, mapV ρ p.2)) = some (l.map (mapS ρ)).toArray ∧ ∀ i ∈ idsV (.agg l.toArray), i < n := by
    intro place z l hz hl
    obtain ⟨h1, h2⟩ := fillA_sound (toReal ρ) place parts _ _ hl
    rw [map_flat_list hz] at h1
    refine ⟨by simpa using h1, fun i hi => ?_⟩
    simp only [idsV, idsA, List.mem_flatMap] at hi
    obtain ⟨u, hu, hi⟩ := hi
    rcases h2 u (by simpa using hu) with h | ⟨p, hp', h, hs⟩
    · rw [idsS_flat ((List.all_eq_true.1 hz) u h)] at hi; cases hi
    · exact hp p hp' i (ids_cells (all_list hs) u h i hi)
  unfold opBuild at ho
  split at ho
  · rename_i len e sz by_ z hti
    obtain ⟨i0, d, hi0, hd, hz, hs, _, hk⟩ := tiOf_spec hti
    have hd' := tk_array hk
    subst hd'
    split at ho
    · rename_i te hte
      obtain ⟨i1, d1, hi1, hd1, hz1, hs1, _, hk1⟩ := tiOf_spec hte
      split at ho
      · rename_i hf
        cases hl : fillA (fun i => some (i * te.size, te.size)) z.cells.toList parts with
        | none => rw [hl] at ho; cases ho
        | some l =>
          rw [hl] at ho
          simp only [Option.map_some, Option.some.injEq] at ho
          subst ho
          obtain ⟨h1, h2⟩ := fin _ z l hf hl
          refine ⟨?_, h2⟩
          have := run_build (P := P) w t (parts.map fun p => (p.1, mapV ρ p.2)).toArray (l.map (mapS ρ)).toArray (by
            simp only [Program.built, hi0, hd, hz, hi1, hs1]
            exact h1)
          rw [this]
          simp [mapV, mpV, mpA]
      · cases ho
    · cases ho
  · rename_i fs sz by_ z hti
    obtain ⟨i0, d, hi0, hd, hz, hs, _, hk⟩ := tiOf_spec hti
    obtain ⟨gs, rfl, hfs⟩ := tk_struct hk
    split at ho
    · rename_i pl hpl
      rw [hfs] at hpl
      have hpl' := placesOf_sound hpl
      split at ho
      · rename_i hf
        cases hl : fillA (fun i => pl[i]?) z.cells.toList parts with
        | none => rw [hl] at ho; cases ho
        | some l =>
          rw [hl] at ho
          simp only [Option.map_some, Option.some.injEq] at ho
          subst ho
          obtain ⟨h1, h2⟩ := fin _ z l hf hl
          refine ⟨?_, h2⟩
          have := run_build (P := P) w t (parts.map fun p => (p.1, mapV ρ p.2)).toArray (l.map (mapS ρ)).toArray (by
            simp only [Program.built, hi0, hd, hz, hpl']
            simpa using h1)
          rw [this]
          simp [mapV, mpV, mpA]
      · cases ho
    · cases ho
  · cases ho
def partL (P : Program) (t : TypeId) (cs : List Value) (off : Nat) : Option Value :=
  match tiOf P t with
  | some ti => if ti.kd.isAgg then (if off + ti.size ≤ cs.length then some (.agg ((cs.drop off).take ti.size).toArray) else none)
    else (match cs[off]? with
      | some v => if scal v then some v else none
      | none => none)
  | none => none
theorem partL_sound {P : Program} {ρ : Ren} {t : TypeId} {cs : Array Value} {off : Nat} {v : Value} {n : Nat} (hx : ∀ i ∈ idsV (.agg cs), i < n) (ho : partL P t cs.toList off = some v) (w : World) :
    (part t (cs.map (mapS ρ)) off).run P w = .ok (mapV ρ v) w ∧ ∀ i ∈ idsV v, i < n := by
  have hx' : ∀ u ∈ cs.toList, ∀ i ∈ idsS u, i < n := fun u hu i hi => hx i (by simp only [idsV, idsA, List.mem_flatMap]; exact ⟨u, hu, hi⟩)
  unfold partL at ho
  split at ho
  · rename_i ti hti
    split at ho
    · rename_i hagg
      split at ho
      · rename_i hle
        simp only [Option.some.injEq] at ho
        subst ho
        refine ⟨?_, ?_⟩
        · have hex : (cs.map (mapS ρ)).extract off (off + ti.size) = (((cs.toList.drop off).take ti.size).map (mapS ρ)).toArray := by
            apply Array.ext'
            simp [List.extract_eq_take_drop, List.map_take, List.map_drop]
          simp [part, run_isAgg w hti, hagg, run_size w hti, hex, mapV, mpV, mpA]
        · intro i hi
          simp only [idsV, idsA, List.mem_flatMap] at hi
          obtain ⟨u, hu, hi⟩ := hi
          exact hx' u (List.mem_of_mem_drop (List.mem_of_mem_take (by simpa using hu))) i hi
      · cases ho
    · rename_i hagg
      split at ho
      · rename_i u hu
        split at ho
        · rename_i hsc
          simp only [Option.some.injEq] at ho
          subst ho
          have hu' : cs[off]? = some u := by simpa using hu
          refine ⟨?_, ?_⟩
          · simp [part, run_isAgg w hti, hagg, hu', mapV, mapV_scal hsc]
          · rw [idsV_scal hsc]; exact hx' u (List.mem_of_getElem? hu)
        · cases ho
      · cases ho
  · cases ho
def opIndex (P : Program) (t : TypeId) (x i : Value) : Option Value :=
  match i with
  | .int _ n => match x, tiOf P t with
    | .agg cs, some ⟨.array len e, _, _, _⟩ => match tiOf P e with
      | some te => if 0 ≤ n ∧ n < (len : Int) then partL P e cs.toList (n.toNat * te.size) else none
      | none => none
    | .string s, some ⟨.string, _, _, _⟩ => if 0 ≤ n then (s.data.toList[n.toNat]?).map fun b => .int .u8 b.toNat else none
    | _, _ => none
  | _ => none
theorem opIndex_sound {P : Program} {ρ : Ren} {t : TypeId} {x i v : Value} {n : Nat} (hx : ∀ k ∈ idsV x, k < n) (ho : opIndex P t x i = some v) (w : World) :
    (Instr.index t (mapV ρ x) (mapV ρ i)).run P w = .ok (mapV ρ v) w ∧ ∀ k ∈ idsV v, k < n := by
  unfold opIndex at ho
  split at ho
  · rename_i k m
    split at ho
    · rename_i cs len e _ _ _ hti
      obtain ⟨i0, d, hi0, hd, hz, hs, _, hk⟩ := tiOf_spec hti
      have hd' := tk_array hk
      subst hd'
      split at ho
      · rename_i te hte
        split at ho
        · rename_i hr
          obtain ⟨h1, h2⟩ := partL_sound (ρ := ρ) hx ho w
          refine ⟨?_, h2⟩
          simp only [Instr.index, mapV, mpV, mpA, mpS, mpP, asIntOf, Sem.run_bind, Sem.run_pure, Result.andThen_ok, run_underlying hd, hr.1, hr.2, and_self, if_true, run_size w hte]
          exact h1
        · cases ho
      · cases ho
    · rename_i s _ _ _ hti
      obtain ⟨i0, d, hi0, hd, hz, hs, _, hk⟩ := tiOf_spec hti
      have hd' := tk_string hk
      subst hd'
      split at ho
      · rename_i h0
        cases hb : s.data.toList[m.toNat]? with
        | none => rw [hb] at ho; cases ho
        | some b =>
          rw [hb] at ho
          simp only [Option.map_some, Option.some.injEq] at ho
          subst ho
          have hb' : s[m.toNat]? = some b := by
            have hlt := lt_of_some hb
            have e2 : s.data.toList[m.toNat]'hlt = b := (List.getElem?_eq_some_iff.1 hb).2
            have hlt' : m.toNat < s.size := by simpa using hlt
            rw [getElem?_pos s m.toNat hlt']
            rw [← e2]
            rfl
          refine ⟨?_, by simp [idsV, idsA, idsS, idsP]⟩
          simp [Instr.index, asIntOf, run_underlying hd, mapV, mpV, mpA, mpS, mpP, h0, hb']
      · cases ho
    · cases ho
  · cases ho
def opField (P : Program) (t : TypeId) (x : Value) (f : Nat) : Option Value :=
  match x, tiOf P t with
  | .agg cs, some ⟨.struct fs, _, _, _⟩ => match fs[f]? with
    | some (off, ft) => partL P ft cs.toList off
    | none => none
  | _, _ => none
theorem opField_sound {P : Program} {ρ : Ren} {t : TypeId} {x v : Value} {f n : Nat} (hx : ∀ k ∈ idsV x, k < n) (ho : opField P t x f = some v) (w : World) :
    (Instr.field t (mapV ρ x) f).run P w = .ok (mapV ρ v) w ∧ ∀ k ∈ idsV v, k < n := by
  unfold opField at ho
  split at ho
  · rename_i cs fs _ _ _ hti
    obtain ⟨i0, d, hi0, hd, hz, hs, _, hk⟩ := tiOf_spec hti
    obtain ⟨gs, rfl, rfl⟩ := tk_struct hk
    split at ho
    · rename_i off ft hf
      obtain ⟨h1, h2⟩ := partL_sound (ρ := ρ) hx ho w
      refine ⟨?_, h2⟩
      rw [List.getElem?_map] at hf
      cases hg : gs[f]? with
      | none => rw [Array.getElem?_toList, hg] at hf; cases hf
      | some g =>
        rw [Array.getElem?_toList, hg] at hf
        simp only [Option.map_some, Option.some.injEq, Prod.mk.injEq] at hf
        obtain ⟨rfl, rfl⟩ := hf
        simp only [Instr.field, mapV, mpV, mpA, Sem.run_bind, Sem.run_pure, Result.andThen_ok, run_underlying hd, hg, asAgg]
        exact h1
    · cases ho
  · cases ho
def opUn (op : UnOp) (x : Value) : Option Value :=
  match op, x with
  | .not, .bool b => some (.bool (!b))
  | .neg, .int k n => some (.int k (k.wrap (0 - n)))
  | _, _ => none
theorem opUn_sound {P : Program} {ρ : Ren} {op : UnOp} {x v : Value} (ho : opUn op x = some v) (w : World) : (Op.unary op (mapV ρ x)).run P w = .ok (mapV ρ v) w ∧ flat v = true := by
  unfold opUn at ho
  split at ho
  · simp only [Option.some.injEq] at ho; subst ho; exact ⟨by simp [Op.unary, mapV, mpV, mpA, mpS, mpP], rfl⟩
  · simp only [Option.some.injEq] at ho; subst ho; exact ⟨by simp [Op.unary, Op.intArith, mapV, mpV, mpA, mpS, mpP], rfl⟩
  · cases ho
def opConv (P : Program) (s d : TypeId) (x : Value) : Option Value :=
  match x, tiOf P s, tiOf P d with
  | .int _ n, some _, some ⟨.int k, _, _, _⟩ => some (.int k (k.wrap n))
  | .string b, some ⟨.string, _, _, _⟩, some ⟨.string, _, _, _⟩ => some (.string b)
  | _, _, _ => none
theorem opConv_sound {P : Program} {ρ : Ren} {s d : TypeId} {x v : Value} (ho : opConv P s d x = some v) (w : World) : (convert s d (mapV ρ x)).run P w = .ok (mapV ρ v) w ∧ flat v = true := by
  unfold opConv at ho
  split at ho
  · rename_i k0 n ti k _ _ _ hs hd
    obtain ⟨i0, d0, hi0, hd0, _, _, _, hk0⟩ := tiOf_spec hs
    obtain ⟨i1, d1, hi1, hd1, _, _, _, hk1⟩ := tiOf_spec hd
    have hd' := tk_int hk1
    subst hd'
    simp only [Option.some.injEq] at ho
    subst ho
    exact ⟨by simp [convert, run_underlying hd0, run_underlying hd1, Conv.intToInt, mapV, mpV, mpA, mpS, mpP], rfl⟩
  · rename_i b _ _ _ _ _ _ hs hd
    obtain ⟨i0, d0, hi0, hd0, _, _, _, hk0⟩ := tiOf_spec hs
    obtain ⟨i1, d1, hi1, hd1, _, _, _, hk1⟩ := tiOf_spec hd
    have h0 := tk_string hk0
    have h1 := tk_string hk1
    subst h0; subst h1
    simp only [Option.some.injEq] at ho
    subst ho
    exact ⟨by simp [convert, run_underlying hd0, run_underlying hd1, mapV, mpV, mpA, mpS, mpP], rfl⟩
  · cases ho
def opExtract (x : Value) (i : Nat) : Option Value :=
  match x with
  | .tuple vs => match vs.toList[i]? with
    | some (.tuple _) => none
    | some v => some v
    | none => none
  | _ => none
theorem opExtract_sound {P : Program} {ρ : Ren} {x v : Value} {i n : Nat} (hx : ∀ k ∈ idsV x, k < n) (ho : opExtract x i = some v) (w : World) :
    (Instr.extract (mapV ρ x) i).run P w = .ok (mapV ρ v) w ∧ ∀ k ∈ idsV v, k < n := by
  unfold opExtract at ho
  split at ho
  · rename_i vs
    split at ho
    · cases ho
    · rename_i u hnt hu
      simp only [Option.some.injEq] at ho
      subst ho
      have hu' : vs[i]? = some u := by simpa using hu
      have hm : mapV ρ u = mapA ρ u := by
        cases u <;> first | rfl | exact absurd rfl (hnt _)
      have hi : idsV u = idsA u := by
        cases u <;> first | rfl | exact absurd rfl (hnt _)
      refine ⟨?_, fun k hk => hx k ?_⟩
      · rw [hm]; simp [Instr.extract, mapV, mpV, hu']
      · simp only [idsV, List.mem_flatMap]; exact ⟨u, List.mem_of_getElem? hu, by rw [← hi]; exact hk⟩
    · cases ho
  · cases ho
def opFunc (fn : Fn) (first cap : List Value) : Option Value :=
  if first.all pscal = true ∧ cap.all pscal = true then some (.func fn first.toArray cap.toArray) else none
theorem map_pscal {m : Mp} {l : List Value} (h : l.all pscal = true) : l.map (mpV m) = l.map (mpP m) :=
  List.map_congr_left fun v hv => mapV_pscal ((List.all_eq_true.1 h) v hv)
theorem opFunc_sound {P : Program} {ρ : Ren} {fn : Fn} {first cap : List Value} {v : Value} {n : Nat} (h1 : ∀ x ∈ first, ∀ i ∈ idsV x, i < n) (h2 : ∀ x ∈ cap, ∀ i ∈ idsV x, i < n) (ho : opFunc fn first cap = some v) (w : World) :
    (Instr.makeFunc fn (first.map (mapV ρ)).toArray (cap.map (mapV ρ)).toArray).run P w = .ok (mapV ρ v) w ∧ ∀ k ∈ idsV v, k < n := by
  unfold opFunc at ho
  split at ho
  · rename_i hc
    simp only [Option.some.injEq] at ho
    subst ho
    refine ⟨?_, ?_⟩
    · simp only [Instr.makeFunc, Sem.run_pure, mapV]
      rw [map_pscal hc.1, map_pscal hc.2]
      simp [mpV, mpA, mpS]
    · intro k hk
      simp only [idsV, idsA, idsS, List.mem_flatMap, List.mem_append] at hk
      obtain ⟨u, hu, hk⟩ := hk
      rcases hu with hu | hu
      · have hu' : u ∈ first := by simpa using hu
        exact h1 u hu' k (by rw [idsV_pscal ((List.all_eq_true.1 hc.1) u hu')]; exact hk)
      · have hu' : u ∈ cap := by simpa using hu
        exact h2 u hu' k (by rw [idsV_pscal ((List.all_eq_true.1 hc.2) u hu')]; exact hk)
  · cases ho
def opLen (P : Program) (t : TypeId) (x : Value) : Option Value :=
  match x, tiOf P t with
  | .string s, some ⟨.string, _, _, _⟩ => some (.int .i64 s.size)
  | .slice _ n _, some ⟨.slice _, _, _, _⟩ => some (.int .i64 n)
  | _, some ⟨.array n _, _, _, _⟩ => some (.int .i64 n)
  | _, _ => none
theorem opLen_sound {P : Program} {ρ : Ren} {t ty : TypeId} {x v : Value} (ho : opLen P t x = some v) (w : World) : (Builtin.len_ #[t] ty #[mapV ρ x]).run P w = .ok (mapV ρ v) w ∧ flat v = true := by
  unfold opLen at ho
  split at ho
  · rename_i s _ _ _ hs
    obtain ⟨i0, d0, hi0, hd0, _, _, _, hk0⟩ := tiOf_spec hs
    have h0 := tk_string hk0
    subst h0
    simp only [Option.some.injEq] at ho
    subst ho
    exact ⟨by simp [Builtin.len_, run_underlying hd0, mapV, mpV, mpA, mpS, mpP, goInt], rfl⟩
  · rename_i a n c _ _ _ _ hs
    obtain ⟨i0, d0, hi0, hd0, _, _, _, hk0⟩ := tiOf_spec hs
    have h0 := tk_slice hk0
    subst h0
    simp only [Option.some.injEq] at ho
    subst ho
    refine ⟨?_, rfl⟩
    cases a <;> simp [Builtin.len_, run_underlying hd0, mapV, mpV, mpA, mpS, mpP, goInt]
  · rename_i n _ _ _ _ hs
    obtain ⟨i0, d0, hi0, hd0, _, _, _, hk0⟩ := tiOf_spec hs
    have h0 := tk_array hk0
    subst h0
    simp only [Option.some.injEq] at ho
    subst ho
    exact ⟨by simp [Builtin.len_, run_underlying hd0, mapV, mpV, mpA, mpS, mpP, goInt], rfl⟩
  · cases ho
def foldMin (k : IntKind) : Int → List Value → Option Int
  | x, [] => some x
  | x, .int _ y :: r => foldMin k (if y < x then y else x) r
  | _, _ => none
def foldMax (k : IntKind) : Int → List Value → Option Int
  | x, [] => some x
  | x, .int _ y :: r => foldMax k (if x < y then y else x) r
  | _, _ => none
def opMin (xs : List Value) : Option Value :=
  match xs with
  | .int k x :: r => (foldMin k x r).map fun y => .int k y
  | _ => none
def opMax (xs : List Value) : Option Value :=
  match xs with
  | .int k x :: r => (foldMax k x r).map fun y => .int k y
  | _ => none
theorem foldMin_sound {P : Program} {ρ : Ren} {k : IntKind} (w : World) : ∀ (r : List Value) (x y : Int), foldMin k x r = some y → ((r.map (mapV ρ)).foldlM Builtin.min2 (.int k x)).run P w = .ok (.int k y) w
  | [], x, y, h => by simp [foldMin] at h; subst h; simp
  | v :: r, x, y, h => by
    cases v <;> simp only [foldMin] at h <;> first | cases h | skip
    rename_i k' z
    have := foldMin_sound (P := P) (ρ := ρ) (k := k) w r _ y h
    simp only [List.map_cons, List.foldlM_cons, Sem.run_bind, mapV, mpV, mpA, mpS, mpP, Builtin.min2, Sem.run_pure, Result.andThen_ok]
    exact this
theorem foldMax_sound {P : Program} {ρ : Ren} {k : IntKind} (w : World) : ∀ (r : List Value) (x y : Int), foldMax k x r = some y → ((r.map (mapV ρ)).foldlM Builtin.max2 (.int k x)).run P w = .ok (.int k y) w
  | [], x, y, h => by simp [foldMax] at h; subst h; simp
  | v :: r, x, y, h => by
    cases v <;> simp only [foldMax] at h <;> first | cases h | skip
    rename_i k' z
    have := foldMax_sound (P := P) (ρ := ρ) (k := k) w r _ y h
    simp only [List.map_cons, List.foldlM_cons, Sem.run_bind, mapV, mpV, mpA, mpS, mpP, Builtin.max2, Sem.run_pure, Result.andThen_ok]
    exact this
theorem opMin_sound {P : Program} {ρ : Ren} {ts : Array TypeId} {ty : TypeId} {xs : List Value} {v : Value} (ho : opMin xs = some v) (w : World) : (Builtin.min_ ts ty (xs.map (mapV ρ)).toArray).run P w = .ok (mapV ρ v) w ∧ flat v = true := by
  unfold opMin at ho
  split at ho
  · rename_i k x r
    cases hf : foldMin k x r with
    | none => rw [hf] at ho; cases ho
    | some y =>
      rw [hf] at ho
      simp only [Option.map_some, Option.some.injEq] at ho
      subst ho
      exact ⟨foldMin_sound (ρ := ρ) w r x y hf, rfl⟩
  · cases ho
theorem opMax_sound {P : Program} {ρ : Ren} {ts : Array TypeId} {ty : TypeId} {xs : List Value} {v : Value} (ho : opMax xs = some v) (w : World) : (Builtin.max_ ts ty (xs.map (mapV ρ)).toArray).run P w = .ok (mapV ρ v) w ∧ flat v = true := by
  unfold opMax at ho
  split at ho
  · rename_i k x r
    cases hf : foldMax k x r with
    | none => rw [hf] at ho; cases ho
    | some y =>
      rw [hf] at ho
      simp only [Option.map_some, Option.some.injEq] at ho
      subst ho
      exact ⟨foldMax_sound (ρ := ρ) w r x y hf, rfl⟩
  · cases ho
end Go.Am
set_option linter.unusedVariables false
set_option linter.unusedSimpArgs false
namespace Go.Am
open Go.RowKit
def reps (n : Nat) (z : List Value) : List Value := (List.replicate n z).flatten
theorem reps_succ (n : Nat) (z : List Value) : reps (n + 1) z = reps n z ++ z := by
  unfold reps
  rw [List.replicate_succ', List.flatten_append]
  simp
theorem length_reps (n : Nat) (z : List Value) : (reps n z).length = n * z.length := by
  induction n with
  | zero => simp [reps]
  | succ n ih => rw [reps_succ, List.length_append, ih, Nat.succ_mul]
theorem mem_reps {n : Nat} {z : List Value} {v : Value} (h : v ∈ reps n z) : v ∈ z := by
  unfold reps at h
  obtain ⟨l, hl, hv⟩ := List.mem_flatten.1 h
  rw [List.eq_of_mem_replicate hl] at hv
  exact hv
theorem made_toList (z : Array Value) (n : Nat) : (madeCells z (n * z.size)).toList = reps n z.toList := by
  unfold madeCells
  rw [Array.toList_map, Array.toList_range]
  induction n with
  | zero => simp [reps]
  | succ n ih =>
    rw [Nat.succ_mul, List.range_add, List.map_append, ih, reps_succ, List.map_map]
    congr 1
    apply List.ext_getElem?
    intro i
    simp only [List.getElem?_map]
    rcases Nat.lt_or_ge i z.size with hi | hi
    · rw [List.getElem?_range hi]
      have : (n * z.size + i) % z.size = i := by rw [Nat.add_comm, Nat.add_mul_mod_self_right]; exact Nat.mod_eq_of_lt hi
      simp [this, hi]
    · rw [List.getElem?_eq_none (by simpa using hi), List.getElem?_eq_none (by simpa using hi)]
      rfl
def opMake (P : Program) (H : Heap) (t : TypeId) (l c : Value) : Option (Value × Heap) :=
  match l, c, tiOf P t with
  | .int _ n, .int _ m, some ⟨.slice e, _, _, _⟩ => match tiOf P e with
    | some te => if n = m ∧ 0 ≤ n ∧ (te.bytes : Int) * n ≤ 140737488355328 ∧ n ≤ 1125899906842624 ∧ te.zero.cells.toList.length = te.size ∧ te.zero.cells.toList.all flat = true then
        some (.slice (some ⟨H.length, 0, none⟩) n.toNat 0, H ++ [some ⟨reps n.toNat te.zero.cells.toList, e, false, true⟩]) else none
    | none => none
  | _, _, _ => none
theorem cellsOf_ti {P : Program} {t : TypeId} {x : TI} (h : tiOf P t = some x) : P.cellsOf t = x.size := by
  obtain ⟨i, d, hi, hd, _, hs, _, hk⟩ := tiOf_spec h
  simp [Program.cellsOf, hi, hs]
theorem opMake_sound {P : Program} {ρ : Ren} {H : Heap} {w : World} {t : TypeId} {l c v : Value} {H' : Heap} (h : Rep P ρ H w) (ho : opMake P H t l c = some (v, H')) :
    OS P ρ H w (Instr.makeSlice t (mapV ρ l) (mapV ρ c)) v H' := by
  unfold opMake at ho
  split at ho
  · rename_i k n k' m e _ _ _ hti
    obtain ⟨i0, d, hi0, hd, hz, hs, _, hk⟩ := tiOf_spec hti
    have hd' := tk_slice hk
    subst hd'
    split at ho
    · rename_i te hte
      obtain ⟨i1, d1, hi1, hd1, hz1, hs1, hb1, hk1⟩ := tiOf_spec hte
      split at ho
      · rename_i hc
        obtain ⟨rfl, h0, hby, h50, hzl, hzf⟩ := hc
        simp only [Option.some.injEq, Prod.mk.injEq] at ho
        obtain ⟨rfl, rfl⟩ := ho
        have hr := run_make (P := P) w t e i1 te.zero hd hi1 hz1 k k' n n h0 (Int.le_refl _) (by rw [hb1]; omega) (by omega)
        have hsz : te.zero.cells.size = te.size := by simpa using hzl
        have hmt : (madeCells te.zero.cells (n.toNat * i1.size)).toList = reps n.toNat te.zero.cells.toList := by rw [hs1, ← hsz, made_toList]
        have hf : ∀ u ∈ reps n.toNat te.zero.cells.toList, flat u = true := fun u hu => (List.all_eq_true.1 hzf) u (mem_reps hu)
        refine ⟨_, w.alloc (.cells (madeCells te.zero.cells (n.toNat * i1.size)) e), ?_, adv_push h ⟨reps n.toNat te.zero.cells.toList, e, false, true⟩ (madeCells te.zero.cells (n.toNat * i1.size)) n.toNat ?_ ?_ ?_ ?_ ?_ ?_ ?_ (fun _ => ⟨?_, ?_⟩) (fun h => by cases h), ?_⟩
        · rw [show mapV ρ (.int k n) = .int k n from rfl, show mapV ρ (.int k' n) = .int k' n from rfl, hr]
          congr 1
          simp [mapV, mpV, mpA, mpS, mpP, toReal, updR_eq]
        · rfl
        · rfl
        · rfl
        · rfl
        · intro j u hu
          rw [mapS, mpS_flat (hf u (List.mem_of_getElem? hu))]
          rw [← Array.getElem?_toList, hmt]
          exact hu
        · intro u hu i hi
          rw [idsS_flat (hf u hu)] at hi; cases hi
        · intro u hu
          exact scal_flat (hf u hu)
        · simp only [maxLen]; omega
        · rw [size_madeCells, cellsOf_ti hte, hs1]
        · simp [idsV, idsA, idsS, idsP]
      · cases ho
    · cases ho
  · cases ho
def opBuildSlice (P : Program) (H : Heap) (t : TypeId) (len : Nat) (parts : List (Nat × Value)) : Option (Value × Heap) :=
  match tiOf P t with
  | some ⟨.slice e, _, _, _⟩ => match tiOf P e with
    | some te => if len * te.size ≤ 16777216 ∧ len ≤ 16777216 ∧ te.zero.cells.toList.length = te.size ∧ te.zero.cells.toList.all flat = true then
        (fillA (fun i => some (i * te.size, te.size)) (reps len te.zero.cells.toList) parts).map fun l => (.slice (some ⟨H.length, 0, none⟩) len 0, H ++ [some ⟨l, e, false, true⟩]) else none
    | none => none
  | _ => none
theorem fillA_length {place : Nat → Option (Nat × Nat)} : ∀ {parts : List (Nat × Value)} {cells out : List Value}, fillA place cells parts = some out → out.length = cells.length
  | [], cells, out, h => by simp [fillA] at h; subst h; rfl
  | (i, v) :: rest, cells, out, h => by
    simp only [fillA] at h
    cases hp : place i with
    | none => rw [hp] at h; cases h
    | some os =>
      rw [hp] at h
      simp only at h
      split at h
      · rename_i hc
        rw [fillA_length h, length_splice hc.2.2]
      · cases h
theorem opBuildSlice_sound {P : Program} {ρ : Ren} {H : Heap} {w : World} {t : TypeId} {len : Nat} {parts : List (Nat × Value)} {v : Value} {H' : Heap} (h : Rep P ρ H w) (hp : ∀ p ∈ parts, ∀ i ∈ idsV p.2, i < H.length)
    (ho : opBuildSlice P H t len parts = some (v, H')) : OS P ρ H w (Instr.buildSlice t len (parts.map fun p => (p.1, mapV ρ p.2)).toArray) v H' := by
  unfold opBuildSlice at ho
  split at ho
  · rename_i e _ _ _ hti
    obtain ⟨i0, d, hi0, hd, hz, hs, _, hk⟩ := tiOf_spec hti
    have hd' := tk_slice hk
    subst hd'
    split at ho
    · rename_i te hte
      split at ho
      · rename_i hc
        obtain ⟨h24, hl24, hzl, hzf⟩ := hc
        have hsz : te.zero.cells.size = te.size := by simpa using hzl
        cases hl : fillA (fun i => some (i * te.size, te.size)) (reps len te.zero.cells.toList) parts with
        | none => rw [hl] at ho; cases ho
        | some l =>
          rw [hl] at ho
          simp only [Option.map_some, Option.some.injEq, Prod.mk.injEq] at ho
          obtain ⟨rfl, rfl⟩ := ho
          have hf : ∀ u ∈ reps len te.zero.cells.toList, flat u = true := fun u hu => (List.all_eq_true.1 hzf) u (mem_reps hu)
          obtain ⟨h1, h2⟩ := fillA_sound (toReal ρ) _ parts _ _ hl
          rw [map_flat_list (List.all_eq_true.2 hf)] at h1
          have hin : ∀ u ∈ l, (∀ i ∈ idsS u, i < H.length) ∧ scal u = true := by
            intro u hu
            rcases h2 u hu with h' | ⟨p, hp', h', hs'⟩
            · exact ⟨fun i hi => by (rw [idsS_flat (hf u h')] at hi; cases hi), scal_flat (hf u h')⟩
            · exact ⟨fun i hi => hp p hp' i (ids_cells (all_list hs') u h' i hi), (List.all_eq_true.1 hs') u h'⟩
          have hzero : ((Array.range (len * te.size)).map ((if len * te.size = 0 then (#[] : Array Value) else te.zero.cells)[· % (if len * te.size = 0 then (#[] : Array Value) else te.zero.cells).size]!)) = (reps len te.zero.cells.toList).toArray := by
            have := made_toList te.zero.cells len
            rw [hsz] at this
            apply Array.ext'
            rw [← this]
            by_cases h0 : len * te.size = 0
            · simp [h0, madeCells]
            · simp [h0, madeCells]
          refine ⟨_, { w with heap := w.heap.push (.cells (l.map (mapS ρ)).toArray e) }, ?_, adv_push h ⟨l, e, false, true⟩ (l.map (mapS ρ)).toArray len rfl rfl rfl rfl ?_ ?_ ?_ (fun _ => ⟨?_, ?_⟩) (fun h => by cases h), ?_⟩
          · have hno : ¬ (len * te.size > 2 ^ 24) := by omega
            have hret : mapV (updR ρ H.length ⟨w.heap.size, 0, len⟩) (.slice (some ⟨H.length, 0, none⟩) len 0) = .slice (some ⟨w.heap.size, 0, none⟩) len len := by
              simp [mapV, mpV, mpA, mpS, mpP, toReal, updR_eq]
            rw [hret]
            clear h2 hin hp hret
            have h1' : Instr.fill (fun i => some (i * te.size, te.size)) (reps len te.zero.cells.toList).toArray (parts.map fun p => (p.1, mapV ρ p.2)) = some (l.map (mapS ρ)).toArray := h1
            generalize (parts.map fun p => (p.1, mapV ρ p.2)) = ps at h1' ⊢
            by_cases h0 : len * te.size = 0
            · rw [if_pos h0, h0] at hzero
              simp only [Instr.buildSlice, run_underlying hd, run_size w hte, Sem.run_bind, Result.andThen_ok, h0, Sem.run_ite, Sem.run_pure, if_true]
              rw [if_neg (by omega)]
              try simp only [Result.andThen_ok, Sem.run_bind, Sem.run_pure]
              rw [hzero]
              simp [h1', newRow]
            · rw [if_neg h0] at hzero
              simp only [Instr.buildSlice, run_underlying hd, run_size w hte, Sem.run_bind, Result.andThen_ok, h0, Sem.run_ite, Sem.run_pure, if_false, run_zero w hte]
              rw [if_neg hno]
              try simp only [Result.andThen_ok, Sem.run_bind, Sem.run_pure]
              rw [hzero]
              simp [h1', newRow]
          · intro j u hu
            simpa using ⟨u, hu, rfl⟩
          · intro u hu; exact (hin u hu).1
          · intro u hu; exact (hin u hu).2
          · simp only [maxLen]; omega
          · have := fillA_length hl
            rw [length_reps, hzl] at this
            simp [this, cellsOf_ti hte]
          · simp [idsV, idsA, idsS, idsP]
      · cases ho
    · cases ho
  · cases ho
end Go.Am
set_option linter.unusedVariables false
set_option linter.unusedSimpArgs false
namespace Go.Am
open Go.RowKit
def bnd (x : Option Value) (d : Nat) : Option Nat :=
  match x with
  | none => some d
  | some (.int _ n) => if 0 ≤ n then some n.toNat else none
  | _ => none
def opSlice (P : Program) (H : Heap) (t : TypeId) (x : Value) (lo hi : Option Value) : Option (Value × Heap) :=
  match tiOf P t with
  | some ⟨.string, _, _, _⟩ => match x with
    | .string s => match bnd lo 0, bnd hi s.size with
      | some l, some h => if l ≤ h ∧ h ≤ s.size then some (.string (s.extract l h), H) else none
      | _, _ => none
    | _ => none
  | some ⟨.array n e, _, _, _⟩ => match x, lo, hi with
    | .pointer (some a), none, none => match row? H a.block, tiOf P e with
      | some r, some te => if r.wr = true ∧ r.box = true ∧ a.off = 0 ∧ boxCap P r.elem = n then some (.slice (some ⟨a.block, 0, none⟩) n 0, H) else none
      | _, _ => none
    | _, _, _ => none
  | some ⟨.slice e, _, _, _⟩ => match x with
    | .slice none 0 0 => match bnd lo 0, bnd hi 0, tiOf P e with
      | some 0, some 0, some _ => some (.slice none 0 0, H)
      | _, _, _ => none
    | .slice (some a) len c => match row? H a.block, tiOf P e, bnd lo 0, bnd hi len with
      | some r, some te, some l, some h =>
        if r.box = false ∧ r.elem = e ∧ 0 < te.size ∧ (c + len) * te.size ≤ r.cells.length ∧ a.off = c * te.size ∧ l ≤ h ∧ h ≤ len then
          (if l < len then some (.slice (some ⟨a.block, a.off + l * te.size, none⟩) (h - l) (c + l), H)
          else some (.slice (some ⟨H.length, 0, none⟩) 0 0, H ++ [some ⟨[], e, false, false⟩]))
        else none
      | _, _, _, _ => none
    | _ => none
  | _ => none
theorem bnd_sound {P : Program} {ρ : Ren} {x : Option Value} {d n m : Nat} {code : BoundsCode} (h : bnd x d = some n) (hm : n ≤ m) (w : World) :
    (match x.map (mapV ρ) with
      | some v => Instr.sliceBound v m code
      | none => pure d : Sem Nat).run P w = .ok n w := by
  unfold bnd at h
  split at h
  · simp only [Option.some.injEq] at h; subst h; rfl
  · rename_i k i
    split at h
    · rename_i h0
      simp only [Option.some.injEq] at h
      subst h
      have : i ≤ (m : Int) := by omega
      simp [Instr.sliceBound, asIntOf, mapV, mpV, mpA, mpS, mpP, h0, this]
    · cases h
  · cases h
theorem run_bounds {P : Program} {ρ : Ren} {lo hi : Option Value} {len cap l h : Nat} {isS : Bool} (hl : bnd lo 0 = some l) (hh : bnd hi len = some h) (h1 : l ≤ h) (h2 : h ≤ cap) (w : World) :
    (Instr.sliceBounds isS len cap (lo.map (mapV ρ)) (hi.map (mapV ρ)) none).run P w = .ok (l, h, cap) w := by
  have a := bnd_sound (P := P) (ρ := ρ) (m := h) (code := .sliceB) hl h1 w
  have b := bnd_sound (P := P) (ρ := ρ) (m := cap) (code := if isS then .sliceAcap else .sliceAlen) hh h2 w
  unfold Instr.sliceBounds
  cases hi with
  | none =>
    cases lo with
    | none => simp at a b; subst a; subst b; simp
    | some v => simp at a b; subst b; simp [a]
  | some u =>
    cases lo with
    | none => simp at a b; subst a; simp [b]
    | some v => simp at a b; simp [a, b]
theorem opSlice_sound {P : Program} {ρ : Ren} {H : Heap} {w : World} {t : TypeId} {x : Value} {lo hi : Option Value} {v : Value} {H' : Heap} (h : Rep P ρ H w) (hx : ∀ i ∈ idsV x, i < H.length)
    (ho : opSlice P H t x lo hi = some (v, H')) : OS P ρ H w (Instr.sliceAt t (mapV ρ x) (lo.map (mapV ρ)) (hi.map (mapV ρ)) none) v H' := by
  unfold opSlice at ho
  split at ho
  · rename_i _ _ _ hti
    obtain ⟨i0, d, hi0, hd, hz, hs, _, hk⟩ := tiOf_spec hti
    have hd' := tk_string hk
    subst hd'
    split at ho
    · rename_i s
      split at ho
      · rename_i l hh hl1 hh1
        split at ho
        · rename_i hc
          simp only [Option.some.injEq, Prod.mk.injEq] at ho
          obtain ⟨rfl, rfl⟩ := ho
          refine OS.pure h ?_ (by simp [idsV, idsA, idsS, idsP])
          have hb := run_bounds (P := P) (ρ := ρ) (isS := false) hl1 hh1 hc.1 hc.2 w
          simp only [Instr.sliceAt, Instr.slice, Sem.run_bind, run_underlying hd, Result.andThen_ok]
          simp [mapV, mpV, mpA, mpS, mpP] at hb ⊢
          simp [run_underlying hd, hb]
        · cases ho
      · cases ho
    · cases ho
  · rename_i n e _ _ _ hti
    obtain ⟨i0, d, hi0, hd, hz, hs, _, hk⟩ := tiOf_spec hti
    have hd' := tk_array hk
    subst hd'
    split at ho
    · rename_i a
      split at ho
      · rename_i r te hr hsz
        split at ho
        · rename_i hc
          obtain ⟨c1, c2, c3, c4⟩ := hc
          simp only [Option.some.injEq, Prod.mk.injEq] at ho
          obtain ⟨rfl, rfl⟩ := ho
          obtain ⟨⟨cur, e', fz, hb, hcu, hwr, hlen⟩, hsc⟩ := h.row _ _ (row?_some hr)
          obtain ⟨h0, _, _, _, hbx⟩ := hwr c1
          have hcap := hbx c2
          rw [c4] at hcap
          refine OS.pure h ?_ (by simpa [idsV, idsA, idsS, idsP] using hx)
          simp [Instr.sliceAt, run_underlying hd, Instr.sureAddr, Instr.sliceBounds, mapV, mpV, mpA, mpS, mpP, toReal, run_size w hsz, hcap, c3, Addr.add]
        · cases ho
      · cases ho
    · cases ho
  · rename_i e _ _ _ hti
    obtain ⟨i0, d, hi0, hd, hz, hs, _, hk⟩ := tiOf_spec hti
    have hd' := tk_slice hk
    subst hd'
    split at ho
    · split at ho
      · rename_i te hl1 hh1 hsz
        simp only [Option.some.injEq, Prod.mk.injEq] at ho
        obtain ⟨rfl, rfl⟩ := ho
        refine OS.pure h ?_ (by simp [idsV, idsA, idsS, idsP])
        have hb := run_bounds (P := P) (ρ := ρ) (isS := true) (cap := 0) hl1 hh1 (Nat.le_refl _) (Nat.le_refl _) w
        simp [Instr.sliceAt, Instr.slice, run_underlying hd, hb, mapV, mpV, mpA, mpS, mpP, run_size w hsz] at hb ⊢
      · cases ho
    · rename_i a len c
      split at ho
      · rename_i r te l hh hr hte hl1 hh1
        split at ho
        · rename_i hc
          obtain ⟨c1, c2, c3, c4, c5, c6, c7⟩ := hc
          have hrow := h.row _ _ (row?_some hr)
          obtain ⟨⟨cur, e', fz, hb, hcu, hwr, hlen⟩, hsc⟩ := hrow
          have hcl := hlen c1
          rw [c2, cellsOf_ti hte] at hcl
          have hcap : c + len ≤ (ρ a.block).cap := Nat.le_of_mul_le_mul_right (Nat.le_trans c4 hcl) c3
          have hbd := run_bounds (P := P) (ρ := ρ) (isS := true) (cap := (ρ a.block).cap - c) hl1 hh1 c6 (by omega) w
          split at ho
          · rename_i hlt
            simp only [Option.some.injEq, Prod.mk.injEq] at ho
            obtain ⟨rfl, rfl⟩ := ho
            refine OS.pure h ?_ (by simpa [idsV, idsA, idsS, idsP] using hx)
            have hne : ¬ ((ρ a.block).cap - c = l) := by omega
            simp only [Instr.sliceAt, Instr.slice, Sem.run_bind, run_underlying hd, Result.andThen_ok, mapV, mpV, mpA, mpS, mpP, toReal] at hbd ⊢
            simp only [run_underlying hd, Result.andThen_ok, hbd, run_size w hte, hne, if_false, Option.map_some, Addr.add_lit, Sem.run_pure]
            simp only [Nat.add_assoc, Nat.sub_sub]
          · rename_i hlt
            simp only [Option.some.injEq, Prod.mk.injEq] at ho
            obtain ⟨rfl, rfl⟩ := ho
            have hlen' : l = len := by omega
            have hhl : hh = len := by omega
            subst hlen'
            refine ⟨_, w, ?_, adv_view h a.block r (row?_some hr) ⟨(ρ a.block).blk, if (ρ a.block).cap - c = l then (ρ a.block).off + a.off else (ρ a.block).off + a.off + l * te.size, (ρ a.block).cap - c - l⟩ rfl e, by simp [idsV, idsA, idsS, idsP]⟩
            simp only [Instr.sliceAt, Instr.slice, Sem.run_bind, run_underlying hd, Result.andThen_ok, mapV, mpV, mpA, mpS, mpP, toReal] at hbd ⊢
            simp only [run_underlying hd, Result.andThen_ok, hbd, run_size w hte, Sem.run_pure, updR_eq, hhl, Nat.sub_self, Nat.add_zero, Nat.sub_zero]
            split <;> simp [Addr.add_lit, *]
        · cases ho
      · cases ho
    · cases ho
  · cases ho
end Go.Am
set_option linter.unusedVariables false
set_option linter.unusedSimpArgs false
namespace Go.Am
open Go.RowKit
def readS (H : Heap) (size : Nat) (x : Value) : Option (List Value) :=
  match x with
  | .slice (some a) m _ => match row? H a.block with
    | some r => if a.off + m * size ≤ r.cells.length then some ((r.cells.drop a.off).take (m * size)) else none
    | none => none
  | _ => none
theorem readS_sound {P : Program} {ρ : Ren} {H : Heap} {w : World} (h : Rep P ρ H w) {size : Nat} {a : Addr} {m c : Nat} {l : List Value} (hr : readS H size (.slice (some a) m c) = some l) :
    l.length = m * size ∧ (∀ (j : Nat) (u : Value), (l.map (mapS ρ))[j]? = some u → w.cell? ((⟨(ρ a.block).blk, (ρ a.block).off + a.off, none⟩ : Addr).add j) = some u) ∧ (∀ u ∈ l, scal u = true) ∧ ∀ u ∈ l, ∀ k ∈ idsS u, k < H.length := by
  unfold readS at hr
  simp only at hr
  split at hr
  · rename_i r hrow
    split at hr
    · rename_i hle
      simp only [Option.some.injEq] at hr
      subst hr
      have hR := h.row _ _ (row?_some hrow)
      refine ⟨by simp; omega, ?_, ?_, ?_⟩
      · intro j u hu
        rw [List.getElem?_map] at hu
        cases hj : ((r.cells.drop a.off).take (m * size))[j]? with
        | none => rw [hj] at hu; cases hu
        | some y =>
          rw [hj] at hu
          simp only [Option.map_some, Option.some.injEq] at hu
          subst hu
          have hy : r.cells[a.off + j]? = some y := by
            rw [List.getElem?_take] at hj
            split at hj
            · simpa using hj
            · cases hj
          rw [Addr.add_lit, Nat.add_assoc]
          exact cell_at hR hy
      · intro u hu
        exact hR.scal u (List.mem_of_mem_drop (List.mem_of_mem_take hu))
      · intro u hu
        exact h.cl _ _ (row?_some hrow) u (List.mem_of_mem_drop (List.mem_of_mem_take hu))
    · cases hr
  · cases hr
def opAppend (P : Program) (H : Heap) (t : TypeId) (s x : Value) : Option (Value × Heap) :=
  match tiOf P t with
  | some ⟨.slice e, _, _, _⟩ => match tiOf P e with
    | some te =>
      if 0 < te.size ∧ te.zero.cells.toList.length = te.size then
        (match s, x with
        | .slice none 0 0, .slice none 0 0 => some (.slice none 0 0, H)
        | .slice none 0 0, .slice (some a) m c => match readS H te.size (.slice (some a) m c) with
          | some l => if m = 0 then some (.slice none 0 0, H) else if m * te.bytes ≤ 140737488355328 ∧ m ≤ 1125899906842624 then some (.slice (some ⟨H.length, 0, none⟩) m 0, H ++ [some ⟨l, e, false, true⟩]) else none
          | none => none
        | .slice (some b) n 0, .slice none 0 0 => match row? H b.block with
          | some r => if r.wr = true ∧ r.box = false ∧ r.elem = e ∧ b.off = 0 ∧ r.cells.length = n * te.size then some (.slice (some b) n 0, H) else none
          | none => none
        | .slice (some b) n 0, .slice (some a) m c => match row? H b.block, readS H te.size (.slice (some a) m c) with
          | some r, some l => if r.wr = true ∧ r.box = false ∧ r.elem = e ∧ b.off = 0 ∧ r.cells.length = n * te.size ∧ (n + m) * te.bytes ≤ 140737488355328 ∧ n + m ≤ 1125899906842624 then
              some (.slice (some ⟨H.length, 0, none⟩) (n + m) 0, H.set b.block none ++ [some ⟨r.cells ++ l, e, false, true⟩]) else none
          | _, _ => none
        | _, _ => none)
      else none
    | none => none
  | _ => none
theorem opAppend_sound {P : Program} {ρ : Ren} {H : Heap} {w : World} {t ty : TypeId} {s x v : Value} {H' : Heap} (h : Rep P ρ H w) (hs : ∀ i ∈ idsV s, i < H.length)
    (ho : opAppend P H t s x = some (v, H')) : OS P ρ H w (Builtin.append_ #[t, t] ty #[mapV ρ s, mapV ρ x]) v H' := by
  unfold opAppend at ho
  split at ho
  · rename_i e _ _ _ hti
    obtain ⟨i0, d, hi0, hd, hz0, hs0, _, hk⟩ := tiOf_spec hti
    have hd' := tk_slice hk
    subst hd'
    split at ho
    · rename_i te hte
      obtain ⟨i1, d1, hi1, hd1, hz1, hs1, hb1, hk1⟩ := tiOf_spec hte
      split at ho
      · rename_i hsz
        obtain ⟨hsz, hzl⟩ := hsz
        have hzs : te.zero.cells.size = te.size := by simpa using hzl
        split at ho
        · simp only [Option.some.injEq, Prod.mk.injEq] at ho
          obtain ⟨rfl, rfl⟩ := ho
          refine OS.pure h ?_ (by simp [idsV, idsA, idsS, idsP])
          simp [Builtin.append_, run_underlying hd, sizeOf, typeInfo, hi1, Builtin.lenOf, Builtin.firstCells, mapV, mpV, mpA, mpS, mpP]
        · rename_i a m c
          split at ho
          · rename_i l hl
            obtain ⟨l1, l2, l3, l4⟩ := readS_sound h hl
            have hmx : mapV ρ (.slice (some a) m c) = .slice (some ⟨(ρ a.block).blk, (ρ a.block).off + a.off, none⟩) m ((ρ a.block).cap - c) := by simp [mapV, mpV, mpA, mpS, mpP, toReal]
            split at ho
            · rename_i hm
              subst hm
              simp only [Option.some.injEq, Prod.mk.injEq] at ho
              obtain ⟨rfl, rfl⟩ := ho
              refine OS.pure h ?_ (by simp [idsV, idsA, idsS, idsP])
              rw [hmx]
              simp [Builtin.append_, run_underlying hd, sizeOf, typeInfo, hi1, Builtin.lenOf, Builtin.firstCells, mapV, mpV, mpA, mpS, mpP, loadCells, loadCellsFrom]
            · rename_i hm
              split at ho
              · rename_i hb
                simp only [Option.some.injEq, Prod.mk.injEq] at ho
                obtain ⟨rfl, rfl⟩ := ho
                have hr := run_append_nil (P := P) w t ty e i1 te.zero hd hi1 hz1 ⟨(ρ a.block).blk, (ρ a.block).off + a.off, none⟩ m ((ρ a.block).cap - c) (l.map (mapS ρ)) (by simp [l1, hs1]) l2 (by omega) (by omega) (by rw [hb1]; omega)
                have hge := grownCap_ge w m 0 e
                refine ⟨_, w.drew.alloc (.cells ((l.map (mapS ρ)).toArray ++ Builtin.zeroCells te.zero.cells (grownCap w m 0 e - m)) e), ?_, adv_push h ⟨l, e, false, true⟩ _ (grownCap w m 0 e) rfl rfl rfl rfl ?_ l4 l3 (fun _ => ⟨?_, ?_⟩) (fun h => by cases h), by simp [idsV, idsA, idsS, idsP]⟩
                · rw [hmx, show mapV ρ (.slice none 0 0) = .slice none 0 0 from rfl, hr]
                  congr 1
                  simp [mapV, mpV, mpA, mpS, mpP, toReal, updR_eq]
                · intro j u hu
                  rw [Array.getElem?_append_left (by simpa using lt_of_some hu)]
                  simpa using ⟨u, hu, rfl⟩
                · exact grownCap_le_maxLen w m 0 e (by simp only [maxLen]; omega)
                · simp only [Array.size_append, List.size_toArray, List.length_map, size_zeroCells, hzs, l1, cellsOf_ti hte]
                  rw [← Nat.add_mul]
                  congr 1
                  omega
              · cases ho
          · cases ho
        · rename_i b n
          split at ho
          · rename_i r hr
            split at ho
            · rename_i hc
              obtain ⟨c1, c2, c3, c4, c5⟩ := hc
              simp only [Option.some.injEq, Prod.mk.injEq] at ho
              obtain ⟨rfl, rfl⟩ := ho
              obtain ⟨⟨cur, e', fz, hb, hcu, hwr, hlen⟩, hsc⟩ := h.row _ _ (row?_some hr)
              obtain ⟨h0, he, hf, hbx, _⟩ := hwr c1
              have hle := hlen c2
              rw [c3, cellsOf_ti hte, c5] at hle
              have hn : n ≤ (ρ b.block).cap := Nat.le_of_mul_le_mul_right hle hsz
              refine OS.pure h ?_ hs
              simp [Builtin.append_, run_underlying hd, sizeOf, typeInfo, hi1, Builtin.lenOf, Builtin.firstCells, mapV, mpV, mpA, mpS, mpP, toReal, hn, storeCells]
            · cases ho
          · cases ho
        · rename_i b n a m c
          split at ho
          · rename_i r l hr hl
            split at ho
            · rename_i hc
              obtain ⟨c1, c2, c3, c4, c5, c6, c7⟩ := hc
              simp only [Option.some.injEq, Prod.mk.injEq] at ho
              obtain ⟨rfl, rfl⟩ := ho
              obtain ⟨l1, l2, l3, l4⟩ := readS_sound h hl
              have hr' := row?_some hr
              have hrow := h.row _ _ hr'
              have hil : b.block < H.length := lt_of_some hr'
              obtain ⟨⟨cur, e', fz, hb, hcu, hwr, hlen⟩, hsc⟩ := hrow
              obtain ⟨h0, he, hf, hbx, _⟩ := hwr c1
              obtain ⟨hcm, hcs⟩ := hbx c2
              rw [c3, cellsOf_ti hte] at hcs
              subst hf
              rw [c3] at he
              subst he
              have hmx : mapV ρ (.slice (some a) m c) = .slice (some ⟨(ρ a.block).blk, (ρ a.block).off + a.off, none⟩) m ((ρ a.block).cap - c) := by simp [mapV, mpV, mpA, mpS, mpP, toReal]
              have hms : mapV ρ (.slice (some b) n 0) = .slice (some ⟨(ρ b.block).blk, 0, none⟩) n (ρ b.block).cap := by simp [mapV, mpV, mpA, mpS, mpP, toReal, h0, c4]
              have h1 : ∀ u ∈ l.map (mapS ρ), u.oneCell' = true := by
                intro u hu
                obtain ⟨y, hy, rfl⟩ := List.mem_map.1 hu
                exact oneCell_of_scal (by rw [mapS, scal_mpS]; exact l3 y hy)
              have hcl2 : ∀ u ∈ r.cells ++ l, ∀ k ∈ idsS u, k < H.length := fun u hu => by
                rcases List.mem_append.1 hu with hu | hu
                · exact h.cl _ _ hr' u hu
                · exact l4 u hu
              have hsc2 : ∀ u ∈ r.cells ++ l, scal u = true := fun u hu => by
                rcases List.mem_append.1 hu with hu | hu
                · exact hsc u hu
                · exact l3 u hu
              have hcur : ∀ (j : Nat) (u : Value), r.cells[j]? = some u → cur[j]? = some (mapS ρ u) := fun j u hu => by have := hcu j u hu; rwa [h0, Nat.zero_add] at this
              by_cases hroom : n + m ≤ (ρ b.block).cap
              · have hfit : n * i1.size + (l.map (mapS ρ)).length ≤ cur.size := by
                  rw [List.length_map, l1, hcs, hs1, ← Nat.add_mul]; exact Nat.mul_le_mul_right _ hroom
                have hrun := run_append_room (P := P) w t ty e' i1 hd hi1 (ρ b.block).blk n (ρ b.block).cap cur hb ⟨(ρ a.block).blk, (ρ a.block).off + a.off, none⟩ m ((ρ a.block).cap - c) (l.map (mapS ρ)) (by simp [l1, hs1]) l2 h1 hroom hfit
                have st := adv_store h b.block r hr' c1 (r.cells ++ l) (cur.toList.take (n * i1.size) ++ l.map (mapS ρ) ++ cur.toList.drop (n * i1.size + (l.map (mapS ρ)).length)).toArray
                  (by
                    intro cur' e2 fz' hb'
                    rw [hb] at hb'
                    simp only [Option.some.injEq, Obj.cells.injEq] at hb'
                    obtain ⟨rfl, _, _⟩ := hb'
                    simp
                    simp at hfit
                    omega)
                  (by
                    intro j u hu
                    have hlr : r.cells.length = n * i1.size := by rw [c5, hs1]
                    simp only [List.getElem?_toArray]
                    rcases Nat.lt_or_ge j r.cells.length with hj | hj
                    · rw [List.getElem?_append_left hj] at hu
                      rw [List.append_assoc, List.getElem?_append_left (by simp; omega), List.getElem?_take_of_lt (by omega)]
                      simpa using hcur j u hu
                    · rw [List.getElem?_append_right hj] at hu
                      have hjl := lt_of_some hu
                      rw [List.append_assoc, List.getElem?_append_right (by simp; omega), List.getElem?_append_left (by simp; omega), List.getElem?_map]
                      have e3 : (cur.toList.take (n * i1.size)).length = r.cells.length := by simp; omega
                      rw [e3, hu]
                      rfl)
                  hcl2 hsc2
                have mv := adv_move st.rep b.block { r with cells := r.cells ++ l } (by rw [List.getElem?_set_self hil])
                have both := st.trans mv
                rw [List.set_set, List.length_set] at both
                have hre : ({ r with cells := r.cells ++ l } : Row) = ⟨r.cells ++ l, e', false, true⟩ := by cases r; simp at c1 c2 c3; simp [c1, c2, c3]
                rw [hre] at both
                refine ⟨_, _, ?_, both, by simp [idsV, idsA, idsS, idsP]⟩
                rw [hms, hmx, hrun]
                congr 1
                simp [mapV, mpV, mpA, mpS, mpP, toReal, updR_eq, h0]
              · have hrun := run_append_grow (P := P) w t ty e' i1 te.zero hd hi1 hz1 ⟨(ρ b.block).blk, 0, none⟩ n (ρ b.block).cap (r.cells.map (mapS ρ)) (by simp [c5, hs1])
                  (by
                    intro j u hu
                    rw [List.getElem?_map] at hu
                    cases hj : r.cells[j]? with
                    | none => rw [hj] at hu; cases hu
                    | some y =>
                      rw [hj] at hu
                      simp only [Option.map_some, Option.some.injEq] at hu
                      subst hu
                      rw [Addr.add_lit, cell_of_row w _ _ cur e' (0, 0) hb, Nat.zero_add]
                      exact hcur j y hj)
                  ⟨(ρ a.block).blk, (ρ a.block).off + a.off, none⟩ m ((ρ a.block).cap - c) (l.map (mapS ρ)) (by simp [l1, hs1]) l2 (by omega) (by omega) (growslice_fits (by omega) (by rw [hb1]; exact c6))
                have hge := grownCap_ge w (n + m) (ρ b.block).cap e'
                have kl := adv_kill h b.block
                have ps := adv_push (w' := w.drew.alloc (.cells ((r.cells.map (mapS ρ)).toArray ++ (l.map (mapS ρ)).toArray ++ Builtin.zeroCells te.zero.cells (grownCap w (n + m) (ρ b.block).cap e' - (n + m))) e')) kl.rep ⟨r.cells ++ l, e', false, true⟩ _ (grownCap w (n + m) (ρ b.block).cap e') rfl rfl rfl rfl
                  (by
                    intro j u hu
                    have hlt := lt_of_some hu
                    rw [Array.getElem?_append_left (by simpa using hlt)]
                    have : ((r.cells.map (mapS ρ)).toArray ++ (l.map (mapS ρ)).toArray) = ((r.cells ++ l).map (mapS ρ)).toArray := by simp
                    rw [this, List.getElem?_toArray, List.getElem?_map, hu]
                    rfl)
                  (by rw [List.length_set]; exact hcl2) hsc2
                  (fun _ => ⟨grownCap_le_maxLen w (n + m) _ e' (by simp only [maxLen]; omega), by
                    simp only [Array.size_append, List.size_toArray, List.length_map, size_zeroCells, hzs, l1, c5, cellsOf_ti hte]
                    rw [← Nat.add_mul, ← Nat.add_mul]
                    congr 1
                    omega⟩) (fun h => by cases h)
                have both := kl.trans ps
                rw [List.length_set] at both
                refine ⟨_, _, ?_, both, by simp [idsV, idsA, idsS, idsP]⟩
                rw [hms, hmx, hrun]
                congr 1
                simp [mapV, mpV, mpA, mpS, mpP, toReal, updR_eq]
            · cases ho
          · cases ho
        · cases ho
      · cases ho
    · cases ho
  · cases ho
end Go.Am
set_option linter.unusedVariables false
set_option linter.unusedSimpArgs false
namespace Go.Am
open Go.RowKit
def evalL (T : Tm) : List Operand → Option (List Value)
  | [] => some []
  | x :: r => match evalO T x, evalL T r with
    | some v, some l => some (v :: l)
    | _, _ => none
def evalParts (T : Tm) : List (Nat × Operand) → Option (List (Nat × Value))
  | [] => some []
  | (i, x) :: r => match evalO T x, evalParts T r with
    | some v, some l => some ((i, v) :: l)
    | _, _ => none
def evalM (T : Tm) : Option Operand → Option (Option Value)
  | none => some none
  | some x => (evalO T x).map some
theorem evalL_sound {ρ : Ren} {n : Nat} {T : Tm} {a : Act} (h : RT ρ n T a) : ∀ {xs : List Operand} {l : List Value}, evalL T xs = some l → xs.map a.eval = l.map (mapV ρ) ∧ ∀ x ∈ l, ∀ i ∈ idsV x, i < n
  | [], l, hl => by simp [evalL] at hl; subst hl; simp
  | x :: r, l, hl => by
    simp only [evalL] at hl
    cases hx : evalO T x with
    | none => rw [hx] at hl; simp at hl
    | some v =>
      cases hr : evalL T r with
      | none => rw [hx, hr] at hl; simp at hl
      | some l' =>
        rw [hx, hr] at hl
        simp only [Option.some.injEq] at hl
        subst hl
        obtain ⟨h1, h2⟩ := evalO_sound h hx
        obtain ⟨h3, h4⟩ := evalL_sound h hr
        refine ⟨by simp [h1, h3], fun y hy => ?_⟩
        rcases List.mem_cons.1 hy with rfl | hy
        · exact h2
        · exact h4 y hy
theorem evalParts_sound {ρ : Ren} {n : Nat} {T : Tm} {a : Act} (h : RT ρ n T a) : ∀ {xs : List (Nat × Operand)} {l : List (Nat × Value)}, evalParts T xs = some l →
    xs.map (fun p => (p.1, a.eval p.2)) = l.map (fun p => (p.1, mapV ρ p.2)) ∧ ∀ p ∈ l, ∀ i ∈ idsV p.2, i < n
  | [], l, hl => by simp [evalParts] at hl; subst hl; simp
  | (j, x) :: r, l, hl => by
    simp only [evalParts] at hl
    cases hx : evalO T x with
    | none => rw [hx] at hl; simp at hl
    | some v =>
      cases hr : evalParts T r with
      | none => rw [hx, hr] at hl; simp at hl
      | some l' =>
        rw [hx, hr] at hl
        simp only [Option.some.injEq] at hl
        subst hl
        obtain ⟨h1, h2⟩ := evalO_sound h hx
        obtain ⟨h3, h4⟩ := evalParts_sound h hr
        refine ⟨by simp [h1, h3], fun y hy => ?_⟩
        rcases List.mem_cons.1 hy with rfl | hy
        · exact h2
        · exact h4 y hy
theorem evalM_sound {ρ : Ren} {n : Nat} {T : Tm} {a : Act} (h : RT ρ n T a) {x : Option Operand} {v : Option Value} (hx : evalM T x = some v) : x.map a.eval = v.map (mapV ρ) := by
  cases x with
  | none => simp [evalM] at hx; subst hx; rfl
  | some y =>
    simp only [evalM] at hx
    cases hy : evalO T y with
    | none => rw [hy] at hx; cases hx
    | some u =>
      rw [hy] at hx
      simp only [Option.map_some, Option.some.injEq] at hx
      subst hx
      simp [(evalO_sound h hy).1]
def evOp {P : Program} (C : Ctx P) (T : Tm) (H : Heap) (op : Op) : Option (Value × Heap) :=
  match op with
  | .move x => (evalO T x).map fun v => (v, H)
  | .assign x => (evalO T x).map fun v => (v, H)
  | .pick c x y => match evalO T c, evalO T x, evalO T y with
    | some (.bool t), some u, some v => some (if t = true then u else v, H)
    | _, _, _ => none
  | .alloc t => opAlloc P H t
  | .box t x => (evalO T x).bind fun v => opBox P H t v
  | .build t parts => (evalParts T parts.toList).bind fun ps => (opBuild P t ps).map fun v => (v, H)
  | .buildSlice t n parts => (evalParts T parts.toList).bind fun ps => opBuildSlice P H t n ps
  | .load t x => (evalO T x).bind fun a => (opLoad P H t a).map fun v => (v, H)
  | .store t x y => match evalO T x, evalO T y with
    | some a, some v => (opStore P H t a v).map fun H' => (undef, H')
    | _, _ => none
  | .nilCheck x => match evalO T x with
    | some (.pointer (some a)) => some (.pointer (some a), H)
    | _ => none
  | .binOp b t x y _ => match evalO T x, evalO T y with
    | some u, some v => (evBin C b t u v).map fun r => (r, H)
    | _, _ => none
  | .unOp u _ x => (evalO T x).bind fun v => (opUn u v).map fun r => (r, H)
  | .convert s d x => (evalO T x).bind fun v => (opConv P s d v).map fun r => (r, H)
  | .makeFunc fn first cap => match evalL T first.toList, evalL T cap.toList with
    | some l, some m => (opFunc fn l m).map fun r => (r, H)
    | _, _ => none
  | .makeSlice t l c => match evalO T l, evalO T c with
    | some u, some v => opMake P H t u v
    | _, _ => none
  | .slice t x lo hi none => match evalO T x, evalM T lo, evalM T hi with
    | some v, some l, some h => opSlice P H t v l h
    | _, _, _ => none
  | .fieldAddr t x f => (evalO T x).bind fun v => (opFldAddr P t v f).map fun r => (r, H)
  | .field t x f => (evalO T x).bind fun v => (opField P t v f).map fun r => (r, H)
  | .indexAddr t x i => match evalO T x, evalO T i with
    | some u, some v => (opIdxAddr P t u v).map fun r => (r, H)
    | _, _ => none
  | .index t x i => match evalO T x, evalO T i with
    | some u, some v => (opIndex P t u v).map fun r => (r, H)
    | _, _ => none
  | .extract x i => (evalO T x).bind fun v => (opExtract v i).map fun r => (r, H)
  | .call c => match c.callee with
    | .builtin .len => match c.args.toList, c.argTypes.toList with
      | [x], [t] => (evalO T x).bind fun v => (opLen P t v).map fun r => (r, H)
      | _, _ => none
    | .builtin .append => match c.args.toList, c.argTypes.toList with
      | [x, y], [t, t'] => if t = t' then (match evalO T x, evalO T y with
        | some u, some v => opAppend P H t u v
        | _, _ => none) else none
      | _, _ => none
    | .builtin .min => (evalL T c.args.toList).bind fun l => (opMin l).map fun r => (r, H)
    | .builtin .max => (evalL T c.args.toList).bind fun l => (opMax l).map fun r => (r, H)
    | _ => none
  | _ => none
theorem arr_map {α β : Type} {a : Array α} {f : α → β} {l : List β} (h : a.toList.map f = l) : a.map f = l.toArray := by
  apply Array.ext'
  simp [h]
def Did (P : Program) (ρ : Ren) (H : Heap) (w : World) (x : Sem Next) (v : Value) (H' : Heap) : Prop :=
  ∃ ρ' w', (x.run P w = .ok (.value (mapV ρ' v)) w' ∨ (x.run P w = .ok .skip w' ∧ v = undef)) ∧ Adv P ρ H w ρ' H' w' ∧ ∀ i ∈ idsV v, i < H'.length
theorem Did.of_os {P : Program} {ρ : Ren} {H : Heap} {w : World} {x : Sem Value} {v : Value} {H' : Heap} (h : OS P ρ H w x v H') : Did P ρ H w (do pure (.value (← x))) v H' := by
  obtain ⟨ρ', w', h1, h2, h3⟩ := h
  exact ⟨ρ', w', Or.inl (by simp [h1]), h2, h3⟩
theorem Did.of_same {P : Program} {ρ : Ren} {H : Heap} {w : World} (hr : Rep P ρ H w) {x : Sem Value} {v : Value} (h : x.run P w = .ok (mapV ρ v) w) (hc : ∀ i ∈ idsV v, i < H.length) : Did P ρ H w (do pure (.value (← x))) v H :=
  Did.of_os (OS.pure hr h hc)
theorem flat_ids {v : Value} (h : flat v = true) {n : Nat} : ∀ i ∈ idsV v, i < n := by simp [idsV_flat h]
theorem evOp_sound {P : Program} {C : Ctx P} {ρ : Ren} {T : Tm} {H H' : Heap} {w : World} {a : Act} {o : Oper} {v : Value} (hr : Rep P ρ H w) (ht : RT ρ H.length T a) (ho : evOp C T H o.op = some (v, H')) :
    Did P ρ H w (execOp a.eval o) v H' := by
  obtain ⟨dst, op, ty, pos, after, guard⟩ := o
  have one : ∀ {x : Operand} {f : Value → Option Value} {v : Value} {H' : Heap}, ((evalO T x).bind fun u => (f u).map fun r => (r, H)) = some (v, H') → ∃ u, evalO T x = some u ∧ f u = some v ∧ H' = H := by
    intro x f v H' h
    cases hx : evalO T x with
    | none => rw [hx] at h; cases h
    | some u =>
      rw [hx] at h
      simp only [Option.bind_some] at h
      cases hf : f u with
      | none => rw [hf] at h; cases h
      | some r =>
        rw [hf] at h
        simp only [Option.map_some, Option.some.injEq, Prod.mk.injEq] at h
        exact ⟨u, rfl, by rw [hf, h.1], h.2.symm⟩
  have two : ∀ {x y : Operand} {f : Value → Value → Option Value} {v : Value} {H' : Heap}, (match evalO T x, evalO T y with
      | some u, some v => (f u v).map fun r => (r, H)
      | _, _ => none) = some (v, H') → ∃ u1 u2, evalO T x = some u1 ∧ evalO T y = some u2 ∧ f u1 u2 = some v ∧ H' = H := by
    intro x y f v H' h
    cases hx : evalO T x with
    | none => rw [hx] at h; simp at h
    | some u =>
      cases hy : evalO T y with
      | none => rw [hx, hy] at h; simp at h
      | some u2 =>
        rw [hx, hy] at h
        simp only at h
        cases hf : f u u2 with
        | none => rw [hf] at h; cases h
        | some r =>
          rw [hf] at h
          simp only [Option.map_some, Option.some.injEq, Prod.mk.injEq] at h
          exact ⟨u, u2, rfl, rfl, by rw [hf, h.1], h.2.symm⟩
  cases op <;> simp only [evOp] at ho <;> try (cases ho; done)
  case move x =>
    cases hx : evalO T x with
    | none => rw [hx] at ho; cases ho
    | some u =>
      rw [hx] at ho
      simp only [Option.map_some, Option.some.injEq, Prod.mk.injEq] at ho
      obtain ⟨rfl, rfl⟩ := ho
      obtain ⟨h1, h2⟩ := evalO_sound ht hx
      exact ⟨ρ, w, Or.inl (by simp [execOp, h1]), Adv.refl hr, h2⟩
  case assign x =>
    cases hx : evalO T x with
    | none => rw [hx] at ho; cases ho
    | some u =>
      rw [hx] at ho
      simp only [Option.map_some, Option.some.injEq, Prod.mk.injEq] at ho
      obtain ⟨rfl, rfl⟩ := ho
      obtain ⟨h1, h2⟩ := evalO_sound ht hx
      exact ⟨ρ, w, Or.inl (by simp [execOp, h1]), Adv.refl hr, h2⟩
  case pick c x y =>
    split at ho
    · rename_i t u1 u2 hc hx hy
      simp only [Option.some.injEq, Prod.mk.injEq] at ho
      obtain ⟨rfl, rfl⟩ := ho
      obtain ⟨c1, c2⟩ := evalO_sound ht hc
      obtain ⟨x1, x2⟩ := evalO_sound ht hx
      obtain ⟨y1, y2⟩ := evalO_sound ht hy
      refine ⟨ρ, w, Or.inl ?_, Adv.refl hr, ?_⟩
      · have : mapV ρ (.bool t) = .bool t := rfl
        simp only [execOp, c1, x1, y1, this, asBool, Sem.run_bind, Sem.run_pure, Result.andThen_ok]
        cases t <;> rfl
      · cases t
        · exact y2
        · exact x2
    · cases ho
  case alloc t =>
    exact Did.of_os (opAlloc_sound hr ho)
  case box t x =>
    cases hx : evalO T x with
    | none => rw [hx] at ho; cases ho
    | some u =>
      rw [hx] at ho
      obtain ⟨h1, h2⟩ := evalO_sound ht hx
      have := opBox_sound hr h2 ho
      rw [← h1] at this
      exact Did.of_os this
  case build t parts =>
    cases hx : evalParts T parts.toList with
    | none => rw [hx] at ho; cases ho
    | some ps =>
      rw [hx] at ho
      simp only [Option.bind_some] at ho
      cases hb : opBuild P t ps with
      | none => rw [hb] at ho; cases ho
      | some r =>
        rw [hb] at ho
        simp only [Option.map_some, Option.some.injEq, Prod.mk.injEq] at ho
        obtain ⟨rfl, rfl⟩ := ho
        obtain ⟨h1, h2⟩ := evalParts_sound ht hx
        obtain ⟨h3, h4⟩ := opBuild_sound (ρ := ρ) h2 hb w
        rw [← h1, ← arr_map (a := parts) rfl] at h3
        exact Did.of_same hr h3 h4
  case buildSlice t n parts =>
    cases hx : evalParts T parts.toList with
    | none => rw [hx] at ho; cases ho
    | some ps =>
      rw [hx] at ho
      simp only [Option.bind_some] at ho
      obtain ⟨h1, h2⟩ := evalParts_sound ht hx
      have h3 := opBuildSlice_sound hr h2 ho
      rw [← h1, ← arr_map (a := parts) rfl] at h3
      exact Did.of_os h3
  case load t x =>
    obtain ⟨u, hx, hf, rfl⟩ := one ho
    obtain ⟨h1, h2⟩ := evalO_sound ht hx
    have := opLoad_sound hr hf
    rw [← h1] at this
    exact Did.of_os this
  case store t x y =>
    split at ho
    · rename_i u1 u2 hx hy
      obtain ⟨x1, x2⟩ := evalO_sound ht hx
      obtain ⟨y1, y2⟩ := evalO_sound ht hy
      cases hs : opStore P H t u1 u2 with
      | none => rw [hs] at ho; cases ho
      | some H2 =>
        rw [hs] at ho
        simp only [Option.map_some, Option.some.injEq, Prod.mk.injEq] at ho
        obtain ⟨rfl, rfl⟩ := ho
        obtain ⟨w', h1, h2⟩ := opStore_sound hr y2 hs
        exact ⟨ρ, w', Or.inr ⟨by simp [execOp, x1, y1, h1], rfl⟩, h2, by simp [undef, idsV]⟩
    · cases ho
  case nilCheck x =>
    split at ho
    · rename_i ad hx
      simp only [Option.some.injEq, Prod.mk.injEq] at ho
      obtain ⟨rfl, rfl⟩ := ho
      obtain ⟨x1, x2⟩ := evalO_sound ht hx
      exact ⟨ρ, w, Or.inl (by simp [execOp, x1, mapV, mpV, mpA, mpS, mpP]), Adv.refl hr, x2⟩
    · cases ho
  case binOp b t x y yt =>
    obtain ⟨u1, u2, hx, hy, hf, rfl⟩ := two ho
    obtain ⟨x1, x2⟩ := evalO_sound ht hx
    obtain ⟨y1, y2⟩ := evalO_sound ht hy
    obtain ⟨h1, h2⟩ := evBin_sound (ρ := ρ) hf x y w
    rw [← x1, ← y1] at h1
    exact Did.of_same hr h1 (flat_ids h2)
  case unOp u t x =>
    obtain ⟨u1, hx, hf, rfl⟩ := one ho
    obtain ⟨x1, x2⟩ := evalO_sound ht hx
    obtain ⟨h1, h2⟩ := opUn_sound (P := P) (ρ := ρ) hf w
    rw [← x1] at h1
    exact Did.of_same hr h1 (flat_ids h2)
  case convert s d x =>
    obtain ⟨u1, hx, hf, rfl⟩ := one ho
    obtain ⟨x1, x2⟩ := evalO_sound ht hx
    obtain ⟨h1, h2⟩ := opConv_sound (ρ := ρ) hf w
    rw [← x1] at h1
    exact Did.of_same hr h1 (flat_ids h2)
  case makeFunc fn first cap =>
    split at ho
    · rename_i l m hl hm
      cases hf : opFunc fn l m with
      | none => rw [hf] at ho; cases ho
      | some r =>
        rw [hf] at ho
        simp only [Option.map_some, Option.some.injEq, Prod.mk.injEq] at ho
        obtain ⟨rfl, rfl⟩ := ho
        obtain ⟨l1, l2⟩ := evalL_sound ht hl
        obtain ⟨m1, m2⟩ := evalL_sound ht hm
        obtain ⟨h1, h2⟩ := opFunc_sound (P := P) (ρ := ρ) l2 m2 hf w
        rw [← arr_map l1, ← arr_map m1] at h1
        exact Did.of_same hr h1 h2
    · cases ho
  case makeSlice t l c =>
    split at ho
    · rename_i u1 u2 hx hy
      obtain ⟨x1, x2⟩ := evalO_sound ht hx
      obtain ⟨y1, y2⟩ := evalO_sound ht hy
      have := opMake_sound hr ho
      rw [← x1, ← y1] at this
      exact Did.of_os this
    · cases ho
  case slice t x lo hi mx =>
    cases mx with
    | some z => simp at ho
    | none =>
      simp only at ho
      split at ho
      · rename_i u l h hx hl hh
        obtain ⟨x1, x2⟩ := evalO_sound ht hx
        have := opSlice_sound hr x2 ho
        rw [← x1, ← evalM_sound ht hl, ← evalM_sound ht hh] at this
        exact Did.of_os this
      · cases ho
  case fieldAddr t x f =>
    obtain ⟨u1, hx, hf, rfl⟩ := one ho
    obtain ⟨x1, x2⟩ := evalO_sound ht hx
    obtain ⟨h1, h2⟩ := opFldAddr_sound (ρ := ρ) x2 hf w
    rw [← x1] at h1
    exact Did.of_same hr h1 h2
  case field t x f =>
    obtain ⟨u1, hx, hf, rfl⟩ := one ho
    obtain ⟨x1, x2⟩ := evalO_sound ht hx
    obtain ⟨h1, h2⟩ := opField_sound (ρ := ρ) x2 hf w
    rw [← x1] at h1
    exact Did.of_same hr h1 h2
  case indexAddr t x i =>
    obtain ⟨u1, u2, hx, hy, hf, rfl⟩ := two ho
    obtain ⟨x1, x2⟩ := evalO_sound ht hx
    obtain ⟨y1, y2⟩ := evalO_sound ht hy
    obtain ⟨h1, h2⟩ := opIdxAddr_sound (ρ := ρ) x2 hf w
    rw [← x1, ← y1] at h1
    exact Did.of_same hr h1 h2
  case index t x i =>
    obtain ⟨u1, u2, hx, hy, hf, rfl⟩ := two ho
    obtain ⟨x1, x2⟩ := evalO_sound ht hx
    obtain ⟨y1, y2⟩ := evalO_sound ht hy
    obtain ⟨h1, h2⟩ := opIndex_sound (ρ := ρ) x2 hf w
    rw [← x1, ← y1] at h1
    exact Did.of_same hr h1 h2
  case extract x i =>
    obtain ⟨u1, hx, hf, rfl⟩ := one ho
    obtain ⟨x1, x2⟩ := evalO_sound ht hx
    obtain ⟨h1, h2⟩ := opExtract_sound (P := P) (ρ := ρ) x2 hf w
    rw [← x1] at h1
    exact Did.of_same hr h1 h2
  case call c =>
    obtain ⟨callee, args, argTypes⟩ := c
    cases callee with
    | value f => simp at ho
    | invoke r m => simp at ho
    | builtin b =>
      have hres : ∀ (x : Sem Next), execOp a.eval ⟨dst, .call ⟨.builtin b, args, argTypes⟩, ty, pos, after, guard⟩ = builtin b argTypes ty (args.map fun | .const _ => true | _ => false) (args.map a.eval) := by
        intro x
        rfl
      cases b <;> simp only at ho <;> try (cases ho; done)
      case len =>
        split at ho
        · rename_i x t hxs hts
          obtain ⟨u1, hx, hf, rfl⟩ := one ho
          obtain ⟨x1, x2⟩ := evalO_sound ht hx
          obtain ⟨h1, h2⟩ := opLen_sound (ρ := ρ) (ty := ty) hf w
          rw [← x1] at h1
          have e1 : args.map a.eval = #[a.eval x] := arr_map (by rw [hxs]; rfl)
          have e2 : argTypes = #[t] := by apply Array.ext'; rw [hts]
          rw [hres (pure .skip), e1, e2]
          exact Did.of_same hr h1 (flat_ids h2)
        · cases ho
      case append =>
        split at ho
        · rename_i x y t t' hxs hts
          split at ho
          · rename_i htt
            subst htt
            split at ho
            · rename_i u1 u2 hx hy
              obtain ⟨x1, x2⟩ := evalO_sound ht hx
              obtain ⟨y1, y2⟩ := evalO_sound ht hy
              have := opAppend_sound (ty := ty) hr x2 ho
              rw [← x1, ← y1] at this
              have e1 : args.map a.eval = #[a.eval x, a.eval y] := arr_map (by rw [hxs]; rfl)
              have e2 : argTypes = #[t, t] := by apply Array.ext'; rw [hts]
              rw [hres (pure .skip), e1, e2]
              exact Did.of_os this
            · cases ho
          · cases ho
        · cases ho
      case min =>
        cases hl : evalL T args.toList with
        | none => rw [hl] at ho; cases ho
        | some l =>
          rw [hl] at ho
          simp only [Option.bind_some] at ho
          cases hm : opMin l with
          | none => rw [hm] at ho; cases ho
          | some r =>
            rw [hm] at ho
            simp only [Option.map_some, Option.some.injEq, Prod.mk.injEq] at ho
            obtain ⟨rfl, rfl⟩ := ho
            obtain ⟨l1, l2⟩ := evalL_sound ht hl
            obtain ⟨h1, h2⟩ := opMin_sound (P := P) (ρ := ρ) (ts := argTypes) (ty := ty) hm w
            rw [← arr_map l1] at h1
            rw [hres (pure .skip)]
            exact Did.of_same hr h1 (flat_ids h2)
      case max =>
        cases hl : evalL T args.toList with
        | none => rw [hl] at ho; cases ho
        | some l =>
          rw [hl] at ho
          simp only [Option.bind_some] at ho
          cases hm : opMax l with
          | none => rw [hm] at ho; cases ho
          | some r =>
            rw [hm] at ho
            simp only [Option.map_some, Option.some.injEq, Prod.mk.injEq] at ho
            obtain ⟨rfl, rfl⟩ := ho
            obtain ⟨l1, l2⟩ := evalL_sound ht hl
            obtain ⟨h1, h2⟩ := opMax_sound (P := P) (ρ := ρ) (ts := argTypes) (ty := ty) hm w
            rw [← arr_map l1] at h1
            rw [hres (pure .skip)]
            exact Did.of_same hr h1 (flat_ids h2)
end Go.Am
set_option linter.unusedVariables false
set_option linter.unusedSimpArgs false
namespace Go.Am
open Go.RowKit
def putT (T : Tm) (dst : Option Tmp) (v : Value) : Tm :=
  match dst with
  | some d => T.set d (some v)
  | none => T
theorem RT.adv {P : Program} {ρ ρ' : Ren} {H H' : Heap} {w w' : World} {T : Tm} {a : Act} (h : RT ρ H.length T a) (ad : Adv P ρ H w ρ' H' w') : RT ρ' H'.length T a := by
  refine ⟨h.size, fun t v hv => ?_, fun t v hv i hi => Nat.lt_of_lt_of_le (h.cl t v hv i hi) ad.len⟩
  rw [h.at_ t v hv, mapV_agree fun i hi => ad.agree i (h.cl t v hv i hi)]
theorem RT.put {ρ : Ren} {n : Nat} {T : Tm} {a : Act} (h : RT ρ n T a) (dst : Option Tmp) {v : Value} (hv : ∀ i ∈ idsV v, i < n) : RT ρ n (putT T dst v) (a.put dst (mapV ρ v)) := by
  cases dst with
  | none => exact h
  | some d =>
    refine ⟨by simp [putT, Act.put, h.size], fun t u hu => ?_, fun t u hu => ?_⟩
    · simp only [putT] at hu
      simp only [Act.put]
      rcases Nat.decEq t d with hne | heq
      · rw [List.getElem?_set_ne (Ne.symm hne)] at hu
        rw [Array.getElem?_setIfInBounds_ne (Ne.symm hne)]
        exact h.at_ t u hu
      · subst heq
        have hlt : t < (T.set t (some v)).length := lt_of_some hu
        rw [List.length_set] at hlt
        rw [List.getElem?_set_self hlt] at hu
        simp only [Option.some.injEq] at hu
        subst hu
        rw [Array.getElem?_setIfInBounds_self_of_lt (by rw [h.size]; exact hlt)]
    · simp only [putT] at hu
      rcases Nat.decEq t d with hne | heq
      · rw [List.getElem?_set_ne (Ne.symm hne)] at hu
        exact h.cl t u hu
      · subst heq
        have hlt : t < (T.set t (some v)).length := lt_of_some hu
        rw [List.length_set] at hlt
        rw [List.getElem?_set_self hlt] at hu
        simp only [Option.some.injEq] at hu
        subst hu
        exact hv
def Callable (P : Program) (f : FuncId) : Prop := ∃ fn, P.funcs[f]? = some fn ∧ (fn.name == "runtime.NumGoroutine") = false ∧ fn.body.isSome = true
structure Sound (P : Program) (f : FuncId) (args : List Value) (H : Heap) (v : Value) (H' : Heap) : Prop where
  can : Callable P f
  run : ∀ ρ w, Rep P ρ H w → (∀ x ∈ args, ∀ i ∈ idsV x, i < H.length) →
    Calls P f (args.map (mapV ρ)).toArray w fun e w' => ∃ ρ', e = .returned (mapV ρ' v) ∧ Adv P ρ H w ρ' H' w' ∧ ∀ i ∈ idsV v, i < H'.length
def calleeOf (T : Tm) (c : Call) : Option (FuncId × List Value) :=
  match c.callee with
  | .value f => match evalO T f, evalL T c.args.toList with
    | some (.func (.func n) first cap), some args => if first.toList.all pscal = true ∧ cap.toList.all pscal = true then some (n, first.toList ++ args ++ cap.toList) else none
    | _, _ => none
  | _ => none
inductive Does {P : Program} (C : Ctx P) (T : Tm) (H : Heap) (op : Op) (v : Value) (H' : Heap) : Prop
  | op : evOp C T H op = some (v, H') → Does C T H op v H'
  | call (c : Call) (f : FuncId) (args : List Value) : op = .call c → calleeOf T c = some (f, args) → Sound P f args H v H' → Does C T H op v H'
theorem does_sound {P : Program} {C : Ctx P} {ρ : Ren} {T : Tm} {H H' : Heap} {w : World} {a : Act} {o : Oper} {v : Value} (hr : Rep P ρ H w) (ht : RT ρ H.length T a) (hd : Does C T H o.op v H')
    {next : Act → World → Prop} {Q : Exit → Act → World → Prop} (hn : ∀ ρ' w', Adv P ρ H w ρ' H' w' → (∀ i ∈ idsV v, i < H'.length) → next (a.put o.dst (mapV ρ' v)) w') : o.wp P a w next Q := by
  cases hd with
  | op ho =>
    obtain ⟨ρ', w', h1, h2, h3⟩ := evOp_sound hr ht ho
    unfold Oper.wp
    rcases h1 with h1 | ⟨h1, rfl⟩
    · rw [h1]; exact hn ρ' w' h2 h3
    · rw [h1]
      have := hn ρ' w' h2 h3
      have hu : mapV ρ' undef = undef := by simp [undef, mapV, mpV]
      rw [hu] at this
      exact this
  | call c f args hc hcl hs =>
    obtain ⟨dst, op, ty, pos, after, guard⟩ := o
    simp only at hc
    subst hc
    obtain ⟨callee, cargs, argTypes⟩ := c
    unfold calleeOf at hcl
    split at hcl
    · rename_i g hcallee
      simp only at hcallee
      subst hcallee
      split at hcl
      · rename_i n first cap l hg hl
        split at hcl
        · rename_i hps
          simp only [Option.some.injEq, Prod.mk.injEq] at hcl
          obtain ⟨rfl, rfl⟩ := hcl
          obtain ⟨g1, g2⟩ := evalO_sound ht hg
          obtain ⟨l1, l2⟩ := evalL_sound ht hl
          obtain ⟨fn, hf, hname, hbody⟩ := hs.can
          have hbn : fn.body.isNone = false := by cases hb : fn.body <;> simp_all
          have e1 : cargs.map a.eval = (l.map (mapV ρ)).toArray := arr_map l1
          have hmg : mapV ρ (.func (.func n) first cap) = .func (.func n) (first.map (mpP (toReal ρ))) (cap.map (mpP (toReal ρ))) := rfl
          have e2 : (first.map (mpP (toReal ρ)) ++ cargs.map a.eval) ++ cap.map (mpP (toReal ρ)) = ((first.toList ++ l ++ cap.toList).map (mapV ρ)).toArray := by
            apply Array.ext'
            simp only [Array.toList_append, Array.toList_map, e1, List.map_append, mapV, map_pscal hps.1, map_pscal hps.2]
          have hexec : (execOp a.eval ⟨dst, .call ⟨.value g, cargs, argTypes⟩, ty, pos, after, guard⟩).run P w = .ok (.enter n ((first.toList ++ l ++ cap.toList).map (mapV ρ)).toArray) w := by
            simp only [execOp, resolve, g1, hmg, Deferred.ofValue, Sem.run_bind, Sem.run_pure, Result.andThen_ok, invoke, callFunc, run_program, hf, hname, hbn, Bool.false_eq_true, if_false, e2]
          unfold Oper.wp
          rw [hexec]
          have hcl2 : ∀ x ∈ first.toList ++ l ++ cap.toList, ∀ i ∈ idsV x, i < H.length := by
            intro x hx i hi
            rcases List.mem_append.1 hx with hx | hx
            · rcases List.mem_append.1 hx with hx | hx
              · refine g2 i ?_
                simp only [idsV, idsA, idsS, List.mem_flatMap, List.mem_append]
                exact ⟨x, Or.inl hx, by rw [← idsV_pscal ((List.all_eq_true.1 hps.1) x hx)]; exact hi⟩
              · exact l2 x hx i hi
            · refine g2 i ?_
              simp only [idsV, idsA, idsS, List.mem_flatMap, List.mem_append]
              exact ⟨x, Or.inr hx, by rw [← idsV_pscal ((List.all_eq_true.1 hps.2) x hx)]; exact hi⟩
          exact (hs.run ρ w hr hcl2).mono fun e w' he => by
            obtain ⟨ρ', rfl, had, hv⟩ := he
            exact hn ρ' w' had hv
        · cases hcl
      · cases hcl
    · cases hcl
def want? (T : Tm) (ops : Array Oper) (o : Oper) : Option Bool :=
  match o.guard with
  | none => some true
  | some (j, b) => match (ops[j]?).bind (·.dst) with
    | none => some false
    | some t => match getT T t with
      | some (.bool c) => some (c == b)
      | some _ => some false
      | none => none
theorem mapV_bool {m : Mp} {v : Value} {b : Bool} (h : mpV m v = .bool b) : v = .bool b := by
  cases v with
  | pointer a => cases a <;> simp [mpV, mpA, mpS, mpP] at h
  | slice a n c => cases a <;> simp [mpV, mpA, mpS, mpP] at h
  | _ => simp_all [mpV, mpA, mpS, mpP]
theorem getT_some {T : Tm} {t : Nat} {v : Value} (h : getT T t = some v) : T[t]? = some (some v) := by
  unfold getT at h
  split at h
  · simp only [Option.some.injEq] at h; subst h; assumption
  · cases h
theorem want_sound {ρ : Ren} {n : Nat} {T : Tm} {a : Act} {ops : Array Oper} {o : Oper} {b : Bool} (ht : RT ρ n T a) (hw : want? T ops o = some b) : Region.wanted o (yielded ops a.tmps) = b := by
  unfold want? at hw
  unfold Region.wanted
  split at hw
  · rename_i hg
    simp only [Option.some.injEq] at hw
    subst hw
    rw [hg]
  · rename_i j c hg
    rw [hg]
    simp only
    split at hw
    · rename_i hd
      simp only [Option.some.injEq] at hw
      subst hw
      simp [yielded, hd]
    · rename_i t hd
      split at hw
      · rename_i d hv
        simp only [Option.some.injEq] at hw
        subst hw
        have := ht.at_ t _ (getT_some hv)
        have hm : mapV ρ (.bool d) = .bool d := rfl
        rw [hm] at this
        simp only [yielded, hd, Option.bind_some, this]
        cases d <;> cases c <;> rfl
      · rename_i u hnb hv
        simp only [Option.some.injEq] at hw
        subst hw
        have := ht.at_ t _ (getT_some hv)
        simp only [yielded, hd, Option.bind_some, this]
        split
        · rename_i x hx
          simp only [Option.some.injEq] at hx
          exact absurd (mapV_bool hx) (hnb _)
        · rfl
      · cases hw
def sOps {P : Program} (C : Ctx P) (ops : Array Oper) : List Oper → Tm → Heap → (Tm → Heap → Prop) → Prop
  | [], T, H, K => K T H
  | o :: rest, T, H, K =>
    match want? T ops o with
    | none => False
    | some b => (b = true → ∃ v H', Does C T H o.op v H' ∧ sOps C ops rest (putT T o.dst v) H' K) ∧ (b = false → sOps C ops rest (putT T o.dst undef) H K)
structure Inv (P : Program) (ρ0 : Ren) (H0 : Heap) (w0 : World) (ρ : Ren) (T : Tm) (H : Heap) (a : Act) (w : World) : Prop where
  adv : Adv P ρ0 H0 w0 ρ H w
  rt : RT ρ H.length T a
  df : a.defers = []
theorem put_defers (a : Act) (d : Option Tmp) (v : Value) : (a.put d v).defers = a.defers := by cases d <;> rfl
theorem Inv.step {P : Program} {ρ0 ρ ρ' : Ren} {H0 H H' : Heap} {w0 w w' : World} {T : Tm} {a : Act} (h : Inv P ρ0 H0 w0 ρ T H a w) (ad : Adv P ρ H w ρ' H' w') (dst : Option Tmp) {v : Value} (hv : ∀ i ∈ idsV v, i < H'.length) :
    Inv P ρ0 H0 w0 ρ' (putT T dst v) H' (a.put dst (mapV ρ' v)) w' :=
  ⟨h.adv.trans ad, (h.rt.adv ad).put dst hv, by rw [put_defers]; exact h.df⟩
def Post (P : Program) (ρ0 : Ren) (H0 : Heap) (w0 : World) (K : Exit → Tm → Heap → Prop) : Exit → Act → World → Prop :=
  fun e a w => ∃ ρ T H, K e T H ∧ Inv P ρ0 H0 w0 ρ T H a w
theorem sOps_sound {P : Program} {C : Ctx P} {ops : Array Oper} {ρ0 : Ren} {H0 : Heap} {w0 : World} {K : Exit → Tm → Heap → Prop} : ∀ (l : List Oper) (ρ : Ren) (T : Tm) (H : Heap) (a : Act) (w : World),
    Inv P ρ0 H0 w0 ρ T H a w → sOps C ops l T H (K .normal) → wpList P ops (Post P ρ0 H0 w0 K) l a w
  | [], ρ, T, H, a, w, hi, hs => ⟨ρ, T, H, hs, hi⟩
  | o :: rest, ρ, T, H, a, w, hi, hs => by
    simp only [sOps] at hs
    split at hs
    · exact hs.elim
    · rename_i b hb
      have hw := want_sound hi.rt hb
      unfold wpList
      rw [hw]
      cases b with
      | true =>
        rw [if_pos rfl]
        obtain ⟨v, H', hd, hk⟩ := hs.1 rfl
        refine Or.inl (does_sound hi.adv.rep hi.rt hd fun ρ' w' ad hv => ?_)
        exact sOps_sound rest ρ' _ H' _ w' (hi.step ad o.dst hv) hk
      | false =>
        rw [if_neg (by simp)]
        have := hs.2 rfl
        have hu : mapV ρ undef = undef := by simp [undef, mapV, mpV]
        have hi' := hi.step (Adv.refl hi.adv.rep) o.dst (v := undef) (by simp [undef, idsV])
        rw [hu] at hi'
        exact sOps_sound rest ρ _ H _ w hi' this
end Go.Am
set_option linter.unusedVariables false
set_option linter.unusedSimpArgs false
namespace Go.Am
open Go.RowKit
def maskOf (acc : List Nat) (o : Oper) : Nat :=
  o.after.toList.foldl (fun m e => if Region.binds .any e then m ||| ((1 <<< e.on) ||| acc.getD e.on 0) else m) 0
def masksGo : List Oper → List Nat → List Nat
  | [], acc => acc
  | o :: r, acc => masksGo r (acc ++ [maskOf acc o])
def reach (ms : List Nat) (i j : Nat) : Bool := (ms.getD j 0).testBit i
theorem maskOf_bit {acc : List Nat} {i : Nat} : ∀ {l : List Edge} {m0 : Nat}, (l.foldl (fun m e => if Region.binds .any e then m ||| ((1 <<< e.on) ||| acc.getD e.on 0) else m) m0).testBit i = true →
    m0.testBit i = true ∨ ∃ e ∈ l, Region.binds .any e = true ∧ (e.on = i ∨ (acc.getD e.on 0).testBit i = true)
  | [], m0, h => Or.inl h
  | e :: l, m0, h => by
    simp only [List.foldl_cons] at h
    rcases maskOf_bit h with h | ⟨e', he', h⟩
    · split at h
      · rename_i hb
        rw [Nat.testBit_or, Nat.testBit_or] at h
        simp only [Bool.or_eq_true] at h
        rcases h with h | h | h
        · exact Or.inl h
        · refine Or.inr ⟨e, by simp, hb, Or.inl ?_⟩
          rw [Nat.one_shiftLeft, Nat.testBit_two_pow] at h
          simpa using h
        · exact Or.inr ⟨e, by simp, hb, Or.inr h⟩
      · exact Or.inl h
    · exact Or.inr ⟨e', by simp [he'], h⟩
theorem masksGo_prefix : ∀ (l : List Oper) (acc : List Nat), ∃ t, masksGo l acc = acc ++ t
  | [], acc => ⟨[], by simp [masksGo]⟩
  | o :: r, acc => by
    obtain ⟨t, ht⟩ := masksGo_prefix r (acc ++ [maskOf acc o])
    exact ⟨maskOf acc o :: t, by simp [masksGo, ht]⟩
theorem masksGo_at : ∀ (l : List Oper) (acc : List Nat) (k : Nat) (o : Oper), l[k]? = some o → (masksGo l acc)[acc.length + k]? = some (maskOf ((masksGo l acc).take (acc.length + k)) o)
  | [], acc, k, o, h => by simp at h
  | u :: r, acc, 0, o, h => by
    simp only [List.getElem?_cons_zero, Option.some.injEq] at h
    subst h
    obtain ⟨t, ht⟩ := masksGo_prefix r (acc ++ [maskOf acc u])
    simp only [masksGo, Nat.add_zero]
    rw [ht]
    simp
  | u :: r, acc, k + 1, o, h => by
    have := masksGo_at r (acc ++ [maskOf acc u]) k o (by simpa using h)
    simp only [List.length_append, List.length_singleton] at this
    simp only [masksGo]
    rw [show acc.length + (k + 1) = acc.length + 1 + k by omega]
    exact this
theorem masksGo_length : ∀ (l : List Oper) (acc : List Nat), (masksGo l acc).length = acc.length + l.length
  | [], acc => by simp [masksGo]
  | o :: r, acc => by simp only [masksGo]; rw [masksGo_length r]; simp; omega
theorem reach_spec {ops : Array Oper} {D : Nat → Prop} (hcl : ∀ (j : Nat) (o : Oper), ops[j]? = some o → D j → ∀ e ∈ o.after, Region.binds .any e = true → D e.on) :
    ∀ (j i : Nat) (o : Oper), ops[j]? = some o → (∀ e ∈ o.after, Region.binds .any e = true → D e.on) → reach (masksGo ops.toList []) i j = true → D i := by
  intro j
  induction j using Nat.strongRecOn with
  | _ j ih =>
    intro i o ho he hr
    have hat := masksGo_at ops.toList [] j o (by simpa using ho)
    simp only [List.length_nil, Nat.zero_add] at hat
    unfold reach at hr
    rw [List.getD_eq_getElem?_getD, hat] at hr
    simp only [Option.getD_some] at hr
    rcases maskOf_bit hr with h | ⟨e, hm, hb, h⟩
    · simp at h
    · have hm' : e ∈ o.after := by simpa using hm
      have hd := he e hm' hb
      rcases h with rfl | h
      · exact hd
      · have hlt : e.on < j := by
          rcases Nat.lt_or_ge e.on j with h' | h'
          · exact h'
          · rw [List.getD_eq_getElem?_getD, List.getElem?_eq_none (by simp; omega)] at h
            simp at h
        rw [List.getD_eq_getElem?_getD, List.getElem?_take_of_lt hlt, ← List.getD_eq_getElem?_getD] at h
        cases ho2 : ops[e.on]? with
        | none =>
          have : ops.size ≤ e.on := by
            rcases Nat.lt_or_ge e.on ops.size with h' | h'
            · simp [Array.getElem?_eq_getElem h'] at ho2
            · exact h'
          rw [List.getD_eq_getElem?_getD, List.getElem?_eq_none (by rw [masksGo_length]; simp; omega)] at h
          simp at h
        | some o2 => exact ih e.on hlt i o2 ho2 (fun e2 he2 hb2 => hcl e.on o2 ho2 hd e2 he2 hb2) h
def isPure : Op → Bool
  | .move _ | .assign _ | .pick .. | .build .. | .nilCheck _ | .binOp .. | .unOp .. | .convert .. | .makeFunc .. | .fieldAddr .. | .field .. | .indexAddr .. | .index .. | .extract .. => true
  | .call ⟨.builtin .len, _, _⟩ | .call ⟨.builtin .min, _, _⟩ | .call ⟨.builtin .max, _, _⟩ => true
  | _ => false
def isRead : Op → Bool
  | .load .. | .slice .. => true
  | _ => false
def clsOf {P : Program} (C : Ctx P) (o : Op) : Cls :=
  if isPure o then .P else if isRead o then .Q else
  match o with
  | .call ⟨.value (.func f), _, _⟩ => C.cc f
  | .call ⟨.value _, _, _⟩ => .Q
  | .alloc _ | .box .. | .makeSlice .. | .buildSlice .. => .N
  | _ => .S
theorem evOp_pure {P : Program} {C : Ctx P} {T : Tm} {H H' : Heap} {op : Op} {v : Value} (hp : isPure op = true) (h : evOp C T H op = some (v, H')) : H' = H ∧ ∀ H2, evOp C T H2 op = some (v, H2) := by
  have one : ∀ {α : Type} {x : Option α} {f : α → Option Value}, (x.bind fun u => (f u).map fun r => (r, H)) = some (v, H') → H' = H ∧ ∀ H2 : Heap, (x.bind fun u => (f u).map fun r => (r, H2)) = some (v, H2) := by
    intro α x f h
    cases x with
    | none => cases h
    | some u =>
      simp only [Option.bind_some] at h ⊢
      cases hf : f u with
      | none => rw [hf] at h; cases h
      | some r =>
        rw [hf] at h
        simp only [Option.map_some, Option.some.injEq, Prod.mk.injEq] at h
        exact ⟨h.2.symm, fun H2 => by simp [h.1]⟩
  have zero : ∀ {x : Option Value}, (x.map fun u => (u, H)) = some (v, H') → H' = H ∧ ∀ H2 : Heap, (x.map fun u => (u, H2)) = some (v, H2) := by
    intro x h
    cases x with
    | none => cases h
    | some u =>
      simp only [Option.map_some, Option.some.injEq, Prod.mk.injEq] at h
      exact ⟨h.2.symm, fun H2 => by simp [h.1]⟩
  cases op <;> simp only [isPure] at hp <;> try (cases hp; done)
  case move x => exact zero h
  case assign x => exact zero h
  case pick c x y =>
    simp only [evOp] at h ⊢
    split at h
    · rename_i t u1 u2 hc hx hy
      simp only [Option.some.injEq, Prod.mk.injEq] at h
      exact ⟨h.2.symm, fun H2 => by simp [hc, hx, hy, h.1]⟩
    · cases h
  case build t parts => exact one h
  case nilCheck x =>
    simp only [evOp] at h ⊢
    split at h
    · rename_i a hx
      simp only [Option.some.injEq, Prod.mk.injEq] at h
      exact ⟨h.2.symm, fun H2 => by simp [hx, h.1]⟩
    · cases h
  case binOp b t x y yt =>
    simp only [evOp] at h ⊢
    split at h
    · rename_i u1 u2 hx hy
      cases hf : evBin C b t u1 u2 with
      | none => rw [hf] at h; cases h
      | some r =>
        rw [hf] at h
        simp only [Option.map_some, Option.some.injEq, Prod.mk.injEq] at h
        exact ⟨h.2.symm, fun H2 => by simp [hx, hy, hf, h.1]⟩
    · cases h
  case unOp u t x => exact one h
  case convert s d x => exact one h
  case makeFunc fn first cap =>
    simp only [evOp] at h ⊢
    split at h
    · rename_i u1 u2 hx hy
      cases hf : opFunc fn u1 u2 with
      | none => rw [hf] at h; cases h
      | some r =>
        rw [hf] at h
        simp only [Option.map_some, Option.some.injEq, Prod.mk.injEq] at h
        exact ⟨h.2.symm, fun H2 => by simp [hx, hy, hf, h.1]⟩
    · cases h
  case fieldAddr t x f => exact one h
  case field t x f => exact one h
  case indexAddr t x i =>
    simp only [evOp] at h ⊢
    split at h
    · rename_i u1 u2 hx hy
      cases hf : opIdxAddr P t u1 u2 with
      | none => rw [hf] at h; cases h
      | some r =>
        rw [hf] at h
        simp only [Option.map_some, Option.some.injEq, Prod.mk.injEq] at h
        exact ⟨h.2.symm, fun H2 => by simp [hx, hy, hf, h.1]⟩
    · cases h
  case index t x i =>
    simp only [evOp] at h ⊢
    split at h
    · rename_i u1 u2 hx hy
      cases hf : opIndex P t u1 u2 with
      | none => rw [hf] at h; cases h
      | some r =>
        rw [hf] at h
        simp only [Option.map_some, Option.some.injEq, Prod.mk.injEq] at h
        exact ⟨h.2.symm, fun H2 => by simp [hx, hy, hf, h.1]⟩
    · cases h
  case extract x i => exact one h
  case call c =>
    obtain ⟨callee, args, argTypes⟩ := c
    cases callee with
    | value f => simp [isPure] at hp
    | invoke r m => simp [isPure] at hp
    | builtin b =>
      cases b <;> simp only [isPure] at hp <;> try (cases hp; done)
      case len =>
        simp only [evOp] at h ⊢
        split at h
        · rename_i x t hx ht
          exact one h
        · cases h
      case min => exact one h
      case max => exact one h
theorem row?_append {H E : Heap} {i : Nat} {r : Row} (h : row? H i = some r) : row? (H ++ E) i = some r := by
  have h' := row?_some h
  unfold row?
  rw [List.getElem?_append_left (lt_of_some h'), h']
theorem evOp_read {P : Program} {C : Ctx P} {T : Tm} {H E : Heap} {op : Op} {v : Value} (hp : isRead op = true) (h : evOp C T H op = some (v, H)) : evOp C T (H ++ E) op = some (v, H ++ E) := by
  cases op <;> simp only [isRead] at hp <;> try (cases hp; done)
  case load t x =>
    simp only [evOp] at h ⊢
    cases hx : evalO T x with
    | none => rw [hx] at h; cases h
    | some u =>
      rw [hx] at h
      simp only [Option.bind_some] at h ⊢
      cases hl : opLoad P H t u with
      | none => rw [hl] at h; cases h
      | some r =>
        rw [hl] at h
        simp only [Option.map_some, Option.some.injEq, Prod.mk.injEq] at h
        obtain ⟨rfl, _⟩ := h
        have : opLoad P (H ++ E) t u = some r := by
          unfold opLoad at hl ⊢
          split at hl
          · rename_i a
            split at hl
            · rename_i row ti hr hti
              simp only [row?_append hr, hti]
              exact hl
            · cases hl
          · cases hl
        simp [this]
  case slice t x lo hi mx =>
    simp only [evOp] at h ⊢
    cases mx with
    | some z => cases h
    | none =>
      simp only at h ⊢
      split at h
      · rename_i u l hh hx hl hhi
        unfold opSlice at h ⊢
        split at h
        · rename_i hti
          try simp only [hti]
          split at h
          · rename_i s
            try simp only
            split at h
            · rename_i l' h' e1 e2
              try simp only [e1, e2]
              split at h
              · rename_i hc
                simp only [Option.some.injEq, Prod.mk.injEq] at h
                simp [hc, h.1]
              · cases h
            · cases h
          · cases h
        · rename_i hti
          try simp only [hti]
          split at h
          · rename_i a
            try simp only
            split at h
            · rename_i r te hr hte
              try simp only [row?_append hr, hte]
              split at h
              · rename_i hc
                simp only [Option.some.injEq, Prod.mk.injEq] at h
                simp [hc, h.1]
              · cases h
            · cases h
          · cases h
        · rename_i hti
          try simp only [hti]
          split at h
          · try simp only
            split at h
            · rename_i te e1 e2 e3
              simp only [Option.some.injEq, Prod.mk.injEq] at h
              simp [e1, e2, e3, h.1]
            · cases h
          · rename_i a len c
            try simp only
            split at h
            · rename_i r te l' h' hr hte e1 e2
              try simp only [row?_append hr, hte, e1, e2]
              split at h
              · rename_i hc
                simp only [hc, and_self, if_true]
                split at h
                · rename_i hlt
                  simp only [Option.some.injEq, Prod.mk.injEq] at h
                  rw [if_pos hlt, ← h.1, hc.2.2.2.2.1]
                · simp only [Option.some.injEq, Prod.mk.injEq] at h
                  have := congrArg List.length h.2
                  simp at this
              · cases h
            · cases h
          · cases h
        · cases h
      · cases h
theorem Sound.ext {P : Program} {f : FuncId} {args : List Value} {H E : Heap} {v : Value} (h : Sound P f args H v H) (ha : ∀ x ∈ args, ∀ i ∈ idsV x, i < H.length)
    (hcl : ∀ (i : Nat) (r : Row), H[i]? = some (some r) → ∀ v ∈ r.cells, ∀ k ∈ idsS v, k < H.length) : Sound P f args (H ++ E) v (H ++ E) := by
  refine ⟨h.can, fun ρ w hr _ => ?_⟩
  have hsub : ∀ (i : Nat) (r : Row), H[i]? = some (some r) → (H ++ E)[i]? = some (some r) := fun i r hi => by rw [List.getElem?_append_left (lt_of_some hi)]; exact hi
  have hrep : Rep P ρ H w := ⟨fun i r hi => hr.row i r (hsub i r hi), fun i j r s hi hj => hr.sep i j r s (hsub i r hi) (hsub j s hj), hcl⟩
  refine (h.run ρ w hrep ha).mono fun e w' he => ?_
  obtain ⟨ρ', rfl, ad, hv⟩ := he
  have hag : ∀ i, i < H.length → ρ i = ρ' i := fun i hi => (ad.agree i hi).symm
  refine ⟨ρ, by rw [mapV_agree fun i hi => hag i (hv i hi)], ⟨fun _ _ => rfl, Nat.le_refl _, ⟨?_, hr.sep, hr.cl⟩, ad.os, ad.tape, ad.output, ad.size, ?_, fun i r hi hs => Or.inr ⟨i, r, hi, hs, rfl⟩⟩, fun i hi => by rw [List.length_append]; exact Nat.lt_of_lt_of_le (hv i hi) (Nat.le_add_right _ _)⟩
  · intro i r hi
    rcases Nat.lt_or_ge i H.length with hlt | hge
    · have hi' : H[i]? = some (some r) := by rw [List.getElem?_append_left hlt] at hi; exact hi
      have := ad.rep.row i r hi'
      rw [ad.agree i hlt] at this
      exact this.agree (hcl i r hi') hag
    · have hR := hr.row i r hi
      by_cases hw : ∃ (j : Nat) (s : Row), H[j]? = some (some s) ∧ s.wr = true ∧ (ρ j).blk = (ρ i).blk
      · obtain ⟨j, s, hj, hs, hb⟩ := hw
        have hjl := lt_of_some hj
        have hq : ¬ (r.wr = true ∨ r.cells ≠ []) := fun hq => hr.sep j i s r (hsub j s hj) hi hs hq (by omega) hb
        have hnil : r.cells = [] := Classical.byContradiction fun hn => hq (Or.inr hn)
        have hR2 := ad.rep.row j s hj
        rw [ad.agree j hjl, ] at hR2
        obtain ⟨⟨cur2, e2, fz2, hb2, _⟩, _⟩ := hR2
        obtain ⟨⟨cur, e, fz, hb1, hcu, hwr, hlen⟩, hsc⟩ := hR
        exact ⟨⟨cur2, e2, fz2, by rw [← hb]; exact hb2, (fun k v hv => by rw [hnil] at hv; simp at hv), (fun hw2 => absurd (Or.inl hw2) hq), hlen⟩, hsc⟩
      · refine hR.world (ad.frame _ hR.lt fun j s hj hs hb => hw ⟨j, s, hj, hs, hb⟩)
  · intro k hk hn
    exact ad.frame k hk fun i r hi hs => hn i r (hsub i r hi) hs
def Closed (H : Heap) : Prop := ∀ (i : Nat) (r : Row), H[i]? = some (some r) → ∀ v ∈ r.cells, ∀ k ∈ idsS v, k < H.length
def Quiet (P : Program) (f : FuncId) (args : List Value) (H : Heap) (v : Value) : Prop :=
  ∀ H0 E : Heap, H = H0 ++ E → Closed H0 → (∀ x ∈ args, ∀ i ∈ idsV x, i < H0.length) → Sound P f args H0 v H0
theorem row?_back {H E : Heap} {i : Nat} (h : i < H.length) : row? (H ++ E) i = row? H i := by
  unfold row?
  rw [List.getElem?_append_left h]
theorem evOp_read_back {P : Program} {C : Ctx P} {T : Tm} {H E : Heap} {op : Op} {v : Value} (hp : isRead op = true) (hids : ∀ (x : Operand) (u : Value), evalO T x = some u → ∀ i ∈ idsV u, i < H.length) (h : evOp C T (H ++ E) op = some (v, H ++ E)) : evOp C T H op = some (v, H) := by
  cases op with
  | load t x =>
    simp only [evOp] at h ⊢
    cases hx : evalO T x with
    | none => rw [hx] at h; cases h
    | some u =>
      rw [hx] at h
      simp only [Option.bind_some, Option.map_eq_some_iff, Prod.mk.injEq] at h ⊢
      obtain ⟨r, hr, rfl, _⟩ := h
      refine ⟨r, ?_, rfl, trivial⟩
      unfold opLoad at hr ⊢
      split at hr
      · rename_i a
        have := hids x _ hx a.block (by simp [idsV, idsA, idsS, idsP])
        rw [row?_back this] at hr
        exact hr
      · cases hr
  | slice t x lo hi mx =>
    cases mx with
    | some m => simp [evOp] at h
    | none =>
      simp only [evOp] at h ⊢
      cases hx : evalO T x with
      | none => rw [hx] at h; cases h
      | some u =>
        cases hl : evalM T lo with
        | none => rw [hx, hl] at h; cases h
        | some l =>
          cases hhi : evalM T hi with
          | none => rw [hx, hl, hhi] at h; cases h
          | some hh =>
            rw [hx, hl, hhi] at h
            simp only at h ⊢
            have key : ∀ a : Addr, a.block ∈ idsV u → row? (H ++ E) a.block = row? H a.block := fun a ha => row?_back (hids x u hx a.block ha)
            cases u with
            | pointer a =>
              cases a with
              | none => unfold opSlice at h ⊢; repeat' split at h <;> simp_all
              | some a =>
                have k := key a (by simp [idsV, idsA, idsS, idsP])
                unfold opSlice at h ⊢
                simp only [k] at h
                repeat' split at h
                all_goals simp_all
                all_goals (rw [← k]; simp_all)
            | slice a len c =>
              cases a with
              | none => unfold opSlice at h ⊢; repeat' split at h <;> simp_all
              | some a =>
                have k := key a (by simp [idsV, idsA, idsS, idsP])
                unfold opSlice at h ⊢
                simp only [k] at h
                repeat' split at h
                all_goals simp_all
            | _ =>
              unfold opSlice at h ⊢
              repeat' split at h
              all_goals simp_all
  | _ => simp [isRead] at hp
end Go.Am
set_option linter.unusedVariables false
set_option linter.unusedSimpArgs false
namespace Go.Am
open Go.RowKit
theorem evalL_congr {T T' : Tm} : ∀ {xs : List Operand}, (∀ x ∈ xs, evalO T x = evalO T' x) → evalL T xs = evalL T' xs
  | [], _ => rfl
  | x :: r, h => by
    have ih := evalL_congr (T := T) (T' := T') (xs := r) fun y hy => h y (by simp [hy])
    simp only [evalL, h x (by simp), ih]
theorem evalParts_congr {T T' : Tm} : ∀ {xs : List (Nat × Operand)}, (∀ p ∈ xs, evalO T p.2 = evalO T' p.2) → evalParts T xs = evalParts T' xs
  | [], _ => rfl
  | (i, x) :: r, h => by
    have ih := evalParts_congr (T := T) (T' := T') (xs := r) fun y hy => h y (by simp [hy])
    simp only [evalParts, h (i, x) (by simp), ih]
theorem evalM_congr {T T' : Tm} {x : Option Operand} (h : ∀ y, x = some y → evalO T y = evalO T' y) : evalM T x = evalM T' x := by
  cases x with
  | none => rfl
  | some y => simp only [evalM, h y rfl]
theorem evOp_congr {P : Program} {C : Ctx P} {T T' : Tm} {H : Heap} {op : Op} (h : ∀ x ∈ op.operands, evalO T x = evalO T' x) : evOp C T H op = evOp C T' H op := by
  cases op <;> simp only [Op.operands] at h <;> simp only [evOp]
  case build t ps => rw [evalParts_congr (T := T) (T' := T') (xs := ps.toList) fun p hp => h p.2 (by simpa using ⟨p.1, by simpa using hp⟩)]
  case buildSlice t n ps => rw [evalParts_congr (T := T) (T' := T') (xs := ps.toList) fun p hp => h p.2 (by simpa using ⟨p.1, by simpa using hp⟩)]
  case makeFunc fn first cap => rw [evalL_congr (T := T) (T' := T') (xs := first.toList) fun x hx => h x (by simp at hx; simp [hx]), evalL_congr (T := T) (T' := T') (xs := cap.toList) fun x hx => h x (by simp at hx; simp [hx])]
  case slice t x lo hi mx =>
    cases mx with
    | some z => rfl
    | none =>
      simp only
      rw [h x (by simp), evalM_congr (T := T) (T' := T') (x := lo) fun y hy => h y (by subst hy; simp), evalM_congr (T := T) (T' := T') (x := hi) fun y hy => h y (by subst hy; simp)]
  case call c =>
    obtain ⟨callee, args, argTypes⟩ := c
    cases callee with
    | value f => rfl
    | invoke r m => rfl
    | builtin b =>
      have ha : ∀ x ∈ args.toList, evalO T x = evalO T' x := fun x hx => h x (by simp [Call.operands]; simpa using hx)
      cases b <;> try rfl
      case len =>
        simp only
        split
        · rename_i x t hx ht; rw [ha x (by rw [hx]; simp)]
        · rfl
      case append =>
        simp only
        split
        · rename_i x y t t' hx ht; rw [ha x (by rw [hx]; simp), ha y (by rw [hx]; simp)]
        · rfl
      case min => simp only [evalL_congr ha]
      case max => simp only [evalL_congr ha]
  all_goals (first | rfl | (simp at h; simp [h]; done) | (rw [h _ (by simp), h _ (by simp), h _ (by simp)]) | (rw [h _ (by simp), h _ (by simp)]) | (rw [h _ (by simp)]))
theorem calleeOf_congr {T T' : Tm} {c : Call} (h : ∀ x ∈ c.operands, evalO T x = evalO T' x) : calleeOf T c = calleeOf T' c := by
  obtain ⟨callee, args, argTypes⟩ := c
  cases callee with
  | value f =>
    simp only [calleeOf]
    rw [h f (by simp [Call.operands]), evalL_congr (T := T) (T' := T') (xs := args.toList) fun x hx => h x (by simp [Call.operands]; right; simpa using hx)]
  | invoke r m => rfl
  | builtin b => rfl
theorem Does.congr {P : Program} {C : Ctx P} {T T' : Tm} {H H' : Heap} {op : Op} {v : Value} (h : ∀ x ∈ op.operands, evalO T x = evalO T' x) (hd : Does C T H op v H') : Does C T' H op v H' := by
  cases hd with
  | op ho => exact .op (by rw [← evOp_congr h]; exact ho)
  | call c f args hc hcl hs => subst hc; exact .call c f args rfl (by rw [← calleeOf_congr h]; exact hcl) hs
theorem evalL_ids {T : Tm} {n : Nat} (hids : ∀ (x : Operand) (u : Value), evalO T x = some u → ∀ i ∈ idsV u, i < n) : ∀ {xs : List Operand} {l : List Value}, evalL T xs = some l → ∀ x ∈ l, ∀ i ∈ idsV x, i < n
  | [], l, hl => by simp [evalL] at hl; subst hl; simp
  | x :: r, l, hl => by
    simp only [evalL] at hl
    cases hx : evalO T x with
    | none => rw [hx] at hl; simp at hl
    | some v =>
      cases hr : evalL T r with
      | none => rw [hx, hr] at hl; simp at hl
      | some l' =>
        rw [hx, hr] at hl
        simp only [Option.some.injEq] at hl
        subst hl
        intro y hy
        rcases List.mem_cons.1 hy with rfl | hy
        · exact hids x _ hx
        · exact evalL_ids hids hr y hy
theorem calleeOf_ids {T : Tm} {n : Nat} {c : Call} {f : FuncId} {args : List Value} (hids : ∀ (x : Operand) (u : Value), evalO T x = some u → ∀ i ∈ idsV u, i < n) (h : calleeOf T c = some (f, args)) : ∀ x ∈ args, ∀ i ∈ idsV x, i < n := by
  unfold calleeOf at h
  split at h
  · rename_i g hg
    split at h
    · rename_i m first cap l hgv hl
      split at h
      · rename_i hps
        simp only [Option.some.injEq, Prod.mk.injEq] at h
        obtain ⟨rfl, rfl⟩ := h
        have g2 := hids g _ hgv
        intro x hx i hi
        rcases List.mem_append.1 hx with hx | hx
        · rcases List.mem_append.1 hx with hx | hx
          · refine g2 i ?_
            simp only [idsV, idsA, idsS, List.mem_flatMap, List.mem_append]
            exact ⟨x, Or.inl hx, by rw [← idsV_pscal ((List.all_eq_true.1 hps.1) x hx)]; exact hi⟩
          · exact evalL_ids hids hl x hx i hi
        · refine g2 i ?_
          simp only [idsV, idsA, idsS, List.mem_flatMap, List.mem_append]
          exact ⟨x, Or.inr hx, by rw [← idsV_pscal ((List.all_eq_true.1 hps.2) x hx)]; exact hi⟩
      · cases h
    · cases h
  · cases h
def StepD {P : Program} (C : Ctx P) (T : Tm) (H : Heap) (op : Op) (v : Value) (H' : Heap) : Prop :=
  match clsOf C op with
  | .P => evOp C T H op = some (v, H')
  | .Q => H' = H ∧ ((isRead op = true ∧ evOp C T H op = some (v, H)) ∨ ∃ c f args, op = .call c ∧ calleeOf T c = some (f, args) ∧ Quiet P f args H v ∧ ∀ x ∈ args, ∀ i ∈ idsV x, i < H.length)
  | .N => ∃ E, H' = H ++ E ∧ Does C T H op v H'
  | .S => Does C T H op v H'
def sOpsD {P : Program} (C : Ctx P) (ops : Array Oper) : List Oper → Tm → Heap → (Tm → Heap → Prop) → Prop
  | [], T, H, K => K T H
  | o :: rest, T, H, K =>
    match want? T ops o with
    | none => False
    | some b => (b = true → ∃ v H', StepD C T H o.op v H' ∧ sOpsD C ops rest (putT T o.dst v) H' K) ∧ (b = false → sOpsD C ops rest (putT T o.dst undef) H K)
def clsConf : Cls → Cls → Bool
  | .N, .P | .S, .P | .P, _ | .N, .Q => false
  | .N, _ | .S, _ => true
  | .Q, .S => true
  | .Q, _ => false
def conflict {P : Program} (C : Ctx P) (ops : Array Oper) (x y : Oper) : Bool :=
  (match x.dst with
    | some d => (y.looksAt ops).contains d || y.dst == some d
    | none => false) ||
  (match y.dst with
    | some d => (x.looksAt ops).contains d
    | none => false) || clsConf (clsOf C x.op) (clsOf C y.op)
def regionOK {P : Program} (C : Ctx P) (ops : Array Oper) : Bool :=
  (List.range ops.size).all fun j => match ops[j]? with
    | none => false
    | some oj => (oj.after.all fun e => !Region.binds .any e || decide (e.on < j)) && (List.range j).all fun i => match ops[i]? with
      | some oi => reach (masksGo ops.toList []) i j || !conflict C ops oi oj
      | none => false
def TD : List Oper → Nat → (Nat → Value) → (Nat → Bool) → Tm → Tm
  | [], _, _, _, T => T
  | o :: r, k, vs, p, T => TD r (k + 1) vs p (if p k = true then putT T o.dst (vs k) else T)
theorem length_putT (T : Tm) (d : Option Tmp) (v : Value) : (putT T d v).length = T.length := by cases d <;> simp [putT]
theorem TD_length : ∀ (l : List Oper) (k : Nat) (vs : Nat → Value) (p : Nat → Bool) (T : Tm), (TD l k vs p T).length = T.length
  | [], _, _, _, _ => rfl
  | o :: r, k, vs, p, T => by
    rw [TD, TD_length r]
    split
    · exact length_putT _ _ _
    · rfl
theorem TD_shift : ∀ (l : List Oper) (k : Nat) (vs : Nat → Value) (p : Nat → Bool) (T : Tm), TD l (k + 1) vs p T = TD l k (fun i => vs (i + 1)) (fun i => p (i + 1)) T
  | [], _, _, _, _ => rfl
  | o :: r, k, vs, p, T => by rw [TD, TD, TD_shift r (k + 1)]
theorem putT_at (T : Tm) (d : Option Tmp) (v : Value) (t : Nat) (h : d ≠ some t) : (putT T d v)[t]? = T[t]? := by
  cases d with
  | none => rfl
  | some d => simp only [putT]; rw [List.getElem?_set_ne (fun e => h (by rw [e]))]
theorem putT_self (T : Tm) (t : Nat) (v : Value) (h : t < T.length) : (putT T (some t) v)[t]? = some (some v) := by
  simp only [putT]; rw [List.getElem?_set_self h]
theorem TD_same : ∀ (l : List Oper) (k : Nat) (vs : Nat → Value) (p q : Nat → Bool) (T T' : Tm) (t : Nat), T.length = T'.length → T[t]? = T'[t]? → (∀ i o, l[i]? = some o → o.dst = some t → p (k + i) = q (k + i)) →
    (TD l k vs p T)[t]? = (TD l k vs q T')[t]?
  | [], _, _, _, _, _, _, _, _, h, _ => h
  | o :: r, k, vs, p, q, T, T', t, hl, h, hw => by
    rw [TD, TD]
    refine TD_same r (k + 1) vs p q _ _ t ?_ ?_ fun i o' ho hd => by have := hw (i + 1) o' (by simpa using ho) hd; rwa [show k + (i + 1) = k + 1 + i by omega] at this
    · split <;> split <;> simp [length_putT, hl]
    · by_cases hd : o.dst = some t
      · have := hw 0 o rfl hd
        rw [Nat.add_zero] at this
        rw [this, hd]
        split
        · rcases Nat.lt_or_ge t T.length with hlt | hge
          · rw [putT_self _ _ _ hlt, putT_self _ _ _ (hl ▸ hlt)]
          · rw [List.getElem?_eq_none (by rw [length_putT]; exact hge), List.getElem?_eq_none (by rw [length_putT, ← hl]; exact hge)]
        · exact h
      · split <;> split <;> simp [putT_at _ _ _ _ hd, h]
theorem TD_last : ∀ (l : List Oper) (k : Nat) (vs : Nat → Value) (p : Nat → Bool) (T : Tm) (t j : Nat) (o : Oper), l[j]? = some o → o.dst = some t → p (k + j) = true → t < T.length →
    (∀ i o', l[i]? = some o' → o'.dst = some t → j < i → p (k + i) = false) → (TD l k vs p T)[t]? = some (some (vs (k + j)))
  | [], _, _, _, _, _, _, _, h, _, _, _, _ => by simp at h
  | u :: r, k, vs, p, T, t, 0, o, h, hd, hp, ht, hn => by
    simp only [List.getElem?_cons_zero, Option.some.injEq] at h
    subst h
    rw [Nat.add_zero] at hp ⊢
    rw [TD, if_pos hp]
    have := TD_same r (k + 1) vs p (fun _ => false) (putT T u.dst (vs k)) (putT T u.dst (vs k)) t rfl rfl fun i o' ho hd' => by
      have := hn (i + 1) o' (by simpa using ho) hd' (by omega)
      rwa [show k + (i + 1) = k + 1 + i by omega] at this
    rw [this]
    have none' : ∀ (l : List Oper) (k : Nat) (T : Tm), TD l k vs (fun _ => false) T = T := by
      intro l
      induction l with
      | nil => intro k T; rfl
      | cons a l ih => intro k T; rw [TD, if_neg (by simp), ih]
    rw [none', hd, putT_self _ _ _ ht]
  | u :: r, k, vs, p, T, t, j + 1, o, h, hd, hp, ht, hn => by
    rw [TD]
    rw [show k + (j + 1) = k + 1 + j by omega] at hp ⊢
    refine TD_last r (k + 1) vs p _ t j o (by simpa using h) hd hp ?_ fun i o' ho hd' hij => by
      have := hn (i + 1) o' (by simpa using ho) hd' (by omega)
      rwa [show k + (i + 1) = k + 1 + i by omega] at this
    split
    · rw [length_putT]; exact ht
    · exact ht
theorem run_of {P : Program} {C : Ctx P} {ops : Array Oper} {K : Tm → Heap → Prop} : ∀ (l : List Oper) (T : Tm) (H : Heap), sOpsD C ops l T H K →
    ∃ (vs : Nat → Value) (Hs : Nat → Heap), Hs 0 = H ∧ (∀ i o, l[i]? = some o → ∃ b, want? (TD l 0 vs (fun k => decide (k < i)) T) ops o = some b ∧
      (b = true → StepD C (TD l 0 vs (fun k => decide (k < i)) T) (Hs i) o.op (vs i) (Hs (i + 1))) ∧ (b = false → vs i = undef ∧ Hs (i + 1) = Hs i)) ∧ K (TD l 0 vs (fun k => decide (k < l.length)) T) (Hs l.length)
  | [], T, H, h => ⟨fun _ => undef, fun _ => H, rfl, fun i o hi => by simp at hi, h⟩
  | o :: r, T, H, h => by
    have none' : ∀ (vs : Nat → Value) (l : List Oper) (k : Nat) (T : Tm), TD l k vs (fun _ => false) T = T := by
      intro vs l
      induction l with
      | nil => intro k T; rfl
      | cons a l ih => intro k T; rw [TD, if_neg (by simp), ih]
    have zero : ∀ (vs : Nat → Value), TD (o :: r) 0 vs (fun k => decide (k < 0)) T = T := fun vs => by
      have : (fun k => decide (k < 0)) = (fun _ : Nat => false) := by funext k; simp
      rw [this, none']
    have succ : ∀ (v : Value) (vs : Nat → Value) (i : Nat), TD (o :: r) 0 (fun j => match j with
        | 0 => v
        | j + 1 => vs j) (fun k => decide (k < i + 1)) T = TD r 0 vs (fun k => decide (k < i)) (putT T o.dst v) := fun v vs i => by
      rw [TD, if_pos (by simp), TD_shift]
      congr 1
      funext k
      simp
    simp only [sOpsD] at h
    split at h
    · exact h.elim
    · rename_i b hb
      cases b with
      | true =>
        obtain ⟨v, H', hst, hk⟩ := h.1 rfl
        obtain ⟨vs, Hs, h0, h1, h2⟩ := run_of r _ H' hk
        refine ⟨fun j => match j with
          | 0 => v
          | j + 1 => vs j, fun j => match j with
          | 0 => H
          | j + 1 => Hs j, rfl, fun i o' hi => ?_, ?_⟩
        · cases i with
          | zero =>
            simp only [List.getElem?_cons_zero, Option.some.injEq] at hi
            subst hi
            rw [zero]
            refine ⟨true, hb, fun _ => ?_, fun h => by cases h⟩
            show StepD C T H o.op v (Hs 0)
            rw [h0]
            exact hst
          | succ i =>
            rw [succ]
            exact h1 i o' (by simpa using hi)
        · rw [List.length_cons, succ]
          exact h2
      | false =>
        have hk := h.2 rfl
        obtain ⟨vs, Hs, h0, h1, h2⟩ := run_of r _ H hk
        refine ⟨fun j => match j with
          | 0 => undef
          | j + 1 => vs j, fun j => match j with
          | 0 => H
          | j + 1 => Hs j, rfl, fun i o' hi => ?_, ?_⟩
        · cases i with
          | zero =>
            simp only [List.getElem?_cons_zero, Option.some.injEq] at hi
            subst hi
            rw [zero]
            exact ⟨false, hb, (fun h => by cases h), fun _ => ⟨rfl, h0⟩⟩
          | succ i =>
            rw [succ]
            exact h1 i o' (by simpa using hi)
        · rw [List.length_cons, succ]
          exact h2
end Go.Am
set_option linter.unusedVariables false
set_option linter.unusedSimpArgs false
namespace Go.Am
open Go.RowKit
structure DRun {P : Program} (C : Ctx P) (ops : Array Oper) (T0 : Tm) (vs : Nat → Value) (Hs : Nat → Heap) : Prop where
  ok : regionOK C ops = true
  step : ∀ i o, ops[i]? = some o → ∃ b, want? (TD ops.toList 0 vs (fun k => decide (k < i)) T0) ops o = some b ∧
    (b = true → StepD C (TD ops.toList 0 vs (fun k => decide (k < i)) T0) (Hs i) o.op (vs i) (Hs (i + 1))) ∧ (b = false → vs i = undef ∧ Hs (i + 1) = Hs i)
def isNS (c : Cls) : Prop := c = .N ∨ c = .S
section
variable {P : Program} {C : Ctx P} {ops : Array Oper} {T0 : Tm} {vs : Nat → Value} {Hs : Nat → Heap}
theorem DRun.edge (h : DRun C ops T0 vs Hs) {j : Nat} {o : Oper} (ho : ops[j]? = some o) : ∀ e ∈ o.after, Region.binds .any e = true → e.on < j := by
  have hlt : j < ops.size := (Array.getElem?_eq_some_iff.1 ho).1
  have := h.ok
  simp only [regionOK, List.all_eq_true, List.mem_range] at this
  have := this j hlt
  rw [ho] at this
  simp only [Bool.and_eq_true] at this
  intro e he hb
  have := Array.all_eq_true_iff_forall_mem.1 this.1 e he
  simpa [hb] using this
theorem DRun.pair (h : DRun C ops T0 vs Hs) {i j : Nat} {oi oj : Oper} (hi : ops[i]? = some oi) (hj : ops[j]? = some oj) (hij : i < j) (hc : conflict C ops oi oj = true) : reach (masksGo ops.toList []) i j = true := by
  have hlt : j < ops.size := (Array.getElem?_eq_some_iff.1 hj).1
  have := h.ok
  simp only [regionOK, List.all_eq_true, List.mem_range] at this
  have := this j hlt
  rw [hj] at this
  simp only [Bool.and_eq_true, List.all_eq_true, List.mem_range] at this
  have := this.2 i hij
  rw [hi] at this
  simpa [hc] using this
theorem DRun.same (h : DRun C ops T0 vs Hs) {i : Nat} {o : Oper} (ho : ops[i]? = some o) (hn : ¬ isNS (clsOf C o.op)) : Hs (i + 1) = Hs i := by
  obtain ⟨b, _, h1, h2⟩ := h.step i o ho
  cases b with
  | false => exact (h2 rfl).2
  | true =>
    have := h1 rfl
    unfold StepD at this
    cases hc : clsOf C o.op with
    | P =>
      rw [hc] at this
      simp only at this
      have hp : isPure o.op = true := by
        unfold clsOf at hc
        split at hc
        · assumption
        · split at hc
          · cases hc
          · split at hc <;> first
              | cases hc
              | skip
            rename_i f _ _ _
            unfold evOp at this
            simp_all
      exact (evOp_pure hp this).1
    | Q => rw [hc] at this; exact this.1
    | N => exact absurd (Or.inl hc) hn
    | S => exact absurd (Or.inr hc) hn
theorem DRun.grows (h : DRun C ops T0 vs Hs) {i : Nat} {o : Oper} (ho : ops[i]? = some o) (hn : clsOf C o.op ≠ .S) : ∃ E, Hs (i + 1) = Hs i ++ E := by
  by_cases hN : clsOf C o.op = .N
  · obtain ⟨b, _, h1, h2⟩ := h.step i o ho
    cases b with
    | false => exact ⟨[], by simp [(h2 rfl).2]⟩
    | true =>
      have := h1 rfl
      unfold StepD at this
      rw [hN] at this
      obtain ⟨E, he, _⟩ := this
      exact ⟨E, he⟩
  · exact ⟨[], by rw [h.same ho (by rintro (h | h) <;> contradiction)]; simp⟩
theorem DRun.span (h : DRun C ops T0 vs Hs) (i : Nat) : ∀ d, i + d ≤ ops.size → (∀ k o, i ≤ k → k < i + d → ops[k]? = some o → ¬ isNS (clsOf C o.op)) → Hs (i + d) = Hs i
  | 0, _, _ => rfl
  | d + 1, hd, hn => by
    have hlt : i + d < ops.size := by omega
    have ho : ops[i + d]? = some ops[i + d] := Array.getElem?_eq_getElem hlt
    rw [show i + (d + 1) = i + d + 1 by omega, h.same ho (hn _ _ (by omega) (by omega) ho)]
    exact h.span i d (by omega) fun k o h1 h2 => hn k o h1 (by omega)
theorem DRun.spanE (h : DRun C ops T0 vs Hs) (i : Nat) : ∀ d, i + d ≤ ops.size → (∀ k o, i ≤ k → k < i + d → ops[k]? = some o → clsOf C o.op ≠ .S) → ∃ E, Hs (i + d) = Hs i ++ E
  | 0, _, _ => ⟨[], by simp⟩
  | d + 1, hd, hn => by
    have hlt : i + d < ops.size := by omega
    have ho : ops[i + d]? = some ops[i + d] := Array.getElem?_eq_getElem hlt
    obtain ⟨E1, h1⟩ := h.spanE i d (by omega) fun k o h1 h2 => hn k o h1 (by omega)
    obtain ⟨E2, h2⟩ := h.grows ho (hn _ _ (by omega) (by omega) ho)
    exact ⟨E1 ++ E2, by rw [show i + (d + 1) = i + d + 1 by omega, h2, h1, List.append_assoc]⟩
end
def Lst (listed : Array Bool) (i : Nat) : Prop := listed.getD i false = true
structure DInv {P : Program} (C : Ctx P) (ops : Array Oper) (T0 : Tm) (vs : Nat → Value) (Hs : Nat → Heap) (ρ0 : Ren) (H0 : Heap) (w0 : World) (listed : Array Bool) (ρ : Ren) (m : Nat) (a : Act) (w : World) : Prop where
  size : listed.size = ops.size
  cl : ∀ (j : Nat) (o : Oper), ops[j]? = some o → Lst listed j → ∀ e ∈ o.after, Region.binds .any e = true → Lst listed e.on
  mle : m ≤ ops.size
  ns : ∀ (i : Nat) (o : Oper), ops[i]? = some o → isNS (clsOf C o.op) → (Lst listed i ↔ i < m)
  adv : Adv P ρ0 H0 w0 ρ (Hs m) w
  clH : ∀ i, i ≤ m → Closed (Hs i)
  rt : RT ρ (Hs m).length (TD ops.toList 0 vs (fun k => listed.getD k false) T0) a
  df : a.defers = []
theorem getT_congr {T T' : Tm} {t : Nat} (h : T[t]? = T'[t]?) : getT T t = getT T' t := by unfold getT; rw [h]
theorem want_congr {T T' : Tm} {ops : Array Oper} {o : Oper} (h : ∀ t ∈ o.looksAt ops, T[t]? = T'[t]?) : want? T ops o = want? T' ops o := by
  unfold want?
  split
  · rfl
  · rename_i j c hg
    split
    · rfl
    · rename_i t hd
      rw [getT_congr (h t (by simp [Oper.looksAt, hg, hd]))]
theorem operand_congr {T T' : Tm} {ops : Array Oper} {o : Oper} (h : ∀ t ∈ o.looksAt ops, T[t]? = T'[t]?) : ∀ x ∈ o.op.operands, evalO T x = evalO T' x := by
  intro x hx
  cases x with
  | tmp t =>
    simp only [evalO]
    exact getT_congr (h t (List.mem_append_left _ (List.mem_filterMap.2 ⟨.tmp t, by simpa using hx, rfl⟩)))
  | _ => rfl
theorem lst_set {listed : Array Bool} {i j : Nat} (hi : i < listed.size) : Lst (listed.setIfInBounds i true) j ↔ (Lst listed j ∨ j = i) := by
  unfold Lst
  by_cases hij : i = j
  · subst hij; simp [hi]
  · simp only [Array.getD_eq_getD_getElem?]
    rw [Array.getElem?_setIfInBounds_ne hij]
    constructor
    · exact fun h => Or.inl h
    · rintro (h | h)
      · exact h
      · exact absurd h.symm hij
theorem count_set : ∀ {l : List Bool} {i : Nat}, l[i]? = some false → (l.set i true).count false + 1 = l.count false
  | [], i, h => by simp at h
  | b :: l, 0, h => by simp at h; subst h; simp
  | b :: l, i + 1, h => by
    have := count_set (l := l) (i := i) (by simpa using h)
    simp only [List.set_cons_succ, List.count_cons]
    omega
theorem DInv.go {P : Program} {C : Ctx P} {ops : Array Oper} {T0 : Tm} {vs : Nat → Value} {Hs : Nat → Heap} {ρ0 : Ren} {H0 : Heap} {w0 : World} (dr : DRun C ops T0 vs Hs) {listed : Array Bool} {ρ : Ren} {m : Nat} {a : Act} {w : World}
    (h : DInv C ops T0 vs Hs ρ0 H0 w0 listed ρ m a w) {j : Nat} (hj : j ∈ Region.ready .any ops listed) {K : Act → World → Prop} {Q : Exit → Act → World → Prop}
    (hK : ∀ ρ' m' a' w', DInv C ops T0 vs Hs ρ0 H0 w0 (listed.setIfInBounds j true) ρ' m' a' w' → K a' w') : wpOp P ops Q j K a w := by
  obtain ⟨hun, o, ho, hall⟩ := mem_ready.1 hj
  have hjlt : j < ops.size := (Array.getElem?_eq_some_iff.1 ho).1
  have hjl : j < listed.size := by rw [h.size]; exact hjlt
  have hnl : ¬ Lst listed j := by
    unfold Lst
    simp only [Array.getD_eq_getD_getElem?, Array.getElem?_eq_getElem hjl, Option.getD_some] at hun ⊢
    simp [hun]
  have hed : ∀ e ∈ o.after, Region.binds .any e = true → Lst listed e.on := hall
  have before : ∀ i oi, ops[i]? = some oi → i < j → conflict C ops oi o = true → Lst listed i := fun i oi hi hij hc =>
    reach_spec (D := Lst listed) h.cl j i o ho hed (dr.pair hi ho hij hc)
  have behind : ∀ i oi, ops[i]? = some oi → j < i → conflict C ops o oi = true → ¬ Lst listed i := fun i oi hi hij hc hl =>
    hnl (reach_spec (D := Lst listed) h.cl i j oi hi (h.cl i oi hi hl) (dr.pair ho hi hij hc))
  have decl : ∀ i, (listed.getD i false = decide (i < j)) ↔ (Lst listed i ↔ i < j) := fun i => by
    unfold Lst
    cases listed.getD i false <;> simp
  have slot : ∀ t ∈ o.looksAt ops, (TD ops.toList 0 vs (fun k => listed.getD k false) T0)[t]? = (TD ops.toList 0 vs (fun k => decide (k < j)) T0)[t]? := by
    intro t ht
    refine TD_same _ _ _ _ _ _ _ t rfl rfl fun i oi hi hd => ?_
    have hi' : ops[i]? = some oi := by simpa using hi
    rw [Nat.zero_add]
    rw [decl]
    rcases Nat.lt_trichotomy i j with hlt | rfl | hgt
    · exact ⟨fun _ => hlt, fun _ => before i oi hi' hlt (by simp only [conflict, hd]; simp [ht])⟩
    · exact ⟨fun hl => absurd hl hnl, fun h => absurd h (by omega)⟩
    · exact ⟨fun hl => absurd hl (behind i oi hi' hgt (by simp only [conflict, hd]; simp [ht])), fun h => absurd h (by omega)⟩
  obtain ⟨b, hb, hb1, hb2⟩ := dr.step j o ho
  have hwant : want? (TD ops.toList 0 vs (fun k => listed.getD k false) T0) ops o = some b := by rw [want_congr slot]; exact hb
  have hwreal := want_sound h.rt hwant
  have after_ : ∀ {ρ' : Ren} {n : Nat} {a' : Act}, RT ρ' n (TD ops.toList 0 vs (fun k => listed.getD k false) T0) a' → (∀ i ∈ idsV (vs j), i < n) →
      RT ρ' n (TD ops.toList 0 vs (fun k => (listed.setIfInBounds j true).getD k false) T0) (a'.put o.dst (mapV ρ' (vs j))) := by
    intro ρ' n a' hrt hv
    have hp := hrt.put o.dst hv
    have key : ∀ t : Nat, (TD ops.toList 0 vs (fun k => (listed.setIfInBounds j true).getD k false) T0)[t]? = (putT (TD ops.toList 0 vs (fun k => listed.getD k false) T0) o.dst (vs j))[t]? := by
      intro t
      by_cases hd : o.dst = some t
      · rw [hd]
        rcases Nat.lt_or_ge t T0.length with hlt | hge
        · rw [putT_self _ _ _ (by rw [TD_length]; exact hlt)]
          have := TD_last ops.toList 0 vs (fun k => (listed.setIfInBounds j true).getD k false) T0 t j o (by simpa using ho) hd (by simp [hjl]) hlt fun i oi hi hdi hij => by
            have hi' : ops[i]? = some oi := by simpa using hi
            have hnot := behind i oi hi' hij (by simp [conflict, hd, hdi])
            rw [Nat.zero_add]
            have h1 : ¬ Lst (listed.setIfInBounds j true) i := by
              rw [lst_set hjl]
              rintro (h | h)
              · exact hnot h
              · omega
            unfold Lst at h1
            simpa using h1
          rw [Nat.zero_add] at this
          exact this
        · rw [List.getElem?_eq_none (by rw [TD_length]; exact hge), List.getElem?_eq_none (by rw [length_putT, TD_length]; exact hge)]
      · rw [putT_at _ _ _ _ hd]
        refine TD_same _ _ _ _ _ _ _ t rfl rfl fun i oi hi hdi => ?_
        have hne : j ≠ i := by
          rintro rfl
          have hi' : ops[j]? = some oi := by simpa using hi
          rw [ho] at hi'
          cases hi'
          exact hd hdi
        rw [Nat.zero_add]
        simp only [Array.getD_eq_getD_getElem?]
        rw [Array.getElem?_setIfInBounds_ne hne]
    refine ⟨?_, fun t v hv' => ?_, fun t v hv' => ?_⟩
    · rw [hp.size, length_putT, TD_length, TD_length]
    · rw [key] at hv'; exact hp.at_ t v hv'
    · rw [key] at hv'; exact hp.cl t v hv'
  have hcl' : ∀ (k : Nat) (ok : Oper), ops[k]? = some ok → Lst (listed.setIfInBounds j true) k → ∀ e ∈ ok.after, Region.binds .any e = true → Lst (listed.setIfInBounds j true) e.on := by
    intro k ok hk hl e he hbn
    rw [lst_set hjl] at hl ⊢
    rcases hl with hl | rfl
    · exact Or.inl (h.cl k ok hk hl e he hbn)
    · rw [ho] at hk; cases hk
      exact Or.inl (hed e he hbn)
  have hsz' : (listed.setIfInBounds j true).size = ops.size := by simp [h.size]
  unfold wpOp
  rw [ho]
  simp only
  rw [hwreal]
  have stay : ∀ {ρ' : Ren} {a' : Act} {w' : World}, ¬ isNS (clsOf C o.op) → Adv P ρ (Hs m) w ρ' (Hs m) w' → (∀ i ∈ idsV (vs j), i < (Hs m).length) → K (a.put o.dst (mapV ρ' (vs j))) w' := by
    intro ρ' a' w' hns ad hv
    refine hK ρ' m _ w' ⟨hsz', hcl', h.mle, ?_, h.adv.trans ad, h.clH, after_ (h.rt.adv ad) hv, by rw [put_defers]; exact h.df⟩
    intro i oi hi hisn
    rw [lst_set hjl]
    constructor
    · rintro (hl | rfl)
      · exact (h.ns i oi hi hisn).1 hl
      · rw [ho] at hi; cases hi; exact absurd hisn hns
    · exact fun hl => Or.inl ((h.ns i oi hi hisn).2 hl)
  have atNS : isNS (clsOf C o.op) → m ≤ j ∧ Hs j = Hs m := by
    intro hns
    have hm : m ≤ j := by
      rcases Nat.lt_or_ge j m with hlt | hge
      · exact absurd ((h.ns j o ho hns).2 hlt) hnl
      · exact hge
    refine ⟨hm, ?_⟩
    obtain ⟨d, rfl⟩ : ∃ d, j = m + d := ⟨j - m, by omega⟩
    refine dr.span m d (by omega) fun k ok h1 h2 hk hkn => ?_
    have hl : Lst listed k := before k ok hk h2 (by
      have : clsConf (clsOf C ok.op) (clsOf C o.op) = true := by
        rcases hkn with hkn | hkn <;> rcases hns with hns | hns <;> rw [hkn, hns] <;> rfl
      simp [conflict, this])
    have := (h.ns k ok hk hkn).1 hl
    omega
  cases b with
  | false =>
    rw [if_neg (by simp)]
    obtain ⟨hv, hs⟩ := hb2 rfl
    have hu : ∀ ρ : Ren, mapV ρ (vs j) = undef := fun ρ => by rw [hv]; simp [undef, mapV, mpV]
    by_cases hns : isNS (clsOf C o.op)
    · obtain ⟨hm, hH⟩ := atNS hns
      have := after_ (ρ' := ρ) (n := (Hs m).length) (a' := a) h.rt (by rw [hv]; simp [undef, idsV])
      rw [hu] at this
      refine hK ρ (j + 1) _ w ⟨hsz', hcl', by omega, ?_, by rw [hs, hH]; exact h.adv, ?_, by rw [hs, hH]; exact this, by rw [put_defers]; exact h.df⟩
      · intro i oi hi hisn
        rw [lst_set hjl]
        constructor
        · rintro (hl | rfl)
          · have := (h.ns i oi hi hisn).1 hl; omega
          · omega
        · intro hlt
          rcases Nat.lt_or_ge i j with h1 | h1
          · exact Or.inl (before i oi hi h1 (by
              have : clsConf (clsOf C oi.op) (clsOf C o.op) = true := by
                rcases hisn with hkn | hkn <;> rcases hns with hns | hns <;> rw [hkn, hns] <;> rfl
              simp [conflict, this]))
          · exact Or.inr (by omega)
      · intro i hi
        rcases Nat.lt_or_ge i m with h1 | h1
        · exact h.clH i (by omega)
        · have : Hs i = Hs m := by
            rcases Nat.lt_or_ge j i with h2 | h2
            · have : i = j + 1 := by omega
              rw [this, hs, hH]
            · obtain ⟨d, rfl⟩ : ∃ d, i = m + d := ⟨i - m, by omega⟩
              refine dr.span m d (by omega) fun k ok h3 h4 hk hkn => ?_
              have hl : Lst listed k := before k ok hk (by omega) (by
                have : clsConf (clsOf C ok.op) (clsOf C o.op) = true := by
                  rcases hkn with hkn | hkn <;> rcases hns with hns | hns <;> rw [hkn, hns] <;> rfl
                simp [conflict, this])
              have := (h.ns k ok hk hkn).1 hl
              omega
          rw [this]
          exact h.clH m (Nat.le_refl _)
    · have := stay (ρ' := ρ) (a' := a) (w' := w) hns (Adv.refl h.adv.rep) (by rw [hv]; simp [undef, idsV])
      rw [hu] at this
      exact this
  | true =>
    rw [if_pos rfl]
    have hst := hb1 rfl
    unfold StepD at hst
    have ocg := operand_congr slot
    have ocg' : ∀ x ∈ o.op.operands, evalO (TD ops.toList 0 vs (fun k => decide (k < j)) T0) x = evalO (TD ops.toList 0 vs (fun k => listed.getD k false) T0) x := fun x hx => (ocg x hx).symm
    cases hc : clsOf C o.op with
    | P =>
      rw [hc] at hst
      simp only at hst
      have hsame : Hs (j + 1) = Hs j := dr.same ho (by rw [hc]; rintro (h | h) <;> cases h)
      have hp : isPure o.op = true := by
        unfold clsOf at hc
        split at hc
        · assumption
        · split at hc
          · cases hc
          · split at hc <;> first
              | cases hc
              | skip
            unfold evOp at hst
            simp_all
      have hev := (evOp_pure hp hst).2 (Hs m)
      rw [evOp_congr ocg'] at hev
      refine Or.inl (does_sound h.adv.rep h.rt (.op hev) fun ρ' w' ad hv => stay (a' := a) (by rw [hc]; rintro (h | h) <;> cases h) ad hv)
    | Q =>
      rw [hc] at hst
      simp only at hst
      obtain ⟨hsame, hq⟩ := hst
      have hids : ∀ (x : Operand) (u : Value), evalO (TD ops.toList 0 vs (fun k => listed.getD k false) T0) x = some u → ∀ i ∈ idsV u, i < (Hs m).length := fun x u hu => (evalO_sound h.rt hu).2
      have hdoes : Does C (TD ops.toList 0 vs (fun k => listed.getD k false) T0) (Hs m) o.op (vs j) (Hs m) := by
        rcases Nat.lt_or_ge j m with hlt | hge
        · obtain ⟨d, hd⟩ : ∃ d, m = j + d := ⟨m - j, by omega⟩
          obtain ⟨E, hE⟩ := dr.spanE j d (by rw [← hd]; exact h.mle) fun k ok h1 h2 hk hS => by
            rcases Nat.eq_or_lt_of_le h1 with rfl | h1
            · rw [ho] at hk; cases hk; rw [hc] at hS; cases hS
            · have hl := (h.ns k ok hk (Or.inr hS)).2 (by omega)
              exact behind k ok hk h1 (by simp [conflict, hc, hS, clsConf]) hl
          rw [← hd] at hE
          rw [hE]
          rcases hq with ⟨hr, hev⟩ | ⟨c, f, args, hop, hcal, hso, hargs⟩
          · exact Does.congr ocg' (.op (evOp_read hr hev))
          · have hclj := h.clH j (by omega)
            exact Does.congr ocg' (.call c f args hop hcal ((hso (Hs j) [] (by simp) hclj hargs).ext hargs hclj))
        · obtain ⟨d, hd⟩ : ∃ d, j = m + d := ⟨j - m, by omega⟩
          obtain ⟨E, hE⟩ := dr.spanE m d (by omega) fun k ok h1 h2 hk hS => by
            have hl : Lst listed k := before k ok hk (by omega) (by
              have : clsConf (clsOf C ok.op) (clsOf C o.op) = true := by rw [hS, hc]; rfl
              simp [conflict, this])
            have := (h.ns k ok hk (Or.inr hS)).1 hl
            omega
          rw [← hd] at hE
          rcases hq with ⟨hr, hev⟩ | ⟨c, f, args, hop, hcal, hso, hargs⟩
          · rw [hE, evOp_congr ocg'] at hev
            exact .op (evOp_read_back hr hids hev)
          · have hcal' : calleeOf (TD ops.toList 0 vs (fun k => listed.getD k false) T0) c = some (f, args) := by
              rw [← hcal]
              exact (calleeOf_congr fun x hx => ocg' x (by rw [hop]; exact hx)).symm
            exact .call c f args hop hcal' (hso (Hs m) E hE (h.clH m (Nat.le_refl _)) (calleeOf_ids hids hcal'))
      refine Or.inl (does_sound h.adv.rep h.rt hdoes fun ρ' w' ad hv => stay (a' := a) (by rw [hc]; rintro (h | h) <;> cases h) ad hv)
    | N =>
      rw [hc] at hst
      simp only at hst
      obtain ⟨E, hE, hd⟩ := hst
      have hns : isNS (clsOf C o.op) := Or.inl hc
      obtain ⟨hm, hH⟩ := atNS hns
      rw [hH] at hd
      refine Or.inl (does_sound h.adv.rep h.rt (Does.congr ocg' hd) fun ρ' w' ad hv => ?_)
      refine hK ρ' (j + 1) _ w' ⟨hsz', hcl', by omega, ?_, h.adv.trans ad, ?_, after_ (h.rt.adv ad) hv, by rw [put_defers]; exact h.df⟩
      · intro i oi hi hisn
        rw [lst_set hjl]
        constructor
        · rintro (hl | rfl)
          · have := (h.ns i oi hi hisn).1 hl; omega
          · omega
        · intro hlt
          rcases Nat.lt_or_ge i j with h1 | h1
          · exact Or.inl (before i oi hi h1 (by
              have : clsConf (clsOf C oi.op) (clsOf C o.op) = true := by
                rcases hisn with hkn | hkn <;> rw [hkn, hc] <;> rfl
              simp [conflict, this]))
          · exact Or.inr (by omega)
      · intro i hi
        rcases Nat.lt_or_ge i m with h1 | h1
        · exact h.clH i (by omega)
        · rcases Nat.lt_or_ge j i with h2 | h2
          · have : i = j + 1 := by omega
            rw [this]
            exact ad.rep.cl
          · have : Hs i = Hs m := by
              obtain ⟨d, rfl⟩ : ∃ d, i = m + d := ⟨i - m, by omega⟩
              refine dr.span m d (by omega) fun k ok h3 h4 hk hkn => ?_
              have hl : Lst listed k := before k ok hk (by omega) (by
                have : clsConf (clsOf C ok.op) (clsOf C o.op) = true := by
                  rcases hkn with hkn | hkn <;> rw [hkn, hc] <;> rfl
                simp [conflict, this])
              have := (h.ns k ok hk hkn).1 hl
              omega
            rw [this]
            exact h.clH m (Nat.le_refl _)
    | S =>
      rw [hc] at hst
      simp only at hst
      have hns : isNS (clsOf C o.op) := Or.inr hc
      obtain ⟨hm, hH⟩ := atNS hns
      rw [hH] at hst
      refine Or.inl (does_sound h.adv.rep h.rt (Does.congr ocg' hst) fun ρ' w' ad hv => ?_)
      refine hK ρ' (j + 1) _ w' ⟨hsz', hcl', by omega, ?_, h.adv.trans ad, ?_, after_ (h.rt.adv ad) hv, by rw [put_defers]; exact h.df⟩
      · intro i oi hi hisn
        rw [lst_set hjl]
        constructor
        · rintro (hl | rfl)
          · have := (h.ns i oi hi hisn).1 hl; omega
          · omega
        · intro hlt
          rcases Nat.lt_or_ge i j with h1 | h1
          · exact Or.inl (before i oi hi h1 (by
              have : clsConf (clsOf C oi.op) (clsOf C o.op) = true := by
                rcases hisn with hkn | hkn <;> rw [hkn, hc] <;> rfl
              simp [conflict, this]))
          · exact Or.inr (by omega)
      · intro i hi
        rcases Nat.lt_or_ge i m with h1 | h1
        · exact h.clH i (by omega)
        · rcases Nat.lt_or_ge j i with h2 | h2
          · have : i = j + 1 := by omega
            rw [this]
            exact ad.rep.cl
          · have : Hs i = Hs m := by
              obtain ⟨d, rfl⟩ : ∃ d, i = m + d := ⟨i - m, by omega⟩
              refine dr.span m d (by omega) fun k ok h3 h4 hk hkn => ?_
              have hl : Lst listed k := before k ok hk (by omega) (by
                have : clsConf (clsOf C ok.op) (clsOf C o.op) = true := by
                  rcases hkn with hkn | hkn <;> rw [hkn, hc] <;> rfl
                simp [conflict, this])
              have := (h.ns k ok hk hkn).1 hl
              omega
            rw [this]
            exact h.clH m (Nat.le_refl _)
end Go.Am
