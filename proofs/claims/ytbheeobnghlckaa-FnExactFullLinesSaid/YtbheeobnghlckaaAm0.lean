/- The frame of all our walks, part 0: abstract values, rows and heaps; how they are carried to the machine's own. No condition. -/
import Derived.Below
import Derived.Orders
import Derived.Laws.Cells
import Derived.Laws.CopyRow
import Derived.Laws.Tables
import Derived.Laws.MakeOwn
import Derived.Laws.OwnMore
import Derived.Laws.Rows
set_option linter.unusedVariables false
set_option linter.unusedSimpArgs false
namespace Go.Am

/-- where an abstract row lies -/
structure Loc where
  blk : Nat
  off : Nat
  cap : Nat

abbrev Ren := Nat → Loc

/-- a map of addresses, and of the last number of a slice -/
structure Mp where
  fa : Addr → Addr
  fc : Nat → Nat → Nat

def mpP (m : Mp) : Value → Value
  | .pointer (some a) => .pointer (some (m.fa a))
  | .slice (some a) n c => .slice (some (m.fa a)) n (m.fc a.block c)
  | v => v

def mpS (m : Mp) : Value → Value
  | .func fn first cap => .func fn (first.map (mpP m)) (cap.map (mpP m))
  | v => mpP m v

def mpA (m : Mp) : Value → Value
  | .agg cs => .agg (cs.map (mpS m))
  | v => mpS m v

def mpV (m : Mp) : Value → Value
  | .tuple vs => .tuple (vs.map (mpA m))
  | v => mpA m v

def toReal (ρ : Ren) : Mp := ⟨fun a => ⟨(ρ a.block).blk, (ρ a.block).off + a.off, none⟩, fun b c => (ρ b).cap - c⟩
def renId (σ : Nat → Nat) : Mp := ⟨fun a => ⟨σ a.block, a.off, none⟩, fun _ c => c⟩

abbrev mapS (ρ : Ren) := mpS (toReal ρ)
abbrev mapA (ρ : Ren) := mpA (toReal ρ)
abbrev mapV (ρ : Ren) := mpV (toReal ρ)

def idsP : Value → List Nat
  | .pointer (some a) => [a.block]
  | .slice (some a) _ _ => [a.block]
  | _ => []
def idsS : Value → List Nat
  | .func _ first cap => (first.toList ++ cap.toList).flatMap idsP
  | v => idsP v
def idsA : Value → List Nat
  | .agg cs => cs.toList.flatMap idsS
  | v => idsS v
def idsV : Value → List Nat
  | .tuple vs => vs.toList.flatMap idsA
  | v => idsA v

theorem mpP_congr {m m' : Mp} {v : Value} (h : ∀ a c, a.block ∈ idsP v → m.fa a = m'.fa a ∧ m.fc a.block c = m'.fc a.block c) : mpP m v = mpP m' v := by
  unfold mpP
  split
  · rename_i a; rw [(h a 0 (by simp [idsP])).1]
  · rename_i a n c; rw [(h a c (by simp [idsP])).1, (h a c (by simp [idsP])).2]
  · rfl

theorem mpS_congr {m m' : Mp} {v : Value} (h : ∀ a c, a.block ∈ idsS v → m.fa a = m'.fa a ∧ m.fc a.block c = m'.fc a.block c) : mpS m v = mpS m' v := by
  cases v with
  | func fn first cap =>
    simp only [mpS]
    rw [Array.map_congr_left (xs := first) (f := mpP m) (g := mpP m') fun x hx => mpP_congr fun a c ha => h a c (by simp [idsS]; exact Or.inl ⟨x, hx, ha⟩),
      Array.map_congr_left (xs := cap) (f := mpP m) (g := mpP m') fun x hx => mpP_congr fun a c ha => h a c (by simp [idsS]; exact Or.inr ⟨x, hx, ha⟩)]
  | _ => exact mpP_congr (by simpa [idsS] using h)

theorem mpA_congr {m m' : Mp} {v : Value} (h : ∀ a c, a.block ∈ idsA v → m.fa a = m'.fa a ∧ m.fc a.block c = m'.fc a.block c) : mpA m v = mpA m' v := by
  cases v with
  | agg cs =>
    simp only [mpA]
    rw [Array.map_congr_left (xs := cs) (f := mpS m) (g := mpS m') fun x hx => mpS_congr fun a c ha => h a c (by simp [idsA]; exact ⟨x, hx, ha⟩)]
  | _ => exact mpS_congr (by simpa [idsA] using h)

theorem mpV_congr {m m' : Mp} {v : Value} (h : ∀ a c, a.block ∈ idsV v → m.fa a = m'.fa a ∧ m.fc a.block c = m'.fc a.block c) : mpV m v = mpV m' v := by
  cases v with
  | tuple vs =>
    simp only [mpV]
    rw [Array.map_congr_left (xs := vs) (f := mpA m) (g := mpA m') fun x hx => mpA_congr fun a c ha => h a c (by simp [idsV]; exact ⟨x, hx, ha⟩)]
  | _ => exact mpA_congr (by simpa [idsV] using h)

theorem toReal_agree {ρ ρ' : Ren} {l : List Nat} (h : ∀ i ∈ l, ρ' i = ρ i) : ∀ (a : Addr) (c : Nat), a.block ∈ l → (toReal ρ').fa a = (toReal ρ).fa a ∧ (toReal ρ').fc a.block c = (toReal ρ).fc a.block c := by
  intro a c ha
  simp [toReal, h _ ha]

theorem mapS_agree {ρ ρ' : Ren} {v : Value} (h : ∀ i ∈ idsS v, ρ' i = ρ i) : mapS ρ' v = mapS ρ v := mpS_congr (toReal_agree h)
theorem mapV_agree {ρ ρ' : Ren} {v : Value} (h : ∀ i ∈ idsV v, ρ' i = ρ i) : mapV ρ' v = mapV ρ v := mpV_congr (toReal_agree h)

/-- carried and renamed: in one step -/
theorem mpP_ren (ρ : Ren) (σ : Nat → Nat) (v : Value) : mpP (toReal ρ) (mpP (renId σ) v) = mpP (toReal (fun i => ρ (σ i))) v := by
  cases v with
  | pointer a => cases a <;> rfl
  | slice a n c => cases a <;> rfl
  | _ => rfl
theorem mpS_ren (ρ : Ren) (σ : Nat → Nat) (v : Value) : mpS (toReal ρ) (mpS (renId σ) v) = mpS (toReal (fun i => ρ (σ i))) v := by
  cases v with
  | func fn first cap => simp [mpS, Function.comp_def, mpP_ren]
  | pointer a => cases a <;> rfl
  | slice a n c => cases a <;> rfl
  | _ => rfl
theorem mpA_ren (ρ : Ren) (σ : Nat → Nat) (v : Value) : mpA (toReal ρ) (mpA (renId σ) v) = mpA (toReal (fun i => ρ (σ i))) v := by
  cases v with
  | agg cs => simp [mpA, Function.comp_def, mpS_ren]
  | pointer a => cases a <;> rfl
  | slice a n c => cases a <;> rfl
  | func fn first cap => exact mpS_ren ρ σ (.func fn first cap)
  | _ => rfl
theorem mpV_ren (ρ : Ren) (σ : Nat → Nat) (v : Value) : mpV (toReal ρ) (mpV (renId σ) v) = mpV (toReal (fun i => ρ (σ i))) v := by
  cases v with
  | tuple vs => simp [mpV, Function.comp_def, mpA_ren]
  | pointer a => cases a <;> rfl
  | slice a n c => cases a <;> rfl
  | func fn first cap => exact mpA_ren ρ σ (.func fn first cap)
  | agg cs => exact mpA_ren ρ σ (.agg cs)
  | _ => rfl

/-- a scalar: one cell -/
def scal : Value → Bool
  | .agg _ | .tuple _ => false
  | _ => true

theorem scal_mpS (m : Mp) (v : Value) : scal (mpS m v) = scal v := by
  cases v with
  | pointer a => cases a <;> rfl
  | slice a n c => cases a <;> rfl
  | _ => rfl
theorem oneCell_of_scal {v : Value} (h : scal v = true) : v.oneCell' = true := by
  cases v <;> first | rfl | simp [scal] at h
theorem mapA_scal {m : Mp} {v : Value} (h : scal v = true) : mpA m v = mpS m v := by
  cases v <;> first | rfl | simp [scal] at h
theorem mapV_scal {m : Mp} {v : Value} (h : scal v = true) : mpV m v = mpS m v := by
  cases v <;> first | rfl | simp [scal] at h
theorem idsV_scal {v : Value} (h : scal v = true) : idsV v = idsS v := by
  cases v <;> first | rfl | simp [scal] at h
theorem idsA_scal {v : Value} (h : scal v = true) : idsA v = idsS v := by
  cases v <;> first | rfl | simp [scal] at h

/-- no address in it -/
def flat : Value → Bool
  | .bool _ | .int _ _ | .string _ | .pointer none | .slice none _ _ | .nilFunc | .nilIface | .map none => true
  | _ => false
theorem mpS_flat {m : Mp} {v : Value} (h : flat v = true) : mpS m v = v := by
  unfold flat at h
  split at h <;> first | rfl | cases h
theorem idsS_flat {v : Value} (h : flat v = true) : idsS v = [] := by
  unfold flat at h
  split at h <;> first | rfl | cases h
theorem scal_flat {v : Value} (h : flat v = true) : scal v = true := by
  unfold flat at h
  split at h <;> first | rfl | cases h
theorem mpV_flat {m : Mp} {v : Value} (h : flat v = true) : mpV m v = v := by rw [mapV_scal (scal_flat h), mpS_flat h]
theorem idsV_flat {v : Value} (h : flat v = true) : idsV v = [] := by rw [idsV_scal (scal_flat h), idsS_flat h]

/-- what the machine's tables tell of a type -/
inductive TK where
  | bool | int (k : IntKind) | string | func | other
  | ptr (e : TypeId)
  | slice (e : TypeId)
  | array (n : Nat) (e : TypeId)
  | struct (fs : List (Nat × TypeId))
structure TI where
  kd : TK
  size : Nat
  bytes : Nat
  zero : Value

def tkOf : TypeDesc → TK
  | .bool => .bool
  | .int k => .int k
  | .string => .string
  | .pointer e => .ptr e
  | .slice e => .slice e
  | .array n e => .array n e
  | .struct fs => .struct (fs.toList.map fun f => (f.offset, f.type))
  | .func .. => .func
  | _ => .other
def tiOf (P : Program) (t : TypeId) : Option TI :=
  match P.info? t with
  | none => none
  | some i => match P.underlying t, i.zero with
    | some d, some z => some ⟨tkOf d, i.size, i.bytes, z⟩
    | _, _ => none

theorem tiOf_spec {P : Program} {t : TypeId} {x : TI} (h : tiOf P t = some x) : ∃ i d, P.info? t = some i ∧ P.underlying t = some d ∧ i.zero = some x.zero ∧ i.size = x.size ∧ i.bytes = x.bytes ∧ tkOf d = x.kd := by
  unfold tiOf at h
  split at h
  · cases h
  · rename_i i hi
    split at h
    · rename_i d z hd hz
      simp only [Option.some.injEq] at h
      subst h
      exact ⟨i, d, hi, hd, hz, rfl, rfl, rfl⟩
    · cases h

def TK.isAgg : TK → Bool
  | .array .. | .struct _ => true
  | _ => false

theorem tk_array {d : TypeDesc} {n e} (h : tkOf d = .array n e) : d = .array n e := by
  cases d <;> simp [tkOf] at h; obtain ⟨rfl, rfl⟩ := h; rfl
theorem tk_slice {d : TypeDesc} {e} (h : tkOf d = .slice e) : d = .slice e := by
  cases d <;> simp [tkOf] at h; subst h; rfl
theorem tk_int {d : TypeDesc} {k} (h : tkOf d = .int k) : d = .int k := by
  cases d <;> simp [tkOf] at h; subst h; rfl
theorem tk_string {d : TypeDesc} (h : tkOf d = .string) : d = .string := by
  cases d <;> simp [tkOf] at h; rfl
theorem tk_struct {d : TypeDesc} {fs} (h : tkOf d = .struct fs) : ∃ gs : Array Field, d = .struct gs ∧ fs = gs.toList.map fun f => (f.offset, f.type) := by
  cases d <;> simp [tkOf] at h
  exact ⟨_, rfl, h.symm⟩

section
variable {P : Program} (w : World)
theorem run_isAgg {t : TypeId} {x : TI} (h : tiOf P t = some x) : (isAgg t).run P w = .ok x.kd.isAgg w := by
  obtain ⟨i, d, hi, hd, _, _, _, hk⟩ := tiOf_spec h
  rw [← hk]
  simp only [isAgg, Sem.run_bind, run_underlying hd, Result.andThen_ok]
  cases d <;> rfl
theorem run_size {t : TypeId} {x : TI} (h : tiOf P t = some x) : (sizeOf t).run P w = .ok x.size w := by
  obtain ⟨i, d, hi, hd, _, hs, _, hk⟩ := tiOf_spec h
  simp [sizeOf, typeInfo, hi, hs]
theorem run_zero {t : TypeId} {x : TI} (h : tiOf P t = some x) : (zeroValue t).run P w = .ok x.zero w := by
  obtain ⟨i, d, hi, hd, hz, hs, _, hk⟩ := tiOf_spec h
  simp [zeroValue, typeInfo, hi, hz]
end

/-- an abstract row: its cells (as far as they are told), its element type; box: a variable; wr: nobody else holds its block, and it may be written -/
structure Row where
  cells : List Value
  elem : TypeId
  box : Bool
  wr : Bool

abbrev Heap := List (Option Row)

def boxCap (P : Program) (t : TypeId) : Nat :=
  match P.underlying t with
  | some (.array n _) => n
  | _ => 1

structure RepRow (P : Program) (ρ : Ren) (w : World) (l : Loc) (r : Row) : Prop where
  at_ : ∃ cur e fz, w.heap[l.blk]? = some (.cells cur e fz) ∧ (∀ j v, r.cells[j]? = some v → cur[l.off + j]? = some (mapS ρ v)) ∧
    (r.wr = true → l.off = 0 ∧ e = r.elem ∧ fz = (0, 0) ∧ (r.box = false → l.cap ≤ maxLen ∧ cur.size = l.cap * P.cellsOf r.elem) ∧ (r.box = true → l.cap = boxCap P r.elem)) ∧
    (r.box = false → r.cells.length ≤ l.cap * P.cellsOf r.elem)
  scal : ∀ v ∈ r.cells, scal v = true

structure Rep (P : Program) (ρ : Ren) (H : Heap) (w : World) : Prop where
  row : ∀ (i : Nat) (r : Row), H[i]? = some (some r) → RepRow P ρ w (ρ i) r
  sep : ∀ (i j : Nat) (r s : Row), H[i]? = some (some r) → H[j]? = some (some s) → r.wr = true → (s.wr = true ∨ s.cells ≠ []) → i ≠ j → (ρ i).blk ≠ (ρ j).blk
  cl : ∀ (i : Nat) (r : Row), H[i]? = some (some r) → ∀ v ∈ r.cells, ∀ k ∈ idsS v, k < H.length

/-- from one state of memory to a later one -/
structure Adv (P : Program) (ρ : Ren) (H : Heap) (w : World) (ρ' : Ren) (H' : Heap) (w' : World) : Prop where
  agree : ∀ i, i < H.length → ρ' i = ρ i
  len : H.length ≤ H'.length
  rep : Rep P ρ' H' w'
  os : w'.os = w.os
  tape : w'.tape = w.tape
  output : w'.output = w.output
  size : w.heap.size ≤ w'.heap.size
  frame : ∀ k, k < w.heap.size → (∀ (i : Nat) (r : Row), H[i]? = some (some r) → r.wr = true → (ρ i).blk ≠ k) → w'.heap[k]? = w.heap[k]?
  fresh : ∀ (i : Nat) (r : Row), H'[i]? = some (some r) → r.wr = true → w.heap.size ≤ (ρ' i).blk ∨ ∃ (j : Nat) (s : Row), H[j]? = some (some s) ∧ s.wr = true ∧ (ρ j).blk = (ρ' i).blk

theorem RepRow.lt {P : Program} {ρ : Ren} {w : World} {l : Loc} {r : Row} (h : RepRow P ρ w l r) : l.blk < w.heap.size := by
  obtain ⟨cur, e, fz, hb, _⟩ := h.at_
  exact (Array.getElem?_eq_some_iff.1 hb).1

theorem Adv.refl {P : Program} {ρ : Ren} {H : Heap} {w : World} (h : Rep P ρ H w) : Adv P ρ H w ρ H w :=
  ⟨fun _ _ => rfl, Nat.le_refl _, h, rfl, rfl, rfl, Nat.le_refl _, fun _ _ _ => rfl, fun i r hi hr => Or.inr ⟨i, r, hi, hr, rfl⟩⟩

theorem Adv.trans {P : Program} {ρ ρ' ρ'' : Ren} {H H' H'' : Heap} {w w' w'' : World} (a : Adv P ρ H w ρ' H' w') (b : Adv P ρ' H' w' ρ'' H'' w'') : Adv P ρ H w ρ'' H'' w'' := by
  refine ⟨fun i hi => (b.agree i (Nat.lt_of_lt_of_le hi a.len)).trans (a.agree i hi), Nat.le_trans a.len b.len, b.rep, b.os.trans a.os, b.tape.trans a.tape, b.output.trans a.output, Nat.le_trans a.size b.size, ?_, ?_⟩
  · intro k hk hn
    refine (b.frame k (Nat.lt_of_lt_of_le hk a.size) ?_).trans (a.frame k hk hn)
    intro i r hi hr
    rcases a.fresh i r hi hr with h | ⟨j, s, hj, hs, he⟩
    · omega
    · rw [← he]; exact hn j s hj hs
  · intro i r hi hr
    rcases b.fresh i r hi hr with h | ⟨j, s, hj, hs, he⟩
    · exact Or.inl (Nat.le_trans a.size h)
    · rcases a.fresh j s hj hs with h | ⟨j', s', hj', hs', he'⟩
      · exact Or.inl (he ▸ h)
      · exact Or.inr ⟨j', s', hj', hs', he'.trans he⟩

end Go.Am
