/- The frame of all our walks, part 2: what an operation does, in the abstract. No condition. -/
import Derived.Test.YtbheeobnghlckaaAm1
set_option linter.unusedVariables false
set_option linter.unusedSimpArgs false
namespace Go.Am
open Go.RowKit

abbrev Tm := List (Option Value)

def getT (T : Tm) (t : Nat) : Option Value :=
  match T[t]? with
  | some (some v) => some v
  | _ => none

def evalO (T : Tm) : Operand → Option Value
  | .tmp t => getT T t
  | .const v => if flat v then some v else none
  | .func f => some (.func (.func f) #[] #[])
  | .global _ => none

structure RT (ρ : Ren) (n : Nat) (T : Tm) (a : Act) : Prop where
  size : a.tmps.size = T.length
  at_ : ∀ (t : Nat) (v : Value), T[t]? = some (some v) → a.tmps[t]? = some (mapV ρ v)
  cl : ∀ (t : Nat) (v : Value), T[t]? = some (some v) → ∀ i ∈ idsV v, i < n

theorem evalO_sound {ρ : Ren} {n : Nat} {T : Tm} {a : Act} (h : RT ρ n T a) {x : Operand} {v : Value} (hv : evalO T x = some v) :
    a.eval x = mapV ρ v ∧ ∀ i ∈ idsV v, i < n := by
  cases x with
  | tmp t =>
    simp only [evalO, getT] at hv
    split at hv
    · rename_i u hu
      simp only [Option.some.injEq] at hv
      subst hv
      have := h.at_ t u hu
      exact ⟨by simp [Act.eval, Array.getD_eq_getD_getElem?, this], h.cl t u hu⟩
    · cases hv
  | const u =>
    simp only [evalO] at hv
    split at hv
    · rename_i hf
      simp only [Option.some.injEq] at hv
      subst hv
      exact ⟨by rw [mapV, mpV_flat hf]; rfl, by simp [idsV_flat hf]⟩
    · cases hv
  | func f =>
    simp only [evalO, Option.some.injEq] at hv
    subst hv
    exact ⟨by simp [Act.eval, mapV, mpV, mpA, mpS], by simp [idsV, idsA, idsS]⟩
  | global g => simp [evalO] at hv

/-- a value that a captured variable's place may hold: no function, nothing of several cells -/
def pscal : Value → Bool
  | .agg _ | .tuple _ | .func .. => false
  | _ => true
theorem mapV_pscal {m : Mp} {v : Value} (h : pscal v = true) : mpV m v = mpP m v := by
  cases v <;> first | rfl | simp [pscal] at h
theorem idsV_pscal {v : Value} (h : pscal v = true) : idsV v = idsP v := by
  cases v <;> first | rfl | simp [pscal] at h

theorem cells_mapV {m : Mp} {v : Value} (h : v.cells.all scal = true) : (mpV m v).cells = v.cells.map (mpS m) := by
  cases v with
  | agg cs => rfl
  | tuple vs => simp [Value.cells, scal] at h
  | pointer a => cases a <;> simp [Value.cells, mpV, mpA, mpS, mpP]
  | slice a n c => cases a <;> simp [Value.cells, mpV, mpA, mpS, mpP]
  | _ => simp [Value.cells, mpV, mpA, mpS, mpP]
theorem ids_cells {v : Value} (h : v.cells.all scal = true) : ∀ c ∈ v.cells.toList, ∀ i ∈ idsS c, i ∈ idsV v := by
  cases v with
  | agg cs => intro c hc i hi; simp only [idsV, idsA, List.mem_flatMap]; exact ⟨c, hc, hi⟩
  | tuple vs => simp [Value.cells, scal] at h
  | _ => intro c hc i hi; simp [Value.cells] at hc; subst hc; simpa [idsV, idsA] using hi

/-- integers' operations -/
def evInt (op : BinOp) (k : IntKind) (a b : Int) : Option Value :=
  match op with
  | .add => some (.int k (k.wrap (a + b)))
  | .sub => some (.int k (k.wrap (a - b)))
  | .mul => some (.int k (k.wrap (a * b)))
  | .quo => if b = 0 then none else some (.int k (k.wrap (a.tdiv b)))
  | .rem => if b = 0 then none else some (.int k (a.tmod b))
  | .and => some (.int k (k.wrap (BitVec.ofInt k.bits a &&& BitVec.ofInt k.bits b).toNat))
  | .or => some (.int k (k.wrap (BitVec.ofInt k.bits a ||| BitVec.ofInt k.bits b).toNat))
  | .xor => some (.int k (k.wrap (BitVec.ofInt k.bits a ^^^ BitVec.ofInt k.bits b).toNat))
  | .andNot => some (.int k (k.wrap (BitVec.ofInt k.bits a &&& ~~~BitVec.ofInt k.bits b).toNat))
  | .eql => some (.bool (a == b))
  | .neq => some (.bool (a != b))
  | .lss => some (.bool (decide (a < b)))
  | .leq => some (.bool (decide (a ≤ b)))
  | .gtr => some (.bool (decide (a > b)))
  | .geq => some (.bool (decide (a ≥ b)))
  | _ => none

def evStr (op : BinOp) (x y : ByteArray) : Option Value :=
  match op with
  | .add => if x.size + y.size ≤ 9223372036854775807 then some (.string (x ++ y)) else none
  | .eql => some (.bool (x.toList == y.toList))
  | .neq => some (.bool (!(x.toList == y.toList)))
  | .lss => some (.bool (Op.bytesLess x.toList y.toList))
  | _ => none

/-- the cells of two values of whole numbers -/
def eqCells : List Value → List Value → Option Bool
  | [], [] => some true
  | .int k a :: x, .int k' b :: y => if k = k' then (eqCells x y).map fun r => (a == b) && r else none
  | _, _ => none

/-- a type of whole numbers alone, of so many cells -/
inductive FlatTy (P : Program) : Nat → TypeId → Nat → Prop
  | int {d : Nat} {t : TypeId} {k : IntKind} : P.underlying t = some (.int k) → FlatTy P (d + 1) t 1
  | array {d : Nat} {t e : TypeId} {n m : Nat} : P.underlying t = some (.array n e) → FlatTy P d e m → (P.info? e).map (·.size) = some m → FlatTy P (d + 1) t (n * m)
  | struct {d : Nat} {t : TypeId} {n : Nat} {fs : Array Field} {ms : List Nat} : P.underlying t = some (.struct fs) → P.stoodInHeld t = false → ms.length = fs.size →
      (∀ (i : Nat) (f : Field) (m : Nat), fs[i]? = some f → ms[i]? = some m → (f.name == "_") = false ∧ f.offset = (ms.take i).sum ∧ (P.info? f.type).map (·.size) = some m) →
      (∀ (i : Nat) (f : Field) (m : Nat), fs[i]? = some f → ms[i]? = some m → FlatTy P d f.type m) → n = ms.sum → FlatTy P (d + 1) t n

inductive Cls where
  | P | Q | N | S
  deriving DecidableEq

structure Ctx (P : Program) where
  flatN : TypeId → Option Nat
  flatOK : ∀ t n, flatN t = some n → FlatTy P 9 t n ∧ P.eqGuardType P.depth t = false ∧ ∀ k, P.underlying t ≠ some (.int k)
  cc : FuncId → Cls
  mixed : P.follows .mixedOrders = true

def isBoolTy (P : Program) (t : TypeId) : Bool :=
  match P.underlying t with
  | some .bool => true
  | _ => false

def evBin {P : Program} (C : Ctx P) (op : BinOp) (t : TypeId) (x y : Value) : Option Value :=
  match x, y with
  | .int k a, .int k' b =>
    match op with
    | .shl => if b < 0 then none else some (.int k (k.wrap (a * 2 ^ (min b.toNat k.bits))))
    | .shr => if b < 0 then none else some (.int k (a.fdiv (2 ^ (min b.toNat k.bits))))
    | _ => if k = k' then evInt op k a b else none
  | .string a, .string b => evStr op a b
  | .bool a, .bool b => if isBoolTy P t then (match op with
    | .eql => some (.bool (a == b))
    | .neq => some (.bool (!(a == b)))
    | _ => none) else none
  | .agg xs, .agg ys => if C.flatN t = some xs.toList.length then (match op with
      | .eql => (eqCells xs.toList ys.toList).map .bool
      | .neq => (eqCells xs.toList ys.toList).map fun b => .bool (!b)
      | _ => none)
    else none
  | _, _ => none

theorem evInt_sound {P : Program} {op : BinOp} {k : IntKind} {a b : Int} {v : Value} (h : evInt op k a b = some v) (t : TypeId) (w : World) :
    (binOp op t (.int k a) (.int k b)).run P w = .ok v w := by
  unfold evInt at h
  split at h <;> (try (split at h)) <;> first
    | (simp only [Option.some.injEq] at h; subst h; simp [binOp, Op.intArith, Op.intDiv, Op.intBits, Op.intCmp, *])
    | cases h

theorem evStr_sound {P : Program} {op : BinOp} {a b : ByteArray} {v : Value} (h : evStr op a b = some v) (t : TypeId) (w : World) :
    (binOp op t (.string a) (.string b)).run P w = .ok v w := by
  unfold evStr at h
  split at h
  · split at h
    · rename_i hs
      simp only [Option.some.injEq] at h
      subst h
      have : ¬ ((9223372036854775807 : Int) < (a.size : Int) + (b.size : Int)) := by omega
      simp [binOp, Op.stringOp, IntKind.max, IntKind.signed, IntKind.bits, this]
    · cases h
  all_goals first
    | (simp only [Option.some.injEq] at h; subst h; simp [binOp, Op.stringOp])
    | cases h

end Go.Am
