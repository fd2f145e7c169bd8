/- The frame of all our walks, part 21: which types are of whole numbers alone. No condition. -/
import Derived.Test.YtbheeobnghlckaaAm20
set_option linter.unusedVariables false
set_option linter.unusedSimpArgs false
namespace Go.Am
open Go.RowKit

def fieldsB (P : Program) (rec : TypeId → Option Nat) : List Field → Nat → Option (List Nat)
  | [], _ => some []
  | f :: r, off => match rec f.type, (P.info? f.type).map (·.size), fieldsB P rec r (off + ((rec f.type).getD 0)) with
    | some m, some m', some l => if m = m' ∧ (f.name == "_") = false ∧ f.offset = off then some (m :: l) else none
    | _, _, _ => none
def flatB (P : Program) : Nat → TypeId → Option Nat
  | 0, _ => none
  | d + 1, t => match P.underlying t with
    | some (.int _) => some 1
    | some (.array n e) => match flatB P d e, (P.info? e).map (·.size) with
      | some m, some m' => if m = m' then some (n * m) else none
      | _, _ => none
    | some (.struct fs) => if P.stoodInHeld t = false then (fieldsB P (flatB P d) fs.toList 0).map List.sum else none
    | _ => none

theorem fieldsB_spec {P : Program} {rec : TypeId → Option Nat} : ∀ {fs : List Field} {off : Nat} {ms : List Nat}, fieldsB P rec fs off = some ms → ms.length = fs.length ∧
    ∀ (i : Nat) (f : Field) (m : Nat), fs[i]? = some f → ms[i]? = some m → (f.name == "_") = false ∧ f.offset = off + (ms.take i).sum ∧ (P.info? f.type).map (·.size) = some m ∧ rec f.type = some m
  | [], off, ms, h => by simp [fieldsB] at h; subst h; simp
  | f :: r, off, ms, h => by
    simp only [fieldsB] at h
    split at h
    · rename_i m m' l h1 h2 h3
      split at h
      · rename_i hc
        simp only [Option.some.injEq] at h
        subst h
        rw [h1] at h3
        obtain ⟨hl, hs⟩ := fieldsB_spec h3
        refine ⟨by simp [hl], fun i g k hi hk => ?_⟩
        cases i with
        | zero =>
          simp only [List.getElem?_cons_zero, Option.some.injEq] at hi hk
          subst hi hk
          exact ⟨hc.2.1, by simp [hc.2.2], by rw [h2, hc.1], h1⟩
        | succ i =>
          simp only [List.getElem?_cons_succ] at hi hk
          obtain ⟨a, b, c, d⟩ := hs i g k hi hk
          refine ⟨a, ?_, c, d⟩
          rw [b]
          simp
          omega
      · cases h
    · cases h

theorem flatB_spec {P : Program} : ∀ {d : Nat} {t : TypeId} {n : Nat}, flatB P d t = some n → FlatTy P d t n
  | 0, t, n, h => by cases h
  | d + 1, t, n, h => by
    simp only [flatB] at h
    split at h
    · rename_i k hu
      simp only [Option.some.injEq] at h
      subst h
      exact .int hu
    · rename_i m e hu
      split at h
      · rename_i a b h1 h2
        split at h
        · rename_i hab
          simp only [Option.some.injEq] at h
          subst h hab
          exact .array hu (flatB_spec h1) h2
        · cases h
      · cases h
    · rename_i fs hu
      split at h
      · rename_i hs
        cases hf : fieldsB P (flatB P d) fs.toList 0 with
        | none => rw [hf] at h; cases h
        | some ms =>
          rw [hf] at h
          simp only [Option.map_some, Option.some.injEq] at h
          obtain ⟨hl, hsp⟩ := fieldsB_spec hf
          refine .struct hu hs (by simpa using hl) (fun i f m hi hm => ?_) (fun i f m hi hm => ?_) h.symm
          · obtain ⟨a, b, c, _⟩ := hsp i f m (by simpa using hi) hm
            exact ⟨a, by simpa using b, c⟩
          · obtain ⟨_, _, _, e⟩ := hsp i f m (by simpa using hi) hm
            exact flatB_spec e
      · cases h
    · cases h

def stdFlat (P : Program) (t : TypeId) : Option Nat :=
  match P.underlying t with
  | some (.int _) => none
  | _ => if P.eqGuardType P.depth t = false then flatB P 9 t else none
theorem stdFlat_ok (P : Program) (t : TypeId) (n : Nat) (h : stdFlat P t = some n) : FlatTy P 9 t n ∧ P.eqGuardType P.depth t = false ∧ ∀ k, P.underlying t ≠ some (.int k) := by
  unfold stdFlat at h
  split at h
  · cases h
  · rename_i hne
    split at h
    · rename_i hg
      exact ⟨flatB_spec h, hg, fun k hk => hne k hk⟩
    · cases h

def Ctx.std (P : Program) (cc : FuncId → Cls) (mixed : P.follows .mixedOrders = true) : Ctx P := ⟨stdFlat P, stdFlat_ok P, cc, mixed⟩

end Go.Am
