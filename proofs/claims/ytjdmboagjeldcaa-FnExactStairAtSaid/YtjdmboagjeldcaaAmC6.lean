/- Part of the proof, merged out of smaller texts. No condition. -/
import Derived.Test.YtjdmboagjeldcaaAmC1
import Derived.WalkKit
import Derived.ProofKit
import Derived.OpenShut
import Derived.ChangeOld
import Derived.Below
import Derived.SizedLaws
import Derived.Test.YtjdmboagjeldcaaAmC2
set_option linter.unusedVariables false
set_option linter.unusedSimpArgs false
namespace Go.Am
open Go.RowKit Go.ChangeShapes Go.WideShapes Go.ChangeAt
section
variable {H : Type} {enc : TypeId × Value → H} {P : Program} {W : World} {base : Nat} {spare : Nat → Bool} {held : Bool}
end
theorem rep_ro {P : Program} {ρ : Ren} {W : World} {H : Heap} (hf : FlatH H) (h : ∀ (i : Nat) (r : Row), H[i]? = some (some r) → r.wr = false ∧ RepRow P ρ W (ρ i) r) : Rep P ρ H W :=
  ⟨fun i r hi => (h i r hi).2, (fun i j r s hi hj hw => by rw [(h i r hi).1] at hw; cases hw), hf.closed⟩
end Go.Am
namespace Go.Am
open Go.RowKit Go.ChangeShapes Go.WideShapes Go.ChangeAt
end Go.Am
namespace Go.Am
open Go.RowKit Go.ChangeShapes Go.WideShapes Go.ChangeAt
end Go.Am
set_option linter.unusedVariables false
set_option linter.unusedSimpArgs false
namespace Go.Am
open Go.RowKit Go.ChangeShapes Go.WideShapes Go.ChangeAt
end Go.Am
set_option linter.unusedVariables false
set_option linter.unusedSimpArgs false
namespace Go.Am
open Go.RowKit Go.ChangeShapes Go.WideShapes Go.ChangeAt
end Go.Am
set_option linter.unusedVariables false
set_option linter.unusedSimpArgs false
namespace Go.Am
open Go.RowKit
theorem repRow_flat {P : Program} {ρ ρ' : Ren} {W : World} {l : Loc} {r : Row} (hf : FlatRow r) (h : RepRow P ρ W l r) : RepRow P ρ' W l r := by
  obtain ⟨⟨cur, e, fz, hb, hc, hw, hn⟩, hs⟩ := h
  refine ⟨⟨cur, e, fz, hb, fun j v hv => ?_, hw, hn⟩, hs⟩
  have h1 := hc j v hv
  have h2 := (hf v (List.mem_of_getElem? hv)).2
  rw [mapS, h2] at h1
  rw [mapS, h2]; exact h1
def Made (P : Program) (W W' : World) (g cap : Nat) (r : Row) : Prop := W.heap.size ≤ g ∧ ∀ ρ, RepRow P ρ W' ⟨g, 0, cap⟩ r
theorem Sound.topF {P : Program} {f : FuncId} {args : List Value} {H : Heap} {v : Value} {r : Row} (hS : Sound P f args H v (H ++ [some r])) (hro : ∀ (i : Nat) (r : Row), H[i]? = some (some r) → r.wr = false) (hw : r.wr = true) (hf : FlatRow r) {ρ : Ren} {W : World} (hr : Rep P ρ H W)
    (ha : ∀ x ∈ args, ∀ i ∈ idsV x, i < H.length) : Calls P f (args.map (mapV ρ)).toArray W fun e W' => ∃ g cap, e = .returned (mapV (fun i => if i < H.length then ρ i else ⟨g, 0, cap⟩) v) ∧ Below W.heap.size W W' ∧ Made P W W' g cap r :=
  (hS.run ρ W hr ha).mono fun e W' h => by
    obtain ⟨ρ', rfl, ad, hv⟩ := h
    have hrow : (H ++ [some r])[H.length]? = some (some r) := by simp
    have h1 := ad.rep.row _ _ hrow
    have h2 := ad.fresh _ _ hrow hw
    obtain ⟨⟨cur, e, fz, hb, hc, hwr, hn⟩, hs⟩ := h1
    have hoff := (hwr hw).1
    have hloc : ρ' H.length = ⟨(ρ' H.length).blk, 0, (ρ' H.length).cap⟩ := by rw [← hoff]
    refine ⟨(ρ' H.length).blk, (ρ' H.length).cap, ?_, ⟨ad.os, ad.tape, ad.output, ad.size, fun k hk => ad.frame k hk fun i r hi hw => ?_⟩, ?_, fun ρ'' => ?_⟩
    · congr 1
      refine (mapV_agree fun i hi => ?_).symm
      have hi2 := hv i hi
      rw [List.length_append, List.length_singleton] at hi2
      by_cases hlt : i < H.length
      · rw [if_pos hlt]; exact (ad.agree i hlt).symm
      · rw [if_neg hlt]
        have : i = H.length := by omega
        subst this
        exact hloc.symm
    · rw [hro i r hi] at hw
      cases hw
    · rcases h2 with h | ⟨j, s, hj, hs, _⟩
      · exact h
      · rw [hro j s hj] at hs; cases hs
    · rw [← hloc]
      exact repRow_flat hf (ad.rep.row _ _ hrow)
theorem Sound.ofF {P : Program} {f : FuncId} {args : List Value} {v : Value} {r : Row} (hcan : Callable P f) (ha : (args.all fixV) = true) (hf : FlatRow r) (hw : r.wr = true) (hv : ∀ i ∈ idsV v, i < 1)
    (h : ∀ W, Calls P f args.toArray W fun e W' => ∃ g cap, e = .returned (mapV (fun _ => ⟨g, 0, cap⟩) v) ∧ Below W.heap.size W W' ∧ Made P W W' g cap r) : Sound P f args [] v [some r] := by
  refine ⟨hcan, fun ρ W hr _ => ?_⟩
  have ha' := List.all_eq_true.1 ha
  have e : args.map (mapV ρ) = args := by
    conv => rhs; rw [← List.map_id args]
    exact List.map_congr_left fun x hx => (fixV_spec (ha' x hx)).2 _
  rw [e]
  refine (h W).mono fun e W' hh => ?_
  obtain ⟨g, cap, rfl, bel, hg, hrow⟩ := hh
  refine ⟨fun _ => ⟨g, 0, cap⟩, rfl, ⟨fun i hi => absurd hi (by simp), by simp, ⟨fun i s hi => ?_, fun i j s t hi hj _ _ hij => ?_, fun i s hi u hu k hk => ?_⟩, bel.os, bel.tape, bel.output, bel.size, fun k hk _ => bel.block k hk, fun i s hi _ => Or.inl hg⟩, by simpa using hv⟩
  · cases i with
    | zero => simp at hi; subst hi; exact hrow _
    | succ i => simp at hi
  · exfalso
    cases i with
    | zero =>
      cases j with
      | zero => exact hij rfl
      | succ j => simp at hj
    | succ i => simp at hi
  · cases i with
    | zero =>
      simp at hi; subst hi
      rw [(hf u hu).1] at hk; cases hk
    | succ i => simp at hi
theorem Sound.of0 {P : Program} {f : FuncId} {args : List Value} {v : Value} (hcan : Callable P f) (ha : (args.all fixV) = true) (hv : fixV v = true)
    (h : ∀ W, Calls P f args.toArray W fun e W' => e = .returned v ∧ Below W.heap.size W W') : Sound P f args [] v [] := by
  refine ⟨hcan, fun ρ W hr _ => ?_⟩
  have ha' := List.all_eq_true.1 ha
  have e : args.map (mapV ρ) = args := by
    conv => rhs; rw [← List.map_id args]
    exact List.map_congr_left fun x hx => (fixV_spec (ha' x hx)).2 _
  rw [e]
  refine (h W).mono fun e W' hh => ?_
  obtain ⟨rfl, bel⟩ := hh
  refine ⟨ρ, by rw [mapV, (fixV_spec hv).2], ⟨fun i hi => rfl, by simp, rep_nil, bel.os, bel.tape, bel.output, bel.size, fun k hk _ => bel.block k hk, fun i s hi _ => by simp at hi⟩, fun i hi => ?_⟩
  rw [(fixV_spec hv).1] at hi
  cases hi
end Go.Am
