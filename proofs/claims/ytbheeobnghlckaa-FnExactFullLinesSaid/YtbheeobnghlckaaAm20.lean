/- The frame of all our walks, part 20: from a contract to a call out of any world. No condition. -/
import Derived.Test.YtbheeobnghlckaaAm19
set_option linter.unusedVariables false
set_option linter.unusedSimpArgs false
namespace Go.Am
open Go.RowKit

theorem rep_nil {P : Program} {ρ : Ren} {w : World} : Rep P ρ [] w :=
  ⟨fun i r h => by simp at h, fun i j r s h => by simp at h, fun i r h => by simp at h⟩

theorem Sound.top {P : Program} {f : FuncId} {args : List Value} {H H' : Heap} {v : Value} (hS : Sound P f args H v H') (hro : ∀ (i : Nat) (r : Row), H[i]? = some (some r) → r.wr = false) {ρ : Ren} {W : World} (hr : Rep P ρ H W)
    (ha : ∀ x ∈ args, ∀ i ∈ idsV x, i < H.length) (hv : fixV v = true) : Calls P f (args.map (mapV ρ)).toArray W fun e W' => e = .returned v ∧ Below W.heap.size W W' :=
  (hS.run ρ W hr ha).mono fun e W' h => by
    obtain ⟨ρ', rfl, ad, _⟩ := h
    refine ⟨by rw [mapV, (fixV_spec hv).2], ad.os, ad.tape, ad.output, ad.size, fun k hk => ad.frame k hk fun i r hi hw => ?_⟩
    rw [hro i r hi] at hw
    cases hw

theorem Sound.top0 {P : Program} {f : FuncId} {args : List Value} {H' : Heap} {v : Value} (hS : Sound P f args [] v H') (ha : (args.all fixV) = true) (hv : fixV v = true) (W : World) :
    Calls P f args.toArray W fun e W' => e = .returned v ∧ Below W.heap.size W W' := by
  have ha' := List.all_eq_true.1 ha
  have h := hS.top (ρ := fun _ => ⟨0, 0, 0⟩) (W := W) (fun i r h => by simp at h) rep_nil (fun x hx i hi => by rw [(fixV_spec (ha' x hx)).1] at hi; cases hi) hv
  have e : args.map (mapV fun _ => ⟨0, 0, 0⟩) = args := by
    conv => rhs; rw [← List.map_id args]
    exact List.map_congr_left fun x hx => (fixV_spec (ha' x hx)).2 _
  rwa [e] at h

end Go.Am
