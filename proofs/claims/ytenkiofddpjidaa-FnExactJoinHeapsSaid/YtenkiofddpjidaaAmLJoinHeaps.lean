/- A law, whole: the walks, and the row. No condition. -/
import Derived.Test.YtenkiofddpjidaaAmKbJoinHeaps
import Derived.Test.YtenkiofddpjidaaAmR
import Derived.WalkKit
import Derived.ProofKit
import Derived.OpenShut
import Derived.ShutString
import Derived.ChangeOld
import Derived.Below
import Derived.SizedLaws
set_option linter.unusedVariables false
set_option linter.unusedSimpArgs false
namespace Go.Proofs.Ytenkiofddpjidaa
open Go.Am Go.RowKit
theorem lawJoinHeaps_ss (x1 y1 z1 : Int) (L1 : List A3) (x2 y2 z2 : Int) (L2 : List A3) (hm1 : L1.length ≤ 9223372036854775807) (hm2 : L2.length ≤ 9223372036854775807) : Sound Try.prog 8 [.agg #[vI x1, vI y1, vI z1, vS 0 L1.length], .agg #[vI x2, vI y2, vI z2, vS 1 L2.length]] [some ⟨a3s L1, 25, false, false⟩, some ⟨a3s L2, 25, false, false⟩] (.bool true) [some ⟨a3s L1, 25, false, false⟩, some ⟨a3s L2, 25, false, false⟩] := by
  by_cases h1 : L1.length ≤ 1048576
  · by_cases h2 : L1.length + L2.length ≤ 1048576
    · cases hv : alikeB x1 y1 z1 L1 x2 y2 z2 L2
      · exact lawJoinHeaps_no_ss x1 y1 z1 L1 x2 y2 z2 L2 (by first | omega | (simp; done) | (simp; omega)) hv
      · obtain ⟨X, Y, Z, rfl, rfl, rfl, rfl, rfl, rfl, hs, hL1, hL2⟩ := alike_cases hv
        exact lawJoinHeaps_yes_ss X Y Z L1 L2 _ hs hL1 hL2 rfl
    · exact lawJoinHeaps_bigB_ss x1 y1 z1 L1 x2 y2 z2 L2 h1 (by omega) hm1 hm2
  · exact lawJoinHeaps_bigA_ss x1 y1 z1 L1 x2 y2 z2 L2 (by omega) hm1 hm2

theorem lawJoinHeaps_sn (x1 y1 z1 : Int) (L1 : List A3) (x2 y2 z2 : Int) (hm1 : L1.length ≤ 9223372036854775807) : Sound Try.prog 8 [.agg #[vI x1, vI y1, vI z1, vS 0 L1.length], .agg #[vI x2, vI y2, vI z2, .slice none 0 0]] [some ⟨a3s L1, 25, false, false⟩] (.bool true) [some ⟨a3s L1, 25, false, false⟩] := by
  by_cases h1 : L1.length ≤ 1048576
  · cases hv : alikeB x1 y1 z1 L1 x2 y2 z2 ([] : List A3)
    · exact lawJoinHeaps_no_sn x1 y1 z1 L1 x2 y2 z2 (by first | omega | (simp; done) | (simp; omega)) hv
    · obtain ⟨X, Y, Z, rfl, rfl, rfl, rfl, rfl, rfl, hs, hL1, hL2⟩ := alike_cases hv
      exact lawJoinHeaps_yes_sn X Y Z L1 _ hs hL1 rfl
  · exact lawJoinHeaps_bigA_sn x1 y1 z1 L1 x2 y2 z2 (by omega) hm1

theorem lawJoinHeaps_ns (x1 y1 z1 : Int) (x2 y2 z2 : Int) (L2 : List A3) (hm2 : L2.length ≤ 9223372036854775807) : Sound Try.prog 8 [.agg #[vI x1, vI y1, vI z1, .slice none 0 0], .agg #[vI x2, vI y2, vI z2, vS 0 L2.length]] [some ⟨a3s L2, 25, false, false⟩] (.bool true) [some ⟨a3s L2, 25, false, false⟩] := by
  by_cases h2 : L2.length ≤ 1048576
  · cases hv : alikeB x1 y1 z1 ([] : List A3) x2 y2 z2 L2
    · exact lawJoinHeaps_no_ns x1 y1 z1 x2 y2 z2 L2 (by first | omega | (simp; done) | (simp; omega)) hv
    · obtain ⟨X, Y, Z, rfl, rfl, rfl, rfl, rfl, rfl, hs, hL1, hL2⟩ := alike_cases hv
      exact lawJoinHeaps_yes_ns X Y Z L2 _ hs hL2 rfl
  · exact lawJoinHeaps_bigB_ns x1 y1 z1 x2 y2 z2 L2 (by omega) hm2

theorem lawJoinHeaps_nn (x1 y1 z1 : Int) (x2 y2 z2 : Int)  : Sound Try.prog 8 [.agg #[vI x1, vI y1, vI z1, .slice none 0 0], .agg #[vI x2, vI y2, vI z2, .slice none 0 0]] [] (.bool true) [] := by
  cases hv : alikeB x1 y1 z1 ([] : List A3) x2 y2 z2 ([] : List A3)
  · exact lawJoinHeaps_no_nn x1 y1 z1 x2 y2 z2 (by first | omega | (simp; done) | (simp; omega)) hv
  · obtain ⟨X, Y, Z, rfl, rfl, rfl, rfl, rfl, rfl, hs, hL1, hL2⟩ := alike_cases hv
    exact lawJoinHeaps_yes_nn X Y Z _ hs rfl
end Go.Proofs.Ytenkiofddpjidaa
namespace Go.Proofs.Ytenkiofddpjidaa.fnExactJoinHeaps
open Go.Am Go.ChangeShapes Go.WideShapes Go.ChangeAt Go.RowKit
theorem own : ownKnob Try.prog.godebug = none := by kernel_rfl
theorem laidOut : laidOutB Try.prog = true := by kernel_rfl
set_option maxRecDepth 100000 in
theorem lifted (os : Os) (started : os.Started) (H : Type) (enc : TypeId × Value → H) :
    ReturnsInHanded {} Try.checked os 8 .any (Rows.fnExactJoinHeapsSpec.pre6 enc Try.prog Try.f8 Rows.fnExactJoinHeapsRow.domain false) (Rows.fnExactJoinHeapsSpec.post enc Try.prog Try.f8 false true false false) := by
  refine returnsInHanded_of_change_sized (C := Try.checked) own started (by kernel_rfl) Try.func8
    (ChangeSpec.witness6 (enc := enc) (C := Try.checked) false ⟨#[], #[.agg #[.int .i64 0, .int .i64 0, .int .i64 0, .slice none 0 0], .agg #[.int .i64 0, .int .i64 0, .int .i64 0, .slice none 0 0]], []⟩ 8 (by kernel_rfl) (by kernel_rfl) (by kernel_rfl) (by kernel_rfl)) ?_
  intro W base args ds gs before hval0 hW hcnd hsz0 _
  have hval : ∀ (j : Nat) t v, Try.f8.params[j]? = some t → args[j]? = some v → Value.okWide Try.prog W .any base t v := hval0
  have hW' := hW
  obtain ⟨p, q, hA0, hV, rfl, hfz, hnd⟩ := hW
  have hA : DataW.TrodAll enc Try.prog W 0 (fun _ => true) true Try.f8.params.toList args.toList ds p := hA0
  rw [Try.params8] at hA hval
  obtain ⟨v0, vs0, d0, ds0, p0, q0, hargs, rfl, rfl, h0, r0⟩ := trodAll_cons hA
  obtain ⟨v1, vs1, d1, ds1, p1, q1, rfl, rfl, rfl, h1, r1⟩ := trodAll_cons r0
  obtain ⟨rfl, rfl, rfl⟩ := trodAll_nil r1
  obtain rfl : args = #[v0, v1] := by cases args; simp_all
  obtain ⟨rfl, rfl⟩ := trodVars_none hV
  have hlt0 : ∀ x ∈ p0, x.block < W.heap.size := fun x hx => by simpa using hW'.lt x (by simp [hx])
  have hlt1 : ∀ x ∈ p1, x.block < W.heap.size := fun x hx => by simpa using hW'.lt x (by simp [hx])
  have fin : (∃ Q : Prop, Q) ∧ Calls Try.prog 8 #[v0, v1] W (fun e W' => e = .returned (.bool true) ∧ Below W.heap.size W W') := by
    refine ⟨⟨True, trivial⟩, ?_⟩
    obtain ⟨x0, y0, z0, wx0, wy0, wz0, hor0⟩ := open_heap (b0 := base) Try.underlying24 ⟨rfl, rfl⟩ ⟨rfl, rfl⟩ ⟨rfl, rfl⟩ ⟨rfl, rfl⟩ Try.underlying22 Try.underlying25 Try.underlying3 (by kernel_rfl) (by kernel_rfl) (by kernel_rfl) (by kernel_rfl) (by kernel_rfl) (hval 0 24 v0 rfl rfl) h0
    obtain ⟨x1, y1, z1, wx1, wy1, wz1, hor1⟩ := open_heap (b0 := base) Try.underlying24 ⟨rfl, rfl⟩ ⟨rfl, rfl⟩ ⟨rfl, rfl⟩ ⟨rfl, rfl⟩ Try.underlying22 Try.underlying25 Try.underlying3 (by kernel_rfl) (by kernel_rfl) (by kernel_rfl) (by kernel_rfl) (by kernel_rfl) (hval 1 24 v1 rfl rfl) h1
    rcases hor0 with rfl | ⟨ad0, cap0, L0, rfl, hl0, hm0, hsp0, hhas0, hcell0⟩
    · rcases hor1 with rfl | ⟨ad1, cap1, L1, rfl, hl1, hm1, hsp1, hhas1, hcell1⟩
      · have hS : Sound Try.prog 8 [.agg #[.int .i64 x0, .int .i64 y0, .int .i64 z0, .slice none 0 0], .agg #[.int .i64 x1, .int .i64 y1, .int .i64 z1, .slice none 0 0]] [] (.bool true) [] := lawJoinHeaps_nn x0 y0 z0 x1 y1 z1
        exact hS.top0 rfl rfl W
      · have hS : Sound Try.prog 8 [.agg #[.int .i64 x0, .int .i64 y0, .int .i64 z0, .slice none 0 0], .agg #[.int .i64 x1, .int .i64 y1, .int .i64 z1, .slice (some ⟨0, 0, none⟩) L1.length 0]] [some ⟨a3s L1, 25, false, false⟩] (.bool true) [some ⟨a3s L1, 25, false, false⟩] := lawJoinHeaps_ns x0 y0 z0 x1 y1 z1 L1 (by have : maxLen = 9223372036854775807 := rfl; omega)
        have hrep := rep_one (P := Try.prog) (b0 := base) (ta := 25) (by kernel_rfl) hhas1 (by rw [Try.underlying25]; simp) hcell1 hl1
        have h := hS.top (fun i r hi => by cases i with
          | zero => simp at hi; subst hi; rfl
          | succ i => simp at hi) hrep (fun x hx i hi => by
          simp at hx
          rcases hx with rfl | rfl <;> simp [idsV, idsA, idsS, idsP] at hi
          simp [hi]) rfl
        obtain ⟨blk1, off1, spot1⟩ := ad1
        simp only at hsp1
        subst hsp1
        simpa [mapV, mpV, mpA, mpS, mpP, toReal] using h
    · rcases hor1 with rfl | ⟨ad1, cap1, L1, rfl, hl1, hm1, hsp1, hhas1, hcell1⟩
      · have hS : Sound Try.prog 8 [.agg #[.int .i64 x0, .int .i64 y0, .int .i64 z0, .slice (some ⟨0, 0, none⟩) L0.length 0], .agg #[.int .i64 x1, .int .i64 y1, .int .i64 z1, .slice none 0 0]] [some ⟨a3s L0, 25, false, false⟩] (.bool true) [some ⟨a3s L0, 25, false, false⟩] := lawJoinHeaps_sn x0 y0 z0 L0 x1 y1 z1 (by have : maxLen = 9223372036854775807 := rfl; omega)
        have hrep := rep_one (P := Try.prog) (b0 := base) (ta := 25) (by kernel_rfl) hhas0 (by rw [Try.underlying25]; simp) hcell0 hl0
        have h := hS.top (fun i r hi => by cases i with
          | zero => simp at hi; subst hi; rfl
          | succ i => simp at hi) hrep (fun x hx i hi => by
          simp at hx
          rcases hx with rfl | rfl <;> simp [idsV, idsA, idsS, idsP] at hi
          simp [hi]) rfl
        obtain ⟨blk0, off0, spot0⟩ := ad0
        simp only at hsp0
        subst hsp0
        simpa [mapV, mpV, mpA, mpS, mpP, toReal] using h
      · have hS : Sound Try.prog 8 [.agg #[.int .i64 x0, .int .i64 y0, .int .i64 z0, .slice (some ⟨0, 0, none⟩) L0.length 0], .agg #[.int .i64 x1, .int .i64 y1, .int .i64 z1, .slice (some ⟨1, 0, none⟩) L1.length 0]] [some ⟨a3s L0, 25, false, false⟩, some ⟨a3s L1, 25, false, false⟩] (.bool true) [some ⟨a3s L0, 25, false, false⟩, some ⟨a3s L1, 25, false, false⟩] := lawJoinHeaps_ss x0 y0 z0 L0 x1 y1 z1 L1 (by have : maxLen = 9223372036854775807 := rfl; omega) (by have : maxLen = 9223372036854775807 := rfl; omega)
        have hrep := rep_two (P := Try.prog) (b0 := base) (ta := 25) (by kernel_rfl) (by rw [Try.underlying25]; simp) hhas0 hcell0 hl0 hhas1 hcell1 hl1
        have h := hS.top (fun i r hi => by
          match i, hi with
          | 0, hi => simp at hi; subst hi; rfl
          | 1, hi => simp at hi; subst hi; rfl
          | i + 2, hi => simp at hi) hrep (fun x hx i hi => by
          simp at hx
          rcases hx with rfl | rfl <;> simp [idsV, idsA, idsS, idsP] at hi
          all_goals simp [hi]) rfl
        obtain ⟨blk0, off0, spot0⟩ := ad0
        simp only at hsp0
        subst hsp0
        obtain ⟨blk1, off1, spot1⟩ := ad1
        simp only at hsp1
        subst hsp1
        simpa [mapV, mpV, mpA, mpS, mpP, toReal] using h
  clear hA0 hval0 hsz0
  refine fin.2.mono fun e W' ⟨he, bel⟩ => ?_
  subst he
  exact ⟨_, rfl, _, _, _, [], _, [], hW', trodAll_mk1 (shut_bool Try.underlying4 _), (trodAll_cons_mk (Below.trod laidOut (by kernel_rfl) (of_decide_eq_true (by kernel_rfl)) h0 bel hlt0) (trodAll_cons_mk (Below.trod laidOut (by kernel_rfl) (of_decide_eq_true (by kernel_rfl)) h1 bel hlt1) trodAll_mk0)), rfl, bel.frame _, fun h => by cases h⟩
theorem over : Rows.fnExactJoinHeapsRow.holds Try.pinned (OpenSpec.ofChange Rows.fnExactJoinHeapsSpec) :=
  OpenClaim.holds_of_wide 8 Try.f8 rfl rfl rfl rfl rfl rfl rfl ⟨rfl, rfl, rfl, rfl, rfl⟩ rfl rfl rfl rfl rfl (by kernel_rfl) Try.func8 (by kernel_rfl)
    (of_decide_eq_true (by kernel_rfl)) (by unfold Func.isWrapper; first | (rw [if_pos (by decide +kernel)]; kernel_rfl) | (rw [if_neg (by decide +kernel)]; exact ⟨rfl, rfl⟩))
    (fun os started H enc _ => lifted os started H enc)
end Go.Proofs.Ytenkiofddpjidaa.fnExactJoinHeaps
namespace Go.Proofs.Ytenkiofddpjidaa
/-- The row, under a short name, for the claim. -/
theorem fnExactJoinHeaps_holds : Rows.FnExactJoinHeapsSaid := fnExactJoinHeaps.over
#print axioms fnExactJoinHeaps_holds
end Go.Proofs.Ytenkiofddpjidaa
