import Derived.Test.YtbheeobnghlckaaAmC6
import Derived.Test.YtbheeobnghlckaaAmC7
import Derived.WalkKit
import Derived.ProofKit
import Derived.OpenShut
import Derived.ShutString
import Derived.ChangeOld
import Derived.Below
import Derived.SizedLaws
set_option linter.unusedVariables false
set_option linter.unusedSimpArgs false
namespace Go.Proofs.Ytbheeobnghlckaa
open Go.Am Go.RowKit
theorem lawMirrorShadow_sss (x : Int) (y : Int) (z : Int) (A : List Int) (B : List Int) (C : List Int) (k : Int) (hmA : A.length ≤ 9223372036854775807) (hmB : B.length ≤ 9223372036854775807) (hmC : C.length ≤ 9223372036854775807) : Sound Try.prog 12 [.agg #[vI x, vI y, vI z, vS 0 A.length, vS 1 B.length, vS 2 C.length], vI k] [nR A, nR B, nR C] (.bool true) [nR A, nR B, nR C] := by
 by_cases hlA : A.length ≤ 1048576
 ·
  by_cases hlB : A.length + B.length ≤ 1048576
  ·
   by_cases hlC : A.length + B.length + C.length ≤ 1048576
   ·
    cases hb : mirB x y z A B C k
    ·
     exact lawMirrorShadow_no_sss x y z A B C k hlC hb
    ·
     obtain ⟨X, Y, Z, rfl, rfl, rfl, hs, hq, hd⟩ := mirB_true hb
     rcases hd with rfl | rfl | rfl
     ·
      exact lawMirrorShadow_d0_sss X Y Z A B C _ _ _ hlC hs hq rfl rfl rfl
     ·
      exact lawMirrorShadow_d1_sss X Y Z A B C _ _ _ hlC hs hq rfl rfl rfl
     ·
      exact lawMirrorShadow_d2_sss X Y Z A B C _ _ _ hlC hs hq rfl rfl rfl
   ·
    exact lawMirrorShadow_bigC_sss x y z A B C k (by omega) (by omega) hmC
  ·
   exact lawMirrorShadow_bigB_sss x y z A B C k (by omega) (by omega) hmB
 ·
  exact lawMirrorShadow_bigA_sss x y z A B C k (by omega) hmA
theorem lawMirrorShadow_ssn (x : Int) (y : Int) (z : Int) (A : List Int) (B : List Int) (k : Int) (hmA : A.length ≤ 9223372036854775807) (hmB : B.length ≤ 9223372036854775807) : Sound Try.prog 12 [.agg #[vI x, vI y, vI z, vS 0 A.length, vS 1 B.length, .slice none 0 0], vI k] [nR A, nR B] (.bool true) [nR A, nR B] := by
 by_cases hlA : A.length ≤ 1048576
 ·
  by_cases hlB : A.length + B.length ≤ 1048576
  ·
   exact lawMirrorShadow_no_ssn x y z A B k hlB (mirB_len (Or.inr (Or.inr rfl)))
  ·
   exact lawMirrorShadow_bigB_ssn x y z A B k (by omega) (by omega) hmB
 ·
  exact lawMirrorShadow_bigA_ssn x y z A B k (by omega) hmA
theorem lawMirrorShadow_sns (x : Int) (y : Int) (z : Int) (A : List Int) (C : List Int) (k : Int) (hmA : A.length ≤ 9223372036854775807) (hmC : C.length ≤ 9223372036854775807) : Sound Try.prog 12 [.agg #[vI x, vI y, vI z, vS 0 A.length, .slice none 0 0, vS 1 C.length], vI k] [nR A, nR C] (.bool true) [nR A, nR C] := by
 by_cases hlA : A.length ≤ 1048576
 ·
  by_cases hlC : A.length + C.length ≤ 1048576
  ·
   exact lawMirrorShadow_no_sns x y z A C k hlC (mirB_len (Or.inr (Or.inl rfl)))
  ·
   exact lawMirrorShadow_bigC_sns x y z A C k (by omega) (by omega) hmC
 ·
  exact lawMirrorShadow_bigA_sns x y z A C k (by omega) hmA
theorem lawMirrorShadow_snn (x : Int) (y : Int) (z : Int) (A : List Int) (k : Int) (hmA : A.length ≤ 9223372036854775807) : Sound Try.prog 12 [.agg #[vI x, vI y, vI z, vS 0 A.length, .slice none 0 0, .slice none 0 0], vI k] [nR A] (.bool true) [nR A] := by
 by_cases hlA : A.length ≤ 1048576
 ·
  exact lawMirrorShadow_no_snn x y z A k hlA (mirB_len (Or.inr (Or.inl rfl)))
 ·
  exact lawMirrorShadow_bigA_snn x y z A k (by omega) hmA
theorem lawMirrorShadow_nss (x : Int) (y : Int) (z : Int) (B : List Int) (C : List Int) (k : Int) (hmB : B.length ≤ 9223372036854775807) (hmC : C.length ≤ 9223372036854775807) : Sound Try.prog 12 [.agg #[vI x, vI y, vI z, .slice none 0 0, vS 0 B.length, vS 1 C.length], vI k] [nR B, nR C] (.bool true) [nR B, nR C] := by
 by_cases hlB : B.length ≤ 1048576
 ·
  by_cases hlC : B.length + C.length ≤ 1048576
  ·
   exact lawMirrorShadow_no_nss x y z B C k hlC (mirB_len (Or.inl rfl))
  ·
   exact lawMirrorShadow_bigC_nss x y z B C k (by omega) (by omega) hmC
 ·
  exact lawMirrorShadow_bigB_nss x y z B C k (by omega) hmB
theorem lawMirrorShadow_nsn (x : Int) (y : Int) (z : Int) (B : List Int) (k : Int) (hmB : B.length ≤ 9223372036854775807) : Sound Try.prog 12 [.agg #[vI x, vI y, vI z, .slice none 0 0, vS 0 B.length, .slice none 0 0], vI k] [nR B] (.bool true) [nR B] := by
 by_cases hlB : B.length ≤ 1048576
 ·
  exact lawMirrorShadow_no_nsn x y z B k hlB (mirB_len (Or.inl rfl))
 ·
  exact lawMirrorShadow_bigB_nsn x y z B k (by omega) hmB
theorem lawMirrorShadow_nns (x : Int) (y : Int) (z : Int) (C : List Int) (k : Int) (hmC : C.length ≤ 9223372036854775807) : Sound Try.prog 12 [.agg #[vI x, vI y, vI z, .slice none 0 0, .slice none 0 0, vS 0 C.length], vI k] [nR C] (.bool true) [nR C] := by
 by_cases hlC : C.length ≤ 1048576
 ·
  exact lawMirrorShadow_no_nns x y z C k hlC (mirB_len (Or.inl rfl))
 ·
  exact lawMirrorShadow_bigC_nns x y z C k (by omega) hmC
theorem lawMirrorShadow_nnn (x : Int) (y : Int) (z : Int) (k : Int)  : Sound Try.prog 12 [.agg #[vI x, vI y, vI z, .slice none 0 0, .slice none 0 0, .slice none 0 0], vI k] [] (.bool true) [] := by
 exact lawMirrorShadow_no_nnn x y z k (mirB_len (Or.inl rfl))
end Go.Proofs.Ytbheeobnghlckaa
namespace Go.Proofs.Ytbheeobnghlckaa.fnExactMirrorShadow
open Go.Am Go.ChangeShapes Go.WideShapes Go.ChangeAt Go.RowKit
theorem own : ownKnob Try.prog.godebug = none := by kernel_rfl
theorem laidOut : laidOutB Try.prog = true := by kernel_rfl
set_option maxRecDepth 100000 in
theorem lifted (os : Os) (started : os.Started) (H : Type) (enc : TypeId × Value → H) :
  ReturnsInHanded {} Try.checked os 12 .any (Rows.fnExactMirrorShadowSpec.pre6 enc Try.prog Try.f12 Rows.fnExactMirrorShadowRow.domain false) (Rows.fnExactMirrorShadowSpec.post enc Try.prog Try.f12 false true false false) := by
 refine returnsInHanded_of_change_sized (C := Try.checked) own started (by kernel_rfl) Try.func12
  (ChangeSpec.witness6 (enc := enc) (C := Try.checked) false ⟨#[], #[.agg #[.int .i64 0, .int .i64 0, .int .i64 0, .slice none 0 0, .slice none 0 0, .slice none 0 0], .int .i64 0], []⟩ 8 (by kernel_rfl) (by kernel_rfl) (by kernel_rfl) (by kernel_rfl)) ?_
 intro W base args ds gs before hval0 hW hcnd hsz0 _
 have hval : ∀ (j : Nat) t v, Try.f12.params[j]? = some t → args[j]? = some v → Value.okWide Try.prog W .any base t v := hval0
 have hW' := hW
 obtain ⟨p, q, hA0, hV, rfl, hfz, hnd⟩ := hW
 have hA : DataW.TrodAll enc Try.prog W 0 (fun _ => true) true Try.f12.params.toList args.toList ds p := hA0
 rw [Try.params12] at hA hval
 obtain ⟨v0, vs0, d0, ds0, p0, q0, hargs, rfl, rfl, h0, r0⟩ := trodAll_cons hA
 obtain ⟨v1, vs1, d1, ds1, p1, q1, rfl, rfl, rfl, h1, r1⟩ := trodAll_cons r0
 obtain ⟨rfl, rfl, rfl⟩ := trodAll_nil r1
 obtain rfl : args = #[v0, v1] := by cases args; simp_all
 obtain ⟨rfl, rfl⟩ := trodVars_none hV
 have hlt0 : ∀ x ∈ p0, x.block < W.heap.size := fun x hx => by simpa using hW'.lt x (by simp [hx])
 have hlt1 : ∀ x ∈ p1, x.block < W.heap.size := fun x hx => by simpa using hW'.lt x (by simp [hx])
 have fin : (∃ Q : Prop, Q) ∧ Calls Try.prog 12 #[v0, v1] W (fun e W' => e = .returned (.bool true) ∧ Below W.heap.size W W') := by
  refine ⟨⟨True, trivial⟩, ?_⟩
  obtain ⟨x, y, z, uA, uB, uC, rfl, wx, wy, wz, hsA, hsB, hsC⟩ := isShadow (b0 := base) Try.underlying24 ⟨rfl, rfl⟩ ⟨rfl, rfl⟩ ⟨rfl, rfl⟩ ⟨rfl, rfl⟩ ⟨rfl, rfl⟩ ⟨rfl, rfl⟩ Try.underlying22 Try.underlying3 (by kernel_rfl) (by kernel_rfl) (by kernel_rfl) (by kernel_rfl) (hval 0 24 v0 rfl rfl) h0
  obtain ⟨k, rfl, _, _, wk⟩ := open_int Try.underlying3 (hval 1 3 v1 rfl rfl) h1
  rcases hsA with rfl | ⟨adA, capA, A, rfl, hmA, hwA, hrA⟩
  ·
   rcases hsB with rfl | ⟨adB, capB, B, rfl, hmB, hwB, hrB⟩
   ·
    rcases hsC with rfl | ⟨adC, capC, C, rfl, hmC, hwC, hrC⟩
    ·
     have hS : Sound Try.prog 12 [.agg #[vI x, vI y, vI z, .slice none 0 0, .slice none 0 0, .slice none 0 0], vI k] [] (.bool true) [] := lawMirrorShadow_nnn x y z k
     exact hS.top0 rfl rfl W
    ·
     have hS : Sound Try.prog 12 [.agg #[vI x, vI y, vI z, .slice none 0 0, .slice none 0 0, vS 0 C.length], vI k] [nR C] (.bool true) [nR C] := lawMirrorShadow_nns x y z C k hmC
     have h := Sound.topL (W := W) [(adC, capC, ⟨nums C, 3, false, false⟩)] hS (fun p hp => by
      simp only [List.mem_cons, List.not_mem_nil, or_false] at hp
      rcases hp with rfl
      ·
       exact hrC) (fun x hx i hi => by
      simp only [List.mem_cons, List.not_mem_nil, or_false] at hx
      rcases hx with rfl | rfl <;> simp [idsV, idsA, idsS, idsP, vI, vN, vS] at hi
      all_goals simp; omega) rfl
     have hspC := hrC.1
     obtain ⟨blkC, offC, spotC⟩ := adC
     simp only at hspC
     subst hspC
     simpa [mapV, mpV, mpA, mpS, mpP, toReal, locsOf, vI, vN, vS] using h
   ·
    rcases hsC with rfl | ⟨adC, capC, C, rfl, hmC, hwC, hrC⟩
    ·
     have hS : Sound Try.prog 12 [.agg #[vI x, vI y, vI z, .slice none 0 0, vS 0 B.length, .slice none 0 0], vI k] [nR B] (.bool true) [nR B] := lawMirrorShadow_nsn x y z B k hmB
     have h := Sound.topL (W := W) [(adB, capB, ⟨nums B, 3, false, false⟩)] hS (fun p hp => by
      simp only [List.mem_cons, List.not_mem_nil, or_false] at hp
      rcases hp with rfl
      ·
       exact hrB) (fun x hx i hi => by
      simp only [List.mem_cons, List.not_mem_nil, or_false] at hx
      rcases hx with rfl | rfl <;> simp [idsV, idsA, idsS, idsP, vI, vN, vS] at hi
      all_goals simp; omega) rfl
     have hspB := hrB.1
     obtain ⟨blkB, offB, spotB⟩ := adB
     simp only at hspB
     subst hspB
     simpa [mapV, mpV, mpA, mpS, mpP, toReal, locsOf, vI, vN, vS] using h
    ·
     have hS : Sound Try.prog 12 [.agg #[vI x, vI y, vI z, .slice none 0 0, vS 0 B.length, vS 1 C.length], vI k] [nR B, nR C] (.bool true) [nR B, nR C] := lawMirrorShadow_nss x y z B C k hmB hmC
     have h := Sound.topL (W := W) [(adB, capB, ⟨nums B, 3, false, false⟩), (adC, capC, ⟨nums C, 3, false, false⟩)] hS (fun p hp => by
      simp only [List.mem_cons, List.not_mem_nil, or_false] at hp
      rcases hp with rfl | rfl
      ·
       exact hrB
      ·
       exact hrC) (fun x hx i hi => by
      simp only [List.mem_cons, List.not_mem_nil, or_false] at hx
      rcases hx with rfl | rfl <;> simp [idsV, idsA, idsS, idsP, vI, vN, vS] at hi
      all_goals simp; omega) rfl
     have hspB := hrB.1
     obtain ⟨blkB, offB, spotB⟩ := adB
     simp only at hspB
     subst hspB
     have hspC := hrC.1
     obtain ⟨blkC, offC, spotC⟩ := adC
     simp only at hspC
     subst hspC
     simpa [mapV, mpV, mpA, mpS, mpP, toReal, locsOf, vI, vN, vS] using h
  ·
   rcases hsB with rfl | ⟨adB, capB, B, rfl, hmB, hwB, hrB⟩
   ·
    rcases hsC with rfl | ⟨adC, capC, C, rfl, hmC, hwC, hrC⟩
    ·
     have hS : Sound Try.prog 12 [.agg #[vI x, vI y, vI z, vS 0 A.length, .slice none 0 0, .slice none 0 0], vI k] [nR A] (.bool true) [nR A] := lawMirrorShadow_snn x y z A k hmA
     have h := Sound.topL (W := W) [(adA, capA, ⟨nums A, 3, false, false⟩)] hS (fun p hp => by
      simp only [List.mem_cons, List.not_mem_nil, or_false] at hp
      rcases hp with rfl
      ·
       exact hrA) (fun x hx i hi => by
      simp only [List.mem_cons, List.not_mem_nil, or_false] at hx
      rcases hx with rfl | rfl <;> simp [idsV, idsA, idsS, idsP, vI, vN, vS] at hi
      all_goals simp; omega) rfl
     have hspA := hrA.1
     obtain ⟨blkA, offA, spotA⟩ := adA
     simp only at hspA
     subst hspA
     simpa [mapV, mpV, mpA, mpS, mpP, toReal, locsOf, vI, vN, vS] using h
    ·
     have hS : Sound Try.prog 12 [.agg #[vI x, vI y, vI z, vS 0 A.length, .slice none 0 0, vS 1 C.length], vI k] [nR A, nR C] (.bool true) [nR A, nR C] := lawMirrorShadow_sns x y z A C k hmA hmC
     have h := Sound.topL (W := W) [(adA, capA, ⟨nums A, 3, false, false⟩), (adC, capC, ⟨nums C, 3, false, false⟩)] hS (fun p hp => by
      simp only [List.mem_cons, List.not_mem_nil, or_false] at hp
      rcases hp with rfl | rfl
      ·
       exact hrA
      ·
       exact hrC) (fun x hx i hi => by
      simp only [List.mem_cons, List.not_mem_nil, or_false] at hx
      rcases hx with rfl | rfl <;> simp [idsV, idsA, idsS, idsP, vI, vN, vS] at hi
      all_goals simp; omega) rfl
     have hspA := hrA.1
     obtain ⟨blkA, offA, spotA⟩ := adA
     simp only at hspA
     subst hspA
     have hspC := hrC.1
     obtain ⟨blkC, offC, spotC⟩ := adC
     simp only at hspC
     subst hspC
     simpa [mapV, mpV, mpA, mpS, mpP, toReal, locsOf, vI, vN, vS] using h
   ·
    rcases hsC with rfl | ⟨adC, capC, C, rfl, hmC, hwC, hrC⟩
    ·
     have hS : Sound Try.prog 12 [.agg #[vI x, vI y, vI z, vS 0 A.length, vS 1 B.length, .slice none 0 0], vI k] [nR A, nR B] (.bool true) [nR A, nR B] := lawMirrorShadow_ssn x y z A B k hmA hmB
     have h := Sound.topL (W := W) [(adA, capA, ⟨nums A, 3, false, false⟩), (adB, capB, ⟨nums B, 3, false, false⟩)] hS (fun p hp => by
      simp only [List.mem_cons, List.not_mem_nil, or_false] at hp
      rcases hp with rfl | rfl
      ·
       exact hrA
      ·
       exact hrB) (fun x hx i hi => by
      simp only [List.mem_cons, List.not_mem_nil, or_false] at hx
      rcases hx with rfl | rfl <;> simp [idsV, idsA, idsS, idsP, vI, vN, vS] at hi
      all_goals simp; omega) rfl
     have hspA := hrA.1
     obtain ⟨blkA, offA, spotA⟩ := adA
     simp only at hspA
     subst hspA
     have hspB := hrB.1
     obtain ⟨blkB, offB, spotB⟩ := adB
     simp only at hspB
     subst hspB
     simpa [mapV, mpV, mpA, mpS, mpP, toReal, locsOf, vI, vN, vS] using h
    ·
     have hS : Sound Try.prog 12 [.agg #[vI x, vI y, vI z, vS 0 A.length, vS 1 B.length, vS 2 C.length], vI k] [nR A, nR B, nR C] (.bool true) [nR A, nR B, nR C] := lawMirrorShadow_sss x y z A B C k hmA hmB hmC
     have h := Sound.topL (W := W) [(adA, capA, ⟨nums A, 3, false, false⟩), (adB, capB, ⟨nums B, 3, false, false⟩), (adC, capC, ⟨nums C, 3, false, false⟩)] hS (fun p hp => by
      simp only [List.mem_cons, List.not_mem_nil, or_false] at hp
      rcases hp with rfl | rfl | rfl
      ·
       exact hrA
      ·
       exact hrB
      ·
       exact hrC) (fun x hx i hi => by
      simp only [List.mem_cons, List.not_mem_nil, or_false] at hx
      rcases hx with rfl | rfl <;> simp [idsV, idsA, idsS, idsP, vI, vN, vS] at hi
      all_goals simp; omega) rfl
     have hspA := hrA.1
     obtain ⟨blkA, offA, spotA⟩ := adA
     simp only at hspA
     subst hspA
     have hspB := hrB.1
     obtain ⟨blkB, offB, spotB⟩ := adB
     simp only at hspB
     subst hspB
     have hspC := hrC.1
     obtain ⟨blkC, offC, spotC⟩ := adC
     simp only at hspC
     subst hspC
     simpa [mapV, mpV, mpA, mpS, mpP, toReal, locsOf, vI, vN, vS] using h
 clear hA0 hval0 hsz0
 refine fin.2.mono fun e W' ⟨he, bel⟩ => ?_
 subst he
 exact ⟨_, rfl, _, _, _, [], _, [], hW', trodAll_mk1 (shut_bool Try.underlying4 _), (trodAll_cons_mk (Below.trod laidOut (by kernel_rfl) (of_decide_eq_true (by kernel_rfl)) h0 bel hlt0) (trodAll_cons_mk (Below.trod laidOut (by kernel_rfl) (of_decide_eq_true (by kernel_rfl)) h1 bel hlt1) trodAll_mk0)), rfl, bel.frame _, fun h => by cases h⟩
theorem over : Rows.fnExactMirrorShadowRow.holds Try.pinned (OpenSpec.ofChange Rows.fnExactMirrorShadowSpec) :=
 OpenClaim.holds_of_wide 12 Try.f12 rfl rfl rfl rfl rfl rfl rfl ⟨rfl, rfl, rfl, rfl, rfl⟩ rfl rfl rfl rfl rfl (by kernel_rfl) Try.func12 (by kernel_rfl)
  (of_decide_eq_true (by kernel_rfl)) (by unfold Func.isWrapper; first | (rw [if_pos (by decide +kernel)]; kernel_rfl) | (rw [if_neg (by decide +kernel)]; exact ⟨rfl, rfl⟩))
  (fun os started H enc _ => lifted os started H enc)
end Go.Proofs.Ytbheeobnghlckaa.fnExactMirrorShadow
namespace Go.Proofs.Ytbheeobnghlckaa
theorem fnExactMirrorShadow_holds : Rows.FnExactMirrorShadowSaid := fnExactMirrorShadow.over
#print axioms fnExactMirrorShadow_holds
end Go.Proofs.Ytbheeobnghlckaa
