import Derived.Test.YtcldfmnkeiogdaaAmC1
import Derived.WalkKit
import Derived.ProofKit
import Derived.OpenShut
import Derived.ShutString
import Derived.ChangeOld
import Derived.Below
import Derived.SizedLaws
set_option linter.unusedVariables false
set_option linter.unusedSimpArgs false
namespace Go.Proofs.Ytcldfmnkeiogdaa
open Go.Am Go.RowKit
set_option maxRecDepth 100000 in
set_option maxHeartbeats 4000000 in
theorem within5 (n : Int) (lo : Int) (hi : Int)  : Sound Try.prog 61 [vI n, vI lo, vI hi] [] (.bool (inR n lo hi)) [] := by
 refine sound_intro (C := cx) Try.func61 rfl (by kernel_rfl) fun hcl => ?_
 refine cSeq ?_
 refine cReg ?_
 refine segEndH [0, 1, 2] (T1 := (mkT 15 [(0, vI n), (1, vI lo), (2, vI hi)])) (by kernel_rfl) ?_
 refine kSeq ?_
 refine cSeq ?_
 refine cReg ?_
 refine segH 4 (T1 := (mkT 15 [(0, vI n), (1, vI lo), (2, vI hi), (7, vI n), (8, vI lo), (9, .bool (decide (n ≥ lo))), (10, .bool (decide (n ≥ lo)))])) (by kernel_rfl) ?_
 cases h1 : (decide (n ≥ lo) : Bool)
 ·
  have h1k := h1
  (try simp only [bs0, bs1, bs2, bs3, beq_iff_eq, bne_iff_ne, beq_eq_false_iff_ne, bne_eq_false_iff_eq, ne_eq, bs4, bs5, bs6, bs7, bs8, bs9, bs10, bs11, ge_iff_le, gt_iff_lt] at h1)
  refine segEndH [6] (T1 := (mkT 15 [(6, .bool false)])) (by kernel_rfl) ?_
  refine kSeq ?_
  refine cRet ?_
  have he0 : (false : Bool) = inR n lo hi := by first | (simp only [inR, *]; rfl) | (simp_all [inR]; done)
  refine endCast (v1 := .bool false) (H1 := []) (by first | rfl | ((try rw [← he0]); done) | (simp only [← he0]; done)) (by first | rfl | ((try rw [← he0]); done) | (simp only [← he0]; done)) ?_
  exact endQ (Or.inr rfl) (l := [.bool false]) [] (by kernel_rfl) (by first | rfl | kernel_rfl) rfl rfl hcl rfl
 ·
  have h1k := h1
  (try simp only [bs0, bs1, bs2, bs3, beq_iff_eq, bne_iff_ne, beq_eq_false_iff_ne, bne_eq_false_iff_eq, ne_eq, bs4, bs5, bs6, bs7, bs8, bs9, bs10, bs11, ge_iff_le, gt_iff_lt] at h1)
  refine segEndH [6] (T1 := (mkT 15 [(6, .bool (decide (n ≤ hi)))])) (by kernel_rfl) ?_
  refine kSeq ?_
  refine cRet ?_
  have he0 : (decide (n ≤ hi) : Bool) = inR n lo hi := by first | (simp only [inR, *]; rfl) | (simp_all [inR]; done)
  refine endCast (v1 := .bool (decide (n ≤ hi))) (H1 := []) (by first | rfl | ((try rw [← he0]); done) | (simp only [← he0]; done)) (by first | rfl | ((try rw [← he0]); done) | (simp only [← he0]; done)) ?_
  exact endQ (Or.inr rfl) (l := [.bool (decide (n ≤ hi))]) [] (by kernel_rfl) (by first | rfl | kernel_rfl) rfl rfl hcl rfl
set_option maxRecDepth 100000 in
set_option maxHeartbeats 4000000 in
theorem l1In5 (n : Int) (lo : Int) (hi : Int)  : Sound Try.prog 59 [vI n, vI lo, vI hi] [] (.bool (inR n lo hi)) [] := by
 refine sound_intro (C := cx) Try.func59 rfl (by kernel_rfl) fun hcl => ?_
 refine cSeq ?_
 refine cReg ?_
 refine segEndH [0, 1, 2] (T1 := (mkT 15 [(0, vI n), (1, vI lo), (2, vI hi)])) (by kernel_rfl) ?_
 refine kSeq ?_
 refine cSeq ?_
 refine cReg ?_
 refine segH 4 (T1 := (mkT 15 [(0, vI n), (1, vI lo), (2, vI hi), (7, vI n), (8, vI lo), (9, .bool (decide (n ≥ lo))), (10, .bool (decide (n ≥ lo)))])) (by kernel_rfl) ?_
 cases h1 : (decide (n ≥ lo) : Bool)
 ·
  have h1k := h1
  (try simp only [bs0, bs1, bs2, bs3, beq_iff_eq, bne_iff_ne, beq_eq_false_iff_ne, bne_eq_false_iff_eq, ne_eq, bs4, bs5, bs6, bs7, bs8, bs9, bs10, bs11, ge_iff_le, gt_iff_lt] at h1)
  refine segEndH [6] (T1 := (mkT 15 [(6, .bool false)])) (by kernel_rfl) ?_
  refine kSeq ?_
  refine cRet ?_
  have he0 : (false : Bool) = inR n lo hi := by first | (simp only [inR, *]; rfl) | (simp_all [inR]; done)
  refine endCast (v1 := .bool false) (H1 := []) (by first | rfl | ((try rw [← he0]); done) | (simp only [← he0]; done)) (by first | rfl | ((try rw [← he0]); done) | (simp only [← he0]; done)) ?_
  exact endQ (Or.inr rfl) (l := [.bool false]) [] (by kernel_rfl) (by first | rfl | kernel_rfl) rfl rfl hcl rfl
 ·
  have h1k := h1
  (try simp only [bs0, bs1, bs2, bs3, beq_iff_eq, bne_iff_ne, beq_eq_false_iff_ne, bne_eq_false_iff_eq, ne_eq, bs4, bs5, bs6, bs7, bs8, bs9, bs10, bs11, ge_iff_le, gt_iff_lt] at h1)
  refine segEndH [6] (T1 := (mkT 15 [(6, .bool (decide (n ≤ hi)))])) (by kernel_rfl) ?_
  refine kSeq ?_
  refine cRet ?_
  have he0 : (decide (n ≤ hi) : Bool) = inR n lo hi := by first | (simp only [inR, *]; rfl) | (simp_all [inR]; done)
  refine endCast (v1 := .bool (decide (n ≤ hi))) (H1 := []) (by first | rfl | ((try rw [← he0]); done) | (simp only [← he0]; done)) (by first | rfl | ((try rw [← he0]); done) | (simp only [← he0]; done)) ?_
  exact endQ (Or.inr rfl) (l := [.bool (decide (n ≤ hi))]) [] (by kernel_rfl) (by first | rfl | kernel_rfl) rfl rfl hcl rfl
set_option maxRecDepth 100000 in
set_option maxHeartbeats 4000000 in
theorem isTurn5 (k : Int)  : Sound Try.prog 40 [vI k] [] (.bool (inR k 0 23)) [] := by
 refine sound_intro (C := cx) Try.func40 rfl (by kernel_rfl) fun hcl => ?_
 refine cSeq ?_
 refine cReg ?_
 refine segEndH [0] (T1 := (mkT 5 [(0, vI k)])) (by kernel_rfl) ?_
 refine kSeq ?_
 refine cSeq ?_
 refine cReg ?_
 refine segH 1 (T1 := (mkT 5 [(0, vI k), (3, vI k)])) (by kernel_rfl) ?_
 refine rCall (v := .bool (inR k 0 23)) (args := [vI k, vI 0, vI 23]) (by kernel_rfl) rfl (by kernel_rfl) (Sound.lay0 [] (within5 k 0 23) trivial rfl trivial rfl (by first | rfl | simp [mpV, mpA, mpS, mpP, renId, shift]) rfl) ?_
 refine segEndH [2] (T1 := (mkT 5 [(2, .bool (inR k 0 23))])) (by kernel_rfl) ?_
 refine kSeq ?_
 refine cRet ?_
 exact endQ (Or.inr rfl) (l := [.bool (inR k 0 23)]) [] (by kernel_rfl) (by first | rfl | kernel_rfl) rfl rfl hcl rfl
set_option maxRecDepth 100000 in
set_option maxHeartbeats 4000000 in
theorem l8Number5 (k : Int)  : Sound Try.prog 37 [vI k] [] (.bool (inR k 0 23)) [] := by
 refine sound_intro (C := cx) Try.func37 rfl (by kernel_rfl) fun hcl => ?_
 refine cSeq ?_
 refine cReg ?_
 refine segEndH [0] (T1 := (mkT 5 [(0, vI k)])) (by kernel_rfl) ?_
 refine kSeq ?_
 refine cSeq ?_
 refine cReg ?_
 refine segH 1 (T1 := (mkT 5 [(0, vI k), (3, vI k)])) (by kernel_rfl) ?_
 refine rCall (v := .bool (inR k 0 23)) (args := [vI k, vI 0, vI 23]) (by kernel_rfl) rfl (by kernel_rfl) (Sound.lay0 [] (l1In5 k 0 23) trivial rfl trivial rfl (by first | rfl | simp [mpV, mpA, mpS, mpP, renId, shift]) rfl) ?_
 refine segEndH [2] (T1 := (mkT 5 [(2, .bool (inR k 0 23))])) (by kernel_rfl) ?_
 refine kSeq ?_
 refine cRet ?_
 exact endQ (Or.inr rfl) (l := [.bool (inR k 0 23)]) [] (by kernel_rfl) (by first | rfl | kernel_rfl) rfl rfl hcl rfl
set_option maxRecDepth 100000 in
set_option maxHeartbeats 4000000 in
theorem specTurnOrder_no (k : Int) (hk : inR k 0 23 = false) : Sound Try.prog 15 [vI k] [] (.tuple #[vI 0, .bool false]) [] := by
 refine sound_intro (C := cx) Try.func15 rfl (by kernel_rfl) fun hcl => ?_
 refine cSeq ?_
 refine cReg ?_
 refine segEndH [0] (T1 := (mkT 29 [(0, vI k)])) (by kernel_rfl) ?_
 refine kSeq ?_
 refine cSeq ?_
 refine cSeq ?_
 refine cReg ?_
 refine segH 1 (T1 := (mkT 29 [(0, vI k), (7, vI k)])) (by kernel_rfl) ?_
 refine rCall (v := .bool (inR k 0 23)) (args := [vI k]) (by kernel_rfl) rfl (by kernel_rfl) (Sound.lay0 [] (l8Number5 k) trivial rfl trivial rfl (by first | rfl | simp [mpV, mpA, mpS, mpP, renId, shift]) rfl) ?_
 refine segEndH [0, 9] (T1 := (mkT 29 [(0, vI k), (9, .bool (!(inR k 0 23)))])) (by kernel_rfl) ?_
 refine kSeq ?_
 cases h1 : (inR k 0 23 : Bool)
 ·
  have h1k := h1
  (try simp only [bs0, bs1, bs2, bs3, beq_iff_eq, bne_iff_ne, beq_eq_false_iff_ne, bne_eq_false_iff_eq, ne_eq, bs4, bs5, bs6, bs7, bs8, bs9, bs10, bs11, ge_iff_le, gt_iff_lt] at h1)
  refine cTrue (by kernel_rfl) ?_
  refine cSeq ?_
  refine cReg ?_
  refine segEndH [2, 3] (T1 := (mkT 29 [(2, vI 0), (3, .bool false)])) (by kernel_rfl) ?_
  refine kSeq ?_
  refine cRet ?_
  refine kSeqR ?_
  exact endQ (Or.inr rfl) (l := [vI 0, .bool false]) [] (by kernel_rfl) (by first | rfl | kernel_rfl) rfl rfl hcl rfl
 ·
  have h1k := h1
  (try simp only [bs0, bs1, bs2, bs3, beq_iff_eq, bne_iff_ne, beq_eq_false_iff_ne, bne_eq_false_iff_eq, ne_eq, bs4, bs5, bs6, bs7, bs8, bs9, bs10, bs11, ge_iff_le, gt_iff_lt] at h1)
  exfalso; simp_all
set_option maxRecDepth 100000 in
set_option maxHeartbeats 4000000 in
theorem implTurnOrder_no (k : Int) (hk : inR k 0 23 = false) : Sound Try.prog 16 [vI k] [] (.tuple #[vI 0, .bool false]) [] := by
 refine sound_intro (C := cx) Try.func16 rfl (by kernel_rfl) fun hcl => ?_
 refine cSeq ?_
 refine cReg ?_
 refine segEndH [0] (T1 := (mkT 18 [(0, vI k)])) (by kernel_rfl) ?_
 refine kSeq ?_
 refine cSeq ?_
 refine cSeq ?_
 refine cReg ?_
 refine segH 1 (T1 := (mkT 18 [(0, vI k), (6, vI k)])) (by kernel_rfl) ?_
 refine rCall (v := .bool (inR k 0 23)) (args := [vI k]) (by kernel_rfl) rfl (by kernel_rfl) (Sound.lay0 [] (isTurn5 k) trivial rfl trivial rfl (by first | rfl | simp [mpV, mpA, mpS, mpP, renId, shift]) rfl) ?_
 refine segEndH [0, 8] (T1 := (mkT 18 [(0, vI k), (8, .bool (!(inR k 0 23)))])) (by kernel_rfl) ?_
 refine kSeq ?_
 cases h1 : (inR k 0 23 : Bool)
 ·
  have h1k := h1
  (try simp only [bs0, bs1, bs2, bs3, beq_iff_eq, bne_iff_ne, beq_eq_false_iff_ne, bne_eq_false_iff_eq, ne_eq, bs4, bs5, bs6, bs7, bs8, bs9, bs10, bs11, ge_iff_le, gt_iff_lt] at h1)
  refine cTrue (by kernel_rfl) ?_
  refine cSeq ?_
  refine cReg ?_
  refine segEndH [2, 3] (T1 := (mkT 18 [(2, vI 0), (3, .bool false)])) (by kernel_rfl) ?_
  refine kSeq ?_
  refine cRet ?_
  refine kSeqR ?_
  exact endQ (Or.inr rfl) (l := [vI 0, .bool false]) [] (by kernel_rfl) (by first | rfl | kernel_rfl) rfl rfl hcl rfl
 ·
  have h1k := h1
  (try simp only [bs0, bs1, bs2, bs3, beq_iff_eq, bne_iff_ne, beq_eq_false_iff_ne, bne_eq_false_iff_eq, ne_eq, bs4, bs5, bs6, bs7, bs8, bs9, bs10, bs11, ge_iff_le, gt_iff_lt] at h1)
  exfalso; simp_all
set_option maxRecDepth 100000 in
set_option maxHeartbeats 4000000 in
theorem lawTurnOrder_no_ (k : Int) (hk : inR k 0 23 = false) : Sound Try.prog 5 [vI k] [] (.bool true) [] := by
 refine sound_intro (C := cx) Try.func5 rfl (by kernel_rfl) fun hcl => ?_
 refine cSeq ?_
 refine cReg ?_
 refine segEndH [0] (T1 := (mkT 25 [(0, vI k)])) (by kernel_rfl) ?_
 refine kSeq ?_
 refine cSeq ?_
 refine cReg ?_
 refine segH 1 (T1 := (mkT 25 [(0, vI k), (8, vI k)])) (by kernel_rfl) ?_
 refine rCall (v := .tuple #[vI 0, .bool false]) (args := [vI k]) (by kernel_rfl) rfl (by kernel_rfl) (Sound.lay0 [] (specTurnOrder_no k (by first | assumption | omega | rfl | decide | exact HeapL.list _ _ _ _ | exact HeapL.nil _ _ _ | exact HeapL.all _ _ _ | (apply HeapL.lt64 <;> assumption) | (repeat' (first | assumption | apply or_lt64 | apply and_lt64 | apply andn_lt64 | apply pow_lt64 | (apply HeapL.lt64 <;> assumption))))) trivial rfl trivial rfl (by first | rfl | simp [mpV, mpA, mpS, mpP, renId, shift]) (by first | rfl | simp [mpV, mpA, mpS, mpP, renId, shift])) ?_
 refine segEndH [0, 3, 4] (T1 := (mkT 25 [(0, vI k), (3, vI 0), (4, .bool false)])) (by kernel_rfl) ?_
 refine kSeq ?_
 refine cSeq ?_
 refine cReg ?_
 refine segH 1 (T1 := (mkT 25 [(0, vI k), (3, vI 0), (4, .bool false), (13, vI k)])) (by kernel_rfl) ?_
 refine rCall (v := .tuple #[vI 0, .bool false]) (args := [vI k]) (by kernel_rfl) rfl (by kernel_rfl) (Sound.lay0 [] (implTurnOrder_no k (by first | assumption | omega | rfl | decide | exact HeapL.list _ _ _ _ | exact HeapL.nil _ _ _ | exact HeapL.all _ _ _ | (apply HeapL.lt64 <;> assumption) | (repeat' (first | assumption | apply or_lt64 | apply and_lt64 | apply andn_lt64 | apply pow_lt64 | (apply HeapL.lt64 <;> assumption))))) trivial rfl trivial rfl (by first | rfl | simp [mpV, mpA, mpS, mpP, renId, shift]) (by first | rfl | simp [mpV, mpA, mpS, mpP, renId, shift])) ?_
 refine segEndH [3, 4, 5, 6] (T1 := (mkT 25 [(3, vI 0), (4, .bool false), (5, vI 0), (6, .bool false)])) (by kernel_rfl) ?_
 refine kSeq ?_
 refine cSeq ?_
 refine cSeq ?_
 refine cReg ?_
 refine segEndH [24] (T1 := (mkT 25 [(24, .bool false)])) (by kernel_rfl) ?_
 refine kSeq ?_
 refine cFalse (by kernel_rfl) ?_
 refine cSkip ?_
 refine kSeq ?_
 refine cSeq ?_
 refine cReg ?_
 refine segEndH [2] (T1 := (mkT 25 [(2, .bool true)])) (by kernel_rfl) ?_
 refine kSeq ?_
 refine cRet ?_
 exact endQ (Or.inr rfl) (l := [.bool true]) [] (by kernel_rfl) (by first | rfl | kernel_rfl) rfl rfl hcl rfl
theorem lawTurnOrder_ (k : Int)  : Sound Try.prog 5 [vI k] [] (.bool true) [] := by
 cases hk : inR k 0 23
 ·
  exact lawTurnOrder_no_ k hk
 ·
  have hb := inR_le hk
  have e : k = ((k.toNat : Nat) : Int) := by omega
  have hn : k.toNat < 24 := by omega
  rw [e]
  generalize k.toNat = n at hn
  have h : orderB n = true := by
   match n, hn with
   | 0, _ => exact orderB_0
   | 1, _ => exact orderB_1
   | 2, _ => exact orderB_2
   | 3, _ => exact orderB_3
   | 4, _ => exact orderB_4
   | 5, _ => exact orderB_5
   | 6, _ => exact orderB_6
   | 7, _ => exact orderB_7
   | 8, _ => exact orderB_8
   | 9, _ => exact orderB_9
   | 10, _ => exact orderB_10
   | 11, _ => exact orderB_11
   | 12, _ => exact orderB_12
   | 13, _ => exact orderB_13
   | 14, _ => exact orderB_14
   | 15, _ => exact orderB_15
   | 16, _ => exact orderB_16
   | 17, _ => exact orderB_17
   | 18, _ => exact orderB_18
   | 19, _ => exact orderB_19
   | 20, _ => exact orderB_20
   | 21, _ => exact orderB_21
   | 22, _ => exact orderB_22
   | 23, _ => exact orderB_23
   | n + 24, h => omega
  exact exF2_sound told_ok 8 _ _ _ _ _ (okB_eq h)
end Go.Proofs.Ytcldfmnkeiogdaa
namespace Go.Proofs.Ytcldfmnkeiogdaa.fnExactTurnOrder
open Go.Am Go.ChangeShapes Go.WideShapes Go.ChangeAt Go.RowKit
theorem own : ownKnob Try.prog.godebug = none := by kernel_rfl
theorem laidOut : laidOutB Try.prog = true := by kernel_rfl
set_option maxRecDepth 100000 in
theorem lifted (os : Os) (started : os.Started) (H : Type) (enc : TypeId × Value → H) :
  ReturnsInHanded {} Try.checked os 5 .any (Rows.fnExactTurnOrderSpec.pre6 enc Try.prog Try.f5 Rows.fnExactTurnOrderRow.domain false) (Rows.fnExactTurnOrderSpec.post enc Try.prog Try.f5 false true false false) := by
 refine returnsInHanded_of_change_sized (C := Try.checked) own started (by kernel_rfl) Try.func5
  (ChangeSpec.witness6 (enc := enc) (C := Try.checked) false ⟨#[], #[.int .i64 0], []⟩ 8 (by kernel_rfl) (by kernel_rfl) (by kernel_rfl) (by kernel_rfl)) ?_
 intro W base args ds gs before hval0 hW hcnd hsz0 _
 have hval : ∀ (j : Nat) t v, Try.f5.params[j]? = some t → args[j]? = some v → Value.okWide Try.prog W .any base t v := hval0
 have hW' := hW
 obtain ⟨p, q, hA0, hV, rfl, hfz, hnd⟩ := hW
 have hA : DataW.TrodAll enc Try.prog W 0 (fun _ => true) true Try.f5.params.toList args.toList ds p := hA0
 rw [Try.params5] at hA hval
 obtain ⟨v0, vs0, d0, ds0, p0, q0, hargs, rfl, rfl, h0, r0⟩ := trodAll_cons hA
 obtain ⟨rfl, rfl, rfl⟩ := trodAll_nil r0
 obtain rfl : args = #[v0] := by cases args; simp_all
 obtain ⟨rfl, rfl⟩ := trodVars_none hV
 have hlt0 : ∀ x ∈ p0, x.block < W.heap.size := fun x hx => by simpa using hW'.lt x (by simp [hx])
 have fin : (∃ Q : Prop, Q) ∧ Calls Try.prog 5 #[v0] W (fun e W' => e = .returned (.bool true) ∧ Below W.heap.size W W') := by
  refine ⟨⟨True, trivial⟩, ?_⟩
  obtain ⟨k, rfl, _, _, wk⟩ := open_int Try.underlying3 (hval 0 3 v0 rfl rfl) h0
  have hS : Sound Try.prog 5 [vI k] [] (.bool true) [] := lawTurnOrder_ k
  exact hS.top0 rfl rfl W
 clear hA0 hval0 hsz0
 refine fin.2.mono fun e W' ⟨he, bel⟩ => ?_
 subst he
 exact ⟨_, rfl, _, _, _, [], _, [], hW', trodAll_mk1 (shut_bool Try.underlying4 _), (trodAll_cons_mk (Below.trod laidOut (by kernel_rfl) (of_decide_eq_true (by kernel_rfl)) h0 bel hlt0) trodAll_mk0), rfl, bel.frame _, fun h => by cases h⟩
theorem over : Rows.fnExactTurnOrderRow.holds Try.pinned (OpenSpec.ofChange Rows.fnExactTurnOrderSpec) :=
 OpenClaim.holds_of_wide 5 Try.f5 rfl rfl rfl rfl rfl rfl rfl ⟨rfl, rfl, rfl, rfl, rfl⟩ rfl rfl rfl rfl rfl (by kernel_rfl) Try.func5 (by kernel_rfl)
  (of_decide_eq_true (by kernel_rfl)) (by unfold Func.isWrapper; first | (rw [if_pos (by decide +kernel)]; kernel_rfl) | (rw [if_neg (by decide +kernel)]; exact ⟨rfl, rfl⟩))
  (fun os started H enc _ => lifted os started H enc)
end Go.Proofs.Ytcldfmnkeiogdaa.fnExactTurnOrder
namespace Go.Proofs.Ytcldfmnkeiogdaa
theorem fnExactTurnOrder_holds : Rows.FnExactTurnOrderSaid := fnExactTurnOrder.over
#print axioms fnExactTurnOrder_holds
end Go.Proofs.Ytcldfmnkeiogdaa
