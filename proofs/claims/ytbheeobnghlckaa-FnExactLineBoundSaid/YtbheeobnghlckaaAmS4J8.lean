/- Walks. No condition. -/
import Derived.Test.YtbheeobnghlckaaAmS4J7
import Derived.Test.YtbheeobnghlckaaAmQ4
set_option linter.unusedVariables false
set_option linter.unusedSimpArgs false
namespace Go.Proofs.Ytbheeobnghlckaa
open Go.Am Go.RowKit
set_option maxRecDepth 100000 in
set_option maxHeartbeats 4000000 in
theorem l3LitB (N : List Int) (hl : N.length ≤ 1048576) (hw : allB N 0 1 = true) : Sound Try.prog 72 [vS 0 N.length] [some ⟨nums N, 3, false, false⟩] (vI (sumT N N.length)) [some ⟨nums N, 3, false, false⟩] := by
  refine sound_intro (C := cx) Try.func72 rfl (by kernel_rfl) fun hcl => ?_
  refine cSeq ?_
  refine cReg ?_
  refine segEndH [0] (T1 := (mkT 18 [(0, vS 0 N.length)])) (by kernel_rfl) ?_
  refine kSeq ?_
  refine cSeq ?_
  refine cReg ?_
  refine segEndH [0, 3] (T1 := (mkT 18 [(0, vS 0 N.length), (3, vI 0)])) (by kernel_rfl) ?_
  refine kSeq ?_
  refine cSeq ?_
  refine cSeq ?_
  refine cReg ?_
  refine segEndH [0, 3, 4] (T1 := (mkT 18 [(0, vS 0 N.length), (3, vI 0), (4, vI 0)])) (by kernel_rfl) ?_
  refine kSeq ?_
  refine cBlk ?_
  -- loop
  refine cLoop (fun mm T H => ∃ i : Nat, ∃ s : Int, (i ≤ N.length) ∧ (s = sumT N i) ∧ (0 ≤ s ∧ s ≤ (i : Int)) ∧ mm = N.length - i ∧ T = (mkT 18 [(0, vS 0 N.length), (3, vI s), (4, vN i)]) ∧ H = [some ⟨nums N, 3, false, false⟩]) (N.length - 0) (mkT 18 [(0, vS 0 N.length), (3, vI 0), (4, vI 0)]) [some ⟨nums N, 3, false, false⟩] (wkSame [0, 3, 4] (by kernel_rfl)) ?_ ?_
  · exact ⟨0, 0, (Nat.zero_le _), (rfl), (by omega), rfl, rfl, rfl⟩
  · rintro _ _ _ ⟨i, s, hir, hs1, hb, rfl, rfl, rfl⟩
    refine cSeq ?_
    refine cSeq ?_
    refine cReg ?_
    refine segEndH [0, 3, 4, 8] (T1 := (mkT 18 [(0, vS 0 N.length), (3, vI s), (4, vN i), (8, .bool (decide (((i : Nat) : Int) < ((N.length : Nat) : Int))))])) (by kernel_rfl) ?_
    refine kSeq ?_
    cases h1 : (decide (((i : Nat) : Int) < ((N.length : Nat) : Int)) : Bool)
    ·
      (try simp only [Bool.not_eq_true', Bool.not_eq_false', decide_eq_true_eq, decide_eq_false_iff_not, beq_iff_eq, bne_iff_ne, beq_eq_false_iff_ne, bne_eq_false_iff_eq, ne_eq, Decidable.not_not, Bool.and_eq_true, Bool.and_eq_false_imp, Bool.or_eq_true, Bool.or_eq_false_iff, Bool.not_eq_true, Int.not_lt, Int.not_le, ge_iff_le, gt_iff_lt] at h1)
      refine cFalse (by kernel_rfl) ?_
      refine cExit ?_
      refine kSeqE ?_
      refine kLoopE ?_
      refine kBlkHit ?_
      refine kSeq ?_
      refine cSeq ?_
      refine cReg ?_
      refine segEndH [2] (T1 := (mkT 18 [(2, vI s)])) (by kernel_rfl) ?_
      refine kSeq ?_
      refine cRet ?_
      -- end
      have he0 : (s : Int) = sumT N N.length := by (rw [hs1, show i = N.length by omega])
      refine endCast (v1 := vI s) (H1 := [some ⟨nums N, 3, false, false⟩]) (by first | rfl | ((try rw [← he0]); done) | (simp only [← he0]; done)) (by first | rfl | ((try rw [← he0]); done) | (simp only [← he0]; done)) ?_
      exact endQ (Or.inr rfl) (l := [vI s]) [] (by kernel_rfl) (by first | rfl | kernel_rfl) rfl rfl hcl rfl
    ·
      (try simp only [Bool.not_eq_true', Bool.not_eq_false', decide_eq_true_eq, decide_eq_false_iff_not, beq_iff_eq, bne_iff_ne, beq_eq_false_iff_ne, bne_eq_false_iff_eq, ne_eq, Decidable.not_not, Bool.and_eq_true, Bool.and_eq_false_imp, Bool.or_eq_true, Bool.or_eq_false_iff, Bool.not_eq_true, Int.not_lt, Int.not_le, ge_iff_le, gt_iff_lt] at h1)
      have hc0 := allB_get hw (i := i) (by omega)
      refine cTrue (by kernel_rfl) ?_
      refine cSkip ?_
      refine kSeq ?_
      refine cSeq ?_
      refine cBlk ?_
      refine cReg ?_
      refine segH 3 (T1 := (mkT 18 [(0, vS 0 N.length), (3, vI s), (4, vN i), (8, .bool true), (11, vI s), (12, vS 0 N.length), (13, vN i)])) (by kernel_rfl) ?_
      refine rOp (v := vP 0 i) (by kernel_rfl) (eIdxS (ad := ⟨0, 0, none⟩) (n := N.length) (m := 0) (k := .i64) (c := ((i : Nat) : Int)) (j := i) (o := i) (by kernel_rfl) (by kernel_rfl) ti22 ti3 (rfl) (by omega) (by simp)) ?_
      refine rOp (v := vI (N.getD i 0)) (by kernel_rfl) (eLdNum (ad := ⟨0, i, none⟩) (r := ⟨nums N, 3, false, false⟩) (L := N) (j := i) (by kernel_rfl) (by kernel_rfl) rfl (by first | rfl | omega) (by omega) ti3 rfl) ?_
      refine rOp (v := vI (s + (N.getD i 0))) (by kernel_rfl) (eAdd (k := .i64) (a := s) (b := (N.getD i 0)) (c := (s + (N.getD i 0))) (by kernel_rfl) (by kernel_rfl) (wr64 (by omega) (by omega) (by omega))) ?_
      refine segEndH [0, 3, 4] (T1 := (mkT 18 [(0, vS 0 N.length), (3, vI (s + (N.getD i 0))), (4, vN i)])) (by kernel_rfl) ?_
      refine kBlk ?_
      refine kSeq ?_
      refine cReg ?_
      refine segH 1 (T1 := (mkT 18 [(0, vS 0 N.length), (3, vI (s + (N.getD i 0))), (4, vN i), (9, vN i)])) (by kernel_rfl) ?_
      refine rOp (v := vN (i + 1)) (by kernel_rfl) (eAdd (k := .i64) (a := ((i : Nat) : Int)) (b := 1) (c := ((i + 1 : Nat) : Int)) (by kernel_rfl) (by kernel_rfl) (wr64 (by omega) (by omega) (by omega))) ?_
      refine segEndH [0, 3, 4] (T1 := (mkT 18 [(0, vS 0 N.length), (3, vI (s + (N.getD i 0))), (4, vN (i + 1))])) (by kernel_rfl) ?_
      exact kLoop (N.length - (i + 1)) (mkT 18 [(0, vS 0 N.length), (3, vI (s + (N.getD i 0))), (4, vN (i + 1))]) [some ⟨nums N, 3, false, false⟩] (by omega) (wkSame [0, 3, 4] (by kernel_rfl)) ⟨(i + 1), (s + (N.getD i 0)), (by omega), (by rw [hs1]; rfl), (by omega), rfl, rfl, rfl⟩

set_option maxRecDepth 100000 in
set_option maxHeartbeats 4000000 in
theorem specLineBound_no (x : Int) (y : Int) (z : Int) (A : List Int) (B : List Int) (C : List Int) (hv : valid3 x y z = false) (hA : A.length ≤ 1048576) (hB : B.length ≤ 1048576) (hC : C.length ≤ 1048576) : Sound Try.prog 25 [.agg #[vI x, vI y, vI z, vS 0 A.length, vS 1 B.length, vS 2 C.length]] [some ⟨nums A, 3, false, false⟩, some ⟨nums B, 3, false, false⟩, some ⟨nums C, 3, false, false⟩] (.tuple #[vI 0, .bool false]) [some ⟨nums A, 3, false, false⟩, some ⟨nums B, 3, false, false⟩, some ⟨nums C, 3, false, false⟩] := by
  refine sound_intro (C := cx) Try.func25 rfl (by kernel_rfl) fun hcl => ?_
  refine cSeq ?_
  refine cReg ?_
  refine segEnd [1] (T1 := (mkT 18 [(1, vP 3 0)])) (H1 := [some ⟨nums A, 3, false, false⟩, some ⟨nums B, 3, false, false⟩, some ⟨nums C, 3, false, false⟩, rB [vI x, vI y, vI z, vS 0 A.length, vS 1 B.length, vS 2 C.length] 27]) (by kernel_rfl) ?_
  refine kSeq ?_
  refine cSeq ?_
  refine cSeq ?_
  refine cReg ?_
  refine segH 1 (T1 := (mkT 18 [(1, vP 3 0), (4, .agg #[vI x, vI y, vI z, vS 0 A.length, vS 1 B.length, vS 2 C.length])])) (by kernel_rfl) ?_
  refine rCall (v := .bool false) (args := [.agg #[vI x, vI y, vI z, vS 0 A.length, vS 1 B.length, vS 2 C.length]]) (by kernel_rfl) rfl (by kernel_rfl) (Sound.lay0 [0, 1, 2] (l3ShadowB_no x y z A B C (by first | assumption | omega | rfl | decide | exact HeapL.list _ _ _ _ | exact HeapL.nil _ _ _ | exact HeapL.all _ _ _ | (apply HeapL.lt64 <;> assumption) | (repeat' (first | assumption | apply or_lt64 | apply and_lt64 | apply andn_lt64 | apply pow_lt64 | (apply HeapL.lt64 <;> assumption)))) (by first | omega | assumption | (simp; done)) (by first | omega | assumption | (simp; done)) (by first | omega | assumption | (simp; done))) ⟨rdF false (flatNums _ _ _ _) rfl rfl, ⟨rdF false (flatNums _ _ _ _) rfl rfl, ⟨rdF false (flatNums _ _ _ _) rfl rfl, trivial⟩⟩⟩ rfl ⟨clF (flatNums _ _ _ _), ⟨clF (flatNums _ _ _ _), ⟨clF (flatNums _ _ _ _), trivial⟩⟩⟩ rfl (by first | rfl | simp [mpV, mpA, mpS, mpP, renId, shift]) rfl) ?_
  refine segEndH [1, 6] (T1 := (mkT 18 [(1, vP 3 0), (6, .bool true)])) (by kernel_rfl) ?_
  refine kSeq ?_
  refine cTrue (by kernel_rfl) ?_
  refine cSeq ?_
  refine cReg ?_
  refine segEndH [2, 3] (T1 := (mkT 18 [(2, vI 0), (3, .bool false)])) (by kernel_rfl) ?_
  refine kSeq ?_
  refine cRet ?_
  refine kSeqR ?_
  -- end
  exact endQ (Or.inr rfl) (l := [vI 0, .bool false]) [rB [vI x, vI y, vI z, vS 0 A.length, vS 1 B.length, vS 2 C.length] 27] (by kernel_rfl) (by first | rfl | kernel_rfl) rfl rfl hcl rfl

set_option maxRecDepth 100000 in
set_option maxHeartbeats 4000000 in
theorem implLineBound_no (x : Int) (y : Int) (z : Int) (A : List Int) (B : List Int) (C : List Int) (hv : valid3 x y z = false) (hA : A.length ≤ 1048576) (hB : B.length ≤ 1048576) (hC : C.length ≤ 1048576) : Sound Try.prog 26 [.agg #[vI x, vI y, vI z, vS 0 A.length, vS 1 B.length, vS 2 C.length]] [some ⟨nums A, 3, false, false⟩, some ⟨nums B, 3, false, false⟩, some ⟨nums C, 3, false, false⟩] (.tuple #[vI 0, .bool false]) [some ⟨nums A, 3, false, false⟩, some ⟨nums B, 3, false, false⟩, some ⟨nums C, 3, false, false⟩] := by
  refine sound_intro (C := cx) Try.func26 rfl (by kernel_rfl) fun hcl => ?_
  refine cSeq ?_
  refine cReg ?_
  refine segEnd [1] (T1 := (mkT 32 [(1, vP 3 0)])) (H1 := [some ⟨nums A, 3, false, false⟩, some ⟨nums B, 3, false, false⟩, some ⟨nums C, 3, false, false⟩, rB [vI x, vI y, vI z, vS 0 A.length, vS 1 B.length, vS 2 C.length] 27]) (by kernel_rfl) ?_
  refine kSeq ?_
  refine cSeq ?_
  refine cSeq ?_
  refine cReg ?_
  refine segH 1 (T1 := (mkT 32 [(1, vP 3 0), (9, .agg #[vI x, vI y, vI z, vS 0 A.length, vS 1 B.length, vS 2 C.length])])) (by kernel_rfl) ?_
  refine rCall (v := .bool false) (args := [.agg #[vI x, vI y, vI z, vS 0 A.length, vS 1 B.length, vS 2 C.length]]) (by kernel_rfl) rfl (by kernel_rfl) (Sound.lay0 [0, 1, 2] (isShadowB_no x y z A B C (by first | assumption | omega | rfl | decide | exact HeapL.list _ _ _ _ | exact HeapL.nil _ _ _ | exact HeapL.all _ _ _ | (apply HeapL.lt64 <;> assumption) | (repeat' (first | assumption | apply or_lt64 | apply and_lt64 | apply andn_lt64 | apply pow_lt64 | (apply HeapL.lt64 <;> assumption)))) (by first | omega | assumption | (simp; done)) (by first | omega | assumption | (simp; done)) (by first | omega | assumption | (simp; done))) ⟨rdF false (flatNums _ _ _ _) rfl rfl, ⟨rdF false (flatNums _ _ _ _) rfl rfl, ⟨rdF false (flatNums _ _ _ _) rfl rfl, trivial⟩⟩⟩ rfl ⟨clF (flatNums _ _ _ _), ⟨clF (flatNums _ _ _ _), ⟨clF (flatNums _ _ _ _), trivial⟩⟩⟩ rfl (by first | rfl | simp [mpV, mpA, mpS, mpP, renId, shift]) rfl) ?_
  refine segEndH [1, 11] (T1 := (mkT 32 [(1, vP 3 0), (11, .bool true)])) (by kernel_rfl) ?_
  refine kSeq ?_
  refine cTrue (by kernel_rfl) ?_
  refine cSeq ?_
  refine cReg ?_
  refine segEndH [2, 3] (T1 := (mkT 32 [(2, vI 0), (3, .bool false)])) (by kernel_rfl) ?_
  refine kSeq ?_
  refine cRet ?_
  refine kSeqR ?_
  -- end
  exact endQ (Or.inr rfl) (l := [vI 0, .bool false]) [rB [vI x, vI y, vI z, vS 0 A.length, vS 1 B.length, vS 2 C.length] 27] (by kernel_rfl) (by first | rfl | kernel_rfl) rfl rfl hcl rfl

set_option maxRecDepth 100000 in
set_option maxHeartbeats 4000000 in
theorem specLineBound_yes (X : Nat) (Y : Nat) (Z : Nat) (A : List Int) (B : List Int) (C : List Int) (hs : Sides X Y Z) (hA : A.length ≤ 1048576) (hB : B.length ≤ 1048576) (hC : C.length ≤ 1048576) : Sound Try.prog 25 [.agg #[vN X, vN Y, vN Z, vS 0 A.length, vS 1 B.length, vS 2 C.length]] [some ⟨nums A, 3, false, false⟩, some ⟨nums B, 3, false, false⟩, some ⟨nums C, 3, false, false⟩] (.tuple #[vI (lbS X Y Z A B C), .bool (shadB X Y Z A B C)]) [some ⟨nums A, 3, false, false⟩, some ⟨nums B, 3, false, false⟩, some ⟨nums C, 3, false, false⟩] := by
  refine sound_intro (C := cx) Try.func25 rfl (by kernel_rfl) fun hcl => ?_
  refine cSeq ?_
  refine cReg ?_
  refine segEnd [1] (T1 := (mkT 18 [(1, vP 3 0)])) (H1 := [some ⟨nums A, 3, false, false⟩, some ⟨nums B, 3, false, false⟩, some ⟨nums C, 3, false, false⟩, rB [vN X, vN Y, vN Z, vS 0 A.length, vS 1 B.length, vS 2 C.length] 27]) (by kernel_rfl) ?_
  refine kSeq ?_
  refine cSeq ?_
  refine cSeq ?_
  refine cReg ?_
  refine segH 1 (T1 := (mkT 18 [(1, vP 3 0), (4, .agg #[vN X, vN Y, vN Z, vS 0 A.length, vS 1 B.length, vS 2 C.length])])) (by kernel_rfl) ?_
  refine rCall (v := .bool (shadB X Y Z A B C)) (args := [.agg #[vN X, vN Y, vN Z, vS 0 A.length, vS 1 B.length, vS 2 C.length]]) (by kernel_rfl) rfl (by kernel_rfl) (Sound.lay0 [0, 1, 2] (l3ShadowB_yes X Y Z A B C (by first | assumption | omega | rfl | decide | exact HeapL.list _ _ _ _ | exact HeapL.nil _ _ _ | exact HeapL.all _ _ _ | (apply HeapL.lt64 <;> assumption) | (repeat' (first | assumption | apply or_lt64 | apply and_lt64 | apply andn_lt64 | apply pow_lt64 | (apply HeapL.lt64 <;> assumption)))) (by first | omega | assumption | (simp; done)) (by first | omega | assumption | (simp; done)) (by first | omega | assumption | (simp; done))) ⟨rdF false (flatNums _ _ _ _) rfl rfl, ⟨rdF false (flatNums _ _ _ _) rfl rfl, ⟨rdF false (flatNums _ _ _ _) rfl rfl, trivial⟩⟩⟩ rfl ⟨clF (flatNums _ _ _ _), ⟨clF (flatNums _ _ _ _), ⟨clF (flatNums _ _ _ _), trivial⟩⟩⟩ rfl (by first | rfl | simp [mpV, mpA, mpS, mpP, renId, shift]) rfl) ?_
  refine segEndH [1, 6] (T1 := (mkT 18 [(1, vP 3 0), (6, .bool (!(shadB X Y Z A B C)))])) (by kernel_rfl) ?_
  refine kSeq ?_
  cases h1 : (shadB X Y Z A B C : Bool)
  ·
    have h1k := h1
    (try simp only [Bool.not_eq_true', Bool.not_eq_false', decide_eq_true_eq, decide_eq_false_iff_not, beq_iff_eq, bne_iff_ne, beq_eq_false_iff_ne, bne_eq_false_iff_eq, ne_eq, Decidable.not_not, Bool.and_eq_true, Bool.and_eq_false_imp, Bool.or_eq_true, Bool.or_eq_false_iff, Bool.not_eq_true, Int.not_lt, Int.not_le, ge_iff_le, gt_iff_lt] at h1)
    refine cTrue (by kernel_rfl) ?_
    refine cSeq ?_
    refine cReg ?_
    refine segEndH [2, 3] (T1 := (mkT 18 [(2, vI 0), (3, .bool false)])) (by kernel_rfl) ?_
    refine kSeq ?_
    refine cRet ?_
    refine kSeqR ?_
    -- end
    have he0 : (0 : Int) = lbS X Y Z A B C := by first | (symm; assumption) | exact lbS_no ‹_› | exact lbS_spec ‹_› | exact lbS_impl ‹_› hm | (rw [lbS_no ‹_›]; done)
    have he1 : (false : Bool) = shadB X Y Z A B C := by first | (symm; assumption) | exact lbS_no ‹_› | exact lbS_spec ‹_› | exact lbS_impl ‹_› hm | (rw [lbS_no ‹_›]; done)
    refine endCast (v1 := .tuple #[vI 0, .bool false]) (H1 := [some ⟨nums A, 3, false, false⟩, some ⟨nums B, 3, false, false⟩, some ⟨nums C, 3, false, false⟩]) (by first | rfl | ((try rw [← he0]); (try rw [← he1]); done) | (simp only [← he0, ← he1]; done)) (by first | rfl | ((try rw [← he0]); (try rw [← he1]); done) | (simp only [← he0, ← he1]; done)) ?_
    exact endQ (Or.inr rfl) (l := [vI 0, .bool false]) [rB [vN X, vN Y, vN Z, vS 0 A.length, vS 1 B.length, vS 2 C.length] 27] (by kernel_rfl) (by first | rfl | kernel_rfl) rfl rfl hcl rfl
  ·
    have h1k := h1
    (try simp only [Bool.not_eq_true', Bool.not_eq_false', decide_eq_true_eq, decide_eq_false_iff_not, beq_iff_eq, bne_iff_ne, beq_eq_false_iff_ne, bne_eq_false_iff_eq, ne_eq, Decidable.not_not, Bool.and_eq_true, Bool.and_eq_false_imp, Bool.or_eq_true, Bool.or_eq_false_iff, Bool.not_eq_true, Int.not_lt, Int.not_le, ge_iff_le, gt_iff_lt] at h1)
    refine cFalse (by kernel_rfl) ?_
    refine cSkip ?_
    refine kSeq ?_
    refine cSeq ?_
    refine cRegW (N := 4) [⟨[], [], []⟩, ⟨[], [], [3]⟩, ⟨[], [], [0]⟩, ⟨[], [], []⟩, ⟨[], [], [3]⟩, ⟨[], [], [1]⟩, ⟨[], [], []⟩, ⟨[], [], [3]⟩, ⟨[], [], [2]⟩, ⟨[], [], []⟩, ⟨[], [], []⟩, ⟨[], [], []⟩, ⟨[], [], []⟩] 0 [] (by rfl) (by rfl) (by kernel_rfl) (by kernel_rfl) (by kernel_rfl) ⟨nmsF (flatNums _ _ _ _), ⟨nmsF (flatNums _ _ _ _), ⟨nmsF (flatNums _ _ _ _), ⟨nmsX (by kernel_rfl), trivial⟩⟩⟩⟩ ?_
    refine segWH 2 (T1 := (mkT 18 [(1, vP 3 0), (6, .bool false), (7, vP 3 3), (8, vS 0 A.length)])) (by kernel_rfl) ?_
    refine rW (m := ⟨[], [], [0]⟩) (v := vI (sumT A A.length)) rfl (by kernel_rfl) (stQ (args := [vS 0 A.length]) rfl (by kernel_rfl) (Any.lay0 [0] (l3LitB A (by first | omega | assumption | (simp; done) | (simp; omega)) (by first | exact (shad_of ‹_›).1.2 | exact (shad_of ‹_›).2.1.2 | exact (shad_of ‹_›).2.2.2)) ⟨rdF false (flatNums _ _ _ _) rfl rfl, trivial⟩ rfl ⟨clF (flatNums _ _ _ _), trivial⟩ rfl (by first | rfl | simp [mpV, mpA, mpS, mpP, renId, shift]) rfl) rfl (by kernel_rfl) (by kernel_rfl)) (by kernel_rfl) nr0 ?_
    refine segWH 2 (T1 := (mkT 18 [(1, vP 3 0), (6, .bool false), (7, vP 3 3), (8, vS 0 A.length), (9, vI (sumT A A.length)), (10, vP 3 4), (11, vS 1 B.length)])) (by kernel_rfl) ?_
    refine rW (m := ⟨[], [], [1]⟩) (v := vI (sumT B B.length)) rfl (by kernel_rfl) (stQ (args := [vS 1 B.length]) rfl (by kernel_rfl) (Any.lay0 [1] (l3LitB B (by first | omega | assumption | (simp; done) | (simp; omega)) (by first | exact (shad_of ‹_›).1.2 | exact (shad_of ‹_›).2.1.2 | exact (shad_of ‹_›).2.2.2)) ⟨rdF false (flatNums _ _ _ _) rfl rfl, trivial⟩ rfl ⟨clF (flatNums _ _ _ _), trivial⟩ rfl (by first | rfl | simp [mpV, mpA, mpS, mpP, renId, shift]) rfl) rfl (by kernel_rfl) (by kernel_rfl)) (by kernel_rfl) nr0 ?_
    refine segWH 2 (T1 := (mkT 18 [(1, vP 3 0), (6, .bool false), (7, vP 3 3), (8, vS 0 A.length), (9, vI (sumT A A.length)), (10, vP 3 4), (11, vS 1 B.length), (12, vI (sumT B B.length)), (13, vP 3 5), (14, vS 2 C.length)])) (by kernel_rfl) ?_
    refine rW (m := ⟨[], [], [2]⟩) (v := vI (sumT C C.length)) rfl (by kernel_rfl) (stQ (args := [vS 2 C.length]) rfl (by kernel_rfl) (Any.lay0 [2] (l3LitB C (by first | omega | assumption | (simp; done) | (simp; omega)) (by first | exact (shad_of ‹_›).1.2 | exact (shad_of ‹_›).2.1.2 | exact (shad_of ‹_›).2.2.2)) ⟨rdF false (flatNums _ _ _ _) rfl rfl, trivial⟩ rfl ⟨clF (flatNums _ _ _ _), trivial⟩ rfl (by first | rfl | simp [mpV, mpA, mpS, mpP, renId, shift]) rfl) rfl (by kernel_rfl) (by kernel_rfl)) (by kernel_rfl) nr0 ?_
    refine rW (m := ⟨[], [], []⟩) (v := vI (mxI (sumT B B.length) (sumT C C.length))) rfl (by kernel_rfl) (stQ (args := [vI (sumT B B.length), vI (sumT C C.length)]) rfl (by kernel_rfl) (Any.lay0 [] (l1MostB (sumT B B.length) (sumT C C.length)) trivial rfl trivial rfl (by first | rfl | simp [mpV, mpA, mpS, mpP, renId, shift]) rfl) rfl (by kernel_rfl) (by kernel_rfl)) (by kernel_rfl) nr0 ?_
    refine rW (m := ⟨[], [], []⟩) (v := vI (mxI (sumT A A.length) (mxI (sumT B B.length) (sumT C C.length)))) rfl (by kernel_rfl) (stQ (args := [vI (sumT A A.length), vI (mxI (sumT B B.length) (sumT C C.length))]) rfl (by kernel_rfl) (Any.lay0 [] (l1MostB (sumT A A.length) (mxI (sumT B B.length) (sumT C C.length))) trivial rfl trivial rfl (by first | rfl | simp [mpV, mpA, mpS, mpP, renId, shift]) rfl) rfl (by kernel_rfl) (by kernel_rfl)) (by kernel_rfl) nr0 ?_
    refine segEndWH [2, 3] (T1 := (mkT 18 [(2, vI (mxI (sumT A A.length) (mxI (sumT B B.length) (sumT C C.length)))), (3, .bool true)])) (by kernel_rfl) ?_
    refine kSeq ?_
    refine cRet ?_
    -- end
    have he0 : (mxI (sumT A A.length) (mxI (sumT B B.length) (sumT C C.length)) : Int) = lbS X Y Z A B C := by first | (symm; assumption) | exact lbS_no ‹_› | exact lbS_spec ‹_› | exact lbS_impl ‹_› hm | (rw [lbS_no ‹_›]; done)
    have he1 : (true : Bool) = shadB X Y Z A B C := by first | (symm; assumption) | exact lbS_no ‹_› | exact lbS_spec ‹_› | exact lbS_impl ‹_› hm | (rw [lbS_no ‹_›]; done)
    refine endCast (v1 := .tuple #[vI (mxI (sumT A A.length) (mxI (sumT B B.length) (sumT C C.length))), .bool true]) (H1 := [some ⟨nums A, 3, false, false⟩, some ⟨nums B, 3, false, false⟩, some ⟨nums C, 3, false, false⟩]) (by first | rfl | ((try rw [← he0]); (try rw [← he1]); done) | (simp only [← he0, ← he1]; done)) (by first | rfl | ((try rw [← he0]); (try rw [← he1]); done) | (simp only [← he0, ← he1]; done)) ?_
    exact endQ (Or.inr rfl) (l := [vI (mxI (sumT A A.length) (mxI (sumT B B.length) (sumT C C.length))), .bool true]) [rB [vN X, vN Y, vN Z, vS 0 A.length, vS 1 B.length, vS 2 C.length] 27] (by kernel_rfl) (by first | rfl | kernel_rfl) rfl rfl hcl rfl

set_option maxRecDepth 100000 in
set_option maxHeartbeats 4000000 in
theorem implLineBound_yes (X : Nat) (Y : Nat) (Z : Nat) (A : List Int) (B : List Int) (C : List Int) (hs : Sides X Y Z) (hA : A.length ≤ 1048576) (hB : B.length ≤ 1048576) (hC : C.length ≤ 1048576) : Sound Try.prog 26 [.agg #[vN X, vN Y, vN Z, vS 0 A.length, vS 1 B.length, vS 2 C.length]] [some ⟨nums A, 3, false, false⟩, some ⟨nums B, 3, false, false⟩, some ⟨nums C, 3, false, false⟩] (.tuple #[vI (lbS X Y Z A B C), .bool (shadB X Y Z A B C)]) [some ⟨nums A, 3, false, false⟩, some ⟨nums B, 3, false, false⟩, some ⟨nums C, 3, false, false⟩] := by
  refine sound_intro (C := cx) Try.func26 rfl (by kernel_rfl) fun hcl => ?_
  refine cSeq ?_
  refine cReg ?_
  refine segEnd [1] (T1 := (mkT 32 [(1, vP 3 0)])) (H1 := [some ⟨nums A, 3, false, false⟩, some ⟨nums B, 3, false, false⟩, some ⟨nums C, 3, false, false⟩, rB [vN X, vN Y, vN Z, vS 0 A.length, vS 1 B.length, vS 2 C.length] 27]) (by kernel_rfl) ?_
  refine kSeq ?_
  refine cSeq ?_
  refine cSeq ?_
  refine cReg ?_
  refine segH 1 (T1 := (mkT 32 [(1, vP 3 0), (9, .agg #[vN X, vN Y, vN Z, vS 0 A.length, vS 1 B.length, vS 2 C.length])])) (by kernel_rfl) ?_
  refine rCall (v := .bool (shadB X Y Z A B C)) (args := [.agg #[vN X, vN Y, vN Z, vS 0 A.length, vS 1 B.length, vS 2 C.length]]) (by kernel_rfl) rfl (by kernel_rfl) (Sound.lay0 [0, 1, 2] (isShadowB_yes X Y Z A B C (by first | assumption | omega | rfl | decide | exact HeapL.list _ _ _ _ | exact HeapL.nil _ _ _ | exact HeapL.all _ _ _ | (apply HeapL.lt64 <;> assumption) | (repeat' (first | assumption | apply or_lt64 | apply and_lt64 | apply andn_lt64 | apply pow_lt64 | (apply HeapL.lt64 <;> assumption)))) (by first | omega | assumption | (simp; done)) (by first | omega | assumption | (simp; done)) (by first | omega | assumption | (simp; done))) ⟨rdF false (flatNums _ _ _ _) rfl rfl, ⟨rdF false (flatNums _ _ _ _) rfl rfl, ⟨rdF false (flatNums _ _ _ _) rfl rfl, trivial⟩⟩⟩ rfl ⟨clF (flatNums _ _ _ _), ⟨clF (flatNums _ _ _ _), ⟨clF (flatNums _ _ _ _), trivial⟩⟩⟩ rfl (by first | rfl | simp [mpV, mpA, mpS, mpP, renId, shift]) rfl) ?_
  refine segEndH [1, 11] (T1 := (mkT 32 [(1, vP 3 0), (11, .bool (!(shadB X Y Z A B C)))])) (by kernel_rfl) ?_
  refine kSeq ?_
  cases h1 : (shadB X Y Z A B C : Bool)
  ·
    have h1k := h1
    (try simp only [Bool.not_eq_true', Bool.not_eq_false', decide_eq_true_eq, decide_eq_false_iff_not, beq_iff_eq, bne_iff_ne, beq_eq_false_iff_ne, bne_eq_false_iff_eq, ne_eq, Decidable.not_not, Bool.and_eq_true, Bool.and_eq_false_imp, Bool.or_eq_true, Bool.or_eq_false_iff, Bool.not_eq_true, Int.not_lt, Int.not_le, ge_iff_le, gt_iff_lt] at h1)
    refine cTrue (by kernel_rfl) ?_
    refine cSeq ?_
    refine cReg ?_
    refine segEndH [2, 3] (T1 := (mkT 32 [(2, vI 0), (3, .bool false)])) (by kernel_rfl) ?_
    refine kSeq ?_
    refine cRet ?_
    refine kSeqR ?_
    -- end
    have he0 : (0 : Int) = lbS X Y Z A B C := by first | (symm; assumption) | exact lbS_no ‹_› | exact lbS_spec ‹_› | exact lbS_impl ‹_› hm | (rw [lbS_no ‹_›]; done)
    have he1 : (false : Bool) = shadB X Y Z A B C := by first | (symm; assumption) | exact lbS_no ‹_› | exact lbS_spec ‹_› | exact lbS_impl ‹_› hm | (rw [lbS_no ‹_›]; done)
    refine endCast (v1 := .tuple #[vI 0, .bool false]) (H1 := [some ⟨nums A, 3, false, false⟩, some ⟨nums B, 3, false, false⟩, some ⟨nums C, 3, false, false⟩]) (by first | rfl | ((try rw [← he0]); (try rw [← he1]); done) | (simp only [← he0, ← he1]; done)) (by first | rfl | ((try rw [← he0]); (try rw [← he1]); done) | (simp only [← he0, ← he1]; done)) ?_
    exact endQ (Or.inr rfl) (l := [vI 0, .bool false]) [rB [vN X, vN Y, vN Z, vS 0 A.length, vS 1 B.length, vS 2 C.length] 27] (by kernel_rfl) (by first | rfl | kernel_rfl) rfl rfl hcl rfl
  ·
    have h1k := h1
    (try simp only [Bool.not_eq_true', Bool.not_eq_false', decide_eq_true_eq, decide_eq_false_iff_not, beq_iff_eq, bne_iff_ne, beq_eq_false_iff_ne, bne_eq_false_iff_eq, ne_eq, Decidable.not_not, Bool.and_eq_true, Bool.and_eq_false_imp, Bool.or_eq_true, Bool.or_eq_false_iff, Bool.not_eq_true, Int.not_lt, Int.not_le, ge_iff_le, gt_iff_lt] at h1)
    have hw := shad_of h1
    refine cFalse (by kernel_rfl) ?_
    refine cSkip ?_
    refine kSeq ?_
    refine cSeq ?_
    refine cReg ?_
    refine segEndH [1, 4] (T1 := (mkT 32 [(1, vP 3 0), (4, vI 0)])) (by kernel_rfl) ?_
    refine kSeq ?_
    refine cSeq ?_
    refine cSeq ?_
    refine cReg ?_
    refine segEndH [1, 4, 12] (T1 := (mkT 32 [(1, vP 3 0), (4, vI 0), (12, vI 0)])) (by kernel_rfl) ?_
    refine kSeq ?_
    refine cBlk ?_
    -- loop
    refine cLoop (fun mm T H => ∃ d : Nat, ∃ m : Int, (d ≤ 3) ∧ (m = lbT A B C d) ∧ mm = 3 - d ∧ T = (mkT 32 [(1, vP 3 0), (4, vI m), (12, vN d)]) ∧ H = [some ⟨nums A, 3, false, false⟩, some ⟨nums B, 3, false, false⟩, some ⟨nums C, 3, false, false⟩, rB [vN X, vN Y, vN Z, vS 0 A.length, vS 1 B.length, vS 2 C.length] 27]) (3 - 0) (mkT 32 [(1, vP 3 0), (4, vI 0), (12, vI 0)]) [some ⟨nums A, 3, false, false⟩, some ⟨nums B, 3, false, false⟩, some ⟨nums C, 3, false, false⟩, rB [vN X, vN Y, vN Z, vS 0 A.length, vS 1 B.length, vS 2 C.length] 27] (wkSame [1, 4, 12] (by kernel_rfl)) ?_ ?_
    · exact ⟨0, 0, (Nat.zero_le _), (rfl), rfl, rfl, rfl⟩
    · rintro _ _ _ ⟨d, m, hd, hm, rfl, rfl, rfl⟩
      have hcase : d = 0 ∨ d = 1 ∨ d = 2 ∨ d = 3 := by omega
      rcases hcase with rfl | rfl | rfl | rfl
      ·
        refine cSeq ?_
        refine cReg ?_
        refine segEndH [1, 4, 12, 13] (T1 := (mkT 32 [(1, vP 3 0), (4, vI m), (12, vI 0), (13, .bool true)])) (by kernel_rfl) ?_
        refine kSeq ?_
        refine cSeq ?_
        refine cTrue (by kernel_rfl) ?_
        refine cSkip ?_
        refine kSeq ?_
        refine cSeq ?_
        refine cBlk ?_
        refine cSeq ?_
        refine cReg ?_
        refine segEndH [1, 4, 5, 12] (T1 := (mkT 32 [(1, vP 3 0), (4, vI m), (5, vI 0), (12, vI 0)])) (by kernel_rfl) ?_
        refine kSeq ?_
        refine cSeq ?_
        refine cReg ?_
        refine segEndH [1, 4, 5, 6, 12] (T1 := (mkT 32 [(1, vP 3 0), (4, vI m), (5, vI 0), (6, vI 0), (12, vI 0)])) (by kernel_rfl) ?_
        refine kSeq ?_
        refine cSeq ?_
        refine cSeq ?_
        refine cReg ?_
        refine segH 2 (T1 := (mkT 32 [(1, vP 3 0), (4, vI m), (5, vI 0), (6, vI 0), (12, vI 0), (15, .agg #[vN X, vN Y, vN Z, vS 0 A.length, vS 1 B.length, vS 2 C.length]), (16, vI 0)])) (by kernel_rfl) ?_
        refine rCall (v := vS 2 C.length) (args := [.agg #[vN X, vN Y, vN Z, vS 0 A.length, vS 1 B.length, vS 2 C.length], vI 0]) (by kernel_rfl) rfl (by kernel_rfl) (Sound.lay0 [0, 1, 2] (shList0 ((X : Nat) : Int) ((Y : Nat) : Int) ((Z : Nat) : Int) A B C) ⟨rdF false (flatNums _ _ _ _) rfl rfl, ⟨rdF false (flatNums _ _ _ _) rfl rfl, ⟨rdF false (flatNums _ _ _ _) rfl rfl, trivial⟩⟩⟩ rfl ⟨clF (flatNums _ _ _ _), ⟨clF (flatNums _ _ _ _), ⟨clF (flatNums _ _ _ _), trivial⟩⟩⟩ rfl (by first | rfl | simp [mpV, mpA, mpS, mpP, renId, shift]) rfl) ?_
        refine segEndH [1, 4, 6, 12, 17, 18, 19] (T1 := (mkT 32 [(1, vP 3 0), (4, vI m), (6, vI 0), (12, vI 0), (17, vS 2 C.length), (18, vN C.length), (19, vI 0)])) (by kernel_rfl) ?_
        refine kSeq ?_
        refine cBlk ?_
        -- loop
        refine cLoop (fun mm T H => ∃ i : Nat, ∃ s : Int, (i ≤ C.length) ∧ (s = sumT C i) ∧ (0 ≤ s ∧ s ≤ (i : Int)) ∧ mm = C.length - i ∧ T = (mkT 32 [(1, vP 3 0), (4, vI m), (6, vI s), (12, vI 0), (17, vS 2 C.length), (18, vN C.length), (19, vN i)]) ∧ H = [some ⟨nums A, 3, false, false⟩, some ⟨nums B, 3, false, false⟩, some ⟨nums C, 3, false, false⟩, rB [vN X, vN Y, vN Z, vS 0 A.length, vS 1 B.length, vS 2 C.length] 27]) (C.length - 0) (mkT 32 [(1, vP 3 0), (4, vI m), (6, vI 0), (12, vI 0), (17, vS 2 C.length), (18, vN C.length), (19, vI 0)]) [some ⟨nums A, 3, false, false⟩, some ⟨nums B, 3, false, false⟩, some ⟨nums C, 3, false, false⟩, rB [vN X, vN Y, vN Z, vS 0 A.length, vS 1 B.length, vS 2 C.length] 27] (wkSame [1, 4, 6, 12, 17, 18, 19] (by kernel_rfl)) ?_ ?_
        · exact ⟨0, 0, (Nat.zero_le _), (rfl), (by omega), rfl, rfl, rfl⟩
        · rintro _ _ _ ⟨i, s, hir, hs1, hb, rfl, rfl, rfl⟩
          refine cSeq ?_
          refine cReg ?_
          refine segEndH [1, 4, 6, 12, 17, 18, 19, 20] (T1 := (mkT 32 [(1, vP 3 0), (4, vI m), (6, vI s), (12, vI 0), (17, vS 2 C.length), (18, vN C.length), (19, vN i), (20, .bool (decide (((i : Nat) : Int) < ((C.length : Nat) : Int))))])) (by kernel_rfl) ?_
          refine kSeq ?_
          refine cSeq ?_
          cases h2 : (decide (((i : Nat) : Int) < ((C.length : Nat) : Int)) : Bool)
          ·
            have h2k := h2
            (try simp only [Bool.not_eq_true', Bool.not_eq_false', decide_eq_true_eq, decide_eq_false_iff_not, beq_iff_eq, bne_iff_ne, beq_eq_false_iff_ne, bne_eq_false_iff_eq, ne_eq, Decidable.not_not, Bool.and_eq_true, Bool.and_eq_false_imp, Bool.or_eq_true, Bool.or_eq_false_iff, Bool.not_eq_true, Int.not_lt, Int.not_le, ge_iff_le, gt_iff_lt] at h2)
            refine cFalse (by kernel_rfl) ?_
            refine cExit ?_
            refine kSeqE ?_
            refine kLoopE ?_
            refine kBlkHit ?_
            refine kSeq ?_
            refine cReg ?_
            refine segEndH [1, 4, 12] (T1 := (mkT 32 [(1, vP 3 0), (4, vI (if m < s then s else m)), (12, vI 0)])) (by kernel_rfl) ?_
            refine kBlk ?_
            refine kSeq ?_
            refine cReg ?_
            refine segEndH [1, 4, 12] (T1 := (mkT 32 [(1, vP 3 0), (4, vI (if m < s then s else m)), (12, vI 1)])) (by kernel_rfl) ?_
            exact kLoop (3 - 1) (mkT 32 [(1, vP 3 0), (4, vI (if m < s then s else m)), (12, vI 1)]) [some ⟨nums A, 3, false, false⟩, some ⟨nums B, 3, false, false⟩, some ⟨nums C, 3, false, false⟩, rB [vN X, vN Y, vN Z, vS 0 A.length, vS 1 B.length, vS 2 C.length] 27] (by omega) (wkSame [1, 4, 12] (by kernel_rfl)) ⟨1, (if m < s then s else m), (by omega), (by (rw [hs1, hm, show i = C.length by omega]; rfl)), rfl, rfl, rfl⟩
          ·
            have h2k := h2
            (try simp only [Bool.not_eq_true', Bool.not_eq_false', decide_eq_true_eq, decide_eq_false_iff_not, beq_iff_eq, bne_iff_ne, beq_eq_false_iff_ne, bne_eq_false_iff_eq, ne_eq, Decidable.not_not, Bool.and_eq_true, Bool.and_eq_false_imp, Bool.or_eq_true, Bool.or_eq_false_iff, Bool.not_eq_true, Int.not_lt, Int.not_le, ge_iff_le, gt_iff_lt] at h2)
            have hc0 := allB_get hw.2.2.2 (i := i) (by omega)
            refine cTrue (by kernel_rfl) ?_
            refine cSkip ?_
            refine kSeq ?_
            refine cSeq ?_
            refine cBlk ?_
            refine cSeq ?_
            refine cReg ?_
            refine rOp (v := vP 2 i) (by kernel_rfl) (eIdxS (ad := ⟨2, 0, none⟩) (n := C.length) (m := 0) (k := .i64) (c := ((i : Nat) : Int)) (j := i) (o := i) (by kernel_rfl) (by kernel_rfl) ti22 ti3 (rfl) (by omega) (by simp)) ?_
            refine rOp (v := vI (C.getD i 0)) (by kernel_rfl) (eLdNum (ad := ⟨2, i, none⟩) (r := ⟨nums C, 3, false, false⟩) (L := C) (j := i) (by kernel_rfl) (by kernel_rfl) rfl (by first | rfl | omega) (by omega) ti3 rfl) ?_
            refine segEndH [1, 4, 6, 8, 12, 17, 18, 19] (T1 := (mkT 32 [(1, vP 3 0), (4, vI m), (6, vI s), (8, vI (C.getD i 0)), (12, vI 0), (17, vS 2 C.length), (18, vN C.length), (19, vN i)])) (by kernel_rfl) ?_
            refine kSeq ?_
            refine cReg ?_
            refine segH 2 (T1 := (mkT 32 [(1, vP 3 0), (4, vI m), (6, vI s), (8, vI (C.getD i 0)), (12, vI 0), (17, vS 2 C.length), (18, vN C.length), (19, vN i), (23, vI s), (24, vI (C.getD i 0))])) (by kernel_rfl) ?_
            refine rOp (v := vI (s + (C.getD i 0))) (by kernel_rfl) (eAdd (k := .i64) (a := s) (b := (C.getD i 0)) (c := (s + (C.getD i 0))) (by kernel_rfl) (by kernel_rfl) (wr64 (by omega) (by omega) (by omega))) ?_
            refine segEndH [1, 4, 6, 12, 17, 18, 19] (T1 := (mkT 32 [(1, vP 3 0), (4, vI m), (6, vI (s + (C.getD i 0))), (12, vI 0), (17, vS 2 C.length), (18, vN C.length), (19, vN i)])) (by kernel_rfl) ?_
            refine kBlk ?_
            refine kSeq ?_
            refine cReg ?_
            refine rOp (v := vN (i + 1)) (by kernel_rfl) (eAdd (k := .i64) (a := ((i : Nat) : Int)) (b := 1) (c := ((i + 1 : Nat) : Int)) (by kernel_rfl) (by kernel_rfl) (wr64 (by omega) (by omega) (by omega))) ?_
            refine segEndH [1, 4, 6, 12, 17, 18, 19] (T1 := (mkT 32 [(1, vP 3 0), (4, vI m), (6, vI (s + (C.getD i 0))), (12, vI 0), (17, vS 2 C.length), (18, vN C.length), (19, vN (i + 1))])) (by kernel_rfl) ?_
            exact kLoop (C.length - (i + 1)) (mkT 32 [(1, vP 3 0), (4, vI m), (6, vI (s + (C.getD i 0))), (12, vI 0), (17, vS 2 C.length), (18, vN C.length), (19, vN (i + 1))]) [some ⟨nums A, 3, false, false⟩, some ⟨nums B, 3, false, false⟩, some ⟨nums C, 3, false, false⟩, rB [vN X, vN Y, vN Z, vS 0 A.length, vS 1 B.length, vS 2 C.length] 27] (by omega) (wkSame [1, 4, 6, 12, 17, 18, 19] (by kernel_rfl)) ⟨(i + 1), (s + (C.getD i 0)), (by omega), (by rw [hs1]; rfl), (by omega), rfl, rfl, rfl⟩
      ·
        refine cSeq ?_
        refine cReg ?_
        refine segEndH [1, 4, 12, 13] (T1 := (mkT 32 [(1, vP 3 0), (4, vI m), (12, vI 1), (13, .bool true)])) (by kernel_rfl) ?_
        refine kSeq ?_
        refine cSeq ?_
        refine cTrue (by kernel_rfl) ?_
        refine cSkip ?_
        refine kSeq ?_
        refine cSeq ?_
        refine cBlk ?_
        refine cSeq ?_
        refine cReg ?_
        refine segEndH [1, 4, 5, 12] (T1 := (mkT 32 [(1, vP 3 0), (4, vI m), (5, vI 1), (12, vI 1)])) (by kernel_rfl) ?_
        refine kSeq ?_
        refine cSeq ?_
        refine cReg ?_
        refine segEndH [1, 4, 5, 6, 12] (T1 := (mkT 32 [(1, vP 3 0), (4, vI m), (5, vI 1), (6, vI 0), (12, vI 1)])) (by kernel_rfl) ?_
        refine kSeq ?_
        refine cSeq ?_
        refine cSeq ?_
        refine cReg ?_
        refine segH 2 (T1 := (mkT 32 [(1, vP 3 0), (4, vI m), (5, vI 1), (6, vI 0), (12, vI 1), (15, .agg #[vN X, vN Y, vN Z, vS 0 A.length, vS 1 B.length, vS 2 C.length]), (16, vI 1)])) (by kernel_rfl) ?_
        refine rCall (v := vS 1 B.length) (args := [.agg #[vN X, vN Y, vN Z, vS 0 A.length, vS 1 B.length, vS 2 C.length], vI 1]) (by kernel_rfl) rfl (by kernel_rfl) (Sound.lay0 [0, 1, 2] (shList1 ((X : Nat) : Int) ((Y : Nat) : Int) ((Z : Nat) : Int) A B C) ⟨rdF false (flatNums _ _ _ _) rfl rfl, ⟨rdF false (flatNums _ _ _ _) rfl rfl, ⟨rdF false (flatNums _ _ _ _) rfl rfl, trivial⟩⟩⟩ rfl ⟨clF (flatNums _ _ _ _), ⟨clF (flatNums _ _ _ _), ⟨clF (flatNums _ _ _ _), trivial⟩⟩⟩ rfl (by first | rfl | simp [mpV, mpA, mpS, mpP, renId, shift]) rfl) ?_
        refine segEndH [1, 4, 6, 12, 17, 18, 19] (T1 := (mkT 32 [(1, vP 3 0), (4, vI m), (6, vI 0), (12, vI 1), (17, vS 1 B.length), (18, vN B.length), (19, vI 0)])) (by kernel_rfl) ?_
        refine kSeq ?_
        refine cBlk ?_
        -- loop
        refine cLoop (fun mm T H => ∃ i : Nat, ∃ s : Int, (i ≤ B.length) ∧ (s = sumT B i) ∧ (0 ≤ s ∧ s ≤ (i : Int)) ∧ mm = B.length - i ∧ T = (mkT 32 [(1, vP 3 0), (4, vI m), (6, vI s), (12, vI 1), (17, vS 1 B.length), (18, vN B.length), (19, vN i)]) ∧ H = [some ⟨nums A, 3, false, false⟩, some ⟨nums B, 3, false, false⟩, some ⟨nums C, 3, false, false⟩, rB [vN X, vN Y, vN Z, vS 0 A.length, vS 1 B.length, vS 2 C.length] 27]) (B.length - 0) (mkT 32 [(1, vP 3 0), (4, vI m), (6, vI 0), (12, vI 1), (17, vS 1 B.length), (18, vN B.length), (19, vI 0)]) [some ⟨nums A, 3, false, false⟩, some ⟨nums B, 3, false, false⟩, some ⟨nums C, 3, false, false⟩, rB [vN X, vN Y, vN Z, vS 0 A.length, vS 1 B.length, vS 2 C.length] 27] (wkSame [1, 4, 6, 12, 17, 18, 19] (by kernel_rfl)) ?_ ?_
        · exact ⟨0, 0, (Nat.zero_le _), (rfl), (by omega), rfl, rfl, rfl⟩
        · rintro _ _ _ ⟨i, s, hir, hs1, hb, rfl, rfl, rfl⟩
          refine cSeq ?_
          refine cReg ?_
          refine segEndH [1, 4, 6, 12, 17, 18, 19, 20] (T1 := (mkT 32 [(1, vP 3 0), (4, vI m), (6, vI s), (12, vI 1), (17, vS 1 B.length), (18, vN B.length), (19, vN i), (20, .bool (decide (((i : Nat) : Int) < ((B.length : Nat) : Int))))])) (by kernel_rfl) ?_
          refine kSeq ?_
          refine cSeq ?_
          cases h3 : (decide (((i : Nat) : Int) < ((B.length : Nat) : Int)) : Bool)
          ·
            have h3k := h3
            (try simp only [Bool.not_eq_true', Bool.not_eq_false', decide_eq_true_eq, decide_eq_false_iff_not, beq_iff_eq, bne_iff_ne, beq_eq_false_iff_ne, bne_eq_false_iff_eq, ne_eq, Decidable.not_not, Bool.and_eq_true, Bool.and_eq_false_imp, Bool.or_eq_true, Bool.or_eq_false_iff, Bool.not_eq_true, Int.not_lt, Int.not_le, ge_iff_le, gt_iff_lt] at h3)
            refine cFalse (by kernel_rfl) ?_
            refine cExit ?_
            refine kSeqE ?_
            refine kLoopE ?_
            refine kBlkHit ?_
            refine kSeq ?_
            refine cReg ?_
            refine segEndH [1, 4, 12] (T1 := (mkT 32 [(1, vP 3 0), (4, vI (if m < s then s else m)), (12, vI 1)])) (by kernel_rfl) ?_
            refine kBlk ?_
            refine kSeq ?_
            refine cReg ?_
            refine segEndH [1, 4, 12] (T1 := (mkT 32 [(1, vP 3 0), (4, vI (if m < s then s else m)), (12, vI 2)])) (by kernel_rfl) ?_
            exact kLoop (3 - 2) (mkT 32 [(1, vP 3 0), (4, vI (if m < s then s else m)), (12, vI 2)]) [some ⟨nums A, 3, false, false⟩, some ⟨nums B, 3, false, false⟩, some ⟨nums C, 3, false, false⟩, rB [vN X, vN Y, vN Z, vS 0 A.length, vS 1 B.length, vS 2 C.length] 27] (by omega) (wkSame [1, 4, 12] (by kernel_rfl)) ⟨2, (if m < s then s else m), (by omega), (by (rw [hs1, hm, show i = B.length by omega]; rfl)), rfl, rfl, rfl⟩
          ·
            have h3k := h3
            (try simp only [Bool.not_eq_true', Bool.not_eq_false', decide_eq_true_eq, decide_eq_false_iff_not, beq_iff_eq, bne_iff_ne, beq_eq_false_iff_ne, bne_eq_false_iff_eq, ne_eq, Decidable.not_not, Bool.and_eq_true, Bool.and_eq_false_imp, Bool.or_eq_true, Bool.or_eq_false_iff, Bool.not_eq_true, Int.not_lt, Int.not_le, ge_iff_le, gt_iff_lt] at h3)
            have hc0 := allB_get hw.2.1.2 (i := i) (by omega)
            refine cTrue (by kernel_rfl) ?_
            refine cSkip ?_
            refine kSeq ?_
            refine cSeq ?_
            refine cBlk ?_
            refine cSeq ?_
            refine cReg ?_
            refine rOp (v := vP 1 i) (by kernel_rfl) (eIdxS (ad := ⟨1, 0, none⟩) (n := B.length) (m := 0) (k := .i64) (c := ((i : Nat) : Int)) (j := i) (o := i) (by kernel_rfl) (by kernel_rfl) ti22 ti3 (rfl) (by omega) (by simp)) ?_
            refine rOp (v := vI (B.getD i 0)) (by kernel_rfl) (eLdNum (ad := ⟨1, i, none⟩) (r := ⟨nums B, 3, false, false⟩) (L := B) (j := i) (by kernel_rfl) (by kernel_rfl) rfl (by first | rfl | omega) (by omega) ti3 rfl) ?_
            refine segEndH [1, 4, 6, 8, 12, 17, 18, 19] (T1 := (mkT 32 [(1, vP 3 0), (4, vI m), (6, vI s), (8, vI (B.getD i 0)), (12, vI 1), (17, vS 1 B.length), (18, vN B.length), (19, vN i)])) (by kernel_rfl) ?_
            refine kSeq ?_
            refine cReg ?_
            refine segH 2 (T1 := (mkT 32 [(1, vP 3 0), (4, vI m), (6, vI s), (8, vI (B.getD i 0)), (12, vI 1), (17, vS 1 B.length), (18, vN B.length), (19, vN i), (23, vI s), (24, vI (B.getD i 0))])) (by kernel_rfl) ?_
            refine rOp (v := vI (s + (B.getD i 0))) (by kernel_rfl) (eAdd (k := .i64) (a := s) (b := (B.getD i 0)) (c := (s + (B.getD i 0))) (by kernel_rfl) (by kernel_rfl) (wr64 (by omega) (by omega) (by omega))) ?_
            refine segEndH [1, 4, 6, 12, 17, 18, 19] (T1 := (mkT 32 [(1, vP 3 0), (4, vI m), (6, vI (s + (B.getD i 0))), (12, vI 1), (17, vS 1 B.length), (18, vN B.length), (19, vN i)])) (by kernel_rfl) ?_
            refine kBlk ?_
            refine kSeq ?_
            refine cReg ?_
            refine rOp (v := vN (i + 1)) (by kernel_rfl) (eAdd (k := .i64) (a := ((i : Nat) : Int)) (b := 1) (c := ((i + 1 : Nat) : Int)) (by kernel_rfl) (by kernel_rfl) (wr64 (by omega) (by omega) (by omega))) ?_
            refine segEndH [1, 4, 6, 12, 17, 18, 19] (T1 := (mkT 32 [(1, vP 3 0), (4, vI m), (6, vI (s + (B.getD i 0))), (12, vI 1), (17, vS 1 B.length), (18, vN B.length), (19, vN (i + 1))])) (by kernel_rfl) ?_
            exact kLoop (B.length - (i + 1)) (mkT 32 [(1, vP 3 0), (4, vI m), (6, vI (s + (B.getD i 0))), (12, vI 1), (17, vS 1 B.length), (18, vN B.length), (19, vN (i + 1))]) [some ⟨nums A, 3, false, false⟩, some ⟨nums B, 3, false, false⟩, some ⟨nums C, 3, false, false⟩, rB [vN X, vN Y, vN Z, vS 0 A.length, vS 1 B.length, vS 2 C.length] 27] (by omega) (wkSame [1, 4, 6, 12, 17, 18, 19] (by kernel_rfl)) ⟨(i + 1), (s + (B.getD i 0)), (by omega), (by rw [hs1]; rfl), (by omega), rfl, rfl, rfl⟩
      ·
        refine cSeq ?_
        refine cReg ?_
        refine segEndH [1, 4, 12, 13] (T1 := (mkT 32 [(1, vP 3 0), (4, vI m), (12, vI 2), (13, .bool true)])) (by kernel_rfl) ?_
        refine kSeq ?_
        refine cSeq ?_
        refine cTrue (by kernel_rfl) ?_
        refine cSkip ?_
        refine kSeq ?_
        refine cSeq ?_
        refine cBlk ?_
        refine cSeq ?_
        refine cReg ?_
        refine segEndH [1, 4, 5, 12] (T1 := (mkT 32 [(1, vP 3 0), (4, vI m), (5, vI 2), (12, vI 2)])) (by kernel_rfl) ?_
        refine kSeq ?_
        refine cSeq ?_
        refine cReg ?_
        refine segEndH [1, 4, 5, 6, 12] (T1 := (mkT 32 [(1, vP 3 0), (4, vI m), (5, vI 2), (6, vI 0), (12, vI 2)])) (by kernel_rfl) ?_
        refine kSeq ?_
        refine cSeq ?_
        refine cSeq ?_
        refine cReg ?_
        refine segH 2 (T1 := (mkT 32 [(1, vP 3 0), (4, vI m), (5, vI 2), (6, vI 0), (12, vI 2), (15, .agg #[vN X, vN Y, vN Z, vS 0 A.length, vS 1 B.length, vS 2 C.length]), (16, vI 2)])) (by kernel_rfl) ?_
        refine rCall (v := vS 0 A.length) (args := [.agg #[vN X, vN Y, vN Z, vS 0 A.length, vS 1 B.length, vS 2 C.length], vI 2]) (by kernel_rfl) rfl (by kernel_rfl) (Sound.lay0 [0, 1, 2] (shList2 ((X : Nat) : Int) ((Y : Nat) : Int) ((Z : Nat) : Int) A B C) ⟨rdF false (flatNums _ _ _ _) rfl rfl, ⟨rdF false (flatNums _ _ _ _) rfl rfl, ⟨rdF false (flatNums _ _ _ _) rfl rfl, trivial⟩⟩⟩ rfl ⟨clF (flatNums _ _ _ _), ⟨clF (flatNums _ _ _ _), ⟨clF (flatNums _ _ _ _), trivial⟩⟩⟩ rfl (by first | rfl | simp [mpV, mpA, mpS, mpP, renId, shift]) rfl) ?_
        refine segEndH [1, 4, 6, 12, 17, 18, 19] (T1 := (mkT 32 [(1, vP 3 0), (4, vI m), (6, vI 0), (12, vI 2), (17, vS 0 A.length), (18, vN A.length), (19, vI 0)])) (by kernel_rfl) ?_
        refine kSeq ?_
        refine cBlk ?_
        -- loop
        refine cLoop (fun mm T H => ∃ i : Nat, ∃ s : Int, (i ≤ A.length) ∧ (s = sumT A i) ∧ (0 ≤ s ∧ s ≤ (i : Int)) ∧ mm = A.length - i ∧ T = (mkT 32 [(1, vP 3 0), (4, vI m), (6, vI s), (12, vI 2), (17, vS 0 A.length), (18, vN A.length), (19, vN i)]) ∧ H = [some ⟨nums A, 3, false, false⟩, some ⟨nums B, 3, false, false⟩, some ⟨nums C, 3, false, false⟩, rB [vN X, vN Y, vN Z, vS 0 A.length, vS 1 B.length, vS 2 C.length] 27]) (A.length - 0) (mkT 32 [(1, vP 3 0), (4, vI m), (6, vI 0), (12, vI 2), (17, vS 0 A.length), (18, vN A.length), (19, vI 0)]) [some ⟨nums A, 3, false, false⟩, some ⟨nums B, 3, false, false⟩, some ⟨nums C, 3, false, false⟩, rB [vN X, vN Y, vN Z, vS 0 A.length, vS 1 B.length, vS 2 C.length] 27] (wkSame [1, 4, 6, 12, 17, 18, 19] (by kernel_rfl)) ?_ ?_
        · exact ⟨0, 0, (Nat.zero_le _), (rfl), (by omega), rfl, rfl, rfl⟩
        · rintro _ _ _ ⟨i, s, hir, hs1, hb, rfl, rfl, rfl⟩
          refine cSeq ?_
          refine cReg ?_
          refine segEndH [1, 4, 6, 12, 17, 18, 19, 20] (T1 := (mkT 32 [(1, vP 3 0), (4, vI m), (6, vI s), (12, vI 2), (17, vS 0 A.length), (18, vN A.length), (19, vN i), (20, .bool (decide (((i : Nat) : Int) < ((A.length : Nat) : Int))))])) (by kernel_rfl) ?_
          refine kSeq ?_
          refine cSeq ?_
          cases h4 : (decide (((i : Nat) : Int) < ((A.length : Nat) : Int)) : Bool)
          ·
            have h4k := h4
            (try simp only [Bool.not_eq_true', Bool.not_eq_false', decide_eq_true_eq, decide_eq_false_iff_not, beq_iff_eq, bne_iff_ne, beq_eq_false_iff_ne, bne_eq_false_iff_eq, ne_eq, Decidable.not_not, Bool.and_eq_true, Bool.and_eq_false_imp, Bool.or_eq_true, Bool.or_eq_false_iff, Bool.not_eq_true, Int.not_lt, Int.not_le, ge_iff_le, gt_iff_lt] at h4)
            refine cFalse (by kernel_rfl) ?_
            refine cExit ?_
            refine kSeqE ?_
            refine kLoopE ?_
            refine kBlkHit ?_
            refine kSeq ?_
            refine cReg ?_
            refine segEndH [1, 4, 12] (T1 := (mkT 32 [(1, vP 3 0), (4, vI (if m < s then s else m)), (12, vI 2)])) (by kernel_rfl) ?_
            refine kBlk ?_
            refine kSeq ?_
            refine cReg ?_
            refine segEndH [1, 4, 12] (T1 := (mkT 32 [(1, vP 3 0), (4, vI (if m < s then s else m)), (12, vI 3)])) (by kernel_rfl) ?_
            exact kLoop (3 - 3) (mkT 32 [(1, vP 3 0), (4, vI (if m < s then s else m)), (12, vI 3)]) [some ⟨nums A, 3, false, false⟩, some ⟨nums B, 3, false, false⟩, some ⟨nums C, 3, false, false⟩, rB [vN X, vN Y, vN Z, vS 0 A.length, vS 1 B.length, vS 2 C.length] 27] (by omega) (wkSame [1, 4, 12] (by kernel_rfl)) ⟨3, (if m < s then s else m), (by omega), (by (rw [hs1, hm, show i = A.length by omega]; rfl)), rfl, rfl, rfl⟩
          ·
            have h4k := h4
            (try simp only [Bool.not_eq_true', Bool.not_eq_false', decide_eq_true_eq, decide_eq_false_iff_not, beq_iff_eq, bne_iff_ne, beq_eq_false_iff_ne, bne_eq_false_iff_eq, ne_eq, Decidable.not_not, Bool.and_eq_true, Bool.and_eq_false_imp, Bool.or_eq_true, Bool.or_eq_false_iff, Bool.not_eq_true, Int.not_lt, Int.not_le, ge_iff_le, gt_iff_lt] at h4)
            have hc0 := allB_get hw.1.2 (i := i) (by omega)
            refine cTrue (by kernel_rfl) ?_
            refine cSkip ?_
            refine kSeq ?_
            refine cSeq ?_
            refine cBlk ?_
            refine cSeq ?_
            refine cReg ?_
            refine rOp (v := vP 0 i) (by kernel_rfl) (eIdxS (ad := ⟨0, 0, none⟩) (n := A.length) (m := 0) (k := .i64) (c := ((i : Nat) : Int)) (j := i) (o := i) (by kernel_rfl) (by kernel_rfl) ti22 ti3 (rfl) (by omega) (by simp)) ?_
            refine rOp (v := vI (A.getD i 0)) (by kernel_rfl) (eLdNum (ad := ⟨0, i, none⟩) (r := ⟨nums A, 3, false, false⟩) (L := A) (j := i) (by kernel_rfl) (by kernel_rfl) rfl (by first | rfl | omega) (by omega) ti3 rfl) ?_
            refine segEndH [1, 4, 6, 8, 12, 17, 18, 19] (T1 := (mkT 32 [(1, vP 3 0), (4, vI m), (6, vI s), (8, vI (A.getD i 0)), (12, vI 2), (17, vS 0 A.length), (18, vN A.length), (19, vN i)])) (by kernel_rfl) ?_
            refine kSeq ?_
            refine cReg ?_
            refine segH 2 (T1 := (mkT 32 [(1, vP 3 0), (4, vI m), (6, vI s), (8, vI (A.getD i 0)), (12, vI 2), (17, vS 0 A.length), (18, vN A.length), (19, vN i), (23, vI s), (24, vI (A.getD i 0))])) (by kernel_rfl) ?_
            refine rOp (v := vI (s + (A.getD i 0))) (by kernel_rfl) (eAdd (k := .i64) (a := s) (b := (A.getD i 0)) (c := (s + (A.getD i 0))) (by kernel_rfl) (by kernel_rfl) (wr64 (by omega) (by omega) (by omega))) ?_
            refine segEndH [1, 4, 6, 12, 17, 18, 19] (T1 := (mkT 32 [(1, vP 3 0), (4, vI m), (6, vI (s + (A.getD i 0))), (12, vI 2), (17, vS 0 A.length), (18, vN A.length), (19, vN i)])) (by kernel_rfl) ?_
            refine kBlk ?_
            refine kSeq ?_
            refine cReg ?_
            refine rOp (v := vN (i + 1)) (by kernel_rfl) (eAdd (k := .i64) (a := ((i : Nat) : Int)) (b := 1) (c := ((i + 1 : Nat) : Int)) (by kernel_rfl) (by kernel_rfl) (wr64 (by omega) (by omega) (by omega))) ?_
            refine segEndH [1, 4, 6, 12, 17, 18, 19] (T1 := (mkT 32 [(1, vP 3 0), (4, vI m), (6, vI (s + (A.getD i 0))), (12, vI 2), (17, vS 0 A.length), (18, vN A.length), (19, vN (i + 1))])) (by kernel_rfl) ?_
            exact kLoop (A.length - (i + 1)) (mkT 32 [(1, vP 3 0), (4, vI m), (6, vI (s + (A.getD i 0))), (12, vI 2), (17, vS 0 A.length), (18, vN A.length), (19, vN (i + 1))]) [some ⟨nums A, 3, false, false⟩, some ⟨nums B, 3, false, false⟩, some ⟨nums C, 3, false, false⟩, rB [vN X, vN Y, vN Z, vS 0 A.length, vS 1 B.length, vS 2 C.length] 27] (by omega) (wkSame [1, 4, 6, 12, 17, 18, 19] (by kernel_rfl)) ⟨(i + 1), (s + (A.getD i 0)), (by omega), (by rw [hs1]; rfl), (by omega), rfl, rfl, rfl⟩
      ·
        refine cSeq ?_
        refine cReg ?_
        refine segEndH [1, 4, 12, 13] (T1 := (mkT 32 [(1, vP 3 0), (4, vI m), (12, vI 3), (13, .bool false)])) (by kernel_rfl) ?_
        refine kSeq ?_
        refine cSeq ?_
        refine cFalse (by kernel_rfl) ?_
        refine cExit ?_
        refine kSeqE ?_
        refine kLoopE ?_
        refine kBlkHit ?_
        refine kSeq ?_
        refine cSeq ?_
        refine cReg ?_
        refine segEndH [2, 3] (T1 := (mkT 32 [(2, vI m), (3, .bool true)])) (by kernel_rfl) ?_
        refine kSeq ?_
        refine cRet ?_
        -- end
        have he0 : (m : Int) = lbS X Y Z A B C := by first | (symm; assumption) | exact lbS_no ‹_› | exact lbS_spec ‹_› | exact lbS_impl ‹_› hm | (rw [lbS_no ‹_›]; done)
        have he1 : (true : Bool) = shadB X Y Z A B C := by first | (symm; assumption) | exact lbS_no ‹_› | exact lbS_spec ‹_› | exact lbS_impl ‹_› hm | (rw [lbS_no ‹_›]; done)
        refine endCast (v1 := .tuple #[vI m, .bool true]) (H1 := [some ⟨nums A, 3, false, false⟩, some ⟨nums B, 3, false, false⟩, some ⟨nums C, 3, false, false⟩]) (by first | rfl | ((try rw [← he0]); (try rw [← he1]); done) | (simp only [← he0, ← he1]; done)) (by first | rfl | ((try rw [← he0]); (try rw [← he1]); done) | (simp only [← he0, ← he1]; done)) ?_
        exact endQ (Or.inr rfl) (l := [vI m, .bool true]) [rB [vN X, vN Y, vN Z, vS 0 A.length, vS 1 B.length, vS 2 C.length] 27] (by kernel_rfl) (by first | rfl | kernel_rfl) rfl rfl hcl rfl
end Go.Proofs.Ytbheeobnghlckaa
