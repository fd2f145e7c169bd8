/- A law, whole: the walks, and the row. No condition. -/
import Derived.Test.YtbheeobnghlckaaAmS4J8
import Derived.Test.YtbheeobnghlckaaAmT
import Derived.WalkKit
import Derived.ProofKit
import Derived.OpenShut
import Derived.ShutString
import Derived.ChangeOld
import Derived.Below
import Derived.SizedLaws
set_option linter.unusedVariables false
set_option linter.unusedSimpArgs false
namespace Go.Proofs.Ytbheeobnghlckaa
open Go.Am Go.RowKit
set_option maxRecDepth 100000 in
set_option maxHeartbeats 4000000 in
theorem lawLineBound_bigA_sss (x : Int) (y : Int) (z : Int) (A : List Int) (B : List Int) (C : List Int) (hl : 1048576 < A.length) (hm : A.length ≤ 9223372036854775807) : Sound Try.prog 5 [.agg #[vI x, vI y, vI z, vS 0 A.length, vS 1 B.length, vS 2 C.length]] [some ⟨nums A, 3, false, false⟩, some ⟨nums B, 3, false, false⟩, some ⟨nums C, 3, false, false⟩] (.bool true) [some ⟨nums A, 3, false, false⟩, some ⟨nums B, 3, false, false⟩, some ⟨nums C, 3, false, false⟩] := by
  refine sound_intro (C := cx) Try.func5 rfl (by kernel_rfl) fun hcl => ?_
  refine cSeq ?_
  refine cReg ?_
  refine segEnd [1] (T1 := (mkT 40 [(1, vP 3 0)])) (H1 := [some ⟨nums A, 3, false, false⟩, some ⟨nums B, 3, false, false⟩, some ⟨nums C, 3, false, false⟩, rB [vI x, vI y, vI z, vS 0 A.length, vS 1 B.length, vS 2 C.length] 24]) (by kernel_rfl) ?_
  refine kSeq ?_
  refine cSeq ?_
  refine cReg ?_
  refine segEndH [1, 3] (T1 := (mkT 40 [(1, vP 3 0), (3, vI 1048576)])) (by kernel_rfl) ?_
  refine kSeq ?_
  refine cSeq ?_
  refine cReg ?_
  refine segH 2 (T1 := (mkT 40 [(1, vP 3 0), (3, vI 1048576), (9, .agg #[vI x, vI y, vI z, vS 0 A.length, vS 1 B.length, vS 2 C.length]), (10, vI 1048576)])) (by kernel_rfl) ?_
  refine rCall (v := vI (-1)) (args := [.agg #[vI x, vI y, vI z, vS 0 A.length, vS 1 B.length, vS 2 C.length], vI 1048576]) (by kernel_rfl) rfl (by kernel_rfl) (Sound.lay0 [0, 1, 2] (szSh_sss_A x y z A B C 1048576 (by first | omega | assumption | (simp; done) | (simp; omega)) (by first | assumption | omega | rfl | decide | exact HeapL.list _ _ _ _ | exact HeapL.nil _ _ _ | exact HeapL.all _ _ _ | (apply HeapL.lt64 <;> assumption) | (repeat' (first | assumption | apply or_lt64 | apply and_lt64 | apply andn_lt64 | apply pow_lt64 | (apply HeapL.lt64 <;> assumption)))) (by first | omega | assumption | decide)) ⟨rdF false (flatNums _ _ _ _) rfl rfl, ⟨rdF false (flatNums _ _ _ _) rfl rfl, ⟨rdF false (flatNums _ _ _ _) rfl rfl, trivial⟩⟩⟩ rfl ⟨clF (flatNums _ _ _ _), ⟨clF (flatNums _ _ _ _), ⟨clF (flatNums _ _ _ _), trivial⟩⟩⟩ rfl (by first | rfl | simp [mpV, mpA, mpS, mpP, renId, shift]) rfl) ?_
  refine segEndH [1, 3] (T1 := (mkT 40 [(1, vP 3 0), (3, vI (-1))])) (by kernel_rfl) ?_
  refine kSeq ?_
  refine cSeq ?_
  refine cSeq ?_
  refine cReg ?_
  refine segEndH [1, 13] (T1 := (mkT 40 [(1, vP 3 0), (13, .bool true)])) (by kernel_rfl) ?_
  refine kSeq ?_
  refine cTrue (by kernel_rfl) ?_
  refine cSeq ?_
  refine cReg ?_
  refine segEndH [2] (T1 := (mkT 40 [(2, .bool true)])) (by kernel_rfl) ?_
  refine kSeq ?_
  refine cRet ?_
  refine kSeqR ?_
  -- end
  exact endQ (Or.inr rfl) (l := [.bool true]) [rB [vI x, vI y, vI z, vS 0 A.length, vS 1 B.length, vS 2 C.length] 24] (by kernel_rfl) (by first | rfl | kernel_rfl) rfl rfl hcl rfl

set_option maxRecDepth 100000 in
set_option maxHeartbeats 4000000 in
theorem lawLineBound_bigB_sss (x : Int) (y : Int) (z : Int) (A : List Int) (B : List Int) (C : List Int) (h0 : A.length ≤ 1048576) (hl : 1048576 - A.length < B.length) (hm : B.length ≤ 9223372036854775807) : Sound Try.prog 5 [.agg #[vI x, vI y, vI z, vS 0 A.length, vS 1 B.length, vS 2 C.length]] [some ⟨nums A, 3, false, false⟩, some ⟨nums B, 3, false, false⟩, some ⟨nums C, 3, false, false⟩] (.bool true) [some ⟨nums A, 3, false, false⟩, some ⟨nums B, 3, false, false⟩, some ⟨nums C, 3, false, false⟩] := by
  refine sound_intro (C := cx) Try.func5 rfl (by kernel_rfl) fun hcl => ?_
  refine cSeq ?_
  refine cReg ?_
  refine segEnd [1] (T1 := (mkT 40 [(1, vP 3 0)])) (H1 := [some ⟨nums A, 3, false, false⟩, some ⟨nums B, 3, false, false⟩, some ⟨nums C, 3, false, false⟩, rB [vI x, vI y, vI z, vS 0 A.length, vS 1 B.length, vS 2 C.length] 24]) (by kernel_rfl) ?_
  refine kSeq ?_
  refine cSeq ?_
  refine cReg ?_
  refine segEndH [1, 3] (T1 := (mkT 40 [(1, vP 3 0), (3, vI 1048576)])) (by kernel_rfl) ?_
  refine kSeq ?_
  refine cSeq ?_
  refine cReg ?_
  refine segH 2 (T1 := (mkT 40 [(1, vP 3 0), (3, vI 1048576), (9, .agg #[vI x, vI y, vI z, vS 0 A.length, vS 1 B.length, vS 2 C.length]), (10, vI 1048576)])) (by kernel_rfl) ?_
  refine rCall (v := vI (-1)) (args := [.agg #[vI x, vI y, vI z, vS 0 A.length, vS 1 B.length, vS 2 C.length], vI 1048576]) (by kernel_rfl) rfl (by kernel_rfl) (Sound.lay0 [0, 1, 2] (szSh_sss_B x y z A B C 1048576 (by first | assumption | omega) (by first | omega | assumption | (simp; done) | (simp; omega)) (by first | assumption | omega | rfl | decide | exact HeapL.list _ _ _ _ | exact HeapL.nil _ _ _ | exact HeapL.all _ _ _ | (apply HeapL.lt64 <;> assumption) | (repeat' (first | assumption | apply or_lt64 | apply and_lt64 | apply andn_lt64 | apply pow_lt64 | (apply HeapL.lt64 <;> assumption)))) (by first | omega | assumption | decide)) ⟨rdF false (flatNums _ _ _ _) rfl rfl, ⟨rdF false (flatNums _ _ _ _) rfl rfl, ⟨rdF false (flatNums _ _ _ _) rfl rfl, trivial⟩⟩⟩ rfl ⟨clF (flatNums _ _ _ _), ⟨clF (flatNums _ _ _ _), ⟨clF (flatNums _ _ _ _), trivial⟩⟩⟩ rfl (by first | rfl | simp [mpV, mpA, mpS, mpP, renId, shift]) rfl) ?_
  refine segEndH [1, 3] (T1 := (mkT 40 [(1, vP 3 0), (3, vI (-1))])) (by kernel_rfl) ?_
  refine kSeq ?_
  refine cSeq ?_
  refine cSeq ?_
  refine cReg ?_
  refine segEndH [1, 13] (T1 := (mkT 40 [(1, vP 3 0), (13, .bool true)])) (by kernel_rfl) ?_
  refine kSeq ?_
  refine cTrue (by kernel_rfl) ?_
  refine cSeq ?_
  refine cReg ?_
  refine segEndH [2] (T1 := (mkT 40 [(2, .bool true)])) (by kernel_rfl) ?_
  refine kSeq ?_
  refine cRet ?_
  refine kSeqR ?_
  -- end
  exact endQ (Or.inr rfl) (l := [.bool true]) [rB [vI x, vI y, vI z, vS 0 A.length, vS 1 B.length, vS 2 C.length] 24] (by kernel_rfl) (by first | rfl | kernel_rfl) rfl rfl hcl rfl

set_option maxRecDepth 100000 in
set_option maxHeartbeats 4000000 in
theorem lawLineBound_bigC_sss (x : Int) (y : Int) (z : Int) (A : List Int) (B : List Int) (C : List Int) (h0 : A.length + B.length ≤ 1048576) (hl : 1048576 - A.length - B.length < C.length) (hm : C.length ≤ 9223372036854775807) : Sound Try.prog 5 [.agg #[vI x, vI y, vI z, vS 0 A.length, vS 1 B.length, vS 2 C.length]] [some ⟨nums A, 3, false, false⟩, some ⟨nums B, 3, false, false⟩, some ⟨nums C, 3, false, false⟩] (.bool true) [some ⟨nums A, 3, false, false⟩, some ⟨nums B, 3, false, false⟩, some ⟨nums C, 3, false, false⟩] := by
  refine sound_intro (C := cx) Try.func5 rfl (by kernel_rfl) fun hcl => ?_
  refine cSeq ?_
  refine cReg ?_
  refine segEnd [1] (T1 := (mkT 40 [(1, vP 3 0)])) (H1 := [some ⟨nums A, 3, false, false⟩, some ⟨nums B, 3, false, false⟩, some ⟨nums C, 3, false, false⟩, rB [vI x, vI y, vI z, vS 0 A.length, vS 1 B.length, vS 2 C.length] 24]) (by kernel_rfl) ?_
  refine kSeq ?_
  refine cSeq ?_
  refine cReg ?_
  refine segEndH [1, 3] (T1 := (mkT 40 [(1, vP 3 0), (3, vI 1048576)])) (by kernel_rfl) ?_
  refine kSeq ?_
  refine cSeq ?_
  refine cReg ?_
  refine segH 2 (T1 := (mkT 40 [(1, vP 3 0), (3, vI 1048576), (9, .agg #[vI x, vI y, vI z, vS 0 A.length, vS 1 B.length, vS 2 C.length]), (10, vI 1048576)])) (by kernel_rfl) ?_
  refine rCall (v := vI (-1)) (args := [.agg #[vI x, vI y, vI z, vS 0 A.length, vS 1 B.length, vS 2 C.length], vI 1048576]) (by kernel_rfl) rfl (by kernel_rfl) (Sound.lay0 [0, 1, 2] (szSh_sss_C x y z A B C 1048576 (by first | assumption | omega) (by first | omega | assumption | (simp; done) | (simp; omega)) (by first | assumption | omega | rfl | decide | exact HeapL.list _ _ _ _ | exact HeapL.nil _ _ _ | exact HeapL.all _ _ _ | (apply HeapL.lt64 <;> assumption) | (repeat' (first | assumption | apply or_lt64 | apply and_lt64 | apply andn_lt64 | apply pow_lt64 | (apply HeapL.lt64 <;> assumption)))) (by first | omega | assumption | decide)) ⟨rdF false (flatNums _ _ _ _) rfl rfl, ⟨rdF false (flatNums _ _ _ _) rfl rfl, ⟨rdF false (flatNums _ _ _ _) rfl rfl, trivial⟩⟩⟩ rfl ⟨clF (flatNums _ _ _ _), ⟨clF (flatNums _ _ _ _), ⟨clF (flatNums _ _ _ _), trivial⟩⟩⟩ rfl (by first | rfl | simp [mpV, mpA, mpS, mpP, renId, shift]) rfl) ?_
  refine segEndH [1, 3] (T1 := (mkT 40 [(1, vP 3 0), (3, vI (-1))])) (by kernel_rfl) ?_
  refine kSeq ?_
  refine cSeq ?_
  refine cSeq ?_
  refine cReg ?_
  refine segEndH [1, 13] (T1 := (mkT 40 [(1, vP 3 0), (13, .bool true)])) (by kernel_rfl) ?_
  refine kSeq ?_
  refine cTrue (by kernel_rfl) ?_
  refine cSeq ?_
  refine cReg ?_
  refine segEndH [2] (T1 := (mkT 40 [(2, .bool true)])) (by kernel_rfl) ?_
  refine kSeq ?_
  refine cRet ?_
  refine kSeqR ?_
  -- end
  exact endQ (Or.inr rfl) (l := [.bool true]) [rB [vI x, vI y, vI z, vS 0 A.length, vS 1 B.length, vS 2 C.length] 24] (by kernel_rfl) (by first | rfl | kernel_rfl) rfl rfl hcl rfl

set_option maxRecDepth 100000 in
set_option maxHeartbeats 4000000 in
theorem lawLineBound_no_sss (x : Int) (y : Int) (z : Int) (A : List Int) (B : List Int) (C : List Int) (hl : A.length + B.length + C.length ≤ 1048576) (hv : valid3 x y z = false) : Sound Try.prog 5 [.agg #[vI x, vI y, vI z, vS 0 A.length, vS 1 B.length, vS 2 C.length]] [some ⟨nums A, 3, false, false⟩, some ⟨nums B, 3, false, false⟩, some ⟨nums C, 3, false, false⟩] (.bool true) [some ⟨nums A, 3, false, false⟩, some ⟨nums B, 3, false, false⟩, some ⟨nums C, 3, false, false⟩] := by
  refine sound_intro (C := cx) Try.func5 rfl (by kernel_rfl) fun hcl => ?_
  refine cSeq ?_
  refine cReg ?_
  refine segEnd [1] (T1 := (mkT 40 [(1, vP 3 0)])) (H1 := [some ⟨nums A, 3, false, false⟩, some ⟨nums B, 3, false, false⟩, some ⟨nums C, 3, false, false⟩, rB [vI x, vI y, vI z, vS 0 A.length, vS 1 B.length, vS 2 C.length] 24]) (by kernel_rfl) ?_
  refine kSeq ?_
  refine cSeq ?_
  refine cReg ?_
  refine segEndH [1, 3] (T1 := (mkT 40 [(1, vP 3 0), (3, vI 1048576)])) (by kernel_rfl) ?_
  refine kSeq ?_
  refine cSeq ?_
  refine cReg ?_
  refine segH 2 (T1 := (mkT 40 [(1, vP 3 0), (3, vI 1048576), (9, .agg #[vI x, vI y, vI z, vS 0 A.length, vS 1 B.length, vS 2 C.length]), (10, vI 1048576)])) (by kernel_rfl) ?_
  refine rCall (v := vN (1048576 - A.length - B.length - C.length)) (args := [.agg #[vI x, vI y, vI z, vS 0 A.length, vS 1 B.length, vS 2 C.length], vI 1048576]) (by kernel_rfl) rfl (by kernel_rfl) (Sound.lay0 [0, 1, 2] (szSh_sss x y z A B C 1048576 (by first | omega | assumption | (simp; done) | (simp; omega)) (by first | omega | assumption | decide)) ⟨rdF false (flatNums _ _ _ _) rfl rfl, ⟨rdF false (flatNums _ _ _ _) rfl rfl, ⟨rdF false (flatNums _ _ _ _) rfl rfl, trivial⟩⟩⟩ rfl ⟨clF (flatNums _ _ _ _), ⟨clF (flatNums _ _ _ _), ⟨clF (flatNums _ _ _ _), trivial⟩⟩⟩ rfl (by first | rfl | simp [mpV, mpA, mpS, mpP, renId, shift]) rfl) ?_
  refine segEndH [1, 3] (T1 := (mkT 40 [(1, vP 3 0), (3, vN (1048576 - A.length - B.length - C.length))])) (by kernel_rfl) ?_
  refine kSeq ?_
  refine cSeq ?_
  refine cSeq ?_
  refine cReg ?_
  refine segEndH [1, 13] (T1 := (mkT 40 [(1, vP 3 0), (13, .bool (decide (((1048576 - A.length - B.length - C.length : Nat) : Int) < 0)))])) (by kernel_rfl) ?_
  refine kSeq ?_
  cases h1 : (decide (((1048576 - A.length - B.length - C.length : Nat) : Int) < 0) : Bool)
  ·
    (try simp only [Bool.not_eq_true', Bool.not_eq_false', decide_eq_true_eq, decide_eq_false_iff_not, beq_iff_eq, bne_iff_ne, beq_eq_false_iff_ne, bne_eq_false_iff_eq, ne_eq, Decidable.not_not, Bool.and_eq_true, Bool.and_eq_false_imp, Bool.or_eq_true, Bool.or_eq_false_iff, Bool.not_eq_true, Int.not_lt, Int.not_le, ge_iff_le, gt_iff_lt] at h1)
    refine cFalse (by kernel_rfl) ?_
    refine cSkip ?_
    refine kSeq ?_
    refine cSeq ?_
    refine cReg ?_
    refine segH 1 (T1 := (mkT 40 [(1, vP 3 0), (13, .bool false), (15, .agg #[vI x, vI y, vI z, vS 0 A.length, vS 1 B.length, vS 2 C.length])])) (by kernel_rfl) ?_
    refine rCall (v := .agg #[vI x, vI y, vI z, vS 4 A.length, vS 5 B.length, vS 6 C.length]) (args := [.agg #[vI x, vI y, vI z, vS 0 A.length, vS 1 B.length, vS 2 C.length]]) (by kernel_rfl) rfl (by kernel_rfl) (Sound.lay (E := [some ⟨nums A, 3, false, true⟩, some ⟨nums B, 3, false, true⟩, some ⟨nums C, 3, false, true⟩]) [0, 1, 2] (toSh_sss x y z A B C (by first | omega | assumption) (by first | omega | assumption) (by first | omega | assumption)) ⟨rdF false (flatNums _ _ _ _) rfl rfl, ⟨rdF false (flatNums _ _ _ _) rfl rfl, ⟨rdF false (flatNums _ _ _ _) rfl rfl, trivial⟩⟩⟩ rfl ⟨clF (flatNums _ _ _ _), ⟨clF (flatNums _ _ _ _), ⟨clF (flatNums _ _ _ _), trivial⟩⟩⟩ rfl (by first | rfl | simp [mpV, mpA, mpS, mpP, renId, shift]) (by first | rfl | simp [mpV, mpA, mpS, mpP, renId, shift]) ⟨enF (flatNums _ _ _ _) (Or.inl rfl), ⟨enF (flatNums _ _ _ _) (Or.inl rfl), ⟨enF (flatNums _ _ _ _) (Or.inl rfl), trivial⟩⟩⟩) ?_
    refine rCall (v := .tuple #[vI 0, .bool false]) (args := [.agg #[vI x, vI y, vI z, vS 4 A.length, vS 5 B.length, vS 6 C.length]]) (by kernel_rfl) rfl (by kernel_rfl) (Sound.lay0 [4, 5, 6] (specLineBound_no x y z A B C (by first | assumption | omega | rfl | decide | exact HeapL.list _ _ _ _ | exact HeapL.nil _ _ _ | exact HeapL.all _ _ _ | (apply HeapL.lt64 <;> assumption) | (repeat' (first | assumption | apply or_lt64 | apply and_lt64 | apply andn_lt64 | apply pow_lt64 | (apply HeapL.lt64 <;> assumption)))) (by first | omega | assumption | (simp; done)) (by first | omega | assumption | (simp; done)) (by first | omega | assumption | (simp; done))) ⟨rdF true (flatNums _ _ _ _) rfl rfl, ⟨rdF true (flatNums _ _ _ _) rfl rfl, ⟨rdF true (flatNums _ _ _ _) rfl rfl, trivial⟩⟩⟩ rfl ⟨clF (flatNums _ _ _ _), ⟨clF (flatNums _ _ _ _), ⟨clF (flatNums _ _ _ _), trivial⟩⟩⟩ rfl (by first | rfl | simp [mpV, mpA, mpS, mpP, renId, shift]) (by first | rfl | simp [mpV, mpA, mpS, mpP, renId, shift])) ?_
    refine segEnd [1, 4, 5] (T1 := (mkT 40 [(1, vP 3 0), (4, vI 0), (5, .bool false)])) (H1 := [some ⟨nums A, 3, false, false⟩, some ⟨nums B, 3, false, false⟩, some ⟨nums C, 3, false, false⟩, rB [vI x, vI y, vI z, vS 0 A.length, vS 1 B.length, vS 2 C.length] 24, some ⟨nums A, 3, false, true⟩, some ⟨nums B, 3, false, true⟩, some ⟨nums C, 3, false, true⟩]) (by kernel_rfl) ?_
    refine kSeq ?_
    refine cSeq ?_
    refine cReg ?_
    refine segH 1 (T1 := (mkT 40 [(1, vP 3 0), (4, vI 0), (5, .bool false), (20, .agg #[vI x, vI y, vI z, vS 0 A.length, vS 1 B.length, vS 2 C.length])])) (by kernel_rfl) ?_
    refine rCall (v := .agg #[vI x, vI y, vI z, vS 7 A.length, vS 8 B.length, vS 9 C.length]) (args := [.agg #[vI x, vI y, vI z, vS 0 A.length, vS 1 B.length, vS 2 C.length]]) (by kernel_rfl) rfl (by kernel_rfl) (Sound.lay (E := [some ⟨nums A, 3, false, true⟩, some ⟨nums B, 3, false, true⟩, some ⟨nums C, 3, false, true⟩]) [0, 1, 2] (toSh_sss x y z A B C (by first | omega | assumption) (by first | omega | assumption) (by first | omega | assumption)) ⟨rdF false (flatNums _ _ _ _) rfl rfl, ⟨rdF false (flatNums _ _ _ _) rfl rfl, ⟨rdF false (flatNums _ _ _ _) rfl rfl, trivial⟩⟩⟩ rfl ⟨clF (flatNums _ _ _ _), ⟨clF (flatNums _ _ _ _), ⟨clF (flatNums _ _ _ _), trivial⟩⟩⟩ rfl (by first | rfl | simp [mpV, mpA, mpS, mpP, renId, shift]) (by first | rfl | simp [mpV, mpA, mpS, mpP, renId, shift]) ⟨enF (flatNums _ _ _ _) (Or.inl rfl), ⟨enF (flatNums _ _ _ _) (Or.inl rfl), ⟨enF (flatNums _ _ _ _) (Or.inl rfl), trivial⟩⟩⟩) ?_
    refine segEnd [1, 4, 5, 6] (T1 := (mkT 40 [(1, vP 3 0), (4, vI 0), (5, .bool false), (6, vP 10 0)])) (H1 := [some ⟨nums A, 3, false, false⟩, some ⟨nums B, 3, false, false⟩, some ⟨nums C, 3, false, false⟩, rB [vI x, vI y, vI z, vS 0 A.length, vS 1 B.length, vS 2 C.length] 24, some ⟨nums A, 3, false, true⟩, some ⟨nums B, 3, false, true⟩, some ⟨nums C, 3, false, true⟩, some ⟨nums A, 3, false, true⟩, some ⟨nums B, 3, false, true⟩, some ⟨nums C, 3, false, true⟩, rB [vI x, vI y, vI z, vS 7 A.length, vS 8 B.length, vS 9 C.length] 27]) (by kernel_rfl) ?_
    refine kSeq ?_
    refine cSeq ?_
    refine cReg ?_
    refine segH 1 (T1 := (mkT 40 [(1, vP 3 0), (4, vI 0), (5, .bool false), (6, vP 10 0), (23, .agg #[vI x, vI y, vI z, vS 7 A.length, vS 8 B.length, vS 9 C.length])])) (by kernel_rfl) ?_
    refine rCall (v := .tuple #[vI 0, .bool false]) (args := [.agg #[vI x, vI y, vI z, vS 7 A.length, vS 8 B.length, vS 9 C.length]]) (by kernel_rfl) rfl (by kernel_rfl) (Sound.lay0 [7, 8, 9] (implLineBound_no x y z A B C (by first | assumption | omega | rfl | decide | exact HeapL.list _ _ _ _ | exact HeapL.nil _ _ _ | exact HeapL.all _ _ _ | (apply HeapL.lt64 <;> assumption) | (repeat' (first | assumption | apply or_lt64 | apply and_lt64 | apply andn_lt64 | apply pow_lt64 | (apply HeapL.lt64 <;> assumption)))) (by first | omega | assumption | (simp; done)) (by first | omega | assumption | (simp; done)) (by first | omega | assumption | (simp; done))) ⟨rdF true (flatNums _ _ _ _) rfl rfl, ⟨rdF true (flatNums _ _ _ _) rfl rfl, ⟨rdF true (flatNums _ _ _ _) rfl rfl, trivial⟩⟩⟩ rfl ⟨clF (flatNums _ _ _ _), ⟨clF (flatNums _ _ _ _), ⟨clF (flatNums _ _ _ _), trivial⟩⟩⟩ rfl (by first | rfl | simp [mpV, mpA, mpS, mpP, renId, shift]) (by first | rfl | simp [mpV, mpA, mpS, mpP, renId, shift])) ?_
    refine segEndH [1, 4, 5, 6, 7, 8] (T1 := (mkT 40 [(1, vP 3 0), (4, vI 0), (5, .bool false), (6, vP 10 0), (7, vI 0), (8, .bool false)])) (by kernel_rfl) ?_
    refine kSeq ?_
    refine cSeq ?_
    refine cSeq ?_
    refine cReg ?_
    refine segEndH [1, 6, 34] (T1 := (mkT 40 [(1, vP 3 0), (6, vP 10 0), (34, .bool false)])) (by kernel_rfl) ?_
    refine kSeq ?_
    refine cFalse (by kernel_rfl) ?_
    refine cSkip ?_
    refine kSeq ?_
    refine cSeq ?_
    refine cSeq ?_
    refine cRegW (N := 14) [⟨[], [], [10]⟩, ⟨[], [], [3]⟩, ⟨[11, 12, 13], [], [0, 1, 2]⟩, ⟨[], [], [7, 8, 9, 11, 12, 13]⟩, ⟨[], [], []⟩] 3 [11, 12, 13] (by rfl) (by rfl) (by kernel_rfl) (by kernel_rfl) (by kernel_rfl) ⟨nmsF (flatNums _ _ _ _), ⟨nmsF (flatNums _ _ _ _), ⟨nmsF (flatNums _ _ _ _), ⟨nmsX (by kernel_rfl), ⟨nmsF (flatNums _ _ _ _), ⟨nmsF (flatNums _ _ _ _), ⟨nmsF (flatNums _ _ _ _), ⟨nmsF (flatNums _ _ _ _), ⟨nmsF (flatNums _ _ _ _), ⟨nmsF (flatNums _ _ _ _), ⟨nmsX (by kernel_rfl), trivial⟩⟩⟩⟩⟩⟩⟩⟩⟩⟩⟩ ?_
    refine segWH 2 (T1 := (mkT 40 [(1, vP 3 0), (6, vP 10 0), (34, .bool false), (35, .agg #[vI x, vI y, vI z, vS 7 A.length, vS 8 B.length, vS 9 C.length]), (36, .agg #[vI x, vI y, vI z, vS 0 A.length, vS 1 B.length, vS 2 C.length])])) (by kernel_rfl) ?_
    refine rW (m := ⟨[11, 12, 13], [], [0, 1, 2]⟩) (v := .agg #[vI x, vI y, vI z, vS 11 A.length, vS 12 B.length, vS 13 C.length]) rfl (by kernel_rfl) (stN (i := 11) (E := [some ⟨nums A, 3, false, true⟩, some ⟨nums B, 3, false, true⟩, some ⟨nums C, 3, false, true⟩]) (v1 := .agg #[vI x, vI y, vI z, vS 14 A.length, vS 15 B.length, vS 16 C.length]) (args := [.agg #[vI x, vI y, vI z, vS 0 A.length, vS 1 B.length, vS 2 C.length]]) rfl (by kernel_rfl) (Any.lay (E := [some ⟨nums A, 3, false, true⟩, some ⟨nums B, 3, false, true⟩, some ⟨nums C, 3, false, true⟩]) (N := 14) [0, 1, 2] (toSh_sss x y z A B C (by first | omega | assumption) (by first | omega | assumption) (by first | omega | assumption)) ⟨rdF false (flatNums _ _ _ _) rfl rfl, ⟨rdF false (flatNums _ _ _ _) rfl rfl, ⟨rdF false (flatNums _ _ _ _) rfl rfl, trivial⟩⟩⟩ rfl ⟨clF (flatNums _ _ _ _), ⟨clF (flatNums _ _ _ _), ⟨clF (flatNums _ _ _ _), trivial⟩⟩⟩ rfl (by first | rfl | simp [mpV, mpA, mpS, mpP, renId, shift]) (by first | rfl | simp [mpV, mpA, mpS, mpP, renId, shift]) ⟨enF (flatNums _ _ _ _) (Or.inl rfl), ⟨enF (flatNums _ _ _ _) (Or.inl rfl), ⟨enF (flatNums _ _ _ _) (Or.inl rfl), trivial⟩⟩⟩) rfl (by kernel_rfl) (by kernel_rfl) (by kernel_rfl) (by kernel_rfl) (FlatH.cons (flatNums _ _ _ _) (FlatH.cons (flatNums _ _ _ _) (FlatH.cons (flatNums _ _ _ _) FlatH.nil)))) (by kernel_rfl) (NRs.all ⟨nrOf (by rfl) (nmF (flatNums _ _ _ _)), ⟨nrOf (by rfl) (nmF (flatNums _ _ _ _)), ⟨nrOf (by rfl) (nmF (flatNums _ _ _ _)), trivial⟩⟩⟩) ?_
    refine rW (m := ⟨[], [], [7, 8, 9, 11, 12, 13]⟩) (v := .bool true) rfl (by kernel_rfl) (stQ (args := [.agg #[vI x, vI y, vI z, vS 7 A.length, vS 8 B.length, vS 9 C.length], .agg #[vI x, vI y, vI z, vS 11 A.length, vS 12 B.length, vS 13 C.length]]) rfl (by kernel_rfl) (Any.lay0 [7, 8, 9, 11, 12, 13] (eqSh x y z A B C (by first | omega | assumption | (simp; done)) (by first | omega | assumption | (simp; done)) (by first | omega | assumption | (simp; done))) ⟨rdF true (flatNums _ _ _ _) rfl rfl, ⟨rdF true (flatNums _ _ _ _) rfl rfl, ⟨rdF true (flatNums _ _ _ _) rfl rfl, ⟨rdF true (flatNums _ _ _ _) rfl rfl, ⟨rdF true (flatNums _ _ _ _) rfl rfl, ⟨rdF true (flatNums _ _ _ _) rfl rfl, trivial⟩⟩⟩⟩⟩⟩ rfl ⟨clF (flatNums _ _ _ _), ⟨clF (flatNums _ _ _ _), ⟨clF (flatNums _ _ _ _), ⟨clF (flatNums _ _ _ _), ⟨clF (flatNums _ _ _ _), ⟨clF (flatNums _ _ _ _), trivial⟩⟩⟩⟩⟩⟩ rfl (by first | rfl | simp [mpV, mpA, mpS, mpP, renId, shift]) rfl) rfl (by kernel_rfl) (by kernel_rfl)) (by kernel_rfl) nr0 ?_
    refine segEndW [39] (T1 := (mkT 40 [(39, .bool false)])) (H1 := [some ⟨nums A, 3, false, false⟩, some ⟨nums B, 3, false, false⟩, some ⟨nums C, 3, false, false⟩, rB [vI x, vI y, vI z, vS 0 A.length, vS 1 B.length, vS 2 C.length] 24, some ⟨nums A, 3, false, true⟩, some ⟨nums B, 3, false, true⟩, some ⟨nums C, 3, false, true⟩, some ⟨nums A, 3, false, true⟩, some ⟨nums B, 3, false, true⟩, some ⟨nums C, 3, false, true⟩, rB [vI x, vI y, vI z, vS 7 A.length, vS 8 B.length, vS 9 C.length] 27, some ⟨nums A, 3, false, true⟩, some ⟨nums B, 3, false, true⟩, some ⟨nums C, 3, false, true⟩]) (by kernel_rfl) ?_
    refine kSeq ?_
    refine cFalse (by kernel_rfl) ?_
    refine cSkip ?_
    refine kSeq ?_
    refine cSeq ?_
    refine cReg ?_
    refine segEndH [2] (T1 := (mkT 40 [(2, .bool true)])) (by kernel_rfl) ?_
    refine kSeq ?_
    refine cRet ?_
    -- end
    exact endQ (Or.inr rfl) (l := [.bool true]) [rB [vI x, vI y, vI z, vS 0 A.length, vS 1 B.length, vS 2 C.length] 24, some ⟨nums A, 3, false, true⟩, some ⟨nums B, 3, false, true⟩, some ⟨nums C, 3, false, true⟩, some ⟨nums A, 3, false, true⟩, some ⟨nums B, 3, false, true⟩, some ⟨nums C, 3, false, true⟩, rB [vI x, vI y, vI z, vS 7 A.length, vS 8 B.length, vS 9 C.length] 27, some ⟨nums A, 3, false, true⟩, some ⟨nums B, 3, false, true⟩, some ⟨nums C, 3, false, true⟩] (by kernel_rfl) (by first | rfl | kernel_rfl) rfl rfl hcl rfl
  ·
    (try simp only [Bool.not_eq_true', Bool.not_eq_false', decide_eq_true_eq, decide_eq_false_iff_not, beq_iff_eq, bne_iff_ne, beq_eq_false_iff_ne, bne_eq_false_iff_eq, ne_eq, Decidable.not_not, Bool.and_eq_true, Bool.and_eq_false_imp, Bool.or_eq_true, Bool.or_eq_false_iff, Bool.not_eq_true, Int.not_lt, Int.not_le, ge_iff_le, gt_iff_lt] at h1)
    exfalso; omega

set_option maxRecDepth 100000 in
set_option maxHeartbeats 4000000 in
theorem lawLineBound_yes_sss (X : Nat) (Y : Nat) (Z : Nat) (A : List Int) (B : List Int) (C : List Int) (hl : A.length + B.length + C.length ≤ 1048576) (hs : Sides X Y Z) : Sound Try.prog 5 [.agg #[vN X, vN Y, vN Z, vS 0 A.length, vS 1 B.length, vS 2 C.length]] [some ⟨nums A, 3, false, false⟩, some ⟨nums B, 3, false, false⟩, some ⟨nums C, 3, false, false⟩] (.bool true) [some ⟨nums A, 3, false, false⟩, some ⟨nums B, 3, false, false⟩, some ⟨nums C, 3, false, false⟩] := by
  refine sound_intro (C := cx) Try.func5 rfl (by kernel_rfl) fun hcl => ?_
  refine cSeq ?_
  refine cReg ?_
  refine segEnd [1] (T1 := (mkT 40 [(1, vP 3 0)])) (H1 := [some ⟨nums A, 3, false, false⟩, some ⟨nums B, 3, false, false⟩, some ⟨nums C, 3, false, false⟩, rB [vN X, vN Y, vN Z, vS 0 A.length, vS 1 B.length, vS 2 C.length] 24]) (by kernel_rfl) ?_
  refine kSeq ?_
  refine cSeq ?_
  refine cReg ?_
  refine segEndH [1, 3] (T1 := (mkT 40 [(1, vP 3 0), (3, vI 1048576)])) (by kernel_rfl) ?_
  refine kSeq ?_
  refine cSeq ?_
  refine cReg ?_
  refine segH 2 (T1 := (mkT 40 [(1, vP 3 0), (3, vI 1048576), (9, .agg #[vN X, vN Y, vN Z, vS 0 A.length, vS 1 B.length, vS 2 C.length]), (10, vI 1048576)])) (by kernel_rfl) ?_
  refine rCall (v := vN (1048576 - A.length - B.length - C.length)) (args := [.agg #[vN X, vN Y, vN Z, vS 0 A.length, vS 1 B.length, vS 2 C.length], vI 1048576]) (by kernel_rfl) rfl (by kernel_rfl) (Sound.lay0 [0, 1, 2] (szSh_sss ((X : Nat) : Int) ((Y : Nat) : Int) ((Z : Nat) : Int) A B C 1048576 (by first | omega | assumption | (simp; done) | (simp; omega)) (by first | omega | assumption | decide)) ⟨rdF false (flatNums _ _ _ _) rfl rfl, ⟨rdF false (flatNums _ _ _ _) rfl rfl, ⟨rdF false (flatNums _ _ _ _) rfl rfl, trivial⟩⟩⟩ rfl ⟨clF (flatNums _ _ _ _), ⟨clF (flatNums _ _ _ _), ⟨clF (flatNums _ _ _ _), trivial⟩⟩⟩ rfl (by first | rfl | simp [mpV, mpA, mpS, mpP, renId, shift]) rfl) ?_
  refine segEndH [1, 3] (T1 := (mkT 40 [(1, vP 3 0), (3, vN (1048576 - A.length - B.length - C.length))])) (by kernel_rfl) ?_
  refine kSeq ?_
  refine cSeq ?_
  refine cSeq ?_
  refine cReg ?_
  refine segEndH [1, 13] (T1 := (mkT 40 [(1, vP 3 0), (13, .bool (decide (((1048576 - A.length - B.length - C.length : Nat) : Int) < 0)))])) (by kernel_rfl) ?_
  refine kSeq ?_
  cases h1 : (decide (((1048576 - A.length - B.length - C.length : Nat) : Int) < 0) : Bool)
  ·
    (try simp only [Bool.not_eq_true', Bool.not_eq_false', decide_eq_true_eq, decide_eq_false_iff_not, beq_iff_eq, bne_iff_ne, beq_eq_false_iff_ne, bne_eq_false_iff_eq, ne_eq, Decidable.not_not, Bool.and_eq_true, Bool.and_eq_false_imp, Bool.or_eq_true, Bool.or_eq_false_iff, Bool.not_eq_true, Int.not_lt, Int.not_le, ge_iff_le, gt_iff_lt] at h1)
    refine cFalse (by kernel_rfl) ?_
    refine cSkip ?_
    refine kSeq ?_
    refine cSeq ?_
    refine cReg ?_
    refine segH 1 (T1 := (mkT 40 [(1, vP 3 0), (13, .bool false), (15, .agg #[vN X, vN Y, vN Z, vS 0 A.length, vS 1 B.length, vS 2 C.length])])) (by kernel_rfl) ?_
    refine rCall (v := .agg #[vN X, vN Y, vN Z, vS 4 A.length, vS 5 B.length, vS 6 C.length]) (args := [.agg #[vN X, vN Y, vN Z, vS 0 A.length, vS 1 B.length, vS 2 C.length]]) (by kernel_rfl) rfl (by kernel_rfl) (Sound.lay (E := [some ⟨nums A, 3, false, true⟩, some ⟨nums B, 3, false, true⟩, some ⟨nums C, 3, false, true⟩]) [0, 1, 2] (toSh_sss ((X : Nat) : Int) ((Y : Nat) : Int) ((Z : Nat) : Int) A B C (by first | omega | assumption) (by first | omega | assumption) (by first | omega | assumption)) ⟨rdF false (flatNums _ _ _ _) rfl rfl, ⟨rdF false (flatNums _ _ _ _) rfl rfl, ⟨rdF false (flatNums _ _ _ _) rfl rfl, trivial⟩⟩⟩ rfl ⟨clF (flatNums _ _ _ _), ⟨clF (flatNums _ _ _ _), ⟨clF (flatNums _ _ _ _), trivial⟩⟩⟩ rfl (by first | rfl | simp [mpV, mpA, mpS, mpP, renId, shift]) (by first | rfl | simp [mpV, mpA, mpS, mpP, renId, shift]) ⟨enF (flatNums _ _ _ _) (Or.inl rfl), ⟨enF (flatNums _ _ _ _) (Or.inl rfl), ⟨enF (flatNums _ _ _ _) (Or.inl rfl), trivial⟩⟩⟩) ?_
    refine rCall (v := .tuple #[vI (lbS X Y Z A B C), .bool (shadB X Y Z A B C)]) (args := [.agg #[vN X, vN Y, vN Z, vS 4 A.length, vS 5 B.length, vS 6 C.length]]) (by kernel_rfl) rfl (by kernel_rfl) (Sound.lay0 [4, 5, 6] (specLineBound_yes X Y Z A B C (by first | assumption | omega | rfl | decide | exact HeapL.list _ _ _ _ | exact HeapL.nil _ _ _ | exact HeapL.all _ _ _ | (apply HeapL.lt64 <;> assumption) | (repeat' (first | assumption | apply or_lt64 | apply and_lt64 | apply andn_lt64 | apply pow_lt64 | (apply HeapL.lt64 <;> assumption)))) (by first | omega | assumption | (simp; done)) (by first | omega | assumption | (simp; done)) (by first | omega | assumption | (simp; done))) ⟨rdF true (flatNums _ _ _ _) rfl rfl, ⟨rdF true (flatNums _ _ _ _) rfl rfl, ⟨rdF true (flatNums _ _ _ _) rfl rfl, trivial⟩⟩⟩ rfl ⟨clF (flatNums _ _ _ _), ⟨clF (flatNums _ _ _ _), ⟨clF (flatNums _ _ _ _), trivial⟩⟩⟩ rfl (by first | rfl | simp [mpV, mpA, mpS, mpP, renId, shift]) (by first | rfl | simp [mpV, mpA, mpS, mpP, renId, shift])) ?_
    refine segEnd [1, 4, 5] (T1 := (mkT 40 [(1, vP 3 0), (4, vI (lbS X Y Z A B C)), (5, .bool (shadB X Y Z A B C))])) (H1 := [some ⟨nums A, 3, false, false⟩, some ⟨nums B, 3, false, false⟩, some ⟨nums C, 3, false, false⟩, rB [vN X, vN Y, vN Z, vS 0 A.length, vS 1 B.length, vS 2 C.length] 24, some ⟨nums A, 3, false, true⟩, some ⟨nums B, 3, false, true⟩, some ⟨nums C, 3, false, true⟩]) (by kernel_rfl) ?_
    refine kSeq ?_
    refine cSeq ?_
    refine cReg ?_
    refine segH 1 (T1 := (mkT 40 [(1, vP 3 0), (4, vI (lbS X Y Z A B C)), (5, .bool (shadB X Y Z A B C)), (20, .agg #[vN X, vN Y, vN Z, vS 0 A.length, vS 1 B.length, vS 2 C.length])])) (by kernel_rfl) ?_
    refine rCall (v := .agg #[vN X, vN Y, vN Z, vS 7 A.length, vS 8 B.length, vS 9 C.length]) (args := [.agg #[vN X, vN Y, vN Z, vS 0 A.length, vS 1 B.length, vS 2 C.length]]) (by kernel_rfl) rfl (by kernel_rfl) (Sound.lay (E := [some ⟨nums A, 3, false, true⟩, some ⟨nums B, 3, false, true⟩, some ⟨nums C, 3, false, true⟩]) [0, 1, 2] (toSh_sss ((X : Nat) : Int) ((Y : Nat) : Int) ((Z : Nat) : Int) A B C (by first | omega | assumption) (by first | omega | assumption) (by first | omega | assumption)) ⟨rdF false (flatNums _ _ _ _) rfl rfl, ⟨rdF false (flatNums _ _ _ _) rfl rfl, ⟨rdF false (flatNums _ _ _ _) rfl rfl, trivial⟩⟩⟩ rfl ⟨clF (flatNums _ _ _ _), ⟨clF (flatNums _ _ _ _), ⟨clF (flatNums _ _ _ _), trivial⟩⟩⟩ rfl (by first | rfl | simp [mpV, mpA, mpS, mpP, renId, shift]) (by first | rfl | simp [mpV, mpA, mpS, mpP, renId, shift]) ⟨enF (flatNums _ _ _ _) (Or.inl rfl), ⟨enF (flatNums _ _ _ _) (Or.inl rfl), ⟨enF (flatNums _ _ _ _) (Or.inl rfl), trivial⟩⟩⟩) ?_
    refine segEnd [1, 4, 5, 6] (T1 := (mkT 40 [(1, vP 3 0), (4, vI (lbS X Y Z A B C)), (5, .bool (shadB X Y Z A B C)), (6, vP 10 0)])) (H1 := [some ⟨nums A, 3, false, false⟩, some ⟨nums B, 3, false, false⟩, some ⟨nums C, 3, false, false⟩, rB [vN X, vN Y, vN Z, vS 0 A.length, vS 1 B.length, vS 2 C.length] 24, some ⟨nums A, 3, false, true⟩, some ⟨nums B, 3, false, true⟩, some ⟨nums C, 3, false, true⟩, some ⟨nums A, 3, false, true⟩, some ⟨nums B, 3, false, true⟩, some ⟨nums C, 3, false, true⟩, rB [vN X, vN Y, vN Z, vS 7 A.length, vS 8 B.length, vS 9 C.length] 27]) (by kernel_rfl) ?_
    refine kSeq ?_
    refine cSeq ?_
    refine cReg ?_
    refine segH 1 (T1 := (mkT 40 [(1, vP 3 0), (4, vI (lbS X Y Z A B C)), (5, .bool (shadB X Y Z A B C)), (6, vP 10 0), (23, .agg #[vN X, vN Y, vN Z, vS 7 A.length, vS 8 B.length, vS 9 C.length])])) (by kernel_rfl) ?_
    refine rCall (v := .tuple #[vI (lbS X Y Z A B C), .bool (shadB X Y Z A B C)]) (args := [.agg #[vN X, vN Y, vN Z, vS 7 A.length, vS 8 B.length, vS 9 C.length]]) (by kernel_rfl) rfl (by kernel_rfl) (Sound.lay0 [7, 8, 9] (implLineBound_yes X Y Z A B C (by first | assumption | omega | rfl | decide | exact HeapL.list _ _ _ _ | exact HeapL.nil _ _ _ | exact HeapL.all _ _ _ | (apply HeapL.lt64 <;> assumption) | (repeat' (first | assumption | apply or_lt64 | apply and_lt64 | apply andn_lt64 | apply pow_lt64 | (apply HeapL.lt64 <;> assumption)))) (by first | omega | assumption | (simp; done)) (by first | omega | assumption | (simp; done)) (by first | omega | assumption | (simp; done))) ⟨rdF true (flatNums _ _ _ _) rfl rfl, ⟨rdF true (flatNums _ _ _ _) rfl rfl, ⟨rdF true (flatNums _ _ _ _) rfl rfl, trivial⟩⟩⟩ rfl ⟨clF (flatNums _ _ _ _), ⟨clF (flatNums _ _ _ _), ⟨clF (flatNums _ _ _ _), trivial⟩⟩⟩ rfl (by first | rfl | simp [mpV, mpA, mpS, mpP, renId, shift]) (by first | rfl | simp [mpV, mpA, mpS, mpP, renId, shift])) ?_
    refine segEndH [1, 4, 5, 6, 7, 8] (T1 := (mkT 40 [(1, vP 3 0), (4, vI (lbS X Y Z A B C)), (5, .bool (shadB X Y Z A B C)), (6, vP 10 0), (7, vI (lbS X Y Z A B C)), (8, .bool (shadB X Y Z A B C))])) (by kernel_rfl) ?_
    refine kSeq ?_
    refine cSeq ?_
    refine cSeq ?_
    refine cReg ?_
    refine segH 2 (T1 := (mkT 40 [(1, vP 3 0), (4, vI (lbS X Y Z A B C)), (5, .bool (shadB X Y Z A B C)), (6, vP 10 0), (7, vI (lbS X Y Z A B C)), (8, .bool (shadB X Y Z A B C)), (27, vI (lbS X Y Z A B C)), (28, vI (lbS X Y Z A B C))])) (by kernel_rfl) ?_
    refine rOp (v := .bool false) (by kernel_rfl) (eNeS (k := .i64) (a := (lbS X Y Z A B C)) (by kernel_rfl) (by kernel_rfl)) ?_
    refine segH 3 (T1 := (mkT 40 [(1, vP 3 0), (4, vI (lbS X Y Z A B C)), (5, .bool (shadB X Y Z A B C)), (6, vP 10 0), (7, vI (lbS X Y Z A B C)), (8, .bool (shadB X Y Z A B C)), (27, vI (lbS X Y Z A B C)), (28, vI (lbS X Y Z A B C)), (29, .bool false), (30, .bool false), (31, .bool (shadB X Y Z A B C)), (32, .bool (shadB X Y Z A B C))])) (by kernel_rfl) ?_
    refine rOp (v := .bool false) (by kernel_rfl) (eNeB (b := (shadB X Y Z A B C)) (by kernel_rfl) (by kernel_rfl) (by kernel_rfl)) ?_
    refine segEndH [1, 6, 34] (T1 := (mkT 40 [(1, vP 3 0), (6, vP 10 0), (34, .bool false)])) (by kernel_rfl) ?_
    refine kSeq ?_
    refine cFalse (by kernel_rfl) ?_
    refine cSkip ?_
    refine kSeq ?_
    refine cSeq ?_
    refine cSeq ?_
    refine cRegW (N := 14) [⟨[], [], [10]⟩, ⟨[], [], [3]⟩, ⟨[11, 12, 13], [], [0, 1, 2]⟩, ⟨[], [], [7, 8, 9, 11, 12, 13]⟩, ⟨[], [], []⟩] 3 [11, 12, 13] (by rfl) (by rfl) (by kernel_rfl) (by kernel_rfl) (by kernel_rfl) ⟨nmsF (flatNums _ _ _ _), ⟨nmsF (flatNums _ _ _ _), ⟨nmsF (flatNums _ _ _ _), ⟨nmsX (by kernel_rfl), ⟨nmsF (flatNums _ _ _ _), ⟨nmsF (flatNums _ _ _ _), ⟨nmsF (flatNums _ _ _ _), ⟨nmsF (flatNums _ _ _ _), ⟨nmsF (flatNums _ _ _ _), ⟨nmsF (flatNums _ _ _ _), ⟨nmsX (by kernel_rfl), trivial⟩⟩⟩⟩⟩⟩⟩⟩⟩⟩⟩ ?_
    refine segWH 2 (T1 := (mkT 40 [(1, vP 3 0), (6, vP 10 0), (34, .bool false), (35, .agg #[vN X, vN Y, vN Z, vS 7 A.length, vS 8 B.length, vS 9 C.length]), (36, .agg #[vN X, vN Y, vN Z, vS 0 A.length, vS 1 B.length, vS 2 C.length])])) (by kernel_rfl) ?_
    refine rW (m := ⟨[11, 12, 13], [], [0, 1, 2]⟩) (v := .agg #[vN X, vN Y, vN Z, vS 11 A.length, vS 12 B.length, vS 13 C.length]) rfl (by kernel_rfl) (stN (i := 11) (E := [some ⟨nums A, 3, false, true⟩, some ⟨nums B, 3, false, true⟩, some ⟨nums C, 3, false, true⟩]) (v1 := .agg #[vN X, vN Y, vN Z, vS 14 A.length, vS 15 B.length, vS 16 C.length]) (args := [.agg #[vN X, vN Y, vN Z, vS 0 A.length, vS 1 B.length, vS 2 C.length]]) rfl (by kernel_rfl) (Any.lay (E := [some ⟨nums A, 3, false, true⟩, some ⟨nums B, 3, false, true⟩, some ⟨nums C, 3, false, true⟩]) (N := 14) [0, 1, 2] (toSh_sss ((X : Nat) : Int) ((Y : Nat) : Int) ((Z : Nat) : Int) A B C (by first | omega | assumption) (by first | omega | assumption) (by first | omega | assumption)) ⟨rdF false (flatNums _ _ _ _) rfl rfl, ⟨rdF false (flatNums _ _ _ _) rfl rfl, ⟨rdF false (flatNums _ _ _ _) rfl rfl, trivial⟩⟩⟩ rfl ⟨clF (flatNums _ _ _ _), ⟨clF (flatNums _ _ _ _), ⟨clF (flatNums _ _ _ _), trivial⟩⟩⟩ rfl (by first | rfl | simp [mpV, mpA, mpS, mpP, renId, shift]) (by first | rfl | simp [mpV, mpA, mpS, mpP, renId, shift]) ⟨enF (flatNums _ _ _ _) (Or.inl rfl), ⟨enF (flatNums _ _ _ _) (Or.inl rfl), ⟨enF (flatNums _ _ _ _) (Or.inl rfl), trivial⟩⟩⟩) rfl (by kernel_rfl) (by kernel_rfl) (by kernel_rfl) (by kernel_rfl) (FlatH.cons (flatNums _ _ _ _) (FlatH.cons (flatNums _ _ _ _) (FlatH.cons (flatNums _ _ _ _) FlatH.nil)))) (by kernel_rfl) (NRs.all ⟨nrOf (by rfl) (nmF (flatNums _ _ _ _)), ⟨nrOf (by rfl) (nmF (flatNums _ _ _ _)), ⟨nrOf (by rfl) (nmF (flatNums _ _ _ _)), trivial⟩⟩⟩) ?_
    refine rW (m := ⟨[], [], [7, 8, 9, 11, 12, 13]⟩) (v := .bool true) rfl (by kernel_rfl) (stQ (args := [.agg #[vN X, vN Y, vN Z, vS 7 A.length, vS 8 B.length, vS 9 C.length], .agg #[vN X, vN Y, vN Z, vS 11 A.length, vS 12 B.length, vS 13 C.length]]) rfl (by kernel_rfl) (Any.lay0 [7, 8, 9, 11, 12, 13] (eqSh ((X : Nat) : Int) ((Y : Nat) : Int) ((Z : Nat) : Int) A B C (by first | omega | assumption | (simp; done)) (by first | omega | assumption | (simp; done)) (by first | omega | assumption | (simp; done))) ⟨rdF true (flatNums _ _ _ _) rfl rfl, ⟨rdF true (flatNums _ _ _ _) rfl rfl, ⟨rdF true (flatNums _ _ _ _) rfl rfl, ⟨rdF true (flatNums _ _ _ _) rfl rfl, ⟨rdF true (flatNums _ _ _ _) rfl rfl, ⟨rdF true (flatNums _ _ _ _) rfl rfl, trivial⟩⟩⟩⟩⟩⟩ rfl ⟨clF (flatNums _ _ _ _), ⟨clF (flatNums _ _ _ _), ⟨clF (flatNums _ _ _ _), ⟨clF (flatNums _ _ _ _), ⟨clF (flatNums _ _ _ _), ⟨clF (flatNums _ _ _ _), trivial⟩⟩⟩⟩⟩⟩ rfl (by first | rfl | simp [mpV, mpA, mpS, mpP, renId, shift]) rfl) rfl (by kernel_rfl) (by kernel_rfl)) (by kernel_rfl) nr0 ?_
    refine segEndW [39] (T1 := (mkT 40 [(39, .bool false)])) (H1 := [some ⟨nums A, 3, false, false⟩, some ⟨nums B, 3, false, false⟩, some ⟨nums C, 3, false, false⟩, rB [vN X, vN Y, vN Z, vS 0 A.length, vS 1 B.length, vS 2 C.length] 24, some ⟨nums A, 3, false, true⟩, some ⟨nums B, 3, false, true⟩, some ⟨nums C, 3, false, true⟩, some ⟨nums A, 3, false, true⟩, some ⟨nums B, 3, false, true⟩, some ⟨nums C, 3, false, true⟩, rB [vN X, vN Y, vN Z, vS 7 A.length, vS 8 B.length, vS 9 C.length] 27, some ⟨nums A, 3, false, true⟩, some ⟨nums B, 3, false, true⟩, some ⟨nums C, 3, false, true⟩]) (by kernel_rfl) ?_
    refine kSeq ?_
    refine cFalse (by kernel_rfl) ?_
    refine cSkip ?_
    refine kSeq ?_
    refine cSeq ?_
    refine cReg ?_
    refine segEndH [2] (T1 := (mkT 40 [(2, .bool true)])) (by kernel_rfl) ?_
    refine kSeq ?_
    refine cRet ?_
    -- end
    exact endQ (Or.inr rfl) (l := [.bool true]) [rB [vN X, vN Y, vN Z, vS 0 A.length, vS 1 B.length, vS 2 C.length] 24, some ⟨nums A, 3, false, true⟩, some ⟨nums B, 3, false, true⟩, some ⟨nums C, 3, false, true⟩, some ⟨nums A, 3, false, true⟩, some ⟨nums B, 3, false, true⟩, some ⟨nums C, 3, false, true⟩, rB [vN X, vN Y, vN Z, vS 7 A.length, vS 8 B.length, vS 9 C.length] 27, some ⟨nums A, 3, false, true⟩, some ⟨nums B, 3, false, true⟩, some ⟨nums C, 3, false, true⟩] (by kernel_rfl) (by first | rfl | kernel_rfl) rfl rfl hcl rfl
  ·
    (try simp only [Bool.not_eq_true', Bool.not_eq_false', decide_eq_true_eq, decide_eq_false_iff_not, beq_iff_eq, bne_iff_ne, beq_eq_false_iff_ne, bne_eq_false_iff_eq, ne_eq, Decidable.not_not, Bool.and_eq_true, Bool.and_eq_false_imp, Bool.or_eq_true, Bool.or_eq_false_iff, Bool.not_eq_true, Int.not_lt, Int.not_le, ge_iff_le, gt_iff_lt] at h1)
    exfalso; omega

set_option maxRecDepth 100000 in
set_option maxHeartbeats 4000000 in
theorem lawLineBound_bigA_ssn (x : Int) (y : Int) (z : Int) (A : List Int) (B : List Int) (hl : 1048576 < A.length) (hm : A.length ≤ 9223372036854775807) : Sound Try.prog 5 [.agg #[vI x, vI y, vI z, vS 0 A.length, vS 1 B.length, .slice none 0 0]] [some ⟨nums A, 3, false, false⟩, some ⟨nums B, 3, false, false⟩] (.bool true) [some ⟨nums A, 3, false, false⟩, some ⟨nums B, 3, false, false⟩] := by
  refine sound_intro (C := cx) Try.func5 rfl (by kernel_rfl) fun hcl => ?_
  refine cSeq ?_
  refine cReg ?_
  refine segEnd [1] (T1 := (mkT 40 [(1, vP 2 0)])) (H1 := [some ⟨nums A, 3, false, false⟩, some ⟨nums B, 3, false, false⟩, rB [vI x, vI y, vI z, vS 0 A.length, vS 1 B.length, .slice none 0 0] 24]) (by kernel_rfl) ?_
  refine kSeq ?_
  refine cSeq ?_
  refine cReg ?_
  refine segEndH [1, 3] (T1 := (mkT 40 [(1, vP 2 0), (3, vI 1048576)])) (by kernel_rfl) ?_
  refine kSeq ?_
  refine cSeq ?_
  refine cReg ?_
  refine segH 2 (T1 := (mkT 40 [(1, vP 2 0), (3, vI 1048576), (9, .agg #[vI x, vI y, vI z, vS 0 A.length, vS 1 B.length, .slice none 0 0]), (10, vI 1048576)])) (by kernel_rfl) ?_
  refine rCall (v := vI (-1)) (args := [.agg #[vI x, vI y, vI z, vS 0 A.length, vS 1 B.length, .slice none 0 0], vI 1048576]) (by kernel_rfl) rfl (by kernel_rfl) (Sound.lay0 [0, 1] (szSh_ssn_A x y z A B 1048576 (by first | omega | assumption | (simp; done) | (simp; omega)) (by first | assumption | omega | rfl | decide | exact HeapL.list _ _ _ _ | exact HeapL.nil _ _ _ | exact HeapL.all _ _ _ | (apply HeapL.lt64 <;> assumption) | (repeat' (first | assumption | apply or_lt64 | apply and_lt64 | apply andn_lt64 | apply pow_lt64 | (apply HeapL.lt64 <;> assumption)))) (by first | omega | assumption | decide)) ⟨rdF false (flatNums _ _ _ _) rfl rfl, ⟨rdF false (flatNums _ _ _ _) rfl rfl, trivial⟩⟩ rfl ⟨clF (flatNums _ _ _ _), ⟨clF (flatNums _ _ _ _), trivial⟩⟩ rfl (by first | rfl | simp [mpV, mpA, mpS, mpP, renId, shift]) rfl) ?_
  refine segEndH [1, 3] (T1 := (mkT 40 [(1, vP 2 0), (3, vI (-1))])) (by kernel_rfl) ?_
  refine kSeq ?_
  refine cSeq ?_
  refine cSeq ?_
  refine cReg ?_
  refine segEndH [1, 13] (T1 := (mkT 40 [(1, vP 2 0), (13, .bool true)])) (by kernel_rfl) ?_
  refine kSeq ?_
  refine cTrue (by kernel_rfl) ?_
  refine cSeq ?_
  refine cReg ?_
  refine segEndH [2] (T1 := (mkT 40 [(2, .bool true)])) (by kernel_rfl) ?_
  refine kSeq ?_
  refine cRet ?_
  refine kSeqR ?_
  -- end
  exact endQ (Or.inr rfl) (l := [.bool true]) [rB [vI x, vI y, vI z, vS 0 A.length, vS 1 B.length, .slice none 0 0] 24] (by kernel_rfl) (by first | rfl | kernel_rfl) rfl rfl hcl rfl

set_option maxRecDepth 100000 in
set_option maxHeartbeats 4000000 in
theorem lawLineBound_bigB_ssn (x : Int) (y : Int) (z : Int) (A : List Int) (B : List Int) (h0 : A.length ≤ 1048576) (hl : 1048576 - A.length < B.length) (hm : B.length ≤ 9223372036854775807) : Sound Try.prog 5 [.agg #[vI x, vI y, vI z, vS 0 A.length, vS 1 B.length, .slice none 0 0]] [some ⟨nums A, 3, false, false⟩, some ⟨nums B, 3, false, false⟩] (.bool true) [some ⟨nums A, 3, false, false⟩, some ⟨nums B, 3, false, false⟩] := by
  refine sound_intro (C := cx) Try.func5 rfl (by kernel_rfl) fun hcl => ?_
  refine cSeq ?_
  refine cReg ?_
  refine segEnd [1] (T1 := (mkT 40 [(1, vP 2 0)])) (H1 := [some ⟨nums A, 3, false, false⟩, some ⟨nums B, 3, false, false⟩, rB [vI x, vI y, vI z, vS 0 A.length, vS 1 B.length, .slice none 0 0] 24]) (by kernel_rfl) ?_
  refine kSeq ?_
  refine cSeq ?_
  refine cReg ?_
  refine segEndH [1, 3] (T1 := (mkT 40 [(1, vP 2 0), (3, vI 1048576)])) (by kernel_rfl) ?_
  refine kSeq ?_
  refine cSeq ?_
  refine cReg ?_
  refine segH 2 (T1 := (mkT 40 [(1, vP 2 0), (3, vI 1048576), (9, .agg #[vI x, vI y, vI z, vS 0 A.length, vS 1 B.length, .slice none 0 0]), (10, vI 1048576)])) (by kernel_rfl) ?_
  refine rCall (v := vI (-1)) (args := [.agg #[vI x, vI y, vI z, vS 0 A.length, vS 1 B.length, .slice none 0 0], vI 1048576]) (by kernel_rfl) rfl (by kernel_rfl) (Sound.lay0 [0, 1] (szSh_ssn_B x y z A B 1048576 (by first | assumption | omega) (by first | omega | assumption | (simp; done) | (simp; omega)) (by first | assumption | omega | rfl | decide | exact HeapL.list _ _ _ _ | exact HeapL.nil _ _ _ | exact HeapL.all _ _ _ | (apply HeapL.lt64 <;> assumption) | (repeat' (first | assumption | apply or_lt64 | apply and_lt64 | apply andn_lt64 | apply pow_lt64 | (apply HeapL.lt64 <;> assumption)))) (by first | omega | assumption | decide)) ⟨rdF false (flatNums _ _ _ _) rfl rfl, ⟨rdF false (flatNums _ _ _ _) rfl rfl, trivial⟩⟩ rfl ⟨clF (flatNums _ _ _ _), ⟨clF (flatNums _ _ _ _), trivial⟩⟩ rfl (by first | rfl | simp [mpV, mpA, mpS, mpP, renId, shift]) rfl) ?_
  refine segEndH [1, 3] (T1 := (mkT 40 [(1, vP 2 0), (3, vI (-1))])) (by kernel_rfl) ?_
  refine kSeq ?_
  refine cSeq ?_
  refine cSeq ?_
  refine cReg ?_
  refine segEndH [1, 13] (T1 := (mkT 40 [(1, vP 2 0), (13, .bool true)])) (by kernel_rfl) ?_
  refine kSeq ?_
  refine cTrue (by kernel_rfl) ?_
  refine cSeq ?_
  refine cReg ?_
  refine segEndH [2] (T1 := (mkT 40 [(2, .bool true)])) (by kernel_rfl) ?_
  refine kSeq ?_
  refine cRet ?_
  refine kSeqR ?_
  -- end
  exact endQ (Or.inr rfl) (l := [.bool true]) [rB [vI x, vI y, vI z, vS 0 A.length, vS 1 B.length, .slice none 0 0] 24] (by kernel_rfl) (by first | rfl | kernel_rfl) rfl rfl hcl rfl

set_option maxRecDepth 100000 in
set_option maxHeartbeats 4000000 in
theorem lawLineBound_no_ssn (x : Int) (y : Int) (z : Int) (A : List Int) (B : List Int) (hl : A.length + B.length ≤ 1048576) (hv : valid3 x y z = false) : Sound Try.prog 5 [.agg #[vI x, vI y, vI z, vS 0 A.length, vS 1 B.length, .slice none 0 0]] [some ⟨nums A, 3, false, false⟩, some ⟨nums B, 3, false, false⟩] (.bool true) [some ⟨nums A, 3, false, false⟩, some ⟨nums B, 3, false, false⟩] := by
  refine sound_intro (C := cx) Try.func5 rfl (by kernel_rfl) fun hcl => ?_
  refine cSeq ?_
  refine cReg ?_
  refine segEnd [1] (T1 := (mkT 40 [(1, vP 2 0)])) (H1 := [some ⟨nums A, 3, false, false⟩, some ⟨nums B, 3, false, false⟩, rB [vI x, vI y, vI z, vS 0 A.length, vS 1 B.length, .slice none 0 0] 24]) (by kernel_rfl) ?_
  refine kSeq ?_
  refine cSeq ?_
  refine cReg ?_
  refine segEndH [1, 3] (T1 := (mkT 40 [(1, vP 2 0), (3, vI 1048576)])) (by kernel_rfl) ?_
  refine kSeq ?_
  refine cSeq ?_
  refine cReg ?_
  refine segH 2 (T1 := (mkT 40 [(1, vP 2 0), (3, vI 1048576), (9, .agg #[vI x, vI y, vI z, vS 0 A.length, vS 1 B.length, .slice none 0 0]), (10, vI 1048576)])) (by kernel_rfl) ?_
  refine rCall (v := vN (1048576 - A.length - B.length)) (args := [.agg #[vI x, vI y, vI z, vS 0 A.length, vS 1 B.length, .slice none 0 0], vI 1048576]) (by kernel_rfl) rfl (by kernel_rfl) (Sound.lay0 [0, 1] (szSh_ssn x y z A B 1048576 (by first | omega | assumption | (simp; done) | (simp; omega)) (by first | omega | assumption | decide)) ⟨rdF false (flatNums _ _ _ _) rfl rfl, ⟨rdF false (flatNums _ _ _ _) rfl rfl, trivial⟩⟩ rfl ⟨clF (flatNums _ _ _ _), ⟨clF (flatNums _ _ _ _), trivial⟩⟩ rfl (by first | rfl | simp [mpV, mpA, mpS, mpP, renId, shift]) rfl) ?_
  refine segEndH [1, 3] (T1 := (mkT 40 [(1, vP 2 0), (3, vN (1048576 - A.length - B.length))])) (by kernel_rfl) ?_
  refine kSeq ?_
  refine cSeq ?_
  refine cSeq ?_
  refine cReg ?_
  refine segEndH [1, 13] (T1 := (mkT 40 [(1, vP 2 0), (13, .bool (decide (((1048576 - A.length - B.length : Nat) : Int) < 0)))])) (by kernel_rfl) ?_
  refine kSeq ?_
  cases h1 : (decide (((1048576 - A.length - B.length : Nat) : Int) < 0) : Bool)
  ·
    (try simp only [Bool.not_eq_true', Bool.not_eq_false', decide_eq_true_eq, decide_eq_false_iff_not, beq_iff_eq, bne_iff_ne, beq_eq_false_iff_ne, bne_eq_false_iff_eq, ne_eq, Decidable.not_not, Bool.and_eq_true, Bool.and_eq_false_imp, Bool.or_eq_true, Bool.or_eq_false_iff, Bool.not_eq_true, Int.not_lt, Int.not_le, ge_iff_le, gt_iff_lt] at h1)
    refine cFalse (by kernel_rfl) ?_
    refine cSkip ?_
    refine kSeq ?_
    refine cSeq ?_
    refine cReg ?_
    refine segH 1 (T1 := (mkT 40 [(1, vP 2 0), (13, .bool false), (15, .agg #[vI x, vI y, vI z, vS 0 A.length, vS 1 B.length, .slice none 0 0])])) (by kernel_rfl) ?_
    refine rCall (v := .agg #[vI x, vI y, vI z, vS 3 A.length, vS 4 B.length, vS 5 0]) (args := [.agg #[vI x, vI y, vI z, vS 0 A.length, vS 1 B.length, .slice none 0 0]]) (by kernel_rfl) rfl (by kernel_rfl) (Sound.lay (E := [some ⟨nums A, 3, false, true⟩, some ⟨nums B, 3, false, true⟩, some ⟨nums ([] : List Int), 3, false, true⟩]) [0, 1] (toSh_ssn x y z A B (by first | omega | assumption) (by first | omega | assumption)) ⟨rdF false (flatNums _ _ _ _) rfl rfl, ⟨rdF false (flatNums _ _ _ _) rfl rfl, trivial⟩⟩ rfl ⟨clF (flatNums _ _ _ _), ⟨clF (flatNums _ _ _ _), trivial⟩⟩ rfl (by first | rfl | simp [mpV, mpA, mpS, mpP, renId, shift]) (by first | rfl | simp [mpV, mpA, mpS, mpP, renId, shift]) ⟨enF (flatNums _ _ _ _) (Or.inl rfl), ⟨enF (flatNums _ _ _ _) (Or.inl rfl), ⟨enF (flatNums _ _ _ _) (Or.inl rfl), trivial⟩⟩⟩) ?_
    refine rCall (v := .tuple #[vI 0, .bool false]) (args := [.agg #[vI x, vI y, vI z, vS 3 A.length, vS 4 B.length, vS 5 0]]) (by kernel_rfl) rfl (by kernel_rfl) (Sound.lay0 [3, 4, 5] (specLineBound_no x y z A B ([] : List Int) (by first | assumption | omega | rfl | decide | exact HeapL.list _ _ _ _ | exact HeapL.nil _ _ _ | exact HeapL.all _ _ _ | (apply HeapL.lt64 <;> assumption) | (repeat' (first | assumption | apply or_lt64 | apply and_lt64 | apply andn_lt64 | apply pow_lt64 | (apply HeapL.lt64 <;> assumption)))) (by first | omega | assumption | (simp; done)) (by first | omega | assumption | (simp; done)) (by first | omega | assumption | (simp; done))) ⟨rdF true (flatNums _ _ _ _) rfl rfl, ⟨rdF true (flatNums _ _ _ _) rfl rfl, ⟨rdF true (flatNums _ _ _ _) rfl rfl, trivial⟩⟩⟩ rfl ⟨clF (flatNums _ _ _ _), ⟨clF (flatNums _ _ _ _), ⟨clF (flatNums _ _ _ _), trivial⟩⟩⟩ rfl (by first | rfl | simp [mpV, mpA, mpS, mpP, renId, shift]) (by first | rfl | simp [mpV, mpA, mpS, mpP, renId, shift])) ?_
    refine segEnd [1, 4, 5] (T1 := (mkT 40 [(1, vP 2 0), (4, vI 0), (5, .bool false)])) (H1 := [some ⟨nums A, 3, false, false⟩, some ⟨nums B, 3, false, false⟩, rB [vI x, vI y, vI z, vS 0 A.length, vS 1 B.length, .slice none 0 0] 24, some ⟨nums A, 3, false, true⟩, some ⟨nums B, 3, false, true⟩, some ⟨nums ([] : List Int), 3, false, true⟩]) (by kernel_rfl) ?_
    refine kSeq ?_
    refine cSeq ?_
    refine cReg ?_
    refine segH 1 (T1 := (mkT 40 [(1, vP 2 0), (4, vI 0), (5, .bool false), (20, .agg #[vI x, vI y, vI z, vS 0 A.length, vS 1 B.length, .slice none 0 0])])) (by kernel_rfl) ?_
    refine rCall (v := .agg #[vI x, vI y, vI z, vS 6 A.length, vS 7 B.length, vS 8 0]) (args := [.agg #[vI x, vI y, vI z, vS 0 A.length, vS 1 B.length, .slice none 0 0]]) (by kernel_rfl) rfl (by kernel_rfl) (Sound.lay (E := [some ⟨nums A, 3, false, true⟩, some ⟨nums B, 3, false, true⟩, some ⟨nums ([] : List Int), 3, false, true⟩]) [0, 1] (toSh_ssn x y z A B (by first | omega | assumption) (by first | omega | assumption)) ⟨rdF false (flatNums _ _ _ _) rfl rfl, ⟨rdF false (flatNums _ _ _ _) rfl rfl, trivial⟩⟩ rfl ⟨clF (flatNums _ _ _ _), ⟨clF (flatNums _ _ _ _), trivial⟩⟩ rfl (by first | rfl | simp [mpV, mpA, mpS, mpP, renId, shift]) (by first | rfl | simp [mpV, mpA, mpS, mpP, renId, shift]) ⟨enF (flatNums _ _ _ _) (Or.inl rfl), ⟨enF (flatNums _ _ _ _) (Or.inl rfl), ⟨enF (flatNums _ _ _ _) (Or.inl rfl), trivial⟩⟩⟩) ?_
    refine segEnd [1, 4, 5, 6] (T1 := (mkT 40 [(1, vP 2 0), (4, vI 0), (5, .bool false), (6, vP 9 0)])) (H1 := [some ⟨nums A, 3, false, false⟩, some ⟨nums B, 3, false, false⟩, rB [vI x, vI y, vI z, vS 0 A.length, vS 1 B.length, .slice none 0 0] 24, some ⟨nums A, 3, false, true⟩, some ⟨nums B, 3, false, true⟩, some ⟨nums ([] : List Int), 3, false, true⟩, some ⟨nums A, 3, false, true⟩, some ⟨nums B, 3, false, true⟩, some ⟨nums ([] : List Int), 3, false, true⟩, rB [vI x, vI y, vI z, vS 6 A.length, vS 7 B.length, vS 8 0] 27]) (by kernel_rfl) ?_
    refine kSeq ?_
    refine cSeq ?_
    refine cReg ?_
    refine segH 1 (T1 := (mkT 40 [(1, vP 2 0), (4, vI 0), (5, .bool false), (6, vP 9 0), (23, .agg #[vI x, vI y, vI z, vS 6 A.length, vS 7 B.length, vS 8 0])])) (by kernel_rfl) ?_
    refine rCall (v := .tuple #[vI 0, .bool false]) (args := [.agg #[vI x, vI y, vI z, vS 6 A.length, vS 7 B.length, vS 8 0]]) (by kernel_rfl) rfl (by kernel_rfl) (Sound.lay0 [6, 7, 8] (implLineBound_no x y z A B ([] : List Int) (by first | assumption | omega | rfl | decide | exact HeapL.list _ _ _ _ | exact HeapL.nil _ _ _ | exact HeapL.all _ _ _ | (apply HeapL.lt64 <;> assumption) | (repeat' (first | assumption | apply or_lt64 | apply and_lt64 | apply andn_lt64 | apply pow_lt64 | (apply HeapL.lt64 <;> assumption)))) (by first | omega | assumption | (simp; done)) (by first | omega | assumption | (simp; done)) (by first | omega | assumption | (simp; done))) ⟨rdF true (flatNums _ _ _ _) rfl rfl, ⟨rdF true (flatNums _ _ _ _) rfl rfl, ⟨rdF true (flatNums _ _ _ _) rfl rfl, trivial⟩⟩⟩ rfl ⟨clF (flatNums _ _ _ _), ⟨clF (flatNums _ _ _ _), ⟨clF (flatNums _ _ _ _), trivial⟩⟩⟩ rfl (by first | rfl | simp [mpV, mpA, mpS, mpP, renId, shift]) (by first | rfl | simp [mpV, mpA, mpS, mpP, renId, shift])) ?_
    refine segEndH [1, 4, 5, 6, 7, 8] (T1 := (mkT 40 [(1, vP 2 0), (4, vI 0), (5, .bool false), (6, vP 9 0), (7, vI 0), (8, .bool false)])) (by kernel_rfl) ?_
    refine kSeq ?_
    refine cSeq ?_
    refine cSeq ?_
    refine cReg ?_
    refine segEndH [1, 6, 34] (T1 := (mkT 40 [(1, vP 2 0), (6, vP 9 0), (34, .bool false)])) (by kernel_rfl) ?_
    refine kSeq ?_
    refine cFalse (by kernel_rfl) ?_
    refine cSkip ?_
    refine kSeq ?_
    refine cSeq ?_
    refine cSeq ?_
    refine cRegW (N := 13) [⟨[], [], [9]⟩, ⟨[], [], [2]⟩, ⟨[10, 11, 12], [], [0, 1]⟩, ⟨[], [], [6, 7, 8, 10, 11, 12]⟩, ⟨[], [], []⟩] 3 [10, 11, 12] (by rfl) (by rfl) (by kernel_rfl) (by kernel_rfl) (by kernel_rfl) ⟨nmsF (flatNums _ _ _ _), ⟨nmsF (flatNums _ _ _ _), ⟨nmsX (by kernel_rfl), ⟨nmsF (flatNums _ _ _ _), ⟨nmsF (flatNums _ _ _ _), ⟨nmsF (flatNums _ _ _ _), ⟨nmsF (flatNums _ _ _ _), ⟨nmsF (flatNums _ _ _ _), ⟨nmsF (flatNums _ _ _ _), ⟨nmsX (by kernel_rfl), trivial⟩⟩⟩⟩⟩⟩⟩⟩⟩⟩ ?_
    refine segWH 2 (T1 := (mkT 40 [(1, vP 2 0), (6, vP 9 0), (34, .bool false), (35, .agg #[vI x, vI y, vI z, vS 6 A.length, vS 7 B.length, vS 8 0]), (36, .agg #[vI x, vI y, vI z, vS 0 A.length, vS 1 B.length, .slice none 0 0])])) (by kernel_rfl) ?_
    refine rW (m := ⟨[10, 11, 12], [], [0, 1]⟩) (v := .agg #[vI x, vI y, vI z, vS 10 A.length, vS 11 B.length, vS 12 0]) rfl (by kernel_rfl) (stN (i := 10) (E := [some ⟨nums A, 3, false, true⟩, some ⟨nums B, 3, false, true⟩, some ⟨nums ([] : List Int), 3, false, true⟩]) (v1 := .agg #[vI x, vI y, vI z, vS 13 A.length, vS 14 B.length, vS 15 0]) (args := [.agg #[vI x, vI y, vI z, vS 0 A.length, vS 1 B.length, .slice none 0 0]]) rfl (by kernel_rfl) (Any.lay (E := [some ⟨nums A, 3, false, true⟩, some ⟨nums B, 3, false, true⟩, some ⟨nums ([] : List Int), 3, false, true⟩]) (N := 13) [0, 1] (toSh_ssn x y z A B (by first | omega | assumption) (by first | omega | assumption)) ⟨rdF false (flatNums _ _ _ _) rfl rfl, ⟨rdF false (flatNums _ _ _ _) rfl rfl, trivial⟩⟩ rfl ⟨clF (flatNums _ _ _ _), ⟨clF (flatNums _ _ _ _), trivial⟩⟩ rfl (by first | rfl | simp [mpV, mpA, mpS, mpP, renId, shift]) (by first | rfl | simp [mpV, mpA, mpS, mpP, renId, shift]) ⟨enF (flatNums _ _ _ _) (Or.inl rfl), ⟨enF (flatNums _ _ _ _) (Or.inl rfl), ⟨enF (flatNums _ _ _ _) (Or.inl rfl), trivial⟩⟩⟩) rfl (by kernel_rfl) (by kernel_rfl) (by kernel_rfl) (by kernel_rfl) (FlatH.cons (flatNums _ _ _ _) (FlatH.cons (flatNums _ _ _ _) (FlatH.cons (flatNums _ _ _ _) FlatH.nil)))) (by kernel_rfl) (NRs.all ⟨nrOf (by rfl) (nmF (flatNums _ _ _ _)), ⟨nrOf (by rfl) (nmF (flatNums _ _ _ _)), ⟨nrOf (by rfl) (nmF (flatNums _ _ _ _)), trivial⟩⟩⟩) ?_
    refine rW (m := ⟨[], [], [6, 7, 8, 10, 11, 12]⟩) (v := .bool true) rfl (by kernel_rfl) (stQ (args := [.agg #[vI x, vI y, vI z, vS 6 A.length, vS 7 B.length, vS 8 0], .agg #[vI x, vI y, vI z, vS 10 A.length, vS 11 B.length, vS 12 0]]) rfl (by kernel_rfl) (Any.lay0 [6, 7, 8, 10, 11, 12] (eqSh x y z A B ([] : List Int) (by first | omega | assumption | (simp; done)) (by first | omega | assumption | (simp; done)) (by first | omega | assumption | (simp; done))) ⟨rdF true (flatNums _ _ _ _) rfl rfl, ⟨rdF true (flatNums _ _ _ _) rfl rfl, ⟨rdF true (flatNums _ _ _ _) rfl rfl, ⟨rdF true (flatNums _ _ _ _) rfl rfl, ⟨rdF true (flatNums _ _ _ _) rfl rfl, ⟨rdF true (flatNums _ _ _ _) rfl rfl, trivial⟩⟩⟩⟩⟩⟩ rfl ⟨clF (flatNums _ _ _ _), ⟨clF (flatNums _ _ _ _), ⟨clF (flatNums _ _ _ _), ⟨clF (flatNums _ _ _ _), ⟨clF (flatNums _ _ _ _), ⟨clF (flatNums _ _ _ _), trivial⟩⟩⟩⟩⟩⟩ rfl (by first | rfl | simp [mpV, mpA, mpS, mpP, renId, shift]) rfl) rfl (by kernel_rfl) (by kernel_rfl)) (by kernel_rfl) nr0 ?_
    refine segEndW [39] (T1 := (mkT 40 [(39, .bool false)])) (H1 := [some ⟨nums A, 3, false, false⟩, some ⟨nums B, 3, false, false⟩, rB [vI x, vI y, vI z, vS 0 A.length, vS 1 B.length, .slice none 0 0] 24, some ⟨nums A, 3, false, true⟩, some ⟨nums B, 3, false, true⟩, some ⟨nums ([] : List Int), 3, false, true⟩, some ⟨nums A, 3, false, true⟩, some ⟨nums B, 3, false, true⟩, some ⟨nums ([] : List Int), 3, false, true⟩, rB [vI x, vI y, vI z, vS 6 A.length, vS 7 B.length, vS 8 0] 27, some ⟨nums A, 3, false, true⟩, some ⟨nums B, 3, false, true⟩, some ⟨nums ([] : List Int), 3, false, true⟩]) (by kernel_rfl) ?_
    refine kSeq ?_
    refine cFalse (by kernel_rfl) ?_
    refine cSkip ?_
    refine kSeq ?_
    refine cSeq ?_
    refine cReg ?_
    refine segEndH [2] (T1 := (mkT 40 [(2, .bool true)])) (by kernel_rfl) ?_
    refine kSeq ?_
    refine cRet ?_
    -- end
    exact endQ (Or.inr rfl) (l := [.bool true]) [rB [vI x, vI y, vI z, vS 0 A.length, vS 1 B.length, .slice none 0 0] 24, some ⟨nums A, 3, false, true⟩, some ⟨nums B, 3, false, true⟩, some ⟨nums ([] : List Int), 3, false, true⟩, some ⟨nums A, 3, false, true⟩, some ⟨nums B, 3, false, true⟩, some ⟨nums ([] : List Int), 3, false, true⟩, rB [vI x, vI y, vI z, vS 6 A.length, vS 7 B.length, vS 8 0] 27, some ⟨nums A, 3, false, true⟩, some ⟨nums B, 3, false, true⟩, some ⟨nums ([] : List Int), 3, false, true⟩] (by kernel_rfl) (by first | rfl | kernel_rfl) rfl rfl hcl rfl
  ·
    (try simp only [Bool.not_eq_true', Bool.not_eq_false', decide_eq_true_eq, decide_eq_false_iff_not, beq_iff_eq, bne_iff_ne, beq_eq_false_iff_ne, bne_eq_false_iff_eq, ne_eq, Decidable.not_not, Bool.and_eq_true, Bool.and_eq_false_imp, Bool.or_eq_true, Bool.or_eq_false_iff, Bool.not_eq_true, Int.not_lt, Int.not_le, ge_iff_le, gt_iff_lt] at h1)
    exfalso; omega

set_option maxRecDepth 100000 in
set_option maxHeartbeats 4000000 in
theorem lawLineBound_yes_ssn (X : Nat) (Y : Nat) (Z : Nat) (A : List Int) (B : List Int) (hl : A.length + B.length ≤ 1048576) (hs : Sides X Y Z) : Sound Try.prog 5 [.agg #[vN X, vN Y, vN Z, vS 0 A.length, vS 1 B.length, .slice none 0 0]] [some ⟨nums A, 3, false, false⟩, some ⟨nums B, 3, false, false⟩] (.bool true) [some ⟨nums A, 3, false, false⟩, some ⟨nums B, 3, false, false⟩] := by
  refine sound_intro (C := cx) Try.func5 rfl (by kernel_rfl) fun hcl => ?_
  refine cSeq ?_
  refine cReg ?_
  refine segEnd [1] (T1 := (mkT 40 [(1, vP 2 0)])) (H1 := [some ⟨nums A, 3, false, false⟩, some ⟨nums B, 3, false, false⟩, rB [vN X, vN Y, vN Z, vS 0 A.length, vS 1 B.length, .slice none 0 0] 24]) (by kernel_rfl) ?_
  refine kSeq ?_
  refine cSeq ?_
  refine cReg ?_
  refine segEndH [1, 3] (T1 := (mkT 40 [(1, vP 2 0), (3, vI 1048576)])) (by kernel_rfl) ?_
  refine kSeq ?_
  refine cSeq ?_
  refine cReg ?_
  refine segH 2 (T1 := (mkT 40 [(1, vP 2 0), (3, vI 1048576), (9, .agg #[vN X, vN Y, vN Z, vS 0 A.length, vS 1 B.length, .slice none 0 0]), (10, vI 1048576)])) (by kernel_rfl) ?_
  refine rCall (v := vN (1048576 - A.length - B.length)) (args := [.agg #[vN X, vN Y, vN Z, vS 0 A.length, vS 1 B.length, .slice none 0 0], vI 1048576]) (by kernel_rfl) rfl (by kernel_rfl) (Sound.lay0 [0, 1] (szSh_ssn ((X : Nat) : Int) ((Y : Nat) : Int) ((Z : Nat) : Int) A B 1048576 (by first | omega | assumption | (simp; done) | (simp; omega)) (by first | omega | assumption | decide)) ⟨rdF false (flatNums _ _ _ _) rfl rfl, ⟨rdF false (flatNums _ _ _ _) rfl rfl, trivial⟩⟩ rfl ⟨clF (flatNums _ _ _ _), ⟨clF (flatNums _ _ _ _), trivial⟩⟩ rfl (by first | rfl | simp [mpV, mpA, mpS, mpP, renId, shift]) rfl) ?_
  refine segEndH [1, 3] (T1 := (mkT 40 [(1, vP 2 0), (3, vN (1048576 - A.length - B.length))])) (by kernel_rfl) ?_
  refine kSeq ?_
  refine cSeq ?_
  refine cSeq ?_
  refine cReg ?_
  refine segEndH [1, 13] (T1 := (mkT 40 [(1, vP 2 0), (13, .bool (decide (((1048576 - A.length - B.length : Nat) : Int) < 0)))])) (by kernel_rfl) ?_
  refine kSeq ?_
  cases h1 : (decide (((1048576 - A.length - B.length : Nat) : Int) < 0) : Bool)
  ·
    (try simp only [Bool.not_eq_true', Bool.not_eq_false', decide_eq_true_eq, decide_eq_false_iff_not, beq_iff_eq, bne_iff_ne, beq_eq_false_iff_ne, bne_eq_false_iff_eq, ne_eq, Decidable.not_not, Bool.and_eq_true, Bool.and_eq_false_imp, Bool.or_eq_true, Bool.or_eq_false_iff, Bool.not_eq_true, Int.not_lt, Int.not_le, ge_iff_le, gt_iff_lt] at h1)
    refine cFalse (by kernel_rfl) ?_
    refine cSkip ?_
    refine kSeq ?_
    refine cSeq ?_
    refine cReg ?_
    refine segH 1 (T1 := (mkT 40 [(1, vP 2 0), (13, .bool false), (15, .agg #[vN X, vN Y, vN Z, vS 0 A.length, vS 1 B.length, .slice none 0 0])])) (by kernel_rfl) ?_
    refine rCall (v := .agg #[vN X, vN Y, vN Z, vS 3 A.length, vS 4 B.length, vS 5 0]) (args := [.agg #[vN X, vN Y, vN Z, vS 0 A.length, vS 1 B.length, .slice none 0 0]]) (by kernel_rfl) rfl (by kernel_rfl) (Sound.lay (E := [some ⟨nums A, 3, false, true⟩, some ⟨nums B, 3, false, true⟩, some ⟨nums ([] : List Int), 3, false, true⟩]) [0, 1] (toSh_ssn ((X : Nat) : Int) ((Y : Nat) : Int) ((Z : Nat) : Int) A B (by first | omega | assumption) (by first | omega | assumption)) ⟨rdF false (flatNums _ _ _ _) rfl rfl, ⟨rdF false (flatNums _ _ _ _) rfl rfl, trivial⟩⟩ rfl ⟨clF (flatNums _ _ _ _), ⟨clF (flatNums _ _ _ _), trivial⟩⟩ rfl (by first | rfl | simp [mpV, mpA, mpS, mpP, renId, shift]) (by first | rfl | simp [mpV, mpA, mpS, mpP, renId, shift]) ⟨enF (flatNums _ _ _ _) (Or.inl rfl), ⟨enF (flatNums _ _ _ _) (Or.inl rfl), ⟨enF (flatNums _ _ _ _) (Or.inl rfl), trivial⟩⟩⟩) ?_
    refine rCall (v := .tuple #[vI (lbS X Y Z A B ([] : List Int)), .bool (shadB X Y Z A B ([] : List Int))]) (args := [.agg #[vN X, vN Y, vN Z, vS 3 A.length, vS 4 B.length, vS 5 0]]) (by kernel_rfl) rfl (by kernel_rfl) (Sound.lay0 [3, 4, 5] (specLineBound_yes X Y Z A B ([] : List Int) (by first | assumption | omega | rfl | decide | exact HeapL.list _ _ _ _ | exact HeapL.nil _ _ _ | exact HeapL.all _ _ _ | (apply HeapL.lt64 <;> assumption) | (repeat' (first | assumption | apply or_lt64 | apply and_lt64 | apply andn_lt64 | apply pow_lt64 | (apply HeapL.lt64 <;> assumption)))) (by first | omega | assumption | (simp; done)) (by first | omega | assumption | (simp; done)) (by first | omega | assumption | (simp; done))) ⟨rdF true (flatNums _ _ _ _) rfl rfl, ⟨rdF true (flatNums _ _ _ _) rfl rfl, ⟨rdF true (flatNums _ _ _ _) rfl rfl, trivial⟩⟩⟩ rfl ⟨clF (flatNums _ _ _ _), ⟨clF (flatNums _ _ _ _), ⟨clF (flatNums _ _ _ _), trivial⟩⟩⟩ rfl (by first | rfl | simp [mpV, mpA, mpS, mpP, renId, shift]) (by first | rfl | simp [mpV, mpA, mpS, mpP, renId, shift])) ?_
    refine segEnd [1, 4, 5] (T1 := (mkT 40 [(1, vP 2 0), (4, vI (lbS X Y Z A B ([] : List Int))), (5, .bool (shadB X Y Z A B ([] : List Int)))])) (H1 := [some ⟨nums A, 3, false, false⟩, some ⟨nums B, 3, false, false⟩, rB [vN X, vN Y, vN Z, vS 0 A.length, vS 1 B.length, .slice none 0 0] 24, some ⟨nums A, 3, false, true⟩, some ⟨nums B, 3, false, true⟩, some ⟨nums ([] : List Int), 3, false, true⟩]) (by kernel_rfl) ?_
    refine kSeq ?_
    refine cSeq ?_
    refine cReg ?_
    refine segH 1 (T1 := (mkT 40 [(1, vP 2 0), (4, vI (lbS X Y Z A B ([] : List Int))), (5, .bool (shadB X Y Z A B ([] : List Int))), (20, .agg #[vN X, vN Y, vN Z, vS 0 A.length, vS 1 B.length, .slice none 0 0])])) (by kernel_rfl) ?_
    refine rCall (v := .agg #[vN X, vN Y, vN Z, vS 6 A.length, vS 7 B.length, vS 8 0]) (args := [.agg #[vN X, vN Y, vN Z, vS 0 A.length, vS 1 B.length, .slice none 0 0]]) (by kernel_rfl) rfl (by kernel_rfl) (Sound.lay (E := [some ⟨nums A, 3, false, true⟩, some ⟨nums B, 3, false, true⟩, some ⟨nums ([] : List Int), 3, false, true⟩]) [0, 1] (toSh_ssn ((X : Nat) : Int) ((Y : Nat) : Int) ((Z : Nat) : Int) A B (by first | omega | assumption) (by first | omega | assumption)) ⟨rdF false (flatNums _ _ _ _) rfl rfl, ⟨rdF false (flatNums _ _ _ _) rfl rfl, trivial⟩⟩ rfl ⟨clF (flatNums _ _ _ _), ⟨clF (flatNums _ _ _ _), trivial⟩⟩ rfl (by first | rfl | simp [mpV, mpA, mpS, mpP, renId, shift]) (by first | rfl | simp [mpV, mpA, mpS, mpP, renId, shift]) ⟨enF (flatNums _ _ _ _) (Or.inl rfl), ⟨enF (flatNums _ _ _ _) (Or.inl rfl), ⟨enF (flatNums _ _ _ _) (Or.inl rfl), trivial⟩⟩⟩) ?_
    refine segEnd [1, 4, 5, 6] (T1 := (mkT 40 [(1, vP 2 0), (4, vI (lbS X Y Z A B ([] : List Int))), (5, .bool (shadB X Y Z A B ([] : List Int))), (6, vP 9 0)])) (H1 := [some ⟨nums A, 3, false, false⟩, some ⟨nums B, 3, false, false⟩, rB [vN X, vN Y, vN Z, vS 0 A.length, vS 1 B.length, .slice none 0 0] 24, some ⟨nums A, 3, false, true⟩, some ⟨nums B, 3, false, true⟩, some ⟨nums ([] : List Int), 3, false, true⟩, some ⟨nums A, 3, false, true⟩, some ⟨nums B, 3, false, true⟩, some ⟨nums ([] : List Int), 3, false, true⟩, rB [vN X, vN Y, vN Z, vS 6 A.length, vS 7 B.length, vS 8 0] 27]) (by kernel_rfl) ?_
    refine kSeq ?_
    refine cSeq ?_
    refine cReg ?_
    refine segH 1 (T1 := (mkT 40 [(1, vP 2 0), (4, vI (lbS X Y Z A B ([] : List Int))), (5, .bool (shadB X Y Z A B ([] : List Int))), (6, vP 9 0), (23, .agg #[vN X, vN Y, vN Z, vS 6 A.length, vS 7 B.length, vS 8 0])])) (by kernel_rfl) ?_
    refine rCall (v := .tuple #[vI (lbS X Y Z A B ([] : List Int)), .bool (shadB X Y Z A B ([] : List Int))]) (args := [.agg #[vN X, vN Y, vN Z, vS 6 A.length, vS 7 B.length, vS 8 0]]) (by kernel_rfl) rfl (by kernel_rfl) (Sound.lay0 [6, 7, 8] (implLineBound_yes X Y Z A B ([] : List Int) (by first | assumption | omega | rfl | decide | exact HeapL.list _ _ _ _ | exact HeapL.nil _ _ _ | exact HeapL.all _ _ _ | (apply HeapL.lt64 <;> assumption) | (repeat' (first | assumption | apply or_lt64 | apply and_lt64 | apply andn_lt64 | apply pow_lt64 | (apply HeapL.lt64 <;> assumption)))) (by first | omega | assumption | (simp; done)) (by first | omega | assumption | (simp; done)) (by first | omega | assumption | (simp; done))) ⟨rdF true (flatNums _ _ _ _) rfl rfl, ⟨rdF true (flatNums _ _ _ _) rfl rfl, ⟨rdF true (flatNums _ _ _ _) rfl rfl, trivial⟩⟩⟩ rfl ⟨clF (flatNums _ _ _ _), ⟨clF (flatNums _ _ _ _), ⟨clF (flatNums _ _ _ _), trivial⟩⟩⟩ rfl (by first | rfl | simp [mpV, mpA, mpS, mpP, renId, shift]) (by first | rfl | simp [mpV, mpA, mpS, mpP, renId, shift])) ?_
    refine segEndH [1, 4, 5, 6, 7, 8] (T1 := (mkT 40 [(1, vP 2 0), (4, vI (lbS X Y Z A B ([] : List Int))), (5, .bool (shadB X Y Z A B ([] : List Int))), (6, vP 9 0), (7, vI (lbS X Y Z A B ([] : List Int))), (8, .bool (shadB X Y Z A B ([] : List Int)))])) (by kernel_rfl) ?_
    refine kSeq ?_
    refine cSeq ?_
    refine cSeq ?_
    refine cReg ?_
    refine segH 2 (T1 := (mkT 40 [(1, vP 2 0), (4, vI (lbS X Y Z A B ([] : List Int))), (5, .bool (shadB X Y Z A B ([] : List Int))), (6, vP 9 0), (7, vI (lbS X Y Z A B ([] : List Int))), (8, .bool (shadB X Y Z A B ([] : List Int))), (27, vI (lbS X Y Z A B ([] : List Int))), (28, vI (lbS X Y Z A B ([] : List Int)))])) (by kernel_rfl) ?_
    refine rOp (v := .bool false) (by kernel_rfl) (eNeS (k := .i64) (a := (lbS X Y Z A B ([] : List Int))) (by kernel_rfl) (by kernel_rfl)) ?_
    refine segH 3 (T1 := (mkT 40 [(1, vP 2 0), (4, vI (lbS X Y Z A B ([] : List Int))), (5, .bool (shadB X Y Z A B ([] : List Int))), (6, vP 9 0), (7, vI (lbS X Y Z A B ([] : List Int))), (8, .bool (shadB X Y Z A B ([] : List Int))), (27, vI (lbS X Y Z A B ([] : List Int))), (28, vI (lbS X Y Z A B ([] : List Int))), (29, .bool false), (30, .bool false), (31, .bool (shadB X Y Z A B ([] : List Int))), (32, .bool (shadB X Y Z A B ([] : List Int)))])) (by kernel_rfl) ?_
    refine rOp (v := .bool false) (by kernel_rfl) (eNeB (b := (shadB X Y Z A B ([] : List Int))) (by kernel_rfl) (by kernel_rfl) (by kernel_rfl)) ?_
    refine segEndH [1, 6, 34] (T1 := (mkT 40 [(1, vP 2 0), (6, vP 9 0), (34, .bool false)])) (by kernel_rfl) ?_
    refine kSeq ?_
    refine cFalse (by kernel_rfl) ?_
    refine cSkip ?_
    refine kSeq ?_
    refine cSeq ?_
    refine cSeq ?_
    refine cRegW (N := 13) [⟨[], [], [9]⟩, ⟨[], [], [2]⟩, ⟨[10, 11, 12], [], [0, 1]⟩, ⟨[], [], [6, 7, 8, 10, 11, 12]⟩, ⟨[], [], []⟩] 3 [10, 11, 12] (by rfl) (by rfl) (by kernel_rfl) (by kernel_rfl) (by kernel_rfl) ⟨nmsF (flatNums _ _ _ _), ⟨nmsF (flatNums _ _ _ _), ⟨nmsX (by kernel_rfl), ⟨nmsF (flatNums _ _ _ _), ⟨nmsF (flatNums _ _ _ _), ⟨nmsF (flatNums _ _ _ _), ⟨nmsF (flatNums _ _ _ _), ⟨nmsF (flatNums _ _ _ _), ⟨nmsF (flatNums _ _ _ _), ⟨nmsX (by kernel_rfl), trivial⟩⟩⟩⟩⟩⟩⟩⟩⟩⟩ ?_
    refine segWH 2 (T1 := (mkT 40 [(1, vP 2 0), (6, vP 9 0), (34, .bool false), (35, .agg #[vN X, vN Y, vN Z, vS 6 A.length, vS 7 B.length, vS 8 0]), (36, .agg #[vN X, vN Y, vN Z, vS 0 A.length, vS 1 B.length, .slice none 0 0])])) (by kernel_rfl) ?_
    refine rW (m := ⟨[10, 11, 12], [], [0, 1]⟩) (v := .agg #[vN X, vN Y, vN Z, vS 10 A.length, vS 11 B.length, vS 12 0]) rfl (by kernel_rfl) (stN (i := 10) (E := [some ⟨nums A, 3, false, true⟩, some ⟨nums B, 3, false, true⟩, some ⟨nums ([] : List Int), 3, false, true⟩]) (v1 := .agg #[vN X, vN Y, vN Z, vS 13 A.length, vS 14 B.length, vS 15 0]) (args := [.agg #[vN X, vN Y, vN Z, vS 0 A.length, vS 1 B.length, .slice none 0 0]]) rfl (by kernel_rfl) (Any.lay (E := [some ⟨nums A, 3, false, true⟩, some ⟨nums B, 3, false, true⟩, some ⟨nums ([] : List Int), 3, false, true⟩]) (N := 13) [0, 1] (toSh_ssn ((X : Nat) : Int) ((Y : Nat) : Int) ((Z : Nat) : Int) A B (by first | omega | assumption) (by first | omega | assumption)) ⟨rdF false (flatNums _ _ _ _) rfl rfl, ⟨rdF false (flatNums _ _ _ _) rfl rfl, trivial⟩⟩ rfl ⟨clF (flatNums _ _ _ _), ⟨clF (flatNums _ _ _ _), trivial⟩⟩ rfl (by first | rfl | simp [mpV, mpA, mpS, mpP, renId, shift]) (by first | rfl | simp [mpV, mpA, mpS, mpP, renId, shift]) ⟨enF (flatNums _ _ _ _) (Or.inl rfl), ⟨enF (flatNums _ _ _ _) (Or.inl rfl), ⟨enF (flatNums _ _ _ _) (Or.inl rfl), trivial⟩⟩⟩) rfl (by kernel_rfl) (by kernel_rfl) (by kernel_rfl) (by kernel_rfl) (FlatH.cons (flatNums _ _ _ _) (FlatH.cons (flatNums _ _ _ _) (FlatH.cons (flatNums _ _ _ _) FlatH.nil)))) (by kernel_rfl) (NRs.all ⟨nrOf (by rfl) (nmF (flatNums _ _ _ _)), ⟨nrOf (by rfl) (nmF (flatNums _ _ _ _)), ⟨nrOf (by rfl) (nmF (flatNums _ _ _ _)), trivial⟩⟩⟩) ?_
    refine rW (m := ⟨[], [], [6, 7, 8, 10, 11, 12]⟩) (v := .bool true) rfl (by kernel_rfl) (stQ (args := [.agg #[vN X, vN Y, vN Z, vS 6 A.length, vS 7 B.length, vS 8 0], .agg #[vN X, vN Y, vN Z, vS 10 A.length, vS 11 B.length, vS 12 0]]) rfl (by kernel_rfl) (Any.lay0 [6, 7, 8, 10, 11, 12] (eqSh ((X : Nat) : Int) ((Y : Nat) : Int) ((Z : Nat) : Int) A B ([] : List Int) (by first | omega | assumption | (simp; done)) (by first | omega | assumption | (simp; done)) (by first | omega | assumption | (simp; done))) ⟨rdF true (flatNums _ _ _ _) rfl rfl, ⟨rdF true (flatNums _ _ _ _) rfl rfl, ⟨rdF true (flatNums _ _ _ _) rfl rfl, ⟨rdF true (flatNums _ _ _ _) rfl rfl, ⟨rdF true (flatNums _ _ _ _) rfl rfl, ⟨rdF true (flatNums _ _ _ _) rfl rfl, trivial⟩⟩⟩⟩⟩⟩ rfl ⟨clF (flatNums _ _ _ _), ⟨clF (flatNums _ _ _ _), ⟨clF (flatNums _ _ _ _), ⟨clF (flatNums _ _ _ _), ⟨clF (flatNums _ _ _ _), ⟨clF (flatNums _ _ _ _), trivial⟩⟩⟩⟩⟩⟩ rfl (by first | rfl | simp [mpV, mpA, mpS, mpP, renId, shift]) rfl) rfl (by kernel_rfl) (by kernel_rfl)) (by kernel_rfl) nr0 ?_
    refine segEndW [39] (T1 := (mkT 40 [(39, .bool false)])) (H1 := [some ⟨nums A, 3, false, false⟩, some ⟨nums B, 3, false, false⟩, rB [vN X, vN Y, vN Z, vS 0 A.length, vS 1 B.length, .slice none 0 0] 24, some ⟨nums A, 3, false, true⟩, some ⟨nums B, 3, false, true⟩, some ⟨nums ([] : List Int), 3, false, true⟩, some ⟨nums A, 3, false, true⟩, some ⟨nums B, 3, false, true⟩, some ⟨nums ([] : List Int), 3, false, true⟩, rB [vN X, vN Y, vN Z, vS 6 A.length, vS 7 B.length, vS 8 0] 27, some ⟨nums A, 3, false, true⟩, some ⟨nums B, 3, false, true⟩, some ⟨nums ([] : List Int), 3, false, true⟩]) (by kernel_rfl) ?_
    refine kSeq ?_
    refine cFalse (by kernel_rfl) ?_
    refine cSkip ?_
    refine kSeq ?_
    refine cSeq ?_
    refine cReg ?_
    refine segEndH [2] (T1 := (mkT 40 [(2, .bool true)])) (by kernel_rfl) ?_
    refine kSeq ?_
    refine cRet ?_
    -- end
    exact endQ (Or.inr rfl) (l := [.bool true]) [rB [vN X, vN Y, vN Z, vS 0 A.length, vS 1 B.length, .slice none 0 0] 24, some ⟨nums A, 3, false, true⟩, some ⟨nums B, 3, false, true⟩, some ⟨nums ([] : List Int), 3, false, true⟩, some ⟨nums A, 3, false, true⟩, some ⟨nums B, 3, false, true⟩, some ⟨nums ([] : List Int), 3, false, true⟩, rB [vN X, vN Y, vN Z, vS 6 A.length, vS 7 B.length, vS 8 0] 27, some ⟨nums A, 3, false, true⟩, some ⟨nums B, 3, false, true⟩, some ⟨nums ([] : List Int), 3, false, true⟩] (by kernel_rfl) (by first | rfl | kernel_rfl) rfl rfl hcl rfl
  ·
    (try simp only [Bool.not_eq_true', Bool.not_eq_false', decide_eq_true_eq, decide_eq_false_iff_not, beq_iff_eq, bne_iff_ne, beq_eq_false_iff_ne, bne_eq_false_iff_eq, ne_eq, Decidable.not_not, Bool.and_eq_true, Bool.and_eq_false_imp, Bool.or_eq_true, Bool.or_eq_false_iff, Bool.not_eq_true, Int.not_lt, Int.not_le, ge_iff_le, gt_iff_lt] at h1)
    exfalso; omega

set_option maxRecDepth 100000 in
set_option maxHeartbeats 4000000 in
theorem lawLineBound_bigA_sns (x : Int) (y : Int) (z : Int) (A : List Int) (C : List Int) (hl : 1048576 < A.length) (hm : A.length ≤ 9223372036854775807) : Sound Try.prog 5 [.agg #[vI x, vI y, vI z, vS 0 A.length, .slice none 0 0, vS 1 C.length]] [some ⟨nums A, 3, false, false⟩, some ⟨nums C, 3, false, false⟩] (.bool true) [some ⟨nums A, 3, false, false⟩, some ⟨nums C, 3, false, false⟩] := by
  refine sound_intro (C := cx) Try.func5 rfl (by kernel_rfl) fun hcl => ?_
  refine cSeq ?_
  refine cReg ?_
  refine segEnd [1] (T1 := (mkT 40 [(1, vP 2 0)])) (H1 := [some ⟨nums A, 3, false, false⟩, some ⟨nums C, 3, false, false⟩, rB [vI x, vI y, vI z, vS 0 A.length, .slice none 0 0, vS 1 C.length] 24]) (by kernel_rfl) ?_
  refine kSeq ?_
  refine cSeq ?_
  refine cReg ?_
  refine segEndH [1, 3] (T1 := (mkT 40 [(1, vP 2 0), (3, vI 1048576)])) (by kernel_rfl) ?_
  refine kSeq ?_
  refine cSeq ?_
  refine cReg ?_
  refine segH 2 (T1 := (mkT 40 [(1, vP 2 0), (3, vI 1048576), (9, .agg #[vI x, vI y, vI z, vS 0 A.length, .slice none 0 0, vS 1 C.length]), (10, vI 1048576)])) (by kernel_rfl) ?_
  refine rCall (v := vI (-1)) (args := [.agg #[vI x, vI y, vI z, vS 0 A.length, .slice none 0 0, vS 1 C.length], vI 1048576]) (by kernel_rfl) rfl (by kernel_rfl) (Sound.lay0 [0, 1] (szSh_sns_A x y z A C 1048576 (by first | omega | assumption | (simp; done) | (simp; omega)) (by first | assumption | omega | rfl | decide | exact HeapL.list _ _ _ _ | exact HeapL.nil _ _ _ | exact HeapL.all _ _ _ | (apply HeapL.lt64 <;> assumption) | (repeat' (first | assumption | apply or_lt64 | apply and_lt64 | apply andn_lt64 | apply pow_lt64 | (apply HeapL.lt64 <;> assumption)))) (by first | omega | assumption | decide)) ⟨rdF false (flatNums _ _ _ _) rfl rfl, ⟨rdF false (flatNums _ _ _ _) rfl rfl, trivial⟩⟩ rfl ⟨clF (flatNums _ _ _ _), ⟨clF (flatNums _ _ _ _), trivial⟩⟩ rfl (by first | rfl | simp [mpV, mpA, mpS, mpP, renId, shift]) rfl) ?_
  refine segEndH [1, 3] (T1 := (mkT 40 [(1, vP 2 0), (3, vI (-1))])) (by kernel_rfl) ?_
  refine kSeq ?_
  refine cSeq ?_
  refine cSeq ?_
  refine cReg ?_
  refine segEndH [1, 13] (T1 := (mkT 40 [(1, vP 2 0), (13, .bool true)])) (by kernel_rfl) ?_
  refine kSeq ?_
  refine cTrue (by kernel_rfl) ?_
  refine cSeq ?_
  refine cReg ?_
  refine segEndH [2] (T1 := (mkT 40 [(2, .bool true)])) (by kernel_rfl) ?_
  refine kSeq ?_
  refine cRet ?_
  refine kSeqR ?_
  -- end
  exact endQ (Or.inr rfl) (l := [.bool true]) [rB [vI x, vI y, vI z, vS 0 A.length, .slice none 0 0, vS 1 C.length] 24] (by kernel_rfl) (by first | rfl | kernel_rfl) rfl rfl hcl rfl

set_option maxRecDepth 100000 in
set_option maxHeartbeats 4000000 in
theorem lawLineBound_bigC_sns (x : Int) (y : Int) (z : Int) (A : List Int) (C : List Int) (h0 : A.length ≤ 1048576) (hl : 1048576 - A.length < C.length) (hm : C.length ≤ 9223372036854775807) : Sound Try.prog 5 [.agg #[vI x, vI y, vI z, vS 0 A.length, .slice none 0 0, vS 1 C.length]] [some ⟨nums A, 3, false, false⟩, some ⟨nums C, 3, false, false⟩] (.bool true) [some ⟨nums A, 3, false, false⟩, some ⟨nums C, 3, false, false⟩] := by
  refine sound_intro (C := cx) Try.func5 rfl (by kernel_rfl) fun hcl => ?_
  refine cSeq ?_
  refine cReg ?_
  refine segEnd [1] (T1 := (mkT 40 [(1, vP 2 0)])) (H1 := [some ⟨nums A, 3, false, false⟩, some ⟨nums C, 3, false, false⟩, rB [vI x, vI y, vI z, vS 0 A.length, .slice none 0 0, vS 1 C.length] 24]) (by kernel_rfl) ?_
  refine kSeq ?_
  refine cSeq ?_
  refine cReg ?_
  refine segEndH [1, 3] (T1 := (mkT 40 [(1, vP 2 0), (3, vI 1048576)])) (by kernel_rfl) ?_
  refine kSeq ?_
  refine cSeq ?_
  refine cReg ?_
  refine segH 2 (T1 := (mkT 40 [(1, vP 2 0), (3, vI 1048576), (9, .agg #[vI x, vI y, vI z, vS 0 A.length, .slice none 0 0, vS 1 C.length]), (10, vI 1048576)])) (by kernel_rfl) ?_
  refine rCall (v := vI (-1)) (args := [.agg #[vI x, vI y, vI z, vS 0 A.length, .slice none 0 0, vS 1 C.length], vI 1048576]) (by kernel_rfl) rfl (by kernel_rfl) (Sound.lay0 [0, 1] (szSh_sns_C x y z A C 1048576 (by first | assumption | omega) (by first | omega | assumption | (simp; done) | (simp; omega)) (by first | assumption | omega | rfl | decide | exact HeapL.list _ _ _ _ | exact HeapL.nil _ _ _ | exact HeapL.all _ _ _ | (apply HeapL.lt64 <;> assumption) | (repeat' (first | assumption | apply or_lt64 | apply and_lt64 | apply andn_lt64 | apply pow_lt64 | (apply HeapL.lt64 <;> assumption)))) (by first | omega | assumption | decide)) ⟨rdF false (flatNums _ _ _ _) rfl rfl, ⟨rdF false (flatNums _ _ _ _) rfl rfl, trivial⟩⟩ rfl ⟨clF (flatNums _ _ _ _), ⟨clF (flatNums _ _ _ _), trivial⟩⟩ rfl (by first | rfl | simp [mpV, mpA, mpS, mpP, renId, shift]) rfl) ?_
  refine segEndH [1, 3] (T1 := (mkT 40 [(1, vP 2 0), (3, vI (-1))])) (by kernel_rfl) ?_
  refine kSeq ?_
  refine cSeq ?_
  refine cSeq ?_
  refine cReg ?_
  refine segEndH [1, 13] (T1 := (mkT 40 [(1, vP 2 0), (13, .bool true)])) (by kernel_rfl) ?_
  refine kSeq ?_
  refine cTrue (by kernel_rfl) ?_
  refine cSeq ?_
  refine cReg ?_
  refine segEndH [2] (T1 := (mkT 40 [(2, .bool true)])) (by kernel_rfl) ?_
  refine kSeq ?_
  refine cRet ?_
  refine kSeqR ?_
  -- end
  exact endQ (Or.inr rfl) (l := [.bool true]) [rB [vI x, vI y, vI z, vS 0 A.length, .slice none 0 0, vS 1 C.length] 24] (by kernel_rfl) (by first | rfl | kernel_rfl) rfl rfl hcl rfl

set_option maxRecDepth 100000 in
set_option maxHeartbeats 4000000 in
theorem lawLineBound_no_sns (x : Int) (y : Int) (z : Int) (A : List Int) (C : List Int) (hl : A.length + C.length ≤ 1048576) (hv : valid3 x y z = false) : Sound Try.prog 5 [.agg #[vI x, vI y, vI z, vS 0 A.length, .slice none 0 0, vS 1 C.length]] [some ⟨nums A, 3, false, false⟩, some ⟨nums C, 3, false, false⟩] (.bool true) [some ⟨nums A, 3, false, false⟩, some ⟨nums C, 3, false, false⟩] := by
  refine sound_intro (C := cx) Try.func5 rfl (by kernel_rfl) fun hcl => ?_
  refine cSeq ?_
  refine cReg ?_
  refine segEnd [1] (T1 := (mkT 40 [(1, vP 2 0)])) (H1 := [some ⟨nums A, 3, false, false⟩, some ⟨nums C, 3, false, false⟩, rB [vI x, vI y, vI z, vS 0 A.length, .slice none 0 0, vS 1 C.length] 24]) (by kernel_rfl) ?_
  refine kSeq ?_
  refine cSeq ?_
  refine cReg ?_
  refine segEndH [1, 3] (T1 := (mkT 40 [(1, vP 2 0), (3, vI 1048576)])) (by kernel_rfl) ?_
  refine kSeq ?_
  refine cSeq ?_
  refine cReg ?_
  refine segH 2 (T1 := (mkT 40 [(1, vP 2 0), (3, vI 1048576), (9, .agg #[vI x, vI y, vI z, vS 0 A.length, .slice none 0 0, vS 1 C.length]), (10, vI 1048576)])) (by kernel_rfl) ?_
  refine rCall (v := vN (1048576 - A.length - C.length)) (args := [.agg #[vI x, vI y, vI z, vS 0 A.length, .slice none 0 0, vS 1 C.length], vI 1048576]) (by kernel_rfl) rfl (by kernel_rfl) (Sound.lay0 [0, 1] (szSh_sns x y z A C 1048576 (by first | omega | assumption | (simp; done) | (simp; omega)) (by first | omega | assumption | decide)) ⟨rdF false (flatNums _ _ _ _) rfl rfl, ⟨rdF false (flatNums _ _ _ _) rfl rfl, trivial⟩⟩ rfl ⟨clF (flatNums _ _ _ _), ⟨clF (flatNums _ _ _ _), trivial⟩⟩ rfl (by first | rfl | simp [mpV, mpA, mpS, mpP, renId, shift]) rfl) ?_
  refine segEndH [1, 3] (T1 := (mkT 40 [(1, vP 2 0), (3, vN (1048576 - A.length - C.length))])) (by kernel_rfl) ?_
  refine kSeq ?_
  refine cSeq ?_
  refine cSeq ?_
  refine cReg ?_
  refine segEndH [1, 13] (T1 := (mkT 40 [(1, vP 2 0), (13, .bool (decide (((1048576 - A.length - C.length : Nat) : Int) < 0)))])) (by kernel_rfl) ?_
  refine kSeq ?_
  cases h1 : (decide (((1048576 - A.length - C.length : Nat) : Int) < 0) : Bool)
  ·
    (try simp only [Bool.not_eq_true', Bool.not_eq_false', decide_eq_true_eq, decide_eq_false_iff_not, beq_iff_eq, bne_iff_ne, beq_eq_false_iff_ne, bne_eq_false_iff_eq, ne_eq, Decidable.not_not, Bool.and_eq_true, Bool.and_eq_false_imp, Bool.or_eq_true, Bool.or_eq_false_iff, Bool.not_eq_true, Int.not_lt, Int.not_le, ge_iff_le, gt_iff_lt] at h1)
    refine cFalse (by kernel_rfl) ?_
    refine cSkip ?_
    refine kSeq ?_
    refine cSeq ?_
    refine cReg ?_
    refine segH 1 (T1 := (mkT 40 [(1, vP 2 0), (13, .bool false), (15, .agg #[vI x, vI y, vI z, vS 0 A.length, .slice none 0 0, vS 1 C.length])])) (by kernel_rfl) ?_
    refine rCall (v := .agg #[vI x, vI y, vI z, vS 3 A.length, vS 4 0, vS 5 C.length]) (args := [.agg #[vI x, vI y, vI z, vS 0 A.length, .slice none 0 0, vS 1 C.length]]) (by kernel_rfl) rfl (by kernel_rfl) (Sound.lay (E := [some ⟨nums A, 3, false, true⟩, some ⟨nums ([] : List Int), 3, false, true⟩, some ⟨nums C, 3, false, true⟩]) [0, 1] (toSh_sns x y z A C (by first | omega | assumption) (by first | omega | assumption)) ⟨rdF false (flatNums _ _ _ _) rfl rfl, ⟨rdF false (flatNums _ _ _ _) rfl rfl, trivial⟩⟩ rfl ⟨clF (flatNums _ _ _ _), ⟨clF (flatNums _ _ _ _), trivial⟩⟩ rfl (by first | rfl | simp [mpV, mpA, mpS, mpP, renId, shift]) (by first | rfl | simp [mpV, mpA, mpS, mpP, renId, shift]) ⟨enF (flatNums _ _ _ _) (Or.inl rfl), ⟨enF (flatNums _ _ _ _) (Or.inl rfl), ⟨enF (flatNums _ _ _ _) (Or.inl rfl), trivial⟩⟩⟩) ?_
    refine rCall (v := .tuple #[vI 0, .bool false]) (args := [.agg #[vI x, vI y, vI z, vS 3 A.length, vS 4 0, vS 5 C.length]]) (by kernel_rfl) rfl (by kernel_rfl) (Sound.lay0 [3, 4, 5] (specLineBound_no x y z A ([] : List Int) C (by first | assumption | omega | rfl | decide | exact HeapL.list _ _ _ _ | exact HeapL.nil _ _ _ | exact HeapL.all _ _ _ | (apply HeapL.lt64 <;> assumption) | (repeat' (first | assumption | apply or_lt64 | apply and_lt64 | apply andn_lt64 | apply pow_lt64 | (apply HeapL.lt64 <;> assumption)))) (by first | omega | assumption | (simp; done)) (by first | omega | assumption | (simp; done)) (by first | omega | assumption | (simp; done))) ⟨rdF true (flatNums _ _ _ _) rfl rfl, ⟨rdF true (flatNums _ _ _ _) rfl rfl, ⟨rdF true (flatNums _ _ _ _) rfl rfl, trivial⟩⟩⟩ rfl ⟨clF (flatNums _ _ _ _), ⟨clF (flatNums _ _ _ _), ⟨clF (flatNums _ _ _ _), trivial⟩⟩⟩ rfl (by first | rfl | simp [mpV, mpA, mpS, mpP, renId, shift]) (by first | rfl | simp [mpV, mpA, mpS, mpP, renId, shift])) ?_
    refine segEnd [1, 4, 5] (T1 := (mkT 40 [(1, vP 2 0), (4, vI 0), (5, .bool false)])) (H1 := [some ⟨nums A, 3, false, false⟩, some ⟨nums C, 3, false, false⟩, rB [vI x, vI y, vI z, vS 0 A.length, .slice none 0 0, vS 1 C.length] 24, some ⟨nums A, 3, false, true⟩, some ⟨nums ([] : List Int), 3, false, true⟩, some ⟨nums C, 3, false, true⟩]) (by kernel_rfl) ?_
    refine kSeq ?_
    refine cSeq ?_
    refine cReg ?_
    refine segH 1 (T1 := (mkT 40 [(1, vP 2 0), (4, vI 0), (5, .bool false), (20, .agg #[vI x, vI y, vI z, vS 0 A.length, .slice none 0 0, vS 1 C.length])])) (by kernel_rfl) ?_
    refine rCall (v := .agg #[vI x, vI y, vI z, vS 6 A.length, vS 7 0, vS 8 C.length]) (args := [.agg #[vI x, vI y, vI z, vS 0 A.length, .slice none 0 0, vS 1 C.length]]) (by kernel_rfl) rfl (by kernel_rfl) (Sound.lay (E := [some ⟨nums A, 3, false, true⟩, some ⟨nums ([] : List Int), 3, false, true⟩, some ⟨nums C, 3, false, true⟩]) [0, 1] (toSh_sns x y z A C (by first | omega | assumption) (by first | omega | assumption)) ⟨rdF false (flatNums _ _ _ _) rfl rfl, ⟨rdF false (flatNums _ _ _ _) rfl rfl, trivial⟩⟩ rfl ⟨clF (flatNums _ _ _ _), ⟨clF (flatNums _ _ _ _), trivial⟩⟩ rfl (by first | rfl | simp [mpV, mpA, mpS, mpP, renId, shift]) (by first | rfl | simp [mpV, mpA, mpS, mpP, renId, shift]) ⟨enF (flatNums _ _ _ _) (Or.inl rfl), ⟨enF (flatNums _ _ _ _) (Or.inl rfl), ⟨enF (flatNums _ _ _ _) (Or.inl rfl), trivial⟩⟩⟩) ?_
    refine segEnd [1, 4, 5, 6] (T1 := (mkT 40 [(1, vP 2 0), (4, vI 0), (5, .bool false), (6, vP 9 0)])) (H1 := [some ⟨nums A, 3, false, false⟩, some ⟨nums C, 3, false, false⟩, rB [vI x, vI y, vI z, vS 0 A.length, .slice none 0 0, vS 1 C.length] 24, some ⟨nums A, 3, false, true⟩, some ⟨nums ([] : List Int), 3, false, true⟩, some ⟨nums C, 3, false, true⟩, some ⟨nums A, 3, false, true⟩, some ⟨nums ([] : List Int), 3, false, true⟩, some ⟨nums C, 3, false, true⟩, rB [vI x, vI y, vI z, vS 6 A.length, vS 7 0, vS 8 C.length] 27]) (by kernel_rfl) ?_
    refine kSeq ?_
    refine cSeq ?_
    refine cReg ?_
    refine segH 1 (T1 := (mkT 40 [(1, vP 2 0), (4, vI 0), (5, .bool false), (6, vP 9 0), (23, .agg #[vI x, vI y, vI z, vS 6 A.length, vS 7 0, vS 8 C.length])])) (by kernel_rfl) ?_
    refine rCall (v := .tuple #[vI 0, .bool false]) (args := [.agg #[vI x, vI y, vI z, vS 6 A.length, vS 7 0, vS 8 C.length]]) (by kernel_rfl) rfl (by kernel_rfl) (Sound.lay0 [6, 7, 8] (implLineBound_no x y z A ([] : List Int) C (by first | assumption | omega | rfl | decide | exact HeapL.list _ _ _ _ | exact HeapL.nil _ _ _ | exact HeapL.all _ _ _ | (apply HeapL.lt64 <;> assumption) | (repeat' (first | assumption | apply or_lt64 | apply and_lt64 | apply andn_lt64 | apply pow_lt64 | (apply HeapL.lt64 <;> assumption)))) (by first | omega | assumption | (simp; done)) (by first | omega | assumption | (simp; done)) (by first | omega | assumption | (simp; done))) ⟨rdF true (flatNums _ _ _ _) rfl rfl, ⟨rdF true (flatNums _ _ _ _) rfl rfl, ⟨rdF true (flatNums _ _ _ _) rfl rfl, trivial⟩⟩⟩ rfl ⟨clF (flatNums _ _ _ _), ⟨clF (flatNums _ _ _ _), ⟨clF (flatNums _ _ _ _), trivial⟩⟩⟩ rfl (by first | rfl | simp [mpV, mpA, mpS, mpP, renId, shift]) (by first | rfl | simp [mpV, mpA, mpS, mpP, renId, shift])) ?_
    refine segEndH [1, 4, 5, 6, 7, 8] (T1 := (mkT 40 [(1, vP 2 0), (4, vI 0), (5, .bool false), (6, vP 9 0), (7, vI 0), (8, .bool false)])) (by kernel_rfl) ?_
    refine kSeq ?_
    refine cSeq ?_
    refine cSeq ?_
    refine cReg ?_
    refine segEndH [1, 6, 34] (T1 := (mkT 40 [(1, vP 2 0), (6, vP 9 0), (34, .bool false)])) (by kernel_rfl) ?_
    refine kSeq ?_
    refine cFalse (by kernel_rfl) ?_
    refine cSkip ?_
    refine kSeq ?_
    refine cSeq ?_
    refine cSeq ?_
    refine cRegW (N := 13) [⟨[], [], [9]⟩, ⟨[], [], [2]⟩, ⟨[10, 11, 12], [], [0, 1]⟩, ⟨[], [], [6, 7, 8, 10, 11, 12]⟩, ⟨[], [], []⟩] 3 [10, 11, 12] (by rfl) (by rfl) (by kernel_rfl) (by kernel_rfl) (by kernel_rfl) ⟨nmsF (flatNums _ _ _ _), ⟨nmsF (flatNums _ _ _ _), ⟨nmsX (by kernel_rfl), ⟨nmsF (flatNums _ _ _ _), ⟨nmsF (flatNums _ _ _ _), ⟨nmsF (flatNums _ _ _ _), ⟨nmsF (flatNums _ _ _ _), ⟨nmsF (flatNums _ _ _ _), ⟨nmsF (flatNums _ _ _ _), ⟨nmsX (by kernel_rfl), trivial⟩⟩⟩⟩⟩⟩⟩⟩⟩⟩ ?_
    refine segWH 2 (T1 := (mkT 40 [(1, vP 2 0), (6, vP 9 0), (34, .bool false), (35, .agg #[vI x, vI y, vI z, vS 6 A.length, vS 7 0, vS 8 C.length]), (36, .agg #[vI x, vI y, vI z, vS 0 A.length, .slice none 0 0, vS 1 C.length])])) (by kernel_rfl) ?_
    refine rW (m := ⟨[10, 11, 12], [], [0, 1]⟩) (v := .agg #[vI x, vI y, vI z, vS 10 A.length, vS 11 0, vS 12 C.length]) rfl (by kernel_rfl) (stN (i := 10) (E := [some ⟨nums A, 3, false, true⟩, some ⟨nums ([] : List Int), 3, false, true⟩, some ⟨nums C, 3, false, true⟩]) (v1 := .agg #[vI x, vI y, vI z, vS 13 A.length, vS 14 0, vS 15 C.length]) (args := [.agg #[vI x, vI y, vI z, vS 0 A.length, .slice none 0 0, vS 1 C.length]]) rfl (by kernel_rfl) (Any.lay (E := [some ⟨nums A, 3, false, true⟩, some ⟨nums ([] : List Int), 3, false, true⟩, some ⟨nums C, 3, false, true⟩]) (N := 13) [0, 1] (toSh_sns x y z A C (by first | omega | assumption) (by first | omega | assumption)) ⟨rdF false (flatNums _ _ _ _) rfl rfl, ⟨rdF false (flatNums _ _ _ _) rfl rfl, trivial⟩⟩ rfl ⟨clF (flatNums _ _ _ _), ⟨clF (flatNums _ _ _ _), trivial⟩⟩ rfl (by first | rfl | simp [mpV, mpA, mpS, mpP, renId, shift]) (by first | rfl | simp [mpV, mpA, mpS, mpP, renId, shift]) ⟨enF (flatNums _ _ _ _) (Or.inl rfl), ⟨enF (flatNums _ _ _ _) (Or.inl rfl), ⟨enF (flatNums _ _ _ _) (Or.inl rfl), trivial⟩⟩⟩) rfl (by kernel_rfl) (by kernel_rfl) (by kernel_rfl) (by kernel_rfl) (FlatH.cons (flatNums _ _ _ _) (FlatH.cons (flatNums _ _ _ _) (FlatH.cons (flatNums _ _ _ _) FlatH.nil)))) (by kernel_rfl) (NRs.all ⟨nrOf (by rfl) (nmF (flatNums _ _ _ _)), ⟨nrOf (by rfl) (nmF (flatNums _ _ _ _)), ⟨nrOf (by rfl) (nmF (flatNums _ _ _ _)), trivial⟩⟩⟩) ?_
    refine rW (m := ⟨[], [], [6, 7, 8, 10, 11, 12]⟩) (v := .bool true) rfl (by kernel_rfl) (stQ (args := [.agg #[vI x, vI y, vI z, vS 6 A.length, vS 7 0, vS 8 C.length], .agg #[vI x, vI y, vI z, vS 10 A.length, vS 11 0, vS 12 C.length]]) rfl (by kernel_rfl) (Any.lay0 [6, 7, 8, 10, 11, 12] (eqSh x y z A ([] : List Int) C (by first | omega | assumption | (simp; done)) (by first | omega | assumption | (simp; done)) (by first | omega | assumption | (simp; done))) ⟨rdF true (flatNums _ _ _ _) rfl rfl, ⟨rdF true (flatNums _ _ _ _) rfl rfl, ⟨rdF true (flatNums _ _ _ _) rfl rfl, ⟨rdF true (flatNums _ _ _ _) rfl rfl, ⟨rdF true (flatNums _ _ _ _) rfl rfl, ⟨rdF true (flatNums _ _ _ _) rfl rfl, trivial⟩⟩⟩⟩⟩⟩ rfl ⟨clF (flatNums _ _ _ _), ⟨clF (flatNums _ _ _ _), ⟨clF (flatNums _ _ _ _), ⟨clF (flatNums _ _ _ _), ⟨clF (flatNums _ _ _ _), ⟨clF (flatNums _ _ _ _), trivial⟩⟩⟩⟩⟩⟩ rfl (by first | rfl | simp [mpV, mpA, mpS, mpP, renId, shift]) rfl) rfl (by kernel_rfl) (by kernel_rfl)) (by kernel_rfl) nr0 ?_
    refine segEndW [39] (T1 := (mkT 40 [(39, .bool false)])) (H1 := [some ⟨nums A, 3, false, false⟩, some ⟨nums C, 3, false, false⟩, rB [vI x, vI y, vI z, vS 0 A.length, .slice none 0 0, vS 1 C.length] 24, some ⟨nums A, 3, false, true⟩, some ⟨nums ([] : List Int), 3, false, true⟩, some ⟨nums C, 3, false, true⟩, some ⟨nums A, 3, false, true⟩, some ⟨nums ([] : List Int), 3, false, true⟩, some ⟨nums C, 3, false, true⟩, rB [vI x, vI y, vI z, vS 6 A.length, vS 7 0, vS 8 C.length] 27, some ⟨nums A, 3, false, true⟩, some ⟨nums ([] : List Int), 3, false, true⟩, some ⟨nums C, 3, false, true⟩]) (by kernel_rfl) ?_
    refine kSeq ?_
    refine cFalse (by kernel_rfl) ?_
    refine cSkip ?_
    refine kSeq ?_
    refine cSeq ?_
    refine cReg ?_
    refine segEndH [2] (T1 := (mkT 40 [(2, .bool true)])) (by kernel_rfl) ?_
    refine kSeq ?_
    refine cRet ?_
    -- end
    exact endQ (Or.inr rfl) (l := [.bool true]) [rB [vI x, vI y, vI z, vS 0 A.length, .slice none 0 0, vS 1 C.length] 24, some ⟨nums A, 3, false, true⟩, some ⟨nums ([] : List Int), 3, false, true⟩, some ⟨nums C, 3, false, true⟩, some ⟨nums A, 3, false, true⟩, some ⟨nums ([] : List Int), 3, false, true⟩, some ⟨nums C, 3, false, true⟩, rB [vI x, vI y, vI z, vS 6 A.length, vS 7 0, vS 8 C.length] 27, some ⟨nums A, 3, false, true⟩, some ⟨nums ([] : List Int), 3, false, true⟩, some ⟨nums C, 3, false, true⟩] (by kernel_rfl) (by first | rfl | kernel_rfl) rfl rfl hcl rfl
  ·
    (try simp only [Bool.not_eq_true', Bool.not_eq_false', decide_eq_true_eq, decide_eq_false_iff_not, beq_iff_eq, bne_iff_ne, beq_eq_false_iff_ne, bne_eq_false_iff_eq, ne_eq, Decidable.not_not, Bool.and_eq_true, Bool.and_eq_false_imp, Bool.or_eq_true, Bool.or_eq_false_iff, Bool.not_eq_true, Int.not_lt, Int.not_le, ge_iff_le, gt_iff_lt] at h1)
    exfalso; omega

set_option maxRecDepth 100000 in
set_option maxHeartbeats 4000000 in
theorem lawLineBound_yes_sns (X : Nat) (Y : Nat) (Z : Nat) (A : List Int) (C : List Int) (hl : A.length + C.length ≤ 1048576) (hs : Sides X Y Z) : Sound Try.prog 5 [.agg #[vN X, vN Y, vN Z, vS 0 A.length, .slice none 0 0, vS 1 C.length]] [some ⟨nums A, 3, false, false⟩, some ⟨nums C, 3, false, false⟩] (.bool true) [some ⟨nums A, 3, false, false⟩, some ⟨nums C, 3, false, false⟩] := by
  refine sound_intro (C := cx) Try.func5 rfl (by kernel_rfl) fun hcl => ?_
  refine cSeq ?_
  refine cReg ?_
  refine segEnd [1] (T1 := (mkT 40 [(1, vP 2 0)])) (H1 := [some ⟨nums A, 3, false, false⟩, some ⟨nums C, 3, false, false⟩, rB [vN X, vN Y, vN Z, vS 0 A.length, .slice none 0 0, vS 1 C.length] 24]) (by kernel_rfl) ?_
  refine kSeq ?_
  refine cSeq ?_
  refine cReg ?_
  refine segEndH [1, 3] (T1 := (mkT 40 [(1, vP 2 0), (3, vI 1048576)])) (by kernel_rfl) ?_
  refine kSeq ?_
  refine cSeq ?_
  refine cReg ?_
  refine segH 2 (T1 := (mkT 40 [(1, vP 2 0), (3, vI 1048576), (9, .agg #[vN X, vN Y, vN Z, vS 0 A.length, .slice none 0 0, vS 1 C.length]), (10, vI 1048576)])) (by kernel_rfl) ?_
  refine rCall (v := vN (1048576 - A.length - C.length)) (args := [.agg #[vN X, vN Y, vN Z, vS 0 A.length, .slice none 0 0, vS 1 C.length], vI 1048576]) (by kernel_rfl) rfl (by kernel_rfl) (Sound.lay0 [0, 1] (szSh_sns ((X : Nat) : Int) ((Y : Nat) : Int) ((Z : Nat) : Int) A C 1048576 (by first | omega | assumption | (simp; done) | (simp; omega)) (by first | omega | assumption | decide)) ⟨rdF false (flatNums _ _ _ _) rfl rfl, ⟨rdF false (flatNums _ _ _ _) rfl rfl, trivial⟩⟩ rfl ⟨clF (flatNums _ _ _ _), ⟨clF (flatNums _ _ _ _), trivial⟩⟩ rfl (by first | rfl | simp [mpV, mpA, mpS, mpP, renId, shift]) rfl) ?_
  refine segEndH [1, 3] (T1 := (mkT 40 [(1, vP 2 0), (3, vN (1048576 - A.length - C.length))])) (by kernel_rfl) ?_
  refine kSeq ?_
  refine cSeq ?_
  refine cSeq ?_
  refine cReg ?_
  refine segEndH [1, 13] (T1 := (mkT 40 [(1, vP 2 0), (13, .bool (decide (((1048576 - A.length - C.length : Nat) : Int) < 0)))])) (by kernel_rfl) ?_
  refine kSeq ?_
  cases h1 : (decide (((1048576 - A.length - C.length : Nat) : Int) < 0) : Bool)
  ·
    (try simp only [Bool.not_eq_true', Bool.not_eq_false', decide_eq_true_eq, decide_eq_false_iff_not, beq_iff_eq, bne_iff_ne, beq_eq_false_iff_ne, bne_eq_false_iff_eq, ne_eq, Decidable.not_not, Bool.and_eq_true, Bool.and_eq_false_imp, Bool.or_eq_true, Bool.or_eq_false_iff, Bool.not_eq_true, Int.not_lt, Int.not_le, ge_iff_le, gt_iff_lt] at h1)
    refine cFalse (by kernel_rfl) ?_
    refine cSkip ?_
    refine kSeq ?_
    refine cSeq ?_
    refine cReg ?_
    refine segH 1 (T1 := (mkT 40 [(1, vP 2 0), (13, .bool false), (15, .agg #[vN X, vN Y, vN Z, vS 0 A.length, .slice none 0 0, vS 1 C.length])])) (by kernel_rfl) ?_
    refine rCall (v := .agg #[vN X, vN Y, vN Z, vS 3 A.length, vS 4 0, vS 5 C.length]) (args := [.agg #[vN X, vN Y, vN Z, vS 0 A.length, .slice none 0 0, vS 1 C.length]]) (by kernel_rfl) rfl (by kernel_rfl) (Sound.lay (E := [some ⟨nums A, 3, false, true⟩, some ⟨nums ([] : List Int), 3, false, true⟩, some ⟨nums C, 3, false, true⟩]) [0, 1] (toSh_sns ((X : Nat) : Int) ((Y : Nat) : Int) ((Z : Nat) : Int) A C (by first | omega | assumption) (by first | omega | assumption)) ⟨rdF false (flatNums _ _ _ _) rfl rfl, ⟨rdF false (flatNums _ _ _ _) rfl rfl, trivial⟩⟩ rfl ⟨clF (flatNums _ _ _ _), ⟨clF (flatNums _ _ _ _), trivial⟩⟩ rfl (by first | rfl | simp [mpV, mpA, mpS, mpP, renId, shift]) (by first | rfl | simp [mpV, mpA, mpS, mpP, renId, shift]) ⟨enF (flatNums _ _ _ _) (Or.inl rfl), ⟨enF (flatNums _ _ _ _) (Or.inl rfl), ⟨enF (flatNums _ _ _ _) (Or.inl rfl), trivial⟩⟩⟩) ?_
    refine rCall (v := .tuple #[vI (lbS X Y Z A ([] : List Int) C), .bool (shadB X Y Z A ([] : List Int) C)]) (args := [.agg #[vN X, vN Y, vN Z, vS 3 A.length, vS 4 0, vS 5 C.length]]) (by kernel_rfl) rfl (by kernel_rfl) (Sound.lay0 [3, 4, 5] (specLineBound_yes X Y Z A ([] : List Int) C (by first | assumption | omega | rfl | decide | exact HeapL.list _ _ _ _ | exact HeapL.nil _ _ _ | exact HeapL.all _ _ _ | (apply HeapL.lt64 <;> assumption) | (repeat' (first | assumption | apply or_lt64 | apply and_lt64 | apply andn_lt64 | apply pow_lt64 | (apply HeapL.lt64 <;> assumption)))) (by first | omega | assumption | (simp; done)) (by first | omega | assumption | (simp; done)) (by first | omega | assumption | (simp; done))) ⟨rdF true (flatNums _ _ _ _) rfl rfl, ⟨rdF true (flatNums _ _ _ _) rfl rfl, ⟨rdF true (flatNums _ _ _ _) rfl rfl, trivial⟩⟩⟩ rfl ⟨clF (flatNums _ _ _ _), ⟨clF (flatNums _ _ _ _), ⟨clF (flatNums _ _ _ _), trivial⟩⟩⟩ rfl (by first | rfl | simp [mpV, mpA, mpS, mpP, renId, shift]) (by first | rfl | simp [mpV, mpA, mpS, mpP, renId, shift])) ?_
    refine segEnd [1, 4, 5] (T1 := (mkT 40 [(1, vP 2 0), (4, vI (lbS X Y Z A ([] : List Int) C)), (5, .bool (shadB X Y Z A ([] : List Int) C))])) (H1 := [some ⟨nums A, 3, false, false⟩, some ⟨nums C, 3, false, false⟩, rB [vN X, vN Y, vN Z, vS 0 A.length, .slice none 0 0, vS 1 C.length] 24, some ⟨nums A, 3, false, true⟩, some ⟨nums ([] : List Int), 3, false, true⟩, some ⟨nums C, 3, false, true⟩]) (by kernel_rfl) ?_
    refine kSeq ?_
    refine cSeq ?_
    refine cReg ?_
    refine segH 1 (T1 := (mkT 40 [(1, vP 2 0), (4, vI (lbS X Y Z A ([] : List Int) C)), (5, .bool (shadB X Y Z A ([] : List Int) C)), (20, .agg #[vN X, vN Y, vN Z, vS 0 A.length, .slice none 0 0, vS 1 C.length])])) (by kernel_rfl) ?_
    refine rCall (v := .agg #[vN X, vN Y, vN Z, vS 6 A.length, vS 7 0, vS 8 C.length]) (args := [.agg #[vN X, vN Y, vN Z, vS 0 A.length, .slice none 0 0, vS 1 C.length]]) (by kernel_rfl) rfl (by kernel_rfl) (Sound.lay (E := [some ⟨nums A, 3, false, true⟩, some ⟨nums ([] : List Int), 3, false, true⟩, some ⟨nums C, 3, false, true⟩]) [0, 1] (toSh_sns ((X : Nat) : Int) ((Y : Nat) : Int) ((Z : Nat) : Int) A C (by first | omega | assumption) (by first | omega | assumption)) ⟨rdF false (flatNums _ _ _ _) rfl rfl, ⟨rdF false (flatNums _ _ _ _) rfl rfl, trivial⟩⟩ rfl ⟨clF (flatNums _ _ _ _), ⟨clF (flatNums _ _ _ _), trivial⟩⟩ rfl (by first | rfl | simp [mpV, mpA, mpS, mpP, renId, shift]) (by first | rfl | simp [mpV, mpA, mpS, mpP, renId, shift]) ⟨enF (flatNums _ _ _ _) (Or.inl rfl), ⟨enF (flatNums _ _ _ _) (Or.inl rfl), ⟨enF (flatNums _ _ _ _) (Or.inl rfl), trivial⟩⟩⟩) ?_
    refine segEnd [1, 4, 5, 6] (T1 := (mkT 40 [(1, vP 2 0), (4, vI (lbS X Y Z A ([] : List Int) C)), (5, .bool (shadB X Y Z A ([] : List Int) C)), (6, vP 9 0)])) (H1 := [some ⟨nums A, 3, false, false⟩, some ⟨nums C, 3, false, false⟩, rB [vN X, vN Y, vN Z, vS 0 A.length, .slice none 0 0, vS 1 C.length] 24, some ⟨nums A, 3, false, true⟩, some ⟨nums ([] : List Int), 3, false, true⟩, some ⟨nums C, 3, false, true⟩, some ⟨nums A, 3, false, true⟩, some ⟨nums ([] : List Int), 3, false, true⟩, some ⟨nums C, 3, false, true⟩, rB [vN X, vN Y, vN Z, vS 6 A.length, vS 7 0, vS 8 C.length] 27]) (by kernel_rfl) ?_
    refine kSeq ?_
    refine cSeq ?_
    refine cReg ?_
    refine segH 1 (T1 := (mkT 40 [(1, vP 2 0), (4, vI (lbS X Y Z A ([] : List Int) C)), (5, .bool (shadB X Y Z A ([] : List Int) C)), (6, vP 9 0), (23, .agg #[vN X, vN Y, vN Z, vS 6 A.length, vS 7 0, vS 8 C.length])])) (by kernel_rfl) ?_
    refine rCall (v := .tuple #[vI (lbS X Y Z A ([] : List Int) C), .bool (shadB X Y Z A ([] : List Int) C)]) (args := [.agg #[vN X, vN Y, vN Z, vS 6 A.length, vS 7 0, vS 8 C.length]]) (by kernel_rfl) rfl (by kernel_rfl) (Sound.lay0 [6, 7, 8] (implLineBound_yes X Y Z A ([] : List Int) C (by first | assumption | omega | rfl | decide | exact HeapL.list _ _ _ _ | exact HeapL.nil _ _ _ | exact HeapL.all _ _ _ | (apply HeapL.lt64 <;> assumption) | (repeat' (first | assumption | apply or_lt64 | apply and_lt64 | apply andn_lt64 | apply pow_lt64 | (apply HeapL.lt64 <;> assumption)))) (by first | omega | assumption | (simp; done)) (by first | omega | assumption | (simp; done)) (by first | omega | assumption | (simp; done))) ⟨rdF true (flatNums _ _ _ _) rfl rfl, ⟨rdF true (flatNums _ _ _ _) rfl rfl, ⟨rdF true (flatNums _ _ _ _) rfl rfl, trivial⟩⟩⟩ rfl ⟨clF (flatNums _ _ _ _), ⟨clF (flatNums _ _ _ _), ⟨clF (flatNums _ _ _ _), trivial⟩⟩⟩ rfl (by first | rfl | simp [mpV, mpA, mpS, mpP, renId, shift]) (by first | rfl | simp [mpV, mpA, mpS, mpP, renId, shift])) ?_
    refine segEndH [1, 4, 5, 6, 7, 8] (T1 := (mkT 40 [(1, vP 2 0), (4, vI (lbS X Y Z A ([] : List Int) C)), (5, .bool (shadB X Y Z A ([] : List Int) C)), (6, vP 9 0), (7, vI (lbS X Y Z A ([] : List Int) C)), (8, .bool (shadB X Y Z A ([] : List Int) C))])) (by kernel_rfl) ?_
    refine kSeq ?_
    refine cSeq ?_
    refine cSeq ?_
    refine cReg ?_
    refine segH 2 (T1 := (mkT 40 [(1, vP 2 0), (4, vI (lbS X Y Z A ([] : List Int) C)), (5, .bool (shadB X Y Z A ([] : List Int) C)), (6, vP 9 0), (7, vI (lbS X Y Z A ([] : List Int) C)), (8, .bool (shadB X Y Z A ([] : List Int) C)), (27, vI (lbS X Y Z A ([] : List Int) C)), (28, vI (lbS X Y Z A ([] : List Int) C))])) (by kernel_rfl) ?_
    refine rOp (v := .bool false) (by kernel_rfl) (eNeS (k := .i64) (a := (lbS X Y Z A ([] : List Int) C)) (by kernel_rfl) (by kernel_rfl)) ?_
    refine segH 3 (T1 := (mkT 40 [(1, vP 2 0), (4, vI (lbS X Y Z A ([] : List Int) C)), (5, .bool (shadB X Y Z A ([] : List Int) C)), (6, vP 9 0), (7, vI (lbS X Y Z A ([] : List Int) C)), (8, .bool (shadB X Y Z A ([] : List Int) C)), (27, vI (lbS X Y Z A ([] : List Int) C)), (28, vI (lbS X Y Z A ([] : List Int) C)), (29, .bool false), (30, .bool false), (31, .bool (shadB X Y Z A ([] : List Int) C)), (32, .bool (shadB X Y Z A ([] : List Int) C))])) (by kernel_rfl) ?_
    refine rOp (v := .bool false) (by kernel_rfl) (eNeB (b := (shadB X Y Z A ([] : List Int) C)) (by kernel_rfl) (by kernel_rfl) (by kernel_rfl)) ?_
    refine segEndH [1, 6, 34] (T1 := (mkT 40 [(1, vP 2 0), (6, vP 9 0), (34, .bool false)])) (by kernel_rfl) ?_
    refine kSeq ?_
    refine cFalse (by kernel_rfl) ?_
    refine cSkip ?_
    refine kSeq ?_
    refine cSeq ?_
    refine cSeq ?_
    refine cRegW (N := 13) [⟨[], [], [9]⟩, ⟨[], [], [2]⟩, ⟨[10, 11, 12], [], [0, 1]⟩, ⟨[], [], [6, 7, 8, 10, 11, 12]⟩, ⟨[], [], []⟩] 3 [10, 11, 12] (by rfl) (by rfl) (by kernel_rfl) (by kernel_rfl) (by kernel_rfl) ⟨nmsF (flatNums _ _ _ _), ⟨nmsF (flatNums _ _ _ _), ⟨nmsX (by kernel_rfl), ⟨nmsF (flatNums _ _ _ _), ⟨nmsF (flatNums _ _ _ _), ⟨nmsF (flatNums _ _ _ _), ⟨nmsF (flatNums _ _ _ _), ⟨nmsF (flatNums _ _ _ _), ⟨nmsF (flatNums _ _ _ _), ⟨nmsX (by kernel_rfl), trivial⟩⟩⟩⟩⟩⟩⟩⟩⟩⟩ ?_
    refine segWH 2 (T1 := (mkT 40 [(1, vP 2 0), (6, vP 9 0), (34, .bool false), (35, .agg #[vN X, vN Y, vN Z, vS 6 A.length, vS 7 0, vS 8 C.length]), (36, .agg #[vN X, vN Y, vN Z, vS 0 A.length, .slice none 0 0, vS 1 C.length])])) (by kernel_rfl) ?_
    refine rW (m := ⟨[10, 11, 12], [], [0, 1]⟩) (v := .agg #[vN X, vN Y, vN Z, vS 10 A.length, vS 11 0, vS 12 C.length]) rfl (by kernel_rfl) (stN (i := 10) (E := [some ⟨nums A, 3, false, true⟩, some ⟨nums ([] : List Int), 3, false, true⟩, some ⟨nums C, 3, false, true⟩]) (v1 := .agg #[vN X, vN Y, vN Z, vS 13 A.length, vS 14 0, vS 15 C.length]) (args := [.agg #[vN X, vN Y, vN Z, vS 0 A.length, .slice none 0 0, vS 1 C.length]]) rfl (by kernel_rfl) (Any.lay (E := [some ⟨nums A, 3, false, true⟩, some ⟨nums ([] : List Int), 3, false, true⟩, some ⟨nums C, 3, false, true⟩]) (N := 13) [0, 1] (toSh_sns ((X : Nat) : Int) ((Y : Nat) : Int) ((Z : Nat) : Int) A C (by first | omega | assumption) (by first | omega | assumption)) ⟨rdF false (flatNums _ _ _ _) rfl rfl, ⟨rdF false (flatNums _ _ _ _) rfl rfl, trivial⟩⟩ rfl ⟨clF (flatNums _ _ _ _), ⟨clF (flatNums _ _ _ _), trivial⟩⟩ rfl (by first | rfl | simp [mpV, mpA, mpS, mpP, renId, shift]) (by first | rfl | simp [mpV, mpA, mpS, mpP, renId, shift]) ⟨enF (flatNums _ _ _ _) (Or.inl rfl), ⟨enF (flatNums _ _ _ _) (Or.inl rfl), ⟨enF (flatNums _ _ _ _) (Or.inl rfl), trivial⟩⟩⟩) rfl (by kernel_rfl) (by kernel_rfl) (by kernel_rfl) (by kernel_rfl) (FlatH.cons (flatNums _ _ _ _) (FlatH.cons (flatNums _ _ _ _) (FlatH.cons (flatNums _ _ _ _) FlatH.nil)))) (by kernel_rfl) (NRs.all ⟨nrOf (by rfl) (nmF (flatNums _ _ _ _)), ⟨nrOf (by rfl) (nmF (flatNums _ _ _ _)), ⟨nrOf (by rfl) (nmF (flatNums _ _ _ _)), trivial⟩⟩⟩) ?_
    refine rW (m := ⟨[], [], [6, 7, 8, 10, 11, 12]⟩) (v := .bool true) rfl (by kernel_rfl) (stQ (args := [.agg #[vN X, vN Y, vN Z, vS 6 A.length, vS 7 0, vS 8 C.length], .agg #[vN X, vN Y, vN Z, vS 10 A.length, vS 11 0, vS 12 C.length]]) rfl (by kernel_rfl) (Any.lay0 [6, 7, 8, 10, 11, 12] (eqSh ((X : Nat) : Int) ((Y : Nat) : Int) ((Z : Nat) : Int) A ([] : List Int) C (by first | omega | assumption | (simp; done)) (by first | omega | assumption | (simp; done)) (by first | omega | assumption | (simp; done))) ⟨rdF true (flatNums _ _ _ _) rfl rfl, ⟨rdF true (flatNums _ _ _ _) rfl rfl, ⟨rdF true (flatNums _ _ _ _) rfl rfl, ⟨rdF true (flatNums _ _ _ _) rfl rfl, ⟨rdF true (flatNums _ _ _ _) rfl rfl, ⟨rdF true (flatNums _ _ _ _) rfl rfl, trivial⟩⟩⟩⟩⟩⟩ rfl ⟨clF (flatNums _ _ _ _), ⟨clF (flatNums _ _ _ _), ⟨clF (flatNums _ _ _ _), ⟨clF (flatNums _ _ _ _), ⟨clF (flatNums _ _ _ _), ⟨clF (flatNums _ _ _ _), trivial⟩⟩⟩⟩⟩⟩ rfl (by first | rfl | simp [mpV, mpA, mpS, mpP, renId, shift]) rfl) rfl (by kernel_rfl) (by kernel_rfl)) (by kernel_rfl) nr0 ?_
    refine segEndW [39] (T1 := (mkT 40 [(39, .bool false)])) (H1 := [some ⟨nums A, 3, false, false⟩, some ⟨nums C, 3, false, false⟩, rB [vN X, vN Y, vN Z, vS 0 A.length, .slice none 0 0, vS 1 C.length] 24, some ⟨nums A, 3, false, true⟩, some ⟨nums ([] : List Int), 3, false, true⟩, some ⟨nums C, 3, false, true⟩, some ⟨nums A, 3, false, true⟩, some ⟨nums ([] : List Int), 3, false, true⟩, some ⟨nums C, 3, false, true⟩, rB [vN X, vN Y, vN Z, vS 6 A.length, vS 7 0, vS 8 C.length] 27, some ⟨nums A, 3, false, true⟩, some ⟨nums ([] : List Int), 3, false, true⟩, some ⟨nums C, 3, false, true⟩]) (by kernel_rfl) ?_
    refine kSeq ?_
    refine cFalse (by kernel_rfl) ?_
    refine cSkip ?_
    refine kSeq ?_
    refine cSeq ?_
    refine cReg ?_
    refine segEndH [2] (T1 := (mkT 40 [(2, .bool true)])) (by kernel_rfl) ?_
    refine kSeq ?_
    refine cRet ?_
    -- end
    exact endQ (Or.inr rfl) (l := [.bool true]) [rB [vN X, vN Y, vN Z, vS 0 A.length, .slice none 0 0, vS 1 C.length] 24, some ⟨nums A, 3, false, true⟩, some ⟨nums ([] : List Int), 3, false, true⟩, some ⟨nums C, 3, false, true⟩, some ⟨nums A, 3, false, true⟩, some ⟨nums ([] : List Int), 3, false, true⟩, some ⟨nums C, 3, false, true⟩, rB [vN X, vN Y, vN Z, vS 6 A.length, vS 7 0, vS 8 C.length] 27, some ⟨nums A, 3, false, true⟩, some ⟨nums ([] : List Int), 3, false, true⟩, some ⟨nums C, 3, false, true⟩] (by kernel_rfl) (by first | rfl | kernel_rfl) rfl rfl hcl rfl
  ·
    (try simp only [Bool.not_eq_true', Bool.not_eq_false', decide_eq_true_eq, decide_eq_false_iff_not, beq_iff_eq, bne_iff_ne, beq_eq_false_iff_ne, bne_eq_false_iff_eq, ne_eq, Decidable.not_not, Bool.and_eq_true, Bool.and_eq_false_imp, Bool.or_eq_true, Bool.or_eq_false_iff, Bool.not_eq_true, Int.not_lt, Int.not_le, ge_iff_le, gt_iff_lt] at h1)
    exfalso; omega

set_option maxRecDepth 100000 in
set_option maxHeartbeats 4000000 in
theorem lawLineBound_bigA_snn (x : Int) (y : Int) (z : Int) (A : List Int) (hl : 1048576 < A.length) (hm : A.length ≤ 9223372036854775807) : Sound Try.prog 5 [.agg #[vI x, vI y, vI z, vS 0 A.length, .slice none 0 0, .slice none 0 0]] [some ⟨nums A, 3, false, false⟩] (.bool true) [some ⟨nums A, 3, false, false⟩] := by
  refine sound_intro (C := cx) Try.func5 rfl (by kernel_rfl) fun hcl => ?_
  refine cSeq ?_
  refine cReg ?_
  refine segEnd [1] (T1 := (mkT 40 [(1, vP 1 0)])) (H1 := [some ⟨nums A, 3, false, false⟩, rB [vI x, vI y, vI z, vS 0 A.length, .slice none 0 0, .slice none 0 0] 24]) (by kernel_rfl) ?_
  refine kSeq ?_
  refine cSeq ?_
  refine cReg ?_
  refine segEndH [1, 3] (T1 := (mkT 40 [(1, vP 1 0), (3, vI 1048576)])) (by kernel_rfl) ?_
  refine kSeq ?_
  refine cSeq ?_
  refine cReg ?_
  refine segH 2 (T1 := (mkT 40 [(1, vP 1 0), (3, vI 1048576), (9, .agg #[vI x, vI y, vI z, vS 0 A.length, .slice none 0 0, .slice none 0 0]), (10, vI 1048576)])) (by kernel_rfl) ?_
  refine rCall (v := vI (-1)) (args := [.agg #[vI x, vI y, vI z, vS 0 A.length, .slice none 0 0, .slice none 0 0], vI 1048576]) (by kernel_rfl) rfl (by kernel_rfl) (Sound.lay0 [0] (szSh_snn_A x y z A 1048576 (by first | omega | assumption | (simp; done) | (simp; omega)) (by first | assumption | omega | rfl | decide | exact HeapL.list _ _ _ _ | exact HeapL.nil _ _ _ | exact HeapL.all _ _ _ | (apply HeapL.lt64 <;> assumption) | (repeat' (first | assumption | apply or_lt64 | apply and_lt64 | apply andn_lt64 | apply pow_lt64 | (apply HeapL.lt64 <;> assumption)))) (by first | omega | assumption | decide)) ⟨rdF false (flatNums _ _ _ _) rfl rfl, trivial⟩ rfl ⟨clF (flatNums _ _ _ _), trivial⟩ rfl (by first | rfl | simp [mpV, mpA, mpS, mpP, renId, shift]) rfl) ?_
  refine segEndH [1, 3] (T1 := (mkT 40 [(1, vP 1 0), (3, vI (-1))])) (by kernel_rfl) ?_
  refine kSeq ?_
  refine cSeq ?_
  refine cSeq ?_
  refine cReg ?_
  refine segEndH [1, 13] (T1 := (mkT 40 [(1, vP 1 0), (13, .bool true)])) (by kernel_rfl) ?_
  refine kSeq ?_
  refine cTrue (by kernel_rfl) ?_
  refine cSeq ?_
  refine cReg ?_
  refine segEndH [2] (T1 := (mkT 40 [(2, .bool true)])) (by kernel_rfl) ?_
  refine kSeq ?_
  refine cRet ?_
  refine kSeqR ?_
  -- end
  exact endQ (Or.inr rfl) (l := [.bool true]) [rB [vI x, vI y, vI z, vS 0 A.length, .slice none 0 0, .slice none 0 0] 24] (by kernel_rfl) (by first | rfl | kernel_rfl) rfl rfl hcl rfl

set_option maxRecDepth 100000 in
set_option maxHeartbeats 4000000 in
theorem lawLineBound_no_snn (x : Int) (y : Int) (z : Int) (A : List Int) (hl : A.length ≤ 1048576) (hv : valid3 x y z = false) : Sound Try.prog 5 [.agg #[vI x, vI y, vI z, vS 0 A.length, .slice none 0 0, .slice none 0 0]] [some ⟨nums A, 3, false, false⟩] (.bool true) [some ⟨nums A, 3, false, false⟩] := by
  refine sound_intro (C := cx) Try.func5 rfl (by kernel_rfl) fun hcl => ?_
  refine cSeq ?_
  refine cReg ?_
  refine segEnd [1] (T1 := (mkT 40 [(1, vP 1 0)])) (H1 := [some ⟨nums A, 3, false, false⟩, rB [vI x, vI y, vI z, vS 0 A.length, .slice none 0 0, .slice none 0 0] 24]) (by kernel_rfl) ?_
  refine kSeq ?_
  refine cSeq ?_
  refine cReg ?_
  refine segEndH [1, 3] (T1 := (mkT 40 [(1, vP 1 0), (3, vI 1048576)])) (by kernel_rfl) ?_
  refine kSeq ?_
  refine cSeq ?_
  refine cReg ?_
  refine segH 2 (T1 := (mkT 40 [(1, vP 1 0), (3, vI 1048576), (9, .agg #[vI x, vI y, vI z, vS 0 A.length, .slice none 0 0, .slice none 0 0]), (10, vI 1048576)])) (by kernel_rfl) ?_
  refine rCall (v := vN (1048576 - A.length)) (args := [.agg #[vI x, vI y, vI z, vS 0 A.length, .slice none 0 0, .slice none 0 0], vI 1048576]) (by kernel_rfl) rfl (by kernel_rfl) (Sound.lay0 [0] (szSh_snn x y z A 1048576 (by first | omega | assumption | (simp; done) | (simp; omega)) (by first | omega | assumption | decide)) ⟨rdF false (flatNums _ _ _ _) rfl rfl, trivial⟩ rfl ⟨clF (flatNums _ _ _ _), trivial⟩ rfl (by first | rfl | simp [mpV, mpA, mpS, mpP, renId, shift]) rfl) ?_
  refine segEndH [1, 3] (T1 := (mkT 40 [(1, vP 1 0), (3, vN (1048576 - A.length))])) (by kernel_rfl) ?_
  refine kSeq ?_
  refine cSeq ?_
  refine cSeq ?_
  refine cReg ?_
  refine segEndH [1, 13] (T1 := (mkT 40 [(1, vP 1 0), (13, .bool (decide (((1048576 - A.length : Nat) : Int) < 0)))])) (by kernel_rfl) ?_
  refine kSeq ?_
  cases h1 : (decide (((1048576 - A.length : Nat) : Int) < 0) : Bool)
  ·
    (try simp only [Bool.not_eq_true', Bool.not_eq_false', decide_eq_true_eq, decide_eq_false_iff_not, beq_iff_eq, bne_iff_ne, beq_eq_false_iff_ne, bne_eq_false_iff_eq, ne_eq, Decidable.not_not, Bool.and_eq_true, Bool.and_eq_false_imp, Bool.or_eq_true, Bool.or_eq_false_iff, Bool.not_eq_true, Int.not_lt, Int.not_le, ge_iff_le, gt_iff_lt] at h1)
    refine cFalse (by kernel_rfl) ?_
    refine cSkip ?_
    refine kSeq ?_
    refine cSeq ?_
    refine cReg ?_
    refine segH 1 (T1 := (mkT 40 [(1, vP 1 0), (13, .bool false), (15, .agg #[vI x, vI y, vI z, vS 0 A.length, .slice none 0 0, .slice none 0 0])])) (by kernel_rfl) ?_
    refine rCall (v := .agg #[vI x, vI y, vI z, vS 2 A.length, vS 3 0, vS 4 0]) (args := [.agg #[vI x, vI y, vI z, vS 0 A.length, .slice none 0 0, .slice none 0 0]]) (by kernel_rfl) rfl (by kernel_rfl) (Sound.lay (E := [some ⟨nums A, 3, false, true⟩, some ⟨nums ([] : List Int), 3, false, true⟩, some ⟨nums ([] : List Int), 3, false, true⟩]) [0] (toSh_snn x y z A (by first | omega | assumption)) ⟨rdF false (flatNums _ _ _ _) rfl rfl, trivial⟩ rfl ⟨clF (flatNums _ _ _ _), trivial⟩ rfl (by first | rfl | simp [mpV, mpA, mpS, mpP, renId, shift]) (by first | rfl | simp [mpV, mpA, mpS, mpP, renId, shift]) ⟨enF (flatNums _ _ _ _) (Or.inl rfl), ⟨enF (flatNums _ _ _ _) (Or.inl rfl), ⟨enF (flatNums _ _ _ _) (Or.inl rfl), trivial⟩⟩⟩) ?_
    refine rCall (v := .tuple #[vI 0, .bool false]) (args := [.agg #[vI x, vI y, vI z, vS 2 A.length, vS 3 0, vS 4 0]]) (by kernel_rfl) rfl (by kernel_rfl) (Sound.lay0 [2, 3, 4] (specLineBound_no x y z A ([] : List Int) ([] : List Int) (by first | assumption | omega | rfl | decide | exact HeapL.list _ _ _ _ | exact HeapL.nil _ _ _ | exact HeapL.all _ _ _ | (apply HeapL.lt64 <;> assumption) | (repeat' (first | assumption | apply or_lt64 | apply and_lt64 | apply andn_lt64 | apply pow_lt64 | (apply HeapL.lt64 <;> assumption)))) (by first | omega | assumption | (simp; done)) (by first | omega | assumption | (simp; done)) (by first | omega | assumption | (simp; done))) ⟨rdF true (flatNums _ _ _ _) rfl rfl, ⟨rdF true (flatNums _ _ _ _) rfl rfl, ⟨rdF true (flatNums _ _ _ _) rfl rfl, trivial⟩⟩⟩ rfl ⟨clF (flatNums _ _ _ _), ⟨clF (flatNums _ _ _ _), ⟨clF (flatNums _ _ _ _), trivial⟩⟩⟩ rfl (by first | rfl | simp [mpV, mpA, mpS, mpP, renId, shift]) (by first | rfl | simp [mpV, mpA, mpS, mpP, renId, shift])) ?_
    refine segEnd [1, 4, 5] (T1 := (mkT 40 [(1, vP 1 0), (4, vI 0), (5, .bool false)])) (H1 := [some ⟨nums A, 3, false, false⟩, rB [vI x, vI y, vI z, vS 0 A.length, .slice none 0 0, .slice none 0 0] 24, some ⟨nums A, 3, false, true⟩, some ⟨nums ([] : List Int), 3, false, true⟩, some ⟨nums ([] : List Int), 3, false, true⟩]) (by kernel_rfl) ?_
    refine kSeq ?_
    refine cSeq ?_
    refine cReg ?_
    refine segH 1 (T1 := (mkT 40 [(1, vP 1 0), (4, vI 0), (5, .bool false), (20, .agg #[vI x, vI y, vI z, vS 0 A.length, .slice none 0 0, .slice none 0 0])])) (by kernel_rfl) ?_
    refine rCall (v := .agg #[vI x, vI y, vI z, vS 5 A.length, vS 6 0, vS 7 0]) (args := [.agg #[vI x, vI y, vI z, vS 0 A.length, .slice none 0 0, .slice none 0 0]]) (by kernel_rfl) rfl (by kernel_rfl) (Sound.lay (E := [some ⟨nums A, 3, false, true⟩, some ⟨nums ([] : List Int), 3, false, true⟩, some ⟨nums ([] : List Int), 3, false, true⟩]) [0] (toSh_snn x y z A (by first | omega | assumption)) ⟨rdF false (flatNums _ _ _ _) rfl rfl, trivial⟩ rfl ⟨clF (flatNums _ _ _ _), trivial⟩ rfl (by first | rfl | simp [mpV, mpA, mpS, mpP, renId, shift]) (by first | rfl | simp [mpV, mpA, mpS, mpP, renId, shift]) ⟨enF (flatNums _ _ _ _) (Or.inl rfl), ⟨enF (flatNums _ _ _ _) (Or.inl rfl), ⟨enF (flatNums _ _ _ _) (Or.inl rfl), trivial⟩⟩⟩) ?_
    refine segEnd [1, 4, 5, 6] (T1 := (mkT 40 [(1, vP 1 0), (4, vI 0), (5, .bool false), (6, vP 8 0)])) (H1 := [some ⟨nums A, 3, false, false⟩, rB [vI x, vI y, vI z, vS 0 A.length, .slice none 0 0, .slice none 0 0] 24, some ⟨nums A, 3, false, true⟩, some ⟨nums ([] : List Int), 3, false, true⟩, some ⟨nums ([] : List Int), 3, false, true⟩, some ⟨nums A, 3, false, true⟩, some ⟨nums ([] : List Int), 3, false, true⟩, some ⟨nums ([] : List Int), 3, false, true⟩, rB [vI x, vI y, vI z, vS 5 A.length, vS 6 0, vS 7 0] 27]) (by kernel_rfl) ?_
    refine kSeq ?_
    refine cSeq ?_
    refine cReg ?_
    refine segH 1 (T1 := (mkT 40 [(1, vP 1 0), (4, vI 0), (5, .bool false), (6, vP 8 0), (23, .agg #[vI x, vI y, vI z, vS 5 A.length, vS 6 0, vS 7 0])])) (by kernel_rfl) ?_
    refine rCall (v := .tuple #[vI 0, .bool false]) (args := [.agg #[vI x, vI y, vI z, vS 5 A.length, vS 6 0, vS 7 0]]) (by kernel_rfl) rfl (by kernel_rfl) (Sound.lay0 [5, 6, 7] (implLineBound_no x y z A ([] : List Int) ([] : List Int) (by first | assumption | omega | rfl | decide | exact HeapL.list _ _ _ _ | exact HeapL.nil _ _ _ | exact HeapL.all _ _ _ | (apply HeapL.lt64 <;> assumption) | (repeat' (first | assumption | apply or_lt64 | apply and_lt64 | apply andn_lt64 | apply pow_lt64 | (apply HeapL.lt64 <;> assumption)))) (by first | omega | assumption | (simp; done)) (by first | omega | assumption | (simp; done)) (by first | omega | assumption | (simp; done))) ⟨rdF true (flatNums _ _ _ _) rfl rfl, ⟨rdF true (flatNums _ _ _ _) rfl rfl, ⟨rdF true (flatNums _ _ _ _) rfl rfl, trivial⟩⟩⟩ rfl ⟨clF (flatNums _ _ _ _), ⟨clF (flatNums _ _ _ _), ⟨clF (flatNums _ _ _ _), trivial⟩⟩⟩ rfl (by first | rfl | simp [mpV, mpA, mpS, mpP, renId, shift]) (by first | rfl | simp [mpV, mpA, mpS, mpP, renId, shift])) ?_
    refine segEndH [1, 4, 5, 6, 7, 8] (T1 := (mkT 40 [(1, vP 1 0), (4, vI 0), (5, .bool false), (6, vP 8 0), (7, vI 0), (8, .bool false)])) (by kernel_rfl) ?_
    refine kSeq ?_
    refine cSeq ?_
    refine cSeq ?_
    refine cReg ?_
    refine segEndH [1, 6, 34] (T1 := (mkT 40 [(1, vP 1 0), (6, vP 8 0), (34, .bool false)])) (by kernel_rfl) ?_
    refine kSeq ?_
    refine cFalse (by kernel_rfl) ?_
    refine cSkip ?_
    refine kSeq ?_
    refine cSeq ?_
    refine cSeq ?_
    refine cRegW (N := 12) [⟨[], [], [8]⟩, ⟨[], [], [1]⟩, ⟨[9, 10, 11], [], [0]⟩, ⟨[], [], [5, 6, 7, 9, 10, 11]⟩, ⟨[], [], []⟩] 3 [9, 10, 11] (by rfl) (by rfl) (by kernel_rfl) (by kernel_rfl) (by kernel_rfl) ⟨nmsF (flatNums _ _ _ _), ⟨nmsX (by kernel_rfl), ⟨nmsF (flatNums _ _ _ _), ⟨nmsF (flatNums _ _ _ _), ⟨nmsF (flatNums _ _ _ _), ⟨nmsF (flatNums _ _ _ _), ⟨nmsF (flatNums _ _ _ _), ⟨nmsF (flatNums _ _ _ _), ⟨nmsX (by kernel_rfl), trivial⟩⟩⟩⟩⟩⟩⟩⟩⟩ ?_
    refine segWH 2 (T1 := (mkT 40 [(1, vP 1 0), (6, vP 8 0), (34, .bool false), (35, .agg #[vI x, vI y, vI z, vS 5 A.length, vS 6 0, vS 7 0]), (36, .agg #[vI x, vI y, vI z, vS 0 A.length, .slice none 0 0, .slice none 0 0])])) (by kernel_rfl) ?_
    refine rW (m := ⟨[9, 10, 11], [], [0]⟩) (v := .agg #[vI x, vI y, vI z, vS 9 A.length, vS 10 0, vS 11 0]) rfl (by kernel_rfl) (stN (i := 9) (E := [some ⟨nums A, 3, false, true⟩, some ⟨nums ([] : List Int), 3, false, true⟩, some ⟨nums ([] : List Int), 3, false, true⟩]) (v1 := .agg #[vI x, vI y, vI z, vS 12 A.length, vS 13 0, vS 14 0]) (args := [.agg #[vI x, vI y, vI z, vS 0 A.length, .slice none 0 0, .slice none 0 0]]) rfl (by kernel_rfl) (Any.lay (E := [some ⟨nums A, 3, false, true⟩, some ⟨nums ([] : List Int), 3, false, true⟩, some ⟨nums ([] : List Int), 3, false, true⟩]) (N := 12) [0] (toSh_snn x y z A (by first | omega | assumption)) ⟨rdF false (flatNums _ _ _ _) rfl rfl, trivial⟩ rfl ⟨clF (flatNums _ _ _ _), trivial⟩ rfl (by first | rfl | simp [mpV, mpA, mpS, mpP, renId, shift]) (by first | rfl | simp [mpV, mpA, mpS, mpP, renId, shift]) ⟨enF (flatNums _ _ _ _) (Or.inl rfl), ⟨enF (flatNums _ _ _ _) (Or.inl rfl), ⟨enF (flatNums _ _ _ _) (Or.inl rfl), trivial⟩⟩⟩) rfl (by kernel_rfl) (by kernel_rfl) (by kernel_rfl) (by kernel_rfl) (FlatH.cons (flatNums _ _ _ _) (FlatH.cons (flatNums _ _ _ _) (FlatH.cons (flatNums _ _ _ _) FlatH.nil)))) (by kernel_rfl) (NRs.all ⟨nrOf (by rfl) (nmF (flatNums _ _ _ _)), ⟨nrOf (by rfl) (nmF (flatNums _ _ _ _)), ⟨nrOf (by rfl) (nmF (flatNums _ _ _ _)), trivial⟩⟩⟩) ?_
    refine rW (m := ⟨[], [], [5, 6, 7, 9, 10, 11]⟩) (v := .bool true) rfl (by kernel_rfl) (stQ (args := [.agg #[vI x, vI y, vI z, vS 5 A.length, vS 6 0, vS 7 0], .agg #[vI x, vI y, vI z, vS 9 A.length, vS 10 0, vS 11 0]]) rfl (by kernel_rfl) (Any.lay0 [5, 6, 7, 9, 10, 11] (eqSh x y z A ([] : List Int) ([] : List Int) (by first | omega | assumption | (simp; done)) (by first | omega | assumption | (simp; done)) (by first | omega | assumption | (simp; done))) ⟨rdF true (flatNums _ _ _ _) rfl rfl, ⟨rdF true (flatNums _ _ _ _) rfl rfl, ⟨rdF true (flatNums _ _ _ _) rfl rfl, ⟨rdF true (flatNums _ _ _ _) rfl rfl, ⟨rdF true (flatNums _ _ _ _) rfl rfl, ⟨rdF true (flatNums _ _ _ _) rfl rfl, trivial⟩⟩⟩⟩⟩⟩ rfl ⟨clF (flatNums _ _ _ _), ⟨clF (flatNums _ _ _ _), ⟨clF (flatNums _ _ _ _), ⟨clF (flatNums _ _ _ _), ⟨clF (flatNums _ _ _ _), ⟨clF (flatNums _ _ _ _), trivial⟩⟩⟩⟩⟩⟩ rfl (by first | rfl | simp [mpV, mpA, mpS, mpP, renId, shift]) rfl) rfl (by kernel_rfl) (by kernel_rfl)) (by kernel_rfl) nr0 ?_
    refine segEndW [39] (T1 := (mkT 40 [(39, .bool false)])) (H1 := [some ⟨nums A, 3, false, false⟩, rB [vI x, vI y, vI z, vS 0 A.length, .slice none 0 0, .slice none 0 0] 24, some ⟨nums A, 3, false, true⟩, some ⟨nums ([] : List Int), 3, false, true⟩, some ⟨nums ([] : List Int), 3, false, true⟩, some ⟨nums A, 3, false, true⟩, some ⟨nums ([] : List Int), 3, false, true⟩, some ⟨nums ([] : List Int), 3, false, true⟩, rB [vI x, vI y, vI z, vS 5 A.length, vS 6 0, vS 7 0] 27, some ⟨nums A, 3, false, true⟩, some ⟨nums ([] : List Int), 3, false, true⟩, some ⟨nums ([] : List Int), 3, false, true⟩]) (by kernel_rfl) ?_
    refine kSeq ?_
    refine cFalse (by kernel_rfl) ?_
    refine cSkip ?_
    refine kSeq ?_
    refine cSeq ?_
    refine cReg ?_
    refine segEndH [2] (T1 := (mkT 40 [(2, .bool true)])) (by kernel_rfl) ?_
    refine kSeq ?_
    refine cRet ?_
    -- end
    exact endQ (Or.inr rfl) (l := [.bool true]) [rB [vI x, vI y, vI z, vS 0 A.length, .slice none 0 0, .slice none 0 0] 24, some ⟨nums A, 3, false, true⟩, some ⟨nums ([] : List Int), 3, false, true⟩, some ⟨nums ([] : List Int), 3, false, true⟩, some ⟨nums A, 3, false, true⟩, some ⟨nums ([] : List Int), 3, false, true⟩, some ⟨nums ([] : List Int), 3, false, true⟩, rB [vI x, vI y, vI z, vS 5 A.length, vS 6 0, vS 7 0] 27, some ⟨nums A, 3, false, true⟩, some ⟨nums ([] : List Int), 3, false, true⟩, some ⟨nums ([] : List Int), 3, false, true⟩] (by kernel_rfl) (by first | rfl | kernel_rfl) rfl rfl hcl rfl
  ·
    (try simp only [Bool.not_eq_true', Bool.not_eq_false', decide_eq_true_eq, decide_eq_false_iff_not, beq_iff_eq, bne_iff_ne, beq_eq_false_iff_ne, bne_eq_false_iff_eq, ne_eq, Decidable.not_not, Bool.and_eq_true, Bool.and_eq_false_imp, Bool.or_eq_true, Bool.or_eq_false_iff, Bool.not_eq_true, Int.not_lt, Int.not_le, ge_iff_le, gt_iff_lt] at h1)
    exfalso; omega

set_option maxRecDepth 100000 in
set_option maxHeartbeats 4000000 in
theorem lawLineBound_yes_snn (X : Nat) (Y : Nat) (Z : Nat) (A : List Int) (hl : A.length ≤ 1048576) (hs : Sides X Y Z) : Sound Try.prog 5 [.agg #[vN X, vN Y, vN Z, vS 0 A.length, .slice none 0 0, .slice none 0 0]] [some ⟨nums A, 3, false, false⟩] (.bool true) [some ⟨nums A, 3, false, false⟩] := by
  refine sound_intro (C := cx) Try.func5 rfl (by kernel_rfl) fun hcl => ?_
  refine cSeq ?_
  refine cReg ?_
  refine segEnd [1] (T1 := (mkT 40 [(1, vP 1 0)])) (H1 := [some ⟨nums A, 3, false, false⟩, rB [vN X, vN Y, vN Z, vS 0 A.length, .slice none 0 0, .slice none 0 0] 24]) (by kernel_rfl) ?_
  refine kSeq ?_
  refine cSeq ?_
  refine cReg ?_
  refine segEndH [1, 3] (T1 := (mkT 40 [(1, vP 1 0), (3, vI 1048576)])) (by kernel_rfl) ?_
  refine kSeq ?_
  refine cSeq ?_
  refine cReg ?_
  refine segH 2 (T1 := (mkT 40 [(1, vP 1 0), (3, vI 1048576), (9, .agg #[vN X, vN Y, vN Z, vS 0 A.length, .slice none 0 0, .slice none 0 0]), (10, vI 1048576)])) (by kernel_rfl) ?_
  refine rCall (v := vN (1048576 - A.length)) (args := [.agg #[vN X, vN Y, vN Z, vS 0 A.length, .slice none 0 0, .slice none 0 0], vI 1048576]) (by kernel_rfl) rfl (by kernel_rfl) (Sound.lay0 [0] (szSh_snn ((X : Nat) : Int) ((Y : Nat) : Int) ((Z : Nat) : Int) A 1048576 (by first | omega | assumption | (simp; done) | (simp; omega)) (by first | omega | assumption | decide)) ⟨rdF false (flatNums _ _ _ _) rfl rfl, trivial⟩ rfl ⟨clF (flatNums _ _ _ _), trivial⟩ rfl (by first | rfl | simp [mpV, mpA, mpS, mpP, renId, shift]) rfl) ?_
  refine segEndH [1, 3] (T1 := (mkT 40 [(1, vP 1 0), (3, vN (1048576 - A.length))])) (by kernel_rfl) ?_
  refine kSeq ?_
  refine cSeq ?_
  refine cSeq ?_
  refine cReg ?_
  refine segEndH [1, 13] (T1 := (mkT 40 [(1, vP 1 0), (13, .bool (decide (((1048576 - A.length : Nat) : Int) < 0)))])) (by kernel_rfl) ?_
  refine kSeq ?_
  cases h1 : (decide (((1048576 - A.length : Nat) : Int) < 0) : Bool)
  ·
    (try simp only [Bool.not_eq_true', Bool.not_eq_false', decide_eq_true_eq, decide_eq_false_iff_not, beq_iff_eq, bne_iff_ne, beq_eq_false_iff_ne, bne_eq_false_iff_eq, ne_eq, Decidable.not_not, Bool.and_eq_true, Bool.and_eq_false_imp, Bool.or_eq_true, Bool.or_eq_false_iff, Bool.not_eq_true, Int.not_lt, Int.not_le, ge_iff_le, gt_iff_lt] at h1)
    refine cFalse (by kernel_rfl) ?_
    refine cSkip ?_
    refine kSeq ?_
    refine cSeq ?_
    refine cReg ?_
    refine segH 1 (T1 := (mkT 40 [(1, vP 1 0), (13, .bool false), (15, .agg #[vN X, vN Y, vN Z, vS 0 A.length, .slice none 0 0, .slice none 0 0])])) (by kernel_rfl) ?_
    refine rCall (v := .agg #[vN X, vN Y, vN Z, vS 2 A.length, vS 3 0, vS 4 0]) (args := [.agg #[vN X, vN Y, vN Z, vS 0 A.length, .slice none 0 0, .slice none 0 0]]) (by kernel_rfl) rfl (by kernel_rfl) (Sound.lay (E := [some ⟨nums A, 3, false, true⟩, some ⟨nums ([] : List Int), 3, false, true⟩, some ⟨nums ([] : List Int), 3, false, true⟩]) [0] (toSh_snn ((X : Nat) : Int) ((Y : Nat) : Int) ((Z : Nat) : Int) A (by first | omega | assumption)) ⟨rdF false (flatNums _ _ _ _) rfl rfl, trivial⟩ rfl ⟨clF (flatNums _ _ _ _), trivial⟩ rfl (by first | rfl | simp [mpV, mpA, mpS, mpP, renId, shift]) (by first | rfl | simp [mpV, mpA, mpS, mpP, renId, shift]) ⟨enF (flatNums _ _ _ _) (Or.inl rfl), ⟨enF (flatNums _ _ _ _) (Or.inl rfl), ⟨enF (flatNums _ _ _ _) (Or.inl rfl), trivial⟩⟩⟩) ?_
    refine rCall (v := .tuple #[vI (lbS X Y Z A ([] : List Int) ([] : List Int)), .bool (shadB X Y Z A ([] : List Int) ([] : List Int))]) (args := [.agg #[vN X, vN Y, vN Z, vS 2 A.length, vS 3 0, vS 4 0]]) (by kernel_rfl) rfl (by kernel_rfl) (Sound.lay0 [2, 3, 4] (specLineBound_yes X Y Z A ([] : List Int) ([] : List Int) (by first | assumption | omega | rfl | decide | exact HeapL.list _ _ _ _ | exact HeapL.nil _ _ _ | exact HeapL.all _ _ _ | (apply HeapL.lt64 <;> assumption) | (repeat' (first | assumption | apply or_lt64 | apply and_lt64 | apply andn_lt64 | apply pow_lt64 | (apply HeapL.lt64 <;> assumption)))) (by first | omega | assumption | (simp; done)) (by first | omega | assumption | (simp; done)) (by first | omega | assumption | (simp; done))) ⟨rdF true (flatNums _ _ _ _) rfl rfl, ⟨rdF true (flatNums _ _ _ _) rfl rfl, ⟨rdF true (flatNums _ _ _ _) rfl rfl, trivial⟩⟩⟩ rfl ⟨clF (flatNums _ _ _ _), ⟨clF (flatNums _ _ _ _), ⟨clF (flatNums _ _ _ _), trivial⟩⟩⟩ rfl (by first | rfl | simp [mpV, mpA, mpS, mpP, renId, shift]) (by first | rfl | simp [mpV, mpA, mpS, mpP, renId, shift])) ?_
    refine segEnd [1, 4, 5] (T1 := (mkT 40 [(1, vP 1 0), (4, vI (lbS X Y Z A ([] : List Int) ([] : List Int))), (5, .bool (shadB X Y Z A ([] : List Int) ([] : List Int)))])) (H1 := [some ⟨nums A, 3, false, false⟩, rB [vN X, vN Y, vN Z, vS 0 A.length, .slice none 0 0, .slice none 0 0] 24, some ⟨nums A, 3, false, true⟩, some ⟨nums ([] : List Int), 3, false, true⟩, some ⟨nums ([] : List Int), 3, false, true⟩]) (by kernel_rfl) ?_
    refine kSeq ?_
    refine cSeq ?_
    refine cReg ?_
    refine segH 1 (T1 := (mkT 40 [(1, vP 1 0), (4, vI (lbS X Y Z A ([] : List Int) ([] : List Int))), (5, .bool (shadB X Y Z A ([] : List Int) ([] : List Int))), (20, .agg #[vN X, vN Y, vN Z, vS 0 A.length, .slice none 0 0, .slice none 0 0])])) (by kernel_rfl) ?_
    refine rCall (v := .agg #[vN X, vN Y, vN Z, vS 5 A.length, vS 6 0, vS 7 0]) (args := [.agg #[vN X, vN Y, vN Z, vS 0 A.length, .slice none 0 0, .slice none 0 0]]) (by kernel_rfl) rfl (by kernel_rfl) (Sound.lay (E := [some ⟨nums A, 3, false, true⟩, some ⟨nums ([] : List Int), 3, false, true⟩, some ⟨nums ([] : List Int), 3, false, true⟩]) [0] (toSh_snn ((X : Nat) : Int) ((Y : Nat) : Int) ((Z : Nat) : Int) A (by first | omega | assumption)) ⟨rdF false (flatNums _ _ _ _) rfl rfl, trivial⟩ rfl ⟨clF (flatNums _ _ _ _), trivial⟩ rfl (by first | rfl | simp [mpV, mpA, mpS, mpP, renId, shift]) (by first | rfl | simp [mpV, mpA, mpS, mpP, renId, shift]) ⟨enF (flatNums _ _ _ _) (Or.inl rfl), ⟨enF (flatNums _ _ _ _) (Or.inl rfl), ⟨enF (flatNums _ _ _ _) (Or.inl rfl), trivial⟩⟩⟩) ?_
    refine segEnd [1, 4, 5, 6] (T1 := (mkT 40 [(1, vP 1 0), (4, vI (lbS X Y Z A ([] : List Int) ([] : List Int))), (5, .bool (shadB X Y Z A ([] : List Int) ([] : List Int))), (6, vP 8 0)])) (H1 := [some ⟨nums A, 3, false, false⟩, rB [vN X, vN Y, vN Z, vS 0 A.length, .slice none 0 0, .slice none 0 0] 24, some ⟨nums A, 3, false, true⟩, some ⟨nums ([] : List Int), 3, false, true⟩, some ⟨nums ([] : List Int), 3, false, true⟩, some ⟨nums A, 3, false, true⟩, some ⟨nums ([] : List Int), 3, false, true⟩, some ⟨nums ([] : List Int), 3, false, true⟩, rB [vN X, vN Y, vN Z, vS 5 A.length, vS 6 0, vS 7 0] 27]) (by kernel_rfl) ?_
    refine kSeq ?_
    refine cSeq ?_
    refine cReg ?_
    refine segH 1 (T1 := (mkT 40 [(1, vP 1 0), (4, vI (lbS X Y Z A ([] : List Int) ([] : List Int))), (5, .bool (shadB X Y Z A ([] : List Int) ([] : List Int))), (6, vP 8 0), (23, .agg #[vN X, vN Y, vN Z, vS 5 A.length, vS 6 0, vS 7 0])])) (by kernel_rfl) ?_
    refine rCall (v := .tuple #[vI (lbS X Y Z A ([] : List Int) ([] : List Int)), .bool (shadB X Y Z A ([] : List Int) ([] : List Int))]) (args := [.agg #[vN X, vN Y, vN Z, vS 5 A.length, vS 6 0, vS 7 0]]) (by kernel_rfl) rfl (by kernel_rfl) (Sound.lay0 [5, 6, 7] (implLineBound_yes X Y Z A ([] : List Int) ([] : List Int) (by first | assumption | omega | rfl | decide | exact HeapL.list _ _ _ _ | exact HeapL.nil _ _ _ | exact HeapL.all _ _ _ | (apply HeapL.lt64 <;> assumption) | (repeat' (first | assumption | apply or_lt64 | apply and_lt64 | apply andn_lt64 | apply pow_lt64 | (apply HeapL.lt64 <;> assumption)))) (by first | omega | assumption | (simp; done)) (by first | omega | assumption | (simp; done)) (by first | omega | assumption | (simp; done))) ⟨rdF true (flatNums _ _ _ _) rfl rfl, ⟨rdF true (flatNums _ _ _ _) rfl rfl, ⟨rdF true (flatNums _ _ _ _) rfl rfl, trivial⟩⟩⟩ rfl ⟨clF (flatNums _ _ _ _), ⟨clF (flatNums _ _ _ _), ⟨clF (flatNums _ _ _ _), trivial⟩⟩⟩ rfl (by first | rfl | simp [mpV, mpA, mpS, mpP, renId, shift]) (by first | rfl | simp [mpV, mpA, mpS, mpP, renId, shift])) ?_
    refine segEndH [1, 4, 5, 6, 7, 8] (T1 := (mkT 40 [(1, vP 1 0), (4, vI (lbS X Y Z A ([] : List Int) ([] : List Int))), (5, .bool (shadB X Y Z A ([] : List Int) ([] : List Int))), (6, vP 8 0), (7, vI (lbS X Y Z A ([] : List Int) ([] : List Int))), (8, .bool (shadB X Y Z A ([] : List Int) ([] : List Int)))])) (by kernel_rfl) ?_
    refine kSeq ?_
    refine cSeq ?_
    refine cSeq ?_
    refine cReg ?_
    refine segH 2 (T1 := (mkT 40 [(1, vP 1 0), (4, vI (lbS X Y Z A ([] : List Int) ([] : List Int))), (5, .bool (shadB X Y Z A ([] : List Int) ([] : List Int))), (6, vP 8 0), (7, vI (lbS X Y Z A ([] : List Int) ([] : List Int))), (8, .bool (shadB X Y Z A ([] : List Int) ([] : List Int))), (27, vI (lbS X Y Z A ([] : List Int) ([] : List Int))), (28, vI (lbS X Y Z A ([] : List Int) ([] : List Int)))])) (by kernel_rfl) ?_
    refine rOp (v := .bool false) (by kernel_rfl) (eNeS (k := .i64) (a := (lbS X Y Z A ([] : List Int) ([] : List Int))) (by kernel_rfl) (by kernel_rfl)) ?_
    refine segH 3 (T1 := (mkT 40 [(1, vP 1 0), (4, vI (lbS X Y Z A ([] : List Int) ([] : List Int))), (5, .bool (shadB X Y Z A ([] : List Int) ([] : List Int))), (6, vP 8 0), (7, vI (lbS X Y Z A ([] : List Int) ([] : List Int))), (8, .bool (shadB X Y Z A ([] : List Int) ([] : List Int))), (27, vI (lbS X Y Z A ([] : List Int) ([] : List Int))), (28, vI (lbS X Y Z A ([] : List Int) ([] : List Int))), (29, .bool false), (30, .bool false), (31, .bool (shadB X Y Z A ([] : List Int) ([] : List Int))), (32, .bool (shadB X Y Z A ([] : List Int) ([] : List Int)))])) (by kernel_rfl) ?_
    refine rOp (v := .bool false) (by kernel_rfl) (eNeB (b := (shadB X Y Z A ([] : List Int) ([] : List Int))) (by kernel_rfl) (by kernel_rfl) (by kernel_rfl)) ?_
    refine segEndH [1, 6, 34] (T1 := (mkT 40 [(1, vP 1 0), (6, vP 8 0), (34, .bool false)])) (by kernel_rfl) ?_
    refine kSeq ?_
    refine cFalse (by kernel_rfl) ?_
    refine cSkip ?_
    refine kSeq ?_
    refine cSeq ?_
    refine cSeq ?_
    refine cRegW (N := 12) [⟨[], [], [8]⟩, ⟨[], [], [1]⟩, ⟨[9, 10, 11], [], [0]⟩, ⟨[], [], [5, 6, 7, 9, 10, 11]⟩, ⟨[], [], []⟩] 3 [9, 10, 11] (by rfl) (by rfl) (by kernel_rfl) (by kernel_rfl) (by kernel_rfl) ⟨nmsF (flatNums _ _ _ _), ⟨nmsX (by kernel_rfl), ⟨nmsF (flatNums _ _ _ _), ⟨nmsF (flatNums _ _ _ _), ⟨nmsF (flatNums _ _ _ _), ⟨nmsF (flatNums _ _ _ _), ⟨nmsF (flatNums _ _ _ _), ⟨nmsF (flatNums _ _ _ _), ⟨nmsX (by kernel_rfl), trivial⟩⟩⟩⟩⟩⟩⟩⟩⟩ ?_
    refine segWH 2 (T1 := (mkT 40 [(1, vP 1 0), (6, vP 8 0), (34, .bool false), (35, .agg #[vN X, vN Y, vN Z, vS 5 A.length, vS 6 0, vS 7 0]), (36, .agg #[vN X, vN Y, vN Z, vS 0 A.length, .slice none 0 0, .slice none 0 0])])) (by kernel_rfl) ?_
    refine rW (m := ⟨[9, 10, 11], [], [0]⟩) (v := .agg #[vN X, vN Y, vN Z, vS 9 A.length, vS 10 0, vS 11 0]) rfl (by kernel_rfl) (stN (i := 9) (E := [some ⟨nums A, 3, false, true⟩, some ⟨nums ([] : List Int), 3, false, true⟩, some ⟨nums ([] : List Int), 3, false, true⟩]) (v1 := .agg #[vN X, vN Y, vN Z, vS 12 A.length, vS 13 0, vS 14 0]) (args := [.agg #[vN X, vN Y, vN Z, vS 0 A.length, .slice none 0 0, .slice none 0 0]]) rfl (by kernel_rfl) (Any.lay (E := [some ⟨nums A, 3, false, true⟩, some ⟨nums ([] : List Int), 3, false, true⟩, some ⟨nums ([] : List Int), 3, false, true⟩]) (N := 12) [0] (toSh_snn ((X : Nat) : Int) ((Y : Nat) : Int) ((Z : Nat) : Int) A (by first | omega | assumption)) ⟨rdF false (flatNums _ _ _ _) rfl rfl, trivial⟩ rfl ⟨clF (flatNums _ _ _ _), trivial⟩ rfl (by first | rfl | simp [mpV, mpA, mpS, mpP, renId, shift]) (by first | rfl | simp [mpV, mpA, mpS, mpP, renId, shift]) ⟨enF (flatNums _ _ _ _) (Or.inl rfl), ⟨enF (flatNums _ _ _ _) (Or.inl rfl), ⟨enF (flatNums _ _ _ _) (Or.inl rfl), trivial⟩⟩⟩) rfl (by kernel_rfl) (by kernel_rfl) (by kernel_rfl) (by kernel_rfl) (FlatH.cons (flatNums _ _ _ _) (FlatH.cons (flatNums _ _ _ _) (FlatH.cons (flatNums _ _ _ _) FlatH.nil)))) (by kernel_rfl) (NRs.all ⟨nrOf (by rfl) (nmF (flatNums _ _ _ _)), ⟨nrOf (by rfl) (nmF (flatNums _ _ _ _)), ⟨nrOf (by rfl) (nmF (flatNums _ _ _ _)), trivial⟩⟩⟩) ?_
    refine rW (m := ⟨[], [], [5, 6, 7, 9, 10, 11]⟩) (v := .bool true) rfl (by kernel_rfl) (stQ (args := [.agg #[vN X, vN Y, vN Z, vS 5 A.length, vS 6 0, vS 7 0], .agg #[vN X, vN Y, vN Z, vS 9 A.length, vS 10 0, vS 11 0]]) rfl (by kernel_rfl) (Any.lay0 [5, 6, 7, 9, 10, 11] (eqSh ((X : Nat) : Int) ((Y : Nat) : Int) ((Z : Nat) : Int) A ([] : List Int) ([] : List Int) (by first | omega | assumption | (simp; done)) (by first | omega | assumption | (simp; done)) (by first | omega | assumption | (simp; done))) ⟨rdF true (flatNums _ _ _ _) rfl rfl, ⟨rdF true (flatNums _ _ _ _) rfl rfl, ⟨rdF true (flatNums _ _ _ _) rfl rfl, ⟨rdF true (flatNums _ _ _ _) rfl rfl, ⟨rdF true (flatNums _ _ _ _) rfl rfl, ⟨rdF true (flatNums _ _ _ _) rfl rfl, trivial⟩⟩⟩⟩⟩⟩ rfl ⟨clF (flatNums _ _ _ _), ⟨clF (flatNums _ _ _ _), ⟨clF (flatNums _ _ _ _), ⟨clF (flatNums _ _ _ _), ⟨clF (flatNums _ _ _ _), ⟨clF (flatNums _ _ _ _), trivial⟩⟩⟩⟩⟩⟩ rfl (by first | rfl | simp [mpV, mpA, mpS, mpP, renId, shift]) rfl) rfl (by kernel_rfl) (by kernel_rfl)) (by kernel_rfl) nr0 ?_
    refine segEndW [39] (T1 := (mkT 40 [(39, .bool false)])) (H1 := [some ⟨nums A, 3, false, false⟩, rB [vN X, vN Y, vN Z, vS 0 A.length, .slice none 0 0, .slice none 0 0] 24, some ⟨nums A, 3, false, true⟩, some ⟨nums ([] : List Int), 3, false, true⟩, some ⟨nums ([] : List Int), 3, false, true⟩, some ⟨nums A, 3, false, true⟩, some ⟨nums ([] : List Int), 3, false, true⟩, some ⟨nums ([] : List Int), 3, false, true⟩, rB [vN X, vN Y, vN Z, vS 5 A.length, vS 6 0, vS 7 0] 27, some ⟨nums A, 3, false, true⟩, some ⟨nums ([] : List Int), 3, false, true⟩, some ⟨nums ([] : List Int), 3, false, true⟩]) (by kernel_rfl) ?_
    refine kSeq ?_
    refine cFalse (by kernel_rfl) ?_
    refine cSkip ?_
    refine kSeq ?_
    refine cSeq ?_
    refine cReg ?_
    refine segEndH [2] (T1 := (mkT 40 [(2, .bool true)])) (by kernel_rfl) ?_
    refine kSeq ?_
    refine cRet ?_
    -- end
    exact endQ (Or.inr rfl) (l := [.bool true]) [rB [vN X, vN Y, vN Z, vS 0 A.length, .slice none 0 0, .slice none 0 0] 24, some ⟨nums A, 3, false, true⟩, some ⟨nums ([] : List Int), 3, false, true⟩, some ⟨nums ([] : List Int), 3, false, true⟩, some ⟨nums A, 3, false, true⟩, some ⟨nums ([] : List Int), 3, false, true⟩, some ⟨nums ([] : List Int), 3, false, true⟩, rB [vN X, vN Y, vN Z, vS 5 A.length, vS 6 0, vS 7 0] 27, some ⟨nums A, 3, false, true⟩, some ⟨nums ([] : List Int), 3, false, true⟩, some ⟨nums ([] : List Int), 3, false, true⟩] (by kernel_rfl) (by first | rfl | kernel_rfl) rfl rfl hcl rfl
  ·
    (try simp only [Bool.not_eq_true', Bool.not_eq_false', decide_eq_true_eq, decide_eq_false_iff_not, beq_iff_eq, bne_iff_ne, beq_eq_false_iff_ne, bne_eq_false_iff_eq, ne_eq, Decidable.not_not, Bool.and_eq_true, Bool.and_eq_false_imp, Bool.or_eq_true, Bool.or_eq_false_iff, Bool.not_eq_true, Int.not_lt, Int.not_le, ge_iff_le, gt_iff_lt] at h1)
    exfalso; omega

set_option maxRecDepth 100000 in
set_option maxHeartbeats 4000000 in
theorem lawLineBound_bigB_nss (x : Int) (y : Int) (z : Int) (B : List Int) (C : List Int) (hl : 1048576 < B.length) (hm : B.length ≤ 9223372036854775807) : Sound Try.prog 5 [.agg #[vI x, vI y, vI z, .slice none 0 0, vS 0 B.length, vS 1 C.length]] [some ⟨nums B, 3, false, false⟩, some ⟨nums C, 3, false, false⟩] (.bool true) [some ⟨nums B, 3, false, false⟩, some ⟨nums C, 3, false, false⟩] := by
  refine sound_intro (C := cx) Try.func5 rfl (by kernel_rfl) fun hcl => ?_
  refine cSeq ?_
  refine cReg ?_
  refine segEnd [1] (T1 := (mkT 40 [(1, vP 2 0)])) (H1 := [some ⟨nums B, 3, false, false⟩, some ⟨nums C, 3, false, false⟩, rB [vI x, vI y, vI z, .slice none 0 0, vS 0 B.length, vS 1 C.length] 24]) (by kernel_rfl) ?_
  refine kSeq ?_
  refine cSeq ?_
  refine cReg ?_
  refine segEndH [1, 3] (T1 := (mkT 40 [(1, vP 2 0), (3, vI 1048576)])) (by kernel_rfl) ?_
  refine kSeq ?_
  refine cSeq ?_
  refine cReg ?_
  refine segH 2 (T1 := (mkT 40 [(1, vP 2 0), (3, vI 1048576), (9, .agg #[vI x, vI y, vI z, .slice none 0 0, vS 0 B.length, vS 1 C.length]), (10, vI 1048576)])) (by kernel_rfl) ?_
  refine rCall (v := vI (-1)) (args := [.agg #[vI x, vI y, vI z, .slice none 0 0, vS 0 B.length, vS 1 C.length], vI 1048576]) (by kernel_rfl) rfl (by kernel_rfl) (Sound.lay0 [0, 1] (szSh_nss_B x y z B C 1048576 (by first | omega | assumption | (simp; done) | (simp; omega)) (by first | assumption | omega | rfl | decide | exact HeapL.list _ _ _ _ | exact HeapL.nil _ _ _ | exact HeapL.all _ _ _ | (apply HeapL.lt64 <;> assumption) | (repeat' (first | assumption | apply or_lt64 | apply and_lt64 | apply andn_lt64 | apply pow_lt64 | (apply HeapL.lt64 <;> assumption)))) (by first | omega | assumption | decide)) ⟨rdF false (flatNums _ _ _ _) rfl rfl, ⟨rdF false (flatNums _ _ _ _) rfl rfl, trivial⟩⟩ rfl ⟨clF (flatNums _ _ _ _), ⟨clF (flatNums _ _ _ _), trivial⟩⟩ rfl (by first | rfl | simp [mpV, mpA, mpS, mpP, renId, shift]) rfl) ?_
  refine segEndH [1, 3] (T1 := (mkT 40 [(1, vP 2 0), (3, vI (-1))])) (by kernel_rfl) ?_
  refine kSeq ?_
  refine cSeq ?_
  refine cSeq ?_
  refine cReg ?_
  refine segEndH [1, 13] (T1 := (mkT 40 [(1, vP 2 0), (13, .bool true)])) (by kernel_rfl) ?_
  refine kSeq ?_
  refine cTrue (by kernel_rfl) ?_
  refine cSeq ?_
  refine cReg ?_
  refine segEndH [2] (T1 := (mkT 40 [(2, .bool true)])) (by kernel_rfl) ?_
  refine kSeq ?_
  refine cRet ?_
  refine kSeqR ?_
  -- end
  exact endQ (Or.inr rfl) (l := [.bool true]) [rB [vI x, vI y, vI z, .slice none 0 0, vS 0 B.length, vS 1 C.length] 24] (by kernel_rfl) (by first | rfl | kernel_rfl) rfl rfl hcl rfl

set_option maxRecDepth 100000 in
set_option maxHeartbeats 4000000 in
theorem lawLineBound_bigC_nss (x : Int) (y : Int) (z : Int) (B : List Int) (C : List Int) (h0 : B.length ≤ 1048576) (hl : 1048576 - B.length < C.length) (hm : C.length ≤ 9223372036854775807) : Sound Try.prog 5 [.agg #[vI x, vI y, vI z, .slice none 0 0, vS 0 B.length, vS 1 C.length]] [some ⟨nums B, 3, false, false⟩, some ⟨nums C, 3, false, false⟩] (.bool true) [some ⟨nums B, 3, false, false⟩, some ⟨nums C, 3, false, false⟩] := by
  refine sound_intro (C := cx) Try.func5 rfl (by kernel_rfl) fun hcl => ?_
  refine cSeq ?_
  refine cReg ?_
  refine segEnd [1] (T1 := (mkT 40 [(1, vP 2 0)])) (H1 := [some ⟨nums B, 3, false, false⟩, some ⟨nums C, 3, false, false⟩, rB [vI x, vI y, vI z, .slice none 0 0, vS 0 B.length, vS 1 C.length] 24]) (by kernel_rfl) ?_
  refine kSeq ?_
  refine cSeq ?_
  refine cReg ?_
  refine segEndH [1, 3] (T1 := (mkT 40 [(1, vP 2 0), (3, vI 1048576)])) (by kernel_rfl) ?_
  refine kSeq ?_
  refine cSeq ?_
  refine cReg ?_
  refine segH 2 (T1 := (mkT 40 [(1, vP 2 0), (3, vI 1048576), (9, .agg #[vI x, vI y, vI z, .slice none 0 0, vS 0 B.length, vS 1 C.length]), (10, vI 1048576)])) (by kernel_rfl) ?_
  refine rCall (v := vI (-1)) (args := [.agg #[vI x, vI y, vI z, .slice none 0 0, vS 0 B.length, vS 1 C.length], vI 1048576]) (by kernel_rfl) rfl (by kernel_rfl) (Sound.lay0 [0, 1] (szSh_nss_C x y z B C 1048576 (by first | assumption | omega) (by first | omega | assumption | (simp; done) | (simp; omega)) (by first | assumption | omega | rfl | decide | exact HeapL.list _ _ _ _ | exact HeapL.nil _ _ _ | exact HeapL.all _ _ _ | (apply HeapL.lt64 <;> assumption) | (repeat' (first | assumption | apply or_lt64 | apply and_lt64 | apply andn_lt64 | apply pow_lt64 | (apply HeapL.lt64 <;> assumption)))) (by first | omega | assumption | decide)) ⟨rdF false (flatNums _ _ _ _) rfl rfl, ⟨rdF false (flatNums _ _ _ _) rfl rfl, trivial⟩⟩ rfl ⟨clF (flatNums _ _ _ _), ⟨clF (flatNums _ _ _ _), trivial⟩⟩ rfl (by first | rfl | simp [mpV, mpA, mpS, mpP, renId, shift]) rfl) ?_
  refine segEndH [1, 3] (T1 := (mkT 40 [(1, vP 2 0), (3, vI (-1))])) (by kernel_rfl) ?_
  refine kSeq ?_
  refine cSeq ?_
  refine cSeq ?_
  refine cReg ?_
  refine segEndH [1, 13] (T1 := (mkT 40 [(1, vP 2 0), (13, .bool true)])) (by kernel_rfl) ?_
  refine kSeq ?_
  refine cTrue (by kernel_rfl) ?_
  refine cSeq ?_
  refine cReg ?_
  refine segEndH [2] (T1 := (mkT 40 [(2, .bool true)])) (by kernel_rfl) ?_
  refine kSeq ?_
  refine cRet ?_
  refine kSeqR ?_
  -- end
  exact endQ (Or.inr rfl) (l := [.bool true]) [rB [vI x, vI y, vI z, .slice none 0 0, vS 0 B.length, vS 1 C.length] 24] (by kernel_rfl) (by first | rfl | kernel_rfl) rfl rfl hcl rfl

set_option maxRecDepth 100000 in
set_option maxHeartbeats 4000000 in
theorem lawLineBound_no_nss (x : Int) (y : Int) (z : Int) (B : List Int) (C : List Int) (hl : B.length + C.length ≤ 1048576) (hv : valid3 x y z = false) : Sound Try.prog 5 [.agg #[vI x, vI y, vI z, .slice none 0 0, vS 0 B.length, vS 1 C.length]] [some ⟨nums B, 3, false, false⟩, some ⟨nums C, 3, false, false⟩] (.bool true) [some ⟨nums B, 3, false, false⟩, some ⟨nums C, 3, false, false⟩] := by
  refine sound_intro (C := cx) Try.func5 rfl (by kernel_rfl) fun hcl => ?_
  refine cSeq ?_
  refine cReg ?_
  refine segEnd [1] (T1 := (mkT 40 [(1, vP 2 0)])) (H1 := [some ⟨nums B, 3, false, false⟩, some ⟨nums C, 3, false, false⟩, rB [vI x, vI y, vI z, .slice none 0 0, vS 0 B.length, vS 1 C.length] 24]) (by kernel_rfl) ?_
  refine kSeq ?_
  refine cSeq ?_
  refine cReg ?_
  refine segEndH [1, 3] (T1 := (mkT 40 [(1, vP 2 0), (3, vI 1048576)])) (by kernel_rfl) ?_
  refine kSeq ?_
  refine cSeq ?_
  refine cReg ?_
  refine segH 2 (T1 := (mkT 40 [(1, vP 2 0), (3, vI 1048576), (9, .agg #[vI x, vI y, vI z, .slice none 0 0, vS 0 B.length, vS 1 C.length]), (10, vI 1048576)])) (by kernel_rfl) ?_
  refine rCall (v := vN (1048576 - B.length - C.length)) (args := [.agg #[vI x, vI y, vI z, .slice none 0 0, vS 0 B.length, vS 1 C.length], vI 1048576]) (by kernel_rfl) rfl (by kernel_rfl) (Sound.lay0 [0, 1] (szSh_nss x y z B C 1048576 (by first | omega | assumption | (simp; done) | (simp; omega)) (by first | omega | assumption | decide)) ⟨rdF false (flatNums _ _ _ _) rfl rfl, ⟨rdF false (flatNums _ _ _ _) rfl rfl, trivial⟩⟩ rfl ⟨clF (flatNums _ _ _ _), ⟨clF (flatNums _ _ _ _), trivial⟩⟩ rfl (by first | rfl | simp [mpV, mpA, mpS, mpP, renId, shift]) rfl) ?_
  refine segEndH [1, 3] (T1 := (mkT 40 [(1, vP 2 0), (3, vN (1048576 - B.length - C.length))])) (by kernel_rfl) ?_
  refine kSeq ?_
  refine cSeq ?_
  refine cSeq ?_
  refine cReg ?_
  refine segEndH [1, 13] (T1 := (mkT 40 [(1, vP 2 0), (13, .bool (decide (((1048576 - B.length - C.length : Nat) : Int) < 0)))])) (by kernel_rfl) ?_
  refine kSeq ?_
  cases h1 : (decide (((1048576 - B.length - C.length : Nat) : Int) < 0) : Bool)
  ·
    (try simp only [Bool.not_eq_true', Bool.not_eq_false', decide_eq_true_eq, decide_eq_false_iff_not, beq_iff_eq, bne_iff_ne, beq_eq_false_iff_ne, bne_eq_false_iff_eq, ne_eq, Decidable.not_not, Bool.and_eq_true, Bool.and_eq_false_imp, Bool.or_eq_true, Bool.or_eq_false_iff, Bool.not_eq_true, Int.not_lt, Int.not_le, ge_iff_le, gt_iff_lt] at h1)
    refine cFalse (by kernel_rfl) ?_
    refine cSkip ?_
    refine kSeq ?_
    refine cSeq ?_
    refine cReg ?_
    refine segH 1 (T1 := (mkT 40 [(1, vP 2 0), (13, .bool false), (15, .agg #[vI x, vI y, vI z, .slice none 0 0, vS 0 B.length, vS 1 C.length])])) (by kernel_rfl) ?_
    refine rCall (v := .agg #[vI x, vI y, vI z, vS 3 0, vS 4 B.length, vS 5 C.length]) (args := [.agg #[vI x, vI y, vI z, .slice none 0 0, vS 0 B.length, vS 1 C.length]]) (by kernel_rfl) rfl (by kernel_rfl) (Sound.lay (E := [some ⟨nums ([] : List Int), 3, false, true⟩, some ⟨nums B, 3, false, true⟩, some ⟨nums C, 3, false, true⟩]) [0, 1] (toSh_nss x y z B C (by first | omega | assumption) (by first | omega | assumption)) ⟨rdF false (flatNums _ _ _ _) rfl rfl, ⟨rdF false (flatNums _ _ _ _) rfl rfl, trivial⟩⟩ rfl ⟨clF (flatNums _ _ _ _), ⟨clF (flatNums _ _ _ _), trivial⟩⟩ rfl (by first | rfl | simp [mpV, mpA, mpS, mpP, renId, shift]) (by first | rfl | simp [mpV, mpA, mpS, mpP, renId, shift]) ⟨enF (flatNums _ _ _ _) (Or.inl rfl), ⟨enF (flatNums _ _ _ _) (Or.inl rfl), ⟨enF (flatNums _ _ _ _) (Or.inl rfl), trivial⟩⟩⟩) ?_
    refine rCall (v := .tuple #[vI 0, .bool false]) (args := [.agg #[vI x, vI y, vI z, vS 3 0, vS 4 B.length, vS 5 C.length]]) (by kernel_rfl) rfl (by kernel_rfl) (Sound.lay0 [3, 4, 5] (specLineBound_no x y z ([] : List Int) B C (by first | assumption | omega | rfl | decide | exact HeapL.list _ _ _ _ | exact HeapL.nil _ _ _ | exact HeapL.all _ _ _ | (apply HeapL.lt64 <;> assumption) | (repeat' (first | assumption | apply or_lt64 | apply and_lt64 | apply andn_lt64 | apply pow_lt64 | (apply HeapL.lt64 <;> assumption)))) (by first | omega | assumption | (simp; done)) (by first | omega | assumption | (simp; done)) (by first | omega | assumption | (simp; done))) ⟨rdF true (flatNums _ _ _ _) rfl rfl, ⟨rdF true (flatNums _ _ _ _) rfl rfl, ⟨rdF true (flatNums _ _ _ _) rfl rfl, trivial⟩⟩⟩ rfl ⟨clF (flatNums _ _ _ _), ⟨clF (flatNums _ _ _ _), ⟨clF (flatNums _ _ _ _), trivial⟩⟩⟩ rfl (by first | rfl | simp [mpV, mpA, mpS, mpP, renId, shift]) (by first | rfl | simp [mpV, mpA, mpS, mpP, renId, shift])) ?_
    refine segEnd [1, 4, 5] (T1 := (mkT 40 [(1, vP 2 0), (4, vI 0), (5, .bool false)])) (H1 := [some ⟨nums B, 3, false, false⟩, some ⟨nums C, 3, false, false⟩, rB [vI x, vI y, vI z, .slice none 0 0, vS 0 B.length, vS 1 C.length] 24, some ⟨nums ([] : List Int), 3, false, true⟩, some ⟨nums B, 3, false, true⟩, some ⟨nums C, 3, false, true⟩]) (by kernel_rfl) ?_
    refine kSeq ?_
    refine cSeq ?_
    refine cReg ?_
    refine segH 1 (T1 := (mkT 40 [(1, vP 2 0), (4, vI 0), (5, .bool false), (20, .agg #[vI x, vI y, vI z, .slice none 0 0, vS 0 B.length, vS 1 C.length])])) (by kernel_rfl) ?_
    refine rCall (v := .agg #[vI x, vI y, vI z, vS 6 0, vS 7 B.length, vS 8 C.length]) (args := [.agg #[vI x, vI y, vI z, .slice none 0 0, vS 0 B.length, vS 1 C.length]]) (by kernel_rfl) rfl (by kernel_rfl) (Sound.lay (E := [some ⟨nums ([] : List Int), 3, false, true⟩, some ⟨nums B, 3, false, true⟩, some ⟨nums C, 3, false, true⟩]) [0, 1] (toSh_nss x y z B C (by first | omega | assumption) (by first | omega | assumption)) ⟨rdF false (flatNums _ _ _ _) rfl rfl, ⟨rdF false (flatNums _ _ _ _) rfl rfl, trivial⟩⟩ rfl ⟨clF (flatNums _ _ _ _), ⟨clF (flatNums _ _ _ _), trivial⟩⟩ rfl (by first | rfl | simp [mpV, mpA, mpS, mpP, renId, shift]) (by first | rfl | simp [mpV, mpA, mpS, mpP, renId, shift]) ⟨enF (flatNums _ _ _ _) (Or.inl rfl), ⟨enF (flatNums _ _ _ _) (Or.inl rfl), ⟨enF (flatNums _ _ _ _) (Or.inl rfl), trivial⟩⟩⟩) ?_
    refine segEnd [1, 4, 5, 6] (T1 := (mkT 40 [(1, vP 2 0), (4, vI 0), (5, .bool false), (6, vP 9 0)])) (H1 := [some ⟨nums B, 3, false, false⟩, some ⟨nums C, 3, false, false⟩, rB [vI x, vI y, vI z, .slice none 0 0, vS 0 B.length, vS 1 C.length] 24, some ⟨nums ([] : List Int), 3, false, true⟩, some ⟨nums B, 3, false, true⟩, some ⟨nums C, 3, false, true⟩, some ⟨nums ([] : List Int), 3, false, true⟩, some ⟨nums B, 3, false, true⟩, some ⟨nums C, 3, false, true⟩, rB [vI x, vI y, vI z, vS 6 0, vS 7 B.length, vS 8 C.length] 27]) (by kernel_rfl) ?_
    refine kSeq ?_
    refine cSeq ?_
    refine cReg ?_
    refine segH 1 (T1 := (mkT 40 [(1, vP 2 0), (4, vI 0), (5, .bool false), (6, vP 9 0), (23, .agg #[vI x, vI y, vI z, vS 6 0, vS 7 B.length, vS 8 C.length])])) (by kernel_rfl) ?_
    refine rCall (v := .tuple #[vI 0, .bool false]) (args := [.agg #[vI x, vI y, vI z, vS 6 0, vS 7 B.length, vS 8 C.length]]) (by kernel_rfl) rfl (by kernel_rfl) (Sound.lay0 [6, 7, 8] (implLineBound_no x y z ([] : List Int) B C (by first | assumption | omega | rfl | decide | exact HeapL.list _ _ _ _ | exact HeapL.nil _ _ _ | exact HeapL.all _ _ _ | (apply HeapL.lt64 <;> assumption) | (repeat' (first | assumption | apply or_lt64 | apply and_lt64 | apply andn_lt64 | apply pow_lt64 | (apply HeapL.lt64 <;> assumption)))) (by first | omega | assumption | (simp; done)) (by first | omega | assumption | (simp; done)) (by first | omega | assumption | (simp; done))) ⟨rdF true (flatNums _ _ _ _) rfl rfl, ⟨rdF true (flatNums _ _ _ _) rfl rfl, ⟨rdF true (flatNums _ _ _ _) rfl rfl, trivial⟩⟩⟩ rfl ⟨clF (flatNums _ _ _ _), ⟨clF (flatNums _ _ _ _), ⟨clF (flatNums _ _ _ _), trivial⟩⟩⟩ rfl (by first | rfl | simp [mpV, mpA, mpS, mpP, renId, shift]) (by first | rfl | simp [mpV, mpA, mpS, mpP, renId, shift])) ?_
    refine segEndH [1, 4, 5, 6, 7, 8] (T1 := (mkT 40 [(1, vP 2 0), (4, vI 0), (5, .bool false), (6, vP 9 0), (7, vI 0), (8, .bool false)])) (by kernel_rfl) ?_
    refine kSeq ?_
    refine cSeq ?_
    refine cSeq ?_
    refine cReg ?_
    refine segEndH [1, 6, 34] (T1 := (mkT 40 [(1, vP 2 0), (6, vP 9 0), (34, .bool false)])) (by kernel_rfl) ?_
    refine kSeq ?_
    refine cFalse (by kernel_rfl) ?_
    refine cSkip ?_
    refine kSeq ?_
    refine cSeq ?_
    refine cSeq ?_
    refine cRegW (N := 13) [⟨[], [], [9]⟩, ⟨[], [], [2]⟩, ⟨[10, 11, 12], [], [0, 1]⟩, ⟨[], [], [6, 7, 8, 10, 11, 12]⟩, ⟨[], [], []⟩] 3 [10, 11, 12] (by rfl) (by rfl) (by kernel_rfl) (by kernel_rfl) (by kernel_rfl) ⟨nmsF (flatNums _ _ _ _), ⟨nmsF (flatNums _ _ _ _), ⟨nmsX (by kernel_rfl), ⟨nmsF (flatNums _ _ _ _), ⟨nmsF (flatNums _ _ _ _), ⟨nmsF (flatNums _ _ _ _), ⟨nmsF (flatNums _ _ _ _), ⟨nmsF (flatNums _ _ _ _), ⟨nmsF (flatNums _ _ _ _), ⟨nmsX (by kernel_rfl), trivial⟩⟩⟩⟩⟩⟩⟩⟩⟩⟩ ?_
    refine segWH 2 (T1 := (mkT 40 [(1, vP 2 0), (6, vP 9 0), (34, .bool false), (35, .agg #[vI x, vI y, vI z, vS 6 0, vS 7 B.length, vS 8 C.length]), (36, .agg #[vI x, vI y, vI z, .slice none 0 0, vS 0 B.length, vS 1 C.length])])) (by kernel_rfl) ?_
    refine rW (m := ⟨[10, 11, 12], [], [0, 1]⟩) (v := .agg #[vI x, vI y, vI z, vS 10 0, vS 11 B.length, vS 12 C.length]) rfl (by kernel_rfl) (stN (i := 10) (E := [some ⟨nums ([] : List Int), 3, false, true⟩, some ⟨nums B, 3, false, true⟩, some ⟨nums C, 3, false, true⟩]) (v1 := .agg #[vI x, vI y, vI z, vS 13 0, vS 14 B.length, vS 15 C.length]) (args := [.agg #[vI x, vI y, vI z, .slice none 0 0, vS 0 B.length, vS 1 C.length]]) rfl (by kernel_rfl) (Any.lay (E := [some ⟨nums ([] : List Int), 3, false, true⟩, some ⟨nums B, 3, false, true⟩, some ⟨nums C, 3, false, true⟩]) (N := 13) [0, 1] (toSh_nss x y z B C (by first | omega | assumption) (by first | omega | assumption)) ⟨rdF false (flatNums _ _ _ _) rfl rfl, ⟨rdF false (flatNums _ _ _ _) rfl rfl, trivial⟩⟩ rfl ⟨clF (flatNums _ _ _ _), ⟨clF (flatNums _ _ _ _), trivial⟩⟩ rfl (by first | rfl | simp [mpV, mpA, mpS, mpP, renId, shift]) (by first | rfl | simp [mpV, mpA, mpS, mpP, renId, shift]) ⟨enF (flatNums _ _ _ _) (Or.inl rfl), ⟨enF (flatNums _ _ _ _) (Or.inl rfl), ⟨enF (flatNums _ _ _ _) (Or.inl rfl), trivial⟩⟩⟩) rfl (by kernel_rfl) (by kernel_rfl) (by kernel_rfl) (by kernel_rfl) (FlatH.cons (flatNums _ _ _ _) (FlatH.cons (flatNums _ _ _ _) (FlatH.cons (flatNums _ _ _ _) FlatH.nil)))) (by kernel_rfl) (NRs.all ⟨nrOf (by rfl) (nmF (flatNums _ _ _ _)), ⟨nrOf (by rfl) (nmF (flatNums _ _ _ _)), ⟨nrOf (by rfl) (nmF (flatNums _ _ _ _)), trivial⟩⟩⟩) ?_
    refine rW (m := ⟨[], [], [6, 7, 8, 10, 11, 12]⟩) (v := .bool true) rfl (by kernel_rfl) (stQ (args := [.agg #[vI x, vI y, vI z, vS 6 0, vS 7 B.length, vS 8 C.length], .agg #[vI x, vI y, vI z, vS 10 0, vS 11 B.length, vS 12 C.length]]) rfl (by kernel_rfl) (Any.lay0 [6, 7, 8, 10, 11, 12] (eqSh x y z ([] : List Int) B C (by first | omega | assumption | (simp; done)) (by first | omega | assumption | (simp; done)) (by first | omega | assumption | (simp; done))) ⟨rdF true (flatNums _ _ _ _) rfl rfl, ⟨rdF true (flatNums _ _ _ _) rfl rfl, ⟨rdF true (flatNums _ _ _ _) rfl rfl, ⟨rdF true (flatNums _ _ _ _) rfl rfl, ⟨rdF true (flatNums _ _ _ _) rfl rfl, ⟨rdF true (flatNums _ _ _ _) rfl rfl, trivial⟩⟩⟩⟩⟩⟩ rfl ⟨clF (flatNums _ _ _ _), ⟨clF (flatNums _ _ _ _), ⟨clF (flatNums _ _ _ _), ⟨clF (flatNums _ _ _ _), ⟨clF (flatNums _ _ _ _), ⟨clF (flatNums _ _ _ _), trivial⟩⟩⟩⟩⟩⟩ rfl (by first | rfl | simp [mpV, mpA, mpS, mpP, renId, shift]) rfl) rfl (by kernel_rfl) (by kernel_rfl)) (by kernel_rfl) nr0 ?_
    refine segEndW [39] (T1 := (mkT 40 [(39, .bool false)])) (H1 := [some ⟨nums B, 3, false, false⟩, some ⟨nums C, 3, false, false⟩, rB [vI x, vI y, vI z, .slice none 0 0, vS 0 B.length, vS 1 C.length] 24, some ⟨nums ([] : List Int), 3, false, true⟩, some ⟨nums B, 3, false, true⟩, some ⟨nums C, 3, false, true⟩, some ⟨nums ([] : List Int), 3, false, true⟩, some ⟨nums B, 3, false, true⟩, some ⟨nums C, 3, false, true⟩, rB [vI x, vI y, vI z, vS 6 0, vS 7 B.length, vS 8 C.length] 27, some ⟨nums ([] : List Int), 3, false, true⟩, some ⟨nums B, 3, false, true⟩, some ⟨nums C, 3, false, true⟩]) (by kernel_rfl) ?_
    refine kSeq ?_
    refine cFalse (by kernel_rfl) ?_
    refine cSkip ?_
    refine kSeq ?_
    refine cSeq ?_
    refine cReg ?_
    refine segEndH [2] (T1 := (mkT 40 [(2, .bool true)])) (by kernel_rfl) ?_
    refine kSeq ?_
    refine cRet ?_
    -- end
    exact endQ (Or.inr rfl) (l := [.bool true]) [rB [vI x, vI y, vI z, .slice none 0 0, vS 0 B.length, vS 1 C.length] 24, some ⟨nums ([] : List Int), 3, false, true⟩, some ⟨nums B, 3, false, true⟩, some ⟨nums C, 3, false, true⟩, some ⟨nums ([] : List Int), 3, false, true⟩, some ⟨nums B, 3, false, true⟩, some ⟨nums C, 3, false, true⟩, rB [vI x, vI y, vI z, vS 6 0, vS 7 B.length, vS 8 C.length] 27, some ⟨nums ([] : List Int), 3, false, true⟩, some ⟨nums B, 3, false, true⟩, some ⟨nums C, 3, false, true⟩] (by kernel_rfl) (by first | rfl | kernel_rfl) rfl rfl hcl rfl
  ·
    (try simp only [Bool.not_eq_true', Bool.not_eq_false', decide_eq_true_eq, decide_eq_false_iff_not, beq_iff_eq, bne_iff_ne, beq_eq_false_iff_ne, bne_eq_false_iff_eq, ne_eq, Decidable.not_not, Bool.and_eq_true, Bool.and_eq_false_imp, Bool.or_eq_true, Bool.or_eq_false_iff, Bool.not_eq_true, Int.not_lt, Int.not_le, ge_iff_le, gt_iff_lt] at h1)
    exfalso; omega

set_option maxRecDepth 100000 in
set_option maxHeartbeats 4000000 in
theorem lawLineBound_yes_nss (X : Nat) (Y : Nat) (Z : Nat) (B : List Int) (C : List Int) (hl : B.length + C.length ≤ 1048576) (hs : Sides X Y Z) : Sound Try.prog 5 [.agg #[vN X, vN Y, vN Z, .slice none 0 0, vS 0 B.length, vS 1 C.length]] [some ⟨nums B, 3, false, false⟩, some ⟨nums C, 3, false, false⟩] (.bool true) [some ⟨nums B, 3, false, false⟩, some ⟨nums C, 3, false, false⟩] := by
  refine sound_intro (C := cx) Try.func5 rfl (by kernel_rfl) fun hcl => ?_
  refine cSeq ?_
  refine cReg ?_
  refine segEnd [1] (T1 := (mkT 40 [(1, vP 2 0)])) (H1 := [some ⟨nums B, 3, false, false⟩, some ⟨nums C, 3, false, false⟩, rB [vN X, vN Y, vN Z, .slice none 0 0, vS 0 B.length, vS 1 C.length] 24]) (by kernel_rfl) ?_
  refine kSeq ?_
  refine cSeq ?_
  refine cReg ?_
  refine segEndH [1, 3] (T1 := (mkT 40 [(1, vP 2 0), (3, vI 1048576)])) (by kernel_rfl) ?_
  refine kSeq ?_
  refine cSeq ?_
  refine cReg ?_
  refine segH 2 (T1 := (mkT 40 [(1, vP 2 0), (3, vI 1048576), (9, .agg #[vN X, vN Y, vN Z, .slice none 0 0, vS 0 B.length, vS 1 C.length]), (10, vI 1048576)])) (by kernel_rfl) ?_
  refine rCall (v := vN (1048576 - B.length - C.length)) (args := [.agg #[vN X, vN Y, vN Z, .slice none 0 0, vS 0 B.length, vS 1 C.length], vI 1048576]) (by kernel_rfl) rfl (by kernel_rfl) (Sound.lay0 [0, 1] (szSh_nss ((X : Nat) : Int) ((Y : Nat) : Int) ((Z : Nat) : Int) B C 1048576 (by first | omega | assumption | (simp; done) | (simp; omega)) (by first | omega | assumption | decide)) ⟨rdF false (flatNums _ _ _ _) rfl rfl, ⟨rdF false (flatNums _ _ _ _) rfl rfl, trivial⟩⟩ rfl ⟨clF (flatNums _ _ _ _), ⟨clF (flatNums _ _ _ _), trivial⟩⟩ rfl (by first | rfl | simp [mpV, mpA, mpS, mpP, renId, shift]) rfl) ?_
  refine segEndH [1, 3] (T1 := (mkT 40 [(1, vP 2 0), (3, vN (1048576 - B.length - C.length))])) (by kernel_rfl) ?_
  refine kSeq ?_
  refine cSeq ?_
  refine cSeq ?_
  refine cReg ?_
  refine segEndH [1, 13] (T1 := (mkT 40 [(1, vP 2 0), (13, .bool (decide (((1048576 - B.length - C.length : Nat) : Int) < 0)))])) (by kernel_rfl) ?_
  refine kSeq ?_
  cases h1 : (decide (((1048576 - B.length - C.length : Nat) : Int) < 0) : Bool)
  ·
    (try simp only [Bool.not_eq_true', Bool.not_eq_false', decide_eq_true_eq, decide_eq_false_iff_not, beq_iff_eq, bne_iff_ne, beq_eq_false_iff_ne, bne_eq_false_iff_eq, ne_eq, Decidable.not_not, Bool.and_eq_true, Bool.and_eq_false_imp, Bool.or_eq_true, Bool.or_eq_false_iff, Bool.not_eq_true, Int.not_lt, Int.not_le, ge_iff_le, gt_iff_lt] at h1)
    refine cFalse (by kernel_rfl) ?_
    refine cSkip ?_
    refine kSeq ?_
    refine cSeq ?_
    refine cReg ?_
    refine segH 1 (T1 := (mkT 40 [(1, vP 2 0), (13, .bool false), (15, .agg #[vN X, vN Y, vN Z, .slice none 0 0, vS 0 B.length, vS 1 C.length])])) (by kernel_rfl) ?_
    refine rCall (v := .agg #[vN X, vN Y, vN Z, vS 3 0, vS 4 B.length, vS 5 C.length]) (args := [.agg #[vN X, vN Y, vN Z, .slice none 0 0, vS 0 B.length, vS 1 C.length]]) (by kernel_rfl) rfl (by kernel_rfl) (Sound.lay (E := [some ⟨nums ([] : List Int), 3, false, true⟩, some ⟨nums B, 3, false, true⟩, some ⟨nums C, 3, false, true⟩]) [0, 1] (toSh_nss ((X : Nat) : Int) ((Y : Nat) : Int) ((Z : Nat) : Int) B C (by first | omega | assumption) (by first | omega | assumption)) ⟨rdF false (flatNums _ _ _ _) rfl rfl, ⟨rdF false (flatNums _ _ _ _) rfl rfl, trivial⟩⟩ rfl ⟨clF (flatNums _ _ _ _), ⟨clF (flatNums _ _ _ _), trivial⟩⟩ rfl (by first | rfl | simp [mpV, mpA, mpS, mpP, renId, shift]) (by first | rfl | simp [mpV, mpA, mpS, mpP, renId, shift]) ⟨enF (flatNums _ _ _ _) (Or.inl rfl), ⟨enF (flatNums _ _ _ _) (Or.inl rfl), ⟨enF (flatNums _ _ _ _) (Or.inl rfl), trivial⟩⟩⟩) ?_
    refine rCall (v := .tuple #[vI (lbS X Y Z ([] : List Int) B C), .bool (shadB X Y Z ([] : List Int) B C)]) (args := [.agg #[vN X, vN Y, vN Z, vS 3 0, vS 4 B.length, vS 5 C.length]]) (by kernel_rfl) rfl (by kernel_rfl) (Sound.lay0 [3, 4, 5] (specLineBound_yes X Y Z ([] : List Int) B C (by first | assumption | omega | rfl | decide | exact HeapL.list _ _ _ _ | exact HeapL.nil _ _ _ | exact HeapL.all _ _ _ | (apply HeapL.lt64 <;> assumption) | (repeat' (first | assumption | apply or_lt64 | apply and_lt64 | apply andn_lt64 | apply pow_lt64 | (apply HeapL.lt64 <;> assumption)))) (by first | omega | assumption | (simp; done)) (by first | omega | assumption | (simp; done)) (by first | omega | assumption | (simp; done))) ⟨rdF true (flatNums _ _ _ _) rfl rfl, ⟨rdF true (flatNums _ _ _ _) rfl rfl, ⟨rdF true (flatNums _ _ _ _) rfl rfl, trivial⟩⟩⟩ rfl ⟨clF (flatNums _ _ _ _), ⟨clF (flatNums _ _ _ _), ⟨clF (flatNums _ _ _ _), trivial⟩⟩⟩ rfl (by first | rfl | simp [mpV, mpA, mpS, mpP, renId, shift]) (by first | rfl | simp [mpV, mpA, mpS, mpP, renId, shift])) ?_
    refine segEnd [1, 4, 5] (T1 := (mkT 40 [(1, vP 2 0), (4, vI (lbS X Y Z ([] : List Int) B C)), (5, .bool (shadB X Y Z ([] : List Int) B C))])) (H1 := [some ⟨nums B, 3, false, false⟩, some ⟨nums C, 3, false, false⟩, rB [vN X, vN Y, vN Z, .slice none 0 0, vS 0 B.length, vS 1 C.length] 24, some ⟨nums ([] : List Int), 3, false, true⟩, some ⟨nums B, 3, false, true⟩, some ⟨nums C, 3, false, true⟩]) (by kernel_rfl) ?_
    refine kSeq ?_
    refine cSeq ?_
    refine cReg ?_
    refine segH 1 (T1 := (mkT 40 [(1, vP 2 0), (4, vI (lbS X Y Z ([] : List Int) B C)), (5, .bool (shadB X Y Z ([] : List Int) B C)), (20, .agg #[vN X, vN Y, vN Z, .slice none 0 0, vS 0 B.length, vS 1 C.length])])) (by kernel_rfl) ?_
    refine rCall (v := .agg #[vN X, vN Y, vN Z, vS 6 0, vS 7 B.length, vS 8 C.length]) (args := [.agg #[vN X, vN Y, vN Z, .slice none 0 0, vS 0 B.length, vS 1 C.length]]) (by kernel_rfl) rfl (by kernel_rfl) (Sound.lay (E := [some ⟨nums ([] : List Int), 3, false, true⟩, some ⟨nums B, 3, false, true⟩, some ⟨nums C, 3, false, true⟩]) [0, 1] (toSh_nss ((X : Nat) : Int) ((Y : Nat) : Int) ((Z : Nat) : Int) B C (by first | omega | assumption) (by first | omega | assumption)) ⟨rdF false (flatNums _ _ _ _) rfl rfl, ⟨rdF false (flatNums _ _ _ _) rfl rfl, trivial⟩⟩ rfl ⟨clF (flatNums _ _ _ _), ⟨clF (flatNums _ _ _ _), trivial⟩⟩ rfl (by first | rfl | simp [mpV, mpA, mpS, mpP, renId, shift]) (by first | rfl | simp [mpV, mpA, mpS, mpP, renId, shift]) ⟨enF (flatNums _ _ _ _) (Or.inl rfl), ⟨enF (flatNums _ _ _ _) (Or.inl rfl), ⟨enF (flatNums _ _ _ _) (Or.inl rfl), trivial⟩⟩⟩) ?_
    refine segEnd [1, 4, 5, 6] (T1 := (mkT 40 [(1, vP 2 0), (4, vI (lbS X Y Z ([] : List Int) B C)), (5, .bool (shadB X Y Z ([] : List Int) B C)), (6, vP 9 0)])) (H1 := [some ⟨nums B, 3, false, false⟩, some ⟨nums C, 3, false, false⟩, rB [vN X, vN Y, vN Z, .slice none 0 0, vS 0 B.length, vS 1 C.length] 24, some ⟨nums ([] : List Int), 3, false, true⟩, some ⟨nums B, 3, false, true⟩, some ⟨nums C, 3, false, true⟩, some ⟨nums ([] : List Int), 3, false, true⟩, some ⟨nums B, 3, false, true⟩, some ⟨nums C, 3, false, true⟩, rB [vN X, vN Y, vN Z, vS 6 0, vS 7 B.length, vS 8 C.length] 27]) (by kernel_rfl) ?_
    refine kSeq ?_
    refine cSeq ?_
    refine cReg ?_
    refine segH 1 (T1 := (mkT 40 [(1, vP 2 0), (4, vI (lbS X Y Z ([] : List Int) B C)), (5, .bool (shadB X Y Z ([] : List Int) B C)), (6, vP 9 0), (23, .agg #[vN X, vN Y, vN Z, vS 6 0, vS 7 B.length, vS 8 C.length])])) (by kernel_rfl) ?_
    refine rCall (v := .tuple #[vI (lbS X Y Z ([] : List Int) B C), .bool (shadB X Y Z ([] : List Int) B C)]) (args := [.agg #[vN X, vN Y, vN Z, vS 6 0, vS 7 B.length, vS 8 C.length]]) (by kernel_rfl) rfl (by kernel_rfl) (Sound.lay0 [6, 7, 8] (implLineBound_yes X Y Z ([] : List Int) B C (by first | assumption | omega | rfl | decide | exact HeapL.list _ _ _ _ | exact HeapL.nil _ _ _ | exact HeapL.all _ _ _ | (apply HeapL.lt64 <;> assumption) | (repeat' (first | assumption | apply or_lt64 | apply and_lt64 | apply andn_lt64 | apply pow_lt64 | (apply HeapL.lt64 <;> assumption)))) (by first | omega | assumption | (simp; done)) (by first | omega | assumption | (simp; done)) (by first | omega | assumption | (simp; done))) ⟨rdF true (flatNums _ _ _ _) rfl rfl, ⟨rdF true (flatNums _ _ _ _) rfl rfl, ⟨rdF true (flatNums _ _ _ _) rfl rfl, trivial⟩⟩⟩ rfl ⟨clF (flatNums _ _ _ _), ⟨clF (flatNums _ _ _ _), ⟨clF (flatNums _ _ _ _), trivial⟩⟩⟩ rfl (by first | rfl | simp [mpV, mpA, mpS, mpP, renId, shift]) (by first | rfl | simp [mpV, mpA, mpS, mpP, renId, shift])) ?_
    refine segEndH [1, 4, 5, 6, 7, 8] (T1 := (mkT 40 [(1, vP 2 0), (4, vI (lbS X Y Z ([] : List Int) B C)), (5, .bool (shadB X Y Z ([] : List Int) B C)), (6, vP 9 0), (7, vI (lbS X Y Z ([] : List Int) B C)), (8, .bool (shadB X Y Z ([] : List Int) B C))])) (by kernel_rfl) ?_
    refine kSeq ?_
    refine cSeq ?_
    refine cSeq ?_
    refine cReg ?_
    refine segH 2 (T1 := (mkT 40 [(1, vP 2 0), (4, vI (lbS X Y Z ([] : List Int) B C)), (5, .bool (shadB X Y Z ([] : List Int) B C)), (6, vP 9 0), (7, vI (lbS X Y Z ([] : List Int) B C)), (8, .bool (shadB X Y Z ([] : List Int) B C)), (27, vI (lbS X Y Z ([] : List Int) B C)), (28, vI (lbS X Y Z ([] : List Int) B C))])) (by kernel_rfl) ?_
    refine rOp (v := .bool false) (by kernel_rfl) (eNeS (k := .i64) (a := (lbS X Y Z ([] : List Int) B C)) (by kernel_rfl) (by kernel_rfl)) ?_
    refine segH 3 (T1 := (mkT 40 [(1, vP 2 0), (4, vI (lbS X Y Z ([] : List Int) B C)), (5, .bool (shadB X Y Z ([] : List Int) B C)), (6, vP 9 0), (7, vI (lbS X Y Z ([] : List Int) B C)), (8, .bool (shadB X Y Z ([] : List Int) B C)), (27, vI (lbS X Y Z ([] : List Int) B C)), (28, vI (lbS X Y Z ([] : List Int) B C)), (29, .bool false), (30, .bool false), (31, .bool (shadB X Y Z ([] : List Int) B C)), (32, .bool (shadB X Y Z ([] : List Int) B C))])) (by kernel_rfl) ?_
    refine rOp (v := .bool false) (by kernel_rfl) (eNeB (b := (shadB X Y Z ([] : List Int) B C)) (by kernel_rfl) (by kernel_rfl) (by kernel_rfl)) ?_
    refine segEndH [1, 6, 34] (T1 := (mkT 40 [(1, vP 2 0), (6, vP 9 0), (34, .bool false)])) (by kernel_rfl) ?_
    refine kSeq ?_
    refine cFalse (by kernel_rfl) ?_
    refine cSkip ?_
    refine kSeq ?_
    refine cSeq ?_
    refine cSeq ?_
    refine cRegW (N := 13) [⟨[], [], [9]⟩, ⟨[], [], [2]⟩, ⟨[10, 11, 12], [], [0, 1]⟩, ⟨[], [], [6, 7, 8, 10, 11, 12]⟩, ⟨[], [], []⟩] 3 [10, 11, 12] (by rfl) (by rfl) (by kernel_rfl) (by kernel_rfl) (by kernel_rfl) ⟨nmsF (flatNums _ _ _ _), ⟨nmsF (flatNums _ _ _ _), ⟨nmsX (by kernel_rfl), ⟨nmsF (flatNums _ _ _ _), ⟨nmsF (flatNums _ _ _ _), ⟨nmsF (flatNums _ _ _ _), ⟨nmsF (flatNums _ _ _ _), ⟨nmsF (flatNums _ _ _ _), ⟨nmsF (flatNums _ _ _ _), ⟨nmsX (by kernel_rfl), trivial⟩⟩⟩⟩⟩⟩⟩⟩⟩⟩ ?_
    refine segWH 2 (T1 := (mkT 40 [(1, vP 2 0), (6, vP 9 0), (34, .bool false), (35, .agg #[vN X, vN Y, vN Z, vS 6 0, vS 7 B.length, vS 8 C.length]), (36, .agg #[vN X, vN Y, vN Z, .slice none 0 0, vS 0 B.length, vS 1 C.length])])) (by kernel_rfl) ?_
    refine rW (m := ⟨[10, 11, 12], [], [0, 1]⟩) (v := .agg #[vN X, vN Y, vN Z, vS 10 0, vS 11 B.length, vS 12 C.length]) rfl (by kernel_rfl) (stN (i := 10) (E := [some ⟨nums ([] : List Int), 3, false, true⟩, some ⟨nums B, 3, false, true⟩, some ⟨nums C, 3, false, true⟩]) (v1 := .agg #[vN X, vN Y, vN Z, vS 13 0, vS 14 B.length, vS 15 C.length]) (args := [.agg #[vN X, vN Y, vN Z, .slice none 0 0, vS 0 B.length, vS 1 C.length]]) rfl (by kernel_rfl) (Any.lay (E := [some ⟨nums ([] : List Int), 3, false, true⟩, some ⟨nums B, 3, false, true⟩, some ⟨nums C, 3, false, true⟩]) (N := 13) [0, 1] (toSh_nss ((X : Nat) : Int) ((Y : Nat) : Int) ((Z : Nat) : Int) B C (by first | omega | assumption) (by first | omega | assumption)) ⟨rdF false (flatNums _ _ _ _) rfl rfl, ⟨rdF false (flatNums _ _ _ _) rfl rfl, trivial⟩⟩ rfl ⟨clF (flatNums _ _ _ _), ⟨clF (flatNums _ _ _ _), trivial⟩⟩ rfl (by first | rfl | simp [mpV, mpA, mpS, mpP, renId, shift]) (by first | rfl | simp [mpV, mpA, mpS, mpP, renId, shift]) ⟨enF (flatNums _ _ _ _) (Or.inl rfl), ⟨enF (flatNums _ _ _ _) (Or.inl rfl), ⟨enF (flatNums _ _ _ _) (Or.inl rfl), trivial⟩⟩⟩) rfl (by kernel_rfl) (by kernel_rfl) (by kernel_rfl) (by kernel_rfl) (FlatH.cons (flatNums _ _ _ _) (FlatH.cons (flatNums _ _ _ _) (FlatH.cons (flatNums _ _ _ _) FlatH.nil)))) (by kernel_rfl) (NRs.all ⟨nrOf (by rfl) (nmF (flatNums _ _ _ _)), ⟨nrOf (by rfl) (nmF (flatNums _ _ _ _)), ⟨nrOf (by rfl) (nmF (flatNums _ _ _ _)), trivial⟩⟩⟩) ?_
    refine rW (m := ⟨[], [], [6, 7, 8, 10, 11, 12]⟩) (v := .bool true) rfl (by kernel_rfl) (stQ (args := [.agg #[vN X, vN Y, vN Z, vS 6 0, vS 7 B.length, vS 8 C.length], .agg #[vN X, vN Y, vN Z, vS 10 0, vS 11 B.length, vS 12 C.length]]) rfl (by kernel_rfl) (Any.lay0 [6, 7, 8, 10, 11, 12] (eqSh ((X : Nat) : Int) ((Y : Nat) : Int) ((Z : Nat) : Int) ([] : List Int) B C (by first | omega | assumption | (simp; done)) (by first | omega | assumption | (simp; done)) (by first | omega | assumption | (simp; done))) ⟨rdF true (flatNums _ _ _ _) rfl rfl, ⟨rdF true (flatNums _ _ _ _) rfl rfl, ⟨rdF true (flatNums _ _ _ _) rfl rfl, ⟨rdF true (flatNums _ _ _ _) rfl rfl, ⟨rdF true (flatNums _ _ _ _) rfl rfl, ⟨rdF true (flatNums _ _ _ _) rfl rfl, trivial⟩⟩⟩⟩⟩⟩ rfl ⟨clF (flatNums _ _ _ _), ⟨clF (flatNums _ _ _ _), ⟨clF (flatNums _ _ _ _), ⟨clF (flatNums _ _ _ _), ⟨clF (flatNums _ _ _ _), ⟨clF (flatNums _ _ _ _), trivial⟩⟩⟩⟩⟩⟩ rfl (by first | rfl | simp [mpV, mpA, mpS, mpP, renId, shift]) rfl) rfl (by kernel_rfl) (by kernel_rfl)) (by kernel_rfl) nr0 ?_
    refine segEndW [39] (T1 := (mkT 40 [(39, .bool false)])) (H1 := [some ⟨nums B, 3, false, false⟩, some ⟨nums C, 3, false, false⟩, rB [vN X, vN Y, vN Z, .slice none 0 0, vS 0 B.length, vS 1 C.length] 24, some ⟨nums ([] : List Int), 3, false, true⟩, some ⟨nums B, 3, false, true⟩, some ⟨nums C, 3, false, true⟩, some ⟨nums ([] : List Int), 3, false, true⟩, some ⟨nums B, 3, false, true⟩, some ⟨nums C, 3, false, true⟩, rB [vN X, vN Y, vN Z, vS 6 0, vS 7 B.length, vS 8 C.length] 27, some ⟨nums ([] : List Int), 3, false, true⟩, some ⟨nums B, 3, false, true⟩, some ⟨nums C, 3, false, true⟩]) (by kernel_rfl) ?_
    refine kSeq ?_
    refine cFalse (by kernel_rfl) ?_
    refine cSkip ?_
    refine kSeq ?_
    refine cSeq ?_
    refine cReg ?_
    refine segEndH [2] (T1 := (mkT 40 [(2, .bool true)])) (by kernel_rfl) ?_
    refine kSeq ?_
    refine cRet ?_
    -- end
    exact endQ (Or.inr rfl) (l := [.bool true]) [rB [vN X, vN Y, vN Z, .slice none 0 0, vS 0 B.length, vS 1 C.length] 24, some ⟨nums ([] : List Int), 3, false, true⟩, some ⟨nums B, 3, false, true⟩, some ⟨nums C, 3, false, true⟩, some ⟨nums ([] : List Int), 3, false, true⟩, some ⟨nums B, 3, false, true⟩, some ⟨nums C, 3, false, true⟩, rB [vN X, vN Y, vN Z, vS 6 0, vS 7 B.length, vS 8 C.length] 27, some ⟨nums ([] : List Int), 3, false, true⟩, some ⟨nums B, 3, false, true⟩, some ⟨nums C, 3, false, true⟩] (by kernel_rfl) (by first | rfl | kernel_rfl) rfl rfl hcl rfl
  ·
    (try simp only [Bool.not_eq_true', Bool.not_eq_false', decide_eq_true_eq, decide_eq_false_iff_not, beq_iff_eq, bne_iff_ne, beq_eq_false_iff_ne, bne_eq_false_iff_eq, ne_eq, Decidable.not_not, Bool.and_eq_true, Bool.and_eq_false_imp, Bool.or_eq_true, Bool.or_eq_false_iff, Bool.not_eq_true, Int.not_lt, Int.not_le, ge_iff_le, gt_iff_lt] at h1)
    exfalso; omega

set_option maxRecDepth 100000 in
set_option maxHeartbeats 4000000 in
theorem lawLineBound_bigB_nsn (x : Int) (y : Int) (z : Int) (B : List Int) (hl : 1048576 < B.length) (hm : B.length ≤ 9223372036854775807) : Sound Try.prog 5 [.agg #[vI x, vI y, vI z, .slice none 0 0, vS 0 B.length, .slice none 0 0]] [some ⟨nums B, 3, false, false⟩] (.bool true) [some ⟨nums B, 3, false, false⟩] := by
  refine sound_intro (C := cx) Try.func5 rfl (by kernel_rfl) fun hcl => ?_
  refine cSeq ?_
  refine cReg ?_
  refine segEnd [1] (T1 := (mkT 40 [(1, vP 1 0)])) (H1 := [some ⟨nums B, 3, false, false⟩, rB [vI x, vI y, vI z, .slice none 0 0, vS 0 B.length, .slice none 0 0] 24]) (by kernel_rfl) ?_
  refine kSeq ?_
  refine cSeq ?_
  refine cReg ?_
  refine segEndH [1, 3] (T1 := (mkT 40 [(1, vP 1 0), (3, vI 1048576)])) (by kernel_rfl) ?_
  refine kSeq ?_
  refine cSeq ?_
  refine cReg ?_
  refine segH 2 (T1 := (mkT 40 [(1, vP 1 0), (3, vI 1048576), (9, .agg #[vI x, vI y, vI z, .slice none 0 0, vS 0 B.length, .slice none 0 0]), (10, vI 1048576)])) (by kernel_rfl) ?_
  refine rCall (v := vI (-1)) (args := [.agg #[vI x, vI y, vI z, .slice none 0 0, vS 0 B.length, .slice none 0 0], vI 1048576]) (by kernel_rfl) rfl (by kernel_rfl) (Sound.lay0 [0] (szSh_nsn_B x y z B 1048576 (by first | omega | assumption | (simp; done) | (simp; omega)) (by first | assumption | omega | rfl | decide | exact HeapL.list _ _ _ _ | exact HeapL.nil _ _ _ | exact HeapL.all _ _ _ | (apply HeapL.lt64 <;> assumption) | (repeat' (first | assumption | apply or_lt64 | apply and_lt64 | apply andn_lt64 | apply pow_lt64 | (apply HeapL.lt64 <;> assumption)))) (by first | omega | assumption | decide)) ⟨rdF false (flatNums _ _ _ _) rfl rfl, trivial⟩ rfl ⟨clF (flatNums _ _ _ _), trivial⟩ rfl (by first | rfl | simp [mpV, mpA, mpS, mpP, renId, shift]) rfl) ?_
  refine segEndH [1, 3] (T1 := (mkT 40 [(1, vP 1 0), (3, vI (-1))])) (by kernel_rfl) ?_
  refine kSeq ?_
  refine cSeq ?_
  refine cSeq ?_
  refine cReg ?_
  refine segEndH [1, 13] (T1 := (mkT 40 [(1, vP 1 0), (13, .bool true)])) (by kernel_rfl) ?_
  refine kSeq ?_
  refine cTrue (by kernel_rfl) ?_
  refine cSeq ?_
  refine cReg ?_
  refine segEndH [2] (T1 := (mkT 40 [(2, .bool true)])) (by kernel_rfl) ?_
  refine kSeq ?_
  refine cRet ?_
  refine kSeqR ?_
  -- end
  exact endQ (Or.inr rfl) (l := [.bool true]) [rB [vI x, vI y, vI z, .slice none 0 0, vS 0 B.length, .slice none 0 0] 24] (by kernel_rfl) (by first | rfl | kernel_rfl) rfl rfl hcl rfl

set_option maxRecDepth 100000 in
set_option maxHeartbeats 4000000 in
theorem lawLineBound_no_nsn (x : Int) (y : Int) (z : Int) (B : List Int) (hl : B.length ≤ 1048576) (hv : valid3 x y z = false) : Sound Try.prog 5 [.agg #[vI x, vI y, vI z, .slice none 0 0, vS 0 B.length, .slice none 0 0]] [some ⟨nums B, 3, false, false⟩] (.bool true) [some ⟨nums B, 3, false, false⟩] := by
  refine sound_intro (C := cx) Try.func5 rfl (by kernel_rfl) fun hcl => ?_
  refine cSeq ?_
  refine cReg ?_
  refine segEnd [1] (T1 := (mkT 40 [(1, vP 1 0)])) (H1 := [some ⟨nums B, 3, false, false⟩, rB [vI x, vI y, vI z, .slice none 0 0, vS 0 B.length, .slice none 0 0] 24]) (by kernel_rfl) ?_
  refine kSeq ?_
  refine cSeq ?_
  refine cReg ?_
  refine segEndH [1, 3] (T1 := (mkT 40 [(1, vP 1 0), (3, vI 1048576)])) (by kernel_rfl) ?_
  refine kSeq ?_
  refine cSeq ?_
  refine cReg ?_
  refine segH 2 (T1 := (mkT 40 [(1, vP 1 0), (3, vI 1048576), (9, .agg #[vI x, vI y, vI z, .slice none 0 0, vS 0 B.length, .slice none 0 0]), (10, vI 1048576)])) (by kernel_rfl) ?_
  refine rCall (v := vN (1048576 - B.length)) (args := [.agg #[vI x, vI y, vI z, .slice none 0 0, vS 0 B.length, .slice none 0 0], vI 1048576]) (by kernel_rfl) rfl (by kernel_rfl) (Sound.lay0 [0] (szSh_nsn x y z B 1048576 (by first | omega | assumption | (simp; done) | (simp; omega)) (by first | omega | assumption | decide)) ⟨rdF false (flatNums _ _ _ _) rfl rfl, trivial⟩ rfl ⟨clF (flatNums _ _ _ _), trivial⟩ rfl (by first | rfl | simp [mpV, mpA, mpS, mpP, renId, shift]) rfl) ?_
  refine segEndH [1, 3] (T1 := (mkT 40 [(1, vP 1 0), (3, vN (1048576 - B.length))])) (by kernel_rfl) ?_
  refine kSeq ?_
  refine cSeq ?_
  refine cSeq ?_
  refine cReg ?_
  refine segEndH [1, 13] (T1 := (mkT 40 [(1, vP 1 0), (13, .bool (decide (((1048576 - B.length : Nat) : Int) < 0)))])) (by kernel_rfl) ?_
  refine kSeq ?_
  cases h1 : (decide (((1048576 - B.length : Nat) : Int) < 0) : Bool)
  ·
    (try simp only [Bool.not_eq_true', Bool.not_eq_false', decide_eq_true_eq, decide_eq_false_iff_not, beq_iff_eq, bne_iff_ne, beq_eq_false_iff_ne, bne_eq_false_iff_eq, ne_eq, Decidable.not_not, Bool.and_eq_true, Bool.and_eq_false_imp, Bool.or_eq_true, Bool.or_eq_false_iff, Bool.not_eq_true, Int.not_lt, Int.not_le, ge_iff_le, gt_iff_lt] at h1)
    refine cFalse (by kernel_rfl) ?_
    refine cSkip ?_
    refine kSeq ?_
    refine cSeq ?_
    refine cReg ?_
    refine segH 1 (T1 := (mkT 40 [(1, vP 1 0), (13, .bool false), (15, .agg #[vI x, vI y, vI z, .slice none 0 0, vS 0 B.length, .slice none 0 0])])) (by kernel_rfl) ?_
    refine rCall (v := .agg #[vI x, vI y, vI z, vS 2 0, vS 3 B.length, vS 4 0]) (args := [.agg #[vI x, vI y, vI z, .slice none 0 0, vS 0 B.length, .slice none 0 0]]) (by kernel_rfl) rfl (by kernel_rfl) (Sound.lay (E := [some ⟨nums ([] : List Int), 3, false, true⟩, some ⟨nums B, 3, false, true⟩, some ⟨nums ([] : List Int), 3, false, true⟩]) [0] (toSh_nsn x y z B (by first | omega | assumption)) ⟨rdF false (flatNums _ _ _ _) rfl rfl, trivial⟩ rfl ⟨clF (flatNums _ _ _ _), trivial⟩ rfl (by first | rfl | simp [mpV, mpA, mpS, mpP, renId, shift]) (by first | rfl | simp [mpV, mpA, mpS, mpP, renId, shift]) ⟨enF (flatNums _ _ _ _) (Or.inl rfl), ⟨enF (flatNums _ _ _ _) (Or.inl rfl), ⟨enF (flatNums _ _ _ _) (Or.inl rfl), trivial⟩⟩⟩) ?_
    refine rCall (v := .tuple #[vI 0, .bool false]) (args := [.agg #[vI x, vI y, vI z, vS 2 0, vS 3 B.length, vS 4 0]]) (by kernel_rfl) rfl (by kernel_rfl) (Sound.lay0 [2, 3, 4] (specLineBound_no x y z ([] : List Int) B ([] : List Int) (by first | assumption | omega | rfl | decide | exact HeapL.list _ _ _ _ | exact HeapL.nil _ _ _ | exact HeapL.all _ _ _ | (apply HeapL.lt64 <;> assumption) | (repeat' (first | assumption | apply or_lt64 | apply and_lt64 | apply andn_lt64 | apply pow_lt64 | (apply HeapL.lt64 <;> assumption)))) (by first | omega | assumption | (simp; done)) (by first | omega | assumption | (simp; done)) (by first | omega | assumption | (simp; done))) ⟨rdF true (flatNums _ _ _ _) rfl rfl, ⟨rdF true (flatNums _ _ _ _) rfl rfl, ⟨rdF true (flatNums _ _ _ _) rfl rfl, trivial⟩⟩⟩ rfl ⟨clF (flatNums _ _ _ _), ⟨clF (flatNums _ _ _ _), ⟨clF (flatNums _ _ _ _), trivial⟩⟩⟩ rfl (by first | rfl | simp [mpV, mpA, mpS, mpP, renId, shift]) (by first | rfl | simp [mpV, mpA, mpS, mpP, renId, shift])) ?_
    refine segEnd [1, 4, 5] (T1 := (mkT 40 [(1, vP 1 0), (4, vI 0), (5, .bool false)])) (H1 := [some ⟨nums B, 3, false, false⟩, rB [vI x, vI y, vI z, .slice none 0 0, vS 0 B.length, .slice none 0 0] 24, some ⟨nums ([] : List Int), 3, false, true⟩, some ⟨nums B, 3, false, true⟩, some ⟨nums ([] : List Int), 3, false, true⟩]) (by kernel_rfl) ?_
    refine kSeq ?_
    refine cSeq ?_
    refine cReg ?_
    refine segH 1 (T1 := (mkT 40 [(1, vP 1 0), (4, vI 0), (5, .bool false), (20, .agg #[vI x, vI y, vI z, .slice none 0 0, vS 0 B.length, .slice none 0 0])])) (by kernel_rfl) ?_
    refine rCall (v := .agg #[vI x, vI y, vI z, vS 5 0, vS 6 B.length, vS 7 0]) (args := [.agg #[vI x, vI y, vI z, .slice none 0 0, vS 0 B.length, .slice none 0 0]]) (by kernel_rfl) rfl (by kernel_rfl) (Sound.lay (E := [some ⟨nums ([] : List Int), 3, false, true⟩, some ⟨nums B, 3, false, true⟩, some ⟨nums ([] : List Int), 3, false, true⟩]) [0] (toSh_nsn x y z B (by first | omega | assumption)) ⟨rdF false (flatNums _ _ _ _) rfl rfl, trivial⟩ rfl ⟨clF (flatNums _ _ _ _), trivial⟩ rfl (by first | rfl | simp [mpV, mpA, mpS, mpP, renId, shift]) (by first | rfl | simp [mpV, mpA, mpS, mpP, renId, shift]) ⟨enF (flatNums _ _ _ _) (Or.inl rfl), ⟨enF (flatNums _ _ _ _) (Or.inl rfl), ⟨enF (flatNums _ _ _ _) (Or.inl rfl), trivial⟩⟩⟩) ?_
    refine segEnd [1, 4, 5, 6] (T1 := (mkT 40 [(1, vP 1 0), (4, vI 0), (5, .bool false), (6, vP 8 0)])) (H1 := [some ⟨nums B, 3, false, false⟩, rB [vI x, vI y, vI z, .slice none 0 0, vS 0 B.length, .slice none 0 0] 24, some ⟨nums ([] : List Int), 3, false, true⟩, some ⟨nums B, 3, false, true⟩, some ⟨nums ([] : List Int), 3, false, true⟩, some ⟨nums ([] : List Int), 3, false, true⟩, some ⟨nums B, 3, false, true⟩, some ⟨nums ([] : List Int), 3, false, true⟩, rB [vI x, vI y, vI z, vS 5 0, vS 6 B.length, vS 7 0] 27]) (by kernel_rfl) ?_
    refine kSeq ?_
    refine cSeq ?_
    refine cReg ?_
    refine segH 1 (T1 := (mkT 40 [(1, vP 1 0), (4, vI 0), (5, .bool false), (6, vP 8 0), (23, .agg #[vI x, vI y, vI z, vS 5 0, vS 6 B.length, vS 7 0])])) (by kernel_rfl) ?_
    refine rCall (v := .tuple #[vI 0, .bool false]) (args := [.agg #[vI x, vI y, vI z, vS 5 0, vS 6 B.length, vS 7 0]]) (by kernel_rfl) rfl (by kernel_rfl) (Sound.lay0 [5, 6, 7] (implLineBound_no x y z ([] : List Int) B ([] : List Int) (by first | assumption | omega | rfl | decide | exact HeapL.list _ _ _ _ | exact HeapL.nil _ _ _ | exact HeapL.all _ _ _ | (apply HeapL.lt64 <;> assumption) | (repeat' (first | assumption | apply or_lt64 | apply and_lt64 | apply andn_lt64 | apply pow_lt64 | (apply HeapL.lt64 <;> assumption)))) (by first | omega | assumption | (simp; done)) (by first | omega | assumption | (simp; done)) (by first | omega | assumption | (simp; done))) ⟨rdF true (flatNums _ _ _ _) rfl rfl, ⟨rdF true (flatNums _ _ _ _) rfl rfl, ⟨rdF true (flatNums _ _ _ _) rfl rfl, trivial⟩⟩⟩ rfl ⟨clF (flatNums _ _ _ _), ⟨clF (flatNums _ _ _ _), ⟨clF (flatNums _ _ _ _), trivial⟩⟩⟩ rfl (by first | rfl | simp [mpV, mpA, mpS, mpP, renId, shift]) (by first | rfl | simp [mpV, mpA, mpS, mpP, renId, shift])) ?_
    refine segEndH [1, 4, 5, 6, 7, 8] (T1 := (mkT 40 [(1, vP 1 0), (4, vI 0), (5, .bool false), (6, vP 8 0), (7, vI 0), (8, .bool false)])) (by kernel_rfl) ?_
    refine kSeq ?_
    refine cSeq ?_
    refine cSeq ?_
    refine cReg ?_
    refine segEndH [1, 6, 34] (T1 := (mkT 40 [(1, vP 1 0), (6, vP 8 0), (34, .bool false)])) (by kernel_rfl) ?_
    refine kSeq ?_
    refine cFalse (by kernel_rfl) ?_
    refine cSkip ?_
    refine kSeq ?_
    refine cSeq ?_
    refine cSeq ?_
    refine cRegW (N := 12) [⟨[], [], [8]⟩, ⟨[], [], [1]⟩, ⟨[9, 10, 11], [], [0]⟩, ⟨[], [], [5, 6, 7, 9, 10, 11]⟩, ⟨[], [], []⟩] 3 [9, 10, 11] (by rfl) (by rfl) (by kernel_rfl) (by kernel_rfl) (by kernel_rfl) ⟨nmsF (flatNums _ _ _ _), ⟨nmsX (by kernel_rfl), ⟨nmsF (flatNums _ _ _ _), ⟨nmsF (flatNums _ _ _ _), ⟨nmsF (flatNums _ _ _ _), ⟨nmsF (flatNums _ _ _ _), ⟨nmsF (flatNums _ _ _ _), ⟨nmsF (flatNums _ _ _ _), ⟨nmsX (by kernel_rfl), trivial⟩⟩⟩⟩⟩⟩⟩⟩⟩ ?_
    refine segWH 2 (T1 := (mkT 40 [(1, vP 1 0), (6, vP 8 0), (34, .bool false), (35, .agg #[vI x, vI y, vI z, vS 5 0, vS 6 B.length, vS 7 0]), (36, .agg #[vI x, vI y, vI z, .slice none 0 0, vS 0 B.length, .slice none 0 0])])) (by kernel_rfl) ?_
    refine rW (m := ⟨[9, 10, 11], [], [0]⟩) (v := .agg #[vI x, vI y, vI z, vS 9 0, vS 10 B.length, vS 11 0]) rfl (by kernel_rfl) (stN (i := 9) (E := [some ⟨nums ([] : List Int), 3, false, true⟩, some ⟨nums B, 3, false, true⟩, some ⟨nums ([] : List Int), 3, false, true⟩]) (v1 := .agg #[vI x, vI y, vI z, vS 12 0, vS 13 B.length, vS 14 0]) (args := [.agg #[vI x, vI y, vI z, .slice none 0 0, vS 0 B.length, .slice none 0 0]]) rfl (by kernel_rfl) (Any.lay (E := [some ⟨nums ([] : List Int), 3, false, true⟩, some ⟨nums B, 3, false, true⟩, some ⟨nums ([] : List Int), 3, false, true⟩]) (N := 12) [0] (toSh_nsn x y z B (by first | omega | assumption)) ⟨rdF false (flatNums _ _ _ _) rfl rfl, trivial⟩ rfl ⟨clF (flatNums _ _ _ _), trivial⟩ rfl (by first | rfl | simp [mpV, mpA, mpS, mpP, renId, shift]) (by first | rfl | simp [mpV, mpA, mpS, mpP, renId, shift]) ⟨enF (flatNums _ _ _ _) (Or.inl rfl), ⟨enF (flatNums _ _ _ _) (Or.inl rfl), ⟨enF (flatNums _ _ _ _) (Or.inl rfl), trivial⟩⟩⟩) rfl (by kernel_rfl) (by kernel_rfl) (by kernel_rfl) (by kernel_rfl) (FlatH.cons (flatNums _ _ _ _) (FlatH.cons (flatNums _ _ _ _) (FlatH.cons (flatNums _ _ _ _) FlatH.nil)))) (by kernel_rfl) (NRs.all ⟨nrOf (by rfl) (nmF (flatNums _ _ _ _)), ⟨nrOf (by rfl) (nmF (flatNums _ _ _ _)), ⟨nrOf (by rfl) (nmF (flatNums _ _ _ _)), trivial⟩⟩⟩) ?_
    refine rW (m := ⟨[], [], [5, 6, 7, 9, 10, 11]⟩) (v := .bool true) rfl (by kernel_rfl) (stQ (args := [.agg #[vI x, vI y, vI z, vS 5 0, vS 6 B.length, vS 7 0], .agg #[vI x, vI y, vI z, vS 9 0, vS 10 B.length, vS 11 0]]) rfl (by kernel_rfl) (Any.lay0 [5, 6, 7, 9, 10, 11] (eqSh x y z ([] : List Int) B ([] : List Int) (by first | omega | assumption | (simp; done)) (by first | omega | assumption | (simp; done)) (by first | omega | assumption | (simp; done))) ⟨rdF true (flatNums _ _ _ _) rfl rfl, ⟨rdF true (flatNums _ _ _ _) rfl rfl, ⟨rdF true (flatNums _ _ _ _) rfl rfl, ⟨rdF true (flatNums _ _ _ _) rfl rfl, ⟨rdF true (flatNums _ _ _ _) rfl rfl, ⟨rdF true (flatNums _ _ _ _) rfl rfl, trivial⟩⟩⟩⟩⟩⟩ rfl ⟨clF (flatNums _ _ _ _), ⟨clF (flatNums _ _ _ _), ⟨clF (flatNums _ _ _ _), ⟨clF (flatNums _ _ _ _), ⟨clF (flatNums _ _ _ _), ⟨clF (flatNums _ _ _ _), trivial⟩⟩⟩⟩⟩⟩ rfl (by first | rfl | simp [mpV, mpA, mpS, mpP, renId, shift]) rfl) rfl (by kernel_rfl) (by kernel_rfl)) (by kernel_rfl) nr0 ?_
    refine segEndW [39] (T1 := (mkT 40 [(39, .bool false)])) (H1 := [some ⟨nums B, 3, false, false⟩, rB [vI x, vI y, vI z, .slice none 0 0, vS 0 B.length, .slice none 0 0] 24, some ⟨nums ([] : List Int), 3, false, true⟩, some ⟨nums B, 3, false, true⟩, some ⟨nums ([] : List Int), 3, false, true⟩, some ⟨nums ([] : List Int), 3, false, true⟩, some ⟨nums B, 3, false, true⟩, some ⟨nums ([] : List Int), 3, false, true⟩, rB [vI x, vI y, vI z, vS 5 0, vS 6 B.length, vS 7 0] 27, some ⟨nums ([] : List Int), 3, false, true⟩, some ⟨nums B, 3, false, true⟩, some ⟨nums ([] : List Int), 3, false, true⟩]) (by kernel_rfl) ?_
    refine kSeq ?_
    refine cFalse (by kernel_rfl) ?_
    refine cSkip ?_
    refine kSeq ?_
    refine cSeq ?_
    refine cReg ?_
    refine segEndH [2] (T1 := (mkT 40 [(2, .bool true)])) (by kernel_rfl) ?_
    refine kSeq ?_
    refine cRet ?_
    -- end
    exact endQ (Or.inr rfl) (l := [.bool true]) [rB [vI x, vI y, vI z, .slice none 0 0, vS 0 B.length, .slice none 0 0] 24, some ⟨nums ([] : List Int), 3, false, true⟩, some ⟨nums B, 3, false, true⟩, some ⟨nums ([] : List Int), 3, false, true⟩, some ⟨nums ([] : List Int), 3, false, true⟩, some ⟨nums B, 3, false, true⟩, some ⟨nums ([] : List Int), 3, false, true⟩, rB [vI x, vI y, vI z, vS 5 0, vS 6 B.length, vS 7 0] 27, some ⟨nums ([] : List Int), 3, false, true⟩, some ⟨nums B, 3, false, true⟩, some ⟨nums ([] : List Int), 3, false, true⟩] (by kernel_rfl) (by first | rfl | kernel_rfl) rfl rfl hcl rfl
  ·
    (try simp only [Bool.not_eq_true', Bool.not_eq_false', decide_eq_true_eq, decide_eq_false_iff_not, beq_iff_eq, bne_iff_ne, beq_eq_false_iff_ne, bne_eq_false_iff_eq, ne_eq, Decidable.not_not, Bool.and_eq_true, Bool.and_eq_false_imp, Bool.or_eq_true, Bool.or_eq_false_iff, Bool.not_eq_true, Int.not_lt, Int.not_le, ge_iff_le, gt_iff_lt] at h1)
    exfalso; omega

set_option maxRecDepth 100000 in
set_option maxHeartbeats 4000000 in
theorem lawLineBound_yes_nsn (X : Nat) (Y : Nat) (Z : Nat) (B : List Int) (hl : B.length ≤ 1048576) (hs : Sides X Y Z) : Sound Try.prog 5 [.agg #[vN X, vN Y, vN Z, .slice none 0 0, vS 0 B.length, .slice none 0 0]] [some ⟨nums B, 3, false, false⟩] (.bool true) [some ⟨nums B, 3, false, false⟩] := by
  refine sound_intro (C := cx) Try.func5 rfl (by kernel_rfl) fun hcl => ?_
  refine cSeq ?_
  refine cReg ?_
  refine segEnd [1] (T1 := (mkT 40 [(1, vP 1 0)])) (H1 := [some ⟨nums B, 3, false, false⟩, rB [vN X, vN Y, vN Z, .slice none 0 0, vS 0 B.length, .slice none 0 0] 24]) (by kernel_rfl) ?_
  refine kSeq ?_
  refine cSeq ?_
  refine cReg ?_
  refine segEndH [1, 3] (T1 := (mkT 40 [(1, vP 1 0), (3, vI 1048576)])) (by kernel_rfl) ?_
  refine kSeq ?_
  refine cSeq ?_
  refine cReg ?_
  refine segH 2 (T1 := (mkT 40 [(1, vP 1 0), (3, vI 1048576), (9, .agg #[vN X, vN Y, vN Z, .slice none 0 0, vS 0 B.length, .slice none 0 0]), (10, vI 1048576)])) (by kernel_rfl) ?_
  refine rCall (v := vN (1048576 - B.length)) (args := [.agg #[vN X, vN Y, vN Z, .slice none 0 0, vS 0 B.length, .slice none 0 0], vI 1048576]) (by kernel_rfl) rfl (by kernel_rfl) (Sound.lay0 [0] (szSh_nsn ((X : Nat) : Int) ((Y : Nat) : Int) ((Z : Nat) : Int) B 1048576 (by first | omega | assumption | (simp; done) | (simp; omega)) (by first | omega | assumption | decide)) ⟨rdF false (flatNums _ _ _ _) rfl rfl, trivial⟩ rfl ⟨clF (flatNums _ _ _ _), trivial⟩ rfl (by first | rfl | simp [mpV, mpA, mpS, mpP, renId, shift]) rfl) ?_
  refine segEndH [1, 3] (T1 := (mkT 40 [(1, vP 1 0), (3, vN (1048576 - B.length))])) (by kernel_rfl) ?_
  refine kSeq ?_
  refine cSeq ?_
  refine cSeq ?_
  refine cReg ?_
  refine segEndH [1, 13] (T1 := (mkT 40 [(1, vP 1 0), (13, .bool (decide (((1048576 - B.length : Nat) : Int) < 0)))])) (by kernel_rfl) ?_
  refine kSeq ?_
  cases h1 : (decide (((1048576 - B.length : Nat) : Int) < 0) : Bool)
  ·
    (try simp only [Bool.not_eq_true', Bool.not_eq_false', decide_eq_true_eq, decide_eq_false_iff_not, beq_iff_eq, bne_iff_ne, beq_eq_false_iff_ne, bne_eq_false_iff_eq, ne_eq, Decidable.not_not, Bool.and_eq_true, Bool.and_eq_false_imp, Bool.or_eq_true, Bool.or_eq_false_iff, Bool.not_eq_true, Int.not_lt, Int.not_le, ge_iff_le, gt_iff_lt] at h1)
    refine cFalse (by kernel_rfl) ?_
    refine cSkip ?_
    refine kSeq ?_
    refine cSeq ?_
    refine cReg ?_
    refine segH 1 (T1 := (mkT 40 [(1, vP 1 0), (13, .bool false), (15, .agg #[vN X, vN Y, vN Z, .slice none 0 0, vS 0 B.length, .slice none 0 0])])) (by kernel_rfl) ?_
    refine rCall (v := .agg #[vN X, vN Y, vN Z, vS 2 0, vS 3 B.length, vS 4 0]) (args := [.agg #[vN X, vN Y, vN Z, .slice none 0 0, vS 0 B.length, .slice none 0 0]]) (by kernel_rfl) rfl (by kernel_rfl) (Sound.lay (E := [some ⟨nums ([] : List Int), 3, false, true⟩, some ⟨nums B, 3, false, true⟩, some ⟨nums ([] : List Int), 3, false, true⟩]) [0] (toSh_nsn ((X : Nat) : Int) ((Y : Nat) : Int) ((Z : Nat) : Int) B (by first | omega | assumption)) ⟨rdF false (flatNums _ _ _ _) rfl rfl, trivial⟩ rfl ⟨clF (flatNums _ _ _ _), trivial⟩ rfl (by first | rfl | simp [mpV, mpA, mpS, mpP, renId, shift]) (by first | rfl | simp [mpV, mpA, mpS, mpP, renId, shift]) ⟨enF (flatNums _ _ _ _) (Or.inl rfl), ⟨enF (flatNums _ _ _ _) (Or.inl rfl), ⟨enF (flatNums _ _ _ _) (Or.inl rfl), trivial⟩⟩⟩) ?_
    refine rCall (v := .tuple #[vI (lbS X Y Z ([] : List Int) B ([] : List Int)), .bool (shadB X Y Z ([] : List Int) B ([] : List Int))]) (args := [.agg #[vN X, vN Y, vN Z, vS 2 0, vS 3 B.length, vS 4 0]]) (by kernel_rfl) rfl (by kernel_rfl) (Sound.lay0 [2, 3, 4] (specLineBound_yes X Y Z ([] : List Int) B ([] : List Int) (by first | assumption | omega | rfl | decide | exact HeapL.list _ _ _ _ | exact HeapL.nil _ _ _ | exact HeapL.all _ _ _ | (apply HeapL.lt64 <;> assumption) | (repeat' (first | assumption | apply or_lt64 | apply and_lt64 | apply andn_lt64 | apply pow_lt64 | (apply HeapL.lt64 <;> assumption)))) (by first | omega | assumption | (simp; done)) (by first | omega | assumption | (simp; done)) (by first | omega | assumption | (simp; done))) ⟨rdF true (flatNums _ _ _ _) rfl rfl, ⟨rdF true (flatNums _ _ _ _) rfl rfl, ⟨rdF true (flatNums _ _ _ _) rfl rfl, trivial⟩⟩⟩ rfl ⟨clF (flatNums _ _ _ _), ⟨clF (flatNums _ _ _ _), ⟨clF (flatNums _ _ _ _), trivial⟩⟩⟩ rfl (by first | rfl | simp [mpV, mpA, mpS, mpP, renId, shift]) (by first | rfl | simp [mpV, mpA, mpS, mpP, renId, shift])) ?_
    refine segEnd [1, 4, 5] (T1 := (mkT 40 [(1, vP 1 0), (4, vI (lbS X Y Z ([] : List Int) B ([] : List Int))), (5, .bool (shadB X Y Z ([] : List Int) B ([] : List Int)))])) (H1 := [some ⟨nums B, 3, false, false⟩, rB [vN X, vN Y, vN Z, .slice none 0 0, vS 0 B.length, .slice none 0 0] 24, some ⟨nums ([] : List Int), 3, false, true⟩, some ⟨nums B, 3, false, true⟩, some ⟨nums ([] : List Int), 3, false, true⟩]) (by kernel_rfl) ?_
    refine kSeq ?_
    refine cSeq ?_
    refine cReg ?_
    refine segH 1 (T1 := (mkT 40 [(1, vP 1 0), (4, vI (lbS X Y Z ([] : List Int) B ([] : List Int))), (5, .bool (shadB X Y Z ([] : List Int) B ([] : List Int))), (20, .agg #[vN X, vN Y, vN Z, .slice none 0 0, vS 0 B.length, .slice none 0 0])])) (by kernel_rfl) ?_
    refine rCall (v := .agg #[vN X, vN Y, vN Z, vS 5 0, vS 6 B.length, vS 7 0]) (args := [.agg #[vN X, vN Y, vN Z, .slice none 0 0, vS 0 B.length, .slice none 0 0]]) (by kernel_rfl) rfl (by kernel_rfl) (Sound.lay (E := [some ⟨nums ([] : List Int), 3, false, true⟩, some ⟨nums B, 3, false, true⟩, some ⟨nums ([] : List Int), 3, false, true⟩]) [0] (toSh_nsn ((X : Nat) : Int) ((Y : Nat) : Int) ((Z : Nat) : Int) B (by first | omega | assumption)) ⟨rdF false (flatNums _ _ _ _) rfl rfl, trivial⟩ rfl ⟨clF (flatNums _ _ _ _), trivial⟩ rfl (by first | rfl | simp [mpV, mpA, mpS, mpP, renId, shift]) (by first | rfl | simp [mpV, mpA, mpS, mpP, renId, shift]) ⟨enF (flatNums _ _ _ _) (Or.inl rfl), ⟨enF (flatNums _ _ _ _) (Or.inl rfl), ⟨enF (flatNums _ _ _ _) (Or.inl rfl), trivial⟩⟩⟩) ?_
    refine segEnd [1, 4, 5, 6] (T1 := (mkT 40 [(1, vP 1 0), (4, vI (lbS X Y Z ([] : List Int) B ([] : List Int))), (5, .bool (shadB X Y Z ([] : List Int) B ([] : List Int))), (6, vP 8 0)])) (H1 := [some ⟨nums B, 3, false, false⟩, rB [vN X, vN Y, vN Z, .slice none 0 0, vS 0 B.length, .slice none 0 0] 24, some ⟨nums ([] : List Int), 3, false, true⟩, some ⟨nums B, 3, false, true⟩, some ⟨nums ([] : List Int), 3, false, true⟩, some ⟨nums ([] : List Int), 3, false, true⟩, some ⟨nums B, 3, false, true⟩, some ⟨nums ([] : List Int), 3, false, true⟩, rB [vN X, vN Y, vN Z, vS 5 0, vS 6 B.length, vS 7 0] 27]) (by kernel_rfl) ?_
    refine kSeq ?_
    refine cSeq ?_
    refine cReg ?_
    refine segH 1 (T1 := (mkT 40 [(1, vP 1 0), (4, vI (lbS X Y Z ([] : List Int) B ([] : List Int))), (5, .bool (shadB X Y Z ([] : List Int) B ([] : List Int))), (6, vP 8 0), (23, .agg #[vN X, vN Y, vN Z, vS 5 0, vS 6 B.length, vS 7 0])])) (by kernel_rfl) ?_
    refine rCall (v := .tuple #[vI (lbS X Y Z ([] : List Int) B ([] : List Int)), .bool (shadB X Y Z ([] : List Int) B ([] : List Int))]) (args := [.agg #[vN X, vN Y, vN Z, vS 5 0, vS 6 B.length, vS 7 0]]) (by kernel_rfl) rfl (by kernel_rfl) (Sound.lay0 [5, 6, 7] (implLineBound_yes X Y Z ([] : List Int) B ([] : List Int) (by first | assumption | omega | rfl | decide | exact HeapL.list _ _ _ _ | exact HeapL.nil _ _ _ | exact HeapL.all _ _ _ | (apply HeapL.lt64 <;> assumption) | (repeat' (first | assumption | apply or_lt64 | apply and_lt64 | apply andn_lt64 | apply pow_lt64 | (apply HeapL.lt64 <;> assumption)))) (by first | omega | assumption | (simp; done)) (by first | omega | assumption | (simp; done)) (by first | omega | assumption | (simp; done))) ⟨rdF true (flatNums _ _ _ _) rfl rfl, ⟨rdF true (flatNums _ _ _ _) rfl rfl, ⟨rdF true (flatNums _ _ _ _) rfl rfl, trivial⟩⟩⟩ rfl ⟨clF (flatNums _ _ _ _), ⟨clF (flatNums _ _ _ _), ⟨clF (flatNums _ _ _ _), trivial⟩⟩⟩ rfl (by first | rfl | simp [mpV, mpA, mpS, mpP, renId, shift]) (by first | rfl | simp [mpV, mpA, mpS, mpP, renId, shift])) ?_
    refine segEndH [1, 4, 5, 6, 7, 8] (T1 := (mkT 40 [(1, vP 1 0), (4, vI (lbS X Y Z ([] : List Int) B ([] : List Int))), (5, .bool (shadB X Y Z ([] : List Int) B ([] : List Int))), (6, vP 8 0), (7, vI (lbS X Y Z ([] : List Int) B ([] : List Int))), (8, .bool (shadB X Y Z ([] : List Int) B ([] : List Int)))])) (by kernel_rfl) ?_
    refine kSeq ?_
    refine cSeq ?_
    refine cSeq ?_
    refine cReg ?_
    refine segH 2 (T1 := (mkT 40 [(1, vP 1 0), (4, vI (lbS X Y Z ([] : List Int) B ([] : List Int))), (5, .bool (shadB X Y Z ([] : List Int) B ([] : List Int))), (6, vP 8 0), (7, vI (lbS X Y Z ([] : List Int) B ([] : List Int))), (8, .bool (shadB X Y Z ([] : List Int) B ([] : List Int))), (27, vI (lbS X Y Z ([] : List Int) B ([] : List Int))), (28, vI (lbS X Y Z ([] : List Int) B ([] : List Int)))])) (by kernel_rfl) ?_
    refine rOp (v := .bool false) (by kernel_rfl) (eNeS (k := .i64) (a := (lbS X Y Z ([] : List Int) B ([] : List Int))) (by kernel_rfl) (by kernel_rfl)) ?_
    refine segH 3 (T1 := (mkT 40 [(1, vP 1 0), (4, vI (lbS X Y Z ([] : List Int) B ([] : List Int))), (5, .bool (shadB X Y Z ([] : List Int) B ([] : List Int))), (6, vP 8 0), (7, vI (lbS X Y Z ([] : List Int) B ([] : List Int))), (8, .bool (shadB X Y Z ([] : List Int) B ([] : List Int))), (27, vI (lbS X Y Z ([] : List Int) B ([] : List Int))), (28, vI (lbS X Y Z ([] : List Int) B ([] : List Int))), (29, .bool false), (30, .bool false), (31, .bool (shadB X Y Z ([] : List Int) B ([] : List Int))), (32, .bool (shadB X Y Z ([] : List Int) B ([] : List Int)))])) (by kernel_rfl) ?_
    refine rOp (v := .bool false) (by kernel_rfl) (eNeB (b := (shadB X Y Z ([] : List Int) B ([] : List Int))) (by kernel_rfl) (by kernel_rfl) (by kernel_rfl)) ?_
    refine segEndH [1, 6, 34] (T1 := (mkT 40 [(1, vP 1 0), (6, vP 8 0), (34, .bool false)])) (by kernel_rfl) ?_
    refine kSeq ?_
    refine cFalse (by kernel_rfl) ?_
    refine cSkip ?_
    refine kSeq ?_
    refine cSeq ?_
    refine cSeq ?_
    refine cRegW (N := 12) [⟨[], [], [8]⟩, ⟨[], [], [1]⟩, ⟨[9, 10, 11], [], [0]⟩, ⟨[], [], [5, 6, 7, 9, 10, 11]⟩, ⟨[], [], []⟩] 3 [9, 10, 11] (by rfl) (by rfl) (by kernel_rfl) (by kernel_rfl) (by kernel_rfl) ⟨nmsF (flatNums _ _ _ _), ⟨nmsX (by kernel_rfl), ⟨nmsF (flatNums _ _ _ _), ⟨nmsF (flatNums _ _ _ _), ⟨nmsF (flatNums _ _ _ _), ⟨nmsF (flatNums _ _ _ _), ⟨nmsF (flatNums _ _ _ _), ⟨nmsF (flatNums _ _ _ _), ⟨nmsX (by kernel_rfl), trivial⟩⟩⟩⟩⟩⟩⟩⟩⟩ ?_
    refine segWH 2 (T1 := (mkT 40 [(1, vP 1 0), (6, vP 8 0), (34, .bool false), (35, .agg #[vN X, vN Y, vN Z, vS 5 0, vS 6 B.length, vS 7 0]), (36, .agg #[vN X, vN Y, vN Z, .slice none 0 0, vS 0 B.length, .slice none 0 0])])) (by kernel_rfl) ?_
    refine rW (m := ⟨[9, 10, 11], [], [0]⟩) (v := .agg #[vN X, vN Y, vN Z, vS 9 0, vS 10 B.length, vS 11 0]) rfl (by kernel_rfl) (stN (i := 9) (E := [some ⟨nums ([] : List Int), 3, false, true⟩, some ⟨nums B, 3, false, true⟩, some ⟨nums ([] : List Int), 3, false, true⟩]) (v1 := .agg #[vN X, vN Y, vN Z, vS 12 0, vS 13 B.length, vS 14 0]) (args := [.agg #[vN X, vN Y, vN Z, .slice none 0 0, vS 0 B.length, .slice none 0 0]]) rfl (by kernel_rfl) (Any.lay (E := [some ⟨nums ([] : List Int), 3, false, true⟩, some ⟨nums B, 3, false, true⟩, some ⟨nums ([] : List Int), 3, false, true⟩]) (N := 12) [0] (toSh_nsn ((X : Nat) : Int) ((Y : Nat) : Int) ((Z : Nat) : Int) B (by first | omega | assumption)) ⟨rdF false (flatNums _ _ _ _) rfl rfl, trivial⟩ rfl ⟨clF (flatNums _ _ _ _), trivial⟩ rfl (by first | rfl | simp [mpV, mpA, mpS, mpP, renId, shift]) (by first | rfl | simp [mpV, mpA, mpS, mpP, renId, shift]) ⟨enF (flatNums _ _ _ _) (Or.inl rfl), ⟨enF (flatNums _ _ _ _) (Or.inl rfl), ⟨enF (flatNums _ _ _ _) (Or.inl rfl), trivial⟩⟩⟩) rfl (by kernel_rfl) (by kernel_rfl) (by kernel_rfl) (by kernel_rfl) (FlatH.cons (flatNums _ _ _ _) (FlatH.cons (flatNums _ _ _ _) (FlatH.cons (flatNums _ _ _ _) FlatH.nil)))) (by kernel_rfl) (NRs.all ⟨nrOf (by rfl) (nmF (flatNums _ _ _ _)), ⟨nrOf (by rfl) (nmF (flatNums _ _ _ _)), ⟨nrOf (by rfl) (nmF (flatNums _ _ _ _)), trivial⟩⟩⟩) ?_
    refine rW (m := ⟨[], [], [5, 6, 7, 9, 10, 11]⟩) (v := .bool true) rfl (by kernel_rfl) (stQ (args := [.agg #[vN X, vN Y, vN Z, vS 5 0, vS 6 B.length, vS 7 0], .agg #[vN X, vN Y, vN Z, vS 9 0, vS 10 B.length, vS 11 0]]) rfl (by kernel_rfl) (Any.lay0 [5, 6, 7, 9, 10, 11] (eqSh ((X : Nat) : Int) ((Y : Nat) : Int) ((Z : Nat) : Int) ([] : List Int) B ([] : List Int) (by first | omega | assumption | (simp; done)) (by first | omega | assumption | (simp; done)) (by first | omega | assumption | (simp; done))) ⟨rdF true (flatNums _ _ _ _) rfl rfl, ⟨rdF true (flatNums _ _ _ _) rfl rfl, ⟨rdF true (flatNums _ _ _ _) rfl rfl, ⟨rdF true (flatNums _ _ _ _) rfl rfl, ⟨rdF true (flatNums _ _ _ _) rfl rfl, ⟨rdF true (flatNums _ _ _ _) rfl rfl, trivial⟩⟩⟩⟩⟩⟩ rfl ⟨clF (flatNums _ _ _ _), ⟨clF (flatNums _ _ _ _), ⟨clF (flatNums _ _ _ _), ⟨clF (flatNums _ _ _ _), ⟨clF (flatNums _ _ _ _), ⟨clF (flatNums _ _ _ _), trivial⟩⟩⟩⟩⟩⟩ rfl (by first | rfl | simp [mpV, mpA, mpS, mpP, renId, shift]) rfl) rfl (by kernel_rfl) (by kernel_rfl)) (by kernel_rfl) nr0 ?_
    refine segEndW [39] (T1 := (mkT 40 [(39, .bool false)])) (H1 := [some ⟨nums B, 3, false, false⟩, rB [vN X, vN Y, vN Z, .slice none 0 0, vS 0 B.length, .slice none 0 0] 24, some ⟨nums ([] : List Int), 3, false, true⟩, some ⟨nums B, 3, false, true⟩, some ⟨nums ([] : List Int), 3, false, true⟩, some ⟨nums ([] : List Int), 3, false, true⟩, some ⟨nums B, 3, false, true⟩, some ⟨nums ([] : List Int), 3, false, true⟩, rB [vN X, vN Y, vN Z, vS 5 0, vS 6 B.length, vS 7 0] 27, some ⟨nums ([] : List Int), 3, false, true⟩, some ⟨nums B, 3, false, true⟩, some ⟨nums ([] : List Int), 3, false, true⟩]) (by kernel_rfl) ?_
    refine kSeq ?_
    refine cFalse (by kernel_rfl) ?_
    refine cSkip ?_
    refine kSeq ?_
    refine cSeq ?_
    refine cReg ?_
    refine segEndH [2] (T1 := (mkT 40 [(2, .bool true)])) (by kernel_rfl) ?_
    refine kSeq ?_
    refine cRet ?_
    -- end
    exact endQ (Or.inr rfl) (l := [.bool true]) [rB [vN X, vN Y, vN Z, .slice none 0 0, vS 0 B.length, .slice none 0 0] 24, some ⟨nums ([] : List Int), 3, false, true⟩, some ⟨nums B, 3, false, true⟩, some ⟨nums ([] : List Int), 3, false, true⟩, some ⟨nums ([] : List Int), 3, false, true⟩, some ⟨nums B, 3, false, true⟩, some ⟨nums ([] : List Int), 3, false, true⟩, rB [vN X, vN Y, vN Z, vS 5 0, vS 6 B.length, vS 7 0] 27, some ⟨nums ([] : List Int), 3, false, true⟩, some ⟨nums B, 3, false, true⟩, some ⟨nums ([] : List Int), 3, false, true⟩] (by kernel_rfl) (by first | rfl | kernel_rfl) rfl rfl hcl rfl
  ·
    (try simp only [Bool.not_eq_true', Bool.not_eq_false', decide_eq_true_eq, decide_eq_false_iff_not, beq_iff_eq, bne_iff_ne, beq_eq_false_iff_ne, bne_eq_false_iff_eq, ne_eq, Decidable.not_not, Bool.and_eq_true, Bool.and_eq_false_imp, Bool.or_eq_true, Bool.or_eq_false_iff, Bool.not_eq_true, Int.not_lt, Int.not_le, ge_iff_le, gt_iff_lt] at h1)
    exfalso; omega

set_option maxRecDepth 100000 in
set_option maxHeartbeats 4000000 in
theorem lawLineBound_bigC_nns (x : Int) (y : Int) (z : Int) (C : List Int) (hl : 1048576 < C.length) (hm : C.length ≤ 9223372036854775807) : Sound Try.prog 5 [.agg #[vI x, vI y, vI z, .slice none 0 0, .slice none 0 0, vS 0 C.length]] [some ⟨nums C, 3, false, false⟩] (.bool true) [some ⟨nums C, 3, false, false⟩] := by
  refine sound_intro (C := cx) Try.func5 rfl (by kernel_rfl) fun hcl => ?_
  refine cSeq ?_
  refine cReg ?_
  refine segEnd [1] (T1 := (mkT 40 [(1, vP 1 0)])) (H1 := [some ⟨nums C, 3, false, false⟩, rB [vI x, vI y, vI z, .slice none 0 0, .slice none 0 0, vS 0 C.length] 24]) (by kernel_rfl) ?_
  refine kSeq ?_
  refine cSeq ?_
  refine cReg ?_
  refine segEndH [1, 3] (T1 := (mkT 40 [(1, vP 1 0), (3, vI 1048576)])) (by kernel_rfl) ?_
  refine kSeq ?_
  refine cSeq ?_
  refine cReg ?_
  refine segH 2 (T1 := (mkT 40 [(1, vP 1 0), (3, vI 1048576), (9, .agg #[vI x, vI y, vI z, .slice none 0 0, .slice none 0 0, vS 0 C.length]), (10, vI 1048576)])) (by kernel_rfl) ?_
  refine rCall (v := vI (-1)) (args := [.agg #[vI x, vI y, vI z, .slice none 0 0, .slice none 0 0, vS 0 C.length], vI 1048576]) (by kernel_rfl) rfl (by kernel_rfl) (Sound.lay0 [0] (szSh_nns_C x y z C 1048576 (by first | omega | assumption | (simp; done) | (simp; omega)) (by first | assumption | omega | rfl | decide | exact HeapL.list _ _ _ _ | exact HeapL.nil _ _ _ | exact HeapL.all _ _ _ | (apply HeapL.lt64 <;> assumption) | (repeat' (first | assumption | apply or_lt64 | apply and_lt64 | apply andn_lt64 | apply pow_lt64 | (apply HeapL.lt64 <;> assumption)))) (by first | omega | assumption | decide)) ⟨rdF false (flatNums _ _ _ _) rfl rfl, trivial⟩ rfl ⟨clF (flatNums _ _ _ _), trivial⟩ rfl (by first | rfl | simp [mpV, mpA, mpS, mpP, renId, shift]) rfl) ?_
  refine segEndH [1, 3] (T1 := (mkT 40 [(1, vP 1 0), (3, vI (-1))])) (by kernel_rfl) ?_
  refine kSeq ?_
  refine cSeq ?_
  refine cSeq ?_
  refine cReg ?_
  refine segEndH [1, 13] (T1 := (mkT 40 [(1, vP 1 0), (13, .bool true)])) (by kernel_rfl) ?_
  refine kSeq ?_
  refine cTrue (by kernel_rfl) ?_
  refine cSeq ?_
  refine cReg ?_
  refine segEndH [2] (T1 := (mkT 40 [(2, .bool true)])) (by kernel_rfl) ?_
  refine kSeq ?_
  refine cRet ?_
  refine kSeqR ?_
  -- end
  exact endQ (Or.inr rfl) (l := [.bool true]) [rB [vI x, vI y, vI z, .slice none 0 0, .slice none 0 0, vS 0 C.length] 24] (by kernel_rfl) (by first | rfl | kernel_rfl) rfl rfl hcl rfl

set_option maxRecDepth 100000 in
set_option maxHeartbeats 4000000 in
theorem lawLineBound_no_nns (x : Int) (y : Int) (z : Int) (C : List Int) (hl : C.length ≤ 1048576) (hv : valid3 x y z = false) : Sound Try.prog 5 [.agg #[vI x, vI y, vI z, .slice none 0 0, .slice none 0 0, vS 0 C.length]] [some ⟨nums C, 3, false, false⟩] (.bool true) [some ⟨nums C, 3, false, false⟩] := by
  refine sound_intro (C := cx) Try.func5 rfl (by kernel_rfl) fun hcl => ?_
  refine cSeq ?_
  refine cReg ?_
  refine segEnd [1] (T1 := (mkT 40 [(1, vP 1 0)])) (H1 := [some ⟨nums C, 3, false, false⟩, rB [vI x, vI y, vI z, .slice none 0 0, .slice none 0 0, vS 0 C.length] 24]) (by kernel_rfl) ?_
  refine kSeq ?_
  refine cSeq ?_
  refine cReg ?_
  refine segEndH [1, 3] (T1 := (mkT 40 [(1, vP 1 0), (3, vI 1048576)])) (by kernel_rfl) ?_
  refine kSeq ?_
  refine cSeq ?_
  refine cReg ?_
  refine segH 2 (T1 := (mkT 40 [(1, vP 1 0), (3, vI 1048576), (9, .agg #[vI x, vI y, vI z, .slice none 0 0, .slice none 0 0, vS 0 C.length]), (10, vI 1048576)])) (by kernel_rfl) ?_
  refine rCall (v := vN (1048576 - C.length)) (args := [.agg #[vI x, vI y, vI z, .slice none 0 0, .slice none 0 0, vS 0 C.length], vI 1048576]) (by kernel_rfl) rfl (by kernel_rfl) (Sound.lay0 [0] (szSh_nns x y z C 1048576 (by first | omega | assumption | (simp; done) | (simp; omega)) (by first | omega | assumption | decide)) ⟨rdF false (flatNums _ _ _ _) rfl rfl, trivial⟩ rfl ⟨clF (flatNums _ _ _ _), trivial⟩ rfl (by first | rfl | simp [mpV, mpA, mpS, mpP, renId, shift]) rfl) ?_
  refine segEndH [1, 3] (T1 := (mkT 40 [(1, vP 1 0), (3, vN (1048576 - C.length))])) (by kernel_rfl) ?_
  refine kSeq ?_
  refine cSeq ?_
  refine cSeq ?_
  refine cReg ?_
  refine segEndH [1, 13] (T1 := (mkT 40 [(1, vP 1 0), (13, .bool (decide (((1048576 - C.length : Nat) : Int) < 0)))])) (by kernel_rfl) ?_
  refine kSeq ?_
  cases h1 : (decide (((1048576 - C.length : Nat) : Int) < 0) : Bool)
  ·
    (try simp only [Bool.not_eq_true', Bool.not_eq_false', decide_eq_true_eq, decide_eq_false_iff_not, beq_iff_eq, bne_iff_ne, beq_eq_false_iff_ne, bne_eq_false_iff_eq, ne_eq, Decidable.not_not, Bool.and_eq_true, Bool.and_eq_false_imp, Bool.or_eq_true, Bool.or_eq_false_iff, Bool.not_eq_true, Int.not_lt, Int.not_le, ge_iff_le, gt_iff_lt] at h1)
    refine cFalse (by kernel_rfl) ?_
    refine cSkip ?_
    refine kSeq ?_
    refine cSeq ?_
    refine cReg ?_
    refine segH 1 (T1 := (mkT 40 [(1, vP 1 0), (13, .bool false), (15, .agg #[vI x, vI y, vI z, .slice none 0 0, .slice none 0 0, vS 0 C.length])])) (by kernel_rfl) ?_
    refine rCall (v := .agg #[vI x, vI y, vI z, vS 2 0, vS 3 0, vS 4 C.length]) (args := [.agg #[vI x, vI y, vI z, .slice none 0 0, .slice none 0 0, vS 0 C.length]]) (by kernel_rfl) rfl (by kernel_rfl) (Sound.lay (E := [some ⟨nums ([] : List Int), 3, false, true⟩, some ⟨nums ([] : List Int), 3, false, true⟩, some ⟨nums C, 3, false, true⟩]) [0] (toSh_nns x y z C (by first | omega | assumption)) ⟨rdF false (flatNums _ _ _ _) rfl rfl, trivial⟩ rfl ⟨clF (flatNums _ _ _ _), trivial⟩ rfl (by first | rfl | simp [mpV, mpA, mpS, mpP, renId, shift]) (by first | rfl | simp [mpV, mpA, mpS, mpP, renId, shift]) ⟨enF (flatNums _ _ _ _) (Or.inl rfl), ⟨enF (flatNums _ _ _ _) (Or.inl rfl), ⟨enF (flatNums _ _ _ _) (Or.inl rfl), trivial⟩⟩⟩) ?_
    refine rCall (v := .tuple #[vI 0, .bool false]) (args := [.agg #[vI x, vI y, vI z, vS 2 0, vS 3 0, vS 4 C.length]]) (by kernel_rfl) rfl (by kernel_rfl) (Sound.lay0 [2, 3, 4] (specLineBound_no x y z ([] : List Int) ([] : List Int) C (by first | assumption | omega | rfl | decide | exact HeapL.list _ _ _ _ | exact HeapL.nil _ _ _ | exact HeapL.all _ _ _ | (apply HeapL.lt64 <;> assumption) | (repeat' (first | assumption | apply or_lt64 | apply and_lt64 | apply andn_lt64 | apply pow_lt64 | (apply HeapL.lt64 <;> assumption)))) (by first | omega | assumption | (simp; done)) (by first | omega | assumption | (simp; done)) (by first | omega | assumption | (simp; done))) ⟨rdF true (flatNums _ _ _ _) rfl rfl, ⟨rdF true (flatNums _ _ _ _) rfl rfl, ⟨rdF true (flatNums _ _ _ _) rfl rfl, trivial⟩⟩⟩ rfl ⟨clF (flatNums _ _ _ _), ⟨clF (flatNums _ _ _ _), ⟨clF (flatNums _ _ _ _), trivial⟩⟩⟩ rfl (by first | rfl | simp [mpV, mpA, mpS, mpP, renId, shift]) (by first | rfl | simp [mpV, mpA, mpS, mpP, renId, shift])) ?_
    refine segEnd [1, 4, 5] (T1 := (mkT 40 [(1, vP 1 0), (4, vI 0), (5, .bool false)])) (H1 := [some ⟨nums C, 3, false, false⟩, rB [vI x, vI y, vI z, .slice none 0 0, .slice none 0 0, vS 0 C.length] 24, some ⟨nums ([] : List Int), 3, false, true⟩, some ⟨nums ([] : List Int), 3, false, true⟩, some ⟨nums C, 3, false, true⟩]) (by kernel_rfl) ?_
    refine kSeq ?_
    refine cSeq ?_
    refine cReg ?_
    refine segH 1 (T1 := (mkT 40 [(1, vP 1 0), (4, vI 0), (5, .bool false), (20, .agg #[vI x, vI y, vI z, .slice none 0 0, .slice none 0 0, vS 0 C.length])])) (by kernel_rfl) ?_
    refine rCall (v := .agg #[vI x, vI y, vI z, vS 5 0, vS 6 0, vS 7 C.length]) (args := [.agg #[vI x, vI y, vI z, .slice none 0 0, .slice none 0 0, vS 0 C.length]]) (by kernel_rfl) rfl (by kernel_rfl) (Sound.lay (E := [some ⟨nums ([] : List Int), 3, false, true⟩, some ⟨nums ([] : List Int), 3, false, true⟩, some ⟨nums C, 3, false, true⟩]) [0] (toSh_nns x y z C (by first | omega | assumption)) ⟨rdF false (flatNums _ _ _ _) rfl rfl, trivial⟩ rfl ⟨clF (flatNums _ _ _ _), trivial⟩ rfl (by first | rfl | simp [mpV, mpA, mpS, mpP, renId, shift]) (by first | rfl | simp [mpV, mpA, mpS, mpP, renId, shift]) ⟨enF (flatNums _ _ _ _) (Or.inl rfl), ⟨enF (flatNums _ _ _ _) (Or.inl rfl), ⟨enF (flatNums _ _ _ _) (Or.inl rfl), trivial⟩⟩⟩) ?_
    refine segEnd [1, 4, 5, 6] (T1 := (mkT 40 [(1, vP 1 0), (4, vI 0), (5, .bool false), (6, vP 8 0)])) (H1 := [some ⟨nums C, 3, false, false⟩, rB [vI x, vI y, vI z, .slice none 0 0, .slice none 0 0, vS 0 C.length] 24, some ⟨nums ([] : List Int), 3, false, true⟩, some ⟨nums ([] : List Int), 3, false, true⟩, some ⟨nums C, 3, false, true⟩, some ⟨nums ([] : List Int), 3, false, true⟩, some ⟨nums ([] : List Int), 3, false, true⟩, some ⟨nums C, 3, false, true⟩, rB [vI x, vI y, vI z, vS 5 0, vS 6 0, vS 7 C.length] 27]) (by kernel_rfl) ?_
    refine kSeq ?_
    refine cSeq ?_
    refine cReg ?_
    refine segH 1 (T1 := (mkT 40 [(1, vP 1 0), (4, vI 0), (5, .bool false), (6, vP 8 0), (23, .agg #[vI x, vI y, vI z, vS 5 0, vS 6 0, vS 7 C.length])])) (by kernel_rfl) ?_
    refine rCall (v := .tuple #[vI 0, .bool false]) (args := [.agg #[vI x, vI y, vI z, vS 5 0, vS 6 0, vS 7 C.length]]) (by kernel_rfl) rfl (by kernel_rfl) (Sound.lay0 [5, 6, 7] (implLineBound_no x y z ([] : List Int) ([] : List Int) C (by first | assumption | omega | rfl | decide | exact HeapL.list _ _ _ _ | exact HeapL.nil _ _ _ | exact HeapL.all _ _ _ | (apply HeapL.lt64 <;> assumption) | (repeat' (first | assumption | apply or_lt64 | apply and_lt64 | apply andn_lt64 | apply pow_lt64 | (apply HeapL.lt64 <;> assumption)))) (by first | omega | assumption | (simp; done)) (by first | omega | assumption | (simp; done)) (by first | omega | assumption | (simp; done))) ⟨rdF true (flatNums _ _ _ _) rfl rfl, ⟨rdF true (flatNums _ _ _ _) rfl rfl, ⟨rdF true (flatNums _ _ _ _) rfl rfl, trivial⟩⟩⟩ rfl ⟨clF (flatNums _ _ _ _), ⟨clF (flatNums _ _ _ _), ⟨clF (flatNums _ _ _ _), trivial⟩⟩⟩ rfl (by first | rfl | simp [mpV, mpA, mpS, mpP, renId, shift]) (by first | rfl | simp [mpV, mpA, mpS, mpP, renId, shift])) ?_
    refine segEndH [1, 4, 5, 6, 7, 8] (T1 := (mkT 40 [(1, vP 1 0), (4, vI 0), (5, .bool false), (6, vP 8 0), (7, vI 0), (8, .bool false)])) (by kernel_rfl) ?_
    refine kSeq ?_
    refine cSeq ?_
    refine cSeq ?_
    refine cReg ?_
    refine segEndH [1, 6, 34] (T1 := (mkT 40 [(1, vP 1 0), (6, vP 8 0), (34, .bool false)])) (by kernel_rfl) ?_
    refine kSeq ?_
    refine cFalse (by kernel_rfl) ?_
    refine cSkip ?_
    refine kSeq ?_
    refine cSeq ?_
    refine cSeq ?_
    refine cRegW (N := 12) [⟨[], [], [8]⟩, ⟨[], [], [1]⟩, ⟨[9, 10, 11], [], [0]⟩, ⟨[], [], [5, 6, 7, 9, 10, 11]⟩, ⟨[], [], []⟩] 3 [9, 10, 11] (by rfl) (by rfl) (by kernel_rfl) (by kernel_rfl) (by kernel_rfl) ⟨nmsF (flatNums _ _ _ _), ⟨nmsX (by kernel_rfl), ⟨nmsF (flatNums _ _ _ _), ⟨nmsF (flatNums _ _ _ _), ⟨nmsF (flatNums _ _ _ _), ⟨nmsF (flatNums _ _ _ _), ⟨nmsF (flatNums _ _ _ _), ⟨nmsF (flatNums _ _ _ _), ⟨nmsX (by kernel_rfl), trivial⟩⟩⟩⟩⟩⟩⟩⟩⟩ ?_
    refine segWH 2 (T1 := (mkT 40 [(1, vP 1 0), (6, vP 8 0), (34, .bool false), (35, .agg #[vI x, vI y, vI z, vS 5 0, vS 6 0, vS 7 C.length]), (36, .agg #[vI x, vI y, vI z, .slice none 0 0, .slice none 0 0, vS 0 C.length])])) (by kernel_rfl) ?_
    refine rW (m := ⟨[9, 10, 11], [], [0]⟩) (v := .agg #[vI x, vI y, vI z, vS 9 0, vS 10 0, vS 11 C.length]) rfl (by kernel_rfl) (stN (i := 9) (E := [some ⟨nums ([] : List Int), 3, false, true⟩, some ⟨nums ([] : List Int), 3, false, true⟩, some ⟨nums C, 3, false, true⟩]) (v1 := .agg #[vI x, vI y, vI z, vS 12 0, vS 13 0, vS 14 C.length]) (args := [.agg #[vI x, vI y, vI z, .slice none 0 0, .slice none 0 0, vS 0 C.length]]) rfl (by kernel_rfl) (Any.lay (E := [some ⟨nums ([] : List Int), 3, false, true⟩, some ⟨nums ([] : List Int), 3, false, true⟩, some ⟨nums C, 3, false, true⟩]) (N := 12) [0] (toSh_nns x y z C (by first | omega | assumption)) ⟨rdF false (flatNums _ _ _ _) rfl rfl, trivial⟩ rfl ⟨clF (flatNums _ _ _ _), trivial⟩ rfl (by first | rfl | simp [mpV, mpA, mpS, mpP, renId, shift]) (by first | rfl | simp [mpV, mpA, mpS, mpP, renId, shift]) ⟨enF (flatNums _ _ _ _) (Or.inl rfl), ⟨enF (flatNums _ _ _ _) (Or.inl rfl), ⟨enF (flatNums _ _ _ _) (Or.inl rfl), trivial⟩⟩⟩) rfl (by kernel_rfl) (by kernel_rfl) (by kernel_rfl) (by kernel_rfl) (FlatH.cons (flatNums _ _ _ _) (FlatH.cons (flatNums _ _ _ _) (FlatH.cons (flatNums _ _ _ _) FlatH.nil)))) (by kernel_rfl) (NRs.all ⟨nrOf (by rfl) (nmF (flatNums _ _ _ _)), ⟨nrOf (by rfl) (nmF (flatNums _ _ _ _)), ⟨nrOf (by rfl) (nmF (flatNums _ _ _ _)), trivial⟩⟩⟩) ?_
    refine rW (m := ⟨[], [], [5, 6, 7, 9, 10, 11]⟩) (v := .bool true) rfl (by kernel_rfl) (stQ (args := [.agg #[vI x, vI y, vI z, vS 5 0, vS 6 0, vS 7 C.length], .agg #[vI x, vI y, vI z, vS 9 0, vS 10 0, vS 11 C.length]]) rfl (by kernel_rfl) (Any.lay0 [5, 6, 7, 9, 10, 11] (eqSh x y z ([] : List Int) ([] : List Int) C (by first | omega | assumption | (simp; done)) (by first | omega | assumption | (simp; done)) (by first | omega | assumption | (simp; done))) ⟨rdF true (flatNums _ _ _ _) rfl rfl, ⟨rdF true (flatNums _ _ _ _) rfl rfl, ⟨rdF true (flatNums _ _ _ _) rfl rfl, ⟨rdF true (flatNums _ _ _ _) rfl rfl, ⟨rdF true (flatNums _ _ _ _) rfl rfl, ⟨rdF true (flatNums _ _ _ _) rfl rfl, trivial⟩⟩⟩⟩⟩⟩ rfl ⟨clF (flatNums _ _ _ _), ⟨clF (flatNums _ _ _ _), ⟨clF (flatNums _ _ _ _), ⟨clF (flatNums _ _ _ _), ⟨clF (flatNums _ _ _ _), ⟨clF (flatNums _ _ _ _), trivial⟩⟩⟩⟩⟩⟩ rfl (by first | rfl | simp [mpV, mpA, mpS, mpP, renId, shift]) rfl) rfl (by kernel_rfl) (by kernel_rfl)) (by kernel_rfl) nr0 ?_
    refine segEndW [39] (T1 := (mkT 40 [(39, .bool false)])) (H1 := [some ⟨nums C, 3, false, false⟩, rB [vI x, vI y, vI z, .slice none 0 0, .slice none 0 0, vS 0 C.length] 24, some ⟨nums ([] : List Int), 3, false, true⟩, some ⟨nums ([] : List Int), 3, false, true⟩, some ⟨nums C, 3, false, true⟩, some ⟨nums ([] : List Int), 3, false, true⟩, some ⟨nums ([] : List Int), 3, false, true⟩, some ⟨nums C, 3, false, true⟩, rB [vI x, vI y, vI z, vS 5 0, vS 6 0, vS 7 C.length] 27, some ⟨nums ([] : List Int), 3, false, true⟩, some ⟨nums ([] : List Int), 3, false, true⟩, some ⟨nums C, 3, false, true⟩]) (by kernel_rfl) ?_
    refine kSeq ?_
    refine cFalse (by kernel_rfl) ?_
    refine cSkip ?_
    refine kSeq ?_
    refine cSeq ?_
    refine cReg ?_
    refine segEndH [2] (T1 := (mkT 40 [(2, .bool true)])) (by kernel_rfl) ?_
    refine kSeq ?_
    refine cRet ?_
    -- end
    exact endQ (Or.inr rfl) (l := [.bool true]) [rB [vI x, vI y, vI z, .slice none 0 0, .slice none 0 0, vS 0 C.length] 24, some ⟨nums ([] : List Int), 3, false, true⟩, some ⟨nums ([] : List Int), 3, false, true⟩, some ⟨nums C, 3, false, true⟩, some ⟨nums ([] : List Int), 3, false, true⟩, some ⟨nums ([] : List Int), 3, false, true⟩, some ⟨nums C, 3, false, true⟩, rB [vI x, vI y, vI z, vS 5 0, vS 6 0, vS 7 C.length] 27, some ⟨nums ([] : List Int), 3, false, true⟩, some ⟨nums ([] : List Int), 3, false, true⟩, some ⟨nums C, 3, false, true⟩] (by kernel_rfl) (by first | rfl | kernel_rfl) rfl rfl hcl rfl
  ·
    (try simp only [Bool.not_eq_true', Bool.not_eq_false', decide_eq_true_eq, decide_eq_false_iff_not, beq_iff_eq, bne_iff_ne, beq_eq_false_iff_ne, bne_eq_false_iff_eq, ne_eq, Decidable.not_not, Bool.and_eq_true, Bool.and_eq_false_imp, Bool.or_eq_true, Bool.or_eq_false_iff, Bool.not_eq_true, Int.not_lt, Int.not_le, ge_iff_le, gt_iff_lt] at h1)
    exfalso; omega

set_option maxRecDepth 100000 in
set_option maxHeartbeats 4000000 in
theorem lawLineBound_yes_nns (X : Nat) (Y : Nat) (Z : Nat) (C : List Int) (hl : C.length ≤ 1048576) (hs : Sides X Y Z) : Sound Try.prog 5 [.agg #[vN X, vN Y, vN Z, .slice none 0 0, .slice none 0 0, vS 0 C.length]] [some ⟨nums C, 3, false, false⟩] (.bool true) [some ⟨nums C, 3, false, false⟩] := by
  refine sound_intro (C := cx) Try.func5 rfl (by kernel_rfl) fun hcl => ?_
  refine cSeq ?_
  refine cReg ?_
  refine segEnd [1] (T1 := (mkT 40 [(1, vP 1 0)])) (H1 := [some ⟨nums C, 3, false, false⟩, rB [vN X, vN Y, vN Z, .slice none 0 0, .slice none 0 0, vS 0 C.length] 24]) (by kernel_rfl) ?_
  refine kSeq ?_
  refine cSeq ?_
  refine cReg ?_
  refine segEndH [1, 3] (T1 := (mkT 40 [(1, vP 1 0), (3, vI 1048576)])) (by kernel_rfl) ?_
  refine kSeq ?_
  refine cSeq ?_
  refine cReg ?_
  refine segH 2 (T1 := (mkT 40 [(1, vP 1 0), (3, vI 1048576), (9, .agg #[vN X, vN Y, vN Z, .slice none 0 0, .slice none 0 0, vS 0 C.length]), (10, vI 1048576)])) (by kernel_rfl) ?_
  refine rCall (v := vN (1048576 - C.length)) (args := [.agg #[vN X, vN Y, vN Z, .slice none 0 0, .slice none 0 0, vS 0 C.length], vI 1048576]) (by kernel_rfl) rfl (by kernel_rfl) (Sound.lay0 [0] (szSh_nns ((X : Nat) : Int) ((Y : Nat) : Int) ((Z : Nat) : Int) C 1048576 (by first | omega | assumption | (simp; done) | (simp; omega)) (by first | omega | assumption | decide)) ⟨rdF false (flatNums _ _ _ _) rfl rfl, trivial⟩ rfl ⟨clF (flatNums _ _ _ _), trivial⟩ rfl (by first | rfl | simp [mpV, mpA, mpS, mpP, renId, shift]) rfl) ?_
  refine segEndH [1, 3] (T1 := (mkT 40 [(1, vP 1 0), (3, vN (1048576 - C.length))])) (by kernel_rfl) ?_
  refine kSeq ?_
  refine cSeq ?_
  refine cSeq ?_
  refine cReg ?_
  refine segEndH [1, 13] (T1 := (mkT 40 [(1, vP 1 0), (13, .bool (decide (((1048576 - C.length : Nat) : Int) < 0)))])) (by kernel_rfl) ?_
  refine kSeq ?_
  cases h1 : (decide (((1048576 - C.length : Nat) : Int) < 0) : Bool)
  ·
    (try simp only [Bool.not_eq_true', Bool.not_eq_false', decide_eq_true_eq, decide_eq_false_iff_not, beq_iff_eq, bne_iff_ne, beq_eq_false_iff_ne, bne_eq_false_iff_eq, ne_eq, Decidable.not_not, Bool.and_eq_true, Bool.and_eq_false_imp, Bool.or_eq_true, Bool.or_eq_false_iff, Bool.not_eq_true, Int.not_lt, Int.not_le, ge_iff_le, gt_iff_lt] at h1)
    refine cFalse (by kernel_rfl) ?_
    refine cSkip ?_
    refine kSeq ?_
    refine cSeq ?_
    refine cReg ?_
    refine segH 1 (T1 := (mkT 40 [(1, vP 1 0), (13, .bool false), (15, .agg #[vN X, vN Y, vN Z, .slice none 0 0, .slice none 0 0, vS 0 C.length])])) (by kernel_rfl) ?_
    refine rCall (v := .agg #[vN X, vN Y, vN Z, vS 2 0, vS 3 0, vS 4 C.length]) (args := [.agg #[vN X, vN Y, vN Z, .slice none 0 0, .slice none 0 0, vS 0 C.length]]) (by kernel_rfl) rfl (by kernel_rfl) (Sound.lay (E := [some ⟨nums ([] : List Int), 3, false, true⟩, some ⟨nums ([] : List Int), 3, false, true⟩, some ⟨nums C, 3, false, true⟩]) [0] (toSh_nns ((X : Nat) : Int) ((Y : Nat) : Int) ((Z : Nat) : Int) C (by first | omega | assumption)) ⟨rdF false (flatNums _ _ _ _) rfl rfl, trivial⟩ rfl ⟨clF (flatNums _ _ _ _), trivial⟩ rfl (by first | rfl | simp [mpV, mpA, mpS, mpP, renId, shift]) (by first | rfl | simp [mpV, mpA, mpS, mpP, renId, shift]) ⟨enF (flatNums _ _ _ _) (Or.inl rfl), ⟨enF (flatNums _ _ _ _) (Or.inl rfl), ⟨enF (flatNums _ _ _ _) (Or.inl rfl), trivial⟩⟩⟩) ?_
    refine rCall (v := .tuple #[vI (lbS X Y Z ([] : List Int) ([] : List Int) C), .bool (shadB X Y Z ([] : List Int) ([] : List Int) C)]) (args := [.agg #[vN X, vN Y, vN Z, vS 2 0, vS 3 0, vS 4 C.length]]) (by kernel_rfl) rfl (by kernel_rfl) (Sound.lay0 [2, 3, 4] (specLineBound_yes X Y Z ([] : List Int) ([] : List Int) C (by first | assumption | omega | rfl | decide | exact HeapL.list _ _ _ _ | exact HeapL.nil _ _ _ | exact HeapL.all _ _ _ | (apply HeapL.lt64 <;> assumption) | (repeat' (first | assumption | apply or_lt64 | apply and_lt64 | apply andn_lt64 | apply pow_lt64 | (apply HeapL.lt64 <;> assumption)))) (by first | omega | assumption | (simp; done)) (by first | omega | assumption | (simp; done)) (by first | omega | assumption | (simp; done))) ⟨rdF true (flatNums _ _ _ _) rfl rfl, ⟨rdF true (flatNums _ _ _ _) rfl rfl, ⟨rdF true (flatNums _ _ _ _) rfl rfl, trivial⟩⟩⟩ rfl ⟨clF (flatNums _ _ _ _), ⟨clF (flatNums _ _ _ _), ⟨clF (flatNums _ _ _ _), trivial⟩⟩⟩ rfl (by first | rfl | simp [mpV, mpA, mpS, mpP, renId, shift]) (by first | rfl | simp [mpV, mpA, mpS, mpP, renId, shift])) ?_
    refine segEnd [1, 4, 5] (T1 := (mkT 40 [(1, vP 1 0), (4, vI (lbS X Y Z ([] : List Int) ([] : List Int) C)), (5, .bool (shadB X Y Z ([] : List Int) ([] : List Int) C))])) (H1 := [some ⟨nums C, 3, false, false⟩, rB [vN X, vN Y, vN Z, .slice none 0 0, .slice none 0 0, vS 0 C.length] 24, some ⟨nums ([] : List Int), 3, false, true⟩, some ⟨nums ([] : List Int), 3, false, true⟩, some ⟨nums C, 3, false, true⟩]) (by kernel_rfl) ?_
    refine kSeq ?_
    refine cSeq ?_
    refine cReg ?_
    refine segH 1 (T1 := (mkT 40 [(1, vP 1 0), (4, vI (lbS X Y Z ([] : List Int) ([] : List Int) C)), (5, .bool (shadB X Y Z ([] : List Int) ([] : List Int) C)), (20, .agg #[vN X, vN Y, vN Z, .slice none 0 0, .slice none 0 0, vS 0 C.length])])) (by kernel_rfl) ?_
    refine rCall (v := .agg #[vN X, vN Y, vN Z, vS 5 0, vS 6 0, vS 7 C.length]) (args := [.agg #[vN X, vN Y, vN Z, .slice none 0 0, .slice none 0 0, vS 0 C.length]]) (by kernel_rfl) rfl (by kernel_rfl) (Sound.lay (E := [some ⟨nums ([] : List Int), 3, false, true⟩, some ⟨nums ([] : List Int), 3, false, true⟩, some ⟨nums C, 3, false, true⟩]) [0] (toSh_nns ((X : Nat) : Int) ((Y : Nat) : Int) ((Z : Nat) : Int) C (by first | omega | assumption)) ⟨rdF false (flatNums _ _ _ _) rfl rfl, trivial⟩ rfl ⟨clF (flatNums _ _ _ _), trivial⟩ rfl (by first | rfl | simp [mpV, mpA, mpS, mpP, renId, shift]) (by first | rfl | simp [mpV, mpA, mpS, mpP, renId, shift]) ⟨enF (flatNums _ _ _ _) (Or.inl rfl), ⟨enF (flatNums _ _ _ _) (Or.inl rfl), ⟨enF (flatNums _ _ _ _) (Or.inl rfl), trivial⟩⟩⟩) ?_
    refine segEnd [1, 4, 5, 6] (T1 := (mkT 40 [(1, vP 1 0), (4, vI (lbS X Y Z ([] : List Int) ([] : List Int) C)), (5, .bool (shadB X Y Z ([] : List Int) ([] : List Int) C)), (6, vP 8 0)])) (H1 := [some ⟨nums C, 3, false, false⟩, rB [vN X, vN Y, vN Z, .slice none 0 0, .slice none 0 0, vS 0 C.length] 24, some ⟨nums ([] : List Int), 3, false, true⟩, some ⟨nums ([] : List Int), 3, false, true⟩, some ⟨nums C, 3, false, true⟩, some ⟨nums ([] : List Int), 3, false, true⟩, some ⟨nums ([] : List Int), 3, false, true⟩, some ⟨nums C, 3, false, true⟩, rB [vN X, vN Y, vN Z, vS 5 0, vS 6 0, vS 7 C.length] 27]) (by kernel_rfl) ?_
    refine kSeq ?_
    refine cSeq ?_
    refine cReg ?_
    refine segH 1 (T1 := (mkT 40 [(1, vP 1 0), (4, vI (lbS X Y Z ([] : List Int) ([] : List Int) C)), (5, .bool (shadB X Y Z ([] : List Int) ([] : List Int) C)), (6, vP 8 0), (23, .agg #[vN X, vN Y, vN Z, vS 5 0, vS 6 0, vS 7 C.length])])) (by kernel_rfl) ?_
    refine rCall (v := .tuple #[vI (lbS X Y Z ([] : List Int) ([] : List Int) C), .bool (shadB X Y Z ([] : List Int) ([] : List Int) C)]) (args := [.agg #[vN X, vN Y, vN Z, vS 5 0, vS 6 0, vS 7 C.length]]) (by kernel_rfl) rfl (by kernel_rfl) (Sound.lay0 [5, 6, 7] (implLineBound_yes X Y Z ([] : List Int) ([] : List Int) C (by first | assumption | omega | rfl | decide | exact HeapL.list _ _ _ _ | exact HeapL.nil _ _ _ | exact HeapL.all _ _ _ | (apply HeapL.lt64 <;> assumption) | (repeat' (first | assumption | apply or_lt64 | apply and_lt64 | apply andn_lt64 | apply pow_lt64 | (apply HeapL.lt64 <;> assumption)))) (by first | omega | assumption | (simp; done)) (by first | omega | assumption | (simp; done)) (by first | omega | assumption | (simp; done))) ⟨rdF true (flatNums _ _ _ _) rfl rfl, ⟨rdF true (flatNums _ _ _ _) rfl rfl, ⟨rdF true (flatNums _ _ _ _) rfl rfl, trivial⟩⟩⟩ rfl ⟨clF (flatNums _ _ _ _), ⟨clF (flatNums _ _ _ _), ⟨clF (flatNums _ _ _ _), trivial⟩⟩⟩ rfl (by first | rfl | simp [mpV, mpA, mpS, mpP, renId, shift]) (by first | rfl | simp [mpV, mpA, mpS, mpP, renId, shift])) ?_
    refine segEndH [1, 4, 5, 6, 7, 8] (T1 := (mkT 40 [(1, vP 1 0), (4, vI (lbS X Y Z ([] : List Int) ([] : List Int) C)), (5, .bool (shadB X Y Z ([] : List Int) ([] : List Int) C)), (6, vP 8 0), (7, vI (lbS X Y Z ([] : List Int) ([] : List Int) C)), (8, .bool (shadB X Y Z ([] : List Int) ([] : List Int) C))])) (by kernel_rfl) ?_
    refine kSeq ?_
    refine cSeq ?_
    refine cSeq ?_
    refine cReg ?_
    refine segH 2 (T1 := (mkT 40 [(1, vP 1 0), (4, vI (lbS X Y Z ([] : List Int) ([] : List Int) C)), (5, .bool (shadB X Y Z ([] : List Int) ([] : List Int) C)), (6, vP 8 0), (7, vI (lbS X Y Z ([] : List Int) ([] : List Int) C)), (8, .bool (shadB X Y Z ([] : List Int) ([] : List Int) C)), (27, vI (lbS X Y Z ([] : List Int) ([] : List Int) C)), (28, vI (lbS X Y Z ([] : List Int) ([] : List Int) C))])) (by kernel_rfl) ?_
    refine rOp (v := .bool false) (by kernel_rfl) (eNeS (k := .i64) (a := (lbS X Y Z ([] : List Int) ([] : List Int) C)) (by kernel_rfl) (by kernel_rfl)) ?_
    refine segH 3 (T1 := (mkT 40 [(1, vP 1 0), (4, vI (lbS X Y Z ([] : List Int) ([] : List Int) C)), (5, .bool (shadB X Y Z ([] : List Int) ([] : List Int) C)), (6, vP 8 0), (7, vI (lbS X Y Z ([] : List Int) ([] : List Int) C)), (8, .bool (shadB X Y Z ([] : List Int) ([] : List Int) C)), (27, vI (lbS X Y Z ([] : List Int) ([] : List Int) C)), (28, vI (lbS X Y Z ([] : List Int) ([] : List Int) C)), (29, .bool false), (30, .bool false), (31, .bool (shadB X Y Z ([] : List Int) ([] : List Int) C)), (32, .bool (shadB X Y Z ([] : List Int) ([] : List Int) C))])) (by kernel_rfl) ?_
    refine rOp (v := .bool false) (by kernel_rfl) (eNeB (b := (shadB X Y Z ([] : List Int) ([] : List Int) C)) (by kernel_rfl) (by kernel_rfl) (by kernel_rfl)) ?_
    refine segEndH [1, 6, 34] (T1 := (mkT 40 [(1, vP 1 0), (6, vP 8 0), (34, .bool false)])) (by kernel_rfl) ?_
    refine kSeq ?_
    refine cFalse (by kernel_rfl) ?_
    refine cSkip ?_
    refine kSeq ?_
    refine cSeq ?_
    refine cSeq ?_
    refine cRegW (N := 12) [⟨[], [], [8]⟩, ⟨[], [], [1]⟩, ⟨[9, 10, 11], [], [0]⟩, ⟨[], [], [5, 6, 7, 9, 10, 11]⟩, ⟨[], [], []⟩] 3 [9, 10, 11] (by rfl) (by rfl) (by kernel_rfl) (by kernel_rfl) (by kernel_rfl) ⟨nmsF (flatNums _ _ _ _), ⟨nmsX (by kernel_rfl), ⟨nmsF (flatNums _ _ _ _), ⟨nmsF (flatNums _ _ _ _), ⟨nmsF (flatNums _ _ _ _), ⟨nmsF (flatNums _ _ _ _), ⟨nmsF (flatNums _ _ _ _), ⟨nmsF (flatNums _ _ _ _), ⟨nmsX (by kernel_rfl), trivial⟩⟩⟩⟩⟩⟩⟩⟩⟩ ?_
    refine segWH 2 (T1 := (mkT 40 [(1, vP 1 0), (6, vP 8 0), (34, .bool false), (35, .agg #[vN X, vN Y, vN Z, vS 5 0, vS 6 0, vS 7 C.length]), (36, .agg #[vN X, vN Y, vN Z, .slice none 0 0, .slice none 0 0, vS 0 C.length])])) (by kernel_rfl) ?_
    refine rW (m := ⟨[9, 10, 11], [], [0]⟩) (v := .agg #[vN X, vN Y, vN Z, vS 9 0, vS 10 0, vS 11 C.length]) rfl (by kernel_rfl) (stN (i := 9) (E := [some ⟨nums ([] : List Int), 3, false, true⟩, some ⟨nums ([] : List Int), 3, false, true⟩, some ⟨nums C, 3, false, true⟩]) (v1 := .agg #[vN X, vN Y, vN Z, vS 12 0, vS 13 0, vS 14 C.length]) (args := [.agg #[vN X, vN Y, vN Z, .slice none 0 0, .slice none 0 0, vS 0 C.length]]) rfl (by kernel_rfl) (Any.lay (E := [some ⟨nums ([] : List Int), 3, false, true⟩, some ⟨nums ([] : List Int), 3, false, true⟩, some ⟨nums C, 3, false, true⟩]) (N := 12) [0] (toSh_nns ((X : Nat) : Int) ((Y : Nat) : Int) ((Z : Nat) : Int) C (by first | omega | assumption)) ⟨rdF false (flatNums _ _ _ _) rfl rfl, trivial⟩ rfl ⟨clF (flatNums _ _ _ _), trivial⟩ rfl (by first | rfl | simp [mpV, mpA, mpS, mpP, renId, shift]) (by first | rfl | simp [mpV, mpA, mpS, mpP, renId, shift]) ⟨enF (flatNums _ _ _ _) (Or.inl rfl), ⟨enF (flatNums _ _ _ _) (Or.inl rfl), ⟨enF (flatNums _ _ _ _) (Or.inl rfl), trivial⟩⟩⟩) rfl (by kernel_rfl) (by kernel_rfl) (by kernel_rfl) (by kernel_rfl) (FlatH.cons (flatNums _ _ _ _) (FlatH.cons (flatNums _ _ _ _) (FlatH.cons (flatNums _ _ _ _) FlatH.nil)))) (by kernel_rfl) (NRs.all ⟨nrOf (by rfl) (nmF (flatNums _ _ _ _)), ⟨nrOf (by rfl) (nmF (flatNums _ _ _ _)), ⟨nrOf (by rfl) (nmF (flatNums _ _ _ _)), trivial⟩⟩⟩) ?_
    refine rW (m := ⟨[], [], [5, 6, 7, 9, 10, 11]⟩) (v := .bool true) rfl (by kernel_rfl) (stQ (args := [.agg #[vN X, vN Y, vN Z, vS 5 0, vS 6 0, vS 7 C.length], .agg #[vN X, vN Y, vN Z, vS 9 0, vS 10 0, vS 11 C.length]]) rfl (by kernel_rfl) (Any.lay0 [5, 6, 7, 9, 10, 11] (eqSh ((X : Nat) : Int) ((Y : Nat) : Int) ((Z : Nat) : Int) ([] : List Int) ([] : List Int) C (by first | omega | assumption | (simp; done)) (by first | omega | assumption | (simp; done)) (by first | omega | assumption | (simp; done))) ⟨rdF true (flatNums _ _ _ _) rfl rfl, ⟨rdF true (flatNums _ _ _ _) rfl rfl, ⟨rdF true (flatNums _ _ _ _) rfl rfl, ⟨rdF true (flatNums _ _ _ _) rfl rfl, ⟨rdF true (flatNums _ _ _ _) rfl rfl, ⟨rdF true (flatNums _ _ _ _) rfl rfl, trivial⟩⟩⟩⟩⟩⟩ rfl ⟨clF (flatNums _ _ _ _), ⟨clF (flatNums _ _ _ _), ⟨clF (flatNums _ _ _ _), ⟨clF (flatNums _ _ _ _), ⟨clF (flatNums _ _ _ _), ⟨clF (flatNums _ _ _ _), trivial⟩⟩⟩⟩⟩⟩ rfl (by first | rfl | simp [mpV, mpA, mpS, mpP, renId, shift]) rfl) rfl (by kernel_rfl) (by kernel_rfl)) (by kernel_rfl) nr0 ?_
    refine segEndW [39] (T1 := (mkT 40 [(39, .bool false)])) (H1 := [some ⟨nums C, 3, false, false⟩, rB [vN X, vN Y, vN Z, .slice none 0 0, .slice none 0 0, vS 0 C.length] 24, some ⟨nums ([] : List Int), 3, false, true⟩, some ⟨nums ([] : List Int), 3, false, true⟩, some ⟨nums C, 3, false, true⟩, some ⟨nums ([] : List Int), 3, false, true⟩, some ⟨nums ([] : List Int), 3, false, true⟩, some ⟨nums C, 3, false, true⟩, rB [vN X, vN Y, vN Z, vS 5 0, vS 6 0, vS 7 C.length] 27, some ⟨nums ([] : List Int), 3, false, true⟩, some ⟨nums ([] : List Int), 3, false, true⟩, some ⟨nums C, 3, false, true⟩]) (by kernel_rfl) ?_
    refine kSeq ?_
    refine cFalse (by kernel_rfl) ?_
    refine cSkip ?_
    refine kSeq ?_
    refine cSeq ?_
    refine cReg ?_
    refine segEndH [2] (T1 := (mkT 40 [(2, .bool true)])) (by kernel_rfl) ?_
    refine kSeq ?_
    refine cRet ?_
    -- end
    exact endQ (Or.inr rfl) (l := [.bool true]) [rB [vN X, vN Y, vN Z, .slice none 0 0, .slice none 0 0, vS 0 C.length] 24, some ⟨nums ([] : List Int), 3, false, true⟩, some ⟨nums ([] : List Int), 3, false, true⟩, some ⟨nums C, 3, false, true⟩, some ⟨nums ([] : List Int), 3, false, true⟩, some ⟨nums ([] : List Int), 3, false, true⟩, some ⟨nums C, 3, false, true⟩, rB [vN X, vN Y, vN Z, vS 5 0, vS 6 0, vS 7 C.length] 27, some ⟨nums ([] : List Int), 3, false, true⟩, some ⟨nums ([] : List Int), 3, false, true⟩, some ⟨nums C, 3, false, true⟩] (by kernel_rfl) (by first | rfl | kernel_rfl) rfl rfl hcl rfl
  ·
    (try simp only [Bool.not_eq_true', Bool.not_eq_false', decide_eq_true_eq, decide_eq_false_iff_not, beq_iff_eq, bne_iff_ne, beq_eq_false_iff_ne, bne_eq_false_iff_eq, ne_eq, Decidable.not_not, Bool.and_eq_true, Bool.and_eq_false_imp, Bool.or_eq_true, Bool.or_eq_false_iff, Bool.not_eq_true, Int.not_lt, Int.not_le, ge_iff_le, gt_iff_lt] at h1)
    exfalso; omega

set_option maxRecDepth 100000 in
set_option maxHeartbeats 4000000 in
theorem lawLineBound_no_nnn (x : Int) (y : Int) (z : Int) (hv : valid3 x y z = false) : Sound Try.prog 5 [.agg #[vI x, vI y, vI z, .slice none 0 0, .slice none 0 0, .slice none 0 0]] [] (.bool true) [] := by
  refine sound_intro (C := cx) Try.func5 rfl (by kernel_rfl) fun hcl => ?_
  refine cSeq ?_
  refine cReg ?_
  refine segEnd [1] (T1 := (mkT 40 [(1, vP 0 0)])) (H1 := [rB [vI x, vI y, vI z, .slice none 0 0, .slice none 0 0, .slice none 0 0] 24]) (by kernel_rfl) ?_
  refine kSeq ?_
  refine cSeq ?_
  refine cReg ?_
  refine segEndH [1, 3] (T1 := (mkT 40 [(1, vP 0 0), (3, vI 1048576)])) (by kernel_rfl) ?_
  refine kSeq ?_
  refine cSeq ?_
  refine cReg ?_
  refine segH 2 (T1 := (mkT 40 [(1, vP 0 0), (3, vI 1048576), (9, .agg #[vI x, vI y, vI z, .slice none 0 0, .slice none 0 0, .slice none 0 0]), (10, vI 1048576)])) (by kernel_rfl) ?_
  refine rCall (v := vI 1048576) (args := [.agg #[vI x, vI y, vI z, .slice none 0 0, .slice none 0 0, .slice none 0 0], vI 1048576]) (by kernel_rfl) rfl (by kernel_rfl) (Sound.lay0 [] (szSh_nnn x y z 1048576 (by first | omega | assumption | decide)) trivial rfl trivial rfl (by first | rfl | simp [mpV, mpA, mpS, mpP, renId, shift]) rfl) ?_
  refine segEndH [1, 3] (T1 := (mkT 40 [(1, vP 0 0), (3, vI 1048576)])) (by kernel_rfl) ?_
  refine kSeq ?_
  refine cSeq ?_
  refine cSeq ?_
  refine cReg ?_
  refine segEndH [1, 13] (T1 := (mkT 40 [(1, vP 0 0), (13, .bool false)])) (by kernel_rfl) ?_
  refine kSeq ?_
  refine cFalse (by kernel_rfl) ?_
  refine cSkip ?_
  refine kSeq ?_
  refine cSeq ?_
  refine cReg ?_
  refine segH 1 (T1 := (mkT 40 [(1, vP 0 0), (13, .bool false), (15, .agg #[vI x, vI y, vI z, .slice none 0 0, .slice none 0 0, .slice none 0 0])])) (by kernel_rfl) ?_
  refine rCall (v := .agg #[vI x, vI y, vI z, vS 1 0, vS 2 0, vS 3 0]) (args := [.agg #[vI x, vI y, vI z, .slice none 0 0, .slice none 0 0, .slice none 0 0]]) (by kernel_rfl) rfl (by kernel_rfl) (Sound.lay (E := [some ⟨nums ([] : List Int), 3, false, true⟩, some ⟨nums ([] : List Int), 3, false, true⟩, some ⟨nums ([] : List Int), 3, false, true⟩]) [] (toSh_nnn x y z) trivial rfl trivial rfl (by first | rfl | simp [mpV, mpA, mpS, mpP, renId, shift]) (by first | rfl | simp [mpV, mpA, mpS, mpP, renId, shift]) ⟨enF (flatNums _ _ _ _) (Or.inl rfl), ⟨enF (flatNums _ _ _ _) (Or.inl rfl), ⟨enF (flatNums _ _ _ _) (Or.inl rfl), trivial⟩⟩⟩) ?_
  refine rCall (v := .tuple #[vI 0, .bool false]) (args := [.agg #[vI x, vI y, vI z, vS 1 0, vS 2 0, vS 3 0]]) (by kernel_rfl) rfl (by kernel_rfl) (Sound.lay0 [1, 2, 3] (specLineBound_no x y z ([] : List Int) ([] : List Int) ([] : List Int) (by first | assumption | omega | rfl | decide | exact HeapL.list _ _ _ _ | exact HeapL.nil _ _ _ | exact HeapL.all _ _ _ | (apply HeapL.lt64 <;> assumption) | (repeat' (first | assumption | apply or_lt64 | apply and_lt64 | apply andn_lt64 | apply pow_lt64 | (apply HeapL.lt64 <;> assumption)))) (by first | omega | assumption | (simp; done)) (by first | omega | assumption | (simp; done)) (by first | omega | assumption | (simp; done))) ⟨rdF true (flatNums _ _ _ _) rfl rfl, ⟨rdF true (flatNums _ _ _ _) rfl rfl, ⟨rdF true (flatNums _ _ _ _) rfl rfl, trivial⟩⟩⟩ rfl ⟨clF (flatNums _ _ _ _), ⟨clF (flatNums _ _ _ _), ⟨clF (flatNums _ _ _ _), trivial⟩⟩⟩ rfl (by first | rfl | simp [mpV, mpA, mpS, mpP, renId, shift]) (by first | rfl | simp [mpV, mpA, mpS, mpP, renId, shift])) ?_
  refine segEnd [1, 4, 5] (T1 := (mkT 40 [(1, vP 0 0), (4, vI 0), (5, .bool false)])) (H1 := [rB [vI x, vI y, vI z, .slice none 0 0, .slice none 0 0, .slice none 0 0] 24, some ⟨nums ([] : List Int), 3, false, true⟩, some ⟨nums ([] : List Int), 3, false, true⟩, some ⟨nums ([] : List Int), 3, false, true⟩]) (by kernel_rfl) ?_
  refine kSeq ?_
  refine cSeq ?_
  refine cReg ?_
  refine segH 1 (T1 := (mkT 40 [(1, vP 0 0), (4, vI 0), (5, .bool false), (20, .agg #[vI x, vI y, vI z, .slice none 0 0, .slice none 0 0, .slice none 0 0])])) (by kernel_rfl) ?_
  refine rCall (v := .agg #[vI x, vI y, vI z, vS 4 0, vS 5 0, vS 6 0]) (args := [.agg #[vI x, vI y, vI z, .slice none 0 0, .slice none 0 0, .slice none 0 0]]) (by kernel_rfl) rfl (by kernel_rfl) (Sound.lay (E := [some ⟨nums ([] : List Int), 3, false, true⟩, some ⟨nums ([] : List Int), 3, false, true⟩, some ⟨nums ([] : List Int), 3, false, true⟩]) [] (toSh_nnn x y z) trivial rfl trivial rfl (by first | rfl | simp [mpV, mpA, mpS, mpP, renId, shift]) (by first | rfl | simp [mpV, mpA, mpS, mpP, renId, shift]) ⟨enF (flatNums _ _ _ _) (Or.inl rfl), ⟨enF (flatNums _ _ _ _) (Or.inl rfl), ⟨enF (flatNums _ _ _ _) (Or.inl rfl), trivial⟩⟩⟩) ?_
  refine segEnd [1, 4, 5, 6] (T1 := (mkT 40 [(1, vP 0 0), (4, vI 0), (5, .bool false), (6, vP 7 0)])) (H1 := [rB [vI x, vI y, vI z, .slice none 0 0, .slice none 0 0, .slice none 0 0] 24, some ⟨nums ([] : List Int), 3, false, true⟩, some ⟨nums ([] : List Int), 3, false, true⟩, some ⟨nums ([] : List Int), 3, false, true⟩, some ⟨nums ([] : List Int), 3, false, true⟩, some ⟨nums ([] : List Int), 3, false, true⟩, some ⟨nums ([] : List Int), 3, false, true⟩, rB [vI x, vI y, vI z, vS 4 0, vS 5 0, vS 6 0] 27]) (by kernel_rfl) ?_
  refine kSeq ?_
  refine cSeq ?_
  refine cReg ?_
  refine segH 1 (T1 := (mkT 40 [(1, vP 0 0), (4, vI 0), (5, .bool false), (6, vP 7 0), (23, .agg #[vI x, vI y, vI z, vS 4 0, vS 5 0, vS 6 0])])) (by kernel_rfl) ?_
  refine rCall (v := .tuple #[vI 0, .bool false]) (args := [.agg #[vI x, vI y, vI z, vS 4 0, vS 5 0, vS 6 0]]) (by kernel_rfl) rfl (by kernel_rfl) (Sound.lay0 [4, 5, 6] (implLineBound_no x y z ([] : List Int) ([] : List Int) ([] : List Int) (by first | assumption | omega | rfl | decide | exact HeapL.list _ _ _ _ | exact HeapL.nil _ _ _ | exact HeapL.all _ _ _ | (apply HeapL.lt64 <;> assumption) | (repeat' (first | assumption | apply or_lt64 | apply and_lt64 | apply andn_lt64 | apply pow_lt64 | (apply HeapL.lt64 <;> assumption)))) (by first | omega | assumption | (simp; done)) (by first | omega | assumption | (simp; done)) (by first | omega | assumption | (simp; done))) ⟨rdF true (flatNums _ _ _ _) rfl rfl, ⟨rdF true (flatNums _ _ _ _) rfl rfl, ⟨rdF true (flatNums _ _ _ _) rfl rfl, trivial⟩⟩⟩ rfl ⟨clF (flatNums _ _ _ _), ⟨clF (flatNums _ _ _ _), ⟨clF (flatNums _ _ _ _), trivial⟩⟩⟩ rfl (by first | rfl | simp [mpV, mpA, mpS, mpP, renId, shift]) (by first | rfl | simp [mpV, mpA, mpS, mpP, renId, shift])) ?_
  refine segEndH [1, 4, 5, 6, 7, 8] (T1 := (mkT 40 [(1, vP 0 0), (4, vI 0), (5, .bool false), (6, vP 7 0), (7, vI 0), (8, .bool false)])) (by kernel_rfl) ?_
  refine kSeq ?_
  refine cSeq ?_
  refine cSeq ?_
  refine cReg ?_
  refine segEndH [1, 6, 34] (T1 := (mkT 40 [(1, vP 0 0), (6, vP 7 0), (34, .bool false)])) (by kernel_rfl) ?_
  refine kSeq ?_
  refine cFalse (by kernel_rfl) ?_
  refine cSkip ?_
  refine kSeq ?_
  refine cSeq ?_
  refine cSeq ?_
  refine cRegW (N := 11) [⟨[], [], [7]⟩, ⟨[], [], [0]⟩, ⟨[8, 9, 10], [], []⟩, ⟨[], [], [4, 5, 6, 8, 9, 10]⟩, ⟨[], [], []⟩] 3 [8, 9, 10] (by rfl) (by rfl) (by kernel_rfl) (by kernel_rfl) (by kernel_rfl) ⟨nmsX (by kernel_rfl), ⟨nmsF (flatNums _ _ _ _), ⟨nmsF (flatNums _ _ _ _), ⟨nmsF (flatNums _ _ _ _), ⟨nmsF (flatNums _ _ _ _), ⟨nmsF (flatNums _ _ _ _), ⟨nmsF (flatNums _ _ _ _), ⟨nmsX (by kernel_rfl), trivial⟩⟩⟩⟩⟩⟩⟩⟩ ?_
  refine segWH 2 (T1 := (mkT 40 [(1, vP 0 0), (6, vP 7 0), (34, .bool false), (35, .agg #[vI x, vI y, vI z, vS 4 0, vS 5 0, vS 6 0]), (36, .agg #[vI x, vI y, vI z, .slice none 0 0, .slice none 0 0, .slice none 0 0])])) (by kernel_rfl) ?_
  refine rW (m := ⟨[8, 9, 10], [], []⟩) (v := .agg #[vI x, vI y, vI z, vS 8 0, vS 9 0, vS 10 0]) rfl (by kernel_rfl) (stN (i := 8) (E := [some ⟨nums ([] : List Int), 3, false, true⟩, some ⟨nums ([] : List Int), 3, false, true⟩, some ⟨nums ([] : List Int), 3, false, true⟩]) (v1 := .agg #[vI x, vI y, vI z, vS 11 0, vS 12 0, vS 13 0]) (args := [.agg #[vI x, vI y, vI z, .slice none 0 0, .slice none 0 0, .slice none 0 0]]) rfl (by kernel_rfl) (Any.lay (E := [some ⟨nums ([] : List Int), 3, false, true⟩, some ⟨nums ([] : List Int), 3, false, true⟩, some ⟨nums ([] : List Int), 3, false, true⟩]) (N := 11) [] (toSh_nnn x y z) trivial rfl trivial rfl (by first | rfl | simp [mpV, mpA, mpS, mpP, renId, shift]) (by first | rfl | simp [mpV, mpA, mpS, mpP, renId, shift]) ⟨enF (flatNums _ _ _ _) (Or.inl rfl), ⟨enF (flatNums _ _ _ _) (Or.inl rfl), ⟨enF (flatNums _ _ _ _) (Or.inl rfl), trivial⟩⟩⟩) rfl (by kernel_rfl) (by kernel_rfl) (by kernel_rfl) (by kernel_rfl) (FlatH.cons (flatNums _ _ _ _) (FlatH.cons (flatNums _ _ _ _) (FlatH.cons (flatNums _ _ _ _) FlatH.nil)))) (by kernel_rfl) (NRs.all ⟨nrOf (by rfl) (nmF (flatNums _ _ _ _)), ⟨nrOf (by rfl) (nmF (flatNums _ _ _ _)), ⟨nrOf (by rfl) (nmF (flatNums _ _ _ _)), trivial⟩⟩⟩) ?_
  refine rW (m := ⟨[], [], [4, 5, 6, 8, 9, 10]⟩) (v := .bool true) rfl (by kernel_rfl) (stQ (args := [.agg #[vI x, vI y, vI z, vS 4 0, vS 5 0, vS 6 0], .agg #[vI x, vI y, vI z, vS 8 0, vS 9 0, vS 10 0]]) rfl (by kernel_rfl) (Any.lay0 [4, 5, 6, 8, 9, 10] (eqSh x y z ([] : List Int) ([] : List Int) ([] : List Int) (by first | omega | assumption | (simp; done)) (by first | omega | assumption | (simp; done)) (by first | omega | assumption | (simp; done))) ⟨rdF true (flatNums _ _ _ _) rfl rfl, ⟨rdF true (flatNums _ _ _ _) rfl rfl, ⟨rdF true (flatNums _ _ _ _) rfl rfl, ⟨rdF true (flatNums _ _ _ _) rfl rfl, ⟨rdF true (flatNums _ _ _ _) rfl rfl, ⟨rdF true (flatNums _ _ _ _) rfl rfl, trivial⟩⟩⟩⟩⟩⟩ rfl ⟨clF (flatNums _ _ _ _), ⟨clF (flatNums _ _ _ _), ⟨clF (flatNums _ _ _ _), ⟨clF (flatNums _ _ _ _), ⟨clF (flatNums _ _ _ _), ⟨clF (flatNums _ _ _ _), trivial⟩⟩⟩⟩⟩⟩ rfl (by first | rfl | simp [mpV, mpA, mpS, mpP, renId, shift]) rfl) rfl (by kernel_rfl) (by kernel_rfl)) (by kernel_rfl) nr0 ?_
  refine segEndW [39] (T1 := (mkT 40 [(39, .bool false)])) (H1 := [rB [vI x, vI y, vI z, .slice none 0 0, .slice none 0 0, .slice none 0 0] 24, some ⟨nums ([] : List Int), 3, false, true⟩, some ⟨nums ([] : List Int), 3, false, true⟩, some ⟨nums ([] : List Int), 3, false, true⟩, some ⟨nums ([] : List Int), 3, false, true⟩, some ⟨nums ([] : List Int), 3, false, true⟩, some ⟨nums ([] : List Int), 3, false, true⟩, rB [vI x, vI y, vI z, vS 4 0, vS 5 0, vS 6 0] 27, some ⟨nums ([] : List Int), 3, false, true⟩, some ⟨nums ([] : List Int), 3, false, true⟩, some ⟨nums ([] : List Int), 3, false, true⟩]) (by kernel_rfl) ?_
  refine kSeq ?_
  refine cFalse (by kernel_rfl) ?_
  refine cSkip ?_
  refine kSeq ?_
  refine cSeq ?_
  refine cReg ?_
  refine segEndH [2] (T1 := (mkT 40 [(2, .bool true)])) (by kernel_rfl) ?_
  refine kSeq ?_
  refine cRet ?_
  -- end
  exact endQ (Or.inr rfl) (l := [.bool true]) [rB [vI x, vI y, vI z, .slice none 0 0, .slice none 0 0, .slice none 0 0] 24, some ⟨nums ([] : List Int), 3, false, true⟩, some ⟨nums ([] : List Int), 3, false, true⟩, some ⟨nums ([] : List Int), 3, false, true⟩, some ⟨nums ([] : List Int), 3, false, true⟩, some ⟨nums ([] : List Int), 3, false, true⟩, some ⟨nums ([] : List Int), 3, false, true⟩, rB [vI x, vI y, vI z, vS 4 0, vS 5 0, vS 6 0] 27, some ⟨nums ([] : List Int), 3, false, true⟩, some ⟨nums ([] : List Int), 3, false, true⟩, some ⟨nums ([] : List Int), 3, false, true⟩] (by kernel_rfl) (by first | rfl | kernel_rfl) rfl rfl hcl rfl

set_option maxRecDepth 100000 in
set_option maxHeartbeats 4000000 in
theorem lawLineBound_yes_nnn (X : Nat) (Y : Nat) (Z : Nat) (hs : Sides X Y Z) : Sound Try.prog 5 [.agg #[vN X, vN Y, vN Z, .slice none 0 0, .slice none 0 0, .slice none 0 0]] [] (.bool true) [] := by
  refine sound_intro (C := cx) Try.func5 rfl (by kernel_rfl) fun hcl => ?_
  refine cSeq ?_
  refine cReg ?_
  refine segEnd [1] (T1 := (mkT 40 [(1, vP 0 0)])) (H1 := [rB [vN X, vN Y, vN Z, .slice none 0 0, .slice none 0 0, .slice none 0 0] 24]) (by kernel_rfl) ?_
  refine kSeq ?_
  refine cSeq ?_
  refine cReg ?_
  refine segEndH [1, 3] (T1 := (mkT 40 [(1, vP 0 0), (3, vI 1048576)])) (by kernel_rfl) ?_
  refine kSeq ?_
  refine cSeq ?_
  refine cReg ?_
  refine segH 2 (T1 := (mkT 40 [(1, vP 0 0), (3, vI 1048576), (9, .agg #[vN X, vN Y, vN Z, .slice none 0 0, .slice none 0 0, .slice none 0 0]), (10, vI 1048576)])) (by kernel_rfl) ?_
  refine rCall (v := vI 1048576) (args := [.agg #[vN X, vN Y, vN Z, .slice none 0 0, .slice none 0 0, .slice none 0 0], vI 1048576]) (by kernel_rfl) rfl (by kernel_rfl) (Sound.lay0 [] (szSh_nnn ((X : Nat) : Int) ((Y : Nat) : Int) ((Z : Nat) : Int) 1048576 (by first | omega | assumption | decide)) trivial rfl trivial rfl (by first | rfl | simp [mpV, mpA, mpS, mpP, renId, shift]) rfl) ?_
  refine segEndH [1, 3] (T1 := (mkT 40 [(1, vP 0 0), (3, vI 1048576)])) (by kernel_rfl) ?_
  refine kSeq ?_
  refine cSeq ?_
  refine cSeq ?_
  refine cReg ?_
  refine segEndH [1, 13] (T1 := (mkT 40 [(1, vP 0 0), (13, .bool false)])) (by kernel_rfl) ?_
  refine kSeq ?_
  refine cFalse (by kernel_rfl) ?_
  refine cSkip ?_
  refine kSeq ?_
  refine cSeq ?_
  refine cReg ?_
  refine segH 1 (T1 := (mkT 40 [(1, vP 0 0), (13, .bool false), (15, .agg #[vN X, vN Y, vN Z, .slice none 0 0, .slice none 0 0, .slice none 0 0])])) (by kernel_rfl) ?_
  refine rCall (v := .agg #[vN X, vN Y, vN Z, vS 1 0, vS 2 0, vS 3 0]) (args := [.agg #[vN X, vN Y, vN Z, .slice none 0 0, .slice none 0 0, .slice none 0 0]]) (by kernel_rfl) rfl (by kernel_rfl) (Sound.lay (E := [some ⟨nums ([] : List Int), 3, false, true⟩, some ⟨nums ([] : List Int), 3, false, true⟩, some ⟨nums ([] : List Int), 3, false, true⟩]) [] (toSh_nnn ((X : Nat) : Int) ((Y : Nat) : Int) ((Z : Nat) : Int)) trivial rfl trivial rfl (by first | rfl | simp [mpV, mpA, mpS, mpP, renId, shift]) (by first | rfl | simp [mpV, mpA, mpS, mpP, renId, shift]) ⟨enF (flatNums _ _ _ _) (Or.inl rfl), ⟨enF (flatNums _ _ _ _) (Or.inl rfl), ⟨enF (flatNums _ _ _ _) (Or.inl rfl), trivial⟩⟩⟩) ?_
  refine rCall (v := .tuple #[vI (lbS X Y Z ([] : List Int) ([] : List Int) ([] : List Int)), .bool (shadB X Y Z ([] : List Int) ([] : List Int) ([] : List Int))]) (args := [.agg #[vN X, vN Y, vN Z, vS 1 0, vS 2 0, vS 3 0]]) (by kernel_rfl) rfl (by kernel_rfl) (Sound.lay0 [1, 2, 3] (specLineBound_yes X Y Z ([] : List Int) ([] : List Int) ([] : List Int) (by first | assumption | omega | rfl | decide | exact HeapL.list _ _ _ _ | exact HeapL.nil _ _ _ | exact HeapL.all _ _ _ | (apply HeapL.lt64 <;> assumption) | (repeat' (first | assumption | apply or_lt64 | apply and_lt64 | apply andn_lt64 | apply pow_lt64 | (apply HeapL.lt64 <;> assumption)))) (by first | omega | assumption | (simp; done)) (by first | omega | assumption | (simp; done)) (by first | omega | assumption | (simp; done))) ⟨rdF true (flatNums _ _ _ _) rfl rfl, ⟨rdF true (flatNums _ _ _ _) rfl rfl, ⟨rdF true (flatNums _ _ _ _) rfl rfl, trivial⟩⟩⟩ rfl ⟨clF (flatNums _ _ _ _), ⟨clF (flatNums _ _ _ _), ⟨clF (flatNums _ _ _ _), trivial⟩⟩⟩ rfl (by first | rfl | simp [mpV, mpA, mpS, mpP, renId, shift]) (by first | rfl | simp [mpV, mpA, mpS, mpP, renId, shift])) ?_
  refine segEnd [1, 4, 5] (T1 := (mkT 40 [(1, vP 0 0), (4, vI (lbS X Y Z ([] : List Int) ([] : List Int) ([] : List Int))), (5, .bool (shadB X Y Z ([] : List Int) ([] : List Int) ([] : List Int)))])) (H1 := [rB [vN X, vN Y, vN Z, .slice none 0 0, .slice none 0 0, .slice none 0 0] 24, some ⟨nums ([] : List Int), 3, false, true⟩, some ⟨nums ([] : List Int), 3, false, true⟩, some ⟨nums ([] : List Int), 3, false, true⟩]) (by kernel_rfl) ?_
  refine kSeq ?_
  refine cSeq ?_
  refine cReg ?_
  refine segH 1 (T1 := (mkT 40 [(1, vP 0 0), (4, vI (lbS X Y Z ([] : List Int) ([] : List Int) ([] : List Int))), (5, .bool (shadB X Y Z ([] : List Int) ([] : List Int) ([] : List Int))), (20, .agg #[vN X, vN Y, vN Z, .slice none 0 0, .slice none 0 0, .slice none 0 0])])) (by kernel_rfl) ?_
  refine rCall (v := .agg #[vN X, vN Y, vN Z, vS 4 0, vS 5 0, vS 6 0]) (args := [.agg #[vN X, vN Y, vN Z, .slice none 0 0, .slice none 0 0, .slice none 0 0]]) (by kernel_rfl) rfl (by kernel_rfl) (Sound.lay (E := [some ⟨nums ([] : List Int), 3, false, true⟩, some ⟨nums ([] : List Int), 3, false, true⟩, some ⟨nums ([] : List Int), 3, false, true⟩]) [] (toSh_nnn ((X : Nat) : Int) ((Y : Nat) : Int) ((Z : Nat) : Int)) trivial rfl trivial rfl (by first | rfl | simp [mpV, mpA, mpS, mpP, renId, shift]) (by first | rfl | simp [mpV, mpA, mpS, mpP, renId, shift]) ⟨enF (flatNums _ _ _ _) (Or.inl rfl), ⟨enF (flatNums _ _ _ _) (Or.inl rfl), ⟨enF (flatNums _ _ _ _) (Or.inl rfl), trivial⟩⟩⟩) ?_
  refine segEnd [1, 4, 5, 6] (T1 := (mkT 40 [(1, vP 0 0), (4, vI (lbS X Y Z ([] : List Int) ([] : List Int) ([] : List Int))), (5, .bool (shadB X Y Z ([] : List Int) ([] : List Int) ([] : List Int))), (6, vP 7 0)])) (H1 := [rB [vN X, vN Y, vN Z, .slice none 0 0, .slice none 0 0, .slice none 0 0] 24, some ⟨nums ([] : List Int), 3, false, true⟩, some ⟨nums ([] : List Int), 3, false, true⟩, some ⟨nums ([] : List Int), 3, false, true⟩, some ⟨nums ([] : List Int), 3, false, true⟩, some ⟨nums ([] : List Int), 3, false, true⟩, some ⟨nums ([] : List Int), 3, false, true⟩, rB [vN X, vN Y, vN Z, vS 4 0, vS 5 0, vS 6 0] 27]) (by kernel_rfl) ?_
  refine kSeq ?_
  refine cSeq ?_
  refine cReg ?_
  refine segH 1 (T1 := (mkT 40 [(1, vP 0 0), (4, vI (lbS X Y Z ([] : List Int) ([] : List Int) ([] : List Int))), (5, .bool (shadB X Y Z ([] : List Int) ([] : List Int) ([] : List Int))), (6, vP 7 0), (23, .agg #[vN X, vN Y, vN Z, vS 4 0, vS 5 0, vS 6 0])])) (by kernel_rfl) ?_
  refine rCall (v := .tuple #[vI (lbS X Y Z ([] : List Int) ([] : List Int) ([] : List Int)), .bool (shadB X Y Z ([] : List Int) ([] : List Int) ([] : List Int))]) (args := [.agg #[vN X, vN Y, vN Z, vS 4 0, vS 5 0, vS 6 0]]) (by kernel_rfl) rfl (by kernel_rfl) (Sound.lay0 [4, 5, 6] (implLineBound_yes X Y Z ([] : List Int) ([] : List Int) ([] : List Int) (by first | assumption | omega | rfl | decide | exact HeapL.list _ _ _ _ | exact HeapL.nil _ _ _ | exact HeapL.all _ _ _ | (apply HeapL.lt64 <;> assumption) | (repeat' (first | assumption | apply or_lt64 | apply and_lt64 | apply andn_lt64 | apply pow_lt64 | (apply HeapL.lt64 <;> assumption)))) (by first | omega | assumption | (simp; done)) (by first | omega | assumption | (simp; done)) (by first | omega | assumption | (simp; done))) ⟨rdF true (flatNums _ _ _ _) rfl rfl, ⟨rdF true (flatNums _ _ _ _) rfl rfl, ⟨rdF true (flatNums _ _ _ _) rfl rfl, trivial⟩⟩⟩ rfl ⟨clF (flatNums _ _ _ _), ⟨clF (flatNums _ _ _ _), ⟨clF (flatNums _ _ _ _), trivial⟩⟩⟩ rfl (by first | rfl | simp [mpV, mpA, mpS, mpP, renId, shift]) (by first | rfl | simp [mpV, mpA, mpS, mpP, renId, shift])) ?_
  refine segEndH [1, 4, 5, 6, 7, 8] (T1 := (mkT 40 [(1, vP 0 0), (4, vI (lbS X Y Z ([] : List Int) ([] : List Int) ([] : List Int))), (5, .bool (shadB X Y Z ([] : List Int) ([] : List Int) ([] : List Int))), (6, vP 7 0), (7, vI (lbS X Y Z ([] : List Int) ([] : List Int) ([] : List Int))), (8, .bool (shadB X Y Z ([] : List Int) ([] : List Int) ([] : List Int)))])) (by kernel_rfl) ?_
  refine kSeq ?_
  refine cSeq ?_
  refine cSeq ?_
  refine cReg ?_
  refine segH 2 (T1 := (mkT 40 [(1, vP 0 0), (4, vI (lbS X Y Z ([] : List Int) ([] : List Int) ([] : List Int))), (5, .bool (shadB X Y Z ([] : List Int) ([] : List Int) ([] : List Int))), (6, vP 7 0), (7, vI (lbS X Y Z ([] : List Int) ([] : List Int) ([] : List Int))), (8, .bool (shadB X Y Z ([] : List Int) ([] : List Int) ([] : List Int))), (27, vI (lbS X Y Z ([] : List Int) ([] : List Int) ([] : List Int))), (28, vI (lbS X Y Z ([] : List Int) ([] : List Int) ([] : List Int)))])) (by kernel_rfl) ?_
  refine rOp (v := .bool false) (by kernel_rfl) (eNeS (k := .i64) (a := (lbS X Y Z ([] : List Int) ([] : List Int) ([] : List Int))) (by kernel_rfl) (by kernel_rfl)) ?_
  refine segH 3 (T1 := (mkT 40 [(1, vP 0 0), (4, vI (lbS X Y Z ([] : List Int) ([] : List Int) ([] : List Int))), (5, .bool (shadB X Y Z ([] : List Int) ([] : List Int) ([] : List Int))), (6, vP 7 0), (7, vI (lbS X Y Z ([] : List Int) ([] : List Int) ([] : List Int))), (8, .bool (shadB X Y Z ([] : List Int) ([] : List Int) ([] : List Int))), (27, vI (lbS X Y Z ([] : List Int) ([] : List Int) ([] : List Int))), (28, vI (lbS X Y Z ([] : List Int) ([] : List Int) ([] : List Int))), (29, .bool false), (30, .bool false), (31, .bool (shadB X Y Z ([] : List Int) ([] : List Int) ([] : List Int))), (32, .bool (shadB X Y Z ([] : List Int) ([] : List Int) ([] : List Int)))])) (by kernel_rfl) ?_
  refine rOp (v := .bool false) (by kernel_rfl) (eNeB (b := (shadB X Y Z ([] : List Int) ([] : List Int) ([] : List Int))) (by kernel_rfl) (by kernel_rfl) (by kernel_rfl)) ?_
  refine segEndH [1, 6, 34] (T1 := (mkT 40 [(1, vP 0 0), (6, vP 7 0), (34, .bool false)])) (by kernel_rfl) ?_
  refine kSeq ?_
  refine cFalse (by kernel_rfl) ?_
  refine cSkip ?_
  refine kSeq ?_
  refine cSeq ?_
  refine cSeq ?_
  refine cRegW (N := 11) [⟨[], [], [7]⟩, ⟨[], [], [0]⟩, ⟨[8, 9, 10], [], []⟩, ⟨[], [], [4, 5, 6, 8, 9, 10]⟩, ⟨[], [], []⟩] 3 [8, 9, 10] (by rfl) (by rfl) (by kernel_rfl) (by kernel_rfl) (by kernel_rfl) ⟨nmsX (by kernel_rfl), ⟨nmsF (flatNums _ _ _ _), ⟨nmsF (flatNums _ _ _ _), ⟨nmsF (flatNums _ _ _ _), ⟨nmsF (flatNums _ _ _ _), ⟨nmsF (flatNums _ _ _ _), ⟨nmsF (flatNums _ _ _ _), ⟨nmsX (by kernel_rfl), trivial⟩⟩⟩⟩⟩⟩⟩⟩ ?_
  refine segWH 2 (T1 := (mkT 40 [(1, vP 0 0), (6, vP 7 0), (34, .bool false), (35, .agg #[vN X, vN Y, vN Z, vS 4 0, vS 5 0, vS 6 0]), (36, .agg #[vN X, vN Y, vN Z, .slice none 0 0, .slice none 0 0, .slice none 0 0])])) (by kernel_rfl) ?_
  refine rW (m := ⟨[8, 9, 10], [], []⟩) (v := .agg #[vN X, vN Y, vN Z, vS 8 0, vS 9 0, vS 10 0]) rfl (by kernel_rfl) (stN (i := 8) (E := [some ⟨nums ([] : List Int), 3, false, true⟩, some ⟨nums ([] : List Int), 3, false, true⟩, some ⟨nums ([] : List Int), 3, false, true⟩]) (v1 := .agg #[vN X, vN Y, vN Z, vS 11 0, vS 12 0, vS 13 0]) (args := [.agg #[vN X, vN Y, vN Z, .slice none 0 0, .slice none 0 0, .slice none 0 0]]) rfl (by kernel_rfl) (Any.lay (E := [some ⟨nums ([] : List Int), 3, false, true⟩, some ⟨nums ([] : List Int), 3, false, true⟩, some ⟨nums ([] : List Int), 3, false, true⟩]) (N := 11) [] (toSh_nnn ((X : Nat) : Int) ((Y : Nat) : Int) ((Z : Nat) : Int)) trivial rfl trivial rfl (by first | rfl | simp [mpV, mpA, mpS, mpP, renId, shift]) (by first | rfl | simp [mpV, mpA, mpS, mpP, renId, shift]) ⟨enF (flatNums _ _ _ _) (Or.inl rfl), ⟨enF (flatNums _ _ _ _) (Or.inl rfl), ⟨enF (flatNums _ _ _ _) (Or.inl rfl), trivial⟩⟩⟩) rfl (by kernel_rfl) (by kernel_rfl) (by kernel_rfl) (by kernel_rfl) (FlatH.cons (flatNums _ _ _ _) (FlatH.cons (flatNums _ _ _ _) (FlatH.cons (flatNums _ _ _ _) FlatH.nil)))) (by kernel_rfl) (NRs.all ⟨nrOf (by rfl) (nmF (flatNums _ _ _ _)), ⟨nrOf (by rfl) (nmF (flatNums _ _ _ _)), ⟨nrOf (by rfl) (nmF (flatNums _ _ _ _)), trivial⟩⟩⟩) ?_
  refine rW (m := ⟨[], [], [4, 5, 6, 8, 9, 10]⟩) (v := .bool true) rfl (by kernel_rfl) (stQ (args := [.agg #[vN X, vN Y, vN Z, vS 4 0, vS 5 0, vS 6 0], .agg #[vN X, vN Y, vN Z, vS 8 0, vS 9 0, vS 10 0]]) rfl (by kernel_rfl) (Any.lay0 [4, 5, 6, 8, 9, 10] (eqSh ((X : Nat) : Int) ((Y : Nat) : Int) ((Z : Nat) : Int) ([] : List Int) ([] : List Int) ([] : List Int) (by first | omega | assumption | (simp; done)) (by first | omega | assumption | (simp; done)) (by first | omega | assumption | (simp; done))) ⟨rdF true (flatNums _ _ _ _) rfl rfl, ⟨rdF true (flatNums _ _ _ _) rfl rfl, ⟨rdF true (flatNums _ _ _ _) rfl rfl, ⟨rdF true (flatNums _ _ _ _) rfl rfl, ⟨rdF true (flatNums _ _ _ _) rfl rfl, ⟨rdF true (flatNums _ _ _ _) rfl rfl, trivial⟩⟩⟩⟩⟩⟩ rfl ⟨clF (flatNums _ _ _ _), ⟨clF (flatNums _ _ _ _), ⟨clF (flatNums _ _ _ _), ⟨clF (flatNums _ _ _ _), ⟨clF (flatNums _ _ _ _), ⟨clF (flatNums _ _ _ _), trivial⟩⟩⟩⟩⟩⟩ rfl (by first | rfl | simp [mpV, mpA, mpS, mpP, renId, shift]) rfl) rfl (by kernel_rfl) (by kernel_rfl)) (by kernel_rfl) nr0 ?_
  refine segEndW [39] (T1 := (mkT 40 [(39, .bool false)])) (H1 := [rB [vN X, vN Y, vN Z, .slice none 0 0, .slice none 0 0, .slice none 0 0] 24, some ⟨nums ([] : List Int), 3, false, true⟩, some ⟨nums ([] : List Int), 3, false, true⟩, some ⟨nums ([] : List Int), 3, false, true⟩, some ⟨nums ([] : List Int), 3, false, true⟩, some ⟨nums ([] : List Int), 3, false, true⟩, some ⟨nums ([] : List Int), 3, false, true⟩, rB [vN X, vN Y, vN Z, vS 4 0, vS 5 0, vS 6 0] 27, some ⟨nums ([] : List Int), 3, false, true⟩, some ⟨nums ([] : List Int), 3, false, true⟩, some ⟨nums ([] : List Int), 3, false, true⟩]) (by kernel_rfl) ?_
  refine kSeq ?_
  refine cFalse (by kernel_rfl) ?_
  refine cSkip ?_
  refine kSeq ?_
  refine cSeq ?_
  refine cReg ?_
  refine segEndH [2] (T1 := (mkT 40 [(2, .bool true)])) (by kernel_rfl) ?_
  refine kSeq ?_
  refine cRet ?_
  -- end
  exact endQ (Or.inr rfl) (l := [.bool true]) [rB [vN X, vN Y, vN Z, .slice none 0 0, .slice none 0 0, .slice none 0 0] 24, some ⟨nums ([] : List Int), 3, false, true⟩, some ⟨nums ([] : List Int), 3, false, true⟩, some ⟨nums ([] : List Int), 3, false, true⟩, some ⟨nums ([] : List Int), 3, false, true⟩, some ⟨nums ([] : List Int), 3, false, true⟩, some ⟨nums ([] : List Int), 3, false, true⟩, rB [vN X, vN Y, vN Z, vS 4 0, vS 5 0, vS 6 0] 27, some ⟨nums ([] : List Int), 3, false, true⟩, some ⟨nums ([] : List Int), 3, false, true⟩, some ⟨nums ([] : List Int), 3, false, true⟩] (by kernel_rfl) (by first | rfl | kernel_rfl) rfl rfl hcl rfl

theorem lawLineBound_sss (x : Int) (y : Int) (z : Int) (A : List Int) (B : List Int) (C : List Int) (hmA : A.length ≤ 9223372036854775807) (hmB : B.length ≤ 9223372036854775807) (hmC : C.length ≤ 9223372036854775807) : Sound Try.prog 5 [.agg #[vI x, vI y, vI z, vS 0 A.length, vS 1 B.length, vS 2 C.length]] [some ⟨nums A, 3, false, false⟩, some ⟨nums B, 3, false, false⟩, some ⟨nums C, 3, false, false⟩] (.bool true) [some ⟨nums A, 3, false, false⟩, some ⟨nums B, 3, false, false⟩, some ⟨nums C, 3, false, false⟩] := by
  by_cases hlA : A.length ≤ 1048576
  · by_cases hlB : A.length + B.length ≤ 1048576
    · by_cases hlC : A.length + B.length + C.length ≤ 1048576
      · cases hv : valid3 x y z
        · exact lawLineBound_no_sss x y z A B C hlC hv
        · obtain ⟨X, Y, Z, rfl, rfl, rfl, g1, g2, g3, g4, g5, g6⟩ := nat_valid hv
          exact lawLineBound_yes_sss X Y Z A B C hlC ⟨g1, g2, g3, g4, g5, g6⟩
      · exact lawLineBound_bigC_sss x y z A B C (by omega) (by omega) hmC
    · exact lawLineBound_bigB_sss x y z A B C (by omega) (by omega) hmB
  · exact lawLineBound_bigA_sss x y z A B C (by omega) hmA

theorem lawLineBound_ssn (x : Int) (y : Int) (z : Int) (A : List Int) (B : List Int) (hmA : A.length ≤ 9223372036854775807) (hmB : B.length ≤ 9223372036854775807) : Sound Try.prog 5 [.agg #[vI x, vI y, vI z, vS 0 A.length, vS 1 B.length, .slice none 0 0]] [some ⟨nums A, 3, false, false⟩, some ⟨nums B, 3, false, false⟩] (.bool true) [some ⟨nums A, 3, false, false⟩, some ⟨nums B, 3, false, false⟩] := by
  by_cases hlA : A.length ≤ 1048576
  · by_cases hlB : A.length + B.length ≤ 1048576
    · cases hv : valid3 x y z
      · exact lawLineBound_no_ssn x y z A B hlB hv
      · obtain ⟨X, Y, Z, rfl, rfl, rfl, g1, g2, g3, g4, g5, g6⟩ := nat_valid hv
        exact lawLineBound_yes_ssn X Y Z A B hlB ⟨g1, g2, g3, g4, g5, g6⟩
    · exact lawLineBound_bigB_ssn x y z A B (by omega) (by omega) hmB
  · exact lawLineBound_bigA_ssn x y z A B (by omega) hmA

theorem lawLineBound_sns (x : Int) (y : Int) (z : Int) (A : List Int) (C : List Int) (hmA : A.length ≤ 9223372036854775807) (hmC : C.length ≤ 9223372036854775807) : Sound Try.prog 5 [.agg #[vI x, vI y, vI z, vS 0 A.length, .slice none 0 0, vS 1 C.length]] [some ⟨nums A, 3, false, false⟩, some ⟨nums C, 3, false, false⟩] (.bool true) [some ⟨nums A, 3, false, false⟩, some ⟨nums C, 3, false, false⟩] := by
  by_cases hlA : A.length ≤ 1048576
  · by_cases hlC : A.length + C.length ≤ 1048576
    · cases hv : valid3 x y z
      · exact lawLineBound_no_sns x y z A C hlC hv
      · obtain ⟨X, Y, Z, rfl, rfl, rfl, g1, g2, g3, g4, g5, g6⟩ := nat_valid hv
        exact lawLineBound_yes_sns X Y Z A C hlC ⟨g1, g2, g3, g4, g5, g6⟩
    · exact lawLineBound_bigC_sns x y z A C (by omega) (by omega) hmC
  · exact lawLineBound_bigA_sns x y z A C (by omega) hmA

theorem lawLineBound_snn (x : Int) (y : Int) (z : Int) (A : List Int) (hmA : A.length ≤ 9223372036854775807) : Sound Try.prog 5 [.agg #[vI x, vI y, vI z, vS 0 A.length, .slice none 0 0, .slice none 0 0]] [some ⟨nums A, 3, false, false⟩] (.bool true) [some ⟨nums A, 3, false, false⟩] := by
  by_cases hlA : A.length ≤ 1048576
  · cases hv : valid3 x y z
    · exact lawLineBound_no_snn x y z A hlA hv
    · obtain ⟨X, Y, Z, rfl, rfl, rfl, g1, g2, g3, g4, g5, g6⟩ := nat_valid hv
      exact lawLineBound_yes_snn X Y Z A hlA ⟨g1, g2, g3, g4, g5, g6⟩
  · exact lawLineBound_bigA_snn x y z A (by omega) hmA

theorem lawLineBound_nss (x : Int) (y : Int) (z : Int) (B : List Int) (C : List Int) (hmB : B.length ≤ 9223372036854775807) (hmC : C.length ≤ 9223372036854775807) : Sound Try.prog 5 [.agg #[vI x, vI y, vI z, .slice none 0 0, vS 0 B.length, vS 1 C.length]] [some ⟨nums B, 3, false, false⟩, some ⟨nums C, 3, false, false⟩] (.bool true) [some ⟨nums B, 3, false, false⟩, some ⟨nums C, 3, false, false⟩] := by
  by_cases hlB : B.length ≤ 1048576
  · by_cases hlC : B.length + C.length ≤ 1048576
    · cases hv : valid3 x y z
      · exact lawLineBound_no_nss x y z B C hlC hv
      · obtain ⟨X, Y, Z, rfl, rfl, rfl, g1, g2, g3, g4, g5, g6⟩ := nat_valid hv
        exact lawLineBound_yes_nss X Y Z B C hlC ⟨g1, g2, g3, g4, g5, g6⟩
    · exact lawLineBound_bigC_nss x y z B C (by omega) (by omega) hmC
  · exact lawLineBound_bigB_nss x y z B C (by omega) hmB

theorem lawLineBound_nsn (x : Int) (y : Int) (z : Int) (B : List Int) (hmB : B.length ≤ 9223372036854775807) : Sound Try.prog 5 [.agg #[vI x, vI y, vI z, .slice none 0 0, vS 0 B.length, .slice none 0 0]] [some ⟨nums B, 3, false, false⟩] (.bool true) [some ⟨nums B, 3, false, false⟩] := by
  by_cases hlB : B.length ≤ 1048576
  · cases hv : valid3 x y z
    · exact lawLineBound_no_nsn x y z B hlB hv
    · obtain ⟨X, Y, Z, rfl, rfl, rfl, g1, g2, g3, g4, g5, g6⟩ := nat_valid hv
      exact lawLineBound_yes_nsn X Y Z B hlB ⟨g1, g2, g3, g4, g5, g6⟩
  · exact lawLineBound_bigB_nsn x y z B (by omega) hmB

theorem lawLineBound_nns (x : Int) (y : Int) (z : Int) (C : List Int) (hmC : C.length ≤ 9223372036854775807) : Sound Try.prog 5 [.agg #[vI x, vI y, vI z, .slice none 0 0, .slice none 0 0, vS 0 C.length]] [some ⟨nums C, 3, false, false⟩] (.bool true) [some ⟨nums C, 3, false, false⟩] := by
  by_cases hlC : C.length ≤ 1048576
  · cases hv : valid3 x y z
    · exact lawLineBound_no_nns x y z C hlC hv
    · obtain ⟨X, Y, Z, rfl, rfl, rfl, g1, g2, g3, g4, g5, g6⟩ := nat_valid hv
      exact lawLineBound_yes_nns X Y Z C hlC ⟨g1, g2, g3, g4, g5, g6⟩
  · exact lawLineBound_bigC_nns x y z C (by omega) hmC

theorem lawLineBound_nnn (x : Int) (y : Int) (z : Int)  : Sound Try.prog 5 [.agg #[vI x, vI y, vI z, .slice none 0 0, .slice none 0 0, .slice none 0 0]] [] (.bool true) [] := by
  cases hv : valid3 x y z
  · exact lawLineBound_no_nnn x y z hv
  · obtain ⟨X, Y, Z, rfl, rfl, rfl, g1, g2, g3, g4, g5, g6⟩ := nat_valid hv
    exact lawLineBound_yes_nnn X Y Z ⟨g1, g2, g3, g4, g5, g6⟩
end Go.Proofs.Ytbheeobnghlckaa
namespace Go.Proofs.Ytbheeobnghlckaa.fnExactLineBound
open Go.Am Go.ChangeShapes Go.WideShapes Go.ChangeAt Go.RowKit
theorem own : ownKnob Try.prog.godebug = none := by kernel_rfl
theorem laidOut : laidOutB Try.prog = true := by kernel_rfl
set_option maxRecDepth 100000 in
theorem lifted (os : Os) (started : os.Started) (H : Type) (enc : TypeId × Value → H) :
    ReturnsInHanded {} Try.checked os 5 .any (Rows.fnExactLineBoundSpec.pre6 enc Try.prog Try.f5 Rows.fnExactLineBoundRow.domain false) (Rows.fnExactLineBoundSpec.post enc Try.prog Try.f5 false true false false) := by
  refine returnsInHanded_of_change_sized (C := Try.checked) own started (by kernel_rfl) Try.func5
    (ChangeSpec.witness6 (enc := enc) (C := Try.checked) false ⟨#[], #[.agg #[.int .i64 0, .int .i64 0, .int .i64 0, .slice none 0 0, .slice none 0 0, .slice none 0 0]], []⟩ 8 (by kernel_rfl) (by kernel_rfl) (by kernel_rfl) (by kernel_rfl)) ?_
  intro W base args ds gs before hval0 hW hcnd hsz0 _
  have hval : ∀ (j : Nat) t v, Try.f5.params[j]? = some t → args[j]? = some v → Value.okWide Try.prog W .any base t v := hval0
  have hW' := hW
  obtain ⟨p, q, hA0, hV, rfl, hfz, hnd⟩ := hW
  have hA : DataW.TrodAll enc Try.prog W 0 (fun _ => true) true Try.f5.params.toList args.toList ds p := hA0
  rw [Try.params5] at hA hval
  obtain ⟨v0, vs0, d0, ds0, p0, q0, hargs, rfl, rfl, h0, r0⟩ := trodAll_cons hA
  obtain ⟨rfl, rfl, rfl⟩ := trodAll_nil r0
  obtain rfl : args = #[v0] := by cases args; simp_all
  obtain ⟨rfl, rfl⟩ := trodVars_none hV
  have hlt0 : ∀ x ∈ p0, x.block < W.heap.size := fun x hx => by simpa using hW'.lt x (by simp [hx])
  have fin : (∃ Q : Prop, Q) ∧ Calls Try.prog 5 #[v0] W (fun e W' => e = .returned (.bool true) ∧ Below W.heap.size W W') := by
    refine ⟨⟨True, trivial⟩, ?_⟩
    obtain ⟨x, y, z, uA, uB, uC, rfl, wx, wy, wz, hsA, hsB, hsC⟩ := isShadow (b0 := base) Try.underlying24 ⟨rfl, rfl⟩ ⟨rfl, rfl⟩ ⟨rfl, rfl⟩ ⟨rfl, rfl⟩ ⟨rfl, rfl⟩ ⟨rfl, rfl⟩ Try.underlying22 Try.underlying3 (by kernel_rfl) (by kernel_rfl) (by kernel_rfl) (by kernel_rfl) (hval 0 24 v0 rfl rfl) h0
    rcases hsA with rfl | ⟨adA, capA, A, rfl, hmA, hwA, hrA⟩
    · rcases hsB with rfl | ⟨adB, capB, B, rfl, hmB, hwB, hrB⟩
      · rcases hsC with rfl | ⟨adC, capC, C, rfl, hmC, hwC, hrC⟩
        · have hS : Sound Try.prog 5 [.agg #[vI x, vI y, vI z, .slice none 0 0, .slice none 0 0, .slice none 0 0]] [] (.bool true) [] := lawLineBound_nnn x y z
          exact hS.top0 rfl rfl W
        · have hS : Sound Try.prog 5 [.agg #[vI x, vI y, vI z, .slice none 0 0, .slice none 0 0, vS 0 C.length]] [some ⟨nums C, 3, false, false⟩] (.bool true) [some ⟨nums C, 3, false, false⟩] := lawLineBound_nns x y z C hmC
          have h := Sound.topL (W := W) [(adC, capC, ⟨nums C, 3, false, false⟩)] hS (fun p hp => by
            simp only [List.mem_cons, List.not_mem_nil, or_false] at hp
            rcases hp with rfl
            · exact hrC) (fun x hx i hi => by
            simp only [List.mem_cons, List.not_mem_nil, or_false] at hx
            rcases hx with rfl <;> simp [idsV, idsA, idsS, idsP, vI, vN, vS] at hi
            all_goals simp; omega) rfl
          have hspC := hrC.1
          obtain ⟨blkC, offC, spotC⟩ := adC
          simp only at hspC
          subst hspC
          simpa [mapV, mpV, mpA, mpS, mpP, toReal, locsOf, vI, vN, vS] using h
      · rcases hsC with rfl | ⟨adC, capC, C, rfl, hmC, hwC, hrC⟩
        · have hS : Sound Try.prog 5 [.agg #[vI x, vI y, vI z, .slice none 0 0, vS 0 B.length, .slice none 0 0]] [some ⟨nums B, 3, false, false⟩] (.bool true) [some ⟨nums B, 3, false, false⟩] := lawLineBound_nsn x y z B hmB
          have h := Sound.topL (W := W) [(adB, capB, ⟨nums B, 3, false, false⟩)] hS (fun p hp => by
            simp only [List.mem_cons, List.not_mem_nil, or_false] at hp
            rcases hp with rfl
            · exact hrB) (fun x hx i hi => by
            simp only [List.mem_cons, List.not_mem_nil, or_false] at hx
            rcases hx with rfl <;> simp [idsV, idsA, idsS, idsP, vI, vN, vS] at hi
            all_goals simp; omega) rfl
          have hspB := hrB.1
          obtain ⟨blkB, offB, spotB⟩ := adB
          simp only at hspB
          subst hspB
          simpa [mapV, mpV, mpA, mpS, mpP, toReal, locsOf, vI, vN, vS] using h
        · have hS : Sound Try.prog 5 [.agg #[vI x, vI y, vI z, .slice none 0 0, vS 0 B.length, vS 1 C.length]] [some ⟨nums B, 3, false, false⟩, some ⟨nums C, 3, false, false⟩] (.bool true) [some ⟨nums B, 3, false, false⟩, some ⟨nums C, 3, false, false⟩] := lawLineBound_nss x y z B C hmB hmC
          have h := Sound.topL (W := W) [(adB, capB, ⟨nums B, 3, false, false⟩), (adC, capC, ⟨nums C, 3, false, false⟩)] hS (fun p hp => by
            simp only [List.mem_cons, List.not_mem_nil, or_false] at hp
            rcases hp with rfl | rfl
            · exact hrB
            · exact hrC) (fun x hx i hi => by
            simp only [List.mem_cons, List.not_mem_nil, or_false] at hx
            rcases hx with rfl <;> simp [idsV, idsA, idsS, idsP, vI, vN, vS] at hi
            all_goals simp; omega) rfl
          have hspB := hrB.1
          obtain ⟨blkB, offB, spotB⟩ := adB
          simp only at hspB
          subst hspB
          have hspC := hrC.1
          obtain ⟨blkC, offC, spotC⟩ := adC
          simp only at hspC
          subst hspC
          simpa [mapV, mpV, mpA, mpS, mpP, toReal, locsOf, vI, vN, vS] using h
    · rcases hsB with rfl | ⟨adB, capB, B, rfl, hmB, hwB, hrB⟩
      · rcases hsC with rfl | ⟨adC, capC, C, rfl, hmC, hwC, hrC⟩
        · have hS : Sound Try.prog 5 [.agg #[vI x, vI y, vI z, vS 0 A.length, .slice none 0 0, .slice none 0 0]] [some ⟨nums A, 3, false, false⟩] (.bool true) [some ⟨nums A, 3, false, false⟩] := lawLineBound_snn x y z A hmA
          have h := Sound.topL (W := W) [(adA, capA, ⟨nums A, 3, false, false⟩)] hS (fun p hp => by
            simp only [List.mem_cons, List.not_mem_nil, or_false] at hp
            rcases hp with rfl
            · exact hrA) (fun x hx i hi => by
            simp only [List.mem_cons, List.not_mem_nil, or_false] at hx
            rcases hx with rfl <;> simp [idsV, idsA, idsS, idsP, vI, vN, vS] at hi
            all_goals simp; omega) rfl
          have hspA := hrA.1
          obtain ⟨blkA, offA, spotA⟩ := adA
          simp only at hspA
          subst hspA
          simpa [mapV, mpV, mpA, mpS, mpP, toReal, locsOf, vI, vN, vS] using h
        · have hS : Sound Try.prog 5 [.agg #[vI x, vI y, vI z, vS 0 A.length, .slice none 0 0, vS 1 C.length]] [some ⟨nums A, 3, false, false⟩, some ⟨nums C, 3, false, false⟩] (.bool true) [some ⟨nums A, 3, false, false⟩, some ⟨nums C, 3, false, false⟩] := lawLineBound_sns x y z A C hmA hmC
          have h := Sound.topL (W := W) [(adA, capA, ⟨nums A, 3, false, false⟩), (adC, capC, ⟨nums C, 3, false, false⟩)] hS (fun p hp => by
            simp only [List.mem_cons, List.not_mem_nil, or_false] at hp
            rcases hp with rfl | rfl
            · exact hrA
            · exact hrC) (fun x hx i hi => by
            simp only [List.mem_cons, List.not_mem_nil, or_false] at hx
            rcases hx with rfl <;> simp [idsV, idsA, idsS, idsP, vI, vN, vS] at hi
            all_goals simp; omega) rfl
          have hspA := hrA.1
          obtain ⟨blkA, offA, spotA⟩ := adA
          simp only at hspA
          subst hspA
          have hspC := hrC.1
          obtain ⟨blkC, offC, spotC⟩ := adC
          simp only at hspC
          subst hspC
          simpa [mapV, mpV, mpA, mpS, mpP, toReal, locsOf, vI, vN, vS] using h
      · rcases hsC with rfl | ⟨adC, capC, C, rfl, hmC, hwC, hrC⟩
        · have hS : Sound Try.prog 5 [.agg #[vI x, vI y, vI z, vS 0 A.length, vS 1 B.length, .slice none 0 0]] [some ⟨nums A, 3, false, false⟩, some ⟨nums B, 3, false, false⟩] (.bool true) [some ⟨nums A, 3, false, false⟩, some ⟨nums B, 3, false, false⟩] := lawLineBound_ssn x y z A B hmA hmB
          have h := Sound.topL (W := W) [(adA, capA, ⟨nums A, 3, false, false⟩), (adB, capB, ⟨nums B, 3, false, false⟩)] hS (fun p hp => by
            simp only [List.mem_cons, List.not_mem_nil, or_false] at hp
            rcases hp with rfl | rfl
            · exact hrA
            · exact hrB) (fun x hx i hi => by
            simp only [List.mem_cons, List.not_mem_nil, or_false] at hx
            rcases hx with rfl <;> simp [idsV, idsA, idsS, idsP, vI, vN, vS] at hi
            all_goals simp; omega) rfl
          have hspA := hrA.1
          obtain ⟨blkA, offA, spotA⟩ := adA
          simp only at hspA
          subst hspA
          have hspB := hrB.1
          obtain ⟨blkB, offB, spotB⟩ := adB
          simp only at hspB
          subst hspB
          simpa [mapV, mpV, mpA, mpS, mpP, toReal, locsOf, vI, vN, vS] using h
        · have hS : Sound Try.prog 5 [.agg #[vI x, vI y, vI z, vS 0 A.length, vS 1 B.length, vS 2 C.length]] [some ⟨nums A, 3, false, false⟩, some ⟨nums B, 3, false, false⟩, some ⟨nums C, 3, false, false⟩] (.bool true) [some ⟨nums A, 3, false, false⟩, some ⟨nums B, 3, false, false⟩, some ⟨nums C, 3, false, false⟩] := lawLineBound_sss x y z A B C hmA hmB hmC
          have h := Sound.topL (W := W) [(adA, capA, ⟨nums A, 3, false, false⟩), (adB, capB, ⟨nums B, 3, false, false⟩), (adC, capC, ⟨nums C, 3, false, false⟩)] hS (fun p hp => by
            simp only [List.mem_cons, List.not_mem_nil, or_false] at hp
            rcases hp with rfl | rfl | rfl
            · exact hrA
            · exact hrB
            · exact hrC) (fun x hx i hi => by
            simp only [List.mem_cons, List.not_mem_nil, or_false] at hx
            rcases hx with rfl <;> simp [idsV, idsA, idsS, idsP, vI, vN, vS] at hi
            all_goals simp; omega) rfl
          have hspA := hrA.1
          obtain ⟨blkA, offA, spotA⟩ := adA
          simp only at hspA
          subst hspA
          have hspB := hrB.1
          obtain ⟨blkB, offB, spotB⟩ := adB
          simp only at hspB
          subst hspB
          have hspC := hrC.1
          obtain ⟨blkC, offC, spotC⟩ := adC
          simp only at hspC
          subst hspC
          simpa [mapV, mpV, mpA, mpS, mpP, toReal, locsOf, vI, vN, vS] using h
  clear hA0 hval0 hsz0
  refine fin.2.mono fun e W' ⟨he, bel⟩ => ?_
  subst he
  exact ⟨_, rfl, _, _, _, [], _, [], hW', trodAll_mk1 (shut_bool Try.underlying4 _), (trodAll_cons_mk (Below.trod laidOut (by kernel_rfl) (of_decide_eq_true (by kernel_rfl)) h0 bel hlt0) trodAll_mk0), rfl, bel.frame _, fun h => by cases h⟩
theorem over : Rows.fnExactLineBoundRow.holds Try.pinned (OpenSpec.ofChange Rows.fnExactLineBoundSpec) :=
  OpenClaim.holds_of_wide 5 Try.f5 rfl rfl rfl rfl rfl rfl rfl ⟨rfl, rfl, rfl, rfl, rfl⟩ rfl rfl rfl rfl rfl (by kernel_rfl) Try.func5 (by kernel_rfl)
    (of_decide_eq_true (by kernel_rfl)) (by unfold Func.isWrapper; first | (rw [if_pos (by decide +kernel)]; kernel_rfl) | (rw [if_neg (by decide +kernel)]; exact ⟨rfl, rfl⟩))
    (fun os started H enc _ => lifted os started H enc)
end Go.Proofs.Ytbheeobnghlckaa.fnExactLineBound
namespace Go.Proofs.Ytbheeobnghlckaa
/-- The row, under a short name, for the claim. -/
theorem fnExactLineBound_holds : Rows.FnExactLineBoundSaid := fnExactLineBound.over
#print axioms fnExactLineBound_holds
end Go.Proofs.Ytbheeobnghlckaa
