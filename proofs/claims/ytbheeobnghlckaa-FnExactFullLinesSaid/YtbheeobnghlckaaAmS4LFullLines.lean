/- A law, whole: the walks, and the row. No condition. -/
import Derived.Test.YtbheeobnghlckaaAmS4JA
import Derived.Test.YtbheeobnghlckaaAmR
import Derived.WalkKit
import Derived.ProofKit
import Derived.OpenShut
import Derived.ShutString
import Derived.ChangeOld
import Derived.Below
import Derived.SizedLaws
set_option linter.unusedVariables false
set_option linter.unusedSimpArgs false
namespace Go.Proofs.Ytbheeobnghlckaa
open Go.Am Go.RowKit
set_option maxRecDepth 100000 in
set_option maxHeartbeats 4000000 in
theorem lawFullLines_big_s (x : Int) (y : Int) (z : Int) (L : List A3) (k : Int) (hl : 1048576 < L.length) (hm : L.length ≤ 9223372036854775807) : Sound Try.prog 8 [.agg #[vI x, vI y, vI z, vS 0 L.length], vI k] [some ⟨a3s L, 74, false, false⟩] (.bool true) [some ⟨a3s L, 74, false, false⟩] := by
  refine sound_intro (C := cx) Try.func8 rfl (by kernel_rfl) fun hcl => ?_
  refine cSeq ?_
  refine cReg ?_
  refine segEnd [1, 2] (T1 := (mkT 44 [(1, vI k), (2, vP 1 0)])) (H1 := [some ⟨a3s L, 74, false, false⟩, rB [vI x, vI y, vI z, vS 0 L.length] 49]) (by kernel_rfl) ?_
  refine kSeq ?_
  refine cSeq ?_
  refine cReg ?_
  refine segEndH [1, 2, 5] (T1 := (mkT 44 [(1, vI k), (2, vP 1 0), (5, vI 1048576)])) (by kernel_rfl) ?_
  refine kSeq ?_
  refine cSeq ?_
  refine cReg ?_
  refine segH 2 (T1 := (mkT 44 [(1, vI k), (2, vP 1 0), (5, vI 1048576), (11, .agg #[vI x, vI y, vI z, vS 0 L.length]), (12, vI 1048576)])) (by kernel_rfl) ?_
  refine rCall (v := vI (-1)) (args := [.agg #[vI x, vI y, vI z, vS 0 L.length], vI 1048576]) (by kernel_rfl) rfl (by kernel_rfl) (Sound.lay0 [0] (szHeapG x y z L 1048576 (by first | omega | assumption | (simp; done)) (by first | assumption | omega | rfl | decide | exact HeapL.list _ _ _ _ | exact HeapL.nil _ _ _ | exact HeapL.all _ _ _ | (apply HeapL.lt64 <;> assumption) | (repeat' (first | assumption | apply or_lt64 | apply and_lt64 | apply andn_lt64 | apply pow_lt64 | (apply HeapL.lt64 <;> assumption)))) (by first | omega | assumption | decide)) ⟨rdF false (flatA3 _ _ _ _) rfl rfl, trivial⟩ rfl ⟨clF (flatA3 _ _ _ _), trivial⟩ rfl (by first | rfl | simp [mpV, mpA, mpS, mpP, renId, shift]) rfl) ?_
  refine segEndH [1, 2, 5] (T1 := (mkT 44 [(1, vI k), (2, vP 1 0), (5, vI (-1))])) (by kernel_rfl) ?_
  refine kSeq ?_
  refine cSeq ?_
  refine cSeq ?_
  refine cReg ?_
  refine segEndH [1, 2, 15] (T1 := (mkT 44 [(1, vI k), (2, vP 1 0), (15, .bool true)])) (by kernel_rfl) ?_
  refine kSeq ?_
  refine cTrue (by kernel_rfl) ?_
  refine cSeq ?_
  refine cReg ?_
  refine segEndH [4] (T1 := (mkT 44 [(4, .bool true)])) (by kernel_rfl) ?_
  refine kSeq ?_
  refine cRet ?_
  refine kSeqR ?_
  -- end
  exact endQ (Or.inr rfl) (l := [.bool true]) [rB [vI x, vI y, vI z, vS 0 L.length] 49] (by kernel_rfl) (by first | rfl | kernel_rfl) rfl rfl hcl rfl

set_option maxRecDepth 100000 in
set_option maxHeartbeats 4000000 in
theorem lawFullLines_no_s (x : Int) (y : Int) (z : Int) (L : List A3) (k : Int) (hl : L.length ≤ 1048576) (hv : isHeapB x y z L = false) : Sound Try.prog 8 [.agg #[vI x, vI y, vI z, vS 0 L.length], vI k] [some ⟨a3s L, 74, false, false⟩] (.bool true) [some ⟨a3s L, 74, false, false⟩] := by
  refine sound_intro (C := cx) Try.func8 rfl (by kernel_rfl) fun hcl => ?_
  refine cSeq ?_
  refine cReg ?_
  refine segEnd [1, 2] (T1 := (mkT 44 [(1, vI k), (2, vP 1 0)])) (H1 := [some ⟨a3s L, 74, false, false⟩, rB [vI x, vI y, vI z, vS 0 L.length] 49]) (by kernel_rfl) ?_
  refine kSeq ?_
  refine cSeq ?_
  refine cReg ?_
  refine segEndH [1, 2, 5] (T1 := (mkT 44 [(1, vI k), (2, vP 1 0), (5, vI 1048576)])) (by kernel_rfl) ?_
  refine kSeq ?_
  refine cSeq ?_
  refine cReg ?_
  refine segH 2 (T1 := (mkT 44 [(1, vI k), (2, vP 1 0), (5, vI 1048576), (11, .agg #[vI x, vI y, vI z, vS 0 L.length]), (12, vI 1048576)])) (by kernel_rfl) ?_
  refine rCall (v := vN (1048576 - L.length)) (args := [.agg #[vI x, vI y, vI z, vS 0 L.length], vI 1048576]) (by kernel_rfl) rfl (by kernel_rfl) (Sound.lay0 [0] (szHeapS x y z L 1048576 (by first | omega | assumption | (simp; done)) (by first | omega | assumption | decide)) ⟨rdF false (flatA3 _ _ _ _) rfl rfl, trivial⟩ rfl ⟨clF (flatA3 _ _ _ _), trivial⟩ rfl (by first | rfl | simp [mpV, mpA, mpS, mpP, renId, shift]) rfl) ?_
  refine segEndH [1, 2, 5] (T1 := (mkT 44 [(1, vI k), (2, vP 1 0), (5, vN (1048576 - L.length))])) (by kernel_rfl) ?_
  refine kSeq ?_
  refine cSeq ?_
  refine cSeq ?_
  refine cReg ?_
  refine segEndH [1, 2, 15] (T1 := (mkT 44 [(1, vI k), (2, vP 1 0), (15, .bool (decide (((1048576 - L.length : Nat) : Int) < 0)))])) (by kernel_rfl) ?_
  refine kSeq ?_
  cases h1 : (decide (((1048576 - L.length : Nat) : Int) < 0) : Bool)
  ·
    (try simp only [Bool.not_eq_true', Bool.not_eq_false', decide_eq_true_eq, decide_eq_false_iff_not, beq_iff_eq, bne_iff_ne, beq_eq_false_iff_ne, bne_eq_false_iff_eq, ne_eq, Decidable.not_not, Bool.and_eq_true, Bool.and_eq_false_imp, Bool.or_eq_true, Bool.or_eq_false_iff, Bool.not_eq_true, Int.not_lt, Int.not_le, ge_iff_le, gt_iff_lt] at h1)
    refine cFalse (by kernel_rfl) ?_
    refine cSkip ?_
    refine kSeq ?_
    refine cSeq ?_
    refine cReg ?_
    refine segH 1 (T1 := (mkT 44 [(1, vI k), (2, vP 1 0), (15, .bool false), (17, .agg #[vI x, vI y, vI z, vS 0 L.length])])) (by kernel_rfl) ?_
    refine rCall (v := .agg #[vI x, vI y, vI z, vS 2 L.length]) (args := [.agg #[vI x, vI y, vI z, vS 0 L.length]]) (by kernel_rfl) rfl (by kernel_rfl) (Sound.lay (E := [some ⟨a3s L, 74, false, true⟩]) [0] (toHeapB x y z L (by first | omega | assumption | (simp; done))) ⟨rdF false (flatA3 _ _ _ _) rfl rfl, trivial⟩ rfl ⟨clF (flatA3 _ _ _ _), trivial⟩ rfl (by first | rfl | simp [mpV, mpA, mpS, mpP, renId, shift]) (by first | rfl | simp [mpV, mpA, mpS, mpP, renId, shift]) ⟨enF (flatA3 _ _ _ _) (Or.inl rfl), trivial⟩) ?_
    refine seg 1 (T1 := (mkT 44 [(1, vI k), (2, vP 1 0), (15, .bool false), (17, .agg #[vI x, vI y, vI z, vS 0 L.length]), (18, .agg #[vI x, vI y, vI z, vS 2 L.length]), (19, vI k)])) (H1 := [some ⟨a3s L, 74, false, false⟩, rB [vI x, vI y, vI z, vS 0 L.length] 49, some ⟨a3s L, 74, false, true⟩]) (by kernel_rfl) ?_
    refine rCall (v := .tuple #[vI 0, .bool false]) (args := [.agg #[vI x, vI y, vI z, vS 2 L.length], vI k]) (by kernel_rfl) rfl (by kernel_rfl) (Sound.lay0 [2] (specFullLines_no1 x y z k L (by first | assumption | omega | rfl | decide | exact HeapL.list _ _ _ _ | exact HeapL.nil _ _ _ | exact HeapL.all _ _ _ | (apply HeapL.lt64 <;> assumption) | (repeat' (first | assumption | apply or_lt64 | apply and_lt64 | apply andn_lt64 | apply pow_lt64 | (apply HeapL.lt64 <;> assumption)))) (by first | assumption | omega | rfl | decide | exact HeapL.list _ _ _ _ | exact HeapL.nil _ _ _ | exact HeapL.all _ _ _ | (apply HeapL.lt64 <;> assumption) | (repeat' (first | assumption | apply or_lt64 | apply and_lt64 | apply andn_lt64 | apply pow_lt64 | (apply HeapL.lt64 <;> assumption))))) ⟨rdF true (flatA3 _ _ _ _) rfl rfl, trivial⟩ rfl ⟨clF (flatA3 _ _ _ _), trivial⟩ rfl (by first | rfl | simp [mpV, mpA, mpS, mpP, renId, shift]) (by first | rfl | simp [mpV, mpA, mpS, mpP, renId, shift])) ?_
    refine segEnd [1, 2, 6, 7] (T1 := (mkT 44 [(1, vI k), (2, vP 1 0), (6, vI 0), (7, .bool false)])) (H1 := [some ⟨a3s L, 74, false, false⟩, rB [vI x, vI y, vI z, vS 0 L.length] 49, some ⟨a3s L, 74, false, true⟩]) (by kernel_rfl) ?_
    refine kSeq ?_
    refine cSeq ?_
    refine cReg ?_
    refine segH 1 (T1 := (mkT 44 [(1, vI k), (2, vP 1 0), (6, vI 0), (7, .bool false), (23, .agg #[vI x, vI y, vI z, vS 0 L.length])])) (by kernel_rfl) ?_
    refine rCall (v := .agg #[vI x, vI y, vI z, vS 3 L.length]) (args := [.agg #[vI x, vI y, vI z, vS 0 L.length]]) (by kernel_rfl) rfl (by kernel_rfl) (Sound.lay (E := [some ⟨a3s L, 74, false, true⟩]) [0] (toHeapB x y z L (by first | omega | assumption | (simp; done))) ⟨rdF false (flatA3 _ _ _ _) rfl rfl, trivial⟩ rfl ⟨clF (flatA3 _ _ _ _), trivial⟩ rfl (by first | rfl | simp [mpV, mpA, mpS, mpP, renId, shift]) (by first | rfl | simp [mpV, mpA, mpS, mpP, renId, shift]) ⟨enF (flatA3 _ _ _ _) (Or.inl rfl), trivial⟩) ?_
    refine segEnd [1, 2, 6, 7, 8] (T1 := (mkT 44 [(1, vI k), (2, vP 1 0), (6, vI 0), (7, .bool false), (8, vP 4 0)])) (H1 := [some ⟨a3s L, 74, false, false⟩, rB [vI x, vI y, vI z, vS 0 L.length] 49, some ⟨a3s L, 74, false, true⟩, some ⟨a3s L, 74, false, true⟩, rB [vI x, vI y, vI z, vS 3 L.length] 40]) (by kernel_rfl) ?_
    refine kSeq ?_
    refine cSeq ?_
    refine cReg ?_
    refine segH 2 (T1 := (mkT 44 [(1, vI k), (2, vP 1 0), (6, vI 0), (7, .bool false), (8, vP 4 0), (26, .agg #[vI x, vI y, vI z, vS 3 L.length]), (27, vI k)])) (by kernel_rfl) ?_
    refine rCall (v := .tuple #[vI 0, .bool false]) (args := [.agg #[vI x, vI y, vI z, vS 3 L.length], vI k]) (by kernel_rfl) rfl (by kernel_rfl) (Sound.lay0 [3] (implFullLines_no1 x y z k L (by first | assumption | omega | rfl | decide | exact HeapL.list _ _ _ _ | exact HeapL.nil _ _ _ | exact HeapL.all _ _ _ | (apply HeapL.lt64 <;> assumption) | (repeat' (first | assumption | apply or_lt64 | apply and_lt64 | apply andn_lt64 | apply pow_lt64 | (apply HeapL.lt64 <;> assumption)))) (by first | assumption | omega | rfl | decide | exact HeapL.list _ _ _ _ | exact HeapL.nil _ _ _ | exact HeapL.all _ _ _ | (apply HeapL.lt64 <;> assumption) | (repeat' (first | assumption | apply or_lt64 | apply and_lt64 | apply andn_lt64 | apply pow_lt64 | (apply HeapL.lt64 <;> assumption))))) ⟨rdF true (flatA3 _ _ _ _) rfl rfl, trivial⟩ rfl ⟨clF (flatA3 _ _ _ _), trivial⟩ rfl (by first | rfl | simp [mpV, mpA, mpS, mpP, renId, shift]) (by first | rfl | simp [mpV, mpA, mpS, mpP, renId, shift])) ?_
    refine segEndH [2, 6, 7, 8, 9, 10] (T1 := (mkT 44 [(2, vP 1 0), (6, vI 0), (7, .bool false), (8, vP 4 0), (9, vI 0), (10, .bool false)])) (by kernel_rfl) ?_
    refine kSeq ?_
    refine cSeq ?_
    refine cSeq ?_
    refine cReg ?_
    refine segEndH [2, 8, 38] (T1 := (mkT 44 [(2, vP 1 0), (8, vP 4 0), (38, .bool false)])) (by kernel_rfl) ?_
    refine kSeq ?_
    refine cFalse (by kernel_rfl) ?_
    refine cSkip ?_
    refine kSeq ?_
    refine cSeq ?_
    refine cSeq ?_
    refine cRegW (N := 6) [⟨[], [], [4]⟩, ⟨[], [], [1]⟩, ⟨[5], [], [0]⟩, ⟨[], [], [3, 5]⟩, ⟨[], [], []⟩] 1 [5] (by rfl) (by rfl) (by kernel_rfl) (by kernel_rfl) (by kernel_rfl) ⟨nmsF (flatA3 _ _ _ _), ⟨nmsX (by kernel_rfl), ⟨nmsF (flatA3 _ _ _ _), ⟨nmsF (flatA3 _ _ _ _), ⟨nmsX (by kernel_rfl), trivial⟩⟩⟩⟩⟩ ?_
    refine segWH 2 (T1 := (mkT 44 [(2, vP 1 0), (8, vP 4 0), (38, .bool false), (39, .agg #[vI x, vI y, vI z, vS 3 L.length]), (40, .agg #[vI x, vI y, vI z, vS 0 L.length])])) (by kernel_rfl) ?_
    refine rW (m := ⟨[5], [], [0]⟩) (v := .agg #[vI x, vI y, vI z, vS 5 L.length]) rfl (by kernel_rfl) (stN (i := 5) (E := [some ⟨a3s L, 74, false, true⟩]) (v1 := .agg #[vI x, vI y, vI z, vS 6 L.length]) (args := [.agg #[vI x, vI y, vI z, vS 0 L.length]]) rfl (by kernel_rfl) (Any.lay (E := [some ⟨a3s L, 74, false, true⟩]) (N := 6) [0] (toHeapB x y z L (by first | omega | assumption | (simp; done))) ⟨rdF false (flatA3 _ _ _ _) rfl rfl, trivial⟩ rfl ⟨clF (flatA3 _ _ _ _), trivial⟩ rfl (by first | rfl | simp [mpV, mpA, mpS, mpP, renId, shift]) (by first | rfl | simp [mpV, mpA, mpS, mpP, renId, shift]) ⟨enF (flatA3 _ _ _ _) (Or.inl rfl), trivial⟩) rfl (by kernel_rfl) (by kernel_rfl) (by kernel_rfl) (by kernel_rfl) (FlatH.cons (flatA3 _ _ _ _) FlatH.nil)) (by kernel_rfl) (NRs.all ⟨nrOf (by rfl) (nmF (flatA3 _ _ _ _)), trivial⟩) ?_
    refine rW (m := ⟨[], [], [3, 5]⟩) (v := .bool true) rfl (by kernel_rfl) (stQ (args := [.agg #[vI x, vI y, vI z, vS 3 L.length], .agg #[vI x, vI y, vI z, vS 5 L.length]]) rfl (by kernel_rfl) (Any.lay0 [3, 5] (eqHeapB x y z L (by first | omega | assumption | (simp; done))) ⟨rdF true (flatA3 _ _ _ _) rfl rfl, ⟨rdF true (flatA3 _ _ _ _) rfl rfl, trivial⟩⟩ rfl ⟨clF (flatA3 _ _ _ _), ⟨clF (flatA3 _ _ _ _), trivial⟩⟩ rfl (by first | rfl | simp [mpV, mpA, mpS, mpP, renId, shift]) rfl) rfl (by kernel_rfl) (by kernel_rfl)) (by kernel_rfl) nr0 ?_
    refine segEndW [43] (T1 := (mkT 44 [(43, .bool false)])) (H1 := [some ⟨a3s L, 74, false, false⟩, rB [vI x, vI y, vI z, vS 0 L.length] 49, some ⟨a3s L, 74, false, true⟩, some ⟨a3s L, 74, false, true⟩, rB [vI x, vI y, vI z, vS 3 L.length] 40, some ⟨a3s L, 74, false, true⟩]) (by kernel_rfl) ?_
    refine kSeq ?_
    refine cFalse (by kernel_rfl) ?_
    refine cSkip ?_
    refine kSeq ?_
    refine cSeq ?_
    refine cReg ?_
    refine segEndH [4] (T1 := (mkT 44 [(4, .bool true)])) (by kernel_rfl) ?_
    refine kSeq ?_
    refine cRet ?_
    -- end
    exact endQ (Or.inr rfl) (l := [.bool true]) [rB [vI x, vI y, vI z, vS 0 L.length] 49, some ⟨a3s L, 74, false, true⟩, some ⟨a3s L, 74, false, true⟩, rB [vI x, vI y, vI z, vS 3 L.length] 40, some ⟨a3s L, 74, false, true⟩] (by kernel_rfl) (by first | rfl | kernel_rfl) rfl rfl hcl rfl
  ·
    (try simp only [Bool.not_eq_true', Bool.not_eq_false', decide_eq_true_eq, decide_eq_false_iff_not, beq_iff_eq, bne_iff_ne, beq_eq_false_iff_ne, bne_eq_false_iff_eq, ne_eq, Decidable.not_not, Bool.and_eq_true, Bool.and_eq_false_imp, Bool.or_eq_true, Bool.or_eq_false_iff, Bool.not_eq_true, Int.not_lt, Int.not_le, ge_iff_le, gt_iff_lt] at h1)
    exfalso; omega

set_option maxRecDepth 100000 in
set_option maxHeartbeats 4000000 in
theorem lawFullLines_no_n (x : Int) (y : Int) (z : Int) (k : Int) (hv : isHeapB x y z ([] : List A3) = false) : Sound Try.prog 8 [.agg #[vI x, vI y, vI z, .slice none 0 0], vI k] [] (.bool true) [] := by
  refine sound_intro (C := cx) Try.func8 rfl (by kernel_rfl) fun hcl => ?_
  refine cSeq ?_
  refine cReg ?_
  refine segEnd [1, 2] (T1 := (mkT 44 [(1, vI k), (2, vP 0 0)])) (H1 := [rB [vI x, vI y, vI z, .slice none 0 0] 49]) (by kernel_rfl) ?_
  refine kSeq ?_
  refine cSeq ?_
  refine cReg ?_
  refine segEndH [1, 2, 5] (T1 := (mkT 44 [(1, vI k), (2, vP 0 0), (5, vI 1048576)])) (by kernel_rfl) ?_
  refine kSeq ?_
  refine cSeq ?_
  refine cReg ?_
  refine segH 2 (T1 := (mkT 44 [(1, vI k), (2, vP 0 0), (5, vI 1048576), (11, .agg #[vI x, vI y, vI z, .slice none 0 0]), (12, vI 1048576)])) (by kernel_rfl) ?_
  refine rCall (v := vI 1048576) (args := [.agg #[vI x, vI y, vI z, .slice none 0 0], vI 1048576]) (by kernel_rfl) rfl (by kernel_rfl) (Sound.lay0 [] (szHeapN x y z 1048576 (by first | omega | assumption | decide)) trivial rfl trivial rfl (by first | rfl | simp [mpV, mpA, mpS, mpP, renId, shift]) rfl) ?_
  refine segEndH [1, 2, 5] (T1 := (mkT 44 [(1, vI k), (2, vP 0 0), (5, vI 1048576)])) (by kernel_rfl) ?_
  refine kSeq ?_
  refine cSeq ?_
  refine cSeq ?_
  refine cReg ?_
  refine segEndH [1, 2, 15] (T1 := (mkT 44 [(1, vI k), (2, vP 0 0), (15, .bool false)])) (by kernel_rfl) ?_
  refine kSeq ?_
  refine cFalse (by kernel_rfl) ?_
  refine cSkip ?_
  refine kSeq ?_
  refine cSeq ?_
  refine cReg ?_
  refine segH 1 (T1 := (mkT 44 [(1, vI k), (2, vP 0 0), (15, .bool false), (17, .agg #[vI x, vI y, vI z, .slice none 0 0])])) (by kernel_rfl) ?_
  refine rCall (v := .agg #[vI x, vI y, vI z, vS 1 0]) (args := [.agg #[vI x, vI y, vI z, .slice none 0 0]]) (by kernel_rfl) rfl (by kernel_rfl) (Sound.lay (E := [some ⟨[], 74, false, true⟩]) [] (toHeapN x y z) trivial rfl trivial rfl (by first | rfl | simp [mpV, mpA, mpS, mpP, renId, shift]) (by first | rfl | simp [mpV, mpA, mpS, mpP, renId, shift]) ⟨enX rfl (Or.inl rfl), trivial⟩) ?_
  refine seg 1 (T1 := (mkT 44 [(1, vI k), (2, vP 0 0), (15, .bool false), (17, .agg #[vI x, vI y, vI z, .slice none 0 0]), (18, .agg #[vI x, vI y, vI z, vS 1 0]), (19, vI k)])) (H1 := [rB [vI x, vI y, vI z, .slice none 0 0] 49, some ⟨[], 74, false, true⟩]) (by kernel_rfl) ?_
  refine rCall (v := .tuple #[vI 0, .bool false]) (args := [.agg #[vI x, vI y, vI z, vS 1 0], vI k]) (by kernel_rfl) rfl (by kernel_rfl) (Sound.lay0 [1] (specFullLines_no1 x y z k ([] : List A3) (by first | assumption | omega | rfl | decide | exact HeapL.list _ _ _ _ | exact HeapL.nil _ _ _ | exact HeapL.all _ _ _ | (apply HeapL.lt64 <;> assumption) | (repeat' (first | assumption | apply or_lt64 | apply and_lt64 | apply andn_lt64 | apply pow_lt64 | (apply HeapL.lt64 <;> assumption)))) (by first | assumption | omega | rfl | decide | exact HeapL.list _ _ _ _ | exact HeapL.nil _ _ _ | exact HeapL.all _ _ _ | (apply HeapL.lt64 <;> assumption) | (repeat' (first | assumption | apply or_lt64 | apply and_lt64 | apply andn_lt64 | apply pow_lt64 | (apply HeapL.lt64 <;> assumption))))) ⟨rdF true (flatA3 _ _ _ _) rfl rfl, trivial⟩ rfl ⟨clF (flatA3 _ _ _ _), trivial⟩ rfl (by first | rfl | simp [mpV, mpA, mpS, mpP, renId, shift]) (by first | rfl | simp [mpV, mpA, mpS, mpP, renId, shift])) ?_
  refine segEnd [1, 2, 6, 7] (T1 := (mkT 44 [(1, vI k), (2, vP 0 0), (6, vI 0), (7, .bool false)])) (H1 := [rB [vI x, vI y, vI z, .slice none 0 0] 49, some ⟨[], 74, false, true⟩]) (by kernel_rfl) ?_
  refine kSeq ?_
  refine cSeq ?_
  refine cReg ?_
  refine segH 1 (T1 := (mkT 44 [(1, vI k), (2, vP 0 0), (6, vI 0), (7, .bool false), (23, .agg #[vI x, vI y, vI z, .slice none 0 0])])) (by kernel_rfl) ?_
  refine rCall (v := .agg #[vI x, vI y, vI z, vS 2 0]) (args := [.agg #[vI x, vI y, vI z, .slice none 0 0]]) (by kernel_rfl) rfl (by kernel_rfl) (Sound.lay (E := [some ⟨[], 74, false, true⟩]) [] (toHeapN x y z) trivial rfl trivial rfl (by first | rfl | simp [mpV, mpA, mpS, mpP, renId, shift]) (by first | rfl | simp [mpV, mpA, mpS, mpP, renId, shift]) ⟨enX rfl (Or.inl rfl), trivial⟩) ?_
  refine segEnd [1, 2, 6, 7, 8] (T1 := (mkT 44 [(1, vI k), (2, vP 0 0), (6, vI 0), (7, .bool false), (8, vP 3 0)])) (H1 := [rB [vI x, vI y, vI z, .slice none 0 0] 49, some ⟨[], 74, false, true⟩, some ⟨[], 74, false, true⟩, rB [vI x, vI y, vI z, vS 2 0] 40]) (by kernel_rfl) ?_
  refine kSeq ?_
  refine cSeq ?_
  refine cReg ?_
  refine segH 2 (T1 := (mkT 44 [(1, vI k), (2, vP 0 0), (6, vI 0), (7, .bool false), (8, vP 3 0), (26, .agg #[vI x, vI y, vI z, vS 2 0]), (27, vI k)])) (by kernel_rfl) ?_
  refine rCall (v := .tuple #[vI 0, .bool false]) (args := [.agg #[vI x, vI y, vI z, vS 2 0], vI k]) (by kernel_rfl) rfl (by kernel_rfl) (Sound.lay0 [2] (implFullLines_no1 x y z k ([] : List A3) (by first | assumption | omega | rfl | decide | exact HeapL.list _ _ _ _ | exact HeapL.nil _ _ _ | exact HeapL.all _ _ _ | (apply HeapL.lt64 <;> assumption) | (repeat' (first | assumption | apply or_lt64 | apply and_lt64 | apply andn_lt64 | apply pow_lt64 | (apply HeapL.lt64 <;> assumption)))) (by first | assumption | omega | rfl | decide | exact HeapL.list _ _ _ _ | exact HeapL.nil _ _ _ | exact HeapL.all _ _ _ | (apply HeapL.lt64 <;> assumption) | (repeat' (first | assumption | apply or_lt64 | apply and_lt64 | apply andn_lt64 | apply pow_lt64 | (apply HeapL.lt64 <;> assumption))))) ⟨rdF true (flatA3 _ _ _ _) rfl rfl, trivial⟩ rfl ⟨clF (flatA3 _ _ _ _), trivial⟩ rfl (by first | rfl | simp [mpV, mpA, mpS, mpP, renId, shift]) (by first | rfl | simp [mpV, mpA, mpS, mpP, renId, shift])) ?_
  refine segEndH [2, 6, 7, 8, 9, 10] (T1 := (mkT 44 [(2, vP 0 0), (6, vI 0), (7, .bool false), (8, vP 3 0), (9, vI 0), (10, .bool false)])) (by kernel_rfl) ?_
  refine kSeq ?_
  refine cSeq ?_
  refine cSeq ?_
  refine cReg ?_
  refine segEndH [2, 8, 38] (T1 := (mkT 44 [(2, vP 0 0), (8, vP 3 0), (38, .bool false)])) (by kernel_rfl) ?_
  refine kSeq ?_
  refine cFalse (by kernel_rfl) ?_
  refine cSkip ?_
  refine kSeq ?_
  refine cSeq ?_
  refine cSeq ?_
  refine cRegW (N := 5) [⟨[], [], [3]⟩, ⟨[], [], [0]⟩, ⟨[4], [], []⟩, ⟨[], [], [2, 4]⟩, ⟨[], [], []⟩] 1 [4] (by rfl) (by rfl) (by kernel_rfl) (by kernel_rfl) (by kernel_rfl) ⟨nmsX (by kernel_rfl), ⟨nmsX (by kernel_rfl), ⟨nmsX (by kernel_rfl), ⟨nmsX (by kernel_rfl), trivial⟩⟩⟩⟩ ?_
  refine segWH 2 (T1 := (mkT 44 [(2, vP 0 0), (8, vP 3 0), (38, .bool false), (39, .agg #[vI x, vI y, vI z, vS 2 0]), (40, .agg #[vI x, vI y, vI z, .slice none 0 0])])) (by kernel_rfl) ?_
  refine rW (m := ⟨[4], [], []⟩) (v := .agg #[vI x, vI y, vI z, vS 4 0]) rfl (by kernel_rfl) (stN (i := 4) (E := [some ⟨[], 74, false, true⟩]) (v1 := .agg #[vI x, vI y, vI z, vS 5 0]) (args := [.agg #[vI x, vI y, vI z, .slice none 0 0]]) rfl (by kernel_rfl) (Any.lay (E := [some ⟨[], 74, false, true⟩]) (N := 5) [] (toHeapN x y z) trivial rfl trivial rfl (by first | rfl | simp [mpV, mpA, mpS, mpP, renId, shift]) (by first | rfl | simp [mpV, mpA, mpS, mpP, renId, shift]) ⟨enX rfl (Or.inl rfl), trivial⟩) rfl (by kernel_rfl) (by kernel_rfl) (by kernel_rfl) (by kernel_rfl) (FlatH.cons (flatRow_of rfl) FlatH.nil)) (by kernel_rfl) (NRs.all ⟨nrOf (by rfl) (nmX (by kernel_rfl)), trivial⟩) ?_
  refine rW (m := ⟨[], [], [2, 4]⟩) (v := .bool true) rfl (by kernel_rfl) (stQ (args := [.agg #[vI x, vI y, vI z, vS 2 0], .agg #[vI x, vI y, vI z, vS 4 0]]) rfl (by kernel_rfl) (Any.lay0 [2, 4] (eqHeapB x y z ([] : List A3) (by first | omega | assumption | (simp; done))) ⟨rdF true (flatA3 _ _ _ _) rfl rfl, ⟨rdF true (flatA3 _ _ _ _) rfl rfl, trivial⟩⟩ rfl ⟨clF (flatA3 _ _ _ _), ⟨clF (flatA3 _ _ _ _), trivial⟩⟩ rfl (by first | rfl | simp [mpV, mpA, mpS, mpP, renId, shift]) rfl) rfl (by kernel_rfl) (by kernel_rfl)) (by kernel_rfl) nr0 ?_
  refine segEndW [43] (T1 := (mkT 44 [(43, .bool false)])) (H1 := [rB [vI x, vI y, vI z, .slice none 0 0] 49, some ⟨[], 74, false, true⟩, some ⟨[], 74, false, true⟩, rB [vI x, vI y, vI z, vS 2 0] 40, some ⟨[], 74, false, true⟩]) (by kernel_rfl) ?_
  refine kSeq ?_
  refine cFalse (by kernel_rfl) ?_
  refine cSkip ?_
  refine kSeq ?_
  refine cSeq ?_
  refine cReg ?_
  refine segEndH [4] (T1 := (mkT 44 [(4, .bool true)])) (by kernel_rfl) ?_
  refine kSeq ?_
  refine cRet ?_
  -- end
  exact endQ (Or.inr rfl) (l := [.bool true]) [rB [vI x, vI y, vI z, .slice none 0 0] 49, some ⟨[], 74, false, true⟩, some ⟨[], 74, false, true⟩, rB [vI x, vI y, vI z, vS 2 0] 40, some ⟨[], 74, false, true⟩] (by kernel_rfl) (by first | rfl | kernel_rfl) rfl rfl hcl rfl

set_option maxRecDepth 100000 in
set_option maxHeartbeats 4000000 in
theorem lawFullLines_no2_s (X : Nat) (Y : Nat) (Z : Nat) (L : List A3) (k : Int) (hs : Sides X Y Z) (hL : HeapL X Y Z L) (hk : inR k 0 2 = false) : Sound Try.prog 8 [.agg #[vN X, vN Y, vN Z, vS 0 L.length], vI k] [some ⟨a3s L, 74, false, false⟩] (.bool true) [some ⟨a3s L, 74, false, false⟩] := by
  refine sound_intro (C := cx) Try.func8 rfl (by kernel_rfl) fun hcl => ?_
  have hz := hs.size
  have hx0 := hs.x0
  have hx4 := hs.x4
  have hy0 := hs.y0
  have hy4 := hs.y4
  have hz0 := hs.z0
  have hz4 := hs.z4
  have hlen : L.length ≤ 64 := by first | (have := hL.len; have := hs.size; omega) | simp
  refine cSeq ?_
  refine cReg ?_
  refine segEnd [1, 2] (T1 := (mkT 44 [(1, vI k), (2, vP 1 0)])) (H1 := [some ⟨a3s L, 74, false, false⟩, rB [vN X, vN Y, vN Z, vS 0 L.length] 49]) (by kernel_rfl) ?_
  refine kSeq ?_
  refine cSeq ?_
  refine cReg ?_
  refine segEndH [1, 2, 5] (T1 := (mkT 44 [(1, vI k), (2, vP 1 0), (5, vI 1048576)])) (by kernel_rfl) ?_
  refine kSeq ?_
  refine cSeq ?_
  refine cReg ?_
  refine segH 2 (T1 := (mkT 44 [(1, vI k), (2, vP 1 0), (5, vI 1048576), (11, .agg #[vN X, vN Y, vN Z, vS 0 L.length]), (12, vI 1048576)])) (by kernel_rfl) ?_
  refine rCall (v := vN (1048576 - L.length)) (args := [.agg #[vN X, vN Y, vN Z, vS 0 L.length], vI 1048576]) (by kernel_rfl) rfl (by kernel_rfl) (Sound.lay0 [0] (szHeapS ((X : Nat) : Int) ((Y : Nat) : Int) ((Z : Nat) : Int) L 1048576 (by first | omega | assumption | (simp; done)) (by first | omega | assumption | decide)) ⟨rdF false (flatA3 _ _ _ _) rfl rfl, trivial⟩ rfl ⟨clF (flatA3 _ _ _ _), trivial⟩ rfl (by first | rfl | simp [mpV, mpA, mpS, mpP, renId, shift]) rfl) ?_
  refine segEndH [1, 2, 5] (T1 := (mkT 44 [(1, vI k), (2, vP 1 0), (5, vN (1048576 - L.length))])) (by kernel_rfl) ?_
  refine kSeq ?_
  refine cSeq ?_
  refine cSeq ?_
  refine cReg ?_
  refine segEndH [1, 2, 15] (T1 := (mkT 44 [(1, vI k), (2, vP 1 0), (15, .bool (decide (((1048576 - L.length : Nat) : Int) < 0)))])) (by kernel_rfl) ?_
  refine kSeq ?_
  cases h1 : (decide (((1048576 - L.length : Nat) : Int) < 0) : Bool)
  ·
    (try simp only [Bool.not_eq_true', Bool.not_eq_false', decide_eq_true_eq, decide_eq_false_iff_not, beq_iff_eq, bne_iff_ne, beq_eq_false_iff_ne, bne_eq_false_iff_eq, ne_eq, Decidable.not_not, Bool.and_eq_true, Bool.and_eq_false_imp, Bool.or_eq_true, Bool.or_eq_false_iff, Bool.not_eq_true, Int.not_lt, Int.not_le, ge_iff_le, gt_iff_lt] at h1)
    refine cFalse (by kernel_rfl) ?_
    refine cSkip ?_
    refine kSeq ?_
    refine cSeq ?_
    refine cReg ?_
    refine segH 1 (T1 := (mkT 44 [(1, vI k), (2, vP 1 0), (15, .bool false), (17, .agg #[vN X, vN Y, vN Z, vS 0 L.length])])) (by kernel_rfl) ?_
    refine rCall (v := .agg #[vN X, vN Y, vN Z, vS 2 L.length]) (args := [.agg #[vN X, vN Y, vN Z, vS 0 L.length]]) (by kernel_rfl) rfl (by kernel_rfl) (Sound.lay (E := [some ⟨a3s L, 74, false, true⟩]) [0] (toHeapB ((X : Nat) : Int) ((Y : Nat) : Int) ((Z : Nat) : Int) L (by first | omega | assumption | (simp; done))) ⟨rdF false (flatA3 _ _ _ _) rfl rfl, trivial⟩ rfl ⟨clF (flatA3 _ _ _ _), trivial⟩ rfl (by first | rfl | simp [mpV, mpA, mpS, mpP, renId, shift]) (by first | rfl | simp [mpV, mpA, mpS, mpP, renId, shift]) ⟨enF (flatA3 _ _ _ _) (Or.inl rfl), trivial⟩) ?_
    refine seg 1 (T1 := (mkT 44 [(1, vI k), (2, vP 1 0), (15, .bool false), (17, .agg #[vN X, vN Y, vN Z, vS 0 L.length]), (18, .agg #[vN X, vN Y, vN Z, vS 2 L.length]), (19, vI k)])) (H1 := [some ⟨a3s L, 74, false, false⟩, rB [vN X, vN Y, vN Z, vS 0 L.length] 49, some ⟨a3s L, 74, false, true⟩]) (by kernel_rfl) ?_
    refine rCall (v := .tuple #[vI 0, .bool false]) (args := [.agg #[vN X, vN Y, vN Z, vS 2 L.length], vI k]) (by kernel_rfl) rfl (by kernel_rfl) (Sound.lay0 [2] (specFullLines_no2 X Y Z L k (by first | assumption | omega | rfl | decide | exact HeapL.list _ _ _ _ | exact HeapL.nil _ _ _ | exact HeapL.all _ _ _ | (apply HeapL.lt64 <;> assumption) | (repeat' (first | assumption | apply or_lt64 | apply and_lt64 | apply andn_lt64 | apply pow_lt64 | (apply HeapL.lt64 <;> assumption)))) (by first | assumption | omega | rfl | decide | exact HeapL.list _ _ _ _ | exact HeapL.nil _ _ _ | exact HeapL.all _ _ _ | (apply HeapL.lt64 <;> assumption) | (repeat' (first | assumption | apply or_lt64 | apply and_lt64 | apply andn_lt64 | apply pow_lt64 | (apply HeapL.lt64 <;> assumption)))) (by first | assumption | omega | rfl | decide | exact HeapL.list _ _ _ _ | exact HeapL.nil _ _ _ | exact HeapL.all _ _ _ | (apply HeapL.lt64 <;> assumption) | (repeat' (first | assumption | apply or_lt64 | apply and_lt64 | apply andn_lt64 | apply pow_lt64 | (apply HeapL.lt64 <;> assumption))))) ⟨rdF true (flatA3 _ _ _ _) rfl rfl, trivial⟩ rfl ⟨clF (flatA3 _ _ _ _), trivial⟩ rfl (by first | rfl | simp [mpV, mpA, mpS, mpP, renId, shift]) (by first | rfl | simp [mpV, mpA, mpS, mpP, renId, shift])) ?_
    refine segEnd [1, 2, 6, 7] (T1 := (mkT 44 [(1, vI k), (2, vP 1 0), (6, vI 0), (7, .bool false)])) (H1 := [some ⟨a3s L, 74, false, false⟩, rB [vN X, vN Y, vN Z, vS 0 L.length] 49, some ⟨a3s L, 74, false, true⟩]) (by kernel_rfl) ?_
    refine kSeq ?_
    refine cSeq ?_
    refine cReg ?_
    refine segH 1 (T1 := (mkT 44 [(1, vI k), (2, vP 1 0), (6, vI 0), (7, .bool false), (23, .agg #[vN X, vN Y, vN Z, vS 0 L.length])])) (by kernel_rfl) ?_
    refine rCall (v := .agg #[vN X, vN Y, vN Z, vS 3 L.length]) (args := [.agg #[vN X, vN Y, vN Z, vS 0 L.length]]) (by kernel_rfl) rfl (by kernel_rfl) (Sound.lay (E := [some ⟨a3s L, 74, false, true⟩]) [0] (toHeapB ((X : Nat) : Int) ((Y : Nat) : Int) ((Z : Nat) : Int) L (by first | omega | assumption | (simp; done))) ⟨rdF false (flatA3 _ _ _ _) rfl rfl, trivial⟩ rfl ⟨clF (flatA3 _ _ _ _), trivial⟩ rfl (by first | rfl | simp [mpV, mpA, mpS, mpP, renId, shift]) (by first | rfl | simp [mpV, mpA, mpS, mpP, renId, shift]) ⟨enF (flatA3 _ _ _ _) (Or.inl rfl), trivial⟩) ?_
    refine segEnd [1, 2, 6, 7, 8] (T1 := (mkT 44 [(1, vI k), (2, vP 1 0), (6, vI 0), (7, .bool false), (8, vP 4 0)])) (H1 := [some ⟨a3s L, 74, false, false⟩, rB [vN X, vN Y, vN Z, vS 0 L.length] 49, some ⟨a3s L, 74, false, true⟩, some ⟨a3s L, 74, false, true⟩, rB [vN X, vN Y, vN Z, vS 3 L.length] 40]) (by kernel_rfl) ?_
    refine kSeq ?_
    refine cSeq ?_
    refine cReg ?_
    refine segH 2 (T1 := (mkT 44 [(1, vI k), (2, vP 1 0), (6, vI 0), (7, .bool false), (8, vP 4 0), (26, .agg #[vN X, vN Y, vN Z, vS 3 L.length]), (27, vI k)])) (by kernel_rfl) ?_
    refine rCall (v := .tuple #[vI 0, .bool false]) (args := [.agg #[vN X, vN Y, vN Z, vS 3 L.length], vI k]) (by kernel_rfl) rfl (by kernel_rfl) (Sound.lay0 [3] (implFullLines_no2 X Y Z L k (by first | assumption | omega | rfl | decide | exact HeapL.list _ _ _ _ | exact HeapL.nil _ _ _ | exact HeapL.all _ _ _ | (apply HeapL.lt64 <;> assumption) | (repeat' (first | assumption | apply or_lt64 | apply and_lt64 | apply andn_lt64 | apply pow_lt64 | (apply HeapL.lt64 <;> assumption)))) (by first | assumption | omega | rfl | decide | exact HeapL.list _ _ _ _ | exact HeapL.nil _ _ _ | exact HeapL.all _ _ _ | (apply HeapL.lt64 <;> assumption) | (repeat' (first | assumption | apply or_lt64 | apply and_lt64 | apply andn_lt64 | apply pow_lt64 | (apply HeapL.lt64 <;> assumption)))) (by first | assumption | omega | rfl | decide | exact HeapL.list _ _ _ _ | exact HeapL.nil _ _ _ | exact HeapL.all _ _ _ | (apply HeapL.lt64 <;> assumption) | (repeat' (first | assumption | apply or_lt64 | apply and_lt64 | apply andn_lt64 | apply pow_lt64 | (apply HeapL.lt64 <;> assumption))))) ⟨rdF true (flatA3 _ _ _ _) rfl rfl, trivial⟩ rfl ⟨clF (flatA3 _ _ _ _), trivial⟩ rfl (by first | rfl | simp [mpV, mpA, mpS, mpP, renId, shift]) (by first | rfl | simp [mpV, mpA, mpS, mpP, renId, shift])) ?_
    refine segEndH [2, 6, 7, 8, 9, 10] (T1 := (mkT 44 [(2, vP 1 0), (6, vI 0), (7, .bool false), (8, vP 4 0), (9, vI 0), (10, .bool false)])) (by kernel_rfl) ?_
    refine kSeq ?_
    refine cSeq ?_
    refine cSeq ?_
    refine cReg ?_
    refine segEndH [2, 8, 38] (T1 := (mkT 44 [(2, vP 1 0), (8, vP 4 0), (38, .bool false)])) (by kernel_rfl) ?_
    refine kSeq ?_
    refine cFalse (by kernel_rfl) ?_
    refine cSkip ?_
    refine kSeq ?_
    refine cSeq ?_
    refine cSeq ?_
    refine cRegW (N := 6) [⟨[], [], [4]⟩, ⟨[], [], [1]⟩, ⟨[5], [], [0]⟩, ⟨[], [], [3, 5]⟩, ⟨[], [], []⟩] 1 [5] (by rfl) (by rfl) (by kernel_rfl) (by kernel_rfl) (by kernel_rfl) ⟨nmsF (flatA3 _ _ _ _), ⟨nmsX (by kernel_rfl), ⟨nmsF (flatA3 _ _ _ _), ⟨nmsF (flatA3 _ _ _ _), ⟨nmsX (by kernel_rfl), trivial⟩⟩⟩⟩⟩ ?_
    refine segWH 2 (T1 := (mkT 44 [(2, vP 1 0), (8, vP 4 0), (38, .bool false), (39, .agg #[vN X, vN Y, vN Z, vS 3 L.length]), (40, .agg #[vN X, vN Y, vN Z, vS 0 L.length])])) (by kernel_rfl) ?_
    refine rW (m := ⟨[5], [], [0]⟩) (v := .agg #[vN X, vN Y, vN Z, vS 5 L.length]) rfl (by kernel_rfl) (stN (i := 5) (E := [some ⟨a3s L, 74, false, true⟩]) (v1 := .agg #[vN X, vN Y, vN Z, vS 6 L.length]) (args := [.agg #[vN X, vN Y, vN Z, vS 0 L.length]]) rfl (by kernel_rfl) (Any.lay (E := [some ⟨a3s L, 74, false, true⟩]) (N := 6) [0] (toHeapB ((X : Nat) : Int) ((Y : Nat) : Int) ((Z : Nat) : Int) L (by first | omega | assumption | (simp; done))) ⟨rdF false (flatA3 _ _ _ _) rfl rfl, trivial⟩ rfl ⟨clF (flatA3 _ _ _ _), trivial⟩ rfl (by first | rfl | simp [mpV, mpA, mpS, mpP, renId, shift]) (by first | rfl | simp [mpV, mpA, mpS, mpP, renId, shift]) ⟨enF (flatA3 _ _ _ _) (Or.inl rfl), trivial⟩) rfl (by kernel_rfl) (by kernel_rfl) (by kernel_rfl) (by kernel_rfl) (FlatH.cons (flatA3 _ _ _ _) FlatH.nil)) (by kernel_rfl) (NRs.all ⟨nrOf (by rfl) (nmF (flatA3 _ _ _ _)), trivial⟩) ?_
    refine rW (m := ⟨[], [], [3, 5]⟩) (v := .bool true) rfl (by kernel_rfl) (stQ (args := [.agg #[vN X, vN Y, vN Z, vS 3 L.length], .agg #[vN X, vN Y, vN Z, vS 5 L.length]]) rfl (by kernel_rfl) (Any.lay0 [3, 5] (eqHeapB ((X : Nat) : Int) ((Y : Nat) : Int) ((Z : Nat) : Int) L (by first | omega | assumption | (simp; done))) ⟨rdF true (flatA3 _ _ _ _) rfl rfl, ⟨rdF true (flatA3 _ _ _ _) rfl rfl, trivial⟩⟩ rfl ⟨clF (flatA3 _ _ _ _), ⟨clF (flatA3 _ _ _ _), trivial⟩⟩ rfl (by first | rfl | simp [mpV, mpA, mpS, mpP, renId, shift]) rfl) rfl (by kernel_rfl) (by kernel_rfl)) (by kernel_rfl) nr0 ?_
    refine segEndW [43] (T1 := (mkT 44 [(43, .bool false)])) (H1 := [some ⟨a3s L, 74, false, false⟩, rB [vN X, vN Y, vN Z, vS 0 L.length] 49, some ⟨a3s L, 74, false, true⟩, some ⟨a3s L, 74, false, true⟩, rB [vN X, vN Y, vN Z, vS 3 L.length] 40, some ⟨a3s L, 74, false, true⟩]) (by kernel_rfl) ?_
    refine kSeq ?_
    refine cFalse (by kernel_rfl) ?_
    refine cSkip ?_
    refine kSeq ?_
    refine cSeq ?_
    refine cReg ?_
    refine segEndH [4] (T1 := (mkT 44 [(4, .bool true)])) (by kernel_rfl) ?_
    refine kSeq ?_
    refine cRet ?_
    -- end
    exact endQ (Or.inr rfl) (l := [.bool true]) [rB [vN X, vN Y, vN Z, vS 0 L.length] 49, some ⟨a3s L, 74, false, true⟩, some ⟨a3s L, 74, false, true⟩, rB [vN X, vN Y, vN Z, vS 3 L.length] 40, some ⟨a3s L, 74, false, true⟩] (by kernel_rfl) (by first | rfl | kernel_rfl) rfl rfl hcl rfl
  ·
    (try simp only [Bool.not_eq_true', Bool.not_eq_false', decide_eq_true_eq, decide_eq_false_iff_not, beq_iff_eq, bne_iff_ne, beq_eq_false_iff_ne, bne_eq_false_iff_eq, ne_eq, Decidable.not_not, Bool.and_eq_true, Bool.and_eq_false_imp, Bool.or_eq_true, Bool.or_eq_false_iff, Bool.not_eq_true, Int.not_lt, Int.not_le, ge_iff_le, gt_iff_lt] at h1)
    exfalso; omega

set_option maxRecDepth 100000 in
set_option maxHeartbeats 4000000 in
theorem lawFullLines_no2_n (X : Nat) (Y : Nat) (Z : Nat) (k : Int) (hs : Sides X Y Z) (hk : inR k 0 2 = false) : Sound Try.prog 8 [.agg #[vN X, vN Y, vN Z, .slice none 0 0], vI k] [] (.bool true) [] := by
  refine sound_intro (C := cx) Try.func8 rfl (by kernel_rfl) fun hcl => ?_
  have hz := hs.size
  have hx0 := hs.x0
  have hx4 := hs.x4
  have hy0 := hs.y0
  have hy4 := hs.y4
  have hz0 := hs.z0
  have hz4 := hs.z4
  have hlen : ([] : List A3).length ≤ 64 := by first | (have := hL.len; have := hs.size; omega) | simp
  refine cSeq ?_
  refine cReg ?_
  refine segEnd [1, 2] (T1 := (mkT 44 [(1, vI k), (2, vP 0 0)])) (H1 := [rB [vN X, vN Y, vN Z, .slice none 0 0] 49]) (by kernel_rfl) ?_
  refine kSeq ?_
  refine cSeq ?_
  refine cReg ?_
  refine segEndH [1, 2, 5] (T1 := (mkT 44 [(1, vI k), (2, vP 0 0), (5, vI 1048576)])) (by kernel_rfl) ?_
  refine kSeq ?_
  refine cSeq ?_
  refine cReg ?_
  refine segH 2 (T1 := (mkT 44 [(1, vI k), (2, vP 0 0), (5, vI 1048576), (11, .agg #[vN X, vN Y, vN Z, .slice none 0 0]), (12, vI 1048576)])) (by kernel_rfl) ?_
  refine rCall (v := vI 1048576) (args := [.agg #[vN X, vN Y, vN Z, .slice none 0 0], vI 1048576]) (by kernel_rfl) rfl (by kernel_rfl) (Sound.lay0 [] (szHeapN ((X : Nat) : Int) ((Y : Nat) : Int) ((Z : Nat) : Int) 1048576 (by first | omega | assumption | decide)) trivial rfl trivial rfl (by first | rfl | simp [mpV, mpA, mpS, mpP, renId, shift]) rfl) ?_
  refine segEndH [1, 2, 5] (T1 := (mkT 44 [(1, vI k), (2, vP 0 0), (5, vI 1048576)])) (by kernel_rfl) ?_
  refine kSeq ?_
  refine cSeq ?_
  refine cSeq ?_
  refine cReg ?_
  refine segEndH [1, 2, 15] (T1 := (mkT 44 [(1, vI k), (2, vP 0 0), (15, .bool false)])) (by kernel_rfl) ?_
  refine kSeq ?_
  refine cFalse (by kernel_rfl) ?_
  refine cSkip ?_
  refine kSeq ?_
  refine cSeq ?_
  refine cReg ?_
  refine segH 1 (T1 := (mkT 44 [(1, vI k), (2, vP 0 0), (15, .bool false), (17, .agg #[vN X, vN Y, vN Z, .slice none 0 0])])) (by kernel_rfl) ?_
  refine rCall (v := .agg #[vN X, vN Y, vN Z, vS 1 0]) (args := [.agg #[vN X, vN Y, vN Z, .slice none 0 0]]) (by kernel_rfl) rfl (by kernel_rfl) (Sound.lay (E := [some ⟨[], 74, false, true⟩]) [] (toHeapN ((X : Nat) : Int) ((Y : Nat) : Int) ((Z : Nat) : Int)) trivial rfl trivial rfl (by first | rfl | simp [mpV, mpA, mpS, mpP, renId, shift]) (by first | rfl | simp [mpV, mpA, mpS, mpP, renId, shift]) ⟨enX rfl (Or.inl rfl), trivial⟩) ?_
  refine seg 1 (T1 := (mkT 44 [(1, vI k), (2, vP 0 0), (15, .bool false), (17, .agg #[vN X, vN Y, vN Z, .slice none 0 0]), (18, .agg #[vN X, vN Y, vN Z, vS 1 0]), (19, vI k)])) (H1 := [rB [vN X, vN Y, vN Z, .slice none 0 0] 49, some ⟨[], 74, false, true⟩]) (by kernel_rfl) ?_
  refine rCall (v := .tuple #[vI 0, .bool false]) (args := [.agg #[vN X, vN Y, vN Z, vS 1 0], vI k]) (by kernel_rfl) rfl (by kernel_rfl) (Sound.lay0 [1] (specFullLines_no2 X Y Z ([] : List A3) k (by first | assumption | omega | rfl | decide | exact HeapL.list _ _ _ _ | exact HeapL.nil _ _ _ | exact HeapL.all _ _ _ | (apply HeapL.lt64 <;> assumption) | (repeat' (first | assumption | apply or_lt64 | apply and_lt64 | apply andn_lt64 | apply pow_lt64 | (apply HeapL.lt64 <;> assumption)))) (by first | assumption | omega | rfl | decide | exact HeapL.list _ _ _ _ | exact HeapL.nil _ _ _ | exact HeapL.all _ _ _ | (apply HeapL.lt64 <;> assumption) | (repeat' (first | assumption | apply or_lt64 | apply and_lt64 | apply andn_lt64 | apply pow_lt64 | (apply HeapL.lt64 <;> assumption)))) (by first | assumption | omega | rfl | decide | exact HeapL.list _ _ _ _ | exact HeapL.nil _ _ _ | exact HeapL.all _ _ _ | (apply HeapL.lt64 <;> assumption) | (repeat' (first | assumption | apply or_lt64 | apply and_lt64 | apply andn_lt64 | apply pow_lt64 | (apply HeapL.lt64 <;> assumption))))) ⟨rdF true (flatA3 _ _ _ _) rfl rfl, trivial⟩ rfl ⟨clF (flatA3 _ _ _ _), trivial⟩ rfl (by first | rfl | simp [mpV, mpA, mpS, mpP, renId, shift]) (by first | rfl | simp [mpV, mpA, mpS, mpP, renId, shift])) ?_
  refine segEnd [1, 2, 6, 7] (T1 := (mkT 44 [(1, vI k), (2, vP 0 0), (6, vI 0), (7, .bool false)])) (H1 := [rB [vN X, vN Y, vN Z, .slice none 0 0] 49, some ⟨[], 74, false, true⟩]) (by kernel_rfl) ?_
  refine kSeq ?_
  refine cSeq ?_
  refine cReg ?_
  refine segH 1 (T1 := (mkT 44 [(1, vI k), (2, vP 0 0), (6, vI 0), (7, .bool false), (23, .agg #[vN X, vN Y, vN Z, .slice none 0 0])])) (by kernel_rfl) ?_
  refine rCall (v := .agg #[vN X, vN Y, vN Z, vS 2 0]) (args := [.agg #[vN X, vN Y, vN Z, .slice none 0 0]]) (by kernel_rfl) rfl (by kernel_rfl) (Sound.lay (E := [some ⟨[], 74, false, true⟩]) [] (toHeapN ((X : Nat) : Int) ((Y : Nat) : Int) ((Z : Nat) : Int)) trivial rfl trivial rfl (by first | rfl | simp [mpV, mpA, mpS, mpP, renId, shift]) (by first | rfl | simp [mpV, mpA, mpS, mpP, renId, shift]) ⟨enX rfl (Or.inl rfl), trivial⟩) ?_
  refine segEnd [1, 2, 6, 7, 8] (T1 := (mkT 44 [(1, vI k), (2, vP 0 0), (6, vI 0), (7, .bool false), (8, vP 3 0)])) (H1 := [rB [vN X, vN Y, vN Z, .slice none 0 0] 49, some ⟨[], 74, false, true⟩, some ⟨[], 74, false, true⟩, rB [vN X, vN Y, vN Z, vS 2 0] 40]) (by kernel_rfl) ?_
  refine kSeq ?_
  refine cSeq ?_
  refine cReg ?_
  refine segH 2 (T1 := (mkT 44 [(1, vI k), (2, vP 0 0), (6, vI 0), (7, .bool false), (8, vP 3 0), (26, .agg #[vN X, vN Y, vN Z, vS 2 0]), (27, vI k)])) (by kernel_rfl) ?_
  refine rCall (v := .tuple #[vI 0, .bool false]) (args := [.agg #[vN X, vN Y, vN Z, vS 2 0], vI k]) (by kernel_rfl) rfl (by kernel_rfl) (Sound.lay0 [2] (implFullLines_no2 X Y Z ([] : List A3) k (by first | assumption | omega | rfl | decide | exact HeapL.list _ _ _ _ | exact HeapL.nil _ _ _ | exact HeapL.all _ _ _ | (apply HeapL.lt64 <;> assumption) | (repeat' (first | assumption | apply or_lt64 | apply and_lt64 | apply andn_lt64 | apply pow_lt64 | (apply HeapL.lt64 <;> assumption)))) (by first | assumption | omega | rfl | decide | exact HeapL.list _ _ _ _ | exact HeapL.nil _ _ _ | exact HeapL.all _ _ _ | (apply HeapL.lt64 <;> assumption) | (repeat' (first | assumption | apply or_lt64 | apply and_lt64 | apply andn_lt64 | apply pow_lt64 | (apply HeapL.lt64 <;> assumption)))) (by first | assumption | omega | rfl | decide | exact HeapL.list _ _ _ _ | exact HeapL.nil _ _ _ | exact HeapL.all _ _ _ | (apply HeapL.lt64 <;> assumption) | (repeat' (first | assumption | apply or_lt64 | apply and_lt64 | apply andn_lt64 | apply pow_lt64 | (apply HeapL.lt64 <;> assumption))))) ⟨rdF true (flatA3 _ _ _ _) rfl rfl, trivial⟩ rfl ⟨clF (flatA3 _ _ _ _), trivial⟩ rfl (by first | rfl | simp [mpV, mpA, mpS, mpP, renId, shift]) (by first | rfl | simp [mpV, mpA, mpS, mpP, renId, shift])) ?_
  refine segEndH [2, 6, 7, 8, 9, 10] (T1 := (mkT 44 [(2, vP 0 0), (6, vI 0), (7, .bool false), (8, vP 3 0), (9, vI 0), (10, .bool false)])) (by kernel_rfl) ?_
  refine kSeq ?_
  refine cSeq ?_
  refine cSeq ?_
  refine cReg ?_
  refine segEndH [2, 8, 38] (T1 := (mkT 44 [(2, vP 0 0), (8, vP 3 0), (38, .bool false)])) (by kernel_rfl) ?_
  refine kSeq ?_
  refine cFalse (by kernel_rfl) ?_
  refine cSkip ?_
  refine kSeq ?_
  refine cSeq ?_
  refine cSeq ?_
  refine cRegW (N := 5) [⟨[], [], [3]⟩, ⟨[], [], [0]⟩, ⟨[4], [], []⟩, ⟨[], [], [2, 4]⟩, ⟨[], [], []⟩] 1 [4] (by rfl) (by rfl) (by kernel_rfl) (by kernel_rfl) (by kernel_rfl) ⟨nmsX (by kernel_rfl), ⟨nmsX (by kernel_rfl), ⟨nmsX (by kernel_rfl), ⟨nmsX (by kernel_rfl), trivial⟩⟩⟩⟩ ?_
  refine segWH 2 (T1 := (mkT 44 [(2, vP 0 0), (8, vP 3 0), (38, .bool false), (39, .agg #[vN X, vN Y, vN Z, vS 2 0]), (40, .agg #[vN X, vN Y, vN Z, .slice none 0 0])])) (by kernel_rfl) ?_
  refine rW (m := ⟨[4], [], []⟩) (v := .agg #[vN X, vN Y, vN Z, vS 4 0]) rfl (by kernel_rfl) (stN (i := 4) (E := [some ⟨[], 74, false, true⟩]) (v1 := .agg #[vN X, vN Y, vN Z, vS 5 0]) (args := [.agg #[vN X, vN Y, vN Z, .slice none 0 0]]) rfl (by kernel_rfl) (Any.lay (E := [some ⟨[], 74, false, true⟩]) (N := 5) [] (toHeapN ((X : Nat) : Int) ((Y : Nat) : Int) ((Z : Nat) : Int)) trivial rfl trivial rfl (by first | rfl | simp [mpV, mpA, mpS, mpP, renId, shift]) (by first | rfl | simp [mpV, mpA, mpS, mpP, renId, shift]) ⟨enX rfl (Or.inl rfl), trivial⟩) rfl (by kernel_rfl) (by kernel_rfl) (by kernel_rfl) (by kernel_rfl) (FlatH.cons (flatRow_of rfl) FlatH.nil)) (by kernel_rfl) (NRs.all ⟨nrOf (by rfl) (nmX (by kernel_rfl)), trivial⟩) ?_
  refine rW (m := ⟨[], [], [2, 4]⟩) (v := .bool true) rfl (by kernel_rfl) (stQ (args := [.agg #[vN X, vN Y, vN Z, vS 2 0], .agg #[vN X, vN Y, vN Z, vS 4 0]]) rfl (by kernel_rfl) (Any.lay0 [2, 4] (eqHeapB ((X : Nat) : Int) ((Y : Nat) : Int) ((Z : Nat) : Int) ([] : List A3) (by first | omega | assumption | (simp; done))) ⟨rdF true (flatA3 _ _ _ _) rfl rfl, ⟨rdF true (flatA3 _ _ _ _) rfl rfl, trivial⟩⟩ rfl ⟨clF (flatA3 _ _ _ _), ⟨clF (flatA3 _ _ _ _), trivial⟩⟩ rfl (by first | rfl | simp [mpV, mpA, mpS, mpP, renId, shift]) rfl) rfl (by kernel_rfl) (by kernel_rfl)) (by kernel_rfl) nr0 ?_
  refine segEndW [43] (T1 := (mkT 44 [(43, .bool false)])) (H1 := [rB [vN X, vN Y, vN Z, .slice none 0 0] 49, some ⟨[], 74, false, true⟩, some ⟨[], 74, false, true⟩, rB [vN X, vN Y, vN Z, vS 2 0] 40, some ⟨[], 74, false, true⟩]) (by kernel_rfl) ?_
  refine kSeq ?_
  refine cFalse (by kernel_rfl) ?_
  refine cSkip ?_
  refine kSeq ?_
  refine cSeq ?_
  refine cReg ?_
  refine segEndH [4] (T1 := (mkT 44 [(4, .bool true)])) (by kernel_rfl) ?_
  refine kSeq ?_
  refine cRet ?_
  -- end
  exact endQ (Or.inr rfl) (l := [.bool true]) [rB [vN X, vN Y, vN Z, .slice none 0 0] 49, some ⟨[], 74, false, true⟩, some ⟨[], 74, false, true⟩, rB [vN X, vN Y, vN Z, vS 2 0] 40, some ⟨[], 74, false, true⟩] (by kernel_rfl) (by first | rfl | kernel_rfl) rfl rfl hcl rfl

set_option maxRecDepth 100000 in
set_option maxHeartbeats 4000000 in
theorem lawFullLines_d0_s (X : Nat) (Y : Nat) (Z : Nat) (L : List A3) (hs : Sides X Y Z) (hL : HeapL X Y Z L) : Sound Try.prog 8 [.agg #[vN X, vN Y, vN Z, vS 0 L.length], vI 0] [some ⟨a3s L, 74, false, false⟩] (.bool true) [some ⟨a3s L, 74, false, false⟩] := by
  refine sound_intro (C := cx) Try.func8 rfl (by kernel_rfl) fun hcl => ?_
  have hz := hs.size
  have hx0 := hs.x0
  have hx4 := hs.x4
  have hy0 := hs.y0
  have hy4 := hs.y4
  have hz0 := hs.z0
  have hz4 := hs.z4
  have hlen : L.length ≤ 64 := by first | (have := hL.len; have := hs.size; omega) | simp
  refine cSeq ?_
  refine cReg ?_
  refine segEnd [1, 2] (T1 := (mkT 44 [(1, vI 0), (2, vP 1 0)])) (H1 := [some ⟨a3s L, 74, false, false⟩, rB [vN X, vN Y, vN Z, vS 0 L.length] 49]) (by kernel_rfl) ?_
  refine kSeq ?_
  refine cSeq ?_
  refine cReg ?_
  refine segEndH [1, 2, 5] (T1 := (mkT 44 [(1, vI 0), (2, vP 1 0), (5, vI 1048576)])) (by kernel_rfl) ?_
  refine kSeq ?_
  refine cSeq ?_
  refine cReg ?_
  refine segH 2 (T1 := (mkT 44 [(1, vI 0), (2, vP 1 0), (5, vI 1048576), (11, .agg #[vN X, vN Y, vN Z, vS 0 L.length]), (12, vI 1048576)])) (by kernel_rfl) ?_
  refine rCall (v := vN (1048576 - L.length)) (args := [.agg #[vN X, vN Y, vN Z, vS 0 L.length], vI 1048576]) (by kernel_rfl) rfl (by kernel_rfl) (Sound.lay0 [0] (szHeapS ((X : Nat) : Int) ((Y : Nat) : Int) ((Z : Nat) : Int) L 1048576 (by first | omega | assumption | (simp; done)) (by first | omega | assumption | decide)) ⟨rdF false (flatA3 _ _ _ _) rfl rfl, trivial⟩ rfl ⟨clF (flatA3 _ _ _ _), trivial⟩ rfl (by first | rfl | simp [mpV, mpA, mpS, mpP, renId, shift]) rfl) ?_
  refine segEndH [1, 2, 5] (T1 := (mkT 44 [(1, vI 0), (2, vP 1 0), (5, vN (1048576 - L.length))])) (by kernel_rfl) ?_
  refine kSeq ?_
  refine cSeq ?_
  refine cSeq ?_
  refine cReg ?_
  refine segEndH [1, 2, 15] (T1 := (mkT 44 [(1, vI 0), (2, vP 1 0), (15, .bool (decide (((1048576 - L.length : Nat) : Int) < 0)))])) (by kernel_rfl) ?_
  refine kSeq ?_
  cases h1 : (decide (((1048576 - L.length : Nat) : Int) < 0) : Bool)
  ·
    (try simp only [Bool.not_eq_true', Bool.not_eq_false', decide_eq_true_eq, decide_eq_false_iff_not, beq_iff_eq, bne_iff_ne, beq_eq_false_iff_ne, bne_eq_false_iff_eq, ne_eq, Decidable.not_not, Bool.and_eq_true, Bool.and_eq_false_imp, Bool.or_eq_true, Bool.or_eq_false_iff, Bool.not_eq_true, Int.not_lt, Int.not_le, ge_iff_le, gt_iff_lt] at h1)
    refine cFalse (by kernel_rfl) ?_
    refine cSkip ?_
    refine kSeq ?_
    refine cSeq ?_
    refine cReg ?_
    refine segH 1 (T1 := (mkT 44 [(1, vI 0), (2, vP 1 0), (15, .bool false), (17, .agg #[vN X, vN Y, vN Z, vS 0 L.length])])) (by kernel_rfl) ?_
    refine rCall (v := .agg #[vN X, vN Y, vN Z, vS 2 L.length]) (args := [.agg #[vN X, vN Y, vN Z, vS 0 L.length]]) (by kernel_rfl) rfl (by kernel_rfl) (Sound.lay (E := [some ⟨a3s L, 74, false, true⟩]) [0] (toHeapB ((X : Nat) : Int) ((Y : Nat) : Int) ((Z : Nat) : Int) L (by first | omega | assumption | (simp; done))) ⟨rdF false (flatA3 _ _ _ _) rfl rfl, trivial⟩ rfl ⟨clF (flatA3 _ _ _ _), trivial⟩ rfl (by first | rfl | simp [mpV, mpA, mpS, mpP, renId, shift]) (by first | rfl | simp [mpV, mpA, mpS, mpP, renId, shift]) ⟨enF (flatA3 _ _ _ _) (Or.inl rfl), trivial⟩) ?_
    refine seg 1 (T1 := (mkT 44 [(1, vI 0), (2, vP 1 0), (15, .bool false), (17, .agg #[vN X, vN Y, vN Z, vS 0 L.length]), (18, .agg #[vN X, vN Y, vN Z, vS 2 L.length]), (19, vI 0)])) (H1 := [some ⟨a3s L, 74, false, false⟩, rB [vN X, vN Y, vN Z, vS 0 L.length] 49, some ⟨a3s L, 74, false, true⟩]) (by kernel_rfl) ?_
    refine rCall (v := .tuple #[vI ((withT 0 X Y Z L (Y * Z)).getD X 0), .bool true]) (args := [.agg #[vN X, vN Y, vN Z, vS 2 L.length], vI 0]) (by kernel_rfl) rfl (by kernel_rfl) (Sound.lay0 [2] (specFullLines_0 X Y Z L (by first | assumption | omega | rfl | decide | exact HeapL.list _ _ _ _ | exact HeapL.nil _ _ _ | exact HeapL.all _ _ _ | (apply HeapL.lt64 <;> assumption) | (repeat' (first | assumption | apply or_lt64 | apply and_lt64 | apply andn_lt64 | apply pow_lt64 | (apply HeapL.lt64 <;> assumption)))) (by first | assumption | omega | rfl | decide | exact HeapL.list _ _ _ _ | exact HeapL.nil _ _ _ | exact HeapL.all _ _ _ | (apply HeapL.lt64 <;> assumption) | (repeat' (first | assumption | apply or_lt64 | apply and_lt64 | apply andn_lt64 | apply pow_lt64 | (apply HeapL.lt64 <;> assumption))))) ⟨rdF true (flatA3 _ _ _ _) rfl rfl, trivial⟩ rfl ⟨clF (flatA3 _ _ _ _), trivial⟩ rfl (by first | rfl | simp [mpV, mpA, mpS, mpP, renId, shift]) (by first | rfl | simp [mpV, mpA, mpS, mpP, renId, shift])) ?_
    refine segEnd [1, 2, 6, 7] (T1 := (mkT 44 [(1, vI 0), (2, vP 1 0), (6, vI ((withT 0 X Y Z L (Y * Z)).getD X 0)), (7, .bool true)])) (H1 := [some ⟨a3s L, 74, false, false⟩, rB [vN X, vN Y, vN Z, vS 0 L.length] 49, some ⟨a3s L, 74, false, true⟩]) (by kernel_rfl) ?_
    refine kSeq ?_
    refine cSeq ?_
    refine cReg ?_
    refine segH 1 (T1 := (mkT 44 [(1, vI 0), (2, vP 1 0), (6, vI ((withT 0 X Y Z L (Y * Z)).getD X 0)), (7, .bool true), (23, .agg #[vN X, vN Y, vN Z, vS 0 L.length])])) (by kernel_rfl) ?_
    refine rCall (v := .agg #[vN X, vN Y, vN Z, vS 3 L.length]) (args := [.agg #[vN X, vN Y, vN Z, vS 0 L.length]]) (by kernel_rfl) rfl (by kernel_rfl) (Sound.lay (E := [some ⟨a3s L, 74, false, true⟩]) [0] (toHeapB ((X : Nat) : Int) ((Y : Nat) : Int) ((Z : Nat) : Int) L (by first | omega | assumption | (simp; done))) ⟨rdF false (flatA3 _ _ _ _) rfl rfl, trivial⟩ rfl ⟨clF (flatA3 _ _ _ _), trivial⟩ rfl (by first | rfl | simp [mpV, mpA, mpS, mpP, renId, shift]) (by first | rfl | simp [mpV, mpA, mpS, mpP, renId, shift]) ⟨enF (flatA3 _ _ _ _) (Or.inl rfl), trivial⟩) ?_
    refine segEnd [1, 2, 6, 7, 8] (T1 := (mkT 44 [(1, vI 0), (2, vP 1 0), (6, vI ((withT 0 X Y Z L (Y * Z)).getD X 0)), (7, .bool true), (8, vP 4 0)])) (H1 := [some ⟨a3s L, 74, false, false⟩, rB [vN X, vN Y, vN Z, vS 0 L.length] 49, some ⟨a3s L, 74, false, true⟩, some ⟨a3s L, 74, false, true⟩, rB [vN X, vN Y, vN Z, vS 3 L.length] 40]) (by kernel_rfl) ?_
    refine kSeq ?_
    refine cSeq ?_
    refine cReg ?_
    refine segH 2 (T1 := (mkT 44 [(1, vI 0), (2, vP 1 0), (6, vI ((withT 0 X Y Z L (Y * Z)).getD X 0)), (7, .bool true), (8, vP 4 0), (26, .agg #[vN X, vN Y, vN Z, vS 3 L.length]), (27, vI 0)])) (by kernel_rfl) ?_
    refine rCall (v := .tuple #[vI ((withT 0 X Y Z L (Y * Z)).getD X 0), .bool true]) (args := [.agg #[vN X, vN Y, vN Z, vS 3 L.length], vI 0]) (by kernel_rfl) rfl (by kernel_rfl) (Sound.lay0 [3] (implFullLines_0 X Y Z L (by first | assumption | omega | rfl | decide | exact HeapL.list _ _ _ _ | exact HeapL.nil _ _ _ | exact HeapL.all _ _ _ | (apply HeapL.lt64 <;> assumption) | (repeat' (first | assumption | apply or_lt64 | apply and_lt64 | apply andn_lt64 | apply pow_lt64 | (apply HeapL.lt64 <;> assumption)))) (by first | assumption | omega | rfl | decide | exact HeapL.list _ _ _ _ | exact HeapL.nil _ _ _ | exact HeapL.all _ _ _ | (apply HeapL.lt64 <;> assumption) | (repeat' (first | assumption | apply or_lt64 | apply and_lt64 | apply andn_lt64 | apply pow_lt64 | (apply HeapL.lt64 <;> assumption))))) ⟨rdF true (flatA3 _ _ _ _) rfl rfl, trivial⟩ rfl ⟨clF (flatA3 _ _ _ _), trivial⟩ rfl (by first | rfl | simp [mpV, mpA, mpS, mpP, renId, shift]) (by first | rfl | simp [mpV, mpA, mpS, mpP, renId, shift])) ?_
    refine segEndH [2, 6, 7, 8, 9, 10] (T1 := (mkT 44 [(2, vP 1 0), (6, vI ((withT 0 X Y Z L (Y * Z)).getD X 0)), (7, .bool true), (8, vP 4 0), (9, vI ((withT 0 X Y Z L (Y * Z)).getD X 0)), (10, .bool true)])) (by kernel_rfl) ?_
    refine kSeq ?_
    refine cSeq ?_
    refine cSeq ?_
    refine cReg ?_
    refine segH 2 (T1 := (mkT 44 [(2, vP 1 0), (6, vI ((withT 0 X Y Z L (Y * Z)).getD X 0)), (7, .bool true), (8, vP 4 0), (9, vI ((withT 0 X Y Z L (Y * Z)).getD X 0)), (10, .bool true), (31, vI ((withT 0 X Y Z L (Y * Z)).getD X 0)), (32, vI ((withT 0 X Y Z L (Y * Z)).getD X 0))])) (by kernel_rfl) ?_
    refine rOp (v := .bool false) (by kernel_rfl) (eNeS (k := .i64) (a := ((withT 0 X Y Z L (Y * Z)).getD X 0)) (by kernel_rfl) (by kernel_rfl)) ?_
    refine segEndH [2, 8, 38] (T1 := (mkT 44 [(2, vP 1 0), (8, vP 4 0), (38, .bool false)])) (by kernel_rfl) ?_
    refine kSeq ?_
    refine cFalse (by kernel_rfl) ?_
    refine cSkip ?_
    refine kSeq ?_
    refine cSeq ?_
    refine cSeq ?_
    refine cRegW (N := 6) [⟨[], [], [4]⟩, ⟨[], [], [1]⟩, ⟨[5], [], [0]⟩, ⟨[], [], [3, 5]⟩, ⟨[], [], []⟩] 1 [5] (by rfl) (by rfl) (by kernel_rfl) (by kernel_rfl) (by kernel_rfl) ⟨nmsF (flatA3 _ _ _ _), ⟨nmsX (by kernel_rfl), ⟨nmsF (flatA3 _ _ _ _), ⟨nmsF (flatA3 _ _ _ _), ⟨nmsX (by kernel_rfl), trivial⟩⟩⟩⟩⟩ ?_
    refine segWH 2 (T1 := (mkT 44 [(2, vP 1 0), (8, vP 4 0), (38, .bool false), (39, .agg #[vN X, vN Y, vN Z, vS 3 L.length]), (40, .agg #[vN X, vN Y, vN Z, vS 0 L.length])])) (by kernel_rfl) ?_
    refine rW (m := ⟨[5], [], [0]⟩) (v := .agg #[vN X, vN Y, vN Z, vS 5 L.length]) rfl (by kernel_rfl) (stN (i := 5) (E := [some ⟨a3s L, 74, false, true⟩]) (v1 := .agg #[vN X, vN Y, vN Z, vS 6 L.length]) (args := [.agg #[vN X, vN Y, vN Z, vS 0 L.length]]) rfl (by kernel_rfl) (Any.lay (E := [some ⟨a3s L, 74, false, true⟩]) (N := 6) [0] (toHeapB ((X : Nat) : Int) ((Y : Nat) : Int) ((Z : Nat) : Int) L (by first | omega | assumption | (simp; done))) ⟨rdF false (flatA3 _ _ _ _) rfl rfl, trivial⟩ rfl ⟨clF (flatA3 _ _ _ _), trivial⟩ rfl (by first | rfl | simp [mpV, mpA, mpS, mpP, renId, shift]) (by first | rfl | simp [mpV, mpA, mpS, mpP, renId, shift]) ⟨enF (flatA3 _ _ _ _) (Or.inl rfl), trivial⟩) rfl (by kernel_rfl) (by kernel_rfl) (by kernel_rfl) (by kernel_rfl) (FlatH.cons (flatA3 _ _ _ _) FlatH.nil)) (by kernel_rfl) (NRs.all ⟨nrOf (by rfl) (nmF (flatA3 _ _ _ _)), trivial⟩) ?_
    refine rW (m := ⟨[], [], [3, 5]⟩) (v := .bool true) rfl (by kernel_rfl) (stQ (args := [.agg #[vN X, vN Y, vN Z, vS 3 L.length], .agg #[vN X, vN Y, vN Z, vS 5 L.length]]) rfl (by kernel_rfl) (Any.lay0 [3, 5] (eqHeapB ((X : Nat) : Int) ((Y : Nat) : Int) ((Z : Nat) : Int) L (by first | omega | assumption | (simp; done))) ⟨rdF true (flatA3 _ _ _ _) rfl rfl, ⟨rdF true (flatA3 _ _ _ _) rfl rfl, trivial⟩⟩ rfl ⟨clF (flatA3 _ _ _ _), ⟨clF (flatA3 _ _ _ _), trivial⟩⟩ rfl (by first | rfl | simp [mpV, mpA, mpS, mpP, renId, shift]) rfl) rfl (by kernel_rfl) (by kernel_rfl)) (by kernel_rfl) nr0 ?_
    refine segEndW [43] (T1 := (mkT 44 [(43, .bool false)])) (H1 := [some ⟨a3s L, 74, false, false⟩, rB [vN X, vN Y, vN Z, vS 0 L.length] 49, some ⟨a3s L, 74, false, true⟩, some ⟨a3s L, 74, false, true⟩, rB [vN X, vN Y, vN Z, vS 3 L.length] 40, some ⟨a3s L, 74, false, true⟩]) (by kernel_rfl) ?_
    refine kSeq ?_
    refine cFalse (by kernel_rfl) ?_
    refine cSkip ?_
    refine kSeq ?_
    refine cSeq ?_
    refine cReg ?_
    refine segEndH [4] (T1 := (mkT 44 [(4, .bool true)])) (by kernel_rfl) ?_
    refine kSeq ?_
    refine cRet ?_
    -- end
    exact endQ (Or.inr rfl) (l := [.bool true]) [rB [vN X, vN Y, vN Z, vS 0 L.length] 49, some ⟨a3s L, 74, false, true⟩, some ⟨a3s L, 74, false, true⟩, rB [vN X, vN Y, vN Z, vS 3 L.length] 40, some ⟨a3s L, 74, false, true⟩] (by kernel_rfl) (by first | rfl | kernel_rfl) rfl rfl hcl rfl
  ·
    (try simp only [Bool.not_eq_true', Bool.not_eq_false', decide_eq_true_eq, decide_eq_false_iff_not, beq_iff_eq, bne_iff_ne, beq_eq_false_iff_ne, bne_eq_false_iff_eq, ne_eq, Decidable.not_not, Bool.and_eq_true, Bool.and_eq_false_imp, Bool.or_eq_true, Bool.or_eq_false_iff, Bool.not_eq_true, Int.not_lt, Int.not_le, ge_iff_le, gt_iff_lt] at h1)
    exfalso; omega

set_option maxRecDepth 100000 in
set_option maxHeartbeats 4000000 in
theorem lawFullLines_d0_n (X : Nat) (Y : Nat) (Z : Nat) (hs : Sides X Y Z) : Sound Try.prog 8 [.agg #[vN X, vN Y, vN Z, .slice none 0 0], vI 0] [] (.bool true) [] := by
  refine sound_intro (C := cx) Try.func8 rfl (by kernel_rfl) fun hcl => ?_
  have hz := hs.size
  have hx0 := hs.x0
  have hx4 := hs.x4
  have hy0 := hs.y0
  have hy4 := hs.y4
  have hz0 := hs.z0
  have hz4 := hs.z4
  have hlen : ([] : List A3).length ≤ 64 := by first | (have := hL.len; have := hs.size; omega) | simp
  refine cSeq ?_
  refine cReg ?_
  refine segEnd [1, 2] (T1 := (mkT 44 [(1, vI 0), (2, vP 0 0)])) (H1 := [rB [vN X, vN Y, vN Z, .slice none 0 0] 49]) (by kernel_rfl) ?_
  refine kSeq ?_
  refine cSeq ?_
  refine cReg ?_
  refine segEndH [1, 2, 5] (T1 := (mkT 44 [(1, vI 0), (2, vP 0 0), (5, vI 1048576)])) (by kernel_rfl) ?_
  refine kSeq ?_
  refine cSeq ?_
  refine cReg ?_
  refine segH 2 (T1 := (mkT 44 [(1, vI 0), (2, vP 0 0), (5, vI 1048576), (11, .agg #[vN X, vN Y, vN Z, .slice none 0 0]), (12, vI 1048576)])) (by kernel_rfl) ?_
  refine rCall (v := vI 1048576) (args := [.agg #[vN X, vN Y, vN Z, .slice none 0 0], vI 1048576]) (by kernel_rfl) rfl (by kernel_rfl) (Sound.lay0 [] (szHeapN ((X : Nat) : Int) ((Y : Nat) : Int) ((Z : Nat) : Int) 1048576 (by first | omega | assumption | decide)) trivial rfl trivial rfl (by first | rfl | simp [mpV, mpA, mpS, mpP, renId, shift]) rfl) ?_
  refine segEndH [1, 2, 5] (T1 := (mkT 44 [(1, vI 0), (2, vP 0 0), (5, vI 1048576)])) (by kernel_rfl) ?_
  refine kSeq ?_
  refine cSeq ?_
  refine cSeq ?_
  refine cReg ?_
  refine segEndH [1, 2, 15] (T1 := (mkT 44 [(1, vI 0), (2, vP 0 0), (15, .bool false)])) (by kernel_rfl) ?_
  refine kSeq ?_
  refine cFalse (by kernel_rfl) ?_
  refine cSkip ?_
  refine kSeq ?_
  refine cSeq ?_
  refine cReg ?_
  refine segH 1 (T1 := (mkT 44 [(1, vI 0), (2, vP 0 0), (15, .bool false), (17, .agg #[vN X, vN Y, vN Z, .slice none 0 0])])) (by kernel_rfl) ?_
  refine rCall (v := .agg #[vN X, vN Y, vN Z, vS 1 0]) (args := [.agg #[vN X, vN Y, vN Z, .slice none 0 0]]) (by kernel_rfl) rfl (by kernel_rfl) (Sound.lay (E := [some ⟨[], 74, false, true⟩]) [] (toHeapN ((X : Nat) : Int) ((Y : Nat) : Int) ((Z : Nat) : Int)) trivial rfl trivial rfl (by first | rfl | simp [mpV, mpA, mpS, mpP, renId, shift]) (by first | rfl | simp [mpV, mpA, mpS, mpP, renId, shift]) ⟨enX rfl (Or.inl rfl), trivial⟩) ?_
  refine seg 1 (T1 := (mkT 44 [(1, vI 0), (2, vP 0 0), (15, .bool false), (17, .agg #[vN X, vN Y, vN Z, .slice none 0 0]), (18, .agg #[vN X, vN Y, vN Z, vS 1 0]), (19, vI 0)])) (H1 := [rB [vN X, vN Y, vN Z, .slice none 0 0] 49, some ⟨[], 74, false, true⟩]) (by kernel_rfl) ?_
  refine rCall (v := .tuple #[vI ((withT 0 X Y Z ([] : List A3) (Y * Z)).getD X 0), .bool true]) (args := [.agg #[vN X, vN Y, vN Z, vS 1 0], vI 0]) (by kernel_rfl) rfl (by kernel_rfl) (Sound.lay0 [1] (specFullLines_0 X Y Z ([] : List A3) (by first | assumption | omega | rfl | decide | exact HeapL.list _ _ _ _ | exact HeapL.nil _ _ _ | exact HeapL.all _ _ _ | (apply HeapL.lt64 <;> assumption) | (repeat' (first | assumption | apply or_lt64 | apply and_lt64 | apply andn_lt64 | apply pow_lt64 | (apply HeapL.lt64 <;> assumption)))) (by first | assumption | omega | rfl | decide | exact HeapL.list _ _ _ _ | exact HeapL.nil _ _ _ | exact HeapL.all _ _ _ | (apply HeapL.lt64 <;> assumption) | (repeat' (first | assumption | apply or_lt64 | apply and_lt64 | apply andn_lt64 | apply pow_lt64 | (apply HeapL.lt64 <;> assumption))))) ⟨rdF true (flatA3 _ _ _ _) rfl rfl, trivial⟩ rfl ⟨clF (flatA3 _ _ _ _), trivial⟩ rfl (by first | rfl | simp [mpV, mpA, mpS, mpP, renId, shift]) (by first | rfl | simp [mpV, mpA, mpS, mpP, renId, shift])) ?_
  refine segEnd [1, 2, 6, 7] (T1 := (mkT 44 [(1, vI 0), (2, vP 0 0), (6, vI ((withT 0 X Y Z ([] : List A3) (Y * Z)).getD X 0)), (7, .bool true)])) (H1 := [rB [vN X, vN Y, vN Z, .slice none 0 0] 49, some ⟨[], 74, false, true⟩]) (by kernel_rfl) ?_
  refine kSeq ?_
  refine cSeq ?_
  refine cReg ?_
  refine segH 1 (T1 := (mkT 44 [(1, vI 0), (2, vP 0 0), (6, vI ((withT 0 X Y Z ([] : List A3) (Y * Z)).getD X 0)), (7, .bool true), (23, .agg #[vN X, vN Y, vN Z, .slice none 0 0])])) (by kernel_rfl) ?_
  refine rCall (v := .agg #[vN X, vN Y, vN Z, vS 2 0]) (args := [.agg #[vN X, vN Y, vN Z, .slice none 0 0]]) (by kernel_rfl) rfl (by kernel_rfl) (Sound.lay (E := [some ⟨[], 74, false, true⟩]) [] (toHeapN ((X : Nat) : Int) ((Y : Nat) : Int) ((Z : Nat) : Int)) trivial rfl trivial rfl (by first | rfl | simp [mpV, mpA, mpS, mpP, renId, shift]) (by first | rfl | simp [mpV, mpA, mpS, mpP, renId, shift]) ⟨enX rfl (Or.inl rfl), trivial⟩) ?_
  refine segEnd [1, 2, 6, 7, 8] (T1 := (mkT 44 [(1, vI 0), (2, vP 0 0), (6, vI ((withT 0 X Y Z ([] : List A3) (Y * Z)).getD X 0)), (7, .bool true), (8, vP 3 0)])) (H1 := [rB [vN X, vN Y, vN Z, .slice none 0 0] 49, some ⟨[], 74, false, true⟩, some ⟨[], 74, false, true⟩, rB [vN X, vN Y, vN Z, vS 2 0] 40]) (by kernel_rfl) ?_
  refine kSeq ?_
  refine cSeq ?_
  refine cReg ?_
  refine segH 2 (T1 := (mkT 44 [(1, vI 0), (2, vP 0 0), (6, vI ((withT 0 X Y Z ([] : List A3) (Y * Z)).getD X 0)), (7, .bool true), (8, vP 3 0), (26, .agg #[vN X, vN Y, vN Z, vS 2 0]), (27, vI 0)])) (by kernel_rfl) ?_
  refine rCall (v := .tuple #[vI ((withT 0 X Y Z ([] : List A3) (Y * Z)).getD X 0), .bool true]) (args := [.agg #[vN X, vN Y, vN Z, vS 2 0], vI 0]) (by kernel_rfl) rfl (by kernel_rfl) (Sound.lay0 [2] (implFullLines_0 X Y Z ([] : List A3) (by first | assumption | omega | rfl | decide | exact HeapL.list _ _ _ _ | exact HeapL.nil _ _ _ | exact HeapL.all _ _ _ | (apply HeapL.lt64 <;> assumption) | (repeat' (first | assumption | apply or_lt64 | apply and_lt64 | apply andn_lt64 | apply pow_lt64 | (apply HeapL.lt64 <;> assumption)))) (by first | assumption | omega | rfl | decide | exact HeapL.list _ _ _ _ | exact HeapL.nil _ _ _ | exact HeapL.all _ _ _ | (apply HeapL.lt64 <;> assumption) | (repeat' (first | assumption | apply or_lt64 | apply and_lt64 | apply andn_lt64 | apply pow_lt64 | (apply HeapL.lt64 <;> assumption))))) ⟨rdF true (flatA3 _ _ _ _) rfl rfl, trivial⟩ rfl ⟨clF (flatA3 _ _ _ _), trivial⟩ rfl (by first | rfl | simp [mpV, mpA, mpS, mpP, renId, shift]) (by first | rfl | simp [mpV, mpA, mpS, mpP, renId, shift])) ?_
  refine segEndH [2, 6, 7, 8, 9, 10] (T1 := (mkT 44 [(2, vP 0 0), (6, vI ((withT 0 X Y Z ([] : List A3) (Y * Z)).getD X 0)), (7, .bool true), (8, vP 3 0), (9, vI ((withT 0 X Y Z ([] : List A3) (Y * Z)).getD X 0)), (10, .bool true)])) (by kernel_rfl) ?_
  refine kSeq ?_
  refine cSeq ?_
  refine cSeq ?_
  refine cReg ?_
  refine segH 2 (T1 := (mkT 44 [(2, vP 0 0), (6, vI ((withT 0 X Y Z ([] : List A3) (Y * Z)).getD X 0)), (7, .bool true), (8, vP 3 0), (9, vI ((withT 0 X Y Z ([] : List A3) (Y * Z)).getD X 0)), (10, .bool true), (31, vI ((withT 0 X Y Z ([] : List A3) (Y * Z)).getD X 0)), (32, vI ((withT 0 X Y Z ([] : List A3) (Y * Z)).getD X 0))])) (by kernel_rfl) ?_
  refine rOp (v := .bool false) (by kernel_rfl) (eNeS (k := .i64) (a := ((withT 0 X Y Z ([] : List A3) (Y * Z)).getD X 0)) (by kernel_rfl) (by kernel_rfl)) ?_
  refine segEndH [2, 8, 38] (T1 := (mkT 44 [(2, vP 0 0), (8, vP 3 0), (38, .bool false)])) (by kernel_rfl) ?_
  refine kSeq ?_
  refine cFalse (by kernel_rfl) ?_
  refine cSkip ?_
  refine kSeq ?_
  refine cSeq ?_
  refine cSeq ?_
  refine cRegW (N := 5) [⟨[], [], [3]⟩, ⟨[], [], [0]⟩, ⟨[4], [], []⟩, ⟨[], [], [2, 4]⟩, ⟨[], [], []⟩] 1 [4] (by rfl) (by rfl) (by kernel_rfl) (by kernel_rfl) (by kernel_rfl) ⟨nmsX (by kernel_rfl), ⟨nmsX (by kernel_rfl), ⟨nmsX (by kernel_rfl), ⟨nmsX (by kernel_rfl), trivial⟩⟩⟩⟩ ?_
  refine segWH 2 (T1 := (mkT 44 [(2, vP 0 0), (8, vP 3 0), (38, .bool false), (39, .agg #[vN X, vN Y, vN Z, vS 2 0]), (40, .agg #[vN X, vN Y, vN Z, .slice none 0 0])])) (by kernel_rfl) ?_
  refine rW (m := ⟨[4], [], []⟩) (v := .agg #[vN X, vN Y, vN Z, vS 4 0]) rfl (by kernel_rfl) (stN (i := 4) (E := [some ⟨[], 74, false, true⟩]) (v1 := .agg #[vN X, vN Y, vN Z, vS 5 0]) (args := [.agg #[vN X, vN Y, vN Z, .slice none 0 0]]) rfl (by kernel_rfl) (Any.lay (E := [some ⟨[], 74, false, true⟩]) (N := 5) [] (toHeapN ((X : Nat) : Int) ((Y : Nat) : Int) ((Z : Nat) : Int)) trivial rfl trivial rfl (by first | rfl | simp [mpV, mpA, mpS, mpP, renId, shift]) (by first | rfl | simp [mpV, mpA, mpS, mpP, renId, shift]) ⟨enX rfl (Or.inl rfl), trivial⟩) rfl (by kernel_rfl) (by kernel_rfl) (by kernel_rfl) (by kernel_rfl) (FlatH.cons (flatRow_of rfl) FlatH.nil)) (by kernel_rfl) (NRs.all ⟨nrOf (by rfl) (nmX (by kernel_rfl)), trivial⟩) ?_
  refine rW (m := ⟨[], [], [2, 4]⟩) (v := .bool true) rfl (by kernel_rfl) (stQ (args := [.agg #[vN X, vN Y, vN Z, vS 2 0], .agg #[vN X, vN Y, vN Z, vS 4 0]]) rfl (by kernel_rfl) (Any.lay0 [2, 4] (eqHeapB ((X : Nat) : Int) ((Y : Nat) : Int) ((Z : Nat) : Int) ([] : List A3) (by first | omega | assumption | (simp; done))) ⟨rdF true (flatA3 _ _ _ _) rfl rfl, ⟨rdF true (flatA3 _ _ _ _) rfl rfl, trivial⟩⟩ rfl ⟨clF (flatA3 _ _ _ _), ⟨clF (flatA3 _ _ _ _), trivial⟩⟩ rfl (by first | rfl | simp [mpV, mpA, mpS, mpP, renId, shift]) rfl) rfl (by kernel_rfl) (by kernel_rfl)) (by kernel_rfl) nr0 ?_
  refine segEndW [43] (T1 := (mkT 44 [(43, .bool false)])) (H1 := [rB [vN X, vN Y, vN Z, .slice none 0 0] 49, some ⟨[], 74, false, true⟩, some ⟨[], 74, false, true⟩, rB [vN X, vN Y, vN Z, vS 2 0] 40, some ⟨[], 74, false, true⟩]) (by kernel_rfl) ?_
  refine kSeq ?_
  refine cFalse (by kernel_rfl) ?_
  refine cSkip ?_
  refine kSeq ?_
  refine cSeq ?_
  refine cReg ?_
  refine segEndH [4] (T1 := (mkT 44 [(4, .bool true)])) (by kernel_rfl) ?_
  refine kSeq ?_
  refine cRet ?_
  -- end
  exact endQ (Or.inr rfl) (l := [.bool true]) [rB [vN X, vN Y, vN Z, .slice none 0 0] 49, some ⟨[], 74, false, true⟩, some ⟨[], 74, false, true⟩, rB [vN X, vN Y, vN Z, vS 2 0] 40, some ⟨[], 74, false, true⟩] (by kernel_rfl) (by first | rfl | kernel_rfl) rfl rfl hcl rfl

set_option maxRecDepth 100000 in
set_option maxHeartbeats 4000000 in
theorem lawFullLines_d1_s (X : Nat) (Y : Nat) (Z : Nat) (L : List A3) (hs : Sides X Y Z) (hL : HeapL X Y Z L) : Sound Try.prog 8 [.agg #[vN X, vN Y, vN Z, vS 0 L.length], vI 1] [some ⟨a3s L, 74, false, false⟩] (.bool true) [some ⟨a3s L, 74, false, false⟩] := by
  refine sound_intro (C := cx) Try.func8 rfl (by kernel_rfl) fun hcl => ?_
  have hz := hs.size
  have hx0 := hs.x0
  have hx4 := hs.x4
  have hy0 := hs.y0
  have hy4 := hs.y4
  have hz0 := hs.z0
  have hz4 := hs.z4
  have hlen : L.length ≤ 64 := by first | (have := hL.len; have := hs.size; omega) | simp
  refine cSeq ?_
  refine cReg ?_
  refine segEnd [1, 2] (T1 := (mkT 44 [(1, vI 1), (2, vP 1 0)])) (H1 := [some ⟨a3s L, 74, false, false⟩, rB [vN X, vN Y, vN Z, vS 0 L.length] 49]) (by kernel_rfl) ?_
  refine kSeq ?_
  refine cSeq ?_
  refine cReg ?_
  refine segEndH [1, 2, 5] (T1 := (mkT 44 [(1, vI 1), (2, vP 1 0), (5, vI 1048576)])) (by kernel_rfl) ?_
  refine kSeq ?_
  refine cSeq ?_
  refine cReg ?_
  refine segH 2 (T1 := (mkT 44 [(1, vI 1), (2, vP 1 0), (5, vI 1048576), (11, .agg #[vN X, vN Y, vN Z, vS 0 L.length]), (12, vI 1048576)])) (by kernel_rfl) ?_
  refine rCall (v := vN (1048576 - L.length)) (args := [.agg #[vN X, vN Y, vN Z, vS 0 L.length], vI 1048576]) (by kernel_rfl) rfl (by kernel_rfl) (Sound.lay0 [0] (szHeapS ((X : Nat) : Int) ((Y : Nat) : Int) ((Z : Nat) : Int) L 1048576 (by first | omega | assumption | (simp; done)) (by first | omega | assumption | decide)) ⟨rdF false (flatA3 _ _ _ _) rfl rfl, trivial⟩ rfl ⟨clF (flatA3 _ _ _ _), trivial⟩ rfl (by first | rfl | simp [mpV, mpA, mpS, mpP, renId, shift]) rfl) ?_
  refine segEndH [1, 2, 5] (T1 := (mkT 44 [(1, vI 1), (2, vP 1 0), (5, vN (1048576 - L.length))])) (by kernel_rfl) ?_
  refine kSeq ?_
  refine cSeq ?_
  refine cSeq ?_
  refine cReg ?_
  refine segEndH [1, 2, 15] (T1 := (mkT 44 [(1, vI 1), (2, vP 1 0), (15, .bool (decide (((1048576 - L.length : Nat) : Int) < 0)))])) (by kernel_rfl) ?_
  refine kSeq ?_
  cases h1 : (decide (((1048576 - L.length : Nat) : Int) < 0) : Bool)
  ·
    (try simp only [Bool.not_eq_true', Bool.not_eq_false', decide_eq_true_eq, decide_eq_false_iff_not, beq_iff_eq, bne_iff_ne, beq_eq_false_iff_ne, bne_eq_false_iff_eq, ne_eq, Decidable.not_not, Bool.and_eq_true, Bool.and_eq_false_imp, Bool.or_eq_true, Bool.or_eq_false_iff, Bool.not_eq_true, Int.not_lt, Int.not_le, ge_iff_le, gt_iff_lt] at h1)
    refine cFalse (by kernel_rfl) ?_
    refine cSkip ?_
    refine kSeq ?_
    refine cSeq ?_
    refine cReg ?_
    refine segH 1 (T1 := (mkT 44 [(1, vI 1), (2, vP 1 0), (15, .bool false), (17, .agg #[vN X, vN Y, vN Z, vS 0 L.length])])) (by kernel_rfl) ?_
    refine rCall (v := .agg #[vN X, vN Y, vN Z, vS 2 L.length]) (args := [.agg #[vN X, vN Y, vN Z, vS 0 L.length]]) (by kernel_rfl) rfl (by kernel_rfl) (Sound.lay (E := [some ⟨a3s L, 74, false, true⟩]) [0] (toHeapB ((X : Nat) : Int) ((Y : Nat) : Int) ((Z : Nat) : Int) L (by first | omega | assumption | (simp; done))) ⟨rdF false (flatA3 _ _ _ _) rfl rfl, trivial⟩ rfl ⟨clF (flatA3 _ _ _ _), trivial⟩ rfl (by first | rfl | simp [mpV, mpA, mpS, mpP, renId, shift]) (by first | rfl | simp [mpV, mpA, mpS, mpP, renId, shift]) ⟨enF (flatA3 _ _ _ _) (Or.inl rfl), trivial⟩) ?_
    refine seg 1 (T1 := (mkT 44 [(1, vI 1), (2, vP 1 0), (15, .bool false), (17, .agg #[vN X, vN Y, vN Z, vS 0 L.length]), (18, .agg #[vN X, vN Y, vN Z, vS 2 L.length]), (19, vI 1)])) (H1 := [some ⟨a3s L, 74, false, false⟩, rB [vN X, vN Y, vN Z, vS 0 L.length] 49, some ⟨a3s L, 74, false, true⟩]) (by kernel_rfl) ?_
    refine rCall (v := .tuple #[vI ((withT 1 X Y Z L (X * Z)).getD Y 0), .bool true]) (args := [.agg #[vN X, vN Y, vN Z, vS 2 L.length], vI 1]) (by kernel_rfl) rfl (by kernel_rfl) (Sound.lay0 [2] (specFullLines_1 X Y Z L (by first | assumption | omega | rfl | decide | exact HeapL.list _ _ _ _ | exact HeapL.nil _ _ _ | exact HeapL.all _ _ _ | (apply HeapL.lt64 <;> assumption) | (repeat' (first | assumption | apply or_lt64 | apply and_lt64 | apply andn_lt64 | apply pow_lt64 | (apply HeapL.lt64 <;> assumption)))) (by first | assumption | omega | rfl | decide | exact HeapL.list _ _ _ _ | exact HeapL.nil _ _ _ | exact HeapL.all _ _ _ | (apply HeapL.lt64 <;> assumption) | (repeat' (first | assumption | apply or_lt64 | apply and_lt64 | apply andn_lt64 | apply pow_lt64 | (apply HeapL.lt64 <;> assumption))))) ⟨rdF true (flatA3 _ _ _ _) rfl rfl, trivial⟩ rfl ⟨clF (flatA3 _ _ _ _), trivial⟩ rfl (by first | rfl | simp [mpV, mpA, mpS, mpP, renId, shift]) (by first | rfl | simp [mpV, mpA, mpS, mpP, renId, shift])) ?_
    refine segEnd [1, 2, 6, 7] (T1 := (mkT 44 [(1, vI 1), (2, vP 1 0), (6, vI ((withT 1 X Y Z L (X * Z)).getD Y 0)), (7, .bool true)])) (H1 := [some ⟨a3s L, 74, false, false⟩, rB [vN X, vN Y, vN Z, vS 0 L.length] 49, some ⟨a3s L, 74, false, true⟩]) (by kernel_rfl) ?_
    refine kSeq ?_
    refine cSeq ?_
    refine cReg ?_
    refine segH 1 (T1 := (mkT 44 [(1, vI 1), (2, vP 1 0), (6, vI ((withT 1 X Y Z L (X * Z)).getD Y 0)), (7, .bool true), (23, .agg #[vN X, vN Y, vN Z, vS 0 L.length])])) (by kernel_rfl) ?_
    refine rCall (v := .agg #[vN X, vN Y, vN Z, vS 3 L.length]) (args := [.agg #[vN X, vN Y, vN Z, vS 0 L.length]]) (by kernel_rfl) rfl (by kernel_rfl) (Sound.lay (E := [some ⟨a3s L, 74, false, true⟩]) [0] (toHeapB ((X : Nat) : Int) ((Y : Nat) : Int) ((Z : Nat) : Int) L (by first | omega | assumption | (simp; done))) ⟨rdF false (flatA3 _ _ _ _) rfl rfl, trivial⟩ rfl ⟨clF (flatA3 _ _ _ _), trivial⟩ rfl (by first | rfl | simp [mpV, mpA, mpS, mpP, renId, shift]) (by first | rfl | simp [mpV, mpA, mpS, mpP, renId, shift]) ⟨enF (flatA3 _ _ _ _) (Or.inl rfl), trivial⟩) ?_
    refine segEnd [1, 2, 6, 7, 8] (T1 := (mkT 44 [(1, vI 1), (2, vP 1 0), (6, vI ((withT 1 X Y Z L (X * Z)).getD Y 0)), (7, .bool true), (8, vP 4 0)])) (H1 := [some ⟨a3s L, 74, false, false⟩, rB [vN X, vN Y, vN Z, vS 0 L.length] 49, some ⟨a3s L, 74, false, true⟩, some ⟨a3s L, 74, false, true⟩, rB [vN X, vN Y, vN Z, vS 3 L.length] 40]) (by kernel_rfl) ?_
    refine kSeq ?_
    refine cSeq ?_
    refine cReg ?_
    refine segH 2 (T1 := (mkT 44 [(1, vI 1), (2, vP 1 0), (6, vI ((withT 1 X Y Z L (X * Z)).getD Y 0)), (7, .bool true), (8, vP 4 0), (26, .agg #[vN X, vN Y, vN Z, vS 3 L.length]), (27, vI 1)])) (by kernel_rfl) ?_
    refine rCall (v := .tuple #[vI ((withT 1 X Y Z L (X * Z)).getD Y 0), .bool true]) (args := [.agg #[vN X, vN Y, vN Z, vS 3 L.length], vI 1]) (by kernel_rfl) rfl (by kernel_rfl) (Sound.lay0 [3] (implFullLines_1 X Y Z L (by first | assumption | omega | rfl | decide | exact HeapL.list _ _ _ _ | exact HeapL.nil _ _ _ | exact HeapL.all _ _ _ | (apply HeapL.lt64 <;> assumption) | (repeat' (first | assumption | apply or_lt64 | apply and_lt64 | apply andn_lt64 | apply pow_lt64 | (apply HeapL.lt64 <;> assumption)))) (by first | assumption | omega | rfl | decide | exact HeapL.list _ _ _ _ | exact HeapL.nil _ _ _ | exact HeapL.all _ _ _ | (apply HeapL.lt64 <;> assumption) | (repeat' (first | assumption | apply or_lt64 | apply and_lt64 | apply andn_lt64 | apply pow_lt64 | (apply HeapL.lt64 <;> assumption))))) ⟨rdF true (flatA3 _ _ _ _) rfl rfl, trivial⟩ rfl ⟨clF (flatA3 _ _ _ _), trivial⟩ rfl (by first | rfl | simp [mpV, mpA, mpS, mpP, renId, shift]) (by first | rfl | simp [mpV, mpA, mpS, mpP, renId, shift])) ?_
    refine segEndH [2, 6, 7, 8, 9, 10] (T1 := (mkT 44 [(2, vP 1 0), (6, vI ((withT 1 X Y Z L (X * Z)).getD Y 0)), (7, .bool true), (8, vP 4 0), (9, vI ((withT 1 X Y Z L (X * Z)).getD Y 0)), (10, .bool true)])) (by kernel_rfl) ?_
    refine kSeq ?_
    refine cSeq ?_
    refine cSeq ?_
    refine cReg ?_
    refine segH 2 (T1 := (mkT 44 [(2, vP 1 0), (6, vI ((withT 1 X Y Z L (X * Z)).getD Y 0)), (7, .bool true), (8, vP 4 0), (9, vI ((withT 1 X Y Z L (X * Z)).getD Y 0)), (10, .bool true), (31, vI ((withT 1 X Y Z L (X * Z)).getD Y 0)), (32, vI ((withT 1 X Y Z L (X * Z)).getD Y 0))])) (by kernel_rfl) ?_
    refine rOp (v := .bool false) (by kernel_rfl) (eNeS (k := .i64) (a := ((withT 1 X Y Z L (X * Z)).getD Y 0)) (by kernel_rfl) (by kernel_rfl)) ?_
    refine segEndH [2, 8, 38] (T1 := (mkT 44 [(2, vP 1 0), (8, vP 4 0), (38, .bool false)])) (by kernel_rfl) ?_
    refine kSeq ?_
    refine cFalse (by kernel_rfl) ?_
    refine cSkip ?_
    refine kSeq ?_
    refine cSeq ?_
    refine cSeq ?_
    refine cRegW (N := 6) [⟨[], [], [4]⟩, ⟨[], [], [1]⟩, ⟨[5], [], [0]⟩, ⟨[], [], [3, 5]⟩, ⟨[], [], []⟩] 1 [5] (by rfl) (by rfl) (by kernel_rfl) (by kernel_rfl) (by kernel_rfl) ⟨nmsF (flatA3 _ _ _ _), ⟨nmsX (by kernel_rfl), ⟨nmsF (flatA3 _ _ _ _), ⟨nmsF (flatA3 _ _ _ _), ⟨nmsX (by kernel_rfl), trivial⟩⟩⟩⟩⟩ ?_
    refine segWH 2 (T1 := (mkT 44 [(2, vP 1 0), (8, vP 4 0), (38, .bool false), (39, .agg #[vN X, vN Y, vN Z, vS 3 L.length]), (40, .agg #[vN X, vN Y, vN Z, vS 0 L.length])])) (by kernel_rfl) ?_
    refine rW (m := ⟨[5], [], [0]⟩) (v := .agg #[vN X, vN Y, vN Z, vS 5 L.length]) rfl (by kernel_rfl) (stN (i := 5) (E := [some ⟨a3s L, 74, false, true⟩]) (v1 := .agg #[vN X, vN Y, vN Z, vS 6 L.length]) (args := [.agg #[vN X, vN Y, vN Z, vS 0 L.length]]) rfl (by kernel_rfl) (Any.lay (E := [some ⟨a3s L, 74, false, true⟩]) (N := 6) [0] (toHeapB ((X : Nat) : Int) ((Y : Nat) : Int) ((Z : Nat) : Int) L (by first | omega | assumption | (simp; done))) ⟨rdF false (flatA3 _ _ _ _) rfl rfl, trivial⟩ rfl ⟨clF (flatA3 _ _ _ _), trivial⟩ rfl (by first | rfl | simp [mpV, mpA, mpS, mpP, renId, shift]) (by first | rfl | simp [mpV, mpA, mpS, mpP, renId, shift]) ⟨enF (flatA3 _ _ _ _) (Or.inl rfl), trivial⟩) rfl (by kernel_rfl) (by kernel_rfl) (by kernel_rfl) (by kernel_rfl) (FlatH.cons (flatA3 _ _ _ _) FlatH.nil)) (by kernel_rfl) (NRs.all ⟨nrOf (by rfl) (nmF (flatA3 _ _ _ _)), trivial⟩) ?_
    refine rW (m := ⟨[], [], [3, 5]⟩) (v := .bool true) rfl (by kernel_rfl) (stQ (args := [.agg #[vN X, vN Y, vN Z, vS 3 L.length], .agg #[vN X, vN Y, vN Z, vS 5 L.length]]) rfl (by kernel_rfl) (Any.lay0 [3, 5] (eqHeapB ((X : Nat) : Int) ((Y : Nat) : Int) ((Z : Nat) : Int) L (by first | omega | assumption | (simp; done))) ⟨rdF true (flatA3 _ _ _ _) rfl rfl, ⟨rdF true (flatA3 _ _ _ _) rfl rfl, trivial⟩⟩ rfl ⟨clF (flatA3 _ _ _ _), ⟨clF (flatA3 _ _ _ _), trivial⟩⟩ rfl (by first | rfl | simp [mpV, mpA, mpS, mpP, renId, shift]) rfl) rfl (by kernel_rfl) (by kernel_rfl)) (by kernel_rfl) nr0 ?_
    refine segEndW [43] (T1 := (mkT 44 [(43, .bool false)])) (H1 := [some ⟨a3s L, 74, false, false⟩, rB [vN X, vN Y, vN Z, vS 0 L.length] 49, some ⟨a3s L, 74, false, true⟩, some ⟨a3s L, 74, false, true⟩, rB [vN X, vN Y, vN Z, vS 3 L.length] 40, some ⟨a3s L, 74, false, true⟩]) (by kernel_rfl) ?_
    refine kSeq ?_
    refine cFalse (by kernel_rfl) ?_
    refine cSkip ?_
    refine kSeq ?_
    refine cSeq ?_
    refine cReg ?_
    refine segEndH [4] (T1 := (mkT 44 [(4, .bool true)])) (by kernel_rfl) ?_
    refine kSeq ?_
    refine cRet ?_
    -- end
    exact endQ (Or.inr rfl) (l := [.bool true]) [rB [vN X, vN Y, vN Z, vS 0 L.length] 49, some ⟨a3s L, 74, false, true⟩, some ⟨a3s L, 74, false, true⟩, rB [vN X, vN Y, vN Z, vS 3 L.length] 40, some ⟨a3s L, 74, false, true⟩] (by kernel_rfl) (by first | rfl | kernel_rfl) rfl rfl hcl rfl
  ·
    (try simp only [Bool.not_eq_true', Bool.not_eq_false', decide_eq_true_eq, decide_eq_false_iff_not, beq_iff_eq, bne_iff_ne, beq_eq_false_iff_ne, bne_eq_false_iff_eq, ne_eq, Decidable.not_not, Bool.and_eq_true, Bool.and_eq_false_imp, Bool.or_eq_true, Bool.or_eq_false_iff, Bool.not_eq_true, Int.not_lt, Int.not_le, ge_iff_le, gt_iff_lt] at h1)
    exfalso; omega

set_option maxRecDepth 100000 in
set_option maxHeartbeats 4000000 in
theorem lawFullLines_d1_n (X : Nat) (Y : Nat) (Z : Nat) (hs : Sides X Y Z) : Sound Try.prog 8 [.agg #[vN X, vN Y, vN Z, .slice none 0 0], vI 1] [] (.bool true) [] := by
  refine sound_intro (C := cx) Try.func8 rfl (by kernel_rfl) fun hcl => ?_
  have hz := hs.size
  have hx0 := hs.x0
  have hx4 := hs.x4
  have hy0 := hs.y0
  have hy4 := hs.y4
  have hz0 := hs.z0
  have hz4 := hs.z4
  have hlen : ([] : List A3).length ≤ 64 := by first | (have := hL.len; have := hs.size; omega) | simp
  refine cSeq ?_
  refine cReg ?_
  refine segEnd [1, 2] (T1 := (mkT 44 [(1, vI 1), (2, vP 0 0)])) (H1 := [rB [vN X, vN Y, vN Z, .slice none 0 0] 49]) (by kernel_rfl) ?_
  refine kSeq ?_
  refine cSeq ?_
  refine cReg ?_
  refine segEndH [1, 2, 5] (T1 := (mkT 44 [(1, vI 1), (2, vP 0 0), (5, vI 1048576)])) (by kernel_rfl) ?_
  refine kSeq ?_
  refine cSeq ?_
  refine cReg ?_
  refine segH 2 (T1 := (mkT 44 [(1, vI 1), (2, vP 0 0), (5, vI 1048576), (11, .agg #[vN X, vN Y, vN Z, .slice none 0 0]), (12, vI 1048576)])) (by kernel_rfl) ?_
  refine rCall (v := vI 1048576) (args := [.agg #[vN X, vN Y, vN Z, .slice none 0 0], vI 1048576]) (by kernel_rfl) rfl (by kernel_rfl) (Sound.lay0 [] (szHeapN ((X : Nat) : Int) ((Y : Nat) : Int) ((Z : Nat) : Int) 1048576 (by first | omega | assumption | decide)) trivial rfl trivial rfl (by first | rfl | simp [mpV, mpA, mpS, mpP, renId, shift]) rfl) ?_
  refine segEndH [1, 2, 5] (T1 := (mkT 44 [(1, vI 1), (2, vP 0 0), (5, vI 1048576)])) (by kernel_rfl) ?_
  refine kSeq ?_
  refine cSeq ?_
  refine cSeq ?_
  refine cReg ?_
  refine segEndH [1, 2, 15] (T1 := (mkT 44 [(1, vI 1), (2, vP 0 0), (15, .bool false)])) (by kernel_rfl) ?_
  refine kSeq ?_
  refine cFalse (by kernel_rfl) ?_
  refine cSkip ?_
  refine kSeq ?_
  refine cSeq ?_
  refine cReg ?_
  refine segH 1 (T1 := (mkT 44 [(1, vI 1), (2, vP 0 0), (15, .bool false), (17, .agg #[vN X, vN Y, vN Z, .slice none 0 0])])) (by kernel_rfl) ?_
  refine rCall (v := .agg #[vN X, vN Y, vN Z, vS 1 0]) (args := [.agg #[vN X, vN Y, vN Z, .slice none 0 0]]) (by kernel_rfl) rfl (by kernel_rfl) (Sound.lay (E := [some ⟨[], 74, false, true⟩]) [] (toHeapN ((X : Nat) : Int) ((Y : Nat) : Int) ((Z : Nat) : Int)) trivial rfl trivial rfl (by first | rfl | simp [mpV, mpA, mpS, mpP, renId, shift]) (by first | rfl | simp [mpV, mpA, mpS, mpP, renId, shift]) ⟨enX rfl (Or.inl rfl), trivial⟩) ?_
  refine seg 1 (T1 := (mkT 44 [(1, vI 1), (2, vP 0 0), (15, .bool false), (17, .agg #[vN X, vN Y, vN Z, .slice none 0 0]), (18, .agg #[vN X, vN Y, vN Z, vS 1 0]), (19, vI 1)])) (H1 := [rB [vN X, vN Y, vN Z, .slice none 0 0] 49, some ⟨[], 74, false, true⟩]) (by kernel_rfl) ?_
  refine rCall (v := .tuple #[vI ((withT 1 X Y Z ([] : List A3) (X * Z)).getD Y 0), .bool true]) (args := [.agg #[vN X, vN Y, vN Z, vS 1 0], vI 1]) (by kernel_rfl) rfl (by kernel_rfl) (Sound.lay0 [1] (specFullLines_1 X Y Z ([] : List A3) (by first | assumption | omega | rfl | decide | exact HeapL.list _ _ _ _ | exact HeapL.nil _ _ _ | exact HeapL.all _ _ _ | (apply HeapL.lt64 <;> assumption) | (repeat' (first | assumption | apply or_lt64 | apply and_lt64 | apply andn_lt64 | apply pow_lt64 | (apply HeapL.lt64 <;> assumption)))) (by first | assumption | omega | rfl | decide | exact HeapL.list _ _ _ _ | exact HeapL.nil _ _ _ | exact HeapL.all _ _ _ | (apply HeapL.lt64 <;> assumption) | (repeat' (first | assumption | apply or_lt64 | apply and_lt64 | apply andn_lt64 | apply pow_lt64 | (apply HeapL.lt64 <;> assumption))))) ⟨rdF true (flatA3 _ _ _ _) rfl rfl, trivial⟩ rfl ⟨clF (flatA3 _ _ _ _), trivial⟩ rfl (by first | rfl | simp [mpV, mpA, mpS, mpP, renId, shift]) (by first | rfl | simp [mpV, mpA, mpS, mpP, renId, shift])) ?_
  refine segEnd [1, 2, 6, 7] (T1 := (mkT 44 [(1, vI 1), (2, vP 0 0), (6, vI ((withT 1 X Y Z ([] : List A3) (X * Z)).getD Y 0)), (7, .bool true)])) (H1 := [rB [vN X, vN Y, vN Z, .slice none 0 0] 49, some ⟨[], 74, false, true⟩]) (by kernel_rfl) ?_
  refine kSeq ?_
  refine cSeq ?_
  refine cReg ?_
  refine segH 1 (T1 := (mkT 44 [(1, vI 1), (2, vP 0 0), (6, vI ((withT 1 X Y Z ([] : List A3) (X * Z)).getD Y 0)), (7, .bool true), (23, .agg #[vN X, vN Y, vN Z, .slice none 0 0])])) (by kernel_rfl) ?_
  refine rCall (v := .agg #[vN X, vN Y, vN Z, vS 2 0]) (args := [.agg #[vN X, vN Y, vN Z, .slice none 0 0]]) (by kernel_rfl) rfl (by kernel_rfl) (Sound.lay (E := [some ⟨[], 74, false, true⟩]) [] (toHeapN ((X : Nat) : Int) ((Y : Nat) : Int) ((Z : Nat) : Int)) trivial rfl trivial rfl (by first | rfl | simp [mpV, mpA, mpS, mpP, renId, shift]) (by first | rfl | simp [mpV, mpA, mpS, mpP, renId, shift]) ⟨enX rfl (Or.inl rfl), trivial⟩) ?_
  refine segEnd [1, 2, 6, 7, 8] (T1 := (mkT 44 [(1, vI 1), (2, vP 0 0), (6, vI ((withT 1 X Y Z ([] : List A3) (X * Z)).getD Y 0)), (7, .bool true), (8, vP 3 0)])) (H1 := [rB [vN X, vN Y, vN Z, .slice none 0 0] 49, some ⟨[], 74, false, true⟩, some ⟨[], 74, false, true⟩, rB [vN X, vN Y, vN Z, vS 2 0] 40]) (by kernel_rfl) ?_
  refine kSeq ?_
  refine cSeq ?_
  refine cReg ?_
  refine segH 2 (T1 := (mkT 44 [(1, vI 1), (2, vP 0 0), (6, vI ((withT 1 X Y Z ([] : List A3) (X * Z)).getD Y 0)), (7, .bool true), (8, vP 3 0), (26, .agg #[vN X, vN Y, vN Z, vS 2 0]), (27, vI 1)])) (by kernel_rfl) ?_
  refine rCall (v := .tuple #[vI ((withT 1 X Y Z ([] : List A3) (X * Z)).getD Y 0), .bool true]) (args := [.agg #[vN X, vN Y, vN Z, vS 2 0], vI 1]) (by kernel_rfl) rfl (by kernel_rfl) (Sound.lay0 [2] (implFullLines_1 X Y Z ([] : List A3) (by first | assumption | omega | rfl | decide | exact HeapL.list _ _ _ _ | exact HeapL.nil _ _ _ | exact HeapL.all _ _ _ | (apply HeapL.lt64 <;> assumption) | (repeat' (first | assumption | apply or_lt64 | apply and_lt64 | apply andn_lt64 | apply pow_lt64 | (apply HeapL.lt64 <;> assumption)))) (by first | assumption | omega | rfl | decide | exact HeapL.list _ _ _ _ | exact HeapL.nil _ _ _ | exact HeapL.all _ _ _ | (apply HeapL.lt64 <;> assumption) | (repeat' (first | assumption | apply or_lt64 | apply and_lt64 | apply andn_lt64 | apply pow_lt64 | (apply HeapL.lt64 <;> assumption))))) ⟨rdF true (flatA3 _ _ _ _) rfl rfl, trivial⟩ rfl ⟨clF (flatA3 _ _ _ _), trivial⟩ rfl (by first | rfl | simp [mpV, mpA, mpS, mpP, renId, shift]) (by first | rfl | simp [mpV, mpA, mpS, mpP, renId, shift])) ?_
  refine segEndH [2, 6, 7, 8, 9, 10] (T1 := (mkT 44 [(2, vP 0 0), (6, vI ((withT 1 X Y Z ([] : List A3) (X * Z)).getD Y 0)), (7, .bool true), (8, vP 3 0), (9, vI ((withT 1 X Y Z ([] : List A3) (X * Z)).getD Y 0)), (10, .bool true)])) (by kernel_rfl) ?_
  refine kSeq ?_
  refine cSeq ?_
  refine cSeq ?_
  refine cReg ?_
  refine segH 2 (T1 := (mkT 44 [(2, vP 0 0), (6, vI ((withT 1 X Y Z ([] : List A3) (X * Z)).getD Y 0)), (7, .bool true), (8, vP 3 0), (9, vI ((withT 1 X Y Z ([] : List A3) (X * Z)).getD Y 0)), (10, .bool true), (31, vI ((withT 1 X Y Z ([] : List A3) (X * Z)).getD Y 0)), (32, vI ((withT 1 X Y Z ([] : List A3) (X * Z)).getD Y 0))])) (by kernel_rfl) ?_
  refine rOp (v := .bool false) (by kernel_rfl) (eNeS (k := .i64) (a := ((withT 1 X Y Z ([] : List A3) (X * Z)).getD Y 0)) (by kernel_rfl) (by kernel_rfl)) ?_
  refine segEndH [2, 8, 38] (T1 := (mkT 44 [(2, vP 0 0), (8, vP 3 0), (38, .bool false)])) (by kernel_rfl) ?_
  refine kSeq ?_
  refine cFalse (by kernel_rfl) ?_
  refine cSkip ?_
  refine kSeq ?_
  refine cSeq ?_
  refine cSeq ?_
  refine cRegW (N := 5) [⟨[], [], [3]⟩, ⟨[], [], [0]⟩, ⟨[4], [], []⟩, ⟨[], [], [2, 4]⟩, ⟨[], [], []⟩] 1 [4] (by rfl) (by rfl) (by kernel_rfl) (by kernel_rfl) (by kernel_rfl) ⟨nmsX (by kernel_rfl), ⟨nmsX (by kernel_rfl), ⟨nmsX (by kernel_rfl), ⟨nmsX (by kernel_rfl), trivial⟩⟩⟩⟩ ?_
  refine segWH 2 (T1 := (mkT 44 [(2, vP 0 0), (8, vP 3 0), (38, .bool false), (39, .agg #[vN X, vN Y, vN Z, vS 2 0]), (40, .agg #[vN X, vN Y, vN Z, .slice none 0 0])])) (by kernel_rfl) ?_
  refine rW (m := ⟨[4], [], []⟩) (v := .agg #[vN X, vN Y, vN Z, vS 4 0]) rfl (by kernel_rfl) (stN (i := 4) (E := [some ⟨[], 74, false, true⟩]) (v1 := .agg #[vN X, vN Y, vN Z, vS 5 0]) (args := [.agg #[vN X, vN Y, vN Z, .slice none 0 0]]) rfl (by kernel_rfl) (Any.lay (E := [some ⟨[], 74, false, true⟩]) (N := 5) [] (toHeapN ((X : Nat) : Int) ((Y : Nat) : Int) ((Z : Nat) : Int)) trivial rfl trivial rfl (by first | rfl | simp [mpV, mpA, mpS, mpP, renId, shift]) (by first | rfl | simp [mpV, mpA, mpS, mpP, renId, shift]) ⟨enX rfl (Or.inl rfl), trivial⟩) rfl (by kernel_rfl) (by kernel_rfl) (by kernel_rfl) (by kernel_rfl) (FlatH.cons (flatRow_of rfl) FlatH.nil)) (by kernel_rfl) (NRs.all ⟨nrOf (by rfl) (nmX (by kernel_rfl)), trivial⟩) ?_
  refine rW (m := ⟨[], [], [2, 4]⟩) (v := .bool true) rfl (by kernel_rfl) (stQ (args := [.agg #[vN X, vN Y, vN Z, vS 2 0], .agg #[vN X, vN Y, vN Z, vS 4 0]]) rfl (by kernel_rfl) (Any.lay0 [2, 4] (eqHeapB ((X : Nat) : Int) ((Y : Nat) : Int) ((Z : Nat) : Int) ([] : List A3) (by first | omega | assumption | (simp; done))) ⟨rdF true (flatA3 _ _ _ _) rfl rfl, ⟨rdF true (flatA3 _ _ _ _) rfl rfl, trivial⟩⟩ rfl ⟨clF (flatA3 _ _ _ _), ⟨clF (flatA3 _ _ _ _), trivial⟩⟩ rfl (by first | rfl | simp [mpV, mpA, mpS, mpP, renId, shift]) rfl) rfl (by kernel_rfl) (by kernel_rfl)) (by kernel_rfl) nr0 ?_
  refine segEndW [43] (T1 := (mkT 44 [(43, .bool false)])) (H1 := [rB [vN X, vN Y, vN Z, .slice none 0 0] 49, some ⟨[], 74, false, true⟩, some ⟨[], 74, false, true⟩, rB [vN X, vN Y, vN Z, vS 2 0] 40, some ⟨[], 74, false, true⟩]) (by kernel_rfl) ?_
  refine kSeq ?_
  refine cFalse (by kernel_rfl) ?_
  refine cSkip ?_
  refine kSeq ?_
  refine cSeq ?_
  refine cReg ?_
  refine segEndH [4] (T1 := (mkT 44 [(4, .bool true)])) (by kernel_rfl) ?_
  refine kSeq ?_
  refine cRet ?_
  -- end
  exact endQ (Or.inr rfl) (l := [.bool true]) [rB [vN X, vN Y, vN Z, .slice none 0 0] 49, some ⟨[], 74, false, true⟩, some ⟨[], 74, false, true⟩, rB [vN X, vN Y, vN Z, vS 2 0] 40, some ⟨[], 74, false, true⟩] (by kernel_rfl) (by first | rfl | kernel_rfl) rfl rfl hcl rfl

set_option maxRecDepth 100000 in
set_option maxHeartbeats 4000000 in
theorem lawFullLines_d2_s (X : Nat) (Y : Nat) (Z : Nat) (L : List A3) (hs : Sides X Y Z) (hL : HeapL X Y Z L) : Sound Try.prog 8 [.agg #[vN X, vN Y, vN Z, vS 0 L.length], vI 2] [some ⟨a3s L, 74, false, false⟩] (.bool true) [some ⟨a3s L, 74, false, false⟩] := by
  refine sound_intro (C := cx) Try.func8 rfl (by kernel_rfl) fun hcl => ?_
  have hz := hs.size
  have hx0 := hs.x0
  have hx4 := hs.x4
  have hy0 := hs.y0
  have hy4 := hs.y4
  have hz0 := hs.z0
  have hz4 := hs.z4
  have hlen : L.length ≤ 64 := by first | (have := hL.len; have := hs.size; omega) | simp
  refine cSeq ?_
  refine cReg ?_
  refine segEnd [1, 2] (T1 := (mkT 44 [(1, vI 2), (2, vP 1 0)])) (H1 := [some ⟨a3s L, 74, false, false⟩, rB [vN X, vN Y, vN Z, vS 0 L.length] 49]) (by kernel_rfl) ?_
  refine kSeq ?_
  refine cSeq ?_
  refine cReg ?_
  refine segEndH [1, 2, 5] (T1 := (mkT 44 [(1, vI 2), (2, vP 1 0), (5, vI 1048576)])) (by kernel_rfl) ?_
  refine kSeq ?_
  refine cSeq ?_
  refine cReg ?_
  refine segH 2 (T1 := (mkT 44 [(1, vI 2), (2, vP 1 0), (5, vI 1048576), (11, .agg #[vN X, vN Y, vN Z, vS 0 L.length]), (12, vI 1048576)])) (by kernel_rfl) ?_
  refine rCall (v := vN (1048576 - L.length)) (args := [.agg #[vN X, vN Y, vN Z, vS 0 L.length], vI 1048576]) (by kernel_rfl) rfl (by kernel_rfl) (Sound.lay0 [0] (szHeapS ((X : Nat) : Int) ((Y : Nat) : Int) ((Z : Nat) : Int) L 1048576 (by first | omega | assumption | (simp; done)) (by first | omega | assumption | decide)) ⟨rdF false (flatA3 _ _ _ _) rfl rfl, trivial⟩ rfl ⟨clF (flatA3 _ _ _ _), trivial⟩ rfl (by first | rfl | simp [mpV, mpA, mpS, mpP, renId, shift]) rfl) ?_
  refine segEndH [1, 2, 5] (T1 := (mkT 44 [(1, vI 2), (2, vP 1 0), (5, vN (1048576 - L.length))])) (by kernel_rfl) ?_
  refine kSeq ?_
  refine cSeq ?_
  refine cSeq ?_
  refine cReg ?_
  refine segEndH [1, 2, 15] (T1 := (mkT 44 [(1, vI 2), (2, vP 1 0), (15, .bool (decide (((1048576 - L.length : Nat) : Int) < 0)))])) (by kernel_rfl) ?_
  refine kSeq ?_
  cases h1 : (decide (((1048576 - L.length : Nat) : Int) < 0) : Bool)
  ·
    (try simp only [Bool.not_eq_true', Bool.not_eq_false', decide_eq_true_eq, decide_eq_false_iff_not, beq_iff_eq, bne_iff_ne, beq_eq_false_iff_ne, bne_eq_false_iff_eq, ne_eq, Decidable.not_not, Bool.and_eq_true, Bool.and_eq_false_imp, Bool.or_eq_true, Bool.or_eq_false_iff, Bool.not_eq_true, Int.not_lt, Int.not_le, ge_iff_le, gt_iff_lt] at h1)
    refine cFalse (by kernel_rfl) ?_
    refine cSkip ?_
    refine kSeq ?_
    refine cSeq ?_
    refine cReg ?_
    refine segH 1 (T1 := (mkT 44 [(1, vI 2), (2, vP 1 0), (15, .bool false), (17, .agg #[vN X, vN Y, vN Z, vS 0 L.length])])) (by kernel_rfl) ?_
    refine rCall (v := .agg #[vN X, vN Y, vN Z, vS 2 L.length]) (args := [.agg #[vN X, vN Y, vN Z, vS 0 L.length]]) (by kernel_rfl) rfl (by kernel_rfl) (Sound.lay (E := [some ⟨a3s L, 74, false, true⟩]) [0] (toHeapB ((X : Nat) : Int) ((Y : Nat) : Int) ((Z : Nat) : Int) L (by first | omega | assumption | (simp; done))) ⟨rdF false (flatA3 _ _ _ _) rfl rfl, trivial⟩ rfl ⟨clF (flatA3 _ _ _ _), trivial⟩ rfl (by first | rfl | simp [mpV, mpA, mpS, mpP, renId, shift]) (by first | rfl | simp [mpV, mpA, mpS, mpP, renId, shift]) ⟨enF (flatA3 _ _ _ _) (Or.inl rfl), trivial⟩) ?_
    refine seg 1 (T1 := (mkT 44 [(1, vI 2), (2, vP 1 0), (15, .bool false), (17, .agg #[vN X, vN Y, vN Z, vS 0 L.length]), (18, .agg #[vN X, vN Y, vN Z, vS 2 L.length]), (19, vI 2)])) (H1 := [some ⟨a3s L, 74, false, false⟩, rB [vN X, vN Y, vN Z, vS 0 L.length] 49, some ⟨a3s L, 74, false, true⟩]) (by kernel_rfl) ?_
    refine rCall (v := .tuple #[vI ((withT 2 X Y Z L (X * Y)).getD Z 0), .bool true]) (args := [.agg #[vN X, vN Y, vN Z, vS 2 L.length], vI 2]) (by kernel_rfl) rfl (by kernel_rfl) (Sound.lay0 [2] (specFullLines_2 X Y Z L (by first | assumption | omega | rfl | decide | exact HeapL.list _ _ _ _ | exact HeapL.nil _ _ _ | exact HeapL.all _ _ _ | (apply HeapL.lt64 <;> assumption) | (repeat' (first | assumption | apply or_lt64 | apply and_lt64 | apply andn_lt64 | apply pow_lt64 | (apply HeapL.lt64 <;> assumption)))) (by first | assumption | omega | rfl | decide | exact HeapL.list _ _ _ _ | exact HeapL.nil _ _ _ | exact HeapL.all _ _ _ | (apply HeapL.lt64 <;> assumption) | (repeat' (first | assumption | apply or_lt64 | apply and_lt64 | apply andn_lt64 | apply pow_lt64 | (apply HeapL.lt64 <;> assumption))))) ⟨rdF true (flatA3 _ _ _ _) rfl rfl, trivial⟩ rfl ⟨clF (flatA3 _ _ _ _), trivial⟩ rfl (by first | rfl | simp [mpV, mpA, mpS, mpP, renId, shift]) (by first | rfl | simp [mpV, mpA, mpS, mpP, renId, shift])) ?_
    refine segEnd [1, 2, 6, 7] (T1 := (mkT 44 [(1, vI 2), (2, vP 1 0), (6, vI ((withT 2 X Y Z L (X * Y)).getD Z 0)), (7, .bool true)])) (H1 := [some ⟨a3s L, 74, false, false⟩, rB [vN X, vN Y, vN Z, vS 0 L.length] 49, some ⟨a3s L, 74, false, true⟩]) (by kernel_rfl) ?_
    refine kSeq ?_
    refine cSeq ?_
    refine cReg ?_
    refine segH 1 (T1 := (mkT 44 [(1, vI 2), (2, vP 1 0), (6, vI ((withT 2 X Y Z L (X * Y)).getD Z 0)), (7, .bool true), (23, .agg #[vN X, vN Y, vN Z, vS 0 L.length])])) (by kernel_rfl) ?_
    refine rCall (v := .agg #[vN X, vN Y, vN Z, vS 3 L.length]) (args := [.agg #[vN X, vN Y, vN Z, vS 0 L.length]]) (by kernel_rfl) rfl (by kernel_rfl) (Sound.lay (E := [some ⟨a3s L, 74, false, true⟩]) [0] (toHeapB ((X : Nat) : Int) ((Y : Nat) : Int) ((Z : Nat) : Int) L (by first | omega | assumption | (simp; done))) ⟨rdF false (flatA3 _ _ _ _) rfl rfl, trivial⟩ rfl ⟨clF (flatA3 _ _ _ _), trivial⟩ rfl (by first | rfl | simp [mpV, mpA, mpS, mpP, renId, shift]) (by first | rfl | simp [mpV, mpA, mpS, mpP, renId, shift]) ⟨enF (flatA3 _ _ _ _) (Or.inl rfl), trivial⟩) ?_
    refine segEnd [1, 2, 6, 7, 8] (T1 := (mkT 44 [(1, vI 2), (2, vP 1 0), (6, vI ((withT 2 X Y Z L (X * Y)).getD Z 0)), (7, .bool true), (8, vP 4 0)])) (H1 := [some ⟨a3s L, 74, false, false⟩, rB [vN X, vN Y, vN Z, vS 0 L.length] 49, some ⟨a3s L, 74, false, true⟩, some ⟨a3s L, 74, false, true⟩, rB [vN X, vN Y, vN Z, vS 3 L.length] 40]) (by kernel_rfl) ?_
    refine kSeq ?_
    refine cSeq ?_
    refine cReg ?_
    refine segH 2 (T1 := (mkT 44 [(1, vI 2), (2, vP 1 0), (6, vI ((withT 2 X Y Z L (X * Y)).getD Z 0)), (7, .bool true), (8, vP 4 0), (26, .agg #[vN X, vN Y, vN Z, vS 3 L.length]), (27, vI 2)])) (by kernel_rfl) ?_
    refine rCall (v := .tuple #[vI ((withT 2 X Y Z L (X * Y)).getD Z 0), .bool true]) (args := [.agg #[vN X, vN Y, vN Z, vS 3 L.length], vI 2]) (by kernel_rfl) rfl (by kernel_rfl) (Sound.lay0 [3] (implFullLines_2 X Y Z L (by first | assumption | omega | rfl | decide | exact HeapL.list _ _ _ _ | exact HeapL.nil _ _ _ | exact HeapL.all _ _ _ | (apply HeapL.lt64 <;> assumption) | (repeat' (first | assumption | apply or_lt64 | apply and_lt64 | apply andn_lt64 | apply pow_lt64 | (apply HeapL.lt64 <;> assumption)))) (by first | assumption | omega | rfl | decide | exact HeapL.list _ _ _ _ | exact HeapL.nil _ _ _ | exact HeapL.all _ _ _ | (apply HeapL.lt64 <;> assumption) | (repeat' (first | assumption | apply or_lt64 | apply and_lt64 | apply andn_lt64 | apply pow_lt64 | (apply HeapL.lt64 <;> assumption))))) ⟨rdF true (flatA3 _ _ _ _) rfl rfl, trivial⟩ rfl ⟨clF (flatA3 _ _ _ _), trivial⟩ rfl (by first | rfl | simp [mpV, mpA, mpS, mpP, renId, shift]) (by first | rfl | simp [mpV, mpA, mpS, mpP, renId, shift])) ?_
    refine segEndH [2, 6, 7, 8, 9, 10] (T1 := (mkT 44 [(2, vP 1 0), (6, vI ((withT 2 X Y Z L (X * Y)).getD Z 0)), (7, .bool true), (8, vP 4 0), (9, vI ((withT 2 X Y Z L (X * Y)).getD Z 0)), (10, .bool true)])) (by kernel_rfl) ?_
    refine kSeq ?_
    refine cSeq ?_
    refine cSeq ?_
    refine cReg ?_
    refine segH 2 (T1 := (mkT 44 [(2, vP 1 0), (6, vI ((withT 2 X Y Z L (X * Y)).getD Z 0)), (7, .bool true), (8, vP 4 0), (9, vI ((withT 2 X Y Z L (X * Y)).getD Z 0)), (10, .bool true), (31, vI ((withT 2 X Y Z L (X * Y)).getD Z 0)), (32, vI ((withT 2 X Y Z L (X * Y)).getD Z 0))])) (by kernel_rfl) ?_
    refine rOp (v := .bool false) (by kernel_rfl) (eNeS (k := .i64) (a := ((withT 2 X Y Z L (X * Y)).getD Z 0)) (by kernel_rfl) (by kernel_rfl)) ?_
    refine segEndH [2, 8, 38] (T1 := (mkT 44 [(2, vP 1 0), (8, vP 4 0), (38, .bool false)])) (by kernel_rfl) ?_
    refine kSeq ?_
    refine cFalse (by kernel_rfl) ?_
    refine cSkip ?_
    refine kSeq ?_
    refine cSeq ?_
    refine cSeq ?_
    refine cRegW (N := 6) [⟨[], [], [4]⟩, ⟨[], [], [1]⟩, ⟨[5], [], [0]⟩, ⟨[], [], [3, 5]⟩, ⟨[], [], []⟩] 1 [5] (by rfl) (by rfl) (by kernel_rfl) (by kernel_rfl) (by kernel_rfl) ⟨nmsF (flatA3 _ _ _ _), ⟨nmsX (by kernel_rfl), ⟨nmsF (flatA3 _ _ _ _), ⟨nmsF (flatA3 _ _ _ _), ⟨nmsX (by kernel_rfl), trivial⟩⟩⟩⟩⟩ ?_
    refine segWH 2 (T1 := (mkT 44 [(2, vP 1 0), (8, vP 4 0), (38, .bool false), (39, .agg #[vN X, vN Y, vN Z, vS 3 L.length]), (40, .agg #[vN X, vN Y, vN Z, vS 0 L.length])])) (by kernel_rfl) ?_
    refine rW (m := ⟨[5], [], [0]⟩) (v := .agg #[vN X, vN Y, vN Z, vS 5 L.length]) rfl (by kernel_rfl) (stN (i := 5) (E := [some ⟨a3s L, 74, false, true⟩]) (v1 := .agg #[vN X, vN Y, vN Z, vS 6 L.length]) (args := [.agg #[vN X, vN Y, vN Z, vS 0 L.length]]) rfl (by kernel_rfl) (Any.lay (E := [some ⟨a3s L, 74, false, true⟩]) (N := 6) [0] (toHeapB ((X : Nat) : Int) ((Y : Nat) : Int) ((Z : Nat) : Int) L (by first | omega | assumption | (simp; done))) ⟨rdF false (flatA3 _ _ _ _) rfl rfl, trivial⟩ rfl ⟨clF (flatA3 _ _ _ _), trivial⟩ rfl (by first | rfl | simp [mpV, mpA, mpS, mpP, renId, shift]) (by first | rfl | simp [mpV, mpA, mpS, mpP, renId, shift]) ⟨enF (flatA3 _ _ _ _) (Or.inl rfl), trivial⟩) rfl (by kernel_rfl) (by kernel_rfl) (by kernel_rfl) (by kernel_rfl) (FlatH.cons (flatA3 _ _ _ _) FlatH.nil)) (by kernel_rfl) (NRs.all ⟨nrOf (by rfl) (nmF (flatA3 _ _ _ _)), trivial⟩) ?_
    refine rW (m := ⟨[], [], [3, 5]⟩) (v := .bool true) rfl (by kernel_rfl) (stQ (args := [.agg #[vN X, vN Y, vN Z, vS 3 L.length], .agg #[vN X, vN Y, vN Z, vS 5 L.length]]) rfl (by kernel_rfl) (Any.lay0 [3, 5] (eqHeapB ((X : Nat) : Int) ((Y : Nat) : Int) ((Z : Nat) : Int) L (by first | omega | assumption | (simp; done))) ⟨rdF true (flatA3 _ _ _ _) rfl rfl, ⟨rdF true (flatA3 _ _ _ _) rfl rfl, trivial⟩⟩ rfl ⟨clF (flatA3 _ _ _ _), ⟨clF (flatA3 _ _ _ _), trivial⟩⟩ rfl (by first | rfl | simp [mpV, mpA, mpS, mpP, renId, shift]) rfl) rfl (by kernel_rfl) (by kernel_rfl)) (by kernel_rfl) nr0 ?_
    refine segEndW [43] (T1 := (mkT 44 [(43, .bool false)])) (H1 := [some ⟨a3s L, 74, false, false⟩, rB [vN X, vN Y, vN Z, vS 0 L.length] 49, some ⟨a3s L, 74, false, true⟩, some ⟨a3s L, 74, false, true⟩, rB [vN X, vN Y, vN Z, vS 3 L.length] 40, some ⟨a3s L, 74, false, true⟩]) (by kernel_rfl) ?_
    refine kSeq ?_
    refine cFalse (by kernel_rfl) ?_
    refine cSkip ?_
    refine kSeq ?_
    refine cSeq ?_
    refine cReg ?_
    refine segEndH [4] (T1 := (mkT 44 [(4, .bool true)])) (by kernel_rfl) ?_
    refine kSeq ?_
    refine cRet ?_
    -- end
    exact endQ (Or.inr rfl) (l := [.bool true]) [rB [vN X, vN Y, vN Z, vS 0 L.length] 49, some ⟨a3s L, 74, false, true⟩, some ⟨a3s L, 74, false, true⟩, rB [vN X, vN Y, vN Z, vS 3 L.length] 40, some ⟨a3s L, 74, false, true⟩] (by kernel_rfl) (by first | rfl | kernel_rfl) rfl rfl hcl rfl
  ·
    (try simp only [Bool.not_eq_true', Bool.not_eq_false', decide_eq_true_eq, decide_eq_false_iff_not, beq_iff_eq, bne_iff_ne, beq_eq_false_iff_ne, bne_eq_false_iff_eq, ne_eq, Decidable.not_not, Bool.and_eq_true, Bool.and_eq_false_imp, Bool.or_eq_true, Bool.or_eq_false_iff, Bool.not_eq_true, Int.not_lt, Int.not_le, ge_iff_le, gt_iff_lt] at h1)
    exfalso; omega

set_option maxRecDepth 100000 in
set_option maxHeartbeats 4000000 in
theorem lawFullLines_d2_n (X : Nat) (Y : Nat) (Z : Nat) (hs : Sides X Y Z) : Sound Try.prog 8 [.agg #[vN X, vN Y, vN Z, .slice none 0 0], vI 2] [] (.bool true) [] := by
  refine sound_intro (C := cx) Try.func8 rfl (by kernel_rfl) fun hcl => ?_
  have hz := hs.size
  have hx0 := hs.x0
  have hx4 := hs.x4
  have hy0 := hs.y0
  have hy4 := hs.y4
  have hz0 := hs.z0
  have hz4 := hs.z4
  have hlen : ([] : List A3).length ≤ 64 := by first | (have := hL.len; have := hs.size; omega) | simp
  refine cSeq ?_
  refine cReg ?_
  refine segEnd [1, 2] (T1 := (mkT 44 [(1, vI 2), (2, vP 0 0)])) (H1 := [rB [vN X, vN Y, vN Z, .slice none 0 0] 49]) (by kernel_rfl) ?_
  refine kSeq ?_
  refine cSeq ?_
  refine cReg ?_
  refine segEndH [1, 2, 5] (T1 := (mkT 44 [(1, vI 2), (2, vP 0 0), (5, vI 1048576)])) (by kernel_rfl) ?_
  refine kSeq ?_
  refine cSeq ?_
  refine cReg ?_
  refine segH 2 (T1 := (mkT 44 [(1, vI 2), (2, vP 0 0), (5, vI 1048576), (11, .agg #[vN X, vN Y, vN Z, .slice none 0 0]), (12, vI 1048576)])) (by kernel_rfl) ?_
  refine rCall (v := vI 1048576) (args := [.agg #[vN X, vN Y, vN Z, .slice none 0 0], vI 1048576]) (by kernel_rfl) rfl (by kernel_rfl) (Sound.lay0 [] (szHeapN ((X : Nat) : Int) ((Y : Nat) : Int) ((Z : Nat) : Int) 1048576 (by first | omega | assumption | decide)) trivial rfl trivial rfl (by first | rfl | simp [mpV, mpA, mpS, mpP, renId, shift]) rfl) ?_
  refine segEndH [1, 2, 5] (T1 := (mkT 44 [(1, vI 2), (2, vP 0 0), (5, vI 1048576)])) (by kernel_rfl) ?_
  refine kSeq ?_
  refine cSeq ?_
  refine cSeq ?_
  refine cReg ?_
  refine segEndH [1, 2, 15] (T1 := (mkT 44 [(1, vI 2), (2, vP 0 0), (15, .bool false)])) (by kernel_rfl) ?_
  refine kSeq ?_
  refine cFalse (by kernel_rfl) ?_
  refine cSkip ?_
  refine kSeq ?_
  refine cSeq ?_
  refine cReg ?_
  refine segH 1 (T1 := (mkT 44 [(1, vI 2), (2, vP 0 0), (15, .bool false), (17, .agg #[vN X, vN Y, vN Z, .slice none 0 0])])) (by kernel_rfl) ?_
  refine rCall (v := .agg #[vN X, vN Y, vN Z, vS 1 0]) (args := [.agg #[vN X, vN Y, vN Z, .slice none 0 0]]) (by kernel_rfl) rfl (by kernel_rfl) (Sound.lay (E := [some ⟨[], 74, false, true⟩]) [] (toHeapN ((X : Nat) : Int) ((Y : Nat) : Int) ((Z : Nat) : Int)) trivial rfl trivial rfl (by first | rfl | simp [mpV, mpA, mpS, mpP, renId, shift]) (by first | rfl | simp [mpV, mpA, mpS, mpP, renId, shift]) ⟨enX rfl (Or.inl rfl), trivial⟩) ?_
  refine seg 1 (T1 := (mkT 44 [(1, vI 2), (2, vP 0 0), (15, .bool false), (17, .agg #[vN X, vN Y, vN Z, .slice none 0 0]), (18, .agg #[vN X, vN Y, vN Z, vS 1 0]), (19, vI 2)])) (H1 := [rB [vN X, vN Y, vN Z, .slice none 0 0] 49, some ⟨[], 74, false, true⟩]) (by kernel_rfl) ?_
  refine rCall (v := .tuple #[vI ((withT 2 X Y Z ([] : List A3) (X * Y)).getD Z 0), .bool true]) (args := [.agg #[vN X, vN Y, vN Z, vS 1 0], vI 2]) (by kernel_rfl) rfl (by kernel_rfl) (Sound.lay0 [1] (specFullLines_2 X Y Z ([] : List A3) (by first | assumption | omega | rfl | decide | exact HeapL.list _ _ _ _ | exact HeapL.nil _ _ _ | exact HeapL.all _ _ _ | (apply HeapL.lt64 <;> assumption) | (repeat' (first | assumption | apply or_lt64 | apply and_lt64 | apply andn_lt64 | apply pow_lt64 | (apply HeapL.lt64 <;> assumption)))) (by first | assumption | omega | rfl | decide | exact HeapL.list _ _ _ _ | exact HeapL.nil _ _ _ | exact HeapL.all _ _ _ | (apply HeapL.lt64 <;> assumption) | (repeat' (first | assumption | apply or_lt64 | apply and_lt64 | apply andn_lt64 | apply pow_lt64 | (apply HeapL.lt64 <;> assumption))))) ⟨rdF true (flatA3 _ _ _ _) rfl rfl, trivial⟩ rfl ⟨clF (flatA3 _ _ _ _), trivial⟩ rfl (by first | rfl | simp [mpV, mpA, mpS, mpP, renId, shift]) (by first | rfl | simp [mpV, mpA, mpS, mpP, renId, shift])) ?_
  refine segEnd [1, 2, 6, 7] (T1 := (mkT 44 [(1, vI 2), (2, vP 0 0), (6, vI ((withT 2 X Y Z ([] : List A3) (X * Y)).getD Z 0)), (7, .bool true)])) (H1 := [rB [vN X, vN Y, vN Z, .slice none 0 0] 49, some ⟨[], 74, false, true⟩]) (by kernel_rfl) ?_
  refine kSeq ?_
  refine cSeq ?_
  refine cReg ?_
  refine segH 1 (T1 := (mkT 44 [(1, vI 2), (2, vP 0 0), (6, vI ((withT 2 X Y Z ([] : List A3) (X * Y)).getD Z 0)), (7, .bool true), (23, .agg #[vN X, vN Y, vN Z, .slice none 0 0])])) (by kernel_rfl) ?_
  refine rCall (v := .agg #[vN X, vN Y, vN Z, vS 2 0]) (args := [.agg #[vN X, vN Y, vN Z, .slice none 0 0]]) (by kernel_rfl) rfl (by kernel_rfl) (Sound.lay (E := [some ⟨[], 74, false, true⟩]) [] (toHeapN ((X : Nat) : Int) ((Y : Nat) : Int) ((Z : Nat) : Int)) trivial rfl trivial rfl (by first | rfl | simp [mpV, mpA, mpS, mpP, renId, shift]) (by first | rfl | simp [mpV, mpA, mpS, mpP, renId, shift]) ⟨enX rfl (Or.inl rfl), trivial⟩) ?_
  refine segEnd [1, 2, 6, 7, 8] (T1 := (mkT 44 [(1, vI 2), (2, vP 0 0), (6, vI ((withT 2 X Y Z ([] : List A3) (X * Y)).getD Z 0)), (7, .bool true), (8, vP 3 0)])) (H1 := [rB [vN X, vN Y, vN Z, .slice none 0 0] 49, some ⟨[], 74, false, true⟩, some ⟨[], 74, false, true⟩, rB [vN X, vN Y, vN Z, vS 2 0] 40]) (by kernel_rfl) ?_
  refine kSeq ?_
  refine cSeq ?_
  refine cReg ?_
  refine segH 2 (T1 := (mkT 44 [(1, vI 2), (2, vP 0 0), (6, vI ((withT 2 X Y Z ([] : List A3) (X * Y)).getD Z 0)), (7, .bool true), (8, vP 3 0), (26, .agg #[vN X, vN Y, vN Z, vS 2 0]), (27, vI 2)])) (by kernel_rfl) ?_
  refine rCall (v := .tuple #[vI ((withT 2 X Y Z ([] : List A3) (X * Y)).getD Z 0), .bool true]) (args := [.agg #[vN X, vN Y, vN Z, vS 2 0], vI 2]) (by kernel_rfl) rfl (by kernel_rfl) (Sound.lay0 [2] (implFullLines_2 X Y Z ([] : List A3) (by first | assumption | omega | rfl | decide | exact HeapL.list _ _ _ _ | exact HeapL.nil _ _ _ | exact HeapL.all _ _ _ | (apply HeapL.lt64 <;> assumption) | (repeat' (first | assumption | apply or_lt64 | apply and_lt64 | apply andn_lt64 | apply pow_lt64 | (apply HeapL.lt64 <;> assumption)))) (by first | assumption | omega | rfl | decide | exact HeapL.list _ _ _ _ | exact HeapL.nil _ _ _ | exact HeapL.all _ _ _ | (apply HeapL.lt64 <;> assumption) | (repeat' (first | assumption | apply or_lt64 | apply and_lt64 | apply andn_lt64 | apply pow_lt64 | (apply HeapL.lt64 <;> assumption))))) ⟨rdF true (flatA3 _ _ _ _) rfl rfl, trivial⟩ rfl ⟨clF (flatA3 _ _ _ _), trivial⟩ rfl (by first | rfl | simp [mpV, mpA, mpS, mpP, renId, shift]) (by first | rfl | simp [mpV, mpA, mpS, mpP, renId, shift])) ?_
  refine segEndH [2, 6, 7, 8, 9, 10] (T1 := (mkT 44 [(2, vP 0 0), (6, vI ((withT 2 X Y Z ([] : List A3) (X * Y)).getD Z 0)), (7, .bool true), (8, vP 3 0), (9, vI ((withT 2 X Y Z ([] : List A3) (X * Y)).getD Z 0)), (10, .bool true)])) (by kernel_rfl) ?_
  refine kSeq ?_
  refine cSeq ?_
  refine cSeq ?_
  refine cReg ?_
  refine segH 2 (T1 := (mkT 44 [(2, vP 0 0), (6, vI ((withT 2 X Y Z ([] : List A3) (X * Y)).getD Z 0)), (7, .bool true), (8, vP 3 0), (9, vI ((withT 2 X Y Z ([] : List A3) (X * Y)).getD Z 0)), (10, .bool true), (31, vI ((withT 2 X Y Z ([] : List A3) (X * Y)).getD Z 0)), (32, vI ((withT 2 X Y Z ([] : List A3) (X * Y)).getD Z 0))])) (by kernel_rfl) ?_
  refine rOp (v := .bool false) (by kernel_rfl) (eNeS (k := .i64) (a := ((withT 2 X Y Z ([] : List A3) (X * Y)).getD Z 0)) (by kernel_rfl) (by kernel_rfl)) ?_
  refine segEndH [2, 8, 38] (T1 := (mkT 44 [(2, vP 0 0), (8, vP 3 0), (38, .bool false)])) (by kernel_rfl) ?_
  refine kSeq ?_
  refine cFalse (by kernel_rfl) ?_
  refine cSkip ?_
  refine kSeq ?_
  refine cSeq ?_
  refine cSeq ?_
  refine cRegW (N := 5) [⟨[], [], [3]⟩, ⟨[], [], [0]⟩, ⟨[4], [], []⟩, ⟨[], [], [2, 4]⟩, ⟨[], [], []⟩] 1 [4] (by rfl) (by rfl) (by kernel_rfl) (by kernel_rfl) (by kernel_rfl) ⟨nmsX (by kernel_rfl), ⟨nmsX (by kernel_rfl), ⟨nmsX (by kernel_rfl), ⟨nmsX (by kernel_rfl), trivial⟩⟩⟩⟩ ?_
  refine segWH 2 (T1 := (mkT 44 [(2, vP 0 0), (8, vP 3 0), (38, .bool false), (39, .agg #[vN X, vN Y, vN Z, vS 2 0]), (40, .agg #[vN X, vN Y, vN Z, .slice none 0 0])])) (by kernel_rfl) ?_
  refine rW (m := ⟨[4], [], []⟩) (v := .agg #[vN X, vN Y, vN Z, vS 4 0]) rfl (by kernel_rfl) (stN (i := 4) (E := [some ⟨[], 74, false, true⟩]) (v1 := .agg #[vN X, vN Y, vN Z, vS 5 0]) (args := [.agg #[vN X, vN Y, vN Z, .slice none 0 0]]) rfl (by kernel_rfl) (Any.lay (E := [some ⟨[], 74, false, true⟩]) (N := 5) [] (toHeapN ((X : Nat) : Int) ((Y : Nat) : Int) ((Z : Nat) : Int)) trivial rfl trivial rfl (by first | rfl | simp [mpV, mpA, mpS, mpP, renId, shift]) (by first | rfl | simp [mpV, mpA, mpS, mpP, renId, shift]) ⟨enX rfl (Or.inl rfl), trivial⟩) rfl (by kernel_rfl) (by kernel_rfl) (by kernel_rfl) (by kernel_rfl) (FlatH.cons (flatRow_of rfl) FlatH.nil)) (by kernel_rfl) (NRs.all ⟨nrOf (by rfl) (nmX (by kernel_rfl)), trivial⟩) ?_
  refine rW (m := ⟨[], [], [2, 4]⟩) (v := .bool true) rfl (by kernel_rfl) (stQ (args := [.agg #[vN X, vN Y, vN Z, vS 2 0], .agg #[vN X, vN Y, vN Z, vS 4 0]]) rfl (by kernel_rfl) (Any.lay0 [2, 4] (eqHeapB ((X : Nat) : Int) ((Y : Nat) : Int) ((Z : Nat) : Int) ([] : List A3) (by first | omega | assumption | (simp; done))) ⟨rdF true (flatA3 _ _ _ _) rfl rfl, ⟨rdF true (flatA3 _ _ _ _) rfl rfl, trivial⟩⟩ rfl ⟨clF (flatA3 _ _ _ _), ⟨clF (flatA3 _ _ _ _), trivial⟩⟩ rfl (by first | rfl | simp [mpV, mpA, mpS, mpP, renId, shift]) rfl) rfl (by kernel_rfl) (by kernel_rfl)) (by kernel_rfl) nr0 ?_
  refine segEndW [43] (T1 := (mkT 44 [(43, .bool false)])) (H1 := [rB [vN X, vN Y, vN Z, .slice none 0 0] 49, some ⟨[], 74, false, true⟩, some ⟨[], 74, false, true⟩, rB [vN X, vN Y, vN Z, vS 2 0] 40, some ⟨[], 74, false, true⟩]) (by kernel_rfl) ?_
  refine kSeq ?_
  refine cFalse (by kernel_rfl) ?_
  refine cSkip ?_
  refine kSeq ?_
  refine cSeq ?_
  refine cReg ?_
  refine segEndH [4] (T1 := (mkT 44 [(4, .bool true)])) (by kernel_rfl) ?_
  refine kSeq ?_
  refine cRet ?_
  -- end
  exact endQ (Or.inr rfl) (l := [.bool true]) [rB [vN X, vN Y, vN Z, .slice none 0 0] 49, some ⟨[], 74, false, true⟩, some ⟨[], 74, false, true⟩, rB [vN X, vN Y, vN Z, vS 2 0] 40, some ⟨[], 74, false, true⟩] (by kernel_rfl) (by first | rfl | kernel_rfl) rfl rfl hcl rfl

theorem lawFullLines_s (x y z : Int) (L : List A3) (k : Int) (hm : L.length ≤ 9223372036854775807) : Sound Try.prog 8 [.agg #[vI x, vI y, vI z, vS 0 L.length], vI k] [some ⟨a3s L, 74, false, false⟩] (.bool true) [some ⟨a3s L, 74, false, false⟩] := by
  by_cases hl : L.length ≤ 1048576
  · cases hv : isHeapB x y z L
    · exact lawFullLines_no_s x y z L k hl hv
    · obtain ⟨X, Y, Z, rfl, rfl, rfl, hs, hL⟩ := heapL_of hv
      cases hk : inR k 0 2
      · exact lawFullLines_no2_s X Y Z L k hs hL hk
      · simp only [inR, Bool.and_eq_true, decide_eq_true_eq] at hk
        have hd : k = 0 ∨ k = 1 ∨ k = 2 := by omega
        rcases hd with rfl | rfl | rfl
        · exact lawFullLines_d0_s X Y Z L hs hL
        · exact lawFullLines_d1_s X Y Z L hs hL
        · exact lawFullLines_d2_s X Y Z L hs hL
  · exact lawFullLines_big_s x y z L k (by omega) hm

theorem lawFullLines_n (x y z : Int) (k : Int)  : Sound Try.prog 8 [.agg #[vI x, vI y, vI z, .slice none 0 0], vI k] [] (.bool true) [] := by
  cases hv : isHeapB x y z ([] : List A3)
  · exact lawFullLines_no_n x y z k hv
  · obtain ⟨X, Y, Z, rfl, rfl, rfl, hs, hL⟩ := heapL_of hv
    cases hk : inR k 0 2
    · exact lawFullLines_no2_n X Y Z k hs hk
    · simp only [inR, Bool.and_eq_true, decide_eq_true_eq] at hk
      have hd : k = 0 ∨ k = 1 ∨ k = 2 := by omega
      rcases hd with rfl | rfl | rfl
      · exact lawFullLines_d0_n X Y Z hs
      · exact lawFullLines_d1_n X Y Z hs
      · exact lawFullLines_d2_n X Y Z hs
end Go.Proofs.Ytbheeobnghlckaa
namespace Go.Proofs.Ytbheeobnghlckaa.fnExactFullLines
open Go.Am Go.ChangeShapes Go.WideShapes Go.ChangeAt Go.RowKit
theorem own : ownKnob Try.prog.godebug = none := by kernel_rfl
theorem laidOut : laidOutB Try.prog = true := by kernel_rfl
set_option maxRecDepth 100000 in
theorem lifted (os : Os) (started : os.Started) (H : Type) (enc : TypeId × Value → H) :
    ReturnsInHanded {} Try.checked os 8 .any (Rows.fnExactFullLinesSpec.pre6 enc Try.prog Try.f8 Rows.fnExactFullLinesRow.domain false) (Rows.fnExactFullLinesSpec.post enc Try.prog Try.f8 false true false false) := by
  refine returnsInHanded_of_change_sized (C := Try.checked) own started (by kernel_rfl) Try.func8
    (ChangeSpec.witness6 (enc := enc) (C := Try.checked) false ⟨#[], #[.agg #[.int .i64 0, .int .i64 0, .int .i64 0, .slice none 0 0], .int .i64 0], []⟩ 8 (by kernel_rfl) (by kernel_rfl) (by kernel_rfl) (by kernel_rfl)) ?_
  intro W base args ds gs before hval0 hW hcnd hsz0 _
  have hval : ∀ (j : Nat) t v, Try.f8.params[j]? = some t → args[j]? = some v → Value.okWide Try.prog W .any base t v := hval0
  have hW' := hW
  obtain ⟨p, q, hA0, hV, rfl, hfz, hnd⟩ := hW
  have hA : DataW.TrodAll enc Try.prog W 0 (fun _ => true) true Try.f8.params.toList args.toList ds p := hA0
  rw [Try.params8] at hA hval
  obtain ⟨v0, vs0, d0, ds0, p0, q0, hargs, rfl, rfl, h0, r0⟩ := trodAll_cons hA
  obtain ⟨v1, vs1, d1, ds1, p1, q1, rfl, rfl, rfl, h1, r1⟩ := trodAll_cons r0
  obtain ⟨rfl, rfl, rfl⟩ := trodAll_nil r1
  obtain rfl : args = #[v0, v1] := by cases args; simp_all
  obtain ⟨rfl, rfl⟩ := trodVars_none hV
  have hlt0 : ∀ x ∈ p0, x.block < W.heap.size := fun x hx => by simpa using hW'.lt x (by simp [hx])
  have hlt1 : ∀ x ∈ p1, x.block < W.heap.size := fun x hx => by simpa using hW'.lt x (by simp [hx])
  have fin : (∃ Q : Prop, Q) ∧ Calls Try.prog 8 #[v0, v1] W (fun e W' => e = .returned (.bool true) ∧ Below W.heap.size W W') := by
    refine ⟨⟨True, trivial⟩, ?_⟩
    obtain ⟨x0, y0, z0, wx0, wy0, wz0, hor0⟩ := open_heap (b0 := base) Try.underlying49 ⟨rfl, rfl⟩ ⟨rfl, rfl⟩ ⟨rfl, rfl⟩ ⟨rfl, rfl⟩ Try.underlying31 Try.underlying74 Try.underlying3 (by kernel_rfl) (by kernel_rfl) (by kernel_rfl) (by kernel_rfl) (by kernel_rfl) (hval 0 49 v0 rfl rfl) h0
    obtain ⟨n1, rfl, _, _, w1⟩ := open_int Try.underlying3 (hval 1 3 v1 rfl rfl) h1
    rcases hor0 with rfl | ⟨ad0, cap0, L0, rfl, hl0, hm0, hsp0, hhas0, hcell0⟩
    · have hS : Sound Try.prog 8 [.agg #[.int .i64 x0, .int .i64 y0, .int .i64 z0, .slice none 0 0], .int .i64 n1] [] (.bool true) [] := lawFullLines_n x0 y0 z0 n1
      exact hS.top0 rfl rfl W
    · have hS : Sound Try.prog 8 [.agg #[.int .i64 x0, .int .i64 y0, .int .i64 z0, .slice (some ⟨0, 0, none⟩) L0.length 0], .int .i64 n1] [some ⟨a3s L0, 74, false, false⟩] (.bool true) [some ⟨a3s L0, 74, false, false⟩] := lawFullLines_s x0 y0 z0 L0 n1 (by have : maxLen = 9223372036854775807 := rfl; omega)
      have hrep := rep_one (P := Try.prog) (b0 := base) (ta := 74) (by kernel_rfl) hhas0 (by rw [Try.underlying74]; simp) hcell0 hl0
      have h := hS.top (fun i r hi => by cases i with
        | zero => simp at hi; subst hi; rfl
        | succ i => simp at hi) hrep (fun x hx i hi => by
        simp at hx
        rcases hx with rfl | rfl <;> simp [idsV, idsA, idsS, idsP] at hi
        simp [hi]) rfl
      obtain ⟨blk0, off0, spot0⟩ := ad0
      simp only at hsp0
      subst hsp0
      simpa [mapV, mpV, mpA, mpS, mpP, toReal] using h
  clear hA0 hval0 hsz0
  refine fin.2.mono fun e W' ⟨he, bel⟩ => ?_
  subst he
  exact ⟨_, rfl, _, _, _, [], _, [], hW', trodAll_mk1 (shut_bool Try.underlying4 _), (trodAll_cons_mk (Below.trod laidOut (by kernel_rfl) (of_decide_eq_true (by kernel_rfl)) h0 bel hlt0) (trodAll_cons_mk (Below.trod laidOut (by kernel_rfl) (of_decide_eq_true (by kernel_rfl)) h1 bel hlt1) trodAll_mk0)), rfl, bel.frame _, fun h => by cases h⟩
theorem over : Rows.fnExactFullLinesRow.holds Try.pinned (OpenSpec.ofChange Rows.fnExactFullLinesSpec) :=
  OpenClaim.holds_of_wide 8 Try.f8 rfl rfl rfl rfl rfl rfl rfl ⟨rfl, rfl, rfl, rfl, rfl⟩ rfl rfl rfl rfl rfl (by kernel_rfl) Try.func8 (by kernel_rfl)
    (of_decide_eq_true (by kernel_rfl)) (by unfold Func.isWrapper; first | (rw [if_pos (by decide +kernel)]; kernel_rfl) | (rw [if_neg (by decide +kernel)]; exact ⟨rfl, rfl⟩))
    (fun os started H enc _ => lifted os started H enc)
end Go.Proofs.Ytbheeobnghlckaa.fnExactFullLines
namespace Go.Proofs.Ytbheeobnghlckaa
/-- The row, under a short name, for the claim. -/
theorem fnExactFullLines_holds : Rows.FnExactFullLinesSaid := fnExactFullLines.over
#print axioms fnExactFullLines_holds
end Go.Proofs.Ytbheeobnghlckaa
