/- A law, whole: the walks, and the row. No condition. -/
import Derived.Test.YtenkiofddpjidaaAmJ6
import Derived.Test.YtenkiofddpjidaaAmR
import Derived.WalkKit
import Derived.ProofKit
import Derived.OpenShut
import Derived.ShutString
import Derived.ChangeOld
import Derived.Below
import Derived.SizedLaws
set_option linter.unusedVariables false
set_option linter.unusedSimpArgs false
namespace Go.Proofs.Ytenkiofddpjidaa
open Go.Am Go.RowKit
set_option maxRecDepth 100000 in
set_option maxHeartbeats 4000000 in
theorem lawWidenHeap_big_s (x : Int) (y : Int) (z : Int) (L : List A3) (k : Int) (l : Int) (m : Int) (hl : 1048576 < L.length) (hm : L.length ≤ 9223372036854775807) : Sound Try.prog 12 [.agg #[vI x, vI y, vI z, vS 0 L.length], vI k, vI l, vI m] [some ⟨a3s L, 25, false, false⟩] (.bool true) [some ⟨a3s L, 25, false, false⟩] := by
  refine sound_intro (C := cx) Try.func12 rfl (by kernel_rfl) fun hcl => ?_
  refine cSeq ?_
  refine cReg ?_
  refine segEnd [1, 2, 3, 4] (T1 := (mkT 111 [(1, vI k), (2, vI l), (3, vI m), (4, vP 1 0)])) (H1 := [some ⟨a3s L, 25, false, false⟩, rB [vI x, vI y, vI z, vS 0 L.length] 24]) (by kernel_rfl) ?_
  refine kSeq ?_
  refine cSeq ?_
  refine cReg ?_
  refine segEndH [1, 2, 3, 4, 9] (T1 := (mkT 111 [(1, vI k), (2, vI l), (3, vI m), (4, vP 1 0), (9, vI 1048576)])) (by kernel_rfl) ?_
  refine kSeq ?_
  refine cSeq ?_
  refine cReg ?_
  refine segH 2 (T1 := (mkT 111 [(1, vI k), (2, vI l), (3, vI m), (4, vP 1 0), (9, vI 1048576), (20, .agg #[vI x, vI y, vI z, vS 0 L.length]), (21, vI 1048576)])) (by kernel_rfl) ?_
  refine rCall (v := vI (-1)) (args := [.agg #[vI x, vI y, vI z, vS 0 L.length], vI 1048576]) (by kernel_rfl) rfl (by kernel_rfl) (Sound.lay0 [0] (szHeapG x y z L 1048576 (by first | omega | assumption | (simp; done)) (by first | assumption | omega | rfl | decide | exact HeapL.list _ _ _ _ | exact HeapL.nil _ _ _ | exact HeapL.all _ _ _ | (apply HeapL.lt64 <;> assumption) | (repeat' (first | assumption | apply or_lt64 | apply and_lt64 | apply andn_lt64 | apply pow_lt64 | (apply HeapL.lt64 <;> assumption)))) (by first | omega | assumption | decide)) ⟨rdF false (flatA3 _ _ _ _) rfl rfl, trivial⟩ rfl ⟨clF (flatA3 _ _ _ _), trivial⟩ rfl (by first | rfl | simp [mpV, mpA, mpS, mpP, renId, shift]) rfl) ?_
  refine segEndH [1, 2, 3, 4, 9] (T1 := (mkT 111 [(1, vI k), (2, vI l), (3, vI m), (4, vP 1 0), (9, vI (-1))])) (by kernel_rfl) ?_
  refine kSeq ?_
  refine cSeq ?_
  refine cSeq ?_
  refine cReg ?_
  refine segEndH [1, 2, 3, 4, 24] (T1 := (mkT 111 [(1, vI k), (2, vI l), (3, vI m), (4, vP 1 0), (24, .bool true)])) (by kernel_rfl) ?_
  refine kSeq ?_
  refine cTrue (by kernel_rfl) ?_
  refine cSeq ?_
  refine cReg ?_
  refine segEndH [8] (T1 := (mkT 111 [(8, .bool true)])) (by kernel_rfl) ?_
  refine kSeq ?_
  refine cRet ?_
  refine kSeqR ?_
  -- end
  exact endQ (Or.inr rfl) (l := [.bool true]) [rB [vI x, vI y, vI z, vS 0 L.length] 24] (by kernel_rfl) (by first | rfl | kernel_rfl) rfl rfl hcl rfl

set_option maxRecDepth 100000 in
set_option maxHeartbeats 4000000 in
theorem lawWidenHeap_no_s (x : Int) (y : Int) (z : Int) (L : List A3) (k : Int) (l : Int) (m : Int) (hl : L.length ≤ 1048576) (hv : isHeapB x y z L = false) : Sound Try.prog 12 [.agg #[vI x, vI y, vI z, vS 0 L.length], vI k, vI l, vI m] [some ⟨a3s L, 25, false, false⟩] (.bool true) [some ⟨a3s L, 25, false, false⟩] := by
  refine sound_intro (C := cx) Try.func12 rfl (by kernel_rfl) fun hcl => ?_
  refine cSeq ?_
  refine cReg ?_
  refine segEnd [1, 2, 3, 4] (T1 := (mkT 111 [(1, vI k), (2, vI l), (3, vI m), (4, vP 1 0)])) (H1 := [some ⟨a3s L, 25, false, false⟩, rB [vI x, vI y, vI z, vS 0 L.length] 24]) (by kernel_rfl) ?_
  refine kSeq ?_
  refine cSeq ?_
  refine cReg ?_
  refine segEndH [1, 2, 3, 4, 9] (T1 := (mkT 111 [(1, vI k), (2, vI l), (3, vI m), (4, vP 1 0), (9, vI 1048576)])) (by kernel_rfl) ?_
  refine kSeq ?_
  refine cSeq ?_
  refine cReg ?_
  refine segH 2 (T1 := (mkT 111 [(1, vI k), (2, vI l), (3, vI m), (4, vP 1 0), (9, vI 1048576), (20, .agg #[vI x, vI y, vI z, vS 0 L.length]), (21, vI 1048576)])) (by kernel_rfl) ?_
  refine rCall (v := vN (1048576 - L.length)) (args := [.agg #[vI x, vI y, vI z, vS 0 L.length], vI 1048576]) (by kernel_rfl) rfl (by kernel_rfl) (Sound.lay0 [0] (szHeapS x y z L 1048576 (by first | omega | assumption | (simp; done)) (by first | omega | assumption | decide)) ⟨rdF false (flatA3 _ _ _ _) rfl rfl, trivial⟩ rfl ⟨clF (flatA3 _ _ _ _), trivial⟩ rfl (by first | rfl | simp [mpV, mpA, mpS, mpP, renId, shift]) rfl) ?_
  refine segEndH [1, 2, 3, 4, 9] (T1 := (mkT 111 [(1, vI k), (2, vI l), (3, vI m), (4, vP 1 0), (9, vN (1048576 - L.length))])) (by kernel_rfl) ?_
  refine kSeq ?_
  refine cSeq ?_
  refine cSeq ?_
  refine cReg ?_
  refine segEndH [1, 2, 3, 4, 24] (T1 := (mkT 111 [(1, vI k), (2, vI l), (3, vI m), (4, vP 1 0), (24, .bool (decide (((1048576 - L.length : Nat) : Int) < 0)))])) (by kernel_rfl) ?_
  refine kSeq ?_
  cases h1 : (decide (((1048576 - L.length : Nat) : Int) < 0) : Bool)
  ·
    (try simp only [Bool.not_eq_true', Bool.not_eq_false', decide_eq_true_eq, decide_eq_false_iff_not, beq_iff_eq, bne_iff_ne, beq_eq_false_iff_ne, bne_eq_false_iff_eq, ne_eq, Decidable.not_not, Bool.and_eq_true, Bool.and_eq_false_imp, Bool.or_eq_true, Bool.or_eq_false_iff, Bool.not_eq_true, Int.not_lt, Int.not_le, ge_iff_le, gt_iff_lt] at h1)
    refine cFalse (by kernel_rfl) ?_
    refine cSkip ?_
    refine kSeq ?_
    refine cSeq ?_
    refine cReg ?_
    refine segH 1 (T1 := (mkT 111 [(1, vI k), (2, vI l), (3, vI m), (4, vP 1 0), (24, .bool false), (26, .agg #[vI x, vI y, vI z, vS 0 L.length])])) (by kernel_rfl) ?_
    refine rCall (v := .agg #[vI x, vI y, vI z, vS 2 L.length]) (args := [.agg #[vI x, vI y, vI z, vS 0 L.length]]) (by kernel_rfl) rfl (by kernel_rfl) (Sound.lay (E := [some ⟨a3s L, 25, false, true⟩]) [0] (toHeapB x y z L (by first | omega | assumption | (simp; done))) ⟨rdF false (flatA3 _ _ _ _) rfl rfl, trivial⟩ rfl ⟨clF (flatA3 _ _ _ _), trivial⟩ rfl (by first | rfl | simp [mpV, mpA, mpS, mpP, renId, shift]) (by first | rfl | simp [mpV, mpA, mpS, mpP, renId, shift]) ⟨enF (flatA3 _ _ _ _) (Or.inl rfl), trivial⟩) ?_
    refine seg 3 (T1 := (mkT 111 [(1, vI k), (2, vI l), (3, vI m), (4, vP 1 0), (24, .bool false), (26, .agg #[vI x, vI y, vI z, vS 0 L.length]), (27, .agg #[vI x, vI y, vI z, vS 2 L.length]), (28, vI k), (29, vI l), (30, vI m)])) (H1 := [some ⟨a3s L, 25, false, false⟩, rB [vI x, vI y, vI z, vS 0 L.length] 24, some ⟨a3s L, 25, false, true⟩]) (by kernel_rfl) ?_
    refine rCall (v := .tuple #[.agg #[vI 0, vI 0, vI 0, .slice none 0 0], .bool false]) (args := [.agg #[vI x, vI y, vI z, vS 2 L.length], vI k, vI l, vI m]) (by kernel_rfl) rfl (by kernel_rfl) (Sound.lay0 [2] (specWidenHeap_no1 x y z L k l m (by first | assumption | omega | rfl | decide | exact HeapL.list _ _ _ _ | exact HeapL.nil _ _ _ | exact HeapL.all _ _ _ | (apply HeapL.lt64 <;> assumption) | (repeat' (first | assumption | apply or_lt64 | apply and_lt64 | apply andn_lt64 | apply pow_lt64 | (apply HeapL.lt64 <;> assumption)))) (by first | assumption | omega | rfl | decide | exact HeapL.list _ _ _ _ | exact HeapL.nil _ _ _ | exact HeapL.all _ _ _ | (apply HeapL.lt64 <;> assumption) | (repeat' (first | assumption | apply or_lt64 | apply and_lt64 | apply andn_lt64 | apply pow_lt64 | (apply HeapL.lt64 <;> assumption))))) ⟨rdF true (flatA3 _ _ _ _) rfl rfl, trivial⟩ rfl ⟨clF (flatA3 _ _ _ _), trivial⟩ rfl (by first | rfl | simp [mpV, mpA, mpS, mpP, renId, shift]) (by first | rfl | simp [mpV, mpA, mpS, mpP, renId, shift])) ?_
    refine segEnd [1, 2, 3, 4, 10, 11] (T1 := (mkT 111 [(1, vI k), (2, vI l), (3, vI m), (4, vP 1 0), (10, vP 3 0), (11, .bool false)])) (H1 := [some ⟨a3s L, 25, false, false⟩, rB [vI x, vI y, vI z, vS 0 L.length] 24, some ⟨a3s L, 25, false, true⟩, rB [vI 0, vI 0, vI 0, .slice none 0 0] 29]) (by kernel_rfl) ?_
    refine kSeq ?_
    refine cSeq ?_
    refine cReg ?_
    refine segH 1 (T1 := (mkT 111 [(1, vI k), (2, vI l), (3, vI m), (4, vP 1 0), (10, vP 3 0), (11, .bool false), (34, .agg #[vI x, vI y, vI z, vS 0 L.length])])) (by kernel_rfl) ?_
    refine rCall (v := .agg #[vI x, vI y, vI z, vS 4 L.length]) (args := [.agg #[vI x, vI y, vI z, vS 0 L.length]]) (by kernel_rfl) rfl (by kernel_rfl) (Sound.lay (E := [some ⟨a3s L, 25, false, true⟩]) [0] (toHeapB x y z L (by first | omega | assumption | (simp; done))) ⟨rdF false (flatA3 _ _ _ _) rfl rfl, trivial⟩ rfl ⟨clF (flatA3 _ _ _ _), trivial⟩ rfl (by first | rfl | simp [mpV, mpA, mpS, mpP, renId, shift]) (by first | rfl | simp [mpV, mpA, mpS, mpP, renId, shift]) ⟨enF (flatA3 _ _ _ _) (Or.inl rfl), trivial⟩) ?_
    refine segEnd [1, 2, 3, 4, 10, 11, 12] (T1 := (mkT 111 [(1, vI k), (2, vI l), (3, vI m), (4, vP 1 0), (10, vP 3 0), (11, .bool false), (12, vP 5 0)])) (H1 := [some ⟨a3s L, 25, false, false⟩, rB [vI x, vI y, vI z, vS 0 L.length] 24, some ⟨a3s L, 25, false, true⟩, rB [vI 0, vI 0, vI 0, .slice none 0 0] 29, some ⟨a3s L, 25, false, true⟩, rB [vI x, vI y, vI z, vS 4 L.length] 29]) (by kernel_rfl) ?_
    refine kSeq ?_
    refine cSeq ?_
    refine cReg ?_
    refine segH 4 (T1 := (mkT 111 [(1, vI k), (2, vI l), (3, vI m), (4, vP 1 0), (10, vP 3 0), (11, .bool false), (12, vP 5 0), (37, .agg #[vI x, vI y, vI z, vS 4 L.length]), (38, vI k), (39, vI l), (40, vI m)])) (by kernel_rfl) ?_
    refine rCall (v := .tuple #[.agg #[vI 0, vI 0, vI 0, .slice none 0 0], .bool false]) (args := [.agg #[vI x, vI y, vI z, vS 4 L.length], vI k, vI l, vI m]) (by kernel_rfl) rfl (by kernel_rfl) (Sound.lay0 [4] (implWidenHeap_no1 x y z L k l m (by first | assumption | omega | rfl | decide | exact HeapL.list _ _ _ _ | exact HeapL.nil _ _ _ | exact HeapL.all _ _ _ | (apply HeapL.lt64 <;> assumption) | (repeat' (first | assumption | apply or_lt64 | apply and_lt64 | apply andn_lt64 | apply pow_lt64 | (apply HeapL.lt64 <;> assumption)))) (by first | assumption | omega | rfl | decide | exact HeapL.list _ _ _ _ | exact HeapL.nil _ _ _ | exact HeapL.all _ _ _ | (apply HeapL.lt64 <;> assumption) | (repeat' (first | assumption | apply or_lt64 | apply and_lt64 | apply andn_lt64 | apply pow_lt64 | (apply HeapL.lt64 <;> assumption))))) ⟨rdF true (flatA3 _ _ _ _) rfl rfl, trivial⟩ rfl ⟨clF (flatA3 _ _ _ _), trivial⟩ rfl (by first | rfl | simp [mpV, mpA, mpS, mpP, renId, shift]) (by first | rfl | simp [mpV, mpA, mpS, mpP, renId, shift])) ?_
    refine segEnd [1, 2, 3, 4, 10, 11, 12, 13, 14] (T1 := (mkT 111 [(1, vI k), (2, vI l), (3, vI m), (4, vP 1 0), (10, vP 3 0), (11, .bool false), (12, vP 5 0), (13, vP 6 0), (14, .bool false)])) (H1 := [some ⟨a3s L, 25, false, false⟩, rB [vI x, vI y, vI z, vS 0 L.length] 24, some ⟨a3s L, 25, false, true⟩, rB [vI 0, vI 0, vI 0, .slice none 0 0] 29, some ⟨a3s L, 25, false, true⟩, rB [vI x, vI y, vI z, vS 4 L.length] 29, rB [vI 0, vI 0, vI 0, .slice none 0 0] 29]) (by kernel_rfl) ?_
    refine kSeq ?_
    refine cSeq ?_
    refine cSeq ?_
    refine cReg ?_
    refine segH 2 (T1 := (mkT 111 [(1, vI k), (2, vI l), (3, vI m), (4, vP 1 0), (10, vP 3 0), (11, .bool false), (12, vP 5 0), (13, vP 6 0), (14, .bool false), (44, .agg #[vI 0, vI 0, vI 0, .slice none 0 0]), (45, .agg #[vI 0, vI 0, vI 0, .slice none 0 0])])) (by kernel_rfl) ?_
    refine rCall (v := .bool true) (args := [.agg #[vI 0, vI 0, vI 0, .slice none 0 0], .agg #[vI 0, vI 0, vI 0, .slice none 0 0]]) (by kernel_rfl) rfl (by kernel_rfl) (Sound.lay0 [] (eqHeapN) trivial rfl trivial rfl (by first | rfl | simp [mpV, mpA, mpS, mpP, renId, shift]) rfl) ?_
    refine segEndH [1, 2, 3, 4, 10, 11, 12, 13, 14, 52] (T1 := (mkT 111 [(1, vI k), (2, vI l), (3, vI m), (4, vP 1 0), (10, vP 3 0), (11, .bool false), (12, vP 5 0), (13, vP 6 0), (14, .bool false), (52, .bool false)])) (by kernel_rfl) ?_
    refine kSeq ?_
    refine cFalse (by kernel_rfl) ?_
    refine cSkip ?_
    refine kSeq ?_
    refine cSeq ?_
    refine cSeq ?_
    refine cRegW (N := 8) [⟨[], [], [5]⟩, ⟨[], [], [1]⟩, ⟨[7], [], [0]⟩, ⟨[], [], [4, 7]⟩, ⟨[], [], []⟩] 1 [7] (by rfl) (by rfl) (by kernel_rfl) (by kernel_rfl) (by kernel_rfl) ⟨nmsF (flatA3 _ _ _ _), ⟨nmsX (by kernel_rfl), ⟨nmsF (flatA3 _ _ _ _), ⟨nmsX (by kernel_rfl), ⟨nmsF (flatA3 _ _ _ _), ⟨nmsX (by kernel_rfl), ⟨nmsX (by kernel_rfl), trivial⟩⟩⟩⟩⟩⟩⟩ ?_
    refine segWH 2 (T1 := (mkT 111 [(1, vI k), (2, vI l), (3, vI m), (4, vP 1 0), (10, vP 3 0), (11, .bool false), (12, vP 5 0), (13, vP 6 0), (14, .bool false), (52, .bool false), (53, .agg #[vI x, vI y, vI z, vS 4 L.length]), (54, .agg #[vI x, vI y, vI z, vS 0 L.length])])) (by kernel_rfl) ?_
    refine rW (m := ⟨[7], [], [0]⟩) (v := .agg #[vI x, vI y, vI z, vS 7 L.length]) rfl (by kernel_rfl) (stN (i := 7) (E := [some ⟨a3s L, 25, false, true⟩]) (v1 := .agg #[vI x, vI y, vI z, vS 8 L.length]) (args := [.agg #[vI x, vI y, vI z, vS 0 L.length]]) rfl (by kernel_rfl) (Any.lay (E := [some ⟨a3s L, 25, false, true⟩]) (N := 8) [0] (toHeapB x y z L (by first | omega | assumption | (simp; done))) ⟨rdF false (flatA3 _ _ _ _) rfl rfl, trivial⟩ rfl ⟨clF (flatA3 _ _ _ _), trivial⟩ rfl (by first | rfl | simp [mpV, mpA, mpS, mpP, renId, shift]) (by first | rfl | simp [mpV, mpA, mpS, mpP, renId, shift]) ⟨enF (flatA3 _ _ _ _) (Or.inl rfl), trivial⟩) rfl (by kernel_rfl) (by kernel_rfl) (by kernel_rfl) (by kernel_rfl) (FlatH.cons (flatA3 _ _ _ _) FlatH.nil)) (by kernel_rfl) (NRs.all ⟨nrOf (by rfl) (nmF (flatA3 _ _ _ _)), trivial⟩) ?_
    refine rW (m := ⟨[], [], [4, 7]⟩) (v := .bool true) rfl (by kernel_rfl) (stQ (args := [.agg #[vI x, vI y, vI z, vS 4 L.length], .agg #[vI x, vI y, vI z, vS 7 L.length]]) rfl (by kernel_rfl) (Any.lay0 [4, 7] (eqHeapB x y z L (by first | omega | assumption | (simp; done))) ⟨rdF true (flatA3 _ _ _ _) rfl rfl, ⟨rdF true (flatA3 _ _ _ _) rfl rfl, trivial⟩⟩ rfl ⟨clF (flatA3 _ _ _ _), ⟨clF (flatA3 _ _ _ _), trivial⟩⟩ rfl (by first | rfl | simp [mpV, mpA, mpS, mpP, renId, shift]) rfl) rfl (by kernel_rfl) (by kernel_rfl)) (by kernel_rfl) nr0 ?_
    refine segEndW [1, 2, 3, 4, 10, 11, 12, 13, 14, 57] (T1 := (mkT 111 [(1, vI k), (2, vI l), (3, vI m), (4, vP 1 0), (10, vP 3 0), (11, .bool false), (12, vP 5 0), (13, vP 6 0), (14, .bool false), (57, .bool false)])) (H1 := [some ⟨a3s L, 25, false, false⟩, rB [vI x, vI y, vI z, vS 0 L.length] 24, some ⟨a3s L, 25, false, true⟩, rB [vI 0, vI 0, vI 0, .slice none 0 0] 29, some ⟨a3s L, 25, false, true⟩, rB [vI x, vI y, vI z, vS 4 L.length] 29, rB [vI 0, vI 0, vI 0, .slice none 0 0] 29, some ⟨a3s L, 25, false, true⟩]) (by kernel_rfl) ?_
    refine kSeq ?_
    refine cFalse (by kernel_rfl) ?_
    refine cSkip ?_
    refine kSeq ?_
    refine cSeq ?_
    refine cReg ?_
    refine segEndH [1, 2, 3, 4, 10, 11, 12, 13, 14, 15] (T1 := (mkT 111 [(1, vI k), (2, vI l), (3, vI m), (4, vP 1 0), (10, vP 3 0), (11, .bool false), (12, vP 5 0), (13, vP 6 0), (14, .bool false), (15, vI 1)])) (by kernel_rfl) ?_
    refine kSeq ?_
    refine cSeq ?_
    refine cReg ?_
    refine segH 2 (T1 := (mkT 111 [(1, vI k), (2, vI l), (3, vI m), (4, vP 1 0), (10, vP 3 0), (11, .bool false), (12, vP 5 0), (13, vP 6 0), (14, .bool false), (15, vI 1), (58, .agg #[vI x, vI y, vI z, vS 4 L.length]), (59, vI 1)])) (by kernel_rfl) ?_
    refine rCall (v := vN (1 + 3 * L.length)) (args := [.agg #[vI x, vI y, vI z, vS 4 L.length], vI 1]) (by kernel_rfl) rfl (by kernel_rfl) (Sound.emb_set (r := ⟨a3s L, 25, false, true⟩) (r' := ⟨a3s (mk3 1 L.length), 25, false, true⟩) 4 (markHeapB x y z L 1 (by first | omega | assumption | (simp; done)) (by first | assumption | omega | rfl | decide | exact HeapL.list _ _ _ _ | exact HeapL.nil _ _ _ | exact HeapL.all _ _ _ | (apply HeapL.lt64 <;> assumption) | (repeat' (first | assumption | apply or_lt64 | apply and_lt64 | apply andn_lt64 | apply pow_lt64 | (apply HeapL.lt64 <;> assumption))))) (flatA3 _ _ _ _) rfl (flatA3 _ _ _ _) rfl rfl rfl (by first | rfl | simp [mpV, mpA, mpS, mpP, renId, shift]) rfl) ?_
    refine segEnd [1, 2, 3, 4, 10, 11, 13, 14, 15] (T1 := (mkT 111 [(1, vI k), (2, vI l), (3, vI m), (4, vP 1 0), (10, vP 3 0), (11, .bool false), (13, vP 6 0), (14, .bool false), (15, vN (1 + 3 * L.length))])) (H1 := [some ⟨a3s L, 25, false, false⟩, rB [vI x, vI y, vI z, vS 0 L.length] 24, some ⟨a3s L, 25, false, true⟩, rB [vI 0, vI 0, vI 0, .slice none 0 0] 29, some ⟨a3s (mk3 1 L.length), 25, false, true⟩, rB [vI x, vI y, vI z, vS 4 L.length] 29, rB [vI 0, vI 0, vI 0, .slice none 0 0] 29, some ⟨a3s L, 25, false, true⟩]) (by kernel_rfl) ?_
    refine kSeq ?_
    refine cSeq ?_
    refine cSeq ?_
    refine cReg ?_
    refine segH 3 (T1 := (mkT 111 [(1, vI k), (2, vI l), (3, vI m), (4, vP 1 0), (10, vP 3 0), (11, .bool false), (13, vP 6 0), (14, .bool false), (15, vN (1 + 3 * L.length)), (61, vN (1 + 3 * L.length)), (62, .bool (decide (((1 + 3 * L.length : Nat) : Int) < 0))), (63, .bool (decide (((1 + 3 * L.length : Nat) : Int) < 0)))])) (by kernel_rfl) ?_
    cases h2 : (decide (((1 + 3 * L.length : Nat) : Int) < 0) : Bool)
    ·
      (try simp only [Bool.not_eq_true', Bool.not_eq_false', decide_eq_true_eq, decide_eq_false_iff_not, beq_iff_eq, bne_iff_ne, beq_eq_false_iff_ne, bne_eq_false_iff_eq, ne_eq, Decidable.not_not, Bool.and_eq_true, Bool.and_eq_false_imp, Bool.or_eq_true, Bool.or_eq_false_iff, Bool.not_eq_true, Int.not_lt, Int.not_le, ge_iff_le, gt_iff_lt] at h2)
      refine seg 2 (T1 := (mkT 111 [(1, vI k), (2, vI l), (3, vI m), (4, vP 1 0), (10, vP 3 0), (11, .bool false), (13, vP 6 0), (14, .bool false), (15, vN (1 + 3 * L.length)), (61, vN (1 + 3 * L.length)), (62, .bool false), (63, .bool false), (64, .agg #[vI 0, vI 0, vI 0, .slice none 0 0]), (65, .agg #[vI 0, vI 0, vI 0, .slice none 0 0])])) (H1 := [some ⟨a3s L, 25, false, false⟩, rB [vI x, vI y, vI z, vS 0 L.length] 24, some ⟨a3s L, 25, false, true⟩, rB [vI 0, vI 0, vI 0, .slice none 0 0] 29, some ⟨a3s (mk3 1 L.length), 25, false, true⟩, rB [vI x, vI y, vI z, vS 4 L.length] 29, rB [vI 0, vI 0, vI 0, .slice none 0 0] 29, some ⟨a3s L, 25, false, true⟩]) (by kernel_rfl) ?_
      refine rCall (v := .bool true) (args := [.agg #[vI 0, vI 0, vI 0, .slice none 0 0], .agg #[vI 0, vI 0, vI 0, .slice none 0 0]]) (by kernel_rfl) rfl (by kernel_rfl) (Sound.lay0 [] (eqHeapN) trivial rfl trivial rfl (by first | rfl | simp [mpV, mpA, mpS, mpP, renId, shift]) rfl) ?_
      refine segEnd [1, 2, 3, 4, 10, 11, 13, 73] (T1 := (mkT 111 [(1, vI k), (2, vI l), (3, vI m), (4, vP 1 0), (10, vP 3 0), (11, .bool false), (13, vP 6 0), (73, .bool false)])) (H1 := [some ⟨a3s L, 25, false, false⟩, rB [vI x, vI y, vI z, vS 0 L.length] 24, some ⟨a3s L, 25, false, true⟩, rB [vI 0, vI 0, vI 0, .slice none 0 0] 29, some ⟨a3s (mk3 1 L.length), 25, false, true⟩, rB [vI x, vI y, vI z, vS 4 L.length] 29, rB [vI 0, vI 0, vI 0, .slice none 0 0] 29, some ⟨a3s L, 25, false, true⟩]) (by kernel_rfl) ?_
      refine kSeq ?_
      refine cFalse (by kernel_rfl) ?_
      refine cSkip ?_
      refine kSeq ?_
      refine cSeq ?_
      refine cReg ?_
      refine segEndH [1, 2, 3, 4, 10, 11, 13, 16] (T1 := (mkT 111 [(1, vI k), (2, vI l), (3, vI m), (4, vP 1 0), (10, vP 3 0), (11, .bool false), (13, vP 6 0), (16, vI 1)])) (by kernel_rfl) ?_
      refine kSeq ?_
      refine cSeq ?_
      refine cReg ?_
      refine segH 2 (T1 := (mkT 111 [(1, vI k), (2, vI l), (3, vI m), (4, vP 1 0), (10, vP 3 0), (11, .bool false), (13, vP 6 0), (16, vI 1), (74, .agg #[vI 0, vI 0, vI 0, .slice none 0 0]), (75, vI 1)])) (by kernel_rfl) ?_
      refine rCall (v := vI 1) (args := [.agg #[vI 0, vI 0, vI 0, .slice none 0 0], vI 1]) (by kernel_rfl) rfl (by kernel_rfl) (Sound.lay0 [] (markHeapN 1) trivial rfl trivial rfl (by first | rfl | simp [mpV, mpA, mpS, mpP, renId, shift]) rfl) ?_
      refine segEndH [1, 2, 3, 4, 10, 11, 13, 16] (T1 := (mkT 111 [(1, vI k), (2, vI l), (3, vI m), (4, vP 1 0), (10, vP 3 0), (11, .bool false), (13, vP 6 0), (16, vI 1)])) (by kernel_rfl) ?_
      refine kSeq ?_
      refine cSeq ?_
      refine cReg ?_
      refine segEndH [1, 2, 3, 4, 10, 11, 13, 16, 17] (T1 := (mkT 111 [(1, vI k), (2, vI l), (3, vI m), (4, vP 1 0), (10, vP 3 0), (11, .bool false), (13, vP 6 0), (16, vI 1), (17, vI 1)])) (by kernel_rfl) ?_
      refine kSeq ?_
      refine cSeq ?_
      refine cReg ?_
      refine segH 2 (T1 := (mkT 111 [(1, vI k), (2, vI l), (3, vI m), (4, vP 1 0), (10, vP 3 0), (11, .bool false), (13, vP 6 0), (16, vI 1), (17, vI 1), (77, .agg #[vI 0, vI 0, vI 0, .slice none 0 0]), (78, vI 1)])) (by kernel_rfl) ?_
      refine rCall (v := vI 1) (args := [.agg #[vI 0, vI 0, vI 0, .slice none 0 0], vI 1]) (by kernel_rfl) rfl (by kernel_rfl) (Sound.lay0 [] (heldHeapN) trivial rfl trivial rfl (by first | rfl | simp [mpV, mpA, mpS, mpP, renId, shift]) rfl) ?_
      refine segEndH [1, 2, 3, 4, 10, 11, 13, 16, 17] (T1 := (mkT 111 [(1, vI k), (2, vI l), (3, vI m), (4, vP 1 0), (10, vP 3 0), (11, .bool false), (13, vP 6 0), (16, vI 1), (17, vI 1)])) (by kernel_rfl) ?_
      refine kSeq ?_
      refine cSeq ?_
      refine cSeq ?_
      refine cReg ?_
      refine segEndH [1, 2, 3, 4, 10, 11, 13, 16, 17, 81] (T1 := (mkT 111 [(1, vI k), (2, vI l), (3, vI m), (4, vP 1 0), (10, vP 3 0), (11, .bool false), (13, vP 6 0), (16, vI 1), (17, vI 1), (81, .bool false)])) (by kernel_rfl) ?_
      refine kSeq ?_
      refine cFalse (by kernel_rfl) ?_
      refine cSkip ?_
      refine kSeq ?_
      refine cSeq ?_
      refine cSeq ?_
      refine cReg ?_
      refine segEndH [1, 2, 3, 4, 10, 11, 13, 16, 84] (T1 := (mkT 111 [(1, vI k), (2, vI l), (3, vI m), (4, vP 1 0), (10, vP 3 0), (11, .bool false), (13, vP 6 0), (16, vI 1), (84, .bool false)])) (by kernel_rfl) ?_
      refine kSeq ?_
      refine cFalse (by kernel_rfl) ?_
      refine cSkip ?_
      refine kSeq ?_
      refine cSeq ?_
      refine cReg ?_
      refine segH 1 (T1 := (mkT 111 [(1, vI k), (2, vI l), (3, vI m), (4, vP 1 0), (10, vP 3 0), (11, .bool false), (13, vP 6 0), (16, vI 1), (84, .bool false), (86, .agg #[vI x, vI y, vI z, vS 0 L.length])])) (by kernel_rfl) ?_
      refine rCall (v := .agg #[vI x, vI y, vI z, vS 8 L.length]) (args := [.agg #[vI x, vI y, vI z, vS 0 L.length]]) (by kernel_rfl) rfl (by kernel_rfl) (Sound.lay (E := [some ⟨a3s L, 25, false, true⟩]) [0] (toHeapB x y z L (by first | omega | assumption | (simp; done))) ⟨rdF false (flatA3 _ _ _ _) rfl rfl, trivial⟩ rfl ⟨clF (flatA3 _ _ _ _), trivial⟩ rfl (by first | rfl | simp [mpV, mpA, mpS, mpP, renId, shift]) (by first | rfl | simp [mpV, mpA, mpS, mpP, renId, shift]) ⟨enF (flatA3 _ _ _ _) (Or.inl rfl), trivial⟩) ?_
      refine seg 3 (T1 := (mkT 111 [(1, vI k), (2, vI l), (3, vI m), (4, vP 1 0), (10, vP 3 0), (11, .bool false), (13, vP 6 0), (16, vI 1), (84, .bool false), (86, .agg #[vI x, vI y, vI z, vS 0 L.length]), (87, .agg #[vI x, vI y, vI z, vS 8 L.length]), (88, vI k), (89, vI l), (90, vI m)])) (H1 := [some ⟨a3s L, 25, false, false⟩, rB [vI x, vI y, vI z, vS 0 L.length] 24, some ⟨a3s L, 25, false, true⟩, rB [vI 0, vI 0, vI 0, .slice none 0 0] 29, some ⟨a3s (mk3 1 L.length), 25, false, true⟩, rB [vI x, vI y, vI z, vS 4 L.length] 29, rB [vI 0, vI 0, vI 0, .slice none 0 0] 29, some ⟨a3s L, 25, false, true⟩, some ⟨a3s L, 25, false, true⟩]) (by kernel_rfl) ?_
      refine rCall (v := .tuple #[.agg #[vI 0, vI 0, vI 0, .slice none 0 0], .bool false]) (args := [.agg #[vI x, vI y, vI z, vS 8 L.length], vI k, vI l, vI m]) (by kernel_rfl) rfl (by kernel_rfl) (Sound.lay0 [8] (implWidenHeap_no1 x y z L k l m (by first | assumption | omega | rfl | decide | exact HeapL.list _ _ _ _ | exact HeapL.nil _ _ _ | exact HeapL.all _ _ _ | (apply HeapL.lt64 <;> assumption) | (repeat' (first | assumption | apply or_lt64 | apply and_lt64 | apply andn_lt64 | apply pow_lt64 | (apply HeapL.lt64 <;> assumption)))) (by first | assumption | omega | rfl | decide | exact HeapL.list _ _ _ _ | exact HeapL.nil _ _ _ | exact HeapL.all _ _ _ | (apply HeapL.lt64 <;> assumption) | (repeat' (first | assumption | apply or_lt64 | apply and_lt64 | apply andn_lt64 | apply pow_lt64 | (apply HeapL.lt64 <;> assumption))))) ⟨rdF true (flatA3 _ _ _ _) rfl rfl, trivial⟩ rfl ⟨clF (flatA3 _ _ _ _), trivial⟩ rfl (by first | rfl | simp [mpV, mpA, mpS, mpP, renId, shift]) (by first | rfl | simp [mpV, mpA, mpS, mpP, renId, shift])) ?_
      refine segEnd [10, 11, 13, 16, 18, 19] (T1 := (mkT 111 [(10, vP 3 0), (11, .bool false), (13, vP 6 0), (16, vI 1), (18, vP 9 0), (19, .bool false)])) (H1 := [some ⟨a3s L, 25, false, false⟩, rB [vI x, vI y, vI z, vS 0 L.length] 24, some ⟨a3s L, 25, false, true⟩, rB [vI 0, vI 0, vI 0, .slice none 0 0] 29, some ⟨a3s (mk3 1 L.length), 25, false, true⟩, rB [vI x, vI y, vI z, vS 4 L.length] 29, rB [vI 0, vI 0, vI 0, .slice none 0 0] 29, some ⟨a3s L, 25, false, true⟩, some ⟨a3s L, 25, false, true⟩, rB [vI 0, vI 0, vI 0, .slice none 0 0] 29]) (by kernel_rfl) ?_
      refine kSeq ?_
      refine cSeq ?_
      refine cSeq ?_
      refine cReg ?_
      refine segH 2 (T1 := (mkT 111 [(10, vP 3 0), (11, .bool false), (13, vP 6 0), (16, vI 1), (18, vP 9 0), (19, .bool false), (94, .agg #[vI 0, vI 0, vI 0, .slice none 0 0]), (95, .agg #[vI 0, vI 0, vI 0, .slice none 0 0])])) (by kernel_rfl) ?_
      refine rCall (v := .bool true) (args := [.agg #[vI 0, vI 0, vI 0, .slice none 0 0], .agg #[vI 0, vI 0, vI 0, .slice none 0 0]]) (by kernel_rfl) rfl (by kernel_rfl) (Sound.lay0 [] (eqHeapN) trivial rfl trivial rfl (by first | rfl | simp [mpV, mpA, mpS, mpP, renId, shift]) rfl) ?_
      refine segEndH [13, 16, 102] (T1 := (mkT 111 [(13, vP 6 0), (16, vI 1), (102, .bool false)])) (by kernel_rfl) ?_
      refine kSeq ?_
      refine cFalse (by kernel_rfl) ?_
      refine cSkip ?_
      refine kSeq ?_
      refine cSeq ?_
      refine cReg ?_
      refine segEndH [13, 16, 17] (T1 := (mkT 111 [(13, vP 6 0), (16, vI 1), (17, vI 1)])) (by kernel_rfl) ?_
      refine kSeq ?_
      refine cSeq ?_
      refine cReg ?_
      refine segH 2 (T1 := (mkT 111 [(13, vP 6 0), (16, vI 1), (17, vI 1), (103, .agg #[vI 0, vI 0, vI 0, .slice none 0 0]), (104, vI 1)])) (by kernel_rfl) ?_
      refine rCall (v := vI 1) (args := [.agg #[vI 0, vI 0, vI 0, .slice none 0 0], vI 1]) (by kernel_rfl) rfl (by kernel_rfl) (Sound.lay0 [] (heldHeapN) trivial rfl trivial rfl (by first | rfl | simp [mpV, mpA, mpS, mpP, renId, shift]) rfl) ?_
      refine segEndH [16, 17] (T1 := (mkT 111 [(16, vI 1), (17, vI 1)])) (by kernel_rfl) ?_
      refine kSeq ?_
      refine cSeq ?_
      refine cSeq ?_
      refine cReg ?_
      refine segEndH [16, 17, 107] (T1 := (mkT 111 [(16, vI 1), (17, vI 1), (107, .bool false)])) (by kernel_rfl) ?_
      refine kSeq ?_
      refine cFalse (by kernel_rfl) ?_
      refine cSkip ?_
      refine kSeq ?_
      refine cSeq ?_
      refine cSeq ?_
      refine cReg ?_
      refine segEndH [110] (T1 := (mkT 111 [(110, .bool false)])) (by kernel_rfl) ?_
      refine kSeq ?_
      refine cFalse (by kernel_rfl) ?_
      refine cSkip ?_
      refine kSeq ?_
      refine cSeq ?_
      refine cReg ?_
      refine segEndH [8] (T1 := (mkT 111 [(8, .bool true)])) (by kernel_rfl) ?_
      refine kSeq ?_
      refine cRet ?_
      -- end
      exact endQ (Or.inr rfl) (l := [.bool true]) [rB [vI x, vI y, vI z, vS 0 L.length] 24, some ⟨a3s L, 25, false, true⟩, rB [vI 0, vI 0, vI 0, .slice none 0 0] 29, some ⟨a3s (mk3 1 L.length), 25, false, true⟩, rB [vI x, vI y, vI z, vS 4 L.length] 29, rB [vI 0, vI 0, vI 0, .slice none 0 0] 29, some ⟨a3s L, 25, false, true⟩, some ⟨a3s L, 25, false, true⟩, rB [vI 0, vI 0, vI 0, .slice none 0 0] 29] (by kernel_rfl) (by first | rfl | kernel_rfl) rfl rfl hcl rfl
    ·
      (try simp only [Bool.not_eq_true', Bool.not_eq_false', decide_eq_true_eq, decide_eq_false_iff_not, beq_iff_eq, bne_iff_ne, beq_eq_false_iff_ne, bne_eq_false_iff_eq, ne_eq, Decidable.not_not, Bool.and_eq_true, Bool.and_eq_false_imp, Bool.or_eq_true, Bool.or_eq_false_iff, Bool.not_eq_true, Int.not_lt, Int.not_le, ge_iff_le, gt_iff_lt] at h2)
      exfalso; omega
  ·
    (try simp only [Bool.not_eq_true', Bool.not_eq_false', decide_eq_true_eq, decide_eq_false_iff_not, beq_iff_eq, bne_iff_ne, beq_eq_false_iff_ne, bne_eq_false_iff_eq, ne_eq, Decidable.not_not, Bool.and_eq_true, Bool.and_eq_false_imp, Bool.or_eq_true, Bool.or_eq_false_iff, Bool.not_eq_true, Int.not_lt, Int.not_le, ge_iff_le, gt_iff_lt] at h1)
    exfalso; omega

set_option maxRecDepth 100000 in
set_option maxHeartbeats 4000000 in
theorem lawWidenHeap_no_n (x : Int) (y : Int) (z : Int) (k : Int) (l : Int) (m : Int) (hv : isHeapB x y z ([] : List A3) = false) : Sound Try.prog 12 [.agg #[vI x, vI y, vI z, .slice none 0 0], vI k, vI l, vI m] [] (.bool true) [] := by
  refine sound_intro (C := cx) Try.func12 rfl (by kernel_rfl) fun hcl => ?_
  refine cSeq ?_
  refine cReg ?_
  refine segEnd [1, 2, 3, 4] (T1 := (mkT 111 [(1, vI k), (2, vI l), (3, vI m), (4, vP 0 0)])) (H1 := [rB [vI x, vI y, vI z, .slice none 0 0] 24]) (by kernel_rfl) ?_
  refine kSeq ?_
  refine cSeq ?_
  refine cReg ?_
  refine segEndH [1, 2, 3, 4, 9] (T1 := (mkT 111 [(1, vI k), (2, vI l), (3, vI m), (4, vP 0 0), (9, vI 1048576)])) (by kernel_rfl) ?_
  refine kSeq ?_
  refine cSeq ?_
  refine cReg ?_
  refine segH 2 (T1 := (mkT 111 [(1, vI k), (2, vI l), (3, vI m), (4, vP 0 0), (9, vI 1048576), (20, .agg #[vI x, vI y, vI z, .slice none 0 0]), (21, vI 1048576)])) (by kernel_rfl) ?_
  refine rCall (v := vI 1048576) (args := [.agg #[vI x, vI y, vI z, .slice none 0 0], vI 1048576]) (by kernel_rfl) rfl (by kernel_rfl) (Sound.lay0 [] (szHeapN x y z 1048576 (by first | omega | assumption | decide)) trivial rfl trivial rfl (by first | rfl | simp [mpV, mpA, mpS, mpP, renId, shift]) rfl) ?_
  refine segEndH [1, 2, 3, 4, 9] (T1 := (mkT 111 [(1, vI k), (2, vI l), (3, vI m), (4, vP 0 0), (9, vI 1048576)])) (by kernel_rfl) ?_
  refine kSeq ?_
  refine cSeq ?_
  refine cSeq ?_
  refine cReg ?_
  refine segEndH [1, 2, 3, 4, 24] (T1 := (mkT 111 [(1, vI k), (2, vI l), (3, vI m), (4, vP 0 0), (24, .bool false)])) (by kernel_rfl) ?_
  refine kSeq ?_
  refine cFalse (by kernel_rfl) ?_
  refine cSkip ?_
  refine kSeq ?_
  refine cSeq ?_
  refine cReg ?_
  refine segH 1 (T1 := (mkT 111 [(1, vI k), (2, vI l), (3, vI m), (4, vP 0 0), (24, .bool false), (26, .agg #[vI x, vI y, vI z, .slice none 0 0])])) (by kernel_rfl) ?_
  refine rCall (v := .agg #[vI x, vI y, vI z, vS 1 0]) (args := [.agg #[vI x, vI y, vI z, .slice none 0 0]]) (by kernel_rfl) rfl (by kernel_rfl) (Sound.lay (E := [some ⟨[], 25, false, true⟩]) [] (toHeapN x y z) trivial rfl trivial rfl (by first | rfl | simp [mpV, mpA, mpS, mpP, renId, shift]) (by first | rfl | simp [mpV, mpA, mpS, mpP, renId, shift]) ⟨enX rfl (Or.inl rfl), trivial⟩) ?_
  refine seg 3 (T1 := (mkT 111 [(1, vI k), (2, vI l), (3, vI m), (4, vP 0 0), (24, .bool false), (26, .agg #[vI x, vI y, vI z, .slice none 0 0]), (27, .agg #[vI x, vI y, vI z, vS 1 0]), (28, vI k), (29, vI l), (30, vI m)])) (H1 := [rB [vI x, vI y, vI z, .slice none 0 0] 24, some ⟨[], 25, false, true⟩]) (by kernel_rfl) ?_
  refine rCall (v := .tuple #[.agg #[vI 0, vI 0, vI 0, .slice none 0 0], .bool false]) (args := [.agg #[vI x, vI y, vI z, vS 1 0], vI k, vI l, vI m]) (by kernel_rfl) rfl (by kernel_rfl) (Sound.lay0 [1] (specWidenHeap_no1 x y z ([] : List A3) k l m (by first | assumption | omega | rfl | decide | exact HeapL.list _ _ _ _ | exact HeapL.nil _ _ _ | exact HeapL.all _ _ _ | (apply HeapL.lt64 <;> assumption) | (repeat' (first | assumption | apply or_lt64 | apply and_lt64 | apply andn_lt64 | apply pow_lt64 | (apply HeapL.lt64 <;> assumption)))) (by first | assumption | omega | rfl | decide | exact HeapL.list _ _ _ _ | exact HeapL.nil _ _ _ | exact HeapL.all _ _ _ | (apply HeapL.lt64 <;> assumption) | (repeat' (first | assumption | apply or_lt64 | apply and_lt64 | apply andn_lt64 | apply pow_lt64 | (apply HeapL.lt64 <;> assumption))))) ⟨rdF true (flatA3 _ _ _ _) rfl rfl, trivial⟩ rfl ⟨clF (flatA3 _ _ _ _), trivial⟩ rfl (by first | rfl | simp [mpV, mpA, mpS, mpP, renId, shift]) (by first | rfl | simp [mpV, mpA, mpS, mpP, renId, shift])) ?_
  refine segEnd [1, 2, 3, 4, 10, 11] (T1 := (mkT 111 [(1, vI k), (2, vI l), (3, vI m), (4, vP 0 0), (10, vP 2 0), (11, .bool false)])) (H1 := [rB [vI x, vI y, vI z, .slice none 0 0] 24, some ⟨[], 25, false, true⟩, rB [vI 0, vI 0, vI 0, .slice none 0 0] 29]) (by kernel_rfl) ?_
  refine kSeq ?_
  refine cSeq ?_
  refine cReg ?_
  refine segH 1 (T1 := (mkT 111 [(1, vI k), (2, vI l), (3, vI m), (4, vP 0 0), (10, vP 2 0), (11, .bool false), (34, .agg #[vI x, vI y, vI z, .slice none 0 0])])) (by kernel_rfl) ?_
  refine rCall (v := .agg #[vI x, vI y, vI z, vS 3 0]) (args := [.agg #[vI x, vI y, vI z, .slice none 0 0]]) (by kernel_rfl) rfl (by kernel_rfl) (Sound.lay (E := [some ⟨[], 25, false, true⟩]) [] (toHeapN x y z) trivial rfl trivial rfl (by first | rfl | simp [mpV, mpA, mpS, mpP, renId, shift]) (by first | rfl | simp [mpV, mpA, mpS, mpP, renId, shift]) ⟨enX rfl (Or.inl rfl), trivial⟩) ?_
  refine segEnd [1, 2, 3, 4, 10, 11, 12] (T1 := (mkT 111 [(1, vI k), (2, vI l), (3, vI m), (4, vP 0 0), (10, vP 2 0), (11, .bool false), (12, vP 4 0)])) (H1 := [rB [vI x, vI y, vI z, .slice none 0 0] 24, some ⟨[], 25, false, true⟩, rB [vI 0, vI 0, vI 0, .slice none 0 0] 29, some ⟨[], 25, false, true⟩, rB [vI x, vI y, vI z, vS 3 0] 29]) (by kernel_rfl) ?_
  refine kSeq ?_
  refine cSeq ?_
  refine cReg ?_
  refine segH 4 (T1 := (mkT 111 [(1, vI k), (2, vI l), (3, vI m), (4, vP 0 0), (10, vP 2 0), (11, .bool false), (12, vP 4 0), (37, .agg #[vI x, vI y, vI z, vS 3 0]), (38, vI k), (39, vI l), (40, vI m)])) (by kernel_rfl) ?_
  refine rCall (v := .tuple #[.agg #[vI 0, vI 0, vI 0, .slice none 0 0], .bool false]) (args := [.agg #[vI x, vI y, vI z, vS 3 0], vI k, vI l, vI m]) (by kernel_rfl) rfl (by kernel_rfl) (Sound.lay0 [3] (implWidenHeap_no1 x y z ([] : List A3) k l m (by first | assumption | omega | rfl | decide | exact HeapL.list _ _ _ _ | exact HeapL.nil _ _ _ | exact HeapL.all _ _ _ | (apply HeapL.lt64 <;> assumption) | (repeat' (first | assumption | apply or_lt64 | apply and_lt64 | apply andn_lt64 | apply pow_lt64 | (apply HeapL.lt64 <;> assumption)))) (by first | assumption | omega | rfl | decide | exact HeapL.list _ _ _ _ | exact HeapL.nil _ _ _ | exact HeapL.all _ _ _ | (apply HeapL.lt64 <;> assumption) | (repeat' (first | assumption | apply or_lt64 | apply and_lt64 | apply andn_lt64 | apply pow_lt64 | (apply HeapL.lt64 <;> assumption))))) ⟨rdF true (flatA3 _ _ _ _) rfl rfl, trivial⟩ rfl ⟨clF (flatA3 _ _ _ _), trivial⟩ rfl (by first | rfl | simp [mpV, mpA, mpS, mpP, renId, shift]) (by first | rfl | simp [mpV, mpA, mpS, mpP, renId, shift])) ?_
  refine segEnd [1, 2, 3, 4, 10, 11, 12, 13, 14] (T1 := (mkT 111 [(1, vI k), (2, vI l), (3, vI m), (4, vP 0 0), (10, vP 2 0), (11, .bool false), (12, vP 4 0), (13, vP 5 0), (14, .bool false)])) (H1 := [rB [vI x, vI y, vI z, .slice none 0 0] 24, some ⟨[], 25, false, true⟩, rB [vI 0, vI 0, vI 0, .slice none 0 0] 29, some ⟨[], 25, false, true⟩, rB [vI x, vI y, vI z, vS 3 0] 29, rB [vI 0, vI 0, vI 0, .slice none 0 0] 29]) (by kernel_rfl) ?_
  refine kSeq ?_
  refine cSeq ?_
  refine cSeq ?_
  refine cReg ?_
  refine segH 2 (T1 := (mkT 111 [(1, vI k), (2, vI l), (3, vI m), (4, vP 0 0), (10, vP 2 0), (11, .bool false), (12, vP 4 0), (13, vP 5 0), (14, .bool false), (44, .agg #[vI 0, vI 0, vI 0, .slice none 0 0]), (45, .agg #[vI 0, vI 0, vI 0, .slice none 0 0])])) (by kernel_rfl) ?_
  refine rCall (v := .bool true) (args := [.agg #[vI 0, vI 0, vI 0, .slice none 0 0], .agg #[vI 0, vI 0, vI 0, .slice none 0 0]]) (by kernel_rfl) rfl (by kernel_rfl) (Sound.lay0 [] (eqHeapN) trivial rfl trivial rfl (by first | rfl | simp [mpV, mpA, mpS, mpP, renId, shift]) rfl) ?_
  refine segEndH [1, 2, 3, 4, 10, 11, 12, 13, 14, 52] (T1 := (mkT 111 [(1, vI k), (2, vI l), (3, vI m), (4, vP 0 0), (10, vP 2 0), (11, .bool false), (12, vP 4 0), (13, vP 5 0), (14, .bool false), (52, .bool false)])) (by kernel_rfl) ?_
  refine kSeq ?_
  refine cFalse (by kernel_rfl) ?_
  refine cSkip ?_
  refine kSeq ?_
  refine cSeq ?_
  refine cSeq ?_
  refine cRegW (N := 7) [⟨[], [], [4]⟩, ⟨[], [], [0]⟩, ⟨[6], [], []⟩, ⟨[], [], [3, 6]⟩, ⟨[], [], []⟩] 1 [6] (by rfl) (by rfl) (by kernel_rfl) (by kernel_rfl) (by kernel_rfl) ⟨nmsX (by kernel_rfl), ⟨nmsX (by kernel_rfl), ⟨nmsX (by kernel_rfl), ⟨nmsX (by kernel_rfl), ⟨nmsX (by kernel_rfl), ⟨nmsX (by kernel_rfl), trivial⟩⟩⟩⟩⟩⟩ ?_
  refine segWH 2 (T1 := (mkT 111 [(1, vI k), (2, vI l), (3, vI m), (4, vP 0 0), (10, vP 2 0), (11, .bool false), (12, vP 4 0), (13, vP 5 0), (14, .bool false), (52, .bool false), (53, .agg #[vI x, vI y, vI z, vS 3 0]), (54, .agg #[vI x, vI y, vI z, .slice none 0 0])])) (by kernel_rfl) ?_
  refine rW (m := ⟨[6], [], []⟩) (v := .agg #[vI x, vI y, vI z, vS 6 0]) rfl (by kernel_rfl) (stN (i := 6) (E := [some ⟨[], 25, false, true⟩]) (v1 := .agg #[vI x, vI y, vI z, vS 7 0]) (args := [.agg #[vI x, vI y, vI z, .slice none 0 0]]) rfl (by kernel_rfl) (Any.lay (E := [some ⟨[], 25, false, true⟩]) (N := 7) [] (toHeapN x y z) trivial rfl trivial rfl (by first | rfl | simp [mpV, mpA, mpS, mpP, renId, shift]) (by first | rfl | simp [mpV, mpA, mpS, mpP, renId, shift]) ⟨enX rfl (Or.inl rfl), trivial⟩) rfl (by kernel_rfl) (by kernel_rfl) (by kernel_rfl) (by kernel_rfl) (FlatH.cons (flatRow_of rfl) FlatH.nil)) (by kernel_rfl) (NRs.all ⟨nrOf (by rfl) (nmX (by kernel_rfl)), trivial⟩) ?_
  refine rW (m := ⟨[], [], [3, 6]⟩) (v := .bool true) rfl (by kernel_rfl) (stQ (args := [.agg #[vI x, vI y, vI z, vS 3 0], .agg #[vI x, vI y, vI z, vS 6 0]]) rfl (by kernel_rfl) (Any.lay0 [3, 6] (eqHeapB x y z ([] : List A3) (by first | omega | assumption | (simp; done))) ⟨rdF true (flatA3 _ _ _ _) rfl rfl, ⟨rdF true (flatA3 _ _ _ _) rfl rfl, trivial⟩⟩ rfl ⟨clF (flatA3 _ _ _ _), ⟨clF (flatA3 _ _ _ _), trivial⟩⟩ rfl (by first | rfl | simp [mpV, mpA, mpS, mpP, renId, shift]) rfl) rfl (by kernel_rfl) (by kernel_rfl)) (by kernel_rfl) nr0 ?_
  refine segEndW [1, 2, 3, 4, 10, 11, 12, 13, 14, 57] (T1 := (mkT 111 [(1, vI k), (2, vI l), (3, vI m), (4, vP 0 0), (10, vP 2 0), (11, .bool false), (12, vP 4 0), (13, vP 5 0), (14, .bool false), (57, .bool false)])) (H1 := [rB [vI x, vI y, vI z, .slice none 0 0] 24, some ⟨[], 25, false, true⟩, rB [vI 0, vI 0, vI 0, .slice none 0 0] 29, some ⟨[], 25, false, true⟩, rB [vI x, vI y, vI z, vS 3 0] 29, rB [vI 0, vI 0, vI 0, .slice none 0 0] 29, some ⟨[], 25, false, true⟩]) (by kernel_rfl) ?_
  refine kSeq ?_
  refine cFalse (by kernel_rfl) ?_
  refine cSkip ?_
  refine kSeq ?_
  refine cSeq ?_
  refine cReg ?_
  refine segEndH [1, 2, 3, 4, 10, 11, 12, 13, 14, 15] (T1 := (mkT 111 [(1, vI k), (2, vI l), (3, vI m), (4, vP 0 0), (10, vP 2 0), (11, .bool false), (12, vP 4 0), (13, vP 5 0), (14, .bool false), (15, vI 1)])) (by kernel_rfl) ?_
  refine kSeq ?_
  refine cSeq ?_
  refine cReg ?_
  refine segH 2 (T1 := (mkT 111 [(1, vI k), (2, vI l), (3, vI m), (4, vP 0 0), (10, vP 2 0), (11, .bool false), (12, vP 4 0), (13, vP 5 0), (14, .bool false), (15, vI 1), (58, .agg #[vI x, vI y, vI z, vS 3 0]), (59, vI 1)])) (by kernel_rfl) ?_
  refine rCall (v := vN (1 + 3 * ([] : List A3).length)) (args := [.agg #[vI x, vI y, vI z, vS 3 0], vI 1]) (by kernel_rfl) rfl (by kernel_rfl) (Sound.emb_set (r := ⟨a3s ([] : List A3), 25, false, true⟩) (r' := ⟨a3s (mk3 1 ([] : List A3).length), 25, false, true⟩) 3 (markHeapB x y z ([] : List A3) 1 (by first | omega | assumption | (simp; done)) (by first | assumption | omega | rfl | decide | exact HeapL.list _ _ _ _ | exact HeapL.nil _ _ _ | exact HeapL.all _ _ _ | (apply HeapL.lt64 <;> assumption) | (repeat' (first | assumption | apply or_lt64 | apply and_lt64 | apply andn_lt64 | apply pow_lt64 | (apply HeapL.lt64 <;> assumption))))) (flatA3 _ _ _ _) rfl (flatA3 _ _ _ _) rfl rfl rfl (by first | rfl | simp [mpV, mpA, mpS, mpP, renId, shift]) rfl) ?_
  refine segEnd [1, 2, 3, 4, 10, 11, 13, 14, 15] (T1 := (mkT 111 [(1, vI k), (2, vI l), (3, vI m), (4, vP 0 0), (10, vP 2 0), (11, .bool false), (13, vP 5 0), (14, .bool false), (15, vN (1 + 3 * ([] : List A3).length))])) (H1 := [rB [vI x, vI y, vI z, .slice none 0 0] 24, some ⟨[], 25, false, true⟩, rB [vI 0, vI 0, vI 0, .slice none 0 0] 29, some ⟨a3s (mk3 1 ([] : List A3).length), 25, false, true⟩, rB [vI x, vI y, vI z, vS 3 0] 29, rB [vI 0, vI 0, vI 0, .slice none 0 0] 29, some ⟨[], 25, false, true⟩]) (by kernel_rfl) ?_
  refine kSeq ?_
  refine cSeq ?_
  refine cSeq ?_
  refine cReg ?_
  refine segH 3 (T1 := (mkT 111 [(1, vI k), (2, vI l), (3, vI m), (4, vP 0 0), (10, vP 2 0), (11, .bool false), (13, vP 5 0), (14, .bool false), (15, vN (1 + 3 * ([] : List A3).length)), (61, vN (1 + 3 * ([] : List A3).length)), (62, .bool (decide (((1 + 3 * ([] : List A3).length : Nat) : Int) < 0))), (63, .bool (decide (((1 + 3 * ([] : List A3).length : Nat) : Int) < 0)))])) (by kernel_rfl) ?_
  cases h1 : (decide (((1 + 3 * ([] : List A3).length : Nat) : Int) < 0) : Bool)
  ·
    (try simp only [Bool.not_eq_true', Bool.not_eq_false', decide_eq_true_eq, decide_eq_false_iff_not, beq_iff_eq, bne_iff_ne, beq_eq_false_iff_ne, bne_eq_false_iff_eq, ne_eq, Decidable.not_not, Bool.and_eq_true, Bool.and_eq_false_imp, Bool.or_eq_true, Bool.or_eq_false_iff, Bool.not_eq_true, Int.not_lt, Int.not_le, ge_iff_le, gt_iff_lt] at h1)
    refine seg 2 (T1 := (mkT 111 [(1, vI k), (2, vI l), (3, vI m), (4, vP 0 0), (10, vP 2 0), (11, .bool false), (13, vP 5 0), (14, .bool false), (15, vN (1 + 3 * ([] : List A3).length)), (61, vN (1 + 3 * ([] : List A3).length)), (62, .bool false), (63, .bool false), (64, .agg #[vI 0, vI 0, vI 0, .slice none 0 0]), (65, .agg #[vI 0, vI 0, vI 0, .slice none 0 0])])) (H1 := [rB [vI x, vI y, vI z, .slice none 0 0] 24, some ⟨[], 25, false, true⟩, rB [vI 0, vI 0, vI 0, .slice none 0 0] 29, some ⟨a3s (mk3 1 ([] : List A3).length), 25, false, true⟩, rB [vI x, vI y, vI z, vS 3 0] 29, rB [vI 0, vI 0, vI 0, .slice none 0 0] 29, some ⟨[], 25, false, true⟩]) (by kernel_rfl) ?_
    refine rCall (v := .bool true) (args := [.agg #[vI 0, vI 0, vI 0, .slice none 0 0], .agg #[vI 0, vI 0, vI 0, .slice none 0 0]]) (by kernel_rfl) rfl (by kernel_rfl) (Sound.lay0 [] (eqHeapN) trivial rfl trivial rfl (by first | rfl | simp [mpV, mpA, mpS, mpP, renId, shift]) rfl) ?_
    refine segEnd [1, 2, 3, 4, 10, 11, 13, 73] (T1 := (mkT 111 [(1, vI k), (2, vI l), (3, vI m), (4, vP 0 0), (10, vP 2 0), (11, .bool false), (13, vP 5 0), (73, .bool false)])) (H1 := [rB [vI x, vI y, vI z, .slice none 0 0] 24, some ⟨[], 25, false, true⟩, rB [vI 0, vI 0, vI 0, .slice none 0 0] 29, some ⟨a3s (mk3 1 ([] : List A3).length), 25, false, true⟩, rB [vI x, vI y, vI z, vS 3 0] 29, rB [vI 0, vI 0, vI 0, .slice none 0 0] 29, some ⟨[], 25, false, true⟩]) (by kernel_rfl) ?_
    refine kSeq ?_
    refine cFalse (by kernel_rfl) ?_
    refine cSkip ?_
    refine kSeq ?_
    refine cSeq ?_
    refine cReg ?_
    refine segEndH [1, 2, 3, 4, 10, 11, 13, 16] (T1 := (mkT 111 [(1, vI k), (2, vI l), (3, vI m), (4, vP 0 0), (10, vP 2 0), (11, .bool false), (13, vP 5 0), (16, vI 1)])) (by kernel_rfl) ?_
    refine kSeq ?_
    refine cSeq ?_
    refine cReg ?_
    refine segH 2 (T1 := (mkT 111 [(1, vI k), (2, vI l), (3, vI m), (4, vP 0 0), (10, vP 2 0), (11, .bool false), (13, vP 5 0), (16, vI 1), (74, .agg #[vI 0, vI 0, vI 0, .slice none 0 0]), (75, vI 1)])) (by kernel_rfl) ?_
    refine rCall (v := vI 1) (args := [.agg #[vI 0, vI 0, vI 0, .slice none 0 0], vI 1]) (by kernel_rfl) rfl (by kernel_rfl) (Sound.lay0 [] (markHeapN 1) trivial rfl trivial rfl (by first | rfl | simp [mpV, mpA, mpS, mpP, renId, shift]) rfl) ?_
    refine segEndH [1, 2, 3, 4, 10, 11, 13, 16] (T1 := (mkT 111 [(1, vI k), (2, vI l), (3, vI m), (4, vP 0 0), (10, vP 2 0), (11, .bool false), (13, vP 5 0), (16, vI 1)])) (by kernel_rfl) ?_
    refine kSeq ?_
    refine cSeq ?_
    refine cReg ?_
    refine segEndH [1, 2, 3, 4, 10, 11, 13, 16, 17] (T1 := (mkT 111 [(1, vI k), (2, vI l), (3, vI m), (4, vP 0 0), (10, vP 2 0), (11, .bool false), (13, vP 5 0), (16, vI 1), (17, vI 1)])) (by kernel_rfl) ?_
    refine kSeq ?_
    refine cSeq ?_
    refine cReg ?_
    refine segH 2 (T1 := (mkT 111 [(1, vI k), (2, vI l), (3, vI m), (4, vP 0 0), (10, vP 2 0), (11, .bool false), (13, vP 5 0), (16, vI 1), (17, vI 1), (77, .agg #[vI 0, vI 0, vI 0, .slice none 0 0]), (78, vI 1)])) (by kernel_rfl) ?_
    refine rCall (v := vI 1) (args := [.agg #[vI 0, vI 0, vI 0, .slice none 0 0], vI 1]) (by kernel_rfl) rfl (by kernel_rfl) (Sound.lay0 [] (heldHeapN) trivial rfl trivial rfl (by first | rfl | simp [mpV, mpA, mpS, mpP, renId, shift]) rfl) ?_
    refine segEndH [1, 2, 3, 4, 10, 11, 13, 16, 17] (T1 := (mkT 111 [(1, vI k), (2, vI l), (3, vI m), (4, vP 0 0), (10, vP 2 0), (11, .bool false), (13, vP 5 0), (16, vI 1), (17, vI 1)])) (by kernel_rfl) ?_
    refine kSeq ?_
    refine cSeq ?_
    refine cSeq ?_
    refine cReg ?_
    refine segEndH [1, 2, 3, 4, 10, 11, 13, 16, 17, 81] (T1 := (mkT 111 [(1, vI k), (2, vI l), (3, vI m), (4, vP 0 0), (10, vP 2 0), (11, .bool false), (13, vP 5 0), (16, vI 1), (17, vI 1), (81, .bool false)])) (by kernel_rfl) ?_
    refine kSeq ?_
    refine cFalse (by kernel_rfl) ?_
    refine cSkip ?_
    refine kSeq ?_
    refine cSeq ?_
    refine cSeq ?_
    refine cReg ?_
    refine segEndH [1, 2, 3, 4, 10, 11, 13, 16, 84] (T1 := (mkT 111 [(1, vI k), (2, vI l), (3, vI m), (4, vP 0 0), (10, vP 2 0), (11, .bool false), (13, vP 5 0), (16, vI 1), (84, .bool false)])) (by kernel_rfl) ?_
    refine kSeq ?_
    refine cFalse (by kernel_rfl) ?_
    refine cSkip ?_
    refine kSeq ?_
    refine cSeq ?_
    refine cReg ?_
    refine segH 1 (T1 := (mkT 111 [(1, vI k), (2, vI l), (3, vI m), (4, vP 0 0), (10, vP 2 0), (11, .bool false), (13, vP 5 0), (16, vI 1), (84, .bool false), (86, .agg #[vI x, vI y, vI z, .slice none 0 0])])) (by kernel_rfl) ?_
    refine rCall (v := .agg #[vI x, vI y, vI z, vS 7 0]) (args := [.agg #[vI x, vI y, vI z, .slice none 0 0]]) (by kernel_rfl) rfl (by kernel_rfl) (Sound.lay (E := [some ⟨[], 25, false, true⟩]) [] (toHeapN x y z) trivial rfl trivial rfl (by first | rfl | simp [mpV, mpA, mpS, mpP, renId, shift]) (by first | rfl | simp [mpV, mpA, mpS, mpP, renId, shift]) ⟨enX rfl (Or.inl rfl), trivial⟩) ?_
    refine seg 3 (T1 := (mkT 111 [(1, vI k), (2, vI l), (3, vI m), (4, vP 0 0), (10, vP 2 0), (11, .bool false), (13, vP 5 0), (16, vI 1), (84, .bool false), (86, .agg #[vI x, vI y, vI z, .slice none 0 0]), (87, .agg #[vI x, vI y, vI z, vS 7 0]), (88, vI k), (89, vI l), (90, vI m)])) (H1 := [rB [vI x, vI y, vI z, .slice none 0 0] 24, some ⟨[], 25, false, true⟩, rB [vI 0, vI 0, vI 0, .slice none 0 0] 29, some ⟨a3s (mk3 1 ([] : List A3).length), 25, false, true⟩, rB [vI x, vI y, vI z, vS 3 0] 29, rB [vI 0, vI 0, vI 0, .slice none 0 0] 29, some ⟨[], 25, false, true⟩, some ⟨[], 25, false, true⟩]) (by kernel_rfl) ?_
    refine rCall (v := .tuple #[.agg #[vI 0, vI 0, vI 0, .slice none 0 0], .bool false]) (args := [.agg #[vI x, vI y, vI z, vS 7 0], vI k, vI l, vI m]) (by kernel_rfl) rfl (by kernel_rfl) (Sound.lay0 [7] (implWidenHeap_no1 x y z ([] : List A3) k l m (by first | assumption | omega | rfl | decide | exact HeapL.list _ _ _ _ | exact HeapL.nil _ _ _ | exact HeapL.all _ _ _ | (apply HeapL.lt64 <;> assumption) | (repeat' (first | assumption | apply or_lt64 | apply and_lt64 | apply andn_lt64 | apply pow_lt64 | (apply HeapL.lt64 <;> assumption)))) (by first | assumption | omega | rfl | decide | exact HeapL.list _ _ _ _ | exact HeapL.nil _ _ _ | exact HeapL.all _ _ _ | (apply HeapL.lt64 <;> assumption) | (repeat' (first | assumption | apply or_lt64 | apply and_lt64 | apply andn_lt64 | apply pow_lt64 | (apply HeapL.lt64 <;> assumption))))) ⟨rdF true (flatA3 _ _ _ _) rfl rfl, trivial⟩ rfl ⟨clF (flatA3 _ _ _ _), trivial⟩ rfl (by first | rfl | simp [mpV, mpA, mpS, mpP, renId, shift]) (by first | rfl | simp [mpV, mpA, mpS, mpP, renId, shift])) ?_
    refine segEnd [10, 11, 13, 16, 18, 19] (T1 := (mkT 111 [(10, vP 2 0), (11, .bool false), (13, vP 5 0), (16, vI 1), (18, vP 8 0), (19, .bool false)])) (H1 := [rB [vI x, vI y, vI z, .slice none 0 0] 24, some ⟨[], 25, false, true⟩, rB [vI 0, vI 0, vI 0, .slice none 0 0] 29, some ⟨a3s (mk3 1 ([] : List A3).length), 25, false, true⟩, rB [vI x, vI y, vI z, vS 3 0] 29, rB [vI 0, vI 0, vI 0, .slice none 0 0] 29, some ⟨[], 25, false, true⟩, some ⟨[], 25, false, true⟩, rB [vI 0, vI 0, vI 0, .slice none 0 0] 29]) (by kernel_rfl) ?_
    refine kSeq ?_
    refine cSeq ?_
    refine cSeq ?_
    refine cReg ?_
    refine segH 2 (T1 := (mkT 111 [(10, vP 2 0), (11, .bool false), (13, vP 5 0), (16, vI 1), (18, vP 8 0), (19, .bool false), (94, .agg #[vI 0, vI 0, vI 0, .slice none 0 0]), (95, .agg #[vI 0, vI 0, vI 0, .slice none 0 0])])) (by kernel_rfl) ?_
    refine rCall (v := .bool true) (args := [.agg #[vI 0, vI 0, vI 0, .slice none 0 0], .agg #[vI 0, vI 0, vI 0, .slice none 0 0]]) (by kernel_rfl) rfl (by kernel_rfl) (Sound.lay0 [] (eqHeapN) trivial rfl trivial rfl (by first | rfl | simp [mpV, mpA, mpS, mpP, renId, shift]) rfl) ?_
    refine segEndH [13, 16, 102] (T1 := (mkT 111 [(13, vP 5 0), (16, vI 1), (102, .bool false)])) (by kernel_rfl) ?_
    refine kSeq ?_
    refine cFalse (by kernel_rfl) ?_
    refine cSkip ?_
    refine kSeq ?_
    refine cSeq ?_
    refine cReg ?_
    refine segEndH [13, 16, 17] (T1 := (mkT 111 [(13, vP 5 0), (16, vI 1), (17, vI 1)])) (by kernel_rfl) ?_
    refine kSeq ?_
    refine cSeq ?_
    refine cReg ?_
    refine segH 2 (T1 := (mkT 111 [(13, vP 5 0), (16, vI 1), (17, vI 1), (103, .agg #[vI 0, vI 0, vI 0, .slice none 0 0]), (104, vI 1)])) (by kernel_rfl) ?_
    refine rCall (v := vI 1) (args := [.agg #[vI 0, vI 0, vI 0, .slice none 0 0], vI 1]) (by kernel_rfl) rfl (by kernel_rfl) (Sound.lay0 [] (heldHeapN) trivial rfl trivial rfl (by first | rfl | simp [mpV, mpA, mpS, mpP, renId, shift]) rfl) ?_
    refine segEndH [16, 17] (T1 := (mkT 111 [(16, vI 1), (17, vI 1)])) (by kernel_rfl) ?_
    refine kSeq ?_
    refine cSeq ?_
    refine cSeq ?_
    refine cReg ?_
    refine segEndH [16, 17, 107] (T1 := (mkT 111 [(16, vI 1), (17, vI 1), (107, .bool false)])) (by kernel_rfl) ?_
    refine kSeq ?_
    refine cFalse (by kernel_rfl) ?_
    refine cSkip ?_
    refine kSeq ?_
    refine cSeq ?_
    refine cSeq ?_
    refine cReg ?_
    refine segEndH [110] (T1 := (mkT 111 [(110, .bool false)])) (by kernel_rfl) ?_
    refine kSeq ?_
    refine cFalse (by kernel_rfl) ?_
    refine cSkip ?_
    refine kSeq ?_
    refine cSeq ?_
    refine cReg ?_
    refine segEndH [8] (T1 := (mkT 111 [(8, .bool true)])) (by kernel_rfl) ?_
    refine kSeq ?_
    refine cRet ?_
    -- end
    exact endQ (Or.inr rfl) (l := [.bool true]) [rB [vI x, vI y, vI z, .slice none 0 0] 24, some ⟨[], 25, false, true⟩, rB [vI 0, vI 0, vI 0, .slice none 0 0] 29, some ⟨a3s (mk3 1 ([] : List A3).length), 25, false, true⟩, rB [vI x, vI y, vI z, vS 3 0] 29, rB [vI 0, vI 0, vI 0, .slice none 0 0] 29, some ⟨[], 25, false, true⟩, some ⟨[], 25, false, true⟩, rB [vI 0, vI 0, vI 0, .slice none 0 0] 29] (by kernel_rfl) (by first | rfl | kernel_rfl) rfl rfl hcl rfl
  ·
    (try simp only [Bool.not_eq_true', Bool.not_eq_false', decide_eq_true_eq, decide_eq_false_iff_not, beq_iff_eq, bne_iff_ne, beq_eq_false_iff_ne, bne_eq_false_iff_eq, ne_eq, Decidable.not_not, Bool.and_eq_true, Bool.and_eq_false_imp, Bool.or_eq_true, Bool.or_eq_false_iff, Bool.not_eq_true, Int.not_lt, Int.not_le, ge_iff_le, gt_iff_lt] at h1)
    exfalso; omega

set_option maxRecDepth 100000 in
set_option maxHeartbeats 4000000 in
theorem lawWidenHeap_no2_s (X : Nat) (Y : Nat) (Z : Nat) (L : List A3) (k : Int) (l : Int) (m : Int) (hs : Sides X Y Z) (hL : HeapL X Y Z L) (hv2 : valid3 k l m = false) : Sound Try.prog 12 [.agg #[vN X, vN Y, vN Z, vS 0 L.length], vI k, vI l, vI m] [some ⟨a3s L, 25, false, false⟩] (.bool true) [some ⟨a3s L, 25, false, false⟩] := by
  refine sound_intro (C := cx) Try.func12 rfl (by kernel_rfl) fun hcl => ?_
  have hz := hs.size
  have hx0 := hs.x0
  have hx4 := hs.x4
  have hy0 := hs.y0
  have hy4 := hs.y4
  have hz0 := hs.z0
  have hz4 := hs.z4
  have hlen : L.length ≤ 64 := by first | (have := hL.len; have := hs.size; omega) | simp
  refine cSeq ?_
  refine cReg ?_
  refine segEnd [1, 2, 3, 4] (T1 := (mkT 111 [(1, vI k), (2, vI l), (3, vI m), (4, vP 1 0)])) (H1 := [some ⟨a3s L, 25, false, false⟩, rB [vN X, vN Y, vN Z, vS 0 L.length] 24]) (by kernel_rfl) ?_
  refine kSeq ?_
  refine cSeq ?_
  refine cReg ?_
  refine segEndH [1, 2, 3, 4, 9] (T1 := (mkT 111 [(1, vI k), (2, vI l), (3, vI m), (4, vP 1 0), (9, vI 1048576)])) (by kernel_rfl) ?_
  refine kSeq ?_
  refine cSeq ?_
  refine cReg ?_
  refine segH 2 (T1 := (mkT 111 [(1, vI k), (2, vI l), (3, vI m), (4, vP 1 0), (9, vI 1048576), (20, .agg #[vN X, vN Y, vN Z, vS 0 L.length]), (21, vI 1048576)])) (by kernel_rfl) ?_
  refine rCall (v := vN (1048576 - L.length)) (args := [.agg #[vN X, vN Y, vN Z, vS 0 L.length], vI 1048576]) (by kernel_rfl) rfl (by kernel_rfl) (Sound.lay0 [0] (szHeapS ((X : Nat) : Int) ((Y : Nat) : Int) ((Z : Nat) : Int) L 1048576 (by first | omega | assumption | (simp; done)) (by first | omega | assumption | decide)) ⟨rdF false (flatA3 _ _ _ _) rfl rfl, trivial⟩ rfl ⟨clF (flatA3 _ _ _ _), trivial⟩ rfl (by first | rfl | simp [mpV, mpA, mpS, mpP, renId, shift]) rfl) ?_
  refine segEndH [1, 2, 3, 4, 9] (T1 := (mkT 111 [(1, vI k), (2, vI l), (3, vI m), (4, vP 1 0), (9, vN (1048576 - L.length))])) (by kernel_rfl) ?_
  refine kSeq ?_
  refine cSeq ?_
  refine cSeq ?_
  refine cReg ?_
  refine segEndH [1, 2, 3, 4, 24] (T1 := (mkT 111 [(1, vI k), (2, vI l), (3, vI m), (4, vP 1 0), (24, .bool (decide (((1048576 - L.length : Nat) : Int) < 0)))])) (by kernel_rfl) ?_
  refine kSeq ?_
  cases h1 : (decide (((1048576 - L.length : Nat) : Int) < 0) : Bool)
  ·
    (try simp only [Bool.not_eq_true', Bool.not_eq_false', decide_eq_true_eq, decide_eq_false_iff_not, beq_iff_eq, bne_iff_ne, beq_eq_false_iff_ne, bne_eq_false_iff_eq, ne_eq, Decidable.not_not, Bool.and_eq_true, Bool.and_eq_false_imp, Bool.or_eq_true, Bool.or_eq_false_iff, Bool.not_eq_true, Int.not_lt, Int.not_le, ge_iff_le, gt_iff_lt] at h1)
    refine cFalse (by kernel_rfl) ?_
    refine cSkip ?_
    refine kSeq ?_
    refine cSeq ?_
    refine cReg ?_
    refine segH 1 (T1 := (mkT 111 [(1, vI k), (2, vI l), (3, vI m), (4, vP 1 0), (24, .bool false), (26, .agg #[vN X, vN Y, vN Z, vS 0 L.length])])) (by kernel_rfl) ?_
    refine rCall (v := .agg #[vN X, vN Y, vN Z, vS 2 L.length]) (args := [.agg #[vN X, vN Y, vN Z, vS 0 L.length]]) (by kernel_rfl) rfl (by kernel_rfl) (Sound.lay (E := [some ⟨a3s L, 25, false, true⟩]) [0] (toHeapB ((X : Nat) : Int) ((Y : Nat) : Int) ((Z : Nat) : Int) L (by first | omega | assumption | (simp; done))) ⟨rdF false (flatA3 _ _ _ _) rfl rfl, trivial⟩ rfl ⟨clF (flatA3 _ _ _ _), trivial⟩ rfl (by first | rfl | simp [mpV, mpA, mpS, mpP, renId, shift]) (by first | rfl | simp [mpV, mpA, mpS, mpP, renId, shift]) ⟨enF (flatA3 _ _ _ _) (Or.inl rfl), trivial⟩) ?_
    refine seg 3 (T1 := (mkT 111 [(1, vI k), (2, vI l), (3, vI m), (4, vP 1 0), (24, .bool false), (26, .agg #[vN X, vN Y, vN Z, vS 0 L.length]), (27, .agg #[vN X, vN Y, vN Z, vS 2 L.length]), (28, vI k), (29, vI l), (30, vI m)])) (H1 := [some ⟨a3s L, 25, false, false⟩, rB [vN X, vN Y, vN Z, vS 0 L.length] 24, some ⟨a3s L, 25, false, true⟩]) (by kernel_rfl) ?_
    refine rCall (v := .tuple #[.agg #[vI 0, vI 0, vI 0, .slice none 0 0], .bool false]) (args := [.agg #[vN X, vN Y, vN Z, vS 2 L.length], vI k, vI l, vI m]) (by kernel_rfl) rfl (by kernel_rfl) (Sound.lay0 [2] (specWidenHeap_no2 X Y Z L k l m (by first | assumption | omega | rfl | decide | exact HeapL.list _ _ _ _ | exact HeapL.nil _ _ _ | exact HeapL.all _ _ _ | (apply HeapL.lt64 <;> assumption) | (repeat' (first | assumption | apply or_lt64 | apply and_lt64 | apply andn_lt64 | apply pow_lt64 | (apply HeapL.lt64 <;> assumption)))) (by first | assumption | omega | rfl | decide | exact HeapL.list _ _ _ _ | exact HeapL.nil _ _ _ | exact HeapL.all _ _ _ | (apply HeapL.lt64 <;> assumption) | (repeat' (first | assumption | apply or_lt64 | apply and_lt64 | apply andn_lt64 | apply pow_lt64 | (apply HeapL.lt64 <;> assumption)))) (by first | assumption | omega | rfl | decide | exact HeapL.list _ _ _ _ | exact HeapL.nil _ _ _ | exact HeapL.all _ _ _ | (apply HeapL.lt64 <;> assumption) | (repeat' (first | assumption | apply or_lt64 | apply and_lt64 | apply andn_lt64 | apply pow_lt64 | (apply HeapL.lt64 <;> assumption))))) ⟨rdF true (flatA3 _ _ _ _) rfl rfl, trivial⟩ rfl ⟨clF (flatA3 _ _ _ _), trivial⟩ rfl (by first | rfl | simp [mpV, mpA, mpS, mpP, renId, shift]) (by first | rfl | simp [mpV, mpA, mpS, mpP, renId, shift])) ?_
    refine segEnd [1, 2, 3, 4, 10, 11] (T1 := (mkT 111 [(1, vI k), (2, vI l), (3, vI m), (4, vP 1 0), (10, vP 3 0), (11, .bool false)])) (H1 := [some ⟨a3s L, 25, false, false⟩, rB [vN X, vN Y, vN Z, vS 0 L.length] 24, some ⟨a3s L, 25, false, true⟩, rB [vI 0, vI 0, vI 0, .slice none 0 0] 29]) (by kernel_rfl) ?_
    refine kSeq ?_
    refine cSeq ?_
    refine cReg ?_
    refine segH 1 (T1 := (mkT 111 [(1, vI k), (2, vI l), (3, vI m), (4, vP 1 0), (10, vP 3 0), (11, .bool false), (34, .agg #[vN X, vN Y, vN Z, vS 0 L.length])])) (by kernel_rfl) ?_
    refine rCall (v := .agg #[vN X, vN Y, vN Z, vS 4 L.length]) (args := [.agg #[vN X, vN Y, vN Z, vS 0 L.length]]) (by kernel_rfl) rfl (by kernel_rfl) (Sound.lay (E := [some ⟨a3s L, 25, false, true⟩]) [0] (toHeapB ((X : Nat) : Int) ((Y : Nat) : Int) ((Z : Nat) : Int) L (by first | omega | assumption | (simp; done))) ⟨rdF false (flatA3 _ _ _ _) rfl rfl, trivial⟩ rfl ⟨clF (flatA3 _ _ _ _), trivial⟩ rfl (by first | rfl | simp [mpV, mpA, mpS, mpP, renId, shift]) (by first | rfl | simp [mpV, mpA, mpS, mpP, renId, shift]) ⟨enF (flatA3 _ _ _ _) (Or.inl rfl), trivial⟩) ?_
    refine segEnd [1, 2, 3, 4, 10, 11, 12] (T1 := (mkT 111 [(1, vI k), (2, vI l), (3, vI m), (4, vP 1 0), (10, vP 3 0), (11, .bool false), (12, vP 5 0)])) (H1 := [some ⟨a3s L, 25, false, false⟩, rB [vN X, vN Y, vN Z, vS 0 L.length] 24, some ⟨a3s L, 25, false, true⟩, rB [vI 0, vI 0, vI 0, .slice none 0 0] 29, some ⟨a3s L, 25, false, true⟩, rB [vN X, vN Y, vN Z, vS 4 L.length] 29]) (by kernel_rfl) ?_
    refine kSeq ?_
    refine cSeq ?_
    refine cReg ?_
    refine segH 4 (T1 := (mkT 111 [(1, vI k), (2, vI l), (3, vI m), (4, vP 1 0), (10, vP 3 0), (11, .bool false), (12, vP 5 0), (37, .agg #[vN X, vN Y, vN Z, vS 4 L.length]), (38, vI k), (39, vI l), (40, vI m)])) (by kernel_rfl) ?_
    refine rCall (v := .tuple #[.agg #[vI 0, vI 0, vI 0, .slice none 0 0], .bool false]) (args := [.agg #[vN X, vN Y, vN Z, vS 4 L.length], vI k, vI l, vI m]) (by kernel_rfl) rfl (by kernel_rfl) (Sound.lay0 [4] (implWidenHeap_no2 X Y Z L k l m (by first | assumption | omega | rfl | decide | exact HeapL.list _ _ _ _ | exact HeapL.nil _ _ _ | exact HeapL.all _ _ _ | (apply HeapL.lt64 <;> assumption) | (repeat' (first | assumption | apply or_lt64 | apply and_lt64 | apply andn_lt64 | apply pow_lt64 | (apply HeapL.lt64 <;> assumption)))) (by first | assumption | omega | rfl | decide | exact HeapL.list _ _ _ _ | exact HeapL.nil _ _ _ | exact HeapL.all _ _ _ | (apply HeapL.lt64 <;> assumption) | (repeat' (first | assumption | apply or_lt64 | apply and_lt64 | apply andn_lt64 | apply pow_lt64 | (apply HeapL.lt64 <;> assumption)))) (by first | assumption | omega | rfl | decide | exact HeapL.list _ _ _ _ | exact HeapL.nil _ _ _ | exact HeapL.all _ _ _ | (apply HeapL.lt64 <;> assumption) | (repeat' (first | assumption | apply or_lt64 | apply and_lt64 | apply andn_lt64 | apply pow_lt64 | (apply HeapL.lt64 <;> assumption))))) ⟨rdF true (flatA3 _ _ _ _) rfl rfl, trivial⟩ rfl ⟨clF (flatA3 _ _ _ _), trivial⟩ rfl (by first | rfl | simp [mpV, mpA, mpS, mpP, renId, shift]) (by first | rfl | simp [mpV, mpA, mpS, mpP, renId, shift])) ?_
    refine segEnd [1, 2, 3, 4, 10, 11, 12, 13, 14] (T1 := (mkT 111 [(1, vI k), (2, vI l), (3, vI m), (4, vP 1 0), (10, vP 3 0), (11, .bool false), (12, vP 5 0), (13, vP 6 0), (14, .bool false)])) (H1 := [some ⟨a3s L, 25, false, false⟩, rB [vN X, vN Y, vN Z, vS 0 L.length] 24, some ⟨a3s L, 25, false, true⟩, rB [vI 0, vI 0, vI 0, .slice none 0 0] 29, some ⟨a3s L, 25, false, true⟩, rB [vN X, vN Y, vN Z, vS 4 L.length] 29, rB [vI 0, vI 0, vI 0, .slice none 0 0] 29]) (by kernel_rfl) ?_
    refine kSeq ?_
    refine cSeq ?_
    refine cSeq ?_
    refine cReg ?_
    refine segH 2 (T1 := (mkT 111 [(1, vI k), (2, vI l), (3, vI m), (4, vP 1 0), (10, vP 3 0), (11, .bool false), (12, vP 5 0), (13, vP 6 0), (14, .bool false), (44, .agg #[vI 0, vI 0, vI 0, .slice none 0 0]), (45, .agg #[vI 0, vI 0, vI 0, .slice none 0 0])])) (by kernel_rfl) ?_
    refine rCall (v := .bool true) (args := [.agg #[vI 0, vI 0, vI 0, .slice none 0 0], .agg #[vI 0, vI 0, vI 0, .slice none 0 0]]) (by kernel_rfl) rfl (by kernel_rfl) (Sound.lay0 [] (eqHeapN) trivial rfl trivial rfl (by first | rfl | simp [mpV, mpA, mpS, mpP, renId, shift]) rfl) ?_
    refine segEndH [1, 2, 3, 4, 10, 11, 12, 13, 14, 52] (T1 := (mkT 111 [(1, vI k), (2, vI l), (3, vI m), (4, vP 1 0), (10, vP 3 0), (11, .bool false), (12, vP 5 0), (13, vP 6 0), (14, .bool false), (52, .bool false)])) (by kernel_rfl) ?_
    refine kSeq ?_
    refine cFalse (by kernel_rfl) ?_
    refine cSkip ?_
    refine kSeq ?_
    refine cSeq ?_
    refine cSeq ?_
    refine cRegW (N := 8) [⟨[], [], [5]⟩, ⟨[], [], [1]⟩, ⟨[7], [], [0]⟩, ⟨[], [], [4, 7]⟩, ⟨[], [], []⟩] 1 [7] (by rfl) (by rfl) (by kernel_rfl) (by kernel_rfl) (by kernel_rfl) ⟨nmsF (flatA3 _ _ _ _), ⟨nmsX (by kernel_rfl), ⟨nmsF (flatA3 _ _ _ _), ⟨nmsX (by kernel_rfl), ⟨nmsF (flatA3 _ _ _ _), ⟨nmsX (by kernel_rfl), ⟨nmsX (by kernel_rfl), trivial⟩⟩⟩⟩⟩⟩⟩ ?_
    refine segWH 2 (T1 := (mkT 111 [(1, vI k), (2, vI l), (3, vI m), (4, vP 1 0), (10, vP 3 0), (11, .bool false), (12, vP 5 0), (13, vP 6 0), (14, .bool false), (52, .bool false), (53, .agg #[vN X, vN Y, vN Z, vS 4 L.length]), (54, .agg #[vN X, vN Y, vN Z, vS 0 L.length])])) (by kernel_rfl) ?_
    refine rW (m := ⟨[7], [], [0]⟩) (v := .agg #[vN X, vN Y, vN Z, vS 7 L.length]) rfl (by kernel_rfl) (stN (i := 7) (E := [some ⟨a3s L, 25, false, true⟩]) (v1 := .agg #[vN X, vN Y, vN Z, vS 8 L.length]) (args := [.agg #[vN X, vN Y, vN Z, vS 0 L.length]]) rfl (by kernel_rfl) (Any.lay (E := [some ⟨a3s L, 25, false, true⟩]) (N := 8) [0] (toHeapB ((X : Nat) : Int) ((Y : Nat) : Int) ((Z : Nat) : Int) L (by first | omega | assumption | (simp; done))) ⟨rdF false (flatA3 _ _ _ _) rfl rfl, trivial⟩ rfl ⟨clF (flatA3 _ _ _ _), trivial⟩ rfl (by first | rfl | simp [mpV, mpA, mpS, mpP, renId, shift]) (by first | rfl | simp [mpV, mpA, mpS, mpP, renId, shift]) ⟨enF (flatA3 _ _ _ _) (Or.inl rfl), trivial⟩) rfl (by kernel_rfl) (by kernel_rfl) (by kernel_rfl) (by kernel_rfl) (FlatH.cons (flatA3 _ _ _ _) FlatH.nil)) (by kernel_rfl) (NRs.all ⟨nrOf (by rfl) (nmF (flatA3 _ _ _ _)), trivial⟩) ?_
    refine rW (m := ⟨[], [], [4, 7]⟩) (v := .bool true) rfl (by kernel_rfl) (stQ (args := [.agg #[vN X, vN Y, vN Z, vS 4 L.length], .agg #[vN X, vN Y, vN Z, vS 7 L.length]]) rfl (by kernel_rfl) (Any.lay0 [4, 7] (eqHeapB ((X : Nat) : Int) ((Y : Nat) : Int) ((Z : Nat) : Int) L (by first | omega | assumption | (simp; done))) ⟨rdF true (flatA3 _ _ _ _) rfl rfl, ⟨rdF true (flatA3 _ _ _ _) rfl rfl, trivial⟩⟩ rfl ⟨clF (flatA3 _ _ _ _), ⟨clF (flatA3 _ _ _ _), trivial⟩⟩ rfl (by first | rfl | simp [mpV, mpA, mpS, mpP, renId, shift]) rfl) rfl (by kernel_rfl) (by kernel_rfl)) (by kernel_rfl) nr0 ?_
    refine segEndW [1, 2, 3, 4, 10, 11, 12, 13, 14, 57] (T1 := (mkT 111 [(1, vI k), (2, vI l), (3, vI m), (4, vP 1 0), (10, vP 3 0), (11, .bool false), (12, vP 5 0), (13, vP 6 0), (14, .bool false), (57, .bool false)])) (H1 := [some ⟨a3s L, 25, false, false⟩, rB [vN X, vN Y, vN Z, vS 0 L.length] 24, some ⟨a3s L, 25, false, true⟩, rB [vI 0, vI 0, vI 0, .slice none 0 0] 29, some ⟨a3s L, 25, false, true⟩, rB [vN X, vN Y, vN Z, vS 4 L.length] 29, rB [vI 0, vI 0, vI 0, .slice none 0 0] 29, some ⟨a3s L, 25, false, true⟩]) (by kernel_rfl) ?_
    refine kSeq ?_
    refine cFalse (by kernel_rfl) ?_
    refine cSkip ?_
    refine kSeq ?_
    refine cSeq ?_
    refine cReg ?_
    refine segEndH [1, 2, 3, 4, 10, 11, 12, 13, 14, 15] (T1 := (mkT 111 [(1, vI k), (2, vI l), (3, vI m), (4, vP 1 0), (10, vP 3 0), (11, .bool false), (12, vP 5 0), (13, vP 6 0), (14, .bool false), (15, vI 1)])) (by kernel_rfl) ?_
    refine kSeq ?_
    refine cSeq ?_
    refine cReg ?_
    refine segH 2 (T1 := (mkT 111 [(1, vI k), (2, vI l), (3, vI m), (4, vP 1 0), (10, vP 3 0), (11, .bool false), (12, vP 5 0), (13, vP 6 0), (14, .bool false), (15, vI 1), (58, .agg #[vN X, vN Y, vN Z, vS 4 L.length]), (59, vI 1)])) (by kernel_rfl) ?_
    refine rCall (v := vN (1 + 3 * L.length)) (args := [.agg #[vN X, vN Y, vN Z, vS 4 L.length], vI 1]) (by kernel_rfl) rfl (by kernel_rfl) (Sound.emb_set (r := ⟨a3s L, 25, false, true⟩) (r' := ⟨a3s (mk3 1 L.length), 25, false, true⟩) 4 (markHeapB ((X : Nat) : Int) ((Y : Nat) : Int) ((Z : Nat) : Int) L 1 (by first | omega | assumption | (simp; done)) (by first | assumption | omega | rfl | decide | exact HeapL.list _ _ _ _ | exact HeapL.nil _ _ _ | exact HeapL.all _ _ _ | (apply HeapL.lt64 <;> assumption) | (repeat' (first | assumption | apply or_lt64 | apply and_lt64 | apply andn_lt64 | apply pow_lt64 | (apply HeapL.lt64 <;> assumption))))) (flatA3 _ _ _ _) rfl (flatA3 _ _ _ _) rfl rfl rfl (by first | rfl | simp [mpV, mpA, mpS, mpP, renId, shift]) rfl) ?_
    refine segEnd [1, 2, 3, 4, 10, 11, 13, 14, 15] (T1 := (mkT 111 [(1, vI k), (2, vI l), (3, vI m), (4, vP 1 0), (10, vP 3 0), (11, .bool false), (13, vP 6 0), (14, .bool false), (15, vN (1 + 3 * L.length))])) (H1 := [some ⟨a3s L, 25, false, false⟩, rB [vN X, vN Y, vN Z, vS 0 L.length] 24, some ⟨a3s L, 25, false, true⟩, rB [vI 0, vI 0, vI 0, .slice none 0 0] 29, some ⟨a3s (mk3 1 L.length), 25, false, true⟩, rB [vN X, vN Y, vN Z, vS 4 L.length] 29, rB [vI 0, vI 0, vI 0, .slice none 0 0] 29, some ⟨a3s L, 25, false, true⟩]) (by kernel_rfl) ?_
    refine kSeq ?_
    refine cSeq ?_
    refine cSeq ?_
    refine cReg ?_
    refine segH 3 (T1 := (mkT 111 [(1, vI k), (2, vI l), (3, vI m), (4, vP 1 0), (10, vP 3 0), (11, .bool false), (13, vP 6 0), (14, .bool false), (15, vN (1 + 3 * L.length)), (61, vN (1 + 3 * L.length)), (62, .bool (decide (((1 + 3 * L.length : Nat) : Int) < 0))), (63, .bool (decide (((1 + 3 * L.length : Nat) : Int) < 0)))])) (by kernel_rfl) ?_
    cases h2 : (decide (((1 + 3 * L.length : Nat) : Int) < 0) : Bool)
    ·
      (try simp only [Bool.not_eq_true', Bool.not_eq_false', decide_eq_true_eq, decide_eq_false_iff_not, beq_iff_eq, bne_iff_ne, beq_eq_false_iff_ne, bne_eq_false_iff_eq, ne_eq, Decidable.not_not, Bool.and_eq_true, Bool.and_eq_false_imp, Bool.or_eq_true, Bool.or_eq_false_iff, Bool.not_eq_true, Int.not_lt, Int.not_le, ge_iff_le, gt_iff_lt] at h2)
      refine seg 2 (T1 := (mkT 111 [(1, vI k), (2, vI l), (3, vI m), (4, vP 1 0), (10, vP 3 0), (11, .bool false), (13, vP 6 0), (14, .bool false), (15, vN (1 + 3 * L.length)), (61, vN (1 + 3 * L.length)), (62, .bool false), (63, .bool false), (64, .agg #[vI 0, vI 0, vI 0, .slice none 0 0]), (65, .agg #[vI 0, vI 0, vI 0, .slice none 0 0])])) (H1 := [some ⟨a3s L, 25, false, false⟩, rB [vN X, vN Y, vN Z, vS 0 L.length] 24, some ⟨a3s L, 25, false, true⟩, rB [vI 0, vI 0, vI 0, .slice none 0 0] 29, some ⟨a3s (mk3 1 L.length), 25, false, true⟩, rB [vN X, vN Y, vN Z, vS 4 L.length] 29, rB [vI 0, vI 0, vI 0, .slice none 0 0] 29, some ⟨a3s L, 25, false, true⟩]) (by kernel_rfl) ?_
      refine rCall (v := .bool true) (args := [.agg #[vI 0, vI 0, vI 0, .slice none 0 0], .agg #[vI 0, vI 0, vI 0, .slice none 0 0]]) (by kernel_rfl) rfl (by kernel_rfl) (Sound.lay0 [] (eqHeapN) trivial rfl trivial rfl (by first | rfl | simp [mpV, mpA, mpS, mpP, renId, shift]) rfl) ?_
      refine segEnd [1, 2, 3, 4, 10, 11, 13, 73] (T1 := (mkT 111 [(1, vI k), (2, vI l), (3, vI m), (4, vP 1 0), (10, vP 3 0), (11, .bool false), (13, vP 6 0), (73, .bool false)])) (H1 := [some ⟨a3s L, 25, false, false⟩, rB [vN X, vN Y, vN Z, vS 0 L.length] 24, some ⟨a3s L, 25, false, true⟩, rB [vI 0, vI 0, vI 0, .slice none 0 0] 29, some ⟨a3s (mk3 1 L.length), 25, false, true⟩, rB [vN X, vN Y, vN Z, vS 4 L.length] 29, rB [vI 0, vI 0, vI 0, .slice none 0 0] 29, some ⟨a3s L, 25, false, true⟩]) (by kernel_rfl) ?_
      refine kSeq ?_
      refine cFalse (by kernel_rfl) ?_
      refine cSkip ?_
      refine kSeq ?_
      refine cSeq ?_
      refine cReg ?_
      refine segEndH [1, 2, 3, 4, 10, 11, 13, 16] (T1 := (mkT 111 [(1, vI k), (2, vI l), (3, vI m), (4, vP 1 0), (10, vP 3 0), (11, .bool false), (13, vP 6 0), (16, vI 1)])) (by kernel_rfl) ?_
      refine kSeq ?_
      refine cSeq ?_
      refine cReg ?_
      refine segH 2 (T1 := (mkT 111 [(1, vI k), (2, vI l), (3, vI m), (4, vP 1 0), (10, vP 3 0), (11, .bool false), (13, vP 6 0), (16, vI 1), (74, .agg #[vI 0, vI 0, vI 0, .slice none 0 0]), (75, vI 1)])) (by kernel_rfl) ?_
      refine rCall (v := vI 1) (args := [.agg #[vI 0, vI 0, vI 0, .slice none 0 0], vI 1]) (by kernel_rfl) rfl (by kernel_rfl) (Sound.lay0 [] (markHeapN 1) trivial rfl trivial rfl (by first | rfl | simp [mpV, mpA, mpS, mpP, renId, shift]) rfl) ?_
      refine segEndH [1, 2, 3, 4, 10, 11, 13, 16] (T1 := (mkT 111 [(1, vI k), (2, vI l), (3, vI m), (4, vP 1 0), (10, vP 3 0), (11, .bool false), (13, vP 6 0), (16, vI 1)])) (by kernel_rfl) ?_
      refine kSeq ?_
      refine cSeq ?_
      refine cReg ?_
      refine segEndH [1, 2, 3, 4, 10, 11, 13, 16, 17] (T1 := (mkT 111 [(1, vI k), (2, vI l), (3, vI m), (4, vP 1 0), (10, vP 3 0), (11, .bool false), (13, vP 6 0), (16, vI 1), (17, vI 1)])) (by kernel_rfl) ?_
      refine kSeq ?_
      refine cSeq ?_
      refine cReg ?_
      refine segH 2 (T1 := (mkT 111 [(1, vI k), (2, vI l), (3, vI m), (4, vP 1 0), (10, vP 3 0), (11, .bool false), (13, vP 6 0), (16, vI 1), (17, vI 1), (77, .agg #[vI 0, vI 0, vI 0, .slice none 0 0]), (78, vI 1)])) (by kernel_rfl) ?_
      refine rCall (v := vI 1) (args := [.agg #[vI 0, vI 0, vI 0, .slice none 0 0], vI 1]) (by kernel_rfl) rfl (by kernel_rfl) (Sound.lay0 [] (heldHeapN) trivial rfl trivial rfl (by first | rfl | simp [mpV, mpA, mpS, mpP, renId, shift]) rfl) ?_
      refine segEndH [1, 2, 3, 4, 10, 11, 13, 16, 17] (T1 := (mkT 111 [(1, vI k), (2, vI l), (3, vI m), (4, vP 1 0), (10, vP 3 0), (11, .bool false), (13, vP 6 0), (16, vI 1), (17, vI 1)])) (by kernel_rfl) ?_
      refine kSeq ?_
      refine cSeq ?_
      refine cSeq ?_
      refine cReg ?_
      refine segEndH [1, 2, 3, 4, 10, 11, 13, 16, 17, 81] (T1 := (mkT 111 [(1, vI k), (2, vI l), (3, vI m), (4, vP 1 0), (10, vP 3 0), (11, .bool false), (13, vP 6 0), (16, vI 1), (17, vI 1), (81, .bool false)])) (by kernel_rfl) ?_
      refine kSeq ?_
      refine cFalse (by kernel_rfl) ?_
      refine cSkip ?_
      refine kSeq ?_
      refine cSeq ?_
      refine cSeq ?_
      refine cReg ?_
      refine segEndH [1, 2, 3, 4, 10, 11, 13, 16, 84] (T1 := (mkT 111 [(1, vI k), (2, vI l), (3, vI m), (4, vP 1 0), (10, vP 3 0), (11, .bool false), (13, vP 6 0), (16, vI 1), (84, .bool false)])) (by kernel_rfl) ?_
      refine kSeq ?_
      refine cFalse (by kernel_rfl) ?_
      refine cSkip ?_
      refine kSeq ?_
      refine cSeq ?_
      refine cReg ?_
      refine segH 1 (T1 := (mkT 111 [(1, vI k), (2, vI l), (3, vI m), (4, vP 1 0), (10, vP 3 0), (11, .bool false), (13, vP 6 0), (16, vI 1), (84, .bool false), (86, .agg #[vN X, vN Y, vN Z, vS 0 L.length])])) (by kernel_rfl) ?_
      refine rCall (v := .agg #[vN X, vN Y, vN Z, vS 8 L.length]) (args := [.agg #[vN X, vN Y, vN Z, vS 0 L.length]]) (by kernel_rfl) rfl (by kernel_rfl) (Sound.lay (E := [some ⟨a3s L, 25, false, true⟩]) [0] (toHeapB ((X : Nat) : Int) ((Y : Nat) : Int) ((Z : Nat) : Int) L (by first | omega | assumption | (simp; done))) ⟨rdF false (flatA3 _ _ _ _) rfl rfl, trivial⟩ rfl ⟨clF (flatA3 _ _ _ _), trivial⟩ rfl (by first | rfl | simp [mpV, mpA, mpS, mpP, renId, shift]) (by first | rfl | simp [mpV, mpA, mpS, mpP, renId, shift]) ⟨enF (flatA3 _ _ _ _) (Or.inl rfl), trivial⟩) ?_
      refine seg 3 (T1 := (mkT 111 [(1, vI k), (2, vI l), (3, vI m), (4, vP 1 0), (10, vP 3 0), (11, .bool false), (13, vP 6 0), (16, vI 1), (84, .bool false), (86, .agg #[vN X, vN Y, vN Z, vS 0 L.length]), (87, .agg #[vN X, vN Y, vN Z, vS 8 L.length]), (88, vI k), (89, vI l), (90, vI m)])) (H1 := [some ⟨a3s L, 25, false, false⟩, rB [vN X, vN Y, vN Z, vS 0 L.length] 24, some ⟨a3s L, 25, false, true⟩, rB [vI 0, vI 0, vI 0, .slice none 0 0] 29, some ⟨a3s (mk3 1 L.length), 25, false, true⟩, rB [vN X, vN Y, vN Z, vS 4 L.length] 29, rB [vI 0, vI 0, vI 0, .slice none 0 0] 29, some ⟨a3s L, 25, false, true⟩, some ⟨a3s L, 25, false, true⟩]) (by kernel_rfl) ?_
      refine rCall (v := .tuple #[.agg #[vI 0, vI 0, vI 0, .slice none 0 0], .bool false]) (args := [.agg #[vN X, vN Y, vN Z, vS 8 L.length], vI k, vI l, vI m]) (by kernel_rfl) rfl (by kernel_rfl) (Sound.lay0 [8] (implWidenHeap_no2 X Y Z L k l m (by first | assumption | omega | rfl | decide | exact HeapL.list _ _ _ _ | exact HeapL.nil _ _ _ | exact HeapL.all _ _ _ | (apply HeapL.lt64 <;> assumption) | (repeat' (first | assumption | apply or_lt64 | apply and_lt64 | apply andn_lt64 | apply pow_lt64 | (apply HeapL.lt64 <;> assumption)))) (by first | assumption | omega | rfl | decide | exact HeapL.list _ _ _ _ | exact HeapL.nil _ _ _ | exact HeapL.all _ _ _ | (apply HeapL.lt64 <;> assumption) | (repeat' (first | assumption | apply or_lt64 | apply and_lt64 | apply andn_lt64 | apply pow_lt64 | (apply HeapL.lt64 <;> assumption)))) (by first | assumption | omega | rfl | decide | exact HeapL.list _ _ _ _ | exact HeapL.nil _ _ _ | exact HeapL.all _ _ _ | (apply HeapL.lt64 <;> assumption) | (repeat' (first | assumption | apply or_lt64 | apply and_lt64 | apply andn_lt64 | apply pow_lt64 | (apply HeapL.lt64 <;> assumption))))) ⟨rdF true (flatA3 _ _ _ _) rfl rfl, trivial⟩ rfl ⟨clF (flatA3 _ _ _ _), trivial⟩ rfl (by first | rfl | simp [mpV, mpA, mpS, mpP, renId, shift]) (by first | rfl | simp [mpV, mpA, mpS, mpP, renId, shift])) ?_
      refine segEnd [10, 11, 13, 16, 18, 19] (T1 := (mkT 111 [(10, vP 3 0), (11, .bool false), (13, vP 6 0), (16, vI 1), (18, vP 9 0), (19, .bool false)])) (H1 := [some ⟨a3s L, 25, false, false⟩, rB [vN X, vN Y, vN Z, vS 0 L.length] 24, some ⟨a3s L, 25, false, true⟩, rB [vI 0, vI 0, vI 0, .slice none 0 0] 29, some ⟨a3s (mk3 1 L.length), 25, false, true⟩, rB [vN X, vN Y, vN Z, vS 4 L.length] 29, rB [vI 0, vI 0, vI 0, .slice none 0 0] 29, some ⟨a3s L, 25, false, true⟩, some ⟨a3s L, 25, false, true⟩, rB [vI 0, vI 0, vI 0, .slice none 0 0] 29]) (by kernel_rfl) ?_
      refine kSeq ?_
      refine cSeq ?_
      refine cSeq ?_
      refine cReg ?_
      refine segH 2 (T1 := (mkT 111 [(10, vP 3 0), (11, .bool false), (13, vP 6 0), (16, vI 1), (18, vP 9 0), (19, .bool false), (94, .agg #[vI 0, vI 0, vI 0, .slice none 0 0]), (95, .agg #[vI 0, vI 0, vI 0, .slice none 0 0])])) (by kernel_rfl) ?_
      refine rCall (v := .bool true) (args := [.agg #[vI 0, vI 0, vI 0, .slice none 0 0], .agg #[vI 0, vI 0, vI 0, .slice none 0 0]]) (by kernel_rfl) rfl (by kernel_rfl) (Sound.lay0 [] (eqHeapN) trivial rfl trivial rfl (by first | rfl | simp [mpV, mpA, mpS, mpP, renId, shift]) rfl) ?_
      refine segEndH [13, 16, 102] (T1 := (mkT 111 [(13, vP 6 0), (16, vI 1), (102, .bool false)])) (by kernel_rfl) ?_
      refine kSeq ?_
      refine cFalse (by kernel_rfl) ?_
      refine cSkip ?_
      refine kSeq ?_
      refine cSeq ?_
      refine cReg ?_
      refine segEndH [13, 16, 17] (T1 := (mkT 111 [(13, vP 6 0), (16, vI 1), (17, vI 1)])) (by kernel_rfl) ?_
      refine kSeq ?_
      refine cSeq ?_
      refine cReg ?_
      refine segH 2 (T1 := (mkT 111 [(13, vP 6 0), (16, vI 1), (17, vI 1), (103, .agg #[vI 0, vI 0, vI 0, .slice none 0 0]), (104, vI 1)])) (by kernel_rfl) ?_
      refine rCall (v := vI 1) (args := [.agg #[vI 0, vI 0, vI 0, .slice none 0 0], vI 1]) (by kernel_rfl) rfl (by kernel_rfl) (Sound.lay0 [] (heldHeapN) trivial rfl trivial rfl (by first | rfl | simp [mpV, mpA, mpS, mpP, renId, shift]) rfl) ?_
      refine segEndH [16, 17] (T1 := (mkT 111 [(16, vI 1), (17, vI 1)])) (by kernel_rfl) ?_
      refine kSeq ?_
      refine cSeq ?_
      refine cSeq ?_
      refine cReg ?_
      refine segEndH [16, 17, 107] (T1 := (mkT 111 [(16, vI 1), (17, vI 1), (107, .bool false)])) (by kernel_rfl) ?_
      refine kSeq ?_
      refine cFalse (by kernel_rfl) ?_
      refine cSkip ?_
      refine kSeq ?_
      refine cSeq ?_
      refine cSeq ?_
      refine cReg ?_
      refine segEndH [110] (T1 := (mkT 111 [(110, .bool false)])) (by kernel_rfl) ?_
      refine kSeq ?_
      refine cFalse (by kernel_rfl) ?_
      refine cSkip ?_
      refine kSeq ?_
      refine cSeq ?_
      refine cReg ?_
      refine segEndH [8] (T1 := (mkT 111 [(8, .bool true)])) (by kernel_rfl) ?_
      refine kSeq ?_
      refine cRet ?_
      -- end
      exact endQ (Or.inr rfl) (l := [.bool true]) [rB [vN X, vN Y, vN Z, vS 0 L.length] 24, some ⟨a3s L, 25, false, true⟩, rB [vI 0, vI 0, vI 0, .slice none 0 0] 29, some ⟨a3s (mk3 1 L.length), 25, false, true⟩, rB [vN X, vN Y, vN Z, vS 4 L.length] 29, rB [vI 0, vI 0, vI 0, .slice none 0 0] 29, some ⟨a3s L, 25, false, true⟩, some ⟨a3s L, 25, false, true⟩, rB [vI 0, vI 0, vI 0, .slice none 0 0] 29] (by kernel_rfl) (by first | rfl | kernel_rfl) rfl rfl hcl rfl
    ·
      (try simp only [Bool.not_eq_true', Bool.not_eq_false', decide_eq_true_eq, decide_eq_false_iff_not, beq_iff_eq, bne_iff_ne, beq_eq_false_iff_ne, bne_eq_false_iff_eq, ne_eq, Decidable.not_not, Bool.and_eq_true, Bool.and_eq_false_imp, Bool.or_eq_true, Bool.or_eq_false_iff, Bool.not_eq_true, Int.not_lt, Int.not_le, ge_iff_le, gt_iff_lt] at h2)
      exfalso; omega
  ·
    (try simp only [Bool.not_eq_true', Bool.not_eq_false', decide_eq_true_eq, decide_eq_false_iff_not, beq_iff_eq, bne_iff_ne, beq_eq_false_iff_ne, bne_eq_false_iff_eq, ne_eq, Decidable.not_not, Bool.and_eq_true, Bool.and_eq_false_imp, Bool.or_eq_true, Bool.or_eq_false_iff, Bool.not_eq_true, Int.not_lt, Int.not_le, ge_iff_le, gt_iff_lt] at h1)
    exfalso; omega

set_option maxRecDepth 100000 in
set_option maxHeartbeats 4000000 in
theorem lawWidenHeap_no2_n (X : Nat) (Y : Nat) (Z : Nat) (k : Int) (l : Int) (m : Int) (hs : Sides X Y Z) (hv2 : valid3 k l m = false) : Sound Try.prog 12 [.agg #[vN X, vN Y, vN Z, .slice none 0 0], vI k, vI l, vI m] [] (.bool true) [] := by
  refine sound_intro (C := cx) Try.func12 rfl (by kernel_rfl) fun hcl => ?_
  have hz := hs.size
  have hx0 := hs.x0
  have hx4 := hs.x4
  have hy0 := hs.y0
  have hy4 := hs.y4
  have hz0 := hs.z0
  have hz4 := hs.z4
  have hlen : ([] : List A3).length ≤ 64 := by first | (have := hL.len; have := hs.size; omega) | simp
  refine cSeq ?_
  refine cReg ?_
  refine segEnd [1, 2, 3, 4] (T1 := (mkT 111 [(1, vI k), (2, vI l), (3, vI m), (4, vP 0 0)])) (H1 := [rB [vN X, vN Y, vN Z, .slice none 0 0] 24]) (by kernel_rfl) ?_
  refine kSeq ?_
  refine cSeq ?_
  refine cReg ?_
  refine segEndH [1, 2, 3, 4, 9] (T1 := (mkT 111 [(1, vI k), (2, vI l), (3, vI m), (4, vP 0 0), (9, vI 1048576)])) (by kernel_rfl) ?_
  refine kSeq ?_
  refine cSeq ?_
  refine cReg ?_
  refine segH 2 (T1 := (mkT 111 [(1, vI k), (2, vI l), (3, vI m), (4, vP 0 0), (9, vI 1048576), (20, .agg #[vN X, vN Y, vN Z, .slice none 0 0]), (21, vI 1048576)])) (by kernel_rfl) ?_
  refine rCall (v := vI 1048576) (args := [.agg #[vN X, vN Y, vN Z, .slice none 0 0], vI 1048576]) (by kernel_rfl) rfl (by kernel_rfl) (Sound.lay0 [] (szHeapN ((X : Nat) : Int) ((Y : Nat) : Int) ((Z : Nat) : Int) 1048576 (by first | omega | assumption | decide)) trivial rfl trivial rfl (by first | rfl | simp [mpV, mpA, mpS, mpP, renId, shift]) rfl) ?_
  refine segEndH [1, 2, 3, 4, 9] (T1 := (mkT 111 [(1, vI k), (2, vI l), (3, vI m), (4, vP 0 0), (9, vI 1048576)])) (by kernel_rfl) ?_
  refine kSeq ?_
  refine cSeq ?_
  refine cSeq ?_
  refine cReg ?_
  refine segEndH [1, 2, 3, 4, 24] (T1 := (mkT 111 [(1, vI k), (2, vI l), (3, vI m), (4, vP 0 0), (24, .bool false)])) (by kernel_rfl) ?_
  refine kSeq ?_
  refine cFalse (by kernel_rfl) ?_
  refine cSkip ?_
  refine kSeq ?_
  refine cSeq ?_
  refine cReg ?_
  refine segH 1 (T1 := (mkT 111 [(1, vI k), (2, vI l), (3, vI m), (4, vP 0 0), (24, .bool false), (26, .agg #[vN X, vN Y, vN Z, .slice none 0 0])])) (by kernel_rfl) ?_
  refine rCall (v := .agg #[vN X, vN Y, vN Z, vS 1 0]) (args := [.agg #[vN X, vN Y, vN Z, .slice none 0 0]]) (by kernel_rfl) rfl (by kernel_rfl) (Sound.lay (E := [some ⟨[], 25, false, true⟩]) [] (toHeapN ((X : Nat) : Int) ((Y : Nat) : Int) ((Z : Nat) : Int)) trivial rfl trivial rfl (by first | rfl | simp [mpV, mpA, mpS, mpP, renId, shift]) (by first | rfl | simp [mpV, mpA, mpS, mpP, renId, shift]) ⟨enX rfl (Or.inl rfl), trivial⟩) ?_
  refine seg 3 (T1 := (mkT 111 [(1, vI k), (2, vI l), (3, vI m), (4, vP 0 0), (24, .bool false), (26, .agg #[vN X, vN Y, vN Z, .slice none 0 0]), (27, .agg #[vN X, vN Y, vN Z, vS 1 0]), (28, vI k), (29, vI l), (30, vI m)])) (H1 := [rB [vN X, vN Y, vN Z, .slice none 0 0] 24, some ⟨[], 25, false, true⟩]) (by kernel_rfl) ?_
  refine rCall (v := .tuple #[.agg #[vI 0, vI 0, vI 0, .slice none 0 0], .bool false]) (args := [.agg #[vN X, vN Y, vN Z, vS 1 0], vI k, vI l, vI m]) (by kernel_rfl) rfl (by kernel_rfl) (Sound.lay0 [1] (specWidenHeap_no2 X Y Z ([] : List A3) k l m (by first | assumption | omega | rfl | decide | exact HeapL.list _ _ _ _ | exact HeapL.nil _ _ _ | exact HeapL.all _ _ _ | (apply HeapL.lt64 <;> assumption) | (repeat' (first | assumption | apply or_lt64 | apply and_lt64 | apply andn_lt64 | apply pow_lt64 | (apply HeapL.lt64 <;> assumption)))) (by first | assumption | omega | rfl | decide | exact HeapL.list _ _ _ _ | exact HeapL.nil _ _ _ | exact HeapL.all _ _ _ | (apply HeapL.lt64 <;> assumption) | (repeat' (first | assumption | apply or_lt64 | apply and_lt64 | apply andn_lt64 | apply pow_lt64 | (apply HeapL.lt64 <;> assumption)))) (by first | assumption | omega | rfl | decide | exact HeapL.list _ _ _ _ | exact HeapL.nil _ _ _ | exact HeapL.all _ _ _ | (apply HeapL.lt64 <;> assumption) | (repeat' (first | assumption | apply or_lt64 | apply and_lt64 | apply andn_lt64 | apply pow_lt64 | (apply HeapL.lt64 <;> assumption))))) ⟨rdF true (flatA3 _ _ _ _) rfl rfl, trivial⟩ rfl ⟨clF (flatA3 _ _ _ _), trivial⟩ rfl (by first | rfl | simp [mpV, mpA, mpS, mpP, renId, shift]) (by first | rfl | simp [mpV, mpA, mpS, mpP, renId, shift])) ?_
  refine segEnd [1, 2, 3, 4, 10, 11] (T1 := (mkT 111 [(1, vI k), (2, vI l), (3, vI m), (4, vP 0 0), (10, vP 2 0), (11, .bool false)])) (H1 := [rB [vN X, vN Y, vN Z, .slice none 0 0] 24, some ⟨[], 25, false, true⟩, rB [vI 0, vI 0, vI 0, .slice none 0 0] 29]) (by kernel_rfl) ?_
  refine kSeq ?_
  refine cSeq ?_
  refine cReg ?_
  refine segH 1 (T1 := (mkT 111 [(1, vI k), (2, vI l), (3, vI m), (4, vP 0 0), (10, vP 2 0), (11, .bool false), (34, .agg #[vN X, vN Y, vN Z, .slice none 0 0])])) (by kernel_rfl) ?_
  refine rCall (v := .agg #[vN X, vN Y, vN Z, vS 3 0]) (args := [.agg #[vN X, vN Y, vN Z, .slice none 0 0]]) (by kernel_rfl) rfl (by kernel_rfl) (Sound.lay (E := [some ⟨[], 25, false, true⟩]) [] (toHeapN ((X : Nat) : Int) ((Y : Nat) : Int) ((Z : Nat) : Int)) trivial rfl trivial rfl (by first | rfl | simp [mpV, mpA, mpS, mpP, renId, shift]) (by first | rfl | simp [mpV, mpA, mpS, mpP, renId, shift]) ⟨enX rfl (Or.inl rfl), trivial⟩) ?_
  refine segEnd [1, 2, 3, 4, 10, 11, 12] (T1 := (mkT 111 [(1, vI k), (2, vI l), (3, vI m), (4, vP 0 0), (10, vP 2 0), (11, .bool false), (12, vP 4 0)])) (H1 := [rB [vN X, vN Y, vN Z, .slice none 0 0] 24, some ⟨[], 25, false, true⟩, rB [vI 0, vI 0, vI 0, .slice none 0 0] 29, some ⟨[], 25, false, true⟩, rB [vN X, vN Y, vN Z, vS 3 0] 29]) (by kernel_rfl) ?_
  refine kSeq ?_
  refine cSeq ?_
  refine cReg ?_
  refine segH 4 (T1 := (mkT 111 [(1, vI k), (2, vI l), (3, vI m), (4, vP 0 0), (10, vP 2 0), (11, .bool false), (12, vP 4 0), (37, .agg #[vN X, vN Y, vN Z, vS 3 0]), (38, vI k), (39, vI l), (40, vI m)])) (by kernel_rfl) ?_
  refine rCall (v := .tuple #[.agg #[vI 0, vI 0, vI 0, .slice none 0 0], .bool false]) (args := [.agg #[vN X, vN Y, vN Z, vS 3 0], vI k, vI l, vI m]) (by kernel_rfl) rfl (by kernel_rfl) (Sound.lay0 [3] (implWidenHeap_no2 X Y Z ([] : List A3) k l m (by first | assumption | omega | rfl | decide | exact HeapL.list _ _ _ _ | exact HeapL.nil _ _ _ | exact HeapL.all _ _ _ | (apply HeapL.lt64 <;> assumption) | (repeat' (first | assumption | apply or_lt64 | apply and_lt64 | apply andn_lt64 | apply pow_lt64 | (apply HeapL.lt64 <;> assumption)))) (by first | assumption | omega | rfl | decide | exact HeapL.list _ _ _ _ | exact HeapL.nil _ _ _ | exact HeapL.all _ _ _ | (apply HeapL.lt64 <;> assumption) | (repeat' (first | assumption | apply or_lt64 | apply and_lt64 | apply andn_lt64 | apply pow_lt64 | (apply HeapL.lt64 <;> assumption)))) (by first | assumption | omega | rfl | decide | exact HeapL.list _ _ _ _ | exact HeapL.nil _ _ _ | exact HeapL.all _ _ _ | (apply HeapL.lt64 <;> assumption) | (repeat' (first | assumption | apply or_lt64 | apply and_lt64 | apply andn_lt64 | apply pow_lt64 | (apply HeapL.lt64 <;> assumption))))) ⟨rdF true (flatA3 _ _ _ _) rfl rfl, trivial⟩ rfl ⟨clF (flatA3 _ _ _ _), trivial⟩ rfl (by first | rfl | simp [mpV, mpA, mpS, mpP, renId, shift]) (by first | rfl | simp [mpV, mpA, mpS, mpP, renId, shift])) ?_
  refine segEnd [1, 2, 3, 4, 10, 11, 12, 13, 14] (T1 := (mkT 111 [(1, vI k), (2, vI l), (3, vI m), (4, vP 0 0), (10, vP 2 0), (11, .bool false), (12, vP 4 0), (13, vP 5 0), (14, .bool false)])) (H1 := [rB [vN X, vN Y, vN Z, .slice none 0 0] 24, some ⟨[], 25, false, true⟩, rB [vI 0, vI 0, vI 0, .slice none 0 0] 29, some ⟨[], 25, false, true⟩, rB [vN X, vN Y, vN Z, vS 3 0] 29, rB [vI 0, vI 0, vI 0, .slice none 0 0] 29]) (by kernel_rfl) ?_
  refine kSeq ?_
  refine cSeq ?_
  refine cSeq ?_
  refine cReg ?_
  refine segH 2 (T1 := (mkT 111 [(1, vI k), (2, vI l), (3, vI m), (4, vP 0 0), (10, vP 2 0), (11, .bool false), (12, vP 4 0), (13, vP 5 0), (14, .bool false), (44, .agg #[vI 0, vI 0, vI 0, .slice none 0 0]), (45, .agg #[vI 0, vI 0, vI 0, .slice none 0 0])])) (by kernel_rfl) ?_
  refine rCall (v := .bool true) (args := [.agg #[vI 0, vI 0, vI 0, .slice none 0 0], .agg #[vI 0, vI 0, vI 0, .slice none 0 0]]) (by kernel_rfl) rfl (by kernel_rfl) (Sound.lay0 [] (eqHeapN) trivial rfl trivial rfl (by first | rfl | simp [mpV, mpA, mpS, mpP, renId, shift]) rfl) ?_
  refine segEndH [1, 2, 3, 4, 10, 11, 12, 13, 14, 52] (T1 := (mkT 111 [(1, vI k), (2, vI l), (3, vI m), (4, vP 0 0), (10, vP 2 0), (11, .bool false), (12, vP 4 0), (13, vP 5 0), (14, .bool false), (52, .bool false)])) (by kernel_rfl) ?_
  refine kSeq ?_
  refine cFalse (by kernel_rfl) ?_
  refine cSkip ?_
  refine kSeq ?_
  refine cSeq ?_
  refine cSeq ?_
  refine cRegW (N := 7) [⟨[], [], [4]⟩, ⟨[], [], [0]⟩, ⟨[6], [], []⟩, ⟨[], [], [3, 6]⟩, ⟨[], [], []⟩] 1 [6] (by rfl) (by rfl) (by kernel_rfl) (by kernel_rfl) (by kernel_rfl) ⟨nmsX (by kernel_rfl), ⟨nmsX (by kernel_rfl), ⟨nmsX (by kernel_rfl), ⟨nmsX (by kernel_rfl), ⟨nmsX (by kernel_rfl), ⟨nmsX (by kernel_rfl), trivial⟩⟩⟩⟩⟩⟩ ?_
  refine segWH 2 (T1 := (mkT 111 [(1, vI k), (2, vI l), (3, vI m), (4, vP 0 0), (10, vP 2 0), (11, .bool false), (12, vP 4 0), (13, vP 5 0), (14, .bool false), (52, .bool false), (53, .agg #[vN X, vN Y, vN Z, vS 3 0]), (54, .agg #[vN X, vN Y, vN Z, .slice none 0 0])])) (by kernel_rfl) ?_
  refine rW (m := ⟨[6], [], []⟩) (v := .agg #[vN X, vN Y, vN Z, vS 6 0]) rfl (by kernel_rfl) (stN (i := 6) (E := [some ⟨[], 25, false, true⟩]) (v1 := .agg #[vN X, vN Y, vN Z, vS 7 0]) (args := [.agg #[vN X, vN Y, vN Z, .slice none 0 0]]) rfl (by kernel_rfl) (Any.lay (E := [some ⟨[], 25, false, true⟩]) (N := 7) [] (toHeapN ((X : Nat) : Int) ((Y : Nat) : Int) ((Z : Nat) : Int)) trivial rfl trivial rfl (by first | rfl | simp [mpV, mpA, mpS, mpP, renId, shift]) (by first | rfl | simp [mpV, mpA, mpS, mpP, renId, shift]) ⟨enX rfl (Or.inl rfl), trivial⟩) rfl (by kernel_rfl) (by kernel_rfl) (by kernel_rfl) (by kernel_rfl) (FlatH.cons (flatRow_of rfl) FlatH.nil)) (by kernel_rfl) (NRs.all ⟨nrOf (by rfl) (nmX (by kernel_rfl)), trivial⟩) ?_
  refine rW (m := ⟨[], [], [3, 6]⟩) (v := .bool true) rfl (by kernel_rfl) (stQ (args := [.agg #[vN X, vN Y, vN Z, vS 3 0], .agg #[vN X, vN Y, vN Z, vS 6 0]]) rfl (by kernel_rfl) (Any.lay0 [3, 6] (eqHeapB ((X : Nat) : Int) ((Y : Nat) : Int) ((Z : Nat) : Int) ([] : List A3) (by first | omega | assumption | (simp; done))) ⟨rdF true (flatA3 _ _ _ _) rfl rfl, ⟨rdF true (flatA3 _ _ _ _) rfl rfl, trivial⟩⟩ rfl ⟨clF (flatA3 _ _ _ _), ⟨clF (flatA3 _ _ _ _), trivial⟩⟩ rfl (by first | rfl | simp [mpV, mpA, mpS, mpP, renId, shift]) rfl) rfl (by kernel_rfl) (by kernel_rfl)) (by kernel_rfl) nr0 ?_
  refine segEndW [1, 2, 3, 4, 10, 11, 12, 13, 14, 57] (T1 := (mkT 111 [(1, vI k), (2, vI l), (3, vI m), (4, vP 0 0), (10, vP 2 0), (11, .bool false), (12, vP 4 0), (13, vP 5 0), (14, .bool false), (57, .bool false)])) (H1 := [rB [vN X, vN Y, vN Z, .slice none 0 0] 24, some ⟨[], 25, false, true⟩, rB [vI 0, vI 0, vI 0, .slice none 0 0] 29, some ⟨[], 25, false, true⟩, rB [vN X, vN Y, vN Z, vS 3 0] 29, rB [vI 0, vI 0, vI 0, .slice none 0 0] 29, some ⟨[], 25, false, true⟩]) (by kernel_rfl) ?_
  refine kSeq ?_
  refine cFalse (by kernel_rfl) ?_
  refine cSkip ?_
  refine kSeq ?_
  refine cSeq ?_
  refine cReg ?_
  refine segEndH [1, 2, 3, 4, 10, 11, 12, 13, 14, 15] (T1 := (mkT 111 [(1, vI k), (2, vI l), (3, vI m), (4, vP 0 0), (10, vP 2 0), (11, .bool false), (12, vP 4 0), (13, vP 5 0), (14, .bool false), (15, vI 1)])) (by kernel_rfl) ?_
  refine kSeq ?_
  refine cSeq ?_
  refine cReg ?_
  refine segH 2 (T1 := (mkT 111 [(1, vI k), (2, vI l), (3, vI m), (4, vP 0 0), (10, vP 2 0), (11, .bool false), (12, vP 4 0), (13, vP 5 0), (14, .bool false), (15, vI 1), (58, .agg #[vN X, vN Y, vN Z, vS 3 0]), (59, vI 1)])) (by kernel_rfl) ?_
  refine rCall (v := vN (1 + 3 * ([] : List A3).length)) (args := [.agg #[vN X, vN Y, vN Z, vS 3 0], vI 1]) (by kernel_rfl) rfl (by kernel_rfl) (Sound.emb_set (r := ⟨a3s ([] : List A3), 25, false, true⟩) (r' := ⟨a3s (mk3 1 ([] : List A3).length), 25, false, true⟩) 3 (markHeapB ((X : Nat) : Int) ((Y : Nat) : Int) ((Z : Nat) : Int) ([] : List A3) 1 (by first | omega | assumption | (simp; done)) (by first | assumption | omega | rfl | decide | exact HeapL.list _ _ _ _ | exact HeapL.nil _ _ _ | exact HeapL.all _ _ _ | (apply HeapL.lt64 <;> assumption) | (repeat' (first | assumption | apply or_lt64 | apply and_lt64 | apply andn_lt64 | apply pow_lt64 | (apply HeapL.lt64 <;> assumption))))) (flatA3 _ _ _ _) rfl (flatA3 _ _ _ _) rfl rfl rfl (by first | rfl | simp [mpV, mpA, mpS, mpP, renId, shift]) rfl) ?_
  refine segEnd [1, 2, 3, 4, 10, 11, 13, 14, 15] (T1 := (mkT 111 [(1, vI k), (2, vI l), (3, vI m), (4, vP 0 0), (10, vP 2 0), (11, .bool false), (13, vP 5 0), (14, .bool false), (15, vN (1 + 3 * ([] : List A3).length))])) (H1 := [rB [vN X, vN Y, vN Z, .slice none 0 0] 24, some ⟨[], 25, false, true⟩, rB [vI 0, vI 0, vI 0, .slice none 0 0] 29, some ⟨a3s (mk3 1 ([] : List A3).length), 25, false, true⟩, rB [vN X, vN Y, vN Z, vS 3 0] 29, rB [vI 0, vI 0, vI 0, .slice none 0 0] 29, some ⟨[], 25, false, true⟩]) (by kernel_rfl) ?_
  refine kSeq ?_
  refine cSeq ?_
  refine cSeq ?_
  refine cReg ?_
  refine segH 3 (T1 := (mkT 111 [(1, vI k), (2, vI l), (3, vI m), (4, vP 0 0), (10, vP 2 0), (11, .bool false), (13, vP 5 0), (14, .bool false), (15, vN (1 + 3 * ([] : List A3).length)), (61, vN (1 + 3 * ([] : List A3).length)), (62, .bool (decide (((1 + 3 * ([] : List A3).length : Nat) : Int) < 0))), (63, .bool (decide (((1 + 3 * ([] : List A3).length : Nat) : Int) < 0)))])) (by kernel_rfl) ?_
  cases h1 : (decide (((1 + 3 * ([] : List A3).length : Nat) : Int) < 0) : Bool)
  ·
    (try simp only [Bool.not_eq_true', Bool.not_eq_false', decide_eq_true_eq, decide_eq_false_iff_not, beq_iff_eq, bne_iff_ne, beq_eq_false_iff_ne, bne_eq_false_iff_eq, ne_eq, Decidable.not_not, Bool.and_eq_true, Bool.and_eq_false_imp, Bool.or_eq_true, Bool.or_eq_false_iff, Bool.not_eq_true, Int.not_lt, Int.not_le, ge_iff_le, gt_iff_lt] at h1)
    refine seg 2 (T1 := (mkT 111 [(1, vI k), (2, vI l), (3, vI m), (4, vP 0 0), (10, vP 2 0), (11, .bool false), (13, vP 5 0), (14, .bool false), (15, vN (1 + 3 * ([] : List A3).length)), (61, vN (1 + 3 * ([] : List A3).length)), (62, .bool false), (63, .bool false), (64, .agg #[vI 0, vI 0, vI 0, .slice none 0 0]), (65, .agg #[vI 0, vI 0, vI 0, .slice none 0 0])])) (H1 := [rB [vN X, vN Y, vN Z, .slice none 0 0] 24, some ⟨[], 25, false, true⟩, rB [vI 0, vI 0, vI 0, .slice none 0 0] 29, some ⟨a3s (mk3 1 ([] : List A3).length), 25, false, true⟩, rB [vN X, vN Y, vN Z, vS 3 0] 29, rB [vI 0, vI 0, vI 0, .slice none 0 0] 29, some ⟨[], 25, false, true⟩]) (by kernel_rfl) ?_
    refine rCall (v := .bool true) (args := [.agg #[vI 0, vI 0, vI 0, .slice none 0 0], .agg #[vI 0, vI 0, vI 0, .slice none 0 0]]) (by kernel_rfl) rfl (by kernel_rfl) (Sound.lay0 [] (eqHeapN) trivial rfl trivial rfl (by first | rfl | simp [mpV, mpA, mpS, mpP, renId, shift]) rfl) ?_
    refine segEnd [1, 2, 3, 4, 10, 11, 13, 73] (T1 := (mkT 111 [(1, vI k), (2, vI l), (3, vI m), (4, vP 0 0), (10, vP 2 0), (11, .bool false), (13, vP 5 0), (73, .bool false)])) (H1 := [rB [vN X, vN Y, vN Z, .slice none 0 0] 24, some ⟨[], 25, false, true⟩, rB [vI 0, vI 0, vI 0, .slice none 0 0] 29, some ⟨a3s (mk3 1 ([] : List A3).length), 25, false, true⟩, rB [vN X, vN Y, vN Z, vS 3 0] 29, rB [vI 0, vI 0, vI 0, .slice none 0 0] 29, some ⟨[], 25, false, true⟩]) (by kernel_rfl) ?_
    refine kSeq ?_
    refine cFalse (by kernel_rfl) ?_
    refine cSkip ?_
    refine kSeq ?_
    refine cSeq ?_
    refine cReg ?_
    refine segEndH [1, 2, 3, 4, 10, 11, 13, 16] (T1 := (mkT 111 [(1, vI k), (2, vI l), (3, vI m), (4, vP 0 0), (10, vP 2 0), (11, .bool false), (13, vP 5 0), (16, vI 1)])) (by kernel_rfl) ?_
    refine kSeq ?_
    refine cSeq ?_
    refine cReg ?_
    refine segH 2 (T1 := (mkT 111 [(1, vI k), (2, vI l), (3, vI m), (4, vP 0 0), (10, vP 2 0), (11, .bool false), (13, vP 5 0), (16, vI 1), (74, .agg #[vI 0, vI 0, vI 0, .slice none 0 0]), (75, vI 1)])) (by kernel_rfl) ?_
    refine rCall (v := vI 1) (args := [.agg #[vI 0, vI 0, vI 0, .slice none 0 0], vI 1]) (by kernel_rfl) rfl (by kernel_rfl) (Sound.lay0 [] (markHeapN 1) trivial rfl trivial rfl (by first | rfl | simp [mpV, mpA, mpS, mpP, renId, shift]) rfl) ?_
    refine segEndH [1, 2, 3, 4, 10, 11, 13, 16] (T1 := (mkT 111 [(1, vI k), (2, vI l), (3, vI m), (4, vP 0 0), (10, vP 2 0), (11, .bool false), (13, vP 5 0), (16, vI 1)])) (by kernel_rfl) ?_
    refine kSeq ?_
    refine cSeq ?_
    refine cReg ?_
    refine segEndH [1, 2, 3, 4, 10, 11, 13, 16, 17] (T1 := (mkT 111 [(1, vI k), (2, vI l), (3, vI m), (4, vP 0 0), (10, vP 2 0), (11, .bool false), (13, vP 5 0), (16, vI 1), (17, vI 1)])) (by kernel_rfl) ?_
    refine kSeq ?_
    refine cSeq ?_
    refine cReg ?_
    refine segH 2 (T1 := (mkT 111 [(1, vI k), (2, vI l), (3, vI m), (4, vP 0 0), (10, vP 2 0), (11, .bool false), (13, vP 5 0), (16, vI 1), (17, vI 1), (77, .agg #[vI 0, vI 0, vI 0, .slice none 0 0]), (78, vI 1)])) (by kernel_rfl) ?_
    refine rCall (v := vI 1) (args := [.agg #[vI 0, vI 0, vI 0, .slice none 0 0], vI 1]) (by kernel_rfl) rfl (by kernel_rfl) (Sound.lay0 [] (heldHeapN) trivial rfl trivial rfl (by first | rfl | simp [mpV, mpA, mpS, mpP, renId, shift]) rfl) ?_
    refine segEndH [1, 2, 3, 4, 10, 11, 13, 16, 17] (T1 := (mkT 111 [(1, vI k), (2, vI l), (3, vI m), (4, vP 0 0), (10, vP 2 0), (11, .bool false), (13, vP 5 0), (16, vI 1), (17, vI 1)])) (by kernel_rfl) ?_
    refine kSeq ?_
    refine cSeq ?_
    refine cSeq ?_
    refine cReg ?_
    refine segEndH [1, 2, 3, 4, 10, 11, 13, 16, 17, 81] (T1 := (mkT 111 [(1, vI k), (2, vI l), (3, vI m), (4, vP 0 0), (10, vP 2 0), (11, .bool false), (13, vP 5 0), (16, vI 1), (17, vI 1), (81, .bool false)])) (by kernel_rfl) ?_
    refine kSeq ?_
    refine cFalse (by kernel_rfl) ?_
    refine cSkip ?_
    refine kSeq ?_
    refine cSeq ?_
    refine cSeq ?_
    refine cReg ?_
    refine segEndH [1, 2, 3, 4, 10, 11, 13, 16, 84] (T1 := (mkT 111 [(1, vI k), (2, vI l), (3, vI m), (4, vP 0 0), (10, vP 2 0), (11, .bool false), (13, vP 5 0), (16, vI 1), (84, .bool false)])) (by kernel_rfl) ?_
    refine kSeq ?_
    refine cFalse (by kernel_rfl) ?_
    refine cSkip ?_
    refine kSeq ?_
    refine cSeq ?_
    refine cReg ?_
    refine segH 1 (T1 := (mkT 111 [(1, vI k), (2, vI l), (3, vI m), (4, vP 0 0), (10, vP 2 0), (11, .bool false), (13, vP 5 0), (16, vI 1), (84, .bool false), (86, .agg #[vN X, vN Y, vN Z, .slice none 0 0])])) (by kernel_rfl) ?_
    refine rCall (v := .agg #[vN X, vN Y, vN Z, vS 7 0]) (args := [.agg #[vN X, vN Y, vN Z, .slice none 0 0]]) (by kernel_rfl) rfl (by kernel_rfl) (Sound.lay (E := [some ⟨[], 25, false, true⟩]) [] (toHeapN ((X : Nat) : Int) ((Y : Nat) : Int) ((Z : Nat) : Int)) trivial rfl trivial rfl (by first | rfl | simp [mpV, mpA, mpS, mpP, renId, shift]) (by first | rfl | simp [mpV, mpA, mpS, mpP, renId, shift]) ⟨enX rfl (Or.inl rfl), trivial⟩) ?_
    refine seg 3 (T1 := (mkT 111 [(1, vI k), (2, vI l), (3, vI m), (4, vP 0 0), (10, vP 2 0), (11, .bool false), (13, vP 5 0), (16, vI 1), (84, .bool false), (86, .agg #[vN X, vN Y, vN Z, .slice none 0 0]), (87, .agg #[vN X, vN Y, vN Z, vS 7 0]), (88, vI k), (89, vI l), (90, vI m)])) (H1 := [rB [vN X, vN Y, vN Z, .slice none 0 0] 24, some ⟨[], 25, false, true⟩, rB [vI 0, vI 0, vI 0, .slice none 0 0] 29, some ⟨a3s (mk3 1 ([] : List A3).length), 25, false, true⟩, rB [vN X, vN Y, vN Z, vS 3 0] 29, rB [vI 0, vI 0, vI 0, .slice none 0 0] 29, some ⟨[], 25, false, true⟩, some ⟨[], 25, false, true⟩]) (by kernel_rfl) ?_
    refine rCall (v := .tuple #[.agg #[vI 0, vI 0, vI 0, .slice none 0 0], .bool false]) (args := [.agg #[vN X, vN Y, vN Z, vS 7 0], vI k, vI l, vI m]) (by kernel_rfl) rfl (by kernel_rfl) (Sound.lay0 [7] (implWidenHeap_no2 X Y Z ([] : List A3) k l m (by first | assumption | omega | rfl | decide | exact HeapL.list _ _ _ _ | exact HeapL.nil _ _ _ | exact HeapL.all _ _ _ | (apply HeapL.lt64 <;> assumption) | (repeat' (first | assumption | apply or_lt64 | apply and_lt64 | apply andn_lt64 | apply pow_lt64 | (apply HeapL.lt64 <;> assumption)))) (by first | assumption | omega | rfl | decide | exact HeapL.list _ _ _ _ | exact HeapL.nil _ _ _ | exact HeapL.all _ _ _ | (apply HeapL.lt64 <;> assumption) | (repeat' (first | assumption | apply or_lt64 | apply and_lt64 | apply andn_lt64 | apply pow_lt64 | (apply HeapL.lt64 <;> assumption)))) (by first | assumption | omega | rfl | decide | exact HeapL.list _ _ _ _ | exact HeapL.nil _ _ _ | exact HeapL.all _ _ _ | (apply HeapL.lt64 <;> assumption) | (repeat' (first | assumption | apply or_lt64 | apply and_lt64 | apply andn_lt64 | apply pow_lt64 | (apply HeapL.lt64 <;> assumption))))) ⟨rdF true (flatA3 _ _ _ _) rfl rfl, trivial⟩ rfl ⟨clF (flatA3 _ _ _ _), trivial⟩ rfl (by first | rfl | simp [mpV, mpA, mpS, mpP, renId, shift]) (by first | rfl | simp [mpV, mpA, mpS, mpP, renId, shift])) ?_
    refine segEnd [10, 11, 13, 16, 18, 19] (T1 := (mkT 111 [(10, vP 2 0), (11, .bool false), (13, vP 5 0), (16, vI 1), (18, vP 8 0), (19, .bool false)])) (H1 := [rB [vN X, vN Y, vN Z, .slice none 0 0] 24, some ⟨[], 25, false, true⟩, rB [vI 0, vI 0, vI 0, .slice none 0 0] 29, some ⟨a3s (mk3 1 ([] : List A3).length), 25, false, true⟩, rB [vN X, vN Y, vN Z, vS 3 0] 29, rB [vI 0, vI 0, vI 0, .slice none 0 0] 29, some ⟨[], 25, false, true⟩, some ⟨[], 25, false, true⟩, rB [vI 0, vI 0, vI 0, .slice none 0 0] 29]) (by kernel_rfl) ?_
    refine kSeq ?_
    refine cSeq ?_
    refine cSeq ?_
    refine cReg ?_
    refine segH 2 (T1 := (mkT 111 [(10, vP 2 0), (11, .bool false), (13, vP 5 0), (16, vI 1), (18, vP 8 0), (19, .bool false), (94, .agg #[vI 0, vI 0, vI 0, .slice none 0 0]), (95, .agg #[vI 0, vI 0, vI 0, .slice none 0 0])])) (by kernel_rfl) ?_
    refine rCall (v := .bool true) (args := [.agg #[vI 0, vI 0, vI 0, .slice none 0 0], .agg #[vI 0, vI 0, vI 0, .slice none 0 0]]) (by kernel_rfl) rfl (by kernel_rfl) (Sound.lay0 [] (eqHeapN) trivial rfl trivial rfl (by first | rfl | simp [mpV, mpA, mpS, mpP, renId, shift]) rfl) ?_
    refine segEndH [13, 16, 102] (T1 := (mkT 111 [(13, vP 5 0), (16, vI 1), (102, .bool false)])) (by kernel_rfl) ?_
    refine kSeq ?_
    refine cFalse (by kernel_rfl) ?_
    refine cSkip ?_
    refine kSeq ?_
    refine cSeq ?_
    refine cReg ?_
    refine segEndH [13, 16, 17] (T1 := (mkT 111 [(13, vP 5 0), (16, vI 1), (17, vI 1)])) (by kernel_rfl) ?_
    refine kSeq ?_
    refine cSeq ?_
    refine cReg ?_
    refine segH 2 (T1 := (mkT 111 [(13, vP 5 0), (16, vI 1), (17, vI 1), (103, .agg #[vI 0, vI 0, vI 0, .slice none 0 0]), (104, vI 1)])) (by kernel_rfl) ?_
    refine rCall (v := vI 1) (args := [.agg #[vI 0, vI 0, vI 0, .slice none 0 0], vI 1]) (by kernel_rfl) rfl (by kernel_rfl) (Sound.lay0 [] (heldHeapN) trivial rfl trivial rfl (by first | rfl | simp [mpV, mpA, mpS, mpP, renId, shift]) rfl) ?_
    refine segEndH [16, 17] (T1 := (mkT 111 [(16, vI 1), (17, vI 1)])) (by kernel_rfl) ?_
    refine kSeq ?_
    refine cSeq ?_
    refine cSeq ?_
    refine cReg ?_
    refine segEndH [16, 17, 107] (T1 := (mkT 111 [(16, vI 1), (17, vI 1), (107, .bool false)])) (by kernel_rfl) ?_
    refine kSeq ?_
    refine cFalse (by kernel_rfl) ?_
    refine cSkip ?_
    refine kSeq ?_
    refine cSeq ?_
    refine cSeq ?_
    refine cReg ?_
    refine segEndH [110] (T1 := (mkT 111 [(110, .bool false)])) (by kernel_rfl) ?_
    refine kSeq ?_
    refine cFalse (by kernel_rfl) ?_
    refine cSkip ?_
    refine kSeq ?_
    refine cSeq ?_
    refine cReg ?_
    refine segEndH [8] (T1 := (mkT 111 [(8, .bool true)])) (by kernel_rfl) ?_
    refine kSeq ?_
    refine cRet ?_
    -- end
    exact endQ (Or.inr rfl) (l := [.bool true]) [rB [vN X, vN Y, vN Z, .slice none 0 0] 24, some ⟨[], 25, false, true⟩, rB [vI 0, vI 0, vI 0, .slice none 0 0] 29, some ⟨a3s (mk3 1 ([] : List A3).length), 25, false, true⟩, rB [vN X, vN Y, vN Z, vS 3 0] 29, rB [vI 0, vI 0, vI 0, .slice none 0 0] 29, some ⟨[], 25, false, true⟩, some ⟨[], 25, false, true⟩, rB [vI 0, vI 0, vI 0, .slice none 0 0] 29] (by kernel_rfl) (by first | rfl | kernel_rfl) rfl rfl hcl rfl
  ·
    (try simp only [Bool.not_eq_true', Bool.not_eq_false', decide_eq_true_eq, decide_eq_false_iff_not, beq_iff_eq, bne_iff_ne, beq_eq_false_iff_ne, bne_eq_false_iff_eq, ne_eq, Decidable.not_not, Bool.and_eq_true, Bool.and_eq_false_imp, Bool.or_eq_true, Bool.or_eq_false_iff, Bool.not_eq_true, Int.not_lt, Int.not_le, ge_iff_le, gt_iff_lt] at h1)
    exfalso; omega

set_option maxRecDepth 100000 in
set_option maxHeartbeats 4000000 in
theorem lawWidenHeap_in_s (X : Nat) (Y : Nat) (Z : Nat) (L : List A3) (X2 : Nat) (Y2 : Nat) (Z2 : Nat) (hs : Sides X Y Z) (hL : HeapL X Y Z L) (hs2 : Sides X2 Y2 Z2) (hL2 : HeapL X2 Y2 Z2 L) : Sound Try.prog 12 [.agg #[vN X, vN Y, vN Z, vS 0 L.length], vN X2, vN Y2, vN Z2] [some ⟨a3s L, 25, false, false⟩] (.bool true) [some ⟨a3s L, 25, false, false⟩] := by
  refine sound_intro (C := cx) Try.func12 rfl (by kernel_rfl) fun hcl => ?_
  have hz := hs.size
  have hx0 := hs.x0
  have hx4 := hs.x4
  have hy0 := hs.y0
  have hy4 := hs.y4
  have hz0 := hs.z0
  have hz4 := hs.z4
  have hlen : L.length ≤ 64 := by first | (have := hL.len; have := hs.size; omega) | simp
  refine cSeq ?_
  refine cReg ?_
  refine segEnd [1, 2, 3, 4] (T1 := (mkT 111 [(1, vN X2), (2, vN Y2), (3, vN Z2), (4, vP 1 0)])) (H1 := [some ⟨a3s L, 25, false, false⟩, rB [vN X, vN Y, vN Z, vS 0 L.length] 24]) (by kernel_rfl) ?_
  refine kSeq ?_
  refine cSeq ?_
  refine cReg ?_
  refine segEndH [1, 2, 3, 4, 9] (T1 := (mkT 111 [(1, vN X2), (2, vN Y2), (3, vN Z2), (4, vP 1 0), (9, vI 1048576)])) (by kernel_rfl) ?_
  refine kSeq ?_
  refine cSeq ?_
  refine cReg ?_
  refine segH 2 (T1 := (mkT 111 [(1, vN X2), (2, vN Y2), (3, vN Z2), (4, vP 1 0), (9, vI 1048576), (20, .agg #[vN X, vN Y, vN Z, vS 0 L.length]), (21, vI 1048576)])) (by kernel_rfl) ?_
  refine rCall (v := vN (1048576 - L.length)) (args := [.agg #[vN X, vN Y, vN Z, vS 0 L.length], vI 1048576]) (by kernel_rfl) rfl (by kernel_rfl) (Sound.lay0 [0] (szHeapS ((X : Nat) : Int) ((Y : Nat) : Int) ((Z : Nat) : Int) L 1048576 (by first | omega | assumption | (simp; done)) (by first | omega | assumption | decide)) ⟨rdF false (flatA3 _ _ _ _) rfl rfl, trivial⟩ rfl ⟨clF (flatA3 _ _ _ _), trivial⟩ rfl (by first | rfl | simp [mpV, mpA, mpS, mpP, renId, shift]) rfl) ?_
  refine segEndH [1, 2, 3, 4, 9] (T1 := (mkT 111 [(1, vN X2), (2, vN Y2), (3, vN Z2), (4, vP 1 0), (9, vN (1048576 - L.length))])) (by kernel_rfl) ?_
  refine kSeq ?_
  refine cSeq ?_
  refine cSeq ?_
  refine cReg ?_
  refine segEndH [1, 2, 3, 4, 24] (T1 := (mkT 111 [(1, vN X2), (2, vN Y2), (3, vN Z2), (4, vP 1 0), (24, .bool (decide (((1048576 - L.length : Nat) : Int) < 0)))])) (by kernel_rfl) ?_
  refine kSeq ?_
  cases h1 : (decide (((1048576 - L.length : Nat) : Int) < 0) : Bool)
  ·
    (try simp only [Bool.not_eq_true', Bool.not_eq_false', decide_eq_true_eq, decide_eq_false_iff_not, beq_iff_eq, bne_iff_ne, beq_eq_false_iff_ne, bne_eq_false_iff_eq, ne_eq, Decidable.not_not, Bool.and_eq_true, Bool.and_eq_false_imp, Bool.or_eq_true, Bool.or_eq_false_iff, Bool.not_eq_true, Int.not_lt, Int.not_le, ge_iff_le, gt_iff_lt] at h1)
    refine cFalse (by kernel_rfl) ?_
    refine cSkip ?_
    refine kSeq ?_
    refine cSeq ?_
    refine cReg ?_
    refine segH 1 (T1 := (mkT 111 [(1, vN X2), (2, vN Y2), (3, vN Z2), (4, vP 1 0), (24, .bool false), (26, .agg #[vN X, vN Y, vN Z, vS 0 L.length])])) (by kernel_rfl) ?_
    refine rCall (v := .agg #[vN X, vN Y, vN Z, vS 2 L.length]) (args := [.agg #[vN X, vN Y, vN Z, vS 0 L.length]]) (by kernel_rfl) rfl (by kernel_rfl) (Sound.lay (E := [some ⟨a3s L, 25, false, true⟩]) [0] (toHeapB ((X : Nat) : Int) ((Y : Nat) : Int) ((Z : Nat) : Int) L (by first | omega | assumption | (simp; done))) ⟨rdF false (flatA3 _ _ _ _) rfl rfl, trivial⟩ rfl ⟨clF (flatA3 _ _ _ _), trivial⟩ rfl (by first | rfl | simp [mpV, mpA, mpS, mpP, renId, shift]) (by first | rfl | simp [mpV, mpA, mpS, mpP, renId, shift]) ⟨enF (flatA3 _ _ _ _) (Or.inl rfl), trivial⟩) ?_
    refine seg 3 (T1 := (mkT 111 [(1, vN X2), (2, vN Y2), (3, vN Z2), (4, vP 1 0), (24, .bool false), (26, .agg #[vN X, vN Y, vN Z, vS 0 L.length]), (27, .agg #[vN X, vN Y, vN Z, vS 2 L.length]), (28, vN X2), (29, vN Y2), (30, vN Z2)])) (H1 := [some ⟨a3s L, 25, false, false⟩, rB [vN X, vN Y, vN Z, vS 0 L.length] 24, some ⟨a3s L, 25, false, true⟩]) (by kernel_rfl) ?_
    refine rCall (v := .tuple #[.agg #[vN X2, vN Y2, vN Z2, vS 3 L.length], .bool true]) (args := [.agg #[vN X, vN Y, vN Z, vS 2 L.length], vN X2, vN Y2, vN Z2]) (by kernel_rfl) rfl (by kernel_rfl) (Sound.lay (E := [some ⟨a3s (L), 25, false, true⟩]) [2] (specWidenHeap_in X Y Z X2 Y2 Z2 L (by first | assumption | omega | rfl | decide | exact HeapL.list _ _ _ _ | exact HeapL.nil _ _ _ | exact HeapL.all _ _ _ | (apply HeapL.lt64 <;> assumption) | (repeat' (first | assumption | apply or_lt64 | apply and_lt64 | apply andn_lt64 | apply pow_lt64 | (apply HeapL.lt64 <;> assumption)))) (by first | assumption | omega | rfl | decide | exact HeapL.list _ _ _ _ | exact HeapL.nil _ _ _ | exact HeapL.all _ _ _ | (apply HeapL.lt64 <;> assumption) | (repeat' (first | assumption | apply or_lt64 | apply and_lt64 | apply andn_lt64 | apply pow_lt64 | (apply HeapL.lt64 <;> assumption)))) (by first | assumption | omega | rfl | decide | exact HeapL.list _ _ _ _ | exact HeapL.nil _ _ _ | exact HeapL.all _ _ _ | (apply HeapL.lt64 <;> assumption) | (repeat' (first | assumption | apply or_lt64 | apply and_lt64 | apply andn_lt64 | apply pow_lt64 | (apply HeapL.lt64 <;> assumption)))) (by first | assumption | omega | rfl | decide | exact HeapL.list _ _ _ _ | exact HeapL.nil _ _ _ | exact HeapL.all _ _ _ | (apply HeapL.lt64 <;> assumption) | (repeat' (first | assumption | apply or_lt64 | apply and_lt64 | apply andn_lt64 | apply pow_lt64 | (apply HeapL.lt64 <;> assumption))))) ⟨rdF true (flatA3 _ _ _ _) rfl rfl, trivial⟩ rfl ⟨clF (flatA3 _ _ _ _), trivial⟩ rfl (by first | rfl | simp [mpV, mpA, mpS, mpP, renId, shift]) (by first | rfl | simp [mpV, mpA, mpS, mpP, renId, shift]) ⟨enF (flatA3 _ _ _ _) (Or.inl rfl), trivial⟩) ?_
    refine segEnd [1, 2, 3, 4, 10, 11] (T1 := (mkT 111 [(1, vN X2), (2, vN Y2), (3, vN Z2), (4, vP 1 0), (10, vP 4 0), (11, .bool true)])) (H1 := [some ⟨a3s L, 25, false, false⟩, rB [vN X, vN Y, vN Z, vS 0 L.length] 24, some ⟨a3s L, 25, false, true⟩, some ⟨a3s (L), 25, false, true⟩, rB [vN X2, vN Y2, vN Z2, vS 3 L.length] 29]) (by kernel_rfl) ?_
    refine kSeq ?_
    refine cSeq ?_
    refine cReg ?_
    refine segH 1 (T1 := (mkT 111 [(1, vN X2), (2, vN Y2), (3, vN Z2), (4, vP 1 0), (10, vP 4 0), (11, .bool true), (34, .agg #[vN X, vN Y, vN Z, vS 0 L.length])])) (by kernel_rfl) ?_
    refine rCall (v := .agg #[vN X, vN Y, vN Z, vS 5 L.length]) (args := [.agg #[vN X, vN Y, vN Z, vS 0 L.length]]) (by kernel_rfl) rfl (by kernel_rfl) (Sound.lay (E := [some ⟨a3s L, 25, false, true⟩]) [0] (toHeapB ((X : Nat) : Int) ((Y : Nat) : Int) ((Z : Nat) : Int) L (by first | omega | assumption | (simp; done))) ⟨rdF false (flatA3 _ _ _ _) rfl rfl, trivial⟩ rfl ⟨clF (flatA3 _ _ _ _), trivial⟩ rfl (by first | rfl | simp [mpV, mpA, mpS, mpP, renId, shift]) (by first | rfl | simp [mpV, mpA, mpS, mpP, renId, shift]) ⟨enF (flatA3 _ _ _ _) (Or.inl rfl), trivial⟩) ?_
    refine segEnd [1, 2, 3, 4, 10, 11, 12] (T1 := (mkT 111 [(1, vN X2), (2, vN Y2), (3, vN Z2), (4, vP 1 0), (10, vP 4 0), (11, .bool true), (12, vP 6 0)])) (H1 := [some ⟨a3s L, 25, false, false⟩, rB [vN X, vN Y, vN Z, vS 0 L.length] 24, some ⟨a3s L, 25, false, true⟩, some ⟨a3s (L), 25, false, true⟩, rB [vN X2, vN Y2, vN Z2, vS 3 L.length] 29, some ⟨a3s L, 25, false, true⟩, rB [vN X, vN Y, vN Z, vS 5 L.length] 29]) (by kernel_rfl) ?_
    refine kSeq ?_
    refine cSeq ?_
    refine cReg ?_
    refine segH 4 (T1 := (mkT 111 [(1, vN X2), (2, vN Y2), (3, vN Z2), (4, vP 1 0), (10, vP 4 0), (11, .bool true), (12, vP 6 0), (37, .agg #[vN X, vN Y, vN Z, vS 5 L.length]), (38, vN X2), (39, vN Y2), (40, vN Z2)])) (by kernel_rfl) ?_
    refine rCall (v := .tuple #[.agg #[vN X2, vN Y2, vN Z2, vS 7 L.length], .bool true]) (args := [.agg #[vN X, vN Y, vN Z, vS 5 L.length], vN X2, vN Y2, vN Z2]) (by kernel_rfl) rfl (by kernel_rfl) (Sound.lay (E := [some ⟨a3s (L), 25, false, true⟩]) [5] (implWidenHeap_in X Y Z X2 Y2 Z2 L (by first | assumption | omega | rfl | decide | exact HeapL.list _ _ _ _ | exact HeapL.nil _ _ _ | exact HeapL.all _ _ _ | (apply HeapL.lt64 <;> assumption) | (repeat' (first | assumption | apply or_lt64 | apply and_lt64 | apply andn_lt64 | apply pow_lt64 | (apply HeapL.lt64 <;> assumption)))) (by first | assumption | omega | rfl | decide | exact HeapL.list _ _ _ _ | exact HeapL.nil _ _ _ | exact HeapL.all _ _ _ | (apply HeapL.lt64 <;> assumption) | (repeat' (first | assumption | apply or_lt64 | apply and_lt64 | apply andn_lt64 | apply pow_lt64 | (apply HeapL.lt64 <;> assumption)))) (by first | assumption | omega | rfl | decide | exact HeapL.list _ _ _ _ | exact HeapL.nil _ _ _ | exact HeapL.all _ _ _ | (apply HeapL.lt64 <;> assumption) | (repeat' (first | assumption | apply or_lt64 | apply and_lt64 | apply andn_lt64 | apply pow_lt64 | (apply HeapL.lt64 <;> assumption)))) (by first | assumption | omega | rfl | decide | exact HeapL.list _ _ _ _ | exact HeapL.nil _ _ _ | exact HeapL.all _ _ _ | (apply HeapL.lt64 <;> assumption) | (repeat' (first | assumption | apply or_lt64 | apply and_lt64 | apply andn_lt64 | apply pow_lt64 | (apply HeapL.lt64 <;> assumption))))) ⟨rdF true (flatA3 _ _ _ _) rfl rfl, trivial⟩ rfl ⟨clF (flatA3 _ _ _ _), trivial⟩ rfl (by first | rfl | simp [mpV, mpA, mpS, mpP, renId, shift]) (by first | rfl | simp [mpV, mpA, mpS, mpP, renId, shift]) ⟨enF (flatA3 _ _ _ _) (Or.inl rfl), trivial⟩) ?_
    refine segEnd [1, 2, 3, 4, 10, 11, 12, 13, 14] (T1 := (mkT 111 [(1, vN X2), (2, vN Y2), (3, vN Z2), (4, vP 1 0), (10, vP 4 0), (11, .bool true), (12, vP 6 0), (13, vP 8 0), (14, .bool true)])) (H1 := [some ⟨a3s L, 25, false, false⟩, rB [vN X, vN Y, vN Z, vS 0 L.length] 24, some ⟨a3s L, 25, false, true⟩, some ⟨a3s (L), 25, false, true⟩, rB [vN X2, vN Y2, vN Z2, vS 3 L.length] 29, some ⟨a3s L, 25, false, true⟩, rB [vN X, vN Y, vN Z, vS 5 L.length] 29, some ⟨a3s (L), 25, false, true⟩, rB [vN X2, vN Y2, vN Z2, vS 7 L.length] 29]) (by kernel_rfl) ?_
    refine kSeq ?_
    refine cSeq ?_
    refine cSeq ?_
    refine cReg ?_
    refine segH 2 (T1 := (mkT 111 [(1, vN X2), (2, vN Y2), (3, vN Z2), (4, vP 1 0), (10, vP 4 0), (11, .bool true), (12, vP 6 0), (13, vP 8 0), (14, .bool true), (44, .agg #[vN X2, vN Y2, vN Z2, vS 7 L.length]), (45, .agg #[vN X2, vN Y2, vN Z2, vS 3 L.length])])) (by kernel_rfl) ?_
    refine rCall (v := .bool true) (args := [.agg #[vN X2, vN Y2, vN Z2, vS 7 L.length], .agg #[vN X2, vN Y2, vN Z2, vS 3 L.length]]) (by kernel_rfl) rfl (by kernel_rfl) (Sound.lay0 [7, 3] (eqHeapB ((X2 : Nat) : Int) ((Y2 : Nat) : Int) ((Z2 : Nat) : Int) (L) (by first | omega | assumption | (simp; done))) ⟨rdF true (flatA3 _ _ _ _) rfl rfl, ⟨rdF true (flatA3 _ _ _ _) rfl rfl, trivial⟩⟩ rfl ⟨clF (flatA3 _ _ _ _), ⟨clF (flatA3 _ _ _ _), trivial⟩⟩ rfl (by first | rfl | simp [mpV, mpA, mpS, mpP, renId, shift]) rfl) ?_
    refine segEndH [1, 2, 3, 4, 10, 11, 12, 13, 14, 52] (T1 := (mkT 111 [(1, vN X2), (2, vN Y2), (3, vN Z2), (4, vP 1 0), (10, vP 4 0), (11, .bool true), (12, vP 6 0), (13, vP 8 0), (14, .bool true), (52, .bool false)])) (by kernel_rfl) ?_
    refine kSeq ?_
    refine cFalse (by kernel_rfl) ?_
    refine cSkip ?_
    refine kSeq ?_
    refine cSeq ?_
    refine cSeq ?_
    refine cRegW (N := 10) [⟨[], [], [6]⟩, ⟨[], [], [1]⟩, ⟨[9], [], [0]⟩, ⟨[], [], [5, 9]⟩, ⟨[], [], []⟩] 1 [9] (by rfl) (by rfl) (by kernel_rfl) (by kernel_rfl) (by kernel_rfl) ⟨nmsF (flatA3 _ _ _ _), ⟨nmsX (by kernel_rfl), ⟨nmsF (flatA3 _ _ _ _), ⟨nmsF (flatA3 _ _ _ _), ⟨nmsX (by kernel_rfl), ⟨nmsF (flatA3 _ _ _ _), ⟨nmsX (by kernel_rfl), ⟨nmsF (flatA3 _ _ _ _), ⟨nmsX (by kernel_rfl), trivial⟩⟩⟩⟩⟩⟩⟩⟩⟩ ?_
    refine segWH 2 (T1 := (mkT 111 [(1, vN X2), (2, vN Y2), (3, vN Z2), (4, vP 1 0), (10, vP 4 0), (11, .bool true), (12, vP 6 0), (13, vP 8 0), (14, .bool true), (52, .bool false), (53, .agg #[vN X, vN Y, vN Z, vS 5 L.length]), (54, .agg #[vN X, vN Y, vN Z, vS 0 L.length])])) (by kernel_rfl) ?_
    refine rW (m := ⟨[9], [], [0]⟩) (v := .agg #[vN X, vN Y, vN Z, vS 9 L.length]) rfl (by kernel_rfl) (stN (i := 9) (E := [some ⟨a3s L, 25, false, true⟩]) (v1 := .agg #[vN X, vN Y, vN Z, vS 10 L.length]) (args := [.agg #[vN X, vN Y, vN Z, vS 0 L.length]]) rfl (by kernel_rfl) (Any.lay (E := [some ⟨a3s L, 25, false, true⟩]) (N := 10) [0] (toHeapB ((X : Nat) : Int) ((Y : Nat) : Int) ((Z : Nat) : Int) L (by first | omega | assumption | (simp; done))) ⟨rdF false (flatA3 _ _ _ _) rfl rfl, trivial⟩ rfl ⟨clF (flatA3 _ _ _ _), trivial⟩ rfl (by first | rfl | simp [mpV, mpA, mpS, mpP, renId, shift]) (by first | rfl | simp [mpV, mpA, mpS, mpP, renId, shift]) ⟨enF (flatA3 _ _ _ _) (Or.inl rfl), trivial⟩) rfl (by kernel_rfl) (by kernel_rfl) (by kernel_rfl) (by kernel_rfl) (FlatH.cons (flatA3 _ _ _ _) FlatH.nil)) (by kernel_rfl) (NRs.all ⟨nrOf (by rfl) (nmF (flatA3 _ _ _ _)), trivial⟩) ?_
    refine rW (m := ⟨[], [], [5, 9]⟩) (v := .bool true) rfl (by kernel_rfl) (stQ (args := [.agg #[vN X, vN Y, vN Z, vS 5 L.length], .agg #[vN X, vN Y, vN Z, vS 9 L.length]]) rfl (by kernel_rfl) (Any.lay0 [5, 9] (eqHeapB ((X : Nat) : Int) ((Y : Nat) : Int) ((Z : Nat) : Int) L (by first | omega | assumption | (simp; done))) ⟨rdF true (flatA3 _ _ _ _) rfl rfl, ⟨rdF true (flatA3 _ _ _ _) rfl rfl, trivial⟩⟩ rfl ⟨clF (flatA3 _ _ _ _), ⟨clF (flatA3 _ _ _ _), trivial⟩⟩ rfl (by first | rfl | simp [mpV, mpA, mpS, mpP, renId, shift]) rfl) rfl (by kernel_rfl) (by kernel_rfl)) (by kernel_rfl) nr0 ?_
    refine segEndW [1, 2, 3, 4, 10, 11, 12, 13, 14, 57] (T1 := (mkT 111 [(1, vN X2), (2, vN Y2), (3, vN Z2), (4, vP 1 0), (10, vP 4 0), (11, .bool true), (12, vP 6 0), (13, vP 8 0), (14, .bool true), (57, .bool false)])) (H1 := [some ⟨a3s L, 25, false, false⟩, rB [vN X, vN Y, vN Z, vS 0 L.length] 24, some ⟨a3s L, 25, false, true⟩, some ⟨a3s (L), 25, false, true⟩, rB [vN X2, vN Y2, vN Z2, vS 3 L.length] 29, some ⟨a3s L, 25, false, true⟩, rB [vN X, vN Y, vN Z, vS 5 L.length] 29, some ⟨a3s (L), 25, false, true⟩, rB [vN X2, vN Y2, vN Z2, vS 7 L.length] 29, some ⟨a3s L, 25, false, true⟩]) (by kernel_rfl) ?_
    refine kSeq ?_
    refine cFalse (by kernel_rfl) ?_
    refine cSkip ?_
    refine kSeq ?_
    refine cSeq ?_
    refine cReg ?_
    refine segEndH [1, 2, 3, 4, 10, 11, 12, 13, 14, 15] (T1 := (mkT 111 [(1, vN X2), (2, vN Y2), (3, vN Z2), (4, vP 1 0), (10, vP 4 0), (11, .bool true), (12, vP 6 0), (13, vP 8 0), (14, .bool true), (15, vI 1)])) (by kernel_rfl) ?_
    refine kSeq ?_
    refine cSeq ?_
    refine cReg ?_
    refine segH 2 (T1 := (mkT 111 [(1, vN X2), (2, vN Y2), (3, vN Z2), (4, vP 1 0), (10, vP 4 0), (11, .bool true), (12, vP 6 0), (13, vP 8 0), (14, .bool true), (15, vI 1), (58, .agg #[vN X, vN Y, vN Z, vS 5 L.length]), (59, vI 1)])) (by kernel_rfl) ?_
    refine rCall (v := vN (1 + 3 * L.length)) (args := [.agg #[vN X, vN Y, vN Z, vS 5 L.length], vI 1]) (by kernel_rfl) rfl (by kernel_rfl) (Sound.emb_set (r := ⟨a3s L, 25, false, true⟩) (r' := ⟨a3s (mk3 1 L.length), 25, false, true⟩) 5 (markHeapB ((X : Nat) : Int) ((Y : Nat) : Int) ((Z : Nat) : Int) L 1 (by first | omega | assumption | (simp; done)) (by first | assumption | omega | rfl | decide | exact HeapL.list _ _ _ _ | exact HeapL.nil _ _ _ | exact HeapL.all _ _ _ | (apply HeapL.lt64 <;> assumption) | (repeat' (first | assumption | apply or_lt64 | apply and_lt64 | apply andn_lt64 | apply pow_lt64 | (apply HeapL.lt64 <;> assumption))))) (flatA3 _ _ _ _) rfl (flatA3 _ _ _ _) rfl rfl rfl (by first | rfl | simp [mpV, mpA, mpS, mpP, renId, shift]) rfl) ?_
    refine segEnd [1, 2, 3, 4, 10, 11, 13, 14, 15] (T1 := (mkT 111 [(1, vN X2), (2, vN Y2), (3, vN Z2), (4, vP 1 0), (10, vP 4 0), (11, .bool true), (13, vP 8 0), (14, .bool true), (15, vN (1 + 3 * L.length))])) (H1 := [some ⟨a3s L, 25, false, false⟩, rB [vN X, vN Y, vN Z, vS 0 L.length] 24, some ⟨a3s L, 25, false, true⟩, some ⟨a3s (L), 25, false, true⟩, rB [vN X2, vN Y2, vN Z2, vS 3 L.length] 29, some ⟨a3s (mk3 1 L.length), 25, false, true⟩, rB [vN X, vN Y, vN Z, vS 5 L.length] 29, some ⟨a3s (L), 25, false, true⟩, rB [vN X2, vN Y2, vN Z2, vS 7 L.length] 29, some ⟨a3s L, 25, false, true⟩]) (by kernel_rfl) ?_
    refine kSeq ?_
    refine cSeq ?_
    refine cSeq ?_
    refine cReg ?_
    refine segH 3 (T1 := (mkT 111 [(1, vN X2), (2, vN Y2), (3, vN Z2), (4, vP 1 0), (10, vP 4 0), (11, .bool true), (13, vP 8 0), (14, .bool true), (15, vN (1 + 3 * L.length)), (61, vN (1 + 3 * L.length)), (62, .bool (decide (((1 + 3 * L.length : Nat) : Int) < 0))), (63, .bool (decide (((1 + 3 * L.length : Nat) : Int) < 0)))])) (by kernel_rfl) ?_
    cases h2 : (decide (((1 + 3 * L.length : Nat) : Int) < 0) : Bool)
    ·
      (try simp only [Bool.not_eq_true', Bool.not_eq_false', decide_eq_true_eq, decide_eq_false_iff_not, beq_iff_eq, bne_iff_ne, beq_eq_false_iff_ne, bne_eq_false_iff_eq, ne_eq, Decidable.not_not, Bool.and_eq_true, Bool.and_eq_false_imp, Bool.or_eq_true, Bool.or_eq_false_iff, Bool.not_eq_true, Int.not_lt, Int.not_le, ge_iff_le, gt_iff_lt] at h2)
      refine seg 2 (T1 := (mkT 111 [(1, vN X2), (2, vN Y2), (3, vN Z2), (4, vP 1 0), (10, vP 4 0), (11, .bool true), (13, vP 8 0), (14, .bool true), (15, vN (1 + 3 * L.length)), (61, vN (1 + 3 * L.length)), (62, .bool false), (63, .bool false), (64, .agg #[vN X2, vN Y2, vN Z2, vS 7 L.length]), (65, .agg #[vN X2, vN Y2, vN Z2, vS 3 L.length])])) (H1 := [some ⟨a3s L, 25, false, false⟩, rB [vN X, vN Y, vN Z, vS 0 L.length] 24, some ⟨a3s L, 25, false, true⟩, some ⟨a3s (L), 25, false, true⟩, rB [vN X2, vN Y2, vN Z2, vS 3 L.length] 29, some ⟨a3s (mk3 1 L.length), 25, false, true⟩, rB [vN X, vN Y, vN Z, vS 5 L.length] 29, some ⟨a3s (L), 25, false, true⟩, rB [vN X2, vN Y2, vN Z2, vS 7 L.length] 29, some ⟨a3s L, 25, false, true⟩]) (by kernel_rfl) ?_
      refine rCall (v := .bool true) (args := [.agg #[vN X2, vN Y2, vN Z2, vS 7 L.length], .agg #[vN X2, vN Y2, vN Z2, vS 3 L.length]]) (by kernel_rfl) rfl (by kernel_rfl) (Sound.lay0 [7, 3] (eqHeapB ((X2 : Nat) : Int) ((Y2 : Nat) : Int) ((Z2 : Nat) : Int) (L) (by first | omega | assumption | (simp; done))) ⟨rdF true (flatA3 _ _ _ _) rfl rfl, ⟨rdF true (flatA3 _ _ _ _) rfl rfl, trivial⟩⟩ rfl ⟨clF (flatA3 _ _ _ _), ⟨clF (flatA3 _ _ _ _), trivial⟩⟩ rfl (by first | rfl | simp [mpV, mpA, mpS, mpP, renId, shift]) rfl) ?_
      refine segEnd [1, 2, 3, 4, 10, 11, 13, 73] (T1 := (mkT 111 [(1, vN X2), (2, vN Y2), (3, vN Z2), (4, vP 1 0), (10, vP 4 0), (11, .bool true), (13, vP 8 0), (73, .bool false)])) (H1 := [some ⟨a3s L, 25, false, false⟩, rB [vN X, vN Y, vN Z, vS 0 L.length] 24, some ⟨a3s L, 25, false, true⟩, some ⟨a3s (L), 25, false, true⟩, rB [vN X2, vN Y2, vN Z2, vS 3 L.length] 29, some ⟨a3s (mk3 1 L.length), 25, false, true⟩, rB [vN X, vN Y, vN Z, vS 5 L.length] 29, some ⟨a3s (L), 25, false, true⟩, rB [vN X2, vN Y2, vN Z2, vS 7 L.length] 29, some ⟨a3s L, 25, false, true⟩]) (by kernel_rfl) ?_
      refine kSeq ?_
      refine cFalse (by kernel_rfl) ?_
      refine cSkip ?_
      refine kSeq ?_
      refine cSeq ?_
      refine cReg ?_
      refine segEndH [1, 2, 3, 4, 10, 11, 13, 16] (T1 := (mkT 111 [(1, vN X2), (2, vN Y2), (3, vN Z2), (4, vP 1 0), (10, vP 4 0), (11, .bool true), (13, vP 8 0), (16, vI 1)])) (by kernel_rfl) ?_
      refine kSeq ?_
      refine cSeq ?_
      refine cReg ?_
      refine segH 2 (T1 := (mkT 111 [(1, vN X2), (2, vN Y2), (3, vN Z2), (4, vP 1 0), (10, vP 4 0), (11, .bool true), (13, vP 8 0), (16, vI 1), (74, .agg #[vN X2, vN Y2, vN Z2, vS 7 L.length]), (75, vI 1)])) (by kernel_rfl) ?_
      refine rCall (v := vN (1 + 3 * (L).length)) (args := [.agg #[vN X2, vN Y2, vN Z2, vS 7 L.length], vI 1]) (by kernel_rfl) rfl (by kernel_rfl) (Sound.emb_set (r := ⟨a3s (L), 25, false, true⟩) (r' := ⟨a3s (mk3 1 (L).length), 25, false, true⟩) 7 (markHeapB ((X2 : Nat) : Int) ((Y2 : Nat) : Int) ((Z2 : Nat) : Int) (L) 1 (by first | omega | assumption | (simp; done)) (by first | assumption | omega | rfl | decide | exact HeapL.list _ _ _ _ | exact HeapL.nil _ _ _ | exact HeapL.all _ _ _ | (apply HeapL.lt64 <;> assumption) | (repeat' (first | assumption | apply or_lt64 | apply and_lt64 | apply andn_lt64 | apply pow_lt64 | (apply HeapL.lt64 <;> assumption))))) (flatA3 _ _ _ _) rfl (flatA3 _ _ _ _) rfl rfl rfl (by first | rfl | simp [mpV, mpA, mpS, mpP, renId, shift]) rfl) ?_
      refine segEnd [1, 2, 3, 4, 10, 11, 13, 16] (T1 := (mkT 111 [(1, vN X2), (2, vN Y2), (3, vN Z2), (4, vP 1 0), (10, vP 4 0), (11, .bool true), (13, vP 8 0), (16, vN (1 + 3 * (L).length))])) (H1 := [some ⟨a3s L, 25, false, false⟩, rB [vN X, vN Y, vN Z, vS 0 L.length] 24, some ⟨a3s L, 25, false, true⟩, some ⟨a3s (L), 25, false, true⟩, rB [vN X2, vN Y2, vN Z2, vS 3 L.length] 29, some ⟨a3s (mk3 1 L.length), 25, false, true⟩, rB [vN X, vN Y, vN Z, vS 5 L.length] 29, some ⟨a3s (mk3 1 (L).length), 25, false, true⟩, rB [vN X2, vN Y2, vN Z2, vS 7 L.length] 29, some ⟨a3s L, 25, false, true⟩]) (by kernel_rfl) ?_
      refine kSeq ?_
      refine cSeq ?_
      refine cReg ?_
      refine segEndH [1, 2, 3, 4, 10, 11, 13, 16, 17] (T1 := (mkT 111 [(1, vN X2), (2, vN Y2), (3, vN Z2), (4, vP 1 0), (10, vP 4 0), (11, .bool true), (13, vP 8 0), (16, vN (1 + 3 * (L).length)), (17, vI 1)])) (by kernel_rfl) ?_
      refine kSeq ?_
      refine cSeq ?_
      refine cReg ?_
      refine segH 2 (T1 := (mkT 111 [(1, vN X2), (2, vN Y2), (3, vN Z2), (4, vP 1 0), (10, vP 4 0), (11, .bool true), (13, vP 8 0), (16, vN (1 + 3 * (L).length)), (17, vI 1), (77, .agg #[vN X2, vN Y2, vN Z2, vS 7 L.length]), (78, vI 1)])) (by kernel_rfl) ?_
      refine rCall (v := vN (1 + 3 * L.length)) (args := [.agg #[vN X2, vN Y2, vN Z2, vS 7 L.length], vI 1]) (by kernel_rfl) rfl (by kernel_rfl) (Sound.lay0 [7] (heldHeapB ((X2 : Nat) : Int) ((Y2 : Nat) : Int) ((Z2 : Nat) : Int) 1 L.length (by first | omega | assumption | (simp; done)) (by first | assumption | omega | rfl | decide | exact HeapL.list _ _ _ _ | exact HeapL.nil _ _ _ | exact HeapL.all _ _ _ | (apply HeapL.lt64 <;> assumption) | (repeat' (first | assumption | apply or_lt64 | apply and_lt64 | apply andn_lt64 | apply pow_lt64 | (apply HeapL.lt64 <;> assumption))))) ⟨rdF true (flatA3 _ _ _ _) rfl rfl, trivial⟩ rfl ⟨clF (flatA3 _ _ _ _), trivial⟩ rfl (by first | rfl | simp [mpV, mpA, mpS, mpP, renId, shift]) rfl) ?_
      refine segEndH [1, 2, 3, 4, 10, 11, 13, 16, 17] (T1 := (mkT 111 [(1, vN X2), (2, vN Y2), (3, vN Z2), (4, vP 1 0), (10, vP 4 0), (11, .bool true), (13, vP 8 0), (16, vN (1 + 3 * (L).length)), (17, vN (1 + 3 * L.length))])) (by kernel_rfl) ?_
      refine kSeq ?_
      refine cSeq ?_
      refine cSeq ?_
      refine cReg ?_
      refine segEndH [1, 2, 3, 4, 10, 11, 13, 16, 17, 81] (T1 := (mkT 111 [(1, vN X2), (2, vN Y2), (3, vN Z2), (4, vP 1 0), (10, vP 4 0), (11, .bool true), (13, vP 8 0), (16, vN (1 + 3 * (L).length)), (17, vN (1 + 3 * L.length)), (81, .bool (decide (((1 + 3 * L.length : Nat) : Int) < 0)))])) (by kernel_rfl) ?_
      refine kSeq ?_
      cases h3 : (decide (((1 + 3 * L.length : Nat) : Int) < 0) : Bool)
      ·
        (try simp only [Bool.not_eq_true', Bool.not_eq_false', decide_eq_true_eq, decide_eq_false_iff_not, beq_iff_eq, bne_iff_ne, beq_eq_false_iff_ne, bne_eq_false_iff_eq, ne_eq, Decidable.not_not, Bool.and_eq_true, Bool.and_eq_false_imp, Bool.or_eq_true, Bool.or_eq_false_iff, Bool.not_eq_true, Int.not_lt, Int.not_le, ge_iff_le, gt_iff_lt] at h3)
        refine cFalse (by kernel_rfl) ?_
        refine cSkip ?_
        refine kSeq ?_
        refine cSeq ?_
        refine cSeq ?_
        refine cReg ?_
        refine segEndH [1, 2, 3, 4, 10, 11, 13, 16, 84] (T1 := (mkT 111 [(1, vN X2), (2, vN Y2), (3, vN Z2), (4, vP 1 0), (10, vP 4 0), (11, .bool true), (13, vP 8 0), (16, vN (1 + 3 * (L).length)), (84, .bool (((1 + 3 * L.length : Nat) : Int) != ((1 + 3 * (L).length : Nat) : Int)))])) (by kernel_rfl) ?_
        refine kSeq ?_
        cases h4 : ((((1 + 3 * L.length : Nat) : Int) != ((1 + 3 * (L).length : Nat) : Int)) : Bool)
        ·
          (try simp only [Bool.not_eq_true', Bool.not_eq_false', decide_eq_true_eq, decide_eq_false_iff_not, beq_iff_eq, bne_iff_ne, beq_eq_false_iff_ne, bne_eq_false_iff_eq, ne_eq, Decidable.not_not, Bool.and_eq_true, Bool.and_eq_false_imp, Bool.or_eq_true, Bool.or_eq_false_iff, Bool.not_eq_true, Int.not_lt, Int.not_le, ge_iff_le, gt_iff_lt] at h4)
          refine cFalse (by kernel_rfl) ?_
          refine cSkip ?_
          refine kSeq ?_
          refine cSeq ?_
          refine cReg ?_
          refine segH 1 (T1 := (mkT 111 [(1, vN X2), (2, vN Y2), (3, vN Z2), (4, vP 1 0), (10, vP 4 0), (11, .bool true), (13, vP 8 0), (16, vN (1 + 3 * (L).length)), (84, .bool false), (86, .agg #[vN X, vN Y, vN Z, vS 0 L.length])])) (by kernel_rfl) ?_
          refine rCall (v := .agg #[vN X, vN Y, vN Z, vS 10 L.length]) (args := [.agg #[vN X, vN Y, vN Z, vS 0 L.length]]) (by kernel_rfl) rfl (by kernel_rfl) (Sound.lay (E := [some ⟨a3s L, 25, false, true⟩]) [0] (toHeapB ((X : Nat) : Int) ((Y : Nat) : Int) ((Z : Nat) : Int) L (by first | omega | assumption | (simp; done))) ⟨rdF false (flatA3 _ _ _ _) rfl rfl, trivial⟩ rfl ⟨clF (flatA3 _ _ _ _), trivial⟩ rfl (by first | rfl | simp [mpV, mpA, mpS, mpP, renId, shift]) (by first | rfl | simp [mpV, mpA, mpS, mpP, renId, shift]) ⟨enF (flatA3 _ _ _ _) (Or.inl rfl), trivial⟩) ?_
          refine seg 3 (T1 := (mkT 111 [(1, vN X2), (2, vN Y2), (3, vN Z2), (4, vP 1 0), (10, vP 4 0), (11, .bool true), (13, vP 8 0), (16, vN (1 + 3 * (L).length)), (84, .bool false), (86, .agg #[vN X, vN Y, vN Z, vS 0 L.length]), (87, .agg #[vN X, vN Y, vN Z, vS 10 L.length]), (88, vN X2), (89, vN Y2), (90, vN Z2)])) (H1 := [some ⟨a3s L, 25, false, false⟩, rB [vN X, vN Y, vN Z, vS 0 L.length] 24, some ⟨a3s L, 25, false, true⟩, some ⟨a3s (L), 25, false, true⟩, rB [vN X2, vN Y2, vN Z2, vS 3 L.length] 29, some ⟨a3s (mk3 1 L.length), 25, false, true⟩, rB [vN X, vN Y, vN Z, vS 5 L.length] 29, some ⟨a3s (mk3 1 (L).length), 25, false, true⟩, rB [vN X2, vN Y2, vN Z2, vS 7 L.length] 29, some ⟨a3s L, 25, false, true⟩, some ⟨a3s L, 25, false, true⟩]) (by kernel_rfl) ?_
          refine rCall (v := .tuple #[.agg #[vN X2, vN Y2, vN Z2, vS 11 L.length], .bool true]) (args := [.agg #[vN X, vN Y, vN Z, vS 10 L.length], vN X2, vN Y2, vN Z2]) (by kernel_rfl) rfl (by kernel_rfl) (Sound.lay (E := [some ⟨a3s (L), 25, false, true⟩]) [10] (implWidenHeap_in X Y Z X2 Y2 Z2 L (by first | assumption | omega | rfl | decide | exact HeapL.list _ _ _ _ | exact HeapL.nil _ _ _ | exact HeapL.all _ _ _ | (apply HeapL.lt64 <;> assumption) | (repeat' (first | assumption | apply or_lt64 | apply and_lt64 | apply andn_lt64 | apply pow_lt64 | (apply HeapL.lt64 <;> assumption)))) (by first | assumption | omega | rfl | decide | exact HeapL.list _ _ _ _ | exact HeapL.nil _ _ _ | exact HeapL.all _ _ _ | (apply HeapL.lt64 <;> assumption) | (repeat' (first | assumption | apply or_lt64 | apply and_lt64 | apply andn_lt64 | apply pow_lt64 | (apply HeapL.lt64 <;> assumption)))) (by first | assumption | omega | rfl | decide | exact HeapL.list _ _ _ _ | exact HeapL.nil _ _ _ | exact HeapL.all _ _ _ | (apply HeapL.lt64 <;> assumption) | (repeat' (first | assumption | apply or_lt64 | apply and_lt64 | apply andn_lt64 | apply pow_lt64 | (apply HeapL.lt64 <;> assumption)))) (by first | assumption | omega | rfl | decide | exact HeapL.list _ _ _ _ | exact HeapL.nil _ _ _ | exact HeapL.all _ _ _ | (apply HeapL.lt64 <;> assumption) | (repeat' (first | assumption | apply or_lt64 | apply and_lt64 | apply andn_lt64 | apply pow_lt64 | (apply HeapL.lt64 <;> assumption))))) ⟨rdF true (flatA3 _ _ _ _) rfl rfl, trivial⟩ rfl ⟨clF (flatA3 _ _ _ _), trivial⟩ rfl (by first | rfl | simp [mpV, mpA, mpS, mpP, renId, shift]) (by first | rfl | simp [mpV, mpA, mpS, mpP, renId, shift]) ⟨enF (flatA3 _ _ _ _) (Or.inl rfl), trivial⟩) ?_
          refine segEnd [10, 11, 13, 16, 18, 19] (T1 := (mkT 111 [(10, vP 4 0), (11, .bool true), (13, vP 8 0), (16, vN (1 + 3 * (L).length)), (18, vP 12 0), (19, .bool true)])) (H1 := [some ⟨a3s L, 25, false, false⟩, rB [vN X, vN Y, vN Z, vS 0 L.length] 24, some ⟨a3s L, 25, false, true⟩, some ⟨a3s (L), 25, false, true⟩, rB [vN X2, vN Y2, vN Z2, vS 3 L.length] 29, some ⟨a3s (mk3 1 L.length), 25, false, true⟩, rB [vN X, vN Y, vN Z, vS 5 L.length] 29, some ⟨a3s (mk3 1 (L).length), 25, false, true⟩, rB [vN X2, vN Y2, vN Z2, vS 7 L.length] 29, some ⟨a3s L, 25, false, true⟩, some ⟨a3s L, 25, false, true⟩, some ⟨a3s (L), 25, false, true⟩, rB [vN X2, vN Y2, vN Z2, vS 11 L.length] 29]) (by kernel_rfl) ?_
          refine kSeq ?_
          refine cSeq ?_
          refine cSeq ?_
          refine cReg ?_
          refine segH 2 (T1 := (mkT 111 [(10, vP 4 0), (11, .bool true), (13, vP 8 0), (16, vN (1 + 3 * (L).length)), (18, vP 12 0), (19, .bool true), (94, .agg #[vN X2, vN Y2, vN Z2, vS 11 L.length]), (95, .agg #[vN X2, vN Y2, vN Z2, vS 3 L.length])])) (by kernel_rfl) ?_
          refine rCall (v := .bool true) (args := [.agg #[vN X2, vN Y2, vN Z2, vS 11 L.length], .agg #[vN X2, vN Y2, vN Z2, vS 3 L.length]]) (by kernel_rfl) rfl (by kernel_rfl) (Sound.lay0 [11, 3] (eqHeapB ((X2 : Nat) : Int) ((Y2 : Nat) : Int) ((Z2 : Nat) : Int) (L) (by first | omega | assumption | (simp; done))) ⟨rdF true (flatA3 _ _ _ _) rfl rfl, ⟨rdF true (flatA3 _ _ _ _) rfl rfl, trivial⟩⟩ rfl ⟨clF (flatA3 _ _ _ _), ⟨clF (flatA3 _ _ _ _), trivial⟩⟩ rfl (by first | rfl | simp [mpV, mpA, mpS, mpP, renId, shift]) rfl) ?_
          refine segEndH [13, 16, 102] (T1 := (mkT 111 [(13, vP 8 0), (16, vN (1 + 3 * (L).length)), (102, .bool false)])) (by kernel_rfl) ?_
          refine kSeq ?_
          refine cFalse (by kernel_rfl) ?_
          refine cSkip ?_
          refine kSeq ?_
          refine cSeq ?_
          refine cReg ?_
          refine segEndH [13, 16, 17] (T1 := (mkT 111 [(13, vP 8 0), (16, vN (1 + 3 * (L).length)), (17, vI 1)])) (by kernel_rfl) ?_
          refine kSeq ?_
          refine cSeq ?_
          refine cReg ?_
          refine segH 2 (T1 := (mkT 111 [(13, vP 8 0), (16, vN (1 + 3 * (L).length)), (17, vI 1), (103, .agg #[vN X2, vN Y2, vN Z2, vS 7 L.length]), (104, vI 1)])) (by kernel_rfl) ?_
          refine rCall (v := vN (1 + 3 * L.length)) (args := [.agg #[vN X2, vN Y2, vN Z2, vS 7 L.length], vI 1]) (by kernel_rfl) rfl (by kernel_rfl) (Sound.lay0 [7] (heldHeapB ((X2 : Nat) : Int) ((Y2 : Nat) : Int) ((Z2 : Nat) : Int) 1 L.length (by first | omega | assumption | (simp; done)) (by first | assumption | omega | rfl | decide | exact HeapL.list _ _ _ _ | exact HeapL.nil _ _ _ | exact HeapL.all _ _ _ | (apply HeapL.lt64 <;> assumption) | (repeat' (first | assumption | apply or_lt64 | apply and_lt64 | apply andn_lt64 | apply pow_lt64 | (apply HeapL.lt64 <;> assumption))))) ⟨rdF true (flatA3 _ _ _ _) rfl rfl, trivial⟩ rfl ⟨clF (flatA3 _ _ _ _), trivial⟩ rfl (by first | rfl | simp [mpV, mpA, mpS, mpP, renId, shift]) rfl) ?_
          refine segEndH [16, 17] (T1 := (mkT 111 [(16, vN (1 + 3 * (L).length)), (17, vN (1 + 3 * L.length))])) (by kernel_rfl) ?_
          refine kSeq ?_
          refine cSeq ?_
          refine cSeq ?_
          refine cReg ?_
          refine segEndH [16, 17, 107] (T1 := (mkT 111 [(16, vN (1 + 3 * (L).length)), (17, vN (1 + 3 * L.length)), (107, .bool (decide (((1 + 3 * L.length : Nat) : Int) < 0)))])) (by kernel_rfl) ?_
          refine kSeq ?_
          cases h5 : (decide (((1 + 3 * L.length : Nat) : Int) < 0) : Bool)
          ·
            (try simp only [Bool.not_eq_true', Bool.not_eq_false', decide_eq_true_eq, decide_eq_false_iff_not, beq_iff_eq, bne_iff_ne, beq_eq_false_iff_ne, bne_eq_false_iff_eq, ne_eq, Decidable.not_not, Bool.and_eq_true, Bool.and_eq_false_imp, Bool.or_eq_true, Bool.or_eq_false_iff, Bool.not_eq_true, Int.not_lt, Int.not_le, ge_iff_le, gt_iff_lt] at h5)
            refine cFalse (by kernel_rfl) ?_
            refine cSkip ?_
            refine kSeq ?_
            refine cSeq ?_
            refine cSeq ?_
            refine cReg ?_
            refine segEndH [110] (T1 := (mkT 111 [(110, .bool (((1 + 3 * L.length : Nat) : Int) != ((1 + 3 * (L).length : Nat) : Int)))])) (by kernel_rfl) ?_
            refine kSeq ?_
            cases h6 : ((((1 + 3 * L.length : Nat) : Int) != ((1 + 3 * (L).length : Nat) : Int)) : Bool)
            ·
              (try simp only [Bool.not_eq_true', Bool.not_eq_false', decide_eq_true_eq, decide_eq_false_iff_not, beq_iff_eq, bne_iff_ne, beq_eq_false_iff_ne, bne_eq_false_iff_eq, ne_eq, Decidable.not_not, Bool.and_eq_true, Bool.and_eq_false_imp, Bool.or_eq_true, Bool.or_eq_false_iff, Bool.not_eq_true, Int.not_lt, Int.not_le, ge_iff_le, gt_iff_lt] at h6)
              refine cFalse (by kernel_rfl) ?_
              refine cSkip ?_
              refine kSeq ?_
              refine cSeq ?_
              refine cReg ?_
              refine segEndH [8] (T1 := (mkT 111 [(8, .bool true)])) (by kernel_rfl) ?_
              refine kSeq ?_
              refine cRet ?_
              -- end
              exact endQ (Or.inr rfl) (l := [.bool true]) [rB [vN X, vN Y, vN Z, vS 0 L.length] 24, some ⟨a3s L, 25, false, true⟩, some ⟨a3s (L), 25, false, true⟩, rB [vN X2, vN Y2, vN Z2, vS 3 L.length] 29, some ⟨a3s (mk3 1 L.length), 25, false, true⟩, rB [vN X, vN Y, vN Z, vS 5 L.length] 29, some ⟨a3s (mk3 1 (L).length), 25, false, true⟩, rB [vN X2, vN Y2, vN Z2, vS 7 L.length] 29, some ⟨a3s L, 25, false, true⟩, some ⟨a3s L, 25, false, true⟩, some ⟨a3s (L), 25, false, true⟩, rB [vN X2, vN Y2, vN Z2, vS 11 L.length] 29] (by kernel_rfl) (by first | rfl | kernel_rfl) rfl rfl hcl rfl
            ·
              (try simp only [Bool.not_eq_true', Bool.not_eq_false', decide_eq_true_eq, decide_eq_false_iff_not, beq_iff_eq, bne_iff_ne, beq_eq_false_iff_ne, bne_eq_false_iff_eq, ne_eq, Decidable.not_not, Bool.and_eq_true, Bool.and_eq_false_imp, Bool.or_eq_true, Bool.or_eq_false_iff, Bool.not_eq_true, Int.not_lt, Int.not_le, ge_iff_le, gt_iff_lt] at h6)
              refine cTrue (by kernel_rfl) ?_
              refine cSeq ?_
              refine cReg ?_
              refine segEndH [8] (T1 := (mkT 111 [(8, .bool false)])) (by kernel_rfl) ?_
              refine kSeq ?_
              refine cRet ?_
              refine kSeqR ?_
              -- end
              have he0 : (false : Bool) = true := by first | omega | assumption | rfl | (symm; assumption) | (simp_all; done)
              refine endCast (v1 := .bool false) (H1 := [some ⟨a3s L, 25, false, false⟩]) (by first | rfl | ((try rw [he0]); done) | (simp only [he0]; done)) (by first | rfl | ((try rw [he0]); done) | (simp only [he0]; done)) ?_
              exact endQ (Or.inr rfl) (l := [.bool false]) [rB [vN X, vN Y, vN Z, vS 0 L.length] 24, some ⟨a3s L, 25, false, true⟩, some ⟨a3s (L), 25, false, true⟩, rB [vN X2, vN Y2, vN Z2, vS 3 L.length] 29, some ⟨a3s (mk3 1 L.length), 25, false, true⟩, rB [vN X, vN Y, vN Z, vS 5 L.length] 29, some ⟨a3s (mk3 1 (L).length), 25, false, true⟩, rB [vN X2, vN Y2, vN Z2, vS 7 L.length] 29, some ⟨a3s L, 25, false, true⟩, some ⟨a3s L, 25, false, true⟩, some ⟨a3s (L), 25, false, true⟩, rB [vN X2, vN Y2, vN Z2, vS 11 L.length] 29] (by kernel_rfl) (by first | rfl | kernel_rfl) rfl rfl hcl rfl
          ·
            (try simp only [Bool.not_eq_true', Bool.not_eq_false', decide_eq_true_eq, decide_eq_false_iff_not, beq_iff_eq, bne_iff_ne, beq_eq_false_iff_ne, bne_eq_false_iff_eq, ne_eq, Decidable.not_not, Bool.and_eq_true, Bool.and_eq_false_imp, Bool.or_eq_true, Bool.or_eq_false_iff, Bool.not_eq_true, Int.not_lt, Int.not_le, ge_iff_le, gt_iff_lt] at h5)
            exfalso; omega
        ·
          (try simp only [Bool.not_eq_true', Bool.not_eq_false', decide_eq_true_eq, decide_eq_false_iff_not, beq_iff_eq, bne_iff_ne, beq_eq_false_iff_ne, bne_eq_false_iff_eq, ne_eq, Decidable.not_not, Bool.and_eq_true, Bool.and_eq_false_imp, Bool.or_eq_true, Bool.or_eq_false_iff, Bool.not_eq_true, Int.not_lt, Int.not_le, ge_iff_le, gt_iff_lt] at h4)
          refine cTrue (by kernel_rfl) ?_
          refine cSeq ?_
          refine cReg ?_
          refine segEndH [8] (T1 := (mkT 111 [(8, .bool false)])) (by kernel_rfl) ?_
          refine kSeq ?_
          refine cRet ?_
          refine kSeqR ?_
          -- end
          have he0 : (false : Bool) = true := by first | omega | assumption | rfl | (symm; assumption) | (simp_all; done)
          refine endCast (v1 := .bool false) (H1 := [some ⟨a3s L, 25, false, false⟩]) (by first | rfl | ((try rw [he0]); done) | (simp only [he0]; done)) (by first | rfl | ((try rw [he0]); done) | (simp only [he0]; done)) ?_
          exact endQ (Or.inr rfl) (l := [.bool false]) [rB [vN X, vN Y, vN Z, vS 0 L.length] 24, some ⟨a3s L, 25, false, true⟩, some ⟨a3s (L), 25, false, true⟩, rB [vN X2, vN Y2, vN Z2, vS 3 L.length] 29, some ⟨a3s (mk3 1 L.length), 25, false, true⟩, rB [vN X, vN Y, vN Z, vS 5 L.length] 29, some ⟨a3s (mk3 1 (L).length), 25, false, true⟩, rB [vN X2, vN Y2, vN Z2, vS 7 L.length] 29, some ⟨a3s L, 25, false, true⟩] (by kernel_rfl) (by first | rfl | kernel_rfl) rfl rfl hcl rfl
      ·
        (try simp only [Bool.not_eq_true', Bool.not_eq_false', decide_eq_true_eq, decide_eq_false_iff_not, beq_iff_eq, bne_iff_ne, beq_eq_false_iff_ne, bne_eq_false_iff_eq, ne_eq, Decidable.not_not, Bool.and_eq_true, Bool.and_eq_false_imp, Bool.or_eq_true, Bool.or_eq_false_iff, Bool.not_eq_true, Int.not_lt, Int.not_le, ge_iff_le, gt_iff_lt] at h3)
        exfalso; omega
    ·
      (try simp only [Bool.not_eq_true', Bool.not_eq_false', decide_eq_true_eq, decide_eq_false_iff_not, beq_iff_eq, bne_iff_ne, beq_eq_false_iff_ne, bne_eq_false_iff_eq, ne_eq, Decidable.not_not, Bool.and_eq_true, Bool.and_eq_false_imp, Bool.or_eq_true, Bool.or_eq_false_iff, Bool.not_eq_true, Int.not_lt, Int.not_le, ge_iff_le, gt_iff_lt] at h2)
      exfalso; omega
  ·
    (try simp only [Bool.not_eq_true', Bool.not_eq_false', decide_eq_true_eq, decide_eq_false_iff_not, beq_iff_eq, bne_iff_ne, beq_eq_false_iff_ne, bne_eq_false_iff_eq, ne_eq, Decidable.not_not, Bool.and_eq_true, Bool.and_eq_false_imp, Bool.or_eq_true, Bool.or_eq_false_iff, Bool.not_eq_true, Int.not_lt, Int.not_le, ge_iff_le, gt_iff_lt] at h1)
    exfalso; omega

set_option maxRecDepth 100000 in
set_option maxHeartbeats 4000000 in
theorem lawWidenHeap_in_n (X : Nat) (Y : Nat) (Z : Nat) (X2 : Nat) (Y2 : Nat) (Z2 : Nat) (hs : Sides X Y Z) (hs2 : Sides X2 Y2 Z2) : Sound Try.prog 12 [.agg #[vN X, vN Y, vN Z, .slice none 0 0], vN X2, vN Y2, vN Z2] [] (.bool true) [] := by
  refine sound_intro (C := cx) Try.func12 rfl (by kernel_rfl) fun hcl => ?_
  have hz := hs.size
  have hx0 := hs.x0
  have hx4 := hs.x4
  have hy0 := hs.y0
  have hy4 := hs.y4
  have hz0 := hs.z0
  have hz4 := hs.z4
  have hlen : ([] : List A3).length ≤ 64 := by first | (have := hL.len; have := hs.size; omega) | simp
  refine cSeq ?_
  refine cReg ?_
  refine segEnd [1, 2, 3, 4] (T1 := (mkT 111 [(1, vN X2), (2, vN Y2), (3, vN Z2), (4, vP 0 0)])) (H1 := [rB [vN X, vN Y, vN Z, .slice none 0 0] 24]) (by kernel_rfl) ?_
  refine kSeq ?_
  refine cSeq ?_
  refine cReg ?_
  refine segEndH [1, 2, 3, 4, 9] (T1 := (mkT 111 [(1, vN X2), (2, vN Y2), (3, vN Z2), (4, vP 0 0), (9, vI 1048576)])) (by kernel_rfl) ?_
  refine kSeq ?_
  refine cSeq ?_
  refine cReg ?_
  refine segH 2 (T1 := (mkT 111 [(1, vN X2), (2, vN Y2), (3, vN Z2), (4, vP 0 0), (9, vI 1048576), (20, .agg #[vN X, vN Y, vN Z, .slice none 0 0]), (21, vI 1048576)])) (by kernel_rfl) ?_
  refine rCall (v := vI 1048576) (args := [.agg #[vN X, vN Y, vN Z, .slice none 0 0], vI 1048576]) (by kernel_rfl) rfl (by kernel_rfl) (Sound.lay0 [] (szHeapN ((X : Nat) : Int) ((Y : Nat) : Int) ((Z : Nat) : Int) 1048576 (by first | omega | assumption | decide)) trivial rfl trivial rfl (by first | rfl | simp [mpV, mpA, mpS, mpP, renId, shift]) rfl) ?_
  refine segEndH [1, 2, 3, 4, 9] (T1 := (mkT 111 [(1, vN X2), (2, vN Y2), (3, vN Z2), (4, vP 0 0), (9, vI 1048576)])) (by kernel_rfl) ?_
  refine kSeq ?_
  refine cSeq ?_
  refine cSeq ?_
  refine cReg ?_
  refine segEndH [1, 2, 3, 4, 24] (T1 := (mkT 111 [(1, vN X2), (2, vN Y2), (3, vN Z2), (4, vP 0 0), (24, .bool false)])) (by kernel_rfl) ?_
  refine kSeq ?_
  refine cFalse (by kernel_rfl) ?_
  refine cSkip ?_
  refine kSeq ?_
  refine cSeq ?_
  refine cReg ?_
  refine segH 1 (T1 := (mkT 111 [(1, vN X2), (2, vN Y2), (3, vN Z2), (4, vP 0 0), (24, .bool false), (26, .agg #[vN X, vN Y, vN Z, .slice none 0 0])])) (by kernel_rfl) ?_
  refine rCall (v := .agg #[vN X, vN Y, vN Z, vS 1 0]) (args := [.agg #[vN X, vN Y, vN Z, .slice none 0 0]]) (by kernel_rfl) rfl (by kernel_rfl) (Sound.lay (E := [some ⟨[], 25, false, true⟩]) [] (toHeapN ((X : Nat) : Int) ((Y : Nat) : Int) ((Z : Nat) : Int)) trivial rfl trivial rfl (by first | rfl | simp [mpV, mpA, mpS, mpP, renId, shift]) (by first | rfl | simp [mpV, mpA, mpS, mpP, renId, shift]) ⟨enX rfl (Or.inl rfl), trivial⟩) ?_
  refine seg 3 (T1 := (mkT 111 [(1, vN X2), (2, vN Y2), (3, vN Z2), (4, vP 0 0), (24, .bool false), (26, .agg #[vN X, vN Y, vN Z, .slice none 0 0]), (27, .agg #[vN X, vN Y, vN Z, vS 1 0]), (28, vN X2), (29, vN Y2), (30, vN Z2)])) (H1 := [rB [vN X, vN Y, vN Z, .slice none 0 0] 24, some ⟨[], 25, false, true⟩]) (by kernel_rfl) ?_
  refine rCall (v := .tuple #[.agg #[vN X2, vN Y2, vN Z2, vS 2 (([] : List A3).length)], .bool true]) (args := [.agg #[vN X, vN Y, vN Z, vS 1 0], vN X2, vN Y2, vN Z2]) (by kernel_rfl) rfl (by kernel_rfl) (Sound.lay (E := [some ⟨a3s (([] : List A3)), 25, false, true⟩]) [1] (specWidenHeap_in X Y Z X2 Y2 Z2 ([] : List A3) (by first | assumption | omega | rfl | decide | exact HeapL.list _ _ _ _ | exact HeapL.nil _ _ _ | exact HeapL.all _ _ _ | (apply HeapL.lt64 <;> assumption) | (repeat' (first | assumption | apply or_lt64 | apply and_lt64 | apply andn_lt64 | apply pow_lt64 | (apply HeapL.lt64 <;> assumption)))) (by first | assumption | omega | rfl | decide | exact HeapL.list _ _ _ _ | exact HeapL.nil _ _ _ | exact HeapL.all _ _ _ | (apply HeapL.lt64 <;> assumption) | (repeat' (first | assumption | apply or_lt64 | apply and_lt64 | apply andn_lt64 | apply pow_lt64 | (apply HeapL.lt64 <;> assumption)))) (by first | assumption | omega | rfl | decide | exact HeapL.list _ _ _ _ | exact HeapL.nil _ _ _ | exact HeapL.all _ _ _ | (apply HeapL.lt64 <;> assumption) | (repeat' (first | assumption | apply or_lt64 | apply and_lt64 | apply andn_lt64 | apply pow_lt64 | (apply HeapL.lt64 <;> assumption)))) (by first | assumption | omega | rfl | decide | exact HeapL.list _ _ _ _ | exact HeapL.nil _ _ _ | exact HeapL.all _ _ _ | (apply HeapL.lt64 <;> assumption) | (repeat' (first | assumption | apply or_lt64 | apply and_lt64 | apply andn_lt64 | apply pow_lt64 | (apply HeapL.lt64 <;> assumption))))) ⟨rdF true (flatA3 _ _ _ _) rfl rfl, trivial⟩ rfl ⟨clF (flatA3 _ _ _ _), trivial⟩ rfl (by first | rfl | simp [mpV, mpA, mpS, mpP, renId, shift]) (by first | rfl | simp [mpV, mpA, mpS, mpP, renId, shift]) ⟨enF (flatA3 _ _ _ _) (Or.inl rfl), trivial⟩) ?_
  refine segEnd [1, 2, 3, 4, 10, 11] (T1 := (mkT 111 [(1, vN X2), (2, vN Y2), (3, vN Z2), (4, vP 0 0), (10, vP 3 0), (11, .bool true)])) (H1 := [rB [vN X, vN Y, vN Z, .slice none 0 0] 24, some ⟨[], 25, false, true⟩, some ⟨a3s (([] : List A3)), 25, false, true⟩, rB [vN X2, vN Y2, vN Z2, vS 2 (([] : List A3).length)] 29]) (by kernel_rfl) ?_
  refine kSeq ?_
  refine cSeq ?_
  refine cReg ?_
  refine segH 1 (T1 := (mkT 111 [(1, vN X2), (2, vN Y2), (3, vN Z2), (4, vP 0 0), (10, vP 3 0), (11, .bool true), (34, .agg #[vN X, vN Y, vN Z, .slice none 0 0])])) (by kernel_rfl) ?_
  refine rCall (v := .agg #[vN X, vN Y, vN Z, vS 4 0]) (args := [.agg #[vN X, vN Y, vN Z, .slice none 0 0]]) (by kernel_rfl) rfl (by kernel_rfl) (Sound.lay (E := [some ⟨[], 25, false, true⟩]) [] (toHeapN ((X : Nat) : Int) ((Y : Nat) : Int) ((Z : Nat) : Int)) trivial rfl trivial rfl (by first | rfl | simp [mpV, mpA, mpS, mpP, renId, shift]) (by first | rfl | simp [mpV, mpA, mpS, mpP, renId, shift]) ⟨enX rfl (Or.inl rfl), trivial⟩) ?_
  refine segEnd [1, 2, 3, 4, 10, 11, 12] (T1 := (mkT 111 [(1, vN X2), (2, vN Y2), (3, vN Z2), (4, vP 0 0), (10, vP 3 0), (11, .bool true), (12, vP 5 0)])) (H1 := [rB [vN X, vN Y, vN Z, .slice none 0 0] 24, some ⟨[], 25, false, true⟩, some ⟨a3s (([] : List A3)), 25, false, true⟩, rB [vN X2, vN Y2, vN Z2, vS 2 (([] : List A3).length)] 29, some ⟨[], 25, false, true⟩, rB [vN X, vN Y, vN Z, vS 4 0] 29]) (by kernel_rfl) ?_
  refine kSeq ?_
  refine cSeq ?_
  refine cReg ?_
  refine segH 4 (T1 := (mkT 111 [(1, vN X2), (2, vN Y2), (3, vN Z2), (4, vP 0 0), (10, vP 3 0), (11, .bool true), (12, vP 5 0), (37, .agg #[vN X, vN Y, vN Z, vS 4 0]), (38, vN X2), (39, vN Y2), (40, vN Z2)])) (by kernel_rfl) ?_
  refine rCall (v := .tuple #[.agg #[vN X2, vN Y2, vN Z2, vS 6 (([] : List A3).length)], .bool true]) (args := [.agg #[vN X, vN Y, vN Z, vS 4 0], vN X2, vN Y2, vN Z2]) (by kernel_rfl) rfl (by kernel_rfl) (Sound.lay (E := [some ⟨a3s (([] : List A3)), 25, false, true⟩]) [4] (implWidenHeap_in X Y Z X2 Y2 Z2 ([] : List A3) (by first | assumption | omega | rfl | decide | exact HeapL.list _ _ _ _ | exact HeapL.nil _ _ _ | exact HeapL.all _ _ _ | (apply HeapL.lt64 <;> assumption) | (repeat' (first | assumption | apply or_lt64 | apply and_lt64 | apply andn_lt64 | apply pow_lt64 | (apply HeapL.lt64 <;> assumption)))) (by first | assumption | omega | rfl | decide | exact HeapL.list _ _ _ _ | exact HeapL.nil _ _ _ | exact HeapL.all _ _ _ | (apply HeapL.lt64 <;> assumption) | (repeat' (first | assumption | apply or_lt64 | apply and_lt64 | apply andn_lt64 | apply pow_lt64 | (apply HeapL.lt64 <;> assumption)))) (by first | assumption | omega | rfl | decide | exact HeapL.list _ _ _ _ | exact HeapL.nil _ _ _ | exact HeapL.all _ _ _ | (apply HeapL.lt64 <;> assumption) | (repeat' (first | assumption | apply or_lt64 | apply and_lt64 | apply andn_lt64 | apply pow_lt64 | (apply HeapL.lt64 <;> assumption)))) (by first | assumption | omega | rfl | decide | exact HeapL.list _ _ _ _ | exact HeapL.nil _ _ _ | exact HeapL.all _ _ _ | (apply HeapL.lt64 <;> assumption) | (repeat' (first | assumption | apply or_lt64 | apply and_lt64 | apply andn_lt64 | apply pow_lt64 | (apply HeapL.lt64 <;> assumption))))) ⟨rdF true (flatA3 _ _ _ _) rfl rfl, trivial⟩ rfl ⟨clF (flatA3 _ _ _ _), trivial⟩ rfl (by first | rfl | simp [mpV, mpA, mpS, mpP, renId, shift]) (by first | rfl | simp [mpV, mpA, mpS, mpP, renId, shift]) ⟨enF (flatA3 _ _ _ _) (Or.inl rfl), trivial⟩) ?_
  refine segEnd [1, 2, 3, 4, 10, 11, 12, 13, 14] (T1 := (mkT 111 [(1, vN X2), (2, vN Y2), (3, vN Z2), (4, vP 0 0), (10, vP 3 0), (11, .bool true), (12, vP 5 0), (13, vP 7 0), (14, .bool true)])) (H1 := [rB [vN X, vN Y, vN Z, .slice none 0 0] 24, some ⟨[], 25, false, true⟩, some ⟨a3s (([] : List A3)), 25, false, true⟩, rB [vN X2, vN Y2, vN Z2, vS 2 (([] : List A3).length)] 29, some ⟨[], 25, false, true⟩, rB [vN X, vN Y, vN Z, vS 4 0] 29, some ⟨a3s (([] : List A3)), 25, false, true⟩, rB [vN X2, vN Y2, vN Z2, vS 6 (([] : List A3).length)] 29]) (by kernel_rfl) ?_
  refine kSeq ?_
  refine cSeq ?_
  refine cSeq ?_
  refine cReg ?_
  refine segH 2 (T1 := (mkT 111 [(1, vN X2), (2, vN Y2), (3, vN Z2), (4, vP 0 0), (10, vP 3 0), (11, .bool true), (12, vP 5 0), (13, vP 7 0), (14, .bool true), (44, .agg #[vN X2, vN Y2, vN Z2, vS 6 (([] : List A3).length)]), (45, .agg #[vN X2, vN Y2, vN Z2, vS 2 (([] : List A3).length)])])) (by kernel_rfl) ?_
  refine rCall (v := .bool true) (H' := [rB [vN X, vN Y, vN Z, .slice none 0 0] 24, some ⟨[], 25, false, true⟩, some ⟨a3s (([] : List A3)), 25, false, true⟩, rB [vN X2, vN Y2, vN Z2, vS 2 (([] : List A3).length)] 29, some ⟨[], 25, false, true⟩, rB [vN X, vN Y, vN Z, vS 4 0] 29, some ⟨a3s (([] : List A3)), 25, false, true⟩, rB [vN X2, vN Y2, vN Z2, vS 6 (([] : List A3).length)] 29]) (args := [.agg #[vN X2, vN Y2, vN Z2, vS 6 (([] : List A3).length)], .agg #[vN X2, vN Y2, vN Z2, vS 2 (([] : List A3).length)]]) (by kernel_rfl) rfl (by kernel_rfl) (Sound.reads2 6 2 true true (eqHeap_same ((X2 : Nat) : Int) ((Y2 : Nat) : Int) ((Z2 : Nat) : Int) (([] : List A3)) (by first | omega | (simp only [allOf_length, List.length_nil, mk3_length]; omega))) (flatA3 _ _ _ _) (flatA3 _ _ _ _) rfl rfl rfl rfl rfl (by first | rfl | simp [mpV, mpA, mpS, mpP, renId, shift]) rfl) ?_
  refine segEndH [1, 2, 3, 4, 10, 11, 12, 13, 14, 52] (T1 := (mkT 111 [(1, vN X2), (2, vN Y2), (3, vN Z2), (4, vP 0 0), (10, vP 3 0), (11, .bool true), (12, vP 5 0), (13, vP 7 0), (14, .bool true), (52, .bool false)])) (by kernel_rfl) ?_
  refine kSeq ?_
  refine cFalse (by kernel_rfl) ?_
  refine cSkip ?_
  refine kSeq ?_
  refine cSeq ?_
  refine cSeq ?_
  refine cRegW (N := 9) [⟨[], [], [5]⟩, ⟨[], [], [0]⟩, ⟨[8], [], []⟩, ⟨[], [], [4, 8]⟩, ⟨[], [], []⟩] 1 [8] (by rfl) (by rfl) (by kernel_rfl) (by kernel_rfl) (by kernel_rfl) ⟨nmsX (by kernel_rfl), ⟨nmsX (by kernel_rfl), ⟨nmsF (flatA3 _ _ _ _), ⟨nmsX (by kernel_rfl), ⟨nmsX (by kernel_rfl), ⟨nmsX (by kernel_rfl), ⟨nmsF (flatA3 _ _ _ _), ⟨nmsX (by kernel_rfl), trivial⟩⟩⟩⟩⟩⟩⟩⟩ ?_
  refine segWH 2 (T1 := (mkT 111 [(1, vN X2), (2, vN Y2), (3, vN Z2), (4, vP 0 0), (10, vP 3 0), (11, .bool true), (12, vP 5 0), (13, vP 7 0), (14, .bool true), (52, .bool false), (53, .agg #[vN X, vN Y, vN Z, vS 4 0]), (54, .agg #[vN X, vN Y, vN Z, .slice none 0 0])])) (by kernel_rfl) ?_
  refine rW (m := ⟨[8], [], []⟩) (v := .agg #[vN X, vN Y, vN Z, vS 8 0]) rfl (by kernel_rfl) (stN (i := 8) (E := [some ⟨[], 25, false, true⟩]) (v1 := .agg #[vN X, vN Y, vN Z, vS 9 0]) (args := [.agg #[vN X, vN Y, vN Z, .slice none 0 0]]) rfl (by kernel_rfl) (Any.lay (E := [some ⟨[], 25, false, true⟩]) (N := 9) [] (toHeapN ((X : Nat) : Int) ((Y : Nat) : Int) ((Z : Nat) : Int)) trivial rfl trivial rfl (by first | rfl | simp [mpV, mpA, mpS, mpP, renId, shift]) (by first | rfl | simp [mpV, mpA, mpS, mpP, renId, shift]) ⟨enX rfl (Or.inl rfl), trivial⟩) rfl (by kernel_rfl) (by kernel_rfl) (by kernel_rfl) (by kernel_rfl) (FlatH.cons (flatRow_of rfl) FlatH.nil)) (by kernel_rfl) (NRs.all ⟨nrOf (by rfl) (nmX (by kernel_rfl)), trivial⟩) ?_
  refine rW (m := ⟨[], [], [4, 8]⟩) (v := .bool true) rfl (by kernel_rfl) (stQ (args := [.agg #[vN X, vN Y, vN Z, vS 4 0], .agg #[vN X, vN Y, vN Z, vS 8 0]]) rfl (by kernel_rfl) (Any.lay0 [4, 8] (eqHeapB ((X : Nat) : Int) ((Y : Nat) : Int) ((Z : Nat) : Int) ([] : List A3) (by first | omega | assumption | (simp; done))) ⟨rdF true (flatA3 _ _ _ _) rfl rfl, ⟨rdF true (flatA3 _ _ _ _) rfl rfl, trivial⟩⟩ rfl ⟨clF (flatA3 _ _ _ _), ⟨clF (flatA3 _ _ _ _), trivial⟩⟩ rfl (by first | rfl | simp [mpV, mpA, mpS, mpP, renId, shift]) rfl) rfl (by kernel_rfl) (by kernel_rfl)) (by kernel_rfl) nr0 ?_
  refine segEndW [1, 2, 3, 4, 10, 11, 12, 13, 14, 57] (T1 := (mkT 111 [(1, vN X2), (2, vN Y2), (3, vN Z2), (4, vP 0 0), (10, vP 3 0), (11, .bool true), (12, vP 5 0), (13, vP 7 0), (14, .bool true), (57, .bool false)])) (H1 := [rB [vN X, vN Y, vN Z, .slice none 0 0] 24, some ⟨[], 25, false, true⟩, some ⟨a3s (([] : List A3)), 25, false, true⟩, rB [vN X2, vN Y2, vN Z2, vS 2 (([] : List A3).length)] 29, some ⟨[], 25, false, true⟩, rB [vN X, vN Y, vN Z, vS 4 0] 29, some ⟨a3s (([] : List A3)), 25, false, true⟩, rB [vN X2, vN Y2, vN Z2, vS 6 (([] : List A3).length)] 29, some ⟨[], 25, false, true⟩]) (by kernel_rfl) ?_
  refine kSeq ?_
  refine cFalse (by kernel_rfl) ?_
  refine cSkip ?_
  refine kSeq ?_
  refine cSeq ?_
  refine cReg ?_
  refine segEndH [1, 2, 3, 4, 10, 11, 12, 13, 14, 15] (T1 := (mkT 111 [(1, vN X2), (2, vN Y2), (3, vN Z2), (4, vP 0 0), (10, vP 3 0), (11, .bool true), (12, vP 5 0), (13, vP 7 0), (14, .bool true), (15, vI 1)])) (by kernel_rfl) ?_
  refine kSeq ?_
  refine cSeq ?_
  refine cReg ?_
  refine segH 2 (T1 := (mkT 111 [(1, vN X2), (2, vN Y2), (3, vN Z2), (4, vP 0 0), (10, vP 3 0), (11, .bool true), (12, vP 5 0), (13, vP 7 0), (14, .bool true), (15, vI 1), (58, .agg #[vN X, vN Y, vN Z, vS 4 0]), (59, vI 1)])) (by kernel_rfl) ?_
  refine rCall (v := vN (1 + 3 * ([] : List A3).length)) (args := [.agg #[vN X, vN Y, vN Z, vS 4 0], vI 1]) (by kernel_rfl) rfl (by kernel_rfl) (Sound.emb_set (r := ⟨a3s ([] : List A3), 25, false, true⟩) (r' := ⟨a3s (mk3 1 ([] : List A3).length), 25, false, true⟩) 4 (markHeapB ((X : Nat) : Int) ((Y : Nat) : Int) ((Z : Nat) : Int) ([] : List A3) 1 (by first | omega | assumption | (simp; done)) (by first | assumption | omega | rfl | decide | exact HeapL.list _ _ _ _ | exact HeapL.nil _ _ _ | exact HeapL.all _ _ _ | (apply HeapL.lt64 <;> assumption) | (repeat' (first | assumption | apply or_lt64 | apply and_lt64 | apply andn_lt64 | apply pow_lt64 | (apply HeapL.lt64 <;> assumption))))) (flatA3 _ _ _ _) rfl (flatA3 _ _ _ _) rfl rfl rfl (by first | rfl | simp [mpV, mpA, mpS, mpP, renId, shift]) rfl) ?_
  refine segEnd [1, 2, 3, 4, 10, 11, 13, 14, 15] (T1 := (mkT 111 [(1, vN X2), (2, vN Y2), (3, vN Z2), (4, vP 0 0), (10, vP 3 0), (11, .bool true), (13, vP 7 0), (14, .bool true), (15, vN (1 + 3 * ([] : List A3).length))])) (H1 := [rB [vN X, vN Y, vN Z, .slice none 0 0] 24, some ⟨[], 25, false, true⟩, some ⟨a3s (([] : List A3)), 25, false, true⟩, rB [vN X2, vN Y2, vN Z2, vS 2 (([] : List A3).length)] 29, some ⟨a3s (mk3 1 ([] : List A3).length), 25, false, true⟩, rB [vN X, vN Y, vN Z, vS 4 0] 29, some ⟨a3s (([] : List A3)), 25, false, true⟩, rB [vN X2, vN Y2, vN Z2, vS 6 (([] : List A3).length)] 29, some ⟨[], 25, false, true⟩]) (by kernel_rfl) ?_
  refine kSeq ?_
  refine cSeq ?_
  refine cSeq ?_
  refine cReg ?_
  refine segH 3 (T1 := (mkT 111 [(1, vN X2), (2, vN Y2), (3, vN Z2), (4, vP 0 0), (10, vP 3 0), (11, .bool true), (13, vP 7 0), (14, .bool true), (15, vN (1 + 3 * ([] : List A3).length)), (61, vN (1 + 3 * ([] : List A3).length)), (62, .bool (decide (((1 + 3 * ([] : List A3).length : Nat) : Int) < 0))), (63, .bool (decide (((1 + 3 * ([] : List A3).length : Nat) : Int) < 0)))])) (by kernel_rfl) ?_
  cases h1 : (decide (((1 + 3 * ([] : List A3).length : Nat) : Int) < 0) : Bool)
  ·
    (try simp only [Bool.not_eq_true', Bool.not_eq_false', decide_eq_true_eq, decide_eq_false_iff_not, beq_iff_eq, bne_iff_ne, beq_eq_false_iff_ne, bne_eq_false_iff_eq, ne_eq, Decidable.not_not, Bool.and_eq_true, Bool.and_eq_false_imp, Bool.or_eq_true, Bool.or_eq_false_iff, Bool.not_eq_true, Int.not_lt, Int.not_le, ge_iff_le, gt_iff_lt] at h1)
    refine seg 2 (T1 := (mkT 111 [(1, vN X2), (2, vN Y2), (3, vN Z2), (4, vP 0 0), (10, vP 3 0), (11, .bool true), (13, vP 7 0), (14, .bool true), (15, vN (1 + 3 * ([] : List A3).length)), (61, vN (1 + 3 * ([] : List A3).length)), (62, .bool false), (63, .bool false), (64, .agg #[vN X2, vN Y2, vN Z2, vS 6 (([] : List A3).length)]), (65, .agg #[vN X2, vN Y2, vN Z2, vS 2 (([] : List A3).length)])])) (H1 := [rB [vN X, vN Y, vN Z, .slice none 0 0] 24, some ⟨[], 25, false, true⟩, some ⟨a3s (([] : List A3)), 25, false, true⟩, rB [vN X2, vN Y2, vN Z2, vS 2 (([] : List A3).length)] 29, some ⟨a3s (mk3 1 ([] : List A3).length), 25, false, true⟩, rB [vN X, vN Y, vN Z, vS 4 0] 29, some ⟨a3s (([] : List A3)), 25, false, true⟩, rB [vN X2, vN Y2, vN Z2, vS 6 (([] : List A3).length)] 29, some ⟨[], 25, false, true⟩]) (by kernel_rfl) ?_
    refine rCall (v := .bool true) (H' := [rB [vN X, vN Y, vN Z, .slice none 0 0] 24, some ⟨[], 25, false, true⟩, some ⟨a3s (([] : List A3)), 25, false, true⟩, rB [vN X2, vN Y2, vN Z2, vS 2 (([] : List A3).length)] 29, some ⟨a3s (mk3 1 ([] : List A3).length), 25, false, true⟩, rB [vN X, vN Y, vN Z, vS 4 0] 29, some ⟨a3s (([] : List A3)), 25, false, true⟩, rB [vN X2, vN Y2, vN Z2, vS 6 (([] : List A3).length)] 29, some ⟨[], 25, false, true⟩]) (args := [.agg #[vN X2, vN Y2, vN Z2, vS 6 (([] : List A3).length)], .agg #[vN X2, vN Y2, vN Z2, vS 2 (([] : List A3).length)]]) (by kernel_rfl) rfl (by kernel_rfl) (Sound.reads2 6 2 true true (eqHeap_same ((X2 : Nat) : Int) ((Y2 : Nat) : Int) ((Z2 : Nat) : Int) (([] : List A3)) (by first | omega | (simp only [allOf_length, List.length_nil, mk3_length]; omega))) (flatA3 _ _ _ _) (flatA3 _ _ _ _) rfl rfl rfl rfl rfl (by first | rfl | simp [mpV, mpA, mpS, mpP, renId, shift]) rfl) ?_
    refine segEnd [1, 2, 3, 4, 10, 11, 13, 73] (T1 := (mkT 111 [(1, vN X2), (2, vN Y2), (3, vN Z2), (4, vP 0 0), (10, vP 3 0), (11, .bool true), (13, vP 7 0), (73, .bool false)])) (H1 := [rB [vN X, vN Y, vN Z, .slice none 0 0] 24, some ⟨[], 25, false, true⟩, some ⟨a3s (([] : List A3)), 25, false, true⟩, rB [vN X2, vN Y2, vN Z2, vS 2 (([] : List A3).length)] 29, some ⟨a3s (mk3 1 ([] : List A3).length), 25, false, true⟩, rB [vN X, vN Y, vN Z, vS 4 0] 29, some ⟨a3s (([] : List A3)), 25, false, true⟩, rB [vN X2, vN Y2, vN Z2, vS 6 (([] : List A3).length)] 29, some ⟨[], 25, false, true⟩]) (by kernel_rfl) ?_
    refine kSeq ?_
    refine cFalse (by kernel_rfl) ?_
    refine cSkip ?_
    refine kSeq ?_
    refine cSeq ?_
    refine cReg ?_
    refine segEndH [1, 2, 3, 4, 10, 11, 13, 16] (T1 := (mkT 111 [(1, vN X2), (2, vN Y2), (3, vN Z2), (4, vP 0 0), (10, vP 3 0), (11, .bool true), (13, vP 7 0), (16, vI 1)])) (by kernel_rfl) ?_
    refine kSeq ?_
    refine cSeq ?_
    refine cReg ?_
    refine segH 2 (T1 := (mkT 111 [(1, vN X2), (2, vN Y2), (3, vN Z2), (4, vP 0 0), (10, vP 3 0), (11, .bool true), (13, vP 7 0), (16, vI 1), (74, .agg #[vN X2, vN Y2, vN Z2, vS 6 (([] : List A3).length)]), (75, vI 1)])) (by kernel_rfl) ?_
    refine rCall (v := vN (1 + 3 * (([] : List A3)).length)) (H' := [rB [vN X, vN Y, vN Z, .slice none 0 0] 24, some ⟨[], 25, false, true⟩, some ⟨a3s (([] : List A3)), 25, false, true⟩, rB [vN X2, vN Y2, vN Z2, vS 2 (([] : List A3).length)] 29, some ⟨a3s (mk3 1 ([] : List A3).length), 25, false, true⟩, rB [vN X, vN Y, vN Z, vS 4 0] 29, some ⟨a3s (mk3 1 (([] : List A3)).length), 25, false, true⟩, rB [vN X2, vN Y2, vN Z2, vS 6 (([] : List A3).length)] 29, some ⟨[], 25, false, true⟩]) (args := [.agg #[vN X2, vN Y2, vN Z2, vS 6 (([] : List A3).length)], vI 1]) (by kernel_rfl) rfl (by kernel_rfl) (Sound.emb_set (r := ⟨a3s (([] : List A3)), 25, false, true⟩) (r' := ⟨a3s (mk3 1 (([] : List A3)).length), 25, false, true⟩) 6 (markHeap_ok ((X2 : Nat) : Int) ((Y2 : Nat) : Int) ((Z2 : Nat) : Int) (([] : List A3)) 1 (by first | omega | (simp only [allOf_length, List.length_nil, mk3_length]; omega)) (by omega)) (flatA3 _ _ _ _) rfl (flatA3 _ _ _ _) rfl rfl rfl (by first | rfl | simp [mpV, mpA, mpS, mpP, renId, shift]) rfl) ?_
    refine segEnd [1, 2, 3, 4, 10, 11, 13, 16] (T1 := (mkT 111 [(1, vN X2), (2, vN Y2), (3, vN Z2), (4, vP 0 0), (10, vP 3 0), (11, .bool true), (13, vP 7 0), (16, vN (1 + 3 * (([] : List A3)).length))])) (H1 := [rB [vN X, vN Y, vN Z, .slice none 0 0] 24, some ⟨[], 25, false, true⟩, some ⟨a3s (([] : List A3)), 25, false, true⟩, rB [vN X2, vN Y2, vN Z2, vS 2 (([] : List A3).length)] 29, some ⟨a3s (mk3 1 ([] : List A3).length), 25, false, true⟩, rB [vN X, vN Y, vN Z, vS 4 0] 29, some ⟨a3s (mk3 1 (([] : List A3)).length), 25, false, true⟩, rB [vN X2, vN Y2, vN Z2, vS 6 (([] : List A3).length)] 29, some ⟨[], 25, false, true⟩]) (by kernel_rfl) ?_
    refine kSeq ?_
    refine cSeq ?_
    refine cReg ?_
    refine segEndH [1, 2, 3, 4, 10, 11, 13, 16, 17] (T1 := (mkT 111 [(1, vN X2), (2, vN Y2), (3, vN Z2), (4, vP 0 0), (10, vP 3 0), (11, .bool true), (13, vP 7 0), (16, vN (1 + 3 * (([] : List A3)).length)), (17, vI 1)])) (by kernel_rfl) ?_
    refine kSeq ?_
    refine cSeq ?_
    refine cReg ?_
    refine segH 2 (T1 := (mkT 111 [(1, vN X2), (2, vN Y2), (3, vN Z2), (4, vP 0 0), (10, vP 3 0), (11, .bool true), (13, vP 7 0), (16, vN (1 + 3 * (([] : List A3)).length)), (17, vI 1), (77, .agg #[vN X2, vN Y2, vN Z2, vS 6 (([] : List A3).length)]), (78, vI 1)])) (by kernel_rfl) ?_
    refine rCall (v := vN (1 + 3 * (([] : List A3)).length)) (H' := [rB [vN X, vN Y, vN Z, .slice none 0 0] 24, some ⟨[], 25, false, true⟩, some ⟨a3s (([] : List A3)), 25, false, true⟩, rB [vN X2, vN Y2, vN Z2, vS 2 (([] : List A3).length)] 29, some ⟨a3s (mk3 1 ([] : List A3).length), 25, false, true⟩, rB [vN X, vN Y, vN Z, vS 4 0] 29, some ⟨a3s (mk3 1 (([] : List A3)).length), 25, false, true⟩, rB [vN X2, vN Y2, vN Z2, vS 6 (([] : List A3).length)] 29, some ⟨[], 25, false, true⟩]) (args := [.agg #[vN X2, vN Y2, vN Z2, vS 6 (([] : List A3).length)], vI 1]) (by kernel_rfl) rfl (by kernel_rfl) (Sound.reads1 6 true (heldHeap_ok ((X2 : Nat) : Int) ((Y2 : Nat) : Int) ((Z2 : Nat) : Int) 1 ((([] : List A3)).length) (by first | omega | (simp only [allOf_length, List.length_nil, mk3_length]; omega)) (by omega)) (flatA3 _ _ _ _) rfl rfl rfl (by first | rfl | simp [mpV, mpA, mpS, mpP, renId, shift]) rfl) ?_
    refine segEndH [1, 2, 3, 4, 10, 11, 13, 16, 17] (T1 := (mkT 111 [(1, vN X2), (2, vN Y2), (3, vN Z2), (4, vP 0 0), (10, vP 3 0), (11, .bool true), (13, vP 7 0), (16, vN (1 + 3 * (([] : List A3)).length)), (17, vN (1 + 3 * (([] : List A3)).length))])) (by kernel_rfl) ?_
    refine kSeq ?_
    refine cSeq ?_
    refine cSeq ?_
    refine cReg ?_
    refine segEndH [1, 2, 3, 4, 10, 11, 13, 16, 17, 81] (T1 := (mkT 111 [(1, vN X2), (2, vN Y2), (3, vN Z2), (4, vP 0 0), (10, vP 3 0), (11, .bool true), (13, vP 7 0), (16, vN (1 + 3 * (([] : List A3)).length)), (17, vN (1 + 3 * (([] : List A3)).length)), (81, .bool (decide (((1 + 3 * (([] : List A3)).length : Nat) : Int) < 0)))])) (by kernel_rfl) ?_
    refine kSeq ?_
    cases h2 : (decide (((1 + 3 * (([] : List A3)).length : Nat) : Int) < 0) : Bool)
    ·
      (try simp only [Bool.not_eq_true', Bool.not_eq_false', decide_eq_true_eq, decide_eq_false_iff_not, beq_iff_eq, bne_iff_ne, beq_eq_false_iff_ne, bne_eq_false_iff_eq, ne_eq, Decidable.not_not, Bool.and_eq_true, Bool.and_eq_false_imp, Bool.or_eq_true, Bool.or_eq_false_iff, Bool.not_eq_true, Int.not_lt, Int.not_le, ge_iff_le, gt_iff_lt] at h2)
      refine cFalse (by kernel_rfl) ?_
      refine cSkip ?_
      refine kSeq ?_
      refine cSeq ?_
      refine cSeq ?_
      refine cReg ?_
      refine segH 2 (T1 := (mkT 111 [(1, vN X2), (2, vN Y2), (3, vN Z2), (4, vP 0 0), (10, vP 3 0), (11, .bool true), (13, vP 7 0), (16, vN (1 + 3 * (([] : List A3)).length)), (17, vN (1 + 3 * (([] : List A3)).length)), (81, .bool false), (82, vN (1 + 3 * (([] : List A3)).length)), (83, vN (1 + 3 * (([] : List A3)).length))])) (by kernel_rfl) ?_
      refine rOp (v := .bool false) (by kernel_rfl) (eNeS (k := .i64) (a := ((1 + 3 * (([] : List A3)).length : Nat) : Int)) (by kernel_rfl) (by kernel_rfl)) ?_
      refine segEndH [1, 2, 3, 4, 10, 11, 13, 16, 84] (T1 := (mkT 111 [(1, vN X2), (2, vN Y2), (3, vN Z2), (4, vP 0 0), (10, vP 3 0), (11, .bool true), (13, vP 7 0), (16, vN (1 + 3 * (([] : List A3)).length)), (84, .bool false)])) (by kernel_rfl) ?_
      refine kSeq ?_
      refine cFalse (by kernel_rfl) ?_
      refine cSkip ?_
      refine kSeq ?_
      refine cSeq ?_
      refine cReg ?_
      refine segH 1 (T1 := (mkT 111 [(1, vN X2), (2, vN Y2), (3, vN Z2), (4, vP 0 0), (10, vP 3 0), (11, .bool true), (13, vP 7 0), (16, vN (1 + 3 * (([] : List A3)).length)), (84, .bool false), (86, .agg #[vN X, vN Y, vN Z, .slice none 0 0])])) (by kernel_rfl) ?_
      refine rCall (v := .agg #[vN X, vN Y, vN Z, vS 9 0]) (args := [.agg #[vN X, vN Y, vN Z, .slice none 0 0]]) (by kernel_rfl) rfl (by kernel_rfl) (Sound.lay (E := [some ⟨[], 25, false, true⟩]) [] (toHeapN ((X : Nat) : Int) ((Y : Nat) : Int) ((Z : Nat) : Int)) trivial rfl trivial rfl (by first | rfl | simp [mpV, mpA, mpS, mpP, renId, shift]) (by first | rfl | simp [mpV, mpA, mpS, mpP, renId, shift]) ⟨enX rfl (Or.inl rfl), trivial⟩) ?_
      refine seg 3 (T1 := (mkT 111 [(1, vN X2), (2, vN Y2), (3, vN Z2), (4, vP 0 0), (10, vP 3 0), (11, .bool true), (13, vP 7 0), (16, vN (1 + 3 * (([] : List A3)).length)), (84, .bool false), (86, .agg #[vN X, vN Y, vN Z, .slice none 0 0]), (87, .agg #[vN X, vN Y, vN Z, vS 9 0]), (88, vN X2), (89, vN Y2), (90, vN Z2)])) (H1 := [rB [vN X, vN Y, vN Z, .slice none 0 0] 24, some ⟨[], 25, false, true⟩, some ⟨a3s (([] : List A3)), 25, false, true⟩, rB [vN X2, vN Y2, vN Z2, vS 2 (([] : List A3).length)] 29, some ⟨a3s (mk3 1 ([] : List A3).length), 25, false, true⟩, rB [vN X, vN Y, vN Z, vS 4 0] 29, some ⟨a3s (mk3 1 (([] : List A3)).length), 25, false, true⟩, rB [vN X2, vN Y2, vN Z2, vS 6 (([] : List A3).length)] 29, some ⟨[], 25, false, true⟩, some ⟨[], 25, false, true⟩]) (by kernel_rfl) ?_
      refine rCall (v := .tuple #[.agg #[vN X2, vN Y2, vN Z2, vS 10 (([] : List A3).length)], .bool true]) (args := [.agg #[vN X, vN Y, vN Z, vS 9 0], vN X2, vN Y2, vN Z2]) (by kernel_rfl) rfl (by kernel_rfl) (Sound.lay (E := [some ⟨a3s (([] : List A3)), 25, false, true⟩]) [9] (implWidenHeap_in X Y Z X2 Y2 Z2 ([] : List A3) (by first | assumption | omega | rfl | decide | exact HeapL.list _ _ _ _ | exact HeapL.nil _ _ _ | exact HeapL.all _ _ _ | (apply HeapL.lt64 <;> assumption) | (repeat' (first | assumption | apply or_lt64 | apply and_lt64 | apply andn_lt64 | apply pow_lt64 | (apply HeapL.lt64 <;> assumption)))) (by first | assumption | omega | rfl | decide | exact HeapL.list _ _ _ _ | exact HeapL.nil _ _ _ | exact HeapL.all _ _ _ | (apply HeapL.lt64 <;> assumption) | (repeat' (first | assumption | apply or_lt64 | apply and_lt64 | apply andn_lt64 | apply pow_lt64 | (apply HeapL.lt64 <;> assumption)))) (by first | assumption | omega | rfl | decide | exact HeapL.list _ _ _ _ | exact HeapL.nil _ _ _ | exact HeapL.all _ _ _ | (apply HeapL.lt64 <;> assumption) | (repeat' (first | assumption | apply or_lt64 | apply and_lt64 | apply andn_lt64 | apply pow_lt64 | (apply HeapL.lt64 <;> assumption)))) (by first | assumption | omega | rfl | decide | exact HeapL.list _ _ _ _ | exact HeapL.nil _ _ _ | exact HeapL.all _ _ _ | (apply HeapL.lt64 <;> assumption) | (repeat' (first | assumption | apply or_lt64 | apply and_lt64 | apply andn_lt64 | apply pow_lt64 | (apply HeapL.lt64 <;> assumption))))) ⟨rdF true (flatA3 _ _ _ _) rfl rfl, trivial⟩ rfl ⟨clF (flatA3 _ _ _ _), trivial⟩ rfl (by first | rfl | simp [mpV, mpA, mpS, mpP, renId, shift]) (by first | rfl | simp [mpV, mpA, mpS, mpP, renId, shift]) ⟨enF (flatA3 _ _ _ _) (Or.inl rfl), trivial⟩) ?_
      refine segEnd [10, 11, 13, 16, 18, 19] (T1 := (mkT 111 [(10, vP 3 0), (11, .bool true), (13, vP 7 0), (16, vN (1 + 3 * (([] : List A3)).length)), (18, vP 11 0), (19, .bool true)])) (H1 := [rB [vN X, vN Y, vN Z, .slice none 0 0] 24, some ⟨[], 25, false, true⟩, some ⟨a3s (([] : List A3)), 25, false, true⟩, rB [vN X2, vN Y2, vN Z2, vS 2 (([] : List A3).length)] 29, some ⟨a3s (mk3 1 ([] : List A3).length), 25, false, true⟩, rB [vN X, vN Y, vN Z, vS 4 0] 29, some ⟨a3s (mk3 1 (([] : List A3)).length), 25, false, true⟩, rB [vN X2, vN Y2, vN Z2, vS 6 (([] : List A3).length)] 29, some ⟨[], 25, false, true⟩, some ⟨[], 25, false, true⟩, some ⟨a3s (([] : List A3)), 25, false, true⟩, rB [vN X2, vN Y2, vN Z2, vS 10 (([] : List A3).length)] 29]) (by kernel_rfl) ?_
      refine kSeq ?_
      refine cSeq ?_
      refine cSeq ?_
      refine cReg ?_
      refine segH 2 (T1 := (mkT 111 [(10, vP 3 0), (11, .bool true), (13, vP 7 0), (16, vN (1 + 3 * (([] : List A3)).length)), (18, vP 11 0), (19, .bool true), (94, .agg #[vN X2, vN Y2, vN Z2, vS 10 (([] : List A3).length)]), (95, .agg #[vN X2, vN Y2, vN Z2, vS 2 (([] : List A3).length)])])) (by kernel_rfl) ?_
      refine rCall (v := .bool true) (H' := [rB [vN X, vN Y, vN Z, .slice none 0 0] 24, some ⟨[], 25, false, true⟩, some ⟨a3s (([] : List A3)), 25, false, true⟩, rB [vN X2, vN Y2, vN Z2, vS 2 (([] : List A3).length)] 29, some ⟨a3s (mk3 1 ([] : List A3).length), 25, false, true⟩, rB [vN X, vN Y, vN Z, vS 4 0] 29, some ⟨a3s (mk3 1 (([] : List A3)).length), 25, false, true⟩, rB [vN X2, vN Y2, vN Z2, vS 6 (([] : List A3).length)] 29, some ⟨[], 25, false, true⟩, some ⟨[], 25, false, true⟩, some ⟨a3s (([] : List A3)), 25, false, true⟩, rB [vN X2, vN Y2, vN Z2, vS 10 (([] : List A3).length)] 29]) (args := [.agg #[vN X2, vN Y2, vN Z2, vS 10 (([] : List A3).length)], .agg #[vN X2, vN Y2, vN Z2, vS 2 (([] : List A3).length)]]) (by kernel_rfl) rfl (by kernel_rfl) (Sound.reads2 10 2 true true (eqHeap_same ((X2 : Nat) : Int) ((Y2 : Nat) : Int) ((Z2 : Nat) : Int) (([] : List A3)) (by first | omega | (simp only [allOf_length, List.length_nil, mk3_length]; omega))) (flatA3 _ _ _ _) (flatA3 _ _ _ _) rfl rfl rfl rfl rfl (by first | rfl | simp [mpV, mpA, mpS, mpP, renId, shift]) rfl) ?_
      refine segEndH [13, 16, 102] (T1 := (mkT 111 [(13, vP 7 0), (16, vN (1 + 3 * (([] : List A3)).length)), (102, .bool false)])) (by kernel_rfl) ?_
      refine kSeq ?_
      refine cFalse (by kernel_rfl) ?_
      refine cSkip ?_
      refine kSeq ?_
      refine cSeq ?_
      refine cReg ?_
      refine segEndH [13, 16, 17] (T1 := (mkT 111 [(13, vP 7 0), (16, vN (1 + 3 * (([] : List A3)).length)), (17, vI 1)])) (by kernel_rfl) ?_
      refine kSeq ?_
      refine cSeq ?_
      refine cReg ?_
      refine segH 2 (T1 := (mkT 111 [(13, vP 7 0), (16, vN (1 + 3 * (([] : List A3)).length)), (17, vI 1), (103, .agg #[vN X2, vN Y2, vN Z2, vS 6 (([] : List A3).length)]), (104, vI 1)])) (by kernel_rfl) ?_
      refine rCall (v := vN (1 + 3 * (([] : List A3)).length)) (H' := [rB [vN X, vN Y, vN Z, .slice none 0 0] 24, some ⟨[], 25, false, true⟩, some ⟨a3s (([] : List A3)), 25, false, true⟩, rB [vN X2, vN Y2, vN Z2, vS 2 (([] : List A3).length)] 29, some ⟨a3s (mk3 1 ([] : List A3).length), 25, false, true⟩, rB [vN X, vN Y, vN Z, vS 4 0] 29, some ⟨a3s (mk3 1 (([] : List A3)).length), 25, false, true⟩, rB [vN X2, vN Y2, vN Z2, vS 6 (([] : List A3).length)] 29, some ⟨[], 25, false, true⟩, some ⟨[], 25, false, true⟩, some ⟨a3s (([] : List A3)), 25, false, true⟩, rB [vN X2, vN Y2, vN Z2, vS 10 (([] : List A3).length)] 29]) (args := [.agg #[vN X2, vN Y2, vN Z2, vS 6 (([] : List A3).length)], vI 1]) (by kernel_rfl) rfl (by kernel_rfl) (Sound.reads1 6 true (heldHeap_ok ((X2 : Nat) : Int) ((Y2 : Nat) : Int) ((Z2 : Nat) : Int) 1 ((([] : List A3)).length) (by first | omega | (simp only [allOf_length, List.length_nil, mk3_length]; omega)) (by omega)) (flatA3 _ _ _ _) rfl rfl rfl (by first | rfl | simp [mpV, mpA, mpS, mpP, renId, shift]) rfl) ?_
      refine segEndH [16, 17] (T1 := (mkT 111 [(16, vN (1 + 3 * (([] : List A3)).length)), (17, vN (1 + 3 * (([] : List A3)).length))])) (by kernel_rfl) ?_
      refine kSeq ?_
      refine cSeq ?_
      refine cSeq ?_
      refine cReg ?_
      refine segEndH [16, 17, 107] (T1 := (mkT 111 [(16, vN (1 + 3 * (([] : List A3)).length)), (17, vN (1 + 3 * (([] : List A3)).length)), (107, .bool (decide (((1 + 3 * (([] : List A3)).length : Nat) : Int) < 0)))])) (by kernel_rfl) ?_
      refine kSeq ?_
      cases h3 : (decide (((1 + 3 * (([] : List A3)).length : Nat) : Int) < 0) : Bool)
      ·
        (try simp only [Bool.not_eq_true', Bool.not_eq_false', decide_eq_true_eq, decide_eq_false_iff_not, beq_iff_eq, bne_iff_ne, beq_eq_false_iff_ne, bne_eq_false_iff_eq, ne_eq, Decidable.not_not, Bool.and_eq_true, Bool.and_eq_false_imp, Bool.or_eq_true, Bool.or_eq_false_iff, Bool.not_eq_true, Int.not_lt, Int.not_le, ge_iff_le, gt_iff_lt] at h3)
        refine cFalse (by kernel_rfl) ?_
        refine cSkip ?_
        refine kSeq ?_
        refine cSeq ?_
        refine cSeq ?_
        refine cReg ?_
        refine segH 2 (T1 := (mkT 111 [(16, vN (1 + 3 * (([] : List A3)).length)), (17, vN (1 + 3 * (([] : List A3)).length)), (107, .bool false), (108, vN (1 + 3 * (([] : List A3)).length)), (109, vN (1 + 3 * (([] : List A3)).length))])) (by kernel_rfl) ?_
        refine rOp (v := .bool false) (by kernel_rfl) (eNeS (k := .i64) (a := ((1 + 3 * (([] : List A3)).length : Nat) : Int)) (by kernel_rfl) (by kernel_rfl)) ?_
        refine segEndH [110] (T1 := (mkT 111 [(110, .bool false)])) (by kernel_rfl) ?_
        refine kSeq ?_
        refine cFalse (by kernel_rfl) ?_
        refine cSkip ?_
        refine kSeq ?_
        refine cSeq ?_
        refine cReg ?_
        refine segEndH [8] (T1 := (mkT 111 [(8, .bool true)])) (by kernel_rfl) ?_
        refine kSeq ?_
        refine cRet ?_
        -- end
        exact endQ (Or.inr rfl) (l := [.bool true]) [rB [vN X, vN Y, vN Z, .slice none 0 0] 24, some ⟨[], 25, false, true⟩, some ⟨a3s (([] : List A3)), 25, false, true⟩, rB [vN X2, vN Y2, vN Z2, vS 2 (([] : List A3).length)] 29, some ⟨a3s (mk3 1 ([] : List A3).length), 25, false, true⟩, rB [vN X, vN Y, vN Z, vS 4 0] 29, some ⟨a3s (mk3 1 (([] : List A3)).length), 25, false, true⟩, rB [vN X2, vN Y2, vN Z2, vS 6 (([] : List A3).length)] 29, some ⟨[], 25, false, true⟩, some ⟨[], 25, false, true⟩, some ⟨a3s (([] : List A3)), 25, false, true⟩, rB [vN X2, vN Y2, vN Z2, vS 10 (([] : List A3).length)] 29] (by kernel_rfl) (by first | rfl | kernel_rfl) rfl rfl hcl rfl
      ·
        (try simp only [Bool.not_eq_true', Bool.not_eq_false', decide_eq_true_eq, decide_eq_false_iff_not, beq_iff_eq, bne_iff_ne, beq_eq_false_iff_ne, bne_eq_false_iff_eq, ne_eq, Decidable.not_not, Bool.and_eq_true, Bool.and_eq_false_imp, Bool.or_eq_true, Bool.or_eq_false_iff, Bool.not_eq_true, Int.not_lt, Int.not_le, ge_iff_le, gt_iff_lt] at h3)
        exfalso; omega
    ·
      (try simp only [Bool.not_eq_true', Bool.not_eq_false', decide_eq_true_eq, decide_eq_false_iff_not, beq_iff_eq, bne_iff_ne, beq_eq_false_iff_ne, bne_eq_false_iff_eq, ne_eq, Decidable.not_not, Bool.and_eq_true, Bool.and_eq_false_imp, Bool.or_eq_true, Bool.or_eq_false_iff, Bool.not_eq_true, Int.not_lt, Int.not_le, ge_iff_le, gt_iff_lt] at h2)
      exfalso; omega
  ·
    (try simp only [Bool.not_eq_true', Bool.not_eq_false', decide_eq_true_eq, decide_eq_false_iff_not, beq_iff_eq, bne_iff_ne, beq_eq_false_iff_ne, bne_eq_false_iff_eq, ne_eq, Decidable.not_not, Bool.and_eq_true, Bool.and_eq_false_imp, Bool.or_eq_true, Bool.or_eq_false_iff, Bool.not_eq_true, Int.not_lt, Int.not_le, ge_iff_le, gt_iff_lt] at h1)
    exfalso; omega

set_option maxRecDepth 100000 in
set_option maxHeartbeats 4000000 in
theorem lawWidenHeap_out_s (X : Nat) (Y : Nat) (Z : Nat) (L : List A3) (X2 : Nat) (Y2 : Nat) (Z2 : Nat) (hs : Sides X Y Z) (hL : HeapL X Y Z L) (hs2 : Sides X2 Y2 Z2) (hv : isHeapB (X2 : Int) (Y2 : Int) (Z2 : Int) L = false) : Sound Try.prog 12 [.agg #[vN X, vN Y, vN Z, vS 0 L.length], vN X2, vN Y2, vN Z2] [some ⟨a3s L, 25, false, false⟩] (.bool true) [some ⟨a3s L, 25, false, false⟩] := by
  refine sound_intro (C := cx) Try.func12 rfl (by kernel_rfl) fun hcl => ?_
  have hz := hs.size
  have hx0 := hs.x0
  have hx4 := hs.x4
  have hy0 := hs.y0
  have hy4 := hs.y4
  have hz0 := hs.z0
  have hz4 := hs.z4
  have hlen : L.length ≤ 64 := by first | (have := hL.len; have := hs.size; omega) | simp
  refine cSeq ?_
  refine cReg ?_
  refine segEnd [1, 2, 3, 4] (T1 := (mkT 111 [(1, vN X2), (2, vN Y2), (3, vN Z2), (4, vP 1 0)])) (H1 := [some ⟨a3s L, 25, false, false⟩, rB [vN X, vN Y, vN Z, vS 0 L.length] 24]) (by kernel_rfl) ?_
  refine kSeq ?_
  refine cSeq ?_
  refine cReg ?_
  refine segEndH [1, 2, 3, 4, 9] (T1 := (mkT 111 [(1, vN X2), (2, vN Y2), (3, vN Z2), (4, vP 1 0), (9, vI 1048576)])) (by kernel_rfl) ?_
  refine kSeq ?_
  refine cSeq ?_
  refine cReg ?_
  refine segH 2 (T1 := (mkT 111 [(1, vN X2), (2, vN Y2), (3, vN Z2), (4, vP 1 0), (9, vI 1048576), (20, .agg #[vN X, vN Y, vN Z, vS 0 L.length]), (21, vI 1048576)])) (by kernel_rfl) ?_
  refine rCall (v := vN (1048576 - L.length)) (args := [.agg #[vN X, vN Y, vN Z, vS 0 L.length], vI 1048576]) (by kernel_rfl) rfl (by kernel_rfl) (Sound.lay0 [0] (szHeapS ((X : Nat) : Int) ((Y : Nat) : Int) ((Z : Nat) : Int) L 1048576 (by first | omega | assumption | (simp; done)) (by first | omega | assumption | decide)) ⟨rdF false (flatA3 _ _ _ _) rfl rfl, trivial⟩ rfl ⟨clF (flatA3 _ _ _ _), trivial⟩ rfl (by first | rfl | simp [mpV, mpA, mpS, mpP, renId, shift]) rfl) ?_
  refine segEndH [1, 2, 3, 4, 9] (T1 := (mkT 111 [(1, vN X2), (2, vN Y2), (3, vN Z2), (4, vP 1 0), (9, vN (1048576 - L.length))])) (by kernel_rfl) ?_
  refine kSeq ?_
  refine cSeq ?_
  refine cSeq ?_
  refine cReg ?_
  refine segEndH [1, 2, 3, 4, 24] (T1 := (mkT 111 [(1, vN X2), (2, vN Y2), (3, vN Z2), (4, vP 1 0), (24, .bool (decide (((1048576 - L.length : Nat) : Int) < 0)))])) (by kernel_rfl) ?_
  refine kSeq ?_
  cases h1 : (decide (((1048576 - L.length : Nat) : Int) < 0) : Bool)
  ·
    (try simp only [Bool.not_eq_true', Bool.not_eq_false', decide_eq_true_eq, decide_eq_false_iff_not, beq_iff_eq, bne_iff_ne, beq_eq_false_iff_ne, bne_eq_false_iff_eq, ne_eq, Decidable.not_not, Bool.and_eq_true, Bool.and_eq_false_imp, Bool.or_eq_true, Bool.or_eq_false_iff, Bool.not_eq_true, Int.not_lt, Int.not_le, ge_iff_le, gt_iff_lt] at h1)
    refine cFalse (by kernel_rfl) ?_
    refine cSkip ?_
    refine kSeq ?_
    refine cSeq ?_
    refine cReg ?_
    refine segH 1 (T1 := (mkT 111 [(1, vN X2), (2, vN Y2), (3, vN Z2), (4, vP 1 0), (24, .bool false), (26, .agg #[vN X, vN Y, vN Z, vS 0 L.length])])) (by kernel_rfl) ?_
    refine rCall (v := .agg #[vN X, vN Y, vN Z, vS 2 L.length]) (args := [.agg #[vN X, vN Y, vN Z, vS 0 L.length]]) (by kernel_rfl) rfl (by kernel_rfl) (Sound.lay (E := [some ⟨a3s L, 25, false, true⟩]) [0] (toHeapB ((X : Nat) : Int) ((Y : Nat) : Int) ((Z : Nat) : Int) L (by first | omega | assumption | (simp; done))) ⟨rdF false (flatA3 _ _ _ _) rfl rfl, trivial⟩ rfl ⟨clF (flatA3 _ _ _ _), trivial⟩ rfl (by first | rfl | simp [mpV, mpA, mpS, mpP, renId, shift]) (by first | rfl | simp [mpV, mpA, mpS, mpP, renId, shift]) ⟨enF (flatA3 _ _ _ _) (Or.inl rfl), trivial⟩) ?_
    refine seg 3 (T1 := (mkT 111 [(1, vN X2), (2, vN Y2), (3, vN Z2), (4, vP 1 0), (24, .bool false), (26, .agg #[vN X, vN Y, vN Z, vS 0 L.length]), (27, .agg #[vN X, vN Y, vN Z, vS 2 L.length]), (28, vN X2), (29, vN Y2), (30, vN Z2)])) (H1 := [some ⟨a3s L, 25, false, false⟩, rB [vN X, vN Y, vN Z, vS 0 L.length] 24, some ⟨a3s L, 25, false, true⟩]) (by kernel_rfl) ?_
    refine rCall (v := .tuple #[.agg #[vI 0, vI 0, vI 0, .slice none 0 0], .bool false]) (args := [.agg #[vN X, vN Y, vN Z, vS 2 L.length], vN X2, vN Y2, vN Z2]) (by kernel_rfl) rfl (by kernel_rfl) (Sound.lay0 [2] (specWidenHeap_out X Y Z X2 Y2 Z2 L (by first | assumption | omega | rfl | decide | exact HeapL.list _ _ _ _ | exact HeapL.nil _ _ _ | exact HeapL.all _ _ _ | (apply HeapL.lt64 <;> assumption) | (repeat' (first | assumption | apply or_lt64 | apply and_lt64 | apply andn_lt64 | apply pow_lt64 | (apply HeapL.lt64 <;> assumption)))) (by first | assumption | omega | rfl | decide | exact HeapL.list _ _ _ _ | exact HeapL.nil _ _ _ | exact HeapL.all _ _ _ | (apply HeapL.lt64 <;> assumption) | (repeat' (first | assumption | apply or_lt64 | apply and_lt64 | apply andn_lt64 | apply pow_lt64 | (apply HeapL.lt64 <;> assumption)))) (by first | assumption | omega | rfl | decide | exact HeapL.list _ _ _ _ | exact HeapL.nil _ _ _ | exact HeapL.all _ _ _ | (apply HeapL.lt64 <;> assumption) | (repeat' (first | assumption | apply or_lt64 | apply and_lt64 | apply andn_lt64 | apply pow_lt64 | (apply HeapL.lt64 <;> assumption)))) (by first | assumption | omega | rfl | decide | exact HeapL.list _ _ _ _ | exact HeapL.nil _ _ _ | exact HeapL.all _ _ _ | (apply HeapL.lt64 <;> assumption) | (repeat' (first | assumption | apply or_lt64 | apply and_lt64 | apply andn_lt64 | apply pow_lt64 | (apply HeapL.lt64 <;> assumption))))) ⟨rdF true (flatA3 _ _ _ _) rfl rfl, trivial⟩ rfl ⟨clF (flatA3 _ _ _ _), trivial⟩ rfl (by first | rfl | simp [mpV, mpA, mpS, mpP, renId, shift]) (by first | rfl | simp [mpV, mpA, mpS, mpP, renId, shift])) ?_
    refine segEnd [1, 2, 3, 4, 10, 11] (T1 := (mkT 111 [(1, vN X2), (2, vN Y2), (3, vN Z2), (4, vP 1 0), (10, vP 3 0), (11, .bool false)])) (H1 := [some ⟨a3s L, 25, false, false⟩, rB [vN X, vN Y, vN Z, vS 0 L.length] 24, some ⟨a3s L, 25, false, true⟩, rB [vI 0, vI 0, vI 0, .slice none 0 0] 29]) (by kernel_rfl) ?_
    refine kSeq ?_
    refine cSeq ?_
    refine cReg ?_
    refine segH 1 (T1 := (mkT 111 [(1, vN X2), (2, vN Y2), (3, vN Z2), (4, vP 1 0), (10, vP 3 0), (11, .bool false), (34, .agg #[vN X, vN Y, vN Z, vS 0 L.length])])) (by kernel_rfl) ?_
    refine rCall (v := .agg #[vN X, vN Y, vN Z, vS 4 L.length]) (args := [.agg #[vN X, vN Y, vN Z, vS 0 L.length]]) (by kernel_rfl) rfl (by kernel_rfl) (Sound.lay (E := [some ⟨a3s L, 25, false, true⟩]) [0] (toHeapB ((X : Nat) : Int) ((Y : Nat) : Int) ((Z : Nat) : Int) L (by first | omega | assumption | (simp; done))) ⟨rdF false (flatA3 _ _ _ _) rfl rfl, trivial⟩ rfl ⟨clF (flatA3 _ _ _ _), trivial⟩ rfl (by first | rfl | simp [mpV, mpA, mpS, mpP, renId, shift]) (by first | rfl | simp [mpV, mpA, mpS, mpP, renId, shift]) ⟨enF (flatA3 _ _ _ _) (Or.inl rfl), trivial⟩) ?_
    refine segEnd [1, 2, 3, 4, 10, 11, 12] (T1 := (mkT 111 [(1, vN X2), (2, vN Y2), (3, vN Z2), (4, vP 1 0), (10, vP 3 0), (11, .bool false), (12, vP 5 0)])) (H1 := [some ⟨a3s L, 25, false, false⟩, rB [vN X, vN Y, vN Z, vS 0 L.length] 24, some ⟨a3s L, 25, false, true⟩, rB [vI 0, vI 0, vI 0, .slice none 0 0] 29, some ⟨a3s L, 25, false, true⟩, rB [vN X, vN Y, vN Z, vS 4 L.length] 29]) (by kernel_rfl) ?_
    refine kSeq ?_
    refine cSeq ?_
    refine cReg ?_
    refine segH 4 (T1 := (mkT 111 [(1, vN X2), (2, vN Y2), (3, vN Z2), (4, vP 1 0), (10, vP 3 0), (11, .bool false), (12, vP 5 0), (37, .agg #[vN X, vN Y, vN Z, vS 4 L.length]), (38, vN X2), (39, vN Y2), (40, vN Z2)])) (by kernel_rfl) ?_
    refine rCall (v := .tuple #[.agg #[vI 0, vI 0, vI 0, .slice none 0 0], .bool false]) (args := [.agg #[vN X, vN Y, vN Z, vS 4 L.length], vN X2, vN Y2, vN Z2]) (by kernel_rfl) rfl (by kernel_rfl) (Sound.lay0 [4] (implWidenHeap_out X Y Z X2 Y2 Z2 L (by first | assumption | omega | rfl | decide | exact HeapL.list _ _ _ _ | exact HeapL.nil _ _ _ | exact HeapL.all _ _ _ | (apply HeapL.lt64 <;> assumption) | (repeat' (first | assumption | apply or_lt64 | apply and_lt64 | apply andn_lt64 | apply pow_lt64 | (apply HeapL.lt64 <;> assumption)))) (by first | assumption | omega | rfl | decide | exact HeapL.list _ _ _ _ | exact HeapL.nil _ _ _ | exact HeapL.all _ _ _ | (apply HeapL.lt64 <;> assumption) | (repeat' (first | assumption | apply or_lt64 | apply and_lt64 | apply andn_lt64 | apply pow_lt64 | (apply HeapL.lt64 <;> assumption)))) (by first | assumption | omega | rfl | decide | exact HeapL.list _ _ _ _ | exact HeapL.nil _ _ _ | exact HeapL.all _ _ _ | (apply HeapL.lt64 <;> assumption) | (repeat' (first | assumption | apply or_lt64 | apply and_lt64 | apply andn_lt64 | apply pow_lt64 | (apply HeapL.lt64 <;> assumption)))) (by first | assumption | omega | rfl | decide | exact HeapL.list _ _ _ _ | exact HeapL.nil _ _ _ | exact HeapL.all _ _ _ | (apply HeapL.lt64 <;> assumption) | (repeat' (first | assumption | apply or_lt64 | apply and_lt64 | apply andn_lt64 | apply pow_lt64 | (apply HeapL.lt64 <;> assumption))))) ⟨rdF true (flatA3 _ _ _ _) rfl rfl, trivial⟩ rfl ⟨clF (flatA3 _ _ _ _), trivial⟩ rfl (by first | rfl | simp [mpV, mpA, mpS, mpP, renId, shift]) (by first | rfl | simp [mpV, mpA, mpS, mpP, renId, shift])) ?_
    refine segEnd [1, 2, 3, 4, 10, 11, 12, 13, 14] (T1 := (mkT 111 [(1, vN X2), (2, vN Y2), (3, vN Z2), (4, vP 1 0), (10, vP 3 0), (11, .bool false), (12, vP 5 0), (13, vP 6 0), (14, .bool false)])) (H1 := [some ⟨a3s L, 25, false, false⟩, rB [vN X, vN Y, vN Z, vS 0 L.length] 24, some ⟨a3s L, 25, false, true⟩, rB [vI 0, vI 0, vI 0, .slice none 0 0] 29, some ⟨a3s L, 25, false, true⟩, rB [vN X, vN Y, vN Z, vS 4 L.length] 29, rB [vI 0, vI 0, vI 0, .slice none 0 0] 29]) (by kernel_rfl) ?_
    refine kSeq ?_
    refine cSeq ?_
    refine cSeq ?_
    refine cReg ?_
    refine segH 2 (T1 := (mkT 111 [(1, vN X2), (2, vN Y2), (3, vN Z2), (4, vP 1 0), (10, vP 3 0), (11, .bool false), (12, vP 5 0), (13, vP 6 0), (14, .bool false), (44, .agg #[vI 0, vI 0, vI 0, .slice none 0 0]), (45, .agg #[vI 0, vI 0, vI 0, .slice none 0 0])])) (by kernel_rfl) ?_
    refine rCall (v := .bool true) (args := [.agg #[vI 0, vI 0, vI 0, .slice none 0 0], .agg #[vI 0, vI 0, vI 0, .slice none 0 0]]) (by kernel_rfl) rfl (by kernel_rfl) (Sound.lay0 [] (eqHeapN) trivial rfl trivial rfl (by first | rfl | simp [mpV, mpA, mpS, mpP, renId, shift]) rfl) ?_
    refine segEndH [1, 2, 3, 4, 10, 11, 12, 13, 14, 52] (T1 := (mkT 111 [(1, vN X2), (2, vN Y2), (3, vN Z2), (4, vP 1 0), (10, vP 3 0), (11, .bool false), (12, vP 5 0), (13, vP 6 0), (14, .bool false), (52, .bool false)])) (by kernel_rfl) ?_
    refine kSeq ?_
    refine cFalse (by kernel_rfl) ?_
    refine cSkip ?_
    refine kSeq ?_
    refine cSeq ?_
    refine cSeq ?_
    refine cRegW (N := 8) [⟨[], [], [5]⟩, ⟨[], [], [1]⟩, ⟨[7], [], [0]⟩, ⟨[], [], [4, 7]⟩, ⟨[], [], []⟩] 1 [7] (by rfl) (by rfl) (by kernel_rfl) (by kernel_rfl) (by kernel_rfl) ⟨nmsF (flatA3 _ _ _ _), ⟨nmsX (by kernel_rfl), ⟨nmsF (flatA3 _ _ _ _), ⟨nmsX (by kernel_rfl), ⟨nmsF (flatA3 _ _ _ _), ⟨nmsX (by kernel_rfl), ⟨nmsX (by kernel_rfl), trivial⟩⟩⟩⟩⟩⟩⟩ ?_
    refine segWH 2 (T1 := (mkT 111 [(1, vN X2), (2, vN Y2), (3, vN Z2), (4, vP 1 0), (10, vP 3 0), (11, .bool false), (12, vP 5 0), (13, vP 6 0), (14, .bool false), (52, .bool false), (53, .agg #[vN X, vN Y, vN Z, vS 4 L.length]), (54, .agg #[vN X, vN Y, vN Z, vS 0 L.length])])) (by kernel_rfl) ?_
    refine rW (m := ⟨[7], [], [0]⟩) (v := .agg #[vN X, vN Y, vN Z, vS 7 L.length]) rfl (by kernel_rfl) (stN (i := 7) (E := [some ⟨a3s L, 25, false, true⟩]) (v1 := .agg #[vN X, vN Y, vN Z, vS 8 L.length]) (args := [.agg #[vN X, vN Y, vN Z, vS 0 L.length]]) rfl (by kernel_rfl) (Any.lay (E := [some ⟨a3s L, 25, false, true⟩]) (N := 8) [0] (toHeapB ((X : Nat) : Int) ((Y : Nat) : Int) ((Z : Nat) : Int) L (by first | omega | assumption | (simp; done))) ⟨rdF false (flatA3 _ _ _ _) rfl rfl, trivial⟩ rfl ⟨clF (flatA3 _ _ _ _), trivial⟩ rfl (by first | rfl | simp [mpV, mpA, mpS, mpP, renId, shift]) (by first | rfl | simp [mpV, mpA, mpS, mpP, renId, shift]) ⟨enF (flatA3 _ _ _ _) (Or.inl rfl), trivial⟩) rfl (by kernel_rfl) (by kernel_rfl) (by kernel_rfl) (by kernel_rfl) (FlatH.cons (flatA3 _ _ _ _) FlatH.nil)) (by kernel_rfl) (NRs.all ⟨nrOf (by rfl) (nmF (flatA3 _ _ _ _)), trivial⟩) ?_
    refine rW (m := ⟨[], [], [4, 7]⟩) (v := .bool true) rfl (by kernel_rfl) (stQ (args := [.agg #[vN X, vN Y, vN Z, vS 4 L.length], .agg #[vN X, vN Y, vN Z, vS 7 L.length]]) rfl (by kernel_rfl) (Any.lay0 [4, 7] (eqHeapB ((X : Nat) : Int) ((Y : Nat) : Int) ((Z : Nat) : Int) L (by first | omega | assumption | (simp; done))) ⟨rdF true (flatA3 _ _ _ _) rfl rfl, ⟨rdF true (flatA3 _ _ _ _) rfl rfl, trivial⟩⟩ rfl ⟨clF (flatA3 _ _ _ _), ⟨clF (flatA3 _ _ _ _), trivial⟩⟩ rfl (by first | rfl | simp [mpV, mpA, mpS, mpP, renId, shift]) rfl) rfl (by kernel_rfl) (by kernel_rfl)) (by kernel_rfl) nr0 ?_
    refine segEndW [1, 2, 3, 4, 10, 11, 12, 13, 14, 57] (T1 := (mkT 111 [(1, vN X2), (2, vN Y2), (3, vN Z2), (4, vP 1 0), (10, vP 3 0), (11, .bool false), (12, vP 5 0), (13, vP 6 0), (14, .bool false), (57, .bool false)])) (H1 := [some ⟨a3s L, 25, false, false⟩, rB [vN X, vN Y, vN Z, vS 0 L.length] 24, some ⟨a3s L, 25, false, true⟩, rB [vI 0, vI 0, vI 0, .slice none 0 0] 29, some ⟨a3s L, 25, false, true⟩, rB [vN X, vN Y, vN Z, vS 4 L.length] 29, rB [vI 0, vI 0, vI 0, .slice none 0 0] 29, some ⟨a3s L, 25, false, true⟩]) (by kernel_rfl) ?_
    refine kSeq ?_
    refine cFalse (by kernel_rfl) ?_
    refine cSkip ?_
    refine kSeq ?_
    refine cSeq ?_
    refine cReg ?_
    refine segEndH [1, 2, 3, 4, 10, 11, 12, 13, 14, 15] (T1 := (mkT 111 [(1, vN X2), (2, vN Y2), (3, vN Z2), (4, vP 1 0), (10, vP 3 0), (11, .bool false), (12, vP 5 0), (13, vP 6 0), (14, .bool false), (15, vI 1)])) (by kernel_rfl) ?_
    refine kSeq ?_
    refine cSeq ?_
    refine cReg ?_
    refine segH 2 (T1 := (mkT 111 [(1, vN X2), (2, vN Y2), (3, vN Z2), (4, vP 1 0), (10, vP 3 0), (11, .bool false), (12, vP 5 0), (13, vP 6 0), (14, .bool false), (15, vI 1), (58, .agg #[vN X, vN Y, vN Z, vS 4 L.length]), (59, vI 1)])) (by kernel_rfl) ?_
    refine rCall (v := vN (1 + 3 * L.length)) (args := [.agg #[vN X, vN Y, vN Z, vS 4 L.length], vI 1]) (by kernel_rfl) rfl (by kernel_rfl) (Sound.emb_set (r := ⟨a3s L, 25, false, true⟩) (r' := ⟨a3s (mk3 1 L.length), 25, false, true⟩) 4 (markHeapB ((X : Nat) : Int) ((Y : Nat) : Int) ((Z : Nat) : Int) L 1 (by first | omega | assumption | (simp; done)) (by first | assumption | omega | rfl | decide | exact HeapL.list _ _ _ _ | exact HeapL.nil _ _ _ | exact HeapL.all _ _ _ | (apply HeapL.lt64 <;> assumption) | (repeat' (first | assumption | apply or_lt64 | apply and_lt64 | apply andn_lt64 | apply pow_lt64 | (apply HeapL.lt64 <;> assumption))))) (flatA3 _ _ _ _) rfl (flatA3 _ _ _ _) rfl rfl rfl (by first | rfl | simp [mpV, mpA, mpS, mpP, renId, shift]) rfl) ?_
    refine segEnd [1, 2, 3, 4, 10, 11, 13, 14, 15] (T1 := (mkT 111 [(1, vN X2), (2, vN Y2), (3, vN Z2), (4, vP 1 0), (10, vP 3 0), (11, .bool false), (13, vP 6 0), (14, .bool false), (15, vN (1 + 3 * L.length))])) (H1 := [some ⟨a3s L, 25, false, false⟩, rB [vN X, vN Y, vN Z, vS 0 L.length] 24, some ⟨a3s L, 25, false, true⟩, rB [vI 0, vI 0, vI 0, .slice none 0 0] 29, some ⟨a3s (mk3 1 L.length), 25, false, true⟩, rB [vN X, vN Y, vN Z, vS 4 L.length] 29, rB [vI 0, vI 0, vI 0, .slice none 0 0] 29, some ⟨a3s L, 25, false, true⟩]) (by kernel_rfl) ?_
    refine kSeq ?_
    refine cSeq ?_
    refine cSeq ?_
    refine cReg ?_
    refine segH 3 (T1 := (mkT 111 [(1, vN X2), (2, vN Y2), (3, vN Z2), (4, vP 1 0), (10, vP 3 0), (11, .bool false), (13, vP 6 0), (14, .bool false), (15, vN (1 + 3 * L.length)), (61, vN (1 + 3 * L.length)), (62, .bool (decide (((1 + 3 * L.length : Nat) : Int) < 0))), (63, .bool (decide (((1 + 3 * L.length : Nat) : Int) < 0)))])) (by kernel_rfl) ?_
    cases h2 : (decide (((1 + 3 * L.length : Nat) : Int) < 0) : Bool)
    ·
      (try simp only [Bool.not_eq_true', Bool.not_eq_false', decide_eq_true_eq, decide_eq_false_iff_not, beq_iff_eq, bne_iff_ne, beq_eq_false_iff_ne, bne_eq_false_iff_eq, ne_eq, Decidable.not_not, Bool.and_eq_true, Bool.and_eq_false_imp, Bool.or_eq_true, Bool.or_eq_false_iff, Bool.not_eq_true, Int.not_lt, Int.not_le, ge_iff_le, gt_iff_lt] at h2)
      refine seg 2 (T1 := (mkT 111 [(1, vN X2), (2, vN Y2), (3, vN Z2), (4, vP 1 0), (10, vP 3 0), (11, .bool false), (13, vP 6 0), (14, .bool false), (15, vN (1 + 3 * L.length)), (61, vN (1 + 3 * L.length)), (62, .bool false), (63, .bool false), (64, .agg #[vI 0, vI 0, vI 0, .slice none 0 0]), (65, .agg #[vI 0, vI 0, vI 0, .slice none 0 0])])) (H1 := [some ⟨a3s L, 25, false, false⟩, rB [vN X, vN Y, vN Z, vS 0 L.length] 24, some ⟨a3s L, 25, false, true⟩, rB [vI 0, vI 0, vI 0, .slice none 0 0] 29, some ⟨a3s (mk3 1 L.length), 25, false, true⟩, rB [vN X, vN Y, vN Z, vS 4 L.length] 29, rB [vI 0, vI 0, vI 0, .slice none 0 0] 29, some ⟨a3s L, 25, false, true⟩]) (by kernel_rfl) ?_
      refine rCall (v := .bool true) (args := [.agg #[vI 0, vI 0, vI 0, .slice none 0 0], .agg #[vI 0, vI 0, vI 0, .slice none 0 0]]) (by kernel_rfl) rfl (by kernel_rfl) (Sound.lay0 [] (eqHeapN) trivial rfl trivial rfl (by first | rfl | simp [mpV, mpA, mpS, mpP, renId, shift]) rfl) ?_
      refine segEnd [1, 2, 3, 4, 10, 11, 13, 73] (T1 := (mkT 111 [(1, vN X2), (2, vN Y2), (3, vN Z2), (4, vP 1 0), (10, vP 3 0), (11, .bool false), (13, vP 6 0), (73, .bool false)])) (H1 := [some ⟨a3s L, 25, false, false⟩, rB [vN X, vN Y, vN Z, vS 0 L.length] 24, some ⟨a3s L, 25, false, true⟩, rB [vI 0, vI 0, vI 0, .slice none 0 0] 29, some ⟨a3s (mk3 1 L.length), 25, false, true⟩, rB [vN X, vN Y, vN Z, vS 4 L.length] 29, rB [vI 0, vI 0, vI 0, .slice none 0 0] 29, some ⟨a3s L, 25, false, true⟩]) (by kernel_rfl) ?_
      refine kSeq ?_
      refine cFalse (by kernel_rfl) ?_
      refine cSkip ?_
      refine kSeq ?_
      refine cSeq ?_
      refine cReg ?_
      refine segEndH [1, 2, 3, 4, 10, 11, 13, 16] (T1 := (mkT 111 [(1, vN X2), (2, vN Y2), (3, vN Z2), (4, vP 1 0), (10, vP 3 0), (11, .bool false), (13, vP 6 0), (16, vI 1)])) (by kernel_rfl) ?_
      refine kSeq ?_
      refine cSeq ?_
      refine cReg ?_
      refine segH 2 (T1 := (mkT 111 [(1, vN X2), (2, vN Y2), (3, vN Z2), (4, vP 1 0), (10, vP 3 0), (11, .bool false), (13, vP 6 0), (16, vI 1), (74, .agg #[vI 0, vI 0, vI 0, .slice none 0 0]), (75, vI 1)])) (by kernel_rfl) ?_
      refine rCall (v := vI 1) (args := [.agg #[vI 0, vI 0, vI 0, .slice none 0 0], vI 1]) (by kernel_rfl) rfl (by kernel_rfl) (Sound.lay0 [] (markHeapN 1) trivial rfl trivial rfl (by first | rfl | simp [mpV, mpA, mpS, mpP, renId, shift]) rfl) ?_
      refine segEndH [1, 2, 3, 4, 10, 11, 13, 16] (T1 := (mkT 111 [(1, vN X2), (2, vN Y2), (3, vN Z2), (4, vP 1 0), (10, vP 3 0), (11, .bool false), (13, vP 6 0), (16, vI 1)])) (by kernel_rfl) ?_
      refine kSeq ?_
      refine cSeq ?_
      refine cReg ?_
      refine segEndH [1, 2, 3, 4, 10, 11, 13, 16, 17] (T1 := (mkT 111 [(1, vN X2), (2, vN Y2), (3, vN Z2), (4, vP 1 0), (10, vP 3 0), (11, .bool false), (13, vP 6 0), (16, vI 1), (17, vI 1)])) (by kernel_rfl) ?_
      refine kSeq ?_
      refine cSeq ?_
      refine cReg ?_
      refine segH 2 (T1 := (mkT 111 [(1, vN X2), (2, vN Y2), (3, vN Z2), (4, vP 1 0), (10, vP 3 0), (11, .bool false), (13, vP 6 0), (16, vI 1), (17, vI 1), (77, .agg #[vI 0, vI 0, vI 0, .slice none 0 0]), (78, vI 1)])) (by kernel_rfl) ?_
      refine rCall (v := vI 1) (args := [.agg #[vI 0, vI 0, vI 0, .slice none 0 0], vI 1]) (by kernel_rfl) rfl (by kernel_rfl) (Sound.lay0 [] (heldHeapN) trivial rfl trivial rfl (by first | rfl | simp [mpV, mpA, mpS, mpP, renId, shift]) rfl) ?_
      refine segEndH [1, 2, 3, 4, 10, 11, 13, 16, 17] (T1 := (mkT 111 [(1, vN X2), (2, vN Y2), (3, vN Z2), (4, vP 1 0), (10, vP 3 0), (11, .bool false), (13, vP 6 0), (16, vI 1), (17, vI 1)])) (by kernel_rfl) ?_
      refine kSeq ?_
      refine cSeq ?_
      refine cSeq ?_
      refine cReg ?_
      refine segEndH [1, 2, 3, 4, 10, 11, 13, 16, 17, 81] (T1 := (mkT 111 [(1, vN X2), (2, vN Y2), (3, vN Z2), (4, vP 1 0), (10, vP 3 0), (11, .bool false), (13, vP 6 0), (16, vI 1), (17, vI 1), (81, .bool false)])) (by kernel_rfl) ?_
      refine kSeq ?_
      refine cFalse (by kernel_rfl) ?_
      refine cSkip ?_
      refine kSeq ?_
      refine cSeq ?_
      refine cSeq ?_
      refine cReg ?_
      refine segEndH [1, 2, 3, 4, 10, 11, 13, 16, 84] (T1 := (mkT 111 [(1, vN X2), (2, vN Y2), (3, vN Z2), (4, vP 1 0), (10, vP 3 0), (11, .bool false), (13, vP 6 0), (16, vI 1), (84, .bool false)])) (by kernel_rfl) ?_
      refine kSeq ?_
      refine cFalse (by kernel_rfl) ?_
      refine cSkip ?_
      refine kSeq ?_
      refine cSeq ?_
      refine cReg ?_
      refine segH 1 (T1 := (mkT 111 [(1, vN X2), (2, vN Y2), (3, vN Z2), (4, vP 1 0), (10, vP 3 0), (11, .bool false), (13, vP 6 0), (16, vI 1), (84, .bool false), (86, .agg #[vN X, vN Y, vN Z, vS 0 L.length])])) (by kernel_rfl) ?_
      refine rCall (v := .agg #[vN X, vN Y, vN Z, vS 8 L.length]) (args := [.agg #[vN X, vN Y, vN Z, vS 0 L.length]]) (by kernel_rfl) rfl (by kernel_rfl) (Sound.lay (E := [some ⟨a3s L, 25, false, true⟩]) [0] (toHeapB ((X : Nat) : Int) ((Y : Nat) : Int) ((Z : Nat) : Int) L (by first | omega | assumption | (simp; done))) ⟨rdF false (flatA3 _ _ _ _) rfl rfl, trivial⟩ rfl ⟨clF (flatA3 _ _ _ _), trivial⟩ rfl (by first | rfl | simp [mpV, mpA, mpS, mpP, renId, shift]) (by first | rfl | simp [mpV, mpA, mpS, mpP, renId, shift]) ⟨enF (flatA3 _ _ _ _) (Or.inl rfl), trivial⟩) ?_
      refine seg 3 (T1 := (mkT 111 [(1, vN X2), (2, vN Y2), (3, vN Z2), (4, vP 1 0), (10, vP 3 0), (11, .bool false), (13, vP 6 0), (16, vI 1), (84, .bool false), (86, .agg #[vN X, vN Y, vN Z, vS 0 L.length]), (87, .agg #[vN X, vN Y, vN Z, vS 8 L.length]), (88, vN X2), (89, vN Y2), (90, vN Z2)])) (H1 := [some ⟨a3s L, 25, false, false⟩, rB [vN X, vN Y, vN Z, vS 0 L.length] 24, some ⟨a3s L, 25, false, true⟩, rB [vI 0, vI 0, vI 0, .slice none 0 0] 29, some ⟨a3s (mk3 1 L.length), 25, false, true⟩, rB [vN X, vN Y, vN Z, vS 4 L.length] 29, rB [vI 0, vI 0, vI 0, .slice none 0 0] 29, some ⟨a3s L, 25, false, true⟩, some ⟨a3s L, 25, false, true⟩]) (by kernel_rfl) ?_
      refine rCall (v := .tuple #[.agg #[vI 0, vI 0, vI 0, .slice none 0 0], .bool false]) (args := [.agg #[vN X, vN Y, vN Z, vS 8 L.length], vN X2, vN Y2, vN Z2]) (by kernel_rfl) rfl (by kernel_rfl) (Sound.lay0 [8] (implWidenHeap_out X Y Z X2 Y2 Z2 L (by first | assumption | omega | rfl | decide | exact HeapL.list _ _ _ _ | exact HeapL.nil _ _ _ | exact HeapL.all _ _ _ | (apply HeapL.lt64 <;> assumption) | (repeat' (first | assumption | apply or_lt64 | apply and_lt64 | apply andn_lt64 | apply pow_lt64 | (apply HeapL.lt64 <;> assumption)))) (by first | assumption | omega | rfl | decide | exact HeapL.list _ _ _ _ | exact HeapL.nil _ _ _ | exact HeapL.all _ _ _ | (apply HeapL.lt64 <;> assumption) | (repeat' (first | assumption | apply or_lt64 | apply and_lt64 | apply andn_lt64 | apply pow_lt64 | (apply HeapL.lt64 <;> assumption)))) (by first | assumption | omega | rfl | decide | exact HeapL.list _ _ _ _ | exact HeapL.nil _ _ _ | exact HeapL.all _ _ _ | (apply HeapL.lt64 <;> assumption) | (repeat' (first | assumption | apply or_lt64 | apply and_lt64 | apply andn_lt64 | apply pow_lt64 | (apply HeapL.lt64 <;> assumption)))) (by first | assumption | omega | rfl | decide | exact HeapL.list _ _ _ _ | exact HeapL.nil _ _ _ | exact HeapL.all _ _ _ | (apply HeapL.lt64 <;> assumption) | (repeat' (first | assumption | apply or_lt64 | apply and_lt64 | apply andn_lt64 | apply pow_lt64 | (apply HeapL.lt64 <;> assumption))))) ⟨rdF true (flatA3 _ _ _ _) rfl rfl, trivial⟩ rfl ⟨clF (flatA3 _ _ _ _), trivial⟩ rfl (by first | rfl | simp [mpV, mpA, mpS, mpP, renId, shift]) (by first | rfl | simp [mpV, mpA, mpS, mpP, renId, shift])) ?_
      refine segEnd [10, 11, 13, 16, 18, 19] (T1 := (mkT 111 [(10, vP 3 0), (11, .bool false), (13, vP 6 0), (16, vI 1), (18, vP 9 0), (19, .bool false)])) (H1 := [some ⟨a3s L, 25, false, false⟩, rB [vN X, vN Y, vN Z, vS 0 L.length] 24, some ⟨a3s L, 25, false, true⟩, rB [vI 0, vI 0, vI 0, .slice none 0 0] 29, some ⟨a3s (mk3 1 L.length), 25, false, true⟩, rB [vN X, vN Y, vN Z, vS 4 L.length] 29, rB [vI 0, vI 0, vI 0, .slice none 0 0] 29, some ⟨a3s L, 25, false, true⟩, some ⟨a3s L, 25, false, true⟩, rB [vI 0, vI 0, vI 0, .slice none 0 0] 29]) (by kernel_rfl) ?_
      refine kSeq ?_
      refine cSeq ?_
      refine cSeq ?_
      refine cReg ?_
      refine segH 2 (T1 := (mkT 111 [(10, vP 3 0), (11, .bool false), (13, vP 6 0), (16, vI 1), (18, vP 9 0), (19, .bool false), (94, .agg #[vI 0, vI 0, vI 0, .slice none 0 0]), (95, .agg #[vI 0, vI 0, vI 0, .slice none 0 0])])) (by kernel_rfl) ?_
      refine rCall (v := .bool true) (args := [.agg #[vI 0, vI 0, vI 0, .slice none 0 0], .agg #[vI 0, vI 0, vI 0, .slice none 0 0]]) (by kernel_rfl) rfl (by kernel_rfl) (Sound.lay0 [] (eqHeapN) trivial rfl trivial rfl (by first | rfl | simp [mpV, mpA, mpS, mpP, renId, shift]) rfl) ?_
      refine segEndH [13, 16, 102] (T1 := (mkT 111 [(13, vP 6 0), (16, vI 1), (102, .bool false)])) (by kernel_rfl) ?_
      refine kSeq ?_
      refine cFalse (by kernel_rfl) ?_
      refine cSkip ?_
      refine kSeq ?_
      refine cSeq ?_
      refine cReg ?_
      refine segEndH [13, 16, 17] (T1 := (mkT 111 [(13, vP 6 0), (16, vI 1), (17, vI 1)])) (by kernel_rfl) ?_
      refine kSeq ?_
      refine cSeq ?_
      refine cReg ?_
      refine segH 2 (T1 := (mkT 111 [(13, vP 6 0), (16, vI 1), (17, vI 1), (103, .agg #[vI 0, vI 0, vI 0, .slice none 0 0]), (104, vI 1)])) (by kernel_rfl) ?_
      refine rCall (v := vI 1) (args := [.agg #[vI 0, vI 0, vI 0, .slice none 0 0], vI 1]) (by kernel_rfl) rfl (by kernel_rfl) (Sound.lay0 [] (heldHeapN) trivial rfl trivial rfl (by first | rfl | simp [mpV, mpA, mpS, mpP, renId, shift]) rfl) ?_
      refine segEndH [16, 17] (T1 := (mkT 111 [(16, vI 1), (17, vI 1)])) (by kernel_rfl) ?_
      refine kSeq ?_
      refine cSeq ?_
      refine cSeq ?_
      refine cReg ?_
      refine segEndH [16, 17, 107] (T1 := (mkT 111 [(16, vI 1), (17, vI 1), (107, .bool false)])) (by kernel_rfl) ?_
      refine kSeq ?_
      refine cFalse (by kernel_rfl) ?_
      refine cSkip ?_
      refine kSeq ?_
      refine cSeq ?_
      refine cSeq ?_
      refine cReg ?_
      refine segEndH [110] (T1 := (mkT 111 [(110, .bool false)])) (by kernel_rfl) ?_
      refine kSeq ?_
      refine cFalse (by kernel_rfl) ?_
      refine cSkip ?_
      refine kSeq ?_
      refine cSeq ?_
      refine cReg ?_
      refine segEndH [8] (T1 := (mkT 111 [(8, .bool true)])) (by kernel_rfl) ?_
      refine kSeq ?_
      refine cRet ?_
      -- end
      exact endQ (Or.inr rfl) (l := [.bool true]) [rB [vN X, vN Y, vN Z, vS 0 L.length] 24, some ⟨a3s L, 25, false, true⟩, rB [vI 0, vI 0, vI 0, .slice none 0 0] 29, some ⟨a3s (mk3 1 L.length), 25, false, true⟩, rB [vN X, vN Y, vN Z, vS 4 L.length] 29, rB [vI 0, vI 0, vI 0, .slice none 0 0] 29, some ⟨a3s L, 25, false, true⟩, some ⟨a3s L, 25, false, true⟩, rB [vI 0, vI 0, vI 0, .slice none 0 0] 29] (by kernel_rfl) (by first | rfl | kernel_rfl) rfl rfl hcl rfl
    ·
      (try simp only [Bool.not_eq_true', Bool.not_eq_false', decide_eq_true_eq, decide_eq_false_iff_not, beq_iff_eq, bne_iff_ne, beq_eq_false_iff_ne, bne_eq_false_iff_eq, ne_eq, Decidable.not_not, Bool.and_eq_true, Bool.and_eq_false_imp, Bool.or_eq_true, Bool.or_eq_false_iff, Bool.not_eq_true, Int.not_lt, Int.not_le, ge_iff_le, gt_iff_lt] at h2)
      exfalso; omega
  ·
    (try simp only [Bool.not_eq_true', Bool.not_eq_false', decide_eq_true_eq, decide_eq_false_iff_not, beq_iff_eq, bne_iff_ne, beq_eq_false_iff_ne, bne_eq_false_iff_eq, ne_eq, Decidable.not_not, Bool.and_eq_true, Bool.and_eq_false_imp, Bool.or_eq_true, Bool.or_eq_false_iff, Bool.not_eq_true, Int.not_lt, Int.not_le, ge_iff_le, gt_iff_lt] at h1)
    exfalso; omega

theorem lawWidenHeap_s (x y z : Int) (L : List A3) (k : Int) (l : Int) (m : Int) (hm : L.length ≤ 9223372036854775807) : Sound Try.prog 12 [.agg #[vI x, vI y, vI z, vS 0 L.length], vI k, vI l, vI m] [some ⟨a3s L, 25, false, false⟩] (.bool true) [some ⟨a3s L, 25, false, false⟩] := by
  by_cases hl : L.length ≤ 1048576
  · cases hv : isHeapB x y z L
    · exact lawWidenHeap_no_s x y z L k l m hl hv
    · obtain ⟨X, Y, Z, rfl, rfl, rfl, hs, hL⟩ := heapL_of hv
      cases hv2 : valid3 k l m
      · exact lawWidenHeap_no2_s X Y Z L k l m hs hL hv2
      · obtain ⟨X2, Y2, Z2, rfl, rfl, rfl, g1, g2, g3, g4, g5, g6⟩ := nat_valid hv2
        have hs2 : Sides X2 Y2 Z2 := ⟨g1, g2, g3, g4, g5, g6⟩
        cases hb : isHeapB (X2 : Int) (Y2 : Int) (Z2 : Int) L
        · exact lawWidenHeap_out_s X Y Z L X2 Y2 Z2 hs hL hs2 hb
        · exact lawWidenHeap_in_s X Y Z L X2 Y2 Z2 hs hL hs2 (heapL_back hs2 hb)
  · exact lawWidenHeap_big_s x y z L k l m (by omega) hm

theorem lawWidenHeap_n (x y z : Int) (k : Int) (l : Int) (m : Int)  : Sound Try.prog 12 [.agg #[vI x, vI y, vI z, .slice none 0 0], vI k, vI l, vI m] [] (.bool true) [] := by
  cases hv : isHeapB x y z ([] : List A3)
  · exact lawWidenHeap_no_n x y z k l m hv
  · obtain ⟨X, Y, Z, rfl, rfl, rfl, hs, hL⟩ := heapL_of hv
    cases hv2 : valid3 k l m
    · exact lawWidenHeap_no2_n X Y Z k l m hs hv2
    · obtain ⟨X2, Y2, Z2, rfl, rfl, rfl, g1, g2, g3, g4, g5, g6⟩ := nat_valid hv2
      have hs2 : Sides X2 Y2 Z2 := ⟨g1, g2, g3, g4, g5, g6⟩
      exact lawWidenHeap_in_n X Y Z X2 Y2 Z2 hs hs2
end Go.Proofs.Ytenkiofddpjidaa
namespace Go.Proofs.Ytenkiofddpjidaa.fnExactWidenHeap
open Go.Am Go.ChangeShapes Go.WideShapes Go.ChangeAt Go.RowKit
theorem own : ownKnob Try.prog.godebug = none := by kernel_rfl
theorem laidOut : laidOutB Try.prog = true := by kernel_rfl
set_option maxRecDepth 100000 in
theorem lifted (os : Os) (started : os.Started) (H : Type) (enc : TypeId × Value → H) :
    ReturnsInHanded {} Try.checked os 12 .any (Rows.fnExactWidenHeapSpec.pre6 enc Try.prog Try.f12 Rows.fnExactWidenHeapRow.domain false) (Rows.fnExactWidenHeapSpec.post enc Try.prog Try.f12 false true false false) := by
  refine returnsInHanded_of_change_sized (C := Try.checked) own started (by kernel_rfl) Try.func12
    (ChangeSpec.witness6 (enc := enc) (C := Try.checked) false ⟨#[], #[.agg #[.int .i64 0, .int .i64 0, .int .i64 0, .slice none 0 0], .int .i64 0, .int .i64 0, .int .i64 0], []⟩ 8 (by kernel_rfl) (by kernel_rfl) (by kernel_rfl) (by kernel_rfl)) ?_
  intro W base args ds gs before hval0 hW hcnd hsz0 _
  have hval : ∀ (j : Nat) t v, Try.f12.params[j]? = some t → args[j]? = some v → Value.okWide Try.prog W .any base t v := hval0
  have hW' := hW
  obtain ⟨p, q, hA0, hV, rfl, hfz, hnd⟩ := hW
  have hA : DataW.TrodAll enc Try.prog W 0 (fun _ => true) true Try.f12.params.toList args.toList ds p := hA0
  rw [Try.params12] at hA hval
  obtain ⟨v0, vs0, d0, ds0, p0, q0, hargs, rfl, rfl, h0, r0⟩ := trodAll_cons hA
  obtain ⟨v1, vs1, d1, ds1, p1, q1, rfl, rfl, rfl, h1, r1⟩ := trodAll_cons r0
  obtain ⟨v2, vs2, d2, ds2, p2, q2, rfl, rfl, rfl, h2, r2⟩ := trodAll_cons r1
  obtain ⟨v3, vs3, d3, ds3, p3, q3, rfl, rfl, rfl, h3, r3⟩ := trodAll_cons r2
  obtain ⟨rfl, rfl, rfl⟩ := trodAll_nil r3
  obtain rfl : args = #[v0, v1, v2, v3] := by cases args; simp_all
  obtain ⟨rfl, rfl⟩ := trodVars_none hV
  have hlt0 : ∀ x ∈ p0, x.block < W.heap.size := fun x hx => by simpa using hW'.lt x (by simp [hx])
  have hlt1 : ∀ x ∈ p1, x.block < W.heap.size := fun x hx => by simpa using hW'.lt x (by simp [hx])
  have hlt2 : ∀ x ∈ p2, x.block < W.heap.size := fun x hx => by simpa using hW'.lt x (by simp [hx])
  have hlt3 : ∀ x ∈ p3, x.block < W.heap.size := fun x hx => by simpa using hW'.lt x (by simp [hx])
  have fin : (∃ Q : Prop, Q) ∧ Calls Try.prog 12 #[v0, v1, v2, v3] W (fun e W' => e = .returned (.bool true) ∧ Below W.heap.size W W') := by
    refine ⟨⟨True, trivial⟩, ?_⟩
    obtain ⟨x0, y0, z0, wx0, wy0, wz0, hor0⟩ := open_heap (b0 := base) Try.underlying24 ⟨rfl, rfl⟩ ⟨rfl, rfl⟩ ⟨rfl, rfl⟩ ⟨rfl, rfl⟩ Try.underlying22 Try.underlying25 Try.underlying3 (by kernel_rfl) (by kernel_rfl) (by kernel_rfl) (by kernel_rfl) (by kernel_rfl) (hval 0 24 v0 rfl rfl) h0
    obtain ⟨n1, rfl, _, _, w1⟩ := open_int Try.underlying3 (hval 1 3 v1 rfl rfl) h1
    obtain ⟨n2, rfl, _, _, w2⟩ := open_int Try.underlying3 (hval 2 3 v2 rfl rfl) h2
    obtain ⟨n3, rfl, _, _, w3⟩ := open_int Try.underlying3 (hval 3 3 v3 rfl rfl) h3
    rcases hor0 with rfl | ⟨ad0, cap0, L0, rfl, hl0, hm0, hsp0, hhas0, hcell0⟩
    · have hS : Sound Try.prog 12 [.agg #[.int .i64 x0, .int .i64 y0, .int .i64 z0, .slice none 0 0], .int .i64 n1, .int .i64 n2, .int .i64 n3] [] (.bool true) [] := lawWidenHeap_n x0 y0 z0 n1 n2 n3
      exact hS.top0 rfl rfl W
    · have hS : Sound Try.prog 12 [.agg #[.int .i64 x0, .int .i64 y0, .int .i64 z0, .slice (some ⟨0, 0, none⟩) L0.length 0], .int .i64 n1, .int .i64 n2, .int .i64 n3] [some ⟨a3s L0, 25, false, false⟩] (.bool true) [some ⟨a3s L0, 25, false, false⟩] := lawWidenHeap_s x0 y0 z0 L0 n1 n2 n3 (by have : maxLen = 9223372036854775807 := rfl; omega)
      have hrep := rep_one (P := Try.prog) (b0 := base) (ta := 25) (by kernel_rfl) hhas0 (by rw [Try.underlying25]; simp) hcell0 hl0
      have h := hS.top (fun i r hi => by cases i with
        | zero => simp at hi; subst hi; rfl
        | succ i => simp at hi) hrep (fun x hx i hi => by
        simp at hx
        rcases hx with rfl | rfl | rfl | rfl <;> simp [idsV, idsA, idsS, idsP] at hi
        simp [hi]) rfl
      obtain ⟨blk0, off0, spot0⟩ := ad0
      simp only at hsp0
      subst hsp0
      simpa [mapV, mpV, mpA, mpS, mpP, toReal] using h
  clear hA0 hval0 hsz0
  refine fin.2.mono fun e W' ⟨he, bel⟩ => ?_
  subst he
  exact ⟨_, rfl, _, _, _, [], _, [], hW', trodAll_mk1 (shut_bool Try.underlying4 _), (trodAll_cons_mk (Below.trod laidOut (by kernel_rfl) (of_decide_eq_true (by kernel_rfl)) h0 bel hlt0) (trodAll_cons_mk (Below.trod laidOut (by kernel_rfl) (of_decide_eq_true (by kernel_rfl)) h1 bel hlt1) (trodAll_cons_mk (Below.trod laidOut (by kernel_rfl) (of_decide_eq_true (by kernel_rfl)) h2 bel hlt2) (trodAll_cons_mk (Below.trod laidOut (by kernel_rfl) (of_decide_eq_true (by kernel_rfl)) h3 bel hlt3) trodAll_mk0)))), rfl, bel.frame _, fun h => by cases h⟩
theorem over : Rows.fnExactWidenHeapRow.holds Try.pinned (OpenSpec.ofChange Rows.fnExactWidenHeapSpec) :=
  OpenClaim.holds_of_wide 12 Try.f12 rfl rfl rfl rfl rfl rfl rfl ⟨rfl, rfl, rfl, rfl, rfl⟩ rfl rfl rfl rfl rfl (by kernel_rfl) Try.func12 (by kernel_rfl)
    (of_decide_eq_true (by kernel_rfl)) (by unfold Func.isWrapper; first | (rw [if_pos (by decide +kernel)]; kernel_rfl) | (rw [if_neg (by decide +kernel)]; exact ⟨rfl, rfl⟩))
    (fun os started H enc _ => lifted os started H enc)
end Go.Proofs.Ytenkiofddpjidaa.fnExactWidenHeap
namespace Go.Proofs.Ytenkiofddpjidaa
/-- The row, under a short name, for the claim. -/
theorem fnExactWidenHeap_holds : Rows.FnExactWidenHeapSaid := fnExactWidenHeap.over
#print axioms fnExactWidenHeap_holds
end Go.Proofs.Ytenkiofddpjidaa
