import Derived.Test.YtbheeobnghlckaaAmC5
import Derived.Test.YtbheeobnghlckaaAmC1
import Derived.WalkKit
import Derived.ProofKit
import Derived.OpenShut
import Derived.ChangeOld
import Derived.Below
import Derived.SizedLaws
set_option linter.unusedVariables false
set_option linter.unusedSimpArgs false
namespace Go.Proofs.Ytbheeobnghlckaa
open Go.Am Go.RowKit
set_option maxRecDepth 100000 in
set_option maxHeartbeats 4000000 in
theorem lawMirrorShadow_bigB_nsn (x : Int) (y : Int) (z : Int) (B : List Int) (k : Int) (hl : 1048576 < B.length) (hm : B.length ≤ 9223372036854775807) : Sound Try.prog 12 [.agg #[vI x, vI y, vI z, .slice none 0 0, vS 0 B.length, .slice none 0 0], vI k] [nR B] (.bool true) [nR B] := by
 refine sound_intro (C := cx) Try.func12 rfl (by kernel_rfl) fun hcl => ?_
 refine cSeq ?_
 refine cReg ?_
 refine segEnd [1, 2] (T1 := (mkT 101 [(1, vI k), (2, vP 1 0)])) (H1 := [nR B, rB [vI x, vI y, vI z, .slice none 0 0, vS 0 B.length, .slice none 0 0] 24]) (by kernel_rfl) ?_
 refine kSeq ?_
 refine cSeq ?_
 refine cReg ?_
 refine segEndH [1, 2, 5] (T1 := (mkT 101 [(1, vI k), (2, vP 1 0), (5, vI 1048576)])) (by kernel_rfl) ?_
 refine kSeq ?_
 refine cSeq ?_
 refine cReg ?_
 refine segH 2 (T1 := (mkT 101 [(1, vI k), (2, vP 1 0), (5, vI 1048576), (16, .agg #[vI x, vI y, vI z, .slice none 0 0, vS 0 B.length, .slice none 0 0]), (17, vI 1048576)])) (by kernel_rfl) ?_
 refine rCall (v := vI (-1)) (args := [.agg #[vI x, vI y, vI z, .slice none 0 0, vS 0 B.length, .slice none 0 0], vI 1048576]) (by kernel_rfl) rfl (by kernel_rfl) (Sound.lay0 [0] (szSh_nsn_B x y z B 1048576 (by first | omega | assumption | (simp; done) | (simp; omega)) (by first | assumption | omega | rfl | decide | exact HeapL.list _ _ _ _ | exact HeapL.nil _ _ _ | exact HeapL.all _ _ _ | (apply HeapL.lt64 <;> assumption) | (repeat' (first | assumption | apply or_lt64 | apply and_lt64 | apply andn_lt64 | apply pow_lt64 | (apply HeapL.lt64 <;> assumption)))) (by first | omega | assumption | decide)) ⟨rdF false (flatNums _ _ _ _) rfl rfl, trivial⟩ rfl ⟨clF (flatNums _ _ _ _), trivial⟩ rfl (by first | rfl | simp [mpV, mpA, mpS, mpP, renId, shift]) rfl) ?_
 refine segEndH [1, 2, 5] (T1 := (mkT 101 [(1, vI k), (2, vP 1 0), (5, vI (-1))])) (by kernel_rfl) ?_
 refine kSeq ?_
 refine cSeq ?_
 refine cSeq ?_
 refine cReg ?_
 refine segEndH [1, 2, 20] (T1 := (mkT 101 [(1, vI k), (2, vP 1 0), (20, .bool true)])) (by kernel_rfl) ?_
 refine kSeq ?_
 refine cTrue (by kernel_rfl) ?_
 refine cSeq ?_
 refine cReg ?_
 refine segEndH [4] (T1 := (mkT 101 [(4, .bool true)])) (by kernel_rfl) ?_
 refine kSeq ?_
 refine cRet ?_
 refine kSeqR ?_
 exact endQ (Or.inr rfl) (l := [.bool true]) [rB [vI x, vI y, vI z, .slice none 0 0, vS 0 B.length, .slice none 0 0] 24] (by kernel_rfl) (by first | rfl | kernel_rfl) rfl rfl hcl rfl
set_option maxRecDepth 100000 in
set_option maxHeartbeats 4000000 in
theorem lawMirrorShadow_no_nsn (x : Int) (y : Int) (z : Int) (B : List Int) (k : Int) (hl : B.length ≤ 1048576) (hb : mirB x y z ([] : List Int) B ([] : List Int) k = false) : Sound Try.prog 12 [.agg #[vI x, vI y, vI z, .slice none 0 0, vS 0 B.length, .slice none 0 0], vI k] [nR B] (.bool true) [nR B] := by
 refine sound_intro (C := cx) Try.func12 rfl (by kernel_rfl) fun hcl => ?_
 refine cSeq ?_
 refine cReg ?_
 refine segEnd [1, 2] (T1 := (mkT 101 [(1, vI k), (2, vP 1 0)])) (H1 := [nR B, rB [vI x, vI y, vI z, .slice none 0 0, vS 0 B.length, .slice none 0 0] 24]) (by kernel_rfl) ?_
 refine kSeq ?_
 refine cSeq ?_
 refine cReg ?_
 refine segEndH [1, 2, 5] (T1 := (mkT 101 [(1, vI k), (2, vP 1 0), (5, vI 1048576)])) (by kernel_rfl) ?_
 refine kSeq ?_
 refine cSeq ?_
 refine cReg ?_
 refine segH 2 (T1 := (mkT 101 [(1, vI k), (2, vP 1 0), (5, vI 1048576), (16, .agg #[vI x, vI y, vI z, .slice none 0 0, vS 0 B.length, .slice none 0 0]), (17, vI 1048576)])) (by kernel_rfl) ?_
 refine rCall (v := vN (1048576 - B.length)) (args := [.agg #[vI x, vI y, vI z, .slice none 0 0, vS 0 B.length, .slice none 0 0], vI 1048576]) (by kernel_rfl) rfl (by kernel_rfl) (Sound.lay0 [0] (szSh_nsn x y z B 1048576 (by first | omega | assumption | (simp; done) | (simp; omega)) (by first | omega | assumption | decide)) ⟨rdF false (flatNums _ _ _ _) rfl rfl, trivial⟩ rfl ⟨clF (flatNums _ _ _ _), trivial⟩ rfl (by first | rfl | simp [mpV, mpA, mpS, mpP, renId, shift]) rfl) ?_
 refine segEndH [1, 2, 5] (T1 := (mkT 101 [(1, vI k), (2, vP 1 0), (5, vN (1048576 - B.length))])) (by kernel_rfl) ?_
 refine kSeq ?_
 refine cSeq ?_
 refine cSeq ?_
 refine cReg ?_
 refine segEndH [1, 2, 20] (T1 := (mkT 101 [(1, vI k), (2, vP 1 0), (20, .bool (decide (((1048576 - B.length : Nat) : Int) < 0)))])) (by kernel_rfl) ?_
 refine kSeq ?_
 cases h1 : (decide (((1048576 - B.length : Nat) : Int) < 0) : Bool)
 ·
  (try simp only [bs0, bs1, bs2, bs3, beq_iff_eq, bne_iff_ne, beq_eq_false_iff_ne, bne_eq_false_iff_eq, ne_eq, bs4, bs5, bs6, bs7, bs8, bs9, bs10, bs11, ge_iff_le, gt_iff_lt] at h1)
  refine cFalse (by kernel_rfl) ?_
  refine cSkip ?_
  refine kSeq ?_
  refine cSeq ?_
  refine cReg ?_
  refine segH 1 (T1 := (mkT 101 [(1, vI k), (2, vP 1 0), (20, .bool false), (22, .agg #[vI x, vI y, vI z, .slice none 0 0, vS 0 B.length, .slice none 0 0])])) (by kernel_rfl) ?_
  refine rCall (v := .agg #[vI x, vI y, vI z, vS 2 0, vS 3 B.length, vS 4 0]) (args := [.agg #[vI x, vI y, vI z, .slice none 0 0, vS 0 B.length, .slice none 0 0]]) (by kernel_rfl) rfl (by kernel_rfl) (Sound.lay (E := [nW ([] : List Int), nW B, nW ([] : List Int)]) [0] (toSh_nsn x y z B (by first | omega | assumption)) ⟨rdF false (flatNums _ _ _ _) rfl rfl, trivial⟩ rfl ⟨clF (flatNums _ _ _ _), trivial⟩ rfl (by first | rfl | simp [mpV, mpA, mpS, mpP, renId, shift]) (by first | rfl | simp [mpV, mpA, mpS, mpP, renId, shift]) ⟨enF (flatNums _ _ _ _) (Or.inl rfl), ⟨enF (flatNums _ _ _ _) (Or.inl rfl), ⟨enF (flatNums _ _ _ _) (Or.inl rfl), trivial⟩⟩⟩) ?_
  refine seg 1 (T1 := (mkT 101 [(1, vI k), (2, vP 1 0), (20, .bool false), (22, .agg #[vI x, vI y, vI z, .slice none 0 0, vS 0 B.length, .slice none 0 0]), (23, .agg #[vI x, vI y, vI z, vS 2 0, vS 3 B.length, vS 4 0]), (24, vI k)])) (H1 := [nR B, rB [vI x, vI y, vI z, .slice none 0 0, vS 0 B.length, .slice none 0 0] 24, nW ([] : List Int), nW B, nW ([] : List Int)]) (by kernel_rfl) ?_
  refine rCall (v := .tuple #[.agg #[vI 0, vI 0, vI 0, .slice none 0 0, .slice none 0 0, .slice none 0 0], .bool false]) (args := [.agg #[vI x, vI y, vI z, vS 2 0, vS 3 B.length, vS 4 0], vI k]) (by kernel_rfl) rfl (by kernel_rfl) (Sound.lay0 [2, 3, 4] (specMirrorShadow_bad x y z ([] : List Int) B ([] : List Int) k (by first | assumption | omega | rfl | decide | exact HeapL.list _ _ _ _ | exact HeapL.nil _ _ _ | exact HeapL.all _ _ _ | (apply HeapL.lt64 <;> assumption) | (repeat' (first | assumption | apply or_lt64 | apply and_lt64 | apply andn_lt64 | apply pow_lt64 | (apply HeapL.lt64 <;> assumption)))) (by first | omega | assumption | (simp; done)) (by first | omega | assumption | (simp; done)) (by first | omega | assumption | (simp; done))) ⟨rdF true (flatNums _ _ _ _) rfl rfl, ⟨rdF true (flatNums _ _ _ _) rfl rfl, ⟨rdF true (flatNums _ _ _ _) rfl rfl, trivial⟩⟩⟩ rfl ⟨clF (flatNums _ _ _ _), ⟨clF (flatNums _ _ _ _), ⟨clF (flatNums _ _ _ _), trivial⟩⟩⟩ rfl (by first | rfl | simp [mpV, mpA, mpS, mpP, renId, shift]) (by first | rfl | simp [mpV, mpA, mpS, mpP, renId, shift])) ?_
  refine segEnd [1, 2, 6, 7] (T1 := (mkT 101 [(1, vI k), (2, vP 1 0), (6, vP 5 0), (7, .bool false)])) (H1 := [nR B, rB [vI x, vI y, vI z, .slice none 0 0, vS 0 B.length, .slice none 0 0] 24, nW ([] : List Int), nW B, nW ([] : List Int), rB [vI 0, vI 0, vI 0, .slice none 0 0, .slice none 0 0, .slice none 0 0] 27]) (by kernel_rfl) ?_
  refine kSeq ?_
  refine cSeq ?_
  refine cReg ?_
  refine segH 1 (T1 := (mkT 101 [(1, vI k), (2, vP 1 0), (6, vP 5 0), (7, .bool false), (28, .agg #[vI x, vI y, vI z, .slice none 0 0, vS 0 B.length, .slice none 0 0])])) (by kernel_rfl) ?_
  refine rCall (v := .agg #[vI x, vI y, vI z, vS 6 0, vS 7 B.length, vS 8 0]) (args := [.agg #[vI x, vI y, vI z, .slice none 0 0, vS 0 B.length, .slice none 0 0]]) (by kernel_rfl) rfl (by kernel_rfl) (Sound.lay (E := [nW ([] : List Int), nW B, nW ([] : List Int)]) [0] (toSh_nsn x y z B (by first | omega | assumption)) ⟨rdF false (flatNums _ _ _ _) rfl rfl, trivial⟩ rfl ⟨clF (flatNums _ _ _ _), trivial⟩ rfl (by first | rfl | simp [mpV, mpA, mpS, mpP, renId, shift]) (by first | rfl | simp [mpV, mpA, mpS, mpP, renId, shift]) ⟨enF (flatNums _ _ _ _) (Or.inl rfl), ⟨enF (flatNums _ _ _ _) (Or.inl rfl), ⟨enF (flatNums _ _ _ _) (Or.inl rfl), trivial⟩⟩⟩) ?_
  refine segEnd [1, 2, 6, 7, 8] (T1 := (mkT 101 [(1, vI k), (2, vP 1 0), (6, vP 5 0), (7, .bool false), (8, vP 9 0)])) (H1 := [nR B, rB [vI x, vI y, vI z, .slice none 0 0, vS 0 B.length, .slice none 0 0] 24, nW ([] : List Int), nW B, nW ([] : List Int), rB [vI 0, vI 0, vI 0, .slice none 0 0, .slice none 0 0, .slice none 0 0] 27, nW ([] : List Int), nW B, nW ([] : List Int), rB [vI x, vI y, vI z, vS 6 0, vS 7 B.length, vS 8 0] 27]) (by kernel_rfl) ?_
  refine kSeq ?_
  refine cSeq ?_
  refine cReg ?_
  refine segH 2 (T1 := (mkT 101 [(1, vI k), (2, vP 1 0), (6, vP 5 0), (7, .bool false), (8, vP 9 0), (31, .agg #[vI x, vI y, vI z, vS 6 0, vS 7 B.length, vS 8 0]), (32, vI k)])) (by kernel_rfl) ?_
  refine rCall (v := .tuple #[.agg #[vI 0, vI 0, vI 0, .slice none 0 0, .slice none 0 0, .slice none 0 0], .bool false]) (args := [.agg #[vI x, vI y, vI z, vS 6 0, vS 7 B.length, vS 8 0], vI k]) (by kernel_rfl) rfl (by kernel_rfl) (Sound.lay0 [6, 7, 8] (implMirrorShadow_bad x y z ([] : List Int) B ([] : List Int) k (by first | assumption | omega | rfl | decide | exact HeapL.list _ _ _ _ | exact HeapL.nil _ _ _ | exact HeapL.all _ _ _ | (apply HeapL.lt64 <;> assumption) | (repeat' (first | assumption | apply or_lt64 | apply and_lt64 | apply andn_lt64 | apply pow_lt64 | (apply HeapL.lt64 <;> assumption)))) (by first | omega | assumption | (simp; done)) (by first | omega | assumption | (simp; done)) (by first | omega | assumption | (simp; done))) ⟨rdF true (flatNums _ _ _ _) rfl rfl, ⟨rdF true (flatNums _ _ _ _) rfl rfl, ⟨rdF true (flatNums _ _ _ _) rfl rfl, trivial⟩⟩⟩ rfl ⟨clF (flatNums _ _ _ _), ⟨clF (flatNums _ _ _ _), ⟨clF (flatNums _ _ _ _), trivial⟩⟩⟩ rfl (by first | rfl | simp [mpV, mpA, mpS, mpP, renId, shift]) (by first | rfl | simp [mpV, mpA, mpS, mpP, renId, shift])) ?_
  refine segEnd [1, 2, 6, 7, 8, 9, 10] (T1 := (mkT 101 [(1, vI k), (2, vP 1 0), (6, vP 5 0), (7, .bool false), (8, vP 9 0), (9, vP 10 0), (10, .bool false)])) (H1 := [nR B, rB [vI x, vI y, vI z, .slice none 0 0, vS 0 B.length, .slice none 0 0] 24, nW ([] : List Int), nW B, nW ([] : List Int), rB [vI 0, vI 0, vI 0, .slice none 0 0, .slice none 0 0, .slice none 0 0] 27, nW ([] : List Int), nW B, nW ([] : List Int), rB [vI x, vI y, vI z, vS 6 0, vS 7 B.length, vS 8 0] 27, rB [vI 0, vI 0, vI 0, .slice none 0 0, .slice none 0 0, .slice none 0 0] 27]) (by kernel_rfl) ?_
  refine kSeq ?_
  refine cSeq ?_
  refine cSeq ?_
  refine cReg ?_
  refine segH 2 (T1 := (mkT 101 [(1, vI k), (2, vP 1 0), (6, vP 5 0), (7, .bool false), (8, vP 9 0), (9, vP 10 0), (10, .bool false), (36, .agg #[vI 0, vI 0, vI 0, .slice none 0 0, .slice none 0 0, .slice none 0 0]), (37, .agg #[vI 0, vI 0, vI 0, .slice none 0 0, .slice none 0 0, .slice none 0 0])])) (by kernel_rfl) ?_
  refine rCall (v := .bool true) (args := [.agg #[vI 0, vI 0, vI 0, .slice none 0 0, .slice none 0 0, .slice none 0 0], .agg #[vI 0, vI 0, vI 0, .slice none 0 0, .slice none 0 0, .slice none 0 0]]) (by kernel_rfl) rfl (by kernel_rfl) (Sound.lay0 [] (eqSh_N) trivial rfl trivial rfl (by first | rfl | simp [mpV, mpA, mpS, mpP, renId, shift]) rfl) ?_
  refine segEndH [1, 2, 6, 7, 8, 9, 10, 44] (T1 := (mkT 101 [(1, vI k), (2, vP 1 0), (6, vP 5 0), (7, .bool false), (8, vP 9 0), (9, vP 10 0), (10, .bool false), (44, .bool false)])) (by kernel_rfl) ?_
  refine kSeq ?_
  refine cFalse (by kernel_rfl) ?_
  refine cSkip ?_
  refine kSeq ?_
  refine cSeq ?_
  refine cSeq ?_
  refine cRegW (N := 14) [⟨[], [], [9]⟩, ⟨[], [], [1]⟩, ⟨[11, 12, 13], [], [0]⟩, ⟨[], [], [6, 7, 8, 11, 12, 13]⟩, ⟨[], [], []⟩] 3 [11, 12, 13] (by rfl) (by rfl) (by kernel_rfl) (by kernel_rfl) (by kernel_rfl) ⟨nmsF (flatNums _ _ _ _), ⟨nmsX (by kernel_rfl), ⟨nmsF (flatNums _ _ _ _), ⟨nmsF (flatNums _ _ _ _), ⟨nmsF (flatNums _ _ _ _), ⟨nmsX (by kernel_rfl), ⟨nmsF (flatNums _ _ _ _), ⟨nmsF (flatNums _ _ _ _), ⟨nmsF (flatNums _ _ _ _), ⟨nmsX (by kernel_rfl), ⟨nmsX (by kernel_rfl), trivial⟩⟩⟩⟩⟩⟩⟩⟩⟩⟩⟩ ?_
  refine segWH 2 (T1 := (mkT 101 [(1, vI k), (2, vP 1 0), (6, vP 5 0), (7, .bool false), (8, vP 9 0), (9, vP 10 0), (10, .bool false), (44, .bool false), (45, .agg #[vI x, vI y, vI z, vS 6 0, vS 7 B.length, vS 8 0]), (46, .agg #[vI x, vI y, vI z, .slice none 0 0, vS 0 B.length, .slice none 0 0])])) (by kernel_rfl) ?_
  refine rW (m := ⟨[11, 12, 13], [], [0]⟩) (v := .agg #[vI x, vI y, vI z, vS 11 0, vS 12 B.length, vS 13 0]) rfl (by kernel_rfl) (stN (i := 11) (E := [nW ([] : List Int), nW B, nW ([] : List Int)]) (v1 := .agg #[vI x, vI y, vI z, vS 14 0, vS 15 B.length, vS 16 0]) (args := [.agg #[vI x, vI y, vI z, .slice none 0 0, vS 0 B.length, .slice none 0 0]]) rfl (by kernel_rfl) (Any.lay (E := [nW ([] : List Int), nW B, nW ([] : List Int)]) (N := 14) [0] (toSh_nsn x y z B (by first | omega | assumption)) ⟨rdF false (flatNums _ _ _ _) rfl rfl, trivial⟩ rfl ⟨clF (flatNums _ _ _ _), trivial⟩ rfl (by first | rfl | simp [mpV, mpA, mpS, mpP, renId, shift]) (by first | rfl | simp [mpV, mpA, mpS, mpP, renId, shift]) ⟨enF (flatNums _ _ _ _) (Or.inl rfl), ⟨enF (flatNums _ _ _ _) (Or.inl rfl), ⟨enF (flatNums _ _ _ _) (Or.inl rfl), trivial⟩⟩⟩) rfl (by kernel_rfl) (by kernel_rfl) (by kernel_rfl) (by kernel_rfl) (FlatH.cons (flatNums _ _ _ _) (FlatH.cons (flatNums _ _ _ _) (FlatH.cons (flatNums _ _ _ _) FlatH.nil)))) (by kernel_rfl) (NRs.all ⟨nrOf (by rfl) (nmF (flatNums _ _ _ _)), ⟨nrOf (by rfl) (nmF (flatNums _ _ _ _)), ⟨nrOf (by rfl) (nmF (flatNums _ _ _ _)), trivial⟩⟩⟩) ?_
  refine rW (m := ⟨[], [], [6, 7, 8, 11, 12, 13]⟩) (v := .bool true) rfl (by kernel_rfl) (stQ (args := [.agg #[vI x, vI y, vI z, vS 6 0, vS 7 B.length, vS 8 0], .agg #[vI x, vI y, vI z, vS 11 0, vS 12 B.length, vS 13 0]]) rfl (by kernel_rfl) (Any.lay0 [6, 7, 8, 11, 12, 13] (eqSh x y z ([] : List Int) B ([] : List Int) (by first | omega | assumption | (simp; done)) (by first | omega | assumption | (simp; done)) (by first | omega | assumption | (simp; done))) ⟨rdF true (flatNums _ _ _ _) rfl rfl, ⟨rdF true (flatNums _ _ _ _) rfl rfl, ⟨rdF true (flatNums _ _ _ _) rfl rfl, ⟨rdF true (flatNums _ _ _ _) rfl rfl, ⟨rdF true (flatNums _ _ _ _) rfl rfl, ⟨rdF true (flatNums _ _ _ _) rfl rfl, trivial⟩⟩⟩⟩⟩⟩ rfl ⟨clF (flatNums _ _ _ _), ⟨clF (flatNums _ _ _ _), ⟨clF (flatNums _ _ _ _), ⟨clF (flatNums _ _ _ _), ⟨clF (flatNums _ _ _ _), ⟨clF (flatNums _ _ _ _), trivial⟩⟩⟩⟩⟩⟩ rfl (by first | rfl | simp [mpV, mpA, mpS, mpP, renId, shift]) rfl) rfl (by kernel_rfl) (by kernel_rfl)) (by kernel_rfl) nr0 ?_
  refine segEndW [1, 2, 6, 7, 8, 9, 10, 49] (T1 := (mkT 101 [(1, vI k), (2, vP 1 0), (6, vP 5 0), (7, .bool false), (8, vP 9 0), (9, vP 10 0), (10, .bool false), (49, .bool false)])) (H1 := [nR B, rB [vI x, vI y, vI z, .slice none 0 0, vS 0 B.length, .slice none 0 0] 24, nW ([] : List Int), nW B, nW ([] : List Int), rB [vI 0, vI 0, vI 0, .slice none 0 0, .slice none 0 0, .slice none 0 0] 27, nW ([] : List Int), nW B, nW ([] : List Int), rB [vI x, vI y, vI z, vS 6 0, vS 7 B.length, vS 8 0] 27, rB [vI 0, vI 0, vI 0, .slice none 0 0, .slice none 0 0, .slice none 0 0] 27, nW ([] : List Int), nW B, nW ([] : List Int)]) (by kernel_rfl) ?_
  refine kSeq ?_
  refine cFalse (by kernel_rfl) ?_
  refine cSkip ?_
  refine kSeq ?_
  refine cSeq ?_
  refine cReg ?_
  refine segEndH [1, 2, 6, 7, 8, 9, 10, 11] (T1 := (mkT 101 [(1, vI k), (2, vP 1 0), (6, vP 5 0), (7, .bool false), (8, vP 9 0), (9, vP 10 0), (10, .bool false), (11, vI 1)])) (by kernel_rfl) ?_
  refine kSeq ?_
  refine cSeq ?_
  refine cReg ?_
  refine segH 2 (T1 := (mkT 101 [(1, vI k), (2, vP 1 0), (6, vP 5 0), (7, .bool false), (8, vP 9 0), (9, vP 10 0), (10, .bool false), (11, vI 1), (50, .agg #[vI x, vI y, vI z, vS 6 0, vS 7 B.length, vS 8 0]), (51, vI 1)])) (by kernel_rfl) ?_
  refine rCall (v := vN (1 + ([] : List Int).length + B.length + ([] : List Int).length)) (args := [.agg #[vI x, vI y, vI z, vS 6 0, vS 7 B.length, vS 8 0], vI 1]) (by kernel_rfl) rfl (by kernel_rfl) (Sound.emb_set3 (r0 := ⟨nums ([] : List Int), 3, false, true⟩) (r1 := ⟨nums B, 3, false, true⟩) (r2 := ⟨nums ([] : List Int), 3, false, true⟩) (q0 := ⟨nums (mkI 1 ([] : List Int).length), 3, false, true⟩) (q1 := ⟨nums (mkI (1 + ([] : List Int).length) B.length), 3, false, true⟩) (q2 := ⟨nums (mkI (1 + ([] : List Int).length + B.length) ([] : List Int).length), 3, false, true⟩) 6 7 8 (markSh x y z ([] : List Int) B ([] : List Int) 1 (by first | omega | assumption | (simp; done)) (by first | omega | assumption | (simp; done)) (by first | omega | assumption | (simp; done)) (by first | assumption | omega | rfl | decide | exact HeapL.list _ _ _ _ | exact HeapL.nil _ _ _ | exact HeapL.all _ _ _ | (apply HeapL.lt64 <;> assumption) | (repeat' (first | assumption | apply or_lt64 | apply and_lt64 | apply andn_lt64 | apply pow_lt64 | (apply HeapL.lt64 <;> assumption))))) ⟨⟨(flatNums _ _ _ _), rfl⟩, ⟨(flatNums _ _ _ _), rfl⟩, ⟨(flatNums _ _ _ _), rfl⟩⟩ ⟨⟨(flatNums _ _ _ _), rfl⟩, ⟨(flatNums _ _ _ _), rfl⟩, ⟨(flatNums _ _ _ _), rfl⟩⟩ rfl rfl rfl rfl rfl (by first | rfl | simp [mpV, mpA, mpS, mpP, renId, shift]) rfl) ?_
  refine segEnd [1, 2, 6, 7, 9, 10, 11] (T1 := (mkT 101 [(1, vI k), (2, vP 1 0), (6, vP 5 0), (7, .bool false), (9, vP 10 0), (10, .bool false), (11, vN (1 + ([] : List Int).length + B.length + ([] : List Int).length))])) (H1 := [nR B, rB [vI x, vI y, vI z, .slice none 0 0, vS 0 B.length, .slice none 0 0] 24, nW ([] : List Int), nW B, nW ([] : List Int), rB [vI 0, vI 0, vI 0, .slice none 0 0, .slice none 0 0, .slice none 0 0] 27, nW (mkI 1 ([] : List Int).length), nW (mkI (1 + ([] : List Int).length) B.length), nW (mkI (1 + ([] : List Int).length + B.length) ([] : List Int).length), rB [vI x, vI y, vI z, vS 6 0, vS 7 B.length, vS 8 0] 27, rB [vI 0, vI 0, vI 0, .slice none 0 0, .slice none 0 0, .slice none 0 0] 27, nW ([] : List Int), nW B, nW ([] : List Int)]) (by kernel_rfl) ?_
  refine kSeq ?_
  refine cSeq ?_
  refine cSeq ?_
  refine cReg ?_
  refine segH 3 (T1 := (mkT 101 [(1, vI k), (2, vP 1 0), (6, vP 5 0), (7, .bool false), (9, vP 10 0), (10, .bool false), (11, vN (1 + ([] : List Int).length + B.length + ([] : List Int).length)), (53, vN (1 + ([] : List Int).length + B.length + ([] : List Int).length)), (54, .bool (decide (((1 + ([] : List Int).length + B.length + ([] : List Int).length : Nat) : Int) < 0))), (55, .bool (decide (((1 + ([] : List Int).length + B.length + ([] : List Int).length : Nat) : Int) < 0)))])) (by kernel_rfl) ?_
  cases h2 : (decide (((1 + ([] : List Int).length + B.length + ([] : List Int).length : Nat) : Int) < 0) : Bool)
  ·
   (try simp only [bs0, bs1, bs2, bs3, beq_iff_eq, bne_iff_ne, beq_eq_false_iff_ne, bne_eq_false_iff_eq, ne_eq, bs4, bs5, bs6, bs7, bs8, bs9, bs10, bs11, ge_iff_le, gt_iff_lt] at h2)
   refine seg 2 (T1 := (mkT 101 [(1, vI k), (2, vP 1 0), (6, vP 5 0), (7, .bool false), (9, vP 10 0), (10, .bool false), (11, vN (1 + ([] : List Int).length + B.length + ([] : List Int).length)), (53, vN (1 + ([] : List Int).length + B.length + ([] : List Int).length)), (54, .bool false), (55, .bool false), (56, .agg #[vI 0, vI 0, vI 0, .slice none 0 0, .slice none 0 0, .slice none 0 0]), (57, .agg #[vI 0, vI 0, vI 0, .slice none 0 0, .slice none 0 0, .slice none 0 0])])) (H1 := [nR B, rB [vI x, vI y, vI z, .slice none 0 0, vS 0 B.length, .slice none 0 0] 24, nW ([] : List Int), nW B, nW ([] : List Int), rB [vI 0, vI 0, vI 0, .slice none 0 0, .slice none 0 0, .slice none 0 0] 27, nW (mkI 1 ([] : List Int).length), nW (mkI (1 + ([] : List Int).length) B.length), nW (mkI (1 + ([] : List Int).length + B.length) ([] : List Int).length), rB [vI x, vI y, vI z, vS 6 0, vS 7 B.length, vS 8 0] 27, rB [vI 0, vI 0, vI 0, .slice none 0 0, .slice none 0 0, .slice none 0 0] 27, nW ([] : List Int), nW B, nW ([] : List Int)]) (by kernel_rfl) ?_
   refine rCall (v := .bool true) (args := [.agg #[vI 0, vI 0, vI 0, .slice none 0 0, .slice none 0 0, .slice none 0 0], .agg #[vI 0, vI 0, vI 0, .slice none 0 0, .slice none 0 0, .slice none 0 0]]) (by kernel_rfl) rfl (by kernel_rfl) (Sound.lay0 [] (eqSh_N) trivial rfl trivial rfl (by first | rfl | simp [mpV, mpA, mpS, mpP, renId, shift]) rfl) ?_
   refine segEnd [1, 2, 6, 7, 9, 65] (T1 := (mkT 101 [(1, vI k), (2, vP 1 0), (6, vP 5 0), (7, .bool false), (9, vP 10 0), (65, .bool false)])) (H1 := [nR B, rB [vI x, vI y, vI z, .slice none 0 0, vS 0 B.length, .slice none 0 0] 24, nW ([] : List Int), nW B, nW ([] : List Int), rB [vI 0, vI 0, vI 0, .slice none 0 0, .slice none 0 0, .slice none 0 0] 27, nW (mkI 1 ([] : List Int).length), nW (mkI (1 + ([] : List Int).length) B.length), nW (mkI (1 + ([] : List Int).length + B.length) ([] : List Int).length), rB [vI x, vI y, vI z, vS 6 0, vS 7 B.length, vS 8 0] 27, rB [vI 0, vI 0, vI 0, .slice none 0 0, .slice none 0 0, .slice none 0 0] 27, nW ([] : List Int), nW B, nW ([] : List Int)]) (by kernel_rfl) ?_
   refine kSeq ?_
   refine cFalse (by kernel_rfl) ?_
   refine cSkip ?_
   refine kSeq ?_
   refine cSeq ?_
   refine cReg ?_
   refine segEndH [1, 2, 6, 7, 9, 12] (T1 := (mkT 101 [(1, vI k), (2, vP 1 0), (6, vP 5 0), (7, .bool false), (9, vP 10 0), (12, vI 1)])) (by kernel_rfl) ?_
   refine kSeq ?_
   refine cSeq ?_
   refine cReg ?_
   refine segH 2 (T1 := (mkT 101 [(1, vI k), (2, vP 1 0), (6, vP 5 0), (7, .bool false), (9, vP 10 0), (12, vI 1), (66, .agg #[vI 0, vI 0, vI 0, .slice none 0 0, .slice none 0 0, .slice none 0 0]), (67, vI 1)])) (by kernel_rfl) ?_
   refine rCall (v := vI 1) (args := [.agg #[vI 0, vI 0, vI 0, .slice none 0 0, .slice none 0 0, .slice none 0 0], vI 1]) (by kernel_rfl) rfl (by kernel_rfl) (Sound.lay0 [] (markSh_N 1 (by first | assumption | omega | rfl | decide | exact HeapL.list _ _ _ _ | exact HeapL.nil _ _ _ | exact HeapL.all _ _ _ | (apply HeapL.lt64 <;> assumption) | (repeat' (first | assumption | apply or_lt64 | apply and_lt64 | apply andn_lt64 | apply pow_lt64 | (apply HeapL.lt64 <;> assumption))))) trivial rfl trivial rfl (by first | rfl | simp [mpV, mpA, mpS, mpP, renId, shift]) rfl) ?_
   refine segEndH [1, 2, 6, 7, 9, 12] (T1 := (mkT 101 [(1, vI k), (2, vP 1 0), (6, vP 5 0), (7, .bool false), (9, vP 10 0), (12, vI 1)])) (by kernel_rfl) ?_
   refine kSeq ?_
   refine cSeq ?_
   refine cReg ?_
   refine segEndH [1, 2, 6, 7, 9, 12, 13] (T1 := (mkT 101 [(1, vI k), (2, vP 1 0), (6, vP 5 0), (7, .bool false), (9, vP 10 0), (12, vI 1), (13, vI 1)])) (by kernel_rfl) ?_
   refine kSeq ?_
   refine cSeq ?_
   refine cReg ?_
   refine segH 2 (T1 := (mkT 101 [(1, vI k), (2, vP 1 0), (6, vP 5 0), (7, .bool false), (9, vP 10 0), (12, vI 1), (13, vI 1), (69, .agg #[vI 0, vI 0, vI 0, .slice none 0 0, .slice none 0 0, .slice none 0 0]), (70, vI 1)])) (by kernel_rfl) ?_
   refine rCall (v := vI 1) (args := [.agg #[vI 0, vI 0, vI 0, .slice none 0 0, .slice none 0 0, .slice none 0 0], vI 1]) (by kernel_rfl) rfl (by kernel_rfl) (Sound.lay0 [] (heldSh_N 1 (by first | assumption | omega | rfl | decide | exact HeapL.list _ _ _ _ | exact HeapL.nil _ _ _ | exact HeapL.all _ _ _ | (apply HeapL.lt64 <;> assumption) | (repeat' (first | assumption | apply or_lt64 | apply and_lt64 | apply andn_lt64 | apply pow_lt64 | (apply HeapL.lt64 <;> assumption))))) trivial rfl trivial rfl (by first | rfl | simp [mpV, mpA, mpS, mpP, renId, shift]) rfl) ?_
   refine segEndH [1, 2, 6, 7, 9, 12, 13] (T1 := (mkT 101 [(1, vI k), (2, vP 1 0), (6, vP 5 0), (7, .bool false), (9, vP 10 0), (12, vI 1), (13, vI 1)])) (by kernel_rfl) ?_
   refine kSeq ?_
   refine cSeq ?_
   refine cSeq ?_
   refine cReg ?_
   refine segEndH [1, 2, 6, 7, 9, 12, 13, 73] (T1 := (mkT 101 [(1, vI k), (2, vP 1 0), (6, vP 5 0), (7, .bool false), (9, vP 10 0), (12, vI 1), (13, vI 1), (73, .bool false)])) (by kernel_rfl) ?_
   refine kSeq ?_
   refine cFalse (by kernel_rfl) ?_
   refine cSkip ?_
   refine kSeq ?_
   refine cSeq ?_
   refine cSeq ?_
   refine cReg ?_
   refine segEndH [1, 2, 6, 7, 9, 12, 76] (T1 := (mkT 101 [(1, vI k), (2, vP 1 0), (6, vP 5 0), (7, .bool false), (9, vP 10 0), (12, vI 1), (76, .bool false)])) (by kernel_rfl) ?_
   refine kSeq ?_
   refine cFalse (by kernel_rfl) ?_
   refine cSkip ?_
   refine kSeq ?_
   refine cSeq ?_
   refine cReg ?_
   refine segH 1 (T1 := (mkT 101 [(1, vI k), (2, vP 1 0), (6, vP 5 0), (7, .bool false), (9, vP 10 0), (12, vI 1), (76, .bool false), (78, .agg #[vI x, vI y, vI z, .slice none 0 0, vS 0 B.length, .slice none 0 0])])) (by kernel_rfl) ?_
   refine rCall (v := .agg #[vI x, vI y, vI z, vS 14 0, vS 15 B.length, vS 16 0]) (args := [.agg #[vI x, vI y, vI z, .slice none 0 0, vS 0 B.length, .slice none 0 0]]) (by kernel_rfl) rfl (by kernel_rfl) (Sound.lay (E := [nW ([] : List Int), nW B, nW ([] : List Int)]) [0] (toSh_nsn x y z B (by first | omega | assumption)) ⟨rdF false (flatNums _ _ _ _) rfl rfl, trivial⟩ rfl ⟨clF (flatNums _ _ _ _), trivial⟩ rfl (by first | rfl | simp [mpV, mpA, mpS, mpP, renId, shift]) (by first | rfl | simp [mpV, mpA, mpS, mpP, renId, shift]) ⟨enF (flatNums _ _ _ _) (Or.inl rfl), ⟨enF (flatNums _ _ _ _) (Or.inl rfl), ⟨enF (flatNums _ _ _ _) (Or.inl rfl), trivial⟩⟩⟩) ?_
   refine seg 1 (T1 := (mkT 101 [(1, vI k), (2, vP 1 0), (6, vP 5 0), (7, .bool false), (9, vP 10 0), (12, vI 1), (76, .bool false), (78, .agg #[vI x, vI y, vI z, .slice none 0 0, vS 0 B.length, .slice none 0 0]), (79, .agg #[vI x, vI y, vI z, vS 14 0, vS 15 B.length, vS 16 0]), (80, vI k)])) (H1 := [nR B, rB [vI x, vI y, vI z, .slice none 0 0, vS 0 B.length, .slice none 0 0] 24, nW ([] : List Int), nW B, nW ([] : List Int), rB [vI 0, vI 0, vI 0, .slice none 0 0, .slice none 0 0, .slice none 0 0] 27, nW (mkI 1 ([] : List Int).length), nW (mkI (1 + ([] : List Int).length) B.length), nW (mkI (1 + ([] : List Int).length + B.length) ([] : List Int).length), rB [vI x, vI y, vI z, vS 6 0, vS 7 B.length, vS 8 0] 27, rB [vI 0, vI 0, vI 0, .slice none 0 0, .slice none 0 0, .slice none 0 0] 27, nW ([] : List Int), nW B, nW ([] : List Int), nW ([] : List Int), nW B, nW ([] : List Int)]) (by kernel_rfl) ?_
   refine rCall (v := .tuple #[.agg #[vI 0, vI 0, vI 0, .slice none 0 0, .slice none 0 0, .slice none 0 0], .bool false]) (args := [.agg #[vI x, vI y, vI z, vS 14 0, vS 15 B.length, vS 16 0], vI k]) (by kernel_rfl) rfl (by kernel_rfl) (Sound.lay0 [14, 15, 16] (implMirrorShadow_bad x y z ([] : List Int) B ([] : List Int) k (by first | assumption | omega | rfl | decide | exact HeapL.list _ _ _ _ | exact HeapL.nil _ _ _ | exact HeapL.all _ _ _ | (apply HeapL.lt64 <;> assumption) | (repeat' (first | assumption | apply or_lt64 | apply and_lt64 | apply andn_lt64 | apply pow_lt64 | (apply HeapL.lt64 <;> assumption)))) (by first | omega | assumption | (simp; done)) (by first | omega | assumption | (simp; done)) (by first | omega | assumption | (simp; done))) ⟨rdF true (flatNums _ _ _ _) rfl rfl, ⟨rdF true (flatNums _ _ _ _) rfl rfl, ⟨rdF true (flatNums _ _ _ _) rfl rfl, trivial⟩⟩⟩ rfl ⟨clF (flatNums _ _ _ _), ⟨clF (flatNums _ _ _ _), ⟨clF (flatNums _ _ _ _), trivial⟩⟩⟩ rfl (by first | rfl | simp [mpV, mpA, mpS, mpP, renId, shift]) (by first | rfl | simp [mpV, mpA, mpS, mpP, renId, shift])) ?_
   refine segEnd [6, 7, 9, 12, 14, 15] (T1 := (mkT 101 [(6, vP 5 0), (7, .bool false), (9, vP 10 0), (12, vI 1), (14, vP 17 0), (15, .bool false)])) (H1 := [nR B, rB [vI x, vI y, vI z, .slice none 0 0, vS 0 B.length, .slice none 0 0] 24, nW ([] : List Int), nW B, nW ([] : List Int), rB [vI 0, vI 0, vI 0, .slice none 0 0, .slice none 0 0, .slice none 0 0] 27, nW (mkI 1 ([] : List Int).length), nW (mkI (1 + ([] : List Int).length) B.length), nW (mkI (1 + ([] : List Int).length + B.length) ([] : List Int).length), rB [vI x, vI y, vI z, vS 6 0, vS 7 B.length, vS 8 0] 27, rB [vI 0, vI 0, vI 0, .slice none 0 0, .slice none 0 0, .slice none 0 0] 27, nW ([] : List Int), nW B, nW ([] : List Int), nW ([] : List Int), nW B, nW ([] : List Int), rB [vI 0, vI 0, vI 0, .slice none 0 0, .slice none 0 0, .slice none 0 0] 27]) (by kernel_rfl) ?_
   refine kSeq ?_
   refine cSeq ?_
   refine cSeq ?_
   refine cReg ?_
   refine segH 2 (T1 := (mkT 101 [(6, vP 5 0), (7, .bool false), (9, vP 10 0), (12, vI 1), (14, vP 17 0), (15, .bool false), (84, .agg #[vI 0, vI 0, vI 0, .slice none 0 0, .slice none 0 0, .slice none 0 0]), (85, .agg #[vI 0, vI 0, vI 0, .slice none 0 0, .slice none 0 0, .slice none 0 0])])) (by kernel_rfl) ?_
   refine rCall (v := .bool true) (args := [.agg #[vI 0, vI 0, vI 0, .slice none 0 0, .slice none 0 0, .slice none 0 0], .agg #[vI 0, vI 0, vI 0, .slice none 0 0, .slice none 0 0, .slice none 0 0]]) (by kernel_rfl) rfl (by kernel_rfl) (Sound.lay0 [] (eqSh_N) trivial rfl trivial rfl (by first | rfl | simp [mpV, mpA, mpS, mpP, renId, shift]) rfl) ?_
   refine segEndH [9, 12, 92] (T1 := (mkT 101 [(9, vP 10 0), (12, vI 1), (92, .bool false)])) (by kernel_rfl) ?_
   refine kSeq ?_
   refine cFalse (by kernel_rfl) ?_
   refine cSkip ?_
   refine kSeq ?_
   refine cSeq ?_
   refine cReg ?_
   refine segEndH [9, 12, 13] (T1 := (mkT 101 [(9, vP 10 0), (12, vI 1), (13, vI 1)])) (by kernel_rfl) ?_
   refine kSeq ?_
   refine cSeq ?_
   refine cReg ?_
   refine segH 2 (T1 := (mkT 101 [(9, vP 10 0), (12, vI 1), (13, vI 1), (93, .agg #[vI 0, vI 0, vI 0, .slice none 0 0, .slice none 0 0, .slice none 0 0]), (94, vI 1)])) (by kernel_rfl) ?_
   refine rCall (v := vI 1) (args := [.agg #[vI 0, vI 0, vI 0, .slice none 0 0, .slice none 0 0, .slice none 0 0], vI 1]) (by kernel_rfl) rfl (by kernel_rfl) (Sound.lay0 [] (heldSh_N 1 (by first | assumption | omega | rfl | decide | exact HeapL.list _ _ _ _ | exact HeapL.nil _ _ _ | exact HeapL.all _ _ _ | (apply HeapL.lt64 <;> assumption) | (repeat' (first | assumption | apply or_lt64 | apply and_lt64 | apply andn_lt64 | apply pow_lt64 | (apply HeapL.lt64 <;> assumption))))) trivial rfl trivial rfl (by first | rfl | simp [mpV, mpA, mpS, mpP, renId, shift]) rfl) ?_
   refine segEndH [12, 13] (T1 := (mkT 101 [(12, vI 1), (13, vI 1)])) (by kernel_rfl) ?_
   refine kSeq ?_
   refine cSeq ?_
   refine cSeq ?_
   refine cReg ?_
   refine segEndH [12, 13, 97] (T1 := (mkT 101 [(12, vI 1), (13, vI 1), (97, .bool false)])) (by kernel_rfl) ?_
   refine kSeq ?_
   refine cFalse (by kernel_rfl) ?_
   refine cSkip ?_
   refine kSeq ?_
   refine cSeq ?_
   refine cSeq ?_
   refine cReg ?_
   refine segEndH [100] (T1 := (mkT 101 [(100, .bool false)])) (by kernel_rfl) ?_
   refine kSeq ?_
   refine cFalse (by kernel_rfl) ?_
   refine cSkip ?_
   refine kSeq ?_
   refine cSeq ?_
   refine cReg ?_
   refine segEndH [4] (T1 := (mkT 101 [(4, .bool true)])) (by kernel_rfl) ?_
   refine kSeq ?_
   refine cRet ?_
   exact endQ (Or.inr rfl) (l := [.bool true]) [rB [vI x, vI y, vI z, .slice none 0 0, vS 0 B.length, .slice none 0 0] 24, nW ([] : List Int), nW B, nW ([] : List Int), rB [vI 0, vI 0, vI 0, .slice none 0 0, .slice none 0 0, .slice none 0 0] 27, nW (mkI 1 ([] : List Int).length), nW (mkI (1 + ([] : List Int).length) B.length), nW (mkI (1 + ([] : List Int).length + B.length) ([] : List Int).length), rB [vI x, vI y, vI z, vS 6 0, vS 7 B.length, vS 8 0] 27, rB [vI 0, vI 0, vI 0, .slice none 0 0, .slice none 0 0, .slice none 0 0] 27, nW ([] : List Int), nW B, nW ([] : List Int), nW ([] : List Int), nW B, nW ([] : List Int), rB [vI 0, vI 0, vI 0, .slice none 0 0, .slice none 0 0, .slice none 0 0] 27] (by kernel_rfl) (by first | rfl | kernel_rfl) rfl rfl hcl rfl
  ·
   (try simp only [bs0, bs1, bs2, bs3, beq_iff_eq, bne_iff_ne, beq_eq_false_iff_ne, bne_eq_false_iff_eq, ne_eq, bs4, bs5, bs6, bs7, bs8, bs9, bs10, bs11, ge_iff_le, gt_iff_lt] at h2)
   exfalso; omega
 ·
  (try simp only [bs0, bs1, bs2, bs3, beq_iff_eq, bne_iff_ne, beq_eq_false_iff_ne, bne_eq_false_iff_eq, ne_eq, bs4, bs5, bs6, bs7, bs8, bs9, bs10, bs11, ge_iff_le, gt_iff_lt] at h1)
  exfalso; omega
end Go.Proofs.Ytbheeobnghlckaa
set_option linter.unusedVariables false
set_option linter.unusedSimpArgs false
namespace Go.Proofs.Ytbheeobnghlckaa
open Go.Am Go.RowKit
set_option maxRecDepth 100000 in
set_option maxHeartbeats 4000000 in
theorem lawMirrorShadow_bigC_nns (x : Int) (y : Int) (z : Int) (C : List Int) (k : Int) (hl : 1048576 < C.length) (hm : C.length ≤ 9223372036854775807) : Sound Try.prog 12 [.agg #[vI x, vI y, vI z, .slice none 0 0, .slice none 0 0, vS 0 C.length], vI k] [nR C] (.bool true) [nR C] := by
 refine sound_intro (C := cx) Try.func12 rfl (by kernel_rfl) fun hcl => ?_
 refine cSeq ?_
 refine cReg ?_
 refine segEnd [1, 2] (T1 := (mkT 101 [(1, vI k), (2, vP 1 0)])) (H1 := [nR C, rB [vI x, vI y, vI z, .slice none 0 0, .slice none 0 0, vS 0 C.length] 24]) (by kernel_rfl) ?_
 refine kSeq ?_
 refine cSeq ?_
 refine cReg ?_
 refine segEndH [1, 2, 5] (T1 := (mkT 101 [(1, vI k), (2, vP 1 0), (5, vI 1048576)])) (by kernel_rfl) ?_
 refine kSeq ?_
 refine cSeq ?_
 refine cReg ?_
 refine segH 2 (T1 := (mkT 101 [(1, vI k), (2, vP 1 0), (5, vI 1048576), (16, .agg #[vI x, vI y, vI z, .slice none 0 0, .slice none 0 0, vS 0 C.length]), (17, vI 1048576)])) (by kernel_rfl) ?_
 refine rCall (v := vI (-1)) (args := [.agg #[vI x, vI y, vI z, .slice none 0 0, .slice none 0 0, vS 0 C.length], vI 1048576]) (by kernel_rfl) rfl (by kernel_rfl) (Sound.lay0 [0] (szSh_nns_C x y z C 1048576 (by first | omega | assumption | (simp; done) | (simp; omega)) (by first | assumption | omega | rfl | decide | exact HeapL.list _ _ _ _ | exact HeapL.nil _ _ _ | exact HeapL.all _ _ _ | (apply HeapL.lt64 <;> assumption) | (repeat' (first | assumption | apply or_lt64 | apply and_lt64 | apply andn_lt64 | apply pow_lt64 | (apply HeapL.lt64 <;> assumption)))) (by first | omega | assumption | decide)) ⟨rdF false (flatNums _ _ _ _) rfl rfl, trivial⟩ rfl ⟨clF (flatNums _ _ _ _), trivial⟩ rfl (by first | rfl | simp [mpV, mpA, mpS, mpP, renId, shift]) rfl) ?_
 refine segEndH [1, 2, 5] (T1 := (mkT 101 [(1, vI k), (2, vP 1 0), (5, vI (-1))])) (by kernel_rfl) ?_
 refine kSeq ?_
 refine cSeq ?_
 refine cSeq ?_
 refine cReg ?_
 refine segEndH [1, 2, 20] (T1 := (mkT 101 [(1, vI k), (2, vP 1 0), (20, .bool true)])) (by kernel_rfl) ?_
 refine kSeq ?_
 refine cTrue (by kernel_rfl) ?_
 refine cSeq ?_
 refine cReg ?_
 refine segEndH [4] (T1 := (mkT 101 [(4, .bool true)])) (by kernel_rfl) ?_
 refine kSeq ?_
 refine cRet ?_
 refine kSeqR ?_
 exact endQ (Or.inr rfl) (l := [.bool true]) [rB [vI x, vI y, vI z, .slice none 0 0, .slice none 0 0, vS 0 C.length] 24] (by kernel_rfl) (by first | rfl | kernel_rfl) rfl rfl hcl rfl
set_option maxRecDepth 100000 in
set_option maxHeartbeats 4000000 in
theorem lawMirrorShadow_no_nns (x : Int) (y : Int) (z : Int) (C : List Int) (k : Int) (hl : C.length ≤ 1048576) (hb : mirB x y z ([] : List Int) ([] : List Int) C k = false) : Sound Try.prog 12 [.agg #[vI x, vI y, vI z, .slice none 0 0, .slice none 0 0, vS 0 C.length], vI k] [nR C] (.bool true) [nR C] := by
 refine sound_intro (C := cx) Try.func12 rfl (by kernel_rfl) fun hcl => ?_
 refine cSeq ?_
 refine cReg ?_
 refine segEnd [1, 2] (T1 := (mkT 101 [(1, vI k), (2, vP 1 0)])) (H1 := [nR C, rB [vI x, vI y, vI z, .slice none 0 0, .slice none 0 0, vS 0 C.length] 24]) (by kernel_rfl) ?_
 refine kSeq ?_
 refine cSeq ?_
 refine cReg ?_
 refine segEndH [1, 2, 5] (T1 := (mkT 101 [(1, vI k), (2, vP 1 0), (5, vI 1048576)])) (by kernel_rfl) ?_
 refine kSeq ?_
 refine cSeq ?_
 refine cReg ?_
 refine segH 2 (T1 := (mkT 101 [(1, vI k), (2, vP 1 0), (5, vI 1048576), (16, .agg #[vI x, vI y, vI z, .slice none 0 0, .slice none 0 0, vS 0 C.length]), (17, vI 1048576)])) (by kernel_rfl) ?_
 refine rCall (v := vN (1048576 - C.length)) (args := [.agg #[vI x, vI y, vI z, .slice none 0 0, .slice none 0 0, vS 0 C.length], vI 1048576]) (by kernel_rfl) rfl (by kernel_rfl) (Sound.lay0 [0] (szSh_nns x y z C 1048576 (by first | omega | assumption | (simp; done) | (simp; omega)) (by first | omega | assumption | decide)) ⟨rdF false (flatNums _ _ _ _) rfl rfl, trivial⟩ rfl ⟨clF (flatNums _ _ _ _), trivial⟩ rfl (by first | rfl | simp [mpV, mpA, mpS, mpP, renId, shift]) rfl) ?_
 refine segEndH [1, 2, 5] (T1 := (mkT 101 [(1, vI k), (2, vP 1 0), (5, vN (1048576 - C.length))])) (by kernel_rfl) ?_
 refine kSeq ?_
 refine cSeq ?_
 refine cSeq ?_
 refine cReg ?_
 refine segEndH [1, 2, 20] (T1 := (mkT 101 [(1, vI k), (2, vP 1 0), (20, .bool (decide (((1048576 - C.length : Nat) : Int) < 0)))])) (by kernel_rfl) ?_
 refine kSeq ?_
 cases h1 : (decide (((1048576 - C.length : Nat) : Int) < 0) : Bool)
 ·
  (try simp only [bs0, bs1, bs2, bs3, beq_iff_eq, bne_iff_ne, beq_eq_false_iff_ne, bne_eq_false_iff_eq, ne_eq, bs4, bs5, bs6, bs7, bs8, bs9, bs10, bs11, ge_iff_le, gt_iff_lt] at h1)
  refine cFalse (by kernel_rfl) ?_
  refine cSkip ?_
  refine kSeq ?_
  refine cSeq ?_
  refine cReg ?_
  refine segH 1 (T1 := (mkT 101 [(1, vI k), (2, vP 1 0), (20, .bool false), (22, .agg #[vI x, vI y, vI z, .slice none 0 0, .slice none 0 0, vS 0 C.length])])) (by kernel_rfl) ?_
  refine rCall (v := .agg #[vI x, vI y, vI z, vS 2 0, vS 3 0, vS 4 C.length]) (args := [.agg #[vI x, vI y, vI z, .slice none 0 0, .slice none 0 0, vS 0 C.length]]) (by kernel_rfl) rfl (by kernel_rfl) (Sound.lay (E := [nW ([] : List Int), nW ([] : List Int), nW C]) [0] (toSh_nns x y z C (by first | omega | assumption)) ⟨rdF false (flatNums _ _ _ _) rfl rfl, trivial⟩ rfl ⟨clF (flatNums _ _ _ _), trivial⟩ rfl (by first | rfl | simp [mpV, mpA, mpS, mpP, renId, shift]) (by first | rfl | simp [mpV, mpA, mpS, mpP, renId, shift]) ⟨enF (flatNums _ _ _ _) (Or.inl rfl), ⟨enF (flatNums _ _ _ _) (Or.inl rfl), ⟨enF (flatNums _ _ _ _) (Or.inl rfl), trivial⟩⟩⟩) ?_
  refine seg 1 (T1 := (mkT 101 [(1, vI k), (2, vP 1 0), (20, .bool false), (22, .agg #[vI x, vI y, vI z, .slice none 0 0, .slice none 0 0, vS 0 C.length]), (23, .agg #[vI x, vI y, vI z, vS 2 0, vS 3 0, vS 4 C.length]), (24, vI k)])) (H1 := [nR C, rB [vI x, vI y, vI z, .slice none 0 0, .slice none 0 0, vS 0 C.length] 24, nW ([] : List Int), nW ([] : List Int), nW C]) (by kernel_rfl) ?_
  refine rCall (v := .tuple #[.agg #[vI 0, vI 0, vI 0, .slice none 0 0, .slice none 0 0, .slice none 0 0], .bool false]) (args := [.agg #[vI x, vI y, vI z, vS 2 0, vS 3 0, vS 4 C.length], vI k]) (by kernel_rfl) rfl (by kernel_rfl) (Sound.lay0 [2, 3, 4] (specMirrorShadow_bad x y z ([] : List Int) ([] : List Int) C k (by first | assumption | omega | rfl | decide | exact HeapL.list _ _ _ _ | exact HeapL.nil _ _ _ | exact HeapL.all _ _ _ | (apply HeapL.lt64 <;> assumption) | (repeat' (first | assumption | apply or_lt64 | apply and_lt64 | apply andn_lt64 | apply pow_lt64 | (apply HeapL.lt64 <;> assumption)))) (by first | omega | assumption | (simp; done)) (by first | omega | assumption | (simp; done)) (by first | omega | assumption | (simp; done))) ⟨rdF true (flatNums _ _ _ _) rfl rfl, ⟨rdF true (flatNums _ _ _ _) rfl rfl, ⟨rdF true (flatNums _ _ _ _) rfl rfl, trivial⟩⟩⟩ rfl ⟨clF (flatNums _ _ _ _), ⟨clF (flatNums _ _ _ _), ⟨clF (flatNums _ _ _ _), trivial⟩⟩⟩ rfl (by first | rfl | simp [mpV, mpA, mpS, mpP, renId, shift]) (by first | rfl | simp [mpV, mpA, mpS, mpP, renId, shift])) ?_
  refine segEnd [1, 2, 6, 7] (T1 := (mkT 101 [(1, vI k), (2, vP 1 0), (6, vP 5 0), (7, .bool false)])) (H1 := [nR C, rB [vI x, vI y, vI z, .slice none 0 0, .slice none 0 0, vS 0 C.length] 24, nW ([] : List Int), nW ([] : List Int), nW C, rB [vI 0, vI 0, vI 0, .slice none 0 0, .slice none 0 0, .slice none 0 0] 27]) (by kernel_rfl) ?_
  refine kSeq ?_
  refine cSeq ?_
  refine cReg ?_
  refine segH 1 (T1 := (mkT 101 [(1, vI k), (2, vP 1 0), (6, vP 5 0), (7, .bool false), (28, .agg #[vI x, vI y, vI z, .slice none 0 0, .slice none 0 0, vS 0 C.length])])) (by kernel_rfl) ?_
  refine rCall (v := .agg #[vI x, vI y, vI z, vS 6 0, vS 7 0, vS 8 C.length]) (args := [.agg #[vI x, vI y, vI z, .slice none 0 0, .slice none 0 0, vS 0 C.length]]) (by kernel_rfl) rfl (by kernel_rfl) (Sound.lay (E := [nW ([] : List Int), nW ([] : List Int), nW C]) [0] (toSh_nns x y z C (by first | omega | assumption)) ⟨rdF false (flatNums _ _ _ _) rfl rfl, trivial⟩ rfl ⟨clF (flatNums _ _ _ _), trivial⟩ rfl (by first | rfl | simp [mpV, mpA, mpS, mpP, renId, shift]) (by first | rfl | simp [mpV, mpA, mpS, mpP, renId, shift]) ⟨enF (flatNums _ _ _ _) (Or.inl rfl), ⟨enF (flatNums _ _ _ _) (Or.inl rfl), ⟨enF (flatNums _ _ _ _) (Or.inl rfl), trivial⟩⟩⟩) ?_
  refine segEnd [1, 2, 6, 7, 8] (T1 := (mkT 101 [(1, vI k), (2, vP 1 0), (6, vP 5 0), (7, .bool false), (8, vP 9 0)])) (H1 := [nR C, rB [vI x, vI y, vI z, .slice none 0 0, .slice none 0 0, vS 0 C.length] 24, nW ([] : List Int), nW ([] : List Int), nW C, rB [vI 0, vI 0, vI 0, .slice none 0 0, .slice none 0 0, .slice none 0 0] 27, nW ([] : List Int), nW ([] : List Int), nW C, rB [vI x, vI y, vI z, vS 6 0, vS 7 0, vS 8 C.length] 27]) (by kernel_rfl) ?_
  refine kSeq ?_
  refine cSeq ?_
  refine cReg ?_
  refine segH 2 (T1 := (mkT 101 [(1, vI k), (2, vP 1 0), (6, vP 5 0), (7, .bool false), (8, vP 9 0), (31, .agg #[vI x, vI y, vI z, vS 6 0, vS 7 0, vS 8 C.length]), (32, vI k)])) (by kernel_rfl) ?_
  refine rCall (v := .tuple #[.agg #[vI 0, vI 0, vI 0, .slice none 0 0, .slice none 0 0, .slice none 0 0], .bool false]) (args := [.agg #[vI x, vI y, vI z, vS 6 0, vS 7 0, vS 8 C.length], vI k]) (by kernel_rfl) rfl (by kernel_rfl) (Sound.lay0 [6, 7, 8] (implMirrorShadow_bad x y z ([] : List Int) ([] : List Int) C k (by first | assumption | omega | rfl | decide | exact HeapL.list _ _ _ _ | exact HeapL.nil _ _ _ | exact HeapL.all _ _ _ | (apply HeapL.lt64 <;> assumption) | (repeat' (first | assumption | apply or_lt64 | apply and_lt64 | apply andn_lt64 | apply pow_lt64 | (apply HeapL.lt64 <;> assumption)))) (by first | omega | assumption | (simp; done)) (by first | omega | assumption | (simp; done)) (by first | omega | assumption | (simp; done))) ⟨rdF true (flatNums _ _ _ _) rfl rfl, ⟨rdF true (flatNums _ _ _ _) rfl rfl, ⟨rdF true (flatNums _ _ _ _) rfl rfl, trivial⟩⟩⟩ rfl ⟨clF (flatNums _ _ _ _), ⟨clF (flatNums _ _ _ _), ⟨clF (flatNums _ _ _ _), trivial⟩⟩⟩ rfl (by first | rfl | simp [mpV, mpA, mpS, mpP, renId, shift]) (by first | rfl | simp [mpV, mpA, mpS, mpP, renId, shift])) ?_
  refine segEnd [1, 2, 6, 7, 8, 9, 10] (T1 := (mkT 101 [(1, vI k), (2, vP 1 0), (6, vP 5 0), (7, .bool false), (8, vP 9 0), (9, vP 10 0), (10, .bool false)])) (H1 := [nR C, rB [vI x, vI y, vI z, .slice none 0 0, .slice none 0 0, vS 0 C.length] 24, nW ([] : List Int), nW ([] : List Int), nW C, rB [vI 0, vI 0, vI 0, .slice none 0 0, .slice none 0 0, .slice none 0 0] 27, nW ([] : List Int), nW ([] : List Int), nW C, rB [vI x, vI y, vI z, vS 6 0, vS 7 0, vS 8 C.length] 27, rB [vI 0, vI 0, vI 0, .slice none 0 0, .slice none 0 0, .slice none 0 0] 27]) (by kernel_rfl) ?_
  refine kSeq ?_
  refine cSeq ?_
  refine cSeq ?_
  refine cReg ?_
  refine segH 2 (T1 := (mkT 101 [(1, vI k), (2, vP 1 0), (6, vP 5 0), (7, .bool false), (8, vP 9 0), (9, vP 10 0), (10, .bool false), (36, .agg #[vI 0, vI 0, vI 0, .slice none 0 0, .slice none 0 0, .slice none 0 0]), (37, .agg #[vI 0, vI 0, vI 0, .slice none 0 0, .slice none 0 0, .slice none 0 0])])) (by kernel_rfl) ?_
  refine rCall (v := .bool true) (args := [.agg #[vI 0, vI 0, vI 0, .slice none 0 0, .slice none 0 0, .slice none 0 0], .agg #[vI 0, vI 0, vI 0, .slice none 0 0, .slice none 0 0, .slice none 0 0]]) (by kernel_rfl) rfl (by kernel_rfl) (Sound.lay0 [] (eqSh_N) trivial rfl trivial rfl (by first | rfl | simp [mpV, mpA, mpS, mpP, renId, shift]) rfl) ?_
  refine segEndH [1, 2, 6, 7, 8, 9, 10, 44] (T1 := (mkT 101 [(1, vI k), (2, vP 1 0), (6, vP 5 0), (7, .bool false), (8, vP 9 0), (9, vP 10 0), (10, .bool false), (44, .bool false)])) (by kernel_rfl) ?_
  refine kSeq ?_
  refine cFalse (by kernel_rfl) ?_
  refine cSkip ?_
  refine kSeq ?_
  refine cSeq ?_
  refine cSeq ?_
  refine cRegW (N := 14) [⟨[], [], [9]⟩, ⟨[], [], [1]⟩, ⟨[11, 12, 13], [], [0]⟩, ⟨[], [], [6, 7, 8, 11, 12, 13]⟩, ⟨[], [], []⟩] 3 [11, 12, 13] (by rfl) (by rfl) (by kernel_rfl) (by kernel_rfl) (by kernel_rfl) ⟨nmsF (flatNums _ _ _ _), ⟨nmsX (by kernel_rfl), ⟨nmsF (flatNums _ _ _ _), ⟨nmsF (flatNums _ _ _ _), ⟨nmsF (flatNums _ _ _ _), ⟨nmsX (by kernel_rfl), ⟨nmsF (flatNums _ _ _ _), ⟨nmsF (flatNums _ _ _ _), ⟨nmsF (flatNums _ _ _ _), ⟨nmsX (by kernel_rfl), ⟨nmsX (by kernel_rfl), trivial⟩⟩⟩⟩⟩⟩⟩⟩⟩⟩⟩ ?_
  refine segWH 2 (T1 := (mkT 101 [(1, vI k), (2, vP 1 0), (6, vP 5 0), (7, .bool false), (8, vP 9 0), (9, vP 10 0), (10, .bool false), (44, .bool false), (45, .agg #[vI x, vI y, vI z, vS 6 0, vS 7 0, vS 8 C.length]), (46, .agg #[vI x, vI y, vI z, .slice none 0 0, .slice none 0 0, vS 0 C.length])])) (by kernel_rfl) ?_
  refine rW (m := ⟨[11, 12, 13], [], [0]⟩) (v := .agg #[vI x, vI y, vI z, vS 11 0, vS 12 0, vS 13 C.length]) rfl (by kernel_rfl) (stN (i := 11) (E := [nW ([] : List Int), nW ([] : List Int), nW C]) (v1 := .agg #[vI x, vI y, vI z, vS 14 0, vS 15 0, vS 16 C.length]) (args := [.agg #[vI x, vI y, vI z, .slice none 0 0, .slice none 0 0, vS 0 C.length]]) rfl (by kernel_rfl) (Any.lay (E := [nW ([] : List Int), nW ([] : List Int), nW C]) (N := 14) [0] (toSh_nns x y z C (by first | omega | assumption)) ⟨rdF false (flatNums _ _ _ _) rfl rfl, trivial⟩ rfl ⟨clF (flatNums _ _ _ _), trivial⟩ rfl (by first | rfl | simp [mpV, mpA, mpS, mpP, renId, shift]) (by first | rfl | simp [mpV, mpA, mpS, mpP, renId, shift]) ⟨enF (flatNums _ _ _ _) (Or.inl rfl), ⟨enF (flatNums _ _ _ _) (Or.inl rfl), ⟨enF (flatNums _ _ _ _) (Or.inl rfl), trivial⟩⟩⟩) rfl (by kernel_rfl) (by kernel_rfl) (by kernel_rfl) (by kernel_rfl) (FlatH.cons (flatNums _ _ _ _) (FlatH.cons (flatNums _ _ _ _) (FlatH.cons (flatNums _ _ _ _) FlatH.nil)))) (by kernel_rfl) (NRs.all ⟨nrOf (by rfl) (nmF (flatNums _ _ _ _)), ⟨nrOf (by rfl) (nmF (flatNums _ _ _ _)), ⟨nrOf (by rfl) (nmF (flatNums _ _ _ _)), trivial⟩⟩⟩) ?_
  refine rW (m := ⟨[], [], [6, 7, 8, 11, 12, 13]⟩) (v := .bool true) rfl (by kernel_rfl) (stQ (args := [.agg #[vI x, vI y, vI z, vS 6 0, vS 7 0, vS 8 C.length], .agg #[vI x, vI y, vI z, vS 11 0, vS 12 0, vS 13 C.length]]) rfl (by kernel_rfl) (Any.lay0 [6, 7, 8, 11, 12, 13] (eqSh x y z ([] : List Int) ([] : List Int) C (by first | omega | assumption | (simp; done)) (by first | omega | assumption | (simp; done)) (by first | omega | assumption | (simp; done))) ⟨rdF true (flatNums _ _ _ _) rfl rfl, ⟨rdF true (flatNums _ _ _ _) rfl rfl, ⟨rdF true (flatNums _ _ _ _) rfl rfl, ⟨rdF true (flatNums _ _ _ _) rfl rfl, ⟨rdF true (flatNums _ _ _ _) rfl rfl, ⟨rdF true (flatNums _ _ _ _) rfl rfl, trivial⟩⟩⟩⟩⟩⟩ rfl ⟨clF (flatNums _ _ _ _), ⟨clF (flatNums _ _ _ _), ⟨clF (flatNums _ _ _ _), ⟨clF (flatNums _ _ _ _), ⟨clF (flatNums _ _ _ _), ⟨clF (flatNums _ _ _ _), trivial⟩⟩⟩⟩⟩⟩ rfl (by first | rfl | simp [mpV, mpA, mpS, mpP, renId, shift]) rfl) rfl (by kernel_rfl) (by kernel_rfl)) (by kernel_rfl) nr0 ?_
  refine segEndW [1, 2, 6, 7, 8, 9, 10, 49] (T1 := (mkT 101 [(1, vI k), (2, vP 1 0), (6, vP 5 0), (7, .bool false), (8, vP 9 0), (9, vP 10 0), (10, .bool false), (49, .bool false)])) (H1 := [nR C, rB [vI x, vI y, vI z, .slice none 0 0, .slice none 0 0, vS 0 C.length] 24, nW ([] : List Int), nW ([] : List Int), nW C, rB [vI 0, vI 0, vI 0, .slice none 0 0, .slice none 0 0, .slice none 0 0] 27, nW ([] : List Int), nW ([] : List Int), nW C, rB [vI x, vI y, vI z, vS 6 0, vS 7 0, vS 8 C.length] 27, rB [vI 0, vI 0, vI 0, .slice none 0 0, .slice none 0 0, .slice none 0 0] 27, nW ([] : List Int), nW ([] : List Int), nW C]) (by kernel_rfl) ?_
  refine kSeq ?_
  refine cFalse (by kernel_rfl) ?_
  refine cSkip ?_
  refine kSeq ?_
  refine cSeq ?_
  refine cReg ?_
  refine segEndH [1, 2, 6, 7, 8, 9, 10, 11] (T1 := (mkT 101 [(1, vI k), (2, vP 1 0), (6, vP 5 0), (7, .bool false), (8, vP 9 0), (9, vP 10 0), (10, .bool false), (11, vI 1)])) (by kernel_rfl) ?_
  refine kSeq ?_
  refine cSeq ?_
  refine cReg ?_
  refine segH 2 (T1 := (mkT 101 [(1, vI k), (2, vP 1 0), (6, vP 5 0), (7, .bool false), (8, vP 9 0), (9, vP 10 0), (10, .bool false), (11, vI 1), (50, .agg #[vI x, vI y, vI z, vS 6 0, vS 7 0, vS 8 C.length]), (51, vI 1)])) (by kernel_rfl) ?_
  refine rCall (v := vN (1 + ([] : List Int).length + ([] : List Int).length + C.length)) (args := [.agg #[vI x, vI y, vI z, vS 6 0, vS 7 0, vS 8 C.length], vI 1]) (by kernel_rfl) rfl (by kernel_rfl) (Sound.emb_set3 (r0 := ⟨nums ([] : List Int), 3, false, true⟩) (r1 := ⟨nums ([] : List Int), 3, false, true⟩) (r2 := ⟨nums C, 3, false, true⟩) (q0 := ⟨nums (mkI 1 ([] : List Int).length), 3, false, true⟩) (q1 := ⟨nums (mkI (1 + ([] : List Int).length) ([] : List Int).length), 3, false, true⟩) (q2 := ⟨nums (mkI (1 + ([] : List Int).length + ([] : List Int).length) C.length), 3, false, true⟩) 6 7 8 (markSh x y z ([] : List Int) ([] : List Int) C 1 (by first | omega | assumption | (simp; done)) (by first | omega | assumption | (simp; done)) (by first | omega | assumption | (simp; done)) (by first | assumption | omega | rfl | decide | exact HeapL.list _ _ _ _ | exact HeapL.nil _ _ _ | exact HeapL.all _ _ _ | (apply HeapL.lt64 <;> assumption) | (repeat' (first | assumption | apply or_lt64 | apply and_lt64 | apply andn_lt64 | apply pow_lt64 | (apply HeapL.lt64 <;> assumption))))) ⟨⟨(flatNums _ _ _ _), rfl⟩, ⟨(flatNums _ _ _ _), rfl⟩, ⟨(flatNums _ _ _ _), rfl⟩⟩ ⟨⟨(flatNums _ _ _ _), rfl⟩, ⟨(flatNums _ _ _ _), rfl⟩, ⟨(flatNums _ _ _ _), rfl⟩⟩ rfl rfl rfl rfl rfl (by first | rfl | simp [mpV, mpA, mpS, mpP, renId, shift]) rfl) ?_
  refine segEnd [1, 2, 6, 7, 9, 10, 11] (T1 := (mkT 101 [(1, vI k), (2, vP 1 0), (6, vP 5 0), (7, .bool false), (9, vP 10 0), (10, .bool false), (11, vN (1 + ([] : List Int).length + ([] : List Int).length + C.length))])) (H1 := [nR C, rB [vI x, vI y, vI z, .slice none 0 0, .slice none 0 0, vS 0 C.length] 24, nW ([] : List Int), nW ([] : List Int), nW C, rB [vI 0, vI 0, vI 0, .slice none 0 0, .slice none 0 0, .slice none 0 0] 27, nW (mkI 1 ([] : List Int).length), nW (mkI (1 + ([] : List Int).length) ([] : List Int).length), nW (mkI (1 + ([] : List Int).length + ([] : List Int).length) C.length), rB [vI x, vI y, vI z, vS 6 0, vS 7 0, vS 8 C.length] 27, rB [vI 0, vI 0, vI 0, .slice none 0 0, .slice none 0 0, .slice none 0 0] 27, nW ([] : List Int), nW ([] : List Int), nW C]) (by kernel_rfl) ?_
  refine kSeq ?_
  refine cSeq ?_
  refine cSeq ?_
  refine cReg ?_
  refine segH 3 (T1 := (mkT 101 [(1, vI k), (2, vP 1 0), (6, vP 5 0), (7, .bool false), (9, vP 10 0), (10, .bool false), (11, vN (1 + ([] : List Int).length + ([] : List Int).length + C.length)), (53, vN (1 + ([] : List Int).length + ([] : List Int).length + C.length)), (54, .bool (decide (((1 + ([] : List Int).length + ([] : List Int).length + C.length : Nat) : Int) < 0))), (55, .bool (decide (((1 + ([] : List Int).length + ([] : List Int).length + C.length : Nat) : Int) < 0)))])) (by kernel_rfl) ?_
  cases h2 : (decide (((1 + ([] : List Int).length + ([] : List Int).length + C.length : Nat) : Int) < 0) : Bool)
  ·
   (try simp only [bs0, bs1, bs2, bs3, beq_iff_eq, bne_iff_ne, beq_eq_false_iff_ne, bne_eq_false_iff_eq, ne_eq, bs4, bs5, bs6, bs7, bs8, bs9, bs10, bs11, ge_iff_le, gt_iff_lt] at h2)
   refine seg 2 (T1 := (mkT 101 [(1, vI k), (2, vP 1 0), (6, vP 5 0), (7, .bool false), (9, vP 10 0), (10, .bool false), (11, vN (1 + ([] : List Int).length + ([] : List Int).length + C.length)), (53, vN (1 + ([] : List Int).length + ([] : List Int).length + C.length)), (54, .bool false), (55, .bool false), (56, .agg #[vI 0, vI 0, vI 0, .slice none 0 0, .slice none 0 0, .slice none 0 0]), (57, .agg #[vI 0, vI 0, vI 0, .slice none 0 0, .slice none 0 0, .slice none 0 0])])) (H1 := [nR C, rB [vI x, vI y, vI z, .slice none 0 0, .slice none 0 0, vS 0 C.length] 24, nW ([] : List Int), nW ([] : List Int), nW C, rB [vI 0, vI 0, vI 0, .slice none 0 0, .slice none 0 0, .slice none 0 0] 27, nW (mkI 1 ([] : List Int).length), nW (mkI (1 + ([] : List Int).length) ([] : List Int).length), nW (mkI (1 + ([] : List Int).length + ([] : List Int).length) C.length), rB [vI x, vI y, vI z, vS 6 0, vS 7 0, vS 8 C.length] 27, rB [vI 0, vI 0, vI 0, .slice none 0 0, .slice none 0 0, .slice none 0 0] 27, nW ([] : List Int), nW ([] : List Int), nW C]) (by kernel_rfl) ?_
   refine rCall (v := .bool true) (args := [.agg #[vI 0, vI 0, vI 0, .slice none 0 0, .slice none 0 0, .slice none 0 0], .agg #[vI 0, vI 0, vI 0, .slice none 0 0, .slice none 0 0, .slice none 0 0]]) (by kernel_rfl) rfl (by kernel_rfl) (Sound.lay0 [] (eqSh_N) trivial rfl trivial rfl (by first | rfl | simp [mpV, mpA, mpS, mpP, renId, shift]) rfl) ?_
   refine segEnd [1, 2, 6, 7, 9, 65] (T1 := (mkT 101 [(1, vI k), (2, vP 1 0), (6, vP 5 0), (7, .bool false), (9, vP 10 0), (65, .bool false)])) (H1 := [nR C, rB [vI x, vI y, vI z, .slice none 0 0, .slice none 0 0, vS 0 C.length] 24, nW ([] : List Int), nW ([] : List Int), nW C, rB [vI 0, vI 0, vI 0, .slice none 0 0, .slice none 0 0, .slice none 0 0] 27, nW (mkI 1 ([] : List Int).length), nW (mkI (1 + ([] : List Int).length) ([] : List Int).length), nW (mkI (1 + ([] : List Int).length + ([] : List Int).length) C.length), rB [vI x, vI y, vI z, vS 6 0, vS 7 0, vS 8 C.length] 27, rB [vI 0, vI 0, vI 0, .slice none 0 0, .slice none 0 0, .slice none 0 0] 27, nW ([] : List Int), nW ([] : List Int), nW C]) (by kernel_rfl) ?_
   refine kSeq ?_
   refine cFalse (by kernel_rfl) ?_
   refine cSkip ?_
   refine kSeq ?_
   refine cSeq ?_
   refine cReg ?_
   refine segEndH [1, 2, 6, 7, 9, 12] (T1 := (mkT 101 [(1, vI k), (2, vP 1 0), (6, vP 5 0), (7, .bool false), (9, vP 10 0), (12, vI 1)])) (by kernel_rfl) ?_
   refine kSeq ?_
   refine cSeq ?_
   refine cReg ?_
   refine segH 2 (T1 := (mkT 101 [(1, vI k), (2, vP 1 0), (6, vP 5 0), (7, .bool false), (9, vP 10 0), (12, vI 1), (66, .agg #[vI 0, vI 0, vI 0, .slice none 0 0, .slice none 0 0, .slice none 0 0]), (67, vI 1)])) (by kernel_rfl) ?_
   refine rCall (v := vI 1) (args := [.agg #[vI 0, vI 0, vI 0, .slice none 0 0, .slice none 0 0, .slice none 0 0], vI 1]) (by kernel_rfl) rfl (by kernel_rfl) (Sound.lay0 [] (markSh_N 1 (by first | assumption | omega | rfl | decide | exact HeapL.list _ _ _ _ | exact HeapL.nil _ _ _ | exact HeapL.all _ _ _ | (apply HeapL.lt64 <;> assumption) | (repeat' (first | assumption | apply or_lt64 | apply and_lt64 | apply andn_lt64 | apply pow_lt64 | (apply HeapL.lt64 <;> assumption))))) trivial rfl trivial rfl (by first | rfl | simp [mpV, mpA, mpS, mpP, renId, shift]) rfl) ?_
   refine segEndH [1, 2, 6, 7, 9, 12] (T1 := (mkT 101 [(1, vI k), (2, vP 1 0), (6, vP 5 0), (7, .bool false), (9, vP 10 0), (12, vI 1)])) (by kernel_rfl) ?_
   refine kSeq ?_
   refine cSeq ?_
   refine cReg ?_
   refine segEndH [1, 2, 6, 7, 9, 12, 13] (T1 := (mkT 101 [(1, vI k), (2, vP 1 0), (6, vP 5 0), (7, .bool false), (9, vP 10 0), (12, vI 1), (13, vI 1)])) (by kernel_rfl) ?_
   refine kSeq ?_
   refine cSeq ?_
   refine cReg ?_
   refine segH 2 (T1 := (mkT 101 [(1, vI k), (2, vP 1 0), (6, vP 5 0), (7, .bool false), (9, vP 10 0), (12, vI 1), (13, vI 1), (69, .agg #[vI 0, vI 0, vI 0, .slice none 0 0, .slice none 0 0, .slice none 0 0]), (70, vI 1)])) (by kernel_rfl) ?_
   refine rCall (v := vI 1) (args := [.agg #[vI 0, vI 0, vI 0, .slice none 0 0, .slice none 0 0, .slice none 0 0], vI 1]) (by kernel_rfl) rfl (by kernel_rfl) (Sound.lay0 [] (heldSh_N 1 (by first | assumption | omega | rfl | decide | exact HeapL.list _ _ _ _ | exact HeapL.nil _ _ _ | exact HeapL.all _ _ _ | (apply HeapL.lt64 <;> assumption) | (repeat' (first | assumption | apply or_lt64 | apply and_lt64 | apply andn_lt64 | apply pow_lt64 | (apply HeapL.lt64 <;> assumption))))) trivial rfl trivial rfl (by first | rfl | simp [mpV, mpA, mpS, mpP, renId, shift]) rfl) ?_
   refine segEndH [1, 2, 6, 7, 9, 12, 13] (T1 := (mkT 101 [(1, vI k), (2, vP 1 0), (6, vP 5 0), (7, .bool false), (9, vP 10 0), (12, vI 1), (13, vI 1)])) (by kernel_rfl) ?_
   refine kSeq ?_
   refine cSeq ?_
   refine cSeq ?_
   refine cReg ?_
   refine segEndH [1, 2, 6, 7, 9, 12, 13, 73] (T1 := (mkT 101 [(1, vI k), (2, vP 1 0), (6, vP 5 0), (7, .bool false), (9, vP 10 0), (12, vI 1), (13, vI 1), (73, .bool false)])) (by kernel_rfl) ?_
   refine kSeq ?_
   refine cFalse (by kernel_rfl) ?_
   refine cSkip ?_
   refine kSeq ?_
   refine cSeq ?_
   refine cSeq ?_
   refine cReg ?_
   refine segEndH [1, 2, 6, 7, 9, 12, 76] (T1 := (mkT 101 [(1, vI k), (2, vP 1 0), (6, vP 5 0), (7, .bool false), (9, vP 10 0), (12, vI 1), (76, .bool false)])) (by kernel_rfl) ?_
   refine kSeq ?_
   refine cFalse (by kernel_rfl) ?_
   refine cSkip ?_
   refine kSeq ?_
   refine cSeq ?_
   refine cReg ?_
   refine segH 1 (T1 := (mkT 101 [(1, vI k), (2, vP 1 0), (6, vP 5 0), (7, .bool false), (9, vP 10 0), (12, vI 1), (76, .bool false), (78, .agg #[vI x, vI y, vI z, .slice none 0 0, .slice none 0 0, vS 0 C.length])])) (by kernel_rfl) ?_
   refine rCall (v := .agg #[vI x, vI y, vI z, vS 14 0, vS 15 0, vS 16 C.length]) (args := [.agg #[vI x, vI y, vI z, .slice none 0 0, .slice none 0 0, vS 0 C.length]]) (by kernel_rfl) rfl (by kernel_rfl) (Sound.lay (E := [nW ([] : List Int), nW ([] : List Int), nW C]) [0] (toSh_nns x y z C (by first | omega | assumption)) ⟨rdF false (flatNums _ _ _ _) rfl rfl, trivial⟩ rfl ⟨clF (flatNums _ _ _ _), trivial⟩ rfl (by first | rfl | simp [mpV, mpA, mpS, mpP, renId, shift]) (by first | rfl | simp [mpV, mpA, mpS, mpP, renId, shift]) ⟨enF (flatNums _ _ _ _) (Or.inl rfl), ⟨enF (flatNums _ _ _ _) (Or.inl rfl), ⟨enF (flatNums _ _ _ _) (Or.inl rfl), trivial⟩⟩⟩) ?_
   refine seg 1 (T1 := (mkT 101 [(1, vI k), (2, vP 1 0), (6, vP 5 0), (7, .bool false), (9, vP 10 0), (12, vI 1), (76, .bool false), (78, .agg #[vI x, vI y, vI z, .slice none 0 0, .slice none 0 0, vS 0 C.length]), (79, .agg #[vI x, vI y, vI z, vS 14 0, vS 15 0, vS 16 C.length]), (80, vI k)])) (H1 := [nR C, rB [vI x, vI y, vI z, .slice none 0 0, .slice none 0 0, vS 0 C.length] 24, nW ([] : List Int), nW ([] : List Int), nW C, rB [vI 0, vI 0, vI 0, .slice none 0 0, .slice none 0 0, .slice none 0 0] 27, nW (mkI 1 ([] : List Int).length), nW (mkI (1 + ([] : List Int).length) ([] : List Int).length), nW (mkI (1 + ([] : List Int).length + ([] : List Int).length) C.length), rB [vI x, vI y, vI z, vS 6 0, vS 7 0, vS 8 C.length] 27, rB [vI 0, vI 0, vI 0, .slice none 0 0, .slice none 0 0, .slice none 0 0] 27, nW ([] : List Int), nW ([] : List Int), nW C, nW ([] : List Int), nW ([] : List Int), nW C]) (by kernel_rfl) ?_
   refine rCall (v := .tuple #[.agg #[vI 0, vI 0, vI 0, .slice none 0 0, .slice none 0 0, .slice none 0 0], .bool false]) (args := [.agg #[vI x, vI y, vI z, vS 14 0, vS 15 0, vS 16 C.length], vI k]) (by kernel_rfl) rfl (by kernel_rfl) (Sound.lay0 [14, 15, 16] (implMirrorShadow_bad x y z ([] : List Int) ([] : List Int) C k (by first | assumption | omega | rfl | decide | exact HeapL.list _ _ _ _ | exact HeapL.nil _ _ _ | exact HeapL.all _ _ _ | (apply HeapL.lt64 <;> assumption) | (repeat' (first | assumption | apply or_lt64 | apply and_lt64 | apply andn_lt64 | apply pow_lt64 | (apply HeapL.lt64 <;> assumption)))) (by first | omega | assumption | (simp; done)) (by first | omega | assumption | (simp; done)) (by first | omega | assumption | (simp; done))) ⟨rdF true (flatNums _ _ _ _) rfl rfl, ⟨rdF true (flatNums _ _ _ _) rfl rfl, ⟨rdF true (flatNums _ _ _ _) rfl rfl, trivial⟩⟩⟩ rfl ⟨clF (flatNums _ _ _ _), ⟨clF (flatNums _ _ _ _), ⟨clF (flatNums _ _ _ _), trivial⟩⟩⟩ rfl (by first | rfl | simp [mpV, mpA, mpS, mpP, renId, shift]) (by first | rfl | simp [mpV, mpA, mpS, mpP, renId, shift])) ?_
   refine segEnd [6, 7, 9, 12, 14, 15] (T1 := (mkT 101 [(6, vP 5 0), (7, .bool false), (9, vP 10 0), (12, vI 1), (14, vP 17 0), (15, .bool false)])) (H1 := [nR C, rB [vI x, vI y, vI z, .slice none 0 0, .slice none 0 0, vS 0 C.length] 24, nW ([] : List Int), nW ([] : List Int), nW C, rB [vI 0, vI 0, vI 0, .slice none 0 0, .slice none 0 0, .slice none 0 0] 27, nW (mkI 1 ([] : List Int).length), nW (mkI (1 + ([] : List Int).length) ([] : List Int).length), nW (mkI (1 + ([] : List Int).length + ([] : List Int).length) C.length), rB [vI x, vI y, vI z, vS 6 0, vS 7 0, vS 8 C.length] 27, rB [vI 0, vI 0, vI 0, .slice none 0 0, .slice none 0 0, .slice none 0 0] 27, nW ([] : List Int), nW ([] : List Int), nW C, nW ([] : List Int), nW ([] : List Int), nW C, rB [vI 0, vI 0, vI 0, .slice none 0 0, .slice none 0 0, .slice none 0 0] 27]) (by kernel_rfl) ?_
   refine kSeq ?_
   refine cSeq ?_
   refine cSeq ?_
   refine cReg ?_
   refine segH 2 (T1 := (mkT 101 [(6, vP 5 0), (7, .bool false), (9, vP 10 0), (12, vI 1), (14, vP 17 0), (15, .bool false), (84, .agg #[vI 0, vI 0, vI 0, .slice none 0 0, .slice none 0 0, .slice none 0 0]), (85, .agg #[vI 0, vI 0, vI 0, .slice none 0 0, .slice none 0 0, .slice none 0 0])])) (by kernel_rfl) ?_
   refine rCall (v := .bool true) (args := [.agg #[vI 0, vI 0, vI 0, .slice none 0 0, .slice none 0 0, .slice none 0 0], .agg #[vI 0, vI 0, vI 0, .slice none 0 0, .slice none 0 0, .slice none 0 0]]) (by kernel_rfl) rfl (by kernel_rfl) (Sound.lay0 [] (eqSh_N) trivial rfl trivial rfl (by first | rfl | simp [mpV, mpA, mpS, mpP, renId, shift]) rfl) ?_
   refine segEndH [9, 12, 92] (T1 := (mkT 101 [(9, vP 10 0), (12, vI 1), (92, .bool false)])) (by kernel_rfl) ?_
   refine kSeq ?_
   refine cFalse (by kernel_rfl) ?_
   refine cSkip ?_
   refine kSeq ?_
   refine cSeq ?_
   refine cReg ?_
   refine segEndH [9, 12, 13] (T1 := (mkT 101 [(9, vP 10 0), (12, vI 1), (13, vI 1)])) (by kernel_rfl) ?_
   refine kSeq ?_
   refine cSeq ?_
   refine cReg ?_
   refine segH 2 (T1 := (mkT 101 [(9, vP 10 0), (12, vI 1), (13, vI 1), (93, .agg #[vI 0, vI 0, vI 0, .slice none 0 0, .slice none 0 0, .slice none 0 0]), (94, vI 1)])) (by kernel_rfl) ?_
   refine rCall (v := vI 1) (args := [.agg #[vI 0, vI 0, vI 0, .slice none 0 0, .slice none 0 0, .slice none 0 0], vI 1]) (by kernel_rfl) rfl (by kernel_rfl) (Sound.lay0 [] (heldSh_N 1 (by first | assumption | omega | rfl | decide | exact HeapL.list _ _ _ _ | exact HeapL.nil _ _ _ | exact HeapL.all _ _ _ | (apply HeapL.lt64 <;> assumption) | (repeat' (first | assumption | apply or_lt64 | apply and_lt64 | apply andn_lt64 | apply pow_lt64 | (apply HeapL.lt64 <;> assumption))))) trivial rfl trivial rfl (by first | rfl | simp [mpV, mpA, mpS, mpP, renId, shift]) rfl) ?_
   refine segEndH [12, 13] (T1 := (mkT 101 [(12, vI 1), (13, vI 1)])) (by kernel_rfl) ?_
   refine kSeq ?_
   refine cSeq ?_
   refine cSeq ?_
   refine cReg ?_
   refine segEndH [12, 13, 97] (T1 := (mkT 101 [(12, vI 1), (13, vI 1), (97, .bool false)])) (by kernel_rfl) ?_
   refine kSeq ?_
   refine cFalse (by kernel_rfl) ?_
   refine cSkip ?_
   refine kSeq ?_
   refine cSeq ?_
   refine cSeq ?_
   refine cReg ?_
   refine segEndH [100] (T1 := (mkT 101 [(100, .bool false)])) (by kernel_rfl) ?_
   refine kSeq ?_
   refine cFalse (by kernel_rfl) ?_
   refine cSkip ?_
   refine kSeq ?_
   refine cSeq ?_
   refine cReg ?_
   refine segEndH [4] (T1 := (mkT 101 [(4, .bool true)])) (by kernel_rfl) ?_
   refine kSeq ?_
   refine cRet ?_
   exact endQ (Or.inr rfl) (l := [.bool true]) [rB [vI x, vI y, vI z, .slice none 0 0, .slice none 0 0, vS 0 C.length] 24, nW ([] : List Int), nW ([] : List Int), nW C, rB [vI 0, vI 0, vI 0, .slice none 0 0, .slice none 0 0, .slice none 0 0] 27, nW (mkI 1 ([] : List Int).length), nW (mkI (1 + ([] : List Int).length) ([] : List Int).length), nW (mkI (1 + ([] : List Int).length + ([] : List Int).length) C.length), rB [vI x, vI y, vI z, vS 6 0, vS 7 0, vS 8 C.length] 27, rB [vI 0, vI 0, vI 0, .slice none 0 0, .slice none 0 0, .slice none 0 0] 27, nW ([] : List Int), nW ([] : List Int), nW C, nW ([] : List Int), nW ([] : List Int), nW C, rB [vI 0, vI 0, vI 0, .slice none 0 0, .slice none 0 0, .slice none 0 0] 27] (by kernel_rfl) (by first | rfl | kernel_rfl) rfl rfl hcl rfl
  ·
   (try simp only [bs0, bs1, bs2, bs3, beq_iff_eq, bne_iff_ne, beq_eq_false_iff_ne, bne_eq_false_iff_eq, ne_eq, bs4, bs5, bs6, bs7, bs8, bs9, bs10, bs11, ge_iff_le, gt_iff_lt] at h2)
   exfalso; omega
 ·
  (try simp only [bs0, bs1, bs2, bs3, beq_iff_eq, bne_iff_ne, beq_eq_false_iff_ne, bne_eq_false_iff_eq, ne_eq, bs4, bs5, bs6, bs7, bs8, bs9, bs10, bs11, ge_iff_le, gt_iff_lt] at h1)
  exfalso; omega
end Go.Proofs.Ytbheeobnghlckaa
set_option linter.unusedVariables false
set_option linter.unusedSimpArgs false
namespace Go.Proofs.Ytbheeobnghlckaa
open Go.Am Go.RowKit
set_option maxRecDepth 100000 in
set_option maxHeartbeats 4000000 in
theorem lawMirrorShadow_no_nnn (x : Int) (y : Int) (z : Int) (k : Int) (hb : mirB x y z ([] : List Int) ([] : List Int) ([] : List Int) k = false) : Sound Try.prog 12 [.agg #[vI x, vI y, vI z, .slice none 0 0, .slice none 0 0, .slice none 0 0], vI k] [] (.bool true) [] := by
 refine sound_intro (C := cx) Try.func12 rfl (by kernel_rfl) fun hcl => ?_
 refine cSeq ?_
 refine cReg ?_
 refine segEnd [1, 2] (T1 := (mkT 101 [(1, vI k), (2, vP 0 0)])) (H1 := [rB [vI x, vI y, vI z, .slice none 0 0, .slice none 0 0, .slice none 0 0] 24]) (by kernel_rfl) ?_
 refine kSeq ?_
 refine cSeq ?_
 refine cReg ?_
 refine segEndH [1, 2, 5] (T1 := (mkT 101 [(1, vI k), (2, vP 0 0), (5, vI 1048576)])) (by kernel_rfl) ?_
 refine kSeq ?_
 refine cSeq ?_
 refine cReg ?_
 refine segH 2 (T1 := (mkT 101 [(1, vI k), (2, vP 0 0), (5, vI 1048576), (16, .agg #[vI x, vI y, vI z, .slice none 0 0, .slice none 0 0, .slice none 0 0]), (17, vI 1048576)])) (by kernel_rfl) ?_
 refine rCall (v := vI 1048576) (args := [.agg #[vI x, vI y, vI z, .slice none 0 0, .slice none 0 0, .slice none 0 0], vI 1048576]) (by kernel_rfl) rfl (by kernel_rfl) (Sound.lay0 [] (szSh_nnn x y z 1048576 (by first | omega | assumption | decide)) trivial rfl trivial rfl (by first | rfl | simp [mpV, mpA, mpS, mpP, renId, shift]) rfl) ?_
 refine segEndH [1, 2, 5] (T1 := (mkT 101 [(1, vI k), (2, vP 0 0), (5, vI 1048576)])) (by kernel_rfl) ?_
 refine kSeq ?_
 refine cSeq ?_
 refine cSeq ?_
 refine cReg ?_
 refine segEndH [1, 2, 20] (T1 := (mkT 101 [(1, vI k), (2, vP 0 0), (20, .bool false)])) (by kernel_rfl) ?_
 refine kSeq ?_
 refine cFalse (by kernel_rfl) ?_
 refine cSkip ?_
 refine kSeq ?_
 refine cSeq ?_
 refine cReg ?_
 refine segH 1 (T1 := (mkT 101 [(1, vI k), (2, vP 0 0), (20, .bool false), (22, .agg #[vI x, vI y, vI z, .slice none 0 0, .slice none 0 0, .slice none 0 0])])) (by kernel_rfl) ?_
 refine rCall (v := .agg #[vI x, vI y, vI z, vS 1 0, vS 2 0, vS 3 0]) (args := [.agg #[vI x, vI y, vI z, .slice none 0 0, .slice none 0 0, .slice none 0 0]]) (by kernel_rfl) rfl (by kernel_rfl) (Sound.lay (E := [nW ([] : List Int), nW ([] : List Int), nW ([] : List Int)]) [] (toSh_nnn x y z) trivial rfl trivial rfl (by first | rfl | simp [mpV, mpA, mpS, mpP, renId, shift]) (by first | rfl | simp [mpV, mpA, mpS, mpP, renId, shift]) ⟨enF (flatNums _ _ _ _) (Or.inl rfl), ⟨enF (flatNums _ _ _ _) (Or.inl rfl), ⟨enF (flatNums _ _ _ _) (Or.inl rfl), trivial⟩⟩⟩) ?_
 refine seg 1 (T1 := (mkT 101 [(1, vI k), (2, vP 0 0), (20, .bool false), (22, .agg #[vI x, vI y, vI z, .slice none 0 0, .slice none 0 0, .slice none 0 0]), (23, .agg #[vI x, vI y, vI z, vS 1 0, vS 2 0, vS 3 0]), (24, vI k)])) (H1 := [rB [vI x, vI y, vI z, .slice none 0 0, .slice none 0 0, .slice none 0 0] 24, nW ([] : List Int), nW ([] : List Int), nW ([] : List Int)]) (by kernel_rfl) ?_
 refine rCall (v := .tuple #[.agg #[vI 0, vI 0, vI 0, .slice none 0 0, .slice none 0 0, .slice none 0 0], .bool false]) (args := [.agg #[vI x, vI y, vI z, vS 1 0, vS 2 0, vS 3 0], vI k]) (by kernel_rfl) rfl (by kernel_rfl) (Sound.lay0 [1, 2, 3] (specMirrorShadow_bad x y z ([] : List Int) ([] : List Int) ([] : List Int) k (by first | assumption | omega | rfl | decide | exact HeapL.list _ _ _ _ | exact HeapL.nil _ _ _ | exact HeapL.all _ _ _ | (apply HeapL.lt64 <;> assumption) | (repeat' (first | assumption | apply or_lt64 | apply and_lt64 | apply andn_lt64 | apply pow_lt64 | (apply HeapL.lt64 <;> assumption)))) (by first | omega | assumption | (simp; done)) (by first | omega | assumption | (simp; done)) (by first | omega | assumption | (simp; done))) ⟨rdF true (flatNums _ _ _ _) rfl rfl, ⟨rdF true (flatNums _ _ _ _) rfl rfl, ⟨rdF true (flatNums _ _ _ _) rfl rfl, trivial⟩⟩⟩ rfl ⟨clF (flatNums _ _ _ _), ⟨clF (flatNums _ _ _ _), ⟨clF (flatNums _ _ _ _), trivial⟩⟩⟩ rfl (by first | rfl | simp [mpV, mpA, mpS, mpP, renId, shift]) (by first | rfl | simp [mpV, mpA, mpS, mpP, renId, shift])) ?_
 refine segEnd [1, 2, 6, 7] (T1 := (mkT 101 [(1, vI k), (2, vP 0 0), (6, vP 4 0), (7, .bool false)])) (H1 := [rB [vI x, vI y, vI z, .slice none 0 0, .slice none 0 0, .slice none 0 0] 24, nW ([] : List Int), nW ([] : List Int), nW ([] : List Int), rB [vI 0, vI 0, vI 0, .slice none 0 0, .slice none 0 0, .slice none 0 0] 27]) (by kernel_rfl) ?_
 refine kSeq ?_
 refine cSeq ?_
 refine cReg ?_
 refine segH 1 (T1 := (mkT 101 [(1, vI k), (2, vP 0 0), (6, vP 4 0), (7, .bool false), (28, .agg #[vI x, vI y, vI z, .slice none 0 0, .slice none 0 0, .slice none 0 0])])) (by kernel_rfl) ?_
 refine rCall (v := .agg #[vI x, vI y, vI z, vS 5 0, vS 6 0, vS 7 0]) (args := [.agg #[vI x, vI y, vI z, .slice none 0 0, .slice none 0 0, .slice none 0 0]]) (by kernel_rfl) rfl (by kernel_rfl) (Sound.lay (E := [nW ([] : List Int), nW ([] : List Int), nW ([] : List Int)]) [] (toSh_nnn x y z) trivial rfl trivial rfl (by first | rfl | simp [mpV, mpA, mpS, mpP, renId, shift]) (by first | rfl | simp [mpV, mpA, mpS, mpP, renId, shift]) ⟨enF (flatNums _ _ _ _) (Or.inl rfl), ⟨enF (flatNums _ _ _ _) (Or.inl rfl), ⟨enF (flatNums _ _ _ _) (Or.inl rfl), trivial⟩⟩⟩) ?_
 refine segEnd [1, 2, 6, 7, 8] (T1 := (mkT 101 [(1, vI k), (2, vP 0 0), (6, vP 4 0), (7, .bool false), (8, vP 8 0)])) (H1 := [rB [vI x, vI y, vI z, .slice none 0 0, .slice none 0 0, .slice none 0 0] 24, nW ([] : List Int), nW ([] : List Int), nW ([] : List Int), rB [vI 0, vI 0, vI 0, .slice none 0 0, .slice none 0 0, .slice none 0 0] 27, nW ([] : List Int), nW ([] : List Int), nW ([] : List Int), rB [vI x, vI y, vI z, vS 5 0, vS 6 0, vS 7 0] 27]) (by kernel_rfl) ?_
 refine kSeq ?_
 refine cSeq ?_
 refine cReg ?_
 refine segH 2 (T1 := (mkT 101 [(1, vI k), (2, vP 0 0), (6, vP 4 0), (7, .bool false), (8, vP 8 0), (31, .agg #[vI x, vI y, vI z, vS 5 0, vS 6 0, vS 7 0]), (32, vI k)])) (by kernel_rfl) ?_
 refine rCall (v := .tuple #[.agg #[vI 0, vI 0, vI 0, .slice none 0 0, .slice none 0 0, .slice none 0 0], .bool false]) (args := [.agg #[vI x, vI y, vI z, vS 5 0, vS 6 0, vS 7 0], vI k]) (by kernel_rfl) rfl (by kernel_rfl) (Sound.lay0 [5, 6, 7] (implMirrorShadow_bad x y z ([] : List Int) ([] : List Int) ([] : List Int) k (by first | assumption | omega | rfl | decide | exact HeapL.list _ _ _ _ | exact HeapL.nil _ _ _ | exact HeapL.all _ _ _ | (apply HeapL.lt64 <;> assumption) | (repeat' (first | assumption | apply or_lt64 | apply and_lt64 | apply andn_lt64 | apply pow_lt64 | (apply HeapL.lt64 <;> assumption)))) (by first | omega | assumption | (simp; done)) (by first | omega | assumption | (simp; done)) (by first | omega | assumption | (simp; done))) ⟨rdF true (flatNums _ _ _ _) rfl rfl, ⟨rdF true (flatNums _ _ _ _) rfl rfl, ⟨rdF true (flatNums _ _ _ _) rfl rfl, trivial⟩⟩⟩ rfl ⟨clF (flatNums _ _ _ _), ⟨clF (flatNums _ _ _ _), ⟨clF (flatNums _ _ _ _), trivial⟩⟩⟩ rfl (by first | rfl | simp [mpV, mpA, mpS, mpP, renId, shift]) (by first | rfl | simp [mpV, mpA, mpS, mpP, renId, shift])) ?_
 refine segEnd [1, 2, 6, 7, 8, 9, 10] (T1 := (mkT 101 [(1, vI k), (2, vP 0 0), (6, vP 4 0), (7, .bool false), (8, vP 8 0), (9, vP 9 0), (10, .bool false)])) (H1 := [rB [vI x, vI y, vI z, .slice none 0 0, .slice none 0 0, .slice none 0 0] 24, nW ([] : List Int), nW ([] : List Int), nW ([] : List Int), rB [vI 0, vI 0, vI 0, .slice none 0 0, .slice none 0 0, .slice none 0 0] 27, nW ([] : List Int), nW ([] : List Int), nW ([] : List Int), rB [vI x, vI y, vI z, vS 5 0, vS 6 0, vS 7 0] 27, rB [vI 0, vI 0, vI 0, .slice none 0 0, .slice none 0 0, .slice none 0 0] 27]) (by kernel_rfl) ?_
 refine kSeq ?_
 refine cSeq ?_
 refine cSeq ?_
 refine cReg ?_
 refine segH 2 (T1 := (mkT 101 [(1, vI k), (2, vP 0 0), (6, vP 4 0), (7, .bool false), (8, vP 8 0), (9, vP 9 0), (10, .bool false), (36, .agg #[vI 0, vI 0, vI 0, .slice none 0 0, .slice none 0 0, .slice none 0 0]), (37, .agg #[vI 0, vI 0, vI 0, .slice none 0 0, .slice none 0 0, .slice none 0 0])])) (by kernel_rfl) ?_
 refine rCall (v := .bool true) (args := [.agg #[vI 0, vI 0, vI 0, .slice none 0 0, .slice none 0 0, .slice none 0 0], .agg #[vI 0, vI 0, vI 0, .slice none 0 0, .slice none 0 0, .slice none 0 0]]) (by kernel_rfl) rfl (by kernel_rfl) (Sound.lay0 [] (eqSh_N) trivial rfl trivial rfl (by first | rfl | simp [mpV, mpA, mpS, mpP, renId, shift]) rfl) ?_
 refine segEndH [1, 2, 6, 7, 8, 9, 10, 44] (T1 := (mkT 101 [(1, vI k), (2, vP 0 0), (6, vP 4 0), (7, .bool false), (8, vP 8 0), (9, vP 9 0), (10, .bool false), (44, .bool false)])) (by kernel_rfl) ?_
 refine kSeq ?_
 refine cFalse (by kernel_rfl) ?_
 refine cSkip ?_
 refine kSeq ?_
 refine cSeq ?_
 refine cSeq ?_
 refine cRegW (N := 13) [⟨[], [], [8]⟩, ⟨[], [], [0]⟩, ⟨[10, 11, 12], [], []⟩, ⟨[], [], [5, 6, 7, 10, 11, 12]⟩, ⟨[], [], []⟩] 3 [10, 11, 12] (by rfl) (by rfl) (by kernel_rfl) (by kernel_rfl) (by kernel_rfl) ⟨nmsX (by kernel_rfl), ⟨nmsF (flatNums _ _ _ _), ⟨nmsF (flatNums _ _ _ _), ⟨nmsF (flatNums _ _ _ _), ⟨nmsX (by kernel_rfl), ⟨nmsF (flatNums _ _ _ _), ⟨nmsF (flatNums _ _ _ _), ⟨nmsF (flatNums _ _ _ _), ⟨nmsX (by kernel_rfl), ⟨nmsX (by kernel_rfl), trivial⟩⟩⟩⟩⟩⟩⟩⟩⟩⟩ ?_
 refine segWH 2 (T1 := (mkT 101 [(1, vI k), (2, vP 0 0), (6, vP 4 0), (7, .bool false), (8, vP 8 0), (9, vP 9 0), (10, .bool false), (44, .bool false), (45, .agg #[vI x, vI y, vI z, vS 5 0, vS 6 0, vS 7 0]), (46, .agg #[vI x, vI y, vI z, .slice none 0 0, .slice none 0 0, .slice none 0 0])])) (by kernel_rfl) ?_
 refine rW (m := ⟨[10, 11, 12], [], []⟩) (v := .agg #[vI x, vI y, vI z, vS 10 0, vS 11 0, vS 12 0]) rfl (by kernel_rfl) (stN (i := 10) (E := [nW ([] : List Int), nW ([] : List Int), nW ([] : List Int)]) (v1 := .agg #[vI x, vI y, vI z, vS 13 0, vS 14 0, vS 15 0]) (args := [.agg #[vI x, vI y, vI z, .slice none 0 0, .slice none 0 0, .slice none 0 0]]) rfl (by kernel_rfl) (Any.lay (E := [nW ([] : List Int), nW ([] : List Int), nW ([] : List Int)]) (N := 13) [] (toSh_nnn x y z) trivial rfl trivial rfl (by first | rfl | simp [mpV, mpA, mpS, mpP, renId, shift]) (by first | rfl | simp [mpV, mpA, mpS, mpP, renId, shift]) ⟨enF (flatNums _ _ _ _) (Or.inl rfl), ⟨enF (flatNums _ _ _ _) (Or.inl rfl), ⟨enF (flatNums _ _ _ _) (Or.inl rfl), trivial⟩⟩⟩) rfl (by kernel_rfl) (by kernel_rfl) (by kernel_rfl) (by kernel_rfl) (FlatH.cons (flatNums _ _ _ _) (FlatH.cons (flatNums _ _ _ _) (FlatH.cons (flatNums _ _ _ _) FlatH.nil)))) (by kernel_rfl) (NRs.all ⟨nrOf (by rfl) (nmF (flatNums _ _ _ _)), ⟨nrOf (by rfl) (nmF (flatNums _ _ _ _)), ⟨nrOf (by rfl) (nmF (flatNums _ _ _ _)), trivial⟩⟩⟩) ?_
 refine rW (m := ⟨[], [], [5, 6, 7, 10, 11, 12]⟩) (v := .bool true) rfl (by kernel_rfl) (stQ (args := [.agg #[vI x, vI y, vI z, vS 5 0, vS 6 0, vS 7 0], .agg #[vI x, vI y, vI z, vS 10 0, vS 11 0, vS 12 0]]) rfl (by kernel_rfl) (Any.lay0 [5, 6, 7, 10, 11, 12] (eqSh x y z ([] : List Int) ([] : List Int) ([] : List Int) (by first | omega | assumption | (simp; done)) (by first | omega | assumption | (simp; done)) (by first | omega | assumption | (simp; done))) ⟨rdF true (flatNums _ _ _ _) rfl rfl, ⟨rdF true (flatNums _ _ _ _) rfl rfl, ⟨rdF true (flatNums _ _ _ _) rfl rfl, ⟨rdF true (flatNums _ _ _ _) rfl rfl, ⟨rdF true (flatNums _ _ _ _) rfl rfl, ⟨rdF true (flatNums _ _ _ _) rfl rfl, trivial⟩⟩⟩⟩⟩⟩ rfl ⟨clF (flatNums _ _ _ _), ⟨clF (flatNums _ _ _ _), ⟨clF (flatNums _ _ _ _), ⟨clF (flatNums _ _ _ _), ⟨clF (flatNums _ _ _ _), ⟨clF (flatNums _ _ _ _), trivial⟩⟩⟩⟩⟩⟩ rfl (by first | rfl | simp [mpV, mpA, mpS, mpP, renId, shift]) rfl) rfl (by kernel_rfl) (by kernel_rfl)) (by kernel_rfl) nr0 ?_
 refine segEndW [1, 2, 6, 7, 8, 9, 10, 49] (T1 := (mkT 101 [(1, vI k), (2, vP 0 0), (6, vP 4 0), (7, .bool false), (8, vP 8 0), (9, vP 9 0), (10, .bool false), (49, .bool false)])) (H1 := [rB [vI x, vI y, vI z, .slice none 0 0, .slice none 0 0, .slice none 0 0] 24, nW ([] : List Int), nW ([] : List Int), nW ([] : List Int), rB [vI 0, vI 0, vI 0, .slice none 0 0, .slice none 0 0, .slice none 0 0] 27, nW ([] : List Int), nW ([] : List Int), nW ([] : List Int), rB [vI x, vI y, vI z, vS 5 0, vS 6 0, vS 7 0] 27, rB [vI 0, vI 0, vI 0, .slice none 0 0, .slice none 0 0, .slice none 0 0] 27, nW ([] : List Int), nW ([] : List Int), nW ([] : List Int)]) (by kernel_rfl) ?_
 refine kSeq ?_
 refine cFalse (by kernel_rfl) ?_
 refine cSkip ?_
 refine kSeq ?_
 refine cSeq ?_
 refine cReg ?_
 refine segEndH [1, 2, 6, 7, 8, 9, 10, 11] (T1 := (mkT 101 [(1, vI k), (2, vP 0 0), (6, vP 4 0), (7, .bool false), (8, vP 8 0), (9, vP 9 0), (10, .bool false), (11, vI 1)])) (by kernel_rfl) ?_
 refine kSeq ?_
 refine cSeq ?_
 refine cReg ?_
 refine segH 2 (T1 := (mkT 101 [(1, vI k), (2, vP 0 0), (6, vP 4 0), (7, .bool false), (8, vP 8 0), (9, vP 9 0), (10, .bool false), (11, vI 1), (50, .agg #[vI x, vI y, vI z, vS 5 0, vS 6 0, vS 7 0]), (51, vI 1)])) (by kernel_rfl) ?_
 refine rCall (v := vN (1 + ([] : List Int).length + ([] : List Int).length + ([] : List Int).length)) (args := [.agg #[vI x, vI y, vI z, vS 5 0, vS 6 0, vS 7 0], vI 1]) (by kernel_rfl) rfl (by kernel_rfl) (Sound.emb_set3 (r0 := ⟨nums ([] : List Int), 3, false, true⟩) (r1 := ⟨nums ([] : List Int), 3, false, true⟩) (r2 := ⟨nums ([] : List Int), 3, false, true⟩) (q0 := ⟨nums (mkI 1 ([] : List Int).length), 3, false, true⟩) (q1 := ⟨nums (mkI (1 + ([] : List Int).length) ([] : List Int).length), 3, false, true⟩) (q2 := ⟨nums (mkI (1 + ([] : List Int).length + ([] : List Int).length) ([] : List Int).length), 3, false, true⟩) 5 6 7 (markSh x y z ([] : List Int) ([] : List Int) ([] : List Int) 1 (by first | omega | assumption | (simp; done)) (by first | omega | assumption | (simp; done)) (by first | omega | assumption | (simp; done)) (by first | assumption | omega | rfl | decide | exact HeapL.list _ _ _ _ | exact HeapL.nil _ _ _ | exact HeapL.all _ _ _ | (apply HeapL.lt64 <;> assumption) | (repeat' (first | assumption | apply or_lt64 | apply and_lt64 | apply andn_lt64 | apply pow_lt64 | (apply HeapL.lt64 <;> assumption))))) ⟨⟨(flatNums _ _ _ _), rfl⟩, ⟨(flatNums _ _ _ _), rfl⟩, ⟨(flatNums _ _ _ _), rfl⟩⟩ ⟨⟨(flatNums _ _ _ _), rfl⟩, ⟨(flatNums _ _ _ _), rfl⟩, ⟨(flatNums _ _ _ _), rfl⟩⟩ rfl rfl rfl rfl rfl (by first | rfl | simp [mpV, mpA, mpS, mpP, renId, shift]) rfl) ?_
 refine segEnd [1, 2, 6, 7, 9, 10, 11] (T1 := (mkT 101 [(1, vI k), (2, vP 0 0), (6, vP 4 0), (7, .bool false), (9, vP 9 0), (10, .bool false), (11, vN (1 + ([] : List Int).length + ([] : List Int).length + ([] : List Int).length))])) (H1 := [rB [vI x, vI y, vI z, .slice none 0 0, .slice none 0 0, .slice none 0 0] 24, nW ([] : List Int), nW ([] : List Int), nW ([] : List Int), rB [vI 0, vI 0, vI 0, .slice none 0 0, .slice none 0 0, .slice none 0 0] 27, nW (mkI 1 ([] : List Int).length), nW (mkI (1 + ([] : List Int).length) ([] : List Int).length), nW (mkI (1 + ([] : List Int).length + ([] : List Int).length) ([] : List Int).length), rB [vI x, vI y, vI z, vS 5 0, vS 6 0, vS 7 0] 27, rB [vI 0, vI 0, vI 0, .slice none 0 0, .slice none 0 0, .slice none 0 0] 27, nW ([] : List Int), nW ([] : List Int), nW ([] : List Int)]) (by kernel_rfl) ?_
 refine kSeq ?_
 refine cSeq ?_
 refine cSeq ?_
 refine cReg ?_
 refine segH 3 (T1 := (mkT 101 [(1, vI k), (2, vP 0 0), (6, vP 4 0), (7, .bool false), (9, vP 9 0), (10, .bool false), (11, vN (1 + ([] : List Int).length + ([] : List Int).length + ([] : List Int).length)), (53, vN (1 + ([] : List Int).length + ([] : List Int).length + ([] : List Int).length)), (54, .bool (decide (((1 + ([] : List Int).length + ([] : List Int).length + ([] : List Int).length : Nat) : Int) < 0))), (55, .bool (decide (((1 + ([] : List Int).length + ([] : List Int).length + ([] : List Int).length : Nat) : Int) < 0)))])) (by kernel_rfl) ?_
 cases h1 : (decide (((1 + ([] : List Int).length + ([] : List Int).length + ([] : List Int).length : Nat) : Int) < 0) : Bool)
 ·
  (try simp only [bs0, bs1, bs2, bs3, beq_iff_eq, bne_iff_ne, beq_eq_false_iff_ne, bne_eq_false_iff_eq, ne_eq, bs4, bs5, bs6, bs7, bs8, bs9, bs10, bs11, ge_iff_le, gt_iff_lt] at h1)
  refine seg 2 (T1 := (mkT 101 [(1, vI k), (2, vP 0 0), (6, vP 4 0), (7, .bool false), (9, vP 9 0), (10, .bool false), (11, vN (1 + ([] : List Int).length + ([] : List Int).length + ([] : List Int).length)), (53, vN (1 + ([] : List Int).length + ([] : List Int).length + ([] : List Int).length)), (54, .bool false), (55, .bool false), (56, .agg #[vI 0, vI 0, vI 0, .slice none 0 0, .slice none 0 0, .slice none 0 0]), (57, .agg #[vI 0, vI 0, vI 0, .slice none 0 0, .slice none 0 0, .slice none 0 0])])) (H1 := [rB [vI x, vI y, vI z, .slice none 0 0, .slice none 0 0, .slice none 0 0] 24, nW ([] : List Int), nW ([] : List Int), nW ([] : List Int), rB [vI 0, vI 0, vI 0, .slice none 0 0, .slice none 0 0, .slice none 0 0] 27, nW (mkI 1 ([] : List Int).length), nW (mkI (1 + ([] : List Int).length) ([] : List Int).length), nW (mkI (1 + ([] : List Int).length + ([] : List Int).length) ([] : List Int).length), rB [vI x, vI y, vI z, vS 5 0, vS 6 0, vS 7 0] 27, rB [vI 0, vI 0, vI 0, .slice none 0 0, .slice none 0 0, .slice none 0 0] 27, nW ([] : List Int), nW ([] : List Int), nW ([] : List Int)]) (by kernel_rfl) ?_
  refine rCall (v := .bool true) (args := [.agg #[vI 0, vI 0, vI 0, .slice none 0 0, .slice none 0 0, .slice none 0 0], .agg #[vI 0, vI 0, vI 0, .slice none 0 0, .slice none 0 0, .slice none 0 0]]) (by kernel_rfl) rfl (by kernel_rfl) (Sound.lay0 [] (eqSh_N) trivial rfl trivial rfl (by first | rfl | simp [mpV, mpA, mpS, mpP, renId, shift]) rfl) ?_
  refine segEnd [1, 2, 6, 7, 9, 65] (T1 := (mkT 101 [(1, vI k), (2, vP 0 0), (6, vP 4 0), (7, .bool false), (9, vP 9 0), (65, .bool false)])) (H1 := [rB [vI x, vI y, vI z, .slice none 0 0, .slice none 0 0, .slice none 0 0] 24, nW ([] : List Int), nW ([] : List Int), nW ([] : List Int), rB [vI 0, vI 0, vI 0, .slice none 0 0, .slice none 0 0, .slice none 0 0] 27, nW (mkI 1 ([] : List Int).length), nW (mkI (1 + ([] : List Int).length) ([] : List Int).length), nW (mkI (1 + ([] : List Int).length + ([] : List Int).length) ([] : List Int).length), rB [vI x, vI y, vI z, vS 5 0, vS 6 0, vS 7 0] 27, rB [vI 0, vI 0, vI 0, .slice none 0 0, .slice none 0 0, .slice none 0 0] 27, nW ([] : List Int), nW ([] : List Int), nW ([] : List Int)]) (by kernel_rfl) ?_
  refine kSeq ?_
  refine cFalse (by kernel_rfl) ?_
  refine cSkip ?_
  refine kSeq ?_
  refine cSeq ?_
  refine cReg ?_
  refine segEndH [1, 2, 6, 7, 9, 12] (T1 := (mkT 101 [(1, vI k), (2, vP 0 0), (6, vP 4 0), (7, .bool false), (9, vP 9 0), (12, vI 1)])) (by kernel_rfl) ?_
  refine kSeq ?_
  refine cSeq ?_
  refine cReg ?_
  refine segH 2 (T1 := (mkT 101 [(1, vI k), (2, vP 0 0), (6, vP 4 0), (7, .bool false), (9, vP 9 0), (12, vI 1), (66, .agg #[vI 0, vI 0, vI 0, .slice none 0 0, .slice none 0 0, .slice none 0 0]), (67, vI 1)])) (by kernel_rfl) ?_
  refine rCall (v := vI 1) (args := [.agg #[vI 0, vI 0, vI 0, .slice none 0 0, .slice none 0 0, .slice none 0 0], vI 1]) (by kernel_rfl) rfl (by kernel_rfl) (Sound.lay0 [] (markSh_N 1 (by first | assumption | omega | rfl | decide | exact HeapL.list _ _ _ _ | exact HeapL.nil _ _ _ | exact HeapL.all _ _ _ | (apply HeapL.lt64 <;> assumption) | (repeat' (first | assumption | apply or_lt64 | apply and_lt64 | apply andn_lt64 | apply pow_lt64 | (apply HeapL.lt64 <;> assumption))))) trivial rfl trivial rfl (by first | rfl | simp [mpV, mpA, mpS, mpP, renId, shift]) rfl) ?_
  refine segEndH [1, 2, 6, 7, 9, 12] (T1 := (mkT 101 [(1, vI k), (2, vP 0 0), (6, vP 4 0), (7, .bool false), (9, vP 9 0), (12, vI 1)])) (by kernel_rfl) ?_
  refine kSeq ?_
  refine cSeq ?_
  refine cReg ?_
  refine segEndH [1, 2, 6, 7, 9, 12, 13] (T1 := (mkT 101 [(1, vI k), (2, vP 0 0), (6, vP 4 0), (7, .bool false), (9, vP 9 0), (12, vI 1), (13, vI 1)])) (by kernel_rfl) ?_
  refine kSeq ?_
  refine cSeq ?_
  refine cReg ?_
  refine segH 2 (T1 := (mkT 101 [(1, vI k), (2, vP 0 0), (6, vP 4 0), (7, .bool false), (9, vP 9 0), (12, vI 1), (13, vI 1), (69, .agg #[vI 0, vI 0, vI 0, .slice none 0 0, .slice none 0 0, .slice none 0 0]), (70, vI 1)])) (by kernel_rfl) ?_
  refine rCall (v := vI 1) (args := [.agg #[vI 0, vI 0, vI 0, .slice none 0 0, .slice none 0 0, .slice none 0 0], vI 1]) (by kernel_rfl) rfl (by kernel_rfl) (Sound.lay0 [] (heldSh_N 1 (by first | assumption | omega | rfl | decide | exact HeapL.list _ _ _ _ | exact HeapL.nil _ _ _ | exact HeapL.all _ _ _ | (apply HeapL.lt64 <;> assumption) | (repeat' (first | assumption | apply or_lt64 | apply and_lt64 | apply andn_lt64 | apply pow_lt64 | (apply HeapL.lt64 <;> assumption))))) trivial rfl trivial rfl (by first | rfl | simp [mpV, mpA, mpS, mpP, renId, shift]) rfl) ?_
  refine segEndH [1, 2, 6, 7, 9, 12, 13] (T1 := (mkT 101 [(1, vI k), (2, vP 0 0), (6, vP 4 0), (7, .bool false), (9, vP 9 0), (12, vI 1), (13, vI 1)])) (by kernel_rfl) ?_
  refine kSeq ?_
  refine cSeq ?_
  refine cSeq ?_
  refine cReg ?_
  refine segEndH [1, 2, 6, 7, 9, 12, 13, 73] (T1 := (mkT 101 [(1, vI k), (2, vP 0 0), (6, vP 4 0), (7, .bool false), (9, vP 9 0), (12, vI 1), (13, vI 1), (73, .bool false)])) (by kernel_rfl) ?_
  refine kSeq ?_
  refine cFalse (by kernel_rfl) ?_
  refine cSkip ?_
  refine kSeq ?_
  refine cSeq ?_
  refine cSeq ?_
  refine cReg ?_
  refine segEndH [1, 2, 6, 7, 9, 12, 76] (T1 := (mkT 101 [(1, vI k), (2, vP 0 0), (6, vP 4 0), (7, .bool false), (9, vP 9 0), (12, vI 1), (76, .bool false)])) (by kernel_rfl) ?_
  refine kSeq ?_
  refine cFalse (by kernel_rfl) ?_
  refine cSkip ?_
  refine kSeq ?_
  refine cSeq ?_
  refine cReg ?_
  refine segH 1 (T1 := (mkT 101 [(1, vI k), (2, vP 0 0), (6, vP 4 0), (7, .bool false), (9, vP 9 0), (12, vI 1), (76, .bool false), (78, .agg #[vI x, vI y, vI z, .slice none 0 0, .slice none 0 0, .slice none 0 0])])) (by kernel_rfl) ?_
  refine rCall (v := .agg #[vI x, vI y, vI z, vS 13 0, vS 14 0, vS 15 0]) (args := [.agg #[vI x, vI y, vI z, .slice none 0 0, .slice none 0 0, .slice none 0 0]]) (by kernel_rfl) rfl (by kernel_rfl) (Sound.lay (E := [nW ([] : List Int), nW ([] : List Int), nW ([] : List Int)]) [] (toSh_nnn x y z) trivial rfl trivial rfl (by first | rfl | simp [mpV, mpA, mpS, mpP, renId, shift]) (by first | rfl | simp [mpV, mpA, mpS, mpP, renId, shift]) ⟨enF (flatNums _ _ _ _) (Or.inl rfl), ⟨enF (flatNums _ _ _ _) (Or.inl rfl), ⟨enF (flatNums _ _ _ _) (Or.inl rfl), trivial⟩⟩⟩) ?_
  refine seg 1 (T1 := (mkT 101 [(1, vI k), (2, vP 0 0), (6, vP 4 0), (7, .bool false), (9, vP 9 0), (12, vI 1), (76, .bool false), (78, .agg #[vI x, vI y, vI z, .slice none 0 0, .slice none 0 0, .slice none 0 0]), (79, .agg #[vI x, vI y, vI z, vS 13 0, vS 14 0, vS 15 0]), (80, vI k)])) (H1 := [rB [vI x, vI y, vI z, .slice none 0 0, .slice none 0 0, .slice none 0 0] 24, nW ([] : List Int), nW ([] : List Int), nW ([] : List Int), rB [vI 0, vI 0, vI 0, .slice none 0 0, .slice none 0 0, .slice none 0 0] 27, nW (mkI 1 ([] : List Int).length), nW (mkI (1 + ([] : List Int).length) ([] : List Int).length), nW (mkI (1 + ([] : List Int).length + ([] : List Int).length) ([] : List Int).length), rB [vI x, vI y, vI z, vS 5 0, vS 6 0, vS 7 0] 27, rB [vI 0, vI 0, vI 0, .slice none 0 0, .slice none 0 0, .slice none 0 0] 27, nW ([] : List Int), nW ([] : List Int), nW ([] : List Int), nW ([] : List Int), nW ([] : List Int), nW ([] : List Int)]) (by kernel_rfl) ?_
  refine rCall (v := .tuple #[.agg #[vI 0, vI 0, vI 0, .slice none 0 0, .slice none 0 0, .slice none 0 0], .bool false]) (args := [.agg #[vI x, vI y, vI z, vS 13 0, vS 14 0, vS 15 0], vI k]) (by kernel_rfl) rfl (by kernel_rfl) (Sound.lay0 [13, 14, 15] (implMirrorShadow_bad x y z ([] : List Int) ([] : List Int) ([] : List Int) k (by first | assumption | omega | rfl | decide | exact HeapL.list _ _ _ _ | exact HeapL.nil _ _ _ | exact HeapL.all _ _ _ | (apply HeapL.lt64 <;> assumption) | (repeat' (first | assumption | apply or_lt64 | apply and_lt64 | apply andn_lt64 | apply pow_lt64 | (apply HeapL.lt64 <;> assumption)))) (by first | omega | assumption | (simp; done)) (by first | omega | assumption | (simp; done)) (by first | omega | assumption | (simp; done))) ⟨rdF true (flatNums _ _ _ _) rfl rfl, ⟨rdF true (flatNums _ _ _ _) rfl rfl, ⟨rdF true (flatNums _ _ _ _) rfl rfl, trivial⟩⟩⟩ rfl ⟨clF (flatNums _ _ _ _), ⟨clF (flatNums _ _ _ _), ⟨clF (flatNums _ _ _ _), trivial⟩⟩⟩ rfl (by first | rfl | simp [mpV, mpA, mpS, mpP, renId, shift]) (by first | rfl | simp [mpV, mpA, mpS, mpP, renId, shift])) ?_
  refine segEnd [6, 7, 9, 12, 14, 15] (T1 := (mkT 101 [(6, vP 4 0), (7, .bool false), (9, vP 9 0), (12, vI 1), (14, vP 16 0), (15, .bool false)])) (H1 := [rB [vI x, vI y, vI z, .slice none 0 0, .slice none 0 0, .slice none 0 0] 24, nW ([] : List Int), nW ([] : List Int), nW ([] : List Int), rB [vI 0, vI 0, vI 0, .slice none 0 0, .slice none 0 0, .slice none 0 0] 27, nW (mkI 1 ([] : List Int).length), nW (mkI (1 + ([] : List Int).length) ([] : List Int).length), nW (mkI (1 + ([] : List Int).length + ([] : List Int).length) ([] : List Int).length), rB [vI x, vI y, vI z, vS 5 0, vS 6 0, vS 7 0] 27, rB [vI 0, vI 0, vI 0, .slice none 0 0, .slice none 0 0, .slice none 0 0] 27, nW ([] : List Int), nW ([] : List Int), nW ([] : List Int), nW ([] : List Int), nW ([] : List Int), nW ([] : List Int), rB [vI 0, vI 0, vI 0, .slice none 0 0, .slice none 0 0, .slice none 0 0] 27]) (by kernel_rfl) ?_
  refine kSeq ?_
  refine cSeq ?_
  refine cSeq ?_
  refine cReg ?_
  refine segH 2 (T1 := (mkT 101 [(6, vP 4 0), (7, .bool false), (9, vP 9 0), (12, vI 1), (14, vP 16 0), (15, .bool false), (84, .agg #[vI 0, vI 0, vI 0, .slice none 0 0, .slice none 0 0, .slice none 0 0]), (85, .agg #[vI 0, vI 0, vI 0, .slice none 0 0, .slice none 0 0, .slice none 0 0])])) (by kernel_rfl) ?_
  refine rCall (v := .bool true) (args := [.agg #[vI 0, vI 0, vI 0, .slice none 0 0, .slice none 0 0, .slice none 0 0], .agg #[vI 0, vI 0, vI 0, .slice none 0 0, .slice none 0 0, .slice none 0 0]]) (by kernel_rfl) rfl (by kernel_rfl) (Sound.lay0 [] (eqSh_N) trivial rfl trivial rfl (by first | rfl | simp [mpV, mpA, mpS, mpP, renId, shift]) rfl) ?_
  refine segEndH [9, 12, 92] (T1 := (mkT 101 [(9, vP 9 0), (12, vI 1), (92, .bool false)])) (by kernel_rfl) ?_
  refine kSeq ?_
  refine cFalse (by kernel_rfl) ?_
  refine cSkip ?_
  refine kSeq ?_
  refine cSeq ?_
  refine cReg ?_
  refine segEndH [9, 12, 13] (T1 := (mkT 101 [(9, vP 9 0), (12, vI 1), (13, vI 1)])) (by kernel_rfl) ?_
  refine kSeq ?_
  refine cSeq ?_
  refine cReg ?_
  refine segH 2 (T1 := (mkT 101 [(9, vP 9 0), (12, vI 1), (13, vI 1), (93, .agg #[vI 0, vI 0, vI 0, .slice none 0 0, .slice none 0 0, .slice none 0 0]), (94, vI 1)])) (by kernel_rfl) ?_
  refine rCall (v := vI 1) (args := [.agg #[vI 0, vI 0, vI 0, .slice none 0 0, .slice none 0 0, .slice none 0 0], vI 1]) (by kernel_rfl) rfl (by kernel_rfl) (Sound.lay0 [] (heldSh_N 1 (by first | assumption | omega | rfl | decide | exact HeapL.list _ _ _ _ | exact HeapL.nil _ _ _ | exact HeapL.all _ _ _ | (apply HeapL.lt64 <;> assumption) | (repeat' (first | assumption | apply or_lt64 | apply and_lt64 | apply andn_lt64 | apply pow_lt64 | (apply HeapL.lt64 <;> assumption))))) trivial rfl trivial rfl (by first | rfl | simp [mpV, mpA, mpS, mpP, renId, shift]) rfl) ?_
  refine segEndH [12, 13] (T1 := (mkT 101 [(12, vI 1), (13, vI 1)])) (by kernel_rfl) ?_
  refine kSeq ?_
  refine cSeq ?_
  refine cSeq ?_
  refine cReg ?_
  refine segEndH [12, 13, 97] (T1 := (mkT 101 [(12, vI 1), (13, vI 1), (97, .bool false)])) (by kernel_rfl) ?_
  refine kSeq ?_
  refine cFalse (by kernel_rfl) ?_
  refine cSkip ?_
  refine kSeq ?_
  refine cSeq ?_
  refine cSeq ?_
  refine cReg ?_
  refine segEndH [100] (T1 := (mkT 101 [(100, .bool false)])) (by kernel_rfl) ?_
  refine kSeq ?_
  refine cFalse (by kernel_rfl) ?_
  refine cSkip ?_
  refine kSeq ?_
  refine cSeq ?_
  refine cReg ?_
  refine segEndH [4] (T1 := (mkT 101 [(4, .bool true)])) (by kernel_rfl) ?_
  refine kSeq ?_
  refine cRet ?_
  exact endQ (Or.inr rfl) (l := [.bool true]) [rB [vI x, vI y, vI z, .slice none 0 0, .slice none 0 0, .slice none 0 0] 24, nW ([] : List Int), nW ([] : List Int), nW ([] : List Int), rB [vI 0, vI 0, vI 0, .slice none 0 0, .slice none 0 0, .slice none 0 0] 27, nW (mkI 1 ([] : List Int).length), nW (mkI (1 + ([] : List Int).length) ([] : List Int).length), nW (mkI (1 + ([] : List Int).length + ([] : List Int).length) ([] : List Int).length), rB [vI x, vI y, vI z, vS 5 0, vS 6 0, vS 7 0] 27, rB [vI 0, vI 0, vI 0, .slice none 0 0, .slice none 0 0, .slice none 0 0] 27, nW ([] : List Int), nW ([] : List Int), nW ([] : List Int), nW ([] : List Int), nW ([] : List Int), nW ([] : List Int), rB [vI 0, vI 0, vI 0, .slice none 0 0, .slice none 0 0, .slice none 0 0] 27] (by kernel_rfl) (by first | rfl | kernel_rfl) rfl rfl hcl rfl
 ·
  (try simp only [bs0, bs1, bs2, bs3, beq_iff_eq, bne_iff_ne, beq_eq_false_iff_ne, bne_eq_false_iff_eq, ne_eq, bs4, bs5, bs6, bs7, bs8, bs9, bs10, bs11, ge_iff_le, gt_iff_lt] at h1)
  exfalso; omega
end Go.Proofs.Ytbheeobnghlckaa
set_option linter.unusedVariables false
set_option linter.unusedSimpArgs false
namespace Go.Proofs.Ytbheeobnghlckaa
open Go.Am Go.RowKit
set_option maxRecDepth 100000 in
set_option maxHeartbeats 4000000 in
theorem lawMirrorShadow_d0_sss (X : Nat) (Y : Nat) (Z : Nat) (A : List Int) (B : List Int) (C : List Int) (RA : List Int) (RB : List Int) (RC : List Int) (hl : A.length + B.length + C.length ≤ 1048576) (hs : Sides X Y Z) (hq : shadB X Y Z A B C = true) (hRRA : RA = mirE 2 0 X Y Z A) (hRRB : RB = mirE 1 0 X Y Z B) (hRRC : RC = mirE 0 0 X Y Z C) : Sound Try.prog 12 [.agg #[vN X, vN Y, vN Z, vS 0 A.length, vS 1 B.length, vS 2 C.length], vI 0] [nR A, nR B, nR C] (.bool true) [nR A, nR B, nR C] := by
 refine sound_intro (C := cx) Try.func12 rfl (by kernel_rfl) fun hcl => ?_
 have hz := hs.size
 have hx0 := hs.x0
 have hx4 := hs.x4
 have hy0 := hs.y0
 have hy4 := hs.y4
 have hz0 := hs.z0
 have hz4 := hs.z4
 have hxy : X * Y ≤ 4 * 4 := Nat.mul_le_mul (by omega) (by omega)
 have hxz : X * Z ≤ 4 * 4 := Nat.mul_le_mul (by omega) (by omega)
 have hyz : Y * Z ≤ 4 * 4 := Nat.mul_le_mul (by omega) (by omega)
 have hrA : RA.length ≤ 16 := by (rw [hRRA, mirE_length]; simp only [nlN]; omega)
 have hrB : RB.length ≤ 16 := by (rw [hRRB, mirE_length]; simp only [nlN]; omega)
 have hrC : RC.length ≤ 16 := by (rw [hRRC, mirE_length]; simp only [nlN]; omega)
 refine cSeq ?_
 refine cReg ?_
 refine segEnd [1, 2] (T1 := (mkT 101 [(1, vI 0), (2, vP 3 0)])) (H1 := [nR A, nR B, nR C, rB [vN X, vN Y, vN Z, vS 0 A.length, vS 1 B.length, vS 2 C.length] 24]) (by kernel_rfl) ?_
 refine kSeq ?_
 refine cSeq ?_
 refine cReg ?_
 refine segEndH [1, 2, 5] (T1 := (mkT 101 [(1, vI 0), (2, vP 3 0), (5, vI 1048576)])) (by kernel_rfl) ?_
 refine kSeq ?_
 refine cSeq ?_
 refine cReg ?_
 refine segH 2 (T1 := (mkT 101 [(1, vI 0), (2, vP 3 0), (5, vI 1048576), (16, .agg #[vN X, vN Y, vN Z, vS 0 A.length, vS 1 B.length, vS 2 C.length]), (17, vI 1048576)])) (by kernel_rfl) ?_
 refine rCall (v := vN (1048576 - A.length - B.length - C.length)) (args := [.agg #[vN X, vN Y, vN Z, vS 0 A.length, vS 1 B.length, vS 2 C.length], vI 1048576]) (by kernel_rfl) rfl (by kernel_rfl) (Sound.lay0 [0, 1, 2] (szSh_sss ((X : Nat) : Int) ((Y : Nat) : Int) ((Z : Nat) : Int) A B C 1048576 (by first | omega | assumption | (simp; done) | (simp; omega)) (by first | omega | assumption | decide)) ⟨rdF false (flatNums _ _ _ _) rfl rfl, ⟨rdF false (flatNums _ _ _ _) rfl rfl, ⟨rdF false (flatNums _ _ _ _) rfl rfl, trivial⟩⟩⟩ rfl ⟨clF (flatNums _ _ _ _), ⟨clF (flatNums _ _ _ _), ⟨clF (flatNums _ _ _ _), trivial⟩⟩⟩ rfl (by first | rfl | simp [mpV, mpA, mpS, mpP, renId, shift]) rfl) ?_
 refine segEndH [1, 2, 5] (T1 := (mkT 101 [(1, vI 0), (2, vP 3 0), (5, vN (1048576 - A.length - B.length - C.length))])) (by kernel_rfl) ?_
 refine kSeq ?_
 refine cSeq ?_
 refine cSeq ?_
 refine cReg ?_
 refine segEndH [1, 2, 20] (T1 := (mkT 101 [(1, vI 0), (2, vP 3 0), (20, .bool (decide (((1048576 - A.length - B.length - C.length : Nat) : Int) < 0)))])) (by kernel_rfl) ?_
 refine kSeq ?_
 cases h1 : (decide (((1048576 - A.length - B.length - C.length : Nat) : Int) < 0) : Bool)
 ·
  (try simp only [bs0, bs1, bs2, bs3, beq_iff_eq, bne_iff_ne, beq_eq_false_iff_ne, bne_eq_false_iff_eq, ne_eq, bs4, bs5, bs6, bs7, bs8, bs9, bs10, bs11, ge_iff_le, gt_iff_lt] at h1)
  refine cFalse (by kernel_rfl) ?_
  refine cSkip ?_
  refine kSeq ?_
  refine cSeq ?_
  refine cReg ?_
  refine segH 1 (T1 := (mkT 101 [(1, vI 0), (2, vP 3 0), (20, .bool false), (22, .agg #[vN X, vN Y, vN Z, vS 0 A.length, vS 1 B.length, vS 2 C.length])])) (by kernel_rfl) ?_
  refine rCall (v := .agg #[vN X, vN Y, vN Z, vS 4 A.length, vS 5 B.length, vS 6 C.length]) (args := [.agg #[vN X, vN Y, vN Z, vS 0 A.length, vS 1 B.length, vS 2 C.length]]) (by kernel_rfl) rfl (by kernel_rfl) (Sound.lay (E := [nW A, nW B, nW C]) [0, 1, 2] (toSh_sss ((X : Nat) : Int) ((Y : Nat) : Int) ((Z : Nat) : Int) A B C (by first | omega | assumption) (by first | omega | assumption) (by first | omega | assumption)) ⟨rdF false (flatNums _ _ _ _) rfl rfl, ⟨rdF false (flatNums _ _ _ _) rfl rfl, ⟨rdF false (flatNums _ _ _ _) rfl rfl, trivial⟩⟩⟩ rfl ⟨clF (flatNums _ _ _ _), ⟨clF (flatNums _ _ _ _), ⟨clF (flatNums _ _ _ _), trivial⟩⟩⟩ rfl (by first | rfl | simp [mpV, mpA, mpS, mpP, renId, shift]) (by first | rfl | simp [mpV, mpA, mpS, mpP, renId, shift]) ⟨enF (flatNums _ _ _ _) (Or.inl rfl), ⟨enF (flatNums _ _ _ _) (Or.inl rfl), ⟨enF (flatNums _ _ _ _) (Or.inl rfl), trivial⟩⟩⟩) ?_
  refine seg 1 (T1 := (mkT 101 [(1, vI 0), (2, vP 3 0), (20, .bool false), (22, .agg #[vN X, vN Y, vN Z, vS 0 A.length, vS 1 B.length, vS 2 C.length]), (23, .agg #[vN X, vN Y, vN Z, vS 4 A.length, vS 5 B.length, vS 6 C.length]), (24, vI 0)])) (H1 := [nR A, nR B, nR C, rB [vN X, vN Y, vN Z, vS 0 A.length, vS 1 B.length, vS 2 C.length] 24, nW A, nW B, nW C]) (by kernel_rfl) ?_
  refine rCall (v := .tuple #[.agg #[vN X, vN Y, vN Z, vS 7 RA.length, vS 8 RB.length, vS 9 RC.length], .bool true]) (args := [.agg #[vN X, vN Y, vN Z, vS 4 A.length, vS 5 B.length, vS 6 C.length], vI 0]) (by kernel_rfl) rfl (by kernel_rfl) (Sound.lay (E := [nW RA, nW RB, nW RC]) [4, 5, 6] (specMirrorShadow_0RRR X Y Z A B C RA RB RC (by first | assumption | omega | rfl | decide | exact HeapL.list _ _ _ _ | exact HeapL.nil _ _ _ | exact HeapL.all _ _ _ | (apply HeapL.lt64 <;> assumption) | (repeat' (first | assumption | apply or_lt64 | apply and_lt64 | apply andn_lt64 | apply pow_lt64 | (apply HeapL.lt64 <;> assumption)))) (by first | assumption | omega | rfl | decide | exact HeapL.list _ _ _ _ | exact HeapL.nil _ _ _ | exact HeapL.all _ _ _ | (apply HeapL.lt64 <;> assumption) | (repeat' (first | assumption | apply or_lt64 | apply and_lt64 | apply andn_lt64 | apply pow_lt64 | (apply HeapL.lt64 <;> assumption)))) (by first | assumption | omega | rfl | decide | exact HeapL.list _ _ _ _ | exact HeapL.nil _ _ _ | exact HeapL.all _ _ _ | (apply HeapL.lt64 <;> assumption) | (repeat' (first | assumption | apply or_lt64 | apply and_lt64 | apply andn_lt64 | apply pow_lt64 | (apply HeapL.lt64 <;> assumption)))) (by first | assumption | omega | rfl | decide | exact HeapL.list _ _ _ _ | exact HeapL.nil _ _ _ | exact HeapL.all _ _ _ | (apply HeapL.lt64 <;> assumption) | (repeat' (first | assumption | apply or_lt64 | apply and_lt64 | apply andn_lt64 | apply pow_lt64 | (apply HeapL.lt64 <;> assumption)))) (by first | assumption | omega | rfl | decide | exact HeapL.list _ _ _ _ | exact HeapL.nil _ _ _ | exact HeapL.all _ _ _ | (apply HeapL.lt64 <;> assumption) | (repeat' (first | assumption | apply or_lt64 | apply and_lt64 | apply andn_lt64 | apply pow_lt64 | (apply HeapL.lt64 <;> assumption))))) ⟨rdF true (flatNums _ _ _ _) rfl rfl, ⟨rdF true (flatNums _ _ _ _) rfl rfl, ⟨rdF true (flatNums _ _ _ _) rfl rfl, trivial⟩⟩⟩ rfl ⟨clF (flatNums _ _ _ _), ⟨clF (flatNums _ _ _ _), ⟨clF (flatNums _ _ _ _), trivial⟩⟩⟩ rfl (by first | rfl | simp [mpV, mpA, mpS, mpP, renId, shift]) (by first | rfl | simp [mpV, mpA, mpS, mpP, renId, shift]) ⟨enF (flatNums _ _ _ _) (Or.inl rfl), ⟨enF (flatNums _ _ _ _) (Or.inl rfl), ⟨enF (flatNums _ _ _ _) (Or.inl rfl), trivial⟩⟩⟩) ?_
  refine segEnd [1, 2, 6, 7] (T1 := (mkT 101 [(1, vI 0), (2, vP 3 0), (6, vP 10 0), (7, .bool true)])) (H1 := [nR A, nR B, nR C, rB [vN X, vN Y, vN Z, vS 0 A.length, vS 1 B.length, vS 2 C.length] 24, nW A, nW B, nW C, nW RA, nW RB, nW RC, rB [vN X, vN Y, vN Z, vS 7 RA.length, vS 8 RB.length, vS 9 RC.length] 27]) (by kernel_rfl) ?_
  refine kSeq ?_
  refine cSeq ?_
  refine cReg ?_
  refine segH 1 (T1 := (mkT 101 [(1, vI 0), (2, vP 3 0), (6, vP 10 0), (7, .bool true), (28, .agg #[vN X, vN Y, vN Z, vS 0 A.length, vS 1 B.length, vS 2 C.length])])) (by kernel_rfl) ?_
  refine rCall (v := .agg #[vN X, vN Y, vN Z, vS 11 A.length, vS 12 B.length, vS 13 C.length]) (args := [.agg #[vN X, vN Y, vN Z, vS 0 A.length, vS 1 B.length, vS 2 C.length]]) (by kernel_rfl) rfl (by kernel_rfl) (Sound.lay (E := [nW A, nW B, nW C]) [0, 1, 2] (toSh_sss ((X : Nat) : Int) ((Y : Nat) : Int) ((Z : Nat) : Int) A B C (by first | omega | assumption) (by first | omega | assumption) (by first | omega | assumption)) ⟨rdF false (flatNums _ _ _ _) rfl rfl, ⟨rdF false (flatNums _ _ _ _) rfl rfl, ⟨rdF false (flatNums _ _ _ _) rfl rfl, trivial⟩⟩⟩ rfl ⟨clF (flatNums _ _ _ _), ⟨clF (flatNums _ _ _ _), ⟨clF (flatNums _ _ _ _), trivial⟩⟩⟩ rfl (by first | rfl | simp [mpV, mpA, mpS, mpP, renId, shift]) (by first | rfl | simp [mpV, mpA, mpS, mpP, renId, shift]) ⟨enF (flatNums _ _ _ _) (Or.inl rfl), ⟨enF (flatNums _ _ _ _) (Or.inl rfl), ⟨enF (flatNums _ _ _ _) (Or.inl rfl), trivial⟩⟩⟩) ?_
  refine segEnd [1, 2, 6, 7, 8] (T1 := (mkT 101 [(1, vI 0), (2, vP 3 0), (6, vP 10 0), (7, .bool true), (8, vP 14 0)])) (H1 := [nR A, nR B, nR C, rB [vN X, vN Y, vN Z, vS 0 A.length, vS 1 B.length, vS 2 C.length] 24, nW A, nW B, nW C, nW RA, nW RB, nW RC, rB [vN X, vN Y, vN Z, vS 7 RA.length, vS 8 RB.length, vS 9 RC.length] 27, nW A, nW B, nW C, rB [vN X, vN Y, vN Z, vS 11 A.length, vS 12 B.length, vS 13 C.length] 27]) (by kernel_rfl) ?_
  refine kSeq ?_
  refine cSeq ?_
  refine cReg ?_
  refine segH 2 (T1 := (mkT 101 [(1, vI 0), (2, vP 3 0), (6, vP 10 0), (7, .bool true), (8, vP 14 0), (31, .agg #[vN X, vN Y, vN Z, vS 11 A.length, vS 12 B.length, vS 13 C.length]), (32, vI 0)])) (by kernel_rfl) ?_
  refine rCall (v := .tuple #[.agg #[vN X, vN Y, vN Z, vS 15 RA.length, vS 16 RB.length, vS 17 RC.length], .bool true]) (args := [.agg #[vN X, vN Y, vN Z, vS 11 A.length, vS 12 B.length, vS 13 C.length], vI 0]) (by kernel_rfl) rfl (by kernel_rfl) (Sound.lay (E := [nW RA, nW RB, nW RC]) [11, 12, 13] (implMirrorShadow_0RRR X Y Z A B C RA RB RC (by first | assumption | omega | rfl | decide | exact HeapL.list _ _ _ _ | exact HeapL.nil _ _ _ | exact HeapL.all _ _ _ | (apply HeapL.lt64 <;> assumption) | (repeat' (first | assumption | apply or_lt64 | apply and_lt64 | apply andn_lt64 | apply pow_lt64 | (apply HeapL.lt64 <;> assumption)))) (by first | assumption | omega | rfl | decide | exact HeapL.list _ _ _ _ | exact HeapL.nil _ _ _ | exact HeapL.all _ _ _ | (apply HeapL.lt64 <;> assumption) | (repeat' (first | assumption | apply or_lt64 | apply and_lt64 | apply andn_lt64 | apply pow_lt64 | (apply HeapL.lt64 <;> assumption)))) (by first | assumption | omega | rfl | decide | exact HeapL.list _ _ _ _ | exact HeapL.nil _ _ _ | exact HeapL.all _ _ _ | (apply HeapL.lt64 <;> assumption) | (repeat' (first | assumption | apply or_lt64 | apply and_lt64 | apply andn_lt64 | apply pow_lt64 | (apply HeapL.lt64 <;> assumption)))) (by first | assumption | omega | rfl | decide | exact HeapL.list _ _ _ _ | exact HeapL.nil _ _ _ | exact HeapL.all _ _ _ | (apply HeapL.lt64 <;> assumption) | (repeat' (first | assumption | apply or_lt64 | apply and_lt64 | apply andn_lt64 | apply pow_lt64 | (apply HeapL.lt64 <;> assumption)))) (by first | assumption | omega | rfl | decide | exact HeapL.list _ _ _ _ | exact HeapL.nil _ _ _ | exact HeapL.all _ _ _ | (apply HeapL.lt64 <;> assumption) | (repeat' (first | assumption | apply or_lt64 | apply and_lt64 | apply andn_lt64 | apply pow_lt64 | (apply HeapL.lt64 <;> assumption))))) ⟨rdF true (flatNums _ _ _ _) rfl rfl, ⟨rdF true (flatNums _ _ _ _) rfl rfl, ⟨rdF true (flatNums _ _ _ _) rfl rfl, trivial⟩⟩⟩ rfl ⟨clF (flatNums _ _ _ _), ⟨clF (flatNums _ _ _ _), ⟨clF (flatNums _ _ _ _), trivial⟩⟩⟩ rfl (by first | rfl | simp [mpV, mpA, mpS, mpP, renId, shift]) (by first | rfl | simp [mpV, mpA, mpS, mpP, renId, shift]) ⟨enF (flatNums _ _ _ _) (Or.inl rfl), ⟨enF (flatNums _ _ _ _) (Or.inl rfl), ⟨enF (flatNums _ _ _ _) (Or.inl rfl), trivial⟩⟩⟩) ?_
  refine segEnd [1, 2, 6, 7, 8, 9, 10] (T1 := (mkT 101 [(1, vI 0), (2, vP 3 0), (6, vP 10 0), (7, .bool true), (8, vP 14 0), (9, vP 18 0), (10, .bool true)])) (H1 := [nR A, nR B, nR C, rB [vN X, vN Y, vN Z, vS 0 A.length, vS 1 B.length, vS 2 C.length] 24, nW A, nW B, nW C, nW RA, nW RB, nW RC, rB [vN X, vN Y, vN Z, vS 7 RA.length, vS 8 RB.length, vS 9 RC.length] 27, nW A, nW B, nW C, rB [vN X, vN Y, vN Z, vS 11 A.length, vS 12 B.length, vS 13 C.length] 27, nW RA, nW RB, nW RC, rB [vN X, vN Y, vN Z, vS 15 RA.length, vS 16 RB.length, vS 17 RC.length] 27]) (by kernel_rfl) ?_
  refine kSeq ?_
  refine cSeq ?_
  refine cSeq ?_
  refine cReg ?_
  refine segH 2 (T1 := (mkT 101 [(1, vI 0), (2, vP 3 0), (6, vP 10 0), (7, .bool true), (8, vP 14 0), (9, vP 18 0), (10, .bool true), (36, .agg #[vN X, vN Y, vN Z, vS 15 RA.length, vS 16 RB.length, vS 17 RC.length]), (37, .agg #[vN X, vN Y, vN Z, vS 7 RA.length, vS 8 RB.length, vS 9 RC.length])])) (by kernel_rfl) ?_
  refine rCall (v := .bool true) (args := [.agg #[vN X, vN Y, vN Z, vS 15 RA.length, vS 16 RB.length, vS 17 RC.length], .agg #[vN X, vN Y, vN Z, vS 7 RA.length, vS 8 RB.length, vS 9 RC.length]]) (by kernel_rfl) rfl (by kernel_rfl) (Sound.lay0 [15, 16, 17, 7, 8, 9] (eqSh ((X : Nat) : Int) ((Y : Nat) : Int) ((Z : Nat) : Int) RA RB RC (by first | omega | assumption | (simp; done)) (by first | omega | assumption | (simp; done)) (by first | omega | assumption | (simp; done))) ⟨rdF true (flatNums _ _ _ _) rfl rfl, ⟨rdF true (flatNums _ _ _ _) rfl rfl, ⟨rdF true (flatNums _ _ _ _) rfl rfl, ⟨rdF true (flatNums _ _ _ _) rfl rfl, ⟨rdF true (flatNums _ _ _ _) rfl rfl, ⟨rdF true (flatNums _ _ _ _) rfl rfl, trivial⟩⟩⟩⟩⟩⟩ rfl ⟨clF (flatNums _ _ _ _), ⟨clF (flatNums _ _ _ _), ⟨clF (flatNums _ _ _ _), ⟨clF (flatNums _ _ _ _), ⟨clF (flatNums _ _ _ _), ⟨clF (flatNums _ _ _ _), trivial⟩⟩⟩⟩⟩⟩ rfl (by first | rfl | simp [mpV, mpA, mpS, mpP, renId, shift]) rfl) ?_
  refine segEndH [1, 2, 6, 7, 8, 9, 10, 44] (T1 := (mkT 101 [(1, vI 0), (2, vP 3 0), (6, vP 10 0), (7, .bool true), (8, vP 14 0), (9, vP 18 0), (10, .bool true), (44, .bool false)])) (by kernel_rfl) ?_
  refine kSeq ?_
  refine cFalse (by kernel_rfl) ?_
  refine cSkip ?_
  refine kSeq ?_
  refine cSeq ?_
  refine cSeq ?_
  refine cRegW (N := 22) [⟨[], [], [14]⟩, ⟨[], [], [3]⟩, ⟨[19, 20, 21], [], [0, 1, 2]⟩, ⟨[], [], [11, 12, 13, 19, 20, 21]⟩, ⟨[], [], []⟩] 3 [19, 20, 21] (by rfl) (by rfl) (by kernel_rfl) (by kernel_rfl) (by kernel_rfl) ⟨nmsF (flatNums _ _ _ _), ⟨nmsF (flatNums _ _ _ _), ⟨nmsF (flatNums _ _ _ _), ⟨nmsX (by kernel_rfl), ⟨nmsF (flatNums _ _ _ _), ⟨nmsF (flatNums _ _ _ _), ⟨nmsF (flatNums _ _ _ _), ⟨nmsF (flatNums _ _ _ _), ⟨nmsF (flatNums _ _ _ _), ⟨nmsF (flatNums _ _ _ _), ⟨nmsX (by kernel_rfl), ⟨nmsF (flatNums _ _ _ _), ⟨nmsF (flatNums _ _ _ _), ⟨nmsF (flatNums _ _ _ _), ⟨nmsX (by kernel_rfl), ⟨nmsF (flatNums _ _ _ _), ⟨nmsF (flatNums _ _ _ _), ⟨nmsF (flatNums _ _ _ _), ⟨nmsX (by kernel_rfl), trivial⟩⟩⟩⟩⟩⟩⟩⟩⟩⟩⟩⟩⟩⟩⟩⟩⟩⟩⟩ ?_
  refine segWH 2 (T1 := (mkT 101 [(1, vI 0), (2, vP 3 0), (6, vP 10 0), (7, .bool true), (8, vP 14 0), (9, vP 18 0), (10, .bool true), (44, .bool false), (45, .agg #[vN X, vN Y, vN Z, vS 11 A.length, vS 12 B.length, vS 13 C.length]), (46, .agg #[vN X, vN Y, vN Z, vS 0 A.length, vS 1 B.length, vS 2 C.length])])) (by kernel_rfl) ?_
  refine rW (m := ⟨[19, 20, 21], [], [0, 1, 2]⟩) (v := .agg #[vN X, vN Y, vN Z, vS 19 A.length, vS 20 B.length, vS 21 C.length]) rfl (by kernel_rfl) (stN (i := 19) (E := [nW A, nW B, nW C]) (v1 := .agg #[vN X, vN Y, vN Z, vS 22 A.length, vS 23 B.length, vS 24 C.length]) (args := [.agg #[vN X, vN Y, vN Z, vS 0 A.length, vS 1 B.length, vS 2 C.length]]) rfl (by kernel_rfl) (Any.lay (E := [nW A, nW B, nW C]) (N := 22) [0, 1, 2] (toSh_sss ((X : Nat) : Int) ((Y : Nat) : Int) ((Z : Nat) : Int) A B C (by first | omega | assumption) (by first | omega | assumption) (by first | omega | assumption)) ⟨rdF false (flatNums _ _ _ _) rfl rfl, ⟨rdF false (flatNums _ _ _ _) rfl rfl, ⟨rdF false (flatNums _ _ _ _) rfl rfl, trivial⟩⟩⟩ rfl ⟨clF (flatNums _ _ _ _), ⟨clF (flatNums _ _ _ _), ⟨clF (flatNums _ _ _ _), trivial⟩⟩⟩ rfl (by first | rfl | simp [mpV, mpA, mpS, mpP, renId, shift]) (by first | rfl | simp [mpV, mpA, mpS, mpP, renId, shift]) ⟨enF (flatNums _ _ _ _) (Or.inl rfl), ⟨enF (flatNums _ _ _ _) (Or.inl rfl), ⟨enF (flatNums _ _ _ _) (Or.inl rfl), trivial⟩⟩⟩) rfl (by kernel_rfl) (by kernel_rfl) (by kernel_rfl) (by kernel_rfl) (FlatH.cons (flatNums _ _ _ _) (FlatH.cons (flatNums _ _ _ _) (FlatH.cons (flatNums _ _ _ _) FlatH.nil)))) (by kernel_rfl) (NRs.all ⟨nrOf (by rfl) (nmF (flatNums _ _ _ _)), ⟨nrOf (by rfl) (nmF (flatNums _ _ _ _)), ⟨nrOf (by rfl) (nmF (flatNums _ _ _ _)), trivial⟩⟩⟩) ?_
  refine rW (m := ⟨[], [], [11, 12, 13, 19, 20, 21]⟩) (v := .bool true) rfl (by kernel_rfl) (stQ (args := [.agg #[vN X, vN Y, vN Z, vS 11 A.length, vS 12 B.length, vS 13 C.length], .agg #[vN X, vN Y, vN Z, vS 19 A.length, vS 20 B.length, vS 21 C.length]]) rfl (by kernel_rfl) (Any.lay0 [11, 12, 13, 19, 20, 21] (eqSh ((X : Nat) : Int) ((Y : Nat) : Int) ((Z : Nat) : Int) A B C (by first | omega | assumption | (simp; done)) (by first | omega | assumption | (simp; done)) (by first | omega | assumption | (simp; done))) ⟨rdF true (flatNums _ _ _ _) rfl rfl, ⟨rdF true (flatNums _ _ _ _) rfl rfl, ⟨rdF true (flatNums _ _ _ _) rfl rfl, ⟨rdF true (flatNums _ _ _ _) rfl rfl, ⟨rdF true (flatNums _ _ _ _) rfl rfl, ⟨rdF true (flatNums _ _ _ _) rfl rfl, trivial⟩⟩⟩⟩⟩⟩ rfl ⟨clF (flatNums _ _ _ _), ⟨clF (flatNums _ _ _ _), ⟨clF (flatNums _ _ _ _), ⟨clF (flatNums _ _ _ _), ⟨clF (flatNums _ _ _ _), ⟨clF (flatNums _ _ _ _), trivial⟩⟩⟩⟩⟩⟩ rfl (by first | rfl | simp [mpV, mpA, mpS, mpP, renId, shift]) rfl) rfl (by kernel_rfl) (by kernel_rfl)) (by kernel_rfl) nr0 ?_
  refine segEndW [1, 2, 6, 7, 8, 9, 10, 49] (T1 := (mkT 101 [(1, vI 0), (2, vP 3 0), (6, vP 10 0), (7, .bool true), (8, vP 14 0), (9, vP 18 0), (10, .bool true), (49, .bool false)])) (H1 := [nR A, nR B, nR C, rB [vN X, vN Y, vN Z, vS 0 A.length, vS 1 B.length, vS 2 C.length] 24, nW A, nW B, nW C, nW RA, nW RB, nW RC, rB [vN X, vN Y, vN Z, vS 7 RA.length, vS 8 RB.length, vS 9 RC.length] 27, nW A, nW B, nW C, rB [vN X, vN Y, vN Z, vS 11 A.length, vS 12 B.length, vS 13 C.length] 27, nW RA, nW RB, nW RC, rB [vN X, vN Y, vN Z, vS 15 RA.length, vS 16 RB.length, vS 17 RC.length] 27, nW A, nW B, nW C]) (by kernel_rfl) ?_
  refine kSeq ?_
  refine cFalse (by kernel_rfl) ?_
  refine cSkip ?_
  refine kSeq ?_
  refine cSeq ?_
  refine cReg ?_
  refine segEndH [1, 2, 6, 7, 8, 9, 10, 11] (T1 := (mkT 101 [(1, vI 0), (2, vP 3 0), (6, vP 10 0), (7, .bool true), (8, vP 14 0), (9, vP 18 0), (10, .bool true), (11, vI 1)])) (by kernel_rfl) ?_
  refine kSeq ?_
  refine cSeq ?_
  refine cReg ?_
  refine segH 2 (T1 := (mkT 101 [(1, vI 0), (2, vP 3 0), (6, vP 10 0), (7, .bool true), (8, vP 14 0), (9, vP 18 0), (10, .bool true), (11, vI 1), (50, .agg #[vN X, vN Y, vN Z, vS 11 A.length, vS 12 B.length, vS 13 C.length]), (51, vI 1)])) (by kernel_rfl) ?_
  refine rCall (v := vN (1 + A.length + B.length + C.length)) (args := [.agg #[vN X, vN Y, vN Z, vS 11 A.length, vS 12 B.length, vS 13 C.length], vI 1]) (by kernel_rfl) rfl (by kernel_rfl) (Sound.emb_set3 (r0 := ⟨nums A, 3, false, true⟩) (r1 := ⟨nums B, 3, false, true⟩) (r2 := ⟨nums C, 3, false, true⟩) (q0 := ⟨nums (mkI 1 A.length), 3, false, true⟩) (q1 := ⟨nums (mkI (1 + A.length) B.length), 3, false, true⟩) (q2 := ⟨nums (mkI (1 + A.length + B.length) C.length), 3, false, true⟩) 11 12 13 (markSh ((X : Nat) : Int) ((Y : Nat) : Int) ((Z : Nat) : Int) A B C 1 (by first | omega | assumption | (simp; done)) (by first | omega | assumption | (simp; done)) (by first | omega | assumption | (simp; done)) (by first | assumption | omega | rfl | decide | exact HeapL.list _ _ _ _ | exact HeapL.nil _ _ _ | exact HeapL.all _ _ _ | (apply HeapL.lt64 <;> assumption) | (repeat' (first | assumption | apply or_lt64 | apply and_lt64 | apply andn_lt64 | apply pow_lt64 | (apply HeapL.lt64 <;> assumption))))) ⟨⟨(flatNums _ _ _ _), rfl⟩, ⟨(flatNums _ _ _ _), rfl⟩, ⟨(flatNums _ _ _ _), rfl⟩⟩ ⟨⟨(flatNums _ _ _ _), rfl⟩, ⟨(flatNums _ _ _ _), rfl⟩, ⟨(flatNums _ _ _ _), rfl⟩⟩ rfl rfl rfl rfl rfl (by first | rfl | simp [mpV, mpA, mpS, mpP, renId, shift]) rfl) ?_
  refine segEnd [1, 2, 6, 7, 9, 10, 11] (T1 := (mkT 101 [(1, vI 0), (2, vP 3 0), (6, vP 10 0), (7, .bool true), (9, vP 18 0), (10, .bool true), (11, vN (1 + A.length + B.length + C.length))])) (H1 := [nR A, nR B, nR C, rB [vN X, vN Y, vN Z, vS 0 A.length, vS 1 B.length, vS 2 C.length] 24, nW A, nW B, nW C, nW RA, nW RB, nW RC, rB [vN X, vN Y, vN Z, vS 7 RA.length, vS 8 RB.length, vS 9 RC.length] 27, nW (mkI 1 A.length), nW (mkI (1 + A.length) B.length), nW (mkI (1 + A.length + B.length) C.length), rB [vN X, vN Y, vN Z, vS 11 A.length, vS 12 B.length, vS 13 C.length] 27, nW RA, nW RB, nW RC, rB [vN X, vN Y, vN Z, vS 15 RA.length, vS 16 RB.length, vS 17 RC.length] 27, nW A, nW B, nW C]) (by kernel_rfl) ?_
  refine kSeq ?_
  refine cSeq ?_
  refine cSeq ?_
  refine cReg ?_
  refine segH 3 (T1 := (mkT 101 [(1, vI 0), (2, vP 3 0), (6, vP 10 0), (7, .bool true), (9, vP 18 0), (10, .bool true), (11, vN (1 + A.length + B.length + C.length)), (53, vN (1 + A.length + B.length + C.length)), (54, .bool (decide (((1 + A.length + B.length + C.length : Nat) : Int) < 0))), (55, .bool (decide (((1 + A.length + B.length + C.length : Nat) : Int) < 0)))])) (by kernel_rfl) ?_
  cases h2 : (decide (((1 + A.length + B.length + C.length : Nat) : Int) < 0) : Bool)
  ·
   (try simp only [bs0, bs1, bs2, bs3, beq_iff_eq, bne_iff_ne, beq_eq_false_iff_ne, bne_eq_false_iff_eq, ne_eq, bs4, bs5, bs6, bs7, bs8, bs9, bs10, bs11, ge_iff_le, gt_iff_lt] at h2)
   refine seg 2 (T1 := (mkT 101 [(1, vI 0), (2, vP 3 0), (6, vP 10 0), (7, .bool true), (9, vP 18 0), (10, .bool true), (11, vN (1 + A.length + B.length + C.length)), (53, vN (1 + A.length + B.length + C.length)), (54, .bool false), (55, .bool false), (56, .agg #[vN X, vN Y, vN Z, vS 15 RA.length, vS 16 RB.length, vS 17 RC.length]), (57, .agg #[vN X, vN Y, vN Z, vS 7 RA.length, vS 8 RB.length, vS 9 RC.length])])) (H1 := [nR A, nR B, nR C, rB [vN X, vN Y, vN Z, vS 0 A.length, vS 1 B.length, vS 2 C.length] 24, nW A, nW B, nW C, nW RA, nW RB, nW RC, rB [vN X, vN Y, vN Z, vS 7 RA.length, vS 8 RB.length, vS 9 RC.length] 27, nW (mkI 1 A.length), nW (mkI (1 + A.length) B.length), nW (mkI (1 + A.length + B.length) C.length), rB [vN X, vN Y, vN Z, vS 11 A.length, vS 12 B.length, vS 13 C.length] 27, nW RA, nW RB, nW RC, rB [vN X, vN Y, vN Z, vS 15 RA.length, vS 16 RB.length, vS 17 RC.length] 27, nW A, nW B, nW C]) (by kernel_rfl) ?_
   refine rCall (v := .bool true) (args := [.agg #[vN X, vN Y, vN Z, vS 15 RA.length, vS 16 RB.length, vS 17 RC.length], .agg #[vN X, vN Y, vN Z, vS 7 RA.length, vS 8 RB.length, vS 9 RC.length]]) (by kernel_rfl) rfl (by kernel_rfl) (Sound.lay0 [15, 16, 17, 7, 8, 9] (eqSh ((X : Nat) : Int) ((Y : Nat) : Int) ((Z : Nat) : Int) RA RB RC (by first | omega | assumption | (simp; done)) (by first | omega | assumption | (simp; done)) (by first | omega | assumption | (simp; done))) ⟨rdF true (flatNums _ _ _ _) rfl rfl, ⟨rdF true (flatNums _ _ _ _) rfl rfl, ⟨rdF true (flatNums _ _ _ _) rfl rfl, ⟨rdF true (flatNums _ _ _ _) rfl rfl, ⟨rdF true (flatNums _ _ _ _) rfl rfl, ⟨rdF true (flatNums _ _ _ _) rfl rfl, trivial⟩⟩⟩⟩⟩⟩ rfl ⟨clF (flatNums _ _ _ _), ⟨clF (flatNums _ _ _ _), ⟨clF (flatNums _ _ _ _), ⟨clF (flatNums _ _ _ _), ⟨clF (flatNums _ _ _ _), ⟨clF (flatNums _ _ _ _), trivial⟩⟩⟩⟩⟩⟩ rfl (by first | rfl | simp [mpV, mpA, mpS, mpP, renId, shift]) rfl) ?_
   refine segEnd [1, 2, 6, 7, 9, 65] (T1 := (mkT 101 [(1, vI 0), (2, vP 3 0), (6, vP 10 0), (7, .bool true), (9, vP 18 0), (65, .bool false)])) (H1 := [nR A, nR B, nR C, rB [vN X, vN Y, vN Z, vS 0 A.length, vS 1 B.length, vS 2 C.length] 24, nW A, nW B, nW C, nW RA, nW RB, nW RC, rB [vN X, vN Y, vN Z, vS 7 RA.length, vS 8 RB.length, vS 9 RC.length] 27, nW (mkI 1 A.length), nW (mkI (1 + A.length) B.length), nW (mkI (1 + A.length + B.length) C.length), rB [vN X, vN Y, vN Z, vS 11 A.length, vS 12 B.length, vS 13 C.length] 27, nW RA, nW RB, nW RC, rB [vN X, vN Y, vN Z, vS 15 RA.length, vS 16 RB.length, vS 17 RC.length] 27, nW A, nW B, nW C]) (by kernel_rfl) ?_
   refine kSeq ?_
   refine cFalse (by kernel_rfl) ?_
   refine cSkip ?_
   refine kSeq ?_
   refine cSeq ?_
   refine cReg ?_
   refine segEndH [1, 2, 6, 7, 9, 12] (T1 := (mkT 101 [(1, vI 0), (2, vP 3 0), (6, vP 10 0), (7, .bool true), (9, vP 18 0), (12, vI 1)])) (by kernel_rfl) ?_
   refine kSeq ?_
   refine cSeq ?_
   refine cReg ?_
   refine segH 2 (T1 := (mkT 101 [(1, vI 0), (2, vP 3 0), (6, vP 10 0), (7, .bool true), (9, vP 18 0), (12, vI 1), (66, .agg #[vN X, vN Y, vN Z, vS 15 RA.length, vS 16 RB.length, vS 17 RC.length]), (67, vI 1)])) (by kernel_rfl) ?_
   refine rCall (v := vN (1 + RA.length + RB.length + RC.length)) (args := [.agg #[vN X, vN Y, vN Z, vS 15 RA.length, vS 16 RB.length, vS 17 RC.length], vI 1]) (by kernel_rfl) rfl (by kernel_rfl) (Sound.emb_set3 (r0 := ⟨nums RA, 3, false, true⟩) (r1 := ⟨nums RB, 3, false, true⟩) (r2 := ⟨nums RC, 3, false, true⟩) (q0 := ⟨nums (mkI 1 RA.length), 3, false, true⟩) (q1 := ⟨nums (mkI (1 + RA.length) RB.length), 3, false, true⟩) (q2 := ⟨nums (mkI (1 + RA.length + RB.length) RC.length), 3, false, true⟩) 15 16 17 (markSh ((X : Nat) : Int) ((Y : Nat) : Int) ((Z : Nat) : Int) RA RB RC 1 (by first | omega | assumption | (simp; done)) (by first | omega | assumption | (simp; done)) (by first | omega | assumption | (simp; done)) (by first | assumption | omega | rfl | decide | exact HeapL.list _ _ _ _ | exact HeapL.nil _ _ _ | exact HeapL.all _ _ _ | (apply HeapL.lt64 <;> assumption) | (repeat' (first | assumption | apply or_lt64 | apply and_lt64 | apply andn_lt64 | apply pow_lt64 | (apply HeapL.lt64 <;> assumption))))) ⟨⟨(flatNums _ _ _ _), rfl⟩, ⟨(flatNums _ _ _ _), rfl⟩, ⟨(flatNums _ _ _ _), rfl⟩⟩ ⟨⟨(flatNums _ _ _ _), rfl⟩, ⟨(flatNums _ _ _ _), rfl⟩, ⟨(flatNums _ _ _ _), rfl⟩⟩ rfl rfl rfl rfl rfl (by first | rfl | simp [mpV, mpA, mpS, mpP, renId, shift]) rfl) ?_
   refine segEnd [1, 2, 6, 7, 9, 12] (T1 := (mkT 101 [(1, vI 0), (2, vP 3 0), (6, vP 10 0), (7, .bool true), (9, vP 18 0), (12, vN (1 + RA.length + RB.length + RC.length))])) (H1 := [nR A, nR B, nR C, rB [vN X, vN Y, vN Z, vS 0 A.length, vS 1 B.length, vS 2 C.length] 24, nW A, nW B, nW C, nW RA, nW RB, nW RC, rB [vN X, vN Y, vN Z, vS 7 RA.length, vS 8 RB.length, vS 9 RC.length] 27, nW (mkI 1 A.length), nW (mkI (1 + A.length) B.length), nW (mkI (1 + A.length + B.length) C.length), rB [vN X, vN Y, vN Z, vS 11 A.length, vS 12 B.length, vS 13 C.length] 27, nW (mkI 1 RA.length), nW (mkI (1 + RA.length) RB.length), nW (mkI (1 + RA.length + RB.length) RC.length), rB [vN X, vN Y, vN Z, vS 15 RA.length, vS 16 RB.length, vS 17 RC.length] 27, nW A, nW B, nW C]) (by kernel_rfl) ?_
   refine kSeq ?_
   refine cSeq ?_
   refine cReg ?_
   refine segEndH [1, 2, 6, 7, 9, 12, 13] (T1 := (mkT 101 [(1, vI 0), (2, vP 3 0), (6, vP 10 0), (7, .bool true), (9, vP 18 0), (12, vN (1 + RA.length + RB.length + RC.length)), (13, vI 1)])) (by kernel_rfl) ?_
   refine kSeq ?_
   refine cSeq ?_
   refine cReg ?_
   refine segH 2 (T1 := (mkT 101 [(1, vI 0), (2, vP 3 0), (6, vP 10 0), (7, .bool true), (9, vP 18 0), (12, vN (1 + RA.length + RB.length + RC.length)), (13, vI 1), (69, .agg #[vN X, vN Y, vN Z, vS 15 RA.length, vS 16 RB.length, vS 17 RC.length]), (70, vI 1)])) (by kernel_rfl) ?_
   refine rCall (v := vN (1 + RA.length + RB.length + RC.length)) (args := [.agg #[vN X, vN Y, vN Z, vS 15 RA.length, vS 16 RB.length, vS 17 RC.length], vI 1]) (by kernel_rfl) rfl (by kernel_rfl) (Sound.lay0 [15, 16, 17] (heldSh ((X : Nat) : Int) ((Y : Nat) : Int) ((Z : Nat) : Int) RA.length RB.length RC.length 1 (by omega) (by omega) (by omega) (by first | assumption | omega | rfl | decide | exact HeapL.list _ _ _ _ | exact HeapL.nil _ _ _ | exact HeapL.all _ _ _ | (apply HeapL.lt64 <;> assumption) | (repeat' (first | assumption | apply or_lt64 | apply and_lt64 | apply andn_lt64 | apply pow_lt64 | (apply HeapL.lt64 <;> assumption))))) ⟨rdF true (flatNums _ _ _ _) rfl rfl, ⟨rdF true (flatNums _ _ _ _) rfl rfl, ⟨rdF true (flatNums _ _ _ _) rfl rfl, trivial⟩⟩⟩ rfl ⟨clF (flatNums _ _ _ _), ⟨clF (flatNums _ _ _ _), ⟨clF (flatNums _ _ _ _), trivial⟩⟩⟩ rfl (by first | rfl | simp [mpV, mpA, mpS, mpP, renId, shift]) rfl) ?_
   refine segEndH [1, 2, 6, 7, 9, 12, 13] (T1 := (mkT 101 [(1, vI 0), (2, vP 3 0), (6, vP 10 0), (7, .bool true), (9, vP 18 0), (12, vN (1 + RA.length + RB.length + RC.length)), (13, vN (1 + RA.length + RB.length + RC.length))])) (by kernel_rfl) ?_
   refine kSeq ?_
   refine cSeq ?_
   refine cSeq ?_
   refine cReg ?_
   refine segEndH [1, 2, 6, 7, 9, 12, 13, 73] (T1 := (mkT 101 [(1, vI 0), (2, vP 3 0), (6, vP 10 0), (7, .bool true), (9, vP 18 0), (12, vN (1 + RA.length + RB.length + RC.length)), (13, vN (1 + RA.length + RB.length + RC.length)), (73, .bool (decide (((1 + RA.length + RB.length + RC.length : Nat) : Int) < 0)))])) (by kernel_rfl) ?_
   refine kSeq ?_
   cases h3 : (decide (((1 + RA.length + RB.length + RC.length : Nat) : Int) < 0) : Bool)
   ·
    (try simp only [bs0, bs1, bs2, bs3, beq_iff_eq, bne_iff_ne, beq_eq_false_iff_ne, bne_eq_false_iff_eq, ne_eq, bs4, bs5, bs6, bs7, bs8, bs9, bs10, bs11, ge_iff_le, gt_iff_lt] at h3)
    refine cFalse (by kernel_rfl) ?_
    refine cSkip ?_
    refine kSeq ?_
    refine cSeq ?_
    refine cSeq ?_
    refine cReg ?_
    refine segH 2 (T1 := (mkT 101 [(1, vI 0), (2, vP 3 0), (6, vP 10 0), (7, .bool true), (9, vP 18 0), (12, vN (1 + RA.length + RB.length + RC.length)), (13, vN (1 + RA.length + RB.length + RC.length)), (73, .bool false), (74, vN (1 + RA.length + RB.length + RC.length)), (75, vN (1 + RA.length + RB.length + RC.length))])) (by kernel_rfl) ?_
    refine rOp (v := .bool false) (by kernel_rfl) (eNeS (k := .i64) (a := ((1 + RA.length + RB.length + RC.length : Nat) : Int)) (by kernel_rfl) (by kernel_rfl)) ?_
    refine segEndH [1, 2, 6, 7, 9, 12, 76] (T1 := (mkT 101 [(1, vI 0), (2, vP 3 0), (6, vP 10 0), (7, .bool true), (9, vP 18 0), (12, vN (1 + RA.length + RB.length + RC.length)), (76, .bool false)])) (by kernel_rfl) ?_
    refine kSeq ?_
    refine cFalse (by kernel_rfl) ?_
    refine cSkip ?_
    refine kSeq ?_
    refine cSeq ?_
    refine cReg ?_
    refine segH 1 (T1 := (mkT 101 [(1, vI 0), (2, vP 3 0), (6, vP 10 0), (7, .bool true), (9, vP 18 0), (12, vN (1 + RA.length + RB.length + RC.length)), (76, .bool false), (78, .agg #[vN X, vN Y, vN Z, vS 0 A.length, vS 1 B.length, vS 2 C.length])])) (by kernel_rfl) ?_
    refine rCall (v := .agg #[vN X, vN Y, vN Z, vS 22 A.length, vS 23 B.length, vS 24 C.length]) (args := [.agg #[vN X, vN Y, vN Z, vS 0 A.length, vS 1 B.length, vS 2 C.length]]) (by kernel_rfl) rfl (by kernel_rfl) (Sound.lay (E := [nW A, nW B, nW C]) [0, 1, 2] (toSh_sss ((X : Nat) : Int) ((Y : Nat) : Int) ((Z : Nat) : Int) A B C (by first | omega | assumption) (by first | omega | assumption) (by first | omega | assumption)) ⟨rdF false (flatNums _ _ _ _) rfl rfl, ⟨rdF false (flatNums _ _ _ _) rfl rfl, ⟨rdF false (flatNums _ _ _ _) rfl rfl, trivial⟩⟩⟩ rfl ⟨clF (flatNums _ _ _ _), ⟨clF (flatNums _ _ _ _), ⟨clF (flatNums _ _ _ _), trivial⟩⟩⟩ rfl (by first | rfl | simp [mpV, mpA, mpS, mpP, renId, shift]) (by first | rfl | simp [mpV, mpA, mpS, mpP, renId, shift]) ⟨enF (flatNums _ _ _ _) (Or.inl rfl), ⟨enF (flatNums _ _ _ _) (Or.inl rfl), ⟨enF (flatNums _ _ _ _) (Or.inl rfl), trivial⟩⟩⟩) ?_
    refine seg 1 (T1 := (mkT 101 [(1, vI 0), (2, vP 3 0), (6, vP 10 0), (7, .bool true), (9, vP 18 0), (12, vN (1 + RA.length + RB.length + RC.length)), (76, .bool false), (78, .agg #[vN X, vN Y, vN Z, vS 0 A.length, vS 1 B.length, vS 2 C.length]), (79, .agg #[vN X, vN Y, vN Z, vS 22 A.length, vS 23 B.length, vS 24 C.length]), (80, vI 0)])) (H1 := [nR A, nR B, nR C, rB [vN X, vN Y, vN Z, vS 0 A.length, vS 1 B.length, vS 2 C.length] 24, nW A, nW B, nW C, nW RA, nW RB, nW RC, rB [vN X, vN Y, vN Z, vS 7 RA.length, vS 8 RB.length, vS 9 RC.length] 27, nW (mkI 1 A.length), nW (mkI (1 + A.length) B.length), nW (mkI (1 + A.length + B.length) C.length), rB [vN X, vN Y, vN Z, vS 11 A.length, vS 12 B.length, vS 13 C.length] 27, nW (mkI 1 RA.length), nW (mkI (1 + RA.length) RB.length), nW (mkI (1 + RA.length + RB.length) RC.length), rB [vN X, vN Y, vN Z, vS 15 RA.length, vS 16 RB.length, vS 17 RC.length] 27, nW A, nW B, nW C, nW A, nW B, nW C]) (by kernel_rfl) ?_
    refine rCall (v := .tuple #[.agg #[vN X, vN Y, vN Z, vS 25 RA.length, vS 26 RB.length, vS 27 RC.length], .bool true]) (args := [.agg #[vN X, vN Y, vN Z, vS 22 A.length, vS 23 B.length, vS 24 C.length], vI 0]) (by kernel_rfl) rfl (by kernel_rfl) (Sound.lay (E := [nW RA, nW RB, nW RC]) [22, 23, 24] (implMirrorShadow_0RRR X Y Z A B C RA RB RC (by first | assumption | omega | rfl | decide | exact HeapL.list _ _ _ _ | exact HeapL.nil _ _ _ | exact HeapL.all _ _ _ | (apply HeapL.lt64 <;> assumption) | (repeat' (first | assumption | apply or_lt64 | apply and_lt64 | apply andn_lt64 | apply pow_lt64 | (apply HeapL.lt64 <;> assumption)))) (by first | assumption | omega | rfl | decide | exact HeapL.list _ _ _ _ | exact HeapL.nil _ _ _ | exact HeapL.all _ _ _ | (apply HeapL.lt64 <;> assumption) | (repeat' (first | assumption | apply or_lt64 | apply and_lt64 | apply andn_lt64 | apply pow_lt64 | (apply HeapL.lt64 <;> assumption)))) (by first | assumption | omega | rfl | decide | exact HeapL.list _ _ _ _ | exact HeapL.nil _ _ _ | exact HeapL.all _ _ _ | (apply HeapL.lt64 <;> assumption) | (repeat' (first | assumption | apply or_lt64 | apply and_lt64 | apply andn_lt64 | apply pow_lt64 | (apply HeapL.lt64 <;> assumption)))) (by first | assumption | omega | rfl | decide | exact HeapL.list _ _ _ _ | exact HeapL.nil _ _ _ | exact HeapL.all _ _ _ | (apply HeapL.lt64 <;> assumption) | (repeat' (first | assumption | apply or_lt64 | apply and_lt64 | apply andn_lt64 | apply pow_lt64 | (apply HeapL.lt64 <;> assumption)))) (by first | assumption | omega | rfl | decide | exact HeapL.list _ _ _ _ | exact HeapL.nil _ _ _ | exact HeapL.all _ _ _ | (apply HeapL.lt64 <;> assumption) | (repeat' (first | assumption | apply or_lt64 | apply and_lt64 | apply andn_lt64 | apply pow_lt64 | (apply HeapL.lt64 <;> assumption))))) ⟨rdF true (flatNums _ _ _ _) rfl rfl, ⟨rdF true (flatNums _ _ _ _) rfl rfl, ⟨rdF true (flatNums _ _ _ _) rfl rfl, trivial⟩⟩⟩ rfl ⟨clF (flatNums _ _ _ _), ⟨clF (flatNums _ _ _ _), ⟨clF (flatNums _ _ _ _), trivial⟩⟩⟩ rfl (by first | rfl | simp [mpV, mpA, mpS, mpP, renId, shift]) (by first | rfl | simp [mpV, mpA, mpS, mpP, renId, shift]) ⟨enF (flatNums _ _ _ _) (Or.inl rfl), ⟨enF (flatNums _ _ _ _) (Or.inl rfl), ⟨enF (flatNums _ _ _ _) (Or.inl rfl), trivial⟩⟩⟩) ?_
    refine segEnd [6, 7, 9, 12, 14, 15] (T1 := (mkT 101 [(6, vP 10 0), (7, .bool true), (9, vP 18 0), (12, vN (1 + RA.length + RB.length + RC.length)), (14, vP 28 0), (15, .bool true)])) (H1 := [nR A, nR B, nR C, rB [vN X, vN Y, vN Z, vS 0 A.length, vS 1 B.length, vS 2 C.length] 24, nW A, nW B, nW C, nW RA, nW RB, nW RC, rB [vN X, vN Y, vN Z, vS 7 RA.length, vS 8 RB.length, vS 9 RC.length] 27, nW (mkI 1 A.length), nW (mkI (1 + A.length) B.length), nW (mkI (1 + A.length + B.length) C.length), rB [vN X, vN Y, vN Z, vS 11 A.length, vS 12 B.length, vS 13 C.length] 27, nW (mkI 1 RA.length), nW (mkI (1 + RA.length) RB.length), nW (mkI (1 + RA.length + RB.length) RC.length), rB [vN X, vN Y, vN Z, vS 15 RA.length, vS 16 RB.length, vS 17 RC.length] 27, nW A, nW B, nW C, nW A, nW B, nW C, nW RA, nW RB, nW RC, rB [vN X, vN Y, vN Z, vS 25 RA.length, vS 26 RB.length, vS 27 RC.length] 27]) (by kernel_rfl) ?_
    refine kSeq ?_
    refine cSeq ?_
    refine cSeq ?_
    refine cReg ?_
    refine segH 2 (T1 := (mkT 101 [(6, vP 10 0), (7, .bool true), (9, vP 18 0), (12, vN (1 + RA.length + RB.length + RC.length)), (14, vP 28 0), (15, .bool true), (84, .agg #[vN X, vN Y, vN Z, vS 25 RA.length, vS 26 RB.length, vS 27 RC.length]), (85, .agg #[vN X, vN Y, vN Z, vS 7 RA.length, vS 8 RB.length, vS 9 RC.length])])) (by kernel_rfl) ?_
    refine rCall (v := .bool true) (args := [.agg #[vN X, vN Y, vN Z, vS 25 RA.length, vS 26 RB.length, vS 27 RC.length], .agg #[vN X, vN Y, vN Z, vS 7 RA.length, vS 8 RB.length, vS 9 RC.length]]) (by kernel_rfl) rfl (by kernel_rfl) (Sound.lay0 [25, 26, 27, 7, 8, 9] (eqSh ((X : Nat) : Int) ((Y : Nat) : Int) ((Z : Nat) : Int) RA RB RC (by first | omega | assumption | (simp; done)) (by first | omega | assumption | (simp; done)) (by first | omega | assumption | (simp; done))) ⟨rdF true (flatNums _ _ _ _) rfl rfl, ⟨rdF true (flatNums _ _ _ _) rfl rfl, ⟨rdF true (flatNums _ _ _ _) rfl rfl, ⟨rdF true (flatNums _ _ _ _) rfl rfl, ⟨rdF true (flatNums _ _ _ _) rfl rfl, ⟨rdF true (flatNums _ _ _ _) rfl rfl, trivial⟩⟩⟩⟩⟩⟩ rfl ⟨clF (flatNums _ _ _ _), ⟨clF (flatNums _ _ _ _), ⟨clF (flatNums _ _ _ _), ⟨clF (flatNums _ _ _ _), ⟨clF (flatNums _ _ _ _), ⟨clF (flatNums _ _ _ _), trivial⟩⟩⟩⟩⟩⟩ rfl (by first | rfl | simp [mpV, mpA, mpS, mpP, renId, shift]) rfl) ?_
    refine segEndH [9, 12, 92] (T1 := (mkT 101 [(9, vP 18 0), (12, vN (1 + RA.length + RB.length + RC.length)), (92, .bool false)])) (by kernel_rfl) ?_
    refine kSeq ?_
    refine cFalse (by kernel_rfl) ?_
    refine cSkip ?_
    refine kSeq ?_
    refine cSeq ?_
    refine cReg ?_
    refine segEndH [9, 12, 13] (T1 := (mkT 101 [(9, vP 18 0), (12, vN (1 + RA.length + RB.length + RC.length)), (13, vI 1)])) (by kernel_rfl) ?_
    refine kSeq ?_
    refine cSeq ?_
    refine cReg ?_
    refine segH 2 (T1 := (mkT 101 [(9, vP 18 0), (12, vN (1 + RA.length + RB.length + RC.length)), (13, vI 1), (93, .agg #[vN X, vN Y, vN Z, vS 15 RA.length, vS 16 RB.length, vS 17 RC.length]), (94, vI 1)])) (by kernel_rfl) ?_
    refine rCall (v := vN (1 + RA.length + RB.length + RC.length)) (args := [.agg #[vN X, vN Y, vN Z, vS 15 RA.length, vS 16 RB.length, vS 17 RC.length], vI 1]) (by kernel_rfl) rfl (by kernel_rfl) (Sound.lay0 [15, 16, 17] (heldSh ((X : Nat) : Int) ((Y : Nat) : Int) ((Z : Nat) : Int) RA.length RB.length RC.length 1 (by omega) (by omega) (by omega) (by first | assumption | omega | rfl | decide | exact HeapL.list _ _ _ _ | exact HeapL.nil _ _ _ | exact HeapL.all _ _ _ | (apply HeapL.lt64 <;> assumption) | (repeat' (first | assumption | apply or_lt64 | apply and_lt64 | apply andn_lt64 | apply pow_lt64 | (apply HeapL.lt64 <;> assumption))))) ⟨rdF true (flatNums _ _ _ _) rfl rfl, ⟨rdF true (flatNums _ _ _ _) rfl rfl, ⟨rdF true (flatNums _ _ _ _) rfl rfl, trivial⟩⟩⟩ rfl ⟨clF (flatNums _ _ _ _), ⟨clF (flatNums _ _ _ _), ⟨clF (flatNums _ _ _ _), trivial⟩⟩⟩ rfl (by first | rfl | simp [mpV, mpA, mpS, mpP, renId, shift]) rfl) ?_
    refine segEndH [12, 13] (T1 := (mkT 101 [(12, vN (1 + RA.length + RB.length + RC.length)), (13, vN (1 + RA.length + RB.length + RC.length))])) (by kernel_rfl) ?_
    refine kSeq ?_
    refine cSeq ?_
    refine cSeq ?_
    refine cReg ?_
    refine segEndH [12, 13, 97] (T1 := (mkT 101 [(12, vN (1 + RA.length + RB.length + RC.length)), (13, vN (1 + RA.length + RB.length + RC.length)), (97, .bool (decide (((1 + RA.length + RB.length + RC.length : Nat) : Int) < 0)))])) (by kernel_rfl) ?_
    refine kSeq ?_
    cases h4 : (decide (((1 + RA.length + RB.length + RC.length : Nat) : Int) < 0) : Bool)
    ·
     (try simp only [bs0, bs1, bs2, bs3, beq_iff_eq, bne_iff_ne, beq_eq_false_iff_ne, bne_eq_false_iff_eq, ne_eq, bs4, bs5, bs6, bs7, bs8, bs9, bs10, bs11, ge_iff_le, gt_iff_lt] at h4)
     refine cFalse (by kernel_rfl) ?_
     refine cSkip ?_
     refine kSeq ?_
     refine cSeq ?_
     refine cSeq ?_
     refine cReg ?_
     refine segH 2 (T1 := (mkT 101 [(12, vN (1 + RA.length + RB.length + RC.length)), (13, vN (1 + RA.length + RB.length + RC.length)), (97, .bool false), (98, vN (1 + RA.length + RB.length + RC.length)), (99, vN (1 + RA.length + RB.length + RC.length))])) (by kernel_rfl) ?_
     refine rOp (v := .bool false) (by kernel_rfl) (eNeS (k := .i64) (a := ((1 + RA.length + RB.length + RC.length : Nat) : Int)) (by kernel_rfl) (by kernel_rfl)) ?_
     refine segEndH [100] (T1 := (mkT 101 [(100, .bool false)])) (by kernel_rfl) ?_
     refine kSeq ?_
     refine cFalse (by kernel_rfl) ?_
     refine cSkip ?_
     refine kSeq ?_
     refine cSeq ?_
     refine cReg ?_
     refine segEndH [4] (T1 := (mkT 101 [(4, .bool true)])) (by kernel_rfl) ?_
     refine kSeq ?_
     refine cRet ?_
     exact endQ (Or.inr rfl) (l := [.bool true]) [rB [vN X, vN Y, vN Z, vS 0 A.length, vS 1 B.length, vS 2 C.length] 24, nW A, nW B, nW C, nW RA, nW RB, nW RC, rB [vN X, vN Y, vN Z, vS 7 RA.length, vS 8 RB.length, vS 9 RC.length] 27, nW (mkI 1 A.length), nW (mkI (1 + A.length) B.length), nW (mkI (1 + A.length + B.length) C.length), rB [vN X, vN Y, vN Z, vS 11 A.length, vS 12 B.length, vS 13 C.length] 27, nW (mkI 1 RA.length), nW (mkI (1 + RA.length) RB.length), nW (mkI (1 + RA.length + RB.length) RC.length), rB [vN X, vN Y, vN Z, vS 15 RA.length, vS 16 RB.length, vS 17 RC.length] 27, nW A, nW B, nW C, nW A, nW B, nW C, nW RA, nW RB, nW RC, rB [vN X, vN Y, vN Z, vS 25 RA.length, vS 26 RB.length, vS 27 RC.length] 27] (by kernel_rfl) (by first | rfl | kernel_rfl) rfl rfl hcl rfl
    ·
     (try simp only [bs0, bs1, bs2, bs3, beq_iff_eq, bne_iff_ne, beq_eq_false_iff_ne, bne_eq_false_iff_eq, ne_eq, bs4, bs5, bs6, bs7, bs8, bs9, bs10, bs11, ge_iff_le, gt_iff_lt] at h4)
     exfalso; omega
   ·
    (try simp only [bs0, bs1, bs2, bs3, beq_iff_eq, bne_iff_ne, beq_eq_false_iff_ne, bne_eq_false_iff_eq, ne_eq, bs4, bs5, bs6, bs7, bs8, bs9, bs10, bs11, ge_iff_le, gt_iff_lt] at h3)
    exfalso; omega
  ·
   (try simp only [bs0, bs1, bs2, bs3, beq_iff_eq, bne_iff_ne, beq_eq_false_iff_ne, bne_eq_false_iff_eq, ne_eq, bs4, bs5, bs6, bs7, bs8, bs9, bs10, bs11, ge_iff_le, gt_iff_lt] at h2)
   exfalso; omega
 ·
  (try simp only [bs0, bs1, bs2, bs3, beq_iff_eq, bne_iff_ne, beq_eq_false_iff_ne, bne_eq_false_iff_eq, ne_eq, bs4, bs5, bs6, bs7, bs8, bs9, bs10, bs11, ge_iff_le, gt_iff_lt] at h1)
  exfalso; omega
end Go.Proofs.Ytbheeobnghlckaa
set_option linter.unusedVariables false
set_option linter.unusedSimpArgs false
namespace Go.Proofs.Ytbheeobnghlckaa
open Go.Am Go.RowKit
set_option maxRecDepth 100000 in
set_option maxHeartbeats 4000000 in
theorem lawMirrorShadow_d1_sss (X : Nat) (Y : Nat) (Z : Nat) (A : List Int) (B : List Int) (C : List Int) (RA : List Int) (RB : List Int) (RC : List Int) (hl : A.length + B.length + C.length ≤ 1048576) (hs : Sides X Y Z) (hq : shadB X Y Z A B C = true) (hRRA : RA = mirE 2 1 X Y Z A) (hRRB : RB = mirE 1 1 X Y Z B) (hRRC : RC = mirE 0 1 X Y Z C) : Sound Try.prog 12 [.agg #[vN X, vN Y, vN Z, vS 0 A.length, vS 1 B.length, vS 2 C.length], vI 1] [nR A, nR B, nR C] (.bool true) [nR A, nR B, nR C] := by
 refine sound_intro (C := cx) Try.func12 rfl (by kernel_rfl) fun hcl => ?_
 have hz := hs.size
 have hx0 := hs.x0
 have hx4 := hs.x4
 have hy0 := hs.y0
 have hy4 := hs.y4
 have hz0 := hs.z0
 have hz4 := hs.z4
 have hxy : X * Y ≤ 4 * 4 := Nat.mul_le_mul (by omega) (by omega)
 have hxz : X * Z ≤ 4 * 4 := Nat.mul_le_mul (by omega) (by omega)
 have hyz : Y * Z ≤ 4 * 4 := Nat.mul_le_mul (by omega) (by omega)
 have hrA : RA.length ≤ 16 := by (rw [hRRA, mirE_length]; simp only [nlN]; omega)
 have hrB : RB.length ≤ 16 := by (rw [hRRB, mirE_length]; simp only [nlN]; omega)
 have hrC : RC.length ≤ 16 := by (rw [hRRC, mirE_length]; simp only [nlN]; omega)
 refine cSeq ?_
 refine cReg ?_
 refine segEnd [1, 2] (T1 := (mkT 101 [(1, vI 1), (2, vP 3 0)])) (H1 := [nR A, nR B, nR C, rB [vN X, vN Y, vN Z, vS 0 A.length, vS 1 B.length, vS 2 C.length] 24]) (by kernel_rfl) ?_
 refine kSeq ?_
 refine cSeq ?_
 refine cReg ?_
 refine segEndH [1, 2, 5] (T1 := (mkT 101 [(1, vI 1), (2, vP 3 0), (5, vI 1048576)])) (by kernel_rfl) ?_
 refine kSeq ?_
 refine cSeq ?_
 refine cReg ?_
 refine segH 2 (T1 := (mkT 101 [(1, vI 1), (2, vP 3 0), (5, vI 1048576), (16, .agg #[vN X, vN Y, vN Z, vS 0 A.length, vS 1 B.length, vS 2 C.length]), (17, vI 1048576)])) (by kernel_rfl) ?_
 refine rCall (v := vN (1048576 - A.length - B.length - C.length)) (args := [.agg #[vN X, vN Y, vN Z, vS 0 A.length, vS 1 B.length, vS 2 C.length], vI 1048576]) (by kernel_rfl) rfl (by kernel_rfl) (Sound.lay0 [0, 1, 2] (szSh_sss ((X : Nat) : Int) ((Y : Nat) : Int) ((Z : Nat) : Int) A B C 1048576 (by first | omega | assumption | (simp; done) | (simp; omega)) (by first | omega | assumption | decide)) ⟨rdF false (flatNums _ _ _ _) rfl rfl, ⟨rdF false (flatNums _ _ _ _) rfl rfl, ⟨rdF false (flatNums _ _ _ _) rfl rfl, trivial⟩⟩⟩ rfl ⟨clF (flatNums _ _ _ _), ⟨clF (flatNums _ _ _ _), ⟨clF (flatNums _ _ _ _), trivial⟩⟩⟩ rfl (by first | rfl | simp [mpV, mpA, mpS, mpP, renId, shift]) rfl) ?_
 refine segEndH [1, 2, 5] (T1 := (mkT 101 [(1, vI 1), (2, vP 3 0), (5, vN (1048576 - A.length - B.length - C.length))])) (by kernel_rfl) ?_
 refine kSeq ?_
 refine cSeq ?_
 refine cSeq ?_
 refine cReg ?_
 refine segEndH [1, 2, 20] (T1 := (mkT 101 [(1, vI 1), (2, vP 3 0), (20, .bool (decide (((1048576 - A.length - B.length - C.length : Nat) : Int) < 0)))])) (by kernel_rfl) ?_
 refine kSeq ?_
 cases h1 : (decide (((1048576 - A.length - B.length - C.length : Nat) : Int) < 0) : Bool)
 ·
  (try simp only [bs0, bs1, bs2, bs3, beq_iff_eq, bne_iff_ne, beq_eq_false_iff_ne, bne_eq_false_iff_eq, ne_eq, bs4, bs5, bs6, bs7, bs8, bs9, bs10, bs11, ge_iff_le, gt_iff_lt] at h1)
  refine cFalse (by kernel_rfl) ?_
  refine cSkip ?_
  refine kSeq ?_
  refine cSeq ?_
  refine cReg ?_
  refine segH 1 (T1 := (mkT 101 [(1, vI 1), (2, vP 3 0), (20, .bool false), (22, .agg #[vN X, vN Y, vN Z, vS 0 A.length, vS 1 B.length, vS 2 C.length])])) (by kernel_rfl) ?_
  refine rCall (v := .agg #[vN X, vN Y, vN Z, vS 4 A.length, vS 5 B.length, vS 6 C.length]) (args := [.agg #[vN X, vN Y, vN Z, vS 0 A.length, vS 1 B.length, vS 2 C.length]]) (by kernel_rfl) rfl (by kernel_rfl) (Sound.lay (E := [nW A, nW B, nW C]) [0, 1, 2] (toSh_sss ((X : Nat) : Int) ((Y : Nat) : Int) ((Z : Nat) : Int) A B C (by first | omega | assumption) (by first | omega | assumption) (by first | omega | assumption)) ⟨rdF false (flatNums _ _ _ _) rfl rfl, ⟨rdF false (flatNums _ _ _ _) rfl rfl, ⟨rdF false (flatNums _ _ _ _) rfl rfl, trivial⟩⟩⟩ rfl ⟨clF (flatNums _ _ _ _), ⟨clF (flatNums _ _ _ _), ⟨clF (flatNums _ _ _ _), trivial⟩⟩⟩ rfl (by first | rfl | simp [mpV, mpA, mpS, mpP, renId, shift]) (by first | rfl | simp [mpV, mpA, mpS, mpP, renId, shift]) ⟨enF (flatNums _ _ _ _) (Or.inl rfl), ⟨enF (flatNums _ _ _ _) (Or.inl rfl), ⟨enF (flatNums _ _ _ _) (Or.inl rfl), trivial⟩⟩⟩) ?_
  refine seg 1 (T1 := (mkT 101 [(1, vI 1), (2, vP 3 0), (20, .bool false), (22, .agg #[vN X, vN Y, vN Z, vS 0 A.length, vS 1 B.length, vS 2 C.length]), (23, .agg #[vN X, vN Y, vN Z, vS 4 A.length, vS 5 B.length, vS 6 C.length]), (24, vI 1)])) (H1 := [nR A, nR B, nR C, rB [vN X, vN Y, vN Z, vS 0 A.length, vS 1 B.length, vS 2 C.length] 24, nW A, nW B, nW C]) (by kernel_rfl) ?_
  refine rCall (v := .tuple #[.agg #[vN X, vN Y, vN Z, vS 7 RA.length, vS 8 RB.length, vS 9 RC.length], .bool true]) (args := [.agg #[vN X, vN Y, vN Z, vS 4 A.length, vS 5 B.length, vS 6 C.length], vI 1]) (by kernel_rfl) rfl (by kernel_rfl) (Sound.lay (E := [nW RA, nW RB, nW RC]) [4, 5, 6] (specMirrorShadow_1RRR X Y Z A B C RA RB RC (by first | assumption | omega | rfl | decide | exact HeapL.list _ _ _ _ | exact HeapL.nil _ _ _ | exact HeapL.all _ _ _ | (apply HeapL.lt64 <;> assumption) | (repeat' (first | assumption | apply or_lt64 | apply and_lt64 | apply andn_lt64 | apply pow_lt64 | (apply HeapL.lt64 <;> assumption)))) (by first | assumption | omega | rfl | decide | exact HeapL.list _ _ _ _ | exact HeapL.nil _ _ _ | exact HeapL.all _ _ _ | (apply HeapL.lt64 <;> assumption) | (repeat' (first | assumption | apply or_lt64 | apply and_lt64 | apply andn_lt64 | apply pow_lt64 | (apply HeapL.lt64 <;> assumption)))) (by first | assumption | omega | rfl | decide | exact HeapL.list _ _ _ _ | exact HeapL.nil _ _ _ | exact HeapL.all _ _ _ | (apply HeapL.lt64 <;> assumption) | (repeat' (first | assumption | apply or_lt64 | apply and_lt64 | apply andn_lt64 | apply pow_lt64 | (apply HeapL.lt64 <;> assumption)))) (by first | assumption | omega | rfl | decide | exact HeapL.list _ _ _ _ | exact HeapL.nil _ _ _ | exact HeapL.all _ _ _ | (apply HeapL.lt64 <;> assumption) | (repeat' (first | assumption | apply or_lt64 | apply and_lt64 | apply andn_lt64 | apply pow_lt64 | (apply HeapL.lt64 <;> assumption)))) (by first | assumption | omega | rfl | decide | exact HeapL.list _ _ _ _ | exact HeapL.nil _ _ _ | exact HeapL.all _ _ _ | (apply HeapL.lt64 <;> assumption) | (repeat' (first | assumption | apply or_lt64 | apply and_lt64 | apply andn_lt64 | apply pow_lt64 | (apply HeapL.lt64 <;> assumption))))) ⟨rdF true (flatNums _ _ _ _) rfl rfl, ⟨rdF true (flatNums _ _ _ _) rfl rfl, ⟨rdF true (flatNums _ _ _ _) rfl rfl, trivial⟩⟩⟩ rfl ⟨clF (flatNums _ _ _ _), ⟨clF (flatNums _ _ _ _), ⟨clF (flatNums _ _ _ _), trivial⟩⟩⟩ rfl (by first | rfl | simp [mpV, mpA, mpS, mpP, renId, shift]) (by first | rfl | simp [mpV, mpA, mpS, mpP, renId, shift]) ⟨enF (flatNums _ _ _ _) (Or.inl rfl), ⟨enF (flatNums _ _ _ _) (Or.inl rfl), ⟨enF (flatNums _ _ _ _) (Or.inl rfl), trivial⟩⟩⟩) ?_
  refine segEnd [1, 2, 6, 7] (T1 := (mkT 101 [(1, vI 1), (2, vP 3 0), (6, vP 10 0), (7, .bool true)])) (H1 := [nR A, nR B, nR C, rB [vN X, vN Y, vN Z, vS 0 A.length, vS 1 B.length, vS 2 C.length] 24, nW A, nW B, nW C, nW RA, nW RB, nW RC, rB [vN X, vN Y, vN Z, vS 7 RA.length, vS 8 RB.length, vS 9 RC.length] 27]) (by kernel_rfl) ?_
  refine kSeq ?_
  refine cSeq ?_
  refine cReg ?_
  refine segH 1 (T1 := (mkT 101 [(1, vI 1), (2, vP 3 0), (6, vP 10 0), (7, .bool true), (28, .agg #[vN X, vN Y, vN Z, vS 0 A.length, vS 1 B.length, vS 2 C.length])])) (by kernel_rfl) ?_
  refine rCall (v := .agg #[vN X, vN Y, vN Z, vS 11 A.length, vS 12 B.length, vS 13 C.length]) (args := [.agg #[vN X, vN Y, vN Z, vS 0 A.length, vS 1 B.length, vS 2 C.length]]) (by kernel_rfl) rfl (by kernel_rfl) (Sound.lay (E := [nW A, nW B, nW C]) [0, 1, 2] (toSh_sss ((X : Nat) : Int) ((Y : Nat) : Int) ((Z : Nat) : Int) A B C (by first | omega | assumption) (by first | omega | assumption) (by first | omega | assumption)) ⟨rdF false (flatNums _ _ _ _) rfl rfl, ⟨rdF false (flatNums _ _ _ _) rfl rfl, ⟨rdF false (flatNums _ _ _ _) rfl rfl, trivial⟩⟩⟩ rfl ⟨clF (flatNums _ _ _ _), ⟨clF (flatNums _ _ _ _), ⟨clF (flatNums _ _ _ _), trivial⟩⟩⟩ rfl (by first | rfl | simp [mpV, mpA, mpS, mpP, renId, shift]) (by first | rfl | simp [mpV, mpA, mpS, mpP, renId, shift]) ⟨enF (flatNums _ _ _ _) (Or.inl rfl), ⟨enF (flatNums _ _ _ _) (Or.inl rfl), ⟨enF (flatNums _ _ _ _) (Or.inl rfl), trivial⟩⟩⟩) ?_
  refine segEnd [1, 2, 6, 7, 8] (T1 := (mkT 101 [(1, vI 1), (2, vP 3 0), (6, vP 10 0), (7, .bool true), (8, vP 14 0)])) (H1 := [nR A, nR B, nR C, rB [vN X, vN Y, vN Z, vS 0 A.length, vS 1 B.length, vS 2 C.length] 24, nW A, nW B, nW C, nW RA, nW RB, nW RC, rB [vN X, vN Y, vN Z, vS 7 RA.length, vS 8 RB.length, vS 9 RC.length] 27, nW A, nW B, nW C, rB [vN X, vN Y, vN Z, vS 11 A.length, vS 12 B.length, vS 13 C.length] 27]) (by kernel_rfl) ?_
  refine kSeq ?_
  refine cSeq ?_
  refine cReg ?_
  refine segH 2 (T1 := (mkT 101 [(1, vI 1), (2, vP 3 0), (6, vP 10 0), (7, .bool true), (8, vP 14 0), (31, .agg #[vN X, vN Y, vN Z, vS 11 A.length, vS 12 B.length, vS 13 C.length]), (32, vI 1)])) (by kernel_rfl) ?_
  refine rCall (v := .tuple #[.agg #[vN X, vN Y, vN Z, vS 15 RA.length, vS 16 RB.length, vS 17 RC.length], .bool true]) (args := [.agg #[vN X, vN Y, vN Z, vS 11 A.length, vS 12 B.length, vS 13 C.length], vI 1]) (by kernel_rfl) rfl (by kernel_rfl) (Sound.lay (E := [nW RA, nW RB, nW RC]) [11, 12, 13] (implMirrorShadow_1RRR X Y Z A B C RA RB RC (by first | assumption | omega | rfl | decide | exact HeapL.list _ _ _ _ | exact HeapL.nil _ _ _ | exact HeapL.all _ _ _ | (apply HeapL.lt64 <;> assumption) | (repeat' (first | assumption | apply or_lt64 | apply and_lt64 | apply andn_lt64 | apply pow_lt64 | (apply HeapL.lt64 <;> assumption)))) (by first | assumption | omega | rfl | decide | exact HeapL.list _ _ _ _ | exact HeapL.nil _ _ _ | exact HeapL.all _ _ _ | (apply HeapL.lt64 <;> assumption) | (repeat' (first | assumption | apply or_lt64 | apply and_lt64 | apply andn_lt64 | apply pow_lt64 | (apply HeapL.lt64 <;> assumption)))) (by first | assumption | omega | rfl | decide | exact HeapL.list _ _ _ _ | exact HeapL.nil _ _ _ | exact HeapL.all _ _ _ | (apply HeapL.lt64 <;> assumption) | (repeat' (first | assumption | apply or_lt64 | apply and_lt64 | apply andn_lt64 | apply pow_lt64 | (apply HeapL.lt64 <;> assumption)))) (by first | assumption | omega | rfl | decide | exact HeapL.list _ _ _ _ | exact HeapL.nil _ _ _ | exact HeapL.all _ _ _ | (apply HeapL.lt64 <;> assumption) | (repeat' (first | assumption | apply or_lt64 | apply and_lt64 | apply andn_lt64 | apply pow_lt64 | (apply HeapL.lt64 <;> assumption)))) (by first | assumption | omega | rfl | decide | exact HeapL.list _ _ _ _ | exact HeapL.nil _ _ _ | exact HeapL.all _ _ _ | (apply HeapL.lt64 <;> assumption) | (repeat' (first | assumption | apply or_lt64 | apply and_lt64 | apply andn_lt64 | apply pow_lt64 | (apply HeapL.lt64 <;> assumption))))) ⟨rdF true (flatNums _ _ _ _) rfl rfl, ⟨rdF true (flatNums _ _ _ _) rfl rfl, ⟨rdF true (flatNums _ _ _ _) rfl rfl, trivial⟩⟩⟩ rfl ⟨clF (flatNums _ _ _ _), ⟨clF (flatNums _ _ _ _), ⟨clF (flatNums _ _ _ _), trivial⟩⟩⟩ rfl (by first | rfl | simp [mpV, mpA, mpS, mpP, renId, shift]) (by first | rfl | simp [mpV, mpA, mpS, mpP, renId, shift]) ⟨enF (flatNums _ _ _ _) (Or.inl rfl), ⟨enF (flatNums _ _ _ _) (Or.inl rfl), ⟨enF (flatNums _ _ _ _) (Or.inl rfl), trivial⟩⟩⟩) ?_
  refine segEnd [1, 2, 6, 7, 8, 9, 10] (T1 := (mkT 101 [(1, vI 1), (2, vP 3 0), (6, vP 10 0), (7, .bool true), (8, vP 14 0), (9, vP 18 0), (10, .bool true)])) (H1 := [nR A, nR B, nR C, rB [vN X, vN Y, vN Z, vS 0 A.length, vS 1 B.length, vS 2 C.length] 24, nW A, nW B, nW C, nW RA, nW RB, nW RC, rB [vN X, vN Y, vN Z, vS 7 RA.length, vS 8 RB.length, vS 9 RC.length] 27, nW A, nW B, nW C, rB [vN X, vN Y, vN Z, vS 11 A.length, vS 12 B.length, vS 13 C.length] 27, nW RA, nW RB, nW RC, rB [vN X, vN Y, vN Z, vS 15 RA.length, vS 16 RB.length, vS 17 RC.length] 27]) (by kernel_rfl) ?_
  refine kSeq ?_
  refine cSeq ?_
  refine cSeq ?_
  refine cReg ?_
  refine segH 2 (T1 := (mkT 101 [(1, vI 1), (2, vP 3 0), (6, vP 10 0), (7, .bool true), (8, vP 14 0), (9, vP 18 0), (10, .bool true), (36, .agg #[vN X, vN Y, vN Z, vS 15 RA.length, vS 16 RB.length, vS 17 RC.length]), (37, .agg #[vN X, vN Y, vN Z, vS 7 RA.length, vS 8 RB.length, vS 9 RC.length])])) (by kernel_rfl) ?_
  refine rCall (v := .bool true) (args := [.agg #[vN X, vN Y, vN Z, vS 15 RA.length, vS 16 RB.length, vS 17 RC.length], .agg #[vN X, vN Y, vN Z, vS 7 RA.length, vS 8 RB.length, vS 9 RC.length]]) (by kernel_rfl) rfl (by kernel_rfl) (Sound.lay0 [15, 16, 17, 7, 8, 9] (eqSh ((X : Nat) : Int) ((Y : Nat) : Int) ((Z : Nat) : Int) RA RB RC (by first | omega | assumption | (simp; done)) (by first | omega | assumption | (simp; done)) (by first | omega | assumption | (simp; done))) ⟨rdF true (flatNums _ _ _ _) rfl rfl, ⟨rdF true (flatNums _ _ _ _) rfl rfl, ⟨rdF true (flatNums _ _ _ _) rfl rfl, ⟨rdF true (flatNums _ _ _ _) rfl rfl, ⟨rdF true (flatNums _ _ _ _) rfl rfl, ⟨rdF true (flatNums _ _ _ _) rfl rfl, trivial⟩⟩⟩⟩⟩⟩ rfl ⟨clF (flatNums _ _ _ _), ⟨clF (flatNums _ _ _ _), ⟨clF (flatNums _ _ _ _), ⟨clF (flatNums _ _ _ _), ⟨clF (flatNums _ _ _ _), ⟨clF (flatNums _ _ _ _), trivial⟩⟩⟩⟩⟩⟩ rfl (by first | rfl | simp [mpV, mpA, mpS, mpP, renId, shift]) rfl) ?_
  refine segEndH [1, 2, 6, 7, 8, 9, 10, 44] (T1 := (mkT 101 [(1, vI 1), (2, vP 3 0), (6, vP 10 0), (7, .bool true), (8, vP 14 0), (9, vP 18 0), (10, .bool true), (44, .bool false)])) (by kernel_rfl) ?_
  refine kSeq ?_
  refine cFalse (by kernel_rfl) ?_
  refine cSkip ?_
  refine kSeq ?_
  refine cSeq ?_
  refine cSeq ?_
  refine cRegW (N := 22) [⟨[], [], [14]⟩, ⟨[], [], [3]⟩, ⟨[19, 20, 21], [], [0, 1, 2]⟩, ⟨[], [], [11, 12, 13, 19, 20, 21]⟩, ⟨[], [], []⟩] 3 [19, 20, 21] (by rfl) (by rfl) (by kernel_rfl) (by kernel_rfl) (by kernel_rfl) ⟨nmsF (flatNums _ _ _ _), ⟨nmsF (flatNums _ _ _ _), ⟨nmsF (flatNums _ _ _ _), ⟨nmsX (by kernel_rfl), ⟨nmsF (flatNums _ _ _ _), ⟨nmsF (flatNums _ _ _ _), ⟨nmsF (flatNums _ _ _ _), ⟨nmsF (flatNums _ _ _ _), ⟨nmsF (flatNums _ _ _ _), ⟨nmsF (flatNums _ _ _ _), ⟨nmsX (by kernel_rfl), ⟨nmsF (flatNums _ _ _ _), ⟨nmsF (flatNums _ _ _ _), ⟨nmsF (flatNums _ _ _ _), ⟨nmsX (by kernel_rfl), ⟨nmsF (flatNums _ _ _ _), ⟨nmsF (flatNums _ _ _ _), ⟨nmsF (flatNums _ _ _ _), ⟨nmsX (by kernel_rfl), trivial⟩⟩⟩⟩⟩⟩⟩⟩⟩⟩⟩⟩⟩⟩⟩⟩⟩⟩⟩ ?_
  refine segWH 2 (T1 := (mkT 101 [(1, vI 1), (2, vP 3 0), (6, vP 10 0), (7, .bool true), (8, vP 14 0), (9, vP 18 0), (10, .bool true), (44, .bool false), (45, .agg #[vN X, vN Y, vN Z, vS 11 A.length, vS 12 B.length, vS 13 C.length]), (46, .agg #[vN X, vN Y, vN Z, vS 0 A.length, vS 1 B.length, vS 2 C.length])])) (by kernel_rfl) ?_
  refine rW (m := ⟨[19, 20, 21], [], [0, 1, 2]⟩) (v := .agg #[vN X, vN Y, vN Z, vS 19 A.length, vS 20 B.length, vS 21 C.length]) rfl (by kernel_rfl) (stN (i := 19) (E := [nW A, nW B, nW C]) (v1 := .agg #[vN X, vN Y, vN Z, vS 22 A.length, vS 23 B.length, vS 24 C.length]) (args := [.agg #[vN X, vN Y, vN Z, vS 0 A.length, vS 1 B.length, vS 2 C.length]]) rfl (by kernel_rfl) (Any.lay (E := [nW A, nW B, nW C]) (N := 22) [0, 1, 2] (toSh_sss ((X : Nat) : Int) ((Y : Nat) : Int) ((Z : Nat) : Int) A B C (by first | omega | assumption) (by first | omega | assumption) (by first | omega | assumption)) ⟨rdF false (flatNums _ _ _ _) rfl rfl, ⟨rdF false (flatNums _ _ _ _) rfl rfl, ⟨rdF false (flatNums _ _ _ _) rfl rfl, trivial⟩⟩⟩ rfl ⟨clF (flatNums _ _ _ _), ⟨clF (flatNums _ _ _ _), ⟨clF (flatNums _ _ _ _), trivial⟩⟩⟩ rfl (by first | rfl | simp [mpV, mpA, mpS, mpP, renId, shift]) (by first | rfl | simp [mpV, mpA, mpS, mpP, renId, shift]) ⟨enF (flatNums _ _ _ _) (Or.inl rfl), ⟨enF (flatNums _ _ _ _) (Or.inl rfl), ⟨enF (flatNums _ _ _ _) (Or.inl rfl), trivial⟩⟩⟩) rfl (by kernel_rfl) (by kernel_rfl) (by kernel_rfl) (by kernel_rfl) (FlatH.cons (flatNums _ _ _ _) (FlatH.cons (flatNums _ _ _ _) (FlatH.cons (flatNums _ _ _ _) FlatH.nil)))) (by kernel_rfl) (NRs.all ⟨nrOf (by rfl) (nmF (flatNums _ _ _ _)), ⟨nrOf (by rfl) (nmF (flatNums _ _ _ _)), ⟨nrOf (by rfl) (nmF (flatNums _ _ _ _)), trivial⟩⟩⟩) ?_
  refine rW (m := ⟨[], [], [11, 12, 13, 19, 20, 21]⟩) (v := .bool true) rfl (by kernel_rfl) (stQ (args := [.agg #[vN X, vN Y, vN Z, vS 11 A.length, vS 12 B.length, vS 13 C.length], .agg #[vN X, vN Y, vN Z, vS 19 A.length, vS 20 B.length, vS 21 C.length]]) rfl (by kernel_rfl) (Any.lay0 [11, 12, 13, 19, 20, 21] (eqSh ((X : Nat) : Int) ((Y : Nat) : Int) ((Z : Nat) : Int) A B C (by first | omega | assumption | (simp; done)) (by first | omega | assumption | (simp; done)) (by first | omega | assumption | (simp; done))) ⟨rdF true (flatNums _ _ _ _) rfl rfl, ⟨rdF true (flatNums _ _ _ _) rfl rfl, ⟨rdF true (flatNums _ _ _ _) rfl rfl, ⟨rdF true (flatNums _ _ _ _) rfl rfl, ⟨rdF true (flatNums _ _ _ _) rfl rfl, ⟨rdF true (flatNums _ _ _ _) rfl rfl, trivial⟩⟩⟩⟩⟩⟩ rfl ⟨clF (flatNums _ _ _ _), ⟨clF (flatNums _ _ _ _), ⟨clF (flatNums _ _ _ _), ⟨clF (flatNums _ _ _ _), ⟨clF (flatNums _ _ _ _), ⟨clF (flatNums _ _ _ _), trivial⟩⟩⟩⟩⟩⟩ rfl (by first | rfl | simp [mpV, mpA, mpS, mpP, renId, shift]) rfl) rfl (by kernel_rfl) (by kernel_rfl)) (by kernel_rfl) nr0 ?_
  refine segEndW [1, 2, 6, 7, 8, 9, 10, 49] (T1 := (mkT 101 [(1, vI 1), (2, vP 3 0), (6, vP 10 0), (7, .bool true), (8, vP 14 0), (9, vP 18 0), (10, .bool true), (49, .bool false)])) (H1 := [nR A, nR B, nR C, rB [vN X, vN Y, vN Z, vS 0 A.length, vS 1 B.length, vS 2 C.length] 24, nW A, nW B, nW C, nW RA, nW RB, nW RC, rB [vN X, vN Y, vN Z, vS 7 RA.length, vS 8 RB.length, vS 9 RC.length] 27, nW A, nW B, nW C, rB [vN X, vN Y, vN Z, vS 11 A.length, vS 12 B.length, vS 13 C.length] 27, nW RA, nW RB, nW RC, rB [vN X, vN Y, vN Z, vS 15 RA.length, vS 16 RB.length, vS 17 RC.length] 27, nW A, nW B, nW C]) (by kernel_rfl) ?_
  refine kSeq ?_
  refine cFalse (by kernel_rfl) ?_
  refine cSkip ?_
  refine kSeq ?_
  refine cSeq ?_
  refine cReg ?_
  refine segEndH [1, 2, 6, 7, 8, 9, 10, 11] (T1 := (mkT 101 [(1, vI 1), (2, vP 3 0), (6, vP 10 0), (7, .bool true), (8, vP 14 0), (9, vP 18 0), (10, .bool true), (11, vI 1)])) (by kernel_rfl) ?_
  refine kSeq ?_
  refine cSeq ?_
  refine cReg ?_
  refine segH 2 (T1 := (mkT 101 [(1, vI 1), (2, vP 3 0), (6, vP 10 0), (7, .bool true), (8, vP 14 0), (9, vP 18 0), (10, .bool true), (11, vI 1), (50, .agg #[vN X, vN Y, vN Z, vS 11 A.length, vS 12 B.length, vS 13 C.length]), (51, vI 1)])) (by kernel_rfl) ?_
  refine rCall (v := vN (1 + A.length + B.length + C.length)) (args := [.agg #[vN X, vN Y, vN Z, vS 11 A.length, vS 12 B.length, vS 13 C.length], vI 1]) (by kernel_rfl) rfl (by kernel_rfl) (Sound.emb_set3 (r0 := ⟨nums A, 3, false, true⟩) (r1 := ⟨nums B, 3, false, true⟩) (r2 := ⟨nums C, 3, false, true⟩) (q0 := ⟨nums (mkI 1 A.length), 3, false, true⟩) (q1 := ⟨nums (mkI (1 + A.length) B.length), 3, false, true⟩) (q2 := ⟨nums (mkI (1 + A.length + B.length) C.length), 3, false, true⟩) 11 12 13 (markSh ((X : Nat) : Int) ((Y : Nat) : Int) ((Z : Nat) : Int) A B C 1 (by first | omega | assumption | (simp; done)) (by first | omega | assumption | (simp; done)) (by first | omega | assumption | (simp; done)) (by first | assumption | omega | rfl | decide | exact HeapL.list _ _ _ _ | exact HeapL.nil _ _ _ | exact HeapL.all _ _ _ | (apply HeapL.lt64 <;> assumption) | (repeat' (first | assumption | apply or_lt64 | apply and_lt64 | apply andn_lt64 | apply pow_lt64 | (apply HeapL.lt64 <;> assumption))))) ⟨⟨(flatNums _ _ _ _), rfl⟩, ⟨(flatNums _ _ _ _), rfl⟩, ⟨(flatNums _ _ _ _), rfl⟩⟩ ⟨⟨(flatNums _ _ _ _), rfl⟩, ⟨(flatNums _ _ _ _), rfl⟩, ⟨(flatNums _ _ _ _), rfl⟩⟩ rfl rfl rfl rfl rfl (by first | rfl | simp [mpV, mpA, mpS, mpP, renId, shift]) rfl) ?_
  refine segEnd [1, 2, 6, 7, 9, 10, 11] (T1 := (mkT 101 [(1, vI 1), (2, vP 3 0), (6, vP 10 0), (7, .bool true), (9, vP 18 0), (10, .bool true), (11, vN (1 + A.length + B.length + C.length))])) (H1 := [nR A, nR B, nR C, rB [vN X, vN Y, vN Z, vS 0 A.length, vS 1 B.length, vS 2 C.length] 24, nW A, nW B, nW C, nW RA, nW RB, nW RC, rB [vN X, vN Y, vN Z, vS 7 RA.length, vS 8 RB.length, vS 9 RC.length] 27, nW (mkI 1 A.length), nW (mkI (1 + A.length) B.length), nW (mkI (1 + A.length + B.length) C.length), rB [vN X, vN Y, vN Z, vS 11 A.length, vS 12 B.length, vS 13 C.length] 27, nW RA, nW RB, nW RC, rB [vN X, vN Y, vN Z, vS 15 RA.length, vS 16 RB.length, vS 17 RC.length] 27, nW A, nW B, nW C]) (by kernel_rfl) ?_
  refine kSeq ?_
  refine cSeq ?_
  refine cSeq ?_
  refine cReg ?_
  refine segH 3 (T1 := (mkT 101 [(1, vI 1), (2, vP 3 0), (6, vP 10 0), (7, .bool true), (9, vP 18 0), (10, .bool true), (11, vN (1 + A.length + B.length + C.length)), (53, vN (1 + A.length + B.length + C.length)), (54, .bool (decide (((1 + A.length + B.length + C.length : Nat) : Int) < 0))), (55, .bool (decide (((1 + A.length + B.length + C.length : Nat) : Int) < 0)))])) (by kernel_rfl) ?_
  cases h2 : (decide (((1 + A.length + B.length + C.length : Nat) : Int) < 0) : Bool)
  ·
   (try simp only [bs0, bs1, bs2, bs3, beq_iff_eq, bne_iff_ne, beq_eq_false_iff_ne, bne_eq_false_iff_eq, ne_eq, bs4, bs5, bs6, bs7, bs8, bs9, bs10, bs11, ge_iff_le, gt_iff_lt] at h2)
   refine seg 2 (T1 := (mkT 101 [(1, vI 1), (2, vP 3 0), (6, vP 10 0), (7, .bool true), (9, vP 18 0), (10, .bool true), (11, vN (1 + A.length + B.length + C.length)), (53, vN (1 + A.length + B.length + C.length)), (54, .bool false), (55, .bool false), (56, .agg #[vN X, vN Y, vN Z, vS 15 RA.length, vS 16 RB.length, vS 17 RC.length]), (57, .agg #[vN X, vN Y, vN Z, vS 7 RA.length, vS 8 RB.length, vS 9 RC.length])])) (H1 := [nR A, nR B, nR C, rB [vN X, vN Y, vN Z, vS 0 A.length, vS 1 B.length, vS 2 C.length] 24, nW A, nW B, nW C, nW RA, nW RB, nW RC, rB [vN X, vN Y, vN Z, vS 7 RA.length, vS 8 RB.length, vS 9 RC.length] 27, nW (mkI 1 A.length), nW (mkI (1 + A.length) B.length), nW (mkI (1 + A.length + B.length) C.length), rB [vN X, vN Y, vN Z, vS 11 A.length, vS 12 B.length, vS 13 C.length] 27, nW RA, nW RB, nW RC, rB [vN X, vN Y, vN Z, vS 15 RA.length, vS 16 RB.length, vS 17 RC.length] 27, nW A, nW B, nW C]) (by kernel_rfl) ?_
   refine rCall (v := .bool true) (args := [.agg #[vN X, vN Y, vN Z, vS 15 RA.length, vS 16 RB.length, vS 17 RC.length], .agg #[vN X, vN Y, vN Z, vS 7 RA.length, vS 8 RB.length, vS 9 RC.length]]) (by kernel_rfl) rfl (by kernel_rfl) (Sound.lay0 [15, 16, 17, 7, 8, 9] (eqSh ((X : Nat) : Int) ((Y : Nat) : Int) ((Z : Nat) : Int) RA RB RC (by first | omega | assumption | (simp; done)) (by first | omega | assumption | (simp; done)) (by first | omega | assumption | (simp; done))) ⟨rdF true (flatNums _ _ _ _) rfl rfl, ⟨rdF true (flatNums _ _ _ _) rfl rfl, ⟨rdF true (flatNums _ _ _ _) rfl rfl, ⟨rdF true (flatNums _ _ _ _) rfl rfl, ⟨rdF true (flatNums _ _ _ _) rfl rfl, ⟨rdF true (flatNums _ _ _ _) rfl rfl, trivial⟩⟩⟩⟩⟩⟩ rfl ⟨clF (flatNums _ _ _ _), ⟨clF (flatNums _ _ _ _), ⟨clF (flatNums _ _ _ _), ⟨clF (flatNums _ _ _ _), ⟨clF (flatNums _ _ _ _), ⟨clF (flatNums _ _ _ _), trivial⟩⟩⟩⟩⟩⟩ rfl (by first | rfl | simp [mpV, mpA, mpS, mpP, renId, shift]) rfl) ?_
   refine segEnd [1, 2, 6, 7, 9, 65] (T1 := (mkT 101 [(1, vI 1), (2, vP 3 0), (6, vP 10 0), (7, .bool true), (9, vP 18 0), (65, .bool false)])) (H1 := [nR A, nR B, nR C, rB [vN X, vN Y, vN Z, vS 0 A.length, vS 1 B.length, vS 2 C.length] 24, nW A, nW B, nW C, nW RA, nW RB, nW RC, rB [vN X, vN Y, vN Z, vS 7 RA.length, vS 8 RB.length, vS 9 RC.length] 27, nW (mkI 1 A.length), nW (mkI (1 + A.length) B.length), nW (mkI (1 + A.length + B.length) C.length), rB [vN X, vN Y, vN Z, vS 11 A.length, vS 12 B.length, vS 13 C.length] 27, nW RA, nW RB, nW RC, rB [vN X, vN Y, vN Z, vS 15 RA.length, vS 16 RB.length, vS 17 RC.length] 27, nW A, nW B, nW C]) (by kernel_rfl) ?_
   refine kSeq ?_
   refine cFalse (by kernel_rfl) ?_
   refine cSkip ?_
   refine kSeq ?_
   refine cSeq ?_
   refine cReg ?_
   refine segEndH [1, 2, 6, 7, 9, 12] (T1 := (mkT 101 [(1, vI 1), (2, vP 3 0), (6, vP 10 0), (7, .bool true), (9, vP 18 0), (12, vI 1)])) (by kernel_rfl) ?_
   refine kSeq ?_
   refine cSeq ?_
   refine cReg ?_
   refine segH 2 (T1 := (mkT 101 [(1, vI 1), (2, vP 3 0), (6, vP 10 0), (7, .bool true), (9, vP 18 0), (12, vI 1), (66, .agg #[vN X, vN Y, vN Z, vS 15 RA.length, vS 16 RB.length, vS 17 RC.length]), (67, vI 1)])) (by kernel_rfl) ?_
   refine rCall (v := vN (1 + RA.length + RB.length + RC.length)) (args := [.agg #[vN X, vN Y, vN Z, vS 15 RA.length, vS 16 RB.length, vS 17 RC.length], vI 1]) (by kernel_rfl) rfl (by kernel_rfl) (Sound.emb_set3 (r0 := ⟨nums RA, 3, false, true⟩) (r1 := ⟨nums RB, 3, false, true⟩) (r2 := ⟨nums RC, 3, false, true⟩) (q0 := ⟨nums (mkI 1 RA.length), 3, false, true⟩) (q1 := ⟨nums (mkI (1 + RA.length) RB.length), 3, false, true⟩) (q2 := ⟨nums (mkI (1 + RA.length + RB.length) RC.length), 3, false, true⟩) 15 16 17 (markSh ((X : Nat) : Int) ((Y : Nat) : Int) ((Z : Nat) : Int) RA RB RC 1 (by first | omega | assumption | (simp; done)) (by first | omega | assumption | (simp; done)) (by first | omega | assumption | (simp; done)) (by first | assumption | omega | rfl | decide | exact HeapL.list _ _ _ _ | exact HeapL.nil _ _ _ | exact HeapL.all _ _ _ | (apply HeapL.lt64 <;> assumption) | (repeat' (first | assumption | apply or_lt64 | apply and_lt64 | apply andn_lt64 | apply pow_lt64 | (apply HeapL.lt64 <;> assumption))))) ⟨⟨(flatNums _ _ _ _), rfl⟩, ⟨(flatNums _ _ _ _), rfl⟩, ⟨(flatNums _ _ _ _), rfl⟩⟩ ⟨⟨(flatNums _ _ _ _), rfl⟩, ⟨(flatNums _ _ _ _), rfl⟩, ⟨(flatNums _ _ _ _), rfl⟩⟩ rfl rfl rfl rfl rfl (by first | rfl | simp [mpV, mpA, mpS, mpP, renId, shift]) rfl) ?_
   refine segEnd [1, 2, 6, 7, 9, 12] (T1 := (mkT 101 [(1, vI 1), (2, vP 3 0), (6, vP 10 0), (7, .bool true), (9, vP 18 0), (12, vN (1 + RA.length + RB.length + RC.length))])) (H1 := [nR A, nR B, nR C, rB [vN X, vN Y, vN Z, vS 0 A.length, vS 1 B.length, vS 2 C.length] 24, nW A, nW B, nW C, nW RA, nW RB, nW RC, rB [vN X, vN Y, vN Z, vS 7 RA.length, vS 8 RB.length, vS 9 RC.length] 27, nW (mkI 1 A.length), nW (mkI (1 + A.length) B.length), nW (mkI (1 + A.length + B.length) C.length), rB [vN X, vN Y, vN Z, vS 11 A.length, vS 12 B.length, vS 13 C.length] 27, nW (mkI 1 RA.length), nW (mkI (1 + RA.length) RB.length), nW (mkI (1 + RA.length + RB.length) RC.length), rB [vN X, vN Y, vN Z, vS 15 RA.length, vS 16 RB.length, vS 17 RC.length] 27, nW A, nW B, nW C]) (by kernel_rfl) ?_
   refine kSeq ?_
   refine cSeq ?_
   refine cReg ?_
   refine segEndH [1, 2, 6, 7, 9, 12, 13] (T1 := (mkT 101 [(1, vI 1), (2, vP 3 0), (6, vP 10 0), (7, .bool true), (9, vP 18 0), (12, vN (1 + RA.length + RB.length + RC.length)), (13, vI 1)])) (by kernel_rfl) ?_
   refine kSeq ?_
   refine cSeq ?_
   refine cReg ?_
   refine segH 2 (T1 := (mkT 101 [(1, vI 1), (2, vP 3 0), (6, vP 10 0), (7, .bool true), (9, vP 18 0), (12, vN (1 + RA.length + RB.length + RC.length)), (13, vI 1), (69, .agg #[vN X, vN Y, vN Z, vS 15 RA.length, vS 16 RB.length, vS 17 RC.length]), (70, vI 1)])) (by kernel_rfl) ?_
   refine rCall (v := vN (1 + RA.length + RB.length + RC.length)) (args := [.agg #[vN X, vN Y, vN Z, vS 15 RA.length, vS 16 RB.length, vS 17 RC.length], vI 1]) (by kernel_rfl) rfl (by kernel_rfl) (Sound.lay0 [15, 16, 17] (heldSh ((X : Nat) : Int) ((Y : Nat) : Int) ((Z : Nat) : Int) RA.length RB.length RC.length 1 (by omega) (by omega) (by omega) (by first | assumption | omega | rfl | decide | exact HeapL.list _ _ _ _ | exact HeapL.nil _ _ _ | exact HeapL.all _ _ _ | (apply HeapL.lt64 <;> assumption) | (repeat' (first | assumption | apply or_lt64 | apply and_lt64 | apply andn_lt64 | apply pow_lt64 | (apply HeapL.lt64 <;> assumption))))) ⟨rdF true (flatNums _ _ _ _) rfl rfl, ⟨rdF true (flatNums _ _ _ _) rfl rfl, ⟨rdF true (flatNums _ _ _ _) rfl rfl, trivial⟩⟩⟩ rfl ⟨clF (flatNums _ _ _ _), ⟨clF (flatNums _ _ _ _), ⟨clF (flatNums _ _ _ _), trivial⟩⟩⟩ rfl (by first | rfl | simp [mpV, mpA, mpS, mpP, renId, shift]) rfl) ?_
   refine segEndH [1, 2, 6, 7, 9, 12, 13] (T1 := (mkT 101 [(1, vI 1), (2, vP 3 0), (6, vP 10 0), (7, .bool true), (9, vP 18 0), (12, vN (1 + RA.length + RB.length + RC.length)), (13, vN (1 + RA.length + RB.length + RC.length))])) (by kernel_rfl) ?_
   refine kSeq ?_
   refine cSeq ?_
   refine cSeq ?_
   refine cReg ?_
   refine segEndH [1, 2, 6, 7, 9, 12, 13, 73] (T1 := (mkT 101 [(1, vI 1), (2, vP 3 0), (6, vP 10 0), (7, .bool true), (9, vP 18 0), (12, vN (1 + RA.length + RB.length + RC.length)), (13, vN (1 + RA.length + RB.length + RC.length)), (73, .bool (decide (((1 + RA.length + RB.length + RC.length : Nat) : Int) < 0)))])) (by kernel_rfl) ?_
   refine kSeq ?_
   cases h3 : (decide (((1 + RA.length + RB.length + RC.length : Nat) : Int) < 0) : Bool)
   ·
    (try simp only [bs0, bs1, bs2, bs3, beq_iff_eq, bne_iff_ne, beq_eq_false_iff_ne, bne_eq_false_iff_eq, ne_eq, bs4, bs5, bs6, bs7, bs8, bs9, bs10, bs11, ge_iff_le, gt_iff_lt] at h3)
    refine cFalse (by kernel_rfl) ?_
    refine cSkip ?_
    refine kSeq ?_
    refine cSeq ?_
    refine cSeq ?_
    refine cReg ?_
    refine segH 2 (T1 := (mkT 101 [(1, vI 1), (2, vP 3 0), (6, vP 10 0), (7, .bool true), (9, vP 18 0), (12, vN (1 + RA.length + RB.length + RC.length)), (13, vN (1 + RA.length + RB.length + RC.length)), (73, .bool false), (74, vN (1 + RA.length + RB.length + RC.length)), (75, vN (1 + RA.length + RB.length + RC.length))])) (by kernel_rfl) ?_
    refine rOp (v := .bool false) (by kernel_rfl) (eNeS (k := .i64) (a := ((1 + RA.length + RB.length + RC.length : Nat) : Int)) (by kernel_rfl) (by kernel_rfl)) ?_
    refine segEndH [1, 2, 6, 7, 9, 12, 76] (T1 := (mkT 101 [(1, vI 1), (2, vP 3 0), (6, vP 10 0), (7, .bool true), (9, vP 18 0), (12, vN (1 + RA.length + RB.length + RC.length)), (76, .bool false)])) (by kernel_rfl) ?_
    refine kSeq ?_
    refine cFalse (by kernel_rfl) ?_
    refine cSkip ?_
    refine kSeq ?_
    refine cSeq ?_
    refine cReg ?_
    refine segH 1 (T1 := (mkT 101 [(1, vI 1), (2, vP 3 0), (6, vP 10 0), (7, .bool true), (9, vP 18 0), (12, vN (1 + RA.length + RB.length + RC.length)), (76, .bool false), (78, .agg #[vN X, vN Y, vN Z, vS 0 A.length, vS 1 B.length, vS 2 C.length])])) (by kernel_rfl) ?_
    refine rCall (v := .agg #[vN X, vN Y, vN Z, vS 22 A.length, vS 23 B.length, vS 24 C.length]) (args := [.agg #[vN X, vN Y, vN Z, vS 0 A.length, vS 1 B.length, vS 2 C.length]]) (by kernel_rfl) rfl (by kernel_rfl) (Sound.lay (E := [nW A, nW B, nW C]) [0, 1, 2] (toSh_sss ((X : Nat) : Int) ((Y : Nat) : Int) ((Z : Nat) : Int) A B C (by first | omega | assumption) (by first | omega | assumption) (by first | omega | assumption)) ⟨rdF false (flatNums _ _ _ _) rfl rfl, ⟨rdF false (flatNums _ _ _ _) rfl rfl, ⟨rdF false (flatNums _ _ _ _) rfl rfl, trivial⟩⟩⟩ rfl ⟨clF (flatNums _ _ _ _), ⟨clF (flatNums _ _ _ _), ⟨clF (flatNums _ _ _ _), trivial⟩⟩⟩ rfl (by first | rfl | simp [mpV, mpA, mpS, mpP, renId, shift]) (by first | rfl | simp [mpV, mpA, mpS, mpP, renId, shift]) ⟨enF (flatNums _ _ _ _) (Or.inl rfl), ⟨enF (flatNums _ _ _ _) (Or.inl rfl), ⟨enF (flatNums _ _ _ _) (Or.inl rfl), trivial⟩⟩⟩) ?_
    refine seg 1 (T1 := (mkT 101 [(1, vI 1), (2, vP 3 0), (6, vP 10 0), (7, .bool true), (9, vP 18 0), (12, vN (1 + RA.length + RB.length + RC.length)), (76, .bool false), (78, .agg #[vN X, vN Y, vN Z, vS 0 A.length, vS 1 B.length, vS 2 C.length]), (79, .agg #[vN X, vN Y, vN Z, vS 22 A.length, vS 23 B.length, vS 24 C.length]), (80, vI 1)])) (H1 := [nR A, nR B, nR C, rB [vN X, vN Y, vN Z, vS 0 A.length, vS 1 B.length, vS 2 C.length] 24, nW A, nW B, nW C, nW RA, nW RB, nW RC, rB [vN X, vN Y, vN Z, vS 7 RA.length, vS 8 RB.length, vS 9 RC.length] 27, nW (mkI 1 A.length), nW (mkI (1 + A.length) B.length), nW (mkI (1 + A.length + B.length) C.length), rB [vN X, vN Y, vN Z, vS 11 A.length, vS 12 B.length, vS 13 C.length] 27, nW (mkI 1 RA.length), nW (mkI (1 + RA.length) RB.length), nW (mkI (1 + RA.length + RB.length) RC.length), rB [vN X, vN Y, vN Z, vS 15 RA.length, vS 16 RB.length, vS 17 RC.length] 27, nW A, nW B, nW C, nW A, nW B, nW C]) (by kernel_rfl) ?_
    refine rCall (v := .tuple #[.agg #[vN X, vN Y, vN Z, vS 25 RA.length, vS 26 RB.length, vS 27 RC.length], .bool true]) (args := [.agg #[vN X, vN Y, vN Z, vS 22 A.length, vS 23 B.length, vS 24 C.length], vI 1]) (by kernel_rfl) rfl (by kernel_rfl) (Sound.lay (E := [nW RA, nW RB, nW RC]) [22, 23, 24] (implMirrorShadow_1RRR X Y Z A B C RA RB RC (by first | assumption | omega | rfl | decide | exact HeapL.list _ _ _ _ | exact HeapL.nil _ _ _ | exact HeapL.all _ _ _ | (apply HeapL.lt64 <;> assumption) | (repeat' (first | assumption | apply or_lt64 | apply and_lt64 | apply andn_lt64 | apply pow_lt64 | (apply HeapL.lt64 <;> assumption)))) (by first | assumption | omega | rfl | decide | exact HeapL.list _ _ _ _ | exact HeapL.nil _ _ _ | exact HeapL.all _ _ _ | (apply HeapL.lt64 <;> assumption) | (repeat' (first | assumption | apply or_lt64 | apply and_lt64 | apply andn_lt64 | apply pow_lt64 | (apply HeapL.lt64 <;> assumption)))) (by first | assumption | omega | rfl | decide | exact HeapL.list _ _ _ _ | exact HeapL.nil _ _ _ | exact HeapL.all _ _ _ | (apply HeapL.lt64 <;> assumption) | (repeat' (first | assumption | apply or_lt64 | apply and_lt64 | apply andn_lt64 | apply pow_lt64 | (apply HeapL.lt64 <;> assumption)))) (by first | assumption | omega | rfl | decide | exact HeapL.list _ _ _ _ | exact HeapL.nil _ _ _ | exact HeapL.all _ _ _ | (apply HeapL.lt64 <;> assumption) | (repeat' (first | assumption | apply or_lt64 | apply and_lt64 | apply andn_lt64 | apply pow_lt64 | (apply HeapL.lt64 <;> assumption)))) (by first | assumption | omega | rfl | decide | exact HeapL.list _ _ _ _ | exact HeapL.nil _ _ _ | exact HeapL.all _ _ _ | (apply HeapL.lt64 <;> assumption) | (repeat' (first | assumption | apply or_lt64 | apply and_lt64 | apply andn_lt64 | apply pow_lt64 | (apply HeapL.lt64 <;> assumption))))) ⟨rdF true (flatNums _ _ _ _) rfl rfl, ⟨rdF true (flatNums _ _ _ _) rfl rfl, ⟨rdF true (flatNums _ _ _ _) rfl rfl, trivial⟩⟩⟩ rfl ⟨clF (flatNums _ _ _ _), ⟨clF (flatNums _ _ _ _), ⟨clF (flatNums _ _ _ _), trivial⟩⟩⟩ rfl (by first | rfl | simp [mpV, mpA, mpS, mpP, renId, shift]) (by first | rfl | simp [mpV, mpA, mpS, mpP, renId, shift]) ⟨enF (flatNums _ _ _ _) (Or.inl rfl), ⟨enF (flatNums _ _ _ _) (Or.inl rfl), ⟨enF (flatNums _ _ _ _) (Or.inl rfl), trivial⟩⟩⟩) ?_
    refine segEnd [6, 7, 9, 12, 14, 15] (T1 := (mkT 101 [(6, vP 10 0), (7, .bool true), (9, vP 18 0), (12, vN (1 + RA.length + RB.length + RC.length)), (14, vP 28 0), (15, .bool true)])) (H1 := [nR A, nR B, nR C, rB [vN X, vN Y, vN Z, vS 0 A.length, vS 1 B.length, vS 2 C.length] 24, nW A, nW B, nW C, nW RA, nW RB, nW RC, rB [vN X, vN Y, vN Z, vS 7 RA.length, vS 8 RB.length, vS 9 RC.length] 27, nW (mkI 1 A.length), nW (mkI (1 + A.length) B.length), nW (mkI (1 + A.length + B.length) C.length), rB [vN X, vN Y, vN Z, vS 11 A.length, vS 12 B.length, vS 13 C.length] 27, nW (mkI 1 RA.length), nW (mkI (1 + RA.length) RB.length), nW (mkI (1 + RA.length + RB.length) RC.length), rB [vN X, vN Y, vN Z, vS 15 RA.length, vS 16 RB.length, vS 17 RC.length] 27, nW A, nW B, nW C, nW A, nW B, nW C, nW RA, nW RB, nW RC, rB [vN X, vN Y, vN Z, vS 25 RA.length, vS 26 RB.length, vS 27 RC.length] 27]) (by kernel_rfl) ?_
    refine kSeq ?_
    refine cSeq ?_
    refine cSeq ?_
    refine cReg ?_
    refine segH 2 (T1 := (mkT 101 [(6, vP 10 0), (7, .bool true), (9, vP 18 0), (12, vN (1 + RA.length + RB.length + RC.length)), (14, vP 28 0), (15, .bool true), (84, .agg #[vN X, vN Y, vN Z, vS 25 RA.length, vS 26 RB.length, vS 27 RC.length]), (85, .agg #[vN X, vN Y, vN Z, vS 7 RA.length, vS 8 RB.length, vS 9 RC.length])])) (by kernel_rfl) ?_
    refine rCall (v := .bool true) (args := [.agg #[vN X, vN Y, vN Z, vS 25 RA.length, vS 26 RB.length, vS 27 RC.length], .agg #[vN X, vN Y, vN Z, vS 7 RA.length, vS 8 RB.length, vS 9 RC.length]]) (by kernel_rfl) rfl (by kernel_rfl) (Sound.lay0 [25, 26, 27, 7, 8, 9] (eqSh ((X : Nat) : Int) ((Y : Nat) : Int) ((Z : Nat) : Int) RA RB RC (by first | omega | assumption | (simp; done)) (by first | omega | assumption | (simp; done)) (by first | omega | assumption | (simp; done))) ⟨rdF true (flatNums _ _ _ _) rfl rfl, ⟨rdF true (flatNums _ _ _ _) rfl rfl, ⟨rdF true (flatNums _ _ _ _) rfl rfl, ⟨rdF true (flatNums _ _ _ _) rfl rfl, ⟨rdF true (flatNums _ _ _ _) rfl rfl, ⟨rdF true (flatNums _ _ _ _) rfl rfl, trivial⟩⟩⟩⟩⟩⟩ rfl ⟨clF (flatNums _ _ _ _), ⟨clF (flatNums _ _ _ _), ⟨clF (flatNums _ _ _ _), ⟨clF (flatNums _ _ _ _), ⟨clF (flatNums _ _ _ _), ⟨clF (flatNums _ _ _ _), trivial⟩⟩⟩⟩⟩⟩ rfl (by first | rfl | simp [mpV, mpA, mpS, mpP, renId, shift]) rfl) ?_
    refine segEndH [9, 12, 92] (T1 := (mkT 101 [(9, vP 18 0), (12, vN (1 + RA.length + RB.length + RC.length)), (92, .bool false)])) (by kernel_rfl) ?_
    refine kSeq ?_
    refine cFalse (by kernel_rfl) ?_
    refine cSkip ?_
    refine kSeq ?_
    refine cSeq ?_
    refine cReg ?_
    refine segEndH [9, 12, 13] (T1 := (mkT 101 [(9, vP 18 0), (12, vN (1 + RA.length + RB.length + RC.length)), (13, vI 1)])) (by kernel_rfl) ?_
    refine kSeq ?_
    refine cSeq ?_
    refine cReg ?_
    refine segH 2 (T1 := (mkT 101 [(9, vP 18 0), (12, vN (1 + RA.length + RB.length + RC.length)), (13, vI 1), (93, .agg #[vN X, vN Y, vN Z, vS 15 RA.length, vS 16 RB.length, vS 17 RC.length]), (94, vI 1)])) (by kernel_rfl) ?_
    refine rCall (v := vN (1 + RA.length + RB.length + RC.length)) (args := [.agg #[vN X, vN Y, vN Z, vS 15 RA.length, vS 16 RB.length, vS 17 RC.length], vI 1]) (by kernel_rfl) rfl (by kernel_rfl) (Sound.lay0 [15, 16, 17] (heldSh ((X : Nat) : Int) ((Y : Nat) : Int) ((Z : Nat) : Int) RA.length RB.length RC.length 1 (by omega) (by omega) (by omega) (by first | assumption | omega | rfl | decide | exact HeapL.list _ _ _ _ | exact HeapL.nil _ _ _ | exact HeapL.all _ _ _ | (apply HeapL.lt64 <;> assumption) | (repeat' (first | assumption | apply or_lt64 | apply and_lt64 | apply andn_lt64 | apply pow_lt64 | (apply HeapL.lt64 <;> assumption))))) ⟨rdF true (flatNums _ _ _ _) rfl rfl, ⟨rdF true (flatNums _ _ _ _) rfl rfl, ⟨rdF true (flatNums _ _ _ _) rfl rfl, trivial⟩⟩⟩ rfl ⟨clF (flatNums _ _ _ _), ⟨clF (flatNums _ _ _ _), ⟨clF (flatNums _ _ _ _), trivial⟩⟩⟩ rfl (by first | rfl | simp [mpV, mpA, mpS, mpP, renId, shift]) rfl) ?_
    refine segEndH [12, 13] (T1 := (mkT 101 [(12, vN (1 + RA.length + RB.length + RC.length)), (13, vN (1 + RA.length + RB.length + RC.length))])) (by kernel_rfl) ?_
    refine kSeq ?_
    refine cSeq ?_
    refine cSeq ?_
    refine cReg ?_
    refine segEndH [12, 13, 97] (T1 := (mkT 101 [(12, vN (1 + RA.length + RB.length + RC.length)), (13, vN (1 + RA.length + RB.length + RC.length)), (97, .bool (decide (((1 + RA.length + RB.length + RC.length : Nat) : Int) < 0)))])) (by kernel_rfl) ?_
    refine kSeq ?_
    cases h4 : (decide (((1 + RA.length + RB.length + RC.length : Nat) : Int) < 0) : Bool)
    ·
     (try simp only [bs0, bs1, bs2, bs3, beq_iff_eq, bne_iff_ne, beq_eq_false_iff_ne, bne_eq_false_iff_eq, ne_eq, bs4, bs5, bs6, bs7, bs8, bs9, bs10, bs11, ge_iff_le, gt_iff_lt] at h4)
     refine cFalse (by kernel_rfl) ?_
     refine cSkip ?_
     refine kSeq ?_
     refine cSeq ?_
     refine cSeq ?_
     refine cReg ?_
     refine segH 2 (T1 := (mkT 101 [(12, vN (1 + RA.length + RB.length + RC.length)), (13, vN (1 + RA.length + RB.length + RC.length)), (97, .bool false), (98, vN (1 + RA.length + RB.length + RC.length)), (99, vN (1 + RA.length + RB.length + RC.length))])) (by kernel_rfl) ?_
     refine rOp (v := .bool false) (by kernel_rfl) (eNeS (k := .i64) (a := ((1 + RA.length + RB.length + RC.length : Nat) : Int)) (by kernel_rfl) (by kernel_rfl)) ?_
     refine segEndH [100] (T1 := (mkT 101 [(100, .bool false)])) (by kernel_rfl) ?_
     refine kSeq ?_
     refine cFalse (by kernel_rfl) ?_
     refine cSkip ?_
     refine kSeq ?_
     refine cSeq ?_
     refine cReg ?_
     refine segEndH [4] (T1 := (mkT 101 [(4, .bool true)])) (by kernel_rfl) ?_
     refine kSeq ?_
     refine cRet ?_
     exact endQ (Or.inr rfl) (l := [.bool true]) [rB [vN X, vN Y, vN Z, vS 0 A.length, vS 1 B.length, vS 2 C.length] 24, nW A, nW B, nW C, nW RA, nW RB, nW RC, rB [vN X, vN Y, vN Z, vS 7 RA.length, vS 8 RB.length, vS 9 RC.length] 27, nW (mkI 1 A.length), nW (mkI (1 + A.length) B.length), nW (mkI (1 + A.length + B.length) C.length), rB [vN X, vN Y, vN Z, vS 11 A.length, vS 12 B.length, vS 13 C.length] 27, nW (mkI 1 RA.length), nW (mkI (1 + RA.length) RB.length), nW (mkI (1 + RA.length + RB.length) RC.length), rB [vN X, vN Y, vN Z, vS 15 RA.length, vS 16 RB.length, vS 17 RC.length] 27, nW A, nW B, nW C, nW A, nW B, nW C, nW RA, nW RB, nW RC, rB [vN X, vN Y, vN Z, vS 25 RA.length, vS 26 RB.length, vS 27 RC.length] 27] (by kernel_rfl) (by first | rfl | kernel_rfl) rfl rfl hcl rfl
    ·
     (try simp only [bs0, bs1, bs2, bs3, beq_iff_eq, bne_iff_ne, beq_eq_false_iff_ne, bne_eq_false_iff_eq, ne_eq, bs4, bs5, bs6, bs7, bs8, bs9, bs10, bs11, ge_iff_le, gt_iff_lt] at h4)
     exfalso; omega
   ·
    (try simp only [bs0, bs1, bs2, bs3, beq_iff_eq, bne_iff_ne, beq_eq_false_iff_ne, bne_eq_false_iff_eq, ne_eq, bs4, bs5, bs6, bs7, bs8, bs9, bs10, bs11, ge_iff_le, gt_iff_lt] at h3)
    exfalso; omega
  ·
   (try simp only [bs0, bs1, bs2, bs3, beq_iff_eq, bne_iff_ne, beq_eq_false_iff_ne, bne_eq_false_iff_eq, ne_eq, bs4, bs5, bs6, bs7, bs8, bs9, bs10, bs11, ge_iff_le, gt_iff_lt] at h2)
   exfalso; omega
 ·
  (try simp only [bs0, bs1, bs2, bs3, beq_iff_eq, bne_iff_ne, beq_eq_false_iff_ne, bne_eq_false_iff_eq, ne_eq, bs4, bs5, bs6, bs7, bs8, bs9, bs10, bs11, ge_iff_le, gt_iff_lt] at h1)
  exfalso; omega
end Go.Proofs.Ytbheeobnghlckaa
set_option linter.unusedVariables false
set_option linter.unusedSimpArgs false
namespace Go.Proofs.Ytbheeobnghlckaa
open Go.Am Go.RowKit
set_option maxRecDepth 100000 in
set_option maxHeartbeats 4000000 in
theorem lawMirrorShadow_d2_sss (X : Nat) (Y : Nat) (Z : Nat) (A : List Int) (B : List Int) (C : List Int) (RA : List Int) (RB : List Int) (RC : List Int) (hl : A.length + B.length + C.length ≤ 1048576) (hs : Sides X Y Z) (hq : shadB X Y Z A B C = true) (hRRA : RA = mirE 2 2 X Y Z A) (hRRB : RB = mirE 1 2 X Y Z B) (hRRC : RC = mirE 0 2 X Y Z C) : Sound Try.prog 12 [.agg #[vN X, vN Y, vN Z, vS 0 A.length, vS 1 B.length, vS 2 C.length], vI 2] [nR A, nR B, nR C] (.bool true) [nR A, nR B, nR C] := by
 refine sound_intro (C := cx) Try.func12 rfl (by kernel_rfl) fun hcl => ?_
 have hz := hs.size
 have hx0 := hs.x0
 have hx4 := hs.x4
 have hy0 := hs.y0
 have hy4 := hs.y4
 have hz0 := hs.z0
 have hz4 := hs.z4
 have hxy : X * Y ≤ 4 * 4 := Nat.mul_le_mul (by omega) (by omega)
 have hxz : X * Z ≤ 4 * 4 := Nat.mul_le_mul (by omega) (by omega)
 have hyz : Y * Z ≤ 4 * 4 := Nat.mul_le_mul (by omega) (by omega)
 have hrA : RA.length ≤ 16 := by (rw [hRRA, mirE_length]; simp only [nlN]; omega)
 have hrB : RB.length ≤ 16 := by (rw [hRRB, mirE_length]; simp only [nlN]; omega)
 have hrC : RC.length ≤ 16 := by (rw [hRRC, mirE_length]; simp only [nlN]; omega)
 refine cSeq ?_
 refine cReg ?_
 refine segEnd [1, 2] (T1 := (mkT 101 [(1, vI 2), (2, vP 3 0)])) (H1 := [nR A, nR B, nR C, rB [vN X, vN Y, vN Z, vS 0 A.length, vS 1 B.length, vS 2 C.length] 24]) (by kernel_rfl) ?_
 refine kSeq ?_
 refine cSeq ?_
 refine cReg ?_
 refine segEndH [1, 2, 5] (T1 := (mkT 101 [(1, vI 2), (2, vP 3 0), (5, vI 1048576)])) (by kernel_rfl) ?_
 refine kSeq ?_
 refine cSeq ?_
 refine cReg ?_
 refine segH 2 (T1 := (mkT 101 [(1, vI 2), (2, vP 3 0), (5, vI 1048576), (16, .agg #[vN X, vN Y, vN Z, vS 0 A.length, vS 1 B.length, vS 2 C.length]), (17, vI 1048576)])) (by kernel_rfl) ?_
 refine rCall (v := vN (1048576 - A.length - B.length - C.length)) (args := [.agg #[vN X, vN Y, vN Z, vS 0 A.length, vS 1 B.length, vS 2 C.length], vI 1048576]) (by kernel_rfl) rfl (by kernel_rfl) (Sound.lay0 [0, 1, 2] (szSh_sss ((X : Nat) : Int) ((Y : Nat) : Int) ((Z : Nat) : Int) A B C 1048576 (by first | omega | assumption | (simp; done) | (simp; omega)) (by first | omega | assumption | decide)) ⟨rdF false (flatNums _ _ _ _) rfl rfl, ⟨rdF false (flatNums _ _ _ _) rfl rfl, ⟨rdF false (flatNums _ _ _ _) rfl rfl, trivial⟩⟩⟩ rfl ⟨clF (flatNums _ _ _ _), ⟨clF (flatNums _ _ _ _), ⟨clF (flatNums _ _ _ _), trivial⟩⟩⟩ rfl (by first | rfl | simp [mpV, mpA, mpS, mpP, renId, shift]) rfl) ?_
 refine segEndH [1, 2, 5] (T1 := (mkT 101 [(1, vI 2), (2, vP 3 0), (5, vN (1048576 - A.length - B.length - C.length))])) (by kernel_rfl) ?_
 refine kSeq ?_
 refine cSeq ?_
 refine cSeq ?_
 refine cReg ?_
 refine segEndH [1, 2, 20] (T1 := (mkT 101 [(1, vI 2), (2, vP 3 0), (20, .bool (decide (((1048576 - A.length - B.length - C.length : Nat) : Int) < 0)))])) (by kernel_rfl) ?_
 refine kSeq ?_
 cases h1 : (decide (((1048576 - A.length - B.length - C.length : Nat) : Int) < 0) : Bool)
 ·
  (try simp only [bs0, bs1, bs2, bs3, beq_iff_eq, bne_iff_ne, beq_eq_false_iff_ne, bne_eq_false_iff_eq, ne_eq, bs4, bs5, bs6, bs7, bs8, bs9, bs10, bs11, ge_iff_le, gt_iff_lt] at h1)
  refine cFalse (by kernel_rfl) ?_
  refine cSkip ?_
  refine kSeq ?_
  refine cSeq ?_
  refine cReg ?_
  refine segH 1 (T1 := (mkT 101 [(1, vI 2), (2, vP 3 0), (20, .bool false), (22, .agg #[vN X, vN Y, vN Z, vS 0 A.length, vS 1 B.length, vS 2 C.length])])) (by kernel_rfl) ?_
  refine rCall (v := .agg #[vN X, vN Y, vN Z, vS 4 A.length, vS 5 B.length, vS 6 C.length]) (args := [.agg #[vN X, vN Y, vN Z, vS 0 A.length, vS 1 B.length, vS 2 C.length]]) (by kernel_rfl) rfl (by kernel_rfl) (Sound.lay (E := [nW A, nW B, nW C]) [0, 1, 2] (toSh_sss ((X : Nat) : Int) ((Y : Nat) : Int) ((Z : Nat) : Int) A B C (by first | omega | assumption) (by first | omega | assumption) (by first | omega | assumption)) ⟨rdF false (flatNums _ _ _ _) rfl rfl, ⟨rdF false (flatNums _ _ _ _) rfl rfl, ⟨rdF false (flatNums _ _ _ _) rfl rfl, trivial⟩⟩⟩ rfl ⟨clF (flatNums _ _ _ _), ⟨clF (flatNums _ _ _ _), ⟨clF (flatNums _ _ _ _), trivial⟩⟩⟩ rfl (by first | rfl | simp [mpV, mpA, mpS, mpP, renId, shift]) (by first | rfl | simp [mpV, mpA, mpS, mpP, renId, shift]) ⟨enF (flatNums _ _ _ _) (Or.inl rfl), ⟨enF (flatNums _ _ _ _) (Or.inl rfl), ⟨enF (flatNums _ _ _ _) (Or.inl rfl), trivial⟩⟩⟩) ?_
  refine seg 1 (T1 := (mkT 101 [(1, vI 2), (2, vP 3 0), (20, .bool false), (22, .agg #[vN X, vN Y, vN Z, vS 0 A.length, vS 1 B.length, vS 2 C.length]), (23, .agg #[vN X, vN Y, vN Z, vS 4 A.length, vS 5 B.length, vS 6 C.length]), (24, vI 2)])) (H1 := [nR A, nR B, nR C, rB [vN X, vN Y, vN Z, vS 0 A.length, vS 1 B.length, vS 2 C.length] 24, nW A, nW B, nW C]) (by kernel_rfl) ?_
  refine rCall (v := .tuple #[.agg #[vN X, vN Y, vN Z, vS 7 RA.length, vS 8 RB.length, vS 9 RC.length], .bool true]) (args := [.agg #[vN X, vN Y, vN Z, vS 4 A.length, vS 5 B.length, vS 6 C.length], vI 2]) (by kernel_rfl) rfl (by kernel_rfl) (Sound.lay (E := [nW RA, nW RB, nW RC]) [4, 5, 6] (specMirrorShadow_2RRR X Y Z A B C RA RB RC (by first | assumption | omega | rfl | decide | exact HeapL.list _ _ _ _ | exact HeapL.nil _ _ _ | exact HeapL.all _ _ _ | (apply HeapL.lt64 <;> assumption) | (repeat' (first | assumption | apply or_lt64 | apply and_lt64 | apply andn_lt64 | apply pow_lt64 | (apply HeapL.lt64 <;> assumption)))) (by first | assumption | omega | rfl | decide | exact HeapL.list _ _ _ _ | exact HeapL.nil _ _ _ | exact HeapL.all _ _ _ | (apply HeapL.lt64 <;> assumption) | (repeat' (first | assumption | apply or_lt64 | apply and_lt64 | apply andn_lt64 | apply pow_lt64 | (apply HeapL.lt64 <;> assumption)))) (by first | assumption | omega | rfl | decide | exact HeapL.list _ _ _ _ | exact HeapL.nil _ _ _ | exact HeapL.all _ _ _ | (apply HeapL.lt64 <;> assumption) | (repeat' (first | assumption | apply or_lt64 | apply and_lt64 | apply andn_lt64 | apply pow_lt64 | (apply HeapL.lt64 <;> assumption)))) (by first | assumption | omega | rfl | decide | exact HeapL.list _ _ _ _ | exact HeapL.nil _ _ _ | exact HeapL.all _ _ _ | (apply HeapL.lt64 <;> assumption) | (repeat' (first | assumption | apply or_lt64 | apply and_lt64 | apply andn_lt64 | apply pow_lt64 | (apply HeapL.lt64 <;> assumption)))) (by first | assumption | omega | rfl | decide | exact HeapL.list _ _ _ _ | exact HeapL.nil _ _ _ | exact HeapL.all _ _ _ | (apply HeapL.lt64 <;> assumption) | (repeat' (first | assumption | apply or_lt64 | apply and_lt64 | apply andn_lt64 | apply pow_lt64 | (apply HeapL.lt64 <;> assumption))))) ⟨rdF true (flatNums _ _ _ _) rfl rfl, ⟨rdF true (flatNums _ _ _ _) rfl rfl, ⟨rdF true (flatNums _ _ _ _) rfl rfl, trivial⟩⟩⟩ rfl ⟨clF (flatNums _ _ _ _), ⟨clF (flatNums _ _ _ _), ⟨clF (flatNums _ _ _ _), trivial⟩⟩⟩ rfl (by first | rfl | simp [mpV, mpA, mpS, mpP, renId, shift]) (by first | rfl | simp [mpV, mpA, mpS, mpP, renId, shift]) ⟨enF (flatNums _ _ _ _) (Or.inl rfl), ⟨enF (flatNums _ _ _ _) (Or.inl rfl), ⟨enF (flatNums _ _ _ _) (Or.inl rfl), trivial⟩⟩⟩) ?_
  refine segEnd [1, 2, 6, 7] (T1 := (mkT 101 [(1, vI 2), (2, vP 3 0), (6, vP 10 0), (7, .bool true)])) (H1 := [nR A, nR B, nR C, rB [vN X, vN Y, vN Z, vS 0 A.length, vS 1 B.length, vS 2 C.length] 24, nW A, nW B, nW C, nW RA, nW RB, nW RC, rB [vN X, vN Y, vN Z, vS 7 RA.length, vS 8 RB.length, vS 9 RC.length] 27]) (by kernel_rfl) ?_
  refine kSeq ?_
  refine cSeq ?_
  refine cReg ?_
  refine segH 1 (T1 := (mkT 101 [(1, vI 2), (2, vP 3 0), (6, vP 10 0), (7, .bool true), (28, .agg #[vN X, vN Y, vN Z, vS 0 A.length, vS 1 B.length, vS 2 C.length])])) (by kernel_rfl) ?_
  refine rCall (v := .agg #[vN X, vN Y, vN Z, vS 11 A.length, vS 12 B.length, vS 13 C.length]) (args := [.agg #[vN X, vN Y, vN Z, vS 0 A.length, vS 1 B.length, vS 2 C.length]]) (by kernel_rfl) rfl (by kernel_rfl) (Sound.lay (E := [nW A, nW B, nW C]) [0, 1, 2] (toSh_sss ((X : Nat) : Int) ((Y : Nat) : Int) ((Z : Nat) : Int) A B C (by first | omega | assumption) (by first | omega | assumption) (by first | omega | assumption)) ⟨rdF false (flatNums _ _ _ _) rfl rfl, ⟨rdF false (flatNums _ _ _ _) rfl rfl, ⟨rdF false (flatNums _ _ _ _) rfl rfl, trivial⟩⟩⟩ rfl ⟨clF (flatNums _ _ _ _), ⟨clF (flatNums _ _ _ _), ⟨clF (flatNums _ _ _ _), trivial⟩⟩⟩ rfl (by first | rfl | simp [mpV, mpA, mpS, mpP, renId, shift]) (by first | rfl | simp [mpV, mpA, mpS, mpP, renId, shift]) ⟨enF (flatNums _ _ _ _) (Or.inl rfl), ⟨enF (flatNums _ _ _ _) (Or.inl rfl), ⟨enF (flatNums _ _ _ _) (Or.inl rfl), trivial⟩⟩⟩) ?_
  refine segEnd [1, 2, 6, 7, 8] (T1 := (mkT 101 [(1, vI 2), (2, vP 3 0), (6, vP 10 0), (7, .bool true), (8, vP 14 0)])) (H1 := [nR A, nR B, nR C, rB [vN X, vN Y, vN Z, vS 0 A.length, vS 1 B.length, vS 2 C.length] 24, nW A, nW B, nW C, nW RA, nW RB, nW RC, rB [vN X, vN Y, vN Z, vS 7 RA.length, vS 8 RB.length, vS 9 RC.length] 27, nW A, nW B, nW C, rB [vN X, vN Y, vN Z, vS 11 A.length, vS 12 B.length, vS 13 C.length] 27]) (by kernel_rfl) ?_
  refine kSeq ?_
  refine cSeq ?_
  refine cReg ?_
  refine segH 2 (T1 := (mkT 101 [(1, vI 2), (2, vP 3 0), (6, vP 10 0), (7, .bool true), (8, vP 14 0), (31, .agg #[vN X, vN Y, vN Z, vS 11 A.length, vS 12 B.length, vS 13 C.length]), (32, vI 2)])) (by kernel_rfl) ?_
  refine rCall (v := .tuple #[.agg #[vN X, vN Y, vN Z, vS 15 RA.length, vS 16 RB.length, vS 17 RC.length], .bool true]) (args := [.agg #[vN X, vN Y, vN Z, vS 11 A.length, vS 12 B.length, vS 13 C.length], vI 2]) (by kernel_rfl) rfl (by kernel_rfl) (Sound.lay (E := [nW RA, nW RB, nW RC]) [11, 12, 13] (implMirrorShadow_2RRR X Y Z A B C RA RB RC (by first | assumption | omega | rfl | decide | exact HeapL.list _ _ _ _ | exact HeapL.nil _ _ _ | exact HeapL.all _ _ _ | (apply HeapL.lt64 <;> assumption) | (repeat' (first | assumption | apply or_lt64 | apply and_lt64 | apply andn_lt64 | apply pow_lt64 | (apply HeapL.lt64 <;> assumption)))) (by first | assumption | omega | rfl | decide | exact HeapL.list _ _ _ _ | exact HeapL.nil _ _ _ | exact HeapL.all _ _ _ | (apply HeapL.lt64 <;> assumption) | (repeat' (first | assumption | apply or_lt64 | apply and_lt64 | apply andn_lt64 | apply pow_lt64 | (apply HeapL.lt64 <;> assumption)))) (by first | assumption | omega | rfl | decide | exact HeapL.list _ _ _ _ | exact HeapL.nil _ _ _ | exact HeapL.all _ _ _ | (apply HeapL.lt64 <;> assumption) | (repeat' (first | assumption | apply or_lt64 | apply and_lt64 | apply andn_lt64 | apply pow_lt64 | (apply HeapL.lt64 <;> assumption)))) (by first | assumption | omega | rfl | decide | exact HeapL.list _ _ _ _ | exact HeapL.nil _ _ _ | exact HeapL.all _ _ _ | (apply HeapL.lt64 <;> assumption) | (repeat' (first | assumption | apply or_lt64 | apply and_lt64 | apply andn_lt64 | apply pow_lt64 | (apply HeapL.lt64 <;> assumption)))) (by first | assumption | omega | rfl | decide | exact HeapL.list _ _ _ _ | exact HeapL.nil _ _ _ | exact HeapL.all _ _ _ | (apply HeapL.lt64 <;> assumption) | (repeat' (first | assumption | apply or_lt64 | apply and_lt64 | apply andn_lt64 | apply pow_lt64 | (apply HeapL.lt64 <;> assumption))))) ⟨rdF true (flatNums _ _ _ _) rfl rfl, ⟨rdF true (flatNums _ _ _ _) rfl rfl, ⟨rdF true (flatNums _ _ _ _) rfl rfl, trivial⟩⟩⟩ rfl ⟨clF (flatNums _ _ _ _), ⟨clF (flatNums _ _ _ _), ⟨clF (flatNums _ _ _ _), trivial⟩⟩⟩ rfl (by first | rfl | simp [mpV, mpA, mpS, mpP, renId, shift]) (by first | rfl | simp [mpV, mpA, mpS, mpP, renId, shift]) ⟨enF (flatNums _ _ _ _) (Or.inl rfl), ⟨enF (flatNums _ _ _ _) (Or.inl rfl), ⟨enF (flatNums _ _ _ _) (Or.inl rfl), trivial⟩⟩⟩) ?_
  refine segEnd [1, 2, 6, 7, 8, 9, 10] (T1 := (mkT 101 [(1, vI 2), (2, vP 3 0), (6, vP 10 0), (7, .bool true), (8, vP 14 0), (9, vP 18 0), (10, .bool true)])) (H1 := [nR A, nR B, nR C, rB [vN X, vN Y, vN Z, vS 0 A.length, vS 1 B.length, vS 2 C.length] 24, nW A, nW B, nW C, nW RA, nW RB, nW RC, rB [vN X, vN Y, vN Z, vS 7 RA.length, vS 8 RB.length, vS 9 RC.length] 27, nW A, nW B, nW C, rB [vN X, vN Y, vN Z, vS 11 A.length, vS 12 B.length, vS 13 C.length] 27, nW RA, nW RB, nW RC, rB [vN X, vN Y, vN Z, vS 15 RA.length, vS 16 RB.length, vS 17 RC.length] 27]) (by kernel_rfl) ?_
  refine kSeq ?_
  refine cSeq ?_
  refine cSeq ?_
  refine cReg ?_
  refine segH 2 (T1 := (mkT 101 [(1, vI 2), (2, vP 3 0), (6, vP 10 0), (7, .bool true), (8, vP 14 0), (9, vP 18 0), (10, .bool true), (36, .agg #[vN X, vN Y, vN Z, vS 15 RA.length, vS 16 RB.length, vS 17 RC.length]), (37, .agg #[vN X, vN Y, vN Z, vS 7 RA.length, vS 8 RB.length, vS 9 RC.length])])) (by kernel_rfl) ?_
  refine rCall (v := .bool true) (args := [.agg #[vN X, vN Y, vN Z, vS 15 RA.length, vS 16 RB.length, vS 17 RC.length], .agg #[vN X, vN Y, vN Z, vS 7 RA.length, vS 8 RB.length, vS 9 RC.length]]) (by kernel_rfl) rfl (by kernel_rfl) (Sound.lay0 [15, 16, 17, 7, 8, 9] (eqSh ((X : Nat) : Int) ((Y : Nat) : Int) ((Z : Nat) : Int) RA RB RC (by first | omega | assumption | (simp; done)) (by first | omega | assumption | (simp; done)) (by first | omega | assumption | (simp; done))) ⟨rdF true (flatNums _ _ _ _) rfl rfl, ⟨rdF true (flatNums _ _ _ _) rfl rfl, ⟨rdF true (flatNums _ _ _ _) rfl rfl, ⟨rdF true (flatNums _ _ _ _) rfl rfl, ⟨rdF true (flatNums _ _ _ _) rfl rfl, ⟨rdF true (flatNums _ _ _ _) rfl rfl, trivial⟩⟩⟩⟩⟩⟩ rfl ⟨clF (flatNums _ _ _ _), ⟨clF (flatNums _ _ _ _), ⟨clF (flatNums _ _ _ _), ⟨clF (flatNums _ _ _ _), ⟨clF (flatNums _ _ _ _), ⟨clF (flatNums _ _ _ _), trivial⟩⟩⟩⟩⟩⟩ rfl (by first | rfl | simp [mpV, mpA, mpS, mpP, renId, shift]) rfl) ?_
  refine segEndH [1, 2, 6, 7, 8, 9, 10, 44] (T1 := (mkT 101 [(1, vI 2), (2, vP 3 0), (6, vP 10 0), (7, .bool true), (8, vP 14 0), (9, vP 18 0), (10, .bool true), (44, .bool false)])) (by kernel_rfl) ?_
  refine kSeq ?_
  refine cFalse (by kernel_rfl) ?_
  refine cSkip ?_
  refine kSeq ?_
  refine cSeq ?_
  refine cSeq ?_
  refine cRegW (N := 22) [⟨[], [], [14]⟩, ⟨[], [], [3]⟩, ⟨[19, 20, 21], [], [0, 1, 2]⟩, ⟨[], [], [11, 12, 13, 19, 20, 21]⟩, ⟨[], [], []⟩] 3 [19, 20, 21] (by rfl) (by rfl) (by kernel_rfl) (by kernel_rfl) (by kernel_rfl) ⟨nmsF (flatNums _ _ _ _), ⟨nmsF (flatNums _ _ _ _), ⟨nmsF (flatNums _ _ _ _), ⟨nmsX (by kernel_rfl), ⟨nmsF (flatNums _ _ _ _), ⟨nmsF (flatNums _ _ _ _), ⟨nmsF (flatNums _ _ _ _), ⟨nmsF (flatNums _ _ _ _), ⟨nmsF (flatNums _ _ _ _), ⟨nmsF (flatNums _ _ _ _), ⟨nmsX (by kernel_rfl), ⟨nmsF (flatNums _ _ _ _), ⟨nmsF (flatNums _ _ _ _), ⟨nmsF (flatNums _ _ _ _), ⟨nmsX (by kernel_rfl), ⟨nmsF (flatNums _ _ _ _), ⟨nmsF (flatNums _ _ _ _), ⟨nmsF (flatNums _ _ _ _), ⟨nmsX (by kernel_rfl), trivial⟩⟩⟩⟩⟩⟩⟩⟩⟩⟩⟩⟩⟩⟩⟩⟩⟩⟩⟩ ?_
  refine segWH 2 (T1 := (mkT 101 [(1, vI 2), (2, vP 3 0), (6, vP 10 0), (7, .bool true), (8, vP 14 0), (9, vP 18 0), (10, .bool true), (44, .bool false), (45, .agg #[vN X, vN Y, vN Z, vS 11 A.length, vS 12 B.length, vS 13 C.length]), (46, .agg #[vN X, vN Y, vN Z, vS 0 A.length, vS 1 B.length, vS 2 C.length])])) (by kernel_rfl) ?_
  refine rW (m := ⟨[19, 20, 21], [], [0, 1, 2]⟩) (v := .agg #[vN X, vN Y, vN Z, vS 19 A.length, vS 20 B.length, vS 21 C.length]) rfl (by kernel_rfl) (stN (i := 19) (E := [nW A, nW B, nW C]) (v1 := .agg #[vN X, vN Y, vN Z, vS 22 A.length, vS 23 B.length, vS 24 C.length]) (args := [.agg #[vN X, vN Y, vN Z, vS 0 A.length, vS 1 B.length, vS 2 C.length]]) rfl (by kernel_rfl) (Any.lay (E := [nW A, nW B, nW C]) (N := 22) [0, 1, 2] (toSh_sss ((X : Nat) : Int) ((Y : Nat) : Int) ((Z : Nat) : Int) A B C (by first | omega | assumption) (by first | omega | assumption) (by first | omega | assumption)) ⟨rdF false (flatNums _ _ _ _) rfl rfl, ⟨rdF false (flatNums _ _ _ _) rfl rfl, ⟨rdF false (flatNums _ _ _ _) rfl rfl, trivial⟩⟩⟩ rfl ⟨clF (flatNums _ _ _ _), ⟨clF (flatNums _ _ _ _), ⟨clF (flatNums _ _ _ _), trivial⟩⟩⟩ rfl (by first | rfl | simp [mpV, mpA, mpS, mpP, renId, shift]) (by first | rfl | simp [mpV, mpA, mpS, mpP, renId, shift]) ⟨enF (flatNums _ _ _ _) (Or.inl rfl), ⟨enF (flatNums _ _ _ _) (Or.inl rfl), ⟨enF (flatNums _ _ _ _) (Or.inl rfl), trivial⟩⟩⟩) rfl (by kernel_rfl) (by kernel_rfl) (by kernel_rfl) (by kernel_rfl) (FlatH.cons (flatNums _ _ _ _) (FlatH.cons (flatNums _ _ _ _) (FlatH.cons (flatNums _ _ _ _) FlatH.nil)))) (by kernel_rfl) (NRs.all ⟨nrOf (by rfl) (nmF (flatNums _ _ _ _)), ⟨nrOf (by rfl) (nmF (flatNums _ _ _ _)), ⟨nrOf (by rfl) (nmF (flatNums _ _ _ _)), trivial⟩⟩⟩) ?_
  refine rW (m := ⟨[], [], [11, 12, 13, 19, 20, 21]⟩) (v := .bool true) rfl (by kernel_rfl) (stQ (args := [.agg #[vN X, vN Y, vN Z, vS 11 A.length, vS 12 B.length, vS 13 C.length], .agg #[vN X, vN Y, vN Z, vS 19 A.length, vS 20 B.length, vS 21 C.length]]) rfl (by kernel_rfl) (Any.lay0 [11, 12, 13, 19, 20, 21] (eqSh ((X : Nat) : Int) ((Y : Nat) : Int) ((Z : Nat) : Int) A B C (by first | omega | assumption | (simp; done)) (by first | omega | assumption | (simp; done)) (by first | omega | assumption | (simp; done))) ⟨rdF true (flatNums _ _ _ _) rfl rfl, ⟨rdF true (flatNums _ _ _ _) rfl rfl, ⟨rdF true (flatNums _ _ _ _) rfl rfl, ⟨rdF true (flatNums _ _ _ _) rfl rfl, ⟨rdF true (flatNums _ _ _ _) rfl rfl, ⟨rdF true (flatNums _ _ _ _) rfl rfl, trivial⟩⟩⟩⟩⟩⟩ rfl ⟨clF (flatNums _ _ _ _), ⟨clF (flatNums _ _ _ _), ⟨clF (flatNums _ _ _ _), ⟨clF (flatNums _ _ _ _), ⟨clF (flatNums _ _ _ _), ⟨clF (flatNums _ _ _ _), trivial⟩⟩⟩⟩⟩⟩ rfl (by first | rfl | simp [mpV, mpA, mpS, mpP, renId, shift]) rfl) rfl (by kernel_rfl) (by kernel_rfl)) (by kernel_rfl) nr0 ?_
  refine segEndW [1, 2, 6, 7, 8, 9, 10, 49] (T1 := (mkT 101 [(1, vI 2), (2, vP 3 0), (6, vP 10 0), (7, .bool true), (8, vP 14 0), (9, vP 18 0), (10, .bool true), (49, .bool false)])) (H1 := [nR A, nR B, nR C, rB [vN X, vN Y, vN Z, vS 0 A.length, vS 1 B.length, vS 2 C.length] 24, nW A, nW B, nW C, nW RA, nW RB, nW RC, rB [vN X, vN Y, vN Z, vS 7 RA.length, vS 8 RB.length, vS 9 RC.length] 27, nW A, nW B, nW C, rB [vN X, vN Y, vN Z, vS 11 A.length, vS 12 B.length, vS 13 C.length] 27, nW RA, nW RB, nW RC, rB [vN X, vN Y, vN Z, vS 15 RA.length, vS 16 RB.length, vS 17 RC.length] 27, nW A, nW B, nW C]) (by kernel_rfl) ?_
  refine kSeq ?_
  refine cFalse (by kernel_rfl) ?_
  refine cSkip ?_
  refine kSeq ?_
  refine cSeq ?_
  refine cReg ?_
  refine segEndH [1, 2, 6, 7, 8, 9, 10, 11] (T1 := (mkT 101 [(1, vI 2), (2, vP 3 0), (6, vP 10 0), (7, .bool true), (8, vP 14 0), (9, vP 18 0), (10, .bool true), (11, vI 1)])) (by kernel_rfl) ?_
  refine kSeq ?_
  refine cSeq ?_
  refine cReg ?_
  refine segH 2 (T1 := (mkT 101 [(1, vI 2), (2, vP 3 0), (6, vP 10 0), (7, .bool true), (8, vP 14 0), (9, vP 18 0), (10, .bool true), (11, vI 1), (50, .agg #[vN X, vN Y, vN Z, vS 11 A.length, vS 12 B.length, vS 13 C.length]), (51, vI 1)])) (by kernel_rfl) ?_
  refine rCall (v := vN (1 + A.length + B.length + C.length)) (args := [.agg #[vN X, vN Y, vN Z, vS 11 A.length, vS 12 B.length, vS 13 C.length], vI 1]) (by kernel_rfl) rfl (by kernel_rfl) (Sound.emb_set3 (r0 := ⟨nums A, 3, false, true⟩) (r1 := ⟨nums B, 3, false, true⟩) (r2 := ⟨nums C, 3, false, true⟩) (q0 := ⟨nums (mkI 1 A.length), 3, false, true⟩) (q1 := ⟨nums (mkI (1 + A.length) B.length), 3, false, true⟩) (q2 := ⟨nums (mkI (1 + A.length + B.length) C.length), 3, false, true⟩) 11 12 13 (markSh ((X : Nat) : Int) ((Y : Nat) : Int) ((Z : Nat) : Int) A B C 1 (by first | omega | assumption | (simp; done)) (by first | omega | assumption | (simp; done)) (by first | omega | assumption | (simp; done)) (by first | assumption | omega | rfl | decide | exact HeapL.list _ _ _ _ | exact HeapL.nil _ _ _ | exact HeapL.all _ _ _ | (apply HeapL.lt64 <;> assumption) | (repeat' (first | assumption | apply or_lt64 | apply and_lt64 | apply andn_lt64 | apply pow_lt64 | (apply HeapL.lt64 <;> assumption))))) ⟨⟨(flatNums _ _ _ _), rfl⟩, ⟨(flatNums _ _ _ _), rfl⟩, ⟨(flatNums _ _ _ _), rfl⟩⟩ ⟨⟨(flatNums _ _ _ _), rfl⟩, ⟨(flatNums _ _ _ _), rfl⟩, ⟨(flatNums _ _ _ _), rfl⟩⟩ rfl rfl rfl rfl rfl (by first | rfl | simp [mpV, mpA, mpS, mpP, renId, shift]) rfl) ?_
  refine segEnd [1, 2, 6, 7, 9, 10, 11] (T1 := (mkT 101 [(1, vI 2), (2, vP 3 0), (6, vP 10 0), (7, .bool true), (9, vP 18 0), (10, .bool true), (11, vN (1 + A.length + B.length + C.length))])) (H1 := [nR A, nR B, nR C, rB [vN X, vN Y, vN Z, vS 0 A.length, vS 1 B.length, vS 2 C.length] 24, nW A, nW B, nW C, nW RA, nW RB, nW RC, rB [vN X, vN Y, vN Z, vS 7 RA.length, vS 8 RB.length, vS 9 RC.length] 27, nW (mkI 1 A.length), nW (mkI (1 + A.length) B.length), nW (mkI (1 + A.length + B.length) C.length), rB [vN X, vN Y, vN Z, vS 11 A.length, vS 12 B.length, vS 13 C.length] 27, nW RA, nW RB, nW RC, rB [vN X, vN Y, vN Z, vS 15 RA.length, vS 16 RB.length, vS 17 RC.length] 27, nW A, nW B, nW C]) (by kernel_rfl) ?_
  refine kSeq ?_
  refine cSeq ?_
  refine cSeq ?_
  refine cReg ?_
  refine segH 3 (T1 := (mkT 101 [(1, vI 2), (2, vP 3 0), (6, vP 10 0), (7, .bool true), (9, vP 18 0), (10, .bool true), (11, vN (1 + A.length + B.length + C.length)), (53, vN (1 + A.length + B.length + C.length)), (54, .bool (decide (((1 + A.length + B.length + C.length : Nat) : Int) < 0))), (55, .bool (decide (((1 + A.length + B.length + C.length : Nat) : Int) < 0)))])) (by kernel_rfl) ?_
  cases h2 : (decide (((1 + A.length + B.length + C.length : Nat) : Int) < 0) : Bool)
  ·
   (try simp only [bs0, bs1, bs2, bs3, beq_iff_eq, bne_iff_ne, beq_eq_false_iff_ne, bne_eq_false_iff_eq, ne_eq, bs4, bs5, bs6, bs7, bs8, bs9, bs10, bs11, ge_iff_le, gt_iff_lt] at h2)
   refine seg 2 (T1 := (mkT 101 [(1, vI 2), (2, vP 3 0), (6, vP 10 0), (7, .bool true), (9, vP 18 0), (10, .bool true), (11, vN (1 + A.length + B.length + C.length)), (53, vN (1 + A.length + B.length + C.length)), (54, .bool false), (55, .bool false), (56, .agg #[vN X, vN Y, vN Z, vS 15 RA.length, vS 16 RB.length, vS 17 RC.length]), (57, .agg #[vN X, vN Y, vN Z, vS 7 RA.length, vS 8 RB.length, vS 9 RC.length])])) (H1 := [nR A, nR B, nR C, rB [vN X, vN Y, vN Z, vS 0 A.length, vS 1 B.length, vS 2 C.length] 24, nW A, nW B, nW C, nW RA, nW RB, nW RC, rB [vN X, vN Y, vN Z, vS 7 RA.length, vS 8 RB.length, vS 9 RC.length] 27, nW (mkI 1 A.length), nW (mkI (1 + A.length) B.length), nW (mkI (1 + A.length + B.length) C.length), rB [vN X, vN Y, vN Z, vS 11 A.length, vS 12 B.length, vS 13 C.length] 27, nW RA, nW RB, nW RC, rB [vN X, vN Y, vN Z, vS 15 RA.length, vS 16 RB.length, vS 17 RC.length] 27, nW A, nW B, nW C]) (by kernel_rfl) ?_
   refine rCall (v := .bool true) (args := [.agg #[vN X, vN Y, vN Z, vS 15 RA.length, vS 16 RB.length, vS 17 RC.length], .agg #[vN X, vN Y, vN Z, vS 7 RA.length, vS 8 RB.length, vS 9 RC.length]]) (by kernel_rfl) rfl (by kernel_rfl) (Sound.lay0 [15, 16, 17, 7, 8, 9] (eqSh ((X : Nat) : Int) ((Y : Nat) : Int) ((Z : Nat) : Int) RA RB RC (by first | omega | assumption | (simp; done)) (by first | omega | assumption | (simp; done)) (by first | omega | assumption | (simp; done))) ⟨rdF true (flatNums _ _ _ _) rfl rfl, ⟨rdF true (flatNums _ _ _ _) rfl rfl, ⟨rdF true (flatNums _ _ _ _) rfl rfl, ⟨rdF true (flatNums _ _ _ _) rfl rfl, ⟨rdF true (flatNums _ _ _ _) rfl rfl, ⟨rdF true (flatNums _ _ _ _) rfl rfl, trivial⟩⟩⟩⟩⟩⟩ rfl ⟨clF (flatNums _ _ _ _), ⟨clF (flatNums _ _ _ _), ⟨clF (flatNums _ _ _ _), ⟨clF (flatNums _ _ _ _), ⟨clF (flatNums _ _ _ _), ⟨clF (flatNums _ _ _ _), trivial⟩⟩⟩⟩⟩⟩ rfl (by first | rfl | simp [mpV, mpA, mpS, mpP, renId, shift]) rfl) ?_
   refine segEnd [1, 2, 6, 7, 9, 65] (T1 := (mkT 101 [(1, vI 2), (2, vP 3 0), (6, vP 10 0), (7, .bool true), (9, vP 18 0), (65, .bool false)])) (H1 := [nR A, nR B, nR C, rB [vN X, vN Y, vN Z, vS 0 A.length, vS 1 B.length, vS 2 C.length] 24, nW A, nW B, nW C, nW RA, nW RB, nW RC, rB [vN X, vN Y, vN Z, vS 7 RA.length, vS 8 RB.length, vS 9 RC.length] 27, nW (mkI 1 A.length), nW (mkI (1 + A.length) B.length), nW (mkI (1 + A.length + B.length) C.length), rB [vN X, vN Y, vN Z, vS 11 A.length, vS 12 B.length, vS 13 C.length] 27, nW RA, nW RB, nW RC, rB [vN X, vN Y, vN Z, vS 15 RA.length, vS 16 RB.length, vS 17 RC.length] 27, nW A, nW B, nW C]) (by kernel_rfl) ?_
   refine kSeq ?_
   refine cFalse (by kernel_rfl) ?_
   refine cSkip ?_
   refine kSeq ?_
   refine cSeq ?_
   refine cReg ?_
   refine segEndH [1, 2, 6, 7, 9, 12] (T1 := (mkT 101 [(1, vI 2), (2, vP 3 0), (6, vP 10 0), (7, .bool true), (9, vP 18 0), (12, vI 1)])) (by kernel_rfl) ?_
   refine kSeq ?_
   refine cSeq ?_
   refine cReg ?_
   refine segH 2 (T1 := (mkT 101 [(1, vI 2), (2, vP 3 0), (6, vP 10 0), (7, .bool true), (9, vP 18 0), (12, vI 1), (66, .agg #[vN X, vN Y, vN Z, vS 15 RA.length, vS 16 RB.length, vS 17 RC.length]), (67, vI 1)])) (by kernel_rfl) ?_
   refine rCall (v := vN (1 + RA.length + RB.length + RC.length)) (args := [.agg #[vN X, vN Y, vN Z, vS 15 RA.length, vS 16 RB.length, vS 17 RC.length], vI 1]) (by kernel_rfl) rfl (by kernel_rfl) (Sound.emb_set3 (r0 := ⟨nums RA, 3, false, true⟩) (r1 := ⟨nums RB, 3, false, true⟩) (r2 := ⟨nums RC, 3, false, true⟩) (q0 := ⟨nums (mkI 1 RA.length), 3, false, true⟩) (q1 := ⟨nums (mkI (1 + RA.length) RB.length), 3, false, true⟩) (q2 := ⟨nums (mkI (1 + RA.length + RB.length) RC.length), 3, false, true⟩) 15 16 17 (markSh ((X : Nat) : Int) ((Y : Nat) : Int) ((Z : Nat) : Int) RA RB RC 1 (by first | omega | assumption | (simp; done)) (by first | omega | assumption | (simp; done)) (by first | omega | assumption | (simp; done)) (by first | assumption | omega | rfl | decide | exact HeapL.list _ _ _ _ | exact HeapL.nil _ _ _ | exact HeapL.all _ _ _ | (apply HeapL.lt64 <;> assumption) | (repeat' (first | assumption | apply or_lt64 | apply and_lt64 | apply andn_lt64 | apply pow_lt64 | (apply HeapL.lt64 <;> assumption))))) ⟨⟨(flatNums _ _ _ _), rfl⟩, ⟨(flatNums _ _ _ _), rfl⟩, ⟨(flatNums _ _ _ _), rfl⟩⟩ ⟨⟨(flatNums _ _ _ _), rfl⟩, ⟨(flatNums _ _ _ _), rfl⟩, ⟨(flatNums _ _ _ _), rfl⟩⟩ rfl rfl rfl rfl rfl (by first | rfl | simp [mpV, mpA, mpS, mpP, renId, shift]) rfl) ?_
   refine segEnd [1, 2, 6, 7, 9, 12] (T1 := (mkT 101 [(1, vI 2), (2, vP 3 0), (6, vP 10 0), (7, .bool true), (9, vP 18 0), (12, vN (1 + RA.length + RB.length + RC.length))])) (H1 := [nR A, nR B, nR C, rB [vN X, vN Y, vN Z, vS 0 A.length, vS 1 B.length, vS 2 C.length] 24, nW A, nW B, nW C, nW RA, nW RB, nW RC, rB [vN X, vN Y, vN Z, vS 7 RA.length, vS 8 RB.length, vS 9 RC.length] 27, nW (mkI 1 A.length), nW (mkI (1 + A.length) B.length), nW (mkI (1 + A.length + B.length) C.length), rB [vN X, vN Y, vN Z, vS 11 A.length, vS 12 B.length, vS 13 C.length] 27, nW (mkI 1 RA.length), nW (mkI (1 + RA.length) RB.length), nW (mkI (1 + RA.length + RB.length) RC.length), rB [vN X, vN Y, vN Z, vS 15 RA.length, vS 16 RB.length, vS 17 RC.length] 27, nW A, nW B, nW C]) (by kernel_rfl) ?_
   refine kSeq ?_
   refine cSeq ?_
   refine cReg ?_
   refine segEndH [1, 2, 6, 7, 9, 12, 13] (T1 := (mkT 101 [(1, vI 2), (2, vP 3 0), (6, vP 10 0), (7, .bool true), (9, vP 18 0), (12, vN (1 + RA.length + RB.length + RC.length)), (13, vI 1)])) (by kernel_rfl) ?_
   refine kSeq ?_
   refine cSeq ?_
   refine cReg ?_
   refine segH 2 (T1 := (mkT 101 [(1, vI 2), (2, vP 3 0), (6, vP 10 0), (7, .bool true), (9, vP 18 0), (12, vN (1 + RA.length + RB.length + RC.length)), (13, vI 1), (69, .agg #[vN X, vN Y, vN Z, vS 15 RA.length, vS 16 RB.length, vS 17 RC.length]), (70, vI 1)])) (by kernel_rfl) ?_
   refine rCall (v := vN (1 + RA.length + RB.length + RC.length)) (args := [.agg #[vN X, vN Y, vN Z, vS 15 RA.length, vS 16 RB.length, vS 17 RC.length], vI 1]) (by kernel_rfl) rfl (by kernel_rfl) (Sound.lay0 [15, 16, 17] (heldSh ((X : Nat) : Int) ((Y : Nat) : Int) ((Z : Nat) : Int) RA.length RB.length RC.length 1 (by omega) (by omega) (by omega) (by first | assumption | omega | rfl | decide | exact HeapL.list _ _ _ _ | exact HeapL.nil _ _ _ | exact HeapL.all _ _ _ | (apply HeapL.lt64 <;> assumption) | (repeat' (first | assumption | apply or_lt64 | apply and_lt64 | apply andn_lt64 | apply pow_lt64 | (apply HeapL.lt64 <;> assumption))))) ⟨rdF true (flatNums _ _ _ _) rfl rfl, ⟨rdF true (flatNums _ _ _ _) rfl rfl, ⟨rdF true (flatNums _ _ _ _) rfl rfl, trivial⟩⟩⟩ rfl ⟨clF (flatNums _ _ _ _), ⟨clF (flatNums _ _ _ _), ⟨clF (flatNums _ _ _ _), trivial⟩⟩⟩ rfl (by first | rfl | simp [mpV, mpA, mpS, mpP, renId, shift]) rfl) ?_
   refine segEndH [1, 2, 6, 7, 9, 12, 13] (T1 := (mkT 101 [(1, vI 2), (2, vP 3 0), (6, vP 10 0), (7, .bool true), (9, vP 18 0), (12, vN (1 + RA.length + RB.length + RC.length)), (13, vN (1 + RA.length + RB.length + RC.length))])) (by kernel_rfl) ?_
   refine kSeq ?_
   refine cSeq ?_
   refine cSeq ?_
   refine cReg ?_
   refine segEndH [1, 2, 6, 7, 9, 12, 13, 73] (T1 := (mkT 101 [(1, vI 2), (2, vP 3 0), (6, vP 10 0), (7, .bool true), (9, vP 18 0), (12, vN (1 + RA.length + RB.length + RC.length)), (13, vN (1 + RA.length + RB.length + RC.length)), (73, .bool (decide (((1 + RA.length + RB.length + RC.length : Nat) : Int) < 0)))])) (by kernel_rfl) ?_
   refine kSeq ?_
   cases h3 : (decide (((1 + RA.length + RB.length + RC.length : Nat) : Int) < 0) : Bool)
   ·
    (try simp only [bs0, bs1, bs2, bs3, beq_iff_eq, bne_iff_ne, beq_eq_false_iff_ne, bne_eq_false_iff_eq, ne_eq, bs4, bs5, bs6, bs7, bs8, bs9, bs10, bs11, ge_iff_le, gt_iff_lt] at h3)
    refine cFalse (by kernel_rfl) ?_
    refine cSkip ?_
    refine kSeq ?_
    refine cSeq ?_
    refine cSeq ?_
    refine cReg ?_
    refine segH 2 (T1 := (mkT 101 [(1, vI 2), (2, vP 3 0), (6, vP 10 0), (7, .bool true), (9, vP 18 0), (12, vN (1 + RA.length + RB.length + RC.length)), (13, vN (1 + RA.length + RB.length + RC.length)), (73, .bool false), (74, vN (1 + RA.length + RB.length + RC.length)), (75, vN (1 + RA.length + RB.length + RC.length))])) (by kernel_rfl) ?_
    refine rOp (v := .bool false) (by kernel_rfl) (eNeS (k := .i64) (a := ((1 + RA.length + RB.length + RC.length : Nat) : Int)) (by kernel_rfl) (by kernel_rfl)) ?_
    refine segEndH [1, 2, 6, 7, 9, 12, 76] (T1 := (mkT 101 [(1, vI 2), (2, vP 3 0), (6, vP 10 0), (7, .bool true), (9, vP 18 0), (12, vN (1 + RA.length + RB.length + RC.length)), (76, .bool false)])) (by kernel_rfl) ?_
    refine kSeq ?_
    refine cFalse (by kernel_rfl) ?_
    refine cSkip ?_
    refine kSeq ?_
    refine cSeq ?_
    refine cReg ?_
    refine segH 1 (T1 := (mkT 101 [(1, vI 2), (2, vP 3 0), (6, vP 10 0), (7, .bool true), (9, vP 18 0), (12, vN (1 + RA.length + RB.length + RC.length)), (76, .bool false), (78, .agg #[vN X, vN Y, vN Z, vS 0 A.length, vS 1 B.length, vS 2 C.length])])) (by kernel_rfl) ?_
    refine rCall (v := .agg #[vN X, vN Y, vN Z, vS 22 A.length, vS 23 B.length, vS 24 C.length]) (args := [.agg #[vN X, vN Y, vN Z, vS 0 A.length, vS 1 B.length, vS 2 C.length]]) (by kernel_rfl) rfl (by kernel_rfl) (Sound.lay (E := [nW A, nW B, nW C]) [0, 1, 2] (toSh_sss ((X : Nat) : Int) ((Y : Nat) : Int) ((Z : Nat) : Int) A B C (by first | omega | assumption) (by first | omega | assumption) (by first | omega | assumption)) ⟨rdF false (flatNums _ _ _ _) rfl rfl, ⟨rdF false (flatNums _ _ _ _) rfl rfl, ⟨rdF false (flatNums _ _ _ _) rfl rfl, trivial⟩⟩⟩ rfl ⟨clF (flatNums _ _ _ _), ⟨clF (flatNums _ _ _ _), ⟨clF (flatNums _ _ _ _), trivial⟩⟩⟩ rfl (by first | rfl | simp [mpV, mpA, mpS, mpP, renId, shift]) (by first | rfl | simp [mpV, mpA, mpS, mpP, renId, shift]) ⟨enF (flatNums _ _ _ _) (Or.inl rfl), ⟨enF (flatNums _ _ _ _) (Or.inl rfl), ⟨enF (flatNums _ _ _ _) (Or.inl rfl), trivial⟩⟩⟩) ?_
    refine seg 1 (T1 := (mkT 101 [(1, vI 2), (2, vP 3 0), (6, vP 10 0), (7, .bool true), (9, vP 18 0), (12, vN (1 + RA.length + RB.length + RC.length)), (76, .bool false), (78, .agg #[vN X, vN Y, vN Z, vS 0 A.length, vS 1 B.length, vS 2 C.length]), (79, .agg #[vN X, vN Y, vN Z, vS 22 A.length, vS 23 B.length, vS 24 C.length]), (80, vI 2)])) (H1 := [nR A, nR B, nR C, rB [vN X, vN Y, vN Z, vS 0 A.length, vS 1 B.length, vS 2 C.length] 24, nW A, nW B, nW C, nW RA, nW RB, nW RC, rB [vN X, vN Y, vN Z, vS 7 RA.length, vS 8 RB.length, vS 9 RC.length] 27, nW (mkI 1 A.length), nW (mkI (1 + A.length) B.length), nW (mkI (1 + A.length + B.length) C.length), rB [vN X, vN Y, vN Z, vS 11 A.length, vS 12 B.length, vS 13 C.length] 27, nW (mkI 1 RA.length), nW (mkI (1 + RA.length) RB.length), nW (mkI (1 + RA.length + RB.length) RC.length), rB [vN X, vN Y, vN Z, vS 15 RA.length, vS 16 RB.length, vS 17 RC.length] 27, nW A, nW B, nW C, nW A, nW B, nW C]) (by kernel_rfl) ?_
    refine rCall (v := .tuple #[.agg #[vN X, vN Y, vN Z, vS 25 RA.length, vS 26 RB.length, vS 27 RC.length], .bool true]) (args := [.agg #[vN X, vN Y, vN Z, vS 22 A.length, vS 23 B.length, vS 24 C.length], vI 2]) (by kernel_rfl) rfl (by kernel_rfl) (Sound.lay (E := [nW RA, nW RB, nW RC]) [22, 23, 24] (implMirrorShadow_2RRR X Y Z A B C RA RB RC (by first | assumption | omega | rfl | decide | exact HeapL.list _ _ _ _ | exact HeapL.nil _ _ _ | exact HeapL.all _ _ _ | (apply HeapL.lt64 <;> assumption) | (repeat' (first | assumption | apply or_lt64 | apply and_lt64 | apply andn_lt64 | apply pow_lt64 | (apply HeapL.lt64 <;> assumption)))) (by first | assumption | omega | rfl | decide | exact HeapL.list _ _ _ _ | exact HeapL.nil _ _ _ | exact HeapL.all _ _ _ | (apply HeapL.lt64 <;> assumption) | (repeat' (first | assumption | apply or_lt64 | apply and_lt64 | apply andn_lt64 | apply pow_lt64 | (apply HeapL.lt64 <;> assumption)))) (by first | assumption | omega | rfl | decide | exact HeapL.list _ _ _ _ | exact HeapL.nil _ _ _ | exact HeapL.all _ _ _ | (apply HeapL.lt64 <;> assumption) | (repeat' (first | assumption | apply or_lt64 | apply and_lt64 | apply andn_lt64 | apply pow_lt64 | (apply HeapL.lt64 <;> assumption)))) (by first | assumption | omega | rfl | decide | exact HeapL.list _ _ _ _ | exact HeapL.nil _ _ _ | exact HeapL.all _ _ _ | (apply HeapL.lt64 <;> assumption) | (repeat' (first | assumption | apply or_lt64 | apply and_lt64 | apply andn_lt64 | apply pow_lt64 | (apply HeapL.lt64 <;> assumption)))) (by first | assumption | omega | rfl | decide | exact HeapL.list _ _ _ _ | exact HeapL.nil _ _ _ | exact HeapL.all _ _ _ | (apply HeapL.lt64 <;> assumption) | (repeat' (first | assumption | apply or_lt64 | apply and_lt64 | apply andn_lt64 | apply pow_lt64 | (apply HeapL.lt64 <;> assumption))))) ⟨rdF true (flatNums _ _ _ _) rfl rfl, ⟨rdF true (flatNums _ _ _ _) rfl rfl, ⟨rdF true (flatNums _ _ _ _) rfl rfl, trivial⟩⟩⟩ rfl ⟨clF (flatNums _ _ _ _), ⟨clF (flatNums _ _ _ _), ⟨clF (flatNums _ _ _ _), trivial⟩⟩⟩ rfl (by first | rfl | simp [mpV, mpA, mpS, mpP, renId, shift]) (by first | rfl | simp [mpV, mpA, mpS, mpP, renId, shift]) ⟨enF (flatNums _ _ _ _) (Or.inl rfl), ⟨enF (flatNums _ _ _ _) (Or.inl rfl), ⟨enF (flatNums _ _ _ _) (Or.inl rfl), trivial⟩⟩⟩) ?_
    refine segEnd [6, 7, 9, 12, 14, 15] (T1 := (mkT 101 [(6, vP 10 0), (7, .bool true), (9, vP 18 0), (12, vN (1 + RA.length + RB.length + RC.length)), (14, vP 28 0), (15, .bool true)])) (H1 := [nR A, nR B, nR C, rB [vN X, vN Y, vN Z, vS 0 A.length, vS 1 B.length, vS 2 C.length] 24, nW A, nW B, nW C, nW RA, nW RB, nW RC, rB [vN X, vN Y, vN Z, vS 7 RA.length, vS 8 RB.length, vS 9 RC.length] 27, nW (mkI 1 A.length), nW (mkI (1 + A.length) B.length), nW (mkI (1 + A.length + B.length) C.length), rB [vN X, vN Y, vN Z, vS 11 A.length, vS 12 B.length, vS 13 C.length] 27, nW (mkI 1 RA.length), nW (mkI (1 + RA.length) RB.length), nW (mkI (1 + RA.length + RB.length) RC.length), rB [vN X, vN Y, vN Z, vS 15 RA.length, vS 16 RB.length, vS 17 RC.length] 27, nW A, nW B, nW C, nW A, nW B, nW C, nW RA, nW RB, nW RC, rB [vN X, vN Y, vN Z, vS 25 RA.length, vS 26 RB.length, vS 27 RC.length] 27]) (by kernel_rfl) ?_
    refine kSeq ?_
    refine cSeq ?_
    refine cSeq ?_
    refine cReg ?_
    refine segH 2 (T1 := (mkT 101 [(6, vP 10 0), (7, .bool true), (9, vP 18 0), (12, vN (1 + RA.length + RB.length + RC.length)), (14, vP 28 0), (15, .bool true), (84, .agg #[vN X, vN Y, vN Z, vS 25 RA.length, vS 26 RB.length, vS 27 RC.length]), (85, .agg #[vN X, vN Y, vN Z, vS 7 RA.length, vS 8 RB.length, vS 9 RC.length])])) (by kernel_rfl) ?_
    refine rCall (v := .bool true) (args := [.agg #[vN X, vN Y, vN Z, vS 25 RA.length, vS 26 RB.length, vS 27 RC.length], .agg #[vN X, vN Y, vN Z, vS 7 RA.length, vS 8 RB.length, vS 9 RC.length]]) (by kernel_rfl) rfl (by kernel_rfl) (Sound.lay0 [25, 26, 27, 7, 8, 9] (eqSh ((X : Nat) : Int) ((Y : Nat) : Int) ((Z : Nat) : Int) RA RB RC (by first | omega | assumption | (simp; done)) (by first | omega | assumption | (simp; done)) (by first | omega | assumption | (simp; done))) ⟨rdF true (flatNums _ _ _ _) rfl rfl, ⟨rdF true (flatNums _ _ _ _) rfl rfl, ⟨rdF true (flatNums _ _ _ _) rfl rfl, ⟨rdF true (flatNums _ _ _ _) rfl rfl, ⟨rdF true (flatNums _ _ _ _) rfl rfl, ⟨rdF true (flatNums _ _ _ _) rfl rfl, trivial⟩⟩⟩⟩⟩⟩ rfl ⟨clF (flatNums _ _ _ _), ⟨clF (flatNums _ _ _ _), ⟨clF (flatNums _ _ _ _), ⟨clF (flatNums _ _ _ _), ⟨clF (flatNums _ _ _ _), ⟨clF (flatNums _ _ _ _), trivial⟩⟩⟩⟩⟩⟩ rfl (by first | rfl | simp [mpV, mpA, mpS, mpP, renId, shift]) rfl) ?_
    refine segEndH [9, 12, 92] (T1 := (mkT 101 [(9, vP 18 0), (12, vN (1 + RA.length + RB.length + RC.length)), (92, .bool false)])) (by kernel_rfl) ?_
    refine kSeq ?_
    refine cFalse (by kernel_rfl) ?_
    refine cSkip ?_
    refine kSeq ?_
    refine cSeq ?_
    refine cReg ?_
    refine segEndH [9, 12, 13] (T1 := (mkT 101 [(9, vP 18 0), (12, vN (1 + RA.length + RB.length + RC.length)), (13, vI 1)])) (by kernel_rfl) ?_
    refine kSeq ?_
    refine cSeq ?_
    refine cReg ?_
    refine segH 2 (T1 := (mkT 101 [(9, vP 18 0), (12, vN (1 + RA.length + RB.length + RC.length)), (13, vI 1), (93, .agg #[vN X, vN Y, vN Z, vS 15 RA.length, vS 16 RB.length, vS 17 RC.length]), (94, vI 1)])) (by kernel_rfl) ?_
    refine rCall (v := vN (1 + RA.length + RB.length + RC.length)) (args := [.agg #[vN X, vN Y, vN Z, vS 15 RA.length, vS 16 RB.length, vS 17 RC.length], vI 1]) (by kernel_rfl) rfl (by kernel_rfl) (Sound.lay0 [15, 16, 17] (heldSh ((X : Nat) : Int) ((Y : Nat) : Int) ((Z : Nat) : Int) RA.length RB.length RC.length 1 (by omega) (by omega) (by omega) (by first | assumption | omega | rfl | decide | exact HeapL.list _ _ _ _ | exact HeapL.nil _ _ _ | exact HeapL.all _ _ _ | (apply HeapL.lt64 <;> assumption) | (repeat' (first | assumption | apply or_lt64 | apply and_lt64 | apply andn_lt64 | apply pow_lt64 | (apply HeapL.lt64 <;> assumption))))) ⟨rdF true (flatNums _ _ _ _) rfl rfl, ⟨rdF true (flatNums _ _ _ _) rfl rfl, ⟨rdF true (flatNums _ _ _ _) rfl rfl, trivial⟩⟩⟩ rfl ⟨clF (flatNums _ _ _ _), ⟨clF (flatNums _ _ _ _), ⟨clF (flatNums _ _ _ _), trivial⟩⟩⟩ rfl (by first | rfl | simp [mpV, mpA, mpS, mpP, renId, shift]) rfl) ?_
    refine segEndH [12, 13] (T1 := (mkT 101 [(12, vN (1 + RA.length + RB.length + RC.length)), (13, vN (1 + RA.length + RB.length + RC.length))])) (by kernel_rfl) ?_
    refine kSeq ?_
    refine cSeq ?_
    refine cSeq ?_
    refine cReg ?_
    refine segEndH [12, 13, 97] (T1 := (mkT 101 [(12, vN (1 + RA.length + RB.length + RC.length)), (13, vN (1 + RA.length + RB.length + RC.length)), (97, .bool (decide (((1 + RA.length + RB.length + RC.length : Nat) : Int) < 0)))])) (by kernel_rfl) ?_
    refine kSeq ?_
    cases h4 : (decide (((1 + RA.length + RB.length + RC.length : Nat) : Int) < 0) : Bool)
    ·
     (try simp only [bs0, bs1, bs2, bs3, beq_iff_eq, bne_iff_ne, beq_eq_false_iff_ne, bne_eq_false_iff_eq, ne_eq, bs4, bs5, bs6, bs7, bs8, bs9, bs10, bs11, ge_iff_le, gt_iff_lt] at h4)
     refine cFalse (by kernel_rfl) ?_
     refine cSkip ?_
     refine kSeq ?_
     refine cSeq ?_
     refine cSeq ?_
     refine cReg ?_
     refine segH 2 (T1 := (mkT 101 [(12, vN (1 + RA.length + RB.length + RC.length)), (13, vN (1 + RA.length + RB.length + RC.length)), (97, .bool false), (98, vN (1 + RA.length + RB.length + RC.length)), (99, vN (1 + RA.length + RB.length + RC.length))])) (by kernel_rfl) ?_
     refine rOp (v := .bool false) (by kernel_rfl) (eNeS (k := .i64) (a := ((1 + RA.length + RB.length + RC.length : Nat) : Int)) (by kernel_rfl) (by kernel_rfl)) ?_
     refine segEndH [100] (T1 := (mkT 101 [(100, .bool false)])) (by kernel_rfl) ?_
     refine kSeq ?_
     refine cFalse (by kernel_rfl) ?_
     refine cSkip ?_
     refine kSeq ?_
     refine cSeq ?_
     refine cReg ?_
     refine segEndH [4] (T1 := (mkT 101 [(4, .bool true)])) (by kernel_rfl) ?_
     refine kSeq ?_
     refine cRet ?_
     exact endQ (Or.inr rfl) (l := [.bool true]) [rB [vN X, vN Y, vN Z, vS 0 A.length, vS 1 B.length, vS 2 C.length] 24, nW A, nW B, nW C, nW RA, nW RB, nW RC, rB [vN X, vN Y, vN Z, vS 7 RA.length, vS 8 RB.length, vS 9 RC.length] 27, nW (mkI 1 A.length), nW (mkI (1 + A.length) B.length), nW (mkI (1 + A.length + B.length) C.length), rB [vN X, vN Y, vN Z, vS 11 A.length, vS 12 B.length, vS 13 C.length] 27, nW (mkI 1 RA.length), nW (mkI (1 + RA.length) RB.length), nW (mkI (1 + RA.length + RB.length) RC.length), rB [vN X, vN Y, vN Z, vS 15 RA.length, vS 16 RB.length, vS 17 RC.length] 27, nW A, nW B, nW C, nW A, nW B, nW C, nW RA, nW RB, nW RC, rB [vN X, vN Y, vN Z, vS 25 RA.length, vS 26 RB.length, vS 27 RC.length] 27] (by kernel_rfl) (by first | rfl | kernel_rfl) rfl rfl hcl rfl
    ·
     (try simp only [bs0, bs1, bs2, bs3, beq_iff_eq, bne_iff_ne, beq_eq_false_iff_ne, bne_eq_false_iff_eq, ne_eq, bs4, bs5, bs6, bs7, bs8, bs9, bs10, bs11, ge_iff_le, gt_iff_lt] at h4)
     exfalso; omega
   ·
    (try simp only [bs0, bs1, bs2, bs3, beq_iff_eq, bne_iff_ne, beq_eq_false_iff_ne, bne_eq_false_iff_eq, ne_eq, bs4, bs5, bs6, bs7, bs8, bs9, bs10, bs11, ge_iff_le, gt_iff_lt] at h3)
    exfalso; omega
  ·
   (try simp only [bs0, bs1, bs2, bs3, beq_iff_eq, bne_iff_ne, beq_eq_false_iff_ne, bne_eq_false_iff_eq, ne_eq, bs4, bs5, bs6, bs7, bs8, bs9, bs10, bs11, ge_iff_le, gt_iff_lt] at h2)
   exfalso; omega
 ·
  (try simp only [bs0, bs1, bs2, bs3, beq_iff_eq, bne_iff_ne, beq_eq_false_iff_ne, bne_eq_false_iff_eq, ne_eq, bs4, bs5, bs6, bs7, bs8, bs9, bs10, bs11, ge_iff_le, gt_iff_lt] at h1)
  exfalso; omega
end Go.Proofs.Ytbheeobnghlckaa
set_option linter.unusedVariables false
set_option linter.unusedSimpArgs false
namespace Go.Am
open Go.RowKit Go.ChangeShapes Go.WideShapes Go.ChangeAt
section
variable {H : Type} {enc : TypeId × Value → H} {P : Program} {W : World} {base : Nat} {spare : Nat → Bool} {held : Bool}
end
theorem rep_ro {P : Program} {ρ : Ren} {W : World} {H : Heap} (hf : FlatH H) (h : ∀ (i : Nat) (r : Row), H[i]? = some (some r) → r.wr = false ∧ RepRow P ρ W (ρ i) r) : Rep P ρ H W :=
  ⟨fun i r hi => (h i r hi).2, (fun i j r s hi hj hw => by rw [(h i r hi).1] at hw; cases hw), hf.closed⟩
end Go.Am
namespace Go.Am
open Go.RowKit Go.ChangeShapes Go.WideShapes Go.ChangeAt
end Go.Am
namespace Go.Am
open Go.RowKit Go.ChangeShapes Go.WideShapes Go.ChangeAt
end Go.Am
set_option linter.unusedVariables false
set_option linter.unusedSimpArgs false
namespace Go.Am
open Go.RowKit Go.ChangeShapes Go.WideShapes Go.ChangeAt
theorem open_slice_cell {P : Program} {W : World} {b0 : Nat} {ts te : TypeId} {v : Value} (hts : P.underlying ts = some (.slice te)) (hval : Value.okWide P W .any b0 ts v) :
    (∃ len cap, v = .slice none len cap) ∨ ∃ (a : Addr) (len cap : Nat), v = .slice (some a) len cap ∧ a.spot = none ∧ W.has P .any b0 a te cap := by
  unfold Value.okWide at hval
  rw [hts] at hval
  simp only at hval
  unfold Cell.okWide at hval
  rw [hts] at hval
  simp only at hval
  unfold Cell.ok at hval
  rw [hts] at hval
  cases v <;> simp only at hval <;> first | exact hval.elim | skip
  case slice a len cap =>
    cases a with
    | none => exact Or.inl ⟨len, cap, rfl⟩
    | some a => exact Or.inr ⟨a, len, cap, rfl, hval.2.2.2.1, hval.2.2⟩
theorem nums_of_trod {HT : Type} {enc : TypeId × Value → HT} {P : Program} {W : World} {base : Nat} {spare : Nat → Bool} {held : Bool} {ts te : TypeId} {fuel : Nat} {cs : List Value} {x : DataW HT × List MemPlace} (hts : P.underlying ts = some (.slice te)) (hte : P.underlying te = some (.int .i64)) (hce : P.cellsOf te = 1)
    (h : DataW.trod enc P W base spare held fuel ts cs = some x) :
    cs = [.slice none 0 0] ∨ ∃ (a : Addr) (cap : Nat) (L : List Int), cs = [.slice (some a) L.length cap] ∧ L.length ≤ cap ∧ cap ≤ maxLen ∧ (∀ n ∈ L, (Lit.int .i64 n).wf = true) ∧ ∀ (j : Nat) (v : Value), (nums L)[j]? = some v → W.cell? (a.add j) = some v := by
  rcases open_ints hts hte hce h with h0 | ⟨a, len, cap, zs, rfl, _, hl, hm, hz, _, hc, hwf⟩
  · exact Or.inl h0.1
  right
  have hle : len ≤ zs.length := by rw [hz]; split <;> omega
  have hlen : (zs.take len).length = len := by simp; omega
  refine ⟨a, cap, zs.take len, by rw [hlen], by omega, hm, fun n hn => hwf n (List.mem_of_mem_take hn), fun j v hv => ?_⟩
  have hj := lt_of_some hv
  rw [nums_length, hlen] at hj
  rw [hc j (by omega)]
  simp only [nums, List.getElem?_map, List.getElem?_take] at hv
  rw [if_pos hj, List.getElem?_eq_getElem (show j < zs.length by omega)] at hv
  simp only [Option.map_some, Option.some.injEq] at hv
  rw [← hv, List.getD_eq_getElem?_getD, List.getElem?_eq_getElem (show j < zs.length by omega)]
  rfl
theorem repRow_nums {P : Program} {ρ : Ren} {W : World} {a : Addr} {cap : Nat} {L : List Int} {ta : TypeId} {n : Nat} (hca : P.cellsOf ta = 1) (hs : P.underlying ta ≠ none → W.has P .any n a ta cap) (hu : P.underlying ta ≠ none)
    (hcell : ∀ (j : Nat) (v : Value), (nums L)[j]? = some v → W.cell? (a.add j) = some v) (hlen : L.length ≤ cap) : RepRow P ρ W ⟨a.block, a.off, cap⟩ ⟨nums L, ta, false, false⟩ := by
  obtain ⟨_, hspot, row, cells, hsh, _⟩ := hs hu
  unfold World.shape? at hsh
  split at hsh
  · rename_i cur e fz hb
    refine ⟨⟨cur, e, fz, hb, fun j v hv => ?_, fun h => (by cases h), fun _ => ?_⟩, fun v hv => ?_⟩
    · have h := hcell j v hv
      have hfl := flatNums L ta false false v (List.mem_of_getElem? hv)
      rw [mapS, hfl.2]
      unfold World.cell? at h
      have hab : (a.add j).block = a.block := by unfold Addr.add; split <;> rfl
      have hao : (a.add j).off = a.off + j := by
        unfold Addr.add
        split
        · rename_i h0; rw [h0, Nat.add_zero]
        · rfl
      rw [hab, hb] at h
      simp only at h
      split at h
      · cases h
      · rw [hao] at h; exact h
    · simp only [nums_length, hca]; omega
    · exact scal_flat ((List.all_eq_true.1 (nums_all L)) v hv)
  · cases hsh
end Go.Am
