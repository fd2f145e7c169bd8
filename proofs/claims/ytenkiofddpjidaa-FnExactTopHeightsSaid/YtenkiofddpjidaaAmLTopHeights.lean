/- A law, whole: the walks, and the row. No condition. -/
import Derived.Test.YtenkiofddpjidaaAmJ8
import Derived.Test.YtenkiofddpjidaaAmR
import Derived.WalkKit
import Derived.ProofKit
import Derived.OpenShut
import Derived.ShutString
import Derived.ChangeOld
import Derived.Below
import Derived.SizedLaws
set_option linter.unusedVariables false
set_option linter.unusedSimpArgs false
namespace Go.Proofs.Ytenkiofddpjidaa
open Go.Am Go.RowKit
theorem specTop_yesR (X : Nat) (Y : Nat) (Z : Nat) (L : List A3) (R : List Int) (hs : Sides X Y Z) (hL : HeapL X Y Z L) (hR : R = topT X Y L L.length) : Sound Try.prog 46 [.agg #[vN X, vN Y, vN Z, vS 0 L.length]] [some ⟨a3s L, 25, false, false⟩] (.tuple #[vS 1 R.length, .bool true]) [some ⟨a3s L, 25, false, false⟩, some ⟨nums R, 3, false, true⟩] := by
  subst hR; exact specTop_yes X Y Z L hs hL

theorem implTop_yesR (X : Nat) (Y : Nat) (Z : Nat) (L : List A3) (R : List Int) (hs : Sides X Y Z) (hL : HeapL X Y Z L) (hR : R = topT X Y L L.length) : Sound Try.prog 47 [.agg #[vN X, vN Y, vN Z, vS 0 L.length]] [some ⟨a3s L, 25, false, false⟩] (.tuple #[vS 1 R.length, .bool true]) [some ⟨a3s L, 25, false, false⟩, some ⟨nums R, 3, false, true⟩] := by
  subst hR; exact implTop_yes X Y Z L hs hL

set_option maxRecDepth 100000 in
set_option maxHeartbeats 4000000 in
theorem lawTopHeights_big_s (x : Int) (y : Int) (z : Int) (L : List A3) (hl : 1048576 < L.length) (hm : L.length ≤ 9223372036854775807) : Sound Try.prog 14 [.agg #[vI x, vI y, vI z, vS 0 L.length]] [some ⟨a3s L, 25, false, false⟩] (.bool true) [some ⟨a3s L, 25, false, false⟩] := by
  refine sound_intro (C := cx) Try.func14 rfl (by kernel_rfl) fun hcl => ?_
  refine cSeq ?_
  refine cReg ?_
  refine segEnd [1] (T1 := (mkT 96 [(1, vP 1 0)])) (H1 := [some ⟨a3s L, 25, false, false⟩, rB [vI x, vI y, vI z, vS 0 L.length] 24]) (by kernel_rfl) ?_
  refine kSeq ?_
  refine cSeq ?_
  refine cReg ?_
  refine segEndH [1, 3] (T1 := (mkT 96 [(1, vP 1 0), (3, vI 1048576)])) (by kernel_rfl) ?_
  refine kSeq ?_
  refine cSeq ?_
  refine cReg ?_
  refine segH 2 (T1 := (mkT 96 [(1, vP 1 0), (3, vI 1048576), (14, .agg #[vI x, vI y, vI z, vS 0 L.length]), (15, vI 1048576)])) (by kernel_rfl) ?_
  refine rCall (v := vI (-1)) (args := [.agg #[vI x, vI y, vI z, vS 0 L.length], vI 1048576]) (by kernel_rfl) rfl (by kernel_rfl) (Sound.lay0 [0] (szHeapG x y z L 1048576 (by first | omega | assumption | (simp; done)) (by first | assumption | omega | rfl | decide | exact HeapL.list _ _ _ _ | exact HeapL.nil _ _ _ | exact HeapL.all _ _ _ | (apply HeapL.lt64 <;> assumption) | (repeat' (first | assumption | apply or_lt64 | apply and_lt64 | apply andn_lt64 | apply pow_lt64 | (apply HeapL.lt64 <;> assumption)))) (by first | omega | assumption | decide)) ⟨rdF false (flatA3 _ _ _ _) rfl rfl, trivial⟩ rfl ⟨clF (flatA3 _ _ _ _), trivial⟩ rfl (by first | rfl | simp [mpV, mpA, mpS, mpP, renId, shift]) rfl) ?_
  refine segEndH [1, 3] (T1 := (mkT 96 [(1, vP 1 0), (3, vI (-1))])) (by kernel_rfl) ?_
  refine kSeq ?_
  refine cSeq ?_
  refine cSeq ?_
  refine cReg ?_
  refine segEndH [1, 18] (T1 := (mkT 96 [(1, vP 1 0), (18, .bool true)])) (by kernel_rfl) ?_
  refine kSeq ?_
  refine cTrue (by kernel_rfl) ?_
  refine cSeq ?_
  refine cReg ?_
  refine segEndH [2] (T1 := (mkT 96 [(2, .bool true)])) (by kernel_rfl) ?_
  refine kSeq ?_
  refine cRet ?_
  refine kSeqR ?_
  -- end
  exact endQ (Or.inr rfl) (l := [.bool true]) [rB [vI x, vI y, vI z, vS 0 L.length] 24] (by kernel_rfl) (by first | rfl | kernel_rfl) rfl rfl hcl rfl

set_option maxRecDepth 100000 in
set_option maxHeartbeats 4000000 in
theorem lawTopHeights_no_s (x : Int) (y : Int) (z : Int) (L : List A3) (hl : L.length ≤ 1048576) (hv : isHeapB x y z L = false) : Sound Try.prog 14 [.agg #[vI x, vI y, vI z, vS 0 L.length]] [some ⟨a3s L, 25, false, false⟩] (.bool true) [some ⟨a3s L, 25, false, false⟩] := by
  refine sound_intro (C := cx) Try.func14 rfl (by kernel_rfl) fun hcl => ?_
  refine cSeq ?_
  refine cReg ?_
  refine segEnd [1] (T1 := (mkT 96 [(1, vP 1 0)])) (H1 := [some ⟨a3s L, 25, false, false⟩, rB [vI x, vI y, vI z, vS 0 L.length] 24]) (by kernel_rfl) ?_
  refine kSeq ?_
  refine cSeq ?_
  refine cReg ?_
  refine segEndH [1, 3] (T1 := (mkT 96 [(1, vP 1 0), (3, vI 1048576)])) (by kernel_rfl) ?_
  refine kSeq ?_
  refine cSeq ?_
  refine cReg ?_
  refine segH 2 (T1 := (mkT 96 [(1, vP 1 0), (3, vI 1048576), (14, .agg #[vI x, vI y, vI z, vS 0 L.length]), (15, vI 1048576)])) (by kernel_rfl) ?_
  refine rCall (v := vN (1048576 - L.length)) (args := [.agg #[vI x, vI y, vI z, vS 0 L.length], vI 1048576]) (by kernel_rfl) rfl (by kernel_rfl) (Sound.lay0 [0] (szHeapS x y z L 1048576 (by first | omega | assumption | (simp; done)) (by first | omega | assumption | decide)) ⟨rdF false (flatA3 _ _ _ _) rfl rfl, trivial⟩ rfl ⟨clF (flatA3 _ _ _ _), trivial⟩ rfl (by first | rfl | simp [mpV, mpA, mpS, mpP, renId, shift]) rfl) ?_
  refine segEndH [1, 3] (T1 := (mkT 96 [(1, vP 1 0), (3, vN (1048576 - L.length))])) (by kernel_rfl) ?_
  refine kSeq ?_
  refine cSeq ?_
  refine cSeq ?_
  refine cReg ?_
  refine segEndH [1, 18] (T1 := (mkT 96 [(1, vP 1 0), (18, .bool (decide (((1048576 - L.length : Nat) : Int) < 0)))])) (by kernel_rfl) ?_
  refine kSeq ?_
  cases h1 : (decide (((1048576 - L.length : Nat) : Int) < 0) : Bool)
  ·
    (try simp only [Bool.not_eq_true', Bool.not_eq_false', decide_eq_true_eq, decide_eq_false_iff_not, beq_iff_eq, bne_iff_ne, beq_eq_false_iff_ne, bne_eq_false_iff_eq, ne_eq, Decidable.not_not, Bool.and_eq_true, Bool.and_eq_false_imp, Bool.or_eq_true, Bool.or_eq_false_iff, Bool.not_eq_true, Int.not_lt, Int.not_le, ge_iff_le, gt_iff_lt] at h1)
    refine cFalse (by kernel_rfl) ?_
    refine cSkip ?_
    refine kSeq ?_
    refine cSeq ?_
    refine cReg ?_
    refine segH 1 (T1 := (mkT 96 [(1, vP 1 0), (18, .bool false), (20, .agg #[vI x, vI y, vI z, vS 0 L.length])])) (by kernel_rfl) ?_
    refine rCall (v := .agg #[vI x, vI y, vI z, vS 2 L.length]) (args := [.agg #[vI x, vI y, vI z, vS 0 L.length]]) (by kernel_rfl) rfl (by kernel_rfl) (Sound.lay (E := [some ⟨a3s L, 25, false, true⟩]) [0] (toHeapB x y z L (by first | omega | assumption | (simp; done))) ⟨rdF false (flatA3 _ _ _ _) rfl rfl, trivial⟩ rfl ⟨clF (flatA3 _ _ _ _), trivial⟩ rfl (by first | rfl | simp [mpV, mpA, mpS, mpP, renId, shift]) (by first | rfl | simp [mpV, mpA, mpS, mpP, renId, shift]) ⟨enF (flatA3 _ _ _ _) (Or.inl rfl), trivial⟩) ?_
    refine rCall (v := .tuple #[vS 3 0, .bool false]) (args := [.agg #[vI x, vI y, vI z, vS 2 L.length]]) (by kernel_rfl) rfl (by kernel_rfl) (Sound.lay (E := [some ⟨[], 3, false, true⟩]) [2] (specTop_no x y z L (by first | assumption | omega | rfl | decide | exact HeapL.list _ _ _ _ | exact HeapL.nil _ _ _ | exact HeapL.all _ _ _ | (apply HeapL.lt64 <;> assumption) | (repeat' (first | assumption | apply or_lt64 | apply and_lt64 | apply andn_lt64 | apply pow_lt64 | (apply HeapL.lt64 <;> assumption)))) (by first | assumption | omega | rfl | decide | exact HeapL.list _ _ _ _ | exact HeapL.nil _ _ _ | exact HeapL.all _ _ _ | (apply HeapL.lt64 <;> assumption) | (repeat' (first | assumption | apply or_lt64 | apply and_lt64 | apply andn_lt64 | apply pow_lt64 | (apply HeapL.lt64 <;> assumption))))) ⟨rdF true (flatA3 _ _ _ _) rfl rfl, trivial⟩ rfl ⟨clF (flatA3 _ _ _ _), trivial⟩ rfl (by first | rfl | simp [mpV, mpA, mpS, mpP, renId, shift]) (by first | rfl | simp [mpV, mpA, mpS, mpP, renId, shift]) ⟨enX rfl (Or.inl rfl), trivial⟩) ?_
    refine segEnd [1, 4, 5] (T1 := (mkT 96 [(1, vP 1 0), (4, vS 3 0), (5, .bool false)])) (H1 := [some ⟨a3s L, 25, false, false⟩, rB [vI x, vI y, vI z, vS 0 L.length] 24, some ⟨a3s L, 25, false, true⟩, some ⟨[], 3, false, true⟩]) (by kernel_rfl) ?_
    refine kSeq ?_
    refine cSeq ?_
    refine cReg ?_
    refine segH 1 (T1 := (mkT 96 [(1, vP 1 0), (4, vS 3 0), (5, .bool false), (25, .agg #[vI x, vI y, vI z, vS 0 L.length])])) (by kernel_rfl) ?_
    refine rCall (v := .agg #[vI x, vI y, vI z, vS 4 L.length]) (args := [.agg #[vI x, vI y, vI z, vS 0 L.length]]) (by kernel_rfl) rfl (by kernel_rfl) (Sound.lay (E := [some ⟨a3s L, 25, false, true⟩]) [0] (toHeapB x y z L (by first | omega | assumption | (simp; done))) ⟨rdF false (flatA3 _ _ _ _) rfl rfl, trivial⟩ rfl ⟨clF (flatA3 _ _ _ _), trivial⟩ rfl (by first | rfl | simp [mpV, mpA, mpS, mpP, renId, shift]) (by first | rfl | simp [mpV, mpA, mpS, mpP, renId, shift]) ⟨enF (flatA3 _ _ _ _) (Or.inl rfl), trivial⟩) ?_
    refine segEnd [1, 4, 5, 6] (T1 := (mkT 96 [(1, vP 1 0), (4, vS 3 0), (5, .bool false), (6, vP 5 0)])) (H1 := [some ⟨a3s L, 25, false, false⟩, rB [vI x, vI y, vI z, vS 0 L.length] 24, some ⟨a3s L, 25, false, true⟩, some ⟨[], 3, false, true⟩, some ⟨a3s L, 25, false, true⟩, rB [vI x, vI y, vI z, vS 4 L.length] 29]) (by kernel_rfl) ?_
    refine kSeq ?_
    refine cSeq ?_
    refine cReg ?_
    refine segH 1 (T1 := (mkT 96 [(1, vP 1 0), (4, vS 3 0), (5, .bool false), (6, vP 5 0), (28, .agg #[vI x, vI y, vI z, vS 4 L.length])])) (by kernel_rfl) ?_
    refine rCall (v := .tuple #[.slice none 0 0, .bool false]) (args := [.agg #[vI x, vI y, vI z, vS 4 L.length]]) (by kernel_rfl) rfl (by kernel_rfl) (Sound.lay0 [4] (implTop_no x y z L (by first | assumption | omega | rfl | decide | exact HeapL.list _ _ _ _ | exact HeapL.nil _ _ _ | exact HeapL.all _ _ _ | (apply HeapL.lt64 <;> assumption) | (repeat' (first | assumption | apply or_lt64 | apply and_lt64 | apply andn_lt64 | apply pow_lt64 | (apply HeapL.lt64 <;> assumption)))) (by first | assumption | omega | rfl | decide | exact HeapL.list _ _ _ _ | exact HeapL.nil _ _ _ | exact HeapL.all _ _ _ | (apply HeapL.lt64 <;> assumption) | (repeat' (first | assumption | apply or_lt64 | apply and_lt64 | apply andn_lt64 | apply pow_lt64 | (apply HeapL.lt64 <;> assumption))))) ⟨rdF true (flatA3 _ _ _ _) rfl rfl, trivial⟩ rfl ⟨clF (flatA3 _ _ _ _), trivial⟩ rfl (by first | rfl | simp [mpV, mpA, mpS, mpP, renId, shift]) (by first | rfl | simp [mpV, mpA, mpS, mpP, renId, shift])) ?_
    refine segEndH [1, 4, 5, 6, 7, 8] (T1 := (mkT 96 [(1, vP 1 0), (4, vS 3 0), (5, .bool false), (6, vP 5 0), (7, .slice none 0 0), (8, .bool false)])) (by kernel_rfl) ?_
    refine kSeq ?_
    refine cSeq ?_
    refine cSeq ?_
    refine cReg ?_
    refine segH 2 (T1 := (mkT 96 [(1, vP 1 0), (4, vS 3 0), (5, .bool false), (6, vP 5 0), (7, .slice none 0 0), (8, .bool false), (32, .slice none 0 0), (33, vS 3 0)])) (by kernel_rfl) ?_
    refine rCall (v := .bool true) (args := [.slice none 0 0, vS 3 0]) (by kernel_rfl) rfl (by kernel_rfl) (Sound.lay0 [3] (eqI_NE) ⟨rdX true rfl rfl, trivial⟩ rfl ⟨clX rfl, trivial⟩ rfl (by first | rfl | simp [mpV, mpA, mpS, mpP, renId, shift]) rfl) ?_
    refine segEndH [1, 4, 5, 6, 7, 8, 40] (T1 := (mkT 96 [(1, vP 1 0), (4, vS 3 0), (5, .bool false), (6, vP 5 0), (7, .slice none 0 0), (8, .bool false), (40, .bool false)])) (by kernel_rfl) ?_
    refine kSeq ?_
    refine cFalse (by kernel_rfl) ?_
    refine cSkip ?_
    refine kSeq ?_
    refine cSeq ?_
    refine cSeq ?_
    refine cRegW (N := 7) [⟨[], [], [5]⟩, ⟨[], [], [1]⟩, ⟨[6], [], [0]⟩, ⟨[], [], [4, 6]⟩, ⟨[], [], []⟩] 1 [6] (by rfl) (by rfl) (by kernel_rfl) (by kernel_rfl) (by kernel_rfl) ⟨nmsF (flatA3 _ _ _ _), ⟨nmsX (by kernel_rfl), ⟨nmsF (flatA3 _ _ _ _), ⟨nmsX (by kernel_rfl), ⟨nmsF (flatA3 _ _ _ _), ⟨nmsX (by kernel_rfl), trivial⟩⟩⟩⟩⟩⟩ ?_
    refine segWH 2 (T1 := (mkT 96 [(1, vP 1 0), (4, vS 3 0), (5, .bool false), (6, vP 5 0), (7, .slice none 0 0), (8, .bool false), (40, .bool false), (41, .agg #[vI x, vI y, vI z, vS 4 L.length]), (42, .agg #[vI x, vI y, vI z, vS 0 L.length])])) (by kernel_rfl) ?_
    refine rW (m := ⟨[6], [], [0]⟩) (v := .agg #[vI x, vI y, vI z, vS 6 L.length]) rfl (by kernel_rfl) (stN (i := 6) (E := [some ⟨a3s L, 25, false, true⟩]) (v1 := .agg #[vI x, vI y, vI z, vS 7 L.length]) (args := [.agg #[vI x, vI y, vI z, vS 0 L.length]]) rfl (by kernel_rfl) (Any.lay (E := [some ⟨a3s L, 25, false, true⟩]) (N := 7) [0] (toHeapB x y z L (by first | omega | assumption | (simp; done))) ⟨rdF false (flatA3 _ _ _ _) rfl rfl, trivial⟩ rfl ⟨clF (flatA3 _ _ _ _), trivial⟩ rfl (by first | rfl | simp [mpV, mpA, mpS, mpP, renId, shift]) (by first | rfl | simp [mpV, mpA, mpS, mpP, renId, shift]) ⟨enF (flatA3 _ _ _ _) (Or.inl rfl), trivial⟩) rfl (by kernel_rfl) (by kernel_rfl) (by kernel_rfl) (by kernel_rfl) (FlatH.cons (flatA3 _ _ _ _) FlatH.nil)) (by kernel_rfl) (NRs.all ⟨nrOf (by rfl) (nmF (flatA3 _ _ _ _)), trivial⟩) ?_
    refine rW (m := ⟨[], [], [4, 6]⟩) (v := .bool true) rfl (by kernel_rfl) (stQ (args := [.agg #[vI x, vI y, vI z, vS 4 L.length], .agg #[vI x, vI y, vI z, vS 6 L.length]]) rfl (by kernel_rfl) (Any.lay0 [4, 6] (eqHeapB x y z L (by first | omega | assumption | (simp; done))) ⟨rdF true (flatA3 _ _ _ _) rfl rfl, ⟨rdF true (flatA3 _ _ _ _) rfl rfl, trivial⟩⟩ rfl ⟨clF (flatA3 _ _ _ _), ⟨clF (flatA3 _ _ _ _), trivial⟩⟩ rfl (by first | rfl | simp [mpV, mpA, mpS, mpP, renId, shift]) rfl) rfl (by kernel_rfl) (by kernel_rfl)) (by kernel_rfl) nr0 ?_
    refine segEndW [1, 4, 5, 6, 7, 8, 45] (T1 := (mkT 96 [(1, vP 1 0), (4, vS 3 0), (5, .bool false), (6, vP 5 0), (7, .slice none 0 0), (8, .bool false), (45, .bool false)])) (H1 := [some ⟨a3s L, 25, false, false⟩, rB [vI x, vI y, vI z, vS 0 L.length] 24, some ⟨a3s L, 25, false, true⟩, some ⟨[], 3, false, true⟩, some ⟨a3s L, 25, false, true⟩, rB [vI x, vI y, vI z, vS 4 L.length] 29, some ⟨a3s L, 25, false, true⟩]) (by kernel_rfl) ?_
    refine kSeq ?_
    refine cFalse (by kernel_rfl) ?_
    refine cSkip ?_
    refine kSeq ?_
    refine cSeq ?_
    refine cReg ?_
    refine segEndH [1, 4, 5, 6, 7, 8, 9] (T1 := (mkT 96 [(1, vP 1 0), (4, vS 3 0), (5, .bool false), (6, vP 5 0), (7, .slice none 0 0), (8, .bool false), (9, vI 1)])) (by kernel_rfl) ?_
    refine kSeq ?_
    refine cSeq ?_
    refine cReg ?_
    refine segH 2 (T1 := (mkT 96 [(1, vP 1 0), (4, vS 3 0), (5, .bool false), (6, vP 5 0), (7, .slice none 0 0), (8, .bool false), (9, vI 1), (46, .agg #[vI x, vI y, vI z, vS 4 L.length]), (47, vI 1)])) (by kernel_rfl) ?_
    refine rCall (v := vN (1 + 3 * L.length)) (args := [.agg #[vI x, vI y, vI z, vS 4 L.length], vI 1]) (by kernel_rfl) rfl (by kernel_rfl) (Sound.emb_set (r := ⟨a3s L, 25, false, true⟩) (r' := ⟨a3s (mk3 1 L.length), 25, false, true⟩) 4 (markHeapB x y z L 1 (by first | omega | assumption | (simp; done)) (by first | assumption | omega | rfl | decide | exact HeapL.list _ _ _ _ | exact HeapL.nil _ _ _ | exact HeapL.all _ _ _ | (apply HeapL.lt64 <;> assumption) | (repeat' (first | assumption | apply or_lt64 | apply and_lt64 | apply andn_lt64 | apply pow_lt64 | (apply HeapL.lt64 <;> assumption))))) (flatA3 _ _ _ _) rfl (flatA3 _ _ _ _) rfl rfl rfl (by first | rfl | simp [mpV, mpA, mpS, mpP, renId, shift]) rfl) ?_
    refine segEnd [1, 4, 5, 7, 8, 9] (T1 := (mkT 96 [(1, vP 1 0), (4, vS 3 0), (5, .bool false), (7, .slice none 0 0), (8, .bool false), (9, vN (1 + 3 * L.length))])) (H1 := [some ⟨a3s L, 25, false, false⟩, rB [vI x, vI y, vI z, vS 0 L.length] 24, some ⟨a3s L, 25, false, true⟩, some ⟨[], 3, false, true⟩, some ⟨a3s (mk3 1 L.length), 25, false, true⟩, rB [vI x, vI y, vI z, vS 4 L.length] 29, some ⟨a3s L, 25, false, true⟩]) (by kernel_rfl) ?_
    refine kSeq ?_
    refine cSeq ?_
    refine cSeq ?_
    refine cReg ?_
    refine segH 3 (T1 := (mkT 96 [(1, vP 1 0), (4, vS 3 0), (5, .bool false), (7, .slice none 0 0), (8, .bool false), (9, vN (1 + 3 * L.length)), (49, vN (1 + 3 * L.length)), (50, .bool (decide (((1 + 3 * L.length : Nat) : Int) < 0))), (51, .bool (decide (((1 + 3 * L.length : Nat) : Int) < 0)))])) (by kernel_rfl) ?_
    cases h2 : (decide (((1 + 3 * L.length : Nat) : Int) < 0) : Bool)
    ·
      (try simp only [Bool.not_eq_true', Bool.not_eq_false', decide_eq_true_eq, decide_eq_false_iff_not, beq_iff_eq, bne_iff_ne, beq_eq_false_iff_ne, bne_eq_false_iff_eq, ne_eq, Decidable.not_not, Bool.and_eq_true, Bool.and_eq_false_imp, Bool.or_eq_true, Bool.or_eq_false_iff, Bool.not_eq_true, Int.not_lt, Int.not_le, ge_iff_le, gt_iff_lt] at h2)
      refine seg 2 (T1 := (mkT 96 [(1, vP 1 0), (4, vS 3 0), (5, .bool false), (7, .slice none 0 0), (8, .bool false), (9, vN (1 + 3 * L.length)), (49, vN (1 + 3 * L.length)), (50, .bool false), (51, .bool false), (52, .slice none 0 0), (53, vS 3 0)])) (H1 := [some ⟨a3s L, 25, false, false⟩, rB [vI x, vI y, vI z, vS 0 L.length] 24, some ⟨a3s L, 25, false, true⟩, some ⟨[], 3, false, true⟩, some ⟨a3s (mk3 1 L.length), 25, false, true⟩, rB [vI x, vI y, vI z, vS 4 L.length] 29, some ⟨a3s L, 25, false, true⟩]) (by kernel_rfl) ?_
      refine rCall (v := .bool true) (args := [.slice none 0 0, vS 3 0]) (by kernel_rfl) rfl (by kernel_rfl) (Sound.lay0 [3] (eqI_NE) ⟨rdX true rfl rfl, trivial⟩ rfl ⟨clX rfl, trivial⟩ rfl (by first | rfl | simp [mpV, mpA, mpS, mpP, renId, shift]) rfl) ?_
      refine segEnd [1, 4, 5, 7, 61] (T1 := (mkT 96 [(1, vP 1 0), (4, vS 3 0), (5, .bool false), (7, .slice none 0 0), (61, .bool false)])) (H1 := [some ⟨a3s L, 25, false, false⟩, rB [vI x, vI y, vI z, vS 0 L.length] 24, some ⟨a3s L, 25, false, true⟩, some ⟨[], 3, false, true⟩, some ⟨a3s (mk3 1 L.length), 25, false, true⟩, rB [vI x, vI y, vI z, vS 4 L.length] 29, some ⟨a3s L, 25, false, true⟩]) (by kernel_rfl) ?_
      refine kSeq ?_
      refine cFalse (by kernel_rfl) ?_
      refine cSkip ?_
      refine kSeq ?_
      refine cSeq ?_
      refine cReg ?_
      refine segEndH [1, 4, 5, 7, 10] (T1 := (mkT 96 [(1, vP 1 0), (4, vS 3 0), (5, .bool false), (7, .slice none 0 0), (10, vI 1)])) (by kernel_rfl) ?_
      refine kSeq ?_
      refine cSeq ?_
      refine cReg ?_
      refine segH 2 (T1 := (mkT 96 [(1, vP 1 0), (4, vS 3 0), (5, .bool false), (7, .slice none 0 0), (10, vI 1), (62, .slice none 0 0), (63, vI 1)])) (by kernel_rfl) ?_
      refine rCall (v := vI 1) (args := [.slice none 0 0, vI 1]) (by kernel_rfl) rfl (by kernel_rfl) (Sound.lay0 [] (markI_N 1) trivial rfl trivial rfl (by first | rfl | simp [mpV, mpA, mpS, mpP, renId, shift]) rfl) ?_
      refine segEndH [1, 4, 5, 7, 10] (T1 := (mkT 96 [(1, vP 1 0), (4, vS 3 0), (5, .bool false), (7, .slice none 0 0), (10, vI 1)])) (by kernel_rfl) ?_
      refine kSeq ?_
      refine cSeq ?_
      refine cReg ?_
      refine segEndH [1, 4, 5, 7, 10, 11] (T1 := (mkT 96 [(1, vP 1 0), (4, vS 3 0), (5, .bool false), (7, .slice none 0 0), (10, vI 1), (11, vI 1)])) (by kernel_rfl) ?_
      refine kSeq ?_
      refine cSeq ?_
      refine cReg ?_
      refine segH 2 (T1 := (mkT 96 [(1, vP 1 0), (4, vS 3 0), (5, .bool false), (7, .slice none 0 0), (10, vI 1), (11, vI 1), (65, .slice none 0 0), (66, vI 1)])) (by kernel_rfl) ?_
      refine rCall (v := vI 1) (args := [.slice none 0 0, vI 1]) (by kernel_rfl) rfl (by kernel_rfl) (Sound.lay0 [] (heldI_N 1) trivial rfl trivial rfl (by first | rfl | simp [mpV, mpA, mpS, mpP, renId, shift]) rfl) ?_
      refine segEndH [1, 4, 5, 7, 10, 11] (T1 := (mkT 96 [(1, vP 1 0), (4, vS 3 0), (5, .bool false), (7, .slice none 0 0), (10, vI 1), (11, vI 1)])) (by kernel_rfl) ?_
      refine kSeq ?_
      refine cSeq ?_
      refine cSeq ?_
      refine cReg ?_
      refine segEndH [1, 4, 5, 7, 10, 11, 69] (T1 := (mkT 96 [(1, vP 1 0), (4, vS 3 0), (5, .bool false), (7, .slice none 0 0), (10, vI 1), (11, vI 1), (69, .bool false)])) (by kernel_rfl) ?_
      refine kSeq ?_
      refine cFalse (by kernel_rfl) ?_
      refine cSkip ?_
      refine kSeq ?_
      refine cSeq ?_
      refine cSeq ?_
      refine cReg ?_
      refine segEndH [1, 4, 5, 7, 10, 72] (T1 := (mkT 96 [(1, vP 1 0), (4, vS 3 0), (5, .bool false), (7, .slice none 0 0), (10, vI 1), (72, .bool false)])) (by kernel_rfl) ?_
      refine kSeq ?_
      refine cFalse (by kernel_rfl) ?_
      refine cSkip ?_
      refine kSeq ?_
      refine cSeq ?_
      refine cReg ?_
      refine segH 1 (T1 := (mkT 96 [(1, vP 1 0), (4, vS 3 0), (5, .bool false), (7, .slice none 0 0), (10, vI 1), (72, .bool false), (74, .agg #[vI x, vI y, vI z, vS 0 L.length])])) (by kernel_rfl) ?_
      refine rCall (v := .agg #[vI x, vI y, vI z, vS 7 L.length]) (args := [.agg #[vI x, vI y, vI z, vS 0 L.length]]) (by kernel_rfl) rfl (by kernel_rfl) (Sound.lay (E := [some ⟨a3s L, 25, false, true⟩]) [0] (toHeapB x y z L (by first | omega | assumption | (simp; done))) ⟨rdF false (flatA3 _ _ _ _) rfl rfl, trivial⟩ rfl ⟨clF (flatA3 _ _ _ _), trivial⟩ rfl (by first | rfl | simp [mpV, mpA, mpS, mpP, renId, shift]) (by first | rfl | simp [mpV, mpA, mpS, mpP, renId, shift]) ⟨enF (flatA3 _ _ _ _) (Or.inl rfl), trivial⟩) ?_
      refine rCall (v := .tuple #[.slice none 0 0, .bool false]) (args := [.agg #[vI x, vI y, vI z, vS 7 L.length]]) (by kernel_rfl) rfl (by kernel_rfl) (Sound.lay0 [7] (implTop_no x y z L (by first | assumption | omega | rfl | decide | exact HeapL.list _ _ _ _ | exact HeapL.nil _ _ _ | exact HeapL.all _ _ _ | (apply HeapL.lt64 <;> assumption) | (repeat' (first | assumption | apply or_lt64 | apply and_lt64 | apply andn_lt64 | apply pow_lt64 | (apply HeapL.lt64 <;> assumption)))) (by first | assumption | omega | rfl | decide | exact HeapL.list _ _ _ _ | exact HeapL.nil _ _ _ | exact HeapL.all _ _ _ | (apply HeapL.lt64 <;> assumption) | (repeat' (first | assumption | apply or_lt64 | apply and_lt64 | apply andn_lt64 | apply pow_lt64 | (apply HeapL.lt64 <;> assumption))))) ⟨rdF true (flatA3 _ _ _ _) rfl rfl, trivial⟩ rfl ⟨clF (flatA3 _ _ _ _), trivial⟩ rfl (by first | rfl | simp [mpV, mpA, mpS, mpP, renId, shift]) (by first | rfl | simp [mpV, mpA, mpS, mpP, renId, shift])) ?_
      refine segEnd [4, 5, 7, 10, 12, 13] (T1 := (mkT 96 [(4, vS 3 0), (5, .bool false), (7, .slice none 0 0), (10, vI 1), (12, .slice none 0 0), (13, .bool false)])) (H1 := [some ⟨a3s L, 25, false, false⟩, rB [vI x, vI y, vI z, vS 0 L.length] 24, some ⟨a3s L, 25, false, true⟩, some ⟨[], 3, false, true⟩, some ⟨a3s (mk3 1 L.length), 25, false, true⟩, rB [vI x, vI y, vI z, vS 4 L.length] 29, some ⟨a3s L, 25, false, true⟩, some ⟨a3s L, 25, false, true⟩]) (by kernel_rfl) ?_
      refine kSeq ?_
      refine cSeq ?_
      refine cSeq ?_
      refine cReg ?_
      refine segH 2 (T1 := (mkT 96 [(4, vS 3 0), (5, .bool false), (7, .slice none 0 0), (10, vI 1), (12, .slice none 0 0), (13, .bool false), (79, .slice none 0 0), (80, vS 3 0)])) (by kernel_rfl) ?_
      refine rCall (v := .bool true) (args := [.slice none 0 0, vS 3 0]) (by kernel_rfl) rfl (by kernel_rfl) (Sound.lay0 [3] (eqI_NE) ⟨rdX true rfl rfl, trivial⟩ rfl ⟨clX rfl, trivial⟩ rfl (by first | rfl | simp [mpV, mpA, mpS, mpP, renId, shift]) rfl) ?_
      refine segEndH [7, 10, 87] (T1 := (mkT 96 [(7, .slice none 0 0), (10, vI 1), (87, .bool false)])) (by kernel_rfl) ?_
      refine kSeq ?_
      refine cFalse (by kernel_rfl) ?_
      refine cSkip ?_
      refine kSeq ?_
      refine cSeq ?_
      refine cReg ?_
      refine segEndH [7, 10, 11] (T1 := (mkT 96 [(7, .slice none 0 0), (10, vI 1), (11, vI 1)])) (by kernel_rfl) ?_
      refine kSeq ?_
      refine cSeq ?_
      refine cReg ?_
      refine segH 2 (T1 := (mkT 96 [(7, .slice none 0 0), (10, vI 1), (11, vI 1), (88, .slice none 0 0), (89, vI 1)])) (by kernel_rfl) ?_
      refine rCall (v := vI 1) (args := [.slice none 0 0, vI 1]) (by kernel_rfl) rfl (by kernel_rfl) (Sound.lay0 [] (heldI_N 1) trivial rfl trivial rfl (by first | rfl | simp [mpV, mpA, mpS, mpP, renId, shift]) rfl) ?_
      refine segEndH [10, 11] (T1 := (mkT 96 [(10, vI 1), (11, vI 1)])) (by kernel_rfl) ?_
      refine kSeq ?_
      refine cSeq ?_
      refine cSeq ?_
      refine cReg ?_
      refine segEndH [10, 11, 92] (T1 := (mkT 96 [(10, vI 1), (11, vI 1), (92, .bool false)])) (by kernel_rfl) ?_
      refine kSeq ?_
      refine cFalse (by kernel_rfl) ?_
      refine cSkip ?_
      refine kSeq ?_
      refine cSeq ?_
      refine cSeq ?_
      refine cReg ?_
      refine segEndH [95] (T1 := (mkT 96 [(95, .bool false)])) (by kernel_rfl) ?_
      refine kSeq ?_
      refine cFalse (by kernel_rfl) ?_
      refine cSkip ?_
      refine kSeq ?_
      refine cSeq ?_
      refine cReg ?_
      refine segEndH [2] (T1 := (mkT 96 [(2, .bool true)])) (by kernel_rfl) ?_
      refine kSeq ?_
      refine cRet ?_
      -- end
      exact endQ (Or.inr rfl) (l := [.bool true]) [rB [vI x, vI y, vI z, vS 0 L.length] 24, some ⟨a3s L, 25, false, true⟩, some ⟨[], 3, false, true⟩, some ⟨a3s (mk3 1 L.length), 25, false, true⟩, rB [vI x, vI y, vI z, vS 4 L.length] 29, some ⟨a3s L, 25, false, true⟩, some ⟨a3s L, 25, false, true⟩] (by kernel_rfl) (by first | rfl | kernel_rfl) rfl rfl hcl rfl
    ·
      (try simp only [Bool.not_eq_true', Bool.not_eq_false', decide_eq_true_eq, decide_eq_false_iff_not, beq_iff_eq, bne_iff_ne, beq_eq_false_iff_ne, bne_eq_false_iff_eq, ne_eq, Decidable.not_not, Bool.and_eq_true, Bool.and_eq_false_imp, Bool.or_eq_true, Bool.or_eq_false_iff, Bool.not_eq_true, Int.not_lt, Int.not_le, ge_iff_le, gt_iff_lt] at h2)
      exfalso; omega
  ·
    (try simp only [Bool.not_eq_true', Bool.not_eq_false', decide_eq_true_eq, decide_eq_false_iff_not, beq_iff_eq, bne_iff_ne, beq_eq_false_iff_ne, bne_eq_false_iff_eq, ne_eq, Decidable.not_not, Bool.and_eq_true, Bool.and_eq_false_imp, Bool.or_eq_true, Bool.or_eq_false_iff, Bool.not_eq_true, Int.not_lt, Int.not_le, ge_iff_le, gt_iff_lt] at h1)
    exfalso; omega

set_option maxRecDepth 100000 in
set_option maxHeartbeats 4000000 in
theorem lawTopHeights_no_n (x : Int) (y : Int) (z : Int) (hv : isHeapB x y z ([] : List A3) = false) : Sound Try.prog 14 [.agg #[vI x, vI y, vI z, .slice none 0 0]] [] (.bool true) [] := by
  refine sound_intro (C := cx) Try.func14 rfl (by kernel_rfl) fun hcl => ?_
  refine cSeq ?_
  refine cReg ?_
  refine segEnd [1] (T1 := (mkT 96 [(1, vP 0 0)])) (H1 := [rB [vI x, vI y, vI z, .slice none 0 0] 24]) (by kernel_rfl) ?_
  refine kSeq ?_
  refine cSeq ?_
  refine cReg ?_
  refine segEndH [1, 3] (T1 := (mkT 96 [(1, vP 0 0), (3, vI 1048576)])) (by kernel_rfl) ?_
  refine kSeq ?_
  refine cSeq ?_
  refine cReg ?_
  refine segH 2 (T1 := (mkT 96 [(1, vP 0 0), (3, vI 1048576), (14, .agg #[vI x, vI y, vI z, .slice none 0 0]), (15, vI 1048576)])) (by kernel_rfl) ?_
  refine rCall (v := vI 1048576) (args := [.agg #[vI x, vI y, vI z, .slice none 0 0], vI 1048576]) (by kernel_rfl) rfl (by kernel_rfl) (Sound.lay0 [] (szHeapN x y z 1048576 (by first | omega | assumption | decide)) trivial rfl trivial rfl (by first | rfl | simp [mpV, mpA, mpS, mpP, renId, shift]) rfl) ?_
  refine segEndH [1, 3] (T1 := (mkT 96 [(1, vP 0 0), (3, vI 1048576)])) (by kernel_rfl) ?_
  refine kSeq ?_
  refine cSeq ?_
  refine cSeq ?_
  refine cReg ?_
  refine segEndH [1, 18] (T1 := (mkT 96 [(1, vP 0 0), (18, .bool false)])) (by kernel_rfl) ?_
  refine kSeq ?_
  refine cFalse (by kernel_rfl) ?_
  refine cSkip ?_
  refine kSeq ?_
  refine cSeq ?_
  refine cReg ?_
  refine segH 1 (T1 := (mkT 96 [(1, vP 0 0), (18, .bool false), (20, .agg #[vI x, vI y, vI z, .slice none 0 0])])) (by kernel_rfl) ?_
  refine rCall (v := .agg #[vI x, vI y, vI z, vS 1 0]) (args := [.agg #[vI x, vI y, vI z, .slice none 0 0]]) (by kernel_rfl) rfl (by kernel_rfl) (Sound.lay (E := [some ⟨[], 25, false, true⟩]) [] (toHeapN x y z) trivial rfl trivial rfl (by first | rfl | simp [mpV, mpA, mpS, mpP, renId, shift]) (by first | rfl | simp [mpV, mpA, mpS, mpP, renId, shift]) ⟨enX rfl (Or.inl rfl), trivial⟩) ?_
  refine rCall (v := .tuple #[vS 2 0, .bool false]) (args := [.agg #[vI x, vI y, vI z, vS 1 0]]) (by kernel_rfl) rfl (by kernel_rfl) (Sound.lay (E := [some ⟨[], 3, false, true⟩]) [1] (specTop_no x y z ([] : List A3) (by first | assumption | omega | rfl | decide | exact HeapL.list _ _ _ _ | exact HeapL.nil _ _ _ | exact HeapL.all _ _ _ | (apply HeapL.lt64 <;> assumption) | (repeat' (first | assumption | apply or_lt64 | apply and_lt64 | apply andn_lt64 | apply pow_lt64 | (apply HeapL.lt64 <;> assumption)))) (by first | assumption | omega | rfl | decide | exact HeapL.list _ _ _ _ | exact HeapL.nil _ _ _ | exact HeapL.all _ _ _ | (apply HeapL.lt64 <;> assumption) | (repeat' (first | assumption | apply or_lt64 | apply and_lt64 | apply andn_lt64 | apply pow_lt64 | (apply HeapL.lt64 <;> assumption))))) ⟨rdF true (flatA3 _ _ _ _) rfl rfl, trivial⟩ rfl ⟨clF (flatA3 _ _ _ _), trivial⟩ rfl (by first | rfl | simp [mpV, mpA, mpS, mpP, renId, shift]) (by first | rfl | simp [mpV, mpA, mpS, mpP, renId, shift]) ⟨enX rfl (Or.inl rfl), trivial⟩) ?_
  refine segEnd [1, 4, 5] (T1 := (mkT 96 [(1, vP 0 0), (4, vS 2 0), (5, .bool false)])) (H1 := [rB [vI x, vI y, vI z, .slice none 0 0] 24, some ⟨[], 25, false, true⟩, some ⟨[], 3, false, true⟩]) (by kernel_rfl) ?_
  refine kSeq ?_
  refine cSeq ?_
  refine cReg ?_
  refine segH 1 (T1 := (mkT 96 [(1, vP 0 0), (4, vS 2 0), (5, .bool false), (25, .agg #[vI x, vI y, vI z, .slice none 0 0])])) (by kernel_rfl) ?_
  refine rCall (v := .agg #[vI x, vI y, vI z, vS 3 0]) (args := [.agg #[vI x, vI y, vI z, .slice none 0 0]]) (by kernel_rfl) rfl (by kernel_rfl) (Sound.lay (E := [some ⟨[], 25, false, true⟩]) [] (toHeapN x y z) trivial rfl trivial rfl (by first | rfl | simp [mpV, mpA, mpS, mpP, renId, shift]) (by first | rfl | simp [mpV, mpA, mpS, mpP, renId, shift]) ⟨enX rfl (Or.inl rfl), trivial⟩) ?_
  refine segEnd [1, 4, 5, 6] (T1 := (mkT 96 [(1, vP 0 0), (4, vS 2 0), (5, .bool false), (6, vP 4 0)])) (H1 := [rB [vI x, vI y, vI z, .slice none 0 0] 24, some ⟨[], 25, false, true⟩, some ⟨[], 3, false, true⟩, some ⟨[], 25, false, true⟩, rB [vI x, vI y, vI z, vS 3 0] 29]) (by kernel_rfl) ?_
  refine kSeq ?_
  refine cSeq ?_
  refine cReg ?_
  refine segH 1 (T1 := (mkT 96 [(1, vP 0 0), (4, vS 2 0), (5, .bool false), (6, vP 4 0), (28, .agg #[vI x, vI y, vI z, vS 3 0])])) (by kernel_rfl) ?_
  refine rCall (v := .tuple #[.slice none 0 0, .bool false]) (args := [.agg #[vI x, vI y, vI z, vS 3 0]]) (by kernel_rfl) rfl (by kernel_rfl) (Sound.lay0 [3] (implTop_no x y z ([] : List A3) (by first | assumption | omega | rfl | decide | exact HeapL.list _ _ _ _ | exact HeapL.nil _ _ _ | exact HeapL.all _ _ _ | (apply HeapL.lt64 <;> assumption) | (repeat' (first | assumption | apply or_lt64 | apply and_lt64 | apply andn_lt64 | apply pow_lt64 | (apply HeapL.lt64 <;> assumption)))) (by first | assumption | omega | rfl | decide | exact HeapL.list _ _ _ _ | exact HeapL.nil _ _ _ | exact HeapL.all _ _ _ | (apply HeapL.lt64 <;> assumption) | (repeat' (first | assumption | apply or_lt64 | apply and_lt64 | apply andn_lt64 | apply pow_lt64 | (apply HeapL.lt64 <;> assumption))))) ⟨rdF true (flatA3 _ _ _ _) rfl rfl, trivial⟩ rfl ⟨clF (flatA3 _ _ _ _), trivial⟩ rfl (by first | rfl | simp [mpV, mpA, mpS, mpP, renId, shift]) (by first | rfl | simp [mpV, mpA, mpS, mpP, renId, shift])) ?_
  refine segEndH [1, 4, 5, 6, 7, 8] (T1 := (mkT 96 [(1, vP 0 0), (4, vS 2 0), (5, .bool false), (6, vP 4 0), (7, .slice none 0 0), (8, .bool false)])) (by kernel_rfl) ?_
  refine kSeq ?_
  refine cSeq ?_
  refine cSeq ?_
  refine cReg ?_
  refine segH 2 (T1 := (mkT 96 [(1, vP 0 0), (4, vS 2 0), (5, .bool false), (6, vP 4 0), (7, .slice none 0 0), (8, .bool false), (32, .slice none 0 0), (33, vS 2 0)])) (by kernel_rfl) ?_
  refine rCall (v := .bool true) (args := [.slice none 0 0, vS 2 0]) (by kernel_rfl) rfl (by kernel_rfl) (Sound.lay0 [2] (eqI_NE) ⟨rdX true rfl rfl, trivial⟩ rfl ⟨clX rfl, trivial⟩ rfl (by first | rfl | simp [mpV, mpA, mpS, mpP, renId, shift]) rfl) ?_
  refine segEndH [1, 4, 5, 6, 7, 8, 40] (T1 := (mkT 96 [(1, vP 0 0), (4, vS 2 0), (5, .bool false), (6, vP 4 0), (7, .slice none 0 0), (8, .bool false), (40, .bool false)])) (by kernel_rfl) ?_
  refine kSeq ?_
  refine cFalse (by kernel_rfl) ?_
  refine cSkip ?_
  refine kSeq ?_
  refine cSeq ?_
  refine cSeq ?_
  refine cRegW (N := 6) [⟨[], [], [4]⟩, ⟨[], [], [0]⟩, ⟨[5], [], []⟩, ⟨[], [], [3, 5]⟩, ⟨[], [], []⟩] 1 [5] (by rfl) (by rfl) (by kernel_rfl) (by kernel_rfl) (by kernel_rfl) ⟨nmsX (by kernel_rfl), ⟨nmsX (by kernel_rfl), ⟨nmsX (by kernel_rfl), ⟨nmsX (by kernel_rfl), ⟨nmsX (by kernel_rfl), trivial⟩⟩⟩⟩⟩ ?_
  refine segWH 2 (T1 := (mkT 96 [(1, vP 0 0), (4, vS 2 0), (5, .bool false), (6, vP 4 0), (7, .slice none 0 0), (8, .bool false), (40, .bool false), (41, .agg #[vI x, vI y, vI z, vS 3 0]), (42, .agg #[vI x, vI y, vI z, .slice none 0 0])])) (by kernel_rfl) ?_
  refine rW (m := ⟨[5], [], []⟩) (v := .agg #[vI x, vI y, vI z, vS 5 0]) rfl (by kernel_rfl) (stN (i := 5) (E := [some ⟨[], 25, false, true⟩]) (v1 := .agg #[vI x, vI y, vI z, vS 6 0]) (args := [.agg #[vI x, vI y, vI z, .slice none 0 0]]) rfl (by kernel_rfl) (Any.lay (E := [some ⟨[], 25, false, true⟩]) (N := 6) [] (toHeapN x y z) trivial rfl trivial rfl (by first | rfl | simp [mpV, mpA, mpS, mpP, renId, shift]) (by first | rfl | simp [mpV, mpA, mpS, mpP, renId, shift]) ⟨enX rfl (Or.inl rfl), trivial⟩) rfl (by kernel_rfl) (by kernel_rfl) (by kernel_rfl) (by kernel_rfl) (FlatH.cons (flatRow_of rfl) FlatH.nil)) (by kernel_rfl) (NRs.all ⟨nrOf (by rfl) (nmX (by kernel_rfl)), trivial⟩) ?_
  refine rW (m := ⟨[], [], [3, 5]⟩) (v := .bool true) rfl (by kernel_rfl) (stQ (args := [.agg #[vI x, vI y, vI z, vS 3 0], .agg #[vI x, vI y, vI z, vS 5 0]]) rfl (by kernel_rfl) (Any.lay0 [3, 5] (eqHeapB x y z ([] : List A3) (by first | omega | assumption | (simp; done))) ⟨rdF true (flatA3 _ _ _ _) rfl rfl, ⟨rdF true (flatA3 _ _ _ _) rfl rfl, trivial⟩⟩ rfl ⟨clF (flatA3 _ _ _ _), ⟨clF (flatA3 _ _ _ _), trivial⟩⟩ rfl (by first | rfl | simp [mpV, mpA, mpS, mpP, renId, shift]) rfl) rfl (by kernel_rfl) (by kernel_rfl)) (by kernel_rfl) nr0 ?_
  refine segEndW [1, 4, 5, 6, 7, 8, 45] (T1 := (mkT 96 [(1, vP 0 0), (4, vS 2 0), (5, .bool false), (6, vP 4 0), (7, .slice none 0 0), (8, .bool false), (45, .bool false)])) (H1 := [rB [vI x, vI y, vI z, .slice none 0 0] 24, some ⟨[], 25, false, true⟩, some ⟨[], 3, false, true⟩, some ⟨[], 25, false, true⟩, rB [vI x, vI y, vI z, vS 3 0] 29, some ⟨[], 25, false, true⟩]) (by kernel_rfl) ?_
  refine kSeq ?_
  refine cFalse (by kernel_rfl) ?_
  refine cSkip ?_
  refine kSeq ?_
  refine cSeq ?_
  refine cReg ?_
  refine segEndH [1, 4, 5, 6, 7, 8, 9] (T1 := (mkT 96 [(1, vP 0 0), (4, vS 2 0), (5, .bool false), (6, vP 4 0), (7, .slice none 0 0), (8, .bool false), (9, vI 1)])) (by kernel_rfl) ?_
  refine kSeq ?_
  refine cSeq ?_
  refine cReg ?_
  refine segH 2 (T1 := (mkT 96 [(1, vP 0 0), (4, vS 2 0), (5, .bool false), (6, vP 4 0), (7, .slice none 0 0), (8, .bool false), (9, vI 1), (46, .agg #[vI x, vI y, vI z, vS 3 0]), (47, vI 1)])) (by kernel_rfl) ?_
  refine rCall (v := vN (1 + 3 * ([] : List A3).length)) (args := [.agg #[vI x, vI y, vI z, vS 3 0], vI 1]) (by kernel_rfl) rfl (by kernel_rfl) (Sound.emb_set (r := ⟨a3s ([] : List A3), 25, false, true⟩) (r' := ⟨a3s (mk3 1 ([] : List A3).length), 25, false, true⟩) 3 (markHeapB x y z ([] : List A3) 1 (by first | omega | assumption | (simp; done)) (by first | assumption | omega | rfl | decide | exact HeapL.list _ _ _ _ | exact HeapL.nil _ _ _ | exact HeapL.all _ _ _ | (apply HeapL.lt64 <;> assumption) | (repeat' (first | assumption | apply or_lt64 | apply and_lt64 | apply andn_lt64 | apply pow_lt64 | (apply HeapL.lt64 <;> assumption))))) (flatA3 _ _ _ _) rfl (flatA3 _ _ _ _) rfl rfl rfl (by first | rfl | simp [mpV, mpA, mpS, mpP, renId, shift]) rfl) ?_
  refine segEnd [1, 4, 5, 7, 8, 9] (T1 := (mkT 96 [(1, vP 0 0), (4, vS 2 0), (5, .bool false), (7, .slice none 0 0), (8, .bool false), (9, vN (1 + 3 * ([] : List A3).length))])) (H1 := [rB [vI x, vI y, vI z, .slice none 0 0] 24, some ⟨[], 25, false, true⟩, some ⟨[], 3, false, true⟩, some ⟨a3s (mk3 1 ([] : List A3).length), 25, false, true⟩, rB [vI x, vI y, vI z, vS 3 0] 29, some ⟨[], 25, false, true⟩]) (by kernel_rfl) ?_
  refine kSeq ?_
  refine cSeq ?_
  refine cSeq ?_
  refine cReg ?_
  refine segH 3 (T1 := (mkT 96 [(1, vP 0 0), (4, vS 2 0), (5, .bool false), (7, .slice none 0 0), (8, .bool false), (9, vN (1 + 3 * ([] : List A3).length)), (49, vN (1 + 3 * ([] : List A3).length)), (50, .bool (decide (((1 + 3 * ([] : List A3).length : Nat) : Int) < 0))), (51, .bool (decide (((1 + 3 * ([] : List A3).length : Nat) : Int) < 0)))])) (by kernel_rfl) ?_
  cases h1 : (decide (((1 + 3 * ([] : List A3).length : Nat) : Int) < 0) : Bool)
  ·
    (try simp only [Bool.not_eq_true', Bool.not_eq_false', decide_eq_true_eq, decide_eq_false_iff_not, beq_iff_eq, bne_iff_ne, beq_eq_false_iff_ne, bne_eq_false_iff_eq, ne_eq, Decidable.not_not, Bool.and_eq_true, Bool.and_eq_false_imp, Bool.or_eq_true, Bool.or_eq_false_iff, Bool.not_eq_true, Int.not_lt, Int.not_le, ge_iff_le, gt_iff_lt] at h1)
    refine seg 2 (T1 := (mkT 96 [(1, vP 0 0), (4, vS 2 0), (5, .bool false), (7, .slice none 0 0), (8, .bool false), (9, vN (1 + 3 * ([] : List A3).length)), (49, vN (1 + 3 * ([] : List A3).length)), (50, .bool false), (51, .bool false), (52, .slice none 0 0), (53, vS 2 0)])) (H1 := [rB [vI x, vI y, vI z, .slice none 0 0] 24, some ⟨[], 25, false, true⟩, some ⟨[], 3, false, true⟩, some ⟨a3s (mk3 1 ([] : List A3).length), 25, false, true⟩, rB [vI x, vI y, vI z, vS 3 0] 29, some ⟨[], 25, false, true⟩]) (by kernel_rfl) ?_
    refine rCall (v := .bool true) (args := [.slice none 0 0, vS 2 0]) (by kernel_rfl) rfl (by kernel_rfl) (Sound.lay0 [2] (eqI_NE) ⟨rdX true rfl rfl, trivial⟩ rfl ⟨clX rfl, trivial⟩ rfl (by first | rfl | simp [mpV, mpA, mpS, mpP, renId, shift]) rfl) ?_
    refine segEnd [1, 4, 5, 7, 61] (T1 := (mkT 96 [(1, vP 0 0), (4, vS 2 0), (5, .bool false), (7, .slice none 0 0), (61, .bool false)])) (H1 := [rB [vI x, vI y, vI z, .slice none 0 0] 24, some ⟨[], 25, false, true⟩, some ⟨[], 3, false, true⟩, some ⟨a3s (mk3 1 ([] : List A3).length), 25, false, true⟩, rB [vI x, vI y, vI z, vS 3 0] 29, some ⟨[], 25, false, true⟩]) (by kernel_rfl) ?_
    refine kSeq ?_
    refine cFalse (by kernel_rfl) ?_
    refine cSkip ?_
    refine kSeq ?_
    refine cSeq ?_
    refine cReg ?_
    refine segEndH [1, 4, 5, 7, 10] (T1 := (mkT 96 [(1, vP 0 0), (4, vS 2 0), (5, .bool false), (7, .slice none 0 0), (10, vI 1)])) (by kernel_rfl) ?_
    refine kSeq ?_
    refine cSeq ?_
    refine cReg ?_
    refine segH 2 (T1 := (mkT 96 [(1, vP 0 0), (4, vS 2 0), (5, .bool false), (7, .slice none 0 0), (10, vI 1), (62, .slice none 0 0), (63, vI 1)])) (by kernel_rfl) ?_
    refine rCall (v := vI 1) (args := [.slice none 0 0, vI 1]) (by kernel_rfl) rfl (by kernel_rfl) (Sound.lay0 [] (markI_N 1) trivial rfl trivial rfl (by first | rfl | simp [mpV, mpA, mpS, mpP, renId, shift]) rfl) ?_
    refine segEndH [1, 4, 5, 7, 10] (T1 := (mkT 96 [(1, vP 0 0), (4, vS 2 0), (5, .bool false), (7, .slice none 0 0), (10, vI 1)])) (by kernel_rfl) ?_
    refine kSeq ?_
    refine cSeq ?_
    refine cReg ?_
    refine segEndH [1, 4, 5, 7, 10, 11] (T1 := (mkT 96 [(1, vP 0 0), (4, vS 2 0), (5, .bool false), (7, .slice none 0 0), (10, vI 1), (11, vI 1)])) (by kernel_rfl) ?_
    refine kSeq ?_
    refine cSeq ?_
    refine cReg ?_
    refine segH 2 (T1 := (mkT 96 [(1, vP 0 0), (4, vS 2 0), (5, .bool false), (7, .slice none 0 0), (10, vI 1), (11, vI 1), (65, .slice none 0 0), (66, vI 1)])) (by kernel_rfl) ?_
    refine rCall (v := vI 1) (args := [.slice none 0 0, vI 1]) (by kernel_rfl) rfl (by kernel_rfl) (Sound.lay0 [] (heldI_N 1) trivial rfl trivial rfl (by first | rfl | simp [mpV, mpA, mpS, mpP, renId, shift]) rfl) ?_
    refine segEndH [1, 4, 5, 7, 10, 11] (T1 := (mkT 96 [(1, vP 0 0), (4, vS 2 0), (5, .bool false), (7, .slice none 0 0), (10, vI 1), (11, vI 1)])) (by kernel_rfl) ?_
    refine kSeq ?_
    refine cSeq ?_
    refine cSeq ?_
    refine cReg ?_
    refine segEndH [1, 4, 5, 7, 10, 11, 69] (T1 := (mkT 96 [(1, vP 0 0), (4, vS 2 0), (5, .bool false), (7, .slice none 0 0), (10, vI 1), (11, vI 1), (69, .bool false)])) (by kernel_rfl) ?_
    refine kSeq ?_
    refine cFalse (by kernel_rfl) ?_
    refine cSkip ?_
    refine kSeq ?_
    refine cSeq ?_
    refine cSeq ?_
    refine cReg ?_
    refine segEndH [1, 4, 5, 7, 10, 72] (T1 := (mkT 96 [(1, vP 0 0), (4, vS 2 0), (5, .bool false), (7, .slice none 0 0), (10, vI 1), (72, .bool false)])) (by kernel_rfl) ?_
    refine kSeq ?_
    refine cFalse (by kernel_rfl) ?_
    refine cSkip ?_
    refine kSeq ?_
    refine cSeq ?_
    refine cReg ?_
    refine segH 1 (T1 := (mkT 96 [(1, vP 0 0), (4, vS 2 0), (5, .bool false), (7, .slice none 0 0), (10, vI 1), (72, .bool false), (74, .agg #[vI x, vI y, vI z, .slice none 0 0])])) (by kernel_rfl) ?_
    refine rCall (v := .agg #[vI x, vI y, vI z, vS 6 0]) (args := [.agg #[vI x, vI y, vI z, .slice none 0 0]]) (by kernel_rfl) rfl (by kernel_rfl) (Sound.lay (E := [some ⟨[], 25, false, true⟩]) [] (toHeapN x y z) trivial rfl trivial rfl (by first | rfl | simp [mpV, mpA, mpS, mpP, renId, shift]) (by first | rfl | simp [mpV, mpA, mpS, mpP, renId, shift]) ⟨enX rfl (Or.inl rfl), trivial⟩) ?_
    refine rCall (v := .tuple #[.slice none 0 0, .bool false]) (args := [.agg #[vI x, vI y, vI z, vS 6 0]]) (by kernel_rfl) rfl (by kernel_rfl) (Sound.lay0 [6] (implTop_no x y z ([] : List A3) (by first | assumption | omega | rfl | decide | exact HeapL.list _ _ _ _ | exact HeapL.nil _ _ _ | exact HeapL.all _ _ _ | (apply HeapL.lt64 <;> assumption) | (repeat' (first | assumption | apply or_lt64 | apply and_lt64 | apply andn_lt64 | apply pow_lt64 | (apply HeapL.lt64 <;> assumption)))) (by first | assumption | omega | rfl | decide | exact HeapL.list _ _ _ _ | exact HeapL.nil _ _ _ | exact HeapL.all _ _ _ | (apply HeapL.lt64 <;> assumption) | (repeat' (first | assumption | apply or_lt64 | apply and_lt64 | apply andn_lt64 | apply pow_lt64 | (apply HeapL.lt64 <;> assumption))))) ⟨rdF true (flatA3 _ _ _ _) rfl rfl, trivial⟩ rfl ⟨clF (flatA3 _ _ _ _), trivial⟩ rfl (by first | rfl | simp [mpV, mpA, mpS, mpP, renId, shift]) (by first | rfl | simp [mpV, mpA, mpS, mpP, renId, shift])) ?_
    refine segEnd [4, 5, 7, 10, 12, 13] (T1 := (mkT 96 [(4, vS 2 0), (5, .bool false), (7, .slice none 0 0), (10, vI 1), (12, .slice none 0 0), (13, .bool false)])) (H1 := [rB [vI x, vI y, vI z, .slice none 0 0] 24, some ⟨[], 25, false, true⟩, some ⟨[], 3, false, true⟩, some ⟨a3s (mk3 1 ([] : List A3).length), 25, false, true⟩, rB [vI x, vI y, vI z, vS 3 0] 29, some ⟨[], 25, false, true⟩, some ⟨[], 25, false, true⟩]) (by kernel_rfl) ?_
    refine kSeq ?_
    refine cSeq ?_
    refine cSeq ?_
    refine cReg ?_
    refine segH 2 (T1 := (mkT 96 [(4, vS 2 0), (5, .bool false), (7, .slice none 0 0), (10, vI 1), (12, .slice none 0 0), (13, .bool false), (79, .slice none 0 0), (80, vS 2 0)])) (by kernel_rfl) ?_
    refine rCall (v := .bool true) (args := [.slice none 0 0, vS 2 0]) (by kernel_rfl) rfl (by kernel_rfl) (Sound.lay0 [2] (eqI_NE) ⟨rdX true rfl rfl, trivial⟩ rfl ⟨clX rfl, trivial⟩ rfl (by first | rfl | simp [mpV, mpA, mpS, mpP, renId, shift]) rfl) ?_
    refine segEndH [7, 10, 87] (T1 := (mkT 96 [(7, .slice none 0 0), (10, vI 1), (87, .bool false)])) (by kernel_rfl) ?_
    refine kSeq ?_
    refine cFalse (by kernel_rfl) ?_
    refine cSkip ?_
    refine kSeq ?_
    refine cSeq ?_
    refine cReg ?_
    refine segEndH [7, 10, 11] (T1 := (mkT 96 [(7, .slice none 0 0), (10, vI 1), (11, vI 1)])) (by kernel_rfl) ?_
    refine kSeq ?_
    refine cSeq ?_
    refine cReg ?_
    refine segH 2 (T1 := (mkT 96 [(7, .slice none 0 0), (10, vI 1), (11, vI 1), (88, .slice none 0 0), (89, vI 1)])) (by kernel_rfl) ?_
    refine rCall (v := vI 1) (args := [.slice none 0 0, vI 1]) (by kernel_rfl) rfl (by kernel_rfl) (Sound.lay0 [] (heldI_N 1) trivial rfl trivial rfl (by first | rfl | simp [mpV, mpA, mpS, mpP, renId, shift]) rfl) ?_
    refine segEndH [10, 11] (T1 := (mkT 96 [(10, vI 1), (11, vI 1)])) (by kernel_rfl) ?_
    refine kSeq ?_
    refine cSeq ?_
    refine cSeq ?_
    refine cReg ?_
    refine segEndH [10, 11, 92] (T1 := (mkT 96 [(10, vI 1), (11, vI 1), (92, .bool false)])) (by kernel_rfl) ?_
    refine kSeq ?_
    refine cFalse (by kernel_rfl) ?_
    refine cSkip ?_
    refine kSeq ?_
    refine cSeq ?_
    refine cSeq ?_
    refine cReg ?_
    refine segEndH [95] (T1 := (mkT 96 [(95, .bool false)])) (by kernel_rfl) ?_
    refine kSeq ?_
    refine cFalse (by kernel_rfl) ?_
    refine cSkip ?_
    refine kSeq ?_
    refine cSeq ?_
    refine cReg ?_
    refine segEndH [2] (T1 := (mkT 96 [(2, .bool true)])) (by kernel_rfl) ?_
    refine kSeq ?_
    refine cRet ?_
    -- end
    exact endQ (Or.inr rfl) (l := [.bool true]) [rB [vI x, vI y, vI z, .slice none 0 0] 24, some ⟨[], 25, false, true⟩, some ⟨[], 3, false, true⟩, some ⟨a3s (mk3 1 ([] : List A3).length), 25, false, true⟩, rB [vI x, vI y, vI z, vS 3 0] 29, some ⟨[], 25, false, true⟩, some ⟨[], 25, false, true⟩] (by kernel_rfl) (by first | rfl | kernel_rfl) rfl rfl hcl rfl
  ·
    (try simp only [Bool.not_eq_true', Bool.not_eq_false', decide_eq_true_eq, decide_eq_false_iff_not, beq_iff_eq, bne_iff_ne, beq_eq_false_iff_ne, bne_eq_false_iff_eq, ne_eq, Decidable.not_not, Bool.and_eq_true, Bool.and_eq_false_imp, Bool.or_eq_true, Bool.or_eq_false_iff, Bool.not_eq_true, Int.not_lt, Int.not_le, ge_iff_le, gt_iff_lt] at h1)
    exfalso; omega

set_option maxRecDepth 100000 in
set_option maxHeartbeats 4000000 in
theorem lawTopHeights_yes_s (X : Nat) (Y : Nat) (Z : Nat) (L : List A3) (R : List Int) (hs : Sides X Y Z) (hL : HeapL X Y Z L) (hR : R = topT X Y L L.length) : Sound Try.prog 14 [.agg #[vN X, vN Y, vN Z, vS 0 L.length]] [some ⟨a3s L, 25, false, false⟩] (.bool true) [some ⟨a3s L, 25, false, false⟩] := by
  refine sound_intro (C := cx) Try.func14 rfl (by kernel_rfl) fun hcl => ?_
  have hz := hs.size
  have hx0 := hs.x0
  have hx4 := hs.x4
  have hy0 := hs.y0
  have hy4 := hs.y4
  have hz0 := hs.z0
  have hz4 := hs.z4
  have hlen : L.length ≤ 64 := by first | (have := hL.len; omega) | simp
  have hr : R.length ≤ 16 := by (rw [hR, topT_length]; have hxy : X * Y ≤ 4 * 4 := Nat.mul_le_mul hs.x4 hs.y4; omega)
  refine cSeq ?_
  refine cReg ?_
  refine segEnd [1] (T1 := (mkT 96 [(1, vP 1 0)])) (H1 := [some ⟨a3s L, 25, false, false⟩, rB [vN X, vN Y, vN Z, vS 0 L.length] 24]) (by kernel_rfl) ?_
  refine kSeq ?_
  refine cSeq ?_
  refine cReg ?_
  refine segEndH [1, 3] (T1 := (mkT 96 [(1, vP 1 0), (3, vI 1048576)])) (by kernel_rfl) ?_
  refine kSeq ?_
  refine cSeq ?_
  refine cReg ?_
  refine segH 2 (T1 := (mkT 96 [(1, vP 1 0), (3, vI 1048576), (14, .agg #[vN X, vN Y, vN Z, vS 0 L.length]), (15, vI 1048576)])) (by kernel_rfl) ?_
  refine rCall (v := vN (1048576 - L.length)) (args := [.agg #[vN X, vN Y, vN Z, vS 0 L.length], vI 1048576]) (by kernel_rfl) rfl (by kernel_rfl) (Sound.lay0 [0] (szHeapS ((X : Nat) : Int) ((Y : Nat) : Int) ((Z : Nat) : Int) L 1048576 (by first | omega | assumption | (simp; done)) (by first | omega | assumption | decide)) ⟨rdF false (flatA3 _ _ _ _) rfl rfl, trivial⟩ rfl ⟨clF (flatA3 _ _ _ _), trivial⟩ rfl (by first | rfl | simp [mpV, mpA, mpS, mpP, renId, shift]) rfl) ?_
  refine segEndH [1, 3] (T1 := (mkT 96 [(1, vP 1 0), (3, vN (1048576 - L.length))])) (by kernel_rfl) ?_
  refine kSeq ?_
  refine cSeq ?_
  refine cSeq ?_
  refine cReg ?_
  refine segEndH [1, 18] (T1 := (mkT 96 [(1, vP 1 0), (18, .bool (decide (((1048576 - L.length : Nat) : Int) < 0)))])) (by kernel_rfl) ?_
  refine kSeq ?_
  cases h1 : (decide (((1048576 - L.length : Nat) : Int) < 0) : Bool)
  ·
    (try simp only [Bool.not_eq_true', Bool.not_eq_false', decide_eq_true_eq, decide_eq_false_iff_not, beq_iff_eq, bne_iff_ne, beq_eq_false_iff_ne, bne_eq_false_iff_eq, ne_eq, Decidable.not_not, Bool.and_eq_true, Bool.and_eq_false_imp, Bool.or_eq_true, Bool.or_eq_false_iff, Bool.not_eq_true, Int.not_lt, Int.not_le, ge_iff_le, gt_iff_lt] at h1)
    refine cFalse (by kernel_rfl) ?_
    refine cSkip ?_
    refine kSeq ?_
    refine cSeq ?_
    refine cReg ?_
    refine segH 1 (T1 := (mkT 96 [(1, vP 1 0), (18, .bool false), (20, .agg #[vN X, vN Y, vN Z, vS 0 L.length])])) (by kernel_rfl) ?_
    refine rCall (v := .agg #[vN X, vN Y, vN Z, vS 2 L.length]) (args := [.agg #[vN X, vN Y, vN Z, vS 0 L.length]]) (by kernel_rfl) rfl (by kernel_rfl) (Sound.lay (E := [some ⟨a3s L, 25, false, true⟩]) [0] (toHeapB ((X : Nat) : Int) ((Y : Nat) : Int) ((Z : Nat) : Int) L (by first | omega | assumption | (simp; done))) ⟨rdF false (flatA3 _ _ _ _) rfl rfl, trivial⟩ rfl ⟨clF (flatA3 _ _ _ _), trivial⟩ rfl (by first | rfl | simp [mpV, mpA, mpS, mpP, renId, shift]) (by first | rfl | simp [mpV, mpA, mpS, mpP, renId, shift]) ⟨enF (flatA3 _ _ _ _) (Or.inl rfl), trivial⟩) ?_
    refine rCall (v := .tuple #[vS 3 R.length, .bool true]) (args := [.agg #[vN X, vN Y, vN Z, vS 2 L.length]]) (by kernel_rfl) rfl (by kernel_rfl) (Sound.lay (E := [some ⟨nums R, 3, false, true⟩]) [2] (specTop_yesR X Y Z L R (by first | assumption | omega | rfl | decide | exact HeapL.list _ _ _ _ | exact HeapL.nil _ _ _ | exact HeapL.all _ _ _ | (apply HeapL.lt64 <;> assumption) | (repeat' (first | assumption | apply or_lt64 | apply and_lt64 | apply andn_lt64 | apply pow_lt64 | (apply HeapL.lt64 <;> assumption)))) (by first | assumption | omega | rfl | decide | exact HeapL.list _ _ _ _ | exact HeapL.nil _ _ _ | exact HeapL.all _ _ _ | (apply HeapL.lt64 <;> assumption) | (repeat' (first | assumption | apply or_lt64 | apply and_lt64 | apply andn_lt64 | apply pow_lt64 | (apply HeapL.lt64 <;> assumption)))) (by first | assumption | omega | rfl | decide | exact HeapL.list _ _ _ _ | exact HeapL.nil _ _ _ | exact HeapL.all _ _ _ | (apply HeapL.lt64 <;> assumption) | (repeat' (first | assumption | apply or_lt64 | apply and_lt64 | apply andn_lt64 | apply pow_lt64 | (apply HeapL.lt64 <;> assumption))))) ⟨rdF true (flatA3 _ _ _ _) rfl rfl, trivial⟩ rfl ⟨clF (flatA3 _ _ _ _), trivial⟩ rfl (by first | rfl | simp [mpV, mpA, mpS, mpP, renId, shift]) (by first | rfl | simp [mpV, mpA, mpS, mpP, renId, shift]) ⟨enF (flatNums _ _ _ _) (Or.inl rfl), trivial⟩) ?_
    refine segEnd [1, 4, 5] (T1 := (mkT 96 [(1, vP 1 0), (4, vS 3 R.length), (5, .bool true)])) (H1 := [some ⟨a3s L, 25, false, false⟩, rB [vN X, vN Y, vN Z, vS 0 L.length] 24, some ⟨a3s L, 25, false, true⟩, some ⟨nums R, 3, false, true⟩]) (by kernel_rfl) ?_
    refine kSeq ?_
    refine cSeq ?_
    refine cReg ?_
    refine segH 1 (T1 := (mkT 96 [(1, vP 1 0), (4, vS 3 R.length), (5, .bool true), (25, .agg #[vN X, vN Y, vN Z, vS 0 L.length])])) (by kernel_rfl) ?_
    refine rCall (v := .agg #[vN X, vN Y, vN Z, vS 4 L.length]) (args := [.agg #[vN X, vN Y, vN Z, vS 0 L.length]]) (by kernel_rfl) rfl (by kernel_rfl) (Sound.lay (E := [some ⟨a3s L, 25, false, true⟩]) [0] (toHeapB ((X : Nat) : Int) ((Y : Nat) : Int) ((Z : Nat) : Int) L (by first | omega | assumption | (simp; done))) ⟨rdF false (flatA3 _ _ _ _) rfl rfl, trivial⟩ rfl ⟨clF (flatA3 _ _ _ _), trivial⟩ rfl (by first | rfl | simp [mpV, mpA, mpS, mpP, renId, shift]) (by first | rfl | simp [mpV, mpA, mpS, mpP, renId, shift]) ⟨enF (flatA3 _ _ _ _) (Or.inl rfl), trivial⟩) ?_
    refine segEnd [1, 4, 5, 6] (T1 := (mkT 96 [(1, vP 1 0), (4, vS 3 R.length), (5, .bool true), (6, vP 5 0)])) (H1 := [some ⟨a3s L, 25, false, false⟩, rB [vN X, vN Y, vN Z, vS 0 L.length] 24, some ⟨a3s L, 25, false, true⟩, some ⟨nums R, 3, false, true⟩, some ⟨a3s L, 25, false, true⟩, rB [vN X, vN Y, vN Z, vS 4 L.length] 29]) (by kernel_rfl) ?_
    refine kSeq ?_
    refine cSeq ?_
    refine cReg ?_
    refine segH 1 (T1 := (mkT 96 [(1, vP 1 0), (4, vS 3 R.length), (5, .bool true), (6, vP 5 0), (28, .agg #[vN X, vN Y, vN Z, vS 4 L.length])])) (by kernel_rfl) ?_
    refine rCall (v := .tuple #[vS 6 R.length, .bool true]) (args := [.agg #[vN X, vN Y, vN Z, vS 4 L.length]]) (by kernel_rfl) rfl (by kernel_rfl) (Sound.lay (E := [some ⟨nums R, 3, false, true⟩]) [4] (implTop_yesR X Y Z L R (by first | assumption | omega | rfl | decide | exact HeapL.list _ _ _ _ | exact HeapL.nil _ _ _ | exact HeapL.all _ _ _ | (apply HeapL.lt64 <;> assumption) | (repeat' (first | assumption | apply or_lt64 | apply and_lt64 | apply andn_lt64 | apply pow_lt64 | (apply HeapL.lt64 <;> assumption)))) (by first | assumption | omega | rfl | decide | exact HeapL.list _ _ _ _ | exact HeapL.nil _ _ _ | exact HeapL.all _ _ _ | (apply HeapL.lt64 <;> assumption) | (repeat' (first | assumption | apply or_lt64 | apply and_lt64 | apply andn_lt64 | apply pow_lt64 | (apply HeapL.lt64 <;> assumption)))) (by first | assumption | omega | rfl | decide | exact HeapL.list _ _ _ _ | exact HeapL.nil _ _ _ | exact HeapL.all _ _ _ | (apply HeapL.lt64 <;> assumption) | (repeat' (first | assumption | apply or_lt64 | apply and_lt64 | apply andn_lt64 | apply pow_lt64 | (apply HeapL.lt64 <;> assumption))))) ⟨rdF true (flatA3 _ _ _ _) rfl rfl, trivial⟩ rfl ⟨clF (flatA3 _ _ _ _), trivial⟩ rfl (by first | rfl | simp [mpV, mpA, mpS, mpP, renId, shift]) (by first | rfl | simp [mpV, mpA, mpS, mpP, renId, shift]) ⟨enF (flatNums _ _ _ _) (Or.inl rfl), trivial⟩) ?_
    refine segEnd [1, 4, 5, 6, 7, 8] (T1 := (mkT 96 [(1, vP 1 0), (4, vS 3 R.length), (5, .bool true), (6, vP 5 0), (7, vS 6 R.length), (8, .bool true)])) (H1 := [some ⟨a3s L, 25, false, false⟩, rB [vN X, vN Y, vN Z, vS 0 L.length] 24, some ⟨a3s L, 25, false, true⟩, some ⟨nums R, 3, false, true⟩, some ⟨a3s L, 25, false, true⟩, rB [vN X, vN Y, vN Z, vS 4 L.length] 29, some ⟨nums R, 3, false, true⟩]) (by kernel_rfl) ?_
    refine kSeq ?_
    refine cSeq ?_
    refine cSeq ?_
    refine cReg ?_
    refine segH 2 (T1 := (mkT 96 [(1, vP 1 0), (4, vS 3 R.length), (5, .bool true), (6, vP 5 0), (7, vS 6 R.length), (8, .bool true), (32, vS 6 R.length), (33, vS 3 R.length)])) (by kernel_rfl) ?_
    refine rCall (v := .bool true) (args := [vS 6 R.length, vS 3 R.length]) (by kernel_rfl) rfl (by kernel_rfl) (Sound.lay0 [6, 3] (eqI_S R (by first | omega | assumption | (simp; done) | (simp; omega))) ⟨rdF true (flatNums _ _ _ _) rfl rfl, ⟨rdF true (flatNums _ _ _ _) rfl rfl, trivial⟩⟩ rfl ⟨clF (flatNums _ _ _ _), ⟨clF (flatNums _ _ _ _), trivial⟩⟩ rfl (by first | rfl | simp [mpV, mpA, mpS, mpP, renId, shift]) rfl) ?_
    refine segEndH [1, 4, 5, 6, 7, 8, 40] (T1 := (mkT 96 [(1, vP 1 0), (4, vS 3 R.length), (5, .bool true), (6, vP 5 0), (7, vS 6 R.length), (8, .bool true), (40, .bool false)])) (by kernel_rfl) ?_
    refine kSeq ?_
    refine cFalse (by kernel_rfl) ?_
    refine cSkip ?_
    refine kSeq ?_
    refine cSeq ?_
    refine cSeq ?_
    refine cRegW (N := 8) [⟨[], [], [5]⟩, ⟨[], [], [1]⟩, ⟨[7], [], [0]⟩, ⟨[], [], [4, 7]⟩, ⟨[], [], []⟩] 1 [7] (by rfl) (by rfl) (by kernel_rfl) (by kernel_rfl) (by kernel_rfl) ⟨nmsF (flatA3 _ _ _ _), ⟨nmsX (by kernel_rfl), ⟨nmsF (flatA3 _ _ _ _), ⟨nmsF (flatNums _ _ _ _), ⟨nmsF (flatA3 _ _ _ _), ⟨nmsX (by kernel_rfl), ⟨nmsF (flatNums _ _ _ _), trivial⟩⟩⟩⟩⟩⟩⟩ ?_
    refine segWH 2 (T1 := (mkT 96 [(1, vP 1 0), (4, vS 3 R.length), (5, .bool true), (6, vP 5 0), (7, vS 6 R.length), (8, .bool true), (40, .bool false), (41, .agg #[vN X, vN Y, vN Z, vS 4 L.length]), (42, .agg #[vN X, vN Y, vN Z, vS 0 L.length])])) (by kernel_rfl) ?_
    refine rW (m := ⟨[7], [], [0]⟩) (v := .agg #[vN X, vN Y, vN Z, vS 7 L.length]) rfl (by kernel_rfl) (stN (i := 7) (E := [some ⟨a3s L, 25, false, true⟩]) (v1 := .agg #[vN X, vN Y, vN Z, vS 8 L.length]) (args := [.agg #[vN X, vN Y, vN Z, vS 0 L.length]]) rfl (by kernel_rfl) (Any.lay (E := [some ⟨a3s L, 25, false, true⟩]) (N := 8) [0] (toHeapB ((X : Nat) : Int) ((Y : Nat) : Int) ((Z : Nat) : Int) L (by first | omega | assumption | (simp; done))) ⟨rdF false (flatA3 _ _ _ _) rfl rfl, trivial⟩ rfl ⟨clF (flatA3 _ _ _ _), trivial⟩ rfl (by first | rfl | simp [mpV, mpA, mpS, mpP, renId, shift]) (by first | rfl | simp [mpV, mpA, mpS, mpP, renId, shift]) ⟨enF (flatA3 _ _ _ _) (Or.inl rfl), trivial⟩) rfl (by kernel_rfl) (by kernel_rfl) (by kernel_rfl) (by kernel_rfl) (FlatH.cons (flatA3 _ _ _ _) FlatH.nil)) (by kernel_rfl) (NRs.all ⟨nrOf (by rfl) (nmF (flatA3 _ _ _ _)), trivial⟩) ?_
    refine rW (m := ⟨[], [], [4, 7]⟩) (v := .bool true) rfl (by kernel_rfl) (stQ (args := [.agg #[vN X, vN Y, vN Z, vS 4 L.length], .agg #[vN X, vN Y, vN Z, vS 7 L.length]]) rfl (by kernel_rfl) (Any.lay0 [4, 7] (eqHeapB ((X : Nat) : Int) ((Y : Nat) : Int) ((Z : Nat) : Int) L (by first | omega | assumption | (simp; done))) ⟨rdF true (flatA3 _ _ _ _) rfl rfl, ⟨rdF true (flatA3 _ _ _ _) rfl rfl, trivial⟩⟩ rfl ⟨clF (flatA3 _ _ _ _), ⟨clF (flatA3 _ _ _ _), trivial⟩⟩ rfl (by first | rfl | simp [mpV, mpA, mpS, mpP, renId, shift]) rfl) rfl (by kernel_rfl) (by kernel_rfl)) (by kernel_rfl) nr0 ?_
    refine segEndW [1, 4, 5, 6, 7, 8, 45] (T1 := (mkT 96 [(1, vP 1 0), (4, vS 3 R.length), (5, .bool true), (6, vP 5 0), (7, vS 6 R.length), (8, .bool true), (45, .bool false)])) (H1 := [some ⟨a3s L, 25, false, false⟩, rB [vN X, vN Y, vN Z, vS 0 L.length] 24, some ⟨a3s L, 25, false, true⟩, some ⟨nums R, 3, false, true⟩, some ⟨a3s L, 25, false, true⟩, rB [vN X, vN Y, vN Z, vS 4 L.length] 29, some ⟨nums R, 3, false, true⟩, some ⟨a3s L, 25, false, true⟩]) (by kernel_rfl) ?_
    refine kSeq ?_
    refine cFalse (by kernel_rfl) ?_
    refine cSkip ?_
    refine kSeq ?_
    refine cSeq ?_
    refine cReg ?_
    refine segEndH [1, 4, 5, 6, 7, 8, 9] (T1 := (mkT 96 [(1, vP 1 0), (4, vS 3 R.length), (5, .bool true), (6, vP 5 0), (7, vS 6 R.length), (8, .bool true), (9, vI 1)])) (by kernel_rfl) ?_
    refine kSeq ?_
    refine cSeq ?_
    refine cReg ?_
    refine segH 2 (T1 := (mkT 96 [(1, vP 1 0), (4, vS 3 R.length), (5, .bool true), (6, vP 5 0), (7, vS 6 R.length), (8, .bool true), (9, vI 1), (46, .agg #[vN X, vN Y, vN Z, vS 4 L.length]), (47, vI 1)])) (by kernel_rfl) ?_
    refine rCall (v := vN (1 + 3 * L.length)) (args := [.agg #[vN X, vN Y, vN Z, vS 4 L.length], vI 1]) (by kernel_rfl) rfl (by kernel_rfl) (Sound.emb_set (r := ⟨a3s L, 25, false, true⟩) (r' := ⟨a3s (mk3 1 L.length), 25, false, true⟩) 4 (markHeapB ((X : Nat) : Int) ((Y : Nat) : Int) ((Z : Nat) : Int) L 1 (by first | omega | assumption | (simp; done)) (by first | assumption | omega | rfl | decide | exact HeapL.list _ _ _ _ | exact HeapL.nil _ _ _ | exact HeapL.all _ _ _ | (apply HeapL.lt64 <;> assumption) | (repeat' (first | assumption | apply or_lt64 | apply and_lt64 | apply andn_lt64 | apply pow_lt64 | (apply HeapL.lt64 <;> assumption))))) (flatA3 _ _ _ _) rfl (flatA3 _ _ _ _) rfl rfl rfl (by first | rfl | simp [mpV, mpA, mpS, mpP, renId, shift]) rfl) ?_
    refine segEnd [1, 4, 5, 7, 8, 9] (T1 := (mkT 96 [(1, vP 1 0), (4, vS 3 R.length), (5, .bool true), (7, vS 6 R.length), (8, .bool true), (9, vN (1 + 3 * L.length))])) (H1 := [some ⟨a3s L, 25, false, false⟩, rB [vN X, vN Y, vN Z, vS 0 L.length] 24, some ⟨a3s L, 25, false, true⟩, some ⟨nums R, 3, false, true⟩, some ⟨a3s (mk3 1 L.length), 25, false, true⟩, rB [vN X, vN Y, vN Z, vS 4 L.length] 29, some ⟨nums R, 3, false, true⟩, some ⟨a3s L, 25, false, true⟩]) (by kernel_rfl) ?_
    refine kSeq ?_
    refine cSeq ?_
    refine cSeq ?_
    refine cReg ?_
    refine segH 3 (T1 := (mkT 96 [(1, vP 1 0), (4, vS 3 R.length), (5, .bool true), (7, vS 6 R.length), (8, .bool true), (9, vN (1 + 3 * L.length)), (49, vN (1 + 3 * L.length)), (50, .bool (decide (((1 + 3 * L.length : Nat) : Int) < 0))), (51, .bool (decide (((1 + 3 * L.length : Nat) : Int) < 0)))])) (by kernel_rfl) ?_
    cases h2 : (decide (((1 + 3 * L.length : Nat) : Int) < 0) : Bool)
    ·
      (try simp only [Bool.not_eq_true', Bool.not_eq_false', decide_eq_true_eq, decide_eq_false_iff_not, beq_iff_eq, bne_iff_ne, beq_eq_false_iff_ne, bne_eq_false_iff_eq, ne_eq, Decidable.not_not, Bool.and_eq_true, Bool.and_eq_false_imp, Bool.or_eq_true, Bool.or_eq_false_iff, Bool.not_eq_true, Int.not_lt, Int.not_le, ge_iff_le, gt_iff_lt] at h2)
      refine seg 2 (T1 := (mkT 96 [(1, vP 1 0), (4, vS 3 R.length), (5, .bool true), (7, vS 6 R.length), (8, .bool true), (9, vN (1 + 3 * L.length)), (49, vN (1 + 3 * L.length)), (50, .bool false), (51, .bool false), (52, vS 6 R.length), (53, vS 3 R.length)])) (H1 := [some ⟨a3s L, 25, false, false⟩, rB [vN X, vN Y, vN Z, vS 0 L.length] 24, some ⟨a3s L, 25, false, true⟩, some ⟨nums R, 3, false, true⟩, some ⟨a3s (mk3 1 L.length), 25, false, true⟩, rB [vN X, vN Y, vN Z, vS 4 L.length] 29, some ⟨nums R, 3, false, true⟩, some ⟨a3s L, 25, false, true⟩]) (by kernel_rfl) ?_
      refine rCall (v := .bool true) (args := [vS 6 R.length, vS 3 R.length]) (by kernel_rfl) rfl (by kernel_rfl) (Sound.lay0 [6, 3] (eqI_S R (by first | omega | assumption | (simp; done) | (simp; omega))) ⟨rdF true (flatNums _ _ _ _) rfl rfl, ⟨rdF true (flatNums _ _ _ _) rfl rfl, trivial⟩⟩ rfl ⟨clF (flatNums _ _ _ _), ⟨clF (flatNums _ _ _ _), trivial⟩⟩ rfl (by first | rfl | simp [mpV, mpA, mpS, mpP, renId, shift]) rfl) ?_
      refine segEnd [1, 4, 5, 7, 61] (T1 := (mkT 96 [(1, vP 1 0), (4, vS 3 R.length), (5, .bool true), (7, vS 6 R.length), (61, .bool false)])) (H1 := [some ⟨a3s L, 25, false, false⟩, rB [vN X, vN Y, vN Z, vS 0 L.length] 24, some ⟨a3s L, 25, false, true⟩, some ⟨nums R, 3, false, true⟩, some ⟨a3s (mk3 1 L.length), 25, false, true⟩, rB [vN X, vN Y, vN Z, vS 4 L.length] 29, some ⟨nums R, 3, false, true⟩, some ⟨a3s L, 25, false, true⟩]) (by kernel_rfl) ?_
      refine kSeq ?_
      refine cFalse (by kernel_rfl) ?_
      refine cSkip ?_
      refine kSeq ?_
      refine cSeq ?_
      refine cReg ?_
      refine segEndH [1, 4, 5, 7, 10] (T1 := (mkT 96 [(1, vP 1 0), (4, vS 3 R.length), (5, .bool true), (7, vS 6 R.length), (10, vI 1)])) (by kernel_rfl) ?_
      refine kSeq ?_
      refine cSeq ?_
      refine cReg ?_
      refine segH 2 (T1 := (mkT 96 [(1, vP 1 0), (4, vS 3 R.length), (5, .bool true), (7, vS 6 R.length), (10, vI 1), (62, vS 6 R.length), (63, vI 1)])) (by kernel_rfl) ?_
      refine rCall (v := vN (1 + R.length)) (args := [vS 6 R.length, vI 1]) (by kernel_rfl) rfl (by kernel_rfl) (Sound.emb_set (r := ⟨nums R, 3, false, true⟩) (r' := ⟨nums (mkI 1 R.length), 3, false, true⟩) 6 (markI_S R 1 (by first | omega | assumption | (simp; done) | (simp; omega)) (by first | assumption | omega | rfl | decide | exact HeapL.list _ _ _ _ | exact HeapL.nil _ _ _ | exact HeapL.all _ _ _ | (apply HeapL.lt64 <;> assumption) | (repeat' (first | assumption | apply or_lt64 | apply and_lt64 | apply andn_lt64 | apply pow_lt64 | (apply HeapL.lt64 <;> assumption))))) (flatNums _ _ _ _) rfl (flatNums _ _ _ _) rfl rfl rfl (by first | rfl | simp [mpV, mpA, mpS, mpP, renId, shift]) rfl) ?_
      refine segEnd [1, 4, 5, 7, 10] (T1 := (mkT 96 [(1, vP 1 0), (4, vS 3 R.length), (5, .bool true), (7, vS 6 R.length), (10, vN (1 + R.length))])) (H1 := [some ⟨a3s L, 25, false, false⟩, rB [vN X, vN Y, vN Z, vS 0 L.length] 24, some ⟨a3s L, 25, false, true⟩, some ⟨nums R, 3, false, true⟩, some ⟨a3s (mk3 1 L.length), 25, false, true⟩, rB [vN X, vN Y, vN Z, vS 4 L.length] 29, some ⟨nums (mkI 1 R.length), 3, false, true⟩, some ⟨a3s L, 25, false, true⟩]) (by kernel_rfl) ?_
      refine kSeq ?_
      refine cSeq ?_
      refine cReg ?_
      refine segEndH [1, 4, 5, 7, 10, 11] (T1 := (mkT 96 [(1, vP 1 0), (4, vS 3 R.length), (5, .bool true), (7, vS 6 R.length), (10, vN (1 + R.length)), (11, vI 1)])) (by kernel_rfl) ?_
      refine kSeq ?_
      refine cSeq ?_
      refine cReg ?_
      refine segH 2 (T1 := (mkT 96 [(1, vP 1 0), (4, vS 3 R.length), (5, .bool true), (7, vS 6 R.length), (10, vN (1 + R.length)), (11, vI 1), (65, vS 6 R.length), (66, vI 1)])) (by kernel_rfl) ?_
      refine rCall (v := vN (1 + R.length)) (args := [vS 6 R.length, vI 1]) (by kernel_rfl) rfl (by kernel_rfl) (Sound.lay0 [6] (heldI_S 1 R.length (by first | omega | assumption | decide) (by first | assumption | omega | rfl | decide | exact HeapL.list _ _ _ _ | exact HeapL.nil _ _ _ | exact HeapL.all _ _ _ | (apply HeapL.lt64 <;> assumption) | (repeat' (first | assumption | apply or_lt64 | apply and_lt64 | apply andn_lt64 | apply pow_lt64 | (apply HeapL.lt64 <;> assumption))))) ⟨rdF true (flatNums _ _ _ _) rfl rfl, trivial⟩ rfl ⟨clF (flatNums _ _ _ _), trivial⟩ rfl (by first | rfl | simp [mpV, mpA, mpS, mpP, renId, shift]) rfl) ?_
      refine segEndH [1, 4, 5, 7, 10, 11] (T1 := (mkT 96 [(1, vP 1 0), (4, vS 3 R.length), (5, .bool true), (7, vS 6 R.length), (10, vN (1 + R.length)), (11, vN (1 + R.length))])) (by kernel_rfl) ?_
      refine kSeq ?_
      refine cSeq ?_
      refine cSeq ?_
      refine cReg ?_
      refine segEndH [1, 4, 5, 7, 10, 11, 69] (T1 := (mkT 96 [(1, vP 1 0), (4, vS 3 R.length), (5, .bool true), (7, vS 6 R.length), (10, vN (1 + R.length)), (11, vN (1 + R.length)), (69, .bool (decide (((1 + R.length : Nat) : Int) < 0)))])) (by kernel_rfl) ?_
      refine kSeq ?_
      cases h3 : (decide (((1 + R.length : Nat) : Int) < 0) : Bool)
      ·
        (try simp only [Bool.not_eq_true', Bool.not_eq_false', decide_eq_true_eq, decide_eq_false_iff_not, beq_iff_eq, bne_iff_ne, beq_eq_false_iff_ne, bne_eq_false_iff_eq, ne_eq, Decidable.not_not, Bool.and_eq_true, Bool.and_eq_false_imp, Bool.or_eq_true, Bool.or_eq_false_iff, Bool.not_eq_true, Int.not_lt, Int.not_le, ge_iff_le, gt_iff_lt] at h3)
        refine cFalse (by kernel_rfl) ?_
        refine cSkip ?_
        refine kSeq ?_
        refine cSeq ?_
        refine cSeq ?_
        refine cReg ?_
        refine segH 2 (T1 := (mkT 96 [(1, vP 1 0), (4, vS 3 R.length), (5, .bool true), (7, vS 6 R.length), (10, vN (1 + R.length)), (11, vN (1 + R.length)), (69, .bool false), (70, vN (1 + R.length)), (71, vN (1 + R.length))])) (by kernel_rfl) ?_
        refine rOp (v := .bool false) (by kernel_rfl) (eNeS (k := .i64) (a := ((1 + R.length : Nat) : Int)) (by kernel_rfl) (by kernel_rfl)) ?_
        refine segEndH [1, 4, 5, 7, 10, 72] (T1 := (mkT 96 [(1, vP 1 0), (4, vS 3 R.length), (5, .bool true), (7, vS 6 R.length), (10, vN (1 + R.length)), (72, .bool false)])) (by kernel_rfl) ?_
        refine kSeq ?_
        refine cFalse (by kernel_rfl) ?_
        refine cSkip ?_
        refine kSeq ?_
        refine cSeq ?_
        refine cReg ?_
        refine segH 1 (T1 := (mkT 96 [(1, vP 1 0), (4, vS 3 R.length), (5, .bool true), (7, vS 6 R.length), (10, vN (1 + R.length)), (72, .bool false), (74, .agg #[vN X, vN Y, vN Z, vS 0 L.length])])) (by kernel_rfl) ?_
        refine rCall (v := .agg #[vN X, vN Y, vN Z, vS 8 L.length]) (args := [.agg #[vN X, vN Y, vN Z, vS 0 L.length]]) (by kernel_rfl) rfl (by kernel_rfl) (Sound.lay (E := [some ⟨a3s L, 25, false, true⟩]) [0] (toHeapB ((X : Nat) : Int) ((Y : Nat) : Int) ((Z : Nat) : Int) L (by first | omega | assumption | (simp; done))) ⟨rdF false (flatA3 _ _ _ _) rfl rfl, trivial⟩ rfl ⟨clF (flatA3 _ _ _ _), trivial⟩ rfl (by first | rfl | simp [mpV, mpA, mpS, mpP, renId, shift]) (by first | rfl | simp [mpV, mpA, mpS, mpP, renId, shift]) ⟨enF (flatA3 _ _ _ _) (Or.inl rfl), trivial⟩) ?_
        refine rCall (v := .tuple #[vS 9 R.length, .bool true]) (args := [.agg #[vN X, vN Y, vN Z, vS 8 L.length]]) (by kernel_rfl) rfl (by kernel_rfl) (Sound.lay (E := [some ⟨nums R, 3, false, true⟩]) [8] (implTop_yesR X Y Z L R (by first | assumption | omega | rfl | decide | exact HeapL.list _ _ _ _ | exact HeapL.nil _ _ _ | exact HeapL.all _ _ _ | (apply HeapL.lt64 <;> assumption) | (repeat' (first | assumption | apply or_lt64 | apply and_lt64 | apply andn_lt64 | apply pow_lt64 | (apply HeapL.lt64 <;> assumption)))) (by first | assumption | omega | rfl | decide | exact HeapL.list _ _ _ _ | exact HeapL.nil _ _ _ | exact HeapL.all _ _ _ | (apply HeapL.lt64 <;> assumption) | (repeat' (first | assumption | apply or_lt64 | apply and_lt64 | apply andn_lt64 | apply pow_lt64 | (apply HeapL.lt64 <;> assumption)))) (by first | assumption | omega | rfl | decide | exact HeapL.list _ _ _ _ | exact HeapL.nil _ _ _ | exact HeapL.all _ _ _ | (apply HeapL.lt64 <;> assumption) | (repeat' (first | assumption | apply or_lt64 | apply and_lt64 | apply andn_lt64 | apply pow_lt64 | (apply HeapL.lt64 <;> assumption))))) ⟨rdF true (flatA3 _ _ _ _) rfl rfl, trivial⟩ rfl ⟨clF (flatA3 _ _ _ _), trivial⟩ rfl (by first | rfl | simp [mpV, mpA, mpS, mpP, renId, shift]) (by first | rfl | simp [mpV, mpA, mpS, mpP, renId, shift]) ⟨enF (flatNums _ _ _ _) (Or.inl rfl), trivial⟩) ?_
        refine segEnd [4, 5, 7, 10, 12, 13] (T1 := (mkT 96 [(4, vS 3 R.length), (5, .bool true), (7, vS 6 R.length), (10, vN (1 + R.length)), (12, vS 9 R.length), (13, .bool true)])) (H1 := [some ⟨a3s L, 25, false, false⟩, rB [vN X, vN Y, vN Z, vS 0 L.length] 24, some ⟨a3s L, 25, false, true⟩, some ⟨nums R, 3, false, true⟩, some ⟨a3s (mk3 1 L.length), 25, false, true⟩, rB [vN X, vN Y, vN Z, vS 4 L.length] 29, some ⟨nums (mkI 1 R.length), 3, false, true⟩, some ⟨a3s L, 25, false, true⟩, some ⟨a3s L, 25, false, true⟩, some ⟨nums R, 3, false, true⟩]) (by kernel_rfl) ?_
        refine kSeq ?_
        refine cSeq ?_
        refine cSeq ?_
        refine cReg ?_
        refine segH 2 (T1 := (mkT 96 [(4, vS 3 R.length), (5, .bool true), (7, vS 6 R.length), (10, vN (1 + R.length)), (12, vS 9 R.length), (13, .bool true), (79, vS 9 R.length), (80, vS 3 R.length)])) (by kernel_rfl) ?_
        refine rCall (v := .bool true) (args := [vS 9 R.length, vS 3 R.length]) (by kernel_rfl) rfl (by kernel_rfl) (Sound.lay0 [9, 3] (eqI_S R (by first | omega | assumption | (simp; done) | (simp; omega))) ⟨rdF true (flatNums _ _ _ _) rfl rfl, ⟨rdF true (flatNums _ _ _ _) rfl rfl, trivial⟩⟩ rfl ⟨clF (flatNums _ _ _ _), ⟨clF (flatNums _ _ _ _), trivial⟩⟩ rfl (by first | rfl | simp [mpV, mpA, mpS, mpP, renId, shift]) rfl) ?_
        refine segEndH [7, 10, 87] (T1 := (mkT 96 [(7, vS 6 R.length), (10, vN (1 + R.length)), (87, .bool false)])) (by kernel_rfl) ?_
        refine kSeq ?_
        refine cFalse (by kernel_rfl) ?_
        refine cSkip ?_
        refine kSeq ?_
        refine cSeq ?_
        refine cReg ?_
        refine segEndH [7, 10, 11] (T1 := (mkT 96 [(7, vS 6 R.length), (10, vN (1 + R.length)), (11, vI 1)])) (by kernel_rfl) ?_
        refine kSeq ?_
        refine cSeq ?_
        refine cReg ?_
        refine segH 2 (T1 := (mkT 96 [(7, vS 6 R.length), (10, vN (1 + R.length)), (11, vI 1), (88, vS 6 R.length), (89, vI 1)])) (by kernel_rfl) ?_
        refine rCall (v := vN (1 + R.length)) (args := [vS 6 R.length, vI 1]) (by kernel_rfl) rfl (by kernel_rfl) (Sound.lay0 [6] (heldI_S 1 R.length (by first | omega | assumption | decide) (by first | assumption | omega | rfl | decide | exact HeapL.list _ _ _ _ | exact HeapL.nil _ _ _ | exact HeapL.all _ _ _ | (apply HeapL.lt64 <;> assumption) | (repeat' (first | assumption | apply or_lt64 | apply and_lt64 | apply andn_lt64 | apply pow_lt64 | (apply HeapL.lt64 <;> assumption))))) ⟨rdF true (flatNums _ _ _ _) rfl rfl, trivial⟩ rfl ⟨clF (flatNums _ _ _ _), trivial⟩ rfl (by first | rfl | simp [mpV, mpA, mpS, mpP, renId, shift]) rfl) ?_
        refine segEndH [10, 11] (T1 := (mkT 96 [(10, vN (1 + R.length)), (11, vN (1 + R.length))])) (by kernel_rfl) ?_
        refine kSeq ?_
        refine cSeq ?_
        refine cSeq ?_
        refine cReg ?_
        refine segEndH [10, 11, 92] (T1 := (mkT 96 [(10, vN (1 + R.length)), (11, vN (1 + R.length)), (92, .bool (decide (((1 + R.length : Nat) : Int) < 0)))])) (by kernel_rfl) ?_
        refine kSeq ?_
        cases h4 : (decide (((1 + R.length : Nat) : Int) < 0) : Bool)
        ·
          (try simp only [Bool.not_eq_true', Bool.not_eq_false', decide_eq_true_eq, decide_eq_false_iff_not, beq_iff_eq, bne_iff_ne, beq_eq_false_iff_ne, bne_eq_false_iff_eq, ne_eq, Decidable.not_not, Bool.and_eq_true, Bool.and_eq_false_imp, Bool.or_eq_true, Bool.or_eq_false_iff, Bool.not_eq_true, Int.not_lt, Int.not_le, ge_iff_le, gt_iff_lt] at h4)
          refine cFalse (by kernel_rfl) ?_
          refine cSkip ?_
          refine kSeq ?_
          refine cSeq ?_
          refine cSeq ?_
          refine cReg ?_
          refine segH 2 (T1 := (mkT 96 [(10, vN (1 + R.length)), (11, vN (1 + R.length)), (92, .bool false), (93, vN (1 + R.length)), (94, vN (1 + R.length))])) (by kernel_rfl) ?_
          refine rOp (v := .bool false) (by kernel_rfl) (eNeS (k := .i64) (a := ((1 + R.length : Nat) : Int)) (by kernel_rfl) (by kernel_rfl)) ?_
          refine segEndH [95] (T1 := (mkT 96 [(95, .bool false)])) (by kernel_rfl) ?_
          refine kSeq ?_
          refine cFalse (by kernel_rfl) ?_
          refine cSkip ?_
          refine kSeq ?_
          refine cSeq ?_
          refine cReg ?_
          refine segEndH [2] (T1 := (mkT 96 [(2, .bool true)])) (by kernel_rfl) ?_
          refine kSeq ?_
          refine cRet ?_
          -- end
          exact endQ (Or.inr rfl) (l := [.bool true]) [rB [vN X, vN Y, vN Z, vS 0 L.length] 24, some ⟨a3s L, 25, false, true⟩, some ⟨nums R, 3, false, true⟩, some ⟨a3s (mk3 1 L.length), 25, false, true⟩, rB [vN X, vN Y, vN Z, vS 4 L.length] 29, some ⟨nums (mkI 1 R.length), 3, false, true⟩, some ⟨a3s L, 25, false, true⟩, some ⟨a3s L, 25, false, true⟩, some ⟨nums R, 3, false, true⟩] (by kernel_rfl) (by first | rfl | kernel_rfl) rfl rfl hcl rfl
        ·
          (try simp only [Bool.not_eq_true', Bool.not_eq_false', decide_eq_true_eq, decide_eq_false_iff_not, beq_iff_eq, bne_iff_ne, beq_eq_false_iff_ne, bne_eq_false_iff_eq, ne_eq, Decidable.not_not, Bool.and_eq_true, Bool.and_eq_false_imp, Bool.or_eq_true, Bool.or_eq_false_iff, Bool.not_eq_true, Int.not_lt, Int.not_le, ge_iff_le, gt_iff_lt] at h4)
          exfalso; omega
      ·
        (try simp only [Bool.not_eq_true', Bool.not_eq_false', decide_eq_true_eq, decide_eq_false_iff_not, beq_iff_eq, bne_iff_ne, beq_eq_false_iff_ne, bne_eq_false_iff_eq, ne_eq, Decidable.not_not, Bool.and_eq_true, Bool.and_eq_false_imp, Bool.or_eq_true, Bool.or_eq_false_iff, Bool.not_eq_true, Int.not_lt, Int.not_le, ge_iff_le, gt_iff_lt] at h3)
        exfalso; omega
    ·
      (try simp only [Bool.not_eq_true', Bool.not_eq_false', decide_eq_true_eq, decide_eq_false_iff_not, beq_iff_eq, bne_iff_ne, beq_eq_false_iff_ne, bne_eq_false_iff_eq, ne_eq, Decidable.not_not, Bool.and_eq_true, Bool.and_eq_false_imp, Bool.or_eq_true, Bool.or_eq_false_iff, Bool.not_eq_true, Int.not_lt, Int.not_le, ge_iff_le, gt_iff_lt] at h2)
      exfalso; omega
  ·
    (try simp only [Bool.not_eq_true', Bool.not_eq_false', decide_eq_true_eq, decide_eq_false_iff_not, beq_iff_eq, bne_iff_ne, beq_eq_false_iff_ne, bne_eq_false_iff_eq, ne_eq, Decidable.not_not, Bool.and_eq_true, Bool.and_eq_false_imp, Bool.or_eq_true, Bool.or_eq_false_iff, Bool.not_eq_true, Int.not_lt, Int.not_le, ge_iff_le, gt_iff_lt] at h1)
    exfalso; omega

set_option maxRecDepth 100000 in
set_option maxHeartbeats 4000000 in
theorem lawTopHeights_yes_n (X : Nat) (Y : Nat) (Z : Nat) (R : List Int) (hs : Sides X Y Z) (hR : R = topT X Y ([] : List A3) ([] : List A3).length) : Sound Try.prog 14 [.agg #[vN X, vN Y, vN Z, .slice none 0 0]] [] (.bool true) [] := by
  refine sound_intro (C := cx) Try.func14 rfl (by kernel_rfl) fun hcl => ?_
  have hz := hs.size
  have hx0 := hs.x0
  have hx4 := hs.x4
  have hy0 := hs.y0
  have hy4 := hs.y4
  have hz0 := hs.z0
  have hz4 := hs.z4
  have hlen : ([] : List A3).length ≤ 64 := by first | (have := hL.len; omega) | simp
  have hr : R.length ≤ 16 := by (rw [hR, topT_length]; have hxy : X * Y ≤ 4 * 4 := Nat.mul_le_mul hs.x4 hs.y4; omega)
  refine cSeq ?_
  refine cReg ?_
  refine segEnd [1] (T1 := (mkT 96 [(1, vP 0 0)])) (H1 := [rB [vN X, vN Y, vN Z, .slice none 0 0] 24]) (by kernel_rfl) ?_
  refine kSeq ?_
  refine cSeq ?_
  refine cReg ?_
  refine segEndH [1, 3] (T1 := (mkT 96 [(1, vP 0 0), (3, vI 1048576)])) (by kernel_rfl) ?_
  refine kSeq ?_
  refine cSeq ?_
  refine cReg ?_
  refine segH 2 (T1 := (mkT 96 [(1, vP 0 0), (3, vI 1048576), (14, .agg #[vN X, vN Y, vN Z, .slice none 0 0]), (15, vI 1048576)])) (by kernel_rfl) ?_
  refine rCall (v := vI 1048576) (args := [.agg #[vN X, vN Y, vN Z, .slice none 0 0], vI 1048576]) (by kernel_rfl) rfl (by kernel_rfl) (Sound.lay0 [] (szHeapN ((X : Nat) : Int) ((Y : Nat) : Int) ((Z : Nat) : Int) 1048576 (by first | omega | assumption | decide)) trivial rfl trivial rfl (by first | rfl | simp [mpV, mpA, mpS, mpP, renId, shift]) rfl) ?_
  refine segEndH [1, 3] (T1 := (mkT 96 [(1, vP 0 0), (3, vI 1048576)])) (by kernel_rfl) ?_
  refine kSeq ?_
  refine cSeq ?_
  refine cSeq ?_
  refine cReg ?_
  refine segEndH [1, 18] (T1 := (mkT 96 [(1, vP 0 0), (18, .bool false)])) (by kernel_rfl) ?_
  refine kSeq ?_
  refine cFalse (by kernel_rfl) ?_
  refine cSkip ?_
  refine kSeq ?_
  refine cSeq ?_
  refine cReg ?_
  refine segH 1 (T1 := (mkT 96 [(1, vP 0 0), (18, .bool false), (20, .agg #[vN X, vN Y, vN Z, .slice none 0 0])])) (by kernel_rfl) ?_
  refine rCall (v := .agg #[vN X, vN Y, vN Z, vS 1 0]) (args := [.agg #[vN X, vN Y, vN Z, .slice none 0 0]]) (by kernel_rfl) rfl (by kernel_rfl) (Sound.lay (E := [some ⟨[], 25, false, true⟩]) [] (toHeapN ((X : Nat) : Int) ((Y : Nat) : Int) ((Z : Nat) : Int)) trivial rfl trivial rfl (by first | rfl | simp [mpV, mpA, mpS, mpP, renId, shift]) (by first | rfl | simp [mpV, mpA, mpS, mpP, renId, shift]) ⟨enX rfl (Or.inl rfl), trivial⟩) ?_
  refine rCall (v := .tuple #[vS 2 R.length, .bool true]) (args := [.agg #[vN X, vN Y, vN Z, vS 1 0]]) (by kernel_rfl) rfl (by kernel_rfl) (Sound.lay (E := [some ⟨nums R, 3, false, true⟩]) [1] (specTop_yesR X Y Z ([] : List A3) R (by first | assumption | omega | rfl | decide | exact HeapL.list _ _ _ _ | exact HeapL.nil _ _ _ | exact HeapL.all _ _ _ | (apply HeapL.lt64 <;> assumption) | (repeat' (first | assumption | apply or_lt64 | apply and_lt64 | apply andn_lt64 | apply pow_lt64 | (apply HeapL.lt64 <;> assumption)))) (by first | assumption | omega | rfl | decide | exact HeapL.list _ _ _ _ | exact HeapL.nil _ _ _ | exact HeapL.all _ _ _ | (apply HeapL.lt64 <;> assumption) | (repeat' (first | assumption | apply or_lt64 | apply and_lt64 | apply andn_lt64 | apply pow_lt64 | (apply HeapL.lt64 <;> assumption)))) (by first | assumption | omega | rfl | decide | exact HeapL.list _ _ _ _ | exact HeapL.nil _ _ _ | exact HeapL.all _ _ _ | (apply HeapL.lt64 <;> assumption) | (repeat' (first | assumption | apply or_lt64 | apply and_lt64 | apply andn_lt64 | apply pow_lt64 | (apply HeapL.lt64 <;> assumption))))) ⟨rdF true (flatA3 _ _ _ _) rfl rfl, trivial⟩ rfl ⟨clF (flatA3 _ _ _ _), trivial⟩ rfl (by first | rfl | simp [mpV, mpA, mpS, mpP, renId, shift]) (by first | rfl | simp [mpV, mpA, mpS, mpP, renId, shift]) ⟨enF (flatNums _ _ _ _) (Or.inl rfl), trivial⟩) ?_
  refine segEnd [1, 4, 5] (T1 := (mkT 96 [(1, vP 0 0), (4, vS 2 R.length), (5, .bool true)])) (H1 := [rB [vN X, vN Y, vN Z, .slice none 0 0] 24, some ⟨[], 25, false, true⟩, some ⟨nums R, 3, false, true⟩]) (by kernel_rfl) ?_
  refine kSeq ?_
  refine cSeq ?_
  refine cReg ?_
  refine segH 1 (T1 := (mkT 96 [(1, vP 0 0), (4, vS 2 R.length), (5, .bool true), (25, .agg #[vN X, vN Y, vN Z, .slice none 0 0])])) (by kernel_rfl) ?_
  refine rCall (v := .agg #[vN X, vN Y, vN Z, vS 3 0]) (args := [.agg #[vN X, vN Y, vN Z, .slice none 0 0]]) (by kernel_rfl) rfl (by kernel_rfl) (Sound.lay (E := [some ⟨[], 25, false, true⟩]) [] (toHeapN ((X : Nat) : Int) ((Y : Nat) : Int) ((Z : Nat) : Int)) trivial rfl trivial rfl (by first | rfl | simp [mpV, mpA, mpS, mpP, renId, shift]) (by first | rfl | simp [mpV, mpA, mpS, mpP, renId, shift]) ⟨enX rfl (Or.inl rfl), trivial⟩) ?_
  refine segEnd [1, 4, 5, 6] (T1 := (mkT 96 [(1, vP 0 0), (4, vS 2 R.length), (5, .bool true), (6, vP 4 0)])) (H1 := [rB [vN X, vN Y, vN Z, .slice none 0 0] 24, some ⟨[], 25, false, true⟩, some ⟨nums R, 3, false, true⟩, some ⟨[], 25, false, true⟩, rB [vN X, vN Y, vN Z, vS 3 0] 29]) (by kernel_rfl) ?_
  refine kSeq ?_
  refine cSeq ?_
  refine cReg ?_
  refine segH 1 (T1 := (mkT 96 [(1, vP 0 0), (4, vS 2 R.length), (5, .bool true), (6, vP 4 0), (28, .agg #[vN X, vN Y, vN Z, vS 3 0])])) (by kernel_rfl) ?_
  refine rCall (v := .tuple #[vS 5 R.length, .bool true]) (args := [.agg #[vN X, vN Y, vN Z, vS 3 0]]) (by kernel_rfl) rfl (by kernel_rfl) (Sound.lay (E := [some ⟨nums R, 3, false, true⟩]) [3] (implTop_yesR X Y Z ([] : List A3) R (by first | assumption | omega | rfl | decide | exact HeapL.list _ _ _ _ | exact HeapL.nil _ _ _ | exact HeapL.all _ _ _ | (apply HeapL.lt64 <;> assumption) | (repeat' (first | assumption | apply or_lt64 | apply and_lt64 | apply andn_lt64 | apply pow_lt64 | (apply HeapL.lt64 <;> assumption)))) (by first | assumption | omega | rfl | decide | exact HeapL.list _ _ _ _ | exact HeapL.nil _ _ _ | exact HeapL.all _ _ _ | (apply HeapL.lt64 <;> assumption) | (repeat' (first | assumption | apply or_lt64 | apply and_lt64 | apply andn_lt64 | apply pow_lt64 | (apply HeapL.lt64 <;> assumption)))) (by first | assumption | omega | rfl | decide | exact HeapL.list _ _ _ _ | exact HeapL.nil _ _ _ | exact HeapL.all _ _ _ | (apply HeapL.lt64 <;> assumption) | (repeat' (first | assumption | apply or_lt64 | apply and_lt64 | apply andn_lt64 | apply pow_lt64 | (apply HeapL.lt64 <;> assumption))))) ⟨rdF true (flatA3 _ _ _ _) rfl rfl, trivial⟩ rfl ⟨clF (flatA3 _ _ _ _), trivial⟩ rfl (by first | rfl | simp [mpV, mpA, mpS, mpP, renId, shift]) (by first | rfl | simp [mpV, mpA, mpS, mpP, renId, shift]) ⟨enF (flatNums _ _ _ _) (Or.inl rfl), trivial⟩) ?_
  refine segEnd [1, 4, 5, 6, 7, 8] (T1 := (mkT 96 [(1, vP 0 0), (4, vS 2 R.length), (5, .bool true), (6, vP 4 0), (7, vS 5 R.length), (8, .bool true)])) (H1 := [rB [vN X, vN Y, vN Z, .slice none 0 0] 24, some ⟨[], 25, false, true⟩, some ⟨nums R, 3, false, true⟩, some ⟨[], 25, false, true⟩, rB [vN X, vN Y, vN Z, vS 3 0] 29, some ⟨nums R, 3, false, true⟩]) (by kernel_rfl) ?_
  refine kSeq ?_
  refine cSeq ?_
  refine cSeq ?_
  refine cReg ?_
  refine segH 2 (T1 := (mkT 96 [(1, vP 0 0), (4, vS 2 R.length), (5, .bool true), (6, vP 4 0), (7, vS 5 R.length), (8, .bool true), (32, vS 5 R.length), (33, vS 2 R.length)])) (by kernel_rfl) ?_
  refine rCall (v := .bool true) (args := [vS 5 R.length, vS 2 R.length]) (by kernel_rfl) rfl (by kernel_rfl) (Sound.lay0 [5, 2] (eqI_S R (by first | omega | assumption | (simp; done) | (simp; omega))) ⟨rdF true (flatNums _ _ _ _) rfl rfl, ⟨rdF true (flatNums _ _ _ _) rfl rfl, trivial⟩⟩ rfl ⟨clF (flatNums _ _ _ _), ⟨clF (flatNums _ _ _ _), trivial⟩⟩ rfl (by first | rfl | simp [mpV, mpA, mpS, mpP, renId, shift]) rfl) ?_
  refine segEndH [1, 4, 5, 6, 7, 8, 40] (T1 := (mkT 96 [(1, vP 0 0), (4, vS 2 R.length), (5, .bool true), (6, vP 4 0), (7, vS 5 R.length), (8, .bool true), (40, .bool false)])) (by kernel_rfl) ?_
  refine kSeq ?_
  refine cFalse (by kernel_rfl) ?_
  refine cSkip ?_
  refine kSeq ?_
  refine cSeq ?_
  refine cSeq ?_
  refine cRegW (N := 7) [⟨[], [], [4]⟩, ⟨[], [], [0]⟩, ⟨[6], [], []⟩, ⟨[], [], [3, 6]⟩, ⟨[], [], []⟩] 1 [6] (by rfl) (by rfl) (by kernel_rfl) (by kernel_rfl) (by kernel_rfl) ⟨nmsX (by kernel_rfl), ⟨nmsX (by kernel_rfl), ⟨nmsF (flatNums _ _ _ _), ⟨nmsX (by kernel_rfl), ⟨nmsX (by kernel_rfl), ⟨nmsF (flatNums _ _ _ _), trivial⟩⟩⟩⟩⟩⟩ ?_
  refine segWH 2 (T1 := (mkT 96 [(1, vP 0 0), (4, vS 2 R.length), (5, .bool true), (6, vP 4 0), (7, vS 5 R.length), (8, .bool true), (40, .bool false), (41, .agg #[vN X, vN Y, vN Z, vS 3 0]), (42, .agg #[vN X, vN Y, vN Z, .slice none 0 0])])) (by kernel_rfl) ?_
  refine rW (m := ⟨[6], [], []⟩) (v := .agg #[vN X, vN Y, vN Z, vS 6 0]) rfl (by kernel_rfl) (stN (i := 6) (E := [some ⟨[], 25, false, true⟩]) (v1 := .agg #[vN X, vN Y, vN Z, vS 7 0]) (args := [.agg #[vN X, vN Y, vN Z, .slice none 0 0]]) rfl (by kernel_rfl) (Any.lay (E := [some ⟨[], 25, false, true⟩]) (N := 7) [] (toHeapN ((X : Nat) : Int) ((Y : Nat) : Int) ((Z : Nat) : Int)) trivial rfl trivial rfl (by first | rfl | simp [mpV, mpA, mpS, mpP, renId, shift]) (by first | rfl | simp [mpV, mpA, mpS, mpP, renId, shift]) ⟨enX rfl (Or.inl rfl), trivial⟩) rfl (by kernel_rfl) (by kernel_rfl) (by kernel_rfl) (by kernel_rfl) (FlatH.cons (flatRow_of rfl) FlatH.nil)) (by kernel_rfl) (NRs.all ⟨nrOf (by rfl) (nmX (by kernel_rfl)), trivial⟩) ?_
  refine rW (m := ⟨[], [], [3, 6]⟩) (v := .bool true) rfl (by kernel_rfl) (stQ (args := [.agg #[vN X, vN Y, vN Z, vS 3 0], .agg #[vN X, vN Y, vN Z, vS 6 0]]) rfl (by kernel_rfl) (Any.lay0 [3, 6] (eqHeapB ((X : Nat) : Int) ((Y : Nat) : Int) ((Z : Nat) : Int) ([] : List A3) (by first | omega | assumption | (simp; done))) ⟨rdF true (flatA3 _ _ _ _) rfl rfl, ⟨rdF true (flatA3 _ _ _ _) rfl rfl, trivial⟩⟩ rfl ⟨clF (flatA3 _ _ _ _), ⟨clF (flatA3 _ _ _ _), trivial⟩⟩ rfl (by first | rfl | simp [mpV, mpA, mpS, mpP, renId, shift]) rfl) rfl (by kernel_rfl) (by kernel_rfl)) (by kernel_rfl) nr0 ?_
  refine segEndW [1, 4, 5, 6, 7, 8, 45] (T1 := (mkT 96 [(1, vP 0 0), (4, vS 2 R.length), (5, .bool true), (6, vP 4 0), (7, vS 5 R.length), (8, .bool true), (45, .bool false)])) (H1 := [rB [vN X, vN Y, vN Z, .slice none 0 0] 24, some ⟨[], 25, false, true⟩, some ⟨nums R, 3, false, true⟩, some ⟨[], 25, false, true⟩, rB [vN X, vN Y, vN Z, vS 3 0] 29, some ⟨nums R, 3, false, true⟩, some ⟨[], 25, false, true⟩]) (by kernel_rfl) ?_
  refine kSeq ?_
  refine cFalse (by kernel_rfl) ?_
  refine cSkip ?_
  refine kSeq ?_
  refine cSeq ?_
  refine cReg ?_
  refine segEndH [1, 4, 5, 6, 7, 8, 9] (T1 := (mkT 96 [(1, vP 0 0), (4, vS 2 R.length), (5, .bool true), (6, vP 4 0), (7, vS 5 R.length), (8, .bool true), (9, vI 1)])) (by kernel_rfl) ?_
  refine kSeq ?_
  refine cSeq ?_
  refine cReg ?_
  refine segH 2 (T1 := (mkT 96 [(1, vP 0 0), (4, vS 2 R.length), (5, .bool true), (6, vP 4 0), (7, vS 5 R.length), (8, .bool true), (9, vI 1), (46, .agg #[vN X, vN Y, vN Z, vS 3 0]), (47, vI 1)])) (by kernel_rfl) ?_
  refine rCall (v := vN (1 + 3 * ([] : List A3).length)) (args := [.agg #[vN X, vN Y, vN Z, vS 3 0], vI 1]) (by kernel_rfl) rfl (by kernel_rfl) (Sound.emb_set (r := ⟨a3s ([] : List A3), 25, false, true⟩) (r' := ⟨a3s (mk3 1 ([] : List A3).length), 25, false, true⟩) 3 (markHeapB ((X : Nat) : Int) ((Y : Nat) : Int) ((Z : Nat) : Int) ([] : List A3) 1 (by first | omega | assumption | (simp; done)) (by first | assumption | omega | rfl | decide | exact HeapL.list _ _ _ _ | exact HeapL.nil _ _ _ | exact HeapL.all _ _ _ | (apply HeapL.lt64 <;> assumption) | (repeat' (first | assumption | apply or_lt64 | apply and_lt64 | apply andn_lt64 | apply pow_lt64 | (apply HeapL.lt64 <;> assumption))))) (flatA3 _ _ _ _) rfl (flatA3 _ _ _ _) rfl rfl rfl (by first | rfl | simp [mpV, mpA, mpS, mpP, renId, shift]) rfl) ?_
  refine segEnd [1, 4, 5, 7, 8, 9] (T1 := (mkT 96 [(1, vP 0 0), (4, vS 2 R.length), (5, .bool true), (7, vS 5 R.length), (8, .bool true), (9, vN (1 + 3 * ([] : List A3).length))])) (H1 := [rB [vN X, vN Y, vN Z, .slice none 0 0] 24, some ⟨[], 25, false, true⟩, some ⟨nums R, 3, false, true⟩, some ⟨a3s (mk3 1 ([] : List A3).length), 25, false, true⟩, rB [vN X, vN Y, vN Z, vS 3 0] 29, some ⟨nums R, 3, false, true⟩, some ⟨[], 25, false, true⟩]) (by kernel_rfl) ?_
  refine kSeq ?_
  refine cSeq ?_
  refine cSeq ?_
  refine cReg ?_
  refine segH 3 (T1 := (mkT 96 [(1, vP 0 0), (4, vS 2 R.length), (5, .bool true), (7, vS 5 R.length), (8, .bool true), (9, vN (1 + 3 * ([] : List A3).length)), (49, vN (1 + 3 * ([] : List A3).length)), (50, .bool (decide (((1 + 3 * ([] : List A3).length : Nat) : Int) < 0))), (51, .bool (decide (((1 + 3 * ([] : List A3).length : Nat) : Int) < 0)))])) (by kernel_rfl) ?_
  cases h1 : (decide (((1 + 3 * ([] : List A3).length : Nat) : Int) < 0) : Bool)
  ·
    (try simp only [Bool.not_eq_true', Bool.not_eq_false', decide_eq_true_eq, decide_eq_false_iff_not, beq_iff_eq, bne_iff_ne, beq_eq_false_iff_ne, bne_eq_false_iff_eq, ne_eq, Decidable.not_not, Bool.and_eq_true, Bool.and_eq_false_imp, Bool.or_eq_true, Bool.or_eq_false_iff, Bool.not_eq_true, Int.not_lt, Int.not_le, ge_iff_le, gt_iff_lt] at h1)
    refine seg 2 (T1 := (mkT 96 [(1, vP 0 0), (4, vS 2 R.length), (5, .bool true), (7, vS 5 R.length), (8, .bool true), (9, vN (1 + 3 * ([] : List A3).length)), (49, vN (1 + 3 * ([] : List A3).length)), (50, .bool false), (51, .bool false), (52, vS 5 R.length), (53, vS 2 R.length)])) (H1 := [rB [vN X, vN Y, vN Z, .slice none 0 0] 24, some ⟨[], 25, false, true⟩, some ⟨nums R, 3, false, true⟩, some ⟨a3s (mk3 1 ([] : List A3).length), 25, false, true⟩, rB [vN X, vN Y, vN Z, vS 3 0] 29, some ⟨nums R, 3, false, true⟩, some ⟨[], 25, false, true⟩]) (by kernel_rfl) ?_
    refine rCall (v := .bool true) (args := [vS 5 R.length, vS 2 R.length]) (by kernel_rfl) rfl (by kernel_rfl) (Sound.lay0 [5, 2] (eqI_S R (by first | omega | assumption | (simp; done) | (simp; omega))) ⟨rdF true (flatNums _ _ _ _) rfl rfl, ⟨rdF true (flatNums _ _ _ _) rfl rfl, trivial⟩⟩ rfl ⟨clF (flatNums _ _ _ _), ⟨clF (flatNums _ _ _ _), trivial⟩⟩ rfl (by first | rfl | simp [mpV, mpA, mpS, mpP, renId, shift]) rfl) ?_
    refine segEnd [1, 4, 5, 7, 61] (T1 := (mkT 96 [(1, vP 0 0), (4, vS 2 R.length), (5, .bool true), (7, vS 5 R.length), (61, .bool false)])) (H1 := [rB [vN X, vN Y, vN Z, .slice none 0 0] 24, some ⟨[], 25, false, true⟩, some ⟨nums R, 3, false, true⟩, some ⟨a3s (mk3 1 ([] : List A3).length), 25, false, true⟩, rB [vN X, vN Y, vN Z, vS 3 0] 29, some ⟨nums R, 3, false, true⟩, some ⟨[], 25, false, true⟩]) (by kernel_rfl) ?_
    refine kSeq ?_
    refine cFalse (by kernel_rfl) ?_
    refine cSkip ?_
    refine kSeq ?_
    refine cSeq ?_
    refine cReg ?_
    refine segEndH [1, 4, 5, 7, 10] (T1 := (mkT 96 [(1, vP 0 0), (4, vS 2 R.length), (5, .bool true), (7, vS 5 R.length), (10, vI 1)])) (by kernel_rfl) ?_
    refine kSeq ?_
    refine cSeq ?_
    refine cReg ?_
    refine segH 2 (T1 := (mkT 96 [(1, vP 0 0), (4, vS 2 R.length), (5, .bool true), (7, vS 5 R.length), (10, vI 1), (62, vS 5 R.length), (63, vI 1)])) (by kernel_rfl) ?_
    refine rCall (v := vN (1 + R.length)) (args := [vS 5 R.length, vI 1]) (by kernel_rfl) rfl (by kernel_rfl) (Sound.emb_set (r := ⟨nums R, 3, false, true⟩) (r' := ⟨nums (mkI 1 R.length), 3, false, true⟩) 5 (markI_S R 1 (by first | omega | assumption | (simp; done) | (simp; omega)) (by first | assumption | omega | rfl | decide | exact HeapL.list _ _ _ _ | exact HeapL.nil _ _ _ | exact HeapL.all _ _ _ | (apply HeapL.lt64 <;> assumption) | (repeat' (first | assumption | apply or_lt64 | apply and_lt64 | apply andn_lt64 | apply pow_lt64 | (apply HeapL.lt64 <;> assumption))))) (flatNums _ _ _ _) rfl (flatNums _ _ _ _) rfl rfl rfl (by first | rfl | simp [mpV, mpA, mpS, mpP, renId, shift]) rfl) ?_
    refine segEnd [1, 4, 5, 7, 10] (T1 := (mkT 96 [(1, vP 0 0), (4, vS 2 R.length), (5, .bool true), (7, vS 5 R.length), (10, vN (1 + R.length))])) (H1 := [rB [vN X, vN Y, vN Z, .slice none 0 0] 24, some ⟨[], 25, false, true⟩, some ⟨nums R, 3, false, true⟩, some ⟨a3s (mk3 1 ([] : List A3).length), 25, false, true⟩, rB [vN X, vN Y, vN Z, vS 3 0] 29, some ⟨nums (mkI 1 R.length), 3, false, true⟩, some ⟨[], 25, false, true⟩]) (by kernel_rfl) ?_
    refine kSeq ?_
    refine cSeq ?_
    refine cReg ?_
    refine segEndH [1, 4, 5, 7, 10, 11] (T1 := (mkT 96 [(1, vP 0 0), (4, vS 2 R.length), (5, .bool true), (7, vS 5 R.length), (10, vN (1 + R.length)), (11, vI 1)])) (by kernel_rfl) ?_
    refine kSeq ?_
    refine cSeq ?_
    refine cReg ?_
    refine segH 2 (T1 := (mkT 96 [(1, vP 0 0), (4, vS 2 R.length), (5, .bool true), (7, vS 5 R.length), (10, vN (1 + R.length)), (11, vI 1), (65, vS 5 R.length), (66, vI 1)])) (by kernel_rfl) ?_
    refine rCall (v := vN (1 + R.length)) (args := [vS 5 R.length, vI 1]) (by kernel_rfl) rfl (by kernel_rfl) (Sound.lay0 [5] (heldI_S 1 R.length (by first | omega | assumption | decide) (by first | assumption | omega | rfl | decide | exact HeapL.list _ _ _ _ | exact HeapL.nil _ _ _ | exact HeapL.all _ _ _ | (apply HeapL.lt64 <;> assumption) | (repeat' (first | assumption | apply or_lt64 | apply and_lt64 | apply andn_lt64 | apply pow_lt64 | (apply HeapL.lt64 <;> assumption))))) ⟨rdF true (flatNums _ _ _ _) rfl rfl, trivial⟩ rfl ⟨clF (flatNums _ _ _ _), trivial⟩ rfl (by first | rfl | simp [mpV, mpA, mpS, mpP, renId, shift]) rfl) ?_
    refine segEndH [1, 4, 5, 7, 10, 11] (T1 := (mkT 96 [(1, vP 0 0), (4, vS 2 R.length), (5, .bool true), (7, vS 5 R.length), (10, vN (1 + R.length)), (11, vN (1 + R.length))])) (by kernel_rfl) ?_
    refine kSeq ?_
    refine cSeq ?_
    refine cSeq ?_
    refine cReg ?_
    refine segEndH [1, 4, 5, 7, 10, 11, 69] (T1 := (mkT 96 [(1, vP 0 0), (4, vS 2 R.length), (5, .bool true), (7, vS 5 R.length), (10, vN (1 + R.length)), (11, vN (1 + R.length)), (69, .bool (decide (((1 + R.length : Nat) : Int) < 0)))])) (by kernel_rfl) ?_
    refine kSeq ?_
    cases h2 : (decide (((1 + R.length : Nat) : Int) < 0) : Bool)
    ·
      (try simp only [Bool.not_eq_true', Bool.not_eq_false', decide_eq_true_eq, decide_eq_false_iff_not, beq_iff_eq, bne_iff_ne, beq_eq_false_iff_ne, bne_eq_false_iff_eq, ne_eq, Decidable.not_not, Bool.and_eq_true, Bool.and_eq_false_imp, Bool.or_eq_true, Bool.or_eq_false_iff, Bool.not_eq_true, Int.not_lt, Int.not_le, ge_iff_le, gt_iff_lt] at h2)
      refine cFalse (by kernel_rfl) ?_
      refine cSkip ?_
      refine kSeq ?_
      refine cSeq ?_
      refine cSeq ?_
      refine cReg ?_
      refine segH 2 (T1 := (mkT 96 [(1, vP 0 0), (4, vS 2 R.length), (5, .bool true), (7, vS 5 R.length), (10, vN (1 + R.length)), (11, vN (1 + R.length)), (69, .bool false), (70, vN (1 + R.length)), (71, vN (1 + R.length))])) (by kernel_rfl) ?_
      refine rOp (v := .bool false) (by kernel_rfl) (eNeS (k := .i64) (a := ((1 + R.length : Nat) : Int)) (by kernel_rfl) (by kernel_rfl)) ?_
      refine segEndH [1, 4, 5, 7, 10, 72] (T1 := (mkT 96 [(1, vP 0 0), (4, vS 2 R.length), (5, .bool true), (7, vS 5 R.length), (10, vN (1 + R.length)), (72, .bool false)])) (by kernel_rfl) ?_
      refine kSeq ?_
      refine cFalse (by kernel_rfl) ?_
      refine cSkip ?_
      refine kSeq ?_
      refine cSeq ?_
      refine cReg ?_
      refine segH 1 (T1 := (mkT 96 [(1, vP 0 0), (4, vS 2 R.length), (5, .bool true), (7, vS 5 R.length), (10, vN (1 + R.length)), (72, .bool false), (74, .agg #[vN X, vN Y, vN Z, .slice none 0 0])])) (by kernel_rfl) ?_
      refine rCall (v := .agg #[vN X, vN Y, vN Z, vS 7 0]) (args := [.agg #[vN X, vN Y, vN Z, .slice none 0 0]]) (by kernel_rfl) rfl (by kernel_rfl) (Sound.lay (E := [some ⟨[], 25, false, true⟩]) [] (toHeapN ((X : Nat) : Int) ((Y : Nat) : Int) ((Z : Nat) : Int)) trivial rfl trivial rfl (by first | rfl | simp [mpV, mpA, mpS, mpP, renId, shift]) (by first | rfl | simp [mpV, mpA, mpS, mpP, renId, shift]) ⟨enX rfl (Or.inl rfl), trivial⟩) ?_
      refine rCall (v := .tuple #[vS 8 R.length, .bool true]) (args := [.agg #[vN X, vN Y, vN Z, vS 7 0]]) (by kernel_rfl) rfl (by kernel_rfl) (Sound.lay (E := [some ⟨nums R, 3, false, true⟩]) [7] (implTop_yesR X Y Z ([] : List A3) R (by first | assumption | omega | rfl | decide | exact HeapL.list _ _ _ _ | exact HeapL.nil _ _ _ | exact HeapL.all _ _ _ | (apply HeapL.lt64 <;> assumption) | (repeat' (first | assumption | apply or_lt64 | apply and_lt64 | apply andn_lt64 | apply pow_lt64 | (apply HeapL.lt64 <;> assumption)))) (by first | assumption | omega | rfl | decide | exact HeapL.list _ _ _ _ | exact HeapL.nil _ _ _ | exact HeapL.all _ _ _ | (apply HeapL.lt64 <;> assumption) | (repeat' (first | assumption | apply or_lt64 | apply and_lt64 | apply andn_lt64 | apply pow_lt64 | (apply HeapL.lt64 <;> assumption)))) (by first | assumption | omega | rfl | decide | exact HeapL.list _ _ _ _ | exact HeapL.nil _ _ _ | exact HeapL.all _ _ _ | (apply HeapL.lt64 <;> assumption) | (repeat' (first | assumption | apply or_lt64 | apply and_lt64 | apply andn_lt64 | apply pow_lt64 | (apply HeapL.lt64 <;> assumption))))) ⟨rdF true (flatA3 _ _ _ _) rfl rfl, trivial⟩ rfl ⟨clF (flatA3 _ _ _ _), trivial⟩ rfl (by first | rfl | simp [mpV, mpA, mpS, mpP, renId, shift]) (by first | rfl | simp [mpV, mpA, mpS, mpP, renId, shift]) ⟨enF (flatNums _ _ _ _) (Or.inl rfl), trivial⟩) ?_
      refine segEnd [4, 5, 7, 10, 12, 13] (T1 := (mkT 96 [(4, vS 2 R.length), (5, .bool true), (7, vS 5 R.length), (10, vN (1 + R.length)), (12, vS 8 R.length), (13, .bool true)])) (H1 := [rB [vN X, vN Y, vN Z, .slice none 0 0] 24, some ⟨[], 25, false, true⟩, some ⟨nums R, 3, false, true⟩, some ⟨a3s (mk3 1 ([] : List A3).length), 25, false, true⟩, rB [vN X, vN Y, vN Z, vS 3 0] 29, some ⟨nums (mkI 1 R.length), 3, false, true⟩, some ⟨[], 25, false, true⟩, some ⟨[], 25, false, true⟩, some ⟨nums R, 3, false, true⟩]) (by kernel_rfl) ?_
      refine kSeq ?_
      refine cSeq ?_
      refine cSeq ?_
      refine cReg ?_
      refine segH 2 (T1 := (mkT 96 [(4, vS 2 R.length), (5, .bool true), (7, vS 5 R.length), (10, vN (1 + R.length)), (12, vS 8 R.length), (13, .bool true), (79, vS 8 R.length), (80, vS 2 R.length)])) (by kernel_rfl) ?_
      refine rCall (v := .bool true) (args := [vS 8 R.length, vS 2 R.length]) (by kernel_rfl) rfl (by kernel_rfl) (Sound.lay0 [8, 2] (eqI_S R (by first | omega | assumption | (simp; done) | (simp; omega))) ⟨rdF true (flatNums _ _ _ _) rfl rfl, ⟨rdF true (flatNums _ _ _ _) rfl rfl, trivial⟩⟩ rfl ⟨clF (flatNums _ _ _ _), ⟨clF (flatNums _ _ _ _), trivial⟩⟩ rfl (by first | rfl | simp [mpV, mpA, mpS, mpP, renId, shift]) rfl) ?_
      refine segEndH [7, 10, 87] (T1 := (mkT 96 [(7, vS 5 R.length), (10, vN (1 + R.length)), (87, .bool false)])) (by kernel_rfl) ?_
      refine kSeq ?_
      refine cFalse (by kernel_rfl) ?_
      refine cSkip ?_
      refine kSeq ?_
      refine cSeq ?_
      refine cReg ?_
      refine segEndH [7, 10, 11] (T1 := (mkT 96 [(7, vS 5 R.length), (10, vN (1 + R.length)), (11, vI 1)])) (by kernel_rfl) ?_
      refine kSeq ?_
      refine cSeq ?_
      refine cReg ?_
      refine segH 2 (T1 := (mkT 96 [(7, vS 5 R.length), (10, vN (1 + R.length)), (11, vI 1), (88, vS 5 R.length), (89, vI 1)])) (by kernel_rfl) ?_
      refine rCall (v := vN (1 + R.length)) (args := [vS 5 R.length, vI 1]) (by kernel_rfl) rfl (by kernel_rfl) (Sound.lay0 [5] (heldI_S 1 R.length (by first | omega | assumption | decide) (by first | assumption | omega | rfl | decide | exact HeapL.list _ _ _ _ | exact HeapL.nil _ _ _ | exact HeapL.all _ _ _ | (apply HeapL.lt64 <;> assumption) | (repeat' (first | assumption | apply or_lt64 | apply and_lt64 | apply andn_lt64 | apply pow_lt64 | (apply HeapL.lt64 <;> assumption))))) ⟨rdF true (flatNums _ _ _ _) rfl rfl, trivial⟩ rfl ⟨clF (flatNums _ _ _ _), trivial⟩ rfl (by first | rfl | simp [mpV, mpA, mpS, mpP, renId, shift]) rfl) ?_
      refine segEndH [10, 11] (T1 := (mkT 96 [(10, vN (1 + R.length)), (11, vN (1 + R.length))])) (by kernel_rfl) ?_
      refine kSeq ?_
      refine cSeq ?_
      refine cSeq ?_
      refine cReg ?_
      refine segEndH [10, 11, 92] (T1 := (mkT 96 [(10, vN (1 + R.length)), (11, vN (1 + R.length)), (92, .bool (decide (((1 + R.length : Nat) : Int) < 0)))])) (by kernel_rfl) ?_
      refine kSeq ?_
      cases h3 : (decide (((1 + R.length : Nat) : Int) < 0) : Bool)
      ·
        (try simp only [Bool.not_eq_true', Bool.not_eq_false', decide_eq_true_eq, decide_eq_false_iff_not, beq_iff_eq, bne_iff_ne, beq_eq_false_iff_ne, bne_eq_false_iff_eq, ne_eq, Decidable.not_not, Bool.and_eq_true, Bool.and_eq_false_imp, Bool.or_eq_true, Bool.or_eq_false_iff, Bool.not_eq_true, Int.not_lt, Int.not_le, ge_iff_le, gt_iff_lt] at h3)
        refine cFalse (by kernel_rfl) ?_
        refine cSkip ?_
        refine kSeq ?_
        refine cSeq ?_
        refine cSeq ?_
        refine cReg ?_
        refine segH 2 (T1 := (mkT 96 [(10, vN (1 + R.length)), (11, vN (1 + R.length)), (92, .bool false), (93, vN (1 + R.length)), (94, vN (1 + R.length))])) (by kernel_rfl) ?_
        refine rOp (v := .bool false) (by kernel_rfl) (eNeS (k := .i64) (a := ((1 + R.length : Nat) : Int)) (by kernel_rfl) (by kernel_rfl)) ?_
        refine segEndH [95] (T1 := (mkT 96 [(95, .bool false)])) (by kernel_rfl) ?_
        refine kSeq ?_
        refine cFalse (by kernel_rfl) ?_
        refine cSkip ?_
        refine kSeq ?_
        refine cSeq ?_
        refine cReg ?_
        refine segEndH [2] (T1 := (mkT 96 [(2, .bool true)])) (by kernel_rfl) ?_
        refine kSeq ?_
        refine cRet ?_
        -- end
        exact endQ (Or.inr rfl) (l := [.bool true]) [rB [vN X, vN Y, vN Z, .slice none 0 0] 24, some ⟨[], 25, false, true⟩, some ⟨nums R, 3, false, true⟩, some ⟨a3s (mk3 1 ([] : List A3).length), 25, false, true⟩, rB [vN X, vN Y, vN Z, vS 3 0] 29, some ⟨nums (mkI 1 R.length), 3, false, true⟩, some ⟨[], 25, false, true⟩, some ⟨[], 25, false, true⟩, some ⟨nums R, 3, false, true⟩] (by kernel_rfl) (by first | rfl | kernel_rfl) rfl rfl hcl rfl
      ·
        (try simp only [Bool.not_eq_true', Bool.not_eq_false', decide_eq_true_eq, decide_eq_false_iff_not, beq_iff_eq, bne_iff_ne, beq_eq_false_iff_ne, bne_eq_false_iff_eq, ne_eq, Decidable.not_not, Bool.and_eq_true, Bool.and_eq_false_imp, Bool.or_eq_true, Bool.or_eq_false_iff, Bool.not_eq_true, Int.not_lt, Int.not_le, ge_iff_le, gt_iff_lt] at h3)
        exfalso; omega
    ·
      (try simp only [Bool.not_eq_true', Bool.not_eq_false', decide_eq_true_eq, decide_eq_false_iff_not, beq_iff_eq, bne_iff_ne, beq_eq_false_iff_ne, bne_eq_false_iff_eq, ne_eq, Decidable.not_not, Bool.and_eq_true, Bool.and_eq_false_imp, Bool.or_eq_true, Bool.or_eq_false_iff, Bool.not_eq_true, Int.not_lt, Int.not_le, ge_iff_le, gt_iff_lt] at h2)
      exfalso; omega
  ·
    (try simp only [Bool.not_eq_true', Bool.not_eq_false', decide_eq_true_eq, decide_eq_false_iff_not, beq_iff_eq, bne_iff_ne, beq_eq_false_iff_ne, bne_eq_false_iff_eq, ne_eq, Decidable.not_not, Bool.and_eq_true, Bool.and_eq_false_imp, Bool.or_eq_true, Bool.or_eq_false_iff, Bool.not_eq_true, Int.not_lt, Int.not_le, ge_iff_le, gt_iff_lt] at h1)
    exfalso; omega

theorem lawTopHeights_s (x y z : Int) (L : List A3) (hm : L.length ≤ 9223372036854775807) : Sound Try.prog 14 [.agg #[vI x, vI y, vI z, vS 0 L.length]] [some ⟨a3s L, 25, false, false⟩] (.bool true) [some ⟨a3s L, 25, false, false⟩] := by
  by_cases hl : L.length ≤ 1048576
  · cases hv : isHeapB x y z L
    · exact lawTopHeights_no_s x y z L hl hv
    · obtain ⟨X, Y, Z, rfl, rfl, rfl, hs, hL⟩ := heapL_of hv
      exact lawTopHeights_yes_s X Y Z L _ hs hL rfl
  · exact lawTopHeights_big_s x y z L (by omega) hm

theorem lawTopHeights_n (x y z : Int)  : Sound Try.prog 14 [.agg #[vI x, vI y, vI z, .slice none 0 0]] [] (.bool true) [] := by
  cases hv : isHeapB x y z ([] : List A3)
  · exact lawTopHeights_no_n x y z hv
  · obtain ⟨X, Y, Z, rfl, rfl, rfl, hs, hL⟩ := heapL_of hv
    exact lawTopHeights_yes_n X Y Z _ hs rfl
end Go.Proofs.Ytenkiofddpjidaa
namespace Go.Proofs.Ytenkiofddpjidaa.fnExactTopHeights
open Go.Am Go.ChangeShapes Go.WideShapes Go.ChangeAt Go.RowKit
theorem own : ownKnob Try.prog.godebug = none := by kernel_rfl
theorem laidOut : laidOutB Try.prog = true := by kernel_rfl
set_option maxRecDepth 100000 in
theorem lifted (os : Os) (started : os.Started) (H : Type) (enc : TypeId × Value → H) :
    ReturnsInHanded {} Try.checked os 14 .any (Rows.fnExactTopHeightsSpec.pre6 enc Try.prog Try.f14 Rows.fnExactTopHeightsRow.domain false) (Rows.fnExactTopHeightsSpec.post enc Try.prog Try.f14 false true false false) := by
  refine returnsInHanded_of_change_sized (C := Try.checked) own started (by kernel_rfl) Try.func14
    (ChangeSpec.witness6 (enc := enc) (C := Try.checked) false ⟨#[], #[.agg #[.int .i64 0, .int .i64 0, .int .i64 0, .slice none 0 0]], []⟩ 8 (by kernel_rfl) (by kernel_rfl) (by kernel_rfl) (by kernel_rfl)) ?_
  intro W base args ds gs before hval0 hW hcnd hsz0 _
  have hval : ∀ (j : Nat) t v, Try.f14.params[j]? = some t → args[j]? = some v → Value.okWide Try.prog W .any base t v := hval0
  have hW' := hW
  obtain ⟨p, q, hA0, hV, rfl, hfz, hnd⟩ := hW
  have hA : DataW.TrodAll enc Try.prog W 0 (fun _ => true) true Try.f14.params.toList args.toList ds p := hA0
  rw [Try.params14] at hA hval
  obtain ⟨v0, vs0, d0, ds0, p0, q0, hargs, rfl, rfl, h0, r0⟩ := trodAll_cons hA
  obtain ⟨rfl, rfl, rfl⟩ := trodAll_nil r0
  obtain rfl : args = #[v0] := by cases args; simp_all
  obtain ⟨rfl, rfl⟩ := trodVars_none hV
  have hlt0 : ∀ x ∈ p0, x.block < W.heap.size := fun x hx => by simpa using hW'.lt x (by simp [hx])
  have fin : (∃ Q : Prop, Q) ∧ Calls Try.prog 14 #[v0] W (fun e W' => e = .returned (.bool true) ∧ Below W.heap.size W W') := by
    refine ⟨⟨True, trivial⟩, ?_⟩
    obtain ⟨x0, y0, z0, wx0, wy0, wz0, hor0⟩ := open_heap (b0 := base) Try.underlying24 ⟨rfl, rfl⟩ ⟨rfl, rfl⟩ ⟨rfl, rfl⟩ ⟨rfl, rfl⟩ Try.underlying22 Try.underlying25 Try.underlying3 (by kernel_rfl) (by kernel_rfl) (by kernel_rfl) (by kernel_rfl) (by kernel_rfl) (hval 0 24 v0 rfl rfl) h0
    rcases hor0 with rfl | ⟨ad0, cap0, L0, rfl, hl0, hm0, hsp0, hhas0, hcell0⟩
    · have hS : Sound Try.prog 14 [.agg #[.int .i64 x0, .int .i64 y0, .int .i64 z0, .slice none 0 0]] [] (.bool true) [] := lawTopHeights_n x0 y0 z0
      exact hS.top0 rfl rfl W
    · have hS : Sound Try.prog 14 [.agg #[.int .i64 x0, .int .i64 y0, .int .i64 z0, .slice (some ⟨0, 0, none⟩) L0.length 0]] [some ⟨a3s L0, 25, false, false⟩] (.bool true) [some ⟨a3s L0, 25, false, false⟩] := lawTopHeights_s x0 y0 z0 L0 (by have : maxLen = 9223372036854775807 := rfl; omega)
      have hrep := rep_one (P := Try.prog) (b0 := base) (ta := 25) (by kernel_rfl) hhas0 (by rw [Try.underlying25]; simp) hcell0 hl0
      have h := hS.top (fun i r hi => by cases i with
        | zero => simp at hi; subst hi; rfl
        | succ i => simp at hi) hrep (fun x hx i hi => by
        simp at hx
        rcases hx with rfl <;> simp [idsV, idsA, idsS, idsP] at hi
        simp [hi]) rfl
      obtain ⟨blk0, off0, spot0⟩ := ad0
      simp only at hsp0
      subst hsp0
      simpa [mapV, mpV, mpA, mpS, mpP, toReal] using h
  clear hA0 hval0 hsz0
  refine fin.2.mono fun e W' ⟨he, bel⟩ => ?_
  subst he
  exact ⟨_, rfl, _, _, _, [], _, [], hW', trodAll_mk1 (shut_bool Try.underlying4 _), (trodAll_cons_mk (Below.trod laidOut (by kernel_rfl) (of_decide_eq_true (by kernel_rfl)) h0 bel hlt0) trodAll_mk0), rfl, bel.frame _, fun h => by cases h⟩
theorem over : Rows.fnExactTopHeightsRow.holds Try.pinned (OpenSpec.ofChange Rows.fnExactTopHeightsSpec) :=
  OpenClaim.holds_of_wide 14 Try.f14 rfl rfl rfl rfl rfl rfl rfl ⟨rfl, rfl, rfl, rfl, rfl⟩ rfl rfl rfl rfl rfl (by kernel_rfl) Try.func14 (by kernel_rfl)
    (of_decide_eq_true (by kernel_rfl)) (by unfold Func.isWrapper; first | (rw [if_pos (by decide +kernel)]; kernel_rfl) | (rw [if_neg (by decide +kernel)]; exact ⟨rfl, rfl⟩))
    (fun os started H enc _ => lifted os started H enc)
end Go.Proofs.Ytenkiofddpjidaa.fnExactTopHeights
namespace Go.Proofs.Ytenkiofddpjidaa
/-- The row, under a short name, for the claim. -/
theorem fnExactTopHeights_holds : Rows.FnExactTopHeightsSaid := fnExactTopHeights.over
#print axioms fnExactTopHeights_holds
end Go.Proofs.Ytenkiofddpjidaa
