/- Walks. No condition. -/
import Derived.Test.YtenkiofddpjidaaAmKJoinHeaps
set_option linter.unusedVariables false
set_option linter.unusedSimpArgs false
namespace Go.Proofs.Ytenkiofddpjidaa
open Go.Am Go.RowKit
set_option maxRecDepth 100000 in
set_option maxHeartbeats 4000000 in
theorem lawJoinHeaps_yes_ss (X : Nat) (Y : Nat) (Z : Nat) (L1 : List A3) (L2 : List A3) (R : List A3) (hs : Sides X Y Z) (hL1 : HeapL X Y Z L1) (hL2 : HeapL X Y Z L2) (hR : R = listOf X Y Z (setOf Y Z L1 ||| setOf Y Z L2)) : Sound Try.prog 8 [.agg #[vN X, vN Y, vN Z, vS 0 L1.length], .agg #[vN X, vN Y, vN Z, vS 1 L2.length]] [some ⟨a3s L1, 25, false, false⟩, some ⟨a3s L2, 25, false, false⟩] (.bool true) [some ⟨a3s L1, 25, false, false⟩, some ⟨a3s L2, 25, false, false⟩] := by
  refine sound_intro (C := cx) Try.func8 rfl (by kernel_rfl) fun hcl => ?_
  have hz := hs.size
  have hx0 := hs.x0
  have hx4 := hs.x4
  have hy0 := hs.y0
  have hy4 := hs.y4
  have hz0 := hs.z0
  have hz4 := hs.z4
  have hn1 : L1.length ≤ 64 := by first | (have := hL1.len; omega) | simp
  have hn2 : L2.length ≤ 64 := by first | (have := hL2.len; omega) | simp
  have hr : R.length ≤ 64 := by (rw [hR]; have := (HeapL.list X Y Z (setOf Y Z L1 ||| setOf Y Z L2)).len; omega)
  refine cSeq ?_
  refine cReg ?_
  refine segEnd [2, 3] (T1 := (mkT 119 [(2, vP 2 0), (3, vP 3 0)])) (H1 := [some ⟨a3s L1, 25, false, false⟩, some ⟨a3s L2, 25, false, false⟩, rB [vN X, vN Y, vN Z, vS 0 L1.length] 24, rB [vN X, vN Y, vN Z, vS 1 L2.length] 24]) (by kernel_rfl) ?_
  refine kSeq ?_
  refine cSeq ?_
  refine cReg ?_
  refine segEndH [2, 3, 5] (T1 := (mkT 119 [(2, vP 2 0), (3, vP 3 0), (5, vI 1048576)])) (by kernel_rfl) ?_
  refine kSeq ?_
  refine cSeq ?_
  refine cReg ?_
  refine segH 2 (T1 := (mkT 119 [(2, vP 2 0), (3, vP 3 0), (5, vI 1048576), (17, .agg #[vN X, vN Y, vN Z, vS 0 L1.length]), (18, vI 1048576)])) (by kernel_rfl) ?_
  refine rCall (v := vN (1048576 - L1.length)) (args := [.agg #[vN X, vN Y, vN Z, vS 0 L1.length], vI 1048576]) (by kernel_rfl) rfl (by kernel_rfl) (Sound.lay0 [0] (szHeapS ((X : Nat) : Int) ((Y : Nat) : Int) ((Z : Nat) : Int) L1 1048576 (by first | omega | assumption | (simp; done)) (by first | omega | assumption | decide)) ⟨rdF false (flatA3 _ _ _ _) rfl rfl, trivial⟩ rfl ⟨clF (flatA3 _ _ _ _), trivial⟩ rfl (by first | rfl | simp [mpV, mpA, mpS, mpP, renId, shift]) rfl) ?_
  refine segEndH [2, 3, 5] (T1 := (mkT 119 [(2, vP 2 0), (3, vP 3 0), (5, vN (1048576 - L1.length))])) (by kernel_rfl) ?_
  refine kSeq ?_
  refine cSeq ?_
  refine cSeq ?_
  refine cReg ?_
  refine segEndH [2, 3, 5, 21] (T1 := (mkT 119 [(2, vP 2 0), (3, vP 3 0), (5, vN (1048576 - L1.length)), (21, .bool (decide (((1048576 - L1.length : Nat) : Int) < 0)))])) (by kernel_rfl) ?_
  refine kSeq ?_
  cases h1 : (decide (((1048576 - L1.length : Nat) : Int) < 0) : Bool)
  ·
    (try simp only [Bool.not_eq_true', Bool.not_eq_false', decide_eq_true_eq, decide_eq_false_iff_not, beq_iff_eq, bne_iff_ne, beq_eq_false_iff_ne, bne_eq_false_iff_eq, ne_eq, Decidable.not_not, Bool.and_eq_true, Bool.and_eq_false_imp, Bool.or_eq_true, Bool.or_eq_false_iff, Bool.not_eq_true, Int.not_lt, Int.not_le, ge_iff_le, gt_iff_lt] at h1)
    refine cFalse (by kernel_rfl) ?_
    refine cSkip ?_
    refine kSeq ?_
    refine cSeq ?_
    refine cReg ?_
    refine segH 2 (T1 := (mkT 119 [(2, vP 2 0), (3, vP 3 0), (5, vN (1048576 - L1.length)), (21, .bool false), (22, .agg #[vN X, vN Y, vN Z, vS 1 L2.length]), (23, vN (1048576 - L1.length))])) (by kernel_rfl) ?_
    refine rCall (v := vN ((1048576 - L1.length) - L2.length)) (args := [.agg #[vN X, vN Y, vN Z, vS 1 L2.length], vN (1048576 - L1.length)]) (by kernel_rfl) rfl (by kernel_rfl) (Sound.lay0 [1] (szHeapS ((X : Nat) : Int) ((Y : Nat) : Int) ((Z : Nat) : Int) L2 (1048576 - L1.length) (by first | omega | assumption | (simp; done)) (by first | omega | assumption | decide)) ⟨rdF false (flatA3 _ _ _ _) rfl rfl, trivial⟩ rfl ⟨clF (flatA3 _ _ _ _), trivial⟩ rfl (by first | rfl | simp [mpV, mpA, mpS, mpP, renId, shift]) rfl) ?_
    refine segEndH [2, 3, 5] (T1 := (mkT 119 [(2, vP 2 0), (3, vP 3 0), (5, vN ((1048576 - L1.length) - L2.length))])) (by kernel_rfl) ?_
    refine kSeq ?_
    refine cSeq ?_
    refine cSeq ?_
    refine cReg ?_
    refine segEndH [2, 3, 26] (T1 := (mkT 119 [(2, vP 2 0), (3, vP 3 0), (26, .bool (decide ((((1048576 - L1.length) - L2.length : Nat) : Int) < 0)))])) (by kernel_rfl) ?_
    refine kSeq ?_
    cases h2 : (decide ((((1048576 - L1.length) - L2.length : Nat) : Int) < 0) : Bool)
    ·
      (try simp only [Bool.not_eq_true', Bool.not_eq_false', decide_eq_true_eq, decide_eq_false_iff_not, beq_iff_eq, bne_iff_ne, beq_eq_false_iff_ne, bne_eq_false_iff_eq, ne_eq, Decidable.not_not, Bool.and_eq_true, Bool.and_eq_false_imp, Bool.or_eq_true, Bool.or_eq_false_iff, Bool.not_eq_true, Int.not_lt, Int.not_le, ge_iff_le, gt_iff_lt] at h2)
      refine cFalse (by kernel_rfl) ?_
      refine cSkip ?_
      refine kSeq ?_
      refine cSeq ?_
      refine cRegW (N := 8) [⟨[], [], [2]⟩, ⟨[4], [], [0]⟩, ⟨[], [], [3]⟩, ⟨[5], [], [1]⟩, ⟨[6], [], [4, 5]⟩, ⟨[], [], []⟩, ⟨[], [], []⟩, ⟨[], [], []⟩, ⟨[7], [], []⟩, ⟨[], [7], []⟩, ⟨[], [], []⟩] 4 [4, 5, 6, 7] (by rfl) (by rfl) (by kernel_rfl) (by kernel_rfl) (by kernel_rfl) ⟨nmsF (flatA3 _ _ _ _), ⟨nmsF (flatA3 _ _ _ _), ⟨nmsX (by kernel_rfl), ⟨nmsX (by kernel_rfl), trivial⟩⟩⟩⟩ ?_
      refine segWH 1 (T1 := (mkT 119 [(2, vP 2 0), (3, vP 3 0), (26, .bool false), (28, .agg #[vN X, vN Y, vN Z, vS 0 L1.length])])) (by kernel_rfl) ?_
      refine rW (m := ⟨[4], [], [0]⟩) (v := .agg #[vN X, vN Y, vN Z, vS 4 L1.length]) rfl (by kernel_rfl) (stN (i := 4) (E := [some ⟨a3s L1, 25, false, true⟩]) (v1 := .agg #[vN X, vN Y, vN Z, vS 8 L1.length]) (args := [.agg #[vN X, vN Y, vN Z, vS 0 L1.length]]) rfl (by kernel_rfl) (Any.lay [0] (toHeapB ((X : Nat) : Int) ((Y : Nat) : Int) ((Z : Nat) : Int) L1 (by first | omega | assumption | (simp; done))) ⟨rdF false (flatA3 _ _ _ _) rfl rfl, trivial⟩ rfl ⟨clF (flatA3 _ _ _ _), trivial⟩ rfl (by first | rfl | simp [mpV, mpA, mpS, mpP, renId, shift]) (by first | rfl | simp [mpV, mpA, mpS, mpP, renId, shift]) ⟨enF (flatA3 _ _ _ _) (Or.inl rfl), trivial⟩) rfl (by kernel_rfl) (by kernel_rfl) (by kernel_rfl) (by kernel_rfl) (FlatH.cons (flatA3 _ _ _ _) FlatH.nil)) (by kernel_rfl) (NRs.all ⟨nrOf (by rfl) (nmF (flatA3 _ _ _ _)), trivial⟩) ?_
      refine segWH 1 (T1 := (mkT 119 [(2, vP 2 0), (3, vP 3 0), (26, .bool false), (28, .agg #[vN X, vN Y, vN Z, vS 0 L1.length]), (29, .agg #[vN X, vN Y, vN Z, vS 4 L1.length]), (30, .agg #[vN X, vN Y, vN Z, vS 1 L2.length])])) (by kernel_rfl) ?_
      refine rW (m := ⟨[5], [], [1]⟩) (v := .agg #[vN X, vN Y, vN Z, vS 5 L2.length]) rfl (by kernel_rfl) (stN (i := 5) (E := [some ⟨a3s L2, 25, false, true⟩]) (v1 := .agg #[vN X, vN Y, vN Z, vS 8 L2.length]) (args := [.agg #[vN X, vN Y, vN Z, vS 1 L2.length]]) rfl (by kernel_rfl) (Any.lay [1] (toHeapB ((X : Nat) : Int) ((Y : Nat) : Int) ((Z : Nat) : Int) L2 (by first | omega | assumption | (simp; done))) ⟨rdF false (flatA3 _ _ _ _) rfl rfl, trivial⟩ rfl ⟨clF (flatA3 _ _ _ _), trivial⟩ rfl (by first | rfl | simp [mpV, mpA, mpS, mpP, renId, shift]) (by first | rfl | simp [mpV, mpA, mpS, mpP, renId, shift]) ⟨enF (flatA3 _ _ _ _) (Or.inl rfl), trivial⟩) rfl (by kernel_rfl) (by kernel_rfl) (by kernel_rfl) (by kernel_rfl) (FlatH.cons (flatA3 _ _ _ _) FlatH.nil)) (by kernel_rfl) (NRs.all ⟨nrOf (by rfl) (nmF (flatA3 _ _ _ _)), trivial⟩) ?_
      refine rW (m := ⟨[6], [], [4, 5]⟩) (v := .tuple #[.agg #[vN X, vN Y, vN Z, vS 6 R.length], .bool true]) rfl (by kernel_rfl) (stN (i := 6) (E := [some ⟨a3s R, 25, false, true⟩]) (v1 := .tuple #[.agg #[vN X, vN Y, vN Z, vS 8 R.length], .bool true]) (args := [.agg #[vN X, vN Y, vN Z, vS 4 L1.length], .agg #[vN X, vN Y, vN Z, vS 5 L2.length]]) rfl (by kernel_rfl) (Any.lay [4, 5] (specJoinHeaps_yesR X Y Z L1 L2 R (by first | assumption | omega | rfl | decide | exact HeapL.list _ _ _ _ | exact HeapL.nil _ _ _ | exact HeapL.all _ _ _ | (apply HeapL.lt64 <;> assumption) | (repeat' (first | assumption | apply or_lt64 | apply and_lt64 | apply andn_lt64 | apply pow_lt64 | (apply HeapL.lt64 <;> assumption)))) (by first | assumption | omega | rfl | decide | exact HeapL.list _ _ _ _ | exact HeapL.nil _ _ _ | exact HeapL.all _ _ _ | (apply HeapL.lt64 <;> assumption) | (repeat' (first | assumption | apply or_lt64 | apply and_lt64 | apply andn_lt64 | apply pow_lt64 | (apply HeapL.lt64 <;> assumption)))) (by first | assumption | omega | rfl | decide | exact HeapL.list _ _ _ _ | exact HeapL.nil _ _ _ | exact HeapL.all _ _ _ | (apply HeapL.lt64 <;> assumption) | (repeat' (first | assumption | apply or_lt64 | apply and_lt64 | apply andn_lt64 | apply pow_lt64 | (apply HeapL.lt64 <;> assumption)))) (by first | assumption | omega | rfl | decide | exact HeapL.list _ _ _ _ | exact HeapL.nil _ _ _ | exact HeapL.all _ _ _ | (apply HeapL.lt64 <;> assumption) | (repeat' (first | assumption | apply or_lt64 | apply and_lt64 | apply andn_lt64 | apply pow_lt64 | (apply HeapL.lt64 <;> assumption))))) ⟨rdF true (flatA3 _ _ _ _) rfl rfl, ⟨rdF true (flatA3 _ _ _ _) rfl rfl, trivial⟩⟩ rfl ⟨clF (flatA3 _ _ _ _), ⟨clF (flatA3 _ _ _ _), trivial⟩⟩ rfl (by first | rfl | simp [mpV, mpA, mpS, mpP, renId, shift]) (by first | rfl | simp [mpV, mpA, mpS, mpP, renId, shift]) ⟨enF (flatA3 _ _ _ _) (Or.inl rfl), trivial⟩) rfl (by kernel_rfl) (by kernel_rfl) (by kernel_rfl) (by kernel_rfl) (FlatH.cons (flatA3 _ _ _ _) FlatH.nil)) (by kernel_rfl) (NRs.all ⟨nrOf (by rfl) (nmF (flatA3 _ _ _ _)), trivial⟩) ?_
      refine segWH 3 (T1 := (mkT 119 [(2, vP 2 0), (3, vP 3 0), (26, .bool false), (27, .tuple #[.agg #[vN X, vN Y, vN Z, vS 6 R.length], .bool true]), (28, .agg #[vN X, vN Y, vN Z, vS 0 L1.length]), (29, .agg #[vN X, vN Y, vN Z, vS 4 L1.length]), (30, .agg #[vN X, vN Y, vN Z, vS 1 L2.length]), (31, .agg #[vN X, vN Y, vN Z, vS 5 L2.length]), (32, .tuple #[.agg #[vN X, vN Y, vN Z, vS 6 R.length], .bool true]), (33, .agg #[vN X, vN Y, vN Z, vS 6 R.length]), (34, .bool true)])) (by kernel_rfl) ?_
      refine rW (m := ⟨[7], [], []⟩) (v := vP 7 0) rfl (by kernel_rfl) (stNew (i := 7) (v1 := vP 8 0) (r := ⟨[vI 0, vI 0, vI 0, .slice none 0 0], 29, true, true⟩) (by kernel_rfl) rfl (by kernel_rfl) (by kernel_rfl) (by kernel_rfl) (by kernel_rfl) (nmX (by kernel_rfl)) (clX (by kernel_rfl))) (by kernel_rfl) (NRs.all ⟨nrOf (by rfl) (nmX (by kernel_rfl)), trivial⟩) ?_
      refine rW (m := ⟨[], [7], []⟩) (v := .tuple #[]) rfl (by kernel_rfl) (stSet (b := 7) (r := ⟨[vN X, vN Y, vN Z, vS 6 R.length], 29, true, true⟩) (by kernel_rfl) rfl (by kernel_rfl) (by kernel_rfl) (by kernel_rfl) (by kernel_rfl) (nmX (by kernel_rfl)) (clX (by kernel_rfl))) (by kernel_rfl) (NRs.all ⟨nrOf (by rfl) (nmX (by kernel_rfl)), trivial⟩) ?_
      refine segEndW [2, 3, 6, 7] (T1 := (mkT 119 [(2, vP 2 0), (3, vP 3 0), (6, vP 7 0), (7, .bool true)])) (H1 := [some ⟨a3s L1, 25, false, false⟩, some ⟨a3s L2, 25, false, false⟩, rB [vN X, vN Y, vN Z, vS 0 L1.length] 24, rB [vN X, vN Y, vN Z, vS 1 L2.length] 24, some ⟨a3s L1, 25, false, true⟩, some ⟨a3s L2, 25, false, true⟩, some ⟨a3s R, 25, false, true⟩, rB [vN X, vN Y, vN Z, vS 6 R.length] 29]) (by kernel_rfl) ?_
      refine kSeq ?_
      refine cSeq ?_
      refine cReg ?_
      refine segH 1 (T1 := (mkT 119 [(2, vP 2 0), (3, vP 3 0), (6, vP 7 0), (7, .bool true), (35, .agg #[vN X, vN Y, vN Z, vS 0 L1.length])])) (by kernel_rfl) ?_
      refine rCall (v := .agg #[vN X, vN Y, vN Z, vS 8 L1.length]) (args := [.agg #[vN X, vN Y, vN Z, vS 0 L1.length]]) (by kernel_rfl) rfl (by kernel_rfl) (Sound.lay (E := [some ⟨a3s L1, 25, false, true⟩]) [0] (toHeapB ((X : Nat) : Int) ((Y : Nat) : Int) ((Z : Nat) : Int) L1 (by first | omega | assumption | (simp; done))) ⟨rdF false (flatA3 _ _ _ _) rfl rfl, trivial⟩ rfl ⟨clF (flatA3 _ _ _ _), trivial⟩ rfl (by first | rfl | simp [mpV, mpA, mpS, mpP, renId, shift]) (by first | rfl | simp [mpV, mpA, mpS, mpP, renId, shift]) ⟨enF (flatA3 _ _ _ _) (Or.inl rfl), trivial⟩) ?_
      refine segEnd [2, 3, 6, 7, 8] (T1 := (mkT 119 [(2, vP 2 0), (3, vP 3 0), (6, vP 7 0), (7, .bool true), (8, vP 9 0)])) (H1 := [some ⟨a3s L1, 25, false, false⟩, some ⟨a3s L2, 25, false, false⟩, rB [vN X, vN Y, vN Z, vS 0 L1.length] 24, rB [vN X, vN Y, vN Z, vS 1 L2.length] 24, some ⟨a3s L1, 25, false, true⟩, some ⟨a3s L2, 25, false, true⟩, some ⟨a3s R, 25, false, true⟩, rB [vN X, vN Y, vN Z, vS 6 R.length] 29, some ⟨a3s L1, 25, false, true⟩, rB [vN X, vN Y, vN Z, vS 8 L1.length] 29]) (by kernel_rfl) ?_
      refine kSeq ?_
      refine cSeq ?_
      refine cReg ?_
      refine segH 1 (T1 := (mkT 119 [(2, vP 2 0), (3, vP 3 0), (6, vP 7 0), (7, .bool true), (8, vP 9 0), (37, .agg #[vN X, vN Y, vN Z, vS 1 L2.length])])) (by kernel_rfl) ?_
      refine rCall (v := .agg #[vN X, vN Y, vN Z, vS 10 L2.length]) (args := [.agg #[vN X, vN Y, vN Z, vS 1 L2.length]]) (by kernel_rfl) rfl (by kernel_rfl) (Sound.lay (E := [some ⟨a3s L2, 25, false, true⟩]) [1] (toHeapB ((X : Nat) : Int) ((Y : Nat) : Int) ((Z : Nat) : Int) L2 (by first | omega | assumption | (simp; done))) ⟨rdF false (flatA3 _ _ _ _) rfl rfl, trivial⟩ rfl ⟨clF (flatA3 _ _ _ _), trivial⟩ rfl (by first | rfl | simp [mpV, mpA, mpS, mpP, renId, shift]) (by first | rfl | simp [mpV, mpA, mpS, mpP, renId, shift]) ⟨enF (flatA3 _ _ _ _) (Or.inl rfl), trivial⟩) ?_
      refine segEnd [2, 3, 6, 7, 8, 9] (T1 := (mkT 119 [(2, vP 2 0), (3, vP 3 0), (6, vP 7 0), (7, .bool true), (8, vP 9 0), (9, vP 11 0)])) (H1 := [some ⟨a3s L1, 25, false, false⟩, some ⟨a3s L2, 25, false, false⟩, rB [vN X, vN Y, vN Z, vS 0 L1.length] 24, rB [vN X, vN Y, vN Z, vS 1 L2.length] 24, some ⟨a3s L1, 25, false, true⟩, some ⟨a3s L2, 25, false, true⟩, some ⟨a3s R, 25, false, true⟩, rB [vN X, vN Y, vN Z, vS 6 R.length] 29, some ⟨a3s L1, 25, false, true⟩, rB [vN X, vN Y, vN Z, vS 8 L1.length] 29, some ⟨a3s L2, 25, false, true⟩, rB [vN X, vN Y, vN Z, vS 10 L2.length] 29]) (by kernel_rfl) ?_
      refine kSeq ?_
      refine cSeq ?_
      refine cReg ?_
      refine segH 2 (T1 := (mkT 119 [(2, vP 2 0), (3, vP 3 0), (6, vP 7 0), (7, .bool true), (8, vP 9 0), (9, vP 11 0), (40, .agg #[vN X, vN Y, vN Z, vS 8 L1.length]), (41, .agg #[vN X, vN Y, vN Z, vS 10 L2.length])])) (by kernel_rfl) ?_
      refine rCall (v := .tuple #[.agg #[vN X, vN Y, vN Z, vS 12 R.length], .bool true]) (args := [.agg #[vN X, vN Y, vN Z, vS 8 L1.length], .agg #[vN X, vN Y, vN Z, vS 10 L2.length]]) (by kernel_rfl) rfl (by kernel_rfl) (Sound.lay (E := [some ⟨a3s R, 25, false, true⟩]) [8, 10] (implJoinHeaps_yesR X Y Z L1 L2 R (by first | assumption | omega | rfl | decide | exact HeapL.list _ _ _ _ | exact HeapL.nil _ _ _ | exact HeapL.all _ _ _ | (apply HeapL.lt64 <;> assumption) | (repeat' (first | assumption | apply or_lt64 | apply and_lt64 | apply andn_lt64 | apply pow_lt64 | (apply HeapL.lt64 <;> assumption)))) (by first | assumption | omega | rfl | decide | exact HeapL.list _ _ _ _ | exact HeapL.nil _ _ _ | exact HeapL.all _ _ _ | (apply HeapL.lt64 <;> assumption) | (repeat' (first | assumption | apply or_lt64 | apply and_lt64 | apply andn_lt64 | apply pow_lt64 | (apply HeapL.lt64 <;> assumption)))) (by first | assumption | omega | rfl | decide | exact HeapL.list _ _ _ _ | exact HeapL.nil _ _ _ | exact HeapL.all _ _ _ | (apply HeapL.lt64 <;> assumption) | (repeat' (first | assumption | apply or_lt64 | apply and_lt64 | apply andn_lt64 | apply pow_lt64 | (apply HeapL.lt64 <;> assumption)))) (by first | assumption | omega | rfl | decide | exact HeapL.list _ _ _ _ | exact HeapL.nil _ _ _ | exact HeapL.all _ _ _ | (apply HeapL.lt64 <;> assumption) | (repeat' (first | assumption | apply or_lt64 | apply and_lt64 | apply andn_lt64 | apply pow_lt64 | (apply HeapL.lt64 <;> assumption))))) ⟨rdF true (flatA3 _ _ _ _) rfl rfl, ⟨rdF true (flatA3 _ _ _ _) rfl rfl, trivial⟩⟩ rfl ⟨clF (flatA3 _ _ _ _), ⟨clF (flatA3 _ _ _ _), trivial⟩⟩ rfl (by first | rfl | simp [mpV, mpA, mpS, mpP, renId, shift]) (by first | rfl | simp [mpV, mpA, mpS, mpP, renId, shift]) ⟨enF (flatA3 _ _ _ _) (Or.inl rfl), trivial⟩) ?_
      refine segEnd [2, 3, 6, 7, 8, 9, 10, 11] (T1 := (mkT 119 [(2, vP 2 0), (3, vP 3 0), (6, vP 7 0), (7, .bool true), (8, vP 9 0), (9, vP 11 0), (10, vP 13 0), (11, .bool true)])) (H1 := [some ⟨a3s L1, 25, false, false⟩, some ⟨a3s L2, 25, false, false⟩, rB [vN X, vN Y, vN Z, vS 0 L1.length] 24, rB [vN X, vN Y, vN Z, vS 1 L2.length] 24, some ⟨a3s L1, 25, false, true⟩, some ⟨a3s L2, 25, false, true⟩, some ⟨a3s R, 25, false, true⟩, rB [vN X, vN Y, vN Z, vS 6 R.length] 29, some ⟨a3s L1, 25, false, true⟩, rB [vN X, vN Y, vN Z, vS 8 L1.length] 29, some ⟨a3s L2, 25, false, true⟩, rB [vN X, vN Y, vN Z, vS 10 L2.length] 29, some ⟨a3s R, 25, false, true⟩, rB [vN X, vN Y, vN Z, vS 12 R.length] 29]) (by kernel_rfl) ?_
      refine kSeq ?_
      refine cSeq ?_
      refine cSeq ?_
      refine cReg ?_
      refine segH 2 (T1 := (mkT 119 [(2, vP 2 0), (3, vP 3 0), (6, vP 7 0), (7, .bool true), (8, vP 9 0), (9, vP 11 0), (10, vP 13 0), (11, .bool true), (45, .agg #[vN X, vN Y, vN Z, vS 12 R.length]), (46, .agg #[vN X, vN Y, vN Z, vS 6 R.length])])) (by kernel_rfl) ?_
      refine rCall (v := .bool true) (args := [.agg #[vN X, vN Y, vN Z, vS 12 R.length], .agg #[vN X, vN Y, vN Z, vS 6 R.length]]) (by kernel_rfl) rfl (by kernel_rfl) (Sound.lay0 [12, 6] (eqHeapB ((X : Nat) : Int) ((Y : Nat) : Int) ((Z : Nat) : Int) R (by first | omega | assumption | (simp; done))) ⟨rdF true (flatA3 _ _ _ _) rfl rfl, ⟨rdF true (flatA3 _ _ _ _) rfl rfl, trivial⟩⟩ rfl ⟨clF (flatA3 _ _ _ _), ⟨clF (flatA3 _ _ _ _), trivial⟩⟩ rfl (by first | rfl | simp [mpV, mpA, mpS, mpP, renId, shift]) rfl) ?_
      refine segEndH [2, 3, 6, 7, 8, 9, 10, 11, 53] (T1 := (mkT 119 [(2, vP 2 0), (3, vP 3 0), (6, vP 7 0), (7, .bool true), (8, vP 9 0), (9, vP 11 0), (10, vP 13 0), (11, .bool true), (53, .bool false)])) (by kernel_rfl) ?_
      refine kSeq ?_
      refine cFalse (by kernel_rfl) ?_
      refine cSkip ?_
      refine kSeq ?_
      refine cSeq ?_
      refine cSeq ?_
      refine cRegW (N := 15) [⟨[], [], [9]⟩, ⟨[], [], [2]⟩, ⟨[14], [], [0]⟩, ⟨[], [], [8, 14]⟩, ⟨[], [], []⟩] 1 [14] (by rfl) (by rfl) (by kernel_rfl) (by kernel_rfl) (by kernel_rfl) ⟨nmsF (flatA3 _ _ _ _), ⟨nmsF (flatA3 _ _ _ _), ⟨nmsX (by kernel_rfl), ⟨nmsX (by kernel_rfl), ⟨nmsF (flatA3 _ _ _ _), ⟨nmsF (flatA3 _ _ _ _), ⟨nmsF (flatA3 _ _ _ _), ⟨nmsX (by kernel_rfl), ⟨nmsF (flatA3 _ _ _ _), ⟨nmsX (by kernel_rfl), ⟨nmsF (flatA3 _ _ _ _), ⟨nmsX (by kernel_rfl), ⟨nmsF (flatA3 _ _ _ _), ⟨nmsX (by kernel_rfl), trivial⟩⟩⟩⟩⟩⟩⟩⟩⟩⟩⟩⟩⟩⟩ ?_
      refine segWH 2 (T1 := (mkT 119 [(2, vP 2 0), (3, vP 3 0), (6, vP 7 0), (7, .bool true), (8, vP 9 0), (9, vP 11 0), (10, vP 13 0), (11, .bool true), (53, .bool false), (54, .agg #[vN X, vN Y, vN Z, vS 8 L1.length]), (55, .agg #[vN X, vN Y, vN Z, vS 0 L1.length])])) (by kernel_rfl) ?_
      refine rW (m := ⟨[14], [], [0]⟩) (v := .agg #[vN X, vN Y, vN Z, vS 14 L1.length]) rfl (by kernel_rfl) (stN (i := 14) (E := [some ⟨a3s L1, 25, false, true⟩]) (v1 := .agg #[vN X, vN Y, vN Z, vS 15 L1.length]) (args := [.agg #[vN X, vN Y, vN Z, vS 0 L1.length]]) rfl (by kernel_rfl) (Any.lay [0] (toHeapB ((X : Nat) : Int) ((Y : Nat) : Int) ((Z : Nat) : Int) L1 (by first | omega | assumption | (simp; done))) ⟨rdF false (flatA3 _ _ _ _) rfl rfl, trivial⟩ rfl ⟨clF (flatA3 _ _ _ _), trivial⟩ rfl (by first | rfl | simp [mpV, mpA, mpS, mpP, renId, shift]) (by first | rfl | simp [mpV, mpA, mpS, mpP, renId, shift]) ⟨enF (flatA3 _ _ _ _) (Or.inl rfl), trivial⟩) rfl (by kernel_rfl) (by kernel_rfl) (by kernel_rfl) (by kernel_rfl) (FlatH.cons (flatA3 _ _ _ _) FlatH.nil)) (by kernel_rfl) (NRs.all ⟨nrOf (by rfl) (nmF (flatA3 _ _ _ _)), trivial⟩) ?_
      refine rW (m := ⟨[], [], [8, 14]⟩) (v := .bool true) rfl (by kernel_rfl) (stQ (args := [.agg #[vN X, vN Y, vN Z, vS 8 L1.length], .agg #[vN X, vN Y, vN Z, vS 14 L1.length]]) rfl (by kernel_rfl) (Any.lay0 [8, 14] (eqHeapB ((X : Nat) : Int) ((Y : Nat) : Int) ((Z : Nat) : Int) L1 (by first | omega | assumption | (simp; done))) ⟨rdF true (flatA3 _ _ _ _) rfl rfl, ⟨rdF true (flatA3 _ _ _ _) rfl rfl, trivial⟩⟩ rfl ⟨clF (flatA3 _ _ _ _), ⟨clF (flatA3 _ _ _ _), trivial⟩⟩ rfl (by first | rfl | simp [mpV, mpA, mpS, mpP, renId, shift]) rfl) rfl (by kernel_rfl) (by kernel_rfl)) (by kernel_rfl) nr0 ?_
      refine segEndW [2, 3, 6, 7, 8, 9, 10, 11, 58] (T1 := (mkT 119 [(2, vP 2 0), (3, vP 3 0), (6, vP 7 0), (7, .bool true), (8, vP 9 0), (9, vP 11 0), (10, vP 13 0), (11, .bool true), (58, .bool false)])) (H1 := [some ⟨a3s L1, 25, false, false⟩, some ⟨a3s L2, 25, false, false⟩, rB [vN X, vN Y, vN Z, vS 0 L1.length] 24, rB [vN X, vN Y, vN Z, vS 1 L2.length] 24, some ⟨a3s L1, 25, false, true⟩, some ⟨a3s L2, 25, false, true⟩, some ⟨a3s R, 25, false, true⟩, rB [vN X, vN Y, vN Z, vS 6 R.length] 29, some ⟨a3s L1, 25, false, true⟩, rB [vN X, vN Y, vN Z, vS 8 L1.length] 29, some ⟨a3s L2, 25, false, true⟩, rB [vN X, vN Y, vN Z, vS 10 L2.length] 29, some ⟨a3s R, 25, false, true⟩, rB [vN X, vN Y, vN Z, vS 12 R.length] 29, some ⟨a3s L1, 25, false, true⟩]) (by kernel_rfl) ?_
      refine kSeq ?_
      refine cFalse (by kernel_rfl) ?_
      refine cSkip ?_
      refine kSeq ?_
      refine cSeq ?_
      refine cSeq ?_
      refine cRegW (N := 16) [⟨[], [], [11]⟩, ⟨[], [], [3]⟩, ⟨[15], [], [1]⟩, ⟨[], [], [10, 15]⟩, ⟨[], [], []⟩] 1 [15] (by rfl) (by rfl) (by kernel_rfl) (by kernel_rfl) (by kernel_rfl) ⟨nmsF (flatA3 _ _ _ _), ⟨nmsF (flatA3 _ _ _ _), ⟨nmsX (by kernel_rfl), ⟨nmsX (by kernel_rfl), ⟨nmsF (flatA3 _ _ _ _), ⟨nmsF (flatA3 _ _ _ _), ⟨nmsF (flatA3 _ _ _ _), ⟨nmsX (by kernel_rfl), ⟨nmsF (flatA3 _ _ _ _), ⟨nmsX (by kernel_rfl), ⟨nmsF (flatA3 _ _ _ _), ⟨nmsX (by kernel_rfl), ⟨nmsF (flatA3 _ _ _ _), ⟨nmsX (by kernel_rfl), ⟨nmsF (flatA3 _ _ _ _), trivial⟩⟩⟩⟩⟩⟩⟩⟩⟩⟩⟩⟩⟩⟩⟩ ?_
      refine segWH 2 (T1 := (mkT 119 [(2, vP 2 0), (3, vP 3 0), (6, vP 7 0), (7, .bool true), (8, vP 9 0), (9, vP 11 0), (10, vP 13 0), (11, .bool true), (58, .bool false), (59, .agg #[vN X, vN Y, vN Z, vS 10 L2.length]), (60, .agg #[vN X, vN Y, vN Z, vS 1 L2.length])])) (by kernel_rfl) ?_
      refine rW (m := ⟨[15], [], [1]⟩) (v := .agg #[vN X, vN Y, vN Z, vS 15 L2.length]) rfl (by kernel_rfl) (stN (i := 15) (E := [some ⟨a3s L2, 25, false, true⟩]) (v1 := .agg #[vN X, vN Y, vN Z, vS 16 L2.length]) (args := [.agg #[vN X, vN Y, vN Z, vS 1 L2.length]]) rfl (by kernel_rfl) (Any.lay [1] (toHeapB ((X : Nat) : Int) ((Y : Nat) : Int) ((Z : Nat) : Int) L2 (by first | omega | assumption | (simp; done))) ⟨rdF false (flatA3 _ _ _ _) rfl rfl, trivial⟩ rfl ⟨clF (flatA3 _ _ _ _), trivial⟩ rfl (by first | rfl | simp [mpV, mpA, mpS, mpP, renId, shift]) (by first | rfl | simp [mpV, mpA, mpS, mpP, renId, shift]) ⟨enF (flatA3 _ _ _ _) (Or.inl rfl), trivial⟩) rfl (by kernel_rfl) (by kernel_rfl) (by kernel_rfl) (by kernel_rfl) (FlatH.cons (flatA3 _ _ _ _) FlatH.nil)) (by kernel_rfl) (NRs.all ⟨nrOf (by rfl) (nmF (flatA3 _ _ _ _)), trivial⟩) ?_
      refine rW (m := ⟨[], [], [10, 15]⟩) (v := .bool true) rfl (by kernel_rfl) (stQ (args := [.agg #[vN X, vN Y, vN Z, vS 10 L2.length], .agg #[vN X, vN Y, vN Z, vS 15 L2.length]]) rfl (by kernel_rfl) (Any.lay0 [10, 15] (eqHeapB ((X : Nat) : Int) ((Y : Nat) : Int) ((Z : Nat) : Int) L2 (by first | omega | assumption | (simp; done))) ⟨rdF true (flatA3 _ _ _ _) rfl rfl, ⟨rdF true (flatA3 _ _ _ _) rfl rfl, trivial⟩⟩ rfl ⟨clF (flatA3 _ _ _ _), ⟨clF (flatA3 _ _ _ _), trivial⟩⟩ rfl (by first | rfl | simp [mpV, mpA, mpS, mpP, renId, shift]) rfl) rfl (by kernel_rfl) (by kernel_rfl)) (by kernel_rfl) nr0 ?_
      refine segEndW [2, 3, 6, 7, 8, 9, 10, 11, 63] (T1 := (mkT 119 [(2, vP 2 0), (3, vP 3 0), (6, vP 7 0), (7, .bool true), (8, vP 9 0), (9, vP 11 0), (10, vP 13 0), (11, .bool true), (63, .bool false)])) (H1 := [some ⟨a3s L1, 25, false, false⟩, some ⟨a3s L2, 25, false, false⟩, rB [vN X, vN Y, vN Z, vS 0 L1.length] 24, rB [vN X, vN Y, vN Z, vS 1 L2.length] 24, some ⟨a3s L1, 25, false, true⟩, some ⟨a3s L2, 25, false, true⟩, some ⟨a3s R, 25, false, true⟩, rB [vN X, vN Y, vN Z, vS 6 R.length] 29, some ⟨a3s L1, 25, false, true⟩, rB [vN X, vN Y, vN Z, vS 8 L1.length] 29, some ⟨a3s L2, 25, false, true⟩, rB [vN X, vN Y, vN Z, vS 10 L2.length] 29, some ⟨a3s R, 25, false, true⟩, rB [vN X, vN Y, vN Z, vS 12 R.length] 29, some ⟨a3s L1, 25, false, true⟩, some ⟨a3s L2, 25, false, true⟩]) (by kernel_rfl) ?_
      refine kSeq ?_
      refine cFalse (by kernel_rfl) ?_
      refine cSkip ?_
      refine kSeq ?_
      refine cSeq ?_
      refine cReg ?_
      refine segEndH [2, 3, 6, 7, 8, 9, 10, 11, 12] (T1 := (mkT 119 [(2, vP 2 0), (3, vP 3 0), (6, vP 7 0), (7, .bool true), (8, vP 9 0), (9, vP 11 0), (10, vP 13 0), (11, .bool true), (12, vI 1)])) (by kernel_rfl) ?_
      refine kSeq ?_
      refine cSeq ?_
      refine cReg ?_
      refine segH 2 (T1 := (mkT 119 [(2, vP 2 0), (3, vP 3 0), (6, vP 7 0), (7, .bool true), (8, vP 9 0), (9, vP 11 0), (10, vP 13 0), (11, .bool true), (12, vI 1), (64, .agg #[vN X, vN Y, vN Z, vS 8 L1.length]), (65, vI 1)])) (by kernel_rfl) ?_
      refine rCall (v := vN (1 + 3 * L1.length)) (args := [.agg #[vN X, vN Y, vN Z, vS 8 L1.length], vI 1]) (by kernel_rfl) rfl (by kernel_rfl) (Sound.emb_set (r := ⟨a3s L1, 25, false, true⟩) (r' := ⟨a3s (mk3 1 L1.length), 25, false, true⟩) 8 (markHeapB ((X : Nat) : Int) ((Y : Nat) : Int) ((Z : Nat) : Int) L1 1 (by first | omega | assumption | (simp; done)) (by first | assumption | omega | rfl | decide | exact HeapL.list _ _ _ _ | exact HeapL.nil _ _ _ | exact HeapL.all _ _ _ | (apply HeapL.lt64 <;> assumption) | (repeat' (first | assumption | apply or_lt64 | apply and_lt64 | apply andn_lt64 | apply pow_lt64 | (apply HeapL.lt64 <;> assumption))))) (flatA3 _ _ _ _) rfl (flatA3 _ _ _ _) rfl rfl rfl (by first | rfl | simp [mpV, mpA, mpS, mpP, renId, shift]) rfl) ?_
      refine segEnd [2, 3, 6, 7, 9, 10, 11, 12] (T1 := (mkT 119 [(2, vP 2 0), (3, vP 3 0), (6, vP 7 0), (7, .bool true), (9, vP 11 0), (10, vP 13 0), (11, .bool true), (12, vN (1 + 3 * L1.length))])) (H1 := [some ⟨a3s L1, 25, false, false⟩, some ⟨a3s L2, 25, false, false⟩, rB [vN X, vN Y, vN Z, vS 0 L1.length] 24, rB [vN X, vN Y, vN Z, vS 1 L2.length] 24, some ⟨a3s L1, 25, false, true⟩, some ⟨a3s L2, 25, false, true⟩, some ⟨a3s R, 25, false, true⟩, rB [vN X, vN Y, vN Z, vS 6 R.length] 29, some ⟨a3s (mk3 1 L1.length), 25, false, true⟩, rB [vN X, vN Y, vN Z, vS 8 L1.length] 29, some ⟨a3s L2, 25, false, true⟩, rB [vN X, vN Y, vN Z, vS 10 L2.length] 29, some ⟨a3s R, 25, false, true⟩, rB [vN X, vN Y, vN Z, vS 12 R.length] 29, some ⟨a3s L1, 25, false, true⟩, some ⟨a3s L2, 25, false, true⟩]) (by kernel_rfl) ?_
      refine kSeq ?_
      refine cSeq ?_
      refine cReg ?_
      refine segH 2 (T1 := (mkT 119 [(2, vP 2 0), (3, vP 3 0), (6, vP 7 0), (7, .bool true), (9, vP 11 0), (10, vP 13 0), (11, .bool true), (12, vN (1 + 3 * L1.length)), (67, .agg #[vN X, vN Y, vN Z, vS 10 L2.length]), (68, vN (1 + 3 * L1.length))])) (by kernel_rfl) ?_
      refine rCall (v := vN ((1 + 3 * L1.length) + 3 * L2.length)) (args := [.agg #[vN X, vN Y, vN Z, vS 10 L2.length], vN (1 + 3 * L1.length)]) (by kernel_rfl) rfl (by kernel_rfl) (Sound.emb_set (r := ⟨a3s L2, 25, false, true⟩) (r' := ⟨a3s (mk3 (1 + 3 * L1.length) L2.length), 25, false, true⟩) 10 (markHeapB ((X : Nat) : Int) ((Y : Nat) : Int) ((Z : Nat) : Int) L2 (1 + 3 * L1.length) (by first | omega | assumption | (simp; done)) (by first | assumption | omega | rfl | decide | exact HeapL.list _ _ _ _ | exact HeapL.nil _ _ _ | exact HeapL.all _ _ _ | (apply HeapL.lt64 <;> assumption) | (repeat' (first | assumption | apply or_lt64 | apply and_lt64 | apply andn_lt64 | apply pow_lt64 | (apply HeapL.lt64 <;> assumption))))) (flatA3 _ _ _ _) rfl (flatA3 _ _ _ _) rfl rfl rfl (by first | rfl | simp [mpV, mpA, mpS, mpP, renId, shift]) rfl) ?_
      refine segEnd [2, 3, 6, 7, 10, 11, 12] (T1 := (mkT 119 [(2, vP 2 0), (3, vP 3 0), (6, vP 7 0), (7, .bool true), (10, vP 13 0), (11, .bool true), (12, vN ((1 + 3 * L1.length) + 3 * L2.length))])) (H1 := [some ⟨a3s L1, 25, false, false⟩, some ⟨a3s L2, 25, false, false⟩, rB [vN X, vN Y, vN Z, vS 0 L1.length] 24, rB [vN X, vN Y, vN Z, vS 1 L2.length] 24, some ⟨a3s L1, 25, false, true⟩, some ⟨a3s L2, 25, false, true⟩, some ⟨a3s R, 25, false, true⟩, rB [vN X, vN Y, vN Z, vS 6 R.length] 29, some ⟨a3s (mk3 1 L1.length), 25, false, true⟩, rB [vN X, vN Y, vN Z, vS 8 L1.length] 29, some ⟨a3s (mk3 (1 + 3 * L1.length) L2.length), 25, false, true⟩, rB [vN X, vN Y, vN Z, vS 10 L2.length] 29, some ⟨a3s R, 25, false, true⟩, rB [vN X, vN Y, vN Z, vS 12 R.length] 29, some ⟨a3s L1, 25, false, true⟩, some ⟨a3s L2, 25, false, true⟩]) (by kernel_rfl) ?_
      refine kSeq ?_
      refine cSeq ?_
      refine cSeq ?_
      refine cReg ?_
      refine segH 3 (T1 := (mkT 119 [(2, vP 2 0), (3, vP 3 0), (6, vP 7 0), (7, .bool true), (10, vP 13 0), (11, .bool true), (12, vN ((1 + 3 * L1.length) + 3 * L2.length)), (70, vN ((1 + 3 * L1.length) + 3 * L2.length)), (71, .bool (decide ((((1 + 3 * L1.length) + 3 * L2.length : Nat) : Int) < 0))), (72, .bool (decide ((((1 + 3 * L1.length) + 3 * L2.length : Nat) : Int) < 0)))])) (by kernel_rfl) ?_
      cases h3 : (decide ((((1 + 3 * L1.length) + 3 * L2.length : Nat) : Int) < 0) : Bool)
      ·
        (try simp only [Bool.not_eq_true', Bool.not_eq_false', decide_eq_true_eq, decide_eq_false_iff_not, beq_iff_eq, bne_iff_ne, beq_eq_false_iff_ne, bne_eq_false_iff_eq, ne_eq, Decidable.not_not, Bool.and_eq_true, Bool.and_eq_false_imp, Bool.or_eq_true, Bool.or_eq_false_iff, Bool.not_eq_true, Int.not_lt, Int.not_le, ge_iff_le, gt_iff_lt] at h3)
        refine seg 2 (T1 := (mkT 119 [(2, vP 2 0), (3, vP 3 0), (6, vP 7 0), (7, .bool true), (10, vP 13 0), (11, .bool true), (12, vN ((1 + 3 * L1.length) + 3 * L2.length)), (70, vN ((1 + 3 * L1.length) + 3 * L2.length)), (71, .bool false), (72, .bool false), (73, .agg #[vN X, vN Y, vN Z, vS 12 R.length]), (74, .agg #[vN X, vN Y, vN Z, vS 6 R.length])])) (H1 := [some ⟨a3s L1, 25, false, false⟩, some ⟨a3s L2, 25, false, false⟩, rB [vN X, vN Y, vN Z, vS 0 L1.length] 24, rB [vN X, vN Y, vN Z, vS 1 L2.length] 24, some ⟨a3s L1, 25, false, true⟩, some ⟨a3s L2, 25, false, true⟩, some ⟨a3s R, 25, false, true⟩, rB [vN X, vN Y, vN Z, vS 6 R.length] 29, some ⟨a3s (mk3 1 L1.length), 25, false, true⟩, rB [vN X, vN Y, vN Z, vS 8 L1.length] 29, some ⟨a3s (mk3 (1 + 3 * L1.length) L2.length), 25, false, true⟩, rB [vN X, vN Y, vN Z, vS 10 L2.length] 29, some ⟨a3s R, 25, false, true⟩, rB [vN X, vN Y, vN Z, vS 12 R.length] 29, some ⟨a3s L1, 25, false, true⟩, some ⟨a3s L2, 25, false, true⟩]) (by kernel_rfl) ?_
        refine rCall (v := .bool true) (args := [.agg #[vN X, vN Y, vN Z, vS 12 R.length], .agg #[vN X, vN Y, vN Z, vS 6 R.length]]) (by kernel_rfl) rfl (by kernel_rfl) (Sound.lay0 [12, 6] (eqHeapB ((X : Nat) : Int) ((Y : Nat) : Int) ((Z : Nat) : Int) R (by first | omega | assumption | (simp; done))) ⟨rdF true (flatA3 _ _ _ _) rfl rfl, ⟨rdF true (flatA3 _ _ _ _) rfl rfl, trivial⟩⟩ rfl ⟨clF (flatA3 _ _ _ _), ⟨clF (flatA3 _ _ _ _), trivial⟩⟩ rfl (by first | rfl | simp [mpV, mpA, mpS, mpP, renId, shift]) rfl) ?_
        refine segEnd [2, 3, 6, 7, 10, 82] (T1 := (mkT 119 [(2, vP 2 0), (3, vP 3 0), (6, vP 7 0), (7, .bool true), (10, vP 13 0), (82, .bool false)])) (H1 := [some ⟨a3s L1, 25, false, false⟩, some ⟨a3s L2, 25, false, false⟩, rB [vN X, vN Y, vN Z, vS 0 L1.length] 24, rB [vN X, vN Y, vN Z, vS 1 L2.length] 24, some ⟨a3s L1, 25, false, true⟩, some ⟨a3s L2, 25, false, true⟩, some ⟨a3s R, 25, false, true⟩, rB [vN X, vN Y, vN Z, vS 6 R.length] 29, some ⟨a3s (mk3 1 L1.length), 25, false, true⟩, rB [vN X, vN Y, vN Z, vS 8 L1.length] 29, some ⟨a3s (mk3 (1 + 3 * L1.length) L2.length), 25, false, true⟩, rB [vN X, vN Y, vN Z, vS 10 L2.length] 29, some ⟨a3s R, 25, false, true⟩, rB [vN X, vN Y, vN Z, vS 12 R.length] 29, some ⟨a3s L1, 25, false, true⟩, some ⟨a3s L2, 25, false, true⟩]) (by kernel_rfl) ?_
        refine kSeq ?_
        refine cFalse (by kernel_rfl) ?_
        refine cSkip ?_
        refine kSeq ?_
        refine cSeq ?_
        refine cReg ?_
        refine segEndH [2, 3, 6, 7, 10, 13] (T1 := (mkT 119 [(2, vP 2 0), (3, vP 3 0), (6, vP 7 0), (7, .bool true), (10, vP 13 0), (13, vI 1)])) (by kernel_rfl) ?_
        refine kSeq ?_
        refine cSeq ?_
        refine cReg ?_
        refine segH 2 (T1 := (mkT 119 [(2, vP 2 0), (3, vP 3 0), (6, vP 7 0), (7, .bool true), (10, vP 13 0), (13, vI 1), (83, .agg #[vN X, vN Y, vN Z, vS 12 R.length]), (84, vI 1)])) (by kernel_rfl) ?_
        refine rCall (v := vN (1 + 3 * R.length)) (args := [.agg #[vN X, vN Y, vN Z, vS 12 R.length], vI 1]) (by kernel_rfl) rfl (by kernel_rfl) (Sound.emb_set (r := ⟨a3s R, 25, false, true⟩) (r' := ⟨a3s (mk3 1 R.length), 25, false, true⟩) 12 (markHeapB ((X : Nat) : Int) ((Y : Nat) : Int) ((Z : Nat) : Int) R 1 (by first | omega | assumption | (simp; done)) (by first | assumption | omega | rfl | decide | exact HeapL.list _ _ _ _ | exact HeapL.nil _ _ _ | exact HeapL.all _ _ _ | (apply HeapL.lt64 <;> assumption) | (repeat' (first | assumption | apply or_lt64 | apply and_lt64 | apply andn_lt64 | apply pow_lt64 | (apply HeapL.lt64 <;> assumption))))) (flatA3 _ _ _ _) rfl (flatA3 _ _ _ _) rfl rfl rfl (by first | rfl | simp [mpV, mpA, mpS, mpP, renId, shift]) rfl) ?_
        refine segEnd [2, 3, 6, 7, 10, 13] (T1 := (mkT 119 [(2, vP 2 0), (3, vP 3 0), (6, vP 7 0), (7, .bool true), (10, vP 13 0), (13, vN (1 + 3 * R.length))])) (H1 := [some ⟨a3s L1, 25, false, false⟩, some ⟨a3s L2, 25, false, false⟩, rB [vN X, vN Y, vN Z, vS 0 L1.length] 24, rB [vN X, vN Y, vN Z, vS 1 L2.length] 24, some ⟨a3s L1, 25, false, true⟩, some ⟨a3s L2, 25, false, true⟩, some ⟨a3s R, 25, false, true⟩, rB [vN X, vN Y, vN Z, vS 6 R.length] 29, some ⟨a3s (mk3 1 L1.length), 25, false, true⟩, rB [vN X, vN Y, vN Z, vS 8 L1.length] 29, some ⟨a3s (mk3 (1 + 3 * L1.length) L2.length), 25, false, true⟩, rB [vN X, vN Y, vN Z, vS 10 L2.length] 29, some ⟨a3s (mk3 1 R.length), 25, false, true⟩, rB [vN X, vN Y, vN Z, vS 12 R.length] 29, some ⟨a3s L1, 25, false, true⟩, some ⟨a3s L2, 25, false, true⟩]) (by kernel_rfl) ?_
        refine kSeq ?_
        refine cSeq ?_
        refine cReg ?_
        refine segEndH [2, 3, 6, 7, 10, 13, 14] (T1 := (mkT 119 [(2, vP 2 0), (3, vP 3 0), (6, vP 7 0), (7, .bool true), (10, vP 13 0), (13, vN (1 + 3 * R.length)), (14, vI 1)])) (by kernel_rfl) ?_
        refine kSeq ?_
        refine cSeq ?_
        refine cReg ?_
        refine segH 2 (T1 := (mkT 119 [(2, vP 2 0), (3, vP 3 0), (6, vP 7 0), (7, .bool true), (10, vP 13 0), (13, vN (1 + 3 * R.length)), (14, vI 1), (86, .agg #[vN X, vN Y, vN Z, vS 12 R.length]), (87, vI 1)])) (by kernel_rfl) ?_
        refine rCall (v := vN (1 + 3 * R.length)) (args := [.agg #[vN X, vN Y, vN Z, vS 12 R.length], vI 1]) (by kernel_rfl) rfl (by kernel_rfl) (Sound.lay0 [12] (heldHeapB ((X : Nat) : Int) ((Y : Nat) : Int) ((Z : Nat) : Int) 1 R.length (by first | omega | assumption | (simp; done)) (by first | assumption | omega | rfl | decide | exact HeapL.list _ _ _ _ | exact HeapL.nil _ _ _ | exact HeapL.all _ _ _ | (apply HeapL.lt64 <;> assumption) | (repeat' (first | assumption | apply or_lt64 | apply and_lt64 | apply andn_lt64 | apply pow_lt64 | (apply HeapL.lt64 <;> assumption))))) ⟨rdF true (flatA3 _ _ _ _) rfl rfl, trivial⟩ rfl ⟨clF (flatA3 _ _ _ _), trivial⟩ rfl (by first | rfl | simp [mpV, mpA, mpS, mpP, renId, shift]) rfl) ?_
        refine segEndH [2, 3, 6, 7, 10, 13, 14] (T1 := (mkT 119 [(2, vP 2 0), (3, vP 3 0), (6, vP 7 0), (7, .bool true), (10, vP 13 0), (13, vN (1 + 3 * R.length)), (14, vN (1 + 3 * R.length))])) (by kernel_rfl) ?_
        refine kSeq ?_
        refine cSeq ?_
        refine cSeq ?_
        refine cReg ?_
        refine segEndH [2, 3, 6, 7, 10, 13, 14, 90] (T1 := (mkT 119 [(2, vP 2 0), (3, vP 3 0), (6, vP 7 0), (7, .bool true), (10, vP 13 0), (13, vN (1 + 3 * R.length)), (14, vN (1 + 3 * R.length)), (90, .bool (decide (((1 + 3 * R.length : Nat) : Int) < 0)))])) (by kernel_rfl) ?_
        refine kSeq ?_
        cases h4 : (decide (((1 + 3 * R.length : Nat) : Int) < 0) : Bool)
        ·
          (try simp only [Bool.not_eq_true', Bool.not_eq_false', decide_eq_true_eq, decide_eq_false_iff_not, beq_iff_eq, bne_iff_ne, beq_eq_false_iff_ne, bne_eq_false_iff_eq, ne_eq, Decidable.not_not, Bool.and_eq_true, Bool.and_eq_false_imp, Bool.or_eq_true, Bool.or_eq_false_iff, Bool.not_eq_true, Int.not_lt, Int.not_le, ge_iff_le, gt_iff_lt] at h4)
          refine cFalse (by kernel_rfl) ?_
          refine cSkip ?_
          refine kSeq ?_
          refine cSeq ?_
          refine cSeq ?_
          refine cReg ?_
          refine segH 2 (T1 := (mkT 119 [(2, vP 2 0), (3, vP 3 0), (6, vP 7 0), (7, .bool true), (10, vP 13 0), (13, vN (1 + 3 * R.length)), (14, vN (1 + 3 * R.length)), (90, .bool false), (91, vN (1 + 3 * R.length)), (92, vN (1 + 3 * R.length))])) (by kernel_rfl) ?_
          refine rOp (v := .bool false) (by kernel_rfl) (eNeS (k := .i64) (a := ((1 + 3 * R.length : Nat) : Int)) (by kernel_rfl) (by kernel_rfl)) ?_
          refine segEndH [2, 3, 6, 7, 10, 13, 93] (T1 := (mkT 119 [(2, vP 2 0), (3, vP 3 0), (6, vP 7 0), (7, .bool true), (10, vP 13 0), (13, vN (1 + 3 * R.length)), (93, .bool false)])) (by kernel_rfl) ?_
          refine kSeq ?_
          refine cFalse (by kernel_rfl) ?_
          refine cSkip ?_
          refine kSeq ?_
          refine cSeq ?_
          refine cRegW (N := 20) [⟨[], [], [2]⟩, ⟨[16], [], [0]⟩, ⟨[], [], [3]⟩, ⟨[17], [], [1]⟩, ⟨[18], [], [16, 17]⟩, ⟨[], [], []⟩, ⟨[], [], []⟩, ⟨[], [], []⟩, ⟨[19], [], []⟩, ⟨[], [19], []⟩, ⟨[], [], []⟩] 4 [16, 17, 18, 19] (by rfl) (by rfl) (by kernel_rfl) (by kernel_rfl) (by kernel_rfl) ⟨nmsF (flatA3 _ _ _ _), ⟨nmsF (flatA3 _ _ _ _), ⟨nmsX (by kernel_rfl), ⟨nmsX (by kernel_rfl), ⟨nmsF (flatA3 _ _ _ _), ⟨nmsF (flatA3 _ _ _ _), ⟨nmsF (flatA3 _ _ _ _), ⟨nmsX (by kernel_rfl), ⟨nmsF (flatA3 _ _ _ _), ⟨nmsX (by kernel_rfl), ⟨nmsF (flatA3 _ _ _ _), ⟨nmsX (by kernel_rfl), ⟨nmsF (flatA3 _ _ _ _), ⟨nmsX (by kernel_rfl), ⟨nmsF (flatA3 _ _ _ _), ⟨nmsF (flatA3 _ _ _ _), trivial⟩⟩⟩⟩⟩⟩⟩⟩⟩⟩⟩⟩⟩⟩⟩⟩ ?_
          refine segWH 1 (T1 := (mkT 119 [(2, vP 2 0), (3, vP 3 0), (6, vP 7 0), (7, .bool true), (10, vP 13 0), (13, vN (1 + 3 * R.length)), (93, .bool false), (95, .agg #[vN X, vN Y, vN Z, vS 0 L1.length])])) (by kernel_rfl) ?_
          refine rW (m := ⟨[16], [], [0]⟩) (v := .agg #[vN X, vN Y, vN Z, vS 16 L1.length]) rfl (by kernel_rfl) (stN (i := 16) (E := [some ⟨a3s L1, 25, false, true⟩]) (v1 := .agg #[vN X, vN Y, vN Z, vS 20 L1.length]) (args := [.agg #[vN X, vN Y, vN Z, vS 0 L1.length]]) rfl (by kernel_rfl) (Any.lay [0] (toHeapB ((X : Nat) : Int) ((Y : Nat) : Int) ((Z : Nat) : Int) L1 (by first | omega | assumption | (simp; done))) ⟨rdF false (flatA3 _ _ _ _) rfl rfl, trivial⟩ rfl ⟨clF (flatA3 _ _ _ _), trivial⟩ rfl (by first | rfl | simp [mpV, mpA, mpS, mpP, renId, shift]) (by first | rfl | simp [mpV, mpA, mpS, mpP, renId, shift]) ⟨enF (flatA3 _ _ _ _) (Or.inl rfl), trivial⟩) rfl (by kernel_rfl) (by kernel_rfl) (by kernel_rfl) (by kernel_rfl) (FlatH.cons (flatA3 _ _ _ _) FlatH.nil)) (by kernel_rfl) (NRs.all ⟨nrOf (by rfl) (nmF (flatA3 _ _ _ _)), trivial⟩) ?_
          refine segWH 1 (T1 := (mkT 119 [(2, vP 2 0), (3, vP 3 0), (6, vP 7 0), (7, .bool true), (10, vP 13 0), (13, vN (1 + 3 * R.length)), (93, .bool false), (95, .agg #[vN X, vN Y, vN Z, vS 0 L1.length]), (96, .agg #[vN X, vN Y, vN Z, vS 16 L1.length]), (97, .agg #[vN X, vN Y, vN Z, vS 1 L2.length])])) (by kernel_rfl) ?_
          refine rW (m := ⟨[17], [], [1]⟩) (v := .agg #[vN X, vN Y, vN Z, vS 17 L2.length]) rfl (by kernel_rfl) (stN (i := 17) (E := [some ⟨a3s L2, 25, false, true⟩]) (v1 := .agg #[vN X, vN Y, vN Z, vS 20 L2.length]) (args := [.agg #[vN X, vN Y, vN Z, vS 1 L2.length]]) rfl (by kernel_rfl) (Any.lay [1] (toHeapB ((X : Nat) : Int) ((Y : Nat) : Int) ((Z : Nat) : Int) L2 (by first | omega | assumption | (simp; done))) ⟨rdF false (flatA3 _ _ _ _) rfl rfl, trivial⟩ rfl ⟨clF (flatA3 _ _ _ _), trivial⟩ rfl (by first | rfl | simp [mpV, mpA, mpS, mpP, renId, shift]) (by first | rfl | simp [mpV, mpA, mpS, mpP, renId, shift]) ⟨enF (flatA3 _ _ _ _) (Or.inl rfl), trivial⟩) rfl (by kernel_rfl) (by kernel_rfl) (by kernel_rfl) (by kernel_rfl) (FlatH.cons (flatA3 _ _ _ _) FlatH.nil)) (by kernel_rfl) (NRs.all ⟨nrOf (by rfl) (nmF (flatA3 _ _ _ _)), trivial⟩) ?_
          refine rW (m := ⟨[18], [], [16, 17]⟩) (v := .tuple #[.agg #[vN X, vN Y, vN Z, vS 18 R.length], .bool true]) rfl (by kernel_rfl) (stN (i := 18) (E := [some ⟨a3s R, 25, false, true⟩]) (v1 := .tuple #[.agg #[vN X, vN Y, vN Z, vS 20 R.length], .bool true]) (args := [.agg #[vN X, vN Y, vN Z, vS 16 L1.length], .agg #[vN X, vN Y, vN Z, vS 17 L2.length]]) rfl (by kernel_rfl) (Any.lay [16, 17] (implJoinHeaps_yesR X Y Z L1 L2 R (by first | assumption | omega | rfl | decide | exact HeapL.list _ _ _ _ | exact HeapL.nil _ _ _ | exact HeapL.all _ _ _ | (apply HeapL.lt64 <;> assumption) | (repeat' (first | assumption | apply or_lt64 | apply and_lt64 | apply andn_lt64 | apply pow_lt64 | (apply HeapL.lt64 <;> assumption)))) (by first | assumption | omega | rfl | decide | exact HeapL.list _ _ _ _ | exact HeapL.nil _ _ _ | exact HeapL.all _ _ _ | (apply HeapL.lt64 <;> assumption) | (repeat' (first | assumption | apply or_lt64 | apply and_lt64 | apply andn_lt64 | apply pow_lt64 | (apply HeapL.lt64 <;> assumption)))) (by first | assumption | omega | rfl | decide | exact HeapL.list _ _ _ _ | exact HeapL.nil _ _ _ | exact HeapL.all _ _ _ | (apply HeapL.lt64 <;> assumption) | (repeat' (first | assumption | apply or_lt64 | apply and_lt64 | apply andn_lt64 | apply pow_lt64 | (apply HeapL.lt64 <;> assumption)))) (by first | assumption | omega | rfl | decide | exact HeapL.list _ _ _ _ | exact HeapL.nil _ _ _ | exact HeapL.all _ _ _ | (apply HeapL.lt64 <;> assumption) | (repeat' (first | assumption | apply or_lt64 | apply and_lt64 | apply andn_lt64 | apply pow_lt64 | (apply HeapL.lt64 <;> assumption))))) ⟨rdF true (flatA3 _ _ _ _) rfl rfl, ⟨rdF true (flatA3 _ _ _ _) rfl rfl, trivial⟩⟩ rfl ⟨clF (flatA3 _ _ _ _), ⟨clF (flatA3 _ _ _ _), trivial⟩⟩ rfl (by first | rfl | simp [mpV, mpA, mpS, mpP, renId, shift]) (by first | rfl | simp [mpV, mpA, mpS, mpP, renId, shift]) ⟨enF (flatA3 _ _ _ _) (Or.inl rfl), trivial⟩) rfl (by kernel_rfl) (by kernel_rfl) (by kernel_rfl) (by kernel_rfl) (FlatH.cons (flatA3 _ _ _ _) FlatH.nil)) (by kernel_rfl) (NRs.all ⟨nrOf (by rfl) (nmF (flatA3 _ _ _ _)), trivial⟩) ?_
          refine segWH 3 (T1 := (mkT 119 [(2, vP 2 0), (3, vP 3 0), (6, vP 7 0), (7, .bool true), (10, vP 13 0), (13, vN (1 + 3 * R.length)), (93, .bool false), (94, .tuple #[.agg #[vN X, vN Y, vN Z, vS 18 R.length], .bool true]), (95, .agg #[vN X, vN Y, vN Z, vS 0 L1.length]), (96, .agg #[vN X, vN Y, vN Z, vS 16 L1.length]), (97, .agg #[vN X, vN Y, vN Z, vS 1 L2.length]), (98, .agg #[vN X, vN Y, vN Z, vS 17 L2.length]), (99, .tuple #[.agg #[vN X, vN Y, vN Z, vS 18 R.length], .bool true]), (100, .agg #[vN X, vN Y, vN Z, vS 18 R.length]), (101, .bool true)])) (by kernel_rfl) ?_
          refine rW (m := ⟨[19], [], []⟩) (v := vP 19 0) rfl (by kernel_rfl) (stNew (i := 19) (v1 := vP 20 0) (r := ⟨[vI 0, vI 0, vI 0, .slice none 0 0], 29, true, true⟩) (by kernel_rfl) rfl (by kernel_rfl) (by kernel_rfl) (by kernel_rfl) (by kernel_rfl) (nmX (by kernel_rfl)) (clX (by kernel_rfl))) (by kernel_rfl) (NRs.all ⟨nrOf (by rfl) (nmX (by kernel_rfl)), trivial⟩) ?_
          refine rW (m := ⟨[], [19], []⟩) (v := .tuple #[]) rfl (by kernel_rfl) (stSet (b := 19) (r := ⟨[vN X, vN Y, vN Z, vS 18 R.length], 29, true, true⟩) (by kernel_rfl) rfl (by kernel_rfl) (by kernel_rfl) (by kernel_rfl) (by kernel_rfl) (nmX (by kernel_rfl)) (clX (by kernel_rfl))) (by kernel_rfl) (NRs.all ⟨nrOf (by rfl) (nmX (by kernel_rfl)), trivial⟩) ?_
          refine segEndW [6, 7, 10, 13, 15, 16] (T1 := (mkT 119 [(6, vP 7 0), (7, .bool true), (10, vP 13 0), (13, vN (1 + 3 * R.length)), (15, vP 19 0), (16, .bool true)])) (H1 := [some ⟨a3s L1, 25, false, false⟩, some ⟨a3s L2, 25, false, false⟩, rB [vN X, vN Y, vN Z, vS 0 L1.length] 24, rB [vN X, vN Y, vN Z, vS 1 L2.length] 24, some ⟨a3s L1, 25, false, true⟩, some ⟨a3s L2, 25, false, true⟩, some ⟨a3s R, 25, false, true⟩, rB [vN X, vN Y, vN Z, vS 6 R.length] 29, some ⟨a3s (mk3 1 L1.length), 25, false, true⟩, rB [vN X, vN Y, vN Z, vS 8 L1.length] 29, some ⟨a3s (mk3 (1 + 3 * L1.length) L2.length), 25, false, true⟩, rB [vN X, vN Y, vN Z, vS 10 L2.length] 29, some ⟨a3s (mk3 1 R.length), 25, false, true⟩, rB [vN X, vN Y, vN Z, vS 12 R.length] 29, some ⟨a3s L1, 25, false, true⟩, some ⟨a3s L2, 25, false, true⟩, some ⟨a3s L1, 25, false, true⟩, some ⟨a3s L2, 25, false, true⟩, some ⟨a3s R, 25, false, true⟩, rB [vN X, vN Y, vN Z, vS 18 R.length] 29]) (by kernel_rfl) ?_
          refine kSeq ?_
          refine cSeq ?_
          refine cSeq ?_
          refine cReg ?_
          refine segH 2 (T1 := (mkT 119 [(6, vP 7 0), (7, .bool true), (10, vP 13 0), (13, vN (1 + 3 * R.length)), (15, vP 19 0), (16, .bool true), (102, .agg #[vN X, vN Y, vN Z, vS 18 R.length]), (103, .agg #[vN X, vN Y, vN Z, vS 6 R.length])])) (by kernel_rfl) ?_
          refine rCall (v := .bool true) (args := [.agg #[vN X, vN Y, vN Z, vS 18 R.length], .agg #[vN X, vN Y, vN Z, vS 6 R.length]]) (by kernel_rfl) rfl (by kernel_rfl) (Sound.lay0 [18, 6] (eqHeapB ((X : Nat) : Int) ((Y : Nat) : Int) ((Z : Nat) : Int) R (by first | omega | assumption | (simp; done))) ⟨rdF true (flatA3 _ _ _ _) rfl rfl, ⟨rdF true (flatA3 _ _ _ _) rfl rfl, trivial⟩⟩ rfl ⟨clF (flatA3 _ _ _ _), ⟨clF (flatA3 _ _ _ _), trivial⟩⟩ rfl (by first | rfl | simp [mpV, mpA, mpS, mpP, renId, shift]) rfl) ?_
          refine segEndH [10, 13, 110] (T1 := (mkT 119 [(10, vP 13 0), (13, vN (1 + 3 * R.length)), (110, .bool false)])) (by kernel_rfl) ?_
          refine kSeq ?_
          refine cFalse (by kernel_rfl) ?_
          refine cSkip ?_
          refine kSeq ?_
          refine cSeq ?_
          refine cReg ?_
          refine segEndH [10, 13, 14] (T1 := (mkT 119 [(10, vP 13 0), (13, vN (1 + 3 * R.length)), (14, vI 1)])) (by kernel_rfl) ?_
          refine kSeq ?_
          refine cSeq ?_
          refine cReg ?_
          refine segH 2 (T1 := (mkT 119 [(10, vP 13 0), (13, vN (1 + 3 * R.length)), (14, vI 1), (111, .agg #[vN X, vN Y, vN Z, vS 12 R.length]), (112, vI 1)])) (by kernel_rfl) ?_
          refine rCall (v := vN (1 + 3 * R.length)) (args := [.agg #[vN X, vN Y, vN Z, vS 12 R.length], vI 1]) (by kernel_rfl) rfl (by kernel_rfl) (Sound.lay0 [12] (heldHeapB ((X : Nat) : Int) ((Y : Nat) : Int) ((Z : Nat) : Int) 1 R.length (by first | omega | assumption | (simp; done)) (by first | assumption | omega | rfl | decide | exact HeapL.list _ _ _ _ | exact HeapL.nil _ _ _ | exact HeapL.all _ _ _ | (apply HeapL.lt64 <;> assumption) | (repeat' (first | assumption | apply or_lt64 | apply and_lt64 | apply andn_lt64 | apply pow_lt64 | (apply HeapL.lt64 <;> assumption))))) ⟨rdF true (flatA3 _ _ _ _) rfl rfl, trivial⟩ rfl ⟨clF (flatA3 _ _ _ _), trivial⟩ rfl (by first | rfl | simp [mpV, mpA, mpS, mpP, renId, shift]) rfl) ?_
          refine segEndH [13, 14] (T1 := (mkT 119 [(13, vN (1 + 3 * R.length)), (14, vN (1 + 3 * R.length))])) (by kernel_rfl) ?_
          refine kSeq ?_
          refine cSeq ?_
          refine cSeq ?_
          refine cReg ?_
          refine segEndH [13, 14, 115] (T1 := (mkT 119 [(13, vN (1 + 3 * R.length)), (14, vN (1 + 3 * R.length)), (115, .bool (decide (((1 + 3 * R.length : Nat) : Int) < 0)))])) (by kernel_rfl) ?_
          refine kSeq ?_
          cases h5 : (decide (((1 + 3 * R.length : Nat) : Int) < 0) : Bool)
          ·
            (try simp only [Bool.not_eq_true', Bool.not_eq_false', decide_eq_true_eq, decide_eq_false_iff_not, beq_iff_eq, bne_iff_ne, beq_eq_false_iff_ne, bne_eq_false_iff_eq, ne_eq, Decidable.not_not, Bool.and_eq_true, Bool.and_eq_false_imp, Bool.or_eq_true, Bool.or_eq_false_iff, Bool.not_eq_true, Int.not_lt, Int.not_le, ge_iff_le, gt_iff_lt] at h5)
            refine cFalse (by kernel_rfl) ?_
            refine cSkip ?_
            refine kSeq ?_
            refine cSeq ?_
            refine cSeq ?_
            refine cReg ?_
            refine segH 2 (T1 := (mkT 119 [(13, vN (1 + 3 * R.length)), (14, vN (1 + 3 * R.length)), (115, .bool false), (116, vN (1 + 3 * R.length)), (117, vN (1 + 3 * R.length))])) (by kernel_rfl) ?_
            refine rOp (v := .bool false) (by kernel_rfl) (eNeS (k := .i64) (a := ((1 + 3 * R.length : Nat) : Int)) (by kernel_rfl) (by kernel_rfl)) ?_
            refine segEndH [118] (T1 := (mkT 119 [(118, .bool false)])) (by kernel_rfl) ?_
            refine kSeq ?_
            refine cFalse (by kernel_rfl) ?_
            refine cSkip ?_
            refine kSeq ?_
            refine cSeq ?_
            refine cReg ?_
            refine segEndH [4] (T1 := (mkT 119 [(4, .bool true)])) (by kernel_rfl) ?_
            refine kSeq ?_
            refine cRet ?_
            -- end
            exact endQ (Or.inr rfl) (l := [.bool true]) [rB [vN X, vN Y, vN Z, vS 0 L1.length] 24, rB [vN X, vN Y, vN Z, vS 1 L2.length] 24, some ⟨a3s L1, 25, false, true⟩, some ⟨a3s L2, 25, false, true⟩, some ⟨a3s R, 25, false, true⟩, rB [vN X, vN Y, vN Z, vS 6 R.length] 29, some ⟨a3s (mk3 1 L1.length), 25, false, true⟩, rB [vN X, vN Y, vN Z, vS 8 L1.length] 29, some ⟨a3s (mk3 (1 + 3 * L1.length) L2.length), 25, false, true⟩, rB [vN X, vN Y, vN Z, vS 10 L2.length] 29, some ⟨a3s (mk3 1 R.length), 25, false, true⟩, rB [vN X, vN Y, vN Z, vS 12 R.length] 29, some ⟨a3s L1, 25, false, true⟩, some ⟨a3s L2, 25, false, true⟩, some ⟨a3s L1, 25, false, true⟩, some ⟨a3s L2, 25, false, true⟩, some ⟨a3s R, 25, false, true⟩, rB [vN X, vN Y, vN Z, vS 18 R.length] 29] (by kernel_rfl) (by first | rfl | kernel_rfl) rfl rfl hcl rfl
          ·
            (try simp only [Bool.not_eq_true', Bool.not_eq_false', decide_eq_true_eq, decide_eq_false_iff_not, beq_iff_eq, bne_iff_ne, beq_eq_false_iff_ne, bne_eq_false_iff_eq, ne_eq, Decidable.not_not, Bool.and_eq_true, Bool.and_eq_false_imp, Bool.or_eq_true, Bool.or_eq_false_iff, Bool.not_eq_true, Int.not_lt, Int.not_le, ge_iff_le, gt_iff_lt] at h5)
            exfalso; omega
        ·
          (try simp only [Bool.not_eq_true', Bool.not_eq_false', decide_eq_true_eq, decide_eq_false_iff_not, beq_iff_eq, bne_iff_ne, beq_eq_false_iff_ne, bne_eq_false_iff_eq, ne_eq, Decidable.not_not, Bool.and_eq_true, Bool.and_eq_false_imp, Bool.or_eq_true, Bool.or_eq_false_iff, Bool.not_eq_true, Int.not_lt, Int.not_le, ge_iff_le, gt_iff_lt] at h4)
          exfalso; omega
      ·
        (try simp only [Bool.not_eq_true', Bool.not_eq_false', decide_eq_true_eq, decide_eq_false_iff_not, beq_iff_eq, bne_iff_ne, beq_eq_false_iff_ne, bne_eq_false_iff_eq, ne_eq, Decidable.not_not, Bool.and_eq_true, Bool.and_eq_false_imp, Bool.or_eq_true, Bool.or_eq_false_iff, Bool.not_eq_true, Int.not_lt, Int.not_le, ge_iff_le, gt_iff_lt] at h3)
        exfalso; omega
    ·
      (try simp only [Bool.not_eq_true', Bool.not_eq_false', decide_eq_true_eq, decide_eq_false_iff_not, beq_iff_eq, bne_iff_ne, beq_eq_false_iff_ne, bne_eq_false_iff_eq, ne_eq, Decidable.not_not, Bool.and_eq_true, Bool.and_eq_false_imp, Bool.or_eq_true, Bool.or_eq_false_iff, Bool.not_eq_true, Int.not_lt, Int.not_le, ge_iff_le, gt_iff_lt] at h2)
      exfalso; omega
  ·
    (try simp only [Bool.not_eq_true', Bool.not_eq_false', decide_eq_true_eq, decide_eq_false_iff_not, beq_iff_eq, bne_iff_ne, beq_eq_false_iff_ne, bne_eq_false_iff_eq, ne_eq, Decidable.not_not, Bool.and_eq_true, Bool.and_eq_false_imp, Bool.or_eq_true, Bool.or_eq_false_iff, Bool.not_eq_true, Int.not_lt, Int.not_le, ge_iff_le, gt_iff_lt] at h1)
    exfalso; omega

set_option maxRecDepth 100000 in
set_option maxHeartbeats 4000000 in
theorem lawJoinHeaps_yes_sn (X : Nat) (Y : Nat) (Z : Nat) (L1 : List A3) (R : List A3) (hs : Sides X Y Z) (hL1 : HeapL X Y Z L1) (hR : R = listOf X Y Z (setOf Y Z L1 ||| setOf Y Z ([] : List A3))) : Sound Try.prog 8 [.agg #[vN X, vN Y, vN Z, vS 0 L1.length], .agg #[vN X, vN Y, vN Z, .slice none 0 0]] [some ⟨a3s L1, 25, false, false⟩] (.bool true) [some ⟨a3s L1, 25, false, false⟩] := by
  refine sound_intro (C := cx) Try.func8 rfl (by kernel_rfl) fun hcl => ?_
  have hz := hs.size
  have hx0 := hs.x0
  have hx4 := hs.x4
  have hy0 := hs.y0
  have hy4 := hs.y4
  have hz0 := hs.z0
  have hz4 := hs.z4
  have hn1 : L1.length ≤ 64 := by first | (have := hL1.len; omega) | simp
  have hn2 : ([] : List A3).length ≤ 64 := by first | (have := hL2.len; omega) | simp
  have hr : R.length ≤ 64 := by (rw [hR]; have := (HeapL.list X Y Z (setOf Y Z L1 ||| setOf Y Z ([] : List A3))).len; omega)
  refine cSeq ?_
  refine cReg ?_
  refine segEnd [2, 3] (T1 := (mkT 119 [(2, vP 1 0), (3, vP 2 0)])) (H1 := [some ⟨a3s L1, 25, false, false⟩, rB [vN X, vN Y, vN Z, vS 0 L1.length] 24, rB [vN X, vN Y, vN Z, .slice none 0 0] 24]) (by kernel_rfl) ?_
  refine kSeq ?_
  refine cSeq ?_
  refine cReg ?_
  refine segEndH [2, 3, 5] (T1 := (mkT 119 [(2, vP 1 0), (3, vP 2 0), (5, vI 1048576)])) (by kernel_rfl) ?_
  refine kSeq ?_
  refine cSeq ?_
  refine cReg ?_
  refine segH 2 (T1 := (mkT 119 [(2, vP 1 0), (3, vP 2 0), (5, vI 1048576), (17, .agg #[vN X, vN Y, vN Z, vS 0 L1.length]), (18, vI 1048576)])) (by kernel_rfl) ?_
  refine rCall (v := vN (1048576 - L1.length)) (args := [.agg #[vN X, vN Y, vN Z, vS 0 L1.length], vI 1048576]) (by kernel_rfl) rfl (by kernel_rfl) (Sound.lay0 [0] (szHeapS ((X : Nat) : Int) ((Y : Nat) : Int) ((Z : Nat) : Int) L1 1048576 (by first | omega | assumption | (simp; done)) (by first | omega | assumption | decide)) ⟨rdF false (flatA3 _ _ _ _) rfl rfl, trivial⟩ rfl ⟨clF (flatA3 _ _ _ _), trivial⟩ rfl (by first | rfl | simp [mpV, mpA, mpS, mpP, renId, shift]) rfl) ?_
  refine segEndH [2, 3, 5] (T1 := (mkT 119 [(2, vP 1 0), (3, vP 2 0), (5, vN (1048576 - L1.length))])) (by kernel_rfl) ?_
  refine kSeq ?_
  refine cSeq ?_
  refine cSeq ?_
  refine cReg ?_
  refine segEndH [2, 3, 5, 21] (T1 := (mkT 119 [(2, vP 1 0), (3, vP 2 0), (5, vN (1048576 - L1.length)), (21, .bool (decide (((1048576 - L1.length : Nat) : Int) < 0)))])) (by kernel_rfl) ?_
  refine kSeq ?_
  cases h1 : (decide (((1048576 - L1.length : Nat) : Int) < 0) : Bool)
  ·
    (try simp only [Bool.not_eq_true', Bool.not_eq_false', decide_eq_true_eq, decide_eq_false_iff_not, beq_iff_eq, bne_iff_ne, beq_eq_false_iff_ne, bne_eq_false_iff_eq, ne_eq, Decidable.not_not, Bool.and_eq_true, Bool.and_eq_false_imp, Bool.or_eq_true, Bool.or_eq_false_iff, Bool.not_eq_true, Int.not_lt, Int.not_le, ge_iff_le, gt_iff_lt] at h1)
    refine cFalse (by kernel_rfl) ?_
    refine cSkip ?_
    refine kSeq ?_
    refine cSeq ?_
    refine cReg ?_
    refine segH 2 (T1 := (mkT 119 [(2, vP 1 0), (3, vP 2 0), (5, vN (1048576 - L1.length)), (21, .bool false), (22, .agg #[vN X, vN Y, vN Z, .slice none 0 0]), (23, vN (1048576 - L1.length))])) (by kernel_rfl) ?_
    refine rCall (v := vN (1048576 - L1.length)) (args := [.agg #[vN X, vN Y, vN Z, .slice none 0 0], vN (1048576 - L1.length)]) (by kernel_rfl) rfl (by kernel_rfl) (Sound.lay0 [] (szHeapN ((X : Nat) : Int) ((Y : Nat) : Int) ((Z : Nat) : Int) (1048576 - L1.length) (by first | omega | assumption | decide)) trivial rfl trivial rfl (by first | rfl | simp [mpV, mpA, mpS, mpP, renId, shift]) rfl) ?_
    refine segEndH [2, 3, 5] (T1 := (mkT 119 [(2, vP 1 0), (3, vP 2 0), (5, vN (1048576 - L1.length))])) (by kernel_rfl) ?_
    refine kSeq ?_
    refine cSeq ?_
    refine cSeq ?_
    refine cReg ?_
    refine segEndH [2, 3, 26] (T1 := (mkT 119 [(2, vP 1 0), (3, vP 2 0), (26, .bool (decide (((1048576 - L1.length : Nat) : Int) < 0)))])) (by kernel_rfl) ?_
    refine kSeq ?_
    cases h2 : (decide (((1048576 - L1.length : Nat) : Int) < 0) : Bool)
    ·
      (try simp only [Bool.not_eq_true', Bool.not_eq_false', decide_eq_true_eq, decide_eq_false_iff_not, beq_iff_eq, bne_iff_ne, beq_eq_false_iff_ne, bne_eq_false_iff_eq, ne_eq, Decidable.not_not, Bool.and_eq_true, Bool.and_eq_false_imp, Bool.or_eq_true, Bool.or_eq_false_iff, Bool.not_eq_true, Int.not_lt, Int.not_le, ge_iff_le, gt_iff_lt] at h2)
      refine cFalse (by kernel_rfl) ?_
      refine cSkip ?_
      refine kSeq ?_
      refine cSeq ?_
      refine cRegW (N := 7) [⟨[], [], [1]⟩, ⟨[3], [], [0]⟩, ⟨[], [], [2]⟩, ⟨[4], [], []⟩, ⟨[5], [], [3, 4]⟩, ⟨[], [], []⟩, ⟨[], [], []⟩, ⟨[], [], []⟩, ⟨[6], [], []⟩, ⟨[], [6], []⟩, ⟨[], [], []⟩] 4 [3, 4, 5, 6] (by rfl) (by rfl) (by kernel_rfl) (by kernel_rfl) (by kernel_rfl) ⟨nmsF (flatA3 _ _ _ _), ⟨nmsX (by kernel_rfl), ⟨nmsX (by kernel_rfl), trivial⟩⟩⟩ ?_
      refine segWH 1 (T1 := (mkT 119 [(2, vP 1 0), (3, vP 2 0), (26, .bool false), (28, .agg #[vN X, vN Y, vN Z, vS 0 L1.length])])) (by kernel_rfl) ?_
      refine rW (m := ⟨[3], [], [0]⟩) (v := .agg #[vN X, vN Y, vN Z, vS 3 L1.length]) rfl (by kernel_rfl) (stN (i := 3) (E := [some ⟨a3s L1, 25, false, true⟩]) (v1 := .agg #[vN X, vN Y, vN Z, vS 7 L1.length]) (args := [.agg #[vN X, vN Y, vN Z, vS 0 L1.length]]) rfl (by kernel_rfl) (Any.lay [0] (toHeapB ((X : Nat) : Int) ((Y : Nat) : Int) ((Z : Nat) : Int) L1 (by first | omega | assumption | (simp; done))) ⟨rdF false (flatA3 _ _ _ _) rfl rfl, trivial⟩ rfl ⟨clF (flatA3 _ _ _ _), trivial⟩ rfl (by first | rfl | simp [mpV, mpA, mpS, mpP, renId, shift]) (by first | rfl | simp [mpV, mpA, mpS, mpP, renId, shift]) ⟨enF (flatA3 _ _ _ _) (Or.inl rfl), trivial⟩) rfl (by kernel_rfl) (by kernel_rfl) (by kernel_rfl) (by kernel_rfl) (FlatH.cons (flatA3 _ _ _ _) FlatH.nil)) (by kernel_rfl) (NRs.all ⟨nrOf (by rfl) (nmF (flatA3 _ _ _ _)), trivial⟩) ?_
      refine segWH 1 (T1 := (mkT 119 [(2, vP 1 0), (3, vP 2 0), (26, .bool false), (28, .agg #[vN X, vN Y, vN Z, vS 0 L1.length]), (29, .agg #[vN X, vN Y, vN Z, vS 3 L1.length]), (30, .agg #[vN X, vN Y, vN Z, .slice none 0 0])])) (by kernel_rfl) ?_
      refine rW (m := ⟨[4], [], []⟩) (v := .agg #[vN X, vN Y, vN Z, vS 4 0]) rfl (by kernel_rfl) (stN (i := 4) (E := [some ⟨[], 25, false, true⟩]) (v1 := .agg #[vN X, vN Y, vN Z, vS 7 0]) (args := [.agg #[vN X, vN Y, vN Z, .slice none 0 0]]) rfl (by kernel_rfl) (Any.lay [] (toHeapN ((X : Nat) : Int) ((Y : Nat) : Int) ((Z : Nat) : Int)) trivial rfl trivial rfl (by first | rfl | simp [mpV, mpA, mpS, mpP, renId, shift]) (by first | rfl | simp [mpV, mpA, mpS, mpP, renId, shift]) ⟨enX rfl (Or.inl rfl), trivial⟩) rfl (by kernel_rfl) (by kernel_rfl) (by kernel_rfl) (by kernel_rfl) (FlatH.cons (flatRow_of rfl) FlatH.nil)) (by kernel_rfl) (NRs.all ⟨nrOf (by rfl) (nmX (by kernel_rfl)), trivial⟩) ?_
      refine rW (m := ⟨[5], [], [3, 4]⟩) (v := .tuple #[.agg #[vN X, vN Y, vN Z, vS 5 R.length], .bool true]) rfl (by kernel_rfl) (stN (i := 5) (E := [some ⟨a3s R, 25, false, true⟩]) (v1 := .tuple #[.agg #[vN X, vN Y, vN Z, vS 7 R.length], .bool true]) (args := [.agg #[vN X, vN Y, vN Z, vS 3 L1.length], .agg #[vN X, vN Y, vN Z, vS 4 0]]) rfl (by kernel_rfl) (Any.lay [3, 4] (specJoinHeaps_yesR X Y Z L1 ([] : List A3) R (by first | assumption | omega | rfl | decide | exact HeapL.list _ _ _ _ | exact HeapL.nil _ _ _ | exact HeapL.all _ _ _ | (apply HeapL.lt64 <;> assumption) | (repeat' (first | assumption | apply or_lt64 | apply and_lt64 | apply andn_lt64 | apply pow_lt64 | (apply HeapL.lt64 <;> assumption)))) (by first | assumption | omega | rfl | decide | exact HeapL.list _ _ _ _ | exact HeapL.nil _ _ _ | exact HeapL.all _ _ _ | (apply HeapL.lt64 <;> assumption) | (repeat' (first | assumption | apply or_lt64 | apply and_lt64 | apply andn_lt64 | apply pow_lt64 | (apply HeapL.lt64 <;> assumption)))) (by first | assumption | omega | rfl | decide | exact HeapL.list _ _ _ _ | exact HeapL.nil _ _ _ | exact HeapL.all _ _ _ | (apply HeapL.lt64 <;> assumption) | (repeat' (first | assumption | apply or_lt64 | apply and_lt64 | apply andn_lt64 | apply pow_lt64 | (apply HeapL.lt64 <;> assumption)))) (by first | assumption | omega | rfl | decide | exact HeapL.list _ _ _ _ | exact HeapL.nil _ _ _ | exact HeapL.all _ _ _ | (apply HeapL.lt64 <;> assumption) | (repeat' (first | assumption | apply or_lt64 | apply and_lt64 | apply andn_lt64 | apply pow_lt64 | (apply HeapL.lt64 <;> assumption))))) ⟨rdF true (flatA3 _ _ _ _) rfl rfl, ⟨rdF true (flatA3 _ _ _ _) rfl rfl, trivial⟩⟩ rfl ⟨clF (flatA3 _ _ _ _), ⟨clF (flatA3 _ _ _ _), trivial⟩⟩ rfl (by first | rfl | simp [mpV, mpA, mpS, mpP, renId, shift]) (by first | rfl | simp [mpV, mpA, mpS, mpP, renId, shift]) ⟨enF (flatA3 _ _ _ _) (Or.inl rfl), trivial⟩) rfl (by kernel_rfl) (by kernel_rfl) (by kernel_rfl) (by kernel_rfl) (FlatH.cons (flatA3 _ _ _ _) FlatH.nil)) (by kernel_rfl) (NRs.all ⟨nrOf (by rfl) (nmF (flatA3 _ _ _ _)), trivial⟩) ?_
      refine segWH 3 (T1 := (mkT 119 [(2, vP 1 0), (3, vP 2 0), (26, .bool false), (27, .tuple #[.agg #[vN X, vN Y, vN Z, vS 5 R.length], .bool true]), (28, .agg #[vN X, vN Y, vN Z, vS 0 L1.length]), (29, .agg #[vN X, vN Y, vN Z, vS 3 L1.length]), (30, .agg #[vN X, vN Y, vN Z, .slice none 0 0]), (31, .agg #[vN X, vN Y, vN Z, vS 4 0]), (32, .tuple #[.agg #[vN X, vN Y, vN Z, vS 5 R.length], .bool true]), (33, .agg #[vN X, vN Y, vN Z, vS 5 R.length]), (34, .bool true)])) (by kernel_rfl) ?_
      refine rW (m := ⟨[6], [], []⟩) (v := vP 6 0) rfl (by kernel_rfl) (stNew (i := 6) (v1 := vP 7 0) (r := ⟨[vI 0, vI 0, vI 0, .slice none 0 0], 29, true, true⟩) (by kernel_rfl) rfl (by kernel_rfl) (by kernel_rfl) (by kernel_rfl) (by kernel_rfl) (nmX (by kernel_rfl)) (clX (by kernel_rfl))) (by kernel_rfl) (NRs.all ⟨nrOf (by rfl) (nmX (by kernel_rfl)), trivial⟩) ?_
      refine rW (m := ⟨[], [6], []⟩) (v := .tuple #[]) rfl (by kernel_rfl) (stSet (b := 6) (r := ⟨[vN X, vN Y, vN Z, vS 5 R.length], 29, true, true⟩) (by kernel_rfl) rfl (by kernel_rfl) (by kernel_rfl) (by kernel_rfl) (by kernel_rfl) (nmX (by kernel_rfl)) (clX (by kernel_rfl))) (by kernel_rfl) (NRs.all ⟨nrOf (by rfl) (nmX (by kernel_rfl)), trivial⟩) ?_
      refine segEndW [2, 3, 6, 7] (T1 := (mkT 119 [(2, vP 1 0), (3, vP 2 0), (6, vP 6 0), (7, .bool true)])) (H1 := [some ⟨a3s L1, 25, false, false⟩, rB [vN X, vN Y, vN Z, vS 0 L1.length] 24, rB [vN X, vN Y, vN Z, .slice none 0 0] 24, some ⟨a3s L1, 25, false, true⟩, some ⟨[], 25, false, true⟩, some ⟨a3s R, 25, false, true⟩, rB [vN X, vN Y, vN Z, vS 5 R.length] 29]) (by kernel_rfl) ?_
      refine kSeq ?_
      refine cSeq ?_
      refine cReg ?_
      refine segH 1 (T1 := (mkT 119 [(2, vP 1 0), (3, vP 2 0), (6, vP 6 0), (7, .bool true), (35, .agg #[vN X, vN Y, vN Z, vS 0 L1.length])])) (by kernel_rfl) ?_
      refine rCall (v := .agg #[vN X, vN Y, vN Z, vS 7 L1.length]) (args := [.agg #[vN X, vN Y, vN Z, vS 0 L1.length]]) (by kernel_rfl) rfl (by kernel_rfl) (Sound.lay (E := [some ⟨a3s L1, 25, false, true⟩]) [0] (toHeapB ((X : Nat) : Int) ((Y : Nat) : Int) ((Z : Nat) : Int) L1 (by first | omega | assumption | (simp; done))) ⟨rdF false (flatA3 _ _ _ _) rfl rfl, trivial⟩ rfl ⟨clF (flatA3 _ _ _ _), trivial⟩ rfl (by first | rfl | simp [mpV, mpA, mpS, mpP, renId, shift]) (by first | rfl | simp [mpV, mpA, mpS, mpP, renId, shift]) ⟨enF (flatA3 _ _ _ _) (Or.inl rfl), trivial⟩) ?_
      refine segEnd [2, 3, 6, 7, 8] (T1 := (mkT 119 [(2, vP 1 0), (3, vP 2 0), (6, vP 6 0), (7, .bool true), (8, vP 8 0)])) (H1 := [some ⟨a3s L1, 25, false, false⟩, rB [vN X, vN Y, vN Z, vS 0 L1.length] 24, rB [vN X, vN Y, vN Z, .slice none 0 0] 24, some ⟨a3s L1, 25, false, true⟩, some ⟨[], 25, false, true⟩, some ⟨a3s R, 25, false, true⟩, rB [vN X, vN Y, vN Z, vS 5 R.length] 29, some ⟨a3s L1, 25, false, true⟩, rB [vN X, vN Y, vN Z, vS 7 L1.length] 29]) (by kernel_rfl) ?_
      refine kSeq ?_
      refine cSeq ?_
      refine cReg ?_
      refine segH 1 (T1 := (mkT 119 [(2, vP 1 0), (3, vP 2 0), (6, vP 6 0), (7, .bool true), (8, vP 8 0), (37, .agg #[vN X, vN Y, vN Z, .slice none 0 0])])) (by kernel_rfl) ?_
      refine rCall (v := .agg #[vN X, vN Y, vN Z, vS 9 0]) (args := [.agg #[vN X, vN Y, vN Z, .slice none 0 0]]) (by kernel_rfl) rfl (by kernel_rfl) (Sound.lay (E := [some ⟨[], 25, false, true⟩]) [] (toHeapN ((X : Nat) : Int) ((Y : Nat) : Int) ((Z : Nat) : Int)) trivial rfl trivial rfl (by first | rfl | simp [mpV, mpA, mpS, mpP, renId, shift]) (by first | rfl | simp [mpV, mpA, mpS, mpP, renId, shift]) ⟨enX rfl (Or.inl rfl), trivial⟩) ?_
      refine segEnd [2, 3, 6, 7, 8, 9] (T1 := (mkT 119 [(2, vP 1 0), (3, vP 2 0), (6, vP 6 0), (7, .bool true), (8, vP 8 0), (9, vP 10 0)])) (H1 := [some ⟨a3s L1, 25, false, false⟩, rB [vN X, vN Y, vN Z, vS 0 L1.length] 24, rB [vN X, vN Y, vN Z, .slice none 0 0] 24, some ⟨a3s L1, 25, false, true⟩, some ⟨[], 25, false, true⟩, some ⟨a3s R, 25, false, true⟩, rB [vN X, vN Y, vN Z, vS 5 R.length] 29, some ⟨a3s L1, 25, false, true⟩, rB [vN X, vN Y, vN Z, vS 7 L1.length] 29, some ⟨[], 25, false, true⟩, rB [vN X, vN Y, vN Z, vS 9 0] 29]) (by kernel_rfl) ?_
      refine kSeq ?_
      refine cSeq ?_
      refine cReg ?_
      refine segH 2 (T1 := (mkT 119 [(2, vP 1 0), (3, vP 2 0), (6, vP 6 0), (7, .bool true), (8, vP 8 0), (9, vP 10 0), (40, .agg #[vN X, vN Y, vN Z, vS 7 L1.length]), (41, .agg #[vN X, vN Y, vN Z, vS 9 0])])) (by kernel_rfl) ?_
      refine rCall (v := .tuple #[.agg #[vN X, vN Y, vN Z, vS 11 R.length], .bool true]) (args := [.agg #[vN X, vN Y, vN Z, vS 7 L1.length], .agg #[vN X, vN Y, vN Z, vS 9 0]]) (by kernel_rfl) rfl (by kernel_rfl) (Sound.lay (E := [some ⟨a3s R, 25, false, true⟩]) [7, 9] (implJoinHeaps_yesR X Y Z L1 ([] : List A3) R (by first | assumption | omega | rfl | decide | exact HeapL.list _ _ _ _ | exact HeapL.nil _ _ _ | exact HeapL.all _ _ _ | (apply HeapL.lt64 <;> assumption) | (repeat' (first | assumption | apply or_lt64 | apply and_lt64 | apply andn_lt64 | apply pow_lt64 | (apply HeapL.lt64 <;> assumption)))) (by first | assumption | omega | rfl | decide | exact HeapL.list _ _ _ _ | exact HeapL.nil _ _ _ | exact HeapL.all _ _ _ | (apply HeapL.lt64 <;> assumption) | (repeat' (first | assumption | apply or_lt64 | apply and_lt64 | apply andn_lt64 | apply pow_lt64 | (apply HeapL.lt64 <;> assumption)))) (by first | assumption | omega | rfl | decide | exact HeapL.list _ _ _ _ | exact HeapL.nil _ _ _ | exact HeapL.all _ _ _ | (apply HeapL.lt64 <;> assumption) | (repeat' (first | assumption | apply or_lt64 | apply and_lt64 | apply andn_lt64 | apply pow_lt64 | (apply HeapL.lt64 <;> assumption)))) (by first | assumption | omega | rfl | decide | exact HeapL.list _ _ _ _ | exact HeapL.nil _ _ _ | exact HeapL.all _ _ _ | (apply HeapL.lt64 <;> assumption) | (repeat' (first | assumption | apply or_lt64 | apply and_lt64 | apply andn_lt64 | apply pow_lt64 | (apply HeapL.lt64 <;> assumption))))) ⟨rdF true (flatA3 _ _ _ _) rfl rfl, ⟨rdF true (flatA3 _ _ _ _) rfl rfl, trivial⟩⟩ rfl ⟨clF (flatA3 _ _ _ _), ⟨clF (flatA3 _ _ _ _), trivial⟩⟩ rfl (by first | rfl | simp [mpV, mpA, mpS, mpP, renId, shift]) (by first | rfl | simp [mpV, mpA, mpS, mpP, renId, shift]) ⟨enF (flatA3 _ _ _ _) (Or.inl rfl), trivial⟩) ?_
      refine segEnd [2, 3, 6, 7, 8, 9, 10, 11] (T1 := (mkT 119 [(2, vP 1 0), (3, vP 2 0), (6, vP 6 0), (7, .bool true), (8, vP 8 0), (9, vP 10 0), (10, vP 12 0), (11, .bool true)])) (H1 := [some ⟨a3s L1, 25, false, false⟩, rB [vN X, vN Y, vN Z, vS 0 L1.length] 24, rB [vN X, vN Y, vN Z, .slice none 0 0] 24, some ⟨a3s L1, 25, false, true⟩, some ⟨[], 25, false, true⟩, some ⟨a3s R, 25, false, true⟩, rB [vN X, vN Y, vN Z, vS 5 R.length] 29, some ⟨a3s L1, 25, false, true⟩, rB [vN X, vN Y, vN Z, vS 7 L1.length] 29, some ⟨[], 25, false, true⟩, rB [vN X, vN Y, vN Z, vS 9 0] 29, some ⟨a3s R, 25, false, true⟩, rB [vN X, vN Y, vN Z, vS 11 R.length] 29]) (by kernel_rfl) ?_
      refine kSeq ?_
      refine cSeq ?_
      refine cSeq ?_
      refine cReg ?_
      refine segH 2 (T1 := (mkT 119 [(2, vP 1 0), (3, vP 2 0), (6, vP 6 0), (7, .bool true), (8, vP 8 0), (9, vP 10 0), (10, vP 12 0), (11, .bool true), (45, .agg #[vN X, vN Y, vN Z, vS 11 R.length]), (46, .agg #[vN X, vN Y, vN Z, vS 5 R.length])])) (by kernel_rfl) ?_
      refine rCall (v := .bool true) (args := [.agg #[vN X, vN Y, vN Z, vS 11 R.length], .agg #[vN X, vN Y, vN Z, vS 5 R.length]]) (by kernel_rfl) rfl (by kernel_rfl) (Sound.lay0 [11, 5] (eqHeapB ((X : Nat) : Int) ((Y : Nat) : Int) ((Z : Nat) : Int) R (by first | omega | assumption | (simp; done))) ⟨rdF true (flatA3 _ _ _ _) rfl rfl, ⟨rdF true (flatA3 _ _ _ _) rfl rfl, trivial⟩⟩ rfl ⟨clF (flatA3 _ _ _ _), ⟨clF (flatA3 _ _ _ _), trivial⟩⟩ rfl (by first | rfl | simp [mpV, mpA, mpS, mpP, renId, shift]) rfl) ?_
      refine segEndH [2, 3, 6, 7, 8, 9, 10, 11, 53] (T1 := (mkT 119 [(2, vP 1 0), (3, vP 2 0), (6, vP 6 0), (7, .bool true), (8, vP 8 0), (9, vP 10 0), (10, vP 12 0), (11, .bool true), (53, .bool false)])) (by kernel_rfl) ?_
      refine kSeq ?_
      refine cFalse (by kernel_rfl) ?_
      refine cSkip ?_
      refine kSeq ?_
      refine cSeq ?_
      refine cSeq ?_
      refine cRegW (N := 14) [⟨[], [], [8]⟩, ⟨[], [], [1]⟩, ⟨[13], [], [0]⟩, ⟨[], [], [7, 13]⟩, ⟨[], [], []⟩] 1 [13] (by rfl) (by rfl) (by kernel_rfl) (by kernel_rfl) (by kernel_rfl) ⟨nmsF (flatA3 _ _ _ _), ⟨nmsX (by kernel_rfl), ⟨nmsX (by kernel_rfl), ⟨nmsF (flatA3 _ _ _ _), ⟨nmsX (by kernel_rfl), ⟨nmsF (flatA3 _ _ _ _), ⟨nmsX (by kernel_rfl), ⟨nmsF (flatA3 _ _ _ _), ⟨nmsX (by kernel_rfl), ⟨nmsX (by kernel_rfl), ⟨nmsX (by kernel_rfl), ⟨nmsF (flatA3 _ _ _ _), ⟨nmsX (by kernel_rfl), trivial⟩⟩⟩⟩⟩⟩⟩⟩⟩⟩⟩⟩⟩ ?_
      refine segWH 2 (T1 := (mkT 119 [(2, vP 1 0), (3, vP 2 0), (6, vP 6 0), (7, .bool true), (8, vP 8 0), (9, vP 10 0), (10, vP 12 0), (11, .bool true), (53, .bool false), (54, .agg #[vN X, vN Y, vN Z, vS 7 L1.length]), (55, .agg #[vN X, vN Y, vN Z, vS 0 L1.length])])) (by kernel_rfl) ?_
      refine rW (m := ⟨[13], [], [0]⟩) (v := .agg #[vN X, vN Y, vN Z, vS 13 L1.length]) rfl (by kernel_rfl) (stN (i := 13) (E := [some ⟨a3s L1, 25, false, true⟩]) (v1 := .agg #[vN X, vN Y, vN Z, vS 14 L1.length]) (args := [.agg #[vN X, vN Y, vN Z, vS 0 L1.length]]) rfl (by kernel_rfl) (Any.lay [0] (toHeapB ((X : Nat) : Int) ((Y : Nat) : Int) ((Z : Nat) : Int) L1 (by first | omega | assumption | (simp; done))) ⟨rdF false (flatA3 _ _ _ _) rfl rfl, trivial⟩ rfl ⟨clF (flatA3 _ _ _ _), trivial⟩ rfl (by first | rfl | simp [mpV, mpA, mpS, mpP, renId, shift]) (by first | rfl | simp [mpV, mpA, mpS, mpP, renId, shift]) ⟨enF (flatA3 _ _ _ _) (Or.inl rfl), trivial⟩) rfl (by kernel_rfl) (by kernel_rfl) (by kernel_rfl) (by kernel_rfl) (FlatH.cons (flatA3 _ _ _ _) FlatH.nil)) (by kernel_rfl) (NRs.all ⟨nrOf (by rfl) (nmF (flatA3 _ _ _ _)), trivial⟩) ?_
      refine rW (m := ⟨[], [], [7, 13]⟩) (v := .bool true) rfl (by kernel_rfl) (stQ (args := [.agg #[vN X, vN Y, vN Z, vS 7 L1.length], .agg #[vN X, vN Y, vN Z, vS 13 L1.length]]) rfl (by kernel_rfl) (Any.lay0 [7, 13] (eqHeapB ((X : Nat) : Int) ((Y : Nat) : Int) ((Z : Nat) : Int) L1 (by first | omega | assumption | (simp; done))) ⟨rdF true (flatA3 _ _ _ _) rfl rfl, ⟨rdF true (flatA3 _ _ _ _) rfl rfl, trivial⟩⟩ rfl ⟨clF (flatA3 _ _ _ _), ⟨clF (flatA3 _ _ _ _), trivial⟩⟩ rfl (by first | rfl | simp [mpV, mpA, mpS, mpP, renId, shift]) rfl) rfl (by kernel_rfl) (by kernel_rfl)) (by kernel_rfl) nr0 ?_
      refine segEndW [2, 3, 6, 7, 8, 9, 10, 11, 58] (T1 := (mkT 119 [(2, vP 1 0), (3, vP 2 0), (6, vP 6 0), (7, .bool true), (8, vP 8 0), (9, vP 10 0), (10, vP 12 0), (11, .bool true), (58, .bool false)])) (H1 := [some ⟨a3s L1, 25, false, false⟩, rB [vN X, vN Y, vN Z, vS 0 L1.length] 24, rB [vN X, vN Y, vN Z, .slice none 0 0] 24, some ⟨a3s L1, 25, false, true⟩, some ⟨[], 25, false, true⟩, some ⟨a3s R, 25, false, true⟩, rB [vN X, vN Y, vN Z, vS 5 R.length] 29, some ⟨a3s L1, 25, false, true⟩, rB [vN X, vN Y, vN Z, vS 7 L1.length] 29, some ⟨[], 25, false, true⟩, rB [vN X, vN Y, vN Z, vS 9 0] 29, some ⟨a3s R, 25, false, true⟩, rB [vN X, vN Y, vN Z, vS 11 R.length] 29, some ⟨a3s L1, 25, false, true⟩]) (by kernel_rfl) ?_
      refine kSeq ?_
      refine cFalse (by kernel_rfl) ?_
      refine cSkip ?_
      refine kSeq ?_
      refine cSeq ?_
      refine cSeq ?_
      refine cRegW (N := 15) [⟨[], [], [10]⟩, ⟨[], [], [2]⟩, ⟨[14], [], []⟩, ⟨[], [], [9, 14]⟩, ⟨[], [], []⟩] 1 [14] (by rfl) (by rfl) (by kernel_rfl) (by kernel_rfl) (by kernel_rfl) ⟨nmsF (flatA3 _ _ _ _), ⟨nmsX (by kernel_rfl), ⟨nmsX (by kernel_rfl), ⟨nmsF (flatA3 _ _ _ _), ⟨nmsX (by kernel_rfl), ⟨nmsF (flatA3 _ _ _ _), ⟨nmsX (by kernel_rfl), ⟨nmsF (flatA3 _ _ _ _), ⟨nmsX (by kernel_rfl), ⟨nmsX (by kernel_rfl), ⟨nmsX (by kernel_rfl), ⟨nmsF (flatA3 _ _ _ _), ⟨nmsX (by kernel_rfl), ⟨nmsF (flatA3 _ _ _ _), trivial⟩⟩⟩⟩⟩⟩⟩⟩⟩⟩⟩⟩⟩⟩ ?_
      refine segWH 2 (T1 := (mkT 119 [(2, vP 1 0), (3, vP 2 0), (6, vP 6 0), (7, .bool true), (8, vP 8 0), (9, vP 10 0), (10, vP 12 0), (11, .bool true), (58, .bool false), (59, .agg #[vN X, vN Y, vN Z, vS 9 0]), (60, .agg #[vN X, vN Y, vN Z, .slice none 0 0])])) (by kernel_rfl) ?_
      refine rW (m := ⟨[14], [], []⟩) (v := .agg #[vN X, vN Y, vN Z, vS 14 0]) rfl (by kernel_rfl) (stN (i := 14) (E := [some ⟨[], 25, false, true⟩]) (v1 := .agg #[vN X, vN Y, vN Z, vS 15 0]) (args := [.agg #[vN X, vN Y, vN Z, .slice none 0 0]]) rfl (by kernel_rfl) (Any.lay [] (toHeapN ((X : Nat) : Int) ((Y : Nat) : Int) ((Z : Nat) : Int)) trivial rfl trivial rfl (by first | rfl | simp [mpV, mpA, mpS, mpP, renId, shift]) (by first | rfl | simp [mpV, mpA, mpS, mpP, renId, shift]) ⟨enX rfl (Or.inl rfl), trivial⟩) rfl (by kernel_rfl) (by kernel_rfl) (by kernel_rfl) (by kernel_rfl) (FlatH.cons (flatRow_of rfl) FlatH.nil)) (by kernel_rfl) (NRs.all ⟨nrOf (by rfl) (nmX (by kernel_rfl)), trivial⟩) ?_
      refine rW (m := ⟨[], [], [9, 14]⟩) (v := .bool true) rfl (by kernel_rfl) (stQ (args := [.agg #[vN X, vN Y, vN Z, vS 9 0], .agg #[vN X, vN Y, vN Z, vS 14 0]]) rfl (by kernel_rfl) (Any.lay0 [9, 14] (eqHeapB ((X : Nat) : Int) ((Y : Nat) : Int) ((Z : Nat) : Int) ([] : List A3) (by first | omega | assumption | (simp; done))) ⟨rdF true (flatA3 _ _ _ _) rfl rfl, ⟨rdF true (flatA3 _ _ _ _) rfl rfl, trivial⟩⟩ rfl ⟨clF (flatA3 _ _ _ _), ⟨clF (flatA3 _ _ _ _), trivial⟩⟩ rfl (by first | rfl | simp [mpV, mpA, mpS, mpP, renId, shift]) rfl) rfl (by kernel_rfl) (by kernel_rfl)) (by kernel_rfl) nr0 ?_
      refine segEndW [2, 3, 6, 7, 8, 9, 10, 11, 63] (T1 := (mkT 119 [(2, vP 1 0), (3, vP 2 0), (6, vP 6 0), (7, .bool true), (8, vP 8 0), (9, vP 10 0), (10, vP 12 0), (11, .bool true), (63, .bool false)])) (H1 := [some ⟨a3s L1, 25, false, false⟩, rB [vN X, vN Y, vN Z, vS 0 L1.length] 24, rB [vN X, vN Y, vN Z, .slice none 0 0] 24, some ⟨a3s L1, 25, false, true⟩, some ⟨[], 25, false, true⟩, some ⟨a3s R, 25, false, true⟩, rB [vN X, vN Y, vN Z, vS 5 R.length] 29, some ⟨a3s L1, 25, false, true⟩, rB [vN X, vN Y, vN Z, vS 7 L1.length] 29, some ⟨[], 25, false, true⟩, rB [vN X, vN Y, vN Z, vS 9 0] 29, some ⟨a3s R, 25, false, true⟩, rB [vN X, vN Y, vN Z, vS 11 R.length] 29, some ⟨a3s L1, 25, false, true⟩, some ⟨[], 25, false, true⟩]) (by kernel_rfl) ?_
      refine kSeq ?_
      refine cFalse (by kernel_rfl) ?_
      refine cSkip ?_
      refine kSeq ?_
      refine cSeq ?_
      refine cReg ?_
      refine segEndH [2, 3, 6, 7, 8, 9, 10, 11, 12] (T1 := (mkT 119 [(2, vP 1 0), (3, vP 2 0), (6, vP 6 0), (7, .bool true), (8, vP 8 0), (9, vP 10 0), (10, vP 12 0), (11, .bool true), (12, vI 1)])) (by kernel_rfl) ?_
      refine kSeq ?_
      refine cSeq ?_
      refine cReg ?_
      refine segH 2 (T1 := (mkT 119 [(2, vP 1 0), (3, vP 2 0), (6, vP 6 0), (7, .bool true), (8, vP 8 0), (9, vP 10 0), (10, vP 12 0), (11, .bool true), (12, vI 1), (64, .agg #[vN X, vN Y, vN Z, vS 7 L1.length]), (65, vI 1)])) (by kernel_rfl) ?_
      refine rCall (v := vN (1 + 3 * L1.length)) (args := [.agg #[vN X, vN Y, vN Z, vS 7 L1.length], vI 1]) (by kernel_rfl) rfl (by kernel_rfl) (Sound.emb_set (r := ⟨a3s L1, 25, false, true⟩) (r' := ⟨a3s (mk3 1 L1.length), 25, false, true⟩) 7 (markHeapB ((X : Nat) : Int) ((Y : Nat) : Int) ((Z : Nat) : Int) L1 1 (by first | omega | assumption | (simp; done)) (by first | assumption | omega | rfl | decide | exact HeapL.list _ _ _ _ | exact HeapL.nil _ _ _ | exact HeapL.all _ _ _ | (apply HeapL.lt64 <;> assumption) | (repeat' (first | assumption | apply or_lt64 | apply and_lt64 | apply andn_lt64 | apply pow_lt64 | (apply HeapL.lt64 <;> assumption))))) (flatA3 _ _ _ _) rfl (flatA3 _ _ _ _) rfl rfl rfl (by first | rfl | simp [mpV, mpA, mpS, mpP, renId, shift]) rfl) ?_
      refine segEnd [2, 3, 6, 7, 9, 10, 11, 12] (T1 := (mkT 119 [(2, vP 1 0), (3, vP 2 0), (6, vP 6 0), (7, .bool true), (9, vP 10 0), (10, vP 12 0), (11, .bool true), (12, vN (1 + 3 * L1.length))])) (H1 := [some ⟨a3s L1, 25, false, false⟩, rB [vN X, vN Y, vN Z, vS 0 L1.length] 24, rB [vN X, vN Y, vN Z, .slice none 0 0] 24, some ⟨a3s L1, 25, false, true⟩, some ⟨[], 25, false, true⟩, some ⟨a3s R, 25, false, true⟩, rB [vN X, vN Y, vN Z, vS 5 R.length] 29, some ⟨a3s (mk3 1 L1.length), 25, false, true⟩, rB [vN X, vN Y, vN Z, vS 7 L1.length] 29, some ⟨[], 25, false, true⟩, rB [vN X, vN Y, vN Z, vS 9 0] 29, some ⟨a3s R, 25, false, true⟩, rB [vN X, vN Y, vN Z, vS 11 R.length] 29, some ⟨a3s L1, 25, false, true⟩, some ⟨[], 25, false, true⟩]) (by kernel_rfl) ?_
      refine kSeq ?_
      refine cSeq ?_
      refine cReg ?_
      refine segH 2 (T1 := (mkT 119 [(2, vP 1 0), (3, vP 2 0), (6, vP 6 0), (7, .bool true), (9, vP 10 0), (10, vP 12 0), (11, .bool true), (12, vN (1 + 3 * L1.length)), (67, .agg #[vN X, vN Y, vN Z, vS 9 0]), (68, vN (1 + 3 * L1.length))])) (by kernel_rfl) ?_
      refine rCall (v := vN ((1 + 3 * L1.length) + 3 * ([] : List A3).length)) (args := [.agg #[vN X, vN Y, vN Z, vS 9 0], vN (1 + 3 * L1.length)]) (by kernel_rfl) rfl (by kernel_rfl) (Sound.emb_set (r := ⟨a3s ([] : List A3), 25, false, true⟩) (r' := ⟨a3s (mk3 (1 + 3 * L1.length) ([] : List A3).length), 25, false, true⟩) 9 (markHeapB ((X : Nat) : Int) ((Y : Nat) : Int) ((Z : Nat) : Int) ([] : List A3) (1 + 3 * L1.length) (by first | omega | assumption | (simp; done)) (by first | assumption | omega | rfl | decide | exact HeapL.list _ _ _ _ | exact HeapL.nil _ _ _ | exact HeapL.all _ _ _ | (apply HeapL.lt64 <;> assumption) | (repeat' (first | assumption | apply or_lt64 | apply and_lt64 | apply andn_lt64 | apply pow_lt64 | (apply HeapL.lt64 <;> assumption))))) (flatA3 _ _ _ _) rfl (flatA3 _ _ _ _) rfl rfl rfl (by first | rfl | simp [mpV, mpA, mpS, mpP, renId, shift]) rfl) ?_
      refine segEnd [2, 3, 6, 7, 10, 11, 12] (T1 := (mkT 119 [(2, vP 1 0), (3, vP 2 0), (6, vP 6 0), (7, .bool true), (10, vP 12 0), (11, .bool true), (12, vN ((1 + 3 * L1.length) + 3 * ([] : List A3).length))])) (H1 := [some ⟨a3s L1, 25, false, false⟩, rB [vN X, vN Y, vN Z, vS 0 L1.length] 24, rB [vN X, vN Y, vN Z, .slice none 0 0] 24, some ⟨a3s L1, 25, false, true⟩, some ⟨[], 25, false, true⟩, some ⟨a3s R, 25, false, true⟩, rB [vN X, vN Y, vN Z, vS 5 R.length] 29, some ⟨a3s (mk3 1 L1.length), 25, false, true⟩, rB [vN X, vN Y, vN Z, vS 7 L1.length] 29, some ⟨a3s (mk3 (1 + 3 * L1.length) ([] : List A3).length), 25, false, true⟩, rB [vN X, vN Y, vN Z, vS 9 0] 29, some ⟨a3s R, 25, false, true⟩, rB [vN X, vN Y, vN Z, vS 11 R.length] 29, some ⟨a3s L1, 25, false, true⟩, some ⟨[], 25, false, true⟩]) (by kernel_rfl) ?_
      refine kSeq ?_
      refine cSeq ?_
      refine cSeq ?_
      refine cReg ?_
      refine segH 3 (T1 := (mkT 119 [(2, vP 1 0), (3, vP 2 0), (6, vP 6 0), (7, .bool true), (10, vP 12 0), (11, .bool true), (12, vN ((1 + 3 * L1.length) + 3 * ([] : List A3).length)), (70, vN ((1 + 3 * L1.length) + 3 * ([] : List A3).length)), (71, .bool (decide ((((1 + 3 * L1.length) + 3 * ([] : List A3).length : Nat) : Int) < 0))), (72, .bool (decide ((((1 + 3 * L1.length) + 3 * ([] : List A3).length : Nat) : Int) < 0)))])) (by kernel_rfl) ?_
      cases h3 : (decide ((((1 + 3 * L1.length) + 3 * ([] : List A3).length : Nat) : Int) < 0) : Bool)
      ·
        (try simp only [Bool.not_eq_true', Bool.not_eq_false', decide_eq_true_eq, decide_eq_false_iff_not, beq_iff_eq, bne_iff_ne, beq_eq_false_iff_ne, bne_eq_false_iff_eq, ne_eq, Decidable.not_not, Bool.and_eq_true, Bool.and_eq_false_imp, Bool.or_eq_true, Bool.or_eq_false_iff, Bool.not_eq_true, Int.not_lt, Int.not_le, ge_iff_le, gt_iff_lt] at h3)
        refine seg 2 (T1 := (mkT 119 [(2, vP 1 0), (3, vP 2 0), (6, vP 6 0), (7, .bool true), (10, vP 12 0), (11, .bool true), (12, vN ((1 + 3 * L1.length) + 3 * ([] : List A3).length)), (70, vN ((1 + 3 * L1.length) + 3 * ([] : List A3).length)), (71, .bool false), (72, .bool false), (73, .agg #[vN X, vN Y, vN Z, vS 11 R.length]), (74, .agg #[vN X, vN Y, vN Z, vS 5 R.length])])) (H1 := [some ⟨a3s L1, 25, false, false⟩, rB [vN X, vN Y, vN Z, vS 0 L1.length] 24, rB [vN X, vN Y, vN Z, .slice none 0 0] 24, some ⟨a3s L1, 25, false, true⟩, some ⟨[], 25, false, true⟩, some ⟨a3s R, 25, false, true⟩, rB [vN X, vN Y, vN Z, vS 5 R.length] 29, some ⟨a3s (mk3 1 L1.length), 25, false, true⟩, rB [vN X, vN Y, vN Z, vS 7 L1.length] 29, some ⟨a3s (mk3 (1 + 3 * L1.length) ([] : List A3).length), 25, false, true⟩, rB [vN X, vN Y, vN Z, vS 9 0] 29, some ⟨a3s R, 25, false, true⟩, rB [vN X, vN Y, vN Z, vS 11 R.length] 29, some ⟨a3s L1, 25, false, true⟩, some ⟨[], 25, false, true⟩]) (by kernel_rfl) ?_
        refine rCall (v := .bool true) (args := [.agg #[vN X, vN Y, vN Z, vS 11 R.length], .agg #[vN X, vN Y, vN Z, vS 5 R.length]]) (by kernel_rfl) rfl (by kernel_rfl) (Sound.lay0 [11, 5] (eqHeapB ((X : Nat) : Int) ((Y : Nat) : Int) ((Z : Nat) : Int) R (by first | omega | assumption | (simp; done))) ⟨rdF true (flatA3 _ _ _ _) rfl rfl, ⟨rdF true (flatA3 _ _ _ _) rfl rfl, trivial⟩⟩ rfl ⟨clF (flatA3 _ _ _ _), ⟨clF (flatA3 _ _ _ _), trivial⟩⟩ rfl (by first | rfl | simp [mpV, mpA, mpS, mpP, renId, shift]) rfl) ?_
        refine segEnd [2, 3, 6, 7, 10, 82] (T1 := (mkT 119 [(2, vP 1 0), (3, vP 2 0), (6, vP 6 0), (7, .bool true), (10, vP 12 0), (82, .bool false)])) (H1 := [some ⟨a3s L1, 25, false, false⟩, rB [vN X, vN Y, vN Z, vS 0 L1.length] 24, rB [vN X, vN Y, vN Z, .slice none 0 0] 24, some ⟨a3s L1, 25, false, true⟩, some ⟨[], 25, false, true⟩, some ⟨a3s R, 25, false, true⟩, rB [vN X, vN Y, vN Z, vS 5 R.length] 29, some ⟨a3s (mk3 1 L1.length), 25, false, true⟩, rB [vN X, vN Y, vN Z, vS 7 L1.length] 29, some ⟨a3s (mk3 (1 + 3 * L1.length) ([] : List A3).length), 25, false, true⟩, rB [vN X, vN Y, vN Z, vS 9 0] 29, some ⟨a3s R, 25, false, true⟩, rB [vN X, vN Y, vN Z, vS 11 R.length] 29, some ⟨a3s L1, 25, false, true⟩, some ⟨[], 25, false, true⟩]) (by kernel_rfl) ?_
        refine kSeq ?_
        refine cFalse (by kernel_rfl) ?_
        refine cSkip ?_
        refine kSeq ?_
        refine cSeq ?_
        refine cReg ?_
        refine segEndH [2, 3, 6, 7, 10, 13] (T1 := (mkT 119 [(2, vP 1 0), (3, vP 2 0), (6, vP 6 0), (7, .bool true), (10, vP 12 0), (13, vI 1)])) (by kernel_rfl) ?_
        refine kSeq ?_
        refine cSeq ?_
        refine cReg ?_
        refine segH 2 (T1 := (mkT 119 [(2, vP 1 0), (3, vP 2 0), (6, vP 6 0), (7, .bool true), (10, vP 12 0), (13, vI 1), (83, .agg #[vN X, vN Y, vN Z, vS 11 R.length]), (84, vI 1)])) (by kernel_rfl) ?_
        refine rCall (v := vN (1 + 3 * R.length)) (args := [.agg #[vN X, vN Y, vN Z, vS 11 R.length], vI 1]) (by kernel_rfl) rfl (by kernel_rfl) (Sound.emb_set (r := ⟨a3s R, 25, false, true⟩) (r' := ⟨a3s (mk3 1 R.length), 25, false, true⟩) 11 (markHeapB ((X : Nat) : Int) ((Y : Nat) : Int) ((Z : Nat) : Int) R 1 (by first | omega | assumption | (simp; done)) (by first | assumption | omega | rfl | decide | exact HeapL.list _ _ _ _ | exact HeapL.nil _ _ _ | exact HeapL.all _ _ _ | (apply HeapL.lt64 <;> assumption) | (repeat' (first | assumption | apply or_lt64 | apply and_lt64 | apply andn_lt64 | apply pow_lt64 | (apply HeapL.lt64 <;> assumption))))) (flatA3 _ _ _ _) rfl (flatA3 _ _ _ _) rfl rfl rfl (by first | rfl | simp [mpV, mpA, mpS, mpP, renId, shift]) rfl) ?_
        refine segEnd [2, 3, 6, 7, 10, 13] (T1 := (mkT 119 [(2, vP 1 0), (3, vP 2 0), (6, vP 6 0), (7, .bool true), (10, vP 12 0), (13, vN (1 + 3 * R.length))])) (H1 := [some ⟨a3s L1, 25, false, false⟩, rB [vN X, vN Y, vN Z, vS 0 L1.length] 24, rB [vN X, vN Y, vN Z, .slice none 0 0] 24, some ⟨a3s L1, 25, false, true⟩, some ⟨[], 25, false, true⟩, some ⟨a3s R, 25, false, true⟩, rB [vN X, vN Y, vN Z, vS 5 R.length] 29, some ⟨a3s (mk3 1 L1.length), 25, false, true⟩, rB [vN X, vN Y, vN Z, vS 7 L1.length] 29, some ⟨a3s (mk3 (1 + 3 * L1.length) ([] : List A3).length), 25, false, true⟩, rB [vN X, vN Y, vN Z, vS 9 0] 29, some ⟨a3s (mk3 1 R.length), 25, false, true⟩, rB [vN X, vN Y, vN Z, vS 11 R.length] 29, some ⟨a3s L1, 25, false, true⟩, some ⟨[], 25, false, true⟩]) (by kernel_rfl) ?_
        refine kSeq ?_
        refine cSeq ?_
        refine cReg ?_
        refine segEndH [2, 3, 6, 7, 10, 13, 14] (T1 := (mkT 119 [(2, vP 1 0), (3, vP 2 0), (6, vP 6 0), (7, .bool true), (10, vP 12 0), (13, vN (1 + 3 * R.length)), (14, vI 1)])) (by kernel_rfl) ?_
        refine kSeq ?_
        refine cSeq ?_
        refine cReg ?_
        refine segH 2 (T1 := (mkT 119 [(2, vP 1 0), (3, vP 2 0), (6, vP 6 0), (7, .bool true), (10, vP 12 0), (13, vN (1 + 3 * R.length)), (14, vI 1), (86, .agg #[vN X, vN Y, vN Z, vS 11 R.length]), (87, vI 1)])) (by kernel_rfl) ?_
        refine rCall (v := vN (1 + 3 * R.length)) (args := [.agg #[vN X, vN Y, vN Z, vS 11 R.length], vI 1]) (by kernel_rfl) rfl (by kernel_rfl) (Sound.lay0 [11] (heldHeapB ((X : Nat) : Int) ((Y : Nat) : Int) ((Z : Nat) : Int) 1 R.length (by first | omega | assumption | (simp; done)) (by first | assumption | omega | rfl | decide | exact HeapL.list _ _ _ _ | exact HeapL.nil _ _ _ | exact HeapL.all _ _ _ | (apply HeapL.lt64 <;> assumption) | (repeat' (first | assumption | apply or_lt64 | apply and_lt64 | apply andn_lt64 | apply pow_lt64 | (apply HeapL.lt64 <;> assumption))))) ⟨rdF true (flatA3 _ _ _ _) rfl rfl, trivial⟩ rfl ⟨clF (flatA3 _ _ _ _), trivial⟩ rfl (by first | rfl | simp [mpV, mpA, mpS, mpP, renId, shift]) rfl) ?_
        refine segEndH [2, 3, 6, 7, 10, 13, 14] (T1 := (mkT 119 [(2, vP 1 0), (3, vP 2 0), (6, vP 6 0), (7, .bool true), (10, vP 12 0), (13, vN (1 + 3 * R.length)), (14, vN (1 + 3 * R.length))])) (by kernel_rfl) ?_
        refine kSeq ?_
        refine cSeq ?_
        refine cSeq ?_
        refine cReg ?_
        refine segEndH [2, 3, 6, 7, 10, 13, 14, 90] (T1 := (mkT 119 [(2, vP 1 0), (3, vP 2 0), (6, vP 6 0), (7, .bool true), (10, vP 12 0), (13, vN (1 + 3 * R.length)), (14, vN (1 + 3 * R.length)), (90, .bool (decide (((1 + 3 * R.length : Nat) : Int) < 0)))])) (by kernel_rfl) ?_
        refine kSeq ?_
        cases h4 : (decide (((1 + 3 * R.length : Nat) : Int) < 0) : Bool)
        ·
          (try simp only [Bool.not_eq_true', Bool.not_eq_false', decide_eq_true_eq, decide_eq_false_iff_not, beq_iff_eq, bne_iff_ne, beq_eq_false_iff_ne, bne_eq_false_iff_eq, ne_eq, Decidable.not_not, Bool.and_eq_true, Bool.and_eq_false_imp, Bool.or_eq_true, Bool.or_eq_false_iff, Bool.not_eq_true, Int.not_lt, Int.not_le, ge_iff_le, gt_iff_lt] at h4)
          refine cFalse (by kernel_rfl) ?_
          refine cSkip ?_
          refine kSeq ?_
          refine cSeq ?_
          refine cSeq ?_
          refine cReg ?_
          refine segH 2 (T1 := (mkT 119 [(2, vP 1 0), (3, vP 2 0), (6, vP 6 0), (7, .bool true), (10, vP 12 0), (13, vN (1 + 3 * R.length)), (14, vN (1 + 3 * R.length)), (90, .bool false), (91, vN (1 + 3 * R.length)), (92, vN (1 + 3 * R.length))])) (by kernel_rfl) ?_
          refine rOp (v := .bool false) (by kernel_rfl) (eNeS (k := .i64) (a := ((1 + 3 * R.length : Nat) : Int)) (by kernel_rfl) (by kernel_rfl)) ?_
          refine segEndH [2, 3, 6, 7, 10, 13, 93] (T1 := (mkT 119 [(2, vP 1 0), (3, vP 2 0), (6, vP 6 0), (7, .bool true), (10, vP 12 0), (13, vN (1 + 3 * R.length)), (93, .bool false)])) (by kernel_rfl) ?_
          refine kSeq ?_
          refine cFalse (by kernel_rfl) ?_
          refine cSkip ?_
          refine kSeq ?_
          refine cSeq ?_
          refine cRegW (N := 19) [⟨[], [], [1]⟩, ⟨[15], [], [0]⟩, ⟨[], [], [2]⟩, ⟨[16], [], []⟩, ⟨[17], [], [15, 16]⟩, ⟨[], [], []⟩, ⟨[], [], []⟩, ⟨[], [], []⟩, ⟨[18], [], []⟩, ⟨[], [18], []⟩, ⟨[], [], []⟩] 4 [15, 16, 17, 18] (by rfl) (by rfl) (by kernel_rfl) (by kernel_rfl) (by kernel_rfl) ⟨nmsF (flatA3 _ _ _ _), ⟨nmsX (by kernel_rfl), ⟨nmsX (by kernel_rfl), ⟨nmsF (flatA3 _ _ _ _), ⟨nmsX (by kernel_rfl), ⟨nmsF (flatA3 _ _ _ _), ⟨nmsX (by kernel_rfl), ⟨nmsF (flatA3 _ _ _ _), ⟨nmsX (by kernel_rfl), ⟨nmsF (flatA3 _ _ _ _), ⟨nmsX (by kernel_rfl), ⟨nmsF (flatA3 _ _ _ _), ⟨nmsX (by kernel_rfl), ⟨nmsF (flatA3 _ _ _ _), ⟨nmsX (by kernel_rfl), trivial⟩⟩⟩⟩⟩⟩⟩⟩⟩⟩⟩⟩⟩⟩⟩ ?_
          refine segWH 1 (T1 := (mkT 119 [(2, vP 1 0), (3, vP 2 0), (6, vP 6 0), (7, .bool true), (10, vP 12 0), (13, vN (1 + 3 * R.length)), (93, .bool false), (95, .agg #[vN X, vN Y, vN Z, vS 0 L1.length])])) (by kernel_rfl) ?_
          refine rW (m := ⟨[15], [], [0]⟩) (v := .agg #[vN X, vN Y, vN Z, vS 15 L1.length]) rfl (by kernel_rfl) (stN (i := 15) (E := [some ⟨a3s L1, 25, false, true⟩]) (v1 := .agg #[vN X, vN Y, vN Z, vS 19 L1.length]) (args := [.agg #[vN X, vN Y, vN Z, vS 0 L1.length]]) rfl (by kernel_rfl) (Any.lay [0] (toHeapB ((X : Nat) : Int) ((Y : Nat) : Int) ((Z : Nat) : Int) L1 (by first | omega | assumption | (simp; done))) ⟨rdF false (flatA3 _ _ _ _) rfl rfl, trivial⟩ rfl ⟨clF (flatA3 _ _ _ _), trivial⟩ rfl (by first | rfl | simp [mpV, mpA, mpS, mpP, renId, shift]) (by first | rfl | simp [mpV, mpA, mpS, mpP, renId, shift]) ⟨enF (flatA3 _ _ _ _) (Or.inl rfl), trivial⟩) rfl (by kernel_rfl) (by kernel_rfl) (by kernel_rfl) (by kernel_rfl) (FlatH.cons (flatA3 _ _ _ _) FlatH.nil)) (by kernel_rfl) (NRs.all ⟨nrOf (by rfl) (nmF (flatA3 _ _ _ _)), trivial⟩) ?_
          refine segWH 1 (T1 := (mkT 119 [(2, vP 1 0), (3, vP 2 0), (6, vP 6 0), (7, .bool true), (10, vP 12 0), (13, vN (1 + 3 * R.length)), (93, .bool false), (95, .agg #[vN X, vN Y, vN Z, vS 0 L1.length]), (96, .agg #[vN X, vN Y, vN Z, vS 15 L1.length]), (97, .agg #[vN X, vN Y, vN Z, .slice none 0 0])])) (by kernel_rfl) ?_
          refine rW (m := ⟨[16], [], []⟩) (v := .agg #[vN X, vN Y, vN Z, vS 16 0]) rfl (by kernel_rfl) (stN (i := 16) (E := [some ⟨[], 25, false, true⟩]) (v1 := .agg #[vN X, vN Y, vN Z, vS 19 0]) (args := [.agg #[vN X, vN Y, vN Z, .slice none 0 0]]) rfl (by kernel_rfl) (Any.lay [] (toHeapN ((X : Nat) : Int) ((Y : Nat) : Int) ((Z : Nat) : Int)) trivial rfl trivial rfl (by first | rfl | simp [mpV, mpA, mpS, mpP, renId, shift]) (by first | rfl | simp [mpV, mpA, mpS, mpP, renId, shift]) ⟨enX rfl (Or.inl rfl), trivial⟩) rfl (by kernel_rfl) (by kernel_rfl) (by kernel_rfl) (by kernel_rfl) (FlatH.cons (flatRow_of rfl) FlatH.nil)) (by kernel_rfl) (NRs.all ⟨nrOf (by rfl) (nmX (by kernel_rfl)), trivial⟩) ?_
          refine rW (m := ⟨[17], [], [15, 16]⟩) (v := .tuple #[.agg #[vN X, vN Y, vN Z, vS 17 R.length], .bool true]) rfl (by kernel_rfl) (stN (i := 17) (E := [some ⟨a3s R, 25, false, true⟩]) (v1 := .tuple #[.agg #[vN X, vN Y, vN Z, vS 19 R.length], .bool true]) (args := [.agg #[vN X, vN Y, vN Z, vS 15 L1.length], .agg #[vN X, vN Y, vN Z, vS 16 0]]) rfl (by kernel_rfl) (Any.lay [15, 16] (implJoinHeaps_yesR X Y Z L1 ([] : List A3) R (by first | assumption | omega | rfl | decide | exact HeapL.list _ _ _ _ | exact HeapL.nil _ _ _ | exact HeapL.all _ _ _ | (apply HeapL.lt64 <;> assumption) | (repeat' (first | assumption | apply or_lt64 | apply and_lt64 | apply andn_lt64 | apply pow_lt64 | (apply HeapL.lt64 <;> assumption)))) (by first | assumption | omega | rfl | decide | exact HeapL.list _ _ _ _ | exact HeapL.nil _ _ _ | exact HeapL.all _ _ _ | (apply HeapL.lt64 <;> assumption) | (repeat' (first | assumption | apply or_lt64 | apply and_lt64 | apply andn_lt64 | apply pow_lt64 | (apply HeapL.lt64 <;> assumption)))) (by first | assumption | omega | rfl | decide | exact HeapL.list _ _ _ _ | exact HeapL.nil _ _ _ | exact HeapL.all _ _ _ | (apply HeapL.lt64 <;> assumption) | (repeat' (first | assumption | apply or_lt64 | apply and_lt64 | apply andn_lt64 | apply pow_lt64 | (apply HeapL.lt64 <;> assumption)))) (by first | assumption | omega | rfl | decide | exact HeapL.list _ _ _ _ | exact HeapL.nil _ _ _ | exact HeapL.all _ _ _ | (apply HeapL.lt64 <;> assumption) | (repeat' (first | assumption | apply or_lt64 | apply and_lt64 | apply andn_lt64 | apply pow_lt64 | (apply HeapL.lt64 <;> assumption))))) ⟨rdF true (flatA3 _ _ _ _) rfl rfl, ⟨rdF true (flatA3 _ _ _ _) rfl rfl, trivial⟩⟩ rfl ⟨clF (flatA3 _ _ _ _), ⟨clF (flatA3 _ _ _ _), trivial⟩⟩ rfl (by first | rfl | simp [mpV, mpA, mpS, mpP, renId, shift]) (by first | rfl | simp [mpV, mpA, mpS, mpP, renId, shift]) ⟨enF (flatA3 _ _ _ _) (Or.inl rfl), trivial⟩) rfl (by kernel_rfl) (by kernel_rfl) (by kernel_rfl) (by kernel_rfl) (FlatH.cons (flatA3 _ _ _ _) FlatH.nil)) (by kernel_rfl) (NRs.all ⟨nrOf (by rfl) (nmF (flatA3 _ _ _ _)), trivial⟩) ?_
          refine segWH 3 (T1 := (mkT 119 [(2, vP 1 0), (3, vP 2 0), (6, vP 6 0), (7, .bool true), (10, vP 12 0), (13, vN (1 + 3 * R.length)), (93, .bool false), (94, .tuple #[.agg #[vN X, vN Y, vN Z, vS 17 R.length], .bool true]), (95, .agg #[vN X, vN Y, vN Z, vS 0 L1.length]), (96, .agg #[vN X, vN Y, vN Z, vS 15 L1.length]), (97, .agg #[vN X, vN Y, vN Z, .slice none 0 0]), (98, .agg #[vN X, vN Y, vN Z, vS 16 0]), (99, .tuple #[.agg #[vN X, vN Y, vN Z, vS 17 R.length], .bool true]), (100, .agg #[vN X, vN Y, vN Z, vS 17 R.length]), (101, .bool true)])) (by kernel_rfl) ?_
          refine rW (m := ⟨[18], [], []⟩) (v := vP 18 0) rfl (by kernel_rfl) (stNew (i := 18) (v1 := vP 19 0) (r := ⟨[vI 0, vI 0, vI 0, .slice none 0 0], 29, true, true⟩) (by kernel_rfl) rfl (by kernel_rfl) (by kernel_rfl) (by kernel_rfl) (by kernel_rfl) (nmX (by kernel_rfl)) (clX (by kernel_rfl))) (by kernel_rfl) (NRs.all ⟨nrOf (by rfl) (nmX (by kernel_rfl)), trivial⟩) ?_
          refine rW (m := ⟨[], [18], []⟩) (v := .tuple #[]) rfl (by kernel_rfl) (stSet (b := 18) (r := ⟨[vN X, vN Y, vN Z, vS 17 R.length], 29, true, true⟩) (by kernel_rfl) rfl (by kernel_rfl) (by kernel_rfl) (by kernel_rfl) (by kernel_rfl) (nmX (by kernel_rfl)) (clX (by kernel_rfl))) (by kernel_rfl) (NRs.all ⟨nrOf (by rfl) (nmX (by kernel_rfl)), trivial⟩) ?_
          refine segEndW [6, 7, 10, 13, 15, 16] (T1 := (mkT 119 [(6, vP 6 0), (7, .bool true), (10, vP 12 0), (13, vN (1 + 3 * R.length)), (15, vP 18 0), (16, .bool true)])) (H1 := [some ⟨a3s L1, 25, false, false⟩, rB [vN X, vN Y, vN Z, vS 0 L1.length] 24, rB [vN X, vN Y, vN Z, .slice none 0 0] 24, some ⟨a3s L1, 25, false, true⟩, some ⟨[], 25, false, true⟩, some ⟨a3s R, 25, false, true⟩, rB [vN X, vN Y, vN Z, vS 5 R.length] 29, some ⟨a3s (mk3 1 L1.length), 25, false, true⟩, rB [vN X, vN Y, vN Z, vS 7 L1.length] 29, some ⟨a3s (mk3 (1 + 3 * L1.length) ([] : List A3).length), 25, false, true⟩, rB [vN X, vN Y, vN Z, vS 9 0] 29, some ⟨a3s (mk3 1 R.length), 25, false, true⟩, rB [vN X, vN Y, vN Z, vS 11 R.length] 29, some ⟨a3s L1, 25, false, true⟩, some ⟨[], 25, false, true⟩, some ⟨a3s L1, 25, false, true⟩, some ⟨[], 25, false, true⟩, some ⟨a3s R, 25, false, true⟩, rB [vN X, vN Y, vN Z, vS 17 R.length] 29]) (by kernel_rfl) ?_
          refine kSeq ?_
          refine cSeq ?_
          refine cSeq ?_
          refine cReg ?_
          refine segH 2 (T1 := (mkT 119 [(6, vP 6 0), (7, .bool true), (10, vP 12 0), (13, vN (1 + 3 * R.length)), (15, vP 18 0), (16, .bool true), (102, .agg #[vN X, vN Y, vN Z, vS 17 R.length]), (103, .agg #[vN X, vN Y, vN Z, vS 5 R.length])])) (by kernel_rfl) ?_
          refine rCall (v := .bool true) (args := [.agg #[vN X, vN Y, vN Z, vS 17 R.length], .agg #[vN X, vN Y, vN Z, vS 5 R.length]]) (by kernel_rfl) rfl (by kernel_rfl) (Sound.lay0 [17, 5] (eqHeapB ((X : Nat) : Int) ((Y : Nat) : Int) ((Z : Nat) : Int) R (by first | omega | assumption | (simp; done))) ⟨rdF true (flatA3 _ _ _ _) rfl rfl, ⟨rdF true (flatA3 _ _ _ _) rfl rfl, trivial⟩⟩ rfl ⟨clF (flatA3 _ _ _ _), ⟨clF (flatA3 _ _ _ _), trivial⟩⟩ rfl (by first | rfl | simp [mpV, mpA, mpS, mpP, renId, shift]) rfl) ?_
          refine segEndH [10, 13, 110] (T1 := (mkT 119 [(10, vP 12 0), (13, vN (1 + 3 * R.length)), (110, .bool false)])) (by kernel_rfl) ?_
          refine kSeq ?_
          refine cFalse (by kernel_rfl) ?_
          refine cSkip ?_
          refine kSeq ?_
          refine cSeq ?_
          refine cReg ?_
          refine segEndH [10, 13, 14] (T1 := (mkT 119 [(10, vP 12 0), (13, vN (1 + 3 * R.length)), (14, vI 1)])) (by kernel_rfl) ?_
          refine kSeq ?_
          refine cSeq ?_
          refine cReg ?_
          refine segH 2 (T1 := (mkT 119 [(10, vP 12 0), (13, vN (1 + 3 * R.length)), (14, vI 1), (111, .agg #[vN X, vN Y, vN Z, vS 11 R.length]), (112, vI 1)])) (by kernel_rfl) ?_
          refine rCall (v := vN (1 + 3 * R.length)) (args := [.agg #[vN X, vN Y, vN Z, vS 11 R.length], vI 1]) (by kernel_rfl) rfl (by kernel_rfl) (Sound.lay0 [11] (heldHeapB ((X : Nat) : Int) ((Y : Nat) : Int) ((Z : Nat) : Int) 1 R.length (by first | omega | assumption | (simp; done)) (by first | assumption | omega | rfl | decide | exact HeapL.list _ _ _ _ | exact HeapL.nil _ _ _ | exact HeapL.all _ _ _ | (apply HeapL.lt64 <;> assumption) | (repeat' (first | assumption | apply or_lt64 | apply and_lt64 | apply andn_lt64 | apply pow_lt64 | (apply HeapL.lt64 <;> assumption))))) ⟨rdF true (flatA3 _ _ _ _) rfl rfl, trivial⟩ rfl ⟨clF (flatA3 _ _ _ _), trivial⟩ rfl (by first | rfl | simp [mpV, mpA, mpS, mpP, renId, shift]) rfl) ?_
          refine segEndH [13, 14] (T1 := (mkT 119 [(13, vN (1 + 3 * R.length)), (14, vN (1 + 3 * R.length))])) (by kernel_rfl) ?_
          refine kSeq ?_
          refine cSeq ?_
          refine cSeq ?_
          refine cReg ?_
          refine segEndH [13, 14, 115] (T1 := (mkT 119 [(13, vN (1 + 3 * R.length)), (14, vN (1 + 3 * R.length)), (115, .bool (decide (((1 + 3 * R.length : Nat) : Int) < 0)))])) (by kernel_rfl) ?_
          refine kSeq ?_
          cases h5 : (decide (((1 + 3 * R.length : Nat) : Int) < 0) : Bool)
          ·
            (try simp only [Bool.not_eq_true', Bool.not_eq_false', decide_eq_true_eq, decide_eq_false_iff_not, beq_iff_eq, bne_iff_ne, beq_eq_false_iff_ne, bne_eq_false_iff_eq, ne_eq, Decidable.not_not, Bool.and_eq_true, Bool.and_eq_false_imp, Bool.or_eq_true, Bool.or_eq_false_iff, Bool.not_eq_true, Int.not_lt, Int.not_le, ge_iff_le, gt_iff_lt] at h5)
            refine cFalse (by kernel_rfl) ?_
            refine cSkip ?_
            refine kSeq ?_
            refine cSeq ?_
            refine cSeq ?_
            refine cReg ?_
            refine segH 2 (T1 := (mkT 119 [(13, vN (1 + 3 * R.length)), (14, vN (1 + 3 * R.length)), (115, .bool false), (116, vN (1 + 3 * R.length)), (117, vN (1 + 3 * R.length))])) (by kernel_rfl) ?_
            refine rOp (v := .bool false) (by kernel_rfl) (eNeS (k := .i64) (a := ((1 + 3 * R.length : Nat) : Int)) (by kernel_rfl) (by kernel_rfl)) ?_
            refine segEndH [118] (T1 := (mkT 119 [(118, .bool false)])) (by kernel_rfl) ?_
            refine kSeq ?_
            refine cFalse (by kernel_rfl) ?_
            refine cSkip ?_
            refine kSeq ?_
            refine cSeq ?_
            refine cReg ?_
            refine segEndH [4] (T1 := (mkT 119 [(4, .bool true)])) (by kernel_rfl) ?_
            refine kSeq ?_
            refine cRet ?_
            -- end
            exact endQ (Or.inr rfl) (l := [.bool true]) [rB [vN X, vN Y, vN Z, vS 0 L1.length] 24, rB [vN X, vN Y, vN Z, .slice none 0 0] 24, some ⟨a3s L1, 25, false, true⟩, some ⟨[], 25, false, true⟩, some ⟨a3s R, 25, false, true⟩, rB [vN X, vN Y, vN Z, vS 5 R.length] 29, some ⟨a3s (mk3 1 L1.length), 25, false, true⟩, rB [vN X, vN Y, vN Z, vS 7 L1.length] 29, some ⟨a3s (mk3 (1 + 3 * L1.length) ([] : List A3).length), 25, false, true⟩, rB [vN X, vN Y, vN Z, vS 9 0] 29, some ⟨a3s (mk3 1 R.length), 25, false, true⟩, rB [vN X, vN Y, vN Z, vS 11 R.length] 29, some ⟨a3s L1, 25, false, true⟩, some ⟨[], 25, false, true⟩, some ⟨a3s L1, 25, false, true⟩, some ⟨[], 25, false, true⟩, some ⟨a3s R, 25, false, true⟩, rB [vN X, vN Y, vN Z, vS 17 R.length] 29] (by kernel_rfl) (by first | rfl | kernel_rfl) rfl rfl hcl rfl
          ·
            (try simp only [Bool.not_eq_true', Bool.not_eq_false', decide_eq_true_eq, decide_eq_false_iff_not, beq_iff_eq, bne_iff_ne, beq_eq_false_iff_ne, bne_eq_false_iff_eq, ne_eq, Decidable.not_not, Bool.and_eq_true, Bool.and_eq_false_imp, Bool.or_eq_true, Bool.or_eq_false_iff, Bool.not_eq_true, Int.not_lt, Int.not_le, ge_iff_le, gt_iff_lt] at h5)
            exfalso; omega
        ·
          (try simp only [Bool.not_eq_true', Bool.not_eq_false', decide_eq_true_eq, decide_eq_false_iff_not, beq_iff_eq, bne_iff_ne, beq_eq_false_iff_ne, bne_eq_false_iff_eq, ne_eq, Decidable.not_not, Bool.and_eq_true, Bool.and_eq_false_imp, Bool.or_eq_true, Bool.or_eq_false_iff, Bool.not_eq_true, Int.not_lt, Int.not_le, ge_iff_le, gt_iff_lt] at h4)
          exfalso; omega
      ·
        (try simp only [Bool.not_eq_true', Bool.not_eq_false', decide_eq_true_eq, decide_eq_false_iff_not, beq_iff_eq, bne_iff_ne, beq_eq_false_iff_ne, bne_eq_false_iff_eq, ne_eq, Decidable.not_not, Bool.and_eq_true, Bool.and_eq_false_imp, Bool.or_eq_true, Bool.or_eq_false_iff, Bool.not_eq_true, Int.not_lt, Int.not_le, ge_iff_le, gt_iff_lt] at h3)
        exfalso; omega
    ·
      (try simp only [Bool.not_eq_true', Bool.not_eq_false', decide_eq_true_eq, decide_eq_false_iff_not, beq_iff_eq, bne_iff_ne, beq_eq_false_iff_ne, bne_eq_false_iff_eq, ne_eq, Decidable.not_not, Bool.and_eq_true, Bool.and_eq_false_imp, Bool.or_eq_true, Bool.or_eq_false_iff, Bool.not_eq_true, Int.not_lt, Int.not_le, ge_iff_le, gt_iff_lt] at h2)
      exfalso; omega
  ·
    (try simp only [Bool.not_eq_true', Bool.not_eq_false', decide_eq_true_eq, decide_eq_false_iff_not, beq_iff_eq, bne_iff_ne, beq_eq_false_iff_ne, bne_eq_false_iff_eq, ne_eq, Decidable.not_not, Bool.and_eq_true, Bool.and_eq_false_imp, Bool.or_eq_true, Bool.or_eq_false_iff, Bool.not_eq_true, Int.not_lt, Int.not_le, ge_iff_le, gt_iff_lt] at h1)
    exfalso; omega

set_option maxRecDepth 100000 in
set_option maxHeartbeats 4000000 in
theorem lawJoinHeaps_yes_ns (X : Nat) (Y : Nat) (Z : Nat) (L2 : List A3) (R : List A3) (hs : Sides X Y Z) (hL2 : HeapL X Y Z L2) (hR : R = listOf X Y Z (setOf Y Z ([] : List A3) ||| setOf Y Z L2)) : Sound Try.prog 8 [.agg #[vN X, vN Y, vN Z, .slice none 0 0], .agg #[vN X, vN Y, vN Z, vS 0 L2.length]] [some ⟨a3s L2, 25, false, false⟩] (.bool true) [some ⟨a3s L2, 25, false, false⟩] := by
  refine sound_intro (C := cx) Try.func8 rfl (by kernel_rfl) fun hcl => ?_
  have hz := hs.size
  have hx0 := hs.x0
  have hx4 := hs.x4
  have hy0 := hs.y0
  have hy4 := hs.y4
  have hz0 := hs.z0
  have hz4 := hs.z4
  have hn1 : ([] : List A3).length ≤ 64 := by first | (have := hL1.len; omega) | simp
  have hn2 : L2.length ≤ 64 := by first | (have := hL2.len; omega) | simp
  have hr : R.length ≤ 64 := by (rw [hR]; have := (HeapL.list X Y Z (setOf Y Z ([] : List A3) ||| setOf Y Z L2)).len; omega)
  refine cSeq ?_
  refine cReg ?_
  refine segEnd [2, 3] (T1 := (mkT 119 [(2, vP 1 0), (3, vP 2 0)])) (H1 := [some ⟨a3s L2, 25, false, false⟩, rB [vN X, vN Y, vN Z, .slice none 0 0] 24, rB [vN X, vN Y, vN Z, vS 0 L2.length] 24]) (by kernel_rfl) ?_
  refine kSeq ?_
  refine cSeq ?_
  refine cReg ?_
  refine segEndH [2, 3, 5] (T1 := (mkT 119 [(2, vP 1 0), (3, vP 2 0), (5, vI 1048576)])) (by kernel_rfl) ?_
  refine kSeq ?_
  refine cSeq ?_
  refine cReg ?_
  refine segH 2 (T1 := (mkT 119 [(2, vP 1 0), (3, vP 2 0), (5, vI 1048576), (17, .agg #[vN X, vN Y, vN Z, .slice none 0 0]), (18, vI 1048576)])) (by kernel_rfl) ?_
  refine rCall (v := vI 1048576) (args := [.agg #[vN X, vN Y, vN Z, .slice none 0 0], vI 1048576]) (by kernel_rfl) rfl (by kernel_rfl) (Sound.lay0 [] (szHeapN ((X : Nat) : Int) ((Y : Nat) : Int) ((Z : Nat) : Int) 1048576 (by first | omega | assumption | decide)) trivial rfl trivial rfl (by first | rfl | simp [mpV, mpA, mpS, mpP, renId, shift]) rfl) ?_
  refine segEndH [2, 3, 5] (T1 := (mkT 119 [(2, vP 1 0), (3, vP 2 0), (5, vI 1048576)])) (by kernel_rfl) ?_
  refine kSeq ?_
  refine cSeq ?_
  refine cSeq ?_
  refine cReg ?_
  refine segEndH [2, 3, 5, 21] (T1 := (mkT 119 [(2, vP 1 0), (3, vP 2 0), (5, vI 1048576), (21, .bool false)])) (by kernel_rfl) ?_
  refine kSeq ?_
  refine cFalse (by kernel_rfl) ?_
  refine cSkip ?_
  refine kSeq ?_
  refine cSeq ?_
  refine cReg ?_
  refine segH 2 (T1 := (mkT 119 [(2, vP 1 0), (3, vP 2 0), (5, vI 1048576), (21, .bool false), (22, .agg #[vN X, vN Y, vN Z, vS 0 L2.length]), (23, vI 1048576)])) (by kernel_rfl) ?_
  refine rCall (v := vN (1048576 - L2.length)) (args := [.agg #[vN X, vN Y, vN Z, vS 0 L2.length], vI 1048576]) (by kernel_rfl) rfl (by kernel_rfl) (Sound.lay0 [0] (szHeapS ((X : Nat) : Int) ((Y : Nat) : Int) ((Z : Nat) : Int) L2 1048576 (by first | omega | assumption | (simp; done)) (by first | omega | assumption | decide)) ⟨rdF false (flatA3 _ _ _ _) rfl rfl, trivial⟩ rfl ⟨clF (flatA3 _ _ _ _), trivial⟩ rfl (by first | rfl | simp [mpV, mpA, mpS, mpP, renId, shift]) rfl) ?_
  refine segEndH [2, 3, 5] (T1 := (mkT 119 [(2, vP 1 0), (3, vP 2 0), (5, vN (1048576 - L2.length))])) (by kernel_rfl) ?_
  refine kSeq ?_
  refine cSeq ?_
  refine cSeq ?_
  refine cReg ?_
  refine segEndH [2, 3, 26] (T1 := (mkT 119 [(2, vP 1 0), (3, vP 2 0), (26, .bool (decide (((1048576 - L2.length : Nat) : Int) < 0)))])) (by kernel_rfl) ?_
  refine kSeq ?_
  cases h1 : (decide (((1048576 - L2.length : Nat) : Int) < 0) : Bool)
  ·
    (try simp only [Bool.not_eq_true', Bool.not_eq_false', decide_eq_true_eq, decide_eq_false_iff_not, beq_iff_eq, bne_iff_ne, beq_eq_false_iff_ne, bne_eq_false_iff_eq, ne_eq, Decidable.not_not, Bool.and_eq_true, Bool.and_eq_false_imp, Bool.or_eq_true, Bool.or_eq_false_iff, Bool.not_eq_true, Int.not_lt, Int.not_le, ge_iff_le, gt_iff_lt] at h1)
    refine cFalse (by kernel_rfl) ?_
    refine cSkip ?_
    refine kSeq ?_
    refine cSeq ?_
    refine cRegW (N := 7) [⟨[], [], [1]⟩, ⟨[3], [], []⟩, ⟨[], [], [2]⟩, ⟨[4], [], [0]⟩, ⟨[5], [], [3, 4]⟩, ⟨[], [], []⟩, ⟨[], [], []⟩, ⟨[], [], []⟩, ⟨[6], [], []⟩, ⟨[], [6], []⟩, ⟨[], [], []⟩] 4 [3, 4, 5, 6] (by rfl) (by rfl) (by kernel_rfl) (by kernel_rfl) (by kernel_rfl) ⟨nmsF (flatA3 _ _ _ _), ⟨nmsX (by kernel_rfl), ⟨nmsX (by kernel_rfl), trivial⟩⟩⟩ ?_
    refine segWH 1 (T1 := (mkT 119 [(2, vP 1 0), (3, vP 2 0), (26, .bool false), (28, .agg #[vN X, vN Y, vN Z, .slice none 0 0])])) (by kernel_rfl) ?_
    refine rW (m := ⟨[3], [], []⟩) (v := .agg #[vN X, vN Y, vN Z, vS 3 0]) rfl (by kernel_rfl) (stN (i := 3) (E := [some ⟨[], 25, false, true⟩]) (v1 := .agg #[vN X, vN Y, vN Z, vS 7 0]) (args := [.agg #[vN X, vN Y, vN Z, .slice none 0 0]]) rfl (by kernel_rfl) (Any.lay [] (toHeapN ((X : Nat) : Int) ((Y : Nat) : Int) ((Z : Nat) : Int)) trivial rfl trivial rfl (by first | rfl | simp [mpV, mpA, mpS, mpP, renId, shift]) (by first | rfl | simp [mpV, mpA, mpS, mpP, renId, shift]) ⟨enX rfl (Or.inl rfl), trivial⟩) rfl (by kernel_rfl) (by kernel_rfl) (by kernel_rfl) (by kernel_rfl) (FlatH.cons (flatRow_of rfl) FlatH.nil)) (by kernel_rfl) (NRs.all ⟨nrOf (by rfl) (nmX (by kernel_rfl)), trivial⟩) ?_
    refine segWH 1 (T1 := (mkT 119 [(2, vP 1 0), (3, vP 2 0), (26, .bool false), (28, .agg #[vN X, vN Y, vN Z, .slice none 0 0]), (29, .agg #[vN X, vN Y, vN Z, vS 3 0]), (30, .agg #[vN X, vN Y, vN Z, vS 0 L2.length])])) (by kernel_rfl) ?_
    refine rW (m := ⟨[4], [], [0]⟩) (v := .agg #[vN X, vN Y, vN Z, vS 4 L2.length]) rfl (by kernel_rfl) (stN (i := 4) (E := [some ⟨a3s L2, 25, false, true⟩]) (v1 := .agg #[vN X, vN Y, vN Z, vS 7 L2.length]) (args := [.agg #[vN X, vN Y, vN Z, vS 0 L2.length]]) rfl (by kernel_rfl) (Any.lay [0] (toHeapB ((X : Nat) : Int) ((Y : Nat) : Int) ((Z : Nat) : Int) L2 (by first | omega | assumption | (simp; done))) ⟨rdF false (flatA3 _ _ _ _) rfl rfl, trivial⟩ rfl ⟨clF (flatA3 _ _ _ _), trivial⟩ rfl (by first | rfl | simp [mpV, mpA, mpS, mpP, renId, shift]) (by first | rfl | simp [mpV, mpA, mpS, mpP, renId, shift]) ⟨enF (flatA3 _ _ _ _) (Or.inl rfl), trivial⟩) rfl (by kernel_rfl) (by kernel_rfl) (by kernel_rfl) (by kernel_rfl) (FlatH.cons (flatA3 _ _ _ _) FlatH.nil)) (by kernel_rfl) (NRs.all ⟨nrOf (by rfl) (nmF (flatA3 _ _ _ _)), trivial⟩) ?_
    refine rW (m := ⟨[5], [], [3, 4]⟩) (v := .tuple #[.agg #[vN X, vN Y, vN Z, vS 5 R.length], .bool true]) rfl (by kernel_rfl) (stN (i := 5) (E := [some ⟨a3s R, 25, false, true⟩]) (v1 := .tuple #[.agg #[vN X, vN Y, vN Z, vS 7 R.length], .bool true]) (args := [.agg #[vN X, vN Y, vN Z, vS 3 0], .agg #[vN X, vN Y, vN Z, vS 4 L2.length]]) rfl (by kernel_rfl) (Any.lay [3, 4] (specJoinHeaps_yesR X Y Z ([] : List A3) L2 R (by first | assumption | omega | rfl | decide | exact HeapL.list _ _ _ _ | exact HeapL.nil _ _ _ | exact HeapL.all _ _ _ | (apply HeapL.lt64 <;> assumption) | (repeat' (first | assumption | apply or_lt64 | apply and_lt64 | apply andn_lt64 | apply pow_lt64 | (apply HeapL.lt64 <;> assumption)))) (by first | assumption | omega | rfl | decide | exact HeapL.list _ _ _ _ | exact HeapL.nil _ _ _ | exact HeapL.all _ _ _ | (apply HeapL.lt64 <;> assumption) | (repeat' (first | assumption | apply or_lt64 | apply and_lt64 | apply andn_lt64 | apply pow_lt64 | (apply HeapL.lt64 <;> assumption)))) (by first | assumption | omega | rfl | decide | exact HeapL.list _ _ _ _ | exact HeapL.nil _ _ _ | exact HeapL.all _ _ _ | (apply HeapL.lt64 <;> assumption) | (repeat' (first | assumption | apply or_lt64 | apply and_lt64 | apply andn_lt64 | apply pow_lt64 | (apply HeapL.lt64 <;> assumption)))) (by first | assumption | omega | rfl | decide | exact HeapL.list _ _ _ _ | exact HeapL.nil _ _ _ | exact HeapL.all _ _ _ | (apply HeapL.lt64 <;> assumption) | (repeat' (first | assumption | apply or_lt64 | apply and_lt64 | apply andn_lt64 | apply pow_lt64 | (apply HeapL.lt64 <;> assumption))))) ⟨rdF true (flatA3 _ _ _ _) rfl rfl, ⟨rdF true (flatA3 _ _ _ _) rfl rfl, trivial⟩⟩ rfl ⟨clF (flatA3 _ _ _ _), ⟨clF (flatA3 _ _ _ _), trivial⟩⟩ rfl (by first | rfl | simp [mpV, mpA, mpS, mpP, renId, shift]) (by first | rfl | simp [mpV, mpA, mpS, mpP, renId, shift]) ⟨enF (flatA3 _ _ _ _) (Or.inl rfl), trivial⟩) rfl (by kernel_rfl) (by kernel_rfl) (by kernel_rfl) (by kernel_rfl) (FlatH.cons (flatA3 _ _ _ _) FlatH.nil)) (by kernel_rfl) (NRs.all ⟨nrOf (by rfl) (nmF (flatA3 _ _ _ _)), trivial⟩) ?_
    refine segWH 3 (T1 := (mkT 119 [(2, vP 1 0), (3, vP 2 0), (26, .bool false), (27, .tuple #[.agg #[vN X, vN Y, vN Z, vS 5 R.length], .bool true]), (28, .agg #[vN X, vN Y, vN Z, .slice none 0 0]), (29, .agg #[vN X, vN Y, vN Z, vS 3 0]), (30, .agg #[vN X, vN Y, vN Z, vS 0 L2.length]), (31, .agg #[vN X, vN Y, vN Z, vS 4 L2.length]), (32, .tuple #[.agg #[vN X, vN Y, vN Z, vS 5 R.length], .bool true]), (33, .agg #[vN X, vN Y, vN Z, vS 5 R.length]), (34, .bool true)])) (by kernel_rfl) ?_
    refine rW (m := ⟨[6], [], []⟩) (v := vP 6 0) rfl (by kernel_rfl) (stNew (i := 6) (v1 := vP 7 0) (r := ⟨[vI 0, vI 0, vI 0, .slice none 0 0], 29, true, true⟩) (by kernel_rfl) rfl (by kernel_rfl) (by kernel_rfl) (by kernel_rfl) (by kernel_rfl) (nmX (by kernel_rfl)) (clX (by kernel_rfl))) (by kernel_rfl) (NRs.all ⟨nrOf (by rfl) (nmX (by kernel_rfl)), trivial⟩) ?_
    refine rW (m := ⟨[], [6], []⟩) (v := .tuple #[]) rfl (by kernel_rfl) (stSet (b := 6) (r := ⟨[vN X, vN Y, vN Z, vS 5 R.length], 29, true, true⟩) (by kernel_rfl) rfl (by kernel_rfl) (by kernel_rfl) (by kernel_rfl) (by kernel_rfl) (nmX (by kernel_rfl)) (clX (by kernel_rfl))) (by kernel_rfl) (NRs.all ⟨nrOf (by rfl) (nmX (by kernel_rfl)), trivial⟩) ?_
    refine segEndW [2, 3, 6, 7] (T1 := (mkT 119 [(2, vP 1 0), (3, vP 2 0), (6, vP 6 0), (7, .bool true)])) (H1 := [some ⟨a3s L2, 25, false, false⟩, rB [vN X, vN Y, vN Z, .slice none 0 0] 24, rB [vN X, vN Y, vN Z, vS 0 L2.length] 24, some ⟨[], 25, false, true⟩, some ⟨a3s L2, 25, false, true⟩, some ⟨a3s R, 25, false, true⟩, rB [vN X, vN Y, vN Z, vS 5 R.length] 29]) (by kernel_rfl) ?_
    refine kSeq ?_
    refine cSeq ?_
    refine cReg ?_
    refine segH 1 (T1 := (mkT 119 [(2, vP 1 0), (3, vP 2 0), (6, vP 6 0), (7, .bool true), (35, .agg #[vN X, vN Y, vN Z, .slice none 0 0])])) (by kernel_rfl) ?_
    refine rCall (v := .agg #[vN X, vN Y, vN Z, vS 7 0]) (args := [.agg #[vN X, vN Y, vN Z, .slice none 0 0]]) (by kernel_rfl) rfl (by kernel_rfl) (Sound.lay (E := [some ⟨[], 25, false, true⟩]) [] (toHeapN ((X : Nat) : Int) ((Y : Nat) : Int) ((Z : Nat) : Int)) trivial rfl trivial rfl (by first | rfl | simp [mpV, mpA, mpS, mpP, renId, shift]) (by first | rfl | simp [mpV, mpA, mpS, mpP, renId, shift]) ⟨enX rfl (Or.inl rfl), trivial⟩) ?_
    refine segEnd [2, 3, 6, 7, 8] (T1 := (mkT 119 [(2, vP 1 0), (3, vP 2 0), (6, vP 6 0), (7, .bool true), (8, vP 8 0)])) (H1 := [some ⟨a3s L2, 25, false, false⟩, rB [vN X, vN Y, vN Z, .slice none 0 0] 24, rB [vN X, vN Y, vN Z, vS 0 L2.length] 24, some ⟨[], 25, false, true⟩, some ⟨a3s L2, 25, false, true⟩, some ⟨a3s R, 25, false, true⟩, rB [vN X, vN Y, vN Z, vS 5 R.length] 29, some ⟨[], 25, false, true⟩, rB [vN X, vN Y, vN Z, vS 7 0] 29]) (by kernel_rfl) ?_
    refine kSeq ?_
    refine cSeq ?_
    refine cReg ?_
    refine segH 1 (T1 := (mkT 119 [(2, vP 1 0), (3, vP 2 0), (6, vP 6 0), (7, .bool true), (8, vP 8 0), (37, .agg #[vN X, vN Y, vN Z, vS 0 L2.length])])) (by kernel_rfl) ?_
    refine rCall (v := .agg #[vN X, vN Y, vN Z, vS 9 L2.length]) (args := [.agg #[vN X, vN Y, vN Z, vS 0 L2.length]]) (by kernel_rfl) rfl (by kernel_rfl) (Sound.lay (E := [some ⟨a3s L2, 25, false, true⟩]) [0] (toHeapB ((X : Nat) : Int) ((Y : Nat) : Int) ((Z : Nat) : Int) L2 (by first | omega | assumption | (simp; done))) ⟨rdF false (flatA3 _ _ _ _) rfl rfl, trivial⟩ rfl ⟨clF (flatA3 _ _ _ _), trivial⟩ rfl (by first | rfl | simp [mpV, mpA, mpS, mpP, renId, shift]) (by first | rfl | simp [mpV, mpA, mpS, mpP, renId, shift]) ⟨enF (flatA3 _ _ _ _) (Or.inl rfl), trivial⟩) ?_
    refine segEnd [2, 3, 6, 7, 8, 9] (T1 := (mkT 119 [(2, vP 1 0), (3, vP 2 0), (6, vP 6 0), (7, .bool true), (8, vP 8 0), (9, vP 10 0)])) (H1 := [some ⟨a3s L2, 25, false, false⟩, rB [vN X, vN Y, vN Z, .slice none 0 0] 24, rB [vN X, vN Y, vN Z, vS 0 L2.length] 24, some ⟨[], 25, false, true⟩, some ⟨a3s L2, 25, false, true⟩, some ⟨a3s R, 25, false, true⟩, rB [vN X, vN Y, vN Z, vS 5 R.length] 29, some ⟨[], 25, false, true⟩, rB [vN X, vN Y, vN Z, vS 7 0] 29, some ⟨a3s L2, 25, false, true⟩, rB [vN X, vN Y, vN Z, vS 9 L2.length] 29]) (by kernel_rfl) ?_
    refine kSeq ?_
    refine cSeq ?_
    refine cReg ?_
    refine segH 2 (T1 := (mkT 119 [(2, vP 1 0), (3, vP 2 0), (6, vP 6 0), (7, .bool true), (8, vP 8 0), (9, vP 10 0), (40, .agg #[vN X, vN Y, vN Z, vS 7 0]), (41, .agg #[vN X, vN Y, vN Z, vS 9 L2.length])])) (by kernel_rfl) ?_
    refine rCall (v := .tuple #[.agg #[vN X, vN Y, vN Z, vS 11 R.length], .bool true]) (args := [.agg #[vN X, vN Y, vN Z, vS 7 0], .agg #[vN X, vN Y, vN Z, vS 9 L2.length]]) (by kernel_rfl) rfl (by kernel_rfl) (Sound.lay (E := [some ⟨a3s R, 25, false, true⟩]) [7, 9] (implJoinHeaps_yesR X Y Z ([] : List A3) L2 R (by first | assumption | omega | rfl | decide | exact HeapL.list _ _ _ _ | exact HeapL.nil _ _ _ | exact HeapL.all _ _ _ | (apply HeapL.lt64 <;> assumption) | (repeat' (first | assumption | apply or_lt64 | apply and_lt64 | apply andn_lt64 | apply pow_lt64 | (apply HeapL.lt64 <;> assumption)))) (by first | assumption | omega | rfl | decide | exact HeapL.list _ _ _ _ | exact HeapL.nil _ _ _ | exact HeapL.all _ _ _ | (apply HeapL.lt64 <;> assumption) | (repeat' (first | assumption | apply or_lt64 | apply and_lt64 | apply andn_lt64 | apply pow_lt64 | (apply HeapL.lt64 <;> assumption)))) (by first | assumption | omega | rfl | decide | exact HeapL.list _ _ _ _ | exact HeapL.nil _ _ _ | exact HeapL.all _ _ _ | (apply HeapL.lt64 <;> assumption) | (repeat' (first | assumption | apply or_lt64 | apply and_lt64 | apply andn_lt64 | apply pow_lt64 | (apply HeapL.lt64 <;> assumption)))) (by first | assumption | omega | rfl | decide | exact HeapL.list _ _ _ _ | exact HeapL.nil _ _ _ | exact HeapL.all _ _ _ | (apply HeapL.lt64 <;> assumption) | (repeat' (first | assumption | apply or_lt64 | apply and_lt64 | apply andn_lt64 | apply pow_lt64 | (apply HeapL.lt64 <;> assumption))))) ⟨rdF true (flatA3 _ _ _ _) rfl rfl, ⟨rdF true (flatA3 _ _ _ _) rfl rfl, trivial⟩⟩ rfl ⟨clF (flatA3 _ _ _ _), ⟨clF (flatA3 _ _ _ _), trivial⟩⟩ rfl (by first | rfl | simp [mpV, mpA, mpS, mpP, renId, shift]) (by first | rfl | simp [mpV, mpA, mpS, mpP, renId, shift]) ⟨enF (flatA3 _ _ _ _) (Or.inl rfl), trivial⟩) ?_
    refine segEnd [2, 3, 6, 7, 8, 9, 10, 11] (T1 := (mkT 119 [(2, vP 1 0), (3, vP 2 0), (6, vP 6 0), (7, .bool true), (8, vP 8 0), (9, vP 10 0), (10, vP 12 0), (11, .bool true)])) (H1 := [some ⟨a3s L2, 25, false, false⟩, rB [vN X, vN Y, vN Z, .slice none 0 0] 24, rB [vN X, vN Y, vN Z, vS 0 L2.length] 24, some ⟨[], 25, false, true⟩, some ⟨a3s L2, 25, false, true⟩, some ⟨a3s R, 25, false, true⟩, rB [vN X, vN Y, vN Z, vS 5 R.length] 29, some ⟨[], 25, false, true⟩, rB [vN X, vN Y, vN Z, vS 7 0] 29, some ⟨a3s L2, 25, false, true⟩, rB [vN X, vN Y, vN Z, vS 9 L2.length] 29, some ⟨a3s R, 25, false, true⟩, rB [vN X, vN Y, vN Z, vS 11 R.length] 29]) (by kernel_rfl) ?_
    refine kSeq ?_
    refine cSeq ?_
    refine cSeq ?_
    refine cReg ?_
    refine segH 2 (T1 := (mkT 119 [(2, vP 1 0), (3, vP 2 0), (6, vP 6 0), (7, .bool true), (8, vP 8 0), (9, vP 10 0), (10, vP 12 0), (11, .bool true), (45, .agg #[vN X, vN Y, vN Z, vS 11 R.length]), (46, .agg #[vN X, vN Y, vN Z, vS 5 R.length])])) (by kernel_rfl) ?_
    refine rCall (v := .bool true) (args := [.agg #[vN X, vN Y, vN Z, vS 11 R.length], .agg #[vN X, vN Y, vN Z, vS 5 R.length]]) (by kernel_rfl) rfl (by kernel_rfl) (Sound.lay0 [11, 5] (eqHeapB ((X : Nat) : Int) ((Y : Nat) : Int) ((Z : Nat) : Int) R (by first | omega | assumption | (simp; done))) ⟨rdF true (flatA3 _ _ _ _) rfl rfl, ⟨rdF true (flatA3 _ _ _ _) rfl rfl, trivial⟩⟩ rfl ⟨clF (flatA3 _ _ _ _), ⟨clF (flatA3 _ _ _ _), trivial⟩⟩ rfl (by first | rfl | simp [mpV, mpA, mpS, mpP, renId, shift]) rfl) ?_
    refine segEndH [2, 3, 6, 7, 8, 9, 10, 11, 53] (T1 := (mkT 119 [(2, vP 1 0), (3, vP 2 0), (6, vP 6 0), (7, .bool true), (8, vP 8 0), (9, vP 10 0), (10, vP 12 0), (11, .bool true), (53, .bool false)])) (by kernel_rfl) ?_
    refine kSeq ?_
    refine cFalse (by kernel_rfl) ?_
    refine cSkip ?_
    refine kSeq ?_
    refine cSeq ?_
    refine cSeq ?_
    refine cRegW (N := 14) [⟨[], [], [8]⟩, ⟨[], [], [1]⟩, ⟨[13], [], []⟩, ⟨[], [], [7, 13]⟩, ⟨[], [], []⟩] 1 [13] (by rfl) (by rfl) (by kernel_rfl) (by kernel_rfl) (by kernel_rfl) ⟨nmsF (flatA3 _ _ _ _), ⟨nmsX (by kernel_rfl), ⟨nmsX (by kernel_rfl), ⟨nmsX (by kernel_rfl), ⟨nmsF (flatA3 _ _ _ _), ⟨nmsF (flatA3 _ _ _ _), ⟨nmsX (by kernel_rfl), ⟨nmsX (by kernel_rfl), ⟨nmsX (by kernel_rfl), ⟨nmsF (flatA3 _ _ _ _), ⟨nmsX (by kernel_rfl), ⟨nmsF (flatA3 _ _ _ _), ⟨nmsX (by kernel_rfl), trivial⟩⟩⟩⟩⟩⟩⟩⟩⟩⟩⟩⟩⟩ ?_
    refine segWH 2 (T1 := (mkT 119 [(2, vP 1 0), (3, vP 2 0), (6, vP 6 0), (7, .bool true), (8, vP 8 0), (9, vP 10 0), (10, vP 12 0), (11, .bool true), (53, .bool false), (54, .agg #[vN X, vN Y, vN Z, vS 7 0]), (55, .agg #[vN X, vN Y, vN Z, .slice none 0 0])])) (by kernel_rfl) ?_
    refine rW (m := ⟨[13], [], []⟩) (v := .agg #[vN X, vN Y, vN Z, vS 13 0]) rfl (by kernel_rfl) (stN (i := 13) (E := [some ⟨[], 25, false, true⟩]) (v1 := .agg #[vN X, vN Y, vN Z, vS 14 0]) (args := [.agg #[vN X, vN Y, vN Z, .slice none 0 0]]) rfl (by kernel_rfl) (Any.lay [] (toHeapN ((X : Nat) : Int) ((Y : Nat) : Int) ((Z : Nat) : Int)) trivial rfl trivial rfl (by first | rfl | simp [mpV, mpA, mpS, mpP, renId, shift]) (by first | rfl | simp [mpV, mpA, mpS, mpP, renId, shift]) ⟨enX rfl (Or.inl rfl), trivial⟩) rfl (by kernel_rfl) (by kernel_rfl) (by kernel_rfl) (by kernel_rfl) (FlatH.cons (flatRow_of rfl) FlatH.nil)) (by kernel_rfl) (NRs.all ⟨nrOf (by rfl) (nmX (by kernel_rfl)), trivial⟩) ?_
    refine rW (m := ⟨[], [], [7, 13]⟩) (v := .bool true) rfl (by kernel_rfl) (stQ (args := [.agg #[vN X, vN Y, vN Z, vS 7 0], .agg #[vN X, vN Y, vN Z, vS 13 0]]) rfl (by kernel_rfl) (Any.lay0 [7, 13] (eqHeapB ((X : Nat) : Int) ((Y : Nat) : Int) ((Z : Nat) : Int) ([] : List A3) (by first | omega | assumption | (simp; done))) ⟨rdF true (flatA3 _ _ _ _) rfl rfl, ⟨rdF true (flatA3 _ _ _ _) rfl rfl, trivial⟩⟩ rfl ⟨clF (flatA3 _ _ _ _), ⟨clF (flatA3 _ _ _ _), trivial⟩⟩ rfl (by first | rfl | simp [mpV, mpA, mpS, mpP, renId, shift]) rfl) rfl (by kernel_rfl) (by kernel_rfl)) (by kernel_rfl) nr0 ?_
    refine segEndW [2, 3, 6, 7, 8, 9, 10, 11, 58] (T1 := (mkT 119 [(2, vP 1 0), (3, vP 2 0), (6, vP 6 0), (7, .bool true), (8, vP 8 0), (9, vP 10 0), (10, vP 12 0), (11, .bool true), (58, .bool false)])) (H1 := [some ⟨a3s L2, 25, false, false⟩, rB [vN X, vN Y, vN Z, .slice none 0 0] 24, rB [vN X, vN Y, vN Z, vS 0 L2.length] 24, some ⟨[], 25, false, true⟩, some ⟨a3s L2, 25, false, true⟩, some ⟨a3s R, 25, false, true⟩, rB [vN X, vN Y, vN Z, vS 5 R.length] 29, some ⟨[], 25, false, true⟩, rB [vN X, vN Y, vN Z, vS 7 0] 29, some ⟨a3s L2, 25, false, true⟩, rB [vN X, vN Y, vN Z, vS 9 L2.length] 29, some ⟨a3s R, 25, false, true⟩, rB [vN X, vN Y, vN Z, vS 11 R.length] 29, some ⟨[], 25, false, true⟩]) (by kernel_rfl) ?_
    refine kSeq ?_
    refine cFalse (by kernel_rfl) ?_
    refine cSkip ?_
    refine kSeq ?_
    refine cSeq ?_
    refine cSeq ?_
    refine cRegW (N := 15) [⟨[], [], [10]⟩, ⟨[], [], [2]⟩, ⟨[14], [], [0]⟩, ⟨[], [], [9, 14]⟩, ⟨[], [], []⟩] 1 [14] (by rfl) (by rfl) (by kernel_rfl) (by kernel_rfl) (by kernel_rfl) ⟨nmsF (flatA3 _ _ _ _), ⟨nmsX (by kernel_rfl), ⟨nmsX (by kernel_rfl), ⟨nmsX (by kernel_rfl), ⟨nmsF (flatA3 _ _ _ _), ⟨nmsF (flatA3 _ _ _ _), ⟨nmsX (by kernel_rfl), ⟨nmsX (by kernel_rfl), ⟨nmsX (by kernel_rfl), ⟨nmsF (flatA3 _ _ _ _), ⟨nmsX (by kernel_rfl), ⟨nmsF (flatA3 _ _ _ _), ⟨nmsX (by kernel_rfl), ⟨nmsX (by kernel_rfl), trivial⟩⟩⟩⟩⟩⟩⟩⟩⟩⟩⟩⟩⟩⟩ ?_
    refine segWH 2 (T1 := (mkT 119 [(2, vP 1 0), (3, vP 2 0), (6, vP 6 0), (7, .bool true), (8, vP 8 0), (9, vP 10 0), (10, vP 12 0), (11, .bool true), (58, .bool false), (59, .agg #[vN X, vN Y, vN Z, vS 9 L2.length]), (60, .agg #[vN X, vN Y, vN Z, vS 0 L2.length])])) (by kernel_rfl) ?_
    refine rW (m := ⟨[14], [], [0]⟩) (v := .agg #[vN X, vN Y, vN Z, vS 14 L2.length]) rfl (by kernel_rfl) (stN (i := 14) (E := [some ⟨a3s L2, 25, false, true⟩]) (v1 := .agg #[vN X, vN Y, vN Z, vS 15 L2.length]) (args := [.agg #[vN X, vN Y, vN Z, vS 0 L2.length]]) rfl (by kernel_rfl) (Any.lay [0] (toHeapB ((X : Nat) : Int) ((Y : Nat) : Int) ((Z : Nat) : Int) L2 (by first | omega | assumption | (simp; done))) ⟨rdF false (flatA3 _ _ _ _) rfl rfl, trivial⟩ rfl ⟨clF (flatA3 _ _ _ _), trivial⟩ rfl (by first | rfl | simp [mpV, mpA, mpS, mpP, renId, shift]) (by first | rfl | simp [mpV, mpA, mpS, mpP, renId, shift]) ⟨enF (flatA3 _ _ _ _) (Or.inl rfl), trivial⟩) rfl (by kernel_rfl) (by kernel_rfl) (by kernel_rfl) (by kernel_rfl) (FlatH.cons (flatA3 _ _ _ _) FlatH.nil)) (by kernel_rfl) (NRs.all ⟨nrOf (by rfl) (nmF (flatA3 _ _ _ _)), trivial⟩) ?_
    refine rW (m := ⟨[], [], [9, 14]⟩) (v := .bool true) rfl (by kernel_rfl) (stQ (args := [.agg #[vN X, vN Y, vN Z, vS 9 L2.length], .agg #[vN X, vN Y, vN Z, vS 14 L2.length]]) rfl (by kernel_rfl) (Any.lay0 [9, 14] (eqHeapB ((X : Nat) : Int) ((Y : Nat) : Int) ((Z : Nat) : Int) L2 (by first | omega | assumption | (simp; done))) ⟨rdF true (flatA3 _ _ _ _) rfl rfl, ⟨rdF true (flatA3 _ _ _ _) rfl rfl, trivial⟩⟩ rfl ⟨clF (flatA3 _ _ _ _), ⟨clF (flatA3 _ _ _ _), trivial⟩⟩ rfl (by first | rfl | simp [mpV, mpA, mpS, mpP, renId, shift]) rfl) rfl (by kernel_rfl) (by kernel_rfl)) (by kernel_rfl) nr0 ?_
    refine segEndW [2, 3, 6, 7, 8, 9, 10, 11, 63] (T1 := (mkT 119 [(2, vP 1 0), (3, vP 2 0), (6, vP 6 0), (7, .bool true), (8, vP 8 0), (9, vP 10 0), (10, vP 12 0), (11, .bool true), (63, .bool false)])) (H1 := [some ⟨a3s L2, 25, false, false⟩, rB [vN X, vN Y, vN Z, .slice none 0 0] 24, rB [vN X, vN Y, vN Z, vS 0 L2.length] 24, some ⟨[], 25, false, true⟩, some ⟨a3s L2, 25, false, true⟩, some ⟨a3s R, 25, false, true⟩, rB [vN X, vN Y, vN Z, vS 5 R.length] 29, some ⟨[], 25, false, true⟩, rB [vN X, vN Y, vN Z, vS 7 0] 29, some ⟨a3s L2, 25, false, true⟩, rB [vN X, vN Y, vN Z, vS 9 L2.length] 29, some ⟨a3s R, 25, false, true⟩, rB [vN X, vN Y, vN Z, vS 11 R.length] 29, some ⟨[], 25, false, true⟩, some ⟨a3s L2, 25, false, true⟩]) (by kernel_rfl) ?_
    refine kSeq ?_
    refine cFalse (by kernel_rfl) ?_
    refine cSkip ?_
    refine kSeq ?_
    refine cSeq ?_
    refine cReg ?_
    refine segEndH [2, 3, 6, 7, 8, 9, 10, 11, 12] (T1 := (mkT 119 [(2, vP 1 0), (3, vP 2 0), (6, vP 6 0), (7, .bool true), (8, vP 8 0), (9, vP 10 0), (10, vP 12 0), (11, .bool true), (12, vI 1)])) (by kernel_rfl) ?_
    refine kSeq ?_
    refine cSeq ?_
    refine cReg ?_
    refine segH 2 (T1 := (mkT 119 [(2, vP 1 0), (3, vP 2 0), (6, vP 6 0), (7, .bool true), (8, vP 8 0), (9, vP 10 0), (10, vP 12 0), (11, .bool true), (12, vI 1), (64, .agg #[vN X, vN Y, vN Z, vS 7 0]), (65, vI 1)])) (by kernel_rfl) ?_
    refine rCall (v := vN (1 + 3 * ([] : List A3).length)) (args := [.agg #[vN X, vN Y, vN Z, vS 7 0], vI 1]) (by kernel_rfl) rfl (by kernel_rfl) (Sound.emb_set (r := ⟨a3s ([] : List A3), 25, false, true⟩) (r' := ⟨a3s (mk3 1 ([] : List A3).length), 25, false, true⟩) 7 (markHeapB ((X : Nat) : Int) ((Y : Nat) : Int) ((Z : Nat) : Int) ([] : List A3) 1 (by first | omega | assumption | (simp; done)) (by first | assumption | omega | rfl | decide | exact HeapL.list _ _ _ _ | exact HeapL.nil _ _ _ | exact HeapL.all _ _ _ | (apply HeapL.lt64 <;> assumption) | (repeat' (first | assumption | apply or_lt64 | apply and_lt64 | apply andn_lt64 | apply pow_lt64 | (apply HeapL.lt64 <;> assumption))))) (flatA3 _ _ _ _) rfl (flatA3 _ _ _ _) rfl rfl rfl (by first | rfl | simp [mpV, mpA, mpS, mpP, renId, shift]) rfl) ?_
    refine segEnd [2, 3, 6, 7, 9, 10, 11, 12] (T1 := (mkT 119 [(2, vP 1 0), (3, vP 2 0), (6, vP 6 0), (7, .bool true), (9, vP 10 0), (10, vP 12 0), (11, .bool true), (12, vN (1 + 3 * ([] : List A3).length))])) (H1 := [some ⟨a3s L2, 25, false, false⟩, rB [vN X, vN Y, vN Z, .slice none 0 0] 24, rB [vN X, vN Y, vN Z, vS 0 L2.length] 24, some ⟨[], 25, false, true⟩, some ⟨a3s L2, 25, false, true⟩, some ⟨a3s R, 25, false, true⟩, rB [vN X, vN Y, vN Z, vS 5 R.length] 29, some ⟨a3s (mk3 1 ([] : List A3).length), 25, false, true⟩, rB [vN X, vN Y, vN Z, vS 7 0] 29, some ⟨a3s L2, 25, false, true⟩, rB [vN X, vN Y, vN Z, vS 9 L2.length] 29, some ⟨a3s R, 25, false, true⟩, rB [vN X, vN Y, vN Z, vS 11 R.length] 29, some ⟨[], 25, false, true⟩, some ⟨a3s L2, 25, false, true⟩]) (by kernel_rfl) ?_
    refine kSeq ?_
    refine cSeq ?_
    refine cReg ?_
    refine segH 2 (T1 := (mkT 119 [(2, vP 1 0), (3, vP 2 0), (6, vP 6 0), (7, .bool true), (9, vP 10 0), (10, vP 12 0), (11, .bool true), (12, vN (1 + 3 * ([] : List A3).length)), (67, .agg #[vN X, vN Y, vN Z, vS 9 L2.length]), (68, vN (1 + 3 * ([] : List A3).length))])) (by kernel_rfl) ?_
    refine rCall (v := vN ((1 + 3 * ([] : List A3).length) + 3 * L2.length)) (args := [.agg #[vN X, vN Y, vN Z, vS 9 L2.length], vN (1 + 3 * ([] : List A3).length)]) (by kernel_rfl) rfl (by kernel_rfl) (Sound.emb_set (r := ⟨a3s L2, 25, false, true⟩) (r' := ⟨a3s (mk3 (1 + 3 * ([] : List A3).length) L2.length), 25, false, true⟩) 9 (markHeapB ((X : Nat) : Int) ((Y : Nat) : Int) ((Z : Nat) : Int) L2 (1 + 3 * ([] : List A3).length) (by first | omega | assumption | (simp; done)) (by first | assumption | omega | rfl | decide | exact HeapL.list _ _ _ _ | exact HeapL.nil _ _ _ | exact HeapL.all _ _ _ | (apply HeapL.lt64 <;> assumption) | (repeat' (first | assumption | apply or_lt64 | apply and_lt64 | apply andn_lt64 | apply pow_lt64 | (apply HeapL.lt64 <;> assumption))))) (flatA3 _ _ _ _) rfl (flatA3 _ _ _ _) rfl rfl rfl (by first | rfl | simp [mpV, mpA, mpS, mpP, renId, shift]) rfl) ?_
    refine segEnd [2, 3, 6, 7, 10, 11, 12] (T1 := (mkT 119 [(2, vP 1 0), (3, vP 2 0), (6, vP 6 0), (7, .bool true), (10, vP 12 0), (11, .bool true), (12, vN ((1 + 3 * ([] : List A3).length) + 3 * L2.length))])) (H1 := [some ⟨a3s L2, 25, false, false⟩, rB [vN X, vN Y, vN Z, .slice none 0 0] 24, rB [vN X, vN Y, vN Z, vS 0 L2.length] 24, some ⟨[], 25, false, true⟩, some ⟨a3s L2, 25, false, true⟩, some ⟨a3s R, 25, false, true⟩, rB [vN X, vN Y, vN Z, vS 5 R.length] 29, some ⟨a3s (mk3 1 ([] : List A3).length), 25, false, true⟩, rB [vN X, vN Y, vN Z, vS 7 0] 29, some ⟨a3s (mk3 (1 + 3 * ([] : List A3).length) L2.length), 25, false, true⟩, rB [vN X, vN Y, vN Z, vS 9 L2.length] 29, some ⟨a3s R, 25, false, true⟩, rB [vN X, vN Y, vN Z, vS 11 R.length] 29, some ⟨[], 25, false, true⟩, some ⟨a3s L2, 25, false, true⟩]) (by kernel_rfl) ?_
    refine kSeq ?_
    refine cSeq ?_
    refine cSeq ?_
    refine cReg ?_
    refine segH 3 (T1 := (mkT 119 [(2, vP 1 0), (3, vP 2 0), (6, vP 6 0), (7, .bool true), (10, vP 12 0), (11, .bool true), (12, vN ((1 + 3 * ([] : List A3).length) + 3 * L2.length)), (70, vN ((1 + 3 * ([] : List A3).length) + 3 * L2.length)), (71, .bool (decide ((((1 + 3 * ([] : List A3).length) + 3 * L2.length : Nat) : Int) < 0))), (72, .bool (decide ((((1 + 3 * ([] : List A3).length) + 3 * L2.length : Nat) : Int) < 0)))])) (by kernel_rfl) ?_
    cases h2 : (decide ((((1 + 3 * ([] : List A3).length) + 3 * L2.length : Nat) : Int) < 0) : Bool)
    ·
      (try simp only [Bool.not_eq_true', Bool.not_eq_false', decide_eq_true_eq, decide_eq_false_iff_not, beq_iff_eq, bne_iff_ne, beq_eq_false_iff_ne, bne_eq_false_iff_eq, ne_eq, Decidable.not_not, Bool.and_eq_true, Bool.and_eq_false_imp, Bool.or_eq_true, Bool.or_eq_false_iff, Bool.not_eq_true, Int.not_lt, Int.not_le, ge_iff_le, gt_iff_lt] at h2)
      refine seg 2 (T1 := (mkT 119 [(2, vP 1 0), (3, vP 2 0), (6, vP 6 0), (7, .bool true), (10, vP 12 0), (11, .bool true), (12, vN ((1 + 3 * ([] : List A3).length) + 3 * L2.length)), (70, vN ((1 + 3 * ([] : List A3).length) + 3 * L2.length)), (71, .bool false), (72, .bool false), (73, .agg #[vN X, vN Y, vN Z, vS 11 R.length]), (74, .agg #[vN X, vN Y, vN Z, vS 5 R.length])])) (H1 := [some ⟨a3s L2, 25, false, false⟩, rB [vN X, vN Y, vN Z, .slice none 0 0] 24, rB [vN X, vN Y, vN Z, vS 0 L2.length] 24, some ⟨[], 25, false, true⟩, some ⟨a3s L2, 25, false, true⟩, some ⟨a3s R, 25, false, true⟩, rB [vN X, vN Y, vN Z, vS 5 R.length] 29, some ⟨a3s (mk3 1 ([] : List A3).length), 25, false, true⟩, rB [vN X, vN Y, vN Z, vS 7 0] 29, some ⟨a3s (mk3 (1 + 3 * ([] : List A3).length) L2.length), 25, false, true⟩, rB [vN X, vN Y, vN Z, vS 9 L2.length] 29, some ⟨a3s R, 25, false, true⟩, rB [vN X, vN Y, vN Z, vS 11 R.length] 29, some ⟨[], 25, false, true⟩, some ⟨a3s L2, 25, false, true⟩]) (by kernel_rfl) ?_
      refine rCall (v := .bool true) (args := [.agg #[vN X, vN Y, vN Z, vS 11 R.length], .agg #[vN X, vN Y, vN Z, vS 5 R.length]]) (by kernel_rfl) rfl (by kernel_rfl) (Sound.lay0 [11, 5] (eqHeapB ((X : Nat) : Int) ((Y : Nat) : Int) ((Z : Nat) : Int) R (by first | omega | assumption | (simp; done))) ⟨rdF true (flatA3 _ _ _ _) rfl rfl, ⟨rdF true (flatA3 _ _ _ _) rfl rfl, trivial⟩⟩ rfl ⟨clF (flatA3 _ _ _ _), ⟨clF (flatA3 _ _ _ _), trivial⟩⟩ rfl (by first | rfl | simp [mpV, mpA, mpS, mpP, renId, shift]) rfl) ?_
      refine segEnd [2, 3, 6, 7, 10, 82] (T1 := (mkT 119 [(2, vP 1 0), (3, vP 2 0), (6, vP 6 0), (7, .bool true), (10, vP 12 0), (82, .bool false)])) (H1 := [some ⟨a3s L2, 25, false, false⟩, rB [vN X, vN Y, vN Z, .slice none 0 0] 24, rB [vN X, vN Y, vN Z, vS 0 L2.length] 24, some ⟨[], 25, false, true⟩, some ⟨a3s L2, 25, false, true⟩, some ⟨a3s R, 25, false, true⟩, rB [vN X, vN Y, vN Z, vS 5 R.length] 29, some ⟨a3s (mk3 1 ([] : List A3).length), 25, false, true⟩, rB [vN X, vN Y, vN Z, vS 7 0] 29, some ⟨a3s (mk3 (1 + 3 * ([] : List A3).length) L2.length), 25, false, true⟩, rB [vN X, vN Y, vN Z, vS 9 L2.length] 29, some ⟨a3s R, 25, false, true⟩, rB [vN X, vN Y, vN Z, vS 11 R.length] 29, some ⟨[], 25, false, true⟩, some ⟨a3s L2, 25, false, true⟩]) (by kernel_rfl) ?_
      refine kSeq ?_
      refine cFalse (by kernel_rfl) ?_
      refine cSkip ?_
      refine kSeq ?_
      refine cSeq ?_
      refine cReg ?_
      refine segEndH [2, 3, 6, 7, 10, 13] (T1 := (mkT 119 [(2, vP 1 0), (3, vP 2 0), (6, vP 6 0), (7, .bool true), (10, vP 12 0), (13, vI 1)])) (by kernel_rfl) ?_
      refine kSeq ?_
      refine cSeq ?_
      refine cReg ?_
      refine segH 2 (T1 := (mkT 119 [(2, vP 1 0), (3, vP 2 0), (6, vP 6 0), (7, .bool true), (10, vP 12 0), (13, vI 1), (83, .agg #[vN X, vN Y, vN Z, vS 11 R.length]), (84, vI 1)])) (by kernel_rfl) ?_
      refine rCall (v := vN (1 + 3 * R.length)) (args := [.agg #[vN X, vN Y, vN Z, vS 11 R.length], vI 1]) (by kernel_rfl) rfl (by kernel_rfl) (Sound.emb_set (r := ⟨a3s R, 25, false, true⟩) (r' := ⟨a3s (mk3 1 R.length), 25, false, true⟩) 11 (markHeapB ((X : Nat) : Int) ((Y : Nat) : Int) ((Z : Nat) : Int) R 1 (by first | omega | assumption | (simp; done)) (by first | assumption | omega | rfl | decide | exact HeapL.list _ _ _ _ | exact HeapL.nil _ _ _ | exact HeapL.all _ _ _ | (apply HeapL.lt64 <;> assumption) | (repeat' (first | assumption | apply or_lt64 | apply and_lt64 | apply andn_lt64 | apply pow_lt64 | (apply HeapL.lt64 <;> assumption))))) (flatA3 _ _ _ _) rfl (flatA3 _ _ _ _) rfl rfl rfl (by first | rfl | simp [mpV, mpA, mpS, mpP, renId, shift]) rfl) ?_
      refine segEnd [2, 3, 6, 7, 10, 13] (T1 := (mkT 119 [(2, vP 1 0), (3, vP 2 0), (6, vP 6 0), (7, .bool true), (10, vP 12 0), (13, vN (1 + 3 * R.length))])) (H1 := [some ⟨a3s L2, 25, false, false⟩, rB [vN X, vN Y, vN Z, .slice none 0 0] 24, rB [vN X, vN Y, vN Z, vS 0 L2.length] 24, some ⟨[], 25, false, true⟩, some ⟨a3s L2, 25, false, true⟩, some ⟨a3s R, 25, false, true⟩, rB [vN X, vN Y, vN Z, vS 5 R.length] 29, some ⟨a3s (mk3 1 ([] : List A3).length), 25, false, true⟩, rB [vN X, vN Y, vN Z, vS 7 0] 29, some ⟨a3s (mk3 (1 + 3 * ([] : List A3).length) L2.length), 25, false, true⟩, rB [vN X, vN Y, vN Z, vS 9 L2.length] 29, some ⟨a3s (mk3 1 R.length), 25, false, true⟩, rB [vN X, vN Y, vN Z, vS 11 R.length] 29, some ⟨[], 25, false, true⟩, some ⟨a3s L2, 25, false, true⟩]) (by kernel_rfl) ?_
      refine kSeq ?_
      refine cSeq ?_
      refine cReg ?_
      refine segEndH [2, 3, 6, 7, 10, 13, 14] (T1 := (mkT 119 [(2, vP 1 0), (3, vP 2 0), (6, vP 6 0), (7, .bool true), (10, vP 12 0), (13, vN (1 + 3 * R.length)), (14, vI 1)])) (by kernel_rfl) ?_
      refine kSeq ?_
      refine cSeq ?_
      refine cReg ?_
      refine segH 2 (T1 := (mkT 119 [(2, vP 1 0), (3, vP 2 0), (6, vP 6 0), (7, .bool true), (10, vP 12 0), (13, vN (1 + 3 * R.length)), (14, vI 1), (86, .agg #[vN X, vN Y, vN Z, vS 11 R.length]), (87, vI 1)])) (by kernel_rfl) ?_
      refine rCall (v := vN (1 + 3 * R.length)) (args := [.agg #[vN X, vN Y, vN Z, vS 11 R.length], vI 1]) (by kernel_rfl) rfl (by kernel_rfl) (Sound.lay0 [11] (heldHeapB ((X : Nat) : Int) ((Y : Nat) : Int) ((Z : Nat) : Int) 1 R.length (by first | omega | assumption | (simp; done)) (by first | assumption | omega | rfl | decide | exact HeapL.list _ _ _ _ | exact HeapL.nil _ _ _ | exact HeapL.all _ _ _ | (apply HeapL.lt64 <;> assumption) | (repeat' (first | assumption | apply or_lt64 | apply and_lt64 | apply andn_lt64 | apply pow_lt64 | (apply HeapL.lt64 <;> assumption))))) ⟨rdF true (flatA3 _ _ _ _) rfl rfl, trivial⟩ rfl ⟨clF (flatA3 _ _ _ _), trivial⟩ rfl (by first | rfl | simp [mpV, mpA, mpS, mpP, renId, shift]) rfl) ?_
      refine segEndH [2, 3, 6, 7, 10, 13, 14] (T1 := (mkT 119 [(2, vP 1 0), (3, vP 2 0), (6, vP 6 0), (7, .bool true), (10, vP 12 0), (13, vN (1 + 3 * R.length)), (14, vN (1 + 3 * R.length))])) (by kernel_rfl) ?_
      refine kSeq ?_
      refine cSeq ?_
      refine cSeq ?_
      refine cReg ?_
      refine segEndH [2, 3, 6, 7, 10, 13, 14, 90] (T1 := (mkT 119 [(2, vP 1 0), (3, vP 2 0), (6, vP 6 0), (7, .bool true), (10, vP 12 0), (13, vN (1 + 3 * R.length)), (14, vN (1 + 3 * R.length)), (90, .bool (decide (((1 + 3 * R.length : Nat) : Int) < 0)))])) (by kernel_rfl) ?_
      refine kSeq ?_
      cases h3 : (decide (((1 + 3 * R.length : Nat) : Int) < 0) : Bool)
      ·
        (try simp only [Bool.not_eq_true', Bool.not_eq_false', decide_eq_true_eq, decide_eq_false_iff_not, beq_iff_eq, bne_iff_ne, beq_eq_false_iff_ne, bne_eq_false_iff_eq, ne_eq, Decidable.not_not, Bool.and_eq_true, Bool.and_eq_false_imp, Bool.or_eq_true, Bool.or_eq_false_iff, Bool.not_eq_true, Int.not_lt, Int.not_le, ge_iff_le, gt_iff_lt] at h3)
        refine cFalse (by kernel_rfl) ?_
        refine cSkip ?_
        refine kSeq ?_
        refine cSeq ?_
        refine cSeq ?_
        refine cReg ?_
        refine segH 2 (T1 := (mkT 119 [(2, vP 1 0), (3, vP 2 0), (6, vP 6 0), (7, .bool true), (10, vP 12 0), (13, vN (1 + 3 * R.length)), (14, vN (1 + 3 * R.length)), (90, .bool false), (91, vN (1 + 3 * R.length)), (92, vN (1 + 3 * R.length))])) (by kernel_rfl) ?_
        refine rOp (v := .bool false) (by kernel_rfl) (eNeS (k := .i64) (a := ((1 + 3 * R.length : Nat) : Int)) (by kernel_rfl) (by kernel_rfl)) ?_
        refine segEndH [2, 3, 6, 7, 10, 13, 93] (T1 := (mkT 119 [(2, vP 1 0), (3, vP 2 0), (6, vP 6 0), (7, .bool true), (10, vP 12 0), (13, vN (1 + 3 * R.length)), (93, .bool false)])) (by kernel_rfl) ?_
        refine kSeq ?_
        refine cFalse (by kernel_rfl) ?_
        refine cSkip ?_
        refine kSeq ?_
        refine cSeq ?_
        refine cRegW (N := 19) [⟨[], [], [1]⟩, ⟨[15], [], []⟩, ⟨[], [], [2]⟩, ⟨[16], [], [0]⟩, ⟨[17], [], [15, 16]⟩, ⟨[], [], []⟩, ⟨[], [], []⟩, ⟨[], [], []⟩, ⟨[18], [], []⟩, ⟨[], [18], []⟩, ⟨[], [], []⟩] 4 [15, 16, 17, 18] (by rfl) (by rfl) (by kernel_rfl) (by kernel_rfl) (by kernel_rfl) ⟨nmsF (flatA3 _ _ _ _), ⟨nmsX (by kernel_rfl), ⟨nmsX (by kernel_rfl), ⟨nmsX (by kernel_rfl), ⟨nmsF (flatA3 _ _ _ _), ⟨nmsF (flatA3 _ _ _ _), ⟨nmsX (by kernel_rfl), ⟨nmsF (flatA3 _ _ _ _), ⟨nmsX (by kernel_rfl), ⟨nmsF (flatA3 _ _ _ _), ⟨nmsX (by kernel_rfl), ⟨nmsF (flatA3 _ _ _ _), ⟨nmsX (by kernel_rfl), ⟨nmsX (by kernel_rfl), ⟨nmsF (flatA3 _ _ _ _), trivial⟩⟩⟩⟩⟩⟩⟩⟩⟩⟩⟩⟩⟩⟩⟩ ?_
        refine segWH 1 (T1 := (mkT 119 [(2, vP 1 0), (3, vP 2 0), (6, vP 6 0), (7, .bool true), (10, vP 12 0), (13, vN (1 + 3 * R.length)), (93, .bool false), (95, .agg #[vN X, vN Y, vN Z, .slice none 0 0])])) (by kernel_rfl) ?_
        refine rW (m := ⟨[15], [], []⟩) (v := .agg #[vN X, vN Y, vN Z, vS 15 0]) rfl (by kernel_rfl) (stN (i := 15) (E := [some ⟨[], 25, false, true⟩]) (v1 := .agg #[vN X, vN Y, vN Z, vS 19 0]) (args := [.agg #[vN X, vN Y, vN Z, .slice none 0 0]]) rfl (by kernel_rfl) (Any.lay [] (toHeapN ((X : Nat) : Int) ((Y : Nat) : Int) ((Z : Nat) : Int)) trivial rfl trivial rfl (by first | rfl | simp [mpV, mpA, mpS, mpP, renId, shift]) (by first | rfl | simp [mpV, mpA, mpS, mpP, renId, shift]) ⟨enX rfl (Or.inl rfl), trivial⟩) rfl (by kernel_rfl) (by kernel_rfl) (by kernel_rfl) (by kernel_rfl) (FlatH.cons (flatRow_of rfl) FlatH.nil)) (by kernel_rfl) (NRs.all ⟨nrOf (by rfl) (nmX (by kernel_rfl)), trivial⟩) ?_
        refine segWH 1 (T1 := (mkT 119 [(2, vP 1 0), (3, vP 2 0), (6, vP 6 0), (7, .bool true), (10, vP 12 0), (13, vN (1 + 3 * R.length)), (93, .bool false), (95, .agg #[vN X, vN Y, vN Z, .slice none 0 0]), (96, .agg #[vN X, vN Y, vN Z, vS 15 0]), (97, .agg #[vN X, vN Y, vN Z, vS 0 L2.length])])) (by kernel_rfl) ?_
        refine rW (m := ⟨[16], [], [0]⟩) (v := .agg #[vN X, vN Y, vN Z, vS 16 L2.length]) rfl (by kernel_rfl) (stN (i := 16) (E := [some ⟨a3s L2, 25, false, true⟩]) (v1 := .agg #[vN X, vN Y, vN Z, vS 19 L2.length]) (args := [.agg #[vN X, vN Y, vN Z, vS 0 L2.length]]) rfl (by kernel_rfl) (Any.lay [0] (toHeapB ((X : Nat) : Int) ((Y : Nat) : Int) ((Z : Nat) : Int) L2 (by first | omega | assumption | (simp; done))) ⟨rdF false (flatA3 _ _ _ _) rfl rfl, trivial⟩ rfl ⟨clF (flatA3 _ _ _ _), trivial⟩ rfl (by first | rfl | simp [mpV, mpA, mpS, mpP, renId, shift]) (by first | rfl | simp [mpV, mpA, mpS, mpP, renId, shift]) ⟨enF (flatA3 _ _ _ _) (Or.inl rfl), trivial⟩) rfl (by kernel_rfl) (by kernel_rfl) (by kernel_rfl) (by kernel_rfl) (FlatH.cons (flatA3 _ _ _ _) FlatH.nil)) (by kernel_rfl) (NRs.all ⟨nrOf (by rfl) (nmF (flatA3 _ _ _ _)), trivial⟩) ?_
        refine rW (m := ⟨[17], [], [15, 16]⟩) (v := .tuple #[.agg #[vN X, vN Y, vN Z, vS 17 R.length], .bool true]) rfl (by kernel_rfl) (stN (i := 17) (E := [some ⟨a3s R, 25, false, true⟩]) (v1 := .tuple #[.agg #[vN X, vN Y, vN Z, vS 19 R.length], .bool true]) (args := [.agg #[vN X, vN Y, vN Z, vS 15 0], .agg #[vN X, vN Y, vN Z, vS 16 L2.length]]) rfl (by kernel_rfl) (Any.lay [15, 16] (implJoinHeaps_yesR X Y Z ([] : List A3) L2 R (by first | assumption | omega | rfl | decide | exact HeapL.list _ _ _ _ | exact HeapL.nil _ _ _ | exact HeapL.all _ _ _ | (apply HeapL.lt64 <;> assumption) | (repeat' (first | assumption | apply or_lt64 | apply and_lt64 | apply andn_lt64 | apply pow_lt64 | (apply HeapL.lt64 <;> assumption)))) (by first | assumption | omega | rfl | decide | exact HeapL.list _ _ _ _ | exact HeapL.nil _ _ _ | exact HeapL.all _ _ _ | (apply HeapL.lt64 <;> assumption) | (repeat' (first | assumption | apply or_lt64 | apply and_lt64 | apply andn_lt64 | apply pow_lt64 | (apply HeapL.lt64 <;> assumption)))) (by first | assumption | omega | rfl | decide | exact HeapL.list _ _ _ _ | exact HeapL.nil _ _ _ | exact HeapL.all _ _ _ | (apply HeapL.lt64 <;> assumption) | (repeat' (first | assumption | apply or_lt64 | apply and_lt64 | apply andn_lt64 | apply pow_lt64 | (apply HeapL.lt64 <;> assumption)))) (by first | assumption | omega | rfl | decide | exact HeapL.list _ _ _ _ | exact HeapL.nil _ _ _ | exact HeapL.all _ _ _ | (apply HeapL.lt64 <;> assumption) | (repeat' (first | assumption | apply or_lt64 | apply and_lt64 | apply andn_lt64 | apply pow_lt64 | (apply HeapL.lt64 <;> assumption))))) ⟨rdF true (flatA3 _ _ _ _) rfl rfl, ⟨rdF true (flatA3 _ _ _ _) rfl rfl, trivial⟩⟩ rfl ⟨clF (flatA3 _ _ _ _), ⟨clF (flatA3 _ _ _ _), trivial⟩⟩ rfl (by first | rfl | simp [mpV, mpA, mpS, mpP, renId, shift]) (by first | rfl | simp [mpV, mpA, mpS, mpP, renId, shift]) ⟨enF (flatA3 _ _ _ _) (Or.inl rfl), trivial⟩) rfl (by kernel_rfl) (by kernel_rfl) (by kernel_rfl) (by kernel_rfl) (FlatH.cons (flatA3 _ _ _ _) FlatH.nil)) (by kernel_rfl) (NRs.all ⟨nrOf (by rfl) (nmF (flatA3 _ _ _ _)), trivial⟩) ?_
        refine segWH 3 (T1 := (mkT 119 [(2, vP 1 0), (3, vP 2 0), (6, vP 6 0), (7, .bool true), (10, vP 12 0), (13, vN (1 + 3 * R.length)), (93, .bool false), (94, .tuple #[.agg #[vN X, vN Y, vN Z, vS 17 R.length], .bool true]), (95, .agg #[vN X, vN Y, vN Z, .slice none 0 0]), (96, .agg #[vN X, vN Y, vN Z, vS 15 0]), (97, .agg #[vN X, vN Y, vN Z, vS 0 L2.length]), (98, .agg #[vN X, vN Y, vN Z, vS 16 L2.length]), (99, .tuple #[.agg #[vN X, vN Y, vN Z, vS 17 R.length], .bool true]), (100, .agg #[vN X, vN Y, vN Z, vS 17 R.length]), (101, .bool true)])) (by kernel_rfl) ?_
        refine rW (m := ⟨[18], [], []⟩) (v := vP 18 0) rfl (by kernel_rfl) (stNew (i := 18) (v1 := vP 19 0) (r := ⟨[vI 0, vI 0, vI 0, .slice none 0 0], 29, true, true⟩) (by kernel_rfl) rfl (by kernel_rfl) (by kernel_rfl) (by kernel_rfl) (by kernel_rfl) (nmX (by kernel_rfl)) (clX (by kernel_rfl))) (by kernel_rfl) (NRs.all ⟨nrOf (by rfl) (nmX (by kernel_rfl)), trivial⟩) ?_
        refine rW (m := ⟨[], [18], []⟩) (v := .tuple #[]) rfl (by kernel_rfl) (stSet (b := 18) (r := ⟨[vN X, vN Y, vN Z, vS 17 R.length], 29, true, true⟩) (by kernel_rfl) rfl (by kernel_rfl) (by kernel_rfl) (by kernel_rfl) (by kernel_rfl) (nmX (by kernel_rfl)) (clX (by kernel_rfl))) (by kernel_rfl) (NRs.all ⟨nrOf (by rfl) (nmX (by kernel_rfl)), trivial⟩) ?_
        refine segEndW [6, 7, 10, 13, 15, 16] (T1 := (mkT 119 [(6, vP 6 0), (7, .bool true), (10, vP 12 0), (13, vN (1 + 3 * R.length)), (15, vP 18 0), (16, .bool true)])) (H1 := [some ⟨a3s L2, 25, false, false⟩, rB [vN X, vN Y, vN Z, .slice none 0 0] 24, rB [vN X, vN Y, vN Z, vS 0 L2.length] 24, some ⟨[], 25, false, true⟩, some ⟨a3s L2, 25, false, true⟩, some ⟨a3s R, 25, false, true⟩, rB [vN X, vN Y, vN Z, vS 5 R.length] 29, some ⟨a3s (mk3 1 ([] : List A3).length), 25, false, true⟩, rB [vN X, vN Y, vN Z, vS 7 0] 29, some ⟨a3s (mk3 (1 + 3 * ([] : List A3).length) L2.length), 25, false, true⟩, rB [vN X, vN Y, vN Z, vS 9 L2.length] 29, some ⟨a3s (mk3 1 R.length), 25, false, true⟩, rB [vN X, vN Y, vN Z, vS 11 R.length] 29, some ⟨[], 25, false, true⟩, some ⟨a3s L2, 25, false, true⟩, some ⟨[], 25, false, true⟩, some ⟨a3s L2, 25, false, true⟩, some ⟨a3s R, 25, false, true⟩, rB [vN X, vN Y, vN Z, vS 17 R.length] 29]) (by kernel_rfl) ?_
        refine kSeq ?_
        refine cSeq ?_
        refine cSeq ?_
        refine cReg ?_
        refine segH 2 (T1 := (mkT 119 [(6, vP 6 0), (7, .bool true), (10, vP 12 0), (13, vN (1 + 3 * R.length)), (15, vP 18 0), (16, .bool true), (102, .agg #[vN X, vN Y, vN Z, vS 17 R.length]), (103, .agg #[vN X, vN Y, vN Z, vS 5 R.length])])) (by kernel_rfl) ?_
        refine rCall (v := .bool true) (args := [.agg #[vN X, vN Y, vN Z, vS 17 R.length], .agg #[vN X, vN Y, vN Z, vS 5 R.length]]) (by kernel_rfl) rfl (by kernel_rfl) (Sound.lay0 [17, 5] (eqHeapB ((X : Nat) : Int) ((Y : Nat) : Int) ((Z : Nat) : Int) R (by first | omega | assumption | (simp; done))) ⟨rdF true (flatA3 _ _ _ _) rfl rfl, ⟨rdF true (flatA3 _ _ _ _) rfl rfl, trivial⟩⟩ rfl ⟨clF (flatA3 _ _ _ _), ⟨clF (flatA3 _ _ _ _), trivial⟩⟩ rfl (by first | rfl | simp [mpV, mpA, mpS, mpP, renId, shift]) rfl) ?_
        refine segEndH [10, 13, 110] (T1 := (mkT 119 [(10, vP 12 0), (13, vN (1 + 3 * R.length)), (110, .bool false)])) (by kernel_rfl) ?_
        refine kSeq ?_
        refine cFalse (by kernel_rfl) ?_
        refine cSkip ?_
        refine kSeq ?_
        refine cSeq ?_
        refine cReg ?_
        refine segEndH [10, 13, 14] (T1 := (mkT 119 [(10, vP 12 0), (13, vN (1 + 3 * R.length)), (14, vI 1)])) (by kernel_rfl) ?_
        refine kSeq ?_
        refine cSeq ?_
        refine cReg ?_
        refine segH 2 (T1 := (mkT 119 [(10, vP 12 0), (13, vN (1 + 3 * R.length)), (14, vI 1), (111, .agg #[vN X, vN Y, vN Z, vS 11 R.length]), (112, vI 1)])) (by kernel_rfl) ?_
        refine rCall (v := vN (1 + 3 * R.length)) (args := [.agg #[vN X, vN Y, vN Z, vS 11 R.length], vI 1]) (by kernel_rfl) rfl (by kernel_rfl) (Sound.lay0 [11] (heldHeapB ((X : Nat) : Int) ((Y : Nat) : Int) ((Z : Nat) : Int) 1 R.length (by first | omega | assumption | (simp; done)) (by first | assumption | omega | rfl | decide | exact HeapL.list _ _ _ _ | exact HeapL.nil _ _ _ | exact HeapL.all _ _ _ | (apply HeapL.lt64 <;> assumption) | (repeat' (first | assumption | apply or_lt64 | apply and_lt64 | apply andn_lt64 | apply pow_lt64 | (apply HeapL.lt64 <;> assumption))))) ⟨rdF true (flatA3 _ _ _ _) rfl rfl, trivial⟩ rfl ⟨clF (flatA3 _ _ _ _), trivial⟩ rfl (by first | rfl | simp [mpV, mpA, mpS, mpP, renId, shift]) rfl) ?_
        refine segEndH [13, 14] (T1 := (mkT 119 [(13, vN (1 + 3 * R.length)), (14, vN (1 + 3 * R.length))])) (by kernel_rfl) ?_
        refine kSeq ?_
        refine cSeq ?_
        refine cSeq ?_
        refine cReg ?_
        refine segEndH [13, 14, 115] (T1 := (mkT 119 [(13, vN (1 + 3 * R.length)), (14, vN (1 + 3 * R.length)), (115, .bool (decide (((1 + 3 * R.length : Nat) : Int) < 0)))])) (by kernel_rfl) ?_
        refine kSeq ?_
        cases h4 : (decide (((1 + 3 * R.length : Nat) : Int) < 0) : Bool)
        ·
          (try simp only [Bool.not_eq_true', Bool.not_eq_false', decide_eq_true_eq, decide_eq_false_iff_not, beq_iff_eq, bne_iff_ne, beq_eq_false_iff_ne, bne_eq_false_iff_eq, ne_eq, Decidable.not_not, Bool.and_eq_true, Bool.and_eq_false_imp, Bool.or_eq_true, Bool.or_eq_false_iff, Bool.not_eq_true, Int.not_lt, Int.not_le, ge_iff_le, gt_iff_lt] at h4)
          refine cFalse (by kernel_rfl) ?_
          refine cSkip ?_
          refine kSeq ?_
          refine cSeq ?_
          refine cSeq ?_
          refine cReg ?_
          refine segH 2 (T1 := (mkT 119 [(13, vN (1 + 3 * R.length)), (14, vN (1 + 3 * R.length)), (115, .bool false), (116, vN (1 + 3 * R.length)), (117, vN (1 + 3 * R.length))])) (by kernel_rfl) ?_
          refine rOp (v := .bool false) (by kernel_rfl) (eNeS (k := .i64) (a := ((1 + 3 * R.length : Nat) : Int)) (by kernel_rfl) (by kernel_rfl)) ?_
          refine segEndH [118] (T1 := (mkT 119 [(118, .bool false)])) (by kernel_rfl) ?_
          refine kSeq ?_
          refine cFalse (by kernel_rfl) ?_
          refine cSkip ?_
          refine kSeq ?_
          refine cSeq ?_
          refine cReg ?_
          refine segEndH [4] (T1 := (mkT 119 [(4, .bool true)])) (by kernel_rfl) ?_
          refine kSeq ?_
          refine cRet ?_
          -- end
          exact endQ (Or.inr rfl) (l := [.bool true]) [rB [vN X, vN Y, vN Z, .slice none 0 0] 24, rB [vN X, vN Y, vN Z, vS 0 L2.length] 24, some ⟨[], 25, false, true⟩, some ⟨a3s L2, 25, false, true⟩, some ⟨a3s R, 25, false, true⟩, rB [vN X, vN Y, vN Z, vS 5 R.length] 29, some ⟨a3s (mk3 1 ([] : List A3).length), 25, false, true⟩, rB [vN X, vN Y, vN Z, vS 7 0] 29, some ⟨a3s (mk3 (1 + 3 * ([] : List A3).length) L2.length), 25, false, true⟩, rB [vN X, vN Y, vN Z, vS 9 L2.length] 29, some ⟨a3s (mk3 1 R.length), 25, false, true⟩, rB [vN X, vN Y, vN Z, vS 11 R.length] 29, some ⟨[], 25, false, true⟩, some ⟨a3s L2, 25, false, true⟩, some ⟨[], 25, false, true⟩, some ⟨a3s L2, 25, false, true⟩, some ⟨a3s R, 25, false, true⟩, rB [vN X, vN Y, vN Z, vS 17 R.length] 29] (by kernel_rfl) (by first | rfl | kernel_rfl) rfl rfl hcl rfl
        ·
          (try simp only [Bool.not_eq_true', Bool.not_eq_false', decide_eq_true_eq, decide_eq_false_iff_not, beq_iff_eq, bne_iff_ne, beq_eq_false_iff_ne, bne_eq_false_iff_eq, ne_eq, Decidable.not_not, Bool.and_eq_true, Bool.and_eq_false_imp, Bool.or_eq_true, Bool.or_eq_false_iff, Bool.not_eq_true, Int.not_lt, Int.not_le, ge_iff_le, gt_iff_lt] at h4)
          exfalso; omega
      ·
        (try simp only [Bool.not_eq_true', Bool.not_eq_false', decide_eq_true_eq, decide_eq_false_iff_not, beq_iff_eq, bne_iff_ne, beq_eq_false_iff_ne, bne_eq_false_iff_eq, ne_eq, Decidable.not_not, Bool.and_eq_true, Bool.and_eq_false_imp, Bool.or_eq_true, Bool.or_eq_false_iff, Bool.not_eq_true, Int.not_lt, Int.not_le, ge_iff_le, gt_iff_lt] at h3)
        exfalso; omega
    ·
      (try simp only [Bool.not_eq_true', Bool.not_eq_false', decide_eq_true_eq, decide_eq_false_iff_not, beq_iff_eq, bne_iff_ne, beq_eq_false_iff_ne, bne_eq_false_iff_eq, ne_eq, Decidable.not_not, Bool.and_eq_true, Bool.and_eq_false_imp, Bool.or_eq_true, Bool.or_eq_false_iff, Bool.not_eq_true, Int.not_lt, Int.not_le, ge_iff_le, gt_iff_lt] at h2)
      exfalso; omega
  ·
    (try simp only [Bool.not_eq_true', Bool.not_eq_false', decide_eq_true_eq, decide_eq_false_iff_not, beq_iff_eq, bne_iff_ne, beq_eq_false_iff_ne, bne_eq_false_iff_eq, ne_eq, Decidable.not_not, Bool.and_eq_true, Bool.and_eq_false_imp, Bool.or_eq_true, Bool.or_eq_false_iff, Bool.not_eq_true, Int.not_lt, Int.not_le, ge_iff_le, gt_iff_lt] at h1)
    exfalso; omega

set_option maxRecDepth 100000 in
set_option maxHeartbeats 4000000 in
theorem lawJoinHeaps_yes_nn (X : Nat) (Y : Nat) (Z : Nat) (R : List A3) (hs : Sides X Y Z) (hR : R = listOf X Y Z (setOf Y Z ([] : List A3) ||| setOf Y Z ([] : List A3))) : Sound Try.prog 8 [.agg #[vN X, vN Y, vN Z, .slice none 0 0], .agg #[vN X, vN Y, vN Z, .slice none 0 0]] [] (.bool true) [] := by
  refine sound_intro (C := cx) Try.func8 rfl (by kernel_rfl) fun hcl => ?_
  have hz := hs.size
  have hx0 := hs.x0
  have hx4 := hs.x4
  have hy0 := hs.y0
  have hy4 := hs.y4
  have hz0 := hs.z0
  have hz4 := hs.z4
  have hn1 : ([] : List A3).length ≤ 64 := by first | (have := hL1.len; omega) | simp
  have hn2 : ([] : List A3).length ≤ 64 := by first | (have := hL2.len; omega) | simp
  have hr : R.length ≤ 64 := by (rw [hR]; have := (HeapL.list X Y Z (setOf Y Z ([] : List A3) ||| setOf Y Z ([] : List A3))).len; omega)
  refine cSeq ?_
  refine cReg ?_
  refine segEnd [2, 3] (T1 := (mkT 119 [(2, vP 0 0), (3, vP 1 0)])) (H1 := [rB [vN X, vN Y, vN Z, .slice none 0 0] 24, rB [vN X, vN Y, vN Z, .slice none 0 0] 24]) (by kernel_rfl) ?_
  refine kSeq ?_
  refine cSeq ?_
  refine cReg ?_
  refine segEndH [2, 3, 5] (T1 := (mkT 119 [(2, vP 0 0), (3, vP 1 0), (5, vI 1048576)])) (by kernel_rfl) ?_
  refine kSeq ?_
  refine cSeq ?_
  refine cReg ?_
  refine segH 2 (T1 := (mkT 119 [(2, vP 0 0), (3, vP 1 0), (5, vI 1048576), (17, .agg #[vN X, vN Y, vN Z, .slice none 0 0]), (18, vI 1048576)])) (by kernel_rfl) ?_
  refine rCall (v := vI 1048576) (args := [.agg #[vN X, vN Y, vN Z, .slice none 0 0], vI 1048576]) (by kernel_rfl) rfl (by kernel_rfl) (Sound.lay0 [] (szHeapN ((X : Nat) : Int) ((Y : Nat) : Int) ((Z : Nat) : Int) 1048576 (by first | omega | assumption | decide)) trivial rfl trivial rfl (by first | rfl | simp [mpV, mpA, mpS, mpP, renId, shift]) rfl) ?_
  refine segEndH [2, 3, 5] (T1 := (mkT 119 [(2, vP 0 0), (3, vP 1 0), (5, vI 1048576)])) (by kernel_rfl) ?_
  refine kSeq ?_
  refine cSeq ?_
  refine cSeq ?_
  refine cReg ?_
  refine segEndH [2, 3, 5, 21] (T1 := (mkT 119 [(2, vP 0 0), (3, vP 1 0), (5, vI 1048576), (21, .bool false)])) (by kernel_rfl) ?_
  refine kSeq ?_
  refine cFalse (by kernel_rfl) ?_
  refine cSkip ?_
  refine kSeq ?_
  refine cSeq ?_
  refine cReg ?_
  refine segH 2 (T1 := (mkT 119 [(2, vP 0 0), (3, vP 1 0), (5, vI 1048576), (21, .bool false), (22, .agg #[vN X, vN Y, vN Z, .slice none 0 0]), (23, vI 1048576)])) (by kernel_rfl) ?_
  refine rCall (v := vI 1048576) (args := [.agg #[vN X, vN Y, vN Z, .slice none 0 0], vI 1048576]) (by kernel_rfl) rfl (by kernel_rfl) (Sound.lay0 [] (szHeapN ((X : Nat) : Int) ((Y : Nat) : Int) ((Z : Nat) : Int) 1048576 (by first | omega | assumption | decide)) trivial rfl trivial rfl (by first | rfl | simp [mpV, mpA, mpS, mpP, renId, shift]) rfl) ?_
  refine segEndH [2, 3, 5] (T1 := (mkT 119 [(2, vP 0 0), (3, vP 1 0), (5, vI 1048576)])) (by kernel_rfl) ?_
  refine kSeq ?_
  refine cSeq ?_
  refine cSeq ?_
  refine cReg ?_
  refine segEndH [2, 3, 26] (T1 := (mkT 119 [(2, vP 0 0), (3, vP 1 0), (26, .bool false)])) (by kernel_rfl) ?_
  refine kSeq ?_
  refine cFalse (by kernel_rfl) ?_
  refine cSkip ?_
  refine kSeq ?_
  refine cSeq ?_
  refine cRegW (N := 6) [⟨[], [], [0]⟩, ⟨[2], [], []⟩, ⟨[], [], [1]⟩, ⟨[3], [], []⟩, ⟨[4], [], [2, 3]⟩, ⟨[], [], []⟩, ⟨[], [], []⟩, ⟨[], [], []⟩, ⟨[5], [], []⟩, ⟨[], [5], []⟩, ⟨[], [], []⟩] 4 [2, 3, 4, 5] (by rfl) (by rfl) (by kernel_rfl) (by kernel_rfl) (by kernel_rfl) ⟨nmsX (by kernel_rfl), ⟨nmsX (by kernel_rfl), trivial⟩⟩ ?_
  refine segWH 1 (T1 := (mkT 119 [(2, vP 0 0), (3, vP 1 0), (26, .bool false), (28, .agg #[vN X, vN Y, vN Z, .slice none 0 0])])) (by kernel_rfl) ?_
  refine rW (m := ⟨[2], [], []⟩) (v := .agg #[vN X, vN Y, vN Z, vS 2 0]) rfl (by kernel_rfl) (stN (i := 2) (E := [some ⟨[], 25, false, true⟩]) (v1 := .agg #[vN X, vN Y, vN Z, vS 6 0]) (args := [.agg #[vN X, vN Y, vN Z, .slice none 0 0]]) rfl (by kernel_rfl) (Any.lay [] (toHeapN ((X : Nat) : Int) ((Y : Nat) : Int) ((Z : Nat) : Int)) trivial rfl trivial rfl (by first | rfl | simp [mpV, mpA, mpS, mpP, renId, shift]) (by first | rfl | simp [mpV, mpA, mpS, mpP, renId, shift]) ⟨enX rfl (Or.inl rfl), trivial⟩) rfl (by kernel_rfl) (by kernel_rfl) (by kernel_rfl) (by kernel_rfl) (FlatH.cons (flatRow_of rfl) FlatH.nil)) (by kernel_rfl) (NRs.all ⟨nrOf (by rfl) (nmX (by kernel_rfl)), trivial⟩) ?_
  refine segWH 1 (T1 := (mkT 119 [(2, vP 0 0), (3, vP 1 0), (26, .bool false), (28, .agg #[vN X, vN Y, vN Z, .slice none 0 0]), (29, .agg #[vN X, vN Y, vN Z, vS 2 0]), (30, .agg #[vN X, vN Y, vN Z, .slice none 0 0])])) (by kernel_rfl) ?_
  refine rW (m := ⟨[3], [], []⟩) (v := .agg #[vN X, vN Y, vN Z, vS 3 0]) rfl (by kernel_rfl) (stN (i := 3) (E := [some ⟨[], 25, false, true⟩]) (v1 := .agg #[vN X, vN Y, vN Z, vS 6 0]) (args := [.agg #[vN X, vN Y, vN Z, .slice none 0 0]]) rfl (by kernel_rfl) (Any.lay [] (toHeapN ((X : Nat) : Int) ((Y : Nat) : Int) ((Z : Nat) : Int)) trivial rfl trivial rfl (by first | rfl | simp [mpV, mpA, mpS, mpP, renId, shift]) (by first | rfl | simp [mpV, mpA, mpS, mpP, renId, shift]) ⟨enX rfl (Or.inl rfl), trivial⟩) rfl (by kernel_rfl) (by kernel_rfl) (by kernel_rfl) (by kernel_rfl) (FlatH.cons (flatRow_of rfl) FlatH.nil)) (by kernel_rfl) (NRs.all ⟨nrOf (by rfl) (nmX (by kernel_rfl)), trivial⟩) ?_
  refine rW (m := ⟨[4], [], [2, 3]⟩) (v := .tuple #[.agg #[vN X, vN Y, vN Z, vS 4 R.length], .bool true]) rfl (by kernel_rfl) (stN (i := 4) (E := [some ⟨a3s R, 25, false, true⟩]) (v1 := .tuple #[.agg #[vN X, vN Y, vN Z, vS 6 R.length], .bool true]) (args := [.agg #[vN X, vN Y, vN Z, vS 2 0], .agg #[vN X, vN Y, vN Z, vS 3 0]]) rfl (by kernel_rfl) (Any.lay [2, 3] (specJoinHeaps_yesR X Y Z ([] : List A3) ([] : List A3) R (by first | assumption | omega | rfl | decide | exact HeapL.list _ _ _ _ | exact HeapL.nil _ _ _ | exact HeapL.all _ _ _ | (apply HeapL.lt64 <;> assumption) | (repeat' (first | assumption | apply or_lt64 | apply and_lt64 | apply andn_lt64 | apply pow_lt64 | (apply HeapL.lt64 <;> assumption)))) (by first | assumption | omega | rfl | decide | exact HeapL.list _ _ _ _ | exact HeapL.nil _ _ _ | exact HeapL.all _ _ _ | (apply HeapL.lt64 <;> assumption) | (repeat' (first | assumption | apply or_lt64 | apply and_lt64 | apply andn_lt64 | apply pow_lt64 | (apply HeapL.lt64 <;> assumption)))) (by first | assumption | omega | rfl | decide | exact HeapL.list _ _ _ _ | exact HeapL.nil _ _ _ | exact HeapL.all _ _ _ | (apply HeapL.lt64 <;> assumption) | (repeat' (first | assumption | apply or_lt64 | apply and_lt64 | apply andn_lt64 | apply pow_lt64 | (apply HeapL.lt64 <;> assumption)))) (by first | assumption | omega | rfl | decide | exact HeapL.list _ _ _ _ | exact HeapL.nil _ _ _ | exact HeapL.all _ _ _ | (apply HeapL.lt64 <;> assumption) | (repeat' (first | assumption | apply or_lt64 | apply and_lt64 | apply andn_lt64 | apply pow_lt64 | (apply HeapL.lt64 <;> assumption))))) ⟨rdF true (flatA3 _ _ _ _) rfl rfl, ⟨rdF true (flatA3 _ _ _ _) rfl rfl, trivial⟩⟩ rfl ⟨clF (flatA3 _ _ _ _), ⟨clF (flatA3 _ _ _ _), trivial⟩⟩ rfl (by first | rfl | simp [mpV, mpA, mpS, mpP, renId, shift]) (by first | rfl | simp [mpV, mpA, mpS, mpP, renId, shift]) ⟨enF (flatA3 _ _ _ _) (Or.inl rfl), trivial⟩) rfl (by kernel_rfl) (by kernel_rfl) (by kernel_rfl) (by kernel_rfl) (FlatH.cons (flatA3 _ _ _ _) FlatH.nil)) (by kernel_rfl) (NRs.all ⟨nrOf (by rfl) (nmF (flatA3 _ _ _ _)), trivial⟩) ?_
  refine segWH 3 (T1 := (mkT 119 [(2, vP 0 0), (3, vP 1 0), (26, .bool false), (27, .tuple #[.agg #[vN X, vN Y, vN Z, vS 4 R.length], .bool true]), (28, .agg #[vN X, vN Y, vN Z, .slice none 0 0]), (29, .agg #[vN X, vN Y, vN Z, vS 2 0]), (30, .agg #[vN X, vN Y, vN Z, .slice none 0 0]), (31, .agg #[vN X, vN Y, vN Z, vS 3 0]), (32, .tuple #[.agg #[vN X, vN Y, vN Z, vS 4 R.length], .bool true]), (33, .agg #[vN X, vN Y, vN Z, vS 4 R.length]), (34, .bool true)])) (by kernel_rfl) ?_
  refine rW (m := ⟨[5], [], []⟩) (v := vP 5 0) rfl (by kernel_rfl) (stNew (i := 5) (v1 := vP 6 0) (r := ⟨[vI 0, vI 0, vI 0, .slice none 0 0], 29, true, true⟩) (by kernel_rfl) rfl (by kernel_rfl) (by kernel_rfl) (by kernel_rfl) (by kernel_rfl) (nmX (by kernel_rfl)) (clX (by kernel_rfl))) (by kernel_rfl) (NRs.all ⟨nrOf (by rfl) (nmX (by kernel_rfl)), trivial⟩) ?_
  refine rW (m := ⟨[], [5], []⟩) (v := .tuple #[]) rfl (by kernel_rfl) (stSet (b := 5) (r := ⟨[vN X, vN Y, vN Z, vS 4 R.length], 29, true, true⟩) (by kernel_rfl) rfl (by kernel_rfl) (by kernel_rfl) (by kernel_rfl) (by kernel_rfl) (nmX (by kernel_rfl)) (clX (by kernel_rfl))) (by kernel_rfl) (NRs.all ⟨nrOf (by rfl) (nmX (by kernel_rfl)), trivial⟩) ?_
  refine segEndW [2, 3, 6, 7] (T1 := (mkT 119 [(2, vP 0 0), (3, vP 1 0), (6, vP 5 0), (7, .bool true)])) (H1 := [rB [vN X, vN Y, vN Z, .slice none 0 0] 24, rB [vN X, vN Y, vN Z, .slice none 0 0] 24, some ⟨[], 25, false, true⟩, some ⟨[], 25, false, true⟩, some ⟨a3s R, 25, false, true⟩, rB [vN X, vN Y, vN Z, vS 4 R.length] 29]) (by kernel_rfl) ?_
  refine kSeq ?_
  refine cSeq ?_
  refine cReg ?_
  refine segH 1 (T1 := (mkT 119 [(2, vP 0 0), (3, vP 1 0), (6, vP 5 0), (7, .bool true), (35, .agg #[vN X, vN Y, vN Z, .slice none 0 0])])) (by kernel_rfl) ?_
  refine rCall (v := .agg #[vN X, vN Y, vN Z, vS 6 0]) (args := [.agg #[vN X, vN Y, vN Z, .slice none 0 0]]) (by kernel_rfl) rfl (by kernel_rfl) (Sound.lay (E := [some ⟨[], 25, false, true⟩]) [] (toHeapN ((X : Nat) : Int) ((Y : Nat) : Int) ((Z : Nat) : Int)) trivial rfl trivial rfl (by first | rfl | simp [mpV, mpA, mpS, mpP, renId, shift]) (by first | rfl | simp [mpV, mpA, mpS, mpP, renId, shift]) ⟨enX rfl (Or.inl rfl), trivial⟩) ?_
  refine segEnd [2, 3, 6, 7, 8] (T1 := (mkT 119 [(2, vP 0 0), (3, vP 1 0), (6, vP 5 0), (7, .bool true), (8, vP 7 0)])) (H1 := [rB [vN X, vN Y, vN Z, .slice none 0 0] 24, rB [vN X, vN Y, vN Z, .slice none 0 0] 24, some ⟨[], 25, false, true⟩, some ⟨[], 25, false, true⟩, some ⟨a3s R, 25, false, true⟩, rB [vN X, vN Y, vN Z, vS 4 R.length] 29, some ⟨[], 25, false, true⟩, rB [vN X, vN Y, vN Z, vS 6 0] 29]) (by kernel_rfl) ?_
  refine kSeq ?_
  refine cSeq ?_
  refine cReg ?_
  refine segH 1 (T1 := (mkT 119 [(2, vP 0 0), (3, vP 1 0), (6, vP 5 0), (7, .bool true), (8, vP 7 0), (37, .agg #[vN X, vN Y, vN Z, .slice none 0 0])])) (by kernel_rfl) ?_
  refine rCall (v := .agg #[vN X, vN Y, vN Z, vS 8 0]) (args := [.agg #[vN X, vN Y, vN Z, .slice none 0 0]]) (by kernel_rfl) rfl (by kernel_rfl) (Sound.lay (E := [some ⟨[], 25, false, true⟩]) [] (toHeapN ((X : Nat) : Int) ((Y : Nat) : Int) ((Z : Nat) : Int)) trivial rfl trivial rfl (by first | rfl | simp [mpV, mpA, mpS, mpP, renId, shift]) (by first | rfl | simp [mpV, mpA, mpS, mpP, renId, shift]) ⟨enX rfl (Or.inl rfl), trivial⟩) ?_
  refine segEnd [2, 3, 6, 7, 8, 9] (T1 := (mkT 119 [(2, vP 0 0), (3, vP 1 0), (6, vP 5 0), (7, .bool true), (8, vP 7 0), (9, vP 9 0)])) (H1 := [rB [vN X, vN Y, vN Z, .slice none 0 0] 24, rB [vN X, vN Y, vN Z, .slice none 0 0] 24, some ⟨[], 25, false, true⟩, some ⟨[], 25, false, true⟩, some ⟨a3s R, 25, false, true⟩, rB [vN X, vN Y, vN Z, vS 4 R.length] 29, some ⟨[], 25, false, true⟩, rB [vN X, vN Y, vN Z, vS 6 0] 29, some ⟨[], 25, false, true⟩, rB [vN X, vN Y, vN Z, vS 8 0] 29]) (by kernel_rfl) ?_
  refine kSeq ?_
  refine cSeq ?_
  refine cReg ?_
  refine segH 2 (T1 := (mkT 119 [(2, vP 0 0), (3, vP 1 0), (6, vP 5 0), (7, .bool true), (8, vP 7 0), (9, vP 9 0), (40, .agg #[vN X, vN Y, vN Z, vS 6 0]), (41, .agg #[vN X, vN Y, vN Z, vS 8 0])])) (by kernel_rfl) ?_
  refine rCall (v := .tuple #[.agg #[vN X, vN Y, vN Z, vS 10 R.length], .bool true]) (args := [.agg #[vN X, vN Y, vN Z, vS 6 0], .agg #[vN X, vN Y, vN Z, vS 8 0]]) (by kernel_rfl) rfl (by kernel_rfl) (Sound.lay (E := [some ⟨a3s R, 25, false, true⟩]) [6, 8] (implJoinHeaps_yesR X Y Z ([] : List A3) ([] : List A3) R (by first | assumption | omega | rfl | decide | exact HeapL.list _ _ _ _ | exact HeapL.nil _ _ _ | exact HeapL.all _ _ _ | (apply HeapL.lt64 <;> assumption) | (repeat' (first | assumption | apply or_lt64 | apply and_lt64 | apply andn_lt64 | apply pow_lt64 | (apply HeapL.lt64 <;> assumption)))) (by first | assumption | omega | rfl | decide | exact HeapL.list _ _ _ _ | exact HeapL.nil _ _ _ | exact HeapL.all _ _ _ | (apply HeapL.lt64 <;> assumption) | (repeat' (first | assumption | apply or_lt64 | apply and_lt64 | apply andn_lt64 | apply pow_lt64 | (apply HeapL.lt64 <;> assumption)))) (by first | assumption | omega | rfl | decide | exact HeapL.list _ _ _ _ | exact HeapL.nil _ _ _ | exact HeapL.all _ _ _ | (apply HeapL.lt64 <;> assumption) | (repeat' (first | assumption | apply or_lt64 | apply and_lt64 | apply andn_lt64 | apply pow_lt64 | (apply HeapL.lt64 <;> assumption)))) (by first | assumption | omega | rfl | decide | exact HeapL.list _ _ _ _ | exact HeapL.nil _ _ _ | exact HeapL.all _ _ _ | (apply HeapL.lt64 <;> assumption) | (repeat' (first | assumption | apply or_lt64 | apply and_lt64 | apply andn_lt64 | apply pow_lt64 | (apply HeapL.lt64 <;> assumption))))) ⟨rdF true (flatA3 _ _ _ _) rfl rfl, ⟨rdF true (flatA3 _ _ _ _) rfl rfl, trivial⟩⟩ rfl ⟨clF (flatA3 _ _ _ _), ⟨clF (flatA3 _ _ _ _), trivial⟩⟩ rfl (by first | rfl | simp [mpV, mpA, mpS, mpP, renId, shift]) (by first | rfl | simp [mpV, mpA, mpS, mpP, renId, shift]) ⟨enF (flatA3 _ _ _ _) (Or.inl rfl), trivial⟩) ?_
  refine segEnd [2, 3, 6, 7, 8, 9, 10, 11] (T1 := (mkT 119 [(2, vP 0 0), (3, vP 1 0), (6, vP 5 0), (7, .bool true), (8, vP 7 0), (9, vP 9 0), (10, vP 11 0), (11, .bool true)])) (H1 := [rB [vN X, vN Y, vN Z, .slice none 0 0] 24, rB [vN X, vN Y, vN Z, .slice none 0 0] 24, some ⟨[], 25, false, true⟩, some ⟨[], 25, false, true⟩, some ⟨a3s R, 25, false, true⟩, rB [vN X, vN Y, vN Z, vS 4 R.length] 29, some ⟨[], 25, false, true⟩, rB [vN X, vN Y, vN Z, vS 6 0] 29, some ⟨[], 25, false, true⟩, rB [vN X, vN Y, vN Z, vS 8 0] 29, some ⟨a3s R, 25, false, true⟩, rB [vN X, vN Y, vN Z, vS 10 R.length] 29]) (by kernel_rfl) ?_
  refine kSeq ?_
  refine cSeq ?_
  refine cSeq ?_
  refine cReg ?_
  refine segH 2 (T1 := (mkT 119 [(2, vP 0 0), (3, vP 1 0), (6, vP 5 0), (7, .bool true), (8, vP 7 0), (9, vP 9 0), (10, vP 11 0), (11, .bool true), (45, .agg #[vN X, vN Y, vN Z, vS 10 R.length]), (46, .agg #[vN X, vN Y, vN Z, vS 4 R.length])])) (by kernel_rfl) ?_
  refine rCall (v := .bool true) (args := [.agg #[vN X, vN Y, vN Z, vS 10 R.length], .agg #[vN X, vN Y, vN Z, vS 4 R.length]]) (by kernel_rfl) rfl (by kernel_rfl) (Sound.lay0 [10, 4] (eqHeapB ((X : Nat) : Int) ((Y : Nat) : Int) ((Z : Nat) : Int) R (by first | omega | assumption | (simp; done))) ⟨rdF true (flatA3 _ _ _ _) rfl rfl, ⟨rdF true (flatA3 _ _ _ _) rfl rfl, trivial⟩⟩ rfl ⟨clF (flatA3 _ _ _ _), ⟨clF (flatA3 _ _ _ _), trivial⟩⟩ rfl (by first | rfl | simp [mpV, mpA, mpS, mpP, renId, shift]) rfl) ?_
  refine segEndH [2, 3, 6, 7, 8, 9, 10, 11, 53] (T1 := (mkT 119 [(2, vP 0 0), (3, vP 1 0), (6, vP 5 0), (7, .bool true), (8, vP 7 0), (9, vP 9 0), (10, vP 11 0), (11, .bool true), (53, .bool false)])) (by kernel_rfl) ?_
  refine kSeq ?_
  refine cFalse (by kernel_rfl) ?_
  refine cSkip ?_
  refine kSeq ?_
  refine cSeq ?_
  refine cSeq ?_
  refine cRegW (N := 13) [⟨[], [], [7]⟩, ⟨[], [], [0]⟩, ⟨[12], [], []⟩, ⟨[], [], [6, 12]⟩, ⟨[], [], []⟩] 1 [12] (by rfl) (by rfl) (by kernel_rfl) (by kernel_rfl) (by kernel_rfl) ⟨nmsX (by kernel_rfl), ⟨nmsX (by kernel_rfl), ⟨nmsX (by kernel_rfl), ⟨nmsX (by kernel_rfl), ⟨nmsF (flatA3 _ _ _ _), ⟨nmsX (by kernel_rfl), ⟨nmsX (by kernel_rfl), ⟨nmsX (by kernel_rfl), ⟨nmsX (by kernel_rfl), ⟨nmsX (by kernel_rfl), ⟨nmsF (flatA3 _ _ _ _), ⟨nmsX (by kernel_rfl), trivial⟩⟩⟩⟩⟩⟩⟩⟩⟩⟩⟩⟩ ?_
  refine segWH 2 (T1 := (mkT 119 [(2, vP 0 0), (3, vP 1 0), (6, vP 5 0), (7, .bool true), (8, vP 7 0), (9, vP 9 0), (10, vP 11 0), (11, .bool true), (53, .bool false), (54, .agg #[vN X, vN Y, vN Z, vS 6 0]), (55, .agg #[vN X, vN Y, vN Z, .slice none 0 0])])) (by kernel_rfl) ?_
  refine rW (m := ⟨[12], [], []⟩) (v := .agg #[vN X, vN Y, vN Z, vS 12 0]) rfl (by kernel_rfl) (stN (i := 12) (E := [some ⟨[], 25, false, true⟩]) (v1 := .agg #[vN X, vN Y, vN Z, vS 13 0]) (args := [.agg #[vN X, vN Y, vN Z, .slice none 0 0]]) rfl (by kernel_rfl) (Any.lay [] (toHeapN ((X : Nat) : Int) ((Y : Nat) : Int) ((Z : Nat) : Int)) trivial rfl trivial rfl (by first | rfl | simp [mpV, mpA, mpS, mpP, renId, shift]) (by first | rfl | simp [mpV, mpA, mpS, mpP, renId, shift]) ⟨enX rfl (Or.inl rfl), trivial⟩) rfl (by kernel_rfl) (by kernel_rfl) (by kernel_rfl) (by kernel_rfl) (FlatH.cons (flatRow_of rfl) FlatH.nil)) (by kernel_rfl) (NRs.all ⟨nrOf (by rfl) (nmX (by kernel_rfl)), trivial⟩) ?_
  refine rW (m := ⟨[], [], [6, 12]⟩) (v := .bool true) rfl (by kernel_rfl) (stQ (args := [.agg #[vN X, vN Y, vN Z, vS 6 0], .agg #[vN X, vN Y, vN Z, vS 12 0]]) rfl (by kernel_rfl) (Any.lay0 [6, 12] (eqHeapB ((X : Nat) : Int) ((Y : Nat) : Int) ((Z : Nat) : Int) ([] : List A3) (by first | omega | assumption | (simp; done))) ⟨rdF true (flatA3 _ _ _ _) rfl rfl, ⟨rdF true (flatA3 _ _ _ _) rfl rfl, trivial⟩⟩ rfl ⟨clF (flatA3 _ _ _ _), ⟨clF (flatA3 _ _ _ _), trivial⟩⟩ rfl (by first | rfl | simp [mpV, mpA, mpS, mpP, renId, shift]) rfl) rfl (by kernel_rfl) (by kernel_rfl)) (by kernel_rfl) nr0 ?_
  refine segEndW [2, 3, 6, 7, 8, 9, 10, 11, 58] (T1 := (mkT 119 [(2, vP 0 0), (3, vP 1 0), (6, vP 5 0), (7, .bool true), (8, vP 7 0), (9, vP 9 0), (10, vP 11 0), (11, .bool true), (58, .bool false)])) (H1 := [rB [vN X, vN Y, vN Z, .slice none 0 0] 24, rB [vN X, vN Y, vN Z, .slice none 0 0] 24, some ⟨[], 25, false, true⟩, some ⟨[], 25, false, true⟩, some ⟨a3s R, 25, false, true⟩, rB [vN X, vN Y, vN Z, vS 4 R.length] 29, some ⟨[], 25, false, true⟩, rB [vN X, vN Y, vN Z, vS 6 0] 29, some ⟨[], 25, false, true⟩, rB [vN X, vN Y, vN Z, vS 8 0] 29, some ⟨a3s R, 25, false, true⟩, rB [vN X, vN Y, vN Z, vS 10 R.length] 29, some ⟨[], 25, false, true⟩]) (by kernel_rfl) ?_
  refine kSeq ?_
  refine cFalse (by kernel_rfl) ?_
  refine cSkip ?_
  refine kSeq ?_
  refine cSeq ?_
  refine cSeq ?_
  refine cRegW (N := 14) [⟨[], [], [9]⟩, ⟨[], [], [1]⟩, ⟨[13], [], []⟩, ⟨[], [], [8, 13]⟩, ⟨[], [], []⟩] 1 [13] (by rfl) (by rfl) (by kernel_rfl) (by kernel_rfl) (by kernel_rfl) ⟨nmsX (by kernel_rfl), ⟨nmsX (by kernel_rfl), ⟨nmsX (by kernel_rfl), ⟨nmsX (by kernel_rfl), ⟨nmsF (flatA3 _ _ _ _), ⟨nmsX (by kernel_rfl), ⟨nmsX (by kernel_rfl), ⟨nmsX (by kernel_rfl), ⟨nmsX (by kernel_rfl), ⟨nmsX (by kernel_rfl), ⟨nmsF (flatA3 _ _ _ _), ⟨nmsX (by kernel_rfl), ⟨nmsX (by kernel_rfl), trivial⟩⟩⟩⟩⟩⟩⟩⟩⟩⟩⟩⟩⟩ ?_
  refine segWH 2 (T1 := (mkT 119 [(2, vP 0 0), (3, vP 1 0), (6, vP 5 0), (7, .bool true), (8, vP 7 0), (9, vP 9 0), (10, vP 11 0), (11, .bool true), (58, .bool false), (59, .agg #[vN X, vN Y, vN Z, vS 8 0]), (60, .agg #[vN X, vN Y, vN Z, .slice none 0 0])])) (by kernel_rfl) ?_
  refine rW (m := ⟨[13], [], []⟩) (v := .agg #[vN X, vN Y, vN Z, vS 13 0]) rfl (by kernel_rfl) (stN (i := 13) (E := [some ⟨[], 25, false, true⟩]) (v1 := .agg #[vN X, vN Y, vN Z, vS 14 0]) (args := [.agg #[vN X, vN Y, vN Z, .slice none 0 0]]) rfl (by kernel_rfl) (Any.lay [] (toHeapN ((X : Nat) : Int) ((Y : Nat) : Int) ((Z : Nat) : Int)) trivial rfl trivial rfl (by first | rfl | simp [mpV, mpA, mpS, mpP, renId, shift]) (by first | rfl | simp [mpV, mpA, mpS, mpP, renId, shift]) ⟨enX rfl (Or.inl rfl), trivial⟩) rfl (by kernel_rfl) (by kernel_rfl) (by kernel_rfl) (by kernel_rfl) (FlatH.cons (flatRow_of rfl) FlatH.nil)) (by kernel_rfl) (NRs.all ⟨nrOf (by rfl) (nmX (by kernel_rfl)), trivial⟩) ?_
  refine rW (m := ⟨[], [], [8, 13]⟩) (v := .bool true) rfl (by kernel_rfl) (stQ (args := [.agg #[vN X, vN Y, vN Z, vS 8 0], .agg #[vN X, vN Y, vN Z, vS 13 0]]) rfl (by kernel_rfl) (Any.lay0 [8, 13] (eqHeapB ((X : Nat) : Int) ((Y : Nat) : Int) ((Z : Nat) : Int) ([] : List A3) (by first | omega | assumption | (simp; done))) ⟨rdF true (flatA3 _ _ _ _) rfl rfl, ⟨rdF true (flatA3 _ _ _ _) rfl rfl, trivial⟩⟩ rfl ⟨clF (flatA3 _ _ _ _), ⟨clF (flatA3 _ _ _ _), trivial⟩⟩ rfl (by first | rfl | simp [mpV, mpA, mpS, mpP, renId, shift]) rfl) rfl (by kernel_rfl) (by kernel_rfl)) (by kernel_rfl) nr0 ?_
  refine segEndW [2, 3, 6, 7, 8, 9, 10, 11, 63] (T1 := (mkT 119 [(2, vP 0 0), (3, vP 1 0), (6, vP 5 0), (7, .bool true), (8, vP 7 0), (9, vP 9 0), (10, vP 11 0), (11, .bool true), (63, .bool false)])) (H1 := [rB [vN X, vN Y, vN Z, .slice none 0 0] 24, rB [vN X, vN Y, vN Z, .slice none 0 0] 24, some ⟨[], 25, false, true⟩, some ⟨[], 25, false, true⟩, some ⟨a3s R, 25, false, true⟩, rB [vN X, vN Y, vN Z, vS 4 R.length] 29, some ⟨[], 25, false, true⟩, rB [vN X, vN Y, vN Z, vS 6 0] 29, some ⟨[], 25, false, true⟩, rB [vN X, vN Y, vN Z, vS 8 0] 29, some ⟨a3s R, 25, false, true⟩, rB [vN X, vN Y, vN Z, vS 10 R.length] 29, some ⟨[], 25, false, true⟩, some ⟨[], 25, false, true⟩]) (by kernel_rfl) ?_
  refine kSeq ?_
  refine cFalse (by kernel_rfl) ?_
  refine cSkip ?_
  refine kSeq ?_
  refine cSeq ?_
  refine cReg ?_
  refine segEndH [2, 3, 6, 7, 8, 9, 10, 11, 12] (T1 := (mkT 119 [(2, vP 0 0), (3, vP 1 0), (6, vP 5 0), (7, .bool true), (8, vP 7 0), (9, vP 9 0), (10, vP 11 0), (11, .bool true), (12, vI 1)])) (by kernel_rfl) ?_
  refine kSeq ?_
  refine cSeq ?_
  refine cReg ?_
  refine segH 2 (T1 := (mkT 119 [(2, vP 0 0), (3, vP 1 0), (6, vP 5 0), (7, .bool true), (8, vP 7 0), (9, vP 9 0), (10, vP 11 0), (11, .bool true), (12, vI 1), (64, .agg #[vN X, vN Y, vN Z, vS 6 0]), (65, vI 1)])) (by kernel_rfl) ?_
  refine rCall (v := vN (1 + 3 * ([] : List A3).length)) (args := [.agg #[vN X, vN Y, vN Z, vS 6 0], vI 1]) (by kernel_rfl) rfl (by kernel_rfl) (Sound.emb_set (r := ⟨a3s ([] : List A3), 25, false, true⟩) (r' := ⟨a3s (mk3 1 ([] : List A3).length), 25, false, true⟩) 6 (markHeapB ((X : Nat) : Int) ((Y : Nat) : Int) ((Z : Nat) : Int) ([] : List A3) 1 (by first | omega | assumption | (simp; done)) (by first | assumption | omega | rfl | decide | exact HeapL.list _ _ _ _ | exact HeapL.nil _ _ _ | exact HeapL.all _ _ _ | (apply HeapL.lt64 <;> assumption) | (repeat' (first | assumption | apply or_lt64 | apply and_lt64 | apply andn_lt64 | apply pow_lt64 | (apply HeapL.lt64 <;> assumption))))) (flatA3 _ _ _ _) rfl (flatA3 _ _ _ _) rfl rfl rfl (by first | rfl | simp [mpV, mpA, mpS, mpP, renId, shift]) rfl) ?_
  refine segEnd [2, 3, 6, 7, 9, 10, 11, 12] (T1 := (mkT 119 [(2, vP 0 0), (3, vP 1 0), (6, vP 5 0), (7, .bool true), (9, vP 9 0), (10, vP 11 0), (11, .bool true), (12, vN (1 + 3 * ([] : List A3).length))])) (H1 := [rB [vN X, vN Y, vN Z, .slice none 0 0] 24, rB [vN X, vN Y, vN Z, .slice none 0 0] 24, some ⟨[], 25, false, true⟩, some ⟨[], 25, false, true⟩, some ⟨a3s R, 25, false, true⟩, rB [vN X, vN Y, vN Z, vS 4 R.length] 29, some ⟨a3s (mk3 1 ([] : List A3).length), 25, false, true⟩, rB [vN X, vN Y, vN Z, vS 6 0] 29, some ⟨[], 25, false, true⟩, rB [vN X, vN Y, vN Z, vS 8 0] 29, some ⟨a3s R, 25, false, true⟩, rB [vN X, vN Y, vN Z, vS 10 R.length] 29, some ⟨[], 25, false, true⟩, some ⟨[], 25, false, true⟩]) (by kernel_rfl) ?_
  refine kSeq ?_
  refine cSeq ?_
  refine cReg ?_
  refine segH 2 (T1 := (mkT 119 [(2, vP 0 0), (3, vP 1 0), (6, vP 5 0), (7, .bool true), (9, vP 9 0), (10, vP 11 0), (11, .bool true), (12, vN (1 + 3 * ([] : List A3).length)), (67, .agg #[vN X, vN Y, vN Z, vS 8 0]), (68, vN (1 + 3 * ([] : List A3).length))])) (by kernel_rfl) ?_
  refine rCall (v := vN ((1 + 3 * ([] : List A3).length) + 3 * ([] : List A3).length)) (args := [.agg #[vN X, vN Y, vN Z, vS 8 0], vN (1 + 3 * ([] : List A3).length)]) (by kernel_rfl) rfl (by kernel_rfl) (Sound.emb_set (r := ⟨a3s ([] : List A3), 25, false, true⟩) (r' := ⟨a3s (mk3 (1 + 3 * ([] : List A3).length) ([] : List A3).length), 25, false, true⟩) 8 (markHeapB ((X : Nat) : Int) ((Y : Nat) : Int) ((Z : Nat) : Int) ([] : List A3) (1 + 3 * ([] : List A3).length) (by first | omega | assumption | (simp; done)) (by first | assumption | omega | rfl | decide | exact HeapL.list _ _ _ _ | exact HeapL.nil _ _ _ | exact HeapL.all _ _ _ | (apply HeapL.lt64 <;> assumption) | (repeat' (first | assumption | apply or_lt64 | apply and_lt64 | apply andn_lt64 | apply pow_lt64 | (apply HeapL.lt64 <;> assumption))))) (flatA3 _ _ _ _) rfl (flatA3 _ _ _ _) rfl rfl rfl (by first | rfl | simp [mpV, mpA, mpS, mpP, renId, shift]) rfl) ?_
  refine segEnd [2, 3, 6, 7, 10, 11, 12] (T1 := (mkT 119 [(2, vP 0 0), (3, vP 1 0), (6, vP 5 0), (7, .bool true), (10, vP 11 0), (11, .bool true), (12, vN ((1 + 3 * ([] : List A3).length) + 3 * ([] : List A3).length))])) (H1 := [rB [vN X, vN Y, vN Z, .slice none 0 0] 24, rB [vN X, vN Y, vN Z, .slice none 0 0] 24, some ⟨[], 25, false, true⟩, some ⟨[], 25, false, true⟩, some ⟨a3s R, 25, false, true⟩, rB [vN X, vN Y, vN Z, vS 4 R.length] 29, some ⟨a3s (mk3 1 ([] : List A3).length), 25, false, true⟩, rB [vN X, vN Y, vN Z, vS 6 0] 29, some ⟨a3s (mk3 (1 + 3 * ([] : List A3).length) ([] : List A3).length), 25, false, true⟩, rB [vN X, vN Y, vN Z, vS 8 0] 29, some ⟨a3s R, 25, false, true⟩, rB [vN X, vN Y, vN Z, vS 10 R.length] 29, some ⟨[], 25, false, true⟩, some ⟨[], 25, false, true⟩]) (by kernel_rfl) ?_
  refine kSeq ?_
  refine cSeq ?_
  refine cSeq ?_
  refine cReg ?_
  refine segH 3 (T1 := (mkT 119 [(2, vP 0 0), (3, vP 1 0), (6, vP 5 0), (7, .bool true), (10, vP 11 0), (11, .bool true), (12, vN ((1 + 3 * ([] : List A3).length) + 3 * ([] : List A3).length)), (70, vN ((1 + 3 * ([] : List A3).length) + 3 * ([] : List A3).length)), (71, .bool (decide ((((1 + 3 * ([] : List A3).length) + 3 * ([] : List A3).length : Nat) : Int) < 0))), (72, .bool (decide ((((1 + 3 * ([] : List A3).length) + 3 * ([] : List A3).length : Nat) : Int) < 0)))])) (by kernel_rfl) ?_
  cases h1 : (decide ((((1 + 3 * ([] : List A3).length) + 3 * ([] : List A3).length : Nat) : Int) < 0) : Bool)
  ·
    (try simp only [Bool.not_eq_true', Bool.not_eq_false', decide_eq_true_eq, decide_eq_false_iff_not, beq_iff_eq, bne_iff_ne, beq_eq_false_iff_ne, bne_eq_false_iff_eq, ne_eq, Decidable.not_not, Bool.and_eq_true, Bool.and_eq_false_imp, Bool.or_eq_true, Bool.or_eq_false_iff, Bool.not_eq_true, Int.not_lt, Int.not_le, ge_iff_le, gt_iff_lt] at h1)
    refine seg 2 (T1 := (mkT 119 [(2, vP 0 0), (3, vP 1 0), (6, vP 5 0), (7, .bool true), (10, vP 11 0), (11, .bool true), (12, vN ((1 + 3 * ([] : List A3).length) + 3 * ([] : List A3).length)), (70, vN ((1 + 3 * ([] : List A3).length) + 3 * ([] : List A3).length)), (71, .bool false), (72, .bool false), (73, .agg #[vN X, vN Y, vN Z, vS 10 R.length]), (74, .agg #[vN X, vN Y, vN Z, vS 4 R.length])])) (H1 := [rB [vN X, vN Y, vN Z, .slice none 0 0] 24, rB [vN X, vN Y, vN Z, .slice none 0 0] 24, some ⟨[], 25, false, true⟩, some ⟨[], 25, false, true⟩, some ⟨a3s R, 25, false, true⟩, rB [vN X, vN Y, vN Z, vS 4 R.length] 29, some ⟨a3s (mk3 1 ([] : List A3).length), 25, false, true⟩, rB [vN X, vN Y, vN Z, vS 6 0] 29, some ⟨a3s (mk3 (1 + 3 * ([] : List A3).length) ([] : List A3).length), 25, false, true⟩, rB [vN X, vN Y, vN Z, vS 8 0] 29, some ⟨a3s R, 25, false, true⟩, rB [vN X, vN Y, vN Z, vS 10 R.length] 29, some ⟨[], 25, false, true⟩, some ⟨[], 25, false, true⟩]) (by kernel_rfl) ?_
    refine rCall (v := .bool true) (args := [.agg #[vN X, vN Y, vN Z, vS 10 R.length], .agg #[vN X, vN Y, vN Z, vS 4 R.length]]) (by kernel_rfl) rfl (by kernel_rfl) (Sound.lay0 [10, 4] (eqHeapB ((X : Nat) : Int) ((Y : Nat) : Int) ((Z : Nat) : Int) R (by first | omega | assumption | (simp; done))) ⟨rdF true (flatA3 _ _ _ _) rfl rfl, ⟨rdF true (flatA3 _ _ _ _) rfl rfl, trivial⟩⟩ rfl ⟨clF (flatA3 _ _ _ _), ⟨clF (flatA3 _ _ _ _), trivial⟩⟩ rfl (by first | rfl | simp [mpV, mpA, mpS, mpP, renId, shift]) rfl) ?_
    refine segEnd [2, 3, 6, 7, 10, 82] (T1 := (mkT 119 [(2, vP 0 0), (3, vP 1 0), (6, vP 5 0), (7, .bool true), (10, vP 11 0), (82, .bool false)])) (H1 := [rB [vN X, vN Y, vN Z, .slice none 0 0] 24, rB [vN X, vN Y, vN Z, .slice none 0 0] 24, some ⟨[], 25, false, true⟩, some ⟨[], 25, false, true⟩, some ⟨a3s R, 25, false, true⟩, rB [vN X, vN Y, vN Z, vS 4 R.length] 29, some ⟨a3s (mk3 1 ([] : List A3).length), 25, false, true⟩, rB [vN X, vN Y, vN Z, vS 6 0] 29, some ⟨a3s (mk3 (1 + 3 * ([] : List A3).length) ([] : List A3).length), 25, false, true⟩, rB [vN X, vN Y, vN Z, vS 8 0] 29, some ⟨a3s R, 25, false, true⟩, rB [vN X, vN Y, vN Z, vS 10 R.length] 29, some ⟨[], 25, false, true⟩, some ⟨[], 25, false, true⟩]) (by kernel_rfl) ?_
    refine kSeq ?_
    refine cFalse (by kernel_rfl) ?_
    refine cSkip ?_
    refine kSeq ?_
    refine cSeq ?_
    refine cReg ?_
    refine segEndH [2, 3, 6, 7, 10, 13] (T1 := (mkT 119 [(2, vP 0 0), (3, vP 1 0), (6, vP 5 0), (7, .bool true), (10, vP 11 0), (13, vI 1)])) (by kernel_rfl) ?_
    refine kSeq ?_
    refine cSeq ?_
    refine cReg ?_
    refine segH 2 (T1 := (mkT 119 [(2, vP 0 0), (3, vP 1 0), (6, vP 5 0), (7, .bool true), (10, vP 11 0), (13, vI 1), (83, .agg #[vN X, vN Y, vN Z, vS 10 R.length]), (84, vI 1)])) (by kernel_rfl) ?_
    refine rCall (v := vN (1 + 3 * R.length)) (args := [.agg #[vN X, vN Y, vN Z, vS 10 R.length], vI 1]) (by kernel_rfl) rfl (by kernel_rfl) (Sound.emb_set (r := ⟨a3s R, 25, false, true⟩) (r' := ⟨a3s (mk3 1 R.length), 25, false, true⟩) 10 (markHeapB ((X : Nat) : Int) ((Y : Nat) : Int) ((Z : Nat) : Int) R 1 (by first | omega | assumption | (simp; done)) (by first | assumption | omega | rfl | decide | exact HeapL.list _ _ _ _ | exact HeapL.nil _ _ _ | exact HeapL.all _ _ _ | (apply HeapL.lt64 <;> assumption) | (repeat' (first | assumption | apply or_lt64 | apply and_lt64 | apply andn_lt64 | apply pow_lt64 | (apply HeapL.lt64 <;> assumption))))) (flatA3 _ _ _ _) rfl (flatA3 _ _ _ _) rfl rfl rfl (by first | rfl | simp [mpV, mpA, mpS, mpP, renId, shift]) rfl) ?_
    refine segEnd [2, 3, 6, 7, 10, 13] (T1 := (mkT 119 [(2, vP 0 0), (3, vP 1 0), (6, vP 5 0), (7, .bool true), (10, vP 11 0), (13, vN (1 + 3 * R.length))])) (H1 := [rB [vN X, vN Y, vN Z, .slice none 0 0] 24, rB [vN X, vN Y, vN Z, .slice none 0 0] 24, some ⟨[], 25, false, true⟩, some ⟨[], 25, false, true⟩, some ⟨a3s R, 25, false, true⟩, rB [vN X, vN Y, vN Z, vS 4 R.length] 29, some ⟨a3s (mk3 1 ([] : List A3).length), 25, false, true⟩, rB [vN X, vN Y, vN Z, vS 6 0] 29, some ⟨a3s (mk3 (1 + 3 * ([] : List A3).length) ([] : List A3).length), 25, false, true⟩, rB [vN X, vN Y, vN Z, vS 8 0] 29, some ⟨a3s (mk3 1 R.length), 25, false, true⟩, rB [vN X, vN Y, vN Z, vS 10 R.length] 29, some ⟨[], 25, false, true⟩, some ⟨[], 25, false, true⟩]) (by kernel_rfl) ?_
    refine kSeq ?_
    refine cSeq ?_
    refine cReg ?_
    refine segEndH [2, 3, 6, 7, 10, 13, 14] (T1 := (mkT 119 [(2, vP 0 0), (3, vP 1 0), (6, vP 5 0), (7, .bool true), (10, vP 11 0), (13, vN (1 + 3 * R.length)), (14, vI 1)])) (by kernel_rfl) ?_
    refine kSeq ?_
    refine cSeq ?_
    refine cReg ?_
    refine segH 2 (T1 := (mkT 119 [(2, vP 0 0), (3, vP 1 0), (6, vP 5 0), (7, .bool true), (10, vP 11 0), (13, vN (1 + 3 * R.length)), (14, vI 1), (86, .agg #[vN X, vN Y, vN Z, vS 10 R.length]), (87, vI 1)])) (by kernel_rfl) ?_
    refine rCall (v := vN (1 + 3 * R.length)) (args := [.agg #[vN X, vN Y, vN Z, vS 10 R.length], vI 1]) (by kernel_rfl) rfl (by kernel_rfl) (Sound.lay0 [10] (heldHeapB ((X : Nat) : Int) ((Y : Nat) : Int) ((Z : Nat) : Int) 1 R.length (by first | omega | assumption | (simp; done)) (by first | assumption | omega | rfl | decide | exact HeapL.list _ _ _ _ | exact HeapL.nil _ _ _ | exact HeapL.all _ _ _ | (apply HeapL.lt64 <;> assumption) | (repeat' (first | assumption | apply or_lt64 | apply and_lt64 | apply andn_lt64 | apply pow_lt64 | (apply HeapL.lt64 <;> assumption))))) ⟨rdF true (flatA3 _ _ _ _) rfl rfl, trivial⟩ rfl ⟨clF (flatA3 _ _ _ _), trivial⟩ rfl (by first | rfl | simp [mpV, mpA, mpS, mpP, renId, shift]) rfl) ?_
    refine segEndH [2, 3, 6, 7, 10, 13, 14] (T1 := (mkT 119 [(2, vP 0 0), (3, vP 1 0), (6, vP 5 0), (7, .bool true), (10, vP 11 0), (13, vN (1 + 3 * R.length)), (14, vN (1 + 3 * R.length))])) (by kernel_rfl) ?_
    refine kSeq ?_
    refine cSeq ?_
    refine cSeq ?_
    refine cReg ?_
    refine segEndH [2, 3, 6, 7, 10, 13, 14, 90] (T1 := (mkT 119 [(2, vP 0 0), (3, vP 1 0), (6, vP 5 0), (7, .bool true), (10, vP 11 0), (13, vN (1 + 3 * R.length)), (14, vN (1 + 3 * R.length)), (90, .bool (decide (((1 + 3 * R.length : Nat) : Int) < 0)))])) (by kernel_rfl) ?_
    refine kSeq ?_
    cases h2 : (decide (((1 + 3 * R.length : Nat) : Int) < 0) : Bool)
    ·
      (try simp only [Bool.not_eq_true', Bool.not_eq_false', decide_eq_true_eq, decide_eq_false_iff_not, beq_iff_eq, bne_iff_ne, beq_eq_false_iff_ne, bne_eq_false_iff_eq, ne_eq, Decidable.not_not, Bool.and_eq_true, Bool.and_eq_false_imp, Bool.or_eq_true, Bool.or_eq_false_iff, Bool.not_eq_true, Int.not_lt, Int.not_le, ge_iff_le, gt_iff_lt] at h2)
      refine cFalse (by kernel_rfl) ?_
      refine cSkip ?_
      refine kSeq ?_
      refine cSeq ?_
      refine cSeq ?_
      refine cReg ?_
      refine segH 2 (T1 := (mkT 119 [(2, vP 0 0), (3, vP 1 0), (6, vP 5 0), (7, .bool true), (10, vP 11 0), (13, vN (1 + 3 * R.length)), (14, vN (1 + 3 * R.length)), (90, .bool false), (91, vN (1 + 3 * R.length)), (92, vN (1 + 3 * R.length))])) (by kernel_rfl) ?_
      refine rOp (v := .bool false) (by kernel_rfl) (eNeS (k := .i64) (a := ((1 + 3 * R.length : Nat) : Int)) (by kernel_rfl) (by kernel_rfl)) ?_
      refine segEndH [2, 3, 6, 7, 10, 13, 93] (T1 := (mkT 119 [(2, vP 0 0), (3, vP 1 0), (6, vP 5 0), (7, .bool true), (10, vP 11 0), (13, vN (1 + 3 * R.length)), (93, .bool false)])) (by kernel_rfl) ?_
      refine kSeq ?_
      refine cFalse (by kernel_rfl) ?_
      refine cSkip ?_
      refine kSeq ?_
      refine cSeq ?_
      refine cRegW (N := 18) [⟨[], [], [0]⟩, ⟨[14], [], []⟩, ⟨[], [], [1]⟩, ⟨[15], [], []⟩, ⟨[16], [], [14, 15]⟩, ⟨[], [], []⟩, ⟨[], [], []⟩, ⟨[], [], []⟩, ⟨[17], [], []⟩, ⟨[], [17], []⟩, ⟨[], [], []⟩] 4 [14, 15, 16, 17] (by rfl) (by rfl) (by kernel_rfl) (by kernel_rfl) (by kernel_rfl) ⟨nmsX (by kernel_rfl), ⟨nmsX (by kernel_rfl), ⟨nmsX (by kernel_rfl), ⟨nmsX (by kernel_rfl), ⟨nmsF (flatA3 _ _ _ _), ⟨nmsX (by kernel_rfl), ⟨nmsF (flatA3 _ _ _ _), ⟨nmsX (by kernel_rfl), ⟨nmsF (flatA3 _ _ _ _), ⟨nmsX (by kernel_rfl), ⟨nmsF (flatA3 _ _ _ _), ⟨nmsX (by kernel_rfl), ⟨nmsX (by kernel_rfl), ⟨nmsX (by kernel_rfl), trivial⟩⟩⟩⟩⟩⟩⟩⟩⟩⟩⟩⟩⟩⟩ ?_
      refine segWH 1 (T1 := (mkT 119 [(2, vP 0 0), (3, vP 1 0), (6, vP 5 0), (7, .bool true), (10, vP 11 0), (13, vN (1 + 3 * R.length)), (93, .bool false), (95, .agg #[vN X, vN Y, vN Z, .slice none 0 0])])) (by kernel_rfl) ?_
      refine rW (m := ⟨[14], [], []⟩) (v := .agg #[vN X, vN Y, vN Z, vS 14 0]) rfl (by kernel_rfl) (stN (i := 14) (E := [some ⟨[], 25, false, true⟩]) (v1 := .agg #[vN X, vN Y, vN Z, vS 18 0]) (args := [.agg #[vN X, vN Y, vN Z, .slice none 0 0]]) rfl (by kernel_rfl) (Any.lay [] (toHeapN ((X : Nat) : Int) ((Y : Nat) : Int) ((Z : Nat) : Int)) trivial rfl trivial rfl (by first | rfl | simp [mpV, mpA, mpS, mpP, renId, shift]) (by first | rfl | simp [mpV, mpA, mpS, mpP, renId, shift]) ⟨enX rfl (Or.inl rfl), trivial⟩) rfl (by kernel_rfl) (by kernel_rfl) (by kernel_rfl) (by kernel_rfl) (FlatH.cons (flatRow_of rfl) FlatH.nil)) (by kernel_rfl) (NRs.all ⟨nrOf (by rfl) (nmX (by kernel_rfl)), trivial⟩) ?_
      refine segWH 1 (T1 := (mkT 119 [(2, vP 0 0), (3, vP 1 0), (6, vP 5 0), (7, .bool true), (10, vP 11 0), (13, vN (1 + 3 * R.length)), (93, .bool false), (95, .agg #[vN X, vN Y, vN Z, .slice none 0 0]), (96, .agg #[vN X, vN Y, vN Z, vS 14 0]), (97, .agg #[vN X, vN Y, vN Z, .slice none 0 0])])) (by kernel_rfl) ?_
      refine rW (m := ⟨[15], [], []⟩) (v := .agg #[vN X, vN Y, vN Z, vS 15 0]) rfl (by kernel_rfl) (stN (i := 15) (E := [some ⟨[], 25, false, true⟩]) (v1 := .agg #[vN X, vN Y, vN Z, vS 18 0]) (args := [.agg #[vN X, vN Y, vN Z, .slice none 0 0]]) rfl (by kernel_rfl) (Any.lay [] (toHeapN ((X : Nat) : Int) ((Y : Nat) : Int) ((Z : Nat) : Int)) trivial rfl trivial rfl (by first | rfl | simp [mpV, mpA, mpS, mpP, renId, shift]) (by first | rfl | simp [mpV, mpA, mpS, mpP, renId, shift]) ⟨enX rfl (Or.inl rfl), trivial⟩) rfl (by kernel_rfl) (by kernel_rfl) (by kernel_rfl) (by kernel_rfl) (FlatH.cons (flatRow_of rfl) FlatH.nil)) (by kernel_rfl) (NRs.all ⟨nrOf (by rfl) (nmX (by kernel_rfl)), trivial⟩) ?_
      refine rW (m := ⟨[16], [], [14, 15]⟩) (v := .tuple #[.agg #[vN X, vN Y, vN Z, vS 16 R.length], .bool true]) rfl (by kernel_rfl) (stN (i := 16) (E := [some ⟨a3s R, 25, false, true⟩]) (v1 := .tuple #[.agg #[vN X, vN Y, vN Z, vS 18 R.length], .bool true]) (args := [.agg #[vN X, vN Y, vN Z, vS 14 0], .agg #[vN X, vN Y, vN Z, vS 15 0]]) rfl (by kernel_rfl) (Any.lay [14, 15] (implJoinHeaps_yesR X Y Z ([] : List A3) ([] : List A3) R (by first | assumption | omega | rfl | decide | exact HeapL.list _ _ _ _ | exact HeapL.nil _ _ _ | exact HeapL.all _ _ _ | (apply HeapL.lt64 <;> assumption) | (repeat' (first | assumption | apply or_lt64 | apply and_lt64 | apply andn_lt64 | apply pow_lt64 | (apply HeapL.lt64 <;> assumption)))) (by first | assumption | omega | rfl | decide | exact HeapL.list _ _ _ _ | exact HeapL.nil _ _ _ | exact HeapL.all _ _ _ | (apply HeapL.lt64 <;> assumption) | (repeat' (first | assumption | apply or_lt64 | apply and_lt64 | apply andn_lt64 | apply pow_lt64 | (apply HeapL.lt64 <;> assumption)))) (by first | assumption | omega | rfl | decide | exact HeapL.list _ _ _ _ | exact HeapL.nil _ _ _ | exact HeapL.all _ _ _ | (apply HeapL.lt64 <;> assumption) | (repeat' (first | assumption | apply or_lt64 | apply and_lt64 | apply andn_lt64 | apply pow_lt64 | (apply HeapL.lt64 <;> assumption)))) (by first | assumption | omega | rfl | decide | exact HeapL.list _ _ _ _ | exact HeapL.nil _ _ _ | exact HeapL.all _ _ _ | (apply HeapL.lt64 <;> assumption) | (repeat' (first | assumption | apply or_lt64 | apply and_lt64 | apply andn_lt64 | apply pow_lt64 | (apply HeapL.lt64 <;> assumption))))) ⟨rdF true (flatA3 _ _ _ _) rfl rfl, ⟨rdF true (flatA3 _ _ _ _) rfl rfl, trivial⟩⟩ rfl ⟨clF (flatA3 _ _ _ _), ⟨clF (flatA3 _ _ _ _), trivial⟩⟩ rfl (by first | rfl | simp [mpV, mpA, mpS, mpP, renId, shift]) (by first | rfl | simp [mpV, mpA, mpS, mpP, renId, shift]) ⟨enF (flatA3 _ _ _ _) (Or.inl rfl), trivial⟩) rfl (by kernel_rfl) (by kernel_rfl) (by kernel_rfl) (by kernel_rfl) (FlatH.cons (flatA3 _ _ _ _) FlatH.nil)) (by kernel_rfl) (NRs.all ⟨nrOf (by rfl) (nmF (flatA3 _ _ _ _)), trivial⟩) ?_
      refine segWH 3 (T1 := (mkT 119 [(2, vP 0 0), (3, vP 1 0), (6, vP 5 0), (7, .bool true), (10, vP 11 0), (13, vN (1 + 3 * R.length)), (93, .bool false), (94, .tuple #[.agg #[vN X, vN Y, vN Z, vS 16 R.length], .bool true]), (95, .agg #[vN X, vN Y, vN Z, .slice none 0 0]), (96, .agg #[vN X, vN Y, vN Z, vS 14 0]), (97, .agg #[vN X, vN Y, vN Z, .slice none 0 0]), (98, .agg #[vN X, vN Y, vN Z, vS 15 0]), (99, .tuple #[.agg #[vN X, vN Y, vN Z, vS 16 R.length], .bool true]), (100, .agg #[vN X, vN Y, vN Z, vS 16 R.length]), (101, .bool true)])) (by kernel_rfl) ?_
      refine rW (m := ⟨[17], [], []⟩) (v := vP 17 0) rfl (by kernel_rfl) (stNew (i := 17) (v1 := vP 18 0) (r := ⟨[vI 0, vI 0, vI 0, .slice none 0 0], 29, true, true⟩) (by kernel_rfl) rfl (by kernel_rfl) (by kernel_rfl) (by kernel_rfl) (by kernel_rfl) (nmX (by kernel_rfl)) (clX (by kernel_rfl))) (by kernel_rfl) (NRs.all ⟨nrOf (by rfl) (nmX (by kernel_rfl)), trivial⟩) ?_
      refine rW (m := ⟨[], [17], []⟩) (v := .tuple #[]) rfl (by kernel_rfl) (stSet (b := 17) (r := ⟨[vN X, vN Y, vN Z, vS 16 R.length], 29, true, true⟩) (by kernel_rfl) rfl (by kernel_rfl) (by kernel_rfl) (by kernel_rfl) (by kernel_rfl) (nmX (by kernel_rfl)) (clX (by kernel_rfl))) (by kernel_rfl) (NRs.all ⟨nrOf (by rfl) (nmX (by kernel_rfl)), trivial⟩) ?_
      refine segEndW [6, 7, 10, 13, 15, 16] (T1 := (mkT 119 [(6, vP 5 0), (7, .bool true), (10, vP 11 0), (13, vN (1 + 3 * R.length)), (15, vP 17 0), (16, .bool true)])) (H1 := [rB [vN X, vN Y, vN Z, .slice none 0 0] 24, rB [vN X, vN Y, vN Z, .slice none 0 0] 24, some ⟨[], 25, false, true⟩, some ⟨[], 25, false, true⟩, some ⟨a3s R, 25, false, true⟩, rB [vN X, vN Y, vN Z, vS 4 R.length] 29, some ⟨a3s (mk3 1 ([] : List A3).length), 25, false, true⟩, rB [vN X, vN Y, vN Z, vS 6 0] 29, some ⟨a3s (mk3 (1 + 3 * ([] : List A3).length) ([] : List A3).length), 25, false, true⟩, rB [vN X, vN Y, vN Z, vS 8 0] 29, some ⟨a3s (mk3 1 R.length), 25, false, true⟩, rB [vN X, vN Y, vN Z, vS 10 R.length] 29, some ⟨[], 25, false, true⟩, some ⟨[], 25, false, true⟩, some ⟨[], 25, false, true⟩, some ⟨[], 25, false, true⟩, some ⟨a3s R, 25, false, true⟩, rB [vN X, vN Y, vN Z, vS 16 R.length] 29]) (by kernel_rfl) ?_
      refine kSeq ?_
      refine cSeq ?_
      refine cSeq ?_
      refine cReg ?_
      refine segH 2 (T1 := (mkT 119 [(6, vP 5 0), (7, .bool true), (10, vP 11 0), (13, vN (1 + 3 * R.length)), (15, vP 17 0), (16, .bool true), (102, .agg #[vN X, vN Y, vN Z, vS 16 R.length]), (103, .agg #[vN X, vN Y, vN Z, vS 4 R.length])])) (by kernel_rfl) ?_
      refine rCall (v := .bool true) (args := [.agg #[vN X, vN Y, vN Z, vS 16 R.length], .agg #[vN X, vN Y, vN Z, vS 4 R.length]]) (by kernel_rfl) rfl (by kernel_rfl) (Sound.lay0 [16, 4] (eqHeapB ((X : Nat) : Int) ((Y : Nat) : Int) ((Z : Nat) : Int) R (by first | omega | assumption | (simp; done))) ⟨rdF true (flatA3 _ _ _ _) rfl rfl, ⟨rdF true (flatA3 _ _ _ _) rfl rfl, trivial⟩⟩ rfl ⟨clF (flatA3 _ _ _ _), ⟨clF (flatA3 _ _ _ _), trivial⟩⟩ rfl (by first | rfl | simp [mpV, mpA, mpS, mpP, renId, shift]) rfl) ?_
      refine segEndH [10, 13, 110] (T1 := (mkT 119 [(10, vP 11 0), (13, vN (1 + 3 * R.length)), (110, .bool false)])) (by kernel_rfl) ?_
      refine kSeq ?_
      refine cFalse (by kernel_rfl) ?_
      refine cSkip ?_
      refine kSeq ?_
      refine cSeq ?_
      refine cReg ?_
      refine segEndH [10, 13, 14] (T1 := (mkT 119 [(10, vP 11 0), (13, vN (1 + 3 * R.length)), (14, vI 1)])) (by kernel_rfl) ?_
      refine kSeq ?_
      refine cSeq ?_
      refine cReg ?_
      refine segH 2 (T1 := (mkT 119 [(10, vP 11 0), (13, vN (1 + 3 * R.length)), (14, vI 1), (111, .agg #[vN X, vN Y, vN Z, vS 10 R.length]), (112, vI 1)])) (by kernel_rfl) ?_
      refine rCall (v := vN (1 + 3 * R.length)) (args := [.agg #[vN X, vN Y, vN Z, vS 10 R.length], vI 1]) (by kernel_rfl) rfl (by kernel_rfl) (Sound.lay0 [10] (heldHeapB ((X : Nat) : Int) ((Y : Nat) : Int) ((Z : Nat) : Int) 1 R.length (by first | omega | assumption | (simp; done)) (by first | assumption | omega | rfl | decide | exact HeapL.list _ _ _ _ | exact HeapL.nil _ _ _ | exact HeapL.all _ _ _ | (apply HeapL.lt64 <;> assumption) | (repeat' (first | assumption | apply or_lt64 | apply and_lt64 | apply andn_lt64 | apply pow_lt64 | (apply HeapL.lt64 <;> assumption))))) ⟨rdF true (flatA3 _ _ _ _) rfl rfl, trivial⟩ rfl ⟨clF (flatA3 _ _ _ _), trivial⟩ rfl (by first | rfl | simp [mpV, mpA, mpS, mpP, renId, shift]) rfl) ?_
      refine segEndH [13, 14] (T1 := (mkT 119 [(13, vN (1 + 3 * R.length)), (14, vN (1 + 3 * R.length))])) (by kernel_rfl) ?_
      refine kSeq ?_
      refine cSeq ?_
      refine cSeq ?_
      refine cReg ?_
      refine segEndH [13, 14, 115] (T1 := (mkT 119 [(13, vN (1 + 3 * R.length)), (14, vN (1 + 3 * R.length)), (115, .bool (decide (((1 + 3 * R.length : Nat) : Int) < 0)))])) (by kernel_rfl) ?_
      refine kSeq ?_
      cases h3 : (decide (((1 + 3 * R.length : Nat) : Int) < 0) : Bool)
      ·
        (try simp only [Bool.not_eq_true', Bool.not_eq_false', decide_eq_true_eq, decide_eq_false_iff_not, beq_iff_eq, bne_iff_ne, beq_eq_false_iff_ne, bne_eq_false_iff_eq, ne_eq, Decidable.not_not, Bool.and_eq_true, Bool.and_eq_false_imp, Bool.or_eq_true, Bool.or_eq_false_iff, Bool.not_eq_true, Int.not_lt, Int.not_le, ge_iff_le, gt_iff_lt] at h3)
        refine cFalse (by kernel_rfl) ?_
        refine cSkip ?_
        refine kSeq ?_
        refine cSeq ?_
        refine cSeq ?_
        refine cReg ?_
        refine segH 2 (T1 := (mkT 119 [(13, vN (1 + 3 * R.length)), (14, vN (1 + 3 * R.length)), (115, .bool false), (116, vN (1 + 3 * R.length)), (117, vN (1 + 3 * R.length))])) (by kernel_rfl) ?_
        refine rOp (v := .bool false) (by kernel_rfl) (eNeS (k := .i64) (a := ((1 + 3 * R.length : Nat) : Int)) (by kernel_rfl) (by kernel_rfl)) ?_
        refine segEndH [118] (T1 := (mkT 119 [(118, .bool false)])) (by kernel_rfl) ?_
        refine kSeq ?_
        refine cFalse (by kernel_rfl) ?_
        refine cSkip ?_
        refine kSeq ?_
        refine cSeq ?_
        refine cReg ?_
        refine segEndH [4] (T1 := (mkT 119 [(4, .bool true)])) (by kernel_rfl) ?_
        refine kSeq ?_
        refine cRet ?_
        -- end
        exact endQ (Or.inr rfl) (l := [.bool true]) [rB [vN X, vN Y, vN Z, .slice none 0 0] 24, rB [vN X, vN Y, vN Z, .slice none 0 0] 24, some ⟨[], 25, false, true⟩, some ⟨[], 25, false, true⟩, some ⟨a3s R, 25, false, true⟩, rB [vN X, vN Y, vN Z, vS 4 R.length] 29, some ⟨a3s (mk3 1 ([] : List A3).length), 25, false, true⟩, rB [vN X, vN Y, vN Z, vS 6 0] 29, some ⟨a3s (mk3 (1 + 3 * ([] : List A3).length) ([] : List A3).length), 25, false, true⟩, rB [vN X, vN Y, vN Z, vS 8 0] 29, some ⟨a3s (mk3 1 R.length), 25, false, true⟩, rB [vN X, vN Y, vN Z, vS 10 R.length] 29, some ⟨[], 25, false, true⟩, some ⟨[], 25, false, true⟩, some ⟨[], 25, false, true⟩, some ⟨[], 25, false, true⟩, some ⟨a3s R, 25, false, true⟩, rB [vN X, vN Y, vN Z, vS 16 R.length] 29] (by kernel_rfl) (by first | rfl | kernel_rfl) rfl rfl hcl rfl
      ·
        (try simp only [Bool.not_eq_true', Bool.not_eq_false', decide_eq_true_eq, decide_eq_false_iff_not, beq_iff_eq, bne_iff_ne, beq_eq_false_iff_ne, bne_eq_false_iff_eq, ne_eq, Decidable.not_not, Bool.and_eq_true, Bool.and_eq_false_imp, Bool.or_eq_true, Bool.or_eq_false_iff, Bool.not_eq_true, Int.not_lt, Int.not_le, ge_iff_le, gt_iff_lt] at h3)
        exfalso; omega
    ·
      (try simp only [Bool.not_eq_true', Bool.not_eq_false', decide_eq_true_eq, decide_eq_false_iff_not, beq_iff_eq, bne_iff_ne, beq_eq_false_iff_ne, bne_eq_false_iff_eq, ne_eq, Decidable.not_not, Bool.and_eq_true, Bool.and_eq_false_imp, Bool.or_eq_true, Bool.or_eq_false_iff, Bool.not_eq_true, Int.not_lt, Int.not_le, ge_iff_le, gt_iff_lt] at h2)
      exfalso; omega
  ·
    (try simp only [Bool.not_eq_true', Bool.not_eq_false', decide_eq_true_eq, decide_eq_false_iff_not, beq_iff_eq, bne_iff_ne, beq_eq_false_iff_ne, bne_eq_false_iff_eq, ne_eq, Decidable.not_not, Bool.and_eq_true, Bool.and_eq_false_imp, Bool.or_eq_true, Bool.or_eq_false_iff, Bool.not_eq_true, Int.not_lt, Int.not_le, ge_iff_le, gt_iff_lt] at h1)
    exfalso; omega
end Go.Proofs.Ytenkiofddpjidaa
