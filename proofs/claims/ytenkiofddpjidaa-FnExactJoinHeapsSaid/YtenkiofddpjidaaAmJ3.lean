/- Walks. No condition. -/
import Derived.Test.YtenkiofddpjidaaAmJ2
set_option linter.unusedVariables false
set_option linter.unusedSimpArgs false
namespace Go.Proofs.Ytenkiofddpjidaa
open Go.Am Go.RowKit
set_option maxRecDepth 100000 in
set_option maxHeartbeats 4000000 in
theorem l2AlikeB_any (x1 : Int) (y1 : Int) (z1 : Int) (L1 : List A3) (x2 : Int) (y2 : Int) (z2 : Int) (L2 : List A3) (hl1 : L1.length ≤ 1048576) (hl2 : L2.length ≤ 1048576) : Sound Try.prog 72 [.agg #[vI x1, vI y1, vI z1, vS 0 L1.length], .agg #[vI x2, vI y2, vI z2, vS 1 L2.length]] [some ⟨a3s L1, 25, false, false⟩, some ⟨a3s L2, 25, false, false⟩] (.bool (alikeB x1 y1 z1 L1 x2 y2 z2 L2)) [some ⟨a3s L1, 25, false, false⟩, some ⟨a3s L2, 25, false, false⟩] := by
  refine sound_intro (C := cx) Try.func72 rfl (by kernel_rfl) fun hcl => ?_
  refine cSeq ?_
  refine cReg ?_
  refine segEnd [2, 3] (T1 := (mkT 32 [(2, vP 2 0), (3, vP 3 0)])) (H1 := [some ⟨a3s L1, 25, false, false⟩, some ⟨a3s L2, 25, false, false⟩, rB [vI x1, vI y1, vI z1, vS 0 L1.length] 29, rB [vI x2, vI y2, vI z2, vS 1 L2.length] 29]) (by kernel_rfl) ?_
  refine kSeq ?_
  refine cSeq ?_
  refine cReg ?_
  refine segH 1 (T1 := (mkT 32 [(2, vP 2 0), (3, vP 3 0), (5, .agg #[vI x1, vI y1, vI z1, vS 0 L1.length])])) (by kernel_rfl) ?_
  refine rCall (v := .bool (isHeapB x1 y1 z1 L1)) (args := [.agg #[vI x1, vI y1, vI z1, vS 0 L1.length]]) (by kernel_rfl) rfl (by kernel_rfl) (Sound.lay0 [0] (l2HeapB_any x1 y1 z1 L1 (by first | omega | assumption | (simp; done))) ⟨rdF false (flatA3 _ _ _ _) rfl rfl, trivial⟩ rfl ⟨clF (flatA3 _ _ _ _), trivial⟩ rfl (by first | rfl | simp [mpV, mpA, mpS, mpP, renId, shift]) rfl) ?_
  refine segH 1 (T1 := (mkT 32 [(2, vP 2 0), (3, vP 3 0), (5, .agg #[vI x1, vI y1, vI z1, vS 0 L1.length]), (6, .bool (isHeapB x1 y1 z1 L1)), (7, .bool (isHeapB x1 y1 z1 L1))])) (by kernel_rfl) ?_
  cases h1 : (isHeapB x1 y1 z1 L1 : Bool)
  ·
    have h1k := h1
    (try simp only [Bool.not_eq_true', Bool.not_eq_false', decide_eq_true_eq, decide_eq_false_iff_not, beq_iff_eq, bne_iff_ne, beq_eq_false_iff_ne, bne_eq_false_iff_eq, ne_eq, Decidable.not_not, Bool.and_eq_true, Bool.and_eq_false_imp, Bool.or_eq_true, Bool.or_eq_false_iff, Bool.not_eq_true, Int.not_lt, Int.not_le, ge_iff_le, gt_iff_lt] at h1)
    refine segEnd [4] (T1 := (mkT 32 [(4, .bool false)])) (H1 := [some ⟨a3s L1, 25, false, false⟩, some ⟨a3s L2, 25, false, false⟩, rB [vI x1, vI y1, vI z1, vS 0 L1.length] 29, rB [vI x2, vI y2, vI z2, vS 1 L2.length] 29]) (by kernel_rfl) ?_
    refine kSeq ?_
    refine cRet ?_
    -- end
    have he0 : (false : Bool) = alikeB x1 y1 z1 L1 x2 y2 z2 L2 := by first | (simp only [alikeB, *]; done) | (simp_all [alikeB]; done)
    refine endCast (v1 := .bool false) (H1 := [some ⟨a3s L1, 25, false, false⟩, some ⟨a3s L2, 25, false, false⟩]) (by first | rfl | ((try rw [← he0]); done) | (simp only [← he0]; done)) (by first | rfl | ((try rw [← he0]); done) | (simp only [← he0]; done)) ?_
    exact endQ (Or.inr rfl) (l := [.bool false]) [rB [vI x1, vI y1, vI z1, vS 0 L1.length] 29, rB [vI x2, vI y2, vI z2, vS 1 L2.length] 29] (by kernel_rfl) (by first | rfl | kernel_rfl) rfl rfl hcl rfl
  ·
    have h1k := h1
    (try simp only [Bool.not_eq_true', Bool.not_eq_false', decide_eq_true_eq, decide_eq_false_iff_not, beq_iff_eq, bne_iff_ne, beq_eq_false_iff_ne, bne_eq_false_iff_eq, ne_eq, Decidable.not_not, Bool.and_eq_true, Bool.and_eq_false_imp, Bool.or_eq_true, Bool.or_eq_false_iff, Bool.not_eq_true, Int.not_lt, Int.not_le, ge_iff_le, gt_iff_lt] at h1)
    refine seg 1 (T1 := (mkT 32 [(2, vP 2 0), (3, vP 3 0), (5, .agg #[vI x1, vI y1, vI z1, vS 0 L1.length]), (6, .bool true), (7, .bool true), (8, .agg #[vI x2, vI y2, vI z2, vS 1 L2.length])])) (H1 := [some ⟨a3s L1, 25, false, false⟩, some ⟨a3s L2, 25, false, false⟩, rB [vI x1, vI y1, vI z1, vS 0 L1.length] 29, rB [vI x2, vI y2, vI z2, vS 1 L2.length] 29]) (by kernel_rfl) ?_
    refine rCall (v := .bool (isHeapB x2 y2 z2 L2)) (args := [.agg #[vI x2, vI y2, vI z2, vS 1 L2.length]]) (by kernel_rfl) rfl (by kernel_rfl) (Sound.lay0 [1] (l2HeapB_any x2 y2 z2 L2 (by first | omega | assumption | (simp; done))) ⟨rdF false (flatA3 _ _ _ _) rfl rfl, trivial⟩ rfl ⟨clF (flatA3 _ _ _ _), trivial⟩ rfl (by first | rfl | simp [mpV, mpA, mpS, mpP, renId, shift]) rfl) ?_
    refine seg 2 (T1 := (mkT 32 [(2, vP 2 0), (3, vP 3 0), (5, .agg #[vI x1, vI y1, vI z1, vS 0 L1.length]), (6, .bool true), (7, .bool true), (8, .agg #[vI x2, vI y2, vI z2, vS 1 L2.length]), (9, .bool (isHeapB x2 y2 z2 L2)), (10, .bool (isHeapB x2 y2 z2 L2)), (11, .bool (isHeapB x2 y2 z2 L2))])) (H1 := [some ⟨a3s L1, 25, false, false⟩, some ⟨a3s L2, 25, false, false⟩, rB [vI x1, vI y1, vI z1, vS 0 L1.length] 29, rB [vI x2, vI y2, vI z2, vS 1 L2.length] 29]) (by kernel_rfl) ?_
    cases h2 : (isHeapB x2 y2 z2 L2 : Bool)
    ·
      have h2k := h2
      (try simp only [Bool.not_eq_true', Bool.not_eq_false', decide_eq_true_eq, decide_eq_false_iff_not, beq_iff_eq, bne_iff_ne, beq_eq_false_iff_ne, bne_eq_false_iff_eq, ne_eq, Decidable.not_not, Bool.and_eq_true, Bool.and_eq_false_imp, Bool.or_eq_true, Bool.or_eq_false_iff, Bool.not_eq_true, Int.not_lt, Int.not_le, ge_iff_le, gt_iff_lt] at h2)
      refine segEnd [4] (T1 := (mkT 32 [(4, .bool false)])) (H1 := [some ⟨a3s L1, 25, false, false⟩, some ⟨a3s L2, 25, false, false⟩, rB [vI x1, vI y1, vI z1, vS 0 L1.length] 29, rB [vI x2, vI y2, vI z2, vS 1 L2.length] 29]) (by kernel_rfl) ?_
      refine kSeq ?_
      refine cRet ?_
      -- end
      have he0 : (false : Bool) = alikeB x1 y1 z1 L1 x2 y2 z2 L2 := by first | (simp only [alikeB, *]; done) | (simp_all [alikeB]; done)
      refine endCast (v1 := .bool false) (H1 := [some ⟨a3s L1, 25, false, false⟩, some ⟨a3s L2, 25, false, false⟩]) (by first | rfl | ((try rw [← he0]); done) | (simp only [← he0]; done)) (by first | rfl | ((try rw [← he0]); done) | (simp only [← he0]; done)) ?_
      exact endQ (Or.inr rfl) (l := [.bool false]) [rB [vI x1, vI y1, vI z1, vS 0 L1.length] 29, rB [vI x2, vI y2, vI z2, vS 1 L2.length] 29] (by kernel_rfl) (by first | rfl | kernel_rfl) rfl rfl hcl rfl
    ·
      have h2k := h2
      (try simp only [Bool.not_eq_true', Bool.not_eq_false', decide_eq_true_eq, decide_eq_false_iff_not, beq_iff_eq, bne_iff_ne, beq_eq_false_iff_ne, bne_eq_false_iff_eq, ne_eq, Decidable.not_not, Bool.and_eq_true, Bool.and_eq_false_imp, Bool.or_eq_true, Bool.or_eq_false_iff, Bool.not_eq_true, Int.not_lt, Int.not_le, ge_iff_le, gt_iff_lt] at h2)
      refine seg 7 (T1 := (mkT 32 [(2, vP 2 0), (3, vP 3 0), (5, .agg #[vI x1, vI y1, vI z1, vS 0 L1.length]), (6, .bool true), (7, .bool true), (8, .agg #[vI x2, vI y2, vI z2, vS 1 L2.length]), (9, .bool true), (10, .bool true), (11, .bool true), (12, vP 2 0), (13, vI x1), (14, vP 3 0), (15, vI x2), (16, .bool (x1 == x2)), (17, .bool (x1 == x2)), (18, .bool (x1 == x2))])) (H1 := [some ⟨a3s L1, 25, false, false⟩, some ⟨a3s L2, 25, false, false⟩, rB [vI x1, vI y1, vI z1, vS 0 L1.length] 29, rB [vI x2, vI y2, vI z2, vS 1 L2.length] 29]) (by kernel_rfl) ?_
      cases h3 : ((x1 == x2) : Bool)
      ·
        have h3k := h3
        (try simp only [Bool.not_eq_true', Bool.not_eq_false', decide_eq_true_eq, decide_eq_false_iff_not, beq_iff_eq, bne_iff_ne, beq_eq_false_iff_ne, bne_eq_false_iff_eq, ne_eq, Decidable.not_not, Bool.and_eq_true, Bool.and_eq_false_imp, Bool.or_eq_true, Bool.or_eq_false_iff, Bool.not_eq_true, Int.not_lt, Int.not_le, ge_iff_le, gt_iff_lt] at h3)
        refine segEnd [4] (T1 := (mkT 32 [(4, .bool false)])) (H1 := [some ⟨a3s L1, 25, false, false⟩, some ⟨a3s L2, 25, false, false⟩, rB [vI x1, vI y1, vI z1, vS 0 L1.length] 29, rB [vI x2, vI y2, vI z2, vS 1 L2.length] 29]) (by kernel_rfl) ?_
        refine kSeq ?_
        refine cRet ?_
        -- end
        have he0 : (false : Bool) = alikeB x1 y1 z1 L1 x2 y2 z2 L2 := by first | (simp only [alikeB, *]; done) | (simp_all [alikeB]; done)
        refine endCast (v1 := .bool false) (H1 := [some ⟨a3s L1, 25, false, false⟩, some ⟨a3s L2, 25, false, false⟩]) (by first | rfl | ((try rw [← he0]); done) | (simp only [← he0]; done)) (by first | rfl | ((try rw [← he0]); done) | (simp only [← he0]; done)) ?_
        exact endQ (Or.inr rfl) (l := [.bool false]) [rB [vI x1, vI y1, vI z1, vS 0 L1.length] 29, rB [vI x2, vI y2, vI z2, vS 1 L2.length] 29] (by kernel_rfl) (by first | rfl | kernel_rfl) rfl rfl hcl rfl
      ·
        have h3k := h3
        (try simp only [Bool.not_eq_true', Bool.not_eq_false', decide_eq_true_eq, decide_eq_false_iff_not, beq_iff_eq, bne_iff_ne, beq_eq_false_iff_ne, bne_eq_false_iff_eq, ne_eq, Decidable.not_not, Bool.and_eq_true, Bool.and_eq_false_imp, Bool.or_eq_true, Bool.or_eq_false_iff, Bool.not_eq_true, Int.not_lt, Int.not_le, ge_iff_le, gt_iff_lt] at h3)
        refine seg 7 (T1 := (mkT 32 [(2, vP 2 0), (3, vP 3 0), (5, .agg #[vI x1, vI y1, vI z1, vS 0 L1.length]), (6, .bool true), (7, .bool true), (8, .agg #[vI x2, vI y2, vI z2, vS 1 L2.length]), (9, .bool true), (10, .bool true), (11, .bool true), (12, vP 2 0), (13, vI x1), (14, vP 3 0), (15, vI x2), (16, .bool true), (17, .bool true), (18, .bool true), (19, vP 2 1), (20, vI y1), (21, vP 3 1), (22, vI y2), (23, .bool (y1 == y2)), (24, .bool (y1 == y2)), (25, .bool (y1 == y2))])) (H1 := [some ⟨a3s L1, 25, false, false⟩, some ⟨a3s L2, 25, false, false⟩, rB [vI x1, vI y1, vI z1, vS 0 L1.length] 29, rB [vI x2, vI y2, vI z2, vS 1 L2.length] 29]) (by kernel_rfl) ?_
        cases h4 : ((y1 == y2) : Bool)
        ·
          have h4k := h4
          (try simp only [Bool.not_eq_true', Bool.not_eq_false', decide_eq_true_eq, decide_eq_false_iff_not, beq_iff_eq, bne_iff_ne, beq_eq_false_iff_ne, bne_eq_false_iff_eq, ne_eq, Decidable.not_not, Bool.and_eq_true, Bool.and_eq_false_imp, Bool.or_eq_true, Bool.or_eq_false_iff, Bool.not_eq_true, Int.not_lt, Int.not_le, ge_iff_le, gt_iff_lt] at h4)
          refine segEnd [4] (T1 := (mkT 32 [(4, .bool false)])) (H1 := [some ⟨a3s L1, 25, false, false⟩, some ⟨a3s L2, 25, false, false⟩, rB [vI x1, vI y1, vI z1, vS 0 L1.length] 29, rB [vI x2, vI y2, vI z2, vS 1 L2.length] 29]) (by kernel_rfl) ?_
          refine kSeq ?_
          refine cRet ?_
          -- end
          have he0 : (false : Bool) = alikeB x1 y1 z1 L1 x2 y2 z2 L2 := by first | (simp only [alikeB, *]; done) | (simp_all [alikeB]; done)
          refine endCast (v1 := .bool false) (H1 := [some ⟨a3s L1, 25, false, false⟩, some ⟨a3s L2, 25, false, false⟩]) (by first | rfl | ((try rw [← he0]); done) | (simp only [← he0]; done)) (by first | rfl | ((try rw [← he0]); done) | (simp only [← he0]; done)) ?_
          exact endQ (Or.inr rfl) (l := [.bool false]) [rB [vI x1, vI y1, vI z1, vS 0 L1.length] 29, rB [vI x2, vI y2, vI z2, vS 1 L2.length] 29] (by kernel_rfl) (by first | rfl | kernel_rfl) rfl rfl hcl rfl
        ·
          have h4k := h4
          (try simp only [Bool.not_eq_true', Bool.not_eq_false', decide_eq_true_eq, decide_eq_false_iff_not, beq_iff_eq, bne_iff_ne, beq_eq_false_iff_ne, bne_eq_false_iff_eq, ne_eq, Decidable.not_not, Bool.and_eq_true, Bool.and_eq_false_imp, Bool.or_eq_true, Bool.or_eq_false_iff, Bool.not_eq_true, Int.not_lt, Int.not_le, ge_iff_le, gt_iff_lt] at h4)
          refine segEnd [4] (T1 := (mkT 32 [(4, .bool (z1 == z2))])) (H1 := [some ⟨a3s L1, 25, false, false⟩, some ⟨a3s L2, 25, false, false⟩, rB [vI x1, vI y1, vI z1, vS 0 L1.length] 29, rB [vI x2, vI y2, vI z2, vS 1 L2.length] 29]) (by kernel_rfl) ?_
          refine kSeq ?_
          refine cRet ?_
          -- end
          have he0 : ((z1 == z2) : Bool) = alikeB x1 y1 z1 L1 x2 y2 z2 L2 := by first | (simp only [alikeB, *]; done) | (simp_all [alikeB]; done)
          refine endCast (v1 := .bool (z1 == z2)) (H1 := [some ⟨a3s L1, 25, false, false⟩, some ⟨a3s L2, 25, false, false⟩]) (by first | rfl | ((try rw [← he0]); done) | (simp only [← he0]; done)) (by first | rfl | ((try rw [← he0]); done) | (simp only [← he0]; done)) ?_
          exact endQ (Or.inr rfl) (l := [.bool (z1 == z2)]) [rB [vI x1, vI y1, vI z1, vS 0 L1.length] 29, rB [vI x2, vI y2, vI z2, vS 1 L2.length] 29] (by kernel_rfl) (by first | rfl | kernel_rfl) rfl rfl hcl rfl

theorem l2AlikeB_no (x1 : Int) (y1 : Int) (z1 : Int) (L1 : List A3) (x2 : Int) (y2 : Int) (z2 : Int) (L2 : List A3) (hl1 : L1.length ≤ 1048576) (hl2 : L2.length ≤ 1048576) (hv : (alikeB x1 y1 z1 L1 x2 y2 z2 L2) = false) : Sound Try.prog 72 [.agg #[vI x1, vI y1, vI z1, vS 0 L1.length], .agg #[vI x2, vI y2, vI z2, vS 1 L2.length]] [some ⟨a3s L1, 25, false, false⟩, some ⟨a3s L2, 25, false, false⟩] (.bool false) [some ⟨a3s L1, 25, false, false⟩, some ⟨a3s L2, 25, false, false⟩] := by
  have h := l2AlikeB_any x1 y1 z1 L1 x2 y2 z2 L2 hl1 hl2; rw [hv] at h; exact h

theorem l2AlikeB (X : Nat) (Y : Nat) (Z : Nat) (L1 : List A3) (L2 : List A3) (hs : Sides X Y Z) (hL1 : HeapL X Y Z L1) (hL2 : HeapL X Y Z L2) : Sound Try.prog 72 [.agg #[vN X, vN Y, vN Z, vS 0 L1.length], .agg #[vN X, vN Y, vN Z, vS 1 L2.length]] [some ⟨a3s L1, 25, false, false⟩, some ⟨a3s L2, 25, false, false⟩] (.bool true) [some ⟨a3s L1, 25, false, false⟩, some ⟨a3s L2, 25, false, false⟩] := by
  have h := l2AlikeB_any X Y Z L1 X Y Z L2 (by have := hL1.len; have := hs.size; omega) (by have := hL2.len; have := hs.size; omega); rw [alike_of hs hL1 hL2] at h; exact h

set_option maxRecDepth 100000 in
set_option maxHeartbeats 4000000 in
theorem areAlikeB_any (x1 : Int) (y1 : Int) (z1 : Int) (L1 : List A3) (x2 : Int) (y2 : Int) (z2 : Int) (L2 : List A3) (hl1 : L1.length ≤ 1048576) (hl2 : L2.length ≤ 1048576) : Sound Try.prog 74 [.agg #[vI x1, vI y1, vI z1, vS 0 L1.length], .agg #[vI x2, vI y2, vI z2, vS 1 L2.length]] [some ⟨a3s L1, 25, false, false⟩, some ⟨a3s L2, 25, false, false⟩] (.bool (alikeB x1 y1 z1 L1 x2 y2 z2 L2)) [some ⟨a3s L1, 25, false, false⟩, some ⟨a3s L2, 25, false, false⟩] := by
  refine sound_intro (C := cx) Try.func74 rfl (by kernel_rfl) fun hcl => ?_
  refine cSeq ?_
  refine cReg ?_
  refine segEnd [2, 3] (T1 := (mkT 18 [(2, vP 2 0), (3, vP 3 0)])) (H1 := [some ⟨a3s L1, 25, false, false⟩, some ⟨a3s L2, 25, false, false⟩, rB [vI x1, vI y1, vI z1, vS 0 L1.length] 29, rB [vI x2, vI y2, vI z2, vS 1 L2.length] 29]) (by kernel_rfl) ?_
  refine kSeq ?_
  refine cSeq ?_
  refine cRegW (N := 4) [⟨[], [], [2]⟩, ⟨[], [], [0]⟩, ⟨[], [], []⟩, ⟨[], [], [3]⟩, ⟨[], [], [1]⟩, ⟨[], [], []⟩, ⟨[], [], []⟩, ⟨[], [], [2]⟩, ⟨[], [], [0]⟩, ⟨[], [], [3]⟩, ⟨[], [], [1]⟩, ⟨[], [], []⟩, ⟨[], [], []⟩, ⟨[], [], []⟩] 0 [] (by rfl) (by rfl) (by kernel_rfl) (by kernel_rfl) (by kernel_rfl) ⟨nmsF (flatA3 _ _ _ _), ⟨nmsF (flatA3 _ _ _ _), ⟨nmsX (by kernel_rfl), ⟨nmsX (by kernel_rfl), trivial⟩⟩⟩⟩ ?_
  refine segWH 1 (T1 := (mkT 18 [(2, vP 2 0), (3, vP 3 0), (5, .agg #[vI x1, vI y1, vI z1, vS 0 L1.length])])) (by kernel_rfl) ?_
  refine rW (m := ⟨[], [], [0]⟩) (v := .bool (isHeapB x1 y1 z1 L1)) rfl (by kernel_rfl) (stQ (args := [.agg #[vI x1, vI y1, vI z1, vS 0 L1.length]]) rfl (by kernel_rfl) (Any.lay0 [0] (isHeapBt_any x1 y1 z1 L1 (by first | omega | assumption | (simp; done))) ⟨rdF false (flatA3 _ _ _ _) rfl rfl, trivial⟩ rfl ⟨clF (flatA3 _ _ _ _), trivial⟩ rfl (by first | rfl | simp [mpV, mpA, mpS, mpP, renId, shift]) rfl) rfl (by kernel_rfl) (by kernel_rfl)) (by kernel_rfl) nr0 ?_
  refine segWH 1 (T1 := (mkT 18 [(2, vP 2 0), (3, vP 3 0), (5, .agg #[vI x1, vI y1, vI z1, vS 0 L1.length]), (6, .bool (isHeapB x1 y1 z1 L1)), (7, .bool (isHeapB x1 y1 z1 L1))])) (by kernel_rfl) ?_
  cases h1 : (isHeapB x1 y1 z1 L1 : Bool)
  ·
    have h1k := h1
    (try simp only [Bool.not_eq_true', Bool.not_eq_false', decide_eq_true_eq, decide_eq_false_iff_not, beq_iff_eq, bne_iff_ne, beq_eq_false_iff_ne, bne_eq_false_iff_eq, ne_eq, Decidable.not_not, Bool.and_eq_true, Bool.and_eq_false_imp, Bool.or_eq_true, Bool.or_eq_false_iff, Bool.not_eq_true, Int.not_lt, Int.not_le, ge_iff_le, gt_iff_lt] at h1)
    refine segEndW [4] (T1 := (mkT 18 [(4, .bool false)])) (H1 := [some ⟨a3s L1, 25, false, false⟩, some ⟨a3s L2, 25, false, false⟩, rB [vI x1, vI y1, vI z1, vS 0 L1.length] 29, rB [vI x2, vI y2, vI z2, vS 1 L2.length] 29]) (by kernel_rfl) ?_
    refine kSeq ?_
    refine cRet ?_
    -- end
    have he0 : (false : Bool) = alikeB x1 y1 z1 L1 x2 y2 z2 L2 := by first | (simp only [alikeB, *]; done) | (simp_all [alikeB]; done)
    refine endCast (v1 := .bool false) (H1 := [some ⟨a3s L1, 25, false, false⟩, some ⟨a3s L2, 25, false, false⟩]) (by first | rfl | ((try rw [← he0]); done) | (simp only [← he0]; done)) (by first | rfl | ((try rw [← he0]); done) | (simp only [← he0]; done)) ?_
    exact endQ (Or.inr rfl) (l := [.bool false]) [rB [vI x1, vI y1, vI z1, vS 0 L1.length] 29, rB [vI x2, vI y2, vI z2, vS 1 L2.length] 29] (by kernel_rfl) (by first | rfl | kernel_rfl) rfl rfl hcl rfl
  ·
    have h1k := h1
    (try simp only [Bool.not_eq_true', Bool.not_eq_false', decide_eq_true_eq, decide_eq_false_iff_not, beq_iff_eq, bne_iff_ne, beq_eq_false_iff_ne, bne_eq_false_iff_eq, ne_eq, Decidable.not_not, Bool.and_eq_true, Bool.and_eq_false_imp, Bool.or_eq_true, Bool.or_eq_false_iff, Bool.not_eq_true, Int.not_lt, Int.not_le, ge_iff_le, gt_iff_lt] at h1)
    refine segWH 1 (T1 := (mkT 18 [(2, vP 2 0), (3, vP 3 0), (5, .agg #[vI x1, vI y1, vI z1, vS 0 L1.length]), (6, .bool true), (7, .bool true), (8, .agg #[vI x2, vI y2, vI z2, vS 1 L2.length])])) (by kernel_rfl) ?_
    refine rW (m := ⟨[], [], [1]⟩) (v := .bool (isHeapB x2 y2 z2 L2)) rfl (by kernel_rfl) (stQ (args := [.agg #[vI x2, vI y2, vI z2, vS 1 L2.length]]) rfl (by kernel_rfl) (Any.lay0 [1] (isHeapBt_any x2 y2 z2 L2 (by first | omega | assumption | (simp; done))) ⟨rdF false (flatA3 _ _ _ _) rfl rfl, trivial⟩ rfl ⟨clF (flatA3 _ _ _ _), trivial⟩ rfl (by first | rfl | simp [mpV, mpA, mpS, mpP, renId, shift]) rfl) rfl (by kernel_rfl) (by kernel_rfl)) (by kernel_rfl) nr0 ?_
    refine segWH 2 (T1 := (mkT 18 [(2, vP 2 0), (3, vP 3 0), (5, .agg #[vI x1, vI y1, vI z1, vS 0 L1.length]), (6, .bool true), (7, .bool true), (8, .agg #[vI x2, vI y2, vI z2, vS 1 L2.length]), (9, .bool (isHeapB x2 y2 z2 L2)), (10, .bool (isHeapB x2 y2 z2 L2)), (11, .bool (isHeapB x2 y2 z2 L2))])) (by kernel_rfl) ?_
    cases h2 : (isHeapB x2 y2 z2 L2 : Bool)
    ·
      have h2k := h2
      (try simp only [Bool.not_eq_true', Bool.not_eq_false', decide_eq_true_eq, decide_eq_false_iff_not, beq_iff_eq, bne_iff_ne, beq_eq_false_iff_ne, bne_eq_false_iff_eq, ne_eq, Decidable.not_not, Bool.and_eq_true, Bool.and_eq_false_imp, Bool.or_eq_true, Bool.or_eq_false_iff, Bool.not_eq_true, Int.not_lt, Int.not_le, ge_iff_le, gt_iff_lt] at h2)
      refine segEndW [4] (T1 := (mkT 18 [(4, .bool false)])) (H1 := [some ⟨a3s L1, 25, false, false⟩, some ⟨a3s L2, 25, false, false⟩, rB [vI x1, vI y1, vI z1, vS 0 L1.length] 29, rB [vI x2, vI y2, vI z2, vS 1 L2.length] 29]) (by kernel_rfl) ?_
      refine kSeq ?_
      refine cRet ?_
      -- end
      have he0 : (false : Bool) = alikeB x1 y1 z1 L1 x2 y2 z2 L2 := by first | (simp only [alikeB, *]; done) | (simp_all [alikeB]; done)
      refine endCast (v1 := .bool false) (H1 := [some ⟨a3s L1, 25, false, false⟩, some ⟨a3s L2, 25, false, false⟩]) (by first | rfl | ((try rw [← he0]); done) | (simp only [← he0]; done)) (by first | rfl | ((try rw [← he0]); done) | (simp only [← he0]; done)) ?_
      exact endQ (Or.inr rfl) (l := [.bool false]) [rB [vI x1, vI y1, vI z1, vS 0 L1.length] 29, rB [vI x2, vI y2, vI z2, vS 1 L2.length] 29] (by kernel_rfl) (by first | rfl | kernel_rfl) rfl rfl hcl rfl
    ·
      have h2k := h2
      (try simp only [Bool.not_eq_true', Bool.not_eq_false', decide_eq_true_eq, decide_eq_false_iff_not, beq_iff_eq, bne_iff_ne, beq_eq_false_iff_ne, bne_eq_false_iff_eq, ne_eq, Decidable.not_not, Bool.and_eq_true, Bool.and_eq_false_imp, Bool.or_eq_true, Bool.or_eq_false_iff, Bool.not_eq_true, Int.not_lt, Int.not_le, ge_iff_le, gt_iff_lt] at h2)
      refine segWH 1 (T1 := (mkT 18 [(2, vP 2 0), (3, vP 3 0), (5, .agg #[vI x1, vI y1, vI z1, vS 0 L1.length]), (6, .bool true), (7, .bool true), (8, .agg #[vI x2, vI y2, vI z2, vS 1 L2.length]), (9, .bool true), (10, .bool true), (11, .bool true), (12, .agg #[vI x1, vI y1, vI z1, vS 0 L1.length])])) (by kernel_rfl) ?_
      refine rW (m := ⟨[], [], [0]⟩) (v := .agg #[vI x1, vI y1, vI z1]) rfl (by kernel_rfl) (stQ (args := [.agg #[vI x1, vI y1, vI z1, vS 0 L1.length]]) rfl (by kernel_rfl) (Any.lay0 [0] (boxB x1 y1 z1 L1) ⟨rdF false (flatA3 _ _ _ _) rfl rfl, trivial⟩ rfl ⟨clF (flatA3 _ _ _ _), trivial⟩ rfl (by first | rfl | simp [mpV, mpA, mpS, mpP, renId, shift]) (by first | rfl | simp [mpV, mpA, mpS, mpP, renId, shift])) rfl (by kernel_rfl) (by kernel_rfl)) (by kernel_rfl) nr0 ?_
      refine segWH 1 (T1 := (mkT 18 [(2, vP 2 0), (3, vP 3 0), (5, .agg #[vI x1, vI y1, vI z1, vS 0 L1.length]), (6, .bool true), (7, .bool true), (8, .agg #[vI x2, vI y2, vI z2, vS 1 L2.length]), (9, .bool true), (10, .bool true), (11, .bool true), (12, .agg #[vI x1, vI y1, vI z1, vS 0 L1.length]), (13, .agg #[vI x1, vI y1, vI z1]), (14, .agg #[vI x2, vI y2, vI z2, vS 1 L2.length])])) (by kernel_rfl) ?_
      refine rW (m := ⟨[], [], [1]⟩) (v := .agg #[vI x2, vI y2, vI z2]) rfl (by kernel_rfl) (stQ (args := [.agg #[vI x2, vI y2, vI z2, vS 1 L2.length]]) rfl (by kernel_rfl) (Any.lay0 [1] (boxB x2 y2 z2 L2) ⟨rdF false (flatA3 _ _ _ _) rfl rfl, trivial⟩ rfl ⟨clF (flatA3 _ _ _ _), trivial⟩ rfl (by first | rfl | simp [mpV, mpA, mpS, mpP, renId, shift]) (by first | rfl | simp [mpV, mpA, mpS, mpP, renId, shift])) rfl (by kernel_rfl) (by kernel_rfl)) (by kernel_rfl) nr0 ?_
      refine segEndW [4] (T1 := (mkT 18 [(4, .bool ((x1 == x2) && ((y1 == y2) && ((z1 == z2) && true))))])) (H1 := [some ⟨a3s L1, 25, false, false⟩, some ⟨a3s L2, 25, false, false⟩, rB [vI x1, vI y1, vI z1, vS 0 L1.length] 29, rB [vI x2, vI y2, vI z2, vS 1 L2.length] 29]) (by kernel_rfl) ?_
      refine kSeq ?_
      refine cRet ?_
      -- end
      have he0 : (((x1 == x2) && ((y1 == y2) && ((z1 == z2) && true))) : Bool) = alikeB x1 y1 z1 L1 x2 y2 z2 L2 := by first | (simp only [alikeB, *]; done) | (simp_all [alikeB]; done)
      refine endCast (v1 := .bool ((x1 == x2) && ((y1 == y2) && ((z1 == z2) && true)))) (H1 := [some ⟨a3s L1, 25, false, false⟩, some ⟨a3s L2, 25, false, false⟩]) (by first | rfl | ((try rw [← he0]); done) | (simp only [← he0]; done)) (by first | rfl | ((try rw [← he0]); done) | (simp only [← he0]; done)) ?_
      exact endQ (Or.inr rfl) (l := [.bool ((x1 == x2) && ((y1 == y2) && ((z1 == z2) && true)))]) [rB [vI x1, vI y1, vI z1, vS 0 L1.length] 29, rB [vI x2, vI y2, vI z2, vS 1 L2.length] 29] (by kernel_rfl) (by first | rfl | kernel_rfl) rfl rfl hcl rfl

theorem areAlikeB_no (x1 : Int) (y1 : Int) (z1 : Int) (L1 : List A3) (x2 : Int) (y2 : Int) (z2 : Int) (L2 : List A3) (hl1 : L1.length ≤ 1048576) (hl2 : L2.length ≤ 1048576) (hv : (alikeB x1 y1 z1 L1 x2 y2 z2 L2) = false) : Sound Try.prog 74 [.agg #[vI x1, vI y1, vI z1, vS 0 L1.length], .agg #[vI x2, vI y2, vI z2, vS 1 L2.length]] [some ⟨a3s L1, 25, false, false⟩, some ⟨a3s L2, 25, false, false⟩] (.bool false) [some ⟨a3s L1, 25, false, false⟩, some ⟨a3s L2, 25, false, false⟩] := by
  have h := areAlikeB_any x1 y1 z1 L1 x2 y2 z2 L2 hl1 hl2; rw [hv] at h; exact h

theorem areAlikeB (X : Nat) (Y : Nat) (Z : Nat) (L1 : List A3) (L2 : List A3) (hs : Sides X Y Z) (hL1 : HeapL X Y Z L1) (hL2 : HeapL X Y Z L2) : Sound Try.prog 74 [.agg #[vN X, vN Y, vN Z, vS 0 L1.length], .agg #[vN X, vN Y, vN Z, vS 1 L2.length]] [some ⟨a3s L1, 25, false, false⟩, some ⟨a3s L2, 25, false, false⟩] (.bool true) [some ⟨a3s L1, 25, false, false⟩, some ⟨a3s L2, 25, false, false⟩] := by
  have h := areAlikeB_any X Y Z L1 X Y Z L2 (by have := hL1.len; have := hs.size; omega) (by have := hL2.len; have := hs.size; omega); rw [alike_of hs hL1 hL2] at h; exact h

set_option maxRecDepth 100000 in
set_option maxHeartbeats 4000000 in
theorem specJoinHeaps_no (x1 : Int) (y1 : Int) (z1 : Int) (L1 : List A3) (x2 : Int) (y2 : Int) (z2 : Int) (L2 : List A3) (hl1 : L1.length ≤ 1048576) (hl2 : L2.length ≤ 1048576) (hv : (alikeB x1 y1 z1 L1 x2 y2 z2 L2) = false) : Sound Try.prog 34 [.agg #[vI x1, vI y1, vI z1, vS 0 L1.length], .agg #[vI x2, vI y2, vI z2, vS 1 L2.length]] [some ⟨a3s L1, 25, false, false⟩, some ⟨a3s L2, 25, false, false⟩] (.tuple #[.agg #[vI 0, vI 0, vI 0, .slice none 0 0], .bool false]) [some ⟨a3s L1, 25, false, false⟩, some ⟨a3s L2, 25, false, false⟩] := by
  refine sound_intro (C := cx) Try.func34 rfl (by kernel_rfl) fun hcl => ?_
  refine cSeq ?_
  refine cReg ?_
  refine segEnd [2, 3, 4] (T1 := (mkT 30 [(2, vP 2 0), (3, vP 3 0), (4, vP 4 0)])) (H1 := [some ⟨a3s L1, 25, false, false⟩, some ⟨a3s L2, 25, false, false⟩, rB [vI x1, vI y1, vI z1, vS 0 L1.length] 29, rB [vI x2, vI y2, vI z2, vS 1 L2.length] 29, rB [vI 0, vI 0, vI 0, .slice none 0 0] 29]) (by kernel_rfl) ?_
  refine kSeq ?_
  refine cSeq ?_
  refine cSeq ?_
  refine cReg ?_
  refine segH 2 (T1 := (mkT 30 [(2, vP 2 0), (3, vP 3 0), (4, vP 4 0), (8, .agg #[vI x1, vI y1, vI z1, vS 0 L1.length]), (9, .agg #[vI x2, vI y2, vI z2, vS 1 L2.length])])) (by kernel_rfl) ?_
  refine rCall (v := .bool false) (args := [.agg #[vI x1, vI y1, vI z1, vS 0 L1.length], .agg #[vI x2, vI y2, vI z2, vS 1 L2.length]]) (by kernel_rfl) rfl (by kernel_rfl) (Sound.lay0 [0, 1] (l2AlikeB_no x1 y1 z1 L1 x2 y2 z2 L2 (by first | assumption | omega | rfl | decide | exact HeapL.list _ _ _ _ | exact HeapL.nil _ _ _ | exact HeapL.all _ _ _ | (apply HeapL.lt64 <;> assumption) | (repeat' (first | assumption | apply or_lt64 | apply and_lt64 | apply andn_lt64 | apply pow_lt64 | (apply HeapL.lt64 <;> assumption)))) (by first | assumption | omega | rfl | decide | exact HeapL.list _ _ _ _ | exact HeapL.nil _ _ _ | exact HeapL.all _ _ _ | (apply HeapL.lt64 <;> assumption) | (repeat' (first | assumption | apply or_lt64 | apply and_lt64 | apply andn_lt64 | apply pow_lt64 | (apply HeapL.lt64 <;> assumption)))) (by first | assumption | omega | rfl | decide | exact HeapL.list _ _ _ _ | exact HeapL.nil _ _ _ | exact HeapL.all _ _ _ | (apply HeapL.lt64 <;> assumption) | (repeat' (first | assumption | apply or_lt64 | apply and_lt64 | apply andn_lt64 | apply pow_lt64 | (apply HeapL.lt64 <;> assumption))))) ⟨rdF false (flatA3 _ _ _ _) rfl rfl, ⟨rdF false (flatA3 _ _ _ _) rfl rfl, trivial⟩⟩ rfl ⟨clF (flatA3 _ _ _ _), ⟨clF (flatA3 _ _ _ _), trivial⟩⟩ rfl (by first | rfl | simp [mpV, mpA, mpS, mpP, renId, shift]) rfl) ?_
  refine segEndH [2, 3, 4, 11] (T1 := (mkT 30 [(2, vP 2 0), (3, vP 3 0), (4, vP 4 0), (11, .bool true)])) (by kernel_rfl) ?_
  refine kSeq ?_
  refine cTrue (by kernel_rfl) ?_
  refine cSeq ?_
  refine cReg ?_
  refine segEnd [4, 5] (T1 := (mkT 30 [(4, vP 4 0), (5, .bool false)])) (H1 := [some ⟨a3s L1, 25, false, false⟩, some ⟨a3s L2, 25, false, false⟩, rB [vI x1, vI y1, vI z1, vS 0 L1.length] 29, rB [vI x2, vI y2, vI z2, vS 1 L2.length] 29, rB [vI 0, vI 0, vI 0, .slice none 0 0] 29]) (by kernel_rfl) ?_
  refine kSeq ?_
  refine cRet ?_
  refine kSeqR ?_
  -- end
  exact endQ (Or.inr rfl) (l := [.agg #[vI 0, vI 0, vI 0, .slice none 0 0], .bool false]) [rB [vI x1, vI y1, vI z1, vS 0 L1.length] 29, rB [vI x2, vI y2, vI z2, vS 1 L2.length] 29, rB [vI 0, vI 0, vI 0, .slice none 0 0] 29] (by kernel_rfl) (by first | rfl | kernel_rfl) rfl rfl hcl rfl

set_option maxRecDepth 100000 in
set_option maxHeartbeats 4000000 in
theorem specJoinHeaps_yes (X : Nat) (Y : Nat) (Z : Nat) (L1 : List A3) (L2 : List A3) (hs : Sides X Y Z) (hL1 : HeapL X Y Z L1) (hL2 : HeapL X Y Z L2) : Sound Try.prog 34 [.agg #[vN X, vN Y, vN Z, vS 0 L1.length], .agg #[vN X, vN Y, vN Z, vS 1 L2.length]] [some ⟨a3s L1, 25, false, false⟩, some ⟨a3s L2, 25, false, false⟩] (.tuple #[.agg #[vN X, vN Y, vN Z, vS 2 ((listOf X Y Z (setOf Y Z L1 ||| setOf Y Z L2)).length)], .bool true]) [some ⟨a3s L1, 25, false, false⟩, some ⟨a3s L2, 25, false, false⟩, some ⟨a3s (listOf X Y Z (setOf Y Z L1 ||| setOf Y Z L2)), 25, false, true⟩] := by
  refine sound_intro (C := cx) Try.func34 rfl (by kernel_rfl) fun hcl => ?_
  have hz := hs.size
  have hx0 := hs.x0
  have hx4 := hs.x4
  have hy0 := hs.y0
  have hy4 := hs.y4
  have hz0 := hs.z0
  have hz4 := hs.z4
  have hlen1 := hL1.len
  have hlen2 := hL2.len
  have hlt1 := hL1.lt64 hs
  have hlt2 := hL2.lt64 hs
  refine cSeq ?_
  refine cReg ?_
  refine segEnd [2, 3, 4] (T1 := (mkT 30 [(2, vP 2 0), (3, vP 3 0), (4, vP 4 0)])) (H1 := [some ⟨a3s L1, 25, false, false⟩, some ⟨a3s L2, 25, false, false⟩, rB [vN X, vN Y, vN Z, vS 0 L1.length] 29, rB [vN X, vN Y, vN Z, vS 1 L2.length] 29, rB [vI 0, vI 0, vI 0, .slice none 0 0] 29]) (by kernel_rfl) ?_
  refine kSeq ?_
  refine cSeq ?_
  refine cSeq ?_
  refine cReg ?_
  refine segH 2 (T1 := (mkT 30 [(2, vP 2 0), (3, vP 3 0), (4, vP 4 0), (8, .agg #[vN X, vN Y, vN Z, vS 0 L1.length]), (9, .agg #[vN X, vN Y, vN Z, vS 1 L2.length])])) (by kernel_rfl) ?_
  refine rCall (v := .bool true) (args := [.agg #[vN X, vN Y, vN Z, vS 0 L1.length], .agg #[vN X, vN Y, vN Z, vS 1 L2.length]]) (by kernel_rfl) rfl (by kernel_rfl) (Sound.lay0 [0, 1] (l2AlikeB X Y Z L1 L2 (by first | assumption | omega | rfl | decide | exact HeapL.list _ _ _ _ | exact HeapL.nil _ _ _ | exact HeapL.all _ _ _ | (apply HeapL.lt64 <;> assumption) | (repeat' (first | assumption | apply or_lt64 | apply and_lt64 | apply andn_lt64 | apply pow_lt64 | (apply HeapL.lt64 <;> assumption)))) (by first | assumption | omega | rfl | decide | exact HeapL.list _ _ _ _ | exact HeapL.nil _ _ _ | exact HeapL.all _ _ _ | (apply HeapL.lt64 <;> assumption) | (repeat' (first | assumption | apply or_lt64 | apply and_lt64 | apply andn_lt64 | apply pow_lt64 | (apply HeapL.lt64 <;> assumption)))) (by first | assumption | omega | rfl | decide | exact HeapL.list _ _ _ _ | exact HeapL.nil _ _ _ | exact HeapL.all _ _ _ | (apply HeapL.lt64 <;> assumption) | (repeat' (first | assumption | apply or_lt64 | apply and_lt64 | apply andn_lt64 | apply pow_lt64 | (apply HeapL.lt64 <;> assumption))))) ⟨rdF false (flatA3 _ _ _ _) rfl rfl, ⟨rdF false (flatA3 _ _ _ _) rfl rfl, trivial⟩⟩ rfl ⟨clF (flatA3 _ _ _ _), ⟨clF (flatA3 _ _ _ _), trivial⟩⟩ rfl (by first | rfl | simp [mpV, mpA, mpS, mpP, renId, shift]) rfl) ?_
  refine segEndH [2, 3, 4, 11] (T1 := (mkT 30 [(2, vP 2 0), (3, vP 3 0), (4, vP 4 0), (11, .bool false)])) (by kernel_rfl) ?_
  refine kSeq ?_
  refine cFalse (by kernel_rfl) ?_
  refine cSkip ?_
  refine kSeq ?_
  refine cSeq ?_
  refine cReg ?_
  refine segH 1 (T1 := (mkT 30 [(2, vP 2 0), (3, vP 3 0), (4, vP 4 0), (11, .bool false), (13, .agg #[vN X, vN Y, vN Z, vS 0 L1.length])])) (by kernel_rfl) ?_
  refine rCall (v := .agg #[vN X, vN Y, vN Z, vS 5 L1.length]) (args := [.agg #[vN X, vN Y, vN Z, vS 0 L1.length]]) (by kernel_rfl) rfl (by kernel_rfl) (Sound.lay (E := [some ⟨a3s L1, 25, false, true⟩]) [0] (l2OwnB ((X : Nat) : Int) ((Y : Nat) : Int) ((Z : Nat) : Int) L1 (by first | omega | assumption | (simp; done))) ⟨rdF false (flatA3 _ _ _ _) rfl rfl, trivial⟩ rfl ⟨clF (flatA3 _ _ _ _), trivial⟩ rfl (by first | rfl | simp [mpV, mpA, mpS, mpP, renId, shift]) (by first | rfl | simp [mpV, mpA, mpS, mpP, renId, shift]) ⟨enF (flatA3 _ _ _ _) (Or.inl rfl), trivial⟩) ?_
  refine segEnd [3, 4, 6] (T1 := (mkT 30 [(3, vP 3 0), (4, vP 4 0), (6, vP 6 0)])) (H1 := [some ⟨a3s L1, 25, false, false⟩, some ⟨a3s L2, 25, false, false⟩, rB [vN X, vN Y, vN Z, vS 0 L1.length] 29, rB [vN X, vN Y, vN Z, vS 1 L2.length] 29, rB [vI 0, vI 0, vI 0, .slice none 0 0] 29, some ⟨a3s L1, 25, false, true⟩, rB [vN X, vN Y, vN Z, vS 5 L1.length] 29]) (by kernel_rfl) ?_
  refine kSeq ?_
  refine cSeq ?_
  refine cSeq ?_
  refine cReg ?_
  refine segEndH [3, 4, 6, 7] (T1 := (mkT 30 [(3, vP 3 0), (4, vP 4 0), (6, vP 6 0), (7, vI 0)])) (by kernel_rfl) ?_
  refine kSeq ?_
  refine cBlk ?_
  -- loop
  refine cLoop (fun mm T H => ∃ i : Nat, ∃ M : List A3, (i ≤ L2.length) ∧ (M = listOf X Y Z (setOf Y Z L1 ||| setOf Y Z (L2.take i))) ∧ mm = L2.length - i ∧ T = (mkT 30 [(3, vP 3 0), (4, vP 4 0), (6, vP 6 0), (7, vN i)]) ∧ H = [some ⟨a3s L1, 25, false, false⟩, some ⟨a3s L2, 25, false, false⟩, rB [vN X, vN Y, vN Z, vS 0 L1.length] 29, rB [vN X, vN Y, vN Z, vS 1 L2.length] 29, rB [vI 0, vI 0, vI 0, .slice none 0 0] 29, some ⟨a3s M, 25, false, true⟩, rB [vN X, vN Y, vN Z, vS 5 M.length] 29]) (L2.length - 0) (mkT 30 [(3, vP 3 0), (4, vP 4 0), (6, vP 6 0), (7, vI 0)]) [some ⟨a3s L1, 25, false, false⟩, some ⟨a3s L2, 25, false, false⟩, rB [vN X, vN Y, vN Z, vS 0 L1.length] 29, rB [vN X, vN Y, vN Z, vS 1 L2.length] 29, rB [vI 0, vI 0, vI 0, .slice none 0 0] 29, some ⟨a3s L1, 25, false, true⟩, rB [vN X, vN Y, vN Z, vS 5 L1.length] 29] (wkSame [3, 4, 6, 7] (by kernel_rfl)) ?_ ?_
  · exact ⟨0, L1, (Nat.zero_le _), (by rw [List.take_zero, setOf_nil, Nat.or_zero]; exact (hL1.eq hs).symm), rfl, rfl, rfl⟩
  · rintro _ _ _ ⟨i, M, hi, hM, rfl, rfl, rfl⟩
    have hLM : HeapL X Y Z M := hM ▸ HeapL.list _ _ _ _
    have hmlen := hLM.len
    refine cSeq ?_
    refine cSeq ?_
    refine cReg ?_
    refine segEndH [3, 4, 6, 7, 19] (T1 := (mkT 30 [(3, vP 3 0), (4, vP 4 0), (6, vP 6 0), (7, vN i), (19, .bool (decide (((i : Nat) : Int) < ((L2.length : Nat) : Int))))])) (by kernel_rfl) ?_
    refine kSeq ?_
    cases h1 : (decide (((i : Nat) : Int) < ((L2.length : Nat) : Int)) : Bool)
    ·
      (try simp only [Bool.not_eq_true', Bool.not_eq_false', decide_eq_true_eq, decide_eq_false_iff_not, beq_iff_eq, bne_iff_ne, beq_eq_false_iff_ne, bne_eq_false_iff_eq, ne_eq, Decidable.not_not, Bool.and_eq_true, Bool.and_eq_false_imp, Bool.or_eq_true, Bool.or_eq_false_iff, Bool.not_eq_true, Int.not_lt, Int.not_le, ge_iff_le, gt_iff_lt] at h1)
      refine cFalse (by kernel_rfl) ?_
      refine cExit ?_
      refine kSeqE ?_
      refine kLoopE ?_
      refine kBlkHit ?_
      refine kSeq ?_
      refine cSeq ?_
      refine cReg ?_
      refine segEnd [4, 5] (T1 := (mkT 30 [(4, vP 4 0), (5, .bool true)])) (H1 := [some ⟨a3s L1, 25, false, false⟩, some ⟨a3s L2, 25, false, false⟩, rB [vN X, vN Y, vN Z, vS 0 L1.length] 29, rB [vN X, vN Y, vN Z, vS 1 L2.length] 29, rB [vN X, vN Y, vN Z, vS 5 M.length] 29, some ⟨a3s M, 25, false, true⟩, rB [vN X, vN Y, vN Z, vS 5 M.length] 29]) (by kernel_rfl) ?_
      refine kSeq ?_
      refine cRet ?_
      -- end
      have he0 : (M : List A3) = (listOf X Y Z (setOf Y Z L1 ||| setOf Y Z L2)) := by (rw [hM, show i = L2.length by omega, List.take_length])
      refine endCast (v1 := .tuple #[.agg #[vN X, vN Y, vN Z, vS 2 M.length], .bool true]) (H1 := [some ⟨a3s L1, 25, false, false⟩, some ⟨a3s L2, 25, false, false⟩, some ⟨a3s M, 25, false, true⟩]) (by first | rfl | ((try rw [← he0]); done) | (simp only [← he0]; done)) (by first | rfl | ((try rw [← he0]); done) | (simp only [← he0]; done)) ?_
      exact endF (Or.inr rfl) (l := [.agg #[vN X, vN Y, vN Z, vS 5 M.length], .bool true]) [0, 1, 5] (by kernel_rfl) (by first | rfl | simp [packR, mpV, mpA, mpS, mpP, renId]) ⟨rrF (flatA3 _ _ _ _) rfl, ⟨rrF (flatA3 _ _ _ _) rfl, ⟨rrF (flatA3 _ _ _ _) rfl, trivial⟩⟩⟩ rfl rfl
    ·
      (try simp only [Bool.not_eq_true', Bool.not_eq_false', decide_eq_true_eq, decide_eq_false_iff_not, beq_iff_eq, bne_iff_ne, beq_eq_false_iff_ne, bne_eq_false_iff_eq, ne_eq, Decidable.not_not, Bool.and_eq_true, Bool.and_eq_false_imp, Bool.or_eq_true, Bool.or_eq_false_iff, Bool.not_eq_true, Int.not_lt, Int.not_le, ge_iff_le, gt_iff_lt] at h1)
      have hhas := hL2.has hs (i := i) (by omega)
      refine cTrue (by kernel_rfl) ?_
      refine cSkip ?_
      refine kSeq ?_
      refine cSeq ?_
      refine cBlk ?_
      refine cRegW (N := 8) [⟨[], [], [6]⟩, ⟨[], [], []⟩, ⟨[], [], [3]⟩, ⟨[], [], []⟩, ⟨[], [], []⟩, ⟨[], [], [1]⟩, ⟨[7], [], [5]⟩, ⟨[], [6], []⟩] 1 [7] (by rfl) (by rfl) (by kernel_rfl) (by kernel_rfl) (by kernel_rfl) ⟨nmsF (flatA3 _ _ _ _), ⟨nmsF (flatA3 _ _ _ _), ⟨nmsX (by kernel_rfl), ⟨nmsX (by kernel_rfl), ⟨nmsX (by kernel_rfl), ⟨nmsF (flatA3 _ _ _ _), ⟨nmsX (by kernel_rfl), trivial⟩⟩⟩⟩⟩⟩⟩ ?_
      refine segWH 4 (T1 := (mkT 30 [(3, vP 3 0), (4, vP 4 0), (6, vP 6 0), (7, vN i), (19, .bool true), (22, .agg #[vN X, vN Y, vN Z, vS 5 M.length]), (23, vP 3 3), (24, vS 1 L2.length), (25, vN i)])) (by kernel_rfl) ?_
      refine rW (m := ⟨[], [], []⟩) (v := vP 1 (i * 3)) rfl (by kernel_rfl) (stId (eIdxS (ad := ⟨1, 0, none⟩) (n := L2.length) (m := 0) (k := .i64) (c := ((i : Nat) : Int)) (j := i) (o := i * 3) (by kernel_rfl) (by kernel_rfl) ti22 ti25 (rfl) (by omega) (by exact Nat.zero_add _)) rfl (by kernel_rfl) (by kernel_rfl) (by kernel_rfl)) (by kernel_rfl) nr0 ?_
      refine rW (m := ⟨[], [], [1]⟩) (v := .agg #[vI ((L2.getD i default).x), vI ((L2.getD i default).y), vI ((L2.getD i default).z)]) rfl (by kernel_rfl) (stId (eLdA3 (ad := ⟨1, i * 3, none⟩) (r := ⟨a3s L2, 25, false, false⟩) (L := L2) (j := i) (by kernel_rfl) (by kernel_rfl) rfl (by first | rfl | omega) (by omega) ti25) rfl (by kernel_rfl) (by kernel_rfl) (by kernel_rfl)) (by kernel_rfl) nr0 ?_
      refine rW (m := ⟨[7], [], [5]⟩) (v := .agg #[vN X, vN Y, vN Z, vS 7 ((listOf X Y Z (setOf Y Z M ||| 2 ^ idxN Y Z (L2.getD i default))).length)]) rfl (by kernel_rfl) (stN (i := 7) (E := [some ⟨a3s (listOf X Y Z (setOf Y Z M ||| 2 ^ idxN Y Z (L2.getD i default))), 25, false, true⟩]) (v1 := .agg #[vN X, vN Y, vN Z, vS 8 ((listOf X Y Z (setOf Y Z M ||| 2 ^ idxN Y Z (L2.getD i default))).length)]) (args := [.agg #[vN X, vN Y, vN Z, vS 5 M.length], .agg #[vI ((L2.getD i default).x), vI ((L2.getD i default).y), vI ((L2.getD i default).z)]]) rfl (by kernel_rfl) (Any.lay [5] (l2WithB X Y Z M ((L2.getD i default).x) ((L2.getD i default).y) ((L2.getD i default).z) (by first | assumption | omega | rfl | decide | exact HeapL.list _ _ _ _ | exact HeapL.nil _ _ _ | exact HeapL.all _ _ _ | (apply HeapL.lt64 <;> assumption) | (repeat' (first | assumption | apply or_lt64 | apply and_lt64 | apply andn_lt64 | apply pow_lt64 | (apply HeapL.lt64 <;> assumption)))) (by first | assumption | omega | rfl | decide | exact HeapL.list _ _ _ _ | exact HeapL.nil _ _ _ | exact HeapL.all _ _ _ | (apply HeapL.lt64 <;> assumption) | (repeat' (first | assumption | apply or_lt64 | apply and_lt64 | apply andn_lt64 | apply pow_lt64 | (apply HeapL.lt64 <;> assumption)))) (by first | assumption | omega | rfl | decide | exact HeapL.list _ _ _ _ | exact HeapL.nil _ _ _ | exact HeapL.all _ _ _ | (apply HeapL.lt64 <;> assumption) | (repeat' (first | assumption | apply or_lt64 | apply and_lt64 | apply andn_lt64 | apply pow_lt64 | (apply HeapL.lt64 <;> assumption))))) ⟨rdF true (flatA3 _ _ _ _) rfl rfl, trivial⟩ rfl ⟨clF (flatA3 _ _ _ _), trivial⟩ rfl (by first | rfl | simp [mpV, mpA, mpS, mpP, renId, shift]) (by first | rfl | simp [mpV, mpA, mpS, mpP, renId, shift]) ⟨enF (flatA3 _ _ _ _) (Or.inl rfl), trivial⟩) rfl (by kernel_rfl) (by kernel_rfl) (by kernel_rfl) (by kernel_rfl) (FlatH.cons (flatA3 _ _ _ _) FlatH.nil)) (by kernel_rfl) (NRs.all ⟨nrOf (by rfl) (nmF (flatA3 _ _ _ _)), trivial⟩) ?_
      refine rW (m := ⟨[], [6], []⟩) (v := .tuple #[]) rfl (by kernel_rfl) (stSet (b := 6) (r := ⟨[vN X, vN Y, vN Z, vS 7 ((listOf X Y Z (setOf Y Z M ||| 2 ^ idxN Y Z (L2.getD i default))).length)], 29, true, true⟩) (by kernel_rfl) rfl (by kernel_rfl) (by kernel_rfl) (by kernel_rfl) (by kernel_rfl) (nmX (by kernel_rfl)) (clX (by kernel_rfl))) (by kernel_rfl) (NRs.all ⟨nrOf (by rfl) (nmX (by kernel_rfl)), trivial⟩) ?_
      refine segEndW [3, 4, 6, 7] (T1 := (mkT 30 [(3, vP 3 0), (4, vP 4 0), (6, vP 6 0), (7, vN i)])) (H1 := [some ⟨a3s L1, 25, false, false⟩, some ⟨a3s L2, 25, false, false⟩, rB [vN X, vN Y, vN Z, vS 0 L1.length] 29, rB [vN X, vN Y, vN Z, vS 1 L2.length] 29, rB [vI 0, vI 0, vI 0, .slice none 0 0] 29, some ⟨a3s M, 25, false, true⟩, rB [vN X, vN Y, vN Z, vS 7 ((listOf X Y Z (setOf Y Z M ||| 2 ^ idxN Y Z (L2.getD i default))).length)] 29, some ⟨a3s (listOf X Y Z (setOf Y Z M ||| 2 ^ idxN Y Z (L2.getD i default))), 25, false, true⟩]) (by kernel_rfl) ?_
      refine kBlk ?_
      refine kSeq ?_
      refine cReg ?_
      refine segH 1 (T1 := (mkT 30 [(3, vP 3 0), (4, vP 4 0), (6, vP 6 0), (7, vN i), (20, vN i)])) (by kernel_rfl) ?_
      refine rOp (v := vN (i + 1)) (by kernel_rfl) (eAdd (k := .i64) (a := ((i : Nat) : Int)) (b := 1) (c := ((i + 1 : Nat) : Int)) (by kernel_rfl) (by kernel_rfl) (wr64 (by omega) (by omega) (by omega))) ?_
      refine segEndH [3, 4, 6, 7] (T1 := (mkT 30 [(3, vP 3 0), (4, vP 4 0), (6, vP 6 0), (7, vN (i + 1))])) (by kernel_rfl) ?_
      exact kLoop (L2.length - (i + 1)) (mkT 30 [(3, vP 3 0), (4, vP 4 0), (6, vP 6 0), (7, vN (i + 1))]) [some ⟨a3s L1, 25, false, false⟩, some ⟨a3s L2, 25, false, false⟩, rB [vN X, vN Y, vN Z, vS 0 L1.length] 29, rB [vN X, vN Y, vN Z, vS 1 L2.length] 29, rB [vI 0, vI 0, vI 0, .slice none 0 0] 29, some ⟨a3s (listOf X Y Z (setOf Y Z M ||| 2 ^ idxN Y Z (L2.getD i default))), 25, false, true⟩, rB [vN X, vN Y, vN Z, vS 5 ((listOf X Y Z (setOf Y Z M ||| 2 ^ idxN Y Z (L2.getD i default))).length)] 29] (by omega) (wkRen [0, 1, 2, 3, 4, 7, 6] [3, 4, 6, 7] ⟨rrF (flatA3 _ _ _ _) rfl, ⟨rrF (flatA3 _ _ _ _) rfl, ⟨rrX rfl rfl, ⟨rrX rfl rfl, ⟨rrX rfl rfl, ⟨rrF (flatA3 _ _ _ _) rfl, ⟨rrX rfl rfl, trivial⟩⟩⟩⟩⟩⟩⟩ rfl (by kernel_rfl) rfl) ⟨(i + 1), (listOf X Y Z (setOf Y Z M ||| 2 ^ idxN Y Z (L2.getD i default))), (by omega), (join_step hs hM (by omega)), rfl, rfl, rfl⟩

set_option maxRecDepth 100000 in
set_option maxHeartbeats 4000000 in
theorem implJoinHeaps_no (x1 : Int) (y1 : Int) (z1 : Int) (L1 : List A3) (x2 : Int) (y2 : Int) (z2 : Int) (L2 : List A3) (hl1 : L1.length ≤ 1048576) (hl2 : L2.length ≤ 1048576) (hv : (alikeB x1 y1 z1 L1 x2 y2 z2 L2) = false) : Sound Try.prog 35 [.agg #[vI x1, vI y1, vI z1, vS 0 L1.length], .agg #[vI x2, vI y2, vI z2, vS 1 L2.length]] [some ⟨a3s L1, 25, false, false⟩, some ⟨a3s L2, 25, false, false⟩] (.tuple #[.agg #[vI 0, vI 0, vI 0, .slice none 0 0], .bool false]) [some ⟨a3s L1, 25, false, false⟩, some ⟨a3s L2, 25, false, false⟩] := by
  refine sound_intro (C := cx) Try.func35 rfl (by kernel_rfl) fun hcl => ?_
  refine cSeq ?_
  refine cReg ?_
  refine segEnd [2, 3, 4] (T1 := (mkT 19 [(2, vP 2 0), (3, vP 3 0), (4, vP 4 0)])) (H1 := [some ⟨a3s L1, 25, false, false⟩, some ⟨a3s L2, 25, false, false⟩, rB [vI x1, vI y1, vI z1, vS 0 L1.length] 29, rB [vI x2, vI y2, vI z2, vS 1 L2.length] 29, rB [vI 0, vI 0, vI 0, .slice none 0 0] 29]) (by kernel_rfl) ?_
  refine kSeq ?_
  refine cSeq ?_
  refine cSeq ?_
  refine cReg ?_
  refine segH 2 (T1 := (mkT 19 [(2, vP 2 0), (3, vP 3 0), (4, vP 4 0), (6, .agg #[vI x1, vI y1, vI z1, vS 0 L1.length]), (7, .agg #[vI x2, vI y2, vI z2, vS 1 L2.length])])) (by kernel_rfl) ?_
  refine rCall (v := .bool false) (args := [.agg #[vI x1, vI y1, vI z1, vS 0 L1.length], .agg #[vI x2, vI y2, vI z2, vS 1 L2.length]]) (by kernel_rfl) rfl (by kernel_rfl) (Sound.lay0 [0, 1] (areAlikeB_no x1 y1 z1 L1 x2 y2 z2 L2 (by first | assumption | omega | rfl | decide | exact HeapL.list _ _ _ _ | exact HeapL.nil _ _ _ | exact HeapL.all _ _ _ | (apply HeapL.lt64 <;> assumption) | (repeat' (first | assumption | apply or_lt64 | apply and_lt64 | apply andn_lt64 | apply pow_lt64 | (apply HeapL.lt64 <;> assumption)))) (by first | assumption | omega | rfl | decide | exact HeapL.list _ _ _ _ | exact HeapL.nil _ _ _ | exact HeapL.all _ _ _ | (apply HeapL.lt64 <;> assumption) | (repeat' (first | assumption | apply or_lt64 | apply and_lt64 | apply andn_lt64 | apply pow_lt64 | (apply HeapL.lt64 <;> assumption)))) (by first | assumption | omega | rfl | decide | exact HeapL.list _ _ _ _ | exact HeapL.nil _ _ _ | exact HeapL.all _ _ _ | (apply HeapL.lt64 <;> assumption) | (repeat' (first | assumption | apply or_lt64 | apply and_lt64 | apply andn_lt64 | apply pow_lt64 | (apply HeapL.lt64 <;> assumption))))) ⟨rdF false (flatA3 _ _ _ _) rfl rfl, ⟨rdF false (flatA3 _ _ _ _) rfl rfl, trivial⟩⟩ rfl ⟨clF (flatA3 _ _ _ _), ⟨clF (flatA3 _ _ _ _), trivial⟩⟩ rfl (by first | rfl | simp [mpV, mpA, mpS, mpP, renId, shift]) rfl) ?_
  refine segEndH [2, 3, 4, 9] (T1 := (mkT 19 [(2, vP 2 0), (3, vP 3 0), (4, vP 4 0), (9, .bool true)])) (by kernel_rfl) ?_
  refine kSeq ?_
  refine cTrue (by kernel_rfl) ?_
  refine cSeq ?_
  refine cReg ?_
  refine segEnd [4, 5] (T1 := (mkT 19 [(4, vP 4 0), (5, .bool false)])) (H1 := [some ⟨a3s L1, 25, false, false⟩, some ⟨a3s L2, 25, false, false⟩, rB [vI x1, vI y1, vI z1, vS 0 L1.length] 29, rB [vI x2, vI y2, vI z2, vS 1 L2.length] 29, rB [vI 0, vI 0, vI 0, .slice none 0 0] 29]) (by kernel_rfl) ?_
  refine kSeq ?_
  refine cRet ?_
  refine kSeqR ?_
  -- end
  exact endQ (Or.inr rfl) (l := [.agg #[vI 0, vI 0, vI 0, .slice none 0 0], .bool false]) [rB [vI x1, vI y1, vI z1, vS 0 L1.length] 29, rB [vI x2, vI y2, vI z2, vS 1 L2.length] 29, rB [vI 0, vI 0, vI 0, .slice none 0 0] 29] (by kernel_rfl) (by first | rfl | kernel_rfl) rfl rfl hcl rfl

set_option maxRecDepth 100000 in
set_option maxHeartbeats 4000000 in
theorem implJoinHeaps_yes (X : Nat) (Y : Nat) (Z : Nat) (L1 : List A3) (L2 : List A3) (hs : Sides X Y Z) (hL1 : HeapL X Y Z L1) (hL2 : HeapL X Y Z L2) : Sound Try.prog 35 [.agg #[vN X, vN Y, vN Z, vS 0 L1.length], .agg #[vN X, vN Y, vN Z, vS 1 L2.length]] [some ⟨a3s L1, 25, false, false⟩, some ⟨a3s L2, 25, false, false⟩] (.tuple #[.agg #[vN X, vN Y, vN Z, vS 2 ((listOf X Y Z (setOf Y Z L1 ||| setOf Y Z L2)).length)], .bool true]) [some ⟨a3s L1, 25, false, false⟩, some ⟨a3s L2, 25, false, false⟩, some ⟨a3s (listOf X Y Z (setOf Y Z L1 ||| setOf Y Z L2)), 25, false, true⟩] := by
  refine sound_intro (C := cx) Try.func35 rfl (by kernel_rfl) fun hcl => ?_
  have hz := hs.size
  have hx0 := hs.x0
  have hx4 := hs.x4
  have hy0 := hs.y0
  have hy4 := hs.y4
  have hz0 := hs.z0
  have hz4 := hs.z4
  have hlen1 := hL1.len
  have hlen2 := hL2.len
  have hlt1 := hL1.lt64 hs
  have hlt2 := hL2.lt64 hs
  refine cSeq ?_
  refine cReg ?_
  refine segEnd [2, 3, 4] (T1 := (mkT 19 [(2, vP 2 0), (3, vP 3 0), (4, vP 4 0)])) (H1 := [some ⟨a3s L1, 25, false, false⟩, some ⟨a3s L2, 25, false, false⟩, rB [vN X, vN Y, vN Z, vS 0 L1.length] 29, rB [vN X, vN Y, vN Z, vS 1 L2.length] 29, rB [vI 0, vI 0, vI 0, .slice none 0 0] 29]) (by kernel_rfl) ?_
  refine kSeq ?_
  refine cSeq ?_
  refine cSeq ?_
  refine cReg ?_
  refine segH 2 (T1 := (mkT 19 [(2, vP 2 0), (3, vP 3 0), (4, vP 4 0), (6, .agg #[vN X, vN Y, vN Z, vS 0 L1.length]), (7, .agg #[vN X, vN Y, vN Z, vS 1 L2.length])])) (by kernel_rfl) ?_
  refine rCall (v := .bool true) (args := [.agg #[vN X, vN Y, vN Z, vS 0 L1.length], .agg #[vN X, vN Y, vN Z, vS 1 L2.length]]) (by kernel_rfl) rfl (by kernel_rfl) (Sound.lay0 [0, 1] (areAlikeB X Y Z L1 L2 (by first | assumption | omega | rfl | decide | exact HeapL.list _ _ _ _ | exact HeapL.nil _ _ _ | exact HeapL.all _ _ _ | (apply HeapL.lt64 <;> assumption) | (repeat' (first | assumption | apply or_lt64 | apply and_lt64 | apply andn_lt64 | apply pow_lt64 | (apply HeapL.lt64 <;> assumption)))) (by first | assumption | omega | rfl | decide | exact HeapL.list _ _ _ _ | exact HeapL.nil _ _ _ | exact HeapL.all _ _ _ | (apply HeapL.lt64 <;> assumption) | (repeat' (first | assumption | apply or_lt64 | apply and_lt64 | apply andn_lt64 | apply pow_lt64 | (apply HeapL.lt64 <;> assumption)))) (by first | assumption | omega | rfl | decide | exact HeapL.list _ _ _ _ | exact HeapL.nil _ _ _ | exact HeapL.all _ _ _ | (apply HeapL.lt64 <;> assumption) | (repeat' (first | assumption | apply or_lt64 | apply and_lt64 | apply andn_lt64 | apply pow_lt64 | (apply HeapL.lt64 <;> assumption))))) ⟨rdF false (flatA3 _ _ _ _) rfl rfl, ⟨rdF false (flatA3 _ _ _ _) rfl rfl, trivial⟩⟩ rfl ⟨clF (flatA3 _ _ _ _), ⟨clF (flatA3 _ _ _ _), trivial⟩⟩ rfl (by first | rfl | simp [mpV, mpA, mpS, mpP, renId, shift]) rfl) ?_
  refine segEndH [2, 3, 4, 9] (T1 := (mkT 19 [(2, vP 2 0), (3, vP 3 0), (4, vP 4 0), (9, .bool false)])) (by kernel_rfl) ?_
  refine kSeq ?_
  refine cFalse (by kernel_rfl) ?_
  refine cSkip ?_
  refine kSeq ?_
  refine cSeq ?_
  refine cRegW (N := 6) [⟨[], [], [2]⟩, ⟨[], [], [0]⟩, ⟨[], [], [2]⟩, ⟨[], [], [0]⟩, ⟨[], [], [3]⟩, ⟨[], [], [1]⟩, ⟨[], [], []⟩, ⟨[5], [], []⟩, ⟨[], [4], []⟩, ⟨[], [], []⟩] 1 [5] (by rfl) (by rfl) (by kernel_rfl) (by kernel_rfl) (by kernel_rfl) ⟨nmsF (flatA3 _ _ _ _), ⟨nmsF (flatA3 _ _ _ _), ⟨nmsX (by kernel_rfl), ⟨nmsX (by kernel_rfl), ⟨nmsX (by kernel_rfl), trivial⟩⟩⟩⟩⟩ ?_
  refine segWH 1 (T1 := (mkT 19 [(2, vP 2 0), (3, vP 3 0), (4, vP 4 0), (9, .bool false), (11, .agg #[vN X, vN Y, vN Z, vS 0 L1.length])])) (by kernel_rfl) ?_
  refine rW (m := ⟨[], [], [0]⟩) (v := .agg #[vN X, vN Y, vN Z]) rfl (by kernel_rfl) (stQ (args := [.agg #[vN X, vN Y, vN Z, vS 0 L1.length]]) rfl (by kernel_rfl) (Any.lay0 [0] (boxB ((X : Nat) : Int) ((Y : Nat) : Int) ((Z : Nat) : Int) L1) ⟨rdF false (flatA3 _ _ _ _) rfl rfl, trivial⟩ rfl ⟨clF (flatA3 _ _ _ _), trivial⟩ rfl (by first | rfl | simp [mpV, mpA, mpS, mpP, renId, shift]) (by first | rfl | simp [mpV, mpA, mpS, mpP, renId, shift])) rfl (by kernel_rfl) (by kernel_rfl)) (by kernel_rfl) nr0 ?_
  refine segWH 1 (T1 := (mkT 19 [(2, vP 2 0), (3, vP 3 0), (4, vP 4 0), (9, .bool false), (11, .agg #[vN X, vN Y, vN Z, vS 0 L1.length]), (12, .agg #[vN X, vN Y, vN Z]), (13, .agg #[vN X, vN Y, vN Z, vS 0 L1.length])])) (by kernel_rfl) ?_
  refine rW (m := ⟨[], [], [0]⟩) (v := vU (setOf Y Z L1)) rfl (by kernel_rfl) (stQ (args := [.agg #[vN X, vN Y, vN Z, vS 0 L1.length]]) rfl (by kernel_rfl) (Any.lay0 [0] (cubesB X Y Z L1 (by first | assumption | omega | rfl | decide | exact HeapL.list _ _ _ _ | exact HeapL.nil _ _ _ | exact HeapL.all _ _ _ | (apply HeapL.lt64 <;> assumption) | (repeat' (first | assumption | apply or_lt64 | apply and_lt64 | apply andn_lt64 | apply pow_lt64 | (apply HeapL.lt64 <;> assumption)))) (by first | assumption | omega | rfl | decide | exact HeapL.list _ _ _ _ | exact HeapL.nil _ _ _ | exact HeapL.all _ _ _ | (apply HeapL.lt64 <;> assumption) | (repeat' (first | assumption | apply or_lt64 | apply and_lt64 | apply andn_lt64 | apply pow_lt64 | (apply HeapL.lt64 <;> assumption))))) ⟨rdF false (flatA3 _ _ _ _) rfl rfl, trivial⟩ rfl ⟨clF (flatA3 _ _ _ _), trivial⟩ rfl (by first | rfl | simp [mpV, mpA, mpS, mpP, renId, shift]) rfl) rfl (by kernel_rfl) (by kernel_rfl)) (by kernel_rfl) nr0 ?_
  refine segWH 1 (T1 := (mkT 19 [(2, vP 2 0), (3, vP 3 0), (4, vP 4 0), (9, .bool false), (11, .agg #[vN X, vN Y, vN Z, vS 0 L1.length]), (12, .agg #[vN X, vN Y, vN Z]), (13, .agg #[vN X, vN Y, vN Z, vS 0 L1.length]), (14, vU (setOf Y Z L1)), (15, .agg #[vN X, vN Y, vN Z, vS 1 L2.length])])) (by kernel_rfl) ?_
  refine rW (m := ⟨[], [], [1]⟩) (v := vU (setOf Y Z L2)) rfl (by kernel_rfl) (stQ (args := [.agg #[vN X, vN Y, vN Z, vS 1 L2.length]]) rfl (by kernel_rfl) (Any.lay0 [1] (cubesB X Y Z L2 (by first | assumption | omega | rfl | decide | exact HeapL.list _ _ _ _ | exact HeapL.nil _ _ _ | exact HeapL.all _ _ _ | (apply HeapL.lt64 <;> assumption) | (repeat' (first | assumption | apply or_lt64 | apply and_lt64 | apply andn_lt64 | apply pow_lt64 | (apply HeapL.lt64 <;> assumption)))) (by first | assumption | omega | rfl | decide | exact HeapL.list _ _ _ _ | exact HeapL.nil _ _ _ | exact HeapL.all _ _ _ | (apply HeapL.lt64 <;> assumption) | (repeat' (first | assumption | apply or_lt64 | apply and_lt64 | apply andn_lt64 | apply pow_lt64 | (apply HeapL.lt64 <;> assumption))))) ⟨rdF false (flatA3 _ _ _ _) rfl rfl, trivial⟩ rfl ⟨clF (flatA3 _ _ _ _), trivial⟩ rfl (by first | rfl | simp [mpV, mpA, mpS, mpP, renId, shift]) rfl) rfl (by kernel_rfl) (by kernel_rfl)) (by kernel_rfl) nr0 ?_
  refine rW (m := ⟨[], [], []⟩) (v := vU ((setOf Y Z L1) ||| (setOf Y Z L2))) rfl (by kernel_rfl) (stId (eOp (k := .u64) (a := ((setOf Y Z L1 : Nat) : Int)) (b := ((setOf Y Z L2 : Nat) : Int)) (by kernel_rfl) (by kernel_rfl) ⟨by decide, by decide⟩ (orU (setOf Y Z L1) (setOf Y Z L2) (by first | assumption | omega | (repeat' (first | assumption | omega | apply or_lt64 | apply and_lt64 | apply andn_lt64 | apply pow_lt64 | (apply HeapL.lt64 <;> assumption)))) (by first | assumption | omega | (repeat' (first | assumption | omega | apply or_lt64 | apply and_lt64 | apply andn_lt64 | apply pow_lt64 | (apply HeapL.lt64 <;> assumption)))))) rfl (by kernel_rfl) (by kernel_rfl) (by kernel_rfl)) (by kernel_rfl) nr0 ?_
  refine rW (m := ⟨[5], [], []⟩) (v := .agg #[vN X, vN Y, vN Z, vS 5 ((listOf X Y Z ((setOf Y Z L1) ||| (setOf Y Z L2))).length)]) rfl (by kernel_rfl) (stN (i := 5) (E := [some ⟨a3s (listOf X Y Z ((setOf Y Z L1) ||| (setOf Y Z L2))), 25, false, true⟩]) (v1 := .agg #[vN X, vN Y, vN Z, vS 6 ((listOf X Y Z ((setOf Y Z L1) ||| (setOf Y Z L2))).length)]) (args := [.agg #[vN X, vN Y, vN Z], vU ((setOf Y Z L1) ||| (setOf Y Z L2))]) rfl (by kernel_rfl) (Any.lay [] (heapB X Y Z ((setOf Y Z L1) ||| (setOf Y Z L2)) (by first | assumption | omega | rfl | decide | exact HeapL.list _ _ _ _ | exact HeapL.nil _ _ _ | exact HeapL.all _ _ _ | (apply HeapL.lt64 <;> assumption) | (repeat' (first | assumption | apply or_lt64 | apply and_lt64 | apply andn_lt64 | apply pow_lt64 | (apply HeapL.lt64 <;> assumption)))) (by first | assumption | omega | rfl | decide | exact HeapL.list _ _ _ _ | exact HeapL.nil _ _ _ | exact HeapL.all _ _ _ | (apply HeapL.lt64 <;> assumption) | (repeat' (first | assumption | apply or_lt64 | apply and_lt64 | apply andn_lt64 | apply pow_lt64 | (apply HeapL.lt64 <;> assumption))))) trivial rfl trivial rfl (by first | rfl | simp [mpV, mpA, mpS, mpP, renId, shift]) (by first | rfl | simp [mpV, mpA, mpS, mpP, renId, shift]) ⟨enF (flatA3 _ _ _ _) (Or.inl rfl), trivial⟩) rfl (by kernel_rfl) (by kernel_rfl) (by kernel_rfl) (by kernel_rfl) (FlatH.cons (flatA3 _ _ _ _) FlatH.nil)) (by kernel_rfl) (NRs.all ⟨nrOf (by rfl) (nmF (flatA3 _ _ _ _)), trivial⟩) ?_
  refine rW (m := ⟨[], [4], []⟩) (v := .tuple #[]) rfl (by kernel_rfl) (stSet (b := 4) (r := ⟨[vN X, vN Y, vN Z, vS 5 ((listOf X Y Z ((setOf Y Z L1) ||| (setOf Y Z L2))).length)], 29, true, true⟩) (by kernel_rfl) rfl (by kernel_rfl) (by kernel_rfl) (by kernel_rfl) (by kernel_rfl) (nmX (by kernel_rfl)) (clX (by kernel_rfl))) (by kernel_rfl) (NRs.all ⟨nrOf (by rfl) (nmX (by kernel_rfl)), trivial⟩) ?_
  refine segEndW [4, 5] (T1 := (mkT 19 [(4, vP 4 0), (5, .bool true)])) (H1 := [some ⟨a3s L1, 25, false, false⟩, some ⟨a3s L2, 25, false, false⟩, rB [vN X, vN Y, vN Z, vS 0 L1.length] 29, rB [vN X, vN Y, vN Z, vS 1 L2.length] 29, rB [vN X, vN Y, vN Z, vS 5 ((listOf X Y Z ((setOf Y Z L1) ||| (setOf Y Z L2))).length)] 29, some ⟨a3s (listOf X Y Z ((setOf Y Z L1) ||| (setOf Y Z L2))), 25, false, true⟩]) (by kernel_rfl) ?_
  refine kSeq ?_
  refine cRet ?_
  -- end
  exact endF (Or.inr rfl) (l := [.agg #[vN X, vN Y, vN Z, vS 5 ((listOf X Y Z ((setOf Y Z L1) ||| (setOf Y Z L2))).length)], .bool true]) [0, 1, 5] (by kernel_rfl) (by first | rfl | simp [packR, mpV, mpA, mpS, mpP, renId]) ⟨rrF (flatA3 _ _ _ _) rfl, ⟨rrF (flatA3 _ _ _ _) rfl, ⟨rrF (flatA3 _ _ _ _) rfl, trivial⟩⟩⟩ rfl rfl

end Go.Proofs.Ytenkiofddpjidaa
