/- Walks. No condition. -/
import Derived.Test.YtbheeobnghlckaaAmS4J3
import Derived.Test.YtbheeobnghlckaaAmQ3
set_option linter.unusedVariables false
set_option linter.unusedSimpArgs false
namespace Go.Proofs.Ytbheeobnghlckaa
open Go.Am Go.RowKit
set_option maxRecDepth 100000 in
set_option maxHeartbeats 4000000 in
theorem allWithinB (a : Int) (b : Int) (c : Int)  : Sound Try.prog 65 [vS 0 3, vI 0, vI 3] [some ⟨[vI a, vI b, vI c], 74, true, false⟩] (.bool (has3 4 4 4 a b c)) [some ⟨[vI a, vI b, vI c], 74, true, false⟩] := by
  refine sound_intro (C := cx) Try.func65 rfl (by kernel_rfl) fun hcl => ?_
  refine cSeq ?_
  refine cReg ?_
  refine segEndH [0, 1, 2] (T1 := (mkT 21 [(0, vS 0 3), (1, vI 0), (2, vI 3)])) (by kernel_rfl) ?_
  refine kSeq ?_
  refine cSeq ?_
  refine cSeq ?_
  refine cReg ?_
  refine segEndH [1, 2, 9, 10, 11] (T1 := (mkT 21 [(1, vI 0), (2, vI 3), (9, vS 0 3), (10, vI 3), (11, vI 0)])) (by kernel_rfl) ?_
  refine kSeq ?_
  refine cBlk ?_
  -- loop
  refine cLoop (fun mm T H => ∃ k : Nat, (k ≤ 3) ∧ ((1 ≤ k → inR a 0 3 = true) ∧ (2 ≤ k → inR b 0 3 = true) ∧ (3 ≤ k → inR c 0 3 = true)) ∧ mm = 3 - k ∧ T = (mkT 21 [(1, vI 0), (2, vI 3), (9, vS 0 3), (10, vI 3), (11, vN k)]) ∧ H = [some ⟨[vI a, vI b, vI c], 74, true, false⟩]) (3 - 0) (mkT 21 [(1, vI 0), (2, vI 3), (9, vS 0 3), (10, vI 3), (11, vI 0)]) [some ⟨[vI a, vI b, vI c], 74, true, false⟩] (wkSame [1, 2, 9, 10, 11] (by kernel_rfl)) ?_ ?_
  · exact ⟨0, (Nat.zero_le _), (⟨fun h => absurd h (by omega), fun h => absurd h (by omega), fun h => absurd h (by omega)⟩), rfl, rfl, rfl⟩
  · rintro _ _ _ ⟨k, hk, hin, rfl, rfl, rfl⟩
    have hcase : k = 0 ∨ k = 1 ∨ k = 2 ∨ k = 3 := by omega
    rcases hcase with rfl | rfl | rfl | rfl
    ·
      refine cSeq ?_
      refine cReg ?_
      refine segEndH [1, 2, 9, 10, 11, 12] (T1 := (mkT 21 [(1, vI 0), (2, vI 3), (9, vS 0 3), (10, vI 3), (11, vI 0), (12, .bool true)])) (by kernel_rfl) ?_
      refine kSeq ?_
      refine cSeq ?_
      refine cTrue (by kernel_rfl) ?_
      refine cSkip ?_
      refine kSeq ?_
      refine cSeq ?_
      refine cBlk ?_
      refine cSeq ?_
      refine cReg ?_
      refine segEndH [1, 2, 8, 9, 10, 11] (T1 := (mkT 21 [(1, vI 0), (2, vI 3), (8, vI a), (9, vS 0 3), (10, vI 3), (11, vI 0)])) (by kernel_rfl) ?_
      refine kSeq ?_
      refine cSeq ?_
      refine cReg ?_
      refine segH 3 (T1 := (mkT 21 [(1, vI 0), (2, vI 3), (8, vI a), (9, vS 0 3), (10, vI 3), (11, vI 0), (15, vI a), (16, vI 0), (17, vI 3)])) (by kernel_rfl) ?_
      refine rCall (v := .bool (inR a 0 3)) (args := [vI a, vI 0, vI 3]) (by kernel_rfl) rfl (by kernel_rfl) (Sound.lay0 [] (withinB a 0 3) trivial rfl trivial rfl (by first | rfl | simp [mpV, mpA, mpS, mpP, renId, shift]) rfl) ?_
      refine segEndH [1, 2, 9, 10, 11, 19] (T1 := (mkT 21 [(1, vI 0), (2, vI 3), (9, vS 0 3), (10, vI 3), (11, vI 0), (19, .bool (!(inR a 0 3)))])) (by kernel_rfl) ?_
      refine kSeq ?_
      cases h1 : (inR a 0 3 : Bool)
      ·
        have h1k := h1
        (try simp only [Bool.not_eq_true', Bool.not_eq_false', decide_eq_true_eq, decide_eq_false_iff_not, beq_iff_eq, bne_iff_ne, beq_eq_false_iff_ne, bne_eq_false_iff_eq, ne_eq, Decidable.not_not, Bool.and_eq_true, Bool.and_eq_false_imp, Bool.or_eq_true, Bool.or_eq_false_iff, Bool.not_eq_true, Int.not_lt, Int.not_le, ge_iff_le, gt_iff_lt] at h1)
        refine cTrue (by kernel_rfl) ?_
        refine cSeq ?_
        refine cReg ?_
        refine segEndH [6] (T1 := (mkT 21 [(6, .bool false)])) (by kernel_rfl) ?_
        refine kSeq ?_
        refine cRet ?_
        refine kBlkR ?_
        refine kSeqR ?_
        refine kLoopR ?_
        refine kBlkR ?_
        refine kSeqR ?_
        -- end
        have he0 : (false : Bool) = has3 4 4 4 a b c := by first | exact (has4_t (hin.1 (by omega)) (hin.2.1 (by omega)) (hin.2.2 (by omega))).symm | (symm; first | exact has4_x (by assumption) | exact has4_y (by assumption) | exact has4_z (by assumption))
        refine endCast (v1 := .bool false) (H1 := [some ⟨[vI a, vI b, vI c], 74, true, false⟩]) (by first | rfl | ((try rw [← he0]); done) | (simp only [← he0]; done)) (by first | rfl | ((try rw [← he0]); done) | (simp only [← he0]; done)) ?_
        exact endQ (Or.inr rfl) (l := [.bool false]) [] (by kernel_rfl) (by first | rfl | kernel_rfl) rfl rfl hcl rfl
      ·
        have h1k := h1
        (try simp only [Bool.not_eq_true', Bool.not_eq_false', decide_eq_true_eq, decide_eq_false_iff_not, beq_iff_eq, bne_iff_ne, beq_eq_false_iff_ne, bne_eq_false_iff_eq, ne_eq, Decidable.not_not, Bool.and_eq_true, Bool.and_eq_false_imp, Bool.or_eq_true, Bool.or_eq_false_iff, Bool.not_eq_true, Int.not_lt, Int.not_le, ge_iff_le, gt_iff_lt] at h1)
        refine cFalse (by kernel_rfl) ?_
        refine cSkip ?_
        refine kBlk ?_
        refine kSeq ?_
        refine cReg ?_
        refine segEndH [1, 2, 9, 10, 11] (T1 := (mkT 21 [(1, vI 0), (2, vI 3), (9, vS 0 3), (10, vI 3), (11, vI 1)])) (by kernel_rfl) ?_
        exact kLoop (3 - 1) (mkT 21 [(1, vI 0), (2, vI 3), (9, vS 0 3), (10, vI 3), (11, vI 1)]) [some ⟨[vI a, vI b, vI c], 74, true, false⟩] (by omega) (wkSame [1, 2, 9, 10, 11] (by kernel_rfl)) ⟨1, (by omega), (by refine ⟨fun _ => ?_, fun _ => ?_, fun _ => ?_⟩ <;> first | rfl | omega | assumption | exact hin.1 (by omega) | exact hin.2.1 (by omega)), rfl, rfl, rfl⟩
    ·
      refine cSeq ?_
      refine cReg ?_
      refine segEndH [1, 2, 9, 10, 11, 12] (T1 := (mkT 21 [(1, vI 0), (2, vI 3), (9, vS 0 3), (10, vI 3), (11, vI 1), (12, .bool true)])) (by kernel_rfl) ?_
      refine kSeq ?_
      refine cSeq ?_
      refine cTrue (by kernel_rfl) ?_
      refine cSkip ?_
      refine kSeq ?_
      refine cSeq ?_
      refine cBlk ?_
      refine cSeq ?_
      refine cReg ?_
      refine segEndH [1, 2, 8, 9, 10, 11] (T1 := (mkT 21 [(1, vI 0), (2, vI 3), (8, vI b), (9, vS 0 3), (10, vI 3), (11, vI 1)])) (by kernel_rfl) ?_
      refine kSeq ?_
      refine cSeq ?_
      refine cReg ?_
      refine segH 3 (T1 := (mkT 21 [(1, vI 0), (2, vI 3), (8, vI b), (9, vS 0 3), (10, vI 3), (11, vI 1), (15, vI b), (16, vI 0), (17, vI 3)])) (by kernel_rfl) ?_
      refine rCall (v := .bool (inR b 0 3)) (args := [vI b, vI 0, vI 3]) (by kernel_rfl) rfl (by kernel_rfl) (Sound.lay0 [] (withinB b 0 3) trivial rfl trivial rfl (by first | rfl | simp [mpV, mpA, mpS, mpP, renId, shift]) rfl) ?_
      refine segEndH [1, 2, 9, 10, 11, 19] (T1 := (mkT 21 [(1, vI 0), (2, vI 3), (9, vS 0 3), (10, vI 3), (11, vI 1), (19, .bool (!(inR b 0 3)))])) (by kernel_rfl) ?_
      refine kSeq ?_
      cases h2 : (inR b 0 3 : Bool)
      ·
        have h2k := h2
        (try simp only [Bool.not_eq_true', Bool.not_eq_false', decide_eq_true_eq, decide_eq_false_iff_not, beq_iff_eq, bne_iff_ne, beq_eq_false_iff_ne, bne_eq_false_iff_eq, ne_eq, Decidable.not_not, Bool.and_eq_true, Bool.and_eq_false_imp, Bool.or_eq_true, Bool.or_eq_false_iff, Bool.not_eq_true, Int.not_lt, Int.not_le, ge_iff_le, gt_iff_lt] at h2)
        refine cTrue (by kernel_rfl) ?_
        refine cSeq ?_
        refine cReg ?_
        refine segEndH [6] (T1 := (mkT 21 [(6, .bool false)])) (by kernel_rfl) ?_
        refine kSeq ?_
        refine cRet ?_
        refine kBlkR ?_
        refine kSeqR ?_
        refine kLoopR ?_
        refine kBlkR ?_
        refine kSeqR ?_
        -- end
        have he0 : (false : Bool) = has3 4 4 4 a b c := by first | exact (has4_t (hin.1 (by omega)) (hin.2.1 (by omega)) (hin.2.2 (by omega))).symm | (symm; first | exact has4_x (by assumption) | exact has4_y (by assumption) | exact has4_z (by assumption))
        refine endCast (v1 := .bool false) (H1 := [some ⟨[vI a, vI b, vI c], 74, true, false⟩]) (by first | rfl | ((try rw [← he0]); done) | (simp only [← he0]; done)) (by first | rfl | ((try rw [← he0]); done) | (simp only [← he0]; done)) ?_
        exact endQ (Or.inr rfl) (l := [.bool false]) [] (by kernel_rfl) (by first | rfl | kernel_rfl) rfl rfl hcl rfl
      ·
        have h2k := h2
        (try simp only [Bool.not_eq_true', Bool.not_eq_false', decide_eq_true_eq, decide_eq_false_iff_not, beq_iff_eq, bne_iff_ne, beq_eq_false_iff_ne, bne_eq_false_iff_eq, ne_eq, Decidable.not_not, Bool.and_eq_true, Bool.and_eq_false_imp, Bool.or_eq_true, Bool.or_eq_false_iff, Bool.not_eq_true, Int.not_lt, Int.not_le, ge_iff_le, gt_iff_lt] at h2)
        refine cFalse (by kernel_rfl) ?_
        refine cSkip ?_
        refine kBlk ?_
        refine kSeq ?_
        refine cReg ?_
        refine segEndH [1, 2, 9, 10, 11] (T1 := (mkT 21 [(1, vI 0), (2, vI 3), (9, vS 0 3), (10, vI 3), (11, vI 2)])) (by kernel_rfl) ?_
        exact kLoop (3 - 2) (mkT 21 [(1, vI 0), (2, vI 3), (9, vS 0 3), (10, vI 3), (11, vI 2)]) [some ⟨[vI a, vI b, vI c], 74, true, false⟩] (by omega) (wkSame [1, 2, 9, 10, 11] (by kernel_rfl)) ⟨2, (by omega), (by refine ⟨fun _ => ?_, fun _ => ?_, fun _ => ?_⟩ <;> first | rfl | omega | assumption | exact hin.1 (by omega) | exact hin.2.1 (by omega)), rfl, rfl, rfl⟩
    ·
      refine cSeq ?_
      refine cReg ?_
      refine segEndH [1, 2, 9, 10, 11, 12] (T1 := (mkT 21 [(1, vI 0), (2, vI 3), (9, vS 0 3), (10, vI 3), (11, vI 2), (12, .bool true)])) (by kernel_rfl) ?_
      refine kSeq ?_
      refine cSeq ?_
      refine cTrue (by kernel_rfl) ?_
      refine cSkip ?_
      refine kSeq ?_
      refine cSeq ?_
      refine cBlk ?_
      refine cSeq ?_
      refine cReg ?_
      refine segEndH [1, 2, 8, 9, 10, 11] (T1 := (mkT 21 [(1, vI 0), (2, vI 3), (8, vI c), (9, vS 0 3), (10, vI 3), (11, vI 2)])) (by kernel_rfl) ?_
      refine kSeq ?_
      refine cSeq ?_
      refine cReg ?_
      refine segH 3 (T1 := (mkT 21 [(1, vI 0), (2, vI 3), (8, vI c), (9, vS 0 3), (10, vI 3), (11, vI 2), (15, vI c), (16, vI 0), (17, vI 3)])) (by kernel_rfl) ?_
      refine rCall (v := .bool (inR c 0 3)) (args := [vI c, vI 0, vI 3]) (by kernel_rfl) rfl (by kernel_rfl) (Sound.lay0 [] (withinB c 0 3) trivial rfl trivial rfl (by first | rfl | simp [mpV, mpA, mpS, mpP, renId, shift]) rfl) ?_
      refine segEndH [1, 2, 9, 10, 11, 19] (T1 := (mkT 21 [(1, vI 0), (2, vI 3), (9, vS 0 3), (10, vI 3), (11, vI 2), (19, .bool (!(inR c 0 3)))])) (by kernel_rfl) ?_
      refine kSeq ?_
      cases h3 : (inR c 0 3 : Bool)
      ·
        have h3k := h3
        (try simp only [Bool.not_eq_true', Bool.not_eq_false', decide_eq_true_eq, decide_eq_false_iff_not, beq_iff_eq, bne_iff_ne, beq_eq_false_iff_ne, bne_eq_false_iff_eq, ne_eq, Decidable.not_not, Bool.and_eq_true, Bool.and_eq_false_imp, Bool.or_eq_true, Bool.or_eq_false_iff, Bool.not_eq_true, Int.not_lt, Int.not_le, ge_iff_le, gt_iff_lt] at h3)
        refine cTrue (by kernel_rfl) ?_
        refine cSeq ?_
        refine cReg ?_
        refine segEndH [6] (T1 := (mkT 21 [(6, .bool false)])) (by kernel_rfl) ?_
        refine kSeq ?_
        refine cRet ?_
        refine kBlkR ?_
        refine kSeqR ?_
        refine kLoopR ?_
        refine kBlkR ?_
        refine kSeqR ?_
        -- end
        have he0 : (false : Bool) = has3 4 4 4 a b c := by first | exact (has4_t (hin.1 (by omega)) (hin.2.1 (by omega)) (hin.2.2 (by omega))).symm | (symm; first | exact has4_x (by assumption) | exact has4_y (by assumption) | exact has4_z (by assumption))
        refine endCast (v1 := .bool false) (H1 := [some ⟨[vI a, vI b, vI c], 74, true, false⟩]) (by first | rfl | ((try rw [← he0]); done) | (simp only [← he0]; done)) (by first | rfl | ((try rw [← he0]); done) | (simp only [← he0]; done)) ?_
        exact endQ (Or.inr rfl) (l := [.bool false]) [] (by kernel_rfl) (by first | rfl | kernel_rfl) rfl rfl hcl rfl
      ·
        have h3k := h3
        (try simp only [Bool.not_eq_true', Bool.not_eq_false', decide_eq_true_eq, decide_eq_false_iff_not, beq_iff_eq, bne_iff_ne, beq_eq_false_iff_ne, bne_eq_false_iff_eq, ne_eq, Decidable.not_not, Bool.and_eq_true, Bool.and_eq_false_imp, Bool.or_eq_true, Bool.or_eq_false_iff, Bool.not_eq_true, Int.not_lt, Int.not_le, ge_iff_le, gt_iff_lt] at h3)
        refine cFalse (by kernel_rfl) ?_
        refine cSkip ?_
        refine kBlk ?_
        refine kSeq ?_
        refine cReg ?_
        refine segEndH [1, 2, 9, 10, 11] (T1 := (mkT 21 [(1, vI 0), (2, vI 3), (9, vS 0 3), (10, vI 3), (11, vI 3)])) (by kernel_rfl) ?_
        exact kLoop (3 - 3) (mkT 21 [(1, vI 0), (2, vI 3), (9, vS 0 3), (10, vI 3), (11, vI 3)]) [some ⟨[vI a, vI b, vI c], 74, true, false⟩] (by omega) (wkSame [1, 2, 9, 10, 11] (by kernel_rfl)) ⟨3, (by omega), (by refine ⟨fun _ => ?_, fun _ => ?_, fun _ => ?_⟩ <;> first | rfl | omega | assumption | exact hin.1 (by omega) | exact hin.2.1 (by omega)), rfl, rfl, rfl⟩
    ·
      refine cSeq ?_
      refine cReg ?_
      refine segEndH [1, 2, 9, 10, 11, 12] (T1 := (mkT 21 [(1, vI 0), (2, vI 3), (9, vS 0 3), (10, vI 3), (11, vI 3), (12, .bool false)])) (by kernel_rfl) ?_
      refine kSeq ?_
      refine cSeq ?_
      refine cFalse (by kernel_rfl) ?_
      refine cExit ?_
      refine kSeqE ?_
      refine kLoopE ?_
      refine kBlkHit ?_
      refine kSeq ?_
      refine cSeq ?_
      refine cReg ?_
      refine segEndH [6] (T1 := (mkT 21 [(6, .bool true)])) (by kernel_rfl) ?_
      refine kSeq ?_
      refine cRet ?_
      -- end
      have he0 : (true : Bool) = has3 4 4 4 a b c := by first | exact (has4_t (hin.1 (by omega)) (hin.2.1 (by omega)) (hin.2.2 (by omega))).symm | (symm; first | exact has4_x (by assumption) | exact has4_y (by assumption) | exact has4_z (by assumption))
      refine endCast (v1 := .bool true) (H1 := [some ⟨[vI a, vI b, vI c], 74, true, false⟩]) (by first | rfl | ((try rw [← he0]); done) | (simp only [← he0]; done)) (by first | rfl | ((try rw [← he0]); done) | (simp only [← he0]; done)) ?_
      exact endQ (Or.inr rfl) (l := [.bool true]) [] (by kernel_rfl) (by first | rfl | kernel_rfl) rfl rfl hcl rfl

set_option maxRecDepth 100000 in
set_option maxHeartbeats 4000000 in
theorem l1LeastB (a : Int) (b : Int)  : Sound Try.prog 106 [vI a, vI b] [] (vI (mnI a b)) [] := by
  refine sound_intro (C := cx) Try.func106 rfl (by kernel_rfl) fun hcl => ?_
  refine cSeq ?_
  refine cReg ?_
  refine segEndH [0, 1] (T1 := (mkT 10 [(0, vI a), (1, vI b)])) (by kernel_rfl) ?_
  refine kSeq ?_
  refine cSeq ?_
  refine cSeq ?_
  refine cReg ?_
  refine segEndH [0, 1, 7] (T1 := (mkT 10 [(0, vI a), (1, vI b), (7, .bool (decide (a < b)))])) (by kernel_rfl) ?_
  refine kSeq ?_
  cases h1 : (decide (a < b) : Bool)
  ·
    (try simp only [Bool.not_eq_true', Bool.not_eq_false', decide_eq_true_eq, decide_eq_false_iff_not, beq_iff_eq, bne_iff_ne, beq_eq_false_iff_ne, bne_eq_false_iff_eq, ne_eq, Decidable.not_not, Bool.and_eq_true, Bool.and_eq_false_imp, Bool.or_eq_true, Bool.or_eq_false_iff, Bool.not_eq_true, Int.not_lt, Int.not_le, ge_iff_le, gt_iff_lt] at h1)
    refine cFalse (by kernel_rfl) ?_
    refine cSkip ?_
    refine kSeq ?_
    refine cSeq ?_
    refine cReg ?_
    refine segEndH [4] (T1 := (mkT 10 [(4, vI b)])) (by kernel_rfl) ?_
    refine kSeq ?_
    refine cRet ?_
    -- end
    have he0 : (b : Int) = mnI a b := by (unfold mnI; split <;> omega)
    refine endCast (v1 := vI b) (H1 := []) (by first | rfl | ((try rw [← he0]); done) | (simp only [← he0]; done)) (by first | rfl | ((try rw [← he0]); done) | (simp only [← he0]; done)) ?_
    exact endQ (Or.inr rfl) (l := [vI b]) [] (by kernel_rfl) (by first | rfl | kernel_rfl) rfl rfl hcl rfl
  ·
    (try simp only [Bool.not_eq_true', Bool.not_eq_false', decide_eq_true_eq, decide_eq_false_iff_not, beq_iff_eq, bne_iff_ne, beq_eq_false_iff_ne, bne_eq_false_iff_eq, ne_eq, Decidable.not_not, Bool.and_eq_true, Bool.and_eq_false_imp, Bool.or_eq_true, Bool.or_eq_false_iff, Bool.not_eq_true, Int.not_lt, Int.not_le, ge_iff_le, gt_iff_lt] at h1)
    refine cTrue (by kernel_rfl) ?_
    refine cSeq ?_
    refine cReg ?_
    refine segEndH [4] (T1 := (mkT 10 [(4, vI a)])) (by kernel_rfl) ?_
    refine kSeq ?_
    refine cRet ?_
    refine kSeqR ?_
    -- end
    have he0 : (a : Int) = mnI a b := by (unfold mnI; split <;> omega)
    refine endCast (v1 := vI a) (H1 := []) (by first | rfl | ((try rw [← he0]); done) | (simp only [← he0]; done)) (by first | rfl | ((try rw [← he0]); done) | (simp only [← he0]; done)) ?_
    exact endQ (Or.inr rfl) (l := [vI a]) [] (by kernel_rfl) (by first | rfl | kernel_rfl) rfl rfl hcl rfl

set_option maxRecDepth 100000 in
set_option maxHeartbeats 4000000 in
theorem l9PieceB (L : List A3) (hl : L.length ≤ 1048576) : Sound Try.prog 66 [vS 0 L.length] [some ⟨a3s L, 74, false, false⟩] (.bool (pieceB L)) [some ⟨a3s L, 74, false, false⟩] := by
  refine sound_intro (C := cx) Try.func66 rfl (by kernel_rfl) fun hcl => ?_
  refine cSeq ?_
  refine cReg ?_
  refine segEndH [0] (T1 := (mkT 59 [(0, vS 0 L.length)])) (by kernel_rfl) ?_
  refine kSeq ?_
  refine cSeq ?_
  refine cSeq ?_
  refine cReg ?_
  refine segH 2 (T1 := (mkT 59 [(0, vS 0 L.length), (6, vS 0 L.length), (7, vN L.length)])) (by kernel_rfl) ?_
  refine rCall (v := .bool (inR ((L.length : Nat) : Int) 1 5)) (args := [vN L.length, vI 1, vI 5]) (by kernel_rfl) rfl (by kernel_rfl) (Sound.lay0 [] (l1InB ((L.length : Nat) : Int) 1 5) trivial rfl trivial rfl (by first | rfl | simp [mpV, mpA, mpS, mpP, renId, shift]) rfl) ?_
  refine segEndH [0, 9] (T1 := (mkT 59 [(0, vS 0 L.length), (9, .bool (!(inR ((L.length : Nat) : Int) 1 5)))])) (by kernel_rfl) ?_
  refine kSeq ?_
  cases h1 : (inR ((L.length : Nat) : Int) 1 5 : Bool)
  ·
    have h1k := h1
    (try simp only [Bool.not_eq_true', Bool.not_eq_false', decide_eq_true_eq, decide_eq_false_iff_not, beq_iff_eq, bne_iff_ne, beq_eq_false_iff_ne, bne_eq_false_iff_eq, ne_eq, Decidable.not_not, Bool.and_eq_true, Bool.and_eq_false_imp, Bool.or_eq_true, Bool.or_eq_false_iff, Bool.not_eq_true, Int.not_lt, Int.not_le, ge_iff_le, gt_iff_lt] at h1)
    refine cTrue (by kernel_rfl) ?_
    refine cSeq ?_
    refine cReg ?_
    refine segEndH [2] (T1 := (mkT 59 [(2, .bool false)])) (by kernel_rfl) ?_
    refine kSeq ?_
    refine cRet ?_
    refine kSeqR ?_
    -- end
    have he0 : (false : Bool) = pieceB L := by first | exact piece_len (by assumption) | exact piece_out (i := i) (by omega) (by first | exact has4_x (by assumption) | exact has4_y (by assumption) | exact has4_z (by assumption)) | exact piece_lex (i := i) (by omega) (by omega) (by assumption) | exact piece_end (by assumption) (by omega) hi ho hm0 hm1 hm2
    refine endCast (v1 := .bool false) (H1 := [some ⟨a3s L, 74, false, false⟩]) (by first | rfl | ((try rw [← he0]); done) | (simp only [← he0]; done)) (by first | rfl | ((try rw [← he0]); done) | (simp only [← he0]; done)) ?_
    exact endQ (Or.inr rfl) (l := [.bool false]) [] (by kernel_rfl) (by first | rfl | kernel_rfl) rfl rfl hcl rfl
  ·
    have h1k := h1
    (try simp only [Bool.not_eq_true', Bool.not_eq_false', decide_eq_true_eq, decide_eq_false_iff_not, beq_iff_eq, bne_iff_ne, beq_eq_false_iff_ne, bne_eq_false_iff_eq, ne_eq, Decidable.not_not, Bool.and_eq_true, Bool.and_eq_false_imp, Bool.or_eq_true, Bool.or_eq_false_iff, Bool.not_eq_true, Int.not_lt, Int.not_le, ge_iff_le, gt_iff_lt] at h1)
    have hb := inR_le h1
    refine cFalse (by kernel_rfl) ?_
    refine cSkip ?_
    refine kSeq ?_
    refine cSeq ?_
    refine cReg ?_
    refine segEnd [0, 3] (T1 := (mkT 59 [(0, vS 0 L.length), (3, vP 1 0)])) (H1 := [some ⟨a3s L, 74, false, false⟩, rB [vI 4, vI 4, vI 4] 74]) (by kernel_rfl) ?_
    refine kSeq ?_
    refine cSeq ?_
    refine cSeq ?_
    refine cReg ?_
    refine segEndH [0, 3, 4] (T1 := (mkT 59 [(0, vS 0 L.length), (3, vP 1 0), (4, vI 0)])) (by kernel_rfl) ?_
    refine kSeq ?_
    refine cBlk ?_
    -- loop
    refine cLoop (fun mm T H => ∃ i : Nat, ∃ m0 : Int, ∃ m1 : Int, ∃ m2 : Int, (i ≤ L.length) ∧ (okTo 4 4 4 L i = true) ∧ (m0 = mnF 4 A3.x L i) ∧ (m1 = mnF 4 A3.y L i) ∧ (m2 = mnF 4 A3.z L i) ∧ mm = L.length - i ∧ T = (mkT 59 [(0, vS 0 L.length), (3, vP 1 0), (4, vN i)]) ∧ H = [some ⟨a3s L, 74, false, false⟩, rB [vI m0, vI m1, vI m2] 74]) (L.length - 0) (mkT 59 [(0, vS 0 L.length), (3, vP 1 0), (4, vI 0)]) [some ⟨a3s L, 74, false, false⟩, rB [vI 4, vI 4, vI 4] 74] (wkSame [0, 3, 4] (by kernel_rfl)) ?_ ?_
    · exact ⟨0, 4, 4, 4, (Nat.zero_le _), (rfl), (rfl), (rfl), (rfl), rfl, rfl, rfl⟩
    · rintro _ _ _ ⟨i, m0, m1, m2, hi, ho, hm0, hm1, hm2, rfl, rfl, rfl⟩
      refine cSeq ?_
      refine cSeq ?_
      refine cReg ?_
      refine segEndH [0, 3, 4, 14] (T1 := (mkT 59 [(0, vS 0 L.length), (3, vP 1 0), (4, vN i), (14, .bool (decide (((i : Nat) : Int) < ((L.length : Nat) : Int))))])) (by kernel_rfl) ?_
      refine kSeq ?_
      cases h2 : (decide (((i : Nat) : Int) < ((L.length : Nat) : Int)) : Bool)
      ·
        have h2k := h2
        (try simp only [Bool.not_eq_true', Bool.not_eq_false', decide_eq_true_eq, decide_eq_false_iff_not, beq_iff_eq, bne_iff_ne, beq_eq_false_iff_ne, bne_eq_false_iff_eq, ne_eq, Decidable.not_not, Bool.and_eq_true, Bool.and_eq_false_imp, Bool.or_eq_true, Bool.or_eq_false_iff, Bool.not_eq_true, Int.not_lt, Int.not_le, ge_iff_le, gt_iff_lt] at h2)
        refine cFalse (by kernel_rfl) ?_
        refine cExit ?_
        refine kSeqE ?_
        refine kLoopE ?_
        refine kBlkHit ?_
        refine kSeq ?_
        refine cSeq ?_
        refine cReg ?_
        refine segEndH [2] (T1 := (mkT 59 [(2, .bool ((m0 == 0) && ((m1 == 0) && ((m2 == 0) && true))))])) (by kernel_rfl) ?_
        refine kSeq ?_
        refine cRet ?_
        -- end
        have he0 : (((m0 == 0) && ((m1 == 0) && ((m2 == 0) && true))) : Bool) = pieceB L := by first | exact piece_len (by assumption) | exact piece_out (i := i) (by omega) (by first | exact has4_x (by assumption) | exact has4_y (by assumption) | exact has4_z (by assumption)) | exact piece_lex (i := i) (by omega) (by omega) (by assumption) | exact piece_end (by assumption) (by omega) hi ho hm0 hm1 hm2
        refine endCast (v1 := .bool ((m0 == 0) && ((m1 == 0) && ((m2 == 0) && true)))) (H1 := [some ⟨a3s L, 74, false, false⟩]) (by first | rfl | ((try rw [← he0]); done) | (simp only [← he0]; done)) (by first | rfl | ((try rw [← he0]); done) | (simp only [← he0]; done)) ?_
        exact endQ (Or.inr rfl) (l := [.bool ((m0 == 0) && ((m1 == 0) && ((m2 == 0) && true)))]) [rB [vI m0, vI m1, vI m2] 74] (by kernel_rfl) (by first | rfl | kernel_rfl) rfl rfl hcl rfl
      ·
        have h2k := h2
        (try simp only [Bool.not_eq_true', Bool.not_eq_false', decide_eq_true_eq, decide_eq_false_iff_not, beq_iff_eq, bne_iff_ne, beq_eq_false_iff_ne, bne_eq_false_iff_eq, ne_eq, Decidable.not_not, Bool.and_eq_true, Bool.and_eq_false_imp, Bool.or_eq_true, Bool.or_eq_false_iff, Bool.not_eq_true, Int.not_lt, Int.not_le, ge_iff_le, gt_iff_lt] at h2)
        refine cTrue (by kernel_rfl) ?_
        refine cSkip ?_
        refine kSeq ?_
        refine cSeq ?_
        refine cBlk ?_
        refine cSeq ?_
        refine cSeq ?_
        refine cReg ?_
        refine segEndH [0, 3, 4, 5] (T1 := (mkT 59 [(0, vS 0 L.length), (3, vP 1 0), (4, vN i), (5, vI 0)])) (by kernel_rfl) ?_
        refine kSeq ?_
        refine cBlk ?_
        -- loop
        refine cLoop (fun mm T H => ∃ k : Nat, ∃ n0 : Int, ∃ n1 : Int, ∃ n2 : Int, (k ≤ 3) ∧ ((1 ≤ k → inR (L.getD i default).x 0 3 = true) ∧ (2 ≤ k → inR (L.getD i default).y 0 3 = true) ∧ (3 ≤ k → inR (L.getD i default).z 0 3 = true)) ∧ (n0 = mnF 4 A3.x L (i + (if 0 < k then 1 else 0))) ∧ (n1 = mnF 4 A3.y L (i + (if 1 < k then 1 else 0))) ∧ (n2 = mnF 4 A3.z L (i + (if 2 < k then 1 else 0))) ∧ mm = 3 - k ∧ T = (mkT 59 [(0, vS 0 L.length), (3, vP 1 0), (4, vN i), (5, vN k)]) ∧ H = [some ⟨a3s L, 74, false, false⟩, rB [vI n0, vI n1, vI n2] 74]) (3 - 0) (mkT 59 [(0, vS 0 L.length), (3, vP 1 0), (4, vN i), (5, vI 0)]) [some ⟨a3s L, 74, false, false⟩, rB [vI m0, vI m1, vI m2] 74] (wkSame [0, 3, 4, 5] (by kernel_rfl)) ?_ ?_
        · exact ⟨0, m0, m1, m2, (Nat.zero_le _), (⟨fun h => absurd h (by omega), fun h => absurd h (by omega), fun h => absurd h (by omega)⟩), (hm0), (hm1), (hm2), rfl, rfl, rfl⟩
        · rintro _ _ _ ⟨k, n0, n1, n2, hk, hin, hn0, hn1, hn2, rfl, rfl, rfl⟩
          have hcase : k = 0 ∨ k = 1 ∨ k = 2 ∨ k = 3 := by omega
          rcases hcase with rfl | rfl | rfl | rfl
          ·
            refine cSeq ?_
            refine cSeq ?_
            refine cReg ?_
            refine segEndH [0, 3, 4, 5, 18] (T1 := (mkT 59 [(0, vS 0 L.length), (3, vP 1 0), (4, vN i), (5, vI 0), (18, .bool true)])) (by kernel_rfl) ?_
            refine kSeq ?_
            refine cTrue (by kernel_rfl) ?_
            refine cSkip ?_
            refine kSeq ?_
            refine cSeq ?_
            refine cBlk ?_
            refine cSeq ?_
            refine cSeq ?_
            refine cReg ?_
            refine segH 3 (T1 := (mkT 59 [(0, vS 0 L.length), (3, vP 1 0), (4, vN i), (5, vI 0), (18, .bool true), (21, vS 0 L.length), (22, vN i), (23, vI 0)])) (by kernel_rfl) ?_
            refine rOp (v := vP 0 (i * 3)) (by kernel_rfl) (eIdxS (ad := ⟨0, 0, none⟩) (n := L.length) (m := 0) (k := .i64) (c := ((i : Nat) : Int)) (j := i) (o := i * 3) (by kernel_rfl) (by kernel_rfl) ti31 ti74 (rfl) (by omega) (by exact Nat.zero_add _)) ?_
            refine segH 1 (T1 := (mkT 59 [(0, vS 0 L.length), (3, vP 1 0), (4, vN i), (5, vI 0), (18, .bool true), (21, vS 0 L.length), (22, vN i), (23, vI 0), (24, vP 0 (i * 3)), (25, vP 0 (i * 3 + 0))])) (by kernel_rfl) ?_
            refine rOp (v := vI ((L.getD i default).x)) (by kernel_rfl) (eLdA3i (ad := ⟨0, i * 3 + 0, none⟩) (r := ⟨a3s L, 74, false, false⟩) (L := L) (j := i) (i := 0) (by kernel_rfl) (by kernel_rfl) rfl (by first | rfl | omega) (by omega) ti3 rfl rfl) ?_
            refine rCall (v := .bool (inR ((L.getD i default).x) 0 3)) (args := [vI ((L.getD i default).x), vI 0, vI 3]) (by kernel_rfl) rfl (by kernel_rfl) (Sound.lay0 [] (l1InB ((L.getD i default).x) 0 3) trivial rfl trivial rfl (by first | rfl | simp [mpV, mpA, mpS, mpP, renId, shift]) rfl) ?_
            refine segEndH [0, 3, 4, 5, 28] (T1 := (mkT 59 [(0, vS 0 L.length), (3, vP 1 0), (4, vN i), (5, vI 0), (28, .bool (!(inR ((L.getD i default).x) 0 3)))])) (by kernel_rfl) ?_
            refine kSeq ?_
            cases h3 : (inR ((L.getD i default).x) 0 3 : Bool)
            ·
              have h3k := h3
              (try simp only [Bool.not_eq_true', Bool.not_eq_false', decide_eq_true_eq, decide_eq_false_iff_not, beq_iff_eq, bne_iff_ne, beq_eq_false_iff_ne, bne_eq_false_iff_eq, ne_eq, Decidable.not_not, Bool.and_eq_true, Bool.and_eq_false_imp, Bool.or_eq_true, Bool.or_eq_false_iff, Bool.not_eq_true, Int.not_lt, Int.not_le, ge_iff_le, gt_iff_lt] at h3)
              refine cTrue (by kernel_rfl) ?_
              refine cSeq ?_
              refine cReg ?_
              refine segEndH [2] (T1 := (mkT 59 [(2, .bool false)])) (by kernel_rfl) ?_
              refine kSeq ?_
              refine cRet ?_
              refine kSeqR ?_
              refine kBlkR ?_
              refine kSeqR ?_
              refine kLoopR ?_
              refine kBlkR ?_
              refine kSeqR ?_
              refine kBlkR ?_
              refine kSeqR ?_
              refine kLoopR ?_
              refine kBlkR ?_
              refine kSeqR ?_
              -- end
              have he0 : (false : Bool) = pieceB L := by first | exact piece_len (by assumption) | exact piece_out (i := i) (by omega) (by first | exact has4_x (by assumption) | exact has4_y (by assumption) | exact has4_z (by assumption)) | exact piece_lex (i := i) (by omega) (by omega) (by assumption) | exact piece_end (by assumption) (by omega) hi ho hm0 hm1 hm2
              refine endCast (v1 := .bool false) (H1 := [some ⟨a3s L, 74, false, false⟩]) (by first | rfl | ((try rw [← he0]); done) | (simp only [← he0]; done)) (by first | rfl | ((try rw [← he0]); done) | (simp only [← he0]; done)) ?_
              exact endQ (Or.inr rfl) (l := [.bool false]) [rB [vI n0, vI n1, vI n2] 74] (by kernel_rfl) (by first | rfl | kernel_rfl) rfl rfl hcl rfl
            ·
              have h3k := h3
              (try simp only [Bool.not_eq_true', Bool.not_eq_false', decide_eq_true_eq, decide_eq_false_iff_not, beq_iff_eq, bne_iff_ne, beq_eq_false_iff_ne, bne_eq_false_iff_eq, ne_eq, Decidable.not_not, Bool.and_eq_true, Bool.and_eq_false_imp, Bool.or_eq_true, Bool.or_eq_false_iff, Bool.not_eq_true, Int.not_lt, Int.not_le, ge_iff_le, gt_iff_lt] at h3)
              refine cFalse (by kernel_rfl) ?_
              refine cSkip ?_
              refine kSeq ?_
              refine cRegW (N := 2) [⟨[], [], []⟩, ⟨[], [], []⟩, ⟨[], [], []⟩, ⟨[], [], [1]⟩, ⟨[], [], []⟩, ⟨[], [], []⟩, ⟨[], [], []⟩, ⟨[], [], []⟩, ⟨[], [], []⟩, ⟨[], [], [0]⟩, ⟨[], [], []⟩, ⟨[], [], []⟩, ⟨[], [1], []⟩] 0 [] (by rfl) (by rfl) (by kernel_rfl) (by kernel_rfl) (by kernel_rfl) ⟨nmsF (flatA3 _ _ _ _), ⟨nmsX (by kernel_rfl), trivial⟩⟩ ?_
              refine segWH 7 (T1 := (mkT 59 [(0, vS 0 L.length), (3, vP 1 0), (4, vN i), (5, vI 0), (28, .bool false), (29, vI 0), (30, vI 0), (31, vP 1 0), (32, vI n0), (33, vS 0 L.length), (34, vN i), (35, vI 0)])) (by kernel_rfl) ?_
              refine rW (m := ⟨[], [], []⟩) (v := vP 0 (i * 3)) rfl (by kernel_rfl) (stId (eIdxS (ad := ⟨0, 0, none⟩) (n := L.length) (m := 0) (k := .i64) (c := ((i : Nat) : Int)) (j := i) (o := i * 3) (by kernel_rfl) (by kernel_rfl) ti31 ti74 (rfl) (by omega) (by exact Nat.zero_add _)) rfl (by kernel_rfl) (by kernel_rfl) (by kernel_rfl)) (by kernel_rfl) nr0 ?_
              refine segWH 1 (T1 := (mkT 59 [(0, vS 0 L.length), (3, vP 1 0), (4, vN i), (5, vI 0), (28, .bool false), (29, vI 0), (30, vI 0), (31, vP 1 0), (32, vI n0), (33, vS 0 L.length), (34, vN i), (35, vI 0), (36, vP 0 (i * 3)), (37, vP 0 (i * 3 + 0))])) (by kernel_rfl) ?_
              refine rW (m := ⟨[], [], [0]⟩) (v := vI ((L.getD i default).x)) rfl (by kernel_rfl) (stId (eLdA3i (ad := ⟨0, i * 3 + 0, none⟩) (r := ⟨a3s L, 74, false, false⟩) (L := L) (j := i) (i := 0) (by kernel_rfl) (by kernel_rfl) rfl (by first | rfl | omega) (by omega) ti3 rfl rfl) rfl (by kernel_rfl) (by kernel_rfl) (by kernel_rfl)) (by kernel_rfl) nr0 ?_
              refine rW (m := ⟨[], [], []⟩) (v := vI (mnI n0 ((L.getD i default).x))) rfl (by kernel_rfl) (stQ (args := [vI n0, vI ((L.getD i default).x)]) rfl (by kernel_rfl) (Any.lay0 [] (l1LeastB n0 ((L.getD i default).x)) trivial rfl trivial rfl (by first | rfl | simp [mpV, mpA, mpS, mpP, renId, shift]) rfl) rfl (by kernel_rfl) (by kernel_rfl)) (by kernel_rfl) nr0 ?_
              refine segWH 1 (T1 := (mkT 59 [(0, vS 0 L.length), (3, vP 1 0), (4, vN i), (5, vI 0), (28, .bool false), (29, vI 0), (30, vI 0), (31, vP 1 0), (32, vI n0), (33, vS 0 L.length), (34, vN i), (35, vI 0), (36, vP 0 (i * 3)), (37, vP 0 (i * 3 + 0)), (38, vI ((L.getD i default).x)), (39, vI (mnI n0 ((L.getD i default).x))), (40, vP 1 0)])) (by kernel_rfl) ?_
              refine rW (m := ⟨[], [1], []⟩) (v := .tuple #[]) rfl (by kernel_rfl) (stSet (b := 1) (r := ⟨[vI (mnI n0 ((L.getD i default).x)), vI n1, vI n2], 74, true, true⟩) (by kernel_rfl) rfl (by kernel_rfl) (by kernel_rfl) (by kernel_rfl) (by kernel_rfl) (nmX (by kernel_rfl)) (clX (by kernel_rfl))) (by kernel_rfl) (NRs.all ⟨nrOf (by rfl) (nmX (by kernel_rfl)), trivial⟩) ?_
              refine segEndW [0, 3, 4, 5] (T1 := (mkT 59 [(0, vS 0 L.length), (3, vP 1 0), (4, vN i), (5, vI 0)])) (H1 := [some ⟨a3s L, 74, false, false⟩, rB [vI (mnI n0 ((L.getD i default).x)), vI n1, vI n2] 74]) (by kernel_rfl) ?_
              refine kBlk ?_
              refine kSeq ?_
              refine cReg ?_
              refine segEndH [0, 3, 4, 5] (T1 := (mkT 59 [(0, vS 0 L.length), (3, vP 1 0), (4, vN i), (5, vI 1)])) (by kernel_rfl) ?_
              exact kLoop (3 - 1) (mkT 59 [(0, vS 0 L.length), (3, vP 1 0), (4, vN i), (5, vI 1)]) [some ⟨a3s L, 74, false, false⟩, rB [vI (mnI n0 ((L.getD i default).x)), vI n1, vI n2] 74] (by omega) (wkSame [0, 3, 4, 5] (by kernel_rfl)) ⟨1, (mnI n0 ((L.getD i default).x)), n1, n2, (by omega), (by refine ⟨fun _ => ?_, fun _ => ?_, fun _ => ?_⟩ <;> first | rfl | omega | assumption | exact hin.1 (by omega) | exact hin.2.1 (by omega)), (by first | exact mnF_next hn0 rfl), (hn1), (hn2), rfl, rfl, rfl⟩
          ·
            refine cSeq ?_
            refine cSeq ?_
            refine cReg ?_
            refine segEndH [0, 3, 4, 5, 18] (T1 := (mkT 59 [(0, vS 0 L.length), (3, vP 1 0), (4, vN i), (5, vI 1), (18, .bool true)])) (by kernel_rfl) ?_
            refine kSeq ?_
            refine cTrue (by kernel_rfl) ?_
            refine cSkip ?_
            refine kSeq ?_
            refine cSeq ?_
            refine cBlk ?_
            refine cSeq ?_
            refine cSeq ?_
            refine cReg ?_
            refine segH 3 (T1 := (mkT 59 [(0, vS 0 L.length), (3, vP 1 0), (4, vN i), (5, vI 1), (18, .bool true), (21, vS 0 L.length), (22, vN i), (23, vI 1)])) (by kernel_rfl) ?_
            refine rOp (v := vP 0 (i * 3)) (by kernel_rfl) (eIdxS (ad := ⟨0, 0, none⟩) (n := L.length) (m := 0) (k := .i64) (c := ((i : Nat) : Int)) (j := i) (o := i * 3) (by kernel_rfl) (by kernel_rfl) ti31 ti74 (rfl) (by omega) (by exact Nat.zero_add _)) ?_
            refine segH 1 (T1 := (mkT 59 [(0, vS 0 L.length), (3, vP 1 0), (4, vN i), (5, vI 1), (18, .bool true), (21, vS 0 L.length), (22, vN i), (23, vI 1), (24, vP 0 (i * 3)), (25, vP 0 (i * 3 + 1))])) (by kernel_rfl) ?_
            refine rOp (v := vI ((L.getD i default).y)) (by kernel_rfl) (eLdA3i (ad := ⟨0, i * 3 + 1, none⟩) (r := ⟨a3s L, 74, false, false⟩) (L := L) (j := i) (i := 1) (by kernel_rfl) (by kernel_rfl) rfl (by first | rfl | omega) (by omega) ti3 rfl rfl) ?_
            refine rCall (v := .bool (inR ((L.getD i default).y) 0 3)) (args := [vI ((L.getD i default).y), vI 0, vI 3]) (by kernel_rfl) rfl (by kernel_rfl) (Sound.lay0 [] (l1InB ((L.getD i default).y) 0 3) trivial rfl trivial rfl (by first | rfl | simp [mpV, mpA, mpS, mpP, renId, shift]) rfl) ?_
            refine segEndH [0, 3, 4, 5, 28] (T1 := (mkT 59 [(0, vS 0 L.length), (3, vP 1 0), (4, vN i), (5, vI 1), (28, .bool (!(inR ((L.getD i default).y) 0 3)))])) (by kernel_rfl) ?_
            refine kSeq ?_
            cases h4 : (inR ((L.getD i default).y) 0 3 : Bool)
            ·
              have h4k := h4
              (try simp only [Bool.not_eq_true', Bool.not_eq_false', decide_eq_true_eq, decide_eq_false_iff_not, beq_iff_eq, bne_iff_ne, beq_eq_false_iff_ne, bne_eq_false_iff_eq, ne_eq, Decidable.not_not, Bool.and_eq_true, Bool.and_eq_false_imp, Bool.or_eq_true, Bool.or_eq_false_iff, Bool.not_eq_true, Int.not_lt, Int.not_le, ge_iff_le, gt_iff_lt] at h4)
              refine cTrue (by kernel_rfl) ?_
              refine cSeq ?_
              refine cReg ?_
              refine segEndH [2] (T1 := (mkT 59 [(2, .bool false)])) (by kernel_rfl) ?_
              refine kSeq ?_
              refine cRet ?_
              refine kSeqR ?_
              refine kBlkR ?_
              refine kSeqR ?_
              refine kLoopR ?_
              refine kBlkR ?_
              refine kSeqR ?_
              refine kBlkR ?_
              refine kSeqR ?_
              refine kLoopR ?_
              refine kBlkR ?_
              refine kSeqR ?_
              -- end
              have he0 : (false : Bool) = pieceB L := by first | exact piece_len (by assumption) | exact piece_out (i := i) (by omega) (by first | exact has4_x (by assumption) | exact has4_y (by assumption) | exact has4_z (by assumption)) | exact piece_lex (i := i) (by omega) (by omega) (by assumption) | exact piece_end (by assumption) (by omega) hi ho hm0 hm1 hm2
              refine endCast (v1 := .bool false) (H1 := [some ⟨a3s L, 74, false, false⟩]) (by first | rfl | ((try rw [← he0]); done) | (simp only [← he0]; done)) (by first | rfl | ((try rw [← he0]); done) | (simp only [← he0]; done)) ?_
              exact endQ (Or.inr rfl) (l := [.bool false]) [rB [vI n0, vI n1, vI n2] 74] (by kernel_rfl) (by first | rfl | kernel_rfl) rfl rfl hcl rfl
            ·
              have h4k := h4
              (try simp only [Bool.not_eq_true', Bool.not_eq_false', decide_eq_true_eq, decide_eq_false_iff_not, beq_iff_eq, bne_iff_ne, beq_eq_false_iff_ne, bne_eq_false_iff_eq, ne_eq, Decidable.not_not, Bool.and_eq_true, Bool.and_eq_false_imp, Bool.or_eq_true, Bool.or_eq_false_iff, Bool.not_eq_true, Int.not_lt, Int.not_le, ge_iff_le, gt_iff_lt] at h4)
              refine cFalse (by kernel_rfl) ?_
              refine cSkip ?_
              refine kSeq ?_
              refine cRegW (N := 2) [⟨[], [], []⟩, ⟨[], [], []⟩, ⟨[], [], []⟩, ⟨[], [], [1]⟩, ⟨[], [], []⟩, ⟨[], [], []⟩, ⟨[], [], []⟩, ⟨[], [], []⟩, ⟨[], [], []⟩, ⟨[], [], [0]⟩, ⟨[], [], []⟩, ⟨[], [], []⟩, ⟨[], [1], []⟩] 0 [] (by rfl) (by rfl) (by kernel_rfl) (by kernel_rfl) (by kernel_rfl) ⟨nmsF (flatA3 _ _ _ _), ⟨nmsX (by kernel_rfl), trivial⟩⟩ ?_
              refine segWH 7 (T1 := (mkT 59 [(0, vS 0 L.length), (3, vP 1 0), (4, vN i), (5, vI 1), (28, .bool false), (29, vI 1), (30, vI 1), (31, vP 1 1), (32, vI n1), (33, vS 0 L.length), (34, vN i), (35, vI 1)])) (by kernel_rfl) ?_
              refine rW (m := ⟨[], [], []⟩) (v := vP 0 (i * 3)) rfl (by kernel_rfl) (stId (eIdxS (ad := ⟨0, 0, none⟩) (n := L.length) (m := 0) (k := .i64) (c := ((i : Nat) : Int)) (j := i) (o := i * 3) (by kernel_rfl) (by kernel_rfl) ti31 ti74 (rfl) (by omega) (by exact Nat.zero_add _)) rfl (by kernel_rfl) (by kernel_rfl) (by kernel_rfl)) (by kernel_rfl) nr0 ?_
              refine segWH 1 (T1 := (mkT 59 [(0, vS 0 L.length), (3, vP 1 0), (4, vN i), (5, vI 1), (28, .bool false), (29, vI 1), (30, vI 1), (31, vP 1 1), (32, vI n1), (33, vS 0 L.length), (34, vN i), (35, vI 1), (36, vP 0 (i * 3)), (37, vP 0 (i * 3 + 1))])) (by kernel_rfl) ?_
              refine rW (m := ⟨[], [], [0]⟩) (v := vI ((L.getD i default).y)) rfl (by kernel_rfl) (stId (eLdA3i (ad := ⟨0, i * 3 + 1, none⟩) (r := ⟨a3s L, 74, false, false⟩) (L := L) (j := i) (i := 1) (by kernel_rfl) (by kernel_rfl) rfl (by first | rfl | omega) (by omega) ti3 rfl rfl) rfl (by kernel_rfl) (by kernel_rfl) (by kernel_rfl)) (by kernel_rfl) nr0 ?_
              refine rW (m := ⟨[], [], []⟩) (v := vI (mnI n1 ((L.getD i default).y))) rfl (by kernel_rfl) (stQ (args := [vI n1, vI ((L.getD i default).y)]) rfl (by kernel_rfl) (Any.lay0 [] (l1LeastB n1 ((L.getD i default).y)) trivial rfl trivial rfl (by first | rfl | simp [mpV, mpA, mpS, mpP, renId, shift]) rfl) rfl (by kernel_rfl) (by kernel_rfl)) (by kernel_rfl) nr0 ?_
              refine segWH 1 (T1 := (mkT 59 [(0, vS 0 L.length), (3, vP 1 0), (4, vN i), (5, vI 1), (28, .bool false), (29, vI 1), (30, vI 1), (31, vP 1 1), (32, vI n1), (33, vS 0 L.length), (34, vN i), (35, vI 1), (36, vP 0 (i * 3)), (37, vP 0 (i * 3 + 1)), (38, vI ((L.getD i default).y)), (39, vI (mnI n1 ((L.getD i default).y))), (40, vP 1 1)])) (by kernel_rfl) ?_
              refine rW (m := ⟨[], [1], []⟩) (v := .tuple #[]) rfl (by kernel_rfl) (stSet (b := 1) (r := ⟨[vI n0, vI (mnI n1 ((L.getD i default).y)), vI n2], 74, true, true⟩) (by kernel_rfl) rfl (by kernel_rfl) (by kernel_rfl) (by kernel_rfl) (by kernel_rfl) (nmX (by kernel_rfl)) (clX (by kernel_rfl))) (by kernel_rfl) (NRs.all ⟨nrOf (by rfl) (nmX (by kernel_rfl)), trivial⟩) ?_
              refine segEndW [0, 3, 4, 5] (T1 := (mkT 59 [(0, vS 0 L.length), (3, vP 1 0), (4, vN i), (5, vI 1)])) (H1 := [some ⟨a3s L, 74, false, false⟩, rB [vI n0, vI (mnI n1 ((L.getD i default).y)), vI n2] 74]) (by kernel_rfl) ?_
              refine kBlk ?_
              refine kSeq ?_
              refine cReg ?_
              refine segEndH [0, 3, 4, 5] (T1 := (mkT 59 [(0, vS 0 L.length), (3, vP 1 0), (4, vN i), (5, vI 2)])) (by kernel_rfl) ?_
              exact kLoop (3 - 2) (mkT 59 [(0, vS 0 L.length), (3, vP 1 0), (4, vN i), (5, vI 2)]) [some ⟨a3s L, 74, false, false⟩, rB [vI n0, vI (mnI n1 ((L.getD i default).y)), vI n2] 74] (by omega) (wkSame [0, 3, 4, 5] (by kernel_rfl)) ⟨2, n0, (mnI n1 ((L.getD i default).y)), n2, (by omega), (by refine ⟨fun _ => ?_, fun _ => ?_, fun _ => ?_⟩ <;> first | rfl | omega | assumption | exact hin.1 (by omega) | exact hin.2.1 (by omega)), (hn0), (by first | exact mnF_next hn1 rfl), (hn2), rfl, rfl, rfl⟩
          ·
            refine cSeq ?_
            refine cSeq ?_
            refine cReg ?_
            refine segEndH [0, 3, 4, 5, 18] (T1 := (mkT 59 [(0, vS 0 L.length), (3, vP 1 0), (4, vN i), (5, vI 2), (18, .bool true)])) (by kernel_rfl) ?_
            refine kSeq ?_
            refine cTrue (by kernel_rfl) ?_
            refine cSkip ?_
            refine kSeq ?_
            refine cSeq ?_
            refine cBlk ?_
            refine cSeq ?_
            refine cSeq ?_
            refine cReg ?_
            refine segH 3 (T1 := (mkT 59 [(0, vS 0 L.length), (3, vP 1 0), (4, vN i), (5, vI 2), (18, .bool true), (21, vS 0 L.length), (22, vN i), (23, vI 2)])) (by kernel_rfl) ?_
            refine rOp (v := vP 0 (i * 3)) (by kernel_rfl) (eIdxS (ad := ⟨0, 0, none⟩) (n := L.length) (m := 0) (k := .i64) (c := ((i : Nat) : Int)) (j := i) (o := i * 3) (by kernel_rfl) (by kernel_rfl) ti31 ti74 (rfl) (by omega) (by exact Nat.zero_add _)) ?_
            refine segH 1 (T1 := (mkT 59 [(0, vS 0 L.length), (3, vP 1 0), (4, vN i), (5, vI 2), (18, .bool true), (21, vS 0 L.length), (22, vN i), (23, vI 2), (24, vP 0 (i * 3)), (25, vP 0 (i * 3 + 2))])) (by kernel_rfl) ?_
            refine rOp (v := vI ((L.getD i default).z)) (by kernel_rfl) (eLdA3i (ad := ⟨0, i * 3 + 2, none⟩) (r := ⟨a3s L, 74, false, false⟩) (L := L) (j := i) (i := 2) (by kernel_rfl) (by kernel_rfl) rfl (by first | rfl | omega) (by omega) ti3 rfl rfl) ?_
            refine rCall (v := .bool (inR ((L.getD i default).z) 0 3)) (args := [vI ((L.getD i default).z), vI 0, vI 3]) (by kernel_rfl) rfl (by kernel_rfl) (Sound.lay0 [] (l1InB ((L.getD i default).z) 0 3) trivial rfl trivial rfl (by first | rfl | simp [mpV, mpA, mpS, mpP, renId, shift]) rfl) ?_
            refine segEndH [0, 3, 4, 5, 28] (T1 := (mkT 59 [(0, vS 0 L.length), (3, vP 1 0), (4, vN i), (5, vI 2), (28, .bool (!(inR ((L.getD i default).z) 0 3)))])) (by kernel_rfl) ?_
            refine kSeq ?_
            cases h5 : (inR ((L.getD i default).z) 0 3 : Bool)
            ·
              have h5k := h5
              (try simp only [Bool.not_eq_true', Bool.not_eq_false', decide_eq_true_eq, decide_eq_false_iff_not, beq_iff_eq, bne_iff_ne, beq_eq_false_iff_ne, bne_eq_false_iff_eq, ne_eq, Decidable.not_not, Bool.and_eq_true, Bool.and_eq_false_imp, Bool.or_eq_true, Bool.or_eq_false_iff, Bool.not_eq_true, Int.not_lt, Int.not_le, ge_iff_le, gt_iff_lt] at h5)
              refine cTrue (by kernel_rfl) ?_
              refine cSeq ?_
              refine cReg ?_
              refine segEndH [2] (T1 := (mkT 59 [(2, .bool false)])) (by kernel_rfl) ?_
              refine kSeq ?_
              refine cRet ?_
              refine kSeqR ?_
              refine kBlkR ?_
              refine kSeqR ?_
              refine kLoopR ?_
              refine kBlkR ?_
              refine kSeqR ?_
              refine kBlkR ?_
              refine kSeqR ?_
              refine kLoopR ?_
              refine kBlkR ?_
              refine kSeqR ?_
              -- end
              have he0 : (false : Bool) = pieceB L := by first | exact piece_len (by assumption) | exact piece_out (i := i) (by omega) (by first | exact has4_x (by assumption) | exact has4_y (by assumption) | exact has4_z (by assumption)) | exact piece_lex (i := i) (by omega) (by omega) (by assumption) | exact piece_end (by assumption) (by omega) hi ho hm0 hm1 hm2
              refine endCast (v1 := .bool false) (H1 := [some ⟨a3s L, 74, false, false⟩]) (by first | rfl | ((try rw [← he0]); done) | (simp only [← he0]; done)) (by first | rfl | ((try rw [← he0]); done) | (simp only [← he0]; done)) ?_
              exact endQ (Or.inr rfl) (l := [.bool false]) [rB [vI n0, vI n1, vI n2] 74] (by kernel_rfl) (by first | rfl | kernel_rfl) rfl rfl hcl rfl
            ·
              have h5k := h5
              (try simp only [Bool.not_eq_true', Bool.not_eq_false', decide_eq_true_eq, decide_eq_false_iff_not, beq_iff_eq, bne_iff_ne, beq_eq_false_iff_ne, bne_eq_false_iff_eq, ne_eq, Decidable.not_not, Bool.and_eq_true, Bool.and_eq_false_imp, Bool.or_eq_true, Bool.or_eq_false_iff, Bool.not_eq_true, Int.not_lt, Int.not_le, ge_iff_le, gt_iff_lt] at h5)
              refine cFalse (by kernel_rfl) ?_
              refine cSkip ?_
              refine kSeq ?_
              refine cRegW (N := 2) [⟨[], [], []⟩, ⟨[], [], []⟩, ⟨[], [], []⟩, ⟨[], [], [1]⟩, ⟨[], [], []⟩, ⟨[], [], []⟩, ⟨[], [], []⟩, ⟨[], [], []⟩, ⟨[], [], []⟩, ⟨[], [], [0]⟩, ⟨[], [], []⟩, ⟨[], [], []⟩, ⟨[], [1], []⟩] 0 [] (by rfl) (by rfl) (by kernel_rfl) (by kernel_rfl) (by kernel_rfl) ⟨nmsF (flatA3 _ _ _ _), ⟨nmsX (by kernel_rfl), trivial⟩⟩ ?_
              refine segWH 7 (T1 := (mkT 59 [(0, vS 0 L.length), (3, vP 1 0), (4, vN i), (5, vI 2), (28, .bool false), (29, vI 2), (30, vI 2), (31, vP 1 2), (32, vI n2), (33, vS 0 L.length), (34, vN i), (35, vI 2)])) (by kernel_rfl) ?_
              refine rW (m := ⟨[], [], []⟩) (v := vP 0 (i * 3)) rfl (by kernel_rfl) (stId (eIdxS (ad := ⟨0, 0, none⟩) (n := L.length) (m := 0) (k := .i64) (c := ((i : Nat) : Int)) (j := i) (o := i * 3) (by kernel_rfl) (by kernel_rfl) ti31 ti74 (rfl) (by omega) (by exact Nat.zero_add _)) rfl (by kernel_rfl) (by kernel_rfl) (by kernel_rfl)) (by kernel_rfl) nr0 ?_
              refine segWH 1 (T1 := (mkT 59 [(0, vS 0 L.length), (3, vP 1 0), (4, vN i), (5, vI 2), (28, .bool false), (29, vI 2), (30, vI 2), (31, vP 1 2), (32, vI n2), (33, vS 0 L.length), (34, vN i), (35, vI 2), (36, vP 0 (i * 3)), (37, vP 0 (i * 3 + 2))])) (by kernel_rfl) ?_
              refine rW (m := ⟨[], [], [0]⟩) (v := vI ((L.getD i default).z)) rfl (by kernel_rfl) (stId (eLdA3i (ad := ⟨0, i * 3 + 2, none⟩) (r := ⟨a3s L, 74, false, false⟩) (L := L) (j := i) (i := 2) (by kernel_rfl) (by kernel_rfl) rfl (by first | rfl | omega) (by omega) ti3 rfl rfl) rfl (by kernel_rfl) (by kernel_rfl) (by kernel_rfl)) (by kernel_rfl) nr0 ?_
              refine rW (m := ⟨[], [], []⟩) (v := vI (mnI n2 ((L.getD i default).z))) rfl (by kernel_rfl) (stQ (args := [vI n2, vI ((L.getD i default).z)]) rfl (by kernel_rfl) (Any.lay0 [] (l1LeastB n2 ((L.getD i default).z)) trivial rfl trivial rfl (by first | rfl | simp [mpV, mpA, mpS, mpP, renId, shift]) rfl) rfl (by kernel_rfl) (by kernel_rfl)) (by kernel_rfl) nr0 ?_
              refine segWH 1 (T1 := (mkT 59 [(0, vS 0 L.length), (3, vP 1 0), (4, vN i), (5, vI 2), (28, .bool false), (29, vI 2), (30, vI 2), (31, vP 1 2), (32, vI n2), (33, vS 0 L.length), (34, vN i), (35, vI 2), (36, vP 0 (i * 3)), (37, vP 0 (i * 3 + 2)), (38, vI ((L.getD i default).z)), (39, vI (mnI n2 ((L.getD i default).z))), (40, vP 1 2)])) (by kernel_rfl) ?_
              refine rW (m := ⟨[], [1], []⟩) (v := .tuple #[]) rfl (by kernel_rfl) (stSet (b := 1) (r := ⟨[vI n0, vI n1, vI (mnI n2 ((L.getD i default).z))], 74, true, true⟩) (by kernel_rfl) rfl (by kernel_rfl) (by kernel_rfl) (by kernel_rfl) (by kernel_rfl) (nmX (by kernel_rfl)) (clX (by kernel_rfl))) (by kernel_rfl) (NRs.all ⟨nrOf (by rfl) (nmX (by kernel_rfl)), trivial⟩) ?_
              refine segEndW [0, 3, 4, 5] (T1 := (mkT 59 [(0, vS 0 L.length), (3, vP 1 0), (4, vN i), (5, vI 2)])) (H1 := [some ⟨a3s L, 74, false, false⟩, rB [vI n0, vI n1, vI (mnI n2 ((L.getD i default).z))] 74]) (by kernel_rfl) ?_
              refine kBlk ?_
              refine kSeq ?_
              refine cReg ?_
              refine segEndH [0, 3, 4, 5] (T1 := (mkT 59 [(0, vS 0 L.length), (3, vP 1 0), (4, vN i), (5, vI 3)])) (by kernel_rfl) ?_
              exact kLoop (3 - 3) (mkT 59 [(0, vS 0 L.length), (3, vP 1 0), (4, vN i), (5, vI 3)]) [some ⟨a3s L, 74, false, false⟩, rB [vI n0, vI n1, vI (mnI n2 ((L.getD i default).z))] 74] (by omega) (wkSame [0, 3, 4, 5] (by kernel_rfl)) ⟨3, n0, n1, (mnI n2 ((L.getD i default).z)), (by omega), (by refine ⟨fun _ => ?_, fun _ => ?_, fun _ => ?_⟩ <;> first | rfl | omega | assumption | exact hin.1 (by omega) | exact hin.2.1 (by omega)), (hn0), (hn1), (by first | exact mnF_next hn2 rfl), rfl, rfl, rfl⟩
          ·
            refine cSeq ?_
            refine cSeq ?_
            refine cReg ?_
            refine segEndH [0, 3, 4, 5, 18] (T1 := (mkT 59 [(0, vS 0 L.length), (3, vP 1 0), (4, vN i), (5, vI 3), (18, .bool false)])) (by kernel_rfl) ?_
            refine kSeq ?_
            refine cFalse (by kernel_rfl) ?_
            refine cExit ?_
            refine kSeqE ?_
            refine kLoopE ?_
            refine kBlkHit ?_
            refine kSeq ?_
            refine cSeq ?_
            refine cRegW (N := 2) [⟨[], [], []⟩, ⟨[], [], []⟩, ⟨[], [], []⟩, ⟨[], [], []⟩, ⟨[], [], []⟩, ⟨[], [], []⟩, ⟨[], [], []⟩, ⟨[], [], [0]⟩, ⟨[], [], []⟩, ⟨[], [], []⟩, ⟨[], [], []⟩, ⟨[], [], [0]⟩, ⟨[], [], []⟩, ⟨[], [], []⟩, ⟨[], [], []⟩] 0 [] (by rfl) (by rfl) (by kernel_rfl) (by kernel_rfl) (by kernel_rfl) ⟨nmsF (flatA3 _ _ _ _), ⟨nmsX (by kernel_rfl), trivial⟩⟩ ?_
            refine segWH 3 (T1 := (mkT 59 [(0, vS 0 L.length), (3, vP 1 0), (4, vN i), (5, vI 3), (18, .bool false), (41, vN i), (42, .bool (decide (((i : Nat) : Int) > 0))), (43, .bool (decide (((i : Nat) : Int) > 0)))])) (by kernel_rfl) ?_
            cases h6 : (decide (((i : Nat) : Int) > 0) : Bool)
            ·
              have h6k := h6
              (try simp only [Bool.not_eq_true', Bool.not_eq_false', decide_eq_true_eq, decide_eq_false_iff_not, beq_iff_eq, bne_iff_ne, beq_eq_false_iff_ne, bne_eq_false_iff_eq, ne_eq, Decidable.not_not, Bool.and_eq_true, Bool.and_eq_false_imp, Bool.or_eq_true, Bool.or_eq_false_iff, Bool.not_eq_true, Int.not_lt, Int.not_le, ge_iff_le, gt_iff_lt] at h6)
              refine segEndW [0, 3, 4, 55] (T1 := (mkT 59 [(0, vS 0 L.length), (3, vP 1 0), (4, vN i), (55, .bool false)])) (H1 := [some ⟨a3s L, 74, false, false⟩, rB [vI n0, vI n1, vI n2] 74]) (by kernel_rfl) ?_
              refine kSeq ?_
              refine cFalse (by kernel_rfl) ?_
              refine cSkip ?_
              refine kBlk ?_
              refine kSeq ?_
              refine cReg ?_
              refine segH 1 (T1 := (mkT 59 [(0, vS 0 L.length), (3, vP 1 0), (4, vN i), (15, vN i), (55, .bool false)])) (by kernel_rfl) ?_
              refine rOp (v := vN (i + 1)) (by kernel_rfl) (eAdd (k := .i64) (a := ((i : Nat) : Int)) (b := 1) (c := ((i + 1 : Nat) : Int)) (by kernel_rfl) (by kernel_rfl) (wr64 (by omega) (by omega) (by omega))) ?_
              refine segEndH [0, 3, 4] (T1 := (mkT 59 [(0, vS 0 L.length), (3, vP 1 0), (4, vN (i + 1))])) (by kernel_rfl) ?_
              exact kLoop (L.length - (i + 1)) (mkT 59 [(0, vS 0 L.length), (3, vP 1 0), (4, vN (i + 1))]) [some ⟨a3s L, 74, false, false⟩, rB [vI n0, vI n1, vI n2] 74] (by omega) (wkSame [0, 3, 4] (by kernel_rfl)) ⟨(i + 1), n0, n1, n2, (by omega), (by first | exact okTo_step ho (has4_t (hin.1 (by omega)) (hin.2.1 (by omega)) (hin.2.2 (by omega))) (Or.inr (by assumption)) | exact okTo_step ho (has4_t (hin.1 (by omega)) (hin.2.1 (by omega)) (hin.2.2 (by omega))) (Or.inl (by omega))), (hn0), (hn1), (hn2), rfl, rfl, rfl⟩
            ·
              have h6k := h6
              (try simp only [Bool.not_eq_true', Bool.not_eq_false', decide_eq_true_eq, decide_eq_false_iff_not, beq_iff_eq, bne_iff_ne, beq_eq_false_iff_ne, bne_eq_false_iff_eq, ne_eq, Decidable.not_not, Bool.and_eq_true, Bool.and_eq_false_imp, Bool.or_eq_true, Bool.or_eq_false_iff, Bool.not_eq_true, Int.not_lt, Int.not_le, ge_iff_le, gt_iff_lt] at h6)
              refine segWH 2 (T1 := (mkT 59 [(0, vS 0 L.length), (3, vP 1 0), (4, vN i), (5, vI 3), (18, .bool false), (41, vN i), (42, .bool true), (43, .bool true), (44, vS 0 L.length), (45, vN i)])) (by kernel_rfl) ?_
              refine rW (m := ⟨[], [], []⟩) (v := vN (i - 1)) rfl (by kernel_rfl) (stId (eSub (k := .i64) (a := ((i : Nat) : Int)) (b := 1) (c := ((i - 1 : Nat) : Int)) (by kernel_rfl) (by kernel_rfl)  (wr64 (by omega) (by omega) (by omega))) rfl (by kernel_rfl) (by kernel_rfl) (by kernel_rfl)) (by kernel_rfl) nr0 ?_
              refine rW (m := ⟨[], [], []⟩) (v := vP 0 ((i - 1) * 3)) rfl (by kernel_rfl) (stId (eIdxS (ad := ⟨0, 0, none⟩) (n := L.length) (m := 0) (k := .i64) (c := ((i - 1 : Nat) : Int)) (j := (i - 1)) (o := (i - 1) * 3) (by kernel_rfl) (by kernel_rfl) ti31 ti74 (rfl) (by omega) (by exact Nat.zero_add _)) rfl (by kernel_rfl) (by kernel_rfl) (by kernel_rfl)) (by kernel_rfl) nr0 ?_
              refine rW (m := ⟨[], [], [0]⟩) (v := .agg #[vI ((L.getD (i - 1) default).x), vI ((L.getD (i - 1) default).y), vI ((L.getD (i - 1) default).z)]) rfl (by kernel_rfl) (stId (eLdA3 (ad := ⟨0, (i - 1) * 3, none⟩) (r := ⟨a3s L, 74, false, false⟩) (L := L) (j := (i - 1)) (by kernel_rfl) (by kernel_rfl) rfl (by first | rfl | omega) (by omega) ti74) rfl (by kernel_rfl) (by kernel_rfl) (by kernel_rfl)) (by kernel_rfl) nr0 ?_
              refine segWH 2 (T1 := (mkT 59 [(0, vS 0 L.length), (3, vP 1 0), (4, vN i), (5, vI 3), (18, .bool false), (41, vN i), (42, .bool true), (43, .bool true), (44, vS 0 L.length), (45, vN i), (46, vN (i - 1)), (47, vP 0 ((i - 1) * 3)), (48, .agg #[vI ((L.getD (i - 1) default).x), vI ((L.getD (i - 1) default).y), vI ((L.getD (i - 1) default).z)]), (49, vS 0 L.length), (50, vN i)])) (by kernel_rfl) ?_
              refine rW (m := ⟨[], [], []⟩) (v := vP 0 (i * 3)) rfl (by kernel_rfl) (stId (eIdxS (ad := ⟨0, 0, none⟩) (n := L.length) (m := 0) (k := .i64) (c := ((i : Nat) : Int)) (j := i) (o := i * 3) (by kernel_rfl) (by kernel_rfl) ti31 ti74 (rfl) (by omega) (by exact Nat.zero_add _)) rfl (by kernel_rfl) (by kernel_rfl) (by kernel_rfl)) (by kernel_rfl) nr0 ?_
              refine rW (m := ⟨[], [], [0]⟩) (v := .agg #[vI ((L.getD i default).x), vI ((L.getD i default).y), vI ((L.getD i default).z)]) rfl (by kernel_rfl) (stId (eLdA3 (ad := ⟨0, i * 3, none⟩) (r := ⟨a3s L, 74, false, false⟩) (L := L) (j := i) (by kernel_rfl) (by kernel_rfl) rfl (by first | rfl | omega) (by omega) ti74) rfl (by kernel_rfl) (by kernel_rfl) (by kernel_rfl)) (by kernel_rfl) nr0 ?_
              refine rW (m := ⟨[], [], []⟩) (v := .bool (lexB ((L.getD (i - 1) default).x) ((L.getD (i - 1) default).y) ((L.getD (i - 1) default).z) ((L.getD i default).x) ((L.getD i default).y) ((L.getD i default).z))) rfl (by kernel_rfl) (stQ (args := [.agg #[vI ((L.getD (i - 1) default).x), vI ((L.getD (i - 1) default).y), vI ((L.getD (i - 1) default).z)], .agg #[vI ((L.getD i default).x), vI ((L.getD i default).y), vI ((L.getD i default).z)]]) rfl (by kernel_rfl) (Any.lay0 [] (l2BeforeB ((L.getD (i - 1) default).x) ((L.getD (i - 1) default).y) ((L.getD (i - 1) default).z) ((L.getD i default).x) ((L.getD i default).y) ((L.getD i default).z)) trivial rfl trivial rfl (by first | rfl | simp [mpV, mpA, mpS, mpP, renId, shift]) rfl) rfl (by kernel_rfl) (by kernel_rfl)) (by kernel_rfl) nr0 ?_
              refine segEndW [0, 3, 4, 55] (T1 := (mkT 59 [(0, vS 0 L.length), (3, vP 1 0), (4, vN i), (55, .bool (!(lexB ((L.getD (i - 1) default).x) ((L.getD (i - 1) default).y) ((L.getD (i - 1) default).z) ((L.getD i default).x) ((L.getD i default).y) ((L.getD i default).z))))])) (H1 := [some ⟨a3s L, 74, false, false⟩, rB [vI n0, vI n1, vI n2] 74]) (by kernel_rfl) ?_
              refine kSeq ?_
              cases h7 : (lexB ((L.getD (i - 1) default).x) ((L.getD (i - 1) default).y) ((L.getD (i - 1) default).z) ((L.getD i default).x) ((L.getD i default).y) ((L.getD i default).z) : Bool)
              ·
                have h7k := h7
                (try simp only [Bool.not_eq_true', Bool.not_eq_false', decide_eq_true_eq, decide_eq_false_iff_not, beq_iff_eq, bne_iff_ne, beq_eq_false_iff_ne, bne_eq_false_iff_eq, ne_eq, Decidable.not_not, Bool.and_eq_true, Bool.and_eq_false_imp, Bool.or_eq_true, Bool.or_eq_false_iff, Bool.not_eq_true, Int.not_lt, Int.not_le, ge_iff_le, gt_iff_lt] at h7)
                refine cTrue (by kernel_rfl) ?_
                refine cSeq ?_
                refine cReg ?_
                refine segEndH [2] (T1 := (mkT 59 [(2, .bool false)])) (by kernel_rfl) ?_
                refine kSeq ?_
                refine cRet ?_
                refine kBlkR ?_
                refine kSeqR ?_
                refine kLoopR ?_
                refine kBlkR ?_
                refine kSeqR ?_
                -- end
                have he0 : (false : Bool) = pieceB L := by first | exact piece_len (by assumption) | exact piece_out (i := i) (by omega) (by first | exact has4_x (by assumption) | exact has4_y (by assumption) | exact has4_z (by assumption)) | exact piece_lex (i := i) (by omega) (by omega) (by assumption) | exact piece_end (by assumption) (by omega) hi ho hm0 hm1 hm2
                refine endCast (v1 := .bool false) (H1 := [some ⟨a3s L, 74, false, false⟩]) (by first | rfl | ((try rw [← he0]); done) | (simp only [← he0]; done)) (by first | rfl | ((try rw [← he0]); done) | (simp only [← he0]; done)) ?_
                exact endQ (Or.inr rfl) (l := [.bool false]) [rB [vI n0, vI n1, vI n2] 74] (by kernel_rfl) (by first | rfl | kernel_rfl) rfl rfl hcl rfl
              ·
                have h7k := h7
                (try simp only [Bool.not_eq_true', Bool.not_eq_false', decide_eq_true_eq, decide_eq_false_iff_not, beq_iff_eq, bne_iff_ne, beq_eq_false_iff_ne, bne_eq_false_iff_eq, ne_eq, Decidable.not_not, Bool.and_eq_true, Bool.and_eq_false_imp, Bool.or_eq_true, Bool.or_eq_false_iff, Bool.not_eq_true, Int.not_lt, Int.not_le, ge_iff_le, gt_iff_lt] at h7)
                refine cFalse (by kernel_rfl) ?_
                refine cSkip ?_
                refine kBlk ?_
                refine kSeq ?_
                refine cReg ?_
                refine segH 1 (T1 := (mkT 59 [(0, vS 0 L.length), (3, vP 1 0), (4, vN i), (15, vN i), (55, .bool false)])) (by kernel_rfl) ?_
                refine rOp (v := vN (i + 1)) (by kernel_rfl) (eAdd (k := .i64) (a := ((i : Nat) : Int)) (b := 1) (c := ((i + 1 : Nat) : Int)) (by kernel_rfl) (by kernel_rfl) (wr64 (by omega) (by omega) (by omega))) ?_
                refine segEndH [0, 3, 4] (T1 := (mkT 59 [(0, vS 0 L.length), (3, vP 1 0), (4, vN (i + 1))])) (by kernel_rfl) ?_
                exact kLoop (L.length - (i + 1)) (mkT 59 [(0, vS 0 L.length), (3, vP 1 0), (4, vN (i + 1))]) [some ⟨a3s L, 74, false, false⟩, rB [vI n0, vI n1, vI n2] 74] (by omega) (wkSame [0, 3, 4] (by kernel_rfl)) ⟨(i + 1), n0, n1, n2, (by omega), (by first | exact okTo_step ho (has4_t (hin.1 (by omega)) (hin.2.1 (by omega)) (hin.2.2 (by omega))) (Or.inr (by assumption)) | exact okTo_step ho (has4_t (hin.1 (by omega)) (hin.2.1 (by omega)) (hin.2.2 (by omega))) (Or.inl (by omega))), (hn0), (hn1), (hn2), rfl, rfl, rfl⟩

set_option maxRecDepth 100000 in
set_option maxHeartbeats 4000000 in
theorem implPieceB (L : List A3) (hl : L.length ≤ 1048576) : Sound Try.prog 23 [vS 0 L.length] [some ⟨a3s L, 74, false, false⟩] (.bool (pieceB L)) [some ⟨a3s L, 74, false, false⟩] := by
  refine sound_intro (C := cx) Try.func23 rfl (by kernel_rfl) fun hcl => ?_
  refine cSeq ?_
  refine cReg ?_
  refine segEndH [0] (T1 := (mkT 57 [(0, vS 0 L.length)])) (by kernel_rfl) ?_
  refine kSeq ?_
  refine cSeq ?_
  refine cSeq ?_
  refine cReg ?_
  refine segH 2 (T1 := (mkT 57 [(0, vS 0 L.length), (6, vS 0 L.length), (7, vN L.length)])) (by kernel_rfl) ?_
  refine rCall (v := .bool (inR ((L.length : Nat) : Int) 1 5)) (args := [vN L.length, vI 1, vI 5]) (by kernel_rfl) rfl (by kernel_rfl) (Sound.lay0 [] (withinB ((L.length : Nat) : Int) 1 5) trivial rfl trivial rfl (by first | rfl | simp [mpV, mpA, mpS, mpP, renId, shift]) rfl) ?_
  refine segEndH [0, 9] (T1 := (mkT 57 [(0, vS 0 L.length), (9, .bool (!(inR ((L.length : Nat) : Int) 1 5)))])) (by kernel_rfl) ?_
  refine kSeq ?_
  cases h1 : (inR ((L.length : Nat) : Int) 1 5 : Bool)
  ·
    have h1k := h1
    (try simp only [lexC_neg] at h1)
    (try simp only [Bool.not_eq_true', Bool.not_eq_false', decide_eq_true_eq, decide_eq_false_iff_not, beq_iff_eq, bne_iff_ne, beq_eq_false_iff_ne, bne_eq_false_iff_eq, ne_eq, Decidable.not_not, Bool.and_eq_true, Bool.and_eq_false_imp, Bool.or_eq_true, Bool.or_eq_false_iff, Bool.not_eq_true, Int.not_lt, Int.not_le, ge_iff_le, gt_iff_lt] at h1)
    refine cTrue (by kernel_rfl) ?_
    refine cSeq ?_
    refine cReg ?_
    refine segEndH [2] (T1 := (mkT 57 [(2, .bool false)])) (by kernel_rfl) ?_
    refine kSeq ?_
    refine cRet ?_
    refine kSeqR ?_
    -- end
    have he0 : (false : Bool) = pieceB L := by first | exact piece_len (by assumption) | exact piece_out (i := i) (by omega) (by assumption) | exact piece_lex (i := i) (by omega) (by omega) (by assumption) | exact piece_end2 (by assumption) (by omega) hi ho hm0 hm1 hm2
    refine endCast (v1 := .bool false) (H1 := [some ⟨a3s L, 74, false, false⟩]) (by first | rfl | ((try rw [← he0]); done) | (simp only [← he0]; done)) (by first | rfl | ((try rw [← he0]); done) | (simp only [← he0]; done)) ?_
    exact endQ (Or.inr rfl) (l := [.bool false]) [] (by kernel_rfl) (by first | rfl | kernel_rfl) rfl rfl hcl rfl
  ·
    have h1k := h1
    (try simp only [lexC_neg] at h1)
    (try simp only [Bool.not_eq_true', Bool.not_eq_false', decide_eq_true_eq, decide_eq_false_iff_not, beq_iff_eq, bne_iff_ne, beq_eq_false_iff_ne, bne_eq_false_iff_eq, ne_eq, Decidable.not_not, Bool.and_eq_true, Bool.and_eq_false_imp, Bool.or_eq_true, Bool.or_eq_false_iff, Bool.not_eq_true, Int.not_lt, Int.not_le, ge_iff_le, gt_iff_lt] at h1)
    have hb := inR_le h1
    refine cFalse (by kernel_rfl) ?_
    refine cSkip ?_
    refine kSeq ?_
    refine cSeq ?_
    refine cReg ?_
    refine segH 1 (T1 := (mkT 57 [(0, vS 0 L.length), (9, .bool false), (10, vS 0 L.length)])) (by kernel_rfl) ?_
    refine rOp (v := vP 0 (0 * 3)) (by kernel_rfl) (eIdxS (ad := ⟨0, 0, none⟩) (n := L.length) (m := 0) (k := .i64) (c := 0) (j := 0) (o := 0 * 3) (by kernel_rfl) (by kernel_rfl) ti31 ti74 (by omega) (by omega) (by exact Nat.zero_add _)) ?_
    refine rOp (v := .agg #[vI ((L.getD 0 default).x), vI ((L.getD 0 default).y), vI ((L.getD 0 default).z)]) (by kernel_rfl) (eLdA3 (ad := ⟨0, 0 * 3, none⟩) (r := ⟨a3s L, 74, false, false⟩) (L := L) (j := 0) (by kernel_rfl) (by kernel_rfl) rfl (by first | rfl | omega) (by omega) ti74) ?_
    refine segEnd [0, 3] (T1 := (mkT 57 [(0, vS 0 L.length), (3, vP 1 0)])) (H1 := [some ⟨a3s L, 74, false, false⟩, rB [vI ((L.getD 0 default).x), vI ((L.getD 0 default).y), vI ((L.getD 0 default).z)] 74]) (by kernel_rfl) ?_
    refine kSeq ?_
    refine cSeq ?_
    refine cSeq ?_
    refine cReg ?_
    refine segEndH [0, 3, 13, 14, 15] (T1 := (mkT 57 [(0, vS 0 L.length), (3, vP 1 0), (13, vS 0 L.length), (14, vN L.length), (15, vI 0)])) (by kernel_rfl) ?_
    refine kSeq ?_
    refine cBlk ?_
    -- loop
    refine cLoop (fun mm T H => ∃ i : Nat, ∃ m0 : Int, ∃ m1 : Int, ∃ m2 : Int, (i ≤ L.length) ∧ (okTo 4 4 4 L i = true) ∧ (m0 = mnF (L.getD 0 default).x A3.x L i) ∧ (m1 = mnF (L.getD 0 default).y A3.y L i) ∧ (m2 = mnF (L.getD 0 default).z A3.z L i) ∧ mm = L.length - i ∧ T = (mkT 57 [(0, vS 0 L.length), (3, vP 1 0), (13, vS 0 L.length), (14, vN L.length), (15, vN i)]) ∧ H = [some ⟨a3s L, 74, false, false⟩, rB [vI m0, vI m1, vI m2] 74]) (L.length - 0) (mkT 57 [(0, vS 0 L.length), (3, vP 1 0), (13, vS 0 L.length), (14, vN L.length), (15, vI 0)]) [some ⟨a3s L, 74, false, false⟩, rB [vI ((L.getD 0 default).x), vI ((L.getD 0 default).y), vI ((L.getD 0 default).z)] 74] (wkSame [0, 3, 13, 14, 15] (by kernel_rfl)) ?_ ?_
    · exact ⟨0, ((L.getD 0 default).x), ((L.getD 0 default).y), ((L.getD 0 default).z), (Nat.zero_le _), (rfl), (rfl), (rfl), (rfl), rfl, rfl, rfl⟩
    · rintro _ _ _ ⟨i, m0, m1, m2, hi, ho, hm0, hm1, hm2, rfl, rfl, rfl⟩
      refine cSeq ?_
      refine cReg ?_
      refine segEndH [0, 3, 13, 14, 15, 16] (T1 := (mkT 57 [(0, vS 0 L.length), (3, vP 1 0), (13, vS 0 L.length), (14, vN L.length), (15, vN i), (16, .bool (decide (((i : Nat) : Int) < ((L.length : Nat) : Int))))])) (by kernel_rfl) ?_
      refine kSeq ?_
      refine cSeq ?_
      cases h2 : (decide (((i : Nat) : Int) < ((L.length : Nat) : Int)) : Bool)
      ·
        have h2k := h2
        (try simp only [lexC_neg] at h2)
        (try simp only [Bool.not_eq_true', Bool.not_eq_false', decide_eq_true_eq, decide_eq_false_iff_not, beq_iff_eq, bne_iff_ne, beq_eq_false_iff_ne, bne_eq_false_iff_eq, ne_eq, Decidable.not_not, Bool.and_eq_true, Bool.and_eq_false_imp, Bool.or_eq_true, Bool.or_eq_false_iff, Bool.not_eq_true, Int.not_lt, Int.not_le, ge_iff_le, gt_iff_lt] at h2)
        refine cFalse (by kernel_rfl) ?_
        refine cExit ?_
        refine kSeqE ?_
        refine kLoopE ?_
        refine kBlkHit ?_
        refine kSeq ?_
        refine cSeq ?_
        refine cReg ?_
        refine segEndH [2] (T1 := (mkT 57 [(2, .bool ((m0 == 0) && ((m1 == 0) && ((m2 == 0) && true))))])) (by kernel_rfl) ?_
        refine kSeq ?_
        refine cRet ?_
        -- end
        have he0 : (((m0 == 0) && ((m1 == 0) && ((m2 == 0) && true))) : Bool) = pieceB L := by first | exact piece_len (by assumption) | exact piece_out (i := i) (by omega) (by assumption) | exact piece_lex (i := i) (by omega) (by omega) (by assumption) | exact piece_end2 (by assumption) (by omega) hi ho hm0 hm1 hm2
        refine endCast (v1 := .bool ((m0 == 0) && ((m1 == 0) && ((m2 == 0) && true)))) (H1 := [some ⟨a3s L, 74, false, false⟩]) (by first | rfl | ((try rw [← he0]); done) | (simp only [← he0]; done)) (by first | rfl | ((try rw [← he0]); done) | (simp only [← he0]; done)) ?_
        exact endQ (Or.inr rfl) (l := [.bool ((m0 == 0) && ((m1 == 0) && ((m2 == 0) && true)))]) [rB [vI m0, vI m1, vI m2] 74] (by kernel_rfl) (by first | rfl | kernel_rfl) rfl rfl hcl rfl
      ·
        have h2k := h2
        (try simp only [lexC_neg] at h2)
        (try simp only [Bool.not_eq_true', Bool.not_eq_false', decide_eq_true_eq, decide_eq_false_iff_not, beq_iff_eq, bne_iff_ne, beq_eq_false_iff_ne, bne_eq_false_iff_eq, ne_eq, Decidable.not_not, Bool.and_eq_true, Bool.and_eq_false_imp, Bool.or_eq_true, Bool.or_eq_false_iff, Bool.not_eq_true, Int.not_lt, Int.not_le, ge_iff_le, gt_iff_lt] at h2)
        refine cTrue (by kernel_rfl) ?_
        refine cSkip ?_
        refine kSeq ?_
        refine cSeq ?_
        refine cBlk ?_
        refine cSeq ?_
        refine cReg ?_
        refine segH 1 (T1 := (mkT 57 [(0, vS 0 L.length), (3, vP 1 0), (13, vS 0 L.length), (14, vN L.length), (15, vN i), (16, .bool true), (17, vN i)])) (by kernel_rfl) ?_
        refine rOp (v := vP 0 (i * 3)) (by kernel_rfl) (eIdxS (ad := ⟨0, 0, none⟩) (n := L.length) (m := 0) (k := .i64) (c := ((i : Nat) : Int)) (j := i) (o := i * 3) (by kernel_rfl) (by kernel_rfl) ti31 ti74 (rfl) (by omega) (by exact Nat.zero_add _)) ?_
        refine rOp (v := .agg #[vI ((L.getD i default).x), vI ((L.getD i default).y), vI ((L.getD i default).z)]) (by kernel_rfl) (eLdA3 (ad := ⟨0, i * 3, none⟩) (r := ⟨a3s L, 74, false, false⟩) (L := L) (j := i) (by kernel_rfl) (by kernel_rfl) rfl (by first | rfl | omega) (by omega) ti74) ?_
        refine segEnd [0, 3, 4, 5, 13, 14, 15] (T1 := (mkT 57 [(0, vS 0 L.length), (3, vP 1 0), (4, vN i), (5, vP 2 0), (13, vS 0 L.length), (14, vN L.length), (15, vN i)])) (H1 := [some ⟨a3s L, 74, false, false⟩, rB [vI m0, vI m1, vI m2] 74, rB [vI ((L.getD i default).x), vI ((L.getD i default).y), vI ((L.getD i default).z)] 74]) (by kernel_rfl) ?_
        refine kSeq ?_
        refine cSeq ?_
        refine cSeq ?_
        refine cRegD (by kernel_rfl) ?_
        refine segD 1 (T1 := (mkT 57 [(0, vS 0 L.length), (3, vP 1 0), (4, vN i), (5, vP 2 0), (13, vS 0 L.length), (14, vN L.length), (15, vN i), (20, vS 2 3)])) (H1 := [some ⟨a3s L, 74, false, false⟩, rB [vI m0, vI m1, vI m2] 74, rB [vI ((L.getD i default).x), vI ((L.getD i default).y), vI ((L.getD i default).z)] 74]) (by kernel_rfl) ?_
        refine rCallQ (v := .bool (has3 4 4 4 ((L.getD i default).x) ((L.getD i default).y) ((L.getD i default).z))) (args := [vS 2 3, vI 0, vI 3]) (by kernel_rfl) rfl (by kernel_rfl) (by kernel_rfl) (by kernel_rfl) (Quiet.lay0 [2] [0] (allWithinB ((L.getD i default).x) ((L.getD i default).y) ((L.getD i default).z)) ⟨rdX true rfl rfl, trivial⟩ rfl ⟨clX rfl, trivial⟩ rfl (by first | rfl | simp [mpV, mpA, mpS, mpP, renId, shift]) (fun _ => rfl) rfl) ?_
        refine segD 2 (T1 := (mkT 57 [(0, vS 0 L.length), (3, vP 1 0), (4, vN i), (5, vP 2 0), (13, vS 0 L.length), (14, vN L.length), (15, vN i), (20, vS 2 3), (21, .bool (has3 4 4 4 ((L.getD i default).x) ((L.getD i default).y) ((L.getD i default).z))), (22, .bool (!(has3 4 4 4 ((L.getD i default).x) ((L.getD i default).y) ((L.getD i default).z)))), (23, .bool (!(has3 4 4 4 ((L.getD i default).x) ((L.getD i default).y) ((L.getD i default).z))))])) (H1 := [some ⟨a3s L, 74, false, false⟩, rB [vI m0, vI m1, vI m2] 74, rB [vI ((L.getD i default).x), vI ((L.getD i default).y), vI ((L.getD i default).z)] 74]) (by kernel_rfl) ?_
        cases h3 : (has3 4 4 4 ((L.getD i default).x) ((L.getD i default).y) ((L.getD i default).z) : Bool)
        ·
          have h3k := h3
          (try simp only [lexC_neg] at h3)
          (try simp only [Bool.not_eq_true', Bool.not_eq_false', decide_eq_true_eq, decide_eq_false_iff_not, beq_iff_eq, bne_iff_ne, beq_eq_false_iff_ne, bne_eq_false_iff_eq, ne_eq, Decidable.not_not, Bool.and_eq_true, Bool.and_eq_false_imp, Bool.or_eq_true, Bool.or_eq_false_iff, Bool.not_eq_true, Int.not_lt, Int.not_le, ge_iff_le, gt_iff_lt] at h3)
          refine segEndD [0, 3, 5, 13, 14, 15, 36] (T1 := (mkT 57 [(0, vS 0 L.length), (3, vP 1 0), (5, vP 2 0), (13, vS 0 L.length), (14, vN L.length), (15, vN i), (36, .bool true)])) (H1 := [some ⟨a3s L, 74, false, false⟩, rB [vI m0, vI m1, vI m2] 74, rB [vI ((L.getD i default).x), vI ((L.getD i default).y), vI ((L.getD i default).z)] 74]) (by kernel_rfl) ?_
          refine kSeq ?_
          refine cTrue (by kernel_rfl) ?_
          refine cSeq ?_
          refine cReg ?_
          refine segEndH [2] (T1 := (mkT 57 [(2, .bool false)])) (by kernel_rfl) ?_
          refine kSeq ?_
          refine cRet ?_
          refine kSeqR ?_
          refine kBlkR ?_
          refine kSeqR ?_
          refine kLoopR ?_
          refine kBlkR ?_
          refine kSeqR ?_
          -- end
          have he0 : (false : Bool) = pieceB L := by first | exact piece_len (by assumption) | exact piece_out (i := i) (by omega) (by assumption) | exact piece_lex (i := i) (by omega) (by omega) (by assumption) | exact piece_end2 (by assumption) (by omega) hi ho hm0 hm1 hm2
          refine endCast (v1 := .bool false) (H1 := [some ⟨a3s L, 74, false, false⟩]) (by first | rfl | ((try rw [← he0]); done) | (simp only [← he0]; done)) (by first | rfl | ((try rw [← he0]); done) | (simp only [← he0]; done)) ?_
          exact endQ (Or.inr rfl) (l := [.bool false]) [rB [vI m0, vI m1, vI m2] 74, rB [vI ((L.getD i default).x), vI ((L.getD i default).y), vI ((L.getD i default).z)] 74] (by kernel_rfl) (by first | rfl | kernel_rfl) rfl rfl hcl rfl
        ·
          have h3k := h3
          (try simp only [lexC_neg] at h3)
          (try simp only [Bool.not_eq_true', Bool.not_eq_false', decide_eq_true_eq, decide_eq_false_iff_not, beq_iff_eq, bne_iff_ne, beq_eq_false_iff_ne, bne_eq_false_iff_eq, ne_eq, Decidable.not_not, Bool.and_eq_true, Bool.and_eq_false_imp, Bool.or_eq_true, Bool.or_eq_false_iff, Bool.not_eq_true, Int.not_lt, Int.not_le, ge_iff_le, gt_iff_lt] at h3)
          refine segD 3 (T1 := (mkT 57 [(0, vS 0 L.length), (3, vP 1 0), (4, vN i), (5, vP 2 0), (13, vS 0 L.length), (14, vN L.length), (15, vN i), (20, vS 2 3), (21, .bool true), (22, .bool false), (23, .bool false), (24, vN i), (25, .bool (decide (((i : Nat) : Int) > 0))), (26, .bool (decide (((i : Nat) : Int) > 0)))])) (H1 := [some ⟨a3s L, 74, false, false⟩, rB [vI m0, vI m1, vI m2] 74, rB [vI ((L.getD i default).x), vI ((L.getD i default).y), vI ((L.getD i default).z)] 74]) (by kernel_rfl) ?_
          cases h4 : (decide (((i : Nat) : Int) > 0) : Bool)
          ·
            have h4k := h4
            (try simp only [lexC_neg] at h4)
            (try simp only [Bool.not_eq_true', Bool.not_eq_false', decide_eq_true_eq, decide_eq_false_iff_not, beq_iff_eq, bne_iff_ne, beq_eq_false_iff_ne, bne_eq_false_iff_eq, ne_eq, Decidable.not_not, Bool.and_eq_true, Bool.and_eq_false_imp, Bool.or_eq_true, Bool.or_eq_false_iff, Bool.not_eq_true, Int.not_lt, Int.not_le, ge_iff_le, gt_iff_lt] at h4)
            refine segEndD [0, 3, 5, 13, 14, 15, 36] (T1 := (mkT 57 [(0, vS 0 L.length), (3, vP 1 0), (5, vP 2 0), (13, vS 0 L.length), (14, vN L.length), (15, vN i), (36, .bool false)])) (H1 := [some ⟨a3s L, 74, false, false⟩, rB [vI m0, vI m1, vI m2] 74, rB [vI ((L.getD i default).x), vI ((L.getD i default).y), vI ((L.getD i default).z)] 74]) (by kernel_rfl) ?_
            refine kSeq ?_
            refine cFalse (by kernel_rfl) ?_
            refine cSkip ?_
            refine kSeq ?_
            refine cReg ?_
            refine segEnd [0, 3, 13, 14, 15] (T1 := (mkT 57 [(0, vS 0 L.length), (3, vP 1 0), (13, vS 0 L.length), (14, vN L.length), (15, vN i)])) (H1 := [some ⟨a3s L, 74, false, false⟩, rB [vI (if (L.getD i default).x < m0 then (L.getD i default).x else m0), vI (if (L.getD i default).y < m1 then (L.getD i default).y else m1), vI (if (L.getD i default).z < m2 then (L.getD i default).z else m2)] 74, rB [vI ((L.getD i default).x), vI ((L.getD i default).y), vI ((L.getD i default).z)] 74]) (by kernel_rfl) ?_
            refine kBlk ?_
            refine kSeq ?_
            refine cReg ?_
            refine rOp (v := vN (i + 1)) (by kernel_rfl) (eAdd (k := .i64) (a := ((i : Nat) : Int)) (b := 1) (c := ((i + 1 : Nat) : Int)) (by kernel_rfl) (by kernel_rfl) (wr64 (by omega) (by omega) (by omega))) ?_
            refine segEndH [0, 3, 13, 14, 15] (T1 := (mkT 57 [(0, vS 0 L.length), (3, vP 1 0), (13, vS 0 L.length), (14, vN L.length), (15, vN (i + 1))])) (by kernel_rfl) ?_
            exact kLoop (L.length - (i + 1)) (mkT 57 [(0, vS 0 L.length), (3, vP 1 0), (13, vS 0 L.length), (14, vN L.length), (15, vN (i + 1))]) [some ⟨a3s L, 74, false, false⟩, rB [vI (if (L.getD i default).x < m0 then (L.getD i default).x else m0), vI (if (L.getD i default).y < m1 then (L.getD i default).y else m1), vI (if (L.getD i default).z < m2 then (L.getD i default).z else m2)] 74] (by omega) (wkDrop [0, 3, 13, 14, 15] _ rfl rfl ((closedL ⟨clF (flatA3 _ _ _ _), ⟨clX rfl, trivial⟩⟩)) (by kernel_rfl) rfl) ⟨(i + 1), (if (L.getD i default).x < m0 then (L.getD i default).x else m0), (if (L.getD i default).y < m1 then (L.getD i default).y else m1), (if (L.getD i default).z < m2 then (L.getD i default).z else m2), (by omega), (by first | exact okTo_step ho (by assumption) (Or.inr (by assumption)) | exact okTo_step ho (by assumption) (Or.inl (by omega))), (mnF_next2 hm0 rfl), (mnF_next2 hm1 rfl), (mnF_next2 hm2 rfl), rfl, rfl, rfl⟩
          ·
            have h4k := h4
            (try simp only [lexC_neg] at h4)
            (try simp only [Bool.not_eq_true', Bool.not_eq_false', decide_eq_true_eq, decide_eq_false_iff_not, beq_iff_eq, bne_iff_ne, beq_eq_false_iff_ne, bne_eq_false_iff_eq, ne_eq, Decidable.not_not, Bool.and_eq_true, Bool.and_eq_false_imp, Bool.or_eq_true, Bool.or_eq_false_iff, Bool.not_eq_true, Int.not_lt, Int.not_le, ge_iff_le, gt_iff_lt] at h4)
            refine segD 2 (T1 := (mkT 57 [(0, vS 0 L.length), (3, vP 1 0), (4, vN i), (5, vP 2 0), (13, vS 0 L.length), (14, vN L.length), (15, vN i), (20, vS 2 3), (21, .bool true), (22, .bool false), (23, .bool false), (24, vN i), (25, .bool true), (26, .bool true), (27, vS 0 L.length), (28, vN i)])) (H1 := [some ⟨a3s L, 74, false, false⟩, rB [vI m0, vI m1, vI m2] 74, rB [vI ((L.getD i default).x), vI ((L.getD i default).y), vI ((L.getD i default).z)] 74]) (by kernel_rfl) ?_
            refine rOpD (v := vN (i - 1)) (H' := [some ⟨a3s L, 74, false, false⟩, rB [vI m0, vI m1, vI m2] 74, rB [vI ((L.getD i default).x), vI ((L.getD i default).y), vI ((L.getD i default).z)] 74]) (by kernel_rfl) (eSub (k := .i64) (a := ((i : Nat) : Int)) (b := 1) (c := ((i - 1 : Nat) : Int)) (by kernel_rfl) (by kernel_rfl)  (wr64 (by omega) (by omega) (by omega))) (by rfl) ?_
            refine rOpD (v := vP 0 ((i - 1) * 3)) (H' := [some ⟨a3s L, 74, false, false⟩, rB [vI m0, vI m1, vI m2] 74, rB [vI ((L.getD i default).x), vI ((L.getD i default).y), vI ((L.getD i default).z)] 74]) (by kernel_rfl) (eIdxS (ad := ⟨0, 0, none⟩) (n := L.length) (m := 0) (k := .i64) (c := ((i - 1 : Nat) : Int)) (j := (i - 1)) (o := (i - 1) * 3) (by kernel_rfl) (by kernel_rfl) ti31 ti74 (rfl) (by omega) (by exact Nat.zero_add _)) (by rfl) ?_
            refine rOpD (v := .agg #[vI ((L.getD (i - 1) default).x), vI ((L.getD (i - 1) default).y), vI ((L.getD (i - 1) default).z)]) (H' := [some ⟨a3s L, 74, false, false⟩, rB [vI m0, vI m1, vI m2] 74, rB [vI ((L.getD i default).x), vI ((L.getD i default).y), vI ((L.getD i default).z)] 74]) (by kernel_rfl) (eLdA3 (ad := ⟨0, (i - 1) * 3, none⟩) (r := ⟨a3s L, 74, false, false⟩) (L := L) (j := (i - 1)) (by kernel_rfl) (by kernel_rfl) rfl (by first | rfl | omega) (by omega) ti74) (by rfl) ?_
            refine segD 1 (T1 := (mkT 57 [(0, vS 0 L.length), (3, vP 1 0), (4, vN i), (5, vP 2 0), (13, vS 0 L.length), (14, vN L.length), (15, vN i), (20, vS 2 3), (21, .bool true), (22, .bool false), (23, .bool false), (24, vN i), (25, .bool true), (26, .bool true), (27, vS 0 L.length), (28, vN i), (29, vN (i - 1)), (30, vP 0 ((i - 1) * 3)), (31, .agg #[vI ((L.getD (i - 1) default).x), vI ((L.getD (i - 1) default).y), vI ((L.getD (i - 1) default).z)]), (32, .agg #[vI ((L.getD i default).x), vI ((L.getD i default).y), vI ((L.getD i default).z)])])) (H1 := [some ⟨a3s L, 74, false, false⟩, rB [vI m0, vI m1, vI m2] 74, rB [vI ((L.getD i default).x), vI ((L.getD i default).y), vI ((L.getD i default).z)] 74]) (by kernel_rfl) ?_
            refine rCallQ (v := vI (lexC ((L.getD (i - 1) default).x) ((L.getD (i - 1) default).y) ((L.getD (i - 1) default).z) ((L.getD i default).x) ((L.getD i default).y) ((L.getD i default).z))) (args := [.agg #[vI ((L.getD (i - 1) default).x), vI ((L.getD (i - 1) default).y), vI ((L.getD (i - 1) default).z)], .agg #[vI ((L.getD i default).x), vI ((L.getD i default).y), vI ((L.getD i default).z)]]) (by kernel_rfl) rfl (by kernel_rfl) (by kernel_rfl) (by kernel_rfl) (Quiet.flat (compareCells_ok ((L.getD (i - 1) default).x) ((L.getD (i - 1) default).y) ((L.getD (i - 1) default).z) ((L.getD i default).x) ((L.getD i default).y) ((L.getD i default).z)) rfl rfl) ?_
            refine segEndD [0, 3, 5, 13, 14, 15, 36] (T1 := (mkT 57 [(0, vS 0 L.length), (3, vP 1 0), (5, vP 2 0), (13, vS 0 L.length), (14, vN L.length), (15, vN i), (36, .bool (decide (lexC ((L.getD (i - 1) default).x) ((L.getD (i - 1) default).y) ((L.getD (i - 1) default).z) ((L.getD i default).x) ((L.getD i default).y) ((L.getD i default).z) ≥ 0)))])) (H1 := [some ⟨a3s L, 74, false, false⟩, rB [vI m0, vI m1, vI m2] 74, rB [vI ((L.getD i default).x), vI ((L.getD i default).y), vI ((L.getD i default).z)] 74]) (by kernel_rfl) ?_
            refine kSeq ?_
            cases h5 : (decide (lexC ((L.getD (i - 1) default).x) ((L.getD (i - 1) default).y) ((L.getD (i - 1) default).z) ((L.getD i default).x) ((L.getD i default).y) ((L.getD i default).z) ≥ 0) : Bool)
            ·
              have h5k := h5
              (try simp only [lexC_neg] at h5)
              (try simp only [Bool.not_eq_true', Bool.not_eq_false', decide_eq_true_eq, decide_eq_false_iff_not, beq_iff_eq, bne_iff_ne, beq_eq_false_iff_ne, bne_eq_false_iff_eq, ne_eq, Decidable.not_not, Bool.and_eq_true, Bool.and_eq_false_imp, Bool.or_eq_true, Bool.or_eq_false_iff, Bool.not_eq_true, Int.not_lt, Int.not_le, ge_iff_le, gt_iff_lt] at h5)
              refine cFalse (by kernel_rfl) ?_
              refine cSkip ?_
              refine kSeq ?_
              refine cReg ?_
              refine segEnd [0, 3, 13, 14, 15] (T1 := (mkT 57 [(0, vS 0 L.length), (3, vP 1 0), (13, vS 0 L.length), (14, vN L.length), (15, vN i)])) (H1 := [some ⟨a3s L, 74, false, false⟩, rB [vI (if (L.getD i default).x < m0 then (L.getD i default).x else m0), vI (if (L.getD i default).y < m1 then (L.getD i default).y else m1), vI (if (L.getD i default).z < m2 then (L.getD i default).z else m2)] 74, rB [vI ((L.getD i default).x), vI ((L.getD i default).y), vI ((L.getD i default).z)] 74]) (by kernel_rfl) ?_
              refine kBlk ?_
              refine kSeq ?_
              refine cReg ?_
              refine rOp (v := vN (i + 1)) (by kernel_rfl) (eAdd (k := .i64) (a := ((i : Nat) : Int)) (b := 1) (c := ((i + 1 : Nat) : Int)) (by kernel_rfl) (by kernel_rfl) (wr64 (by omega) (by omega) (by omega))) ?_
              refine segEndH [0, 3, 13, 14, 15] (T1 := (mkT 57 [(0, vS 0 L.length), (3, vP 1 0), (13, vS 0 L.length), (14, vN L.length), (15, vN (i + 1))])) (by kernel_rfl) ?_
              exact kLoop (L.length - (i + 1)) (mkT 57 [(0, vS 0 L.length), (3, vP 1 0), (13, vS 0 L.length), (14, vN L.length), (15, vN (i + 1))]) [some ⟨a3s L, 74, false, false⟩, rB [vI (if (L.getD i default).x < m0 then (L.getD i default).x else m0), vI (if (L.getD i default).y < m1 then (L.getD i default).y else m1), vI (if (L.getD i default).z < m2 then (L.getD i default).z else m2)] 74] (by omega) (wkDrop [0, 3, 13, 14, 15] _ rfl rfl ((closedL ⟨clF (flatA3 _ _ _ _), ⟨clX rfl, trivial⟩⟩)) (by kernel_rfl) rfl) ⟨(i + 1), (if (L.getD i default).x < m0 then (L.getD i default).x else m0), (if (L.getD i default).y < m1 then (L.getD i default).y else m1), (if (L.getD i default).z < m2 then (L.getD i default).z else m2), (by omega), (by first | exact okTo_step ho (by assumption) (Or.inr (by assumption)) | exact okTo_step ho (by assumption) (Or.inl (by omega))), (mnF_next2 hm0 rfl), (mnF_next2 hm1 rfl), (mnF_next2 hm2 rfl), rfl, rfl, rfl⟩
            ·
              have h5k := h5
              (try simp only [lexC_neg] at h5)
              (try simp only [Bool.not_eq_true', Bool.not_eq_false', decide_eq_true_eq, decide_eq_false_iff_not, beq_iff_eq, bne_iff_ne, beq_eq_false_iff_ne, bne_eq_false_iff_eq, ne_eq, Decidable.not_not, Bool.and_eq_true, Bool.and_eq_false_imp, Bool.or_eq_true, Bool.or_eq_false_iff, Bool.not_eq_true, Int.not_lt, Int.not_le, ge_iff_le, gt_iff_lt] at h5)
              refine cTrue (by kernel_rfl) ?_
              refine cSeq ?_
              refine cReg ?_
              refine segEndH [2] (T1 := (mkT 57 [(2, .bool false)])) (by kernel_rfl) ?_
              refine kSeq ?_
              refine cRet ?_
              refine kSeqR ?_
              refine kBlkR ?_
              refine kSeqR ?_
              refine kLoopR ?_
              refine kBlkR ?_
              refine kSeqR ?_
              -- end
              have he0 : (false : Bool) = pieceB L := by first | exact piece_len (by assumption) | exact piece_out (i := i) (by omega) (by assumption) | exact piece_lex (i := i) (by omega) (by omega) (by assumption) | exact piece_end2 (by assumption) (by omega) hi ho hm0 hm1 hm2
              refine endCast (v1 := .bool false) (H1 := [some ⟨a3s L, 74, false, false⟩]) (by first | rfl | ((try rw [← he0]); done) | (simp only [← he0]; done)) (by first | rfl | ((try rw [← he0]); done) | (simp only [← he0]; done)) ?_
              exact endQ (Or.inr rfl) (l := [.bool false]) [rB [vI m0, vI m1, vI m2] 74, rB [vI ((L.getD i default).x), vI ((L.getD i default).y), vI ((L.getD i default).z)] 74] (by kernel_rfl) (by first | rfl | kernel_rfl) rfl rfl hcl rfl

set_option maxRecDepth 100000 in
set_option maxHeartbeats 4000000 in
theorem specIsPieceB (L : List A3) (hl : L.length ≤ 1048576) : Sound Try.prog 21 [vS 0 L.length] [some ⟨a3s L, 74, false, false⟩] (.bool (pieceB L)) [some ⟨a3s L, 74, false, false⟩] := by
  refine sound_intro (C := cx) Try.func21 rfl (by kernel_rfl) fun hcl => ?_
  refine cSeq ?_
  refine cReg ?_
  refine segEndH [0] (T1 := (mkT 5 [(0, vS 0 L.length)])) (by kernel_rfl) ?_
  refine kSeq ?_
  refine cSeq ?_
  refine cReg ?_
  refine segH 1 (T1 := (mkT 5 [(0, vS 0 L.length), (3, vS 0 L.length)])) (by kernel_rfl) ?_
  refine rCall (v := .bool (pieceB L)) (args := [vS 0 L.length]) (by kernel_rfl) rfl (by kernel_rfl) (Sound.lay0 [0] (l9PieceB L (by first | omega | assumption)) ⟨rdF false (flatA3 _ _ _ _) rfl rfl, trivial⟩ rfl ⟨clF (flatA3 _ _ _ _), trivial⟩ rfl (by first | rfl | simp [mpV, mpA, mpS, mpP, renId, shift]) rfl) ?_
  refine segEndH [2] (T1 := (mkT 5 [(2, .bool (pieceB L))])) (by kernel_rfl) ?_
  refine kSeq ?_
  refine cRet ?_
  -- end
  exact endQ (Or.inr rfl) (l := [.bool (pieceB L)]) [] (by kernel_rfl) (by first | rfl | kernel_rfl) rfl rfl hcl rfl

theorem toA3SB (L : List A3) (hl : L.length ≤ 1048576) : Sound Try.prog 22 [vS 0 L.length] [some ⟨a3s L, 74, false, false⟩] (vS 1 L.length) [some ⟨a3s L, 74, false, false⟩, some ⟨a3s L, 74, false, true⟩] := by
  exact toA3S_ok L hl

theorem toA3SN   : Sound Try.prog 22 [.slice none 0 0] [] (vS 0 0) [some ⟨[], 74, false, true⟩] := by
  exact toA3S_ok_nil

theorem eqA3SB (L : List A3) (hl : L.length ≤ 1048576) : Sound Try.prog 24 [vS 0 L.length, vS 1 L.length] [some ⟨a3s L, 74, false, false⟩, some ⟨a3s L, 74, false, false⟩] (.bool true) [some ⟨a3s L, 74, false, false⟩, some ⟨a3s L, 74, false, false⟩] := by
  exact eqA3S_same L hl
end Go.Proofs.Ytbheeobnghlckaa
