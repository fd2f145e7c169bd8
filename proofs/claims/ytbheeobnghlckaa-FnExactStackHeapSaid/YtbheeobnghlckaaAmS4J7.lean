/- Walks. No condition. -/
import Derived.Test.YtbheeobnghlckaaAmS4J6
import Derived.Test.YtbheeobnghlckaaAmQ4
set_option linter.unusedVariables false
set_option linter.unusedSimpArgs false
namespace Go.Proofs.Ytbheeobnghlckaa
open Go.Am Go.RowKit
set_option maxRecDepth 100000 in
set_option maxHeartbeats 4000000 in
theorem allWithinN (N : List Int) (lo : Int) (hi : Int) (hl : N.length ≤ 1048576) : Sound Try.prog 65 [vS 0 N.length, vI lo, vI hi] [some ⟨nums N, 3, false, false⟩] (.bool (allB N lo hi)) [some ⟨nums N, 3, false, false⟩] := by
  refine sound_intro (C := cx) Try.func65 rfl (by kernel_rfl) fun hcl => ?_
  refine cSeq ?_
  refine cReg ?_
  refine segEndH [0, 1, 2] (T1 := (mkT 21 [(0, vS 0 N.length), (1, vI lo), (2, vI hi)])) (by kernel_rfl) ?_
  refine kSeq ?_
  refine cSeq ?_
  refine cSeq ?_
  refine cReg ?_
  refine segEndH [1, 2, 9, 10, 11] (T1 := (mkT 21 [(1, vI lo), (2, vI hi), (9, vS 0 N.length), (10, vN N.length), (11, vI 0)])) (by kernel_rfl) ?_
  refine kSeq ?_
  refine cBlk ?_
  -- loop
  refine cLoop (fun mm T H => ∃ i : Nat, (i ≤ N.length) ∧ (∀ j, j < i → j < N.length → inR (N.getD j 0) lo hi = true) ∧ mm = N.length - i ∧ T = (mkT 21 [(1, vI lo), (2, vI hi), (9, vS 0 N.length), (10, vN N.length), (11, vN i)]) ∧ H = [some ⟨nums N, 3, false, false⟩]) (N.length - 0) (mkT 21 [(1, vI lo), (2, vI hi), (9, vS 0 N.length), (10, vN N.length), (11, vI 0)]) [some ⟨nums N, 3, false, false⟩] (wkSame [1, 2, 9, 10, 11] (by kernel_rfl)) ?_ ?_
  · exact ⟨0, (Nat.zero_le _), (fun j hj => absurd hj (Nat.not_lt_zero j)), rfl, rfl, rfl⟩
  · rintro _ _ _ ⟨i, hir, ho, rfl, rfl, rfl⟩
    refine cSeq ?_
    refine cReg ?_
    refine segEndH [1, 2, 9, 10, 11, 12] (T1 := (mkT 21 [(1, vI lo), (2, vI hi), (9, vS 0 N.length), (10, vN N.length), (11, vN i), (12, .bool (decide (((i : Nat) : Int) < ((N.length : Nat) : Int))))])) (by kernel_rfl) ?_
    refine kSeq ?_
    refine cSeq ?_
    cases h1 : (decide (((i : Nat) : Int) < ((N.length : Nat) : Int)) : Bool)
    ·
      have h1k := h1
      (try simp only [Bool.not_eq_true', Bool.not_eq_false', decide_eq_true_eq, decide_eq_false_iff_not, beq_iff_eq, bne_iff_ne, beq_eq_false_iff_ne, bne_eq_false_iff_eq, ne_eq, Decidable.not_not, Bool.and_eq_true, Bool.and_eq_false_imp, Bool.or_eq_true, Bool.or_eq_false_iff, Bool.not_eq_true, Int.not_lt, Int.not_le, ge_iff_le, gt_iff_lt] at h1)
      refine cFalse (by kernel_rfl) ?_
      refine cExit ?_
      refine kSeqE ?_
      refine kLoopE ?_
      refine kBlkHit ?_
      refine kSeq ?_
      refine cSeq ?_
      refine cReg ?_
      refine segEndH [6] (T1 := (mkT 21 [(6, .bool true)])) (by kernel_rfl) ?_
      refine kSeq ?_
      refine cRet ?_
      -- end
      have he0 : (true : Bool) = allB N lo hi := by first | exact allB_no (i := i) (by omega) (by assumption) | exact allB_yes (by omega) ho
      refine endCast (v1 := .bool true) (H1 := [some ⟨nums N, 3, false, false⟩]) (by first | rfl | ((try rw [← he0]); done) | (simp only [← he0]; done)) (by first | rfl | ((try rw [← he0]); done) | (simp only [← he0]; done)) ?_
      exact endQ (Or.inr rfl) (l := [.bool true]) [] (by kernel_rfl) (by first | rfl | kernel_rfl) rfl rfl hcl rfl
    ·
      have h1k := h1
      (try simp only [Bool.not_eq_true', Bool.not_eq_false', decide_eq_true_eq, decide_eq_false_iff_not, beq_iff_eq, bne_iff_ne, beq_eq_false_iff_ne, bne_eq_false_iff_eq, ne_eq, Decidable.not_not, Bool.and_eq_true, Bool.and_eq_false_imp, Bool.or_eq_true, Bool.or_eq_false_iff, Bool.not_eq_true, Int.not_lt, Int.not_le, ge_iff_le, gt_iff_lt] at h1)
      refine cTrue (by kernel_rfl) ?_
      refine cSkip ?_
      refine kSeq ?_
      refine cSeq ?_
      refine cBlk ?_
      refine cSeq ?_
      refine cReg ?_
      refine rOp (v := vP 0 i) (by kernel_rfl) (eIdxS (ad := ⟨0, 0, none⟩) (n := N.length) (m := 0) (k := .i64) (c := ((i : Nat) : Int)) (j := i) (o := i) (by kernel_rfl) (by kernel_rfl) ti22 ti3 (rfl) (by omega) (by simp)) ?_
      refine rOp (v := vI (N.getD i 0)) (by kernel_rfl) (eLdNum (ad := ⟨0, i, none⟩) (r := ⟨nums N, 3, false, false⟩) (L := N) (j := i) (by kernel_rfl) (by kernel_rfl) rfl (by first | rfl | omega) (by omega) ti3 rfl) ?_
      refine segEndH [1, 2, 8, 9, 10, 11] (T1 := (mkT 21 [(1, vI lo), (2, vI hi), (8, vI (N.getD i 0)), (9, vS 0 N.length), (10, vN N.length), (11, vN i)])) (by kernel_rfl) ?_
      refine kSeq ?_
      refine cSeq ?_
      refine cReg ?_
      refine segH 3 (T1 := (mkT 21 [(1, vI lo), (2, vI hi), (8, vI (N.getD i 0)), (9, vS 0 N.length), (10, vN N.length), (11, vN i), (15, vI (N.getD i 0)), (16, vI lo), (17, vI hi)])) (by kernel_rfl) ?_
      refine rCall (v := .bool (inR (N.getD i 0) lo hi)) (args := [vI (N.getD i 0), vI lo, vI hi]) (by kernel_rfl) rfl (by kernel_rfl) (Sound.lay0 [] (withinB (N.getD i 0) lo hi) trivial rfl trivial rfl (by first | rfl | simp [mpV, mpA, mpS, mpP, renId, shift]) rfl) ?_
      refine segEndH [1, 2, 9, 10, 11, 19] (T1 := (mkT 21 [(1, vI lo), (2, vI hi), (9, vS 0 N.length), (10, vN N.length), (11, vN i), (19, .bool (!(inR (N.getD i 0) lo hi)))])) (by kernel_rfl) ?_
      refine kSeq ?_
      cases h2 : (inR (N.getD i 0) lo hi : Bool)
      ·
        have h2k := h2
        (try simp only [Bool.not_eq_true', Bool.not_eq_false', decide_eq_true_eq, decide_eq_false_iff_not, beq_iff_eq, bne_iff_ne, beq_eq_false_iff_ne, bne_eq_false_iff_eq, ne_eq, Decidable.not_not, Bool.and_eq_true, Bool.and_eq_false_imp, Bool.or_eq_true, Bool.or_eq_false_iff, Bool.not_eq_true, Int.not_lt, Int.not_le, ge_iff_le, gt_iff_lt] at h2)
        refine cTrue (by kernel_rfl) ?_
        refine cSeq ?_
        refine cReg ?_
        refine segEndH [6] (T1 := (mkT 21 [(6, .bool false)])) (by kernel_rfl) ?_
        refine kSeq ?_
        refine cRet ?_
        refine kBlkR ?_
        refine kSeqR ?_
        refine kLoopR ?_
        refine kBlkR ?_
        refine kSeqR ?_
        -- end
        have he0 : (false : Bool) = allB N lo hi := by first | exact allB_no (i := i) (by omega) (by assumption) | exact allB_yes (by omega) ho
        refine endCast (v1 := .bool false) (H1 := [some ⟨nums N, 3, false, false⟩]) (by first | rfl | ((try rw [← he0]); done) | (simp only [← he0]; done)) (by first | rfl | ((try rw [← he0]); done) | (simp only [← he0]; done)) ?_
        exact endQ (Or.inr rfl) (l := [.bool false]) [] (by kernel_rfl) (by first | rfl | kernel_rfl) rfl rfl hcl rfl
      ·
        have h2k := h2
        (try simp only [Bool.not_eq_true', Bool.not_eq_false', decide_eq_true_eq, decide_eq_false_iff_not, beq_iff_eq, bne_iff_ne, beq_eq_false_iff_ne, bne_eq_false_iff_eq, ne_eq, Decidable.not_not, Bool.and_eq_true, Bool.and_eq_false_imp, Bool.or_eq_true, Bool.or_eq_false_iff, Bool.not_eq_true, Int.not_lt, Int.not_le, ge_iff_le, gt_iff_lt] at h2)
        refine cFalse (by kernel_rfl) ?_
        refine cSkip ?_
        refine kBlk ?_
        refine kSeq ?_
        refine cReg ?_
        refine rOp (v := vN (i + 1)) (by kernel_rfl) (eAdd (k := .i64) (a := ((i : Nat) : Int)) (b := 1) (c := ((i + 1 : Nat) : Int)) (by kernel_rfl) (by kernel_rfl) (wr64 (by omega) (by omega) (by omega))) ?_
        refine segEndH [1, 2, 9, 10, 11] (T1 := (mkT 21 [(1, vI lo), (2, vI hi), (9, vS 0 N.length), (10, vN N.length), (11, vN (i + 1))])) (by kernel_rfl) ?_
        exact kLoop (N.length - (i + 1)) (mkT 21 [(1, vI lo), (2, vI hi), (9, vS 0 N.length), (10, vN N.length), (11, vN (i + 1))]) [some ⟨nums N, 3, false, false⟩] (by omega) (wkSame [1, 2, 9, 10, 11] (by kernel_rfl)) ⟨(i + 1), (by omega), (fun j hj hl => by rcases Nat.lt_or_ge j i with h | h; exact ho j h hl; (have e : j = i := by omega); subst e; assumption), rfl, rfl, rfl⟩

end Go.Proofs.Ytbheeobnghlckaa
