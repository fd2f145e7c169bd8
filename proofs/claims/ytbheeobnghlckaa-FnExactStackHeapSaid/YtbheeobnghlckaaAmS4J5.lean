/- Walks. No condition. -/
import Derived.Test.YtbheeobnghlckaaAmS4J4
import Derived.Test.YtbheeobnghlckaaAmQ4
set_option linter.unusedVariables false
set_option linter.unusedSimpArgs false
namespace Go.Proofs.Ytbheeobnghlckaa
open Go.Am Go.RowKit
set_option maxRecDepth 100000 in
set_option maxHeartbeats 4000000 in
theorem toI_S (N : List Int) (hl : N.length ≤ 1048576) : Sound Try.prog 30 [vS 0 N.length] [some ⟨nums N, 3, false, false⟩] (vS 1 N.length) [some ⟨nums N, 3, false, false⟩, some ⟨nums N, 3, false, true⟩] := by
  refine sound_intro (C := cx) Try.func30 rfl (by kernel_rfl) fun hcl => ?_
  refine cSeq ?_
  refine cReg ?_
  refine segEndH [0] (T1 := (mkT 22 [(0, vS 0 N.length)])) (by kernel_rfl) ?_
  refine kSeq ?_
  refine cSeq ?_
  refine cReg ?_
  refine segH 2 (T1 := (mkT 22 [(0, vS 0 N.length), (5, vS 0 N.length), (6, vN N.length)])) (by kernel_rfl) ?_
  refine rOp (v := vS 1 N.length) (H' := [some ⟨nums N, 3, false, false⟩, some ⟨nums (List.replicate N.length 0), 3, false, true⟩]) (by kernel_rfl) (eMkNum (n := N.length) (k := .i64) (k2 := .i64) (by kernel_rfl) (by kernel_rfl) ti22 ti3 rfl rfl (by decide) (by omega)) ?_
  refine segEnd [0, 3] (T1 := (mkT 22 [(0, vS 0 N.length), (3, vS 1 N.length)])) (H1 := [some ⟨nums N, 3, false, false⟩, some ⟨nums (List.replicate N.length 0), 3, false, true⟩]) (by kernel_rfl) ?_
  refine kSeq ?_
  refine cSeq ?_
  refine cSeq ?_
  refine cReg ?_
  refine segEndH [0, 3, 4] (T1 := (mkT 22 [(0, vS 0 N.length), (3, vS 1 N.length), (4, vI 0)])) (by kernel_rfl) ?_
  refine kSeq ?_
  refine cBlk ?_
  -- loop
  refine cLoop (fun mm T H => ∃ i : Nat, ∃ M : List Int, (i ≤ N.length) ∧ (M = cpN N i) ∧ mm = N.length - i ∧ T = (mkT 22 [(0, vS 0 N.length), (3, vS 1 N.length), (4, vN i)]) ∧ H = [some ⟨nums N, 3, false, false⟩, some ⟨nums M, 3, false, true⟩]) (N.length - 0) (mkT 22 [(0, vS 0 N.length), (3, vS 1 N.length), (4, vI 0)]) [some ⟨nums N, 3, false, false⟩, some ⟨nums (List.replicate N.length 0), 3, false, true⟩] (wkSame [0, 3, 4] (by kernel_rfl)) ?_ ?_
  · exact ⟨0, (List.replicate N.length 0), (Nat.zero_le _), ((cpN_0 N).symm), rfl, rfl, rfl⟩
  · rintro _ _ _ ⟨i, M, hi, hM, rfl, rfl, rfl⟩
    have hml : M.length = N.length := (by rw [hM]; exact cpN_length hi)
    refine cSeq ?_
    refine cSeq ?_
    refine cReg ?_
    refine segEndH [0, 3, 4, 11] (T1 := (mkT 22 [(0, vS 0 N.length), (3, vS 1 N.length), (4, vN i), (11, .bool (decide (((i : Nat) : Int) < ((N.length : Nat) : Int))))])) (by kernel_rfl) ?_
    refine kSeq ?_
    cases h1 : (decide (((i : Nat) : Int) < ((N.length : Nat) : Int)) : Bool)
    ·
      (try simp only [Bool.not_eq_true', Bool.not_eq_false', decide_eq_true_eq, decide_eq_false_iff_not, beq_iff_eq, bne_iff_ne, beq_eq_false_iff_ne, bne_eq_false_iff_eq, ne_eq, Decidable.not_not, Bool.and_eq_true, Bool.and_eq_false_imp, Bool.or_eq_true, Bool.or_eq_false_iff, Bool.not_eq_true, Int.not_lt, Int.not_le, ge_iff_le, gt_iff_lt] at h1)
      refine cFalse (by kernel_rfl) ?_
      refine cExit ?_
      refine kSeqE ?_
      refine kLoopE ?_
      refine kBlkHit ?_
      refine kSeq ?_
      refine cSeq ?_
      refine cReg ?_
      refine segEndH [2] (T1 := (mkT 22 [(2, vS 1 N.length)])) (by kernel_rfl) ?_
      refine kSeq ?_
      refine cRet ?_
      -- end
      have he0 : (M : List Int) = N := by first | omega | (rw [hM]; exact cpN_end (by omega))
      refine endCast (v1 := vS 1 N.length) (H1 := [some ⟨nums N, 3, false, false⟩, some ⟨nums M, 3, false, true⟩]) (by first | rfl | ((try rw [← he0]); done) | (simp only [← he0]; done)) (by first | rfl | ((try rw [← he0]); done) | (simp only [← he0]; done)) ?_
      exact endQ (Or.inr rfl) (l := [vS 1 N.length]) [] (by kernel_rfl) (by first | rfl | kernel_rfl) rfl rfl (closedL ⟨clF (flatNums _ _ _ _), ⟨clF (flatNums _ _ _ _), trivial⟩⟩) rfl
    ·
      (try simp only [Bool.not_eq_true', Bool.not_eq_false', decide_eq_true_eq, decide_eq_false_iff_not, beq_iff_eq, bne_iff_ne, beq_eq_false_iff_ne, bne_eq_false_iff_eq, ne_eq, Decidable.not_not, Bool.and_eq_true, Bool.and_eq_false_imp, Bool.or_eq_true, Bool.or_eq_false_iff, Bool.not_eq_true, Int.not_lt, Int.not_le, ge_iff_le, gt_iff_lt] at h1)
      refine cTrue (by kernel_rfl) ?_
      refine cSkip ?_
      refine kSeq ?_
      refine cSeq ?_
      refine cBlk ?_
      refine cReg ?_
      refine segH 4 (T1 := (mkT 22 [(0, vS 0 N.length), (3, vS 1 N.length), (4, vN i), (11, .bool true), (14, vS 1 N.length), (15, vN i), (16, vS 0 N.length), (17, vN i)])) (by kernel_rfl) ?_
      refine rOp (v := vP 0 i) (by kernel_rfl) (eIdxS (ad := ⟨0, 0, none⟩) (n := N.length) (m := 0) (k := .i64) (c := ((i : Nat) : Int)) (j := i) (o := i) (by kernel_rfl) (by kernel_rfl) ti22 ti3 (rfl) (by omega) (by simp)) ?_
      refine rOp (v := vI (N.getD i 0)) (by kernel_rfl) (eLdNum (ad := ⟨0, i, none⟩) (r := ⟨nums N, 3, false, false⟩) (L := N) (j := i) (by kernel_rfl) (by kernel_rfl) rfl (by first | rfl | omega) (by omega) ti3 rfl) ?_
      refine rOp (v := vP 1 i) (by kernel_rfl) (eIdxS (ad := ⟨1, 0, none⟩) (n := N.length) (m := 0) (k := .i64) (c := ((i : Nat) : Int)) (j := i) (o := i) (by kernel_rfl) (by kernel_rfl) ti22 ti3 (rfl) (by omega) (by simp)) ?_
      refine rOp (v := .tuple #[]) (H' := [some ⟨nums N, 3, false, false⟩, some ⟨nums (M.set i (N.getD i 0)), 3, false, true⟩]) (by kernel_rfl) (eStNum (b := 1) (o := i) (L := M) (n := (N.getD i 0)) (e := 3) (bx := false) (by kernel_rfl) (by kernel_rfl) (by kernel_rfl) (by omega) ti3 rfl (by rfl)) ?_
      refine segEnd [0, 3, 4] (T1 := (mkT 22 [(0, vS 0 N.length), (3, vS 1 N.length), (4, vN i)])) (H1 := [some ⟨nums N, 3, false, false⟩, some ⟨nums (M.set i (N.getD i 0)), 3, false, true⟩]) (by kernel_rfl) ?_
      refine kBlk ?_
      refine kSeq ?_
      refine cReg ?_
      refine segH 1 (T1 := (mkT 22 [(0, vS 0 N.length), (3, vS 1 N.length), (4, vN i), (12, vN i)])) (by kernel_rfl) ?_
      refine rOp (v := vN (i + 1)) (by kernel_rfl) (eAdd (k := .i64) (a := ((i : Nat) : Int)) (b := 1) (c := ((i + 1 : Nat) : Int)) (by kernel_rfl) (by kernel_rfl) (wr64 (by omega) (by omega) (by omega))) ?_
      refine segEndH [0, 3, 4] (T1 := (mkT 22 [(0, vS 0 N.length), (3, vS 1 N.length), (4, vN (i + 1))])) (by kernel_rfl) ?_
      exact kLoop (N.length - (i + 1)) (mkT 22 [(0, vS 0 N.length), (3, vS 1 N.length), (4, vN (i + 1))]) [some ⟨nums N, 3, false, false⟩, some ⟨nums (M.set i (N.getD i 0)), 3, false, true⟩] (by omega) (wkSame [0, 3, 4] (by kernel_rfl)) ⟨(i + 1), (M.set i (N.getD i 0)), (by omega), (by rw [hM]; exact cpN_put (by omega)), rfl, rfl, rfl⟩

set_option maxRecDepth 100000 in
set_option maxHeartbeats 4000000 in
theorem toI_N   : Sound Try.prog 30 [.slice none 0 0] [] (vS 0 0) [some ⟨nums ([] : List Int), 3, false, true⟩] := by
  refine sound_intro (C := cx) Try.func30 rfl (by kernel_rfl) fun hcl => ?_
  refine cSeq ?_
  refine cReg ?_
  refine segEndH [0] (T1 := (mkT 22 [(0, .slice none 0 0)])) (by kernel_rfl) ?_
  refine kSeq ?_
  refine cSeq ?_
  refine cReg ?_
  refine segH 2 (T1 := (mkT 22 [(0, .slice none 0 0), (5, .slice none 0 0), (6, vI 0)])) (by kernel_rfl) ?_
  refine rOp (v := vS 0 0) (H' := [some ⟨nums (List.replicate 0 0), 3, false, true⟩]) (by kernel_rfl) (eMkNum (n := 0) (k := .i64) (k2 := .i64) (by kernel_rfl) (by kernel_rfl) ti22 ti3 rfl rfl (by decide) (by omega)) ?_
  refine segEnd [0, 3] (T1 := (mkT 22 [(0, .slice none 0 0), (3, vS 0 0)])) (H1 := [some ⟨nums (List.replicate 0 0), 3, false, true⟩]) (by kernel_rfl) ?_
  refine kSeq ?_
  refine cSeq ?_
  refine cSeq ?_
  refine cReg ?_
  refine segEndH [0, 3, 4] (T1 := (mkT 22 [(0, .slice none 0 0), (3, vS 0 0), (4, vI 0)])) (by kernel_rfl) ?_
  refine kSeq ?_
  refine cBlk ?_
  -- loop
  refine cLoop (fun mm T H => mm = 0 ∧ T = (mkT 22 [(0, .slice none 0 0), (3, vS 0 0), (4, vI 0)]) ∧ H = [some ⟨nums (List.replicate 0 0), 3, false, true⟩]) (0) (mkT 22 [(0, .slice none 0 0), (3, vS 0 0), (4, vI 0)]) [some ⟨nums (List.replicate 0 0), 3, false, true⟩] (wkSame [0, 3, 4] (by kernel_rfl)) ?_ ?_
  · exact ⟨rfl, rfl, rfl⟩
  · rintro _ _ _ ⟨rfl, rfl, rfl⟩
    refine cSeq ?_
    refine cSeq ?_
    refine cReg ?_
    refine segEndH [0, 3, 4, 11] (T1 := (mkT 22 [(0, .slice none 0 0), (3, vS 0 0), (4, vI 0), (11, .bool false)])) (by kernel_rfl) ?_
    refine kSeq ?_
    refine cFalse (by kernel_rfl) ?_
    refine cExit ?_
    refine kSeqE ?_
    refine kLoopE ?_
    refine kBlkHit ?_
    refine kSeq ?_
    refine cSeq ?_
    refine cReg ?_
    refine segEndH [2] (T1 := (mkT 22 [(2, vS 0 0)])) (by kernel_rfl) ?_
    refine kSeq ?_
    refine cRet ?_
    -- end
    have he0 : ((List.replicate 0 0) : List Int) = ([] : List Int) := by first | omega | assumption | rfl | (symm; assumption) | (simp_all; done)
    refine endCast (v1 := vS 0 0) (H1 := [some ⟨nums (List.replicate 0 0), 3, false, true⟩]) (by first | rfl | ((try rw [he0]); done) | (simp only [he0]; done)) (by first | rfl | ((try rw [he0]); done) | (simp only [he0]; done)) ?_
    exact endQ (Or.inr rfl) (l := [vS 0 0]) [] (by kernel_rfl) (by first | rfl | kernel_rfl) rfl rfl (closedL ⟨clF (flatNums _ _ _ _), trivial⟩) rfl

set_option maxRecDepth 100000 in
set_option maxHeartbeats 4000000 in
theorem eqI_S (N : List Int) (hl : N.length ≤ 1048576) : Sound Try.prog 33 [vS 0 N.length, vS 1 N.length] [some ⟨nums N, 3, false, false⟩, some ⟨nums N, 3, false, false⟩] (.bool true) [some ⟨nums N, 3, false, false⟩, some ⟨nums N, 3, false, false⟩] := by
  refine sound_intro (C := cx) Try.func33 rfl (by kernel_rfl) fun hcl => ?_
  refine cSeq ?_
  refine cReg ?_
  refine segEndH [0, 1] (T1 := (mkT 26 [(0, vS 0 N.length), (1, vS 1 N.length)])) (by kernel_rfl) ?_
  refine kSeq ?_
  refine cSeq ?_
  refine cSeq ?_
  refine cReg ?_
  refine segH 4 (T1 := (mkT 26 [(0, vS 0 N.length), (1, vS 1 N.length), (6, vS 0 N.length), (7, vN N.length), (8, vS 1 N.length), (9, vN N.length)])) (by kernel_rfl) ?_
  refine rOp (v := .bool false) (by kernel_rfl) (eNeS (k := .i64) (a := ((N.length : Nat) : Int)) (by kernel_rfl) (by kernel_rfl)) ?_
  refine segEndH [0, 1, 10] (T1 := (mkT 26 [(0, vS 0 N.length), (1, vS 1 N.length), (10, .bool false)])) (by kernel_rfl) ?_
  refine kSeq ?_
  refine cFalse (by kernel_rfl) ?_
  refine cSkip ?_
  refine kSeq ?_
  refine cSeq ?_
  refine cSeq ?_
  refine cReg ?_
  refine segEndH [0, 1, 5] (T1 := (mkT 26 [(0, vS 0 N.length), (1, vS 1 N.length), (5, vI 0)])) (by kernel_rfl) ?_
  refine kSeq ?_
  refine cBlk ?_
  -- loop
  refine cLoop (fun mm T H => ∃ i : Nat, (i ≤ N.length) ∧ mm = N.length - i ∧ T = (mkT 26 [(0, vS 0 N.length), (1, vS 1 N.length), (5, vN i)]) ∧ H = [some ⟨nums N, 3, false, false⟩, some ⟨nums N, 3, false, false⟩]) (N.length - 0) (mkT 26 [(0, vS 0 N.length), (1, vS 1 N.length), (5, vI 0)]) [some ⟨nums N, 3, false, false⟩, some ⟨nums N, 3, false, false⟩] (wkSame [0, 1, 5] (by kernel_rfl)) ?_ ?_
  · exact ⟨0, (Nat.zero_le _), rfl, rfl, rfl⟩
  · rintro _ _ _ ⟨i, hi, rfl, rfl, rfl⟩
    refine cSeq ?_
    refine cSeq ?_
    refine cReg ?_
    refine segEndH [0, 1, 5, 14] (T1 := (mkT 26 [(0, vS 0 N.length), (1, vS 1 N.length), (5, vN i), (14, .bool (decide (((i : Nat) : Int) < ((N.length : Nat) : Int))))])) (by kernel_rfl) ?_
    refine kSeq ?_
    cases h1 : (decide (((i : Nat) : Int) < ((N.length : Nat) : Int)) : Bool)
    ·
      (try simp only [Bool.not_eq_true', Bool.not_eq_false', decide_eq_true_eq, decide_eq_false_iff_not, beq_iff_eq, bne_iff_ne, beq_eq_false_iff_ne, bne_eq_false_iff_eq, ne_eq, Decidable.not_not, Bool.and_eq_true, Bool.and_eq_false_imp, Bool.or_eq_true, Bool.or_eq_false_iff, Bool.not_eq_true, Int.not_lt, Int.not_le, ge_iff_le, gt_iff_lt] at h1)
      refine cFalse (by kernel_rfl) ?_
      refine cExit ?_
      refine kSeqE ?_
      refine kLoopE ?_
      refine kBlkHit ?_
      refine kSeq ?_
      refine cSeq ?_
      refine cReg ?_
      refine segEndH [4] (T1 := (mkT 26 [(4, .bool true)])) (by kernel_rfl) ?_
      refine kSeq ?_
      refine cRet ?_
      -- end
      exact endQ (Or.inr rfl) (l := [.bool true]) [] (by kernel_rfl) (by first | rfl | kernel_rfl) rfl rfl hcl rfl
    ·
      (try simp only [Bool.not_eq_true', Bool.not_eq_false', decide_eq_true_eq, decide_eq_false_iff_not, beq_iff_eq, bne_iff_ne, beq_eq_false_iff_ne, bne_eq_false_iff_eq, ne_eq, Decidable.not_not, Bool.and_eq_true, Bool.and_eq_false_imp, Bool.or_eq_true, Bool.or_eq_false_iff, Bool.not_eq_true, Int.not_lt, Int.not_le, ge_iff_le, gt_iff_lt] at h1)
      refine cTrue (by kernel_rfl) ?_
      refine cSkip ?_
      refine kSeq ?_
      refine cSeq ?_
      refine cBlk ?_
      refine cSeq ?_
      refine cRegW (N := 2) [⟨[], [], []⟩, ⟨[], [], []⟩, ⟨[], [], []⟩, ⟨[], [], [0]⟩, ⟨[], [], []⟩, ⟨[], [], []⟩, ⟨[], [], []⟩, ⟨[], [], [1]⟩, ⟨[], [], []⟩] 0 [] (by rfl) (by rfl) (by kernel_rfl) (by kernel_rfl) (by kernel_rfl) ⟨nmsF (flatNums _ _ _ _), ⟨nmsF (flatNums _ _ _ _), trivial⟩⟩ ?_
      refine segWH 2 (T1 := (mkT 26 [(0, vS 0 N.length), (1, vS 1 N.length), (5, vN i), (14, .bool true), (17, vS 0 N.length), (18, vN i)])) (by kernel_rfl) ?_
      refine rW (m := ⟨[], [], []⟩) (v := vP 0 i) rfl (by kernel_rfl) (stId (eIdxS (ad := ⟨0, 0, none⟩) (n := N.length) (m := 0) (k := .i64) (c := ((i : Nat) : Int)) (j := i) (o := i) (by kernel_rfl) (by kernel_rfl) ti22 ti3 (rfl) (by omega) (by simp)) rfl (by kernel_rfl) (by kernel_rfl) (by kernel_rfl)) (by kernel_rfl) nr0 ?_
      refine rW (m := ⟨[], [], [0]⟩) (v := vI (N.getD i 0)) rfl (by kernel_rfl) (stId (eLdNum (ad := ⟨0, i, none⟩) (r := ⟨nums N, 3, false, false⟩) (L := N) (j := i) (by kernel_rfl) (by kernel_rfl) rfl (by first | rfl | omega) (by omega) ti3 rfl) rfl (by kernel_rfl) (by kernel_rfl) (by kernel_rfl)) (by kernel_rfl) nr0 ?_
      refine segWH 2 (T1 := (mkT 26 [(0, vS 0 N.length), (1, vS 1 N.length), (5, vN i), (14, .bool true), (17, vS 0 N.length), (18, vN i), (19, vP 0 i), (20, vI (N.getD i 0)), (21, vS 1 N.length), (22, vN i)])) (by kernel_rfl) ?_
      refine rW (m := ⟨[], [], []⟩) (v := vP 1 i) rfl (by kernel_rfl) (stId (eIdxS (ad := ⟨1, 0, none⟩) (n := N.length) (m := 0) (k := .i64) (c := ((i : Nat) : Int)) (j := i) (o := i) (by kernel_rfl) (by kernel_rfl) ti22 ti3 (rfl) (by omega) (by simp)) rfl (by kernel_rfl) (by kernel_rfl) (by kernel_rfl)) (by kernel_rfl) nr0 ?_
      refine rW (m := ⟨[], [], [1]⟩) (v := vI (N.getD i 0)) rfl (by kernel_rfl) (stId (eLdNum (ad := ⟨1, i, none⟩) (r := ⟨nums N, 3, false, false⟩) (L := N) (j := i) (by kernel_rfl) (by kernel_rfl) rfl (by first | rfl | omega) (by omega) ti3 rfl) rfl (by kernel_rfl) (by kernel_rfl) (by kernel_rfl)) (by kernel_rfl) nr0 ?_
      refine rW (m := ⟨[], [], []⟩) (v := .bool false) rfl (by kernel_rfl) (stId (eNeS (k := .i64) (a := (N.getD i 0)) (by kernel_rfl) (by kernel_rfl)) rfl (by kernel_rfl) (by kernel_rfl) (by kernel_rfl)) (by kernel_rfl) nr0 ?_
      refine segEndWH [0, 1, 5, 25] (T1 := (mkT 26 [(0, vS 0 N.length), (1, vS 1 N.length), (5, vN i), (25, .bool false)])) (by kernel_rfl) ?_
      refine kSeq ?_
      refine cFalse (by kernel_rfl) ?_
      refine cSkip ?_
      refine kBlk ?_
      refine kSeq ?_
      refine cReg ?_
      refine segH 1 (T1 := (mkT 26 [(0, vS 0 N.length), (1, vS 1 N.length), (5, vN i), (15, vN i), (25, .bool false)])) (by kernel_rfl) ?_
      refine rOp (v := vN (i + 1)) (by kernel_rfl) (eAdd (k := .i64) (a := ((i : Nat) : Int)) (b := 1) (c := ((i + 1 : Nat) : Int)) (by kernel_rfl) (by kernel_rfl) (wr64 (by omega) (by omega) (by omega))) ?_
      refine segEndH [0, 1, 5] (T1 := (mkT 26 [(0, vS 0 N.length), (1, vS 1 N.length), (5, vN (i + 1))])) (by kernel_rfl) ?_
      exact kLoop (N.length - (i + 1)) (mkT 26 [(0, vS 0 N.length), (1, vS 1 N.length), (5, vN (i + 1))]) [some ⟨nums N, 3, false, false⟩, some ⟨nums N, 3, false, false⟩] (by omega) (wkSame [0, 1, 5] (by kernel_rfl)) ⟨(i + 1), (by omega), rfl, rfl, rfl⟩
end Go.Proofs.Ytbheeobnghlckaa
