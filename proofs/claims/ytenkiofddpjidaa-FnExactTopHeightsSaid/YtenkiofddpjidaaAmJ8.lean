/- Walks. No condition. -/
import Derived.Test.YtenkiofddpjidaaAmJ7
import Derived.Test.YtenkiofddpjidaaAmQ5
set_option linter.unusedVariables false
set_option linter.unusedSimpArgs false
namespace Go.Proofs.Ytenkiofddpjidaa
open Go.Am Go.RowKit
set_option maxRecDepth 100000 in
set_option maxHeartbeats 4000000 in
theorem eqI_S (N : List Int) (hl : N.length ≤ 1048576) : Sound Try.prog 48 [vS 0 N.length, vS 1 N.length] [some ⟨nums N, 3, false, false⟩, some ⟨nums N, 3, false, false⟩] (.bool true) [some ⟨nums N, 3, false, false⟩, some ⟨nums N, 3, false, false⟩] := by
  refine sound_intro (C := cx) Try.func48 rfl (by kernel_rfl) fun hcl => ?_
  refine cSeq ?_
  refine cReg ?_
  refine segEndH [0, 1] (T1 := (mkT 26 [(0, vS 0 N.length), (1, vS 1 N.length)])) (by kernel_rfl) ?_
  refine kSeq ?_
  refine cSeq ?_
  refine cSeq ?_
  refine cReg ?_
  refine segH 4 (T1 := (mkT 26 [(0, vS 0 N.length), (1, vS 1 N.length), (6, vS 0 N.length), (7, vN N.length), (8, vS 1 N.length), (9, vN N.length)])) (by kernel_rfl) ?_
  refine rOp (v := .bool false) (by kernel_rfl) (eNeS (k := .i64) (a := ((N.length : Nat) : Int)) (by kernel_rfl) (by kernel_rfl)) ?_
  refine segEndH [0, 1, 10] (T1 := (mkT 26 [(0, vS 0 N.length), (1, vS 1 N.length), (10, .bool false)])) (by kernel_rfl) ?_
  refine kSeq ?_
  refine cFalse (by kernel_rfl) ?_
  refine cSkip ?_
  refine kSeq ?_
  refine cSeq ?_
  refine cSeq ?_
  refine cReg ?_
  refine segEndH [0, 1, 5] (T1 := (mkT 26 [(0, vS 0 N.length), (1, vS 1 N.length), (5, vI 0)])) (by kernel_rfl) ?_
  refine kSeq ?_
  refine cBlk ?_
  -- loop
  refine cLoop (fun mm T H => ∃ i : Nat, (i ≤ N.length) ∧ mm = N.length - i ∧ T = (mkT 26 [(0, vS 0 N.length), (1, vS 1 N.length), (5, vN i)]) ∧ H = [some ⟨nums N, 3, false, false⟩, some ⟨nums N, 3, false, false⟩]) (N.length - 0) (mkT 26 [(0, vS 0 N.length), (1, vS 1 N.length), (5, vI 0)]) [some ⟨nums N, 3, false, false⟩, some ⟨nums N, 3, false, false⟩] (wkSame [0, 1, 5] (by kernel_rfl)) ?_ ?_
  · exact ⟨0, (Nat.zero_le _), rfl, rfl, rfl⟩
  · rintro _ _ _ ⟨i, hi, rfl, rfl, rfl⟩
    refine cSeq ?_
    refine cSeq ?_
    refine cReg ?_
    refine segEndH [0, 1, 5, 14] (T1 := (mkT 26 [(0, vS 0 N.length), (1, vS 1 N.length), (5, vN i), (14, .bool (decide (((i : Nat) : Int) < ((N.length : Nat) : Int))))])) (by kernel_rfl) ?_
    refine kSeq ?_
    cases h1 : (decide (((i : Nat) : Int) < ((N.length : Nat) : Int)) : Bool)
    ·
      (try simp only [Bool.not_eq_true', Bool.not_eq_false', decide_eq_true_eq, decide_eq_false_iff_not, beq_iff_eq, bne_iff_ne, beq_eq_false_iff_ne, bne_eq_false_iff_eq, ne_eq, Decidable.not_not, Bool.and_eq_true, Bool.and_eq_false_imp, Bool.or_eq_true, Bool.or_eq_false_iff, Bool.not_eq_true, Int.not_lt, Int.not_le, ge_iff_le, gt_iff_lt] at h1)
      refine cFalse (by kernel_rfl) ?_
      refine cExit ?_
      refine kSeqE ?_
      refine kLoopE ?_
      refine kBlkHit ?_
      refine kSeq ?_
      refine cSeq ?_
      refine cReg ?_
      refine segEndH [4] (T1 := (mkT 26 [(4, .bool true)])) (by kernel_rfl) ?_
      refine kSeq ?_
      refine cRet ?_
      -- end
      exact endQ (Or.inr rfl) (l := [.bool true]) [] (by kernel_rfl) (by first | rfl | kernel_rfl) rfl rfl hcl rfl
    ·
      (try simp only [Bool.not_eq_true', Bool.not_eq_false', decide_eq_true_eq, decide_eq_false_iff_not, beq_iff_eq, bne_iff_ne, beq_eq_false_iff_ne, bne_eq_false_iff_eq, ne_eq, Decidable.not_not, Bool.and_eq_true, Bool.and_eq_false_imp, Bool.or_eq_true, Bool.or_eq_false_iff, Bool.not_eq_true, Int.not_lt, Int.not_le, ge_iff_le, gt_iff_lt] at h1)
      refine cTrue (by kernel_rfl) ?_
      refine cSkip ?_
      refine kSeq ?_
      refine cSeq ?_
      refine cBlk ?_
      refine cSeq ?_
      refine cRegW (N := 2) [⟨[], [], []⟩, ⟨[], [], []⟩, ⟨[], [], []⟩, ⟨[], [], [0]⟩, ⟨[], [], []⟩, ⟨[], [], []⟩, ⟨[], [], []⟩, ⟨[], [], [1]⟩, ⟨[], [], []⟩] 0 [] (by rfl) (by rfl) (by kernel_rfl) (by kernel_rfl) (by kernel_rfl) ⟨nmsF (flatNums _ _ _ _), ⟨nmsF (flatNums _ _ _ _), trivial⟩⟩ ?_
      refine segWH 2 (T1 := (mkT 26 [(0, vS 0 N.length), (1, vS 1 N.length), (5, vN i), (14, .bool true), (17, vS 0 N.length), (18, vN i)])) (by kernel_rfl) ?_
      refine rW (m := ⟨[], [], []⟩) (v := vP 0 i) rfl (by kernel_rfl) (stId (eIdxS (ad := ⟨0, 0, none⟩) (n := N.length) (m := 0) (k := .i64) (c := ((i : Nat) : Int)) (j := i) (o := i) (by kernel_rfl) (by kernel_rfl) ti51 ti3 (rfl) (by omega) (by simp)) rfl (by kernel_rfl) (by kernel_rfl) (by kernel_rfl)) (by kernel_rfl) nr0 ?_
      refine rW (m := ⟨[], [], [0]⟩) (v := vI (N.getD i 0)) rfl (by kernel_rfl) (stId (eLdNum (ad := ⟨0, i, none⟩) (r := ⟨nums N, 3, false, false⟩) (L := N) (j := i) (by kernel_rfl) (by kernel_rfl) rfl (by first | rfl | omega) (by omega) ti3 rfl) rfl (by kernel_rfl) (by kernel_rfl) (by kernel_rfl)) (by kernel_rfl) nr0 ?_
      refine segWH 2 (T1 := (mkT 26 [(0, vS 0 N.length), (1, vS 1 N.length), (5, vN i), (14, .bool true), (17, vS 0 N.length), (18, vN i), (19, vP 0 i), (20, vI (N.getD i 0)), (21, vS 1 N.length), (22, vN i)])) (by kernel_rfl) ?_
      refine rW (m := ⟨[], [], []⟩) (v := vP 1 i) rfl (by kernel_rfl) (stId (eIdxS (ad := ⟨1, 0, none⟩) (n := N.length) (m := 0) (k := .i64) (c := ((i : Nat) : Int)) (j := i) (o := i) (by kernel_rfl) (by kernel_rfl) ti51 ti3 (rfl) (by omega) (by simp)) rfl (by kernel_rfl) (by kernel_rfl) (by kernel_rfl)) (by kernel_rfl) nr0 ?_
      refine rW (m := ⟨[], [], [1]⟩) (v := vI (N.getD i 0)) rfl (by kernel_rfl) (stId (eLdNum (ad := ⟨1, i, none⟩) (r := ⟨nums N, 3, false, false⟩) (L := N) (j := i) (by kernel_rfl) (by kernel_rfl) rfl (by first | rfl | omega) (by omega) ti3 rfl) rfl (by kernel_rfl) (by kernel_rfl) (by kernel_rfl)) (by kernel_rfl) nr0 ?_
      refine rW (m := ⟨[], [], []⟩) (v := .bool false) rfl (by kernel_rfl) (stId (eNeS (k := .i64) (a := (N.getD i 0)) (by kernel_rfl) (by kernel_rfl)) rfl (by kernel_rfl) (by kernel_rfl) (by kernel_rfl)) (by kernel_rfl) nr0 ?_
      refine segEndWH [0, 1, 5, 25] (T1 := (mkT 26 [(0, vS 0 N.length), (1, vS 1 N.length), (5, vN i), (25, .bool false)])) (by kernel_rfl) ?_
      refine kSeq ?_
      refine cFalse (by kernel_rfl) ?_
      refine cSkip ?_
      refine kBlk ?_
      refine kSeq ?_
      refine cReg ?_
      refine segH 1 (T1 := (mkT 26 [(0, vS 0 N.length), (1, vS 1 N.length), (5, vN i), (15, vN i), (25, .bool false)])) (by kernel_rfl) ?_
      refine rOp (v := vN (i + 1)) (by kernel_rfl) (eAdd (k := .i64) (a := ((i : Nat) : Int)) (b := 1) (c := ((i + 1 : Nat) : Int)) (by kernel_rfl) (by kernel_rfl) (wr64 (by omega) (by omega) (by omega))) ?_
      refine segEndH [0, 1, 5] (T1 := (mkT 26 [(0, vS 0 N.length), (1, vS 1 N.length), (5, vN (i + 1))])) (by kernel_rfl) ?_
      exact kLoop (N.length - (i + 1)) (mkT 26 [(0, vS 0 N.length), (1, vS 1 N.length), (5, vN (i + 1))]) [some ⟨nums N, 3, false, false⟩, some ⟨nums N, 3, false, false⟩] (by omega) (wkSame [0, 1, 5] (by kernel_rfl)) ⟨(i + 1), (by omega), rfl, rfl, rfl⟩

set_option maxRecDepth 100000 in
set_option maxHeartbeats 4000000 in
theorem markI_S (N : List Int) (m : Nat) (hl : N.length ≤ 1048576) (hm : m ≤ 1099511627776) : Sound Try.prog 49 [vS 0 N.length, vN m] [some ⟨nums N, 3, false, true⟩] (vN (m + N.length)) [some ⟨nums (mkI m N.length), 3, false, true⟩] := by
  refine sound_intro (C := cx) Try.func49 rfl (by kernel_rfl) fun hcl => ?_
  refine cSeq ?_
  refine cReg ?_
  refine segEndH [0, 1] (T1 := (mkT 19 [(0, vS 0 N.length), (1, vN m)])) (by kernel_rfl) ?_
  refine kSeq ?_
  refine cSeq ?_
  refine cSeq ?_
  refine cReg ?_
  refine segEndH [0, 1, 5] (T1 := (mkT 19 [(0, vS 0 N.length), (1, vN m), (5, vI 0)])) (by kernel_rfl) ?_
  refine kSeq ?_
  refine cBlk ?_
  -- loop
  refine cLoop (fun mm T H => ∃ j : Nat, ∃ q : Nat, ∃ M : List Int, (j ≤ N.length) ∧ (q = m + j) ∧ (M = mkI m j ++ N.drop j) ∧ mm = N.length - j ∧ T = (mkT 19 [(0, vS 0 N.length), (1, vN q), (5, vN j)]) ∧ H = [some ⟨nums M, 3, false, true⟩]) (N.length - 0) (mkT 19 [(0, vS 0 N.length), (1, vN m), (5, vI 0)]) [some ⟨nums N, 3, false, true⟩] (wkSame [0, 1, 5] (by kernel_rfl)) ?_ ?_
  · exact ⟨0, m, N, (Nat.zero_le _), (rfl), (by simp [mkI]), rfl, rfl, rfl⟩
  · rintro _ _ _ ⟨j, q, M, hj, hq, hM, rfl, rfl, rfl⟩
    have hml : M.length = N.length := (by rw [hM]; simp; omega)
    refine cSeq ?_
    refine cSeq ?_
    refine cReg ?_
    refine segEndH [0, 1, 5, 9] (T1 := (mkT 19 [(0, vS 0 N.length), (1, vN q), (5, vN j), (9, .bool (decide (((j : Nat) : Int) < ((N.length : Nat) : Int))))])) (by kernel_rfl) ?_
    refine kSeq ?_
    cases h1 : (decide (((j : Nat) : Int) < ((N.length : Nat) : Int)) : Bool)
    ·
      (try simp only [Bool.not_eq_true', Bool.not_eq_false', decide_eq_true_eq, decide_eq_false_iff_not, beq_iff_eq, bne_iff_ne, beq_eq_false_iff_ne, bne_eq_false_iff_eq, ne_eq, Decidable.not_not, Bool.and_eq_true, Bool.and_eq_false_imp, Bool.or_eq_true, Bool.or_eq_false_iff, Bool.not_eq_true, Int.not_lt, Int.not_le, ge_iff_le, gt_iff_lt] at h1)
      refine cFalse (by kernel_rfl) ?_
      refine cExit ?_
      refine kSeqE ?_
      refine kLoopE ?_
      refine kBlkHit ?_
      refine kSeq ?_
      refine cSeq ?_
      refine cReg ?_
      refine segEndH [4] (T1 := (mkT 19 [(4, vN q)])) (by kernel_rfl) ?_
      refine kSeq ?_
      refine cRet ?_
      -- end
      have he0 : (q : Nat) = m + N.length := by first | omega | (rw [hM]; exact mkI_end (by omega) hj)
      have he1 : (M : List Int) = (mkI m N.length) := by first | omega | (rw [hM]; exact mkI_end (by omega) hj)
      refine endCast (v1 := vN q) (H1 := [some ⟨nums M, 3, false, true⟩]) (by first | rfl | ((try rw [← he0]); (try rw [← he1]); done) | (simp only [← he0, ← he1]; done)) (by first | rfl | ((try rw [← he0]); (try rw [← he1]); done) | (simp only [← he0, ← he1]; done)) ?_
      exact endQ (Or.inr rfl) (l := [vN q]) [] (by kernel_rfl) (by first | rfl | kernel_rfl) rfl rfl (closedL ⟨clF (flatNums _ _ _ _), trivial⟩) rfl
    ·
      (try simp only [Bool.not_eq_true', Bool.not_eq_false', decide_eq_true_eq, decide_eq_false_iff_not, beq_iff_eq, bne_iff_ne, beq_eq_false_iff_ne, bne_eq_false_iff_eq, ne_eq, Decidable.not_not, Bool.and_eq_true, Bool.and_eq_false_imp, Bool.or_eq_true, Bool.or_eq_false_iff, Bool.not_eq_true, Int.not_lt, Int.not_le, ge_iff_le, gt_iff_lt] at h1)
      refine cTrue (by kernel_rfl) ?_
      refine cSkip ?_
      refine kSeq ?_
      refine cSeq ?_
      refine cBlk ?_
      refine cSeq ?_
      refine cReg ?_
      refine segH 3 (T1 := (mkT 19 [(0, vS 0 N.length), (1, vN q), (5, vN j), (9, .bool true), (12, vS 0 N.length), (13, vN j), (14, vN q)])) (by kernel_rfl) ?_
      refine rOp (v := vP 0 j) (by kernel_rfl) (eIdxS (ad := ⟨0, 0, none⟩) (n := N.length) (m := 0) (k := .i64) (c := ((j : Nat) : Int)) (j := j) (o := j) (by kernel_rfl) (by kernel_rfl) ti51 ti3 (rfl) (by omega) (by simp)) ?_
      refine rOp (v := .tuple #[]) (H' := [some ⟨nums (M.set j ((q : Nat) : Int)), 3, false, true⟩]) (by kernel_rfl) (eStNum (b := 0) (o := j) (L := M) (n := ((q : Nat) : Int)) (e := 3) (bx := false) (by kernel_rfl) (by kernel_rfl) (by kernel_rfl) (by omega) ti3 rfl (by rfl)) ?_
      refine segEnd [0, 1, 5] (T1 := (mkT 19 [(0, vS 0 N.length), (1, vN q), (5, vN j)])) (H1 := [some ⟨nums (M.set j ((q : Nat) : Int)), 3, false, true⟩]) (by kernel_rfl) ?_
      refine kSeq ?_
      refine cReg ?_
      refine segH 1 (T1 := (mkT 19 [(0, vS 0 N.length), (1, vN q), (5, vN j), (16, vN q)])) (by kernel_rfl) ?_
      refine rOp (v := vN (q + 1)) (by kernel_rfl) (eAdd (k := .i64) (a := ((q : Nat) : Int)) (b := 1) (c := ((q + 1 : Nat) : Int)) (by kernel_rfl) (by kernel_rfl) (wr64 (by omega) (by omega) (by omega))) ?_
      refine segEndH [0, 1, 5] (T1 := (mkT 19 [(0, vS 0 N.length), (1, vN (q + 1)), (5, vN j)])) (by kernel_rfl) ?_
      refine kBlk ?_
      refine kSeq ?_
      refine cReg ?_
      refine segH 1 (T1 := (mkT 19 [(0, vS 0 N.length), (1, vN (q + 1)), (5, vN j), (10, vN j)])) (by kernel_rfl) ?_
      refine rOp (v := vN (j + 1)) (by kernel_rfl) (eAdd (k := .i64) (a := ((j : Nat) : Int)) (b := 1) (c := ((j + 1 : Nat) : Int)) (by kernel_rfl) (by kernel_rfl) (wr64 (by omega) (by omega) (by omega))) ?_
      refine segEndH [0, 1, 5] (T1 := (mkT 19 [(0, vS 0 N.length), (1, vN (q + 1)), (5, vN (j + 1))])) (by kernel_rfl) ?_
      exact kLoop (N.length - (j + 1)) (mkT 19 [(0, vS 0 N.length), (1, vN (q + 1)), (5, vN (j + 1))]) [some ⟨nums (M.set j ((q : Nat) : Int)), 3, false, true⟩] (by omega) (wkSame [0, 1, 5] (by kernel_rfl)) ⟨(j + 1), (q + 1), (M.set j ((q : Nat) : Int)), (by omega), (by omega), (by rw [hM, hq]; exact mkI_put (by omega)), rfl, rfl, rfl⟩

set_option maxRecDepth 100000 in
set_option maxHeartbeats 4000000 in
theorem heldI_S (m : Nat) (n : Nat) (hn : n ≤ 1048576) (hm : m ≤ 1099511627776) : Sound Try.prog 50 [vS 0 n, vN m] [some ⟨nums (mkI m n), 3, false, false⟩] (vN (m + n)) [some ⟨nums (mkI m n), 3, false, false⟩] := by
  refine sound_intro (C := cx) Try.func50 rfl (by kernel_rfl) fun hcl => ?_
  have hml := mkI_length m n
  refine cSeq ?_
  refine cReg ?_
  refine segEndH [0, 1] (T1 := (mkT 21 [(0, vS 0 n), (1, vN m)])) (by kernel_rfl) ?_
  refine kSeq ?_
  refine cSeq ?_
  refine cSeq ?_
  refine cReg ?_
  refine segEndH [0, 1, 5] (T1 := (mkT 21 [(0, vS 0 n), (1, vN m), (5, vI 0)])) (by kernel_rfl) ?_
  refine kSeq ?_
  refine cBlk ?_
  -- loop
  refine cLoop (fun mm T H => ∃ j : Nat, ∃ q : Nat, (j ≤ n) ∧ (q = m + j) ∧ mm = n - j ∧ T = (mkT 21 [(0, vS 0 n), (1, vN q), (5, vN j)]) ∧ H = [some ⟨nums (mkI m n), 3, false, false⟩]) (n - 0) (mkT 21 [(0, vS 0 n), (1, vN m), (5, vI 0)]) [some ⟨nums (mkI m n), 3, false, false⟩] (wkSame [0, 1, 5] (by kernel_rfl)) ?_ ?_
  · exact ⟨0, m, (Nat.zero_le _), (rfl), rfl, rfl, rfl⟩
  · rintro _ _ _ ⟨j, q, hj, hq, rfl, rfl, rfl⟩
    refine cSeq ?_
    refine cSeq ?_
    refine cReg ?_
    refine segEndH [0, 1, 5, 9] (T1 := (mkT 21 [(0, vS 0 n), (1, vN q), (5, vN j), (9, .bool (decide (((j : Nat) : Int) < ((n : Nat) : Int))))])) (by kernel_rfl) ?_
    refine kSeq ?_
    cases h1 : (decide (((j : Nat) : Int) < ((n : Nat) : Int)) : Bool)
    ·
      (try simp only [Bool.not_eq_true', Bool.not_eq_false', decide_eq_true_eq, decide_eq_false_iff_not, beq_iff_eq, bne_iff_ne, beq_eq_false_iff_ne, bne_eq_false_iff_eq, ne_eq, Decidable.not_not, Bool.and_eq_true, Bool.and_eq_false_imp, Bool.or_eq_true, Bool.or_eq_false_iff, Bool.not_eq_true, Int.not_lt, Int.not_le, ge_iff_le, gt_iff_lt] at h1)
      refine cFalse (by kernel_rfl) ?_
      refine cExit ?_
      refine kSeqE ?_
      refine kLoopE ?_
      refine kBlkHit ?_
      refine kSeq ?_
      refine cSeq ?_
      refine cReg ?_
      refine segEndH [4] (T1 := (mkT 21 [(4, vN q)])) (by kernel_rfl) ?_
      refine kSeq ?_
      refine cRet ?_
      -- end
      have he0 : (q : Nat) = m + n := by first | omega | assumption | rfl | (symm; assumption) | (simp_all; done)
      refine endCast (v1 := vN q) (H1 := [some ⟨nums (mkI m n), 3, false, false⟩]) (by first | rfl | ((try rw [← he0]); done) | (simp only [← he0]; done)) (by first | rfl | ((try rw [← he0]); done) | (simp only [← he0]; done)) ?_
      exact endQ (Or.inr rfl) (l := [vN q]) [] (by kernel_rfl) (by first | rfl | kernel_rfl) rfl rfl hcl rfl
    ·
      (try simp only [Bool.not_eq_true', Bool.not_eq_false', decide_eq_true_eq, decide_eq_false_iff_not, beq_iff_eq, bne_iff_ne, beq_eq_false_iff_ne, bne_eq_false_iff_eq, ne_eq, Decidable.not_not, Bool.and_eq_true, Bool.and_eq_false_imp, Bool.or_eq_true, Bool.or_eq_false_iff, Bool.not_eq_true, Int.not_lt, Int.not_le, ge_iff_le, gt_iff_lt] at h1)
      have hg := mkI_get (m := m) (n := n) (j := j) (by omega)
      refine cTrue (by kernel_rfl) ?_
      refine cSkip ?_
      refine kSeq ?_
      refine cSeq ?_
      refine cBlk ?_
      refine cSeq ?_
      refine cSeq ?_
      refine cReg ?_
      refine segH 2 (T1 := (mkT 21 [(0, vS 0 n), (1, vN q), (5, vN j), (9, .bool true), (12, vS 0 n), (13, vN j)])) (by kernel_rfl) ?_
      refine rOp (v := vP 0 j) (by kernel_rfl) (eIdxS (ad := ⟨0, 0, none⟩) (n := n) (m := 0) (k := .i64) (c := ((j : Nat) : Int)) (j := j) (o := j) (by kernel_rfl) (by kernel_rfl) ti51 ti3 (rfl) (by omega) (by simp)) ?_
      refine rOp (v := vI ((mkI m n).getD j 0)) (by kernel_rfl) (eLdNum (ad := ⟨0, j, none⟩) (r := ⟨nums (mkI m n), 3, false, false⟩) (L := (mkI m n)) (j := j) (by kernel_rfl) (by kernel_rfl) rfl (by first | rfl | omega) (by omega) ti3 rfl) ?_
      refine segEndH [0, 1, 5, 17] (T1 := (mkT 21 [(0, vS 0 n), (1, vN q), (5, vN j), (17, .bool (((mkI m n).getD j 0) != ((q : Nat) : Int)))])) (by kernel_rfl) ?_
      refine kSeq ?_
      cases h2 : ((((mkI m n).getD j 0) != ((q : Nat) : Int)) : Bool)
      ·
        (try simp only [Bool.not_eq_true', Bool.not_eq_false', decide_eq_true_eq, decide_eq_false_iff_not, beq_iff_eq, bne_iff_ne, beq_eq_false_iff_ne, bne_eq_false_iff_eq, ne_eq, Decidable.not_not, Bool.and_eq_true, Bool.and_eq_false_imp, Bool.or_eq_true, Bool.or_eq_false_iff, Bool.not_eq_true, Int.not_lt, Int.not_le, ge_iff_le, gt_iff_lt] at h2)
        refine cFalse (by kernel_rfl) ?_
        refine cSkip ?_
        refine kSeq ?_
        refine cReg ?_
        refine segH 1 (T1 := (mkT 21 [(0, vS 0 n), (1, vN q), (5, vN j), (17, .bool false), (18, vN q)])) (by kernel_rfl) ?_
        refine rOp (v := vN (q + 1)) (by kernel_rfl) (eAdd (k := .i64) (a := ((q : Nat) : Int)) (b := 1) (c := ((q + 1 : Nat) : Int)) (by kernel_rfl) (by kernel_rfl) (wr64 (by omega) (by omega) (by omega))) ?_
        refine segEndH [0, 1, 5] (T1 := (mkT 21 [(0, vS 0 n), (1, vN (q + 1)), (5, vN j)])) (by kernel_rfl) ?_
        refine kBlk ?_
        refine kSeq ?_
        refine cReg ?_
        refine segH 1 (T1 := (mkT 21 [(0, vS 0 n), (1, vN (q + 1)), (5, vN j), (10, vN j)])) (by kernel_rfl) ?_
        refine rOp (v := vN (j + 1)) (by kernel_rfl) (eAdd (k := .i64) (a := ((j : Nat) : Int)) (b := 1) (c := ((j + 1 : Nat) : Int)) (by kernel_rfl) (by kernel_rfl) (wr64 (by omega) (by omega) (by omega))) ?_
        refine segEndH [0, 1, 5] (T1 := (mkT 21 [(0, vS 0 n), (1, vN (q + 1)), (5, vN (j + 1))])) (by kernel_rfl) ?_
        exact kLoop (n - (j + 1)) (mkT 21 [(0, vS 0 n), (1, vN (q + 1)), (5, vN (j + 1))]) [some ⟨nums (mkI m n), 3, false, false⟩] (by omega) (wkSame [0, 1, 5] (by kernel_rfl)) ⟨(j + 1), (q + 1), (by omega), (by omega), rfl, rfl, rfl⟩
      ·
        (try simp only [Bool.not_eq_true', Bool.not_eq_false', decide_eq_true_eq, decide_eq_false_iff_not, beq_iff_eq, bne_iff_ne, beq_eq_false_iff_ne, bne_eq_false_iff_eq, ne_eq, Decidable.not_not, Bool.and_eq_true, Bool.and_eq_false_imp, Bool.or_eq_true, Bool.or_eq_false_iff, Bool.not_eq_true, Int.not_lt, Int.not_le, ge_iff_le, gt_iff_lt] at h2)
        exfalso; (rw [hg] at h2; omega)

set_option maxRecDepth 100000 in
set_option maxHeartbeats 4000000 in
theorem markI_N (m : Nat)  : Sound Try.prog 49 [.slice none 0 0, vN m] [] (vN m) [] := by
  refine sound_intro (C := cx) Try.func49 rfl (by kernel_rfl) fun hcl => ?_
  refine cSeq ?_
  refine cReg ?_
  refine segEndH [0, 1] (T1 := (mkT 19 [(0, .slice none 0 0), (1, vN m)])) (by kernel_rfl) ?_
  refine kSeq ?_
  refine cSeq ?_
  refine cSeq ?_
  refine cReg ?_
  refine segEndH [0, 1, 5] (T1 := (mkT 19 [(0, .slice none 0 0), (1, vN m), (5, vI 0)])) (by kernel_rfl) ?_
  refine kSeq ?_
  refine cBlk ?_
  -- loop
  refine cLoop (fun mm T H => mm = 0 ∧ T = (mkT 19 [(0, .slice none 0 0), (1, vN m), (5, vI 0)]) ∧ H = []) (0) (mkT 19 [(0, .slice none 0 0), (1, vN m), (5, vI 0)]) [] (wkSame [0, 1, 5] (by kernel_rfl)) ?_ ?_
  · exact ⟨rfl, rfl, rfl⟩
  · rintro _ _ _ ⟨rfl, rfl, rfl⟩
    refine cSeq ?_
    refine cSeq ?_
    refine cReg ?_
    refine segEndH [0, 1, 5, 9] (T1 := (mkT 19 [(0, .slice none 0 0), (1, vN m), (5, vI 0), (9, .bool false)])) (by kernel_rfl) ?_
    refine kSeq ?_
    refine cFalse (by kernel_rfl) ?_
    refine cExit ?_
    refine kSeqE ?_
    refine kLoopE ?_
    refine kBlkHit ?_
    refine kSeq ?_
    refine cSeq ?_
    refine cReg ?_
    refine segEndH [4] (T1 := (mkT 19 [(4, vN m)])) (by kernel_rfl) ?_
    refine kSeq ?_
    refine cRet ?_
    -- end
    exact endQ (Or.inr rfl) (l := [vN m]) [] (by kernel_rfl) (by first | rfl | kernel_rfl) rfl rfl hcl rfl

set_option maxRecDepth 100000 in
set_option maxHeartbeats 4000000 in
theorem heldI_N (m : Nat)  : Sound Try.prog 50 [.slice none 0 0, vN m] [] (vN m) [] := by
  refine sound_intro (C := cx) Try.func50 rfl (by kernel_rfl) fun hcl => ?_
  refine cSeq ?_
  refine cReg ?_
  refine segEndH [0, 1] (T1 := (mkT 21 [(0, .slice none 0 0), (1, vN m)])) (by kernel_rfl) ?_
  refine kSeq ?_
  refine cSeq ?_
  refine cSeq ?_
  refine cReg ?_
  refine segEndH [0, 1, 5] (T1 := (mkT 21 [(0, .slice none 0 0), (1, vN m), (5, vI 0)])) (by kernel_rfl) ?_
  refine kSeq ?_
  refine cBlk ?_
  -- loop
  refine cLoop (fun mm T H => mm = 0 ∧ T = (mkT 21 [(0, .slice none 0 0), (1, vN m), (5, vI 0)]) ∧ H = []) (0) (mkT 21 [(0, .slice none 0 0), (1, vN m), (5, vI 0)]) [] (wkSame [0, 1, 5] (by kernel_rfl)) ?_ ?_
  · exact ⟨rfl, rfl, rfl⟩
  · rintro _ _ _ ⟨rfl, rfl, rfl⟩
    refine cSeq ?_
    refine cSeq ?_
    refine cReg ?_
    refine segEndH [0, 1, 5, 9] (T1 := (mkT 21 [(0, .slice none 0 0), (1, vN m), (5, vI 0), (9, .bool false)])) (by kernel_rfl) ?_
    refine kSeq ?_
    refine cFalse (by kernel_rfl) ?_
    refine cExit ?_
    refine kSeqE ?_
    refine kLoopE ?_
    refine kBlkHit ?_
    refine kSeq ?_
    refine cSeq ?_
    refine cReg ?_
    refine segEndH [4] (T1 := (mkT 21 [(4, vN m)])) (by kernel_rfl) ?_
    refine kSeq ?_
    refine cRet ?_
    -- end
    exact endQ (Or.inr rfl) (l := [vN m]) [] (by kernel_rfl) (by first | rfl | kernel_rfl) rfl rfl hcl rfl

set_option maxRecDepth 100000 in
set_option maxHeartbeats 4000000 in
theorem others2   : Sound Try.prog 107 [vI 2] [] (.tuple #[vI 0, vI 1]) [] := by
  refine sound_intro (C := cx) Try.func107 rfl (by kernel_rfl) fun hcl => ?_
  refine cSeq ?_
  refine cReg ?_
  refine segEndH [0] (T1 := (mkT 9 [(0, vI 2)])) (by kernel_rfl) ?_
  refine kSeq ?_
  refine cSeq ?_
  refine cSeq ?_
  refine cReg ?_
  refine segEndH [4] (T1 := (mkT 9 [(4, vI 2)])) (by kernel_rfl) ?_
  refine kSeq ?_
  refine cBlk ?_
  refine cSeq ?_
  refine cReg ?_
  refine segEndH [4, 5] (T1 := (mkT 9 [(4, vI 2), (5, .bool false)])) (by kernel_rfl) ?_
  refine kSeq ?_
  refine cFalse (by kernel_rfl) ?_
  refine cSeq ?_
  refine cReg ?_
  refine segEndH [7] (T1 := (mkT 9 [(7, .bool false)])) (by kernel_rfl) ?_
  refine kSeq ?_
  refine cFalse (by kernel_rfl) ?_
  refine cSkip ?_
  refine kBlk ?_
  refine kSeq ?_
  refine cSeq ?_
  refine cReg ?_
  refine segEndH [2, 3] (T1 := (mkT 9 [(2, vI 0), (3, vI 1)])) (by kernel_rfl) ?_
  refine kSeq ?_
  refine cRet ?_
  -- end
  exact endQ (Or.inr rfl) (l := [vI 0, vI 1]) [] (by kernel_rfl) (by first | rfl | kernel_rfl) rfl rfl hcl rfl

set_option maxRecDepth 100000 in
set_option maxHeartbeats 4000000 in
theorem line2 (X : Nat) (Y : Nat) (Z : Nat) (a : Int) (b : Int) (c : Int) (hs : Sides X Y Z) (hh : has3 (X : Int) (Y : Int) (Z : Int) a b c = true) : Sound Try.prog 105 [.agg #[vN X, vN Y, vN Z], .agg #[vI a, vI b, vI c], vI 2] [] (vI (a * (Y : Int) + b)) [] := by
  refine sound_intro (C := cx) Try.func105 rfl (by kernel_rfl) fun hcl => ?_
  have hz := hs.size
  have hx0 := hs.x0
  have hx4 := hs.x4
  have hy0 := hs.y0
  have hy4 := hs.y4
  have hz0 := hs.z0
  have hz4 := hs.z4
  have hfl := flat_lt hh
  have hh3 := (has3_iff (c := A3.mk a b c)).1 hh
  simp only at hh3
  have hxy : X * Y ≤ 4 * 4 := Nat.mul_le_mul (by omega) (by omega)
  refine cSeq ?_
  refine cReg ?_
  refine segEnd [2, 3, 4] (T1 := (mkT 25 [(2, vI 2), (3, vP 0 0), (4, vP 1 0)])) (H1 := [rB [vN X, vN Y, vN Z] 60, rB [vI a, vI b, vI c] 25]) (by kernel_rfl) ?_
  refine kSeq ?_
  refine cSeq ?_
  refine cReg ?_
  refine segH 1 (T1 := (mkT 25 [(2, vI 2), (3, vP 0 0), (4, vP 1 0), (10, vI 2)])) (by kernel_rfl) ?_
  refine rCall (v := .tuple #[vI 0, vI 1]) (args := [vI 2]) (by kernel_rfl) rfl (by kernel_rfl) (Sound.lay0 [] (others2) trivial rfl trivial rfl (by first | rfl | simp [mpV, mpA, mpS, mpP, renId, shift]) (by first | rfl | simp [mpV, mpA, mpS, mpP, renId, shift])) ?_
  refine segEndH [3, 4, 7, 8] (T1 := (mkT 25 [(3, vP 0 0), (4, vP 1 0), (7, vI 0), (8, vI 1)])) (by kernel_rfl) ?_
  refine kSeq ?_
  refine cSeq ?_
  refine cRegW (N := 2) [⟨[], [], []⟩, ⟨[], [], []⟩, ⟨[], [], [1]⟩, ⟨[], [], []⟩, ⟨[], [], []⟩, ⟨[], [], [0]⟩, ⟨[], [], []⟩, ⟨[], [], []⟩, ⟨[], [], []⟩, ⟨[], [], [1]⟩, ⟨[], [], []⟩, ⟨[], [], []⟩] 0 [] (by rfl) (by rfl) (by kernel_rfl) (by kernel_rfl) (by kernel_rfl) ⟨nmsX (by kernel_rfl), ⟨nmsX (by kernel_rfl), trivial⟩⟩ ?_
  refine segWH 6 (T1 := (mkT 25 [(3, vP 0 0), (4, vP 1 0), (7, vI 0), (8, vI 1), (14, vI 0), (15, vP 1 0), (16, vI a), (17, vI 1), (18, vP 0 1), (19, vN Y)])) (by kernel_rfl) ?_
  refine rW (m := ⟨[], [], []⟩) (v := vI (a * ((Y : Nat) : Int))) rfl (by kernel_rfl) (stId (eMul (k := .i64) (a := a) (b := ((Y : Nat) : Int)) (c := (a * ((Y : Nat) : Int))) (by kernel_rfl) (by kernel_rfl) (wr64 (by omega) (by omega) (by omega))) rfl (by kernel_rfl) (by kernel_rfl) (by kernel_rfl)) (by kernel_rfl) nr0 ?_
  refine segWH 3 (T1 := (mkT 25 [(3, vP 0 0), (4, vP 1 0), (7, vI 0), (8, vI 1), (14, vI 0), (15, vP 1 0), (16, vI a), (17, vI 1), (18, vP 0 1), (19, vN Y), (20, vI (a * ((Y : Nat) : Int))), (21, vI 1), (22, vP 1 1), (23, vI b)])) (by kernel_rfl) ?_
  refine rW (m := ⟨[], [], []⟩) (v := vI (a * ((Y : Nat) : Int) + b)) rfl (by kernel_rfl) (stId (eAdd (k := .i64) (a := (a * ((Y : Nat) : Int))) (b := b) (c := (a * ((Y : Nat) : Int) + b)) (by kernel_rfl) (by kernel_rfl) (wr64 (by omega) (by omega) (by omega))) rfl (by kernel_rfl) (by kernel_rfl) (by kernel_rfl)) (by kernel_rfl) nr0 ?_
  refine segEndWH [6] (T1 := (mkT 25 [(6, vI (a * ((Y : Nat) : Int) + b))])) (by kernel_rfl) ?_
  refine kSeq ?_
  refine cRet ?_
  -- end
  have he0 : (a * ((Y : Nat) : Int) + b : Int) = a * (Y : Int) + b := by first | omega | assumption | rfl | (symm; assumption) | (simp_all; done)
  refine endCast (v1 := vI (a * ((Y : Nat) : Int) + b)) (H1 := []) (by first | rfl | ((try rw [← he0]); done) | (simp only [← he0]; done)) (by first | rfl | ((try rw [← he0]); done) | (simp only [← he0]; done)) ?_
  exact endQ (Or.inr rfl) (l := [vI (a * ((Y : Nat) : Int) + b)]) [rB [vN X, vN Y, vN Z] 60, rB [vI a, vI b, vI c] 25] (by kernel_rfl) (by first | rfl | kernel_rfl) rfl rfl hcl rfl

set_option maxRecDepth 100000 in
set_option maxHeartbeats 4000000 in
theorem l2TopsB0 (X : Nat) (Y : Nat) (Z : Nat) (L : List A3) (hs : Sides X Y Z) (hL : HeapL X Y Z L) : Sound Try.prog 91 [.agg #[vN X, vN Y, vN Z, vS 0 L.length]] [some ⟨a3s L, 25, false, false⟩] (vS 1 (X * Y)) [some ⟨a3s L, 25, false, false⟩, some ⟨nums (topT X Y L L.length), 3, false, true⟩] := by
  refine sound_intro (C := cx) Try.func91 rfl (by kernel_rfl) fun hcl => ?_
  have hz := hs.size
  have hx0 := hs.x0
  have hx4 := hs.x4
  have hy0 := hs.y0
  have hy4 := hs.y4
  have hz0 := hs.z0
  have hz4 := hs.z4
  have hlen := hL.len
  have hlt := hL.lt64 hs
  have hsm := hL.small hs
  have hxy : X * Y ≤ 4 * 4 := Nat.mul_le_mul (by omega) (by omega)
  have htl := topT_length X Y L L.length
  refine cSeq ?_
  refine cReg ?_
  refine segEnd [1] (T1 := (mkT 51 [(1, vP 1 0)])) (H1 := [some ⟨a3s L, 25, false, false⟩, rB [vN X, vN Y, vN Z, vS 0 L.length] 29]) (by kernel_rfl) ?_
  refine kSeq ?_
  refine cSeq ?_
  refine cReg ?_
  refine segH 4 (T1 := (mkT 51 [(1, vP 1 0), (6, vP 1 0), (7, vN X), (8, vP 1 1), (9, vN Y)])) (by kernel_rfl) ?_
  refine rOp (v := vN (X * Y)) (by kernel_rfl) (eMul (k := .i64) (a := ((X : Nat) : Int)) (b := ((Y : Nat) : Int)) (c := ((X * Y : Nat) : Int)) (by kernel_rfl) (by kernel_rfl) (nMul (by omega))) ?_
  refine rOp (v := vS 2 (X * Y)) (H' := [some ⟨a3s L, 25, false, false⟩, rB [vN X, vN Y, vN Z, vS 0 L.length] 29, some ⟨nums (List.replicate (X * Y) 0), 3, false, true⟩]) (by kernel_rfl) (eMkNum (n := (X * Y)) (k := .i64) (k2 := .i64) (by kernel_rfl) (by kernel_rfl) ti51 ti3 rfl rfl (by decide) (by omega)) ?_
  refine segEnd [1, 3] (T1 := (mkT 51 [(1, vP 1 0), (3, vS 2 (X * Y))])) (H1 := [some ⟨a3s L, 25, false, false⟩, rB [vN X, vN Y, vN Z, vS 0 L.length] 29, some ⟨nums (List.replicate (X * Y) 0), 3, false, true⟩]) (by kernel_rfl) ?_
  refine kSeq ?_
  refine cSeq ?_
  refine cSeq ?_
  refine cReg ?_
  refine segEndH [1, 3, 4] (T1 := (mkT 51 [(1, vP 1 0), (3, vS 2 (X * Y)), (4, vI 0)])) (by kernel_rfl) ?_
  refine kSeq ?_
  refine cBlk ?_
  -- loop
  refine cLoop (fun mm T H => ∃ i : Nat, ∃ M : List Int, (i ≤ L.length) ∧ (M = topT X Y L i) ∧ mm = L.length - i ∧ T = (mkT 51 [(1, vP 1 0), (3, vS 2 (X * Y)), (4, vN i)]) ∧ H = [some ⟨a3s L, 25, false, false⟩, rB [vN X, vN Y, vN Z, vS 0 L.length] 29, some ⟨nums M, 3, false, true⟩]) (L.length - 0) (mkT 51 [(1, vP 1 0), (3, vS 2 (X * Y)), (4, vI 0)]) [some ⟨a3s L, 25, false, false⟩, rB [vN X, vN Y, vN Z, vS 0 L.length] 29, some ⟨nums (List.replicate (X * Y) 0), 3, false, true⟩] (wkSame [1, 3, 4] (by kernel_rfl)) ?_ ?_
  · exact ⟨0, (List.replicate (X * Y) 0), (Nat.zero_le _), (rfl), rfl, rfl, rfl⟩
  · rintro _ _ _ ⟨i, M, hi, hM, rfl, rfl, rfl⟩
    have hml : M.length = X * Y := (by rw [hM]; exact topT_length X Y L i)
    refine cSeq ?_
    refine cSeq ?_
    refine cReg ?_
    refine segEndH [1, 3, 4, 16] (T1 := (mkT 51 [(1, vP 1 0), (3, vS 2 (X * Y)), (4, vN i), (16, .bool (decide (((i : Nat) : Int) < ((L.length : Nat) : Int))))])) (by kernel_rfl) ?_
    refine kSeq ?_
    cases h1 : (decide (((i : Nat) : Int) < ((L.length : Nat) : Int)) : Bool)
    ·
      (try simp only [Bool.not_eq_true', Bool.not_eq_false', decide_eq_true_eq, decide_eq_false_iff_not, beq_iff_eq, bne_iff_ne, beq_eq_false_iff_ne, bne_eq_false_iff_eq, ne_eq, Decidable.not_not, Bool.and_eq_true, Bool.and_eq_false_imp, Bool.or_eq_true, Bool.or_eq_false_iff, Bool.not_eq_true, Int.not_lt, Int.not_le, ge_iff_le, gt_iff_lt] at h1)
      refine cFalse (by kernel_rfl) ?_
      refine cExit ?_
      refine kSeqE ?_
      refine kLoopE ?_
      refine kBlkHit ?_
      refine kSeq ?_
      refine cSeq ?_
      refine cReg ?_
      refine segEndH [2] (T1 := (mkT 51 [(2, vS 2 (X * Y))])) (by kernel_rfl) ?_
      refine kSeq ?_
      refine cRet ?_
      -- end
      have he0 : (M : List Int) = (topT X Y L L.length) := by first | omega | (rw [hM, show i = L.length by omega])
      refine endCast (v1 := vS 1 (X * Y)) (H1 := [some ⟨a3s L, 25, false, false⟩, some ⟨nums M, 3, false, true⟩]) (by first | rfl | ((try rw [← he0]); done) | (simp only [← he0]; done)) (by first | rfl | ((try rw [← he0]); done) | (simp only [← he0]; done)) ?_
      exact endF (Or.inr rfl) (l := [vS 2 (X * Y)]) [0, 2] (by kernel_rfl) (by first | rfl | simp [packR, mpV, mpA, mpS, mpP, renId]) ⟨rrF (flatA3 _ _ _ _) rfl, ⟨rrF (flatNums _ _ _ _) rfl, trivial⟩⟩ rfl rfl
    ·
      (try simp only [Bool.not_eq_true', Bool.not_eq_false', decide_eq_true_eq, decide_eq_false_iff_not, beq_iff_eq, bne_iff_ne, beq_eq_false_iff_ne, bne_eq_false_iff_eq, ne_eq, Decidable.not_not, Bool.and_eq_true, Bool.and_eq_false_imp, Bool.or_eq_true, Bool.or_eq_false_iff, Bool.not_eq_true, Int.not_lt, Int.not_le, ge_iff_le, gt_iff_lt] at h1)
      have hhas := hL.has hs (i := i) (by omega)
      have hfl := flat_lt hhas
      have hh3 := has3_iff.1 hhas
      refine cTrue (by kernel_rfl) ?_
      refine cSkip ?_
      refine kSeq ?_
      refine cSeq ?_
      refine cBlk ?_
      refine cSeq ?_
      refine cRegW (N := 3) [⟨[], [], []⟩, ⟨[], [], [1]⟩, ⟨[], [], []⟩, ⟨[], [], []⟩, ⟨[], [], []⟩, ⟨[], [], [0]⟩, ⟨[], [], []⟩, ⟨[], [], [1]⟩, ⟨[], [], []⟩, ⟨[], [], []⟩, ⟨[], [], [1]⟩, ⟨[], [], []⟩, ⟨[], [], []⟩, ⟨[], [], []⟩, ⟨[], [], [0]⟩, ⟨[], [], []⟩, ⟨[], [], []⟩] 0 [] (by rfl) (by rfl) (by kernel_rfl) (by kernel_rfl) (by kernel_rfl) ⟨nmsF (flatA3 _ _ _ _), ⟨nmsX (by kernel_rfl), ⟨nmsF (flatNums _ _ _ _), trivial⟩⟩⟩ ?_
      refine segWH 3 (T1 := (mkT 51 [(1, vP 1 0), (3, vS 2 (X * Y)), (4, vN i), (16, .bool true), (19, vP 1 3), (20, vS 0 L.length), (21, vN i)])) (by kernel_rfl) ?_
      refine rW (m := ⟨[], [], []⟩) (v := vP 0 (i * 3)) rfl (by kernel_rfl) (stId (eIdxS (ad := ⟨0, 0, none⟩) (n := L.length) (m := 0) (k := .i64) (c := ((i : Nat) : Int)) (j := i) (o := i * 3) (by kernel_rfl) (by kernel_rfl) ti22 ti25 (rfl) (by omega) (by exact Nat.zero_add _)) rfl (by kernel_rfl) (by kernel_rfl) (by kernel_rfl)) (by kernel_rfl) nr0 ?_
      refine segWH 1 (T1 := (mkT 51 [(1, vP 1 0), (3, vS 2 (X * Y)), (4, vN i), (16, .bool true), (19, vP 1 3), (20, vS 0 L.length), (21, vN i), (22, vP 0 (i * 3)), (23, vP 0 (i * 3 + 0))])) (by kernel_rfl) ?_
      refine rW (m := ⟨[], [], [0]⟩) (v := vI ((L.getD i default).x)) rfl (by kernel_rfl) (stId (eLdA3i (ad := ⟨0, i * 3 + 0, none⟩) (r := ⟨a3s L, 25, false, false⟩) (L := L) (j := i) (i := 0) (by kernel_rfl) (by kernel_rfl) rfl (by first | rfl | omega) (by omega) ti3 rfl rfl) rfl (by kernel_rfl) (by kernel_rfl) (by kernel_rfl)) (by kernel_rfl) nr0 ?_
      refine segWH 2 (T1 := (mkT 51 [(1, vP 1 0), (3, vS 2 (X * Y)), (4, vN i), (16, .bool true), (19, vP 1 3), (20, vS 0 L.length), (21, vN i), (22, vP 0 (i * 3)), (23, vP 0 (i * 3 + 0)), (24, vI ((L.getD i default).x)), (25, vP 1 1), (26, vN Y)])) (by kernel_rfl) ?_
      refine rW (m := ⟨[], [], []⟩) (v := vI (((L.getD i default).x) * ((Y : Nat) : Int))) rfl (by kernel_rfl) (stId (eMul (k := .i64) (a := ((L.getD i default).x)) (b := ((Y : Nat) : Int)) (c := (((L.getD i default).x) * ((Y : Nat) : Int))) (by kernel_rfl) (by kernel_rfl) (wr64 (by omega) (by omega) (by omega))) rfl (by kernel_rfl) (by kernel_rfl) (by kernel_rfl)) (by kernel_rfl) nr0 ?_
      refine segWH 3 (T1 := (mkT 51 [(1, vP 1 0), (3, vS 2 (X * Y)), (4, vN i), (16, .bool true), (19, vP 1 3), (20, vS 0 L.length), (21, vN i), (22, vP 0 (i * 3)), (23, vP 0 (i * 3 + 0)), (24, vI ((L.getD i default).x)), (25, vP 1 1), (26, vN Y), (27, vI (((L.getD i default).x) * ((Y : Nat) : Int))), (28, vP 1 3), (29, vS 0 L.length), (30, vN i)])) (by kernel_rfl) ?_
      refine rW (m := ⟨[], [], []⟩) (v := vP 0 (i * 3)) rfl (by kernel_rfl) (stId (eIdxS (ad := ⟨0, 0, none⟩) (n := L.length) (m := 0) (k := .i64) (c := ((i : Nat) : Int)) (j := i) (o := i * 3) (by kernel_rfl) (by kernel_rfl) ti22 ti25 (rfl) (by omega) (by exact Nat.zero_add _)) rfl (by kernel_rfl) (by kernel_rfl) (by kernel_rfl)) (by kernel_rfl) nr0 ?_
      refine segWH 1 (T1 := (mkT 51 [(1, vP 1 0), (3, vS 2 (X * Y)), (4, vN i), (16, .bool true), (19, vP 1 3), (20, vS 0 L.length), (21, vN i), (22, vP 0 (i * 3)), (23, vP 0 (i * 3 + 0)), (24, vI ((L.getD i default).x)), (25, vP 1 1), (26, vN Y), (27, vI (((L.getD i default).x) * ((Y : Nat) : Int))), (28, vP 1 3), (29, vS 0 L.length), (30, vN i), (31, vP 0 (i * 3)), (32, vP 0 (i * 3 + 1))])) (by kernel_rfl) ?_
      refine rW (m := ⟨[], [], [0]⟩) (v := vI ((L.getD i default).y)) rfl (by kernel_rfl) (stId (eLdA3i (ad := ⟨0, i * 3 + 1, none⟩) (r := ⟨a3s L, 25, false, false⟩) (L := L) (j := i) (i := 1) (by kernel_rfl) (by kernel_rfl) rfl (by first | rfl | omega) (by omega) ti3 rfl rfl) rfl (by kernel_rfl) (by kernel_rfl) (by kernel_rfl)) (by kernel_rfl) nr0 ?_
      refine rW (m := ⟨[], [], []⟩) (v := vI (((L.getD i default).x) * ((Y : Nat) : Int) + ((L.getD i default).y))) rfl (by kernel_rfl) (stId (eAdd (k := .i64) (a := (((L.getD i default).x) * ((Y : Nat) : Int))) (b := ((L.getD i default).y)) (c := (((L.getD i default).x) * ((Y : Nat) : Int) + ((L.getD i default).y))) (by kernel_rfl) (by kernel_rfl) (wr64 (by omega) (by omega) (by omega))) rfl (by kernel_rfl) (by kernel_rfl) (by kernel_rfl)) (by kernel_rfl) nr0 ?_
      refine segEndWH [1, 3, 4, 5] (T1 := (mkT 51 [(1, vP 1 0), (3, vS 2 (X * Y)), (4, vN i), (5, vI (((L.getD i default).x) * ((Y : Nat) : Int) + ((L.getD i default).y)))])) (by kernel_rfl) ?_
      refine kSeq ?_
      refine cRegW (N := 3) [⟨[], [], []⟩, ⟨[], [], []⟩, ⟨[], [], []⟩, ⟨[], [], []⟩, ⟨[], [], []⟩, ⟨[], [], [2]⟩, ⟨[], [], []⟩, ⟨[], [], [1]⟩, ⟨[], [], []⟩, ⟨[], [], []⟩, ⟨[], [], []⟩, ⟨[], [], [0]⟩, ⟨[], [], []⟩, ⟨[], [], []⟩, ⟨[], [], []⟩, ⟨[], [2], []⟩] 0 [] (by rfl) (by rfl) (by kernel_rfl) (by kernel_rfl) (by kernel_rfl) ⟨nmsF (flatA3 _ _ _ _), ⟨nmsX (by kernel_rfl), ⟨nmsF (flatNums _ _ _ _), trivial⟩⟩⟩ ?_
      refine segWH 4 (T1 := (mkT 51 [(1, vP 1 0), (3, vS 2 (X * Y)), (4, vN i), (5, vI (((L.getD i default).x) * ((Y : Nat) : Int) + ((L.getD i default).y))), (35, vS 2 (X * Y)), (36, vI (((L.getD i default).x) * ((Y : Nat) : Int) + ((L.getD i default).y))), (37, vS 2 (X * Y)), (38, vI (((L.getD i default).x) * ((Y : Nat) : Int) + ((L.getD i default).y)))])) (by kernel_rfl) ?_
      refine rW (m := ⟨[], [], []⟩) (v := vP 2 ((((L.getD i default).x) * ((Y : Nat) : Int) + ((L.getD i default).y)).toNat)) rfl (by kernel_rfl) (stId (eIdxS (ad := ⟨2, 0, none⟩) (n := (X * Y)) (m := 0) (k := .i64) (c := (((L.getD i default).x) * ((Y : Nat) : Int) + ((L.getD i default).y))) (j := ((((L.getD i default).x) * ((Y : Nat) : Int) + ((L.getD i default).y)).toNat)) (o := (((L.getD i default).x) * ((Y : Nat) : Int) + ((L.getD i default).y)).toNat) (by kernel_rfl) (by kernel_rfl) ti51 ti3 (by omega) (by omega) (by simp)) rfl (by kernel_rfl) (by kernel_rfl) (by kernel_rfl)) (by kernel_rfl) nr0 ?_
      refine rW (m := ⟨[], [], [2]⟩) (v := vI (M.getD ((((L.getD i default).x) * ((Y : Nat) : Int) + ((L.getD i default).y)).toNat) 0)) rfl (by kernel_rfl) (stId (eLdNum (ad := ⟨2, (((L.getD i default).x) * ((Y : Nat) : Int) + ((L.getD i default).y)).toNat, none⟩) (r := ⟨nums M, 3, false, true⟩) (L := M) (j := ((((L.getD i default).x) * ((Y : Nat) : Int) + ((L.getD i default).y)).toNat)) (by kernel_rfl) (by kernel_rfl) rfl (by first | rfl | omega) (by omega) ti3 rfl) rfl (by kernel_rfl) (by kernel_rfl) (by kernel_rfl)) (by kernel_rfl) nr0 ?_
      refine segWH 3 (T1 := (mkT 51 [(1, vP 1 0), (3, vS 2 (X * Y)), (4, vN i), (5, vI (((L.getD i default).x) * ((Y : Nat) : Int) + ((L.getD i default).y))), (35, vS 2 (X * Y)), (36, vI (((L.getD i default).x) * ((Y : Nat) : Int) + ((L.getD i default).y))), (37, vS 2 (X * Y)), (38, vI (((L.getD i default).x) * ((Y : Nat) : Int) + ((L.getD i default).y))), (39, vP 2 ((((L.getD i default).x) * ((Y : Nat) : Int) + ((L.getD i default).y)).toNat)), (40, vI (M.getD ((((L.getD i default).x) * ((Y : Nat) : Int) + ((L.getD i default).y)).toNat) 0)), (41, vP 1 3), (42, vS 0 L.length), (43, vN i)])) (by kernel_rfl) ?_
      refine rW (m := ⟨[], [], []⟩) (v := vP 0 (i * 3)) rfl (by kernel_rfl) (stId (eIdxS (ad := ⟨0, 0, none⟩) (n := L.length) (m := 0) (k := .i64) (c := ((i : Nat) : Int)) (j := i) (o := i * 3) (by kernel_rfl) (by kernel_rfl) ti22 ti25 (rfl) (by omega) (by exact Nat.zero_add _)) rfl (by kernel_rfl) (by kernel_rfl) (by kernel_rfl)) (by kernel_rfl) nr0 ?_
      refine segWH 1 (T1 := (mkT 51 [(1, vP 1 0), (3, vS 2 (X * Y)), (4, vN i), (5, vI (((L.getD i default).x) * ((Y : Nat) : Int) + ((L.getD i default).y))), (35, vS 2 (X * Y)), (36, vI (((L.getD i default).x) * ((Y : Nat) : Int) + ((L.getD i default).y))), (37, vS 2 (X * Y)), (38, vI (((L.getD i default).x) * ((Y : Nat) : Int) + ((L.getD i default).y))), (39, vP 2 ((((L.getD i default).x) * ((Y : Nat) : Int) + ((L.getD i default).y)).toNat)), (40, vI (M.getD ((((L.getD i default).x) * ((Y : Nat) : Int) + ((L.getD i default).y)).toNat) 0)), (41, vP 1 3), (42, vS 0 L.length), (43, vN i), (44, vP 0 (i * 3)), (45, vP 0 (i * 3 + 2))])) (by kernel_rfl) ?_
      refine rW (m := ⟨[], [], [0]⟩) (v := vI ((L.getD i default).z)) rfl (by kernel_rfl) (stId (eLdA3i (ad := ⟨0, i * 3 + 2, none⟩) (r := ⟨a3s L, 25, false, false⟩) (L := L) (j := i) (i := 2) (by kernel_rfl) (by kernel_rfl) rfl (by first | rfl | omega) (by omega) ti3 rfl rfl) rfl (by kernel_rfl) (by kernel_rfl) (by kernel_rfl)) (by kernel_rfl) nr0 ?_
      refine rW (m := ⟨[], [], []⟩) (v := vI ((L.getD i default).z + 1)) rfl (by kernel_rfl) (stId (eAdd (k := .i64) (a := ((L.getD i default).z)) (b := 1) (c := ((L.getD i default).z + 1)) (by kernel_rfl) (by kernel_rfl) (wr64 (by omega) (by omega) (by omega))) rfl (by kernel_rfl) (by kernel_rfl) (by kernel_rfl)) (by kernel_rfl) nr0 ?_
      refine rW (m := ⟨[], [], []⟩) (v := vI (mxI (M.getD ((((L.getD i default).x) * ((Y : Nat) : Int) + ((L.getD i default).y)).toNat) 0) ((L.getD i default).z + 1))) rfl (by kernel_rfl) (stQ (args := [vI (M.getD ((((L.getD i default).x) * ((Y : Nat) : Int) + ((L.getD i default).y)).toNat) 0), vI ((L.getD i default).z + 1)]) rfl (by kernel_rfl) (Any.lay0 [] (l1MostB (M.getD ((((L.getD i default).x) * ((Y : Nat) : Int) + ((L.getD i default).y)).toNat) 0) ((L.getD i default).z + 1)) trivial rfl trivial rfl (by first | rfl | simp [mpV, mpA, mpS, mpP, renId, shift]) rfl) rfl (by kernel_rfl) (by kernel_rfl)) (by kernel_rfl) nr0 ?_
      refine rW (m := ⟨[], [], []⟩) (v := vP 2 ((((L.getD i default).x) * ((Y : Nat) : Int) + ((L.getD i default).y)).toNat)) rfl (by kernel_rfl) (stId (eIdxS (ad := ⟨2, 0, none⟩) (n := (X * Y)) (m := 0) (k := .i64) (c := (((L.getD i default).x) * ((Y : Nat) : Int) + ((L.getD i default).y))) (j := ((((L.getD i default).x) * ((Y : Nat) : Int) + ((L.getD i default).y)).toNat)) (o := (((L.getD i default).x) * ((Y : Nat) : Int) + ((L.getD i default).y)).toNat) (by kernel_rfl) (by kernel_rfl) ti51 ti3 (by omega) (by omega) (by simp)) rfl (by kernel_rfl) (by kernel_rfl) (by kernel_rfl)) (by kernel_rfl) nr0 ?_
      refine rW (m := ⟨[], [2], []⟩) (v := .tuple #[]) rfl (by kernel_rfl) (stSet (b := 2) (r := ⟨nums (M.set ((((L.getD i default).x) * ((Y : Nat) : Int) + ((L.getD i default).y)).toNat) (mxI (M.getD ((((L.getD i default).x) * ((Y : Nat) : Int) + ((L.getD i default).y)).toNat) 0) ((L.getD i default).z + 1))), 3, false, true⟩) (eStNum (b := 2) (o := ((((L.getD i default).x) * ((Y : Nat) : Int) + ((L.getD i default).y)).toNat)) (L := M) (n := (mxI (M.getD ((((L.getD i default).x) * ((Y : Nat) : Int) + ((L.getD i default).y)).toNat) 0) ((L.getD i default).z + 1))) (e := 3) (bx := false) (by kernel_rfl) (by kernel_rfl) (by kernel_rfl) (by omega) ti3 rfl (by rfl)) rfl (by kernel_rfl) (by kernel_rfl) (by kernel_rfl) (by kernel_rfl) (nmF (flatNums _ _ _ _)) (clF (flatNums _ _ _ _))) (by kernel_rfl) (NRs.all ⟨nrOf (by rfl) (nmF (flatNums _ _ _ _)), trivial⟩) ?_
      refine segEndW [1, 3, 4] (T1 := (mkT 51 [(1, vP 1 0), (3, vS 2 (X * Y)), (4, vN i)])) (H1 := [some ⟨a3s L, 25, false, false⟩, rB [vN X, vN Y, vN Z, vS 0 L.length] 29, some ⟨nums (M.set ((((L.getD i default).x) * ((Y : Nat) : Int) + ((L.getD i default).y)).toNat) (mxI (M.getD ((((L.getD i default).x) * ((Y : Nat) : Int) + ((L.getD i default).y)).toNat) 0) ((L.getD i default).z + 1))), 3, false, true⟩]) (by kernel_rfl) ?_
      refine kBlk ?_
      refine kSeq ?_
      refine cReg ?_
      refine segH 1 (T1 := (mkT 51 [(1, vP 1 0), (3, vS 2 (X * Y)), (4, vN i), (17, vN i)])) (by kernel_rfl) ?_
      refine rOp (v := vN (i + 1)) (by kernel_rfl) (eAdd (k := .i64) (a := ((i : Nat) : Int)) (b := 1) (c := ((i + 1 : Nat) : Int)) (by kernel_rfl) (by kernel_rfl) (wr64 (by omega) (by omega) (by omega))) ?_
      refine segEndH [1, 3, 4] (T1 := (mkT 51 [(1, vP 1 0), (3, vS 2 (X * Y)), (4, vN (i + 1))])) (by kernel_rfl) ?_
      exact kLoop (L.length - (i + 1)) (mkT 51 [(1, vP 1 0), (3, vS 2 (X * Y)), (4, vN (i + 1))]) [some ⟨a3s L, 25, false, false⟩, rB [vN X, vN Y, vN Z, vS 0 L.length] 29, some ⟨nums (M.set ((((L.getD i default).x) * ((Y : Nat) : Int) + ((L.getD i default).y)).toNat) (mxI (M.getD ((((L.getD i default).x) * ((Y : Nat) : Int) + ((L.getD i default).y)).toNat) 0) ((L.getD i default).z + 1))), 3, false, true⟩] (by omega) (wkSame [1, 3, 4] (by kernel_rfl)) ⟨(i + 1), (M.set ((((L.getD i default).x) * ((Y : Nat) : Int) + ((L.getD i default).y)).toNat) (mxI (M.getD ((((L.getD i default).x) * ((Y : Nat) : Int) + ((L.getD i default).y)).toNat) 0) ((L.getD i default).z + 1))), (by omega), (topT_spec hM), rfl, rfl, rfl⟩

theorem l2TopsB (X : Nat) (Y : Nat) (Z : Nat) (L : List A3) (hs : Sides X Y Z) (hL : HeapL X Y Z L) : Sound Try.prog 91 [.agg #[vN X, vN Y, vN Z, vS 0 L.length]] [some ⟨a3s L, 25, false, false⟩] (vS 1 ((topT X Y L L.length).length)) [some ⟨a3s L, 25, false, false⟩, some ⟨nums (topT X Y L L.length), 3, false, true⟩] := by
  have h := l2TopsB0 X Y Z L hs hL; rw [topT_length]; exact h

set_option maxRecDepth 100000 in
set_option maxHeartbeats 4000000 in
theorem heightsB0 (X : Nat) (Y : Nat) (Z : Nat) (L : List A3) (hs : Sides X Y Z) (hL : HeapL X Y Z L) : Sound Try.prog 92 [.agg #[vN X, vN Y, vN Z, vS 0 L.length]] [some ⟨a3s L, 25, false, false⟩] (vS 1 (X * Y)) [some ⟨a3s L, 25, false, false⟩, some ⟨nums (topT X Y L L.length), 3, false, true⟩] := by
  refine sound_intro (C := cx) Try.func92 rfl (by kernel_rfl) fun hcl => ?_
  have hz := hs.size
  have hx0 := hs.x0
  have hx4 := hs.x4
  have hy0 := hs.y0
  have hy4 := hs.y4
  have hz0 := hs.z0
  have hz4 := hs.z4
  have hlen := hL.len
  have hlt := hL.lt64 hs
  have hsm := hL.small hs
  have hxy : X * Y ≤ 4 * 4 := Nat.mul_le_mul (by omega) (by omega)
  have htl := topT_length X Y L L.length
  refine cSeq ?_
  refine cReg ?_
  refine segEnd [1] (T1 := (mkT 37 [(1, vP 1 0)])) (H1 := [some ⟨a3s L, 25, false, false⟩, rB [vN X, vN Y, vN Z, vS 0 L.length] 29]) (by kernel_rfl) ?_
  refine kSeq ?_
  refine cSeq ?_
  refine cReg ?_
  refine segH 4 (T1 := (mkT 37 [(1, vP 1 0), (7, vP 1 0), (8, vN X), (9, vP 1 1), (10, vN Y)])) (by kernel_rfl) ?_
  refine rOp (v := vN (X * Y)) (by kernel_rfl) (eMul (k := .i64) (a := ((X : Nat) : Int)) (b := ((Y : Nat) : Int)) (c := ((X * Y : Nat) : Int)) (by kernel_rfl) (by kernel_rfl) (nMul (by omega))) ?_
  refine rOp (v := vS 2 (X * Y)) (H' := [some ⟨a3s L, 25, false, false⟩, rB [vN X, vN Y, vN Z, vS 0 L.length] 29, some ⟨nums (List.replicate (X * Y) 0), 3, false, true⟩]) (by kernel_rfl) (eMkNum (n := (X * Y)) (k := .i64) (k2 := .i64) (by kernel_rfl) (by kernel_rfl) ti51 ti3 rfl rfl (by decide) (by omega)) ?_
  refine segEnd [1, 3] (T1 := (mkT 37 [(1, vP 1 0), (3, vS 2 (X * Y))])) (H1 := [some ⟨a3s L, 25, false, false⟩, rB [vN X, vN Y, vN Z, vS 0 L.length] 29, some ⟨nums (List.replicate (X * Y) 0), 3, false, true⟩]) (by kernel_rfl) ?_
  refine kSeq ?_
  refine cSeq ?_
  refine cSeq ?_
  refine cReg ?_
  refine segEndH [1, 3, 14, 15, 16] (T1 := (mkT 37 [(1, vP 1 0), (3, vS 2 (X * Y)), (14, vS 0 L.length), (15, vN L.length), (16, vI 0)])) (by kernel_rfl) ?_
  refine kSeq ?_
  refine cBlk ?_
  -- loop
  refine cLoop (fun mm T H => ∃ i : Nat, ∃ M : List Int, (i ≤ L.length) ∧ (M = topT X Y L i) ∧ mm = L.length - i ∧ T = (mkT 37 [(1, vP 1 0), (3, vS 2 (X * Y)), (14, vS 0 L.length), (15, vN L.length), (16, vN i)]) ∧ H = [some ⟨a3s L, 25, false, false⟩, rB [vN X, vN Y, vN Z, vS 0 L.length] 29, some ⟨nums M, 3, false, true⟩]) (L.length - 0) (mkT 37 [(1, vP 1 0), (3, vS 2 (X * Y)), (14, vS 0 L.length), (15, vN L.length), (16, vI 0)]) [some ⟨a3s L, 25, false, false⟩, rB [vN X, vN Y, vN Z, vS 0 L.length] 29, some ⟨nums (List.replicate (X * Y) 0), 3, false, true⟩] (wkSame [1, 3, 14, 15, 16] (by kernel_rfl)) ?_ ?_
  · exact ⟨0, (List.replicate (X * Y) 0), (Nat.zero_le _), (rfl), rfl, rfl, rfl⟩
  · rintro _ _ _ ⟨i, M, hi, hM, rfl, rfl, rfl⟩
    have hml : M.length = X * Y := (by rw [hM]; exact topT_length X Y L i)
    refine cSeq ?_
    refine cReg ?_
    refine segEndH [1, 3, 14, 15, 16, 17] (T1 := (mkT 37 [(1, vP 1 0), (3, vS 2 (X * Y)), (14, vS 0 L.length), (15, vN L.length), (16, vN i), (17, .bool (decide (((i : Nat) : Int) < ((L.length : Nat) : Int))))])) (by kernel_rfl) ?_
    refine kSeq ?_
    refine cSeq ?_
    cases h1 : (decide (((i : Nat) : Int) < ((L.length : Nat) : Int)) : Bool)
    ·
      (try simp only [Bool.not_eq_true', Bool.not_eq_false', decide_eq_true_eq, decide_eq_false_iff_not, beq_iff_eq, bne_iff_ne, beq_eq_false_iff_ne, bne_eq_false_iff_eq, ne_eq, Decidable.not_not, Bool.and_eq_true, Bool.and_eq_false_imp, Bool.or_eq_true, Bool.or_eq_false_iff, Bool.not_eq_true, Int.not_lt, Int.not_le, ge_iff_le, gt_iff_lt] at h1)
      refine cFalse (by kernel_rfl) ?_
      refine cExit ?_
      refine kSeqE ?_
      refine kLoopE ?_
      refine kBlkHit ?_
      refine kSeq ?_
      refine cSeq ?_
      refine cReg ?_
      refine segEndH [2] (T1 := (mkT 37 [(2, vS 2 (X * Y))])) (by kernel_rfl) ?_
      refine kSeq ?_
      refine cRet ?_
      -- end
      have he0 : (M : List Int) = (topT X Y L L.length) := by first | omega | (rw [hM, show i = L.length by omega])
      refine endCast (v1 := vS 1 (X * Y)) (H1 := [some ⟨a3s L, 25, false, false⟩, some ⟨nums M, 3, false, true⟩]) (by first | rfl | ((try rw [← he0]); done) | (simp only [← he0]; done)) (by first | rfl | ((try rw [← he0]); done) | (simp only [← he0]; done)) ?_
      exact endF (Or.inr rfl) (l := [vS 2 (X * Y)]) [0, 2] (by kernel_rfl) (by first | rfl | simp [packR, mpV, mpA, mpS, mpP, renId]) ⟨rrF (flatA3 _ _ _ _) rfl, ⟨rrF (flatNums _ _ _ _) rfl, trivial⟩⟩ rfl rfl
    ·
      (try simp only [Bool.not_eq_true', Bool.not_eq_false', decide_eq_true_eq, decide_eq_false_iff_not, beq_iff_eq, bne_iff_ne, beq_eq_false_iff_ne, bne_eq_false_iff_eq, ne_eq, Decidable.not_not, Bool.and_eq_true, Bool.and_eq_false_imp, Bool.or_eq_true, Bool.or_eq_false_iff, Bool.not_eq_true, Int.not_lt, Int.not_le, ge_iff_le, gt_iff_lt] at h1)
      have hhas := hL.has hs (i := i) (by omega)
      have hfl := flat_lt hhas
      have hh3 := has3_iff.1 hhas
      refine cTrue (by kernel_rfl) ?_
      refine cSkip ?_
      refine kSeq ?_
      refine cSeq ?_
      refine cBlk ?_
      refine cSeq ?_
      refine cReg ?_
      refine rOp (v := vP 0 (i * 3)) (by kernel_rfl) (eIdxS (ad := ⟨0, 0, none⟩) (n := L.length) (m := 0) (k := .i64) (c := ((i : Nat) : Int)) (j := i) (o := i * 3) (by kernel_rfl) (by kernel_rfl) ti22 ti25 (rfl) (by omega) (by exact Nat.zero_add _)) ?_
      refine rOp (v := .agg #[vI ((L.getD i default).x), vI ((L.getD i default).y), vI ((L.getD i default).z)]) (by kernel_rfl) (eLdA3 (ad := ⟨0, i * 3, none⟩) (r := ⟨a3s L, 25, false, false⟩) (L := L) (j := i) (by kernel_rfl) (by kernel_rfl) rfl (by first | rfl | omega) (by omega) ti25) ?_
      refine segEnd [1, 3, 5, 14, 15, 16] (T1 := (mkT 37 [(1, vP 1 0), (3, vS 2 (X * Y)), (5, vP 3 0), (14, vS 0 L.length), (15, vN L.length), (16, vN i)])) (H1 := [some ⟨a3s L, 25, false, false⟩, rB [vN X, vN Y, vN Z, vS 0 L.length] 29, some ⟨nums M, 3, false, true⟩, rB [vI ((L.getD i default).x), vI ((L.getD i default).y), vI ((L.getD i default).z)] 25]) (by kernel_rfl) ?_
      refine kSeq ?_
      refine cSeq ?_
      refine cRegW (N := 4) [⟨[], [], [1]⟩, ⟨[], [], [0]⟩, ⟨[], [], [3]⟩, ⟨[], [], []⟩, ⟨[], [], []⟩] 0 [] (by rfl) (by rfl) (by kernel_rfl) (by kernel_rfl) (by kernel_rfl) ⟨nmsF (flatA3 _ _ _ _), ⟨nmsX (by kernel_rfl), ⟨nmsF (flatNums _ _ _ _), ⟨nmsX (by kernel_rfl), trivial⟩⟩⟩⟩ ?_
      refine segWH 1 (T1 := (mkT 37 [(1, vP 1 0), (3, vS 2 (X * Y)), (5, vP 3 0), (14, vS 0 L.length), (15, vN L.length), (16, vN i), (20, .agg #[vN X, vN Y, vN Z, vS 0 L.length])])) (by kernel_rfl) ?_
      refine rW (m := ⟨[], [], [0]⟩) (v := .agg #[vN X, vN Y, vN Z]) rfl (by kernel_rfl) (stQ (args := [.agg #[vN X, vN Y, vN Z, vS 0 L.length]]) rfl (by kernel_rfl) (Any.lay0 [0] (boxB ((X : Nat) : Int) ((Y : Nat) : Int) ((Z : Nat) : Int) L) ⟨rdF false (flatA3 _ _ _ _) rfl rfl, trivial⟩ rfl ⟨clF (flatA3 _ _ _ _), trivial⟩ rfl (by first | rfl | simp [mpV, mpA, mpS, mpP, renId, shift]) (by first | rfl | simp [mpV, mpA, mpS, mpP, renId, shift])) rfl (by kernel_rfl) (by kernel_rfl)) (by kernel_rfl) nr0 ?_
      refine segWH 1 (T1 := (mkT 37 [(1, vP 1 0), (3, vS 2 (X * Y)), (5, vP 3 0), (14, vS 0 L.length), (15, vN L.length), (16, vN i), (20, .agg #[vN X, vN Y, vN Z, vS 0 L.length]), (21, .agg #[vN X, vN Y, vN Z]), (22, .agg #[vI ((L.getD i default).x), vI ((L.getD i default).y), vI ((L.getD i default).z)])])) (by kernel_rfl) ?_
      refine rW (m := ⟨[], [], []⟩) (v := vI (((L.getD i default).x) * (Y : Int) + ((L.getD i default).y))) rfl (by kernel_rfl) (stQ (args := [.agg #[vN X, vN Y, vN Z], .agg #[vI ((L.getD i default).x), vI ((L.getD i default).y), vI ((L.getD i default).z)], vI 2]) rfl (by kernel_rfl) (Any.lay0 [] (line2 X Y Z ((L.getD i default).x) ((L.getD i default).y) ((L.getD i default).z) (by first | assumption | omega | rfl | decide | exact HeapL.list _ _ _ _ | exact HeapL.nil _ _ _ | exact HeapL.all _ _ _ | (apply HeapL.lt64 <;> assumption) | (repeat' (first | assumption | apply or_lt64 | apply and_lt64 | apply andn_lt64 | apply pow_lt64 | (apply HeapL.lt64 <;> assumption)))) (by first | assumption | exact hhas)) trivial rfl trivial rfl (by first | rfl | simp [mpV, mpA, mpS, mpP, renId, shift]) rfl) rfl (by kernel_rfl) (by kernel_rfl)) (by kernel_rfl) nr0 ?_
      refine segEndWH [1, 3, 5, 6, 14, 15, 16] (T1 := (mkT 37 [(1, vP 1 0), (3, vS 2 (X * Y)), (5, vP 3 0), (6, vI (((L.getD i default).x) * (Y : Int) + ((L.getD i default).y))), (14, vS 0 L.length), (15, vN L.length), (16, vN i)])) (by kernel_rfl) ?_
      refine kSeq ?_
      refine cRegW (N := 4) [⟨[], [], []⟩, ⟨[], [], []⟩, ⟨[], [], []⟩, ⟨[], [], []⟩, ⟨[], [], []⟩, ⟨[], [], [2]⟩, ⟨[], [], []⟩, ⟨[], [], [3]⟩, ⟨[], [], []⟩, ⟨[], [], []⟩, ⟨[], [], []⟩, ⟨[], [2], []⟩] 0 [] (by rfl) (by rfl) (by kernel_rfl) (by kernel_rfl) (by kernel_rfl) ⟨nmsF (flatA3 _ _ _ _), ⟨nmsX (by kernel_rfl), ⟨nmsF (flatNums _ _ _ _), ⟨nmsX (by kernel_rfl), trivial⟩⟩⟩⟩ ?_
      refine segWH 4 (T1 := (mkT 37 [(1, vP 1 0), (3, vS 2 (X * Y)), (5, vP 3 0), (6, vI (((L.getD i default).x) * (Y : Int) + ((L.getD i default).y))), (14, vS 0 L.length), (15, vN L.length), (16, vN i), (24, vS 2 (X * Y)), (25, vI (((L.getD i default).x) * (Y : Int) + ((L.getD i default).y))), (26, vS 2 (X * Y)), (27, vI (((L.getD i default).x) * (Y : Int) + ((L.getD i default).y)))])) (by kernel_rfl) ?_
      refine rW (m := ⟨[], [], []⟩) (v := vP 2 ((((L.getD i default).x) * (Y : Int) + ((L.getD i default).y)).toNat)) rfl (by kernel_rfl) (stId (eIdxS (ad := ⟨2, 0, none⟩) (n := (X * Y)) (m := 0) (k := .i64) (c := (((L.getD i default).x) * (Y : Int) + ((L.getD i default).y))) (j := ((((L.getD i default).x) * (Y : Int) + ((L.getD i default).y)).toNat)) (o := (((L.getD i default).x) * (Y : Int) + ((L.getD i default).y)).toNat) (by kernel_rfl) (by kernel_rfl) ti51 ti3 (by omega) (by omega) (by simp)) rfl (by kernel_rfl) (by kernel_rfl) (by kernel_rfl)) (by kernel_rfl) nr0 ?_
      refine rW (m := ⟨[], [], [2]⟩) (v := vI (M.getD ((((L.getD i default).x) * (Y : Int) + ((L.getD i default).y)).toNat) 0)) rfl (by kernel_rfl) (stId (eLdNum (ad := ⟨2, (((L.getD i default).x) * (Y : Int) + ((L.getD i default).y)).toNat, none⟩) (r := ⟨nums M, 3, false, true⟩) (L := M) (j := ((((L.getD i default).x) * (Y : Int) + ((L.getD i default).y)).toNat)) (by kernel_rfl) (by kernel_rfl) rfl (by first | rfl | omega) (by omega) ti3 rfl) rfl (by kernel_rfl) (by kernel_rfl) (by kernel_rfl)) (by kernel_rfl) nr0 ?_
      refine segWH 2 (T1 := (mkT 37 [(1, vP 1 0), (3, vS 2 (X * Y)), (5, vP 3 0), (6, vI (((L.getD i default).x) * (Y : Int) + ((L.getD i default).y))), (14, vS 0 L.length), (15, vN L.length), (16, vN i), (24, vS 2 (X * Y)), (25, vI (((L.getD i default).x) * (Y : Int) + ((L.getD i default).y))), (26, vS 2 (X * Y)), (27, vI (((L.getD i default).x) * (Y : Int) + ((L.getD i default).y))), (28, vP 2 ((((L.getD i default).x) * (Y : Int) + ((L.getD i default).y)).toNat)), (29, vI (M.getD ((((L.getD i default).x) * (Y : Int) + ((L.getD i default).y)).toNat) 0)), (30, vP 3 2), (31, vI ((L.getD i default).z))])) (by kernel_rfl) ?_
      refine rW (m := ⟨[], [], []⟩) (v := vI ((L.getD i default).z + 1)) rfl (by kernel_rfl) (stId (eAdd (k := .i64) (a := ((L.getD i default).z)) (b := 1) (c := ((L.getD i default).z + 1)) (by kernel_rfl) (by kernel_rfl) (wr64 (by omega) (by omega) (by omega))) rfl (by kernel_rfl) (by kernel_rfl) (by kernel_rfl)) (by kernel_rfl) nr0 ?_
      refine segWH 1 (T1 := (mkT 37 [(1, vP 1 0), (3, vS 2 (X * Y)), (5, vP 3 0), (6, vI (((L.getD i default).x) * (Y : Int) + ((L.getD i default).y))), (14, vS 0 L.length), (15, vN L.length), (16, vN i), (24, vS 2 (X * Y)), (25, vI (((L.getD i default).x) * (Y : Int) + ((L.getD i default).y))), (26, vS 2 (X * Y)), (27, vI (((L.getD i default).x) * (Y : Int) + ((L.getD i default).y))), (28, vP 2 ((((L.getD i default).x) * (Y : Int) + ((L.getD i default).y)).toNat)), (29, vI (M.getD ((((L.getD i default).x) * (Y : Int) + ((L.getD i default).y)).toNat) 0)), (30, vP 3 2), (31, vI ((L.getD i default).z)), (32, vI ((L.getD i default).z + 1)), (33, vI (if (M.getD ((((L.getD i default).x) * (Y : Int) + ((L.getD i default).y)).toNat) 0) < (L.getD i default).z + 1 then (L.getD i default).z + 1 else (M.getD ((((L.getD i default).x) * (Y : Int) + ((L.getD i default).y)).toNat) 0)))])) (by kernel_rfl) ?_
      refine rW (m := ⟨[], [], []⟩) (v := vP 2 ((((L.getD i default).x) * (Y : Int) + ((L.getD i default).y)).toNat)) rfl (by kernel_rfl) (stId (eIdxS (ad := ⟨2, 0, none⟩) (n := (X * Y)) (m := 0) (k := .i64) (c := (((L.getD i default).x) * (Y : Int) + ((L.getD i default).y))) (j := ((((L.getD i default).x) * (Y : Int) + ((L.getD i default).y)).toNat)) (o := (((L.getD i default).x) * (Y : Int) + ((L.getD i default).y)).toNat) (by kernel_rfl) (by kernel_rfl) ti51 ti3 (by omega) (by omega) (by simp)) rfl (by kernel_rfl) (by kernel_rfl) (by kernel_rfl)) (by kernel_rfl) nr0 ?_
      refine rW (m := ⟨[], [2], []⟩) (v := .tuple #[]) rfl (by kernel_rfl) (stSet (b := 2) (r := ⟨nums (M.set ((((L.getD i default).x) * (Y : Int) + ((L.getD i default).y)).toNat) (if (M.getD ((((L.getD i default).x) * (Y : Int) + ((L.getD i default).y)).toNat) 0) < (L.getD i default).z + 1 then (L.getD i default).z + 1 else (M.getD ((((L.getD i default).x) * (Y : Int) + ((L.getD i default).y)).toNat) 0))), 3, false, true⟩) (eStNum (b := 2) (o := ((((L.getD i default).x) * (Y : Int) + ((L.getD i default).y)).toNat)) (L := M) (n := (if (M.getD ((((L.getD i default).x) * (Y : Int) + ((L.getD i default).y)).toNat) 0) < (L.getD i default).z + 1 then (L.getD i default).z + 1 else (M.getD ((((L.getD i default).x) * (Y : Int) + ((L.getD i default).y)).toNat) 0))) (e := 3) (bx := false) (by kernel_rfl) (by kernel_rfl) (by kernel_rfl) (by omega) ti3 rfl (by rfl)) rfl (by kernel_rfl) (by kernel_rfl) (by kernel_rfl) (by kernel_rfl) (nmF (flatNums _ _ _ _)) (clF (flatNums _ _ _ _))) (by kernel_rfl) (NRs.all ⟨nrOf (by rfl) (nmF (flatNums _ _ _ _)), trivial⟩) ?_
      refine segEndW [1, 3, 14, 15, 16] (T1 := (mkT 37 [(1, vP 1 0), (3, vS 2 (X * Y)), (14, vS 0 L.length), (15, vN L.length), (16, vN i)])) (H1 := [some ⟨a3s L, 25, false, false⟩, rB [vN X, vN Y, vN Z, vS 0 L.length] 29, some ⟨nums (M.set ((((L.getD i default).x) * (Y : Int) + ((L.getD i default).y)).toNat) (if (M.getD ((((L.getD i default).x) * (Y : Int) + ((L.getD i default).y)).toNat) 0) < (L.getD i default).z + 1 then (L.getD i default).z + 1 else (M.getD ((((L.getD i default).x) * (Y : Int) + ((L.getD i default).y)).toNat) 0))), 3, false, true⟩, rB [vI ((L.getD i default).x), vI ((L.getD i default).y), vI ((L.getD i default).z)] 25]) (by kernel_rfl) ?_
      refine kBlk ?_
      refine kSeq ?_
      refine cReg ?_
      refine rOp (v := vN (i + 1)) (by kernel_rfl) (eAdd (k := .i64) (a := ((i : Nat) : Int)) (b := 1) (c := ((i + 1 : Nat) : Int)) (by kernel_rfl) (by kernel_rfl) (wr64 (by omega) (by omega) (by omega))) ?_
      refine segEndH [1, 3, 14, 15, 16] (T1 := (mkT 37 [(1, vP 1 0), (3, vS 2 (X * Y)), (14, vS 0 L.length), (15, vN L.length), (16, vN (i + 1))])) (by kernel_rfl) ?_
      exact kLoop (L.length - (i + 1)) (mkT 37 [(1, vP 1 0), (3, vS 2 (X * Y)), (14, vS 0 L.length), (15, vN L.length), (16, vN (i + 1))]) [some ⟨a3s L, 25, false, false⟩, rB [vN X, vN Y, vN Z, vS 0 L.length] 29, some ⟨nums (M.set ((((L.getD i default).x) * (Y : Int) + ((L.getD i default).y)).toNat) (if (M.getD ((((L.getD i default).x) * (Y : Int) + ((L.getD i default).y)).toNat) 0) < (L.getD i default).z + 1 then (L.getD i default).z + 1 else (M.getD ((((L.getD i default).x) * (Y : Int) + ((L.getD i default).y)).toNat) 0))), 3, false, true⟩] (by omega) (wkDrop [1, 3, 14, 15, 16] _ rfl rfl ((closedL ⟨clF (flatA3 _ _ _ _), ⟨clX rfl, ⟨clF (flatNums _ _ _ _), trivial⟩⟩⟩)) (by kernel_rfl) rfl) ⟨(i + 1), (M.set ((((L.getD i default).x) * (Y : Int) + ((L.getD i default).y)).toNat) (if (M.getD ((((L.getD i default).x) * (Y : Int) + ((L.getD i default).y)).toNat) 0) < (L.getD i default).z + 1 then (L.getD i default).z + 1 else (M.getD ((((L.getD i default).x) * (Y : Int) + ((L.getD i default).y)).toNat) 0))), (by omega), (topT_impl hM), rfl, rfl, rfl⟩

theorem heightsB (X : Nat) (Y : Nat) (Z : Nat) (L : List A3) (hs : Sides X Y Z) (hL : HeapL X Y Z L) : Sound Try.prog 92 [.agg #[vN X, vN Y, vN Z, vS 0 L.length]] [some ⟨a3s L, 25, false, false⟩] (vS 1 ((topT X Y L L.length).length)) [some ⟨a3s L, 25, false, false⟩, some ⟨nums (topT X Y L L.length), 3, false, true⟩] := by
  have h := heightsB0 X Y Z L hs hL; rw [topT_length]; exact h

set_option maxRecDepth 100000 in
set_option maxHeartbeats 4000000 in
theorem specTop_no (x : Int) (y : Int) (z : Int) (L : List A3) (hl : L.length ≤ 1048576) (hv : isHeapB x y z L = false) : Sound Try.prog 46 [.agg #[vI x, vI y, vI z, vS 0 L.length]] [some ⟨a3s L, 25, false, false⟩] (.tuple #[vS 1 0, .bool false]) [some ⟨a3s L, 25, false, false⟩, some ⟨[], 3, false, true⟩] := by
  refine sound_intro (C := cx) Try.func46 rfl (by kernel_rfl) fun hcl => ?_
  refine cSeq ?_
  refine cReg ?_
  refine segEnd [1] (T1 := (mkT 10 [(1, vP 1 0)])) (H1 := [some ⟨a3s L, 25, false, false⟩, rB [vI x, vI y, vI z, vS 0 L.length] 29]) (by kernel_rfl) ?_
  refine kSeq ?_
  refine cSeq ?_
  refine cSeq ?_
  refine cReg ?_
  refine segH 1 (T1 := (mkT 10 [(1, vP 1 0), (4, .agg #[vI x, vI y, vI z, vS 0 L.length])])) (by kernel_rfl) ?_
  refine rCall (v := .bool false) (args := [.agg #[vI x, vI y, vI z, vS 0 L.length]]) (by kernel_rfl) rfl (by kernel_rfl) (Sound.lay0 [0] (l2HeapB_no x y z L (by first | assumption | omega | rfl | decide | exact HeapL.list _ _ _ _ | exact HeapL.nil _ _ _ | exact HeapL.all _ _ _ | (apply HeapL.lt64 <;> assumption) | (repeat' (first | assumption | apply or_lt64 | apply and_lt64 | apply andn_lt64 | apply pow_lt64 | (apply HeapL.lt64 <;> assumption)))) (by first | assumption | omega | rfl | decide | exact HeapL.list _ _ _ _ | exact HeapL.nil _ _ _ | exact HeapL.all _ _ _ | (apply HeapL.lt64 <;> assumption) | (repeat' (first | assumption | apply or_lt64 | apply and_lt64 | apply andn_lt64 | apply pow_lt64 | (apply HeapL.lt64 <;> assumption))))) ⟨rdF false (flatA3 _ _ _ _) rfl rfl, trivial⟩ rfl ⟨clF (flatA3 _ _ _ _), trivial⟩ rfl (by first | rfl | simp [mpV, mpA, mpS, mpP, renId, shift]) rfl) ?_
  refine segEndH [1, 6] (T1 := (mkT 10 [(1, vP 1 0), (6, .bool true)])) (by kernel_rfl) ?_
  refine kSeq ?_
  refine cTrue (by kernel_rfl) ?_
  refine cSeq ?_
  refine cReg ?_
  refine segEnd [2, 3] (T1 := (mkT 10 [(2, vS 2 0), (3, .bool false)])) (H1 := [some ⟨a3s L, 25, false, false⟩, rB [vI x, vI y, vI z, vS 0 L.length] 29, some ⟨[], 3, false, true⟩]) (by kernel_rfl) ?_
  refine kSeq ?_
  refine cRet ?_
  refine kSeqR ?_
  -- end
  exact endF (Or.inr rfl) (l := [vS 2 0, .bool false]) [0, 2] (by kernel_rfl) (by first | rfl | simp [packR, mpV, mpA, mpS, mpP, renId]) ⟨rrF (flatA3 _ _ _ _) rfl, ⟨rrX rfl rfl, trivial⟩⟩ rfl rfl

set_option maxRecDepth 100000 in
set_option maxHeartbeats 4000000 in
theorem implTop_no (x : Int) (y : Int) (z : Int) (L : List A3) (hl : L.length ≤ 1048576) (hv : isHeapB x y z L = false) : Sound Try.prog 47 [.agg #[vI x, vI y, vI z, vS 0 L.length]] [some ⟨a3s L, 25, false, false⟩] (.tuple #[.slice none 0 0, .bool false]) [some ⟨a3s L, 25, false, false⟩] := by
  refine sound_intro (C := cx) Try.func47 rfl (by kernel_rfl) fun hcl => ?_
  refine cSeq ?_
  refine cReg ?_
  refine segEnd [1] (T1 := (mkT 9 [(1, vP 1 0)])) (H1 := [some ⟨a3s L, 25, false, false⟩, rB [vI x, vI y, vI z, vS 0 L.length] 29]) (by kernel_rfl) ?_
  refine kSeq ?_
  refine cSeq ?_
  refine cSeq ?_
  refine cReg ?_
  refine segH 1 (T1 := (mkT 9 [(1, vP 1 0), (4, .agg #[vI x, vI y, vI z, vS 0 L.length])])) (by kernel_rfl) ?_
  refine rCall (v := .bool false) (args := [.agg #[vI x, vI y, vI z, vS 0 L.length]]) (by kernel_rfl) rfl (by kernel_rfl) (Sound.lay0 [0] (isHeapBt_no x y z L (by first | assumption | omega | rfl | decide | exact HeapL.list _ _ _ _ | exact HeapL.nil _ _ _ | exact HeapL.all _ _ _ | (apply HeapL.lt64 <;> assumption) | (repeat' (first | assumption | apply or_lt64 | apply and_lt64 | apply andn_lt64 | apply pow_lt64 | (apply HeapL.lt64 <;> assumption)))) (by first | assumption | omega | rfl | decide | exact HeapL.list _ _ _ _ | exact HeapL.nil _ _ _ | exact HeapL.all _ _ _ | (apply HeapL.lt64 <;> assumption) | (repeat' (first | assumption | apply or_lt64 | apply and_lt64 | apply andn_lt64 | apply pow_lt64 | (apply HeapL.lt64 <;> assumption))))) ⟨rdF false (flatA3 _ _ _ _) rfl rfl, trivial⟩ rfl ⟨clF (flatA3 _ _ _ _), trivial⟩ rfl (by first | rfl | simp [mpV, mpA, mpS, mpP, renId, shift]) rfl) ?_
  refine segEndH [1, 6] (T1 := (mkT 9 [(1, vP 1 0), (6, .bool true)])) (by kernel_rfl) ?_
  refine kSeq ?_
  refine cTrue (by kernel_rfl) ?_
  refine cSeq ?_
  refine cReg ?_
  refine segEndH [2, 3] (T1 := (mkT 9 [(2, .slice none 0 0), (3, .bool false)])) (by kernel_rfl) ?_
  refine kSeq ?_
  refine cRet ?_
  refine kSeqR ?_
  -- end
  exact endQ (Or.inr rfl) (l := [.slice none 0 0, .bool false]) [rB [vI x, vI y, vI z, vS 0 L.length] 29] (by kernel_rfl) (by first | rfl | kernel_rfl) rfl rfl hcl rfl

set_option maxRecDepth 100000 in
set_option maxHeartbeats 4000000 in
theorem specTop_yes (X : Nat) (Y : Nat) (Z : Nat) (L : List A3) (hs : Sides X Y Z) (hL : HeapL X Y Z L) : Sound Try.prog 46 [.agg #[vN X, vN Y, vN Z, vS 0 L.length]] [some ⟨a3s L, 25, false, false⟩] (.tuple #[vS 1 ((topT X Y L L.length).length), .bool true]) [some ⟨a3s L, 25, false, false⟩, some ⟨nums (topT X Y L L.length), 3, false, true⟩] := by
  refine sound_intro (C := cx) Try.func46 rfl (by kernel_rfl) fun hcl => ?_
  have hz := hs.size
  have hx0 := hs.x0
  have hx4 := hs.x4
  have hy0 := hs.y0
  have hy4 := hs.y4
  have hz0 := hs.z0
  have hz4 := hs.z4
  have hlen := hL.len
  have hlt := hL.lt64 hs
  have hxy : X * Y ≤ 4 * 4 := Nat.mul_le_mul (by omega) (by omega)
  refine cSeq ?_
  refine cReg ?_
  refine segEnd [1] (T1 := (mkT 10 [(1, vP 1 0)])) (H1 := [some ⟨a3s L, 25, false, false⟩, rB [vN X, vN Y, vN Z, vS 0 L.length] 29]) (by kernel_rfl) ?_
  refine kSeq ?_
  refine cSeq ?_
  refine cSeq ?_
  refine cReg ?_
  refine segH 1 (T1 := (mkT 10 [(1, vP 1 0), (4, .agg #[vN X, vN Y, vN Z, vS 0 L.length])])) (by kernel_rfl) ?_
  refine rCall (v := .bool true) (args := [.agg #[vN X, vN Y, vN Z, vS 0 L.length]]) (by kernel_rfl) rfl (by kernel_rfl) (Sound.lay0 [0] (l2HeapB X Y Z L (by first | assumption | omega | rfl | decide | exact HeapL.list _ _ _ _ | exact HeapL.nil _ _ _ | exact HeapL.all _ _ _ | (apply HeapL.lt64 <;> assumption) | (repeat' (first | assumption | apply or_lt64 | apply and_lt64 | apply andn_lt64 | apply pow_lt64 | (apply HeapL.lt64 <;> assumption)))) (by first | assumption | omega | rfl | decide | exact HeapL.list _ _ _ _ | exact HeapL.nil _ _ _ | exact HeapL.all _ _ _ | (apply HeapL.lt64 <;> assumption) | (repeat' (first | assumption | apply or_lt64 | apply and_lt64 | apply andn_lt64 | apply pow_lt64 | (apply HeapL.lt64 <;> assumption))))) ⟨rdF false (flatA3 _ _ _ _) rfl rfl, trivial⟩ rfl ⟨clF (flatA3 _ _ _ _), trivial⟩ rfl (by first | rfl | simp [mpV, mpA, mpS, mpP, renId, shift]) rfl) ?_
  refine segEndH [1, 6] (T1 := (mkT 10 [(1, vP 1 0), (6, .bool false)])) (by kernel_rfl) ?_
  refine kSeq ?_
  refine cFalse (by kernel_rfl) ?_
  refine cSkip ?_
  refine kSeq ?_
  refine cSeq ?_
  refine cReg ?_
  refine segH 1 (T1 := (mkT 10 [(1, vP 1 0), (6, .bool false), (8, .agg #[vN X, vN Y, vN Z, vS 0 L.length])])) (by kernel_rfl) ?_
  refine rCall (v := vS 2 ((topT X Y L L.length).length)) (args := [.agg #[vN X, vN Y, vN Z, vS 0 L.length]]) (by kernel_rfl) rfl (by kernel_rfl) (Sound.lay (E := [some ⟨nums (topT X Y L L.length), 3, false, true⟩]) [0] (l2TopsB X Y Z L (by first | assumption | omega | rfl | decide | exact HeapL.list _ _ _ _ | exact HeapL.nil _ _ _ | exact HeapL.all _ _ _ | (apply HeapL.lt64 <;> assumption) | (repeat' (first | assumption | apply or_lt64 | apply and_lt64 | apply andn_lt64 | apply pow_lt64 | (apply HeapL.lt64 <;> assumption)))) (by first | assumption | omega | rfl | decide | exact HeapL.list _ _ _ _ | exact HeapL.nil _ _ _ | exact HeapL.all _ _ _ | (apply HeapL.lt64 <;> assumption) | (repeat' (first | assumption | apply or_lt64 | apply and_lt64 | apply andn_lt64 | apply pow_lt64 | (apply HeapL.lt64 <;> assumption))))) ⟨rdF false (flatA3 _ _ _ _) rfl rfl, trivial⟩ rfl ⟨clF (flatA3 _ _ _ _), trivial⟩ rfl (by first | rfl | simp [mpV, mpA, mpS, mpP, renId, shift]) rfl ⟨enF (flatNums _ _ _ _) (Or.inl rfl), trivial⟩) ?_
  refine segEnd [2, 3] (T1 := (mkT 10 [(2, vS 2 ((topT X Y L L.length).length)), (3, .bool true)])) (H1 := [some ⟨a3s L, 25, false, false⟩, rB [vN X, vN Y, vN Z, vS 0 L.length] 29, some ⟨nums (topT X Y L L.length), 3, false, true⟩]) (by kernel_rfl) ?_
  refine kSeq ?_
  refine cRet ?_
  -- end
  exact endF (Or.inr rfl) (l := [vS 2 ((topT X Y L L.length).length), .bool true]) [0, 2] (by kernel_rfl) (by first | rfl | simp [packR, mpV, mpA, mpS, mpP, renId]) ⟨rrF (flatA3 _ _ _ _) rfl, ⟨rrF (flatNums _ _ _ _) rfl, trivial⟩⟩ rfl rfl

set_option maxRecDepth 100000 in
set_option maxHeartbeats 4000000 in
theorem implTop_yes (X : Nat) (Y : Nat) (Z : Nat) (L : List A3) (hs : Sides X Y Z) (hL : HeapL X Y Z L) : Sound Try.prog 47 [.agg #[vN X, vN Y, vN Z, vS 0 L.length]] [some ⟨a3s L, 25, false, false⟩] (.tuple #[vS 1 ((topT X Y L L.length).length), .bool true]) [some ⟨a3s L, 25, false, false⟩, some ⟨nums (topT X Y L L.length), 3, false, true⟩] := by
  refine sound_intro (C := cx) Try.func47 rfl (by kernel_rfl) fun hcl => ?_
  have hz := hs.size
  have hx0 := hs.x0
  have hx4 := hs.x4
  have hy0 := hs.y0
  have hy4 := hs.y4
  have hz0 := hs.z0
  have hz4 := hs.z4
  have hlen := hL.len
  have hlt := hL.lt64 hs
  have hxy : X * Y ≤ 4 * 4 := Nat.mul_le_mul (by omega) (by omega)
  refine cSeq ?_
  refine cReg ?_
  refine segEnd [1] (T1 := (mkT 9 [(1, vP 1 0)])) (H1 := [some ⟨a3s L, 25, false, false⟩, rB [vN X, vN Y, vN Z, vS 0 L.length] 29]) (by kernel_rfl) ?_
  refine kSeq ?_
  refine cSeq ?_
  refine cSeq ?_
  refine cReg ?_
  refine segH 1 (T1 := (mkT 9 [(1, vP 1 0), (4, .agg #[vN X, vN Y, vN Z, vS 0 L.length])])) (by kernel_rfl) ?_
  refine rCall (v := .bool true) (args := [.agg #[vN X, vN Y, vN Z, vS 0 L.length]]) (by kernel_rfl) rfl (by kernel_rfl) (Sound.lay0 [0] (isHeapBt X Y Z L (by first | assumption | omega | rfl | decide | exact HeapL.list _ _ _ _ | exact HeapL.nil _ _ _ | exact HeapL.all _ _ _ | (apply HeapL.lt64 <;> assumption) | (repeat' (first | assumption | apply or_lt64 | apply and_lt64 | apply andn_lt64 | apply pow_lt64 | (apply HeapL.lt64 <;> assumption)))) (by first | assumption | omega | rfl | decide | exact HeapL.list _ _ _ _ | exact HeapL.nil _ _ _ | exact HeapL.all _ _ _ | (apply HeapL.lt64 <;> assumption) | (repeat' (first | assumption | apply or_lt64 | apply and_lt64 | apply andn_lt64 | apply pow_lt64 | (apply HeapL.lt64 <;> assumption))))) ⟨rdF false (flatA3 _ _ _ _) rfl rfl, trivial⟩ rfl ⟨clF (flatA3 _ _ _ _), trivial⟩ rfl (by first | rfl | simp [mpV, mpA, mpS, mpP, renId, shift]) rfl) ?_
  refine segEndH [1, 6] (T1 := (mkT 9 [(1, vP 1 0), (6, .bool false)])) (by kernel_rfl) ?_
  refine kSeq ?_
  refine cFalse (by kernel_rfl) ?_
  refine cSkip ?_
  refine kSeq ?_
  refine cSeq ?_
  refine cReg ?_
  refine segH 1 (T1 := (mkT 9 [(1, vP 1 0), (6, .bool false), (7, .agg #[vN X, vN Y, vN Z, vS 0 L.length])])) (by kernel_rfl) ?_
  refine rCall (v := vS 2 ((topT X Y L L.length).length)) (args := [.agg #[vN X, vN Y, vN Z, vS 0 L.length]]) (by kernel_rfl) rfl (by kernel_rfl) (Sound.lay (E := [some ⟨nums (topT X Y L L.length), 3, false, true⟩]) [0] (heightsB X Y Z L (by first | assumption | omega | rfl | decide | exact HeapL.list _ _ _ _ | exact HeapL.nil _ _ _ | exact HeapL.all _ _ _ | (apply HeapL.lt64 <;> assumption) | (repeat' (first | assumption | apply or_lt64 | apply and_lt64 | apply andn_lt64 | apply pow_lt64 | (apply HeapL.lt64 <;> assumption)))) (by first | assumption | omega | rfl | decide | exact HeapL.list _ _ _ _ | exact HeapL.nil _ _ _ | exact HeapL.all _ _ _ | (apply HeapL.lt64 <;> assumption) | (repeat' (first | assumption | apply or_lt64 | apply and_lt64 | apply andn_lt64 | apply pow_lt64 | (apply HeapL.lt64 <;> assumption))))) ⟨rdF false (flatA3 _ _ _ _) rfl rfl, trivial⟩ rfl ⟨clF (flatA3 _ _ _ _), trivial⟩ rfl (by first | rfl | simp [mpV, mpA, mpS, mpP, renId, shift]) rfl ⟨enF (flatNums _ _ _ _) (Or.inl rfl), trivial⟩) ?_
  refine segEnd [2, 3] (T1 := (mkT 9 [(2, vS 2 ((topT X Y L L.length).length)), (3, .bool true)])) (H1 := [some ⟨a3s L, 25, false, false⟩, rB [vN X, vN Y, vN Z, vS 0 L.length] 29, some ⟨nums (topT X Y L L.length), 3, false, true⟩]) (by kernel_rfl) ?_
  refine kSeq ?_
  refine cRet ?_
  -- end
  exact endF (Or.inr rfl) (l := [vS 2 ((topT X Y L L.length).length), .bool true]) [0, 2] (by kernel_rfl) (by first | rfl | simp [packR, mpV, mpA, mpS, mpP, renId]) ⟨rrF (flatA3 _ _ _ _) rfl, ⟨rrF (flatNums _ _ _ _) rfl, trivial⟩⟩ rfl rfl

set_option maxRecDepth 100000 in
set_option maxHeartbeats 4000000 in
theorem eqI_NE   : Sound Try.prog 48 [.slice none 0 0, vS 0 0] [some ⟨[], 3, false, false⟩] (.bool true) [some ⟨[], 3, false, false⟩] := by
  refine sound_intro (C := cx) Try.func48 rfl (by kernel_rfl) fun hcl => ?_
  refine cSeq ?_
  refine cReg ?_
  refine segEndH [0, 1] (T1 := (mkT 26 [(0, .slice none 0 0), (1, vS 0 0)])) (by kernel_rfl) ?_
  refine kSeq ?_
  refine cSeq ?_
  refine cSeq ?_
  refine cReg ?_
  refine segEndH [0, 1, 10] (T1 := (mkT 26 [(0, .slice none 0 0), (1, vS 0 0), (10, .bool false)])) (by kernel_rfl) ?_
  refine kSeq ?_
  refine cFalse (by kernel_rfl) ?_
  refine cSkip ?_
  refine kSeq ?_
  refine cSeq ?_
  refine cSeq ?_
  refine cReg ?_
  refine segEndH [0, 1, 5] (T1 := (mkT 26 [(0, .slice none 0 0), (1, vS 0 0), (5, vI 0)])) (by kernel_rfl) ?_
  refine kSeq ?_
  refine cBlk ?_
  -- loop
  refine cLoop (fun mm T H => mm = 0 ∧ T = (mkT 26 [(0, .slice none 0 0), (1, vS 0 0), (5, vI 0)]) ∧ H = [some ⟨[], 3, false, false⟩]) (0) (mkT 26 [(0, .slice none 0 0), (1, vS 0 0), (5, vI 0)]) [some ⟨[], 3, false, false⟩] (wkSame [0, 1, 5] (by kernel_rfl)) ?_ ?_
  · exact ⟨rfl, rfl, rfl⟩
  · rintro _ _ _ ⟨rfl, rfl, rfl⟩
    refine cSeq ?_
    refine cSeq ?_
    refine cReg ?_
    refine segEndH [0, 1, 5, 14] (T1 := (mkT 26 [(0, .slice none 0 0), (1, vS 0 0), (5, vI 0), (14, .bool false)])) (by kernel_rfl) ?_
    refine kSeq ?_
    refine cFalse (by kernel_rfl) ?_
    refine cExit ?_
    refine kSeqE ?_
    refine kLoopE ?_
    refine kBlkHit ?_
    refine kSeq ?_
    refine cSeq ?_
    refine cReg ?_
    refine segEndH [4] (T1 := (mkT 26 [(4, .bool true)])) (by kernel_rfl) ?_
    refine kSeq ?_
    refine cRet ?_
    -- end
    exact endQ (Or.inr rfl) (l := [.bool true]) [] (by kernel_rfl) (by first | rfl | kernel_rfl) rfl rfl hcl rfl
end Go.Proofs.Ytenkiofddpjidaa
