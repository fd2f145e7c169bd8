import Derived.Test.YtbheeobnghlckaaAmC1
set_option linter.unusedVariables false
set_option linter.unusedSimpArgs false
namespace Go.Proofs.Ytbheeobnghlckaa
open Go.Am Go.RowKit
set_option maxRecDepth 100000 in
set_option maxHeartbeats 4000000 in
theorem szI_S (N : List Int) (n : Nat) (hl : N.length ≤ n) (hn : n ≤ 1048576) : Sound Try.prog 59 [vS 0 N.length, vN n] [nR N] (vN (n - N.length)) [nR N] := by
 refine sound_intro (C := cx) Try.func59 rfl (by kernel_rfl) fun hcl => ?_
 refine cSeq ?_
 refine cReg ?_
 refine segEndH [0, 1] (T1 := (mkT 12 [(0, vS 0 N.length), (1, vN n)])) (by kernel_rfl) ?_
 refine kSeq ?_
 refine cSeq ?_
 refine cReg ?_
 refine segH 3 (T1 := (mkT 12 [(0, vS 0 N.length), (1, vN n), (5, vN n), (6, vS 0 N.length), (7, vN N.length)])) (by kernel_rfl) ?_
 refine rOp (v := vN (n - N.length)) (by kernel_rfl) (eSub (k := .i64) (a := ((n : Nat) : Int)) (b := ((N.length : Nat) : Int)) (c := ((n - N.length : Nat) : Int)) (by kernel_rfl) (by kernel_rfl)  (wr64 (by omega) (by omega) (by omega))) ?_
 refine segEndH [1] (T1 := (mkT 12 [(1, vN (n - N.length))])) (by kernel_rfl) ?_
 refine kSeq ?_
 refine cSeq ?_
 refine cSeq ?_
 refine cReg ?_
 refine segEndH [1, 10] (T1 := (mkT 12 [(1, vN (n - N.length)), (10, .bool (decide (((n - N.length : Nat) : Int) < 0)))])) (by kernel_rfl) ?_
 refine kSeq ?_
 cases h1 : (decide (((n - N.length : Nat) : Int) < 0) : Bool)
 ·
  (try simp only [bs0, bs1, bs2, bs3, beq_iff_eq, bne_iff_ne, beq_eq_false_iff_ne, bne_eq_false_iff_eq, ne_eq, bs4, bs5, bs6, bs7, bs8, bs9, bs10, bs11, ge_iff_le, gt_iff_lt] at h1)
  refine cFalse (by kernel_rfl) ?_
  refine cSkip ?_
  refine kSeq ?_
  refine cSeq ?_
  refine cReg ?_
  refine segEndH [4] (T1 := (mkT 12 [(4, vN (n - N.length))])) (by kernel_rfl) ?_
  refine kSeq ?_
  refine cRet ?_
  exact endQ (Or.inr rfl) (l := [vN (n - N.length)]) [] (by kernel_rfl) (by first | rfl | kernel_rfl) rfl rfl hcl rfl
 ·
  (try simp only [bs0, bs1, bs2, bs3, beq_iff_eq, bne_iff_ne, beq_eq_false_iff_ne, bne_eq_false_iff_eq, ne_eq, bs4, bs5, bs6, bs7, bs8, bs9, bs10, bs11, ge_iff_le, gt_iff_lt] at h1)
  exfalso; omega
set_option maxRecDepth 100000 in
set_option maxHeartbeats 4000000 in
theorem szI_G (N : List Int) (n : Nat) (hl : n < N.length) (hm : N.length ≤ 9223372036854775807) (hn : n ≤ 1048576) : Sound Try.prog 59 [vS 0 N.length, vN n] [nR N] (vI (-1)) [nR N] := by
 refine sound_intro (C := cx) Try.func59 rfl (by kernel_rfl) fun hcl => ?_
 refine cSeq ?_
 refine cReg ?_
 refine segEndH [0, 1] (T1 := (mkT 12 [(0, vS 0 N.length), (1, vN n)])) (by kernel_rfl) ?_
 refine kSeq ?_
 refine cSeq ?_
 refine cReg ?_
 refine segH 3 (T1 := (mkT 12 [(0, vS 0 N.length), (1, vN n), (5, vN n), (6, vS 0 N.length), (7, vN N.length)])) (by kernel_rfl) ?_
 refine rOp (v := vI (((n : Nat) : Int) - ((N.length : Nat) : Int))) (by kernel_rfl) (eSub (k := .i64) (a := ((n : Nat) : Int)) (b := ((N.length : Nat) : Int)) (c := (((n : Nat) : Int) - ((N.length : Nat) : Int))) (by kernel_rfl) (by kernel_rfl)  (wr64 (by omega) (by omega) rfl)) ?_
 refine segEndH [1] (T1 := (mkT 12 [(1, vI (((n : Nat) : Int) - ((N.length : Nat) : Int)))])) (by kernel_rfl) ?_
 refine kSeq ?_
 refine cSeq ?_
 refine cSeq ?_
 refine cReg ?_
 refine segEndH [1, 10] (T1 := (mkT 12 [(1, vI (((n : Nat) : Int) - ((N.length : Nat) : Int))), (10, .bool (decide (((n : Nat) : Int) - ((N.length : Nat) : Int) < 0)))])) (by kernel_rfl) ?_
 refine kSeq ?_
 cases h1 : (decide (((n : Nat) : Int) - ((N.length : Nat) : Int) < 0) : Bool)
 ·
  (try simp only [bs0, bs1, bs2, bs3, beq_iff_eq, bne_iff_ne, beq_eq_false_iff_ne, bne_eq_false_iff_eq, ne_eq, bs4, bs5, bs6, bs7, bs8, bs9, bs10, bs11, ge_iff_le, gt_iff_lt] at h1)
  exfalso; omega
 ·
  (try simp only [bs0, bs1, bs2, bs3, beq_iff_eq, bne_iff_ne, beq_eq_false_iff_ne, bne_eq_false_iff_eq, ne_eq, bs4, bs5, bs6, bs7, bs8, bs9, bs10, bs11, ge_iff_le, gt_iff_lt] at h1)
  refine cTrue (by kernel_rfl) ?_
  refine cSeq ?_
  refine cReg ?_
  refine segEndH [4] (T1 := (mkT 12 [(4, vI (-1))])) (by kernel_rfl) ?_
  refine kSeq ?_
  refine cRet ?_
  refine kSeqR ?_
  exact endQ (Or.inr rfl) (l := [vI (-1)]) [] (by kernel_rfl) (by first | rfl | kernel_rfl) rfl rfl hcl rfl
set_option maxRecDepth 100000 in
set_option maxHeartbeats 4000000 in
theorem szI_N (n : Nat) (hn : n ≤ 1048576) : Sound Try.prog 59 [.slice none 0 0, vN n] [] (vN n) [] := by
 refine sound_intro (C := cx) Try.func59 rfl (by kernel_rfl) fun hcl => ?_
 refine cSeq ?_
 refine cReg ?_
 refine segEndH [0, 1] (T1 := (mkT 12 [(0, .slice none 0 0), (1, vN n)])) (by kernel_rfl) ?_
 refine kSeq ?_
 refine cSeq ?_
 refine cReg ?_
 refine segH 3 (T1 := (mkT 12 [(0, .slice none 0 0), (1, vN n), (5, vN n), (6, .slice none 0 0), (7, vI 0)])) (by kernel_rfl) ?_
 refine rOp (v := vN n) (by kernel_rfl) (eSub (k := .i64) (a := ((n : Nat) : Int)) (b := 0) (c := ((n : Nat) : Int)) (by kernel_rfl) (by kernel_rfl) (wr64 (by omega) (by omega) (by omega))) ?_
 refine segEndH [1] (T1 := (mkT 12 [(1, vN n)])) (by kernel_rfl) ?_
 refine kSeq ?_
 refine cSeq ?_
 refine cSeq ?_
 refine cReg ?_
 refine segEndH [1, 10] (T1 := (mkT 12 [(1, vN n), (10, .bool (decide (((n : Nat) : Int) < 0)))])) (by kernel_rfl) ?_
 refine kSeq ?_
 cases h1 : (decide (((n : Nat) : Int) < 0) : Bool)
 ·
  (try simp only [bs0, bs1, bs2, bs3, beq_iff_eq, bne_iff_ne, beq_eq_false_iff_ne, bne_eq_false_iff_eq, ne_eq, bs4, bs5, bs6, bs7, bs8, bs9, bs10, bs11, ge_iff_le, gt_iff_lt] at h1)
  refine cFalse (by kernel_rfl) ?_
  refine cSkip ?_
  refine kSeq ?_
  refine cSeq ?_
  refine cReg ?_
  refine segEndH [4] (T1 := (mkT 12 [(4, vN n)])) (by kernel_rfl) ?_
  refine kSeq ?_
  refine cRet ?_
  exact endQ (Or.inr rfl) (l := [vN n]) [] (by kernel_rfl) (by first | rfl | kernel_rfl) rfl rfl hcl rfl
 ·
  (try simp only [bs0, bs1, bs2, bs3, beq_iff_eq, bne_iff_ne, beq_eq_false_iff_ne, bne_eq_false_iff_eq, ne_eq, bs4, bs5, bs6, bs7, bs8, bs9, bs10, bs11, ge_iff_le, gt_iff_lt] at h1)
  exfalso; omega
set_option maxRecDepth 100000 in
set_option maxHeartbeats 4000000 in
theorem toI_S (N : List Int) (hl : N.length ≤ 1048576) : Sound Try.prog 30 [vS 0 N.length] [nR N] (vS 1 N.length) [nR N, nW N] := by
 refine sound_intro (C := cx) Try.func30 rfl (by kernel_rfl) fun hcl => ?_
 refine cSeq ?_
 refine cReg ?_
 refine segEndH [0] (T1 := (mkT 22 [(0, vS 0 N.length)])) (by kernel_rfl) ?_
 refine kSeq ?_
 refine cSeq ?_
 refine cReg ?_
 refine segH 2 (T1 := (mkT 22 [(0, vS 0 N.length), (5, vS 0 N.length), (6, vN N.length)])) (by kernel_rfl) ?_
 refine rOp (v := vS 1 N.length) (H' := [nR N, nW (List.replicate N.length 0)]) (by kernel_rfl) (eMkNum (n := N.length) (k := .i64) (k2 := .i64) (by kernel_rfl) (by kernel_rfl) ti22 ti3 rfl rfl (by decide) (by omega)) ?_
 refine segEnd [0, 3] (T1 := (mkT 22 [(0, vS 0 N.length), (3, vS 1 N.length)])) (H1 := [nR N, nW (List.replicate N.length 0)]) (by kernel_rfl) ?_
 refine kSeq ?_
 refine cSeq ?_
 refine cSeq ?_
 refine cReg ?_
 refine segEndH [0, 3, 4] (T1 := (mkT 22 [(0, vS 0 N.length), (3, vS 1 N.length), (4, vI 0)])) (by kernel_rfl) ?_
 refine kSeq ?_
 refine cBlk ?_
 refine cLoop (fun mm T H => ∃ i : Nat, ∃ M : List Int, (i ≤ N.length) ∧ (M = cpN N i) ∧ mm = N.length - i ∧ T = (mkT 22 [(0, vS 0 N.length), (3, vS 1 N.length), (4, vN i)]) ∧ H = [nR N, nW M]) (N.length - 0) (mkT 22 [(0, vS 0 N.length), (3, vS 1 N.length), (4, vI 0)]) [nR N, nW (List.replicate N.length 0)] (wkSame [0, 3, 4] (by kernel_rfl)) ?_ ?_
 ·
  exact ⟨0, (List.replicate N.length 0), (Nat.zero_le _), ((cpN_0 N).symm), rfl, rfl, rfl⟩
 ·
  rintro _ _ _ ⟨i, M, hi, hM, rfl, rfl, rfl⟩
  have hml : M.length = N.length := (by rw [hM]; exact cpN_length hi)
  refine cSeq ?_
  refine cSeq ?_
  refine cReg ?_
  refine segEndH [0, 3, 4, 11] (T1 := (mkT 22 [(0, vS 0 N.length), (3, vS 1 N.length), (4, vN i), (11, .bool (decide (((i : Nat) : Int) < ((N.length : Nat) : Int))))])) (by kernel_rfl) ?_
  refine kSeq ?_
  cases h1 : (decide (((i : Nat) : Int) < ((N.length : Nat) : Int)) : Bool)
  ·
   (try simp only [bs0, bs1, bs2, bs3, beq_iff_eq, bne_iff_ne, beq_eq_false_iff_ne, bne_eq_false_iff_eq, ne_eq, bs4, bs5, bs6, bs7, bs8, bs9, bs10, bs11, ge_iff_le, gt_iff_lt] at h1)
   refine cFalse (by kernel_rfl) ?_
   refine cExit ?_
   refine kSeqE ?_
   refine kLoopE ?_
   refine kBlkHit ?_
   refine kSeq ?_
   refine cSeq ?_
   refine cReg ?_
   refine segEndH [2] (T1 := (mkT 22 [(2, vS 1 N.length)])) (by kernel_rfl) ?_
   refine kSeq ?_
   refine cRet ?_
   have he0 : (M : List Int) = N := by first | omega | (rw [hM]; exact cpN_end (by omega))
   refine endCast (v1 := vS 1 N.length) (H1 := [nR N, nW M]) (by first | rfl | ((try rw [← he0]); done) | (simp only [← he0]; done)) (by first | rfl | ((try rw [← he0]); done) | (simp only [← he0]; done)) ?_
   exact endQ (Or.inr rfl) (l := [vS 1 N.length]) [] (by kernel_rfl) (by first | rfl | kernel_rfl) rfl rfl (closedL ⟨clF (flatNums _ _ _ _), ⟨clF (flatNums _ _ _ _), trivial⟩⟩) rfl
  ·
   (try simp only [bs0, bs1, bs2, bs3, beq_iff_eq, bne_iff_ne, beq_eq_false_iff_ne, bne_eq_false_iff_eq, ne_eq, bs4, bs5, bs6, bs7, bs8, bs9, bs10, bs11, ge_iff_le, gt_iff_lt] at h1)
   refine cTrue (by kernel_rfl) ?_
   refine cSkip ?_
   refine kSeq ?_
   refine cSeq ?_
   refine cBlk ?_
   refine cReg ?_
   refine segH 4 (T1 := (mkT 22 [(0, vS 0 N.length), (3, vS 1 N.length), (4, vN i), (11, .bool true), (14, vS 1 N.length), (15, vN i), (16, vS 0 N.length), (17, vN i)])) (by kernel_rfl) ?_
   refine rOp (v := vP 0 i) (by kernel_rfl) (eIdxS (ad := ⟨0, 0, none⟩) (n := N.length) (m := 0) (k := .i64) (c := ((i : Nat) : Int)) (j := i) (o := i) (by kernel_rfl) (by kernel_rfl) ti22 ti3 (rfl) (by omega) (by simp)) ?_
   refine rOp (v := vI (N.getD i 0)) (by kernel_rfl) (eLdNum (ad := ⟨0, i, none⟩) (r := ⟨nums N, 3, false, false⟩) (L := N) (j := i) (by kernel_rfl) (by kernel_rfl) rfl (by first | rfl | omega) (by omega) ti3 rfl) ?_
   refine rOp (v := vP 1 i) (by kernel_rfl) (eIdxS (ad := ⟨1, 0, none⟩) (n := N.length) (m := 0) (k := .i64) (c := ((i : Nat) : Int)) (j := i) (o := i) (by kernel_rfl) (by kernel_rfl) ti22 ti3 (rfl) (by omega) (by simp)) ?_
   refine rOp (v := .tuple #[]) (H' := [nR N, nW (M.set i (N.getD i 0))]) (by kernel_rfl) (eStNum (b := 1) (o := i) (L := M) (n := (N.getD i 0)) (e := 3) (bx := false) (by kernel_rfl) (by kernel_rfl) (by kernel_rfl) (by omega) ti3 rfl (by rfl)) ?_
   refine segEnd [0, 3, 4] (T1 := (mkT 22 [(0, vS 0 N.length), (3, vS 1 N.length), (4, vN i)])) (H1 := [nR N, nW (M.set i (N.getD i 0))]) (by kernel_rfl) ?_
   refine kBlk ?_
   refine kSeq ?_
   refine cReg ?_
   refine segH 1 (T1 := (mkT 22 [(0, vS 0 N.length), (3, vS 1 N.length), (4, vN i), (12, vN i)])) (by kernel_rfl) ?_
   refine rOp (v := vN (i + 1)) (by kernel_rfl) (eAdd (k := .i64) (a := ((i : Nat) : Int)) (b := 1) (c := ((i + 1 : Nat) : Int)) (by kernel_rfl) (by kernel_rfl) (wr64 (by omega) (by omega) (by omega))) ?_
   refine segEndH [0, 3, 4] (T1 := (mkT 22 [(0, vS 0 N.length), (3, vS 1 N.length), (4, vN (i + 1))])) (by kernel_rfl) ?_
   exact kLoop (N.length - (i + 1)) (mkT 22 [(0, vS 0 N.length), (3, vS 1 N.length), (4, vN (i + 1))]) [nR N, nW (M.set i (N.getD i 0))] (by omega) (wkSame [0, 3, 4] (by kernel_rfl)) ⟨(i + 1), (M.set i (N.getD i 0)), (by omega), (by rw [hM]; exact cpN_put (by omega)), rfl, rfl, rfl⟩
set_option maxRecDepth 100000 in
set_option maxHeartbeats 4000000 in
theorem toI_N   : Sound Try.prog 30 [.slice none 0 0] [] (vS 0 0) [nW ([] : List Int)] := by
 refine sound_intro (C := cx) Try.func30 rfl (by kernel_rfl) fun hcl => ?_
 refine cSeq ?_
 refine cReg ?_
 refine segEndH [0] (T1 := (mkT 22 [(0, .slice none 0 0)])) (by kernel_rfl) ?_
 refine kSeq ?_
 refine cSeq ?_
 refine cReg ?_
 refine segH 2 (T1 := (mkT 22 [(0, .slice none 0 0), (5, .slice none 0 0), (6, vI 0)])) (by kernel_rfl) ?_
 refine rOp (v := vS 0 0) (H' := [nW (List.replicate 0 0)]) (by kernel_rfl) (eMkNum (n := 0) (k := .i64) (k2 := .i64) (by kernel_rfl) (by kernel_rfl) ti22 ti3 rfl rfl (by decide) (by omega)) ?_
 refine segEnd [0, 3] (T1 := (mkT 22 [(0, .slice none 0 0), (3, vS 0 0)])) (H1 := [nW (List.replicate 0 0)]) (by kernel_rfl) ?_
 refine kSeq ?_
 refine cSeq ?_
 refine cSeq ?_
 refine cReg ?_
 refine segEndH [0, 3, 4] (T1 := (mkT 22 [(0, .slice none 0 0), (3, vS 0 0), (4, vI 0)])) (by kernel_rfl) ?_
 refine kSeq ?_
 refine cBlk ?_
 refine cLoop (fun mm T H => mm = 0 ∧ T = (mkT 22 [(0, .slice none 0 0), (3, vS 0 0), (4, vI 0)]) ∧ H = [nW (List.replicate 0 0)]) (0) (mkT 22 [(0, .slice none 0 0), (3, vS 0 0), (4, vI 0)]) [nW (List.replicate 0 0)] (wkSame [0, 3, 4] (by kernel_rfl)) ?_ ?_
 ·
  exact ⟨rfl, rfl, rfl⟩
 ·
  rintro _ _ _ ⟨rfl, rfl, rfl⟩
  refine cSeq ?_
  refine cSeq ?_
  refine cReg ?_
  refine segEndH [0, 3, 4, 11] (T1 := (mkT 22 [(0, .slice none 0 0), (3, vS 0 0), (4, vI 0), (11, .bool false)])) (by kernel_rfl) ?_
  refine kSeq ?_
  refine cFalse (by kernel_rfl) ?_
  refine cExit ?_
  refine kSeqE ?_
  refine kLoopE ?_
  refine kBlkHit ?_
  refine kSeq ?_
  refine cSeq ?_
  refine cReg ?_
  refine segEndH [2] (T1 := (mkT 22 [(2, vS 0 0)])) (by kernel_rfl) ?_
  refine kSeq ?_
  refine cRet ?_
  have he0 : ((List.replicate 0 0) : List Int) = ([] : List Int) := by first | omega | assumption | rfl | (symm; assumption) | (simp_all; done)
  refine endCast (v1 := vS 0 0) (H1 := [nW (List.replicate 0 0)]) (by first | rfl | ((try rw [he0]); done) | (simp only [he0]; done)) (by first | rfl | ((try rw [he0]); done) | (simp only [he0]; done)) ?_
  exact endQ (Or.inr rfl) (l := [vS 0 0]) [] (by kernel_rfl) (by first | rfl | kernel_rfl) rfl rfl (closedL ⟨clF (flatNums _ _ _ _), trivial⟩) rfl
set_option maxRecDepth 100000 in
set_option maxHeartbeats 4000000 in
theorem eqI_S (N : List Int) (hl : N.length ≤ 1048576) : Sound Try.prog 33 [vS 0 N.length, vS 1 N.length] [nR N, nR N] (.bool true) [nR N, nR N] := by
 refine sound_intro (C := cx) Try.func33 rfl (by kernel_rfl) fun hcl => ?_
 refine cSeq ?_
 refine cReg ?_
 refine segEndH [0, 1] (T1 := (mkT 26 [(0, vS 0 N.length), (1, vS 1 N.length)])) (by kernel_rfl) ?_
 refine kSeq ?_
 refine cSeq ?_
 refine cSeq ?_
 refine cReg ?_
 refine segH 4 (T1 := (mkT 26 [(0, vS 0 N.length), (1, vS 1 N.length), (6, vS 0 N.length), (7, vN N.length), (8, vS 1 N.length), (9, vN N.length)])) (by kernel_rfl) ?_
 refine rOp (v := .bool false) (by kernel_rfl) (eNeS (k := .i64) (a := ((N.length : Nat) : Int)) (by kernel_rfl) (by kernel_rfl)) ?_
 refine segEndH [0, 1, 10] (T1 := (mkT 26 [(0, vS 0 N.length), (1, vS 1 N.length), (10, .bool false)])) (by kernel_rfl) ?_
 refine kSeq ?_
 refine cFalse (by kernel_rfl) ?_
 refine cSkip ?_
 refine kSeq ?_
 refine cSeq ?_
 refine cSeq ?_
 refine cReg ?_
 refine segEndH [0, 1, 5] (T1 := (mkT 26 [(0, vS 0 N.length), (1, vS 1 N.length), (5, vI 0)])) (by kernel_rfl) ?_
 refine kSeq ?_
 refine cBlk ?_
 refine cLoop (fun mm T H => ∃ i : Nat, (i ≤ N.length) ∧ mm = N.length - i ∧ T = (mkT 26 [(0, vS 0 N.length), (1, vS 1 N.length), (5, vN i)]) ∧ H = [nR N, nR N]) (N.length - 0) (mkT 26 [(0, vS 0 N.length), (1, vS 1 N.length), (5, vI 0)]) [nR N, nR N] (wkSame [0, 1, 5] (by kernel_rfl)) ?_ ?_
 ·
  exact ⟨0, (Nat.zero_le _), rfl, rfl, rfl⟩
 ·
  rintro _ _ _ ⟨i, hi, rfl, rfl, rfl⟩
  refine cSeq ?_
  refine cSeq ?_
  refine cReg ?_
  refine segEndH [0, 1, 5, 14] (T1 := (mkT 26 [(0, vS 0 N.length), (1, vS 1 N.length), (5, vN i), (14, .bool (decide (((i : Nat) : Int) < ((N.length : Nat) : Int))))])) (by kernel_rfl) ?_
  refine kSeq ?_
  cases h1 : (decide (((i : Nat) : Int) < ((N.length : Nat) : Int)) : Bool)
  ·
   (try simp only [bs0, bs1, bs2, bs3, beq_iff_eq, bne_iff_ne, beq_eq_false_iff_ne, bne_eq_false_iff_eq, ne_eq, bs4, bs5, bs6, bs7, bs8, bs9, bs10, bs11, ge_iff_le, gt_iff_lt] at h1)
   refine cFalse (by kernel_rfl) ?_
   refine cExit ?_
   refine kSeqE ?_
   refine kLoopE ?_
   refine kBlkHit ?_
   refine kSeq ?_
   refine cSeq ?_
   refine cReg ?_
   refine segEndH [4] (T1 := (mkT 26 [(4, .bool true)])) (by kernel_rfl) ?_
   refine kSeq ?_
   refine cRet ?_
   exact endQ (Or.inr rfl) (l := [.bool true]) [] (by kernel_rfl) (by first | rfl | kernel_rfl) rfl rfl hcl rfl
  ·
   (try simp only [bs0, bs1, bs2, bs3, beq_iff_eq, bne_iff_ne, beq_eq_false_iff_ne, bne_eq_false_iff_eq, ne_eq, bs4, bs5, bs6, bs7, bs8, bs9, bs10, bs11, ge_iff_le, gt_iff_lt] at h1)
   refine cTrue (by kernel_rfl) ?_
   refine cSkip ?_
   refine kSeq ?_
   refine cSeq ?_
   refine cBlk ?_
   refine cSeq ?_
   refine cRegW (N := 2) [⟨[], [], []⟩, ⟨[], [], []⟩, ⟨[], [], []⟩, ⟨[], [], [0]⟩, ⟨[], [], []⟩, ⟨[], [], []⟩, ⟨[], [], []⟩, ⟨[], [], [1]⟩, ⟨[], [], []⟩] 0 [] (by rfl) (by rfl) (by kernel_rfl) (by kernel_rfl) (by kernel_rfl) ⟨nmsF (flatNums _ _ _ _), ⟨nmsF (flatNums _ _ _ _), trivial⟩⟩ ?_
   refine segWH 2 (T1 := (mkT 26 [(0, vS 0 N.length), (1, vS 1 N.length), (5, vN i), (14, .bool true), (17, vS 0 N.length), (18, vN i)])) (by kernel_rfl) ?_
   refine rW (m := ⟨[], [], []⟩) (v := vP 0 i) rfl (by kernel_rfl) (stId (eIdxS (ad := ⟨0, 0, none⟩) (n := N.length) (m := 0) (k := .i64) (c := ((i : Nat) : Int)) (j := i) (o := i) (by kernel_rfl) (by kernel_rfl) ti22 ti3 (rfl) (by omega) (by simp)) rfl (by kernel_rfl) (by kernel_rfl) (by kernel_rfl)) (by kernel_rfl) nr0 ?_
   refine rW (m := ⟨[], [], [0]⟩) (v := vI (N.getD i 0)) rfl (by kernel_rfl) (stId (eLdNum (ad := ⟨0, i, none⟩) (r := ⟨nums N, 3, false, false⟩) (L := N) (j := i) (by kernel_rfl) (by kernel_rfl) rfl (by first | rfl | omega) (by omega) ti3 rfl) rfl (by kernel_rfl) (by kernel_rfl) (by kernel_rfl)) (by kernel_rfl) nr0 ?_
   refine segWH 2 (T1 := (mkT 26 [(0, vS 0 N.length), (1, vS 1 N.length), (5, vN i), (14, .bool true), (17, vS 0 N.length), (18, vN i), (19, vP 0 i), (20, vI (N.getD i 0)), (21, vS 1 N.length), (22, vN i)])) (by kernel_rfl) ?_
   refine rW (m := ⟨[], [], []⟩) (v := vP 1 i) rfl (by kernel_rfl) (stId (eIdxS (ad := ⟨1, 0, none⟩) (n := N.length) (m := 0) (k := .i64) (c := ((i : Nat) : Int)) (j := i) (o := i) (by kernel_rfl) (by kernel_rfl) ti22 ti3 (rfl) (by omega) (by simp)) rfl (by kernel_rfl) (by kernel_rfl) (by kernel_rfl)) (by kernel_rfl) nr0 ?_
   refine rW (m := ⟨[], [], [1]⟩) (v := vI (N.getD i 0)) rfl (by kernel_rfl) (stId (eLdNum (ad := ⟨1, i, none⟩) (r := ⟨nums N, 3, false, false⟩) (L := N) (j := i) (by kernel_rfl) (by kernel_rfl) rfl (by first | rfl | omega) (by omega) ti3 rfl) rfl (by kernel_rfl) (by kernel_rfl) (by kernel_rfl)) (by kernel_rfl) nr0 ?_
   refine rW (m := ⟨[], [], []⟩) (v := .bool false) rfl (by kernel_rfl) (stId (eNeS (k := .i64) (a := (N.getD i 0)) (by kernel_rfl) (by kernel_rfl)) rfl (by kernel_rfl) (by kernel_rfl) (by kernel_rfl)) (by kernel_rfl) nr0 ?_
   refine segEndWH [0, 1, 5, 25] (T1 := (mkT 26 [(0, vS 0 N.length), (1, vS 1 N.length), (5, vN i), (25, .bool false)])) (by kernel_rfl) ?_
   refine kSeq ?_
   refine cFalse (by kernel_rfl) ?_
   refine cSkip ?_
   refine kBlk ?_
   refine kSeq ?_
   refine cReg ?_
   refine segH 1 (T1 := (mkT 26 [(0, vS 0 N.length), (1, vS 1 N.length), (5, vN i), (15, vN i), (25, .bool false)])) (by kernel_rfl) ?_
   refine rOp (v := vN (i + 1)) (by kernel_rfl) (eAdd (k := .i64) (a := ((i : Nat) : Int)) (b := 1) (c := ((i + 1 : Nat) : Int)) (by kernel_rfl) (by kernel_rfl) (wr64 (by omega) (by omega) (by omega))) ?_
   refine segEndH [0, 1, 5] (T1 := (mkT 26 [(0, vS 0 N.length), (1, vS 1 N.length), (5, vN (i + 1))])) (by kernel_rfl) ?_
   exact kLoop (N.length - (i + 1)) (mkT 26 [(0, vS 0 N.length), (1, vS 1 N.length), (5, vN (i + 1))]) [nR N, nR N] (by omega) (wkSame [0, 1, 5] (by kernel_rfl)) ⟨(i + 1), (by omega), rfl, rfl, rfl⟩
end Go.Proofs.Ytbheeobnghlckaa
set_option linter.unusedVariables false
set_option linter.unusedSimpArgs false
namespace Go.Proofs.Ytbheeobnghlckaa
open Go.Am Go.RowKit
theorem valid_no (x : Int) (y : Int) (z : Int) (hv2 : valid3 x y z = false) : Sound Try.prog 62 [.agg #[vI x, vI y, vI z]] [] (.bool false) [] := by
 have h := valid_ok x y z; rw [hv2] at h; exact h
theorem sides_no (x : Int) (y : Int) (z : Int) (hv2 : valid3 x y z = false) : Sound Try.prog 75 [vI x, vI y, vI z] [] (.bool false) [] := by
 have h := sides_ok x y z; rw [hv2] at h; exact h
set_option maxRecDepth 100000 in
set_option maxHeartbeats 4000000 in
theorem szSh_sss (x : Int) (y : Int) (z : Int) (A : List Int) (B : List Int) (C : List Int) (n : Nat) (hl : A.length + B.length + C.length ≤ n) (hn : n ≤ 1048576) : Sound Try.prog 15 [.agg #[vI x, vI y, vI z, vS 0 A.length, vS 1 B.length, vS 2 C.length], vN n] [nR A, nR B, nR C] (vN (n - A.length - B.length - C.length)) [nR A, nR B, nR C] := by
 refine sound_intro (C := cx) Try.func15 rfl (by kernel_rfl) fun hcl => ?_
 refine cSeq ?_
 refine cReg ?_
 refine segEnd [1, 2] (T1 := (mkT 24 [(1, vN n), (2, vP 3 0)])) (H1 := [nR A, nR B, nR C, rB [vI x, vI y, vI z, vS 0 A.length, vS 1 B.length, vS 2 C.length] 24]) (by kernel_rfl) ?_
 refine kSeq ?_
 refine cSeq ?_
 refine cReg ?_
 refine segH 3 (T1 := (mkT 24 [(1, vN n), (2, vP 3 0), (5, vP 3 3), (6, vS 0 A.length), (7, vN n)])) (by kernel_rfl) ?_
 refine rCall (v := vN (n - A.length)) (args := [vS 0 A.length, vN n]) (by kernel_rfl) rfl (by kernel_rfl) (Sound.lay0 [0] (szI_S A n (by first | omega | assumption | (simp; done) | (simp; omega)) (by first | omega | assumption | decide)) ⟨rdF false (flatNums _ _ _ _) rfl rfl, trivial⟩ rfl ⟨clF (flatNums _ _ _ _), trivial⟩ rfl (by first | rfl | simp [mpV, mpA, mpS, mpP, renId, shift]) rfl) ?_
 refine segEndH [1, 2] (T1 := (mkT 24 [(1, vN (n - A.length)), (2, vP 3 0)])) (by kernel_rfl) ?_
 refine kSeq ?_
 refine cSeq ?_
 refine cSeq ?_
 refine cReg ?_
 refine segEndH [1, 2, 10] (T1 := (mkT 24 [(1, vN (n - A.length)), (2, vP 3 0), (10, .bool (decide (((n - A.length : Nat) : Int) < 0)))])) (by kernel_rfl) ?_
 refine kSeq ?_
 cases h1 : (decide (((n - A.length : Nat) : Int) < 0) : Bool)
 ·
  (try simp only [bs0, bs1, bs2, bs3, beq_iff_eq, bne_iff_ne, beq_eq_false_iff_ne, bne_eq_false_iff_eq, ne_eq, bs4, bs5, bs6, bs7, bs8, bs9, bs10, bs11, ge_iff_le, gt_iff_lt] at h1)
  refine cFalse (by kernel_rfl) ?_
  refine cSkip ?_
  refine kSeq ?_
  refine cSeq ?_
  refine cReg ?_
  refine segH 3 (T1 := (mkT 24 [(1, vN (n - A.length)), (2, vP 3 0), (10, .bool false), (11, vP 3 4), (12, vS 1 B.length), (13, vN (n - A.length))])) (by kernel_rfl) ?_
  refine rCall (v := vN ((n - A.length) - B.length)) (args := [vS 1 B.length, vN (n - A.length)]) (by kernel_rfl) rfl (by kernel_rfl) (Sound.lay0 [1] (szI_S B (n - A.length) (by first | omega | assumption | (simp; done) | (simp; omega)) (by first | omega | assumption | decide)) ⟨rdF false (flatNums _ _ _ _) rfl rfl, trivial⟩ rfl ⟨clF (flatNums _ _ _ _), trivial⟩ rfl (by first | rfl | simp [mpV, mpA, mpS, mpP, renId, shift]) rfl) ?_
  refine segEndH [1, 2] (T1 := (mkT 24 [(1, vN ((n - A.length) - B.length)), (2, vP 3 0)])) (by kernel_rfl) ?_
  refine kSeq ?_
  refine cSeq ?_
  refine cSeq ?_
  refine cReg ?_
  refine segEndH [1, 2, 16] (T1 := (mkT 24 [(1, vN ((n - A.length) - B.length)), (2, vP 3 0), (16, .bool (decide ((((n - A.length) - B.length : Nat) : Int) < 0)))])) (by kernel_rfl) ?_
  refine kSeq ?_
  cases h2 : (decide ((((n - A.length) - B.length : Nat) : Int) < 0) : Bool)
  ·
   (try simp only [bs0, bs1, bs2, bs3, beq_iff_eq, bne_iff_ne, beq_eq_false_iff_ne, bne_eq_false_iff_eq, ne_eq, bs4, bs5, bs6, bs7, bs8, bs9, bs10, bs11, ge_iff_le, gt_iff_lt] at h2)
   refine cFalse (by kernel_rfl) ?_
   refine cSkip ?_
   refine kSeq ?_
   refine cSeq ?_
   refine cReg ?_
   refine segH 3 (T1 := (mkT 24 [(1, vN ((n - A.length) - B.length)), (2, vP 3 0), (16, .bool false), (17, vP 3 5), (18, vS 2 C.length), (19, vN ((n - A.length) - B.length))])) (by kernel_rfl) ?_
   refine rCall (v := vN (((n - A.length) - B.length) - C.length)) (args := [vS 2 C.length, vN ((n - A.length) - B.length)]) (by kernel_rfl) rfl (by kernel_rfl) (Sound.lay0 [2] (szI_S C ((n - A.length) - B.length) (by first | omega | assumption | (simp; done) | (simp; omega)) (by first | omega | assumption | decide)) ⟨rdF false (flatNums _ _ _ _) rfl rfl, trivial⟩ rfl ⟨clF (flatNums _ _ _ _), trivial⟩ rfl (by first | rfl | simp [mpV, mpA, mpS, mpP, renId, shift]) rfl) ?_
   refine segEndH [1] (T1 := (mkT 24 [(1, vN (((n - A.length) - B.length) - C.length))])) (by kernel_rfl) ?_
   refine kSeq ?_
   refine cSeq ?_
   refine cSeq ?_
   refine cReg ?_
   refine segEndH [1, 22] (T1 := (mkT 24 [(1, vN (((n - A.length) - B.length) - C.length)), (22, .bool (decide (((((n - A.length) - B.length) - C.length : Nat) : Int) < 0)))])) (by kernel_rfl) ?_
   refine kSeq ?_
   cases h3 : (decide (((((n - A.length) - B.length) - C.length : Nat) : Int) < 0) : Bool)
   ·
    (try simp only [bs0, bs1, bs2, bs3, beq_iff_eq, bne_iff_ne, beq_eq_false_iff_ne, bne_eq_false_iff_eq, ne_eq, bs4, bs5, bs6, bs7, bs8, bs9, bs10, bs11, ge_iff_le, gt_iff_lt] at h3)
    refine cFalse (by kernel_rfl) ?_
    refine cSkip ?_
    refine kSeq ?_
    refine cSeq ?_
    refine cReg ?_
    refine segEndH [4] (T1 := (mkT 24 [(4, vN (((n - A.length) - B.length) - C.length))])) (by kernel_rfl) ?_
    refine kSeq ?_
    refine cRet ?_
    have he0 : (((n - A.length) - B.length) - C.length : Nat) = n - A.length - B.length - C.length := by first | omega | assumption | rfl | (symm; assumption) | (simp_all; done)
    refine endCast (v1 := vN (((n - A.length) - B.length) - C.length)) (H1 := [nR A, nR B, nR C]) (by first | rfl | ((try rw [← he0]); done) | (simp only [← he0]; done)) (by first | rfl | ((try rw [← he0]); done) | (simp only [← he0]; done)) ?_
    exact endQ (Or.inr rfl) (l := [vN (((n - A.length) - B.length) - C.length)]) [rB [vI x, vI y, vI z, vS 0 A.length, vS 1 B.length, vS 2 C.length] 24] (by kernel_rfl) (by first | rfl | kernel_rfl) rfl rfl hcl rfl
   ·
    (try simp only [bs0, bs1, bs2, bs3, beq_iff_eq, bne_iff_ne, beq_eq_false_iff_ne, bne_eq_false_iff_eq, ne_eq, bs4, bs5, bs6, bs7, bs8, bs9, bs10, bs11, ge_iff_le, gt_iff_lt] at h3)
    exfalso; omega
  ·
   (try simp only [bs0, bs1, bs2, bs3, beq_iff_eq, bne_iff_ne, beq_eq_false_iff_ne, bne_eq_false_iff_eq, ne_eq, bs4, bs5, bs6, bs7, bs8, bs9, bs10, bs11, ge_iff_le, gt_iff_lt] at h2)
   exfalso; omega
 ·
  (try simp only [bs0, bs1, bs2, bs3, beq_iff_eq, bne_iff_ne, beq_eq_false_iff_ne, bne_eq_false_iff_eq, ne_eq, bs4, bs5, bs6, bs7, bs8, bs9, bs10, bs11, ge_iff_le, gt_iff_lt] at h1)
  exfalso; omega
set_option maxRecDepth 100000 in
set_option maxHeartbeats 4000000 in
theorem szSh_sss_A (x : Int) (y : Int) (z : Int) (A : List Int) (B : List Int) (C : List Int) (n : Nat) (hl : n < A.length) (hm : A.length ≤ 9223372036854775807) (hn : n ≤ 1048576) : Sound Try.prog 15 [.agg #[vI x, vI y, vI z, vS 0 A.length, vS 1 B.length, vS 2 C.length], vN n] [nR A, nR B, nR C] (vI (-1)) [nR A, nR B, nR C] := by
 refine sound_intro (C := cx) Try.func15 rfl (by kernel_rfl) fun hcl => ?_
 refine cSeq ?_
 refine cReg ?_
 refine segEnd [1, 2] (T1 := (mkT 24 [(1, vN n), (2, vP 3 0)])) (H1 := [nR A, nR B, nR C, rB [vI x, vI y, vI z, vS 0 A.length, vS 1 B.length, vS 2 C.length] 24]) (by kernel_rfl) ?_
 refine kSeq ?_
 refine cSeq ?_
 refine cReg ?_
 refine segH 3 (T1 := (mkT 24 [(1, vN n), (2, vP 3 0), (5, vP 3 3), (6, vS 0 A.length), (7, vN n)])) (by kernel_rfl) ?_
 refine rCall (v := vI (-1)) (args := [vS 0 A.length, vN n]) (by kernel_rfl) rfl (by kernel_rfl) (Sound.lay0 [0] (szI_G A n (by first | omega | assumption | (simp; done) | (simp; omega)) (by first | assumption | omega | rfl | decide | exact HeapL.list _ _ _ _ | exact HeapL.nil _ _ _ | exact HeapL.all _ _ _ | (apply HeapL.lt64 <;> assumption) | (repeat' (first | assumption | apply or_lt64 | apply and_lt64 | apply andn_lt64 | apply pow_lt64 | (apply HeapL.lt64 <;> assumption)))) (by first | omega | assumption | decide)) ⟨rdF false (flatNums _ _ _ _) rfl rfl, trivial⟩ rfl ⟨clF (flatNums _ _ _ _), trivial⟩ rfl (by first | rfl | simp [mpV, mpA, mpS, mpP, renId, shift]) rfl) ?_
 refine segEndH [1, 2] (T1 := (mkT 24 [(1, vI (-1)), (2, vP 3 0)])) (by kernel_rfl) ?_
 refine kSeq ?_
 refine cSeq ?_
 refine cSeq ?_
 refine cReg ?_
 refine segEndH [1, 2, 10] (T1 := (mkT 24 [(1, vI (-1)), (2, vP 3 0), (10, .bool true)])) (by kernel_rfl) ?_
 refine kSeq ?_
 refine cTrue (by kernel_rfl) ?_
 refine cSeq ?_
 refine cReg ?_
 refine segEndH [4] (T1 := (mkT 24 [(4, vI (-1))])) (by kernel_rfl) ?_
 refine kSeq ?_
 refine cRet ?_
 refine kSeqR ?_
 exact endQ (Or.inr rfl) (l := [vI (-1)]) [rB [vI x, vI y, vI z, vS 0 A.length, vS 1 B.length, vS 2 C.length] 24] (by kernel_rfl) (by first | rfl | kernel_rfl) rfl rfl hcl rfl
set_option maxRecDepth 100000 in
set_option maxHeartbeats 4000000 in
theorem szSh_sss_B (x : Int) (y : Int) (z : Int) (A : List Int) (B : List Int) (C : List Int) (n : Nat) (hl0 : A.length ≤ n) (hl : n - A.length < B.length) (hm : B.length ≤ 9223372036854775807) (hn : n ≤ 1048576) : Sound Try.prog 15 [.agg #[vI x, vI y, vI z, vS 0 A.length, vS 1 B.length, vS 2 C.length], vN n] [nR A, nR B, nR C] (vI (-1)) [nR A, nR B, nR C] := by
 refine sound_intro (C := cx) Try.func15 rfl (by kernel_rfl) fun hcl => ?_
 refine cSeq ?_
 refine cReg ?_
 refine segEnd [1, 2] (T1 := (mkT 24 [(1, vN n), (2, vP 3 0)])) (H1 := [nR A, nR B, nR C, rB [vI x, vI y, vI z, vS 0 A.length, vS 1 B.length, vS 2 C.length] 24]) (by kernel_rfl) ?_
 refine kSeq ?_
 refine cSeq ?_
 refine cReg ?_
 refine segH 3 (T1 := (mkT 24 [(1, vN n), (2, vP 3 0), (5, vP 3 3), (6, vS 0 A.length), (7, vN n)])) (by kernel_rfl) ?_
 refine rCall (v := vN (n - A.length)) (args := [vS 0 A.length, vN n]) (by kernel_rfl) rfl (by kernel_rfl) (Sound.lay0 [0] (szI_S A n (by first | omega | assumption | (simp; done) | (simp; omega)) (by first | omega | assumption | decide)) ⟨rdF false (flatNums _ _ _ _) rfl rfl, trivial⟩ rfl ⟨clF (flatNums _ _ _ _), trivial⟩ rfl (by first | rfl | simp [mpV, mpA, mpS, mpP, renId, shift]) rfl) ?_
 refine segEndH [1, 2] (T1 := (mkT 24 [(1, vN (n - A.length)), (2, vP 3 0)])) (by kernel_rfl) ?_
 refine kSeq ?_
 refine cSeq ?_
 refine cSeq ?_
 refine cReg ?_
 refine segEndH [1, 2, 10] (T1 := (mkT 24 [(1, vN (n - A.length)), (2, vP 3 0), (10, .bool (decide (((n - A.length : Nat) : Int) < 0)))])) (by kernel_rfl) ?_
 refine kSeq ?_
 cases h1 : (decide (((n - A.length : Nat) : Int) < 0) : Bool)
 ·
  (try simp only [bs0, bs1, bs2, bs3, beq_iff_eq, bne_iff_ne, beq_eq_false_iff_ne, bne_eq_false_iff_eq, ne_eq, bs4, bs5, bs6, bs7, bs8, bs9, bs10, bs11, ge_iff_le, gt_iff_lt] at h1)
  refine cFalse (by kernel_rfl) ?_
  refine cSkip ?_
  refine kSeq ?_
  refine cSeq ?_
  refine cReg ?_
  refine segH 3 (T1 := (mkT 24 [(1, vN (n - A.length)), (2, vP 3 0), (10, .bool false), (11, vP 3 4), (12, vS 1 B.length), (13, vN (n - A.length))])) (by kernel_rfl) ?_
  refine rCall (v := vI (-1)) (args := [vS 1 B.length, vN (n - A.length)]) (by kernel_rfl) rfl (by kernel_rfl) (Sound.lay0 [1] (szI_G B (n - A.length) (by first | omega | assumption | (simp; done) | (simp; omega)) (by first | assumption | omega | rfl | decide | exact HeapL.list _ _ _ _ | exact HeapL.nil _ _ _ | exact HeapL.all _ _ _ | (apply HeapL.lt64 <;> assumption) | (repeat' (first | assumption | apply or_lt64 | apply and_lt64 | apply andn_lt64 | apply pow_lt64 | (apply HeapL.lt64 <;> assumption)))) (by first | omega | assumption | decide)) ⟨rdF false (flatNums _ _ _ _) rfl rfl, trivial⟩ rfl ⟨clF (flatNums _ _ _ _), trivial⟩ rfl (by first | rfl | simp [mpV, mpA, mpS, mpP, renId, shift]) rfl) ?_
  refine segEndH [1, 2] (T1 := (mkT 24 [(1, vI (-1)), (2, vP 3 0)])) (by kernel_rfl) ?_
  refine kSeq ?_
  refine cSeq ?_
  refine cSeq ?_
  refine cReg ?_
  refine segEndH [1, 2, 16] (T1 := (mkT 24 [(1, vI (-1)), (2, vP 3 0), (16, .bool true)])) (by kernel_rfl) ?_
  refine kSeq ?_
  refine cTrue (by kernel_rfl) ?_
  refine cSeq ?_
  refine cReg ?_
  refine segEndH [4] (T1 := (mkT 24 [(4, vI (-1))])) (by kernel_rfl) ?_
  refine kSeq ?_
  refine cRet ?_
  refine kSeqR ?_
  exact endQ (Or.inr rfl) (l := [vI (-1)]) [rB [vI x, vI y, vI z, vS 0 A.length, vS 1 B.length, vS 2 C.length] 24] (by kernel_rfl) (by first | rfl | kernel_rfl) rfl rfl hcl rfl
 ·
  (try simp only [bs0, bs1, bs2, bs3, beq_iff_eq, bne_iff_ne, beq_eq_false_iff_ne, bne_eq_false_iff_eq, ne_eq, bs4, bs5, bs6, bs7, bs8, bs9, bs10, bs11, ge_iff_le, gt_iff_lt] at h1)
  exfalso; omega
set_option maxRecDepth 100000 in
set_option maxHeartbeats 4000000 in
theorem szSh_sss_C (x : Int) (y : Int) (z : Int) (A : List Int) (B : List Int) (C : List Int) (n : Nat) (hl0 : A.length + B.length ≤ n) (hl : n - A.length - B.length < C.length) (hm : C.length ≤ 9223372036854775807) (hn : n ≤ 1048576) : Sound Try.prog 15 [.agg #[vI x, vI y, vI z, vS 0 A.length, vS 1 B.length, vS 2 C.length], vN n] [nR A, nR B, nR C] (vI (-1)) [nR A, nR B, nR C] := by
 refine sound_intro (C := cx) Try.func15 rfl (by kernel_rfl) fun hcl => ?_
 refine cSeq ?_
 refine cReg ?_
 refine segEnd [1, 2] (T1 := (mkT 24 [(1, vN n), (2, vP 3 0)])) (H1 := [nR A, nR B, nR C, rB [vI x, vI y, vI z, vS 0 A.length, vS 1 B.length, vS 2 C.length] 24]) (by kernel_rfl) ?_
 refine kSeq ?_
 refine cSeq ?_
 refine cReg ?_
 refine segH 3 (T1 := (mkT 24 [(1, vN n), (2, vP 3 0), (5, vP 3 3), (6, vS 0 A.length), (7, vN n)])) (by kernel_rfl) ?_
 refine rCall (v := vN (n - A.length)) (args := [vS 0 A.length, vN n]) (by kernel_rfl) rfl (by kernel_rfl) (Sound.lay0 [0] (szI_S A n (by first | omega | assumption | (simp; done) | (simp; omega)) (by first | omega | assumption | decide)) ⟨rdF false (flatNums _ _ _ _) rfl rfl, trivial⟩ rfl ⟨clF (flatNums _ _ _ _), trivial⟩ rfl (by first | rfl | simp [mpV, mpA, mpS, mpP, renId, shift]) rfl) ?_
 refine segEndH [1, 2] (T1 := (mkT 24 [(1, vN (n - A.length)), (2, vP 3 0)])) (by kernel_rfl) ?_
 refine kSeq ?_
 refine cSeq ?_
 refine cSeq ?_
 refine cReg ?_
 refine segEndH [1, 2, 10] (T1 := (mkT 24 [(1, vN (n - A.length)), (2, vP 3 0), (10, .bool (decide (((n - A.length : Nat) : Int) < 0)))])) (by kernel_rfl) ?_
 refine kSeq ?_
 cases h1 : (decide (((n - A.length : Nat) : Int) < 0) : Bool)
 ·
  (try simp only [bs0, bs1, bs2, bs3, beq_iff_eq, bne_iff_ne, beq_eq_false_iff_ne, bne_eq_false_iff_eq, ne_eq, bs4, bs5, bs6, bs7, bs8, bs9, bs10, bs11, ge_iff_le, gt_iff_lt] at h1)
  refine cFalse (by kernel_rfl) ?_
  refine cSkip ?_
  refine kSeq ?_
  refine cSeq ?_
  refine cReg ?_
  refine segH 3 (T1 := (mkT 24 [(1, vN (n - A.length)), (2, vP 3 0), (10, .bool false), (11, vP 3 4), (12, vS 1 B.length), (13, vN (n - A.length))])) (by kernel_rfl) ?_
  refine rCall (v := vN ((n - A.length) - B.length)) (args := [vS 1 B.length, vN (n - A.length)]) (by kernel_rfl) rfl (by kernel_rfl) (Sound.lay0 [1] (szI_S B (n - A.length) (by first | omega | assumption | (simp; done) | (simp; omega)) (by first | omega | assumption | decide)) ⟨rdF false (flatNums _ _ _ _) rfl rfl, trivial⟩ rfl ⟨clF (flatNums _ _ _ _), trivial⟩ rfl (by first | rfl | simp [mpV, mpA, mpS, mpP, renId, shift]) rfl) ?_
  refine segEndH [1, 2] (T1 := (mkT 24 [(1, vN ((n - A.length) - B.length)), (2, vP 3 0)])) (by kernel_rfl) ?_
  refine kSeq ?_
  refine cSeq ?_
  refine cSeq ?_
  refine cReg ?_
  refine segEndH [1, 2, 16] (T1 := (mkT 24 [(1, vN ((n - A.length) - B.length)), (2, vP 3 0), (16, .bool (decide ((((n - A.length) - B.length : Nat) : Int) < 0)))])) (by kernel_rfl) ?_
  refine kSeq ?_
  cases h2 : (decide ((((n - A.length) - B.length : Nat) : Int) < 0) : Bool)
  ·
   (try simp only [bs0, bs1, bs2, bs3, beq_iff_eq, bne_iff_ne, beq_eq_false_iff_ne, bne_eq_false_iff_eq, ne_eq, bs4, bs5, bs6, bs7, bs8, bs9, bs10, bs11, ge_iff_le, gt_iff_lt] at h2)
   refine cFalse (by kernel_rfl) ?_
   refine cSkip ?_
   refine kSeq ?_
   refine cSeq ?_
   refine cReg ?_
   refine segH 3 (T1 := (mkT 24 [(1, vN ((n - A.length) - B.length)), (2, vP 3 0), (16, .bool false), (17, vP 3 5), (18, vS 2 C.length), (19, vN ((n - A.length) - B.length))])) (by kernel_rfl) ?_
   refine rCall (v := vI (-1)) (args := [vS 2 C.length, vN ((n - A.length) - B.length)]) (by kernel_rfl) rfl (by kernel_rfl) (Sound.lay0 [2] (szI_G C ((n - A.length) - B.length) (by first | omega | assumption | (simp; done) | (simp; omega)) (by first | assumption | omega | rfl | decide | exact HeapL.list _ _ _ _ | exact HeapL.nil _ _ _ | exact HeapL.all _ _ _ | (apply HeapL.lt64 <;> assumption) | (repeat' (first | assumption | apply or_lt64 | apply and_lt64 | apply andn_lt64 | apply pow_lt64 | (apply HeapL.lt64 <;> assumption)))) (by first | omega | assumption | decide)) ⟨rdF false (flatNums _ _ _ _) rfl rfl, trivial⟩ rfl ⟨clF (flatNums _ _ _ _), trivial⟩ rfl (by first | rfl | simp [mpV, mpA, mpS, mpP, renId, shift]) rfl) ?_
   refine segEndH [1] (T1 := (mkT 24 [(1, vI (-1))])) (by kernel_rfl) ?_
   refine kSeq ?_
   refine cSeq ?_
   refine cSeq ?_
   refine cReg ?_
   refine segEndH [1, 22] (T1 := (mkT 24 [(1, vI (-1)), (22, .bool true)])) (by kernel_rfl) ?_
   refine kSeq ?_
   refine cTrue (by kernel_rfl) ?_
   refine cSeq ?_
   refine cReg ?_
   refine segEndH [4] (T1 := (mkT 24 [(4, vI (-1))])) (by kernel_rfl) ?_
   refine kSeq ?_
   refine cRet ?_
   refine kSeqR ?_
   exact endQ (Or.inr rfl) (l := [vI (-1)]) [rB [vI x, vI y, vI z, vS 0 A.length, vS 1 B.length, vS 2 C.length] 24] (by kernel_rfl) (by first | rfl | kernel_rfl) rfl rfl hcl rfl
  ·
   (try simp only [bs0, bs1, bs2, bs3, beq_iff_eq, bne_iff_ne, beq_eq_false_iff_ne, bne_eq_false_iff_eq, ne_eq, bs4, bs5, bs6, bs7, bs8, bs9, bs10, bs11, ge_iff_le, gt_iff_lt] at h2)
   exfalso; omega
 ·
  (try simp only [bs0, bs1, bs2, bs3, beq_iff_eq, bne_iff_ne, beq_eq_false_iff_ne, bne_eq_false_iff_eq, ne_eq, bs4, bs5, bs6, bs7, bs8, bs9, bs10, bs11, ge_iff_le, gt_iff_lt] at h1)
  exfalso; omega
set_option maxRecDepth 100000 in
set_option maxHeartbeats 4000000 in
theorem toSh_sss (x : Int) (y : Int) (z : Int) (A : List Int) (B : List Int) (C : List Int) (hA : A.length ≤ 1048576) (hB : B.length ≤ 1048576) (hC : C.length ≤ 1048576) : Sound Try.prog 17 [.agg #[vI x, vI y, vI z, vS 0 A.length, vS 1 B.length, vS 2 C.length]] [nR A, nR B, nR C] (.agg #[vI x, vI y, vI z, vS 3 A.length, vS 4 B.length, vS 5 C.length]) [nR A, nR B, nR C, nW A, nW B, nW C] := by
 refine sound_intro (C := cx) Try.func17 rfl (by kernel_rfl) fun hcl => ?_
 refine cSeq ?_
 refine cReg ?_
 refine segEnd [1, 2] (T1 := (mkT 26 [(1, vP 3 0), (2, vP 4 0)])) (H1 := [nR A, nR B, nR C, rB [vI x, vI y, vI z, vS 0 A.length, vS 1 B.length, vS 2 C.length] 24, rB [vI 0, vI 0, vI 0, .slice none 0 0, .slice none 0 0, .slice none 0 0] 27]) (by kernel_rfl) ?_
 refine kSeq ?_
 refine cSeq ?_
 refine cReg ?_
 refine segEnd [1, 2, 3] (T1 := (mkT 26 [(1, vP 3 0), (2, vP 4 0), (3, vP 5 0)])) (H1 := [nR A, nR B, nR C, rB [vI x, vI y, vI z, vS 0 A.length, vS 1 B.length, vS 2 C.length] 24, rB [vI 0, vI 0, vI 0, .slice none 0 0, .slice none 0 0, .slice none 0 0] 27, rB [vI 0, vI 0, vI 0, .slice none 0 0, .slice none 0 0, .slice none 0 0] 27]) (by kernel_rfl) ?_
 refine kSeq ?_
 refine cSeq ?_
 refine cReg ?_
 refine segEnd [1, 2, 3] (T1 := (mkT 26 [(1, vP 3 0), (2, vP 4 0), (3, vP 5 0)])) (H1 := [nR A, nR B, nR C, rB [vI x, vI y, vI z, vS 0 A.length, vS 1 B.length, vS 2 C.length] 24, rB [vI 0, vI 0, vI 0, .slice none 0 0, .slice none 0 0, .slice none 0 0] 27, rB [vI x, vI 0, vI 0, .slice none 0 0, .slice none 0 0, .slice none 0 0] 27]) (by kernel_rfl) ?_
 refine kSeq ?_
 refine cSeq ?_
 refine cReg ?_
 refine segEnd [1, 2, 3] (T1 := (mkT 26 [(1, vP 3 0), (2, vP 4 0), (3, vP 5 0)])) (H1 := [nR A, nR B, nR C, rB [vI x, vI y, vI z, vS 0 A.length, vS 1 B.length, vS 2 C.length] 24, rB [vI 0, vI 0, vI 0, .slice none 0 0, .slice none 0 0, .slice none 0 0] 27, rB [vI x, vI y, vI 0, .slice none 0 0, .slice none 0 0, .slice none 0 0] 27]) (by kernel_rfl) ?_
 refine kSeq ?_
 refine cSeq ?_
 refine cReg ?_
 refine segEnd [1, 2, 3] (T1 := (mkT 26 [(1, vP 3 0), (2, vP 4 0), (3, vP 5 0)])) (H1 := [nR A, nR B, nR C, rB [vI x, vI y, vI z, vS 0 A.length, vS 1 B.length, vS 2 C.length] 24, rB [vI 0, vI 0, vI 0, .slice none 0 0, .slice none 0 0, .slice none 0 0] 27, rB [vI x, vI y, vI z, .slice none 0 0, .slice none 0 0, .slice none 0 0] 27]) (by kernel_rfl) ?_
 refine kSeq ?_
 refine cSeq ?_
 refine cReg ?_
 refine segH 2 (T1 := (mkT 26 [(1, vP 3 0), (2, vP 4 0), (3, vP 5 0), (13, vP 3 3), (14, vS 0 A.length)])) (by kernel_rfl) ?_
 refine rCall (v := vS 6 A.length) (args := [vS 0 A.length]) (by kernel_rfl) rfl (by kernel_rfl) (Sound.lay (E := [nW A]) [0] (toI_S A (by first | omega | assumption | (simp; done) | (simp; omega))) ⟨rdF false (flatNums _ _ _ _) rfl rfl, trivial⟩ rfl ⟨clF (flatNums _ _ _ _), trivial⟩ rfl (by first | rfl | simp [mpV, mpA, mpS, mpP, renId, shift]) rfl ⟨enF (flatNums _ _ _ _) (Or.inl rfl), trivial⟩) ?_
 refine segEnd [1, 2, 3] (T1 := (mkT 26 [(1, vP 3 0), (2, vP 4 0), (3, vP 5 0)])) (H1 := [nR A, nR B, nR C, rB [vI x, vI y, vI z, vS 0 A.length, vS 1 B.length, vS 2 C.length] 24, rB [vI 0, vI 0, vI 0, .slice none 0 0, .slice none 0 0, .slice none 0 0] 27, rB [vI x, vI y, vI z, vS 6 A.length, .slice none 0 0, .slice none 0 0] 27, nW A]) (by kernel_rfl) ?_
 refine kSeq ?_
 refine cSeq ?_
 refine cReg ?_
 refine segH 2 (T1 := (mkT 26 [(1, vP 3 0), (2, vP 4 0), (3, vP 5 0), (17, vP 3 4), (18, vS 1 B.length)])) (by kernel_rfl) ?_
 refine rCall (v := vS 7 B.length) (args := [vS 1 B.length]) (by kernel_rfl) rfl (by kernel_rfl) (Sound.lay (E := [nW B]) [1] (toI_S B (by first | omega | assumption | (simp; done) | (simp; omega))) ⟨rdF false (flatNums _ _ _ _) rfl rfl, trivial⟩ rfl ⟨clF (flatNums _ _ _ _), trivial⟩ rfl (by first | rfl | simp [mpV, mpA, mpS, mpP, renId, shift]) rfl ⟨enF (flatNums _ _ _ _) (Or.inl rfl), trivial⟩) ?_
 refine segEnd [1, 2, 3] (T1 := (mkT 26 [(1, vP 3 0), (2, vP 4 0), (3, vP 5 0)])) (H1 := [nR A, nR B, nR C, rB [vI x, vI y, vI z, vS 0 A.length, vS 1 B.length, vS 2 C.length] 24, rB [vI 0, vI 0, vI 0, .slice none 0 0, .slice none 0 0, .slice none 0 0] 27, rB [vI x, vI y, vI z, vS 6 A.length, vS 7 B.length, .slice none 0 0] 27, nW A, nW B]) (by kernel_rfl) ?_
 refine kSeq ?_
 refine cSeq ?_
 refine cReg ?_
 refine segH 2 (T1 := (mkT 26 [(1, vP 3 0), (2, vP 4 0), (3, vP 5 0), (21, vP 3 5), (22, vS 2 C.length)])) (by kernel_rfl) ?_
 refine rCall (v := vS 8 C.length) (args := [vS 2 C.length]) (by kernel_rfl) rfl (by kernel_rfl) (Sound.lay (E := [nW C]) [2] (toI_S C (by first | omega | assumption | (simp; done) | (simp; omega))) ⟨rdF false (flatNums _ _ _ _) rfl rfl, trivial⟩ rfl ⟨clF (flatNums _ _ _ _), trivial⟩ rfl (by first | rfl | simp [mpV, mpA, mpS, mpP, renId, shift]) rfl ⟨enF (flatNums _ _ _ _) (Or.inl rfl), trivial⟩) ?_
 refine segEnd [2, 3] (T1 := (mkT 26 [(2, vP 4 0), (3, vP 5 0)])) (H1 := [nR A, nR B, nR C, rB [vI x, vI y, vI z, vS 0 A.length, vS 1 B.length, vS 2 C.length] 24, rB [vI 0, vI 0, vI 0, .slice none 0 0, .slice none 0 0, .slice none 0 0] 27, rB [vI x, vI y, vI z, vS 6 A.length, vS 7 B.length, vS 8 C.length] 27, nW A, nW B, nW C]) (by kernel_rfl) ?_
 refine kSeq ?_
 refine cSeq ?_
 refine cReg ?_
 refine segEnd [2] (T1 := (mkT 26 [(2, vP 4 0)])) (H1 := [nR A, nR B, nR C, rB [vI x, vI y, vI z, vS 0 A.length, vS 1 B.length, vS 2 C.length] 24, rB [vI x, vI y, vI z, vS 6 A.length, vS 7 B.length, vS 8 C.length] 27, rB [vI x, vI y, vI z, vS 6 A.length, vS 7 B.length, vS 8 C.length] 27, nW A, nW B, nW C]) (by kernel_rfl) ?_
 refine kSeq ?_
 refine cRet ?_
 exact endF (Or.inr rfl) (l := [.agg #[vI x, vI y, vI z, vS 6 A.length, vS 7 B.length, vS 8 C.length]]) [0, 1, 2, 6, 7, 8] (by kernel_rfl) (by first | rfl | simp [packR, mpV, mpA, mpS, mpP, renId]) ⟨rrF (flatNums _ _ _ _) rfl, ⟨rrF (flatNums _ _ _ _) rfl, ⟨rrF (flatNums _ _ _ _) rfl, ⟨rrF (flatNums _ _ _ _) rfl, ⟨rrF (flatNums _ _ _ _) rfl, ⟨rrF (flatNums _ _ _ _) rfl, trivial⟩⟩⟩⟩⟩⟩ rfl rfl
set_option maxRecDepth 100000 in
set_option maxHeartbeats 4000000 in
theorem szSh_ssn (x : Int) (y : Int) (z : Int) (A : List Int) (B : List Int) (n : Nat) (hl : A.length + B.length ≤ n) (hn : n ≤ 1048576) : Sound Try.prog 15 [.agg #[vI x, vI y, vI z, vS 0 A.length, vS 1 B.length, .slice none 0 0], vN n] [nR A, nR B] (vN (n - A.length - B.length)) [nR A, nR B] := by
 refine sound_intro (C := cx) Try.func15 rfl (by kernel_rfl) fun hcl => ?_
 refine cSeq ?_
 refine cReg ?_
 refine segEnd [1, 2] (T1 := (mkT 24 [(1, vN n), (2, vP 2 0)])) (H1 := [nR A, nR B, rB [vI x, vI y, vI z, vS 0 A.length, vS 1 B.length, .slice none 0 0] 24]) (by kernel_rfl) ?_
 refine kSeq ?_
 refine cSeq ?_
 refine cReg ?_
 refine segH 3 (T1 := (mkT 24 [(1, vN n), (2, vP 2 0), (5, vP 2 3), (6, vS 0 A.length), (7, vN n)])) (by kernel_rfl) ?_
 refine rCall (v := vN (n - A.length)) (args := [vS 0 A.length, vN n]) (by kernel_rfl) rfl (by kernel_rfl) (Sound.lay0 [0] (szI_S A n (by first | omega | assumption | (simp; done) | (simp; omega)) (by first | omega | assumption | decide)) ⟨rdF false (flatNums _ _ _ _) rfl rfl, trivial⟩ rfl ⟨clF (flatNums _ _ _ _), trivial⟩ rfl (by first | rfl | simp [mpV, mpA, mpS, mpP, renId, shift]) rfl) ?_
 refine segEndH [1, 2] (T1 := (mkT 24 [(1, vN (n - A.length)), (2, vP 2 0)])) (by kernel_rfl) ?_
 refine kSeq ?_
 refine cSeq ?_
 refine cSeq ?_
 refine cReg ?_
 refine segEndH [1, 2, 10] (T1 := (mkT 24 [(1, vN (n - A.length)), (2, vP 2 0), (10, .bool (decide (((n - A.length : Nat) : Int) < 0)))])) (by kernel_rfl) ?_
 refine kSeq ?_
 cases h1 : (decide (((n - A.length : Nat) : Int) < 0) : Bool)
 ·
  (try simp only [bs0, bs1, bs2, bs3, beq_iff_eq, bne_iff_ne, beq_eq_false_iff_ne, bne_eq_false_iff_eq, ne_eq, bs4, bs5, bs6, bs7, bs8, bs9, bs10, bs11, ge_iff_le, gt_iff_lt] at h1)
  refine cFalse (by kernel_rfl) ?_
  refine cSkip ?_
  refine kSeq ?_
  refine cSeq ?_
  refine cReg ?_
  refine segH 3 (T1 := (mkT 24 [(1, vN (n - A.length)), (2, vP 2 0), (10, .bool false), (11, vP 2 4), (12, vS 1 B.length), (13, vN (n - A.length))])) (by kernel_rfl) ?_
  refine rCall (v := vN ((n - A.length) - B.length)) (args := [vS 1 B.length, vN (n - A.length)]) (by kernel_rfl) rfl (by kernel_rfl) (Sound.lay0 [1] (szI_S B (n - A.length) (by first | omega | assumption | (simp; done) | (simp; omega)) (by first | omega | assumption | decide)) ⟨rdF false (flatNums _ _ _ _) rfl rfl, trivial⟩ rfl ⟨clF (flatNums _ _ _ _), trivial⟩ rfl (by first | rfl | simp [mpV, mpA, mpS, mpP, renId, shift]) rfl) ?_
  refine segEndH [1, 2] (T1 := (mkT 24 [(1, vN ((n - A.length) - B.length)), (2, vP 2 0)])) (by kernel_rfl) ?_
  refine kSeq ?_
  refine cSeq ?_
  refine cSeq ?_
  refine cReg ?_
  refine segEndH [1, 2, 16] (T1 := (mkT 24 [(1, vN ((n - A.length) - B.length)), (2, vP 2 0), (16, .bool (decide ((((n - A.length) - B.length : Nat) : Int) < 0)))])) (by kernel_rfl) ?_
  refine kSeq ?_
  cases h2 : (decide ((((n - A.length) - B.length : Nat) : Int) < 0) : Bool)
  ·
   (try simp only [bs0, bs1, bs2, bs3, beq_iff_eq, bne_iff_ne, beq_eq_false_iff_ne, bne_eq_false_iff_eq, ne_eq, bs4, bs5, bs6, bs7, bs8, bs9, bs10, bs11, ge_iff_le, gt_iff_lt] at h2)
   refine cFalse (by kernel_rfl) ?_
   refine cSkip ?_
   refine kSeq ?_
   refine cSeq ?_
   refine cReg ?_
   refine segH 3 (T1 := (mkT 24 [(1, vN ((n - A.length) - B.length)), (2, vP 2 0), (16, .bool false), (17, vP 2 5), (18, .slice none 0 0), (19, vN ((n - A.length) - B.length))])) (by kernel_rfl) ?_
   refine rCall (v := vN ((n - A.length) - B.length)) (args := [.slice none 0 0, vN ((n - A.length) - B.length)]) (by kernel_rfl) rfl (by kernel_rfl) (Sound.lay0 [] (szI_N ((n - A.length) - B.length) (by first | omega | assumption | decide)) trivial rfl trivial rfl (by first | rfl | simp [mpV, mpA, mpS, mpP, renId, shift]) rfl) ?_
   refine segEndH [1] (T1 := (mkT 24 [(1, vN ((n - A.length) - B.length))])) (by kernel_rfl) ?_
   refine kSeq ?_
   refine cSeq ?_
   refine cSeq ?_
   refine cReg ?_
   refine segEndH [1, 22] (T1 := (mkT 24 [(1, vN ((n - A.length) - B.length)), (22, .bool (decide ((((n - A.length) - B.length : Nat) : Int) < 0)))])) (by kernel_rfl) ?_
   refine kSeq ?_
   cases h3 : (decide ((((n - A.length) - B.length : Nat) : Int) < 0) : Bool)
   ·
    (try simp only [bs0, bs1, bs2, bs3, beq_iff_eq, bne_iff_ne, beq_eq_false_iff_ne, bne_eq_false_iff_eq, ne_eq, bs4, bs5, bs6, bs7, bs8, bs9, bs10, bs11, ge_iff_le, gt_iff_lt] at h3)
    refine cFalse (by kernel_rfl) ?_
    refine cSkip ?_
    refine kSeq ?_
    refine cSeq ?_
    refine cReg ?_
    refine segEndH [4] (T1 := (mkT 24 [(4, vN ((n - A.length) - B.length))])) (by kernel_rfl) ?_
    refine kSeq ?_
    refine cRet ?_
    have he0 : ((n - A.length) - B.length : Nat) = n - A.length - B.length := by first | omega | assumption | rfl | (symm; assumption) | (simp_all; done)
    refine endCast (v1 := vN ((n - A.length) - B.length)) (H1 := [nR A, nR B]) (by first | rfl | ((try rw [← he0]); done) | (simp only [← he0]; done)) (by first | rfl | ((try rw [← he0]); done) | (simp only [← he0]; done)) ?_
    exact endQ (Or.inr rfl) (l := [vN ((n - A.length) - B.length)]) [rB [vI x, vI y, vI z, vS 0 A.length, vS 1 B.length, .slice none 0 0] 24] (by kernel_rfl) (by first | rfl | kernel_rfl) rfl rfl hcl rfl
   ·
    (try simp only [bs0, bs1, bs2, bs3, beq_iff_eq, bne_iff_ne, beq_eq_false_iff_ne, bne_eq_false_iff_eq, ne_eq, bs4, bs5, bs6, bs7, bs8, bs9, bs10, bs11, ge_iff_le, gt_iff_lt] at h3)
    exfalso; omega
  ·
   (try simp only [bs0, bs1, bs2, bs3, beq_iff_eq, bne_iff_ne, beq_eq_false_iff_ne, bne_eq_false_iff_eq, ne_eq, bs4, bs5, bs6, bs7, bs8, bs9, bs10, bs11, ge_iff_le, gt_iff_lt] at h2)
   exfalso; omega
 ·
  (try simp only [bs0, bs1, bs2, bs3, beq_iff_eq, bne_iff_ne, beq_eq_false_iff_ne, bne_eq_false_iff_eq, ne_eq, bs4, bs5, bs6, bs7, bs8, bs9, bs10, bs11, ge_iff_le, gt_iff_lt] at h1)
  exfalso; omega
set_option maxRecDepth 100000 in
set_option maxHeartbeats 4000000 in
theorem szSh_ssn_A (x : Int) (y : Int) (z : Int) (A : List Int) (B : List Int) (n : Nat) (hl : n < A.length) (hm : A.length ≤ 9223372036854775807) (hn : n ≤ 1048576) : Sound Try.prog 15 [.agg #[vI x, vI y, vI z, vS 0 A.length, vS 1 B.length, .slice none 0 0], vN n] [nR A, nR B] (vI (-1)) [nR A, nR B] := by
 refine sound_intro (C := cx) Try.func15 rfl (by kernel_rfl) fun hcl => ?_
 refine cSeq ?_
 refine cReg ?_
 refine segEnd [1, 2] (T1 := (mkT 24 [(1, vN n), (2, vP 2 0)])) (H1 := [nR A, nR B, rB [vI x, vI y, vI z, vS 0 A.length, vS 1 B.length, .slice none 0 0] 24]) (by kernel_rfl) ?_
 refine kSeq ?_
 refine cSeq ?_
 refine cReg ?_
 refine segH 3 (T1 := (mkT 24 [(1, vN n), (2, vP 2 0), (5, vP 2 3), (6, vS 0 A.length), (7, vN n)])) (by kernel_rfl) ?_
 refine rCall (v := vI (-1)) (args := [vS 0 A.length, vN n]) (by kernel_rfl) rfl (by kernel_rfl) (Sound.lay0 [0] (szI_G A n (by first | omega | assumption | (simp; done) | (simp; omega)) (by first | assumption | omega | rfl | decide | exact HeapL.list _ _ _ _ | exact HeapL.nil _ _ _ | exact HeapL.all _ _ _ | (apply HeapL.lt64 <;> assumption) | (repeat' (first | assumption | apply or_lt64 | apply and_lt64 | apply andn_lt64 | apply pow_lt64 | (apply HeapL.lt64 <;> assumption)))) (by first | omega | assumption | decide)) ⟨rdF false (flatNums _ _ _ _) rfl rfl, trivial⟩ rfl ⟨clF (flatNums _ _ _ _), trivial⟩ rfl (by first | rfl | simp [mpV, mpA, mpS, mpP, renId, shift]) rfl) ?_
 refine segEndH [1, 2] (T1 := (mkT 24 [(1, vI (-1)), (2, vP 2 0)])) (by kernel_rfl) ?_
 refine kSeq ?_
 refine cSeq ?_
 refine cSeq ?_
 refine cReg ?_
 refine segEndH [1, 2, 10] (T1 := (mkT 24 [(1, vI (-1)), (2, vP 2 0), (10, .bool true)])) (by kernel_rfl) ?_
 refine kSeq ?_
 refine cTrue (by kernel_rfl) ?_
 refine cSeq ?_
 refine cReg ?_
 refine segEndH [4] (T1 := (mkT 24 [(4, vI (-1))])) (by kernel_rfl) ?_
 refine kSeq ?_
 refine cRet ?_
 refine kSeqR ?_
 exact endQ (Or.inr rfl) (l := [vI (-1)]) [rB [vI x, vI y, vI z, vS 0 A.length, vS 1 B.length, .slice none 0 0] 24] (by kernel_rfl) (by first | rfl | kernel_rfl) rfl rfl hcl rfl
set_option maxRecDepth 100000 in
set_option maxHeartbeats 4000000 in
theorem szSh_ssn_B (x : Int) (y : Int) (z : Int) (A : List Int) (B : List Int) (n : Nat) (hl0 : A.length ≤ n) (hl : n - A.length < B.length) (hm : B.length ≤ 9223372036854775807) (hn : n ≤ 1048576) : Sound Try.prog 15 [.agg #[vI x, vI y, vI z, vS 0 A.length, vS 1 B.length, .slice none 0 0], vN n] [nR A, nR B] (vI (-1)) [nR A, nR B] := by
 refine sound_intro (C := cx) Try.func15 rfl (by kernel_rfl) fun hcl => ?_
 refine cSeq ?_
 refine cReg ?_
 refine segEnd [1, 2] (T1 := (mkT 24 [(1, vN n), (2, vP 2 0)])) (H1 := [nR A, nR B, rB [vI x, vI y, vI z, vS 0 A.length, vS 1 B.length, .slice none 0 0] 24]) (by kernel_rfl) ?_
 refine kSeq ?_
 refine cSeq ?_
 refine cReg ?_
 refine segH 3 (T1 := (mkT 24 [(1, vN n), (2, vP 2 0), (5, vP 2 3), (6, vS 0 A.length), (7, vN n)])) (by kernel_rfl) ?_
 refine rCall (v := vN (n - A.length)) (args := [vS 0 A.length, vN n]) (by kernel_rfl) rfl (by kernel_rfl) (Sound.lay0 [0] (szI_S A n (by first | omega | assumption | (simp; done) | (simp; omega)) (by first | omega | assumption | decide)) ⟨rdF false (flatNums _ _ _ _) rfl rfl, trivial⟩ rfl ⟨clF (flatNums _ _ _ _), trivial⟩ rfl (by first | rfl | simp [mpV, mpA, mpS, mpP, renId, shift]) rfl) ?_
 refine segEndH [1, 2] (T1 := (mkT 24 [(1, vN (n - A.length)), (2, vP 2 0)])) (by kernel_rfl) ?_
 refine kSeq ?_
 refine cSeq ?_
 refine cSeq ?_
 refine cReg ?_
 refine segEndH [1, 2, 10] (T1 := (mkT 24 [(1, vN (n - A.length)), (2, vP 2 0), (10, .bool (decide (((n - A.length : Nat) : Int) < 0)))])) (by kernel_rfl) ?_
 refine kSeq ?_
 cases h1 : (decide (((n - A.length : Nat) : Int) < 0) : Bool)
 ·
  (try simp only [bs0, bs1, bs2, bs3, beq_iff_eq, bne_iff_ne, beq_eq_false_iff_ne, bne_eq_false_iff_eq, ne_eq, bs4, bs5, bs6, bs7, bs8, bs9, bs10, bs11, ge_iff_le, gt_iff_lt] at h1)
  refine cFalse (by kernel_rfl) ?_
  refine cSkip ?_
  refine kSeq ?_
  refine cSeq ?_
  refine cReg ?_
  refine segH 3 (T1 := (mkT 24 [(1, vN (n - A.length)), (2, vP 2 0), (10, .bool false), (11, vP 2 4), (12, vS 1 B.length), (13, vN (n - A.length))])) (by kernel_rfl) ?_
  refine rCall (v := vI (-1)) (args := [vS 1 B.length, vN (n - A.length)]) (by kernel_rfl) rfl (by kernel_rfl) (Sound.lay0 [1] (szI_G B (n - A.length) (by first | omega | assumption | (simp; done) | (simp; omega)) (by first | assumption | omega | rfl | decide | exact HeapL.list _ _ _ _ | exact HeapL.nil _ _ _ | exact HeapL.all _ _ _ | (apply HeapL.lt64 <;> assumption) | (repeat' (first | assumption | apply or_lt64 | apply and_lt64 | apply andn_lt64 | apply pow_lt64 | (apply HeapL.lt64 <;> assumption)))) (by first | omega | assumption | decide)) ⟨rdF false (flatNums _ _ _ _) rfl rfl, trivial⟩ rfl ⟨clF (flatNums _ _ _ _), trivial⟩ rfl (by first | rfl | simp [mpV, mpA, mpS, mpP, renId, shift]) rfl) ?_
  refine segEndH [1, 2] (T1 := (mkT 24 [(1, vI (-1)), (2, vP 2 0)])) (by kernel_rfl) ?_
  refine kSeq ?_
  refine cSeq ?_
  refine cSeq ?_
  refine cReg ?_
  refine segEndH [1, 2, 16] (T1 := (mkT 24 [(1, vI (-1)), (2, vP 2 0), (16, .bool true)])) (by kernel_rfl) ?_
  refine kSeq ?_
  refine cTrue (by kernel_rfl) ?_
  refine cSeq ?_
  refine cReg ?_
  refine segEndH [4] (T1 := (mkT 24 [(4, vI (-1))])) (by kernel_rfl) ?_
  refine kSeq ?_
  refine cRet ?_
  refine kSeqR ?_
  exact endQ (Or.inr rfl) (l := [vI (-1)]) [rB [vI x, vI y, vI z, vS 0 A.length, vS 1 B.length, .slice none 0 0] 24] (by kernel_rfl) (by first | rfl | kernel_rfl) rfl rfl hcl rfl
 ·
  (try simp only [bs0, bs1, bs2, bs3, beq_iff_eq, bne_iff_ne, beq_eq_false_iff_ne, bne_eq_false_iff_eq, ne_eq, bs4, bs5, bs6, bs7, bs8, bs9, bs10, bs11, ge_iff_le, gt_iff_lt] at h1)
  exfalso; omega
set_option maxRecDepth 100000 in
set_option maxHeartbeats 4000000 in
theorem toSh_ssn (x : Int) (y : Int) (z : Int) (A : List Int) (B : List Int) (hA : A.length ≤ 1048576) (hB : B.length ≤ 1048576) : Sound Try.prog 17 [.agg #[vI x, vI y, vI z, vS 0 A.length, vS 1 B.length, .slice none 0 0]] [nR A, nR B] (.agg #[vI x, vI y, vI z, vS 2 A.length, vS 3 B.length, vS 4 0]) [nR A, nR B, nW A, nW B, nW ([] : List Int)] := by
 refine sound_intro (C := cx) Try.func17 rfl (by kernel_rfl) fun hcl => ?_
 refine cSeq ?_
 refine cReg ?_
 refine segEnd [1, 2] (T1 := (mkT 26 [(1, vP 2 0), (2, vP 3 0)])) (H1 := [nR A, nR B, rB [vI x, vI y, vI z, vS 0 A.length, vS 1 B.length, .slice none 0 0] 24, rB [vI 0, vI 0, vI 0, .slice none 0 0, .slice none 0 0, .slice none 0 0] 27]) (by kernel_rfl) ?_
 refine kSeq ?_
 refine cSeq ?_
 refine cReg ?_
 refine segEnd [1, 2, 3] (T1 := (mkT 26 [(1, vP 2 0), (2, vP 3 0), (3, vP 4 0)])) (H1 := [nR A, nR B, rB [vI x, vI y, vI z, vS 0 A.length, vS 1 B.length, .slice none 0 0] 24, rB [vI 0, vI 0, vI 0, .slice none 0 0, .slice none 0 0, .slice none 0 0] 27, rB [vI 0, vI 0, vI 0, .slice none 0 0, .slice none 0 0, .slice none 0 0] 27]) (by kernel_rfl) ?_
 refine kSeq ?_
 refine cSeq ?_
 refine cReg ?_
 refine segEnd [1, 2, 3] (T1 := (mkT 26 [(1, vP 2 0), (2, vP 3 0), (3, vP 4 0)])) (H1 := [nR A, nR B, rB [vI x, vI y, vI z, vS 0 A.length, vS 1 B.length, .slice none 0 0] 24, rB [vI 0, vI 0, vI 0, .slice none 0 0, .slice none 0 0, .slice none 0 0] 27, rB [vI x, vI 0, vI 0, .slice none 0 0, .slice none 0 0, .slice none 0 0] 27]) (by kernel_rfl) ?_
 refine kSeq ?_
 refine cSeq ?_
 refine cReg ?_
 refine segEnd [1, 2, 3] (T1 := (mkT 26 [(1, vP 2 0), (2, vP 3 0), (3, vP 4 0)])) (H1 := [nR A, nR B, rB [vI x, vI y, vI z, vS 0 A.length, vS 1 B.length, .slice none 0 0] 24, rB [vI 0, vI 0, vI 0, .slice none 0 0, .slice none 0 0, .slice none 0 0] 27, rB [vI x, vI y, vI 0, .slice none 0 0, .slice none 0 0, .slice none 0 0] 27]) (by kernel_rfl) ?_
 refine kSeq ?_
 refine cSeq ?_
 refine cReg ?_
 refine segEnd [1, 2, 3] (T1 := (mkT 26 [(1, vP 2 0), (2, vP 3 0), (3, vP 4 0)])) (H1 := [nR A, nR B, rB [vI x, vI y, vI z, vS 0 A.length, vS 1 B.length, .slice none 0 0] 24, rB [vI 0, vI 0, vI 0, .slice none 0 0, .slice none 0 0, .slice none 0 0] 27, rB [vI x, vI y, vI z, .slice none 0 0, .slice none 0 0, .slice none 0 0] 27]) (by kernel_rfl) ?_
 refine kSeq ?_
 refine cSeq ?_
 refine cReg ?_
 refine segH 2 (T1 := (mkT 26 [(1, vP 2 0), (2, vP 3 0), (3, vP 4 0), (13, vP 2 3), (14, vS 0 A.length)])) (by kernel_rfl) ?_
 refine rCall (v := vS 5 A.length) (args := [vS 0 A.length]) (by kernel_rfl) rfl (by kernel_rfl) (Sound.lay (E := [nW A]) [0] (toI_S A (by first | omega | assumption | (simp; done) | (simp; omega))) ⟨rdF false (flatNums _ _ _ _) rfl rfl, trivial⟩ rfl ⟨clF (flatNums _ _ _ _), trivial⟩ rfl (by first | rfl | simp [mpV, mpA, mpS, mpP, renId, shift]) rfl ⟨enF (flatNums _ _ _ _) (Or.inl rfl), trivial⟩) ?_
 refine segEnd [1, 2, 3] (T1 := (mkT 26 [(1, vP 2 0), (2, vP 3 0), (3, vP 4 0)])) (H1 := [nR A, nR B, rB [vI x, vI y, vI z, vS 0 A.length, vS 1 B.length, .slice none 0 0] 24, rB [vI 0, vI 0, vI 0, .slice none 0 0, .slice none 0 0, .slice none 0 0] 27, rB [vI x, vI y, vI z, vS 5 A.length, .slice none 0 0, .slice none 0 0] 27, nW A]) (by kernel_rfl) ?_
 refine kSeq ?_
 refine cSeq ?_
 refine cReg ?_
 refine segH 2 (T1 := (mkT 26 [(1, vP 2 0), (2, vP 3 0), (3, vP 4 0), (17, vP 2 4), (18, vS 1 B.length)])) (by kernel_rfl) ?_
 refine rCall (v := vS 6 B.length) (args := [vS 1 B.length]) (by kernel_rfl) rfl (by kernel_rfl) (Sound.lay (E := [nW B]) [1] (toI_S B (by first | omega | assumption | (simp; done) | (simp; omega))) ⟨rdF false (flatNums _ _ _ _) rfl rfl, trivial⟩ rfl ⟨clF (flatNums _ _ _ _), trivial⟩ rfl (by first | rfl | simp [mpV, mpA, mpS, mpP, renId, shift]) rfl ⟨enF (flatNums _ _ _ _) (Or.inl rfl), trivial⟩) ?_
 refine segEnd [1, 2, 3] (T1 := (mkT 26 [(1, vP 2 0), (2, vP 3 0), (3, vP 4 0)])) (H1 := [nR A, nR B, rB [vI x, vI y, vI z, vS 0 A.length, vS 1 B.length, .slice none 0 0] 24, rB [vI 0, vI 0, vI 0, .slice none 0 0, .slice none 0 0, .slice none 0 0] 27, rB [vI x, vI y, vI z, vS 5 A.length, vS 6 B.length, .slice none 0 0] 27, nW A, nW B]) (by kernel_rfl) ?_
 refine kSeq ?_
 refine cSeq ?_
 refine cReg ?_
 refine segH 2 (T1 := (mkT 26 [(1, vP 2 0), (2, vP 3 0), (3, vP 4 0), (21, vP 2 5), (22, .slice none 0 0)])) (by kernel_rfl) ?_
 refine rCall (v := vS 7 0) (args := [.slice none 0 0]) (by kernel_rfl) rfl (by kernel_rfl) (Sound.lay (E := [nW ([] : List Int)]) [] (toI_N) trivial rfl trivial rfl (by first | rfl | simp [mpV, mpA, mpS, mpP, renId, shift]) rfl ⟨enF (flatNums _ _ _ _) (Or.inl rfl), trivial⟩) ?_
 refine segEnd [2, 3] (T1 := (mkT 26 [(2, vP 3 0), (3, vP 4 0)])) (H1 := [nR A, nR B, rB [vI x, vI y, vI z, vS 0 A.length, vS 1 B.length, .slice none 0 0] 24, rB [vI 0, vI 0, vI 0, .slice none 0 0, .slice none 0 0, .slice none 0 0] 27, rB [vI x, vI y, vI z, vS 5 A.length, vS 6 B.length, vS 7 0] 27, nW A, nW B, nW ([] : List Int)]) (by kernel_rfl) ?_
 refine kSeq ?_
 refine cSeq ?_
 refine cReg ?_
 refine segEnd [2] (T1 := (mkT 26 [(2, vP 3 0)])) (H1 := [nR A, nR B, rB [vI x, vI y, vI z, vS 0 A.length, vS 1 B.length, .slice none 0 0] 24, rB [vI x, vI y, vI z, vS 5 A.length, vS 6 B.length, vS 7 0] 27, rB [vI x, vI y, vI z, vS 5 A.length, vS 6 B.length, vS 7 0] 27, nW A, nW B, nW ([] : List Int)]) (by kernel_rfl) ?_
 refine kSeq ?_
 refine cRet ?_
 exact endF (Or.inr rfl) (l := [.agg #[vI x, vI y, vI z, vS 5 A.length, vS 6 B.length, vS 7 0]]) [0, 1, 5, 6, 7] (by kernel_rfl) (by first | rfl | simp [packR, mpV, mpA, mpS, mpP, renId]) ⟨rrF (flatNums _ _ _ _) rfl, ⟨rrF (flatNums _ _ _ _) rfl, ⟨rrF (flatNums _ _ _ _) rfl, ⟨rrF (flatNums _ _ _ _) rfl, ⟨rrF (flatNums _ _ _ _) rfl, trivial⟩⟩⟩⟩⟩ rfl rfl
set_option maxRecDepth 100000 in
set_option maxHeartbeats 4000000 in
theorem szSh_sns (x : Int) (y : Int) (z : Int) (A : List Int) (C : List Int) (n : Nat) (hl : A.length + C.length ≤ n) (hn : n ≤ 1048576) : Sound Try.prog 15 [.agg #[vI x, vI y, vI z, vS 0 A.length, .slice none 0 0, vS 1 C.length], vN n] [nR A, nR C] (vN (n - A.length - C.length)) [nR A, nR C] := by
 refine sound_intro (C := cx) Try.func15 rfl (by kernel_rfl) fun hcl => ?_
 refine cSeq ?_
 refine cReg ?_
 refine segEnd [1, 2] (T1 := (mkT 24 [(1, vN n), (2, vP 2 0)])) (H1 := [nR A, nR C, rB [vI x, vI y, vI z, vS 0 A.length, .slice none 0 0, vS 1 C.length] 24]) (by kernel_rfl) ?_
 refine kSeq ?_
 refine cSeq ?_
 refine cReg ?_
 refine segH 3 (T1 := (mkT 24 [(1, vN n), (2, vP 2 0), (5, vP 2 3), (6, vS 0 A.length), (7, vN n)])) (by kernel_rfl) ?_
 refine rCall (v := vN (n - A.length)) (args := [vS 0 A.length, vN n]) (by kernel_rfl) rfl (by kernel_rfl) (Sound.lay0 [0] (szI_S A n (by first | omega | assumption | (simp; done) | (simp; omega)) (by first | omega | assumption | decide)) ⟨rdF false (flatNums _ _ _ _) rfl rfl, trivial⟩ rfl ⟨clF (flatNums _ _ _ _), trivial⟩ rfl (by first | rfl | simp [mpV, mpA, mpS, mpP, renId, shift]) rfl) ?_
 refine segEndH [1, 2] (T1 := (mkT 24 [(1, vN (n - A.length)), (2, vP 2 0)])) (by kernel_rfl) ?_
 refine kSeq ?_
 refine cSeq ?_
 refine cSeq ?_
 refine cReg ?_
 refine segEndH [1, 2, 10] (T1 := (mkT 24 [(1, vN (n - A.length)), (2, vP 2 0), (10, .bool (decide (((n - A.length : Nat) : Int) < 0)))])) (by kernel_rfl) ?_
 refine kSeq ?_
 cases h1 : (decide (((n - A.length : Nat) : Int) < 0) : Bool)
 ·
  (try simp only [bs0, bs1, bs2, bs3, beq_iff_eq, bne_iff_ne, beq_eq_false_iff_ne, bne_eq_false_iff_eq, ne_eq, bs4, bs5, bs6, bs7, bs8, bs9, bs10, bs11, ge_iff_le, gt_iff_lt] at h1)
  refine cFalse (by kernel_rfl) ?_
  refine cSkip ?_
  refine kSeq ?_
  refine cSeq ?_
  refine cReg ?_
  refine segH 3 (T1 := (mkT 24 [(1, vN (n - A.length)), (2, vP 2 0), (10, .bool false), (11, vP 2 4), (12, .slice none 0 0), (13, vN (n - A.length))])) (by kernel_rfl) ?_
  refine rCall (v := vN (n - A.length)) (args := [.slice none 0 0, vN (n - A.length)]) (by kernel_rfl) rfl (by kernel_rfl) (Sound.lay0 [] (szI_N (n - A.length) (by first | omega | assumption | decide)) trivial rfl trivial rfl (by first | rfl | simp [mpV, mpA, mpS, mpP, renId, shift]) rfl) ?_
  refine segEndH [1, 2] (T1 := (mkT 24 [(1, vN (n - A.length)), (2, vP 2 0)])) (by kernel_rfl) ?_
  refine kSeq ?_
  refine cSeq ?_
  refine cSeq ?_
  refine cReg ?_
  refine segEndH [1, 2, 16] (T1 := (mkT 24 [(1, vN (n - A.length)), (2, vP 2 0), (16, .bool (decide (((n - A.length : Nat) : Int) < 0)))])) (by kernel_rfl) ?_
  refine kSeq ?_
  cases h2 : (decide (((n - A.length : Nat) : Int) < 0) : Bool)
  ·
   (try simp only [bs0, bs1, bs2, bs3, beq_iff_eq, bne_iff_ne, beq_eq_false_iff_ne, bne_eq_false_iff_eq, ne_eq, bs4, bs5, bs6, bs7, bs8, bs9, bs10, bs11, ge_iff_le, gt_iff_lt] at h2)
   refine cFalse (by kernel_rfl) ?_
   refine cSkip ?_
   refine kSeq ?_
   refine cSeq ?_
   refine cReg ?_
   refine segH 3 (T1 := (mkT 24 [(1, vN (n - A.length)), (2, vP 2 0), (16, .bool false), (17, vP 2 5), (18, vS 1 C.length), (19, vN (n - A.length))])) (by kernel_rfl) ?_
   refine rCall (v := vN ((n - A.length) - C.length)) (args := [vS 1 C.length, vN (n - A.length)]) (by kernel_rfl) rfl (by kernel_rfl) (Sound.lay0 [1] (szI_S C (n - A.length) (by first | omega | assumption | (simp; done) | (simp; omega)) (by first | omega | assumption | decide)) ⟨rdF false (flatNums _ _ _ _) rfl rfl, trivial⟩ rfl ⟨clF (flatNums _ _ _ _), trivial⟩ rfl (by first | rfl | simp [mpV, mpA, mpS, mpP, renId, shift]) rfl) ?_
   refine segEndH [1] (T1 := (mkT 24 [(1, vN ((n - A.length) - C.length))])) (by kernel_rfl) ?_
   refine kSeq ?_
   refine cSeq ?_
   refine cSeq ?_
   refine cReg ?_
   refine segEndH [1, 22] (T1 := (mkT 24 [(1, vN ((n - A.length) - C.length)), (22, .bool (decide ((((n - A.length) - C.length : Nat) : Int) < 0)))])) (by kernel_rfl) ?_
   refine kSeq ?_
   cases h3 : (decide ((((n - A.length) - C.length : Nat) : Int) < 0) : Bool)
   ·
    (try simp only [bs0, bs1, bs2, bs3, beq_iff_eq, bne_iff_ne, beq_eq_false_iff_ne, bne_eq_false_iff_eq, ne_eq, bs4, bs5, bs6, bs7, bs8, bs9, bs10, bs11, ge_iff_le, gt_iff_lt] at h3)
    refine cFalse (by kernel_rfl) ?_
    refine cSkip ?_
    refine kSeq ?_
    refine cSeq ?_
    refine cReg ?_
    refine segEndH [4] (T1 := (mkT 24 [(4, vN ((n - A.length) - C.length))])) (by kernel_rfl) ?_
    refine kSeq ?_
    refine cRet ?_
    have he0 : ((n - A.length) - C.length : Nat) = n - A.length - C.length := by first | omega | assumption | rfl | (symm; assumption) | (simp_all; done)
    refine endCast (v1 := vN ((n - A.length) - C.length)) (H1 := [nR A, nR C]) (by first | rfl | ((try rw [← he0]); done) | (simp only [← he0]; done)) (by first | rfl | ((try rw [← he0]); done) | (simp only [← he0]; done)) ?_
    exact endQ (Or.inr rfl) (l := [vN ((n - A.length) - C.length)]) [rB [vI x, vI y, vI z, vS 0 A.length, .slice none 0 0, vS 1 C.length] 24] (by kernel_rfl) (by first | rfl | kernel_rfl) rfl rfl hcl rfl
   ·
    (try simp only [bs0, bs1, bs2, bs3, beq_iff_eq, bne_iff_ne, beq_eq_false_iff_ne, bne_eq_false_iff_eq, ne_eq, bs4, bs5, bs6, bs7, bs8, bs9, bs10, bs11, ge_iff_le, gt_iff_lt] at h3)
    exfalso; omega
  ·
   (try simp only [bs0, bs1, bs2, bs3, beq_iff_eq, bne_iff_ne, beq_eq_false_iff_ne, bne_eq_false_iff_eq, ne_eq, bs4, bs5, bs6, bs7, bs8, bs9, bs10, bs11, ge_iff_le, gt_iff_lt] at h2)
   exfalso; omega
 ·
  (try simp only [bs0, bs1, bs2, bs3, beq_iff_eq, bne_iff_ne, beq_eq_false_iff_ne, bne_eq_false_iff_eq, ne_eq, bs4, bs5, bs6, bs7, bs8, bs9, bs10, bs11, ge_iff_le, gt_iff_lt] at h1)
  exfalso; omega
set_option maxRecDepth 100000 in
set_option maxHeartbeats 4000000 in
theorem szSh_sns_A (x : Int) (y : Int) (z : Int) (A : List Int) (C : List Int) (n : Nat) (hl : n < A.length) (hm : A.length ≤ 9223372036854775807) (hn : n ≤ 1048576) : Sound Try.prog 15 [.agg #[vI x, vI y, vI z, vS 0 A.length, .slice none 0 0, vS 1 C.length], vN n] [nR A, nR C] (vI (-1)) [nR A, nR C] := by
 refine sound_intro (C := cx) Try.func15 rfl (by kernel_rfl) fun hcl => ?_
 refine cSeq ?_
 refine cReg ?_
 refine segEnd [1, 2] (T1 := (mkT 24 [(1, vN n), (2, vP 2 0)])) (H1 := [nR A, nR C, rB [vI x, vI y, vI z, vS 0 A.length, .slice none 0 0, vS 1 C.length] 24]) (by kernel_rfl) ?_
 refine kSeq ?_
 refine cSeq ?_
 refine cReg ?_
 refine segH 3 (T1 := (mkT 24 [(1, vN n), (2, vP 2 0), (5, vP 2 3), (6, vS 0 A.length), (7, vN n)])) (by kernel_rfl) ?_
 refine rCall (v := vI (-1)) (args := [vS 0 A.length, vN n]) (by kernel_rfl) rfl (by kernel_rfl) (Sound.lay0 [0] (szI_G A n (by first | omega | assumption | (simp; done) | (simp; omega)) (by first | assumption | omega | rfl | decide | exact HeapL.list _ _ _ _ | exact HeapL.nil _ _ _ | exact HeapL.all _ _ _ | (apply HeapL.lt64 <;> assumption) | (repeat' (first | assumption | apply or_lt64 | apply and_lt64 | apply andn_lt64 | apply pow_lt64 | (apply HeapL.lt64 <;> assumption)))) (by first | omega | assumption | decide)) ⟨rdF false (flatNums _ _ _ _) rfl rfl, trivial⟩ rfl ⟨clF (flatNums _ _ _ _), trivial⟩ rfl (by first | rfl | simp [mpV, mpA, mpS, mpP, renId, shift]) rfl) ?_
 refine segEndH [1, 2] (T1 := (mkT 24 [(1, vI (-1)), (2, vP 2 0)])) (by kernel_rfl) ?_
 refine kSeq ?_
 refine cSeq ?_
 refine cSeq ?_
 refine cReg ?_
 refine segEndH [1, 2, 10] (T1 := (mkT 24 [(1, vI (-1)), (2, vP 2 0), (10, .bool true)])) (by kernel_rfl) ?_
 refine kSeq ?_
 refine cTrue (by kernel_rfl) ?_
 refine cSeq ?_
 refine cReg ?_
 refine segEndH [4] (T1 := (mkT 24 [(4, vI (-1))])) (by kernel_rfl) ?_
 refine kSeq ?_
 refine cRet ?_
 refine kSeqR ?_
 exact endQ (Or.inr rfl) (l := [vI (-1)]) [rB [vI x, vI y, vI z, vS 0 A.length, .slice none 0 0, vS 1 C.length] 24] (by kernel_rfl) (by first | rfl | kernel_rfl) rfl rfl hcl rfl
set_option maxRecDepth 100000 in
set_option maxHeartbeats 4000000 in
theorem szSh_sns_C (x : Int) (y : Int) (z : Int) (A : List Int) (C : List Int) (n : Nat) (hl0 : A.length ≤ n) (hl : n - A.length < C.length) (hm : C.length ≤ 9223372036854775807) (hn : n ≤ 1048576) : Sound Try.prog 15 [.agg #[vI x, vI y, vI z, vS 0 A.length, .slice none 0 0, vS 1 C.length], vN n] [nR A, nR C] (vI (-1)) [nR A, nR C] := by
 refine sound_intro (C := cx) Try.func15 rfl (by kernel_rfl) fun hcl => ?_
 refine cSeq ?_
 refine cReg ?_
 refine segEnd [1, 2] (T1 := (mkT 24 [(1, vN n), (2, vP 2 0)])) (H1 := [nR A, nR C, rB [vI x, vI y, vI z, vS 0 A.length, .slice none 0 0, vS 1 C.length] 24]) (by kernel_rfl) ?_
 refine kSeq ?_
 refine cSeq ?_
 refine cReg ?_
 refine segH 3 (T1 := (mkT 24 [(1, vN n), (2, vP 2 0), (5, vP 2 3), (6, vS 0 A.length), (7, vN n)])) (by kernel_rfl) ?_
 refine rCall (v := vN (n - A.length)) (args := [vS 0 A.length, vN n]) (by kernel_rfl) rfl (by kernel_rfl) (Sound.lay0 [0] (szI_S A n (by first | omega | assumption | (simp; done) | (simp; omega)) (by first | omega | assumption | decide)) ⟨rdF false (flatNums _ _ _ _) rfl rfl, trivial⟩ rfl ⟨clF (flatNums _ _ _ _), trivial⟩ rfl (by first | rfl | simp [mpV, mpA, mpS, mpP, renId, shift]) rfl) ?_
 refine segEndH [1, 2] (T1 := (mkT 24 [(1, vN (n - A.length)), (2, vP 2 0)])) (by kernel_rfl) ?_
 refine kSeq ?_
 refine cSeq ?_
 refine cSeq ?_
 refine cReg ?_
 refine segEndH [1, 2, 10] (T1 := (mkT 24 [(1, vN (n - A.length)), (2, vP 2 0), (10, .bool (decide (((n - A.length : Nat) : Int) < 0)))])) (by kernel_rfl) ?_
 refine kSeq ?_
 cases h1 : (decide (((n - A.length : Nat) : Int) < 0) : Bool)
 ·
  (try simp only [bs0, bs1, bs2, bs3, beq_iff_eq, bne_iff_ne, beq_eq_false_iff_ne, bne_eq_false_iff_eq, ne_eq, bs4, bs5, bs6, bs7, bs8, bs9, bs10, bs11, ge_iff_le, gt_iff_lt] at h1)
  refine cFalse (by kernel_rfl) ?_
  refine cSkip ?_
  refine kSeq ?_
  refine cSeq ?_
  refine cReg ?_
  refine segH 3 (T1 := (mkT 24 [(1, vN (n - A.length)), (2, vP 2 0), (10, .bool false), (11, vP 2 4), (12, .slice none 0 0), (13, vN (n - A.length))])) (by kernel_rfl) ?_
  refine rCall (v := vN (n - A.length)) (args := [.slice none 0 0, vN (n - A.length)]) (by kernel_rfl) rfl (by kernel_rfl) (Sound.lay0 [] (szI_N (n - A.length) (by first | omega | assumption | decide)) trivial rfl trivial rfl (by first | rfl | simp [mpV, mpA, mpS, mpP, renId, shift]) rfl) ?_
  refine segEndH [1, 2] (T1 := (mkT 24 [(1, vN (n - A.length)), (2, vP 2 0)])) (by kernel_rfl) ?_
  refine kSeq ?_
  refine cSeq ?_
  refine cSeq ?_
  refine cReg ?_
  refine segEndH [1, 2, 16] (T1 := (mkT 24 [(1, vN (n - A.length)), (2, vP 2 0), (16, .bool (decide (((n - A.length : Nat) : Int) < 0)))])) (by kernel_rfl) ?_
  refine kSeq ?_
  cases h2 : (decide (((n - A.length : Nat) : Int) < 0) : Bool)
  ·
   (try simp only [bs0, bs1, bs2, bs3, beq_iff_eq, bne_iff_ne, beq_eq_false_iff_ne, bne_eq_false_iff_eq, ne_eq, bs4, bs5, bs6, bs7, bs8, bs9, bs10, bs11, ge_iff_le, gt_iff_lt] at h2)
   refine cFalse (by kernel_rfl) ?_
   refine cSkip ?_
   refine kSeq ?_
   refine cSeq ?_
   refine cReg ?_
   refine segH 3 (T1 := (mkT 24 [(1, vN (n - A.length)), (2, vP 2 0), (16, .bool false), (17, vP 2 5), (18, vS 1 C.length), (19, vN (n - A.length))])) (by kernel_rfl) ?_
   refine rCall (v := vI (-1)) (args := [vS 1 C.length, vN (n - A.length)]) (by kernel_rfl) rfl (by kernel_rfl) (Sound.lay0 [1] (szI_G C (n - A.length) (by first | omega | assumption | (simp; done) | (simp; omega)) (by first | assumption | omega | rfl | decide | exact HeapL.list _ _ _ _ | exact HeapL.nil _ _ _ | exact HeapL.all _ _ _ | (apply HeapL.lt64 <;> assumption) | (repeat' (first | assumption | apply or_lt64 | apply and_lt64 | apply andn_lt64 | apply pow_lt64 | (apply HeapL.lt64 <;> assumption)))) (by first | omega | assumption | decide)) ⟨rdF false (flatNums _ _ _ _) rfl rfl, trivial⟩ rfl ⟨clF (flatNums _ _ _ _), trivial⟩ rfl (by first | rfl | simp [mpV, mpA, mpS, mpP, renId, shift]) rfl) ?_
   refine segEndH [1] (T1 := (mkT 24 [(1, vI (-1))])) (by kernel_rfl) ?_
   refine kSeq ?_
   refine cSeq ?_
   refine cSeq ?_
   refine cReg ?_
   refine segEndH [1, 22] (T1 := (mkT 24 [(1, vI (-1)), (22, .bool true)])) (by kernel_rfl) ?_
   refine kSeq ?_
   refine cTrue (by kernel_rfl) ?_
   refine cSeq ?_
   refine cReg ?_
   refine segEndH [4] (T1 := (mkT 24 [(4, vI (-1))])) (by kernel_rfl) ?_
   refine kSeq ?_
   refine cRet ?_
   refine kSeqR ?_
   exact endQ (Or.inr rfl) (l := [vI (-1)]) [rB [vI x, vI y, vI z, vS 0 A.length, .slice none 0 0, vS 1 C.length] 24] (by kernel_rfl) (by first | rfl | kernel_rfl) rfl rfl hcl rfl
  ·
   (try simp only [bs0, bs1, bs2, bs3, beq_iff_eq, bne_iff_ne, beq_eq_false_iff_ne, bne_eq_false_iff_eq, ne_eq, bs4, bs5, bs6, bs7, bs8, bs9, bs10, bs11, ge_iff_le, gt_iff_lt] at h2)
   exfalso; omega
 ·
  (try simp only [bs0, bs1, bs2, bs3, beq_iff_eq, bne_iff_ne, beq_eq_false_iff_ne, bne_eq_false_iff_eq, ne_eq, bs4, bs5, bs6, bs7, bs8, bs9, bs10, bs11, ge_iff_le, gt_iff_lt] at h1)
  exfalso; omega
set_option maxRecDepth 100000 in
set_option maxHeartbeats 4000000 in
theorem toSh_sns (x : Int) (y : Int) (z : Int) (A : List Int) (C : List Int) (hA : A.length ≤ 1048576) (hC : C.length ≤ 1048576) : Sound Try.prog 17 [.agg #[vI x, vI y, vI z, vS 0 A.length, .slice none 0 0, vS 1 C.length]] [nR A, nR C] (.agg #[vI x, vI y, vI z, vS 2 A.length, vS 3 0, vS 4 C.length]) [nR A, nR C, nW A, nW ([] : List Int), nW C] := by
 refine sound_intro (C := cx) Try.func17 rfl (by kernel_rfl) fun hcl => ?_
 refine cSeq ?_
 refine cReg ?_
 refine segEnd [1, 2] (T1 := (mkT 26 [(1, vP 2 0), (2, vP 3 0)])) (H1 := [nR A, nR C, rB [vI x, vI y, vI z, vS 0 A.length, .slice none 0 0, vS 1 C.length] 24, rB [vI 0, vI 0, vI 0, .slice none 0 0, .slice none 0 0, .slice none 0 0] 27]) (by kernel_rfl) ?_
 refine kSeq ?_
 refine cSeq ?_
 refine cReg ?_
 refine segEnd [1, 2, 3] (T1 := (mkT 26 [(1, vP 2 0), (2, vP 3 0), (3, vP 4 0)])) (H1 := [nR A, nR C, rB [vI x, vI y, vI z, vS 0 A.length, .slice none 0 0, vS 1 C.length] 24, rB [vI 0, vI 0, vI 0, .slice none 0 0, .slice none 0 0, .slice none 0 0] 27, rB [vI 0, vI 0, vI 0, .slice none 0 0, .slice none 0 0, .slice none 0 0] 27]) (by kernel_rfl) ?_
 refine kSeq ?_
 refine cSeq ?_
 refine cReg ?_
 refine segEnd [1, 2, 3] (T1 := (mkT 26 [(1, vP 2 0), (2, vP 3 0), (3, vP 4 0)])) (H1 := [nR A, nR C, rB [vI x, vI y, vI z, vS 0 A.length, .slice none 0 0, vS 1 C.length] 24, rB [vI 0, vI 0, vI 0, .slice none 0 0, .slice none 0 0, .slice none 0 0] 27, rB [vI x, vI 0, vI 0, .slice none 0 0, .slice none 0 0, .slice none 0 0] 27]) (by kernel_rfl) ?_
 refine kSeq ?_
 refine cSeq ?_
 refine cReg ?_
 refine segEnd [1, 2, 3] (T1 := (mkT 26 [(1, vP 2 0), (2, vP 3 0), (3, vP 4 0)])) (H1 := [nR A, nR C, rB [vI x, vI y, vI z, vS 0 A.length, .slice none 0 0, vS 1 C.length] 24, rB [vI 0, vI 0, vI 0, .slice none 0 0, .slice none 0 0, .slice none 0 0] 27, rB [vI x, vI y, vI 0, .slice none 0 0, .slice none 0 0, .slice none 0 0] 27]) (by kernel_rfl) ?_
 refine kSeq ?_
 refine cSeq ?_
 refine cReg ?_
 refine segEnd [1, 2, 3] (T1 := (mkT 26 [(1, vP 2 0), (2, vP 3 0), (3, vP 4 0)])) (H1 := [nR A, nR C, rB [vI x, vI y, vI z, vS 0 A.length, .slice none 0 0, vS 1 C.length] 24, rB [vI 0, vI 0, vI 0, .slice none 0 0, .slice none 0 0, .slice none 0 0] 27, rB [vI x, vI y, vI z, .slice none 0 0, .slice none 0 0, .slice none 0 0] 27]) (by kernel_rfl) ?_
 refine kSeq ?_
 refine cSeq ?_
 refine cReg ?_
 refine segH 2 (T1 := (mkT 26 [(1, vP 2 0), (2, vP 3 0), (3, vP 4 0), (13, vP 2 3), (14, vS 0 A.length)])) (by kernel_rfl) ?_
 refine rCall (v := vS 5 A.length) (args := [vS 0 A.length]) (by kernel_rfl) rfl (by kernel_rfl) (Sound.lay (E := [nW A]) [0] (toI_S A (by first | omega | assumption | (simp; done) | (simp; omega))) ⟨rdF false (flatNums _ _ _ _) rfl rfl, trivial⟩ rfl ⟨clF (flatNums _ _ _ _), trivial⟩ rfl (by first | rfl | simp [mpV, mpA, mpS, mpP, renId, shift]) rfl ⟨enF (flatNums _ _ _ _) (Or.inl rfl), trivial⟩) ?_
 refine segEnd [1, 2, 3] (T1 := (mkT 26 [(1, vP 2 0), (2, vP 3 0), (3, vP 4 0)])) (H1 := [nR A, nR C, rB [vI x, vI y, vI z, vS 0 A.length, .slice none 0 0, vS 1 C.length] 24, rB [vI 0, vI 0, vI 0, .slice none 0 0, .slice none 0 0, .slice none 0 0] 27, rB [vI x, vI y, vI z, vS 5 A.length, .slice none 0 0, .slice none 0 0] 27, nW A]) (by kernel_rfl) ?_
 refine kSeq ?_
 refine cSeq ?_
 refine cReg ?_
 refine segH 2 (T1 := (mkT 26 [(1, vP 2 0), (2, vP 3 0), (3, vP 4 0), (17, vP 2 4), (18, .slice none 0 0)])) (by kernel_rfl) ?_
 refine rCall (v := vS 6 0) (args := [.slice none 0 0]) (by kernel_rfl) rfl (by kernel_rfl) (Sound.lay (E := [nW ([] : List Int)]) [] (toI_N) trivial rfl trivial rfl (by first | rfl | simp [mpV, mpA, mpS, mpP, renId, shift]) rfl ⟨enF (flatNums _ _ _ _) (Or.inl rfl), trivial⟩) ?_
 refine segEnd [1, 2, 3] (T1 := (mkT 26 [(1, vP 2 0), (2, vP 3 0), (3, vP 4 0)])) (H1 := [nR A, nR C, rB [vI x, vI y, vI z, vS 0 A.length, .slice none 0 0, vS 1 C.length] 24, rB [vI 0, vI 0, vI 0, .slice none 0 0, .slice none 0 0, .slice none 0 0] 27, rB [vI x, vI y, vI z, vS 5 A.length, vS 6 0, .slice none 0 0] 27, nW A, nW ([] : List Int)]) (by kernel_rfl) ?_
 refine kSeq ?_
 refine cSeq ?_
 refine cReg ?_
 refine segH 2 (T1 := (mkT 26 [(1, vP 2 0), (2, vP 3 0), (3, vP 4 0), (21, vP 2 5), (22, vS 1 C.length)])) (by kernel_rfl) ?_
 refine rCall (v := vS 7 C.length) (args := [vS 1 C.length]) (by kernel_rfl) rfl (by kernel_rfl) (Sound.lay (E := [nW C]) [1] (toI_S C (by first | omega | assumption | (simp; done) | (simp; omega))) ⟨rdF false (flatNums _ _ _ _) rfl rfl, trivial⟩ rfl ⟨clF (flatNums _ _ _ _), trivial⟩ rfl (by first | rfl | simp [mpV, mpA, mpS, mpP, renId, shift]) rfl ⟨enF (flatNums _ _ _ _) (Or.inl rfl), trivial⟩) ?_
 refine segEnd [2, 3] (T1 := (mkT 26 [(2, vP 3 0), (3, vP 4 0)])) (H1 := [nR A, nR C, rB [vI x, vI y, vI z, vS 0 A.length, .slice none 0 0, vS 1 C.length] 24, rB [vI 0, vI 0, vI 0, .slice none 0 0, .slice none 0 0, .slice none 0 0] 27, rB [vI x, vI y, vI z, vS 5 A.length, vS 6 0, vS 7 C.length] 27, nW A, nW ([] : List Int), nW C]) (by kernel_rfl) ?_
 refine kSeq ?_
 refine cSeq ?_
 refine cReg ?_
 refine segEnd [2] (T1 := (mkT 26 [(2, vP 3 0)])) (H1 := [nR A, nR C, rB [vI x, vI y, vI z, vS 0 A.length, .slice none 0 0, vS 1 C.length] 24, rB [vI x, vI y, vI z, vS 5 A.length, vS 6 0, vS 7 C.length] 27, rB [vI x, vI y, vI z, vS 5 A.length, vS 6 0, vS 7 C.length] 27, nW A, nW ([] : List Int), nW C]) (by kernel_rfl) ?_
 refine kSeq ?_
 refine cRet ?_
 exact endF (Or.inr rfl) (l := [.agg #[vI x, vI y, vI z, vS 5 A.length, vS 6 0, vS 7 C.length]]) [0, 1, 5, 6, 7] (by kernel_rfl) (by first | rfl | simp [packR, mpV, mpA, mpS, mpP, renId]) ⟨rrF (flatNums _ _ _ _) rfl, ⟨rrF (flatNums _ _ _ _) rfl, ⟨rrF (flatNums _ _ _ _) rfl, ⟨rrF (flatNums _ _ _ _) rfl, ⟨rrF (flatNums _ _ _ _) rfl, trivial⟩⟩⟩⟩⟩ rfl rfl
set_option maxRecDepth 100000 in
set_option maxHeartbeats 4000000 in
theorem szSh_snn (x : Int) (y : Int) (z : Int) (A : List Int) (n : Nat) (hl : A.length ≤ n) (hn : n ≤ 1048576) : Sound Try.prog 15 [.agg #[vI x, vI y, vI z, vS 0 A.length, .slice none 0 0, .slice none 0 0], vN n] [nR A] (vN (n - A.length)) [nR A] := by
 refine sound_intro (C := cx) Try.func15 rfl (by kernel_rfl) fun hcl => ?_
 refine cSeq ?_
 refine cReg ?_
 refine segEnd [1, 2] (T1 := (mkT 24 [(1, vN n), (2, vP 1 0)])) (H1 := [nR A, rB [vI x, vI y, vI z, vS 0 A.length, .slice none 0 0, .slice none 0 0] 24]) (by kernel_rfl) ?_
 refine kSeq ?_
 refine cSeq ?_
 refine cReg ?_
 refine segH 3 (T1 := (mkT 24 [(1, vN n), (2, vP 1 0), (5, vP 1 3), (6, vS 0 A.length), (7, vN n)])) (by kernel_rfl) ?_
 refine rCall (v := vN (n - A.length)) (args := [vS 0 A.length, vN n]) (by kernel_rfl) rfl (by kernel_rfl) (Sound.lay0 [0] (szI_S A n (by first | omega | assumption | (simp; done) | (simp; omega)) (by first | omega | assumption | decide)) ⟨rdF false (flatNums _ _ _ _) rfl rfl, trivial⟩ rfl ⟨clF (flatNums _ _ _ _), trivial⟩ rfl (by first | rfl | simp [mpV, mpA, mpS, mpP, renId, shift]) rfl) ?_
 refine segEndH [1, 2] (T1 := (mkT 24 [(1, vN (n - A.length)), (2, vP 1 0)])) (by kernel_rfl) ?_
 refine kSeq ?_
 refine cSeq ?_
 refine cSeq ?_
 refine cReg ?_
 refine segEndH [1, 2, 10] (T1 := (mkT 24 [(1, vN (n - A.length)), (2, vP 1 0), (10, .bool (decide (((n - A.length : Nat) : Int) < 0)))])) (by kernel_rfl) ?_
 refine kSeq ?_
 cases h1 : (decide (((n - A.length : Nat) : Int) < 0) : Bool)
 ·
  (try simp only [bs0, bs1, bs2, bs3, beq_iff_eq, bne_iff_ne, beq_eq_false_iff_ne, bne_eq_false_iff_eq, ne_eq, bs4, bs5, bs6, bs7, bs8, bs9, bs10, bs11, ge_iff_le, gt_iff_lt] at h1)
  refine cFalse (by kernel_rfl) ?_
  refine cSkip ?_
  refine kSeq ?_
  refine cSeq ?_
  refine cReg ?_
  refine segH 3 (T1 := (mkT 24 [(1, vN (n - A.length)), (2, vP 1 0), (10, .bool false), (11, vP 1 4), (12, .slice none 0 0), (13, vN (n - A.length))])) (by kernel_rfl) ?_
  refine rCall (v := vN (n - A.length)) (args := [.slice none 0 0, vN (n - A.length)]) (by kernel_rfl) rfl (by kernel_rfl) (Sound.lay0 [] (szI_N (n - A.length) (by first | omega | assumption | decide)) trivial rfl trivial rfl (by first | rfl | simp [mpV, mpA, mpS, mpP, renId, shift]) rfl) ?_
  refine segEndH [1, 2] (T1 := (mkT 24 [(1, vN (n - A.length)), (2, vP 1 0)])) (by kernel_rfl) ?_
  refine kSeq ?_
  refine cSeq ?_
  refine cSeq ?_
  refine cReg ?_
  refine segEndH [1, 2, 16] (T1 := (mkT 24 [(1, vN (n - A.length)), (2, vP 1 0), (16, .bool (decide (((n - A.length : Nat) : Int) < 0)))])) (by kernel_rfl) ?_
  refine kSeq ?_
  cases h2 : (decide (((n - A.length : Nat) : Int) < 0) : Bool)
  ·
   (try simp only [bs0, bs1, bs2, bs3, beq_iff_eq, bne_iff_ne, beq_eq_false_iff_ne, bne_eq_false_iff_eq, ne_eq, bs4, bs5, bs6, bs7, bs8, bs9, bs10, bs11, ge_iff_le, gt_iff_lt] at h2)
   refine cFalse (by kernel_rfl) ?_
   refine cSkip ?_
   refine kSeq ?_
   refine cSeq ?_
   refine cReg ?_
   refine segH 3 (T1 := (mkT 24 [(1, vN (n - A.length)), (2, vP 1 0), (16, .bool false), (17, vP 1 5), (18, .slice none 0 0), (19, vN (n - A.length))])) (by kernel_rfl) ?_
   refine rCall (v := vN (n - A.length)) (args := [.slice none 0 0, vN (n - A.length)]) (by kernel_rfl) rfl (by kernel_rfl) (Sound.lay0 [] (szI_N (n - A.length) (by first | omega | assumption | decide)) trivial rfl trivial rfl (by first | rfl | simp [mpV, mpA, mpS, mpP, renId, shift]) rfl) ?_
   refine segEndH [1] (T1 := (mkT 24 [(1, vN (n - A.length))])) (by kernel_rfl) ?_
   refine kSeq ?_
   refine cSeq ?_
   refine cSeq ?_
   refine cReg ?_
   refine segEndH [1, 22] (T1 := (mkT 24 [(1, vN (n - A.length)), (22, .bool (decide (((n - A.length : Nat) : Int) < 0)))])) (by kernel_rfl) ?_
   refine kSeq ?_
   cases h3 : (decide (((n - A.length : Nat) : Int) < 0) : Bool)
   ·
    (try simp only [bs0, bs1, bs2, bs3, beq_iff_eq, bne_iff_ne, beq_eq_false_iff_ne, bne_eq_false_iff_eq, ne_eq, bs4, bs5, bs6, bs7, bs8, bs9, bs10, bs11, ge_iff_le, gt_iff_lt] at h3)
    refine cFalse (by kernel_rfl) ?_
    refine cSkip ?_
    refine kSeq ?_
    refine cSeq ?_
    refine cReg ?_
    refine segEndH [4] (T1 := (mkT 24 [(4, vN (n - A.length))])) (by kernel_rfl) ?_
    refine kSeq ?_
    refine cRet ?_
    exact endQ (Or.inr rfl) (l := [vN (n - A.length)]) [rB [vI x, vI y, vI z, vS 0 A.length, .slice none 0 0, .slice none 0 0] 24] (by kernel_rfl) (by first | rfl | kernel_rfl) rfl rfl hcl rfl
   ·
    (try simp only [bs0, bs1, bs2, bs3, beq_iff_eq, bne_iff_ne, beq_eq_false_iff_ne, bne_eq_false_iff_eq, ne_eq, bs4, bs5, bs6, bs7, bs8, bs9, bs10, bs11, ge_iff_le, gt_iff_lt] at h3)
    exfalso; omega
  ·
   (try simp only [bs0, bs1, bs2, bs3, beq_iff_eq, bne_iff_ne, beq_eq_false_iff_ne, bne_eq_false_iff_eq, ne_eq, bs4, bs5, bs6, bs7, bs8, bs9, bs10, bs11, ge_iff_le, gt_iff_lt] at h2)
   exfalso; omega
 ·
  (try simp only [bs0, bs1, bs2, bs3, beq_iff_eq, bne_iff_ne, beq_eq_false_iff_ne, bne_eq_false_iff_eq, ne_eq, bs4, bs5, bs6, bs7, bs8, bs9, bs10, bs11, ge_iff_le, gt_iff_lt] at h1)
  exfalso; omega
set_option maxRecDepth 100000 in
set_option maxHeartbeats 4000000 in
theorem szSh_snn_A (x : Int) (y : Int) (z : Int) (A : List Int) (n : Nat) (hl : n < A.length) (hm : A.length ≤ 9223372036854775807) (hn : n ≤ 1048576) : Sound Try.prog 15 [.agg #[vI x, vI y, vI z, vS 0 A.length, .slice none 0 0, .slice none 0 0], vN n] [nR A] (vI (-1)) [nR A] := by
 refine sound_intro (C := cx) Try.func15 rfl (by kernel_rfl) fun hcl => ?_
 refine cSeq ?_
 refine cReg ?_
 refine segEnd [1, 2] (T1 := (mkT 24 [(1, vN n), (2, vP 1 0)])) (H1 := [nR A, rB [vI x, vI y, vI z, vS 0 A.length, .slice none 0 0, .slice none 0 0] 24]) (by kernel_rfl) ?_
 refine kSeq ?_
 refine cSeq ?_
 refine cReg ?_
 refine segH 3 (T1 := (mkT 24 [(1, vN n), (2, vP 1 0), (5, vP 1 3), (6, vS 0 A.length), (7, vN n)])) (by kernel_rfl) ?_
 refine rCall (v := vI (-1)) (args := [vS 0 A.length, vN n]) (by kernel_rfl) rfl (by kernel_rfl) (Sound.lay0 [0] (szI_G A n (by first | omega | assumption | (simp; done) | (simp; omega)) (by first | assumption | omega | rfl | decide | exact HeapL.list _ _ _ _ | exact HeapL.nil _ _ _ | exact HeapL.all _ _ _ | (apply HeapL.lt64 <;> assumption) | (repeat' (first | assumption | apply or_lt64 | apply and_lt64 | apply andn_lt64 | apply pow_lt64 | (apply HeapL.lt64 <;> assumption)))) (by first | omega | assumption | decide)) ⟨rdF false (flatNums _ _ _ _) rfl rfl, trivial⟩ rfl ⟨clF (flatNums _ _ _ _), trivial⟩ rfl (by first | rfl | simp [mpV, mpA, mpS, mpP, renId, shift]) rfl) ?_
 refine segEndH [1, 2] (T1 := (mkT 24 [(1, vI (-1)), (2, vP 1 0)])) (by kernel_rfl) ?_
 refine kSeq ?_
 refine cSeq ?_
 refine cSeq ?_
 refine cReg ?_
 refine segEndH [1, 2, 10] (T1 := (mkT 24 [(1, vI (-1)), (2, vP 1 0), (10, .bool true)])) (by kernel_rfl) ?_
 refine kSeq ?_
 refine cTrue (by kernel_rfl) ?_
 refine cSeq ?_
 refine cReg ?_
 refine segEndH [4] (T1 := (mkT 24 [(4, vI (-1))])) (by kernel_rfl) ?_
 refine kSeq ?_
 refine cRet ?_
 refine kSeqR ?_
 exact endQ (Or.inr rfl) (l := [vI (-1)]) [rB [vI x, vI y, vI z, vS 0 A.length, .slice none 0 0, .slice none 0 0] 24] (by kernel_rfl) (by first | rfl | kernel_rfl) rfl rfl hcl rfl
set_option maxRecDepth 100000 in
set_option maxHeartbeats 4000000 in
theorem toSh_snn (x : Int) (y : Int) (z : Int) (A : List Int) (hA : A.length ≤ 1048576) : Sound Try.prog 17 [.agg #[vI x, vI y, vI z, vS 0 A.length, .slice none 0 0, .slice none 0 0]] [nR A] (.agg #[vI x, vI y, vI z, vS 1 A.length, vS 2 0, vS 3 0]) [nR A, nW A, nW ([] : List Int), nW ([] : List Int)] := by
 refine sound_intro (C := cx) Try.func17 rfl (by kernel_rfl) fun hcl => ?_
 refine cSeq ?_
 refine cReg ?_
 refine segEnd [1, 2] (T1 := (mkT 26 [(1, vP 1 0), (2, vP 2 0)])) (H1 := [nR A, rB [vI x, vI y, vI z, vS 0 A.length, .slice none 0 0, .slice none 0 0] 24, rB [vI 0, vI 0, vI 0, .slice none 0 0, .slice none 0 0, .slice none 0 0] 27]) (by kernel_rfl) ?_
 refine kSeq ?_
 refine cSeq ?_
 refine cReg ?_
 refine segEnd [1, 2, 3] (T1 := (mkT 26 [(1, vP 1 0), (2, vP 2 0), (3, vP 3 0)])) (H1 := [nR A, rB [vI x, vI y, vI z, vS 0 A.length, .slice none 0 0, .slice none 0 0] 24, rB [vI 0, vI 0, vI 0, .slice none 0 0, .slice none 0 0, .slice none 0 0] 27, rB [vI 0, vI 0, vI 0, .slice none 0 0, .slice none 0 0, .slice none 0 0] 27]) (by kernel_rfl) ?_
 refine kSeq ?_
 refine cSeq ?_
 refine cReg ?_
 refine segEnd [1, 2, 3] (T1 := (mkT 26 [(1, vP 1 0), (2, vP 2 0), (3, vP 3 0)])) (H1 := [nR A, rB [vI x, vI y, vI z, vS 0 A.length, .slice none 0 0, .slice none 0 0] 24, rB [vI 0, vI 0, vI 0, .slice none 0 0, .slice none 0 0, .slice none 0 0] 27, rB [vI x, vI 0, vI 0, .slice none 0 0, .slice none 0 0, .slice none 0 0] 27]) (by kernel_rfl) ?_
 refine kSeq ?_
 refine cSeq ?_
 refine cReg ?_
 refine segEnd [1, 2, 3] (T1 := (mkT 26 [(1, vP 1 0), (2, vP 2 0), (3, vP 3 0)])) (H1 := [nR A, rB [vI x, vI y, vI z, vS 0 A.length, .slice none 0 0, .slice none 0 0] 24, rB [vI 0, vI 0, vI 0, .slice none 0 0, .slice none 0 0, .slice none 0 0] 27, rB [vI x, vI y, vI 0, .slice none 0 0, .slice none 0 0, .slice none 0 0] 27]) (by kernel_rfl) ?_
 refine kSeq ?_
 refine cSeq ?_
 refine cReg ?_
 refine segEnd [1, 2, 3] (T1 := (mkT 26 [(1, vP 1 0), (2, vP 2 0), (3, vP 3 0)])) (H1 := [nR A, rB [vI x, vI y, vI z, vS 0 A.length, .slice none 0 0, .slice none 0 0] 24, rB [vI 0, vI 0, vI 0, .slice none 0 0, .slice none 0 0, .slice none 0 0] 27, rB [vI x, vI y, vI z, .slice none 0 0, .slice none 0 0, .slice none 0 0] 27]) (by kernel_rfl) ?_
 refine kSeq ?_
 refine cSeq ?_
 refine cReg ?_
 refine segH 2 (T1 := (mkT 26 [(1, vP 1 0), (2, vP 2 0), (3, vP 3 0), (13, vP 1 3), (14, vS 0 A.length)])) (by kernel_rfl) ?_
 refine rCall (v := vS 4 A.length) (args := [vS 0 A.length]) (by kernel_rfl) rfl (by kernel_rfl) (Sound.lay (E := [nW A]) [0] (toI_S A (by first | omega | assumption | (simp; done) | (simp; omega))) ⟨rdF false (flatNums _ _ _ _) rfl rfl, trivial⟩ rfl ⟨clF (flatNums _ _ _ _), trivial⟩ rfl (by first | rfl | simp [mpV, mpA, mpS, mpP, renId, shift]) rfl ⟨enF (flatNums _ _ _ _) (Or.inl rfl), trivial⟩) ?_
 refine segEnd [1, 2, 3] (T1 := (mkT 26 [(1, vP 1 0), (2, vP 2 0), (3, vP 3 0)])) (H1 := [nR A, rB [vI x, vI y, vI z, vS 0 A.length, .slice none 0 0, .slice none 0 0] 24, rB [vI 0, vI 0, vI 0, .slice none 0 0, .slice none 0 0, .slice none 0 0] 27, rB [vI x, vI y, vI z, vS 4 A.length, .slice none 0 0, .slice none 0 0] 27, nW A]) (by kernel_rfl) ?_
 refine kSeq ?_
 refine cSeq ?_
 refine cReg ?_
 refine segH 2 (T1 := (mkT 26 [(1, vP 1 0), (2, vP 2 0), (3, vP 3 0), (17, vP 1 4), (18, .slice none 0 0)])) (by kernel_rfl) ?_
 refine rCall (v := vS 5 0) (args := [.slice none 0 0]) (by kernel_rfl) rfl (by kernel_rfl) (Sound.lay (E := [nW ([] : List Int)]) [] (toI_N) trivial rfl trivial rfl (by first | rfl | simp [mpV, mpA, mpS, mpP, renId, shift]) rfl ⟨enF (flatNums _ _ _ _) (Or.inl rfl), trivial⟩) ?_
 refine segEnd [1, 2, 3] (T1 := (mkT 26 [(1, vP 1 0), (2, vP 2 0), (3, vP 3 0)])) (H1 := [nR A, rB [vI x, vI y, vI z, vS 0 A.length, .slice none 0 0, .slice none 0 0] 24, rB [vI 0, vI 0, vI 0, .slice none 0 0, .slice none 0 0, .slice none 0 0] 27, rB [vI x, vI y, vI z, vS 4 A.length, vS 5 0, .slice none 0 0] 27, nW A, nW ([] : List Int)]) (by kernel_rfl) ?_
 refine kSeq ?_
 refine cSeq ?_
 refine cReg ?_
 refine segH 2 (T1 := (mkT 26 [(1, vP 1 0), (2, vP 2 0), (3, vP 3 0), (21, vP 1 5), (22, .slice none 0 0)])) (by kernel_rfl) ?_
 refine rCall (v := vS 6 0) (args := [.slice none 0 0]) (by kernel_rfl) rfl (by kernel_rfl) (Sound.lay (E := [nW ([] : List Int)]) [] (toI_N) trivial rfl trivial rfl (by first | rfl | simp [mpV, mpA, mpS, mpP, renId, shift]) rfl ⟨enF (flatNums _ _ _ _) (Or.inl rfl), trivial⟩) ?_
 refine segEnd [2, 3] (T1 := (mkT 26 [(2, vP 2 0), (3, vP 3 0)])) (H1 := [nR A, rB [vI x, vI y, vI z, vS 0 A.length, .slice none 0 0, .slice none 0 0] 24, rB [vI 0, vI 0, vI 0, .slice none 0 0, .slice none 0 0, .slice none 0 0] 27, rB [vI x, vI y, vI z, vS 4 A.length, vS 5 0, vS 6 0] 27, nW A, nW ([] : List Int), nW ([] : List Int)]) (by kernel_rfl) ?_
 refine kSeq ?_
 refine cSeq ?_
 refine cReg ?_
 refine segEnd [2] (T1 := (mkT 26 [(2, vP 2 0)])) (H1 := [nR A, rB [vI x, vI y, vI z, vS 0 A.length, .slice none 0 0, .slice none 0 0] 24, rB [vI x, vI y, vI z, vS 4 A.length, vS 5 0, vS 6 0] 27, rB [vI x, vI y, vI z, vS 4 A.length, vS 5 0, vS 6 0] 27, nW A, nW ([] : List Int), nW ([] : List Int)]) (by kernel_rfl) ?_
 refine kSeq ?_
 refine cRet ?_
 exact endF (Or.inr rfl) (l := [.agg #[vI x, vI y, vI z, vS 4 A.length, vS 5 0, vS 6 0]]) [0, 4, 5, 6] (by kernel_rfl) (by first | rfl | simp [packR, mpV, mpA, mpS, mpP, renId]) ⟨rrF (flatNums _ _ _ _) rfl, ⟨rrF (flatNums _ _ _ _) rfl, ⟨rrF (flatNums _ _ _ _) rfl, ⟨rrF (flatNums _ _ _ _) rfl, trivial⟩⟩⟩⟩ rfl rfl
set_option maxRecDepth 100000 in
set_option maxHeartbeats 4000000 in
theorem szSh_nss (x : Int) (y : Int) (z : Int) (B : List Int) (C : List Int) (n : Nat) (hl : B.length + C.length ≤ n) (hn : n ≤ 1048576) : Sound Try.prog 15 [.agg #[vI x, vI y, vI z, .slice none 0 0, vS 0 B.length, vS 1 C.length], vN n] [nR B, nR C] (vN (n - B.length - C.length)) [nR B, nR C] := by
 refine sound_intro (C := cx) Try.func15 rfl (by kernel_rfl) fun hcl => ?_
 refine cSeq ?_
 refine cReg ?_
 refine segEnd [1, 2] (T1 := (mkT 24 [(1, vN n), (2, vP 2 0)])) (H1 := [nR B, nR C, rB [vI x, vI y, vI z, .slice none 0 0, vS 0 B.length, vS 1 C.length] 24]) (by kernel_rfl) ?_
 refine kSeq ?_
 refine cSeq ?_
 refine cReg ?_
 refine segH 3 (T1 := (mkT 24 [(1, vN n), (2, vP 2 0), (5, vP 2 3), (6, .slice none 0 0), (7, vN n)])) (by kernel_rfl) ?_
 refine rCall (v := vN n) (args := [.slice none 0 0, vN n]) (by kernel_rfl) rfl (by kernel_rfl) (Sound.lay0 [] (szI_N n (by first | omega | assumption | decide)) trivial rfl trivial rfl (by first | rfl | simp [mpV, mpA, mpS, mpP, renId, shift]) rfl) ?_
 refine segEndH [1, 2] (T1 := (mkT 24 [(1, vN n), (2, vP 2 0)])) (by kernel_rfl) ?_
 refine kSeq ?_
 refine cSeq ?_
 refine cSeq ?_
 refine cReg ?_
 refine segEndH [1, 2, 10] (T1 := (mkT 24 [(1, vN n), (2, vP 2 0), (10, .bool (decide (((n : Nat) : Int) < 0)))])) (by kernel_rfl) ?_
 refine kSeq ?_
 cases h1 : (decide (((n : Nat) : Int) < 0) : Bool)
 ·
  (try simp only [bs0, bs1, bs2, bs3, beq_iff_eq, bne_iff_ne, beq_eq_false_iff_ne, bne_eq_false_iff_eq, ne_eq, bs4, bs5, bs6, bs7, bs8, bs9, bs10, bs11, ge_iff_le, gt_iff_lt] at h1)
  refine cFalse (by kernel_rfl) ?_
  refine cSkip ?_
  refine kSeq ?_
  refine cSeq ?_
  refine cReg ?_
  refine segH 3 (T1 := (mkT 24 [(1, vN n), (2, vP 2 0), (10, .bool false), (11, vP 2 4), (12, vS 0 B.length), (13, vN n)])) (by kernel_rfl) ?_
  refine rCall (v := vN (n - B.length)) (args := [vS 0 B.length, vN n]) (by kernel_rfl) rfl (by kernel_rfl) (Sound.lay0 [0] (szI_S B n (by first | omega | assumption | (simp; done) | (simp; omega)) (by first | omega | assumption | decide)) ⟨rdF false (flatNums _ _ _ _) rfl rfl, trivial⟩ rfl ⟨clF (flatNums _ _ _ _), trivial⟩ rfl (by first | rfl | simp [mpV, mpA, mpS, mpP, renId, shift]) rfl) ?_
  refine segEndH [1, 2] (T1 := (mkT 24 [(1, vN (n - B.length)), (2, vP 2 0)])) (by kernel_rfl) ?_
  refine kSeq ?_
  refine cSeq ?_
  refine cSeq ?_
  refine cReg ?_
  refine segEndH [1, 2, 16] (T1 := (mkT 24 [(1, vN (n - B.length)), (2, vP 2 0), (16, .bool (decide (((n - B.length : Nat) : Int) < 0)))])) (by kernel_rfl) ?_
  refine kSeq ?_
  cases h2 : (decide (((n - B.length : Nat) : Int) < 0) : Bool)
  ·
   (try simp only [bs0, bs1, bs2, bs3, beq_iff_eq, bne_iff_ne, beq_eq_false_iff_ne, bne_eq_false_iff_eq, ne_eq, bs4, bs5, bs6, bs7, bs8, bs9, bs10, bs11, ge_iff_le, gt_iff_lt] at h2)
   refine cFalse (by kernel_rfl) ?_
   refine cSkip ?_
   refine kSeq ?_
   refine cSeq ?_
   refine cReg ?_
   refine segH 3 (T1 := (mkT 24 [(1, vN (n - B.length)), (2, vP 2 0), (16, .bool false), (17, vP 2 5), (18, vS 1 C.length), (19, vN (n - B.length))])) (by kernel_rfl) ?_
   refine rCall (v := vN ((n - B.length) - C.length)) (args := [vS 1 C.length, vN (n - B.length)]) (by kernel_rfl) rfl (by kernel_rfl) (Sound.lay0 [1] (szI_S C (n - B.length) (by first | omega | assumption | (simp; done) | (simp; omega)) (by first | omega | assumption | decide)) ⟨rdF false (flatNums _ _ _ _) rfl rfl, trivial⟩ rfl ⟨clF (flatNums _ _ _ _), trivial⟩ rfl (by first | rfl | simp [mpV, mpA, mpS, mpP, renId, shift]) rfl) ?_
   refine segEndH [1] (T1 := (mkT 24 [(1, vN ((n - B.length) - C.length))])) (by kernel_rfl) ?_
   refine kSeq ?_
   refine cSeq ?_
   refine cSeq ?_
   refine cReg ?_
   refine segEndH [1, 22] (T1 := (mkT 24 [(1, vN ((n - B.length) - C.length)), (22, .bool (decide ((((n - B.length) - C.length : Nat) : Int) < 0)))])) (by kernel_rfl) ?_
   refine kSeq ?_
   cases h3 : (decide ((((n - B.length) - C.length : Nat) : Int) < 0) : Bool)
   ·
    (try simp only [bs0, bs1, bs2, bs3, beq_iff_eq, bne_iff_ne, beq_eq_false_iff_ne, bne_eq_false_iff_eq, ne_eq, bs4, bs5, bs6, bs7, bs8, bs9, bs10, bs11, ge_iff_le, gt_iff_lt] at h3)
    refine cFalse (by kernel_rfl) ?_
    refine cSkip ?_
    refine kSeq ?_
    refine cSeq ?_
    refine cReg ?_
    refine segEndH [4] (T1 := (mkT 24 [(4, vN ((n - B.length) - C.length))])) (by kernel_rfl) ?_
    refine kSeq ?_
    refine cRet ?_
    have he0 : ((n - B.length) - C.length : Nat) = n - B.length - C.length := by first | omega | assumption | rfl | (symm; assumption) | (simp_all; done)
    refine endCast (v1 := vN ((n - B.length) - C.length)) (H1 := [nR B, nR C]) (by first | rfl | ((try rw [← he0]); done) | (simp only [← he0]; done)) (by first | rfl | ((try rw [← he0]); done) | (simp only [← he0]; done)) ?_
    exact endQ (Or.inr rfl) (l := [vN ((n - B.length) - C.length)]) [rB [vI x, vI y, vI z, .slice none 0 0, vS 0 B.length, vS 1 C.length] 24] (by kernel_rfl) (by first | rfl | kernel_rfl) rfl rfl hcl rfl
   ·
    (try simp only [bs0, bs1, bs2, bs3, beq_iff_eq, bne_iff_ne, beq_eq_false_iff_ne, bne_eq_false_iff_eq, ne_eq, bs4, bs5, bs6, bs7, bs8, bs9, bs10, bs11, ge_iff_le, gt_iff_lt] at h3)
    exfalso; omega
  ·
   (try simp only [bs0, bs1, bs2, bs3, beq_iff_eq, bne_iff_ne, beq_eq_false_iff_ne, bne_eq_false_iff_eq, ne_eq, bs4, bs5, bs6, bs7, bs8, bs9, bs10, bs11, ge_iff_le, gt_iff_lt] at h2)
   exfalso; omega
 ·
  (try simp only [bs0, bs1, bs2, bs3, beq_iff_eq, bne_iff_ne, beq_eq_false_iff_ne, bne_eq_false_iff_eq, ne_eq, bs4, bs5, bs6, bs7, bs8, bs9, bs10, bs11, ge_iff_le, gt_iff_lt] at h1)
  exfalso; omega
set_option maxRecDepth 100000 in
set_option maxHeartbeats 4000000 in
theorem szSh_nss_B (x : Int) (y : Int) (z : Int) (B : List Int) (C : List Int) (n : Nat) (hl : n < B.length) (hm : B.length ≤ 9223372036854775807) (hn : n ≤ 1048576) : Sound Try.prog 15 [.agg #[vI x, vI y, vI z, .slice none 0 0, vS 0 B.length, vS 1 C.length], vN n] [nR B, nR C] (vI (-1)) [nR B, nR C] := by
 refine sound_intro (C := cx) Try.func15 rfl (by kernel_rfl) fun hcl => ?_
 refine cSeq ?_
 refine cReg ?_
 refine segEnd [1, 2] (T1 := (mkT 24 [(1, vN n), (2, vP 2 0)])) (H1 := [nR B, nR C, rB [vI x, vI y, vI z, .slice none 0 0, vS 0 B.length, vS 1 C.length] 24]) (by kernel_rfl) ?_
 refine kSeq ?_
 refine cSeq ?_
 refine cReg ?_
 refine segH 3 (T1 := (mkT 24 [(1, vN n), (2, vP 2 0), (5, vP 2 3), (6, .slice none 0 0), (7, vN n)])) (by kernel_rfl) ?_
 refine rCall (v := vN n) (args := [.slice none 0 0, vN n]) (by kernel_rfl) rfl (by kernel_rfl) (Sound.lay0 [] (szI_N n (by first | omega | assumption | decide)) trivial rfl trivial rfl (by first | rfl | simp [mpV, mpA, mpS, mpP, renId, shift]) rfl) ?_
 refine segEndH [1, 2] (T1 := (mkT 24 [(1, vN n), (2, vP 2 0)])) (by kernel_rfl) ?_
 refine kSeq ?_
 refine cSeq ?_
 refine cSeq ?_
 refine cReg ?_
 refine segEndH [1, 2, 10] (T1 := (mkT 24 [(1, vN n), (2, vP 2 0), (10, .bool (decide (((n : Nat) : Int) < 0)))])) (by kernel_rfl) ?_
 refine kSeq ?_
 cases h1 : (decide (((n : Nat) : Int) < 0) : Bool)
 ·
  (try simp only [bs0, bs1, bs2, bs3, beq_iff_eq, bne_iff_ne, beq_eq_false_iff_ne, bne_eq_false_iff_eq, ne_eq, bs4, bs5, bs6, bs7, bs8, bs9, bs10, bs11, ge_iff_le, gt_iff_lt] at h1)
  refine cFalse (by kernel_rfl) ?_
  refine cSkip ?_
  refine kSeq ?_
  refine cSeq ?_
  refine cReg ?_
  refine segH 3 (T1 := (mkT 24 [(1, vN n), (2, vP 2 0), (10, .bool false), (11, vP 2 4), (12, vS 0 B.length), (13, vN n)])) (by kernel_rfl) ?_
  refine rCall (v := vI (-1)) (args := [vS 0 B.length, vN n]) (by kernel_rfl) rfl (by kernel_rfl) (Sound.lay0 [0] (szI_G B n (by first | omega | assumption | (simp; done) | (simp; omega)) (by first | assumption | omega | rfl | decide | exact HeapL.list _ _ _ _ | exact HeapL.nil _ _ _ | exact HeapL.all _ _ _ | (apply HeapL.lt64 <;> assumption) | (repeat' (first | assumption | apply or_lt64 | apply and_lt64 | apply andn_lt64 | apply pow_lt64 | (apply HeapL.lt64 <;> assumption)))) (by first | omega | assumption | decide)) ⟨rdF false (flatNums _ _ _ _) rfl rfl, trivial⟩ rfl ⟨clF (flatNums _ _ _ _), trivial⟩ rfl (by first | rfl | simp [mpV, mpA, mpS, mpP, renId, shift]) rfl) ?_
  refine segEndH [1, 2] (T1 := (mkT 24 [(1, vI (-1)), (2, vP 2 0)])) (by kernel_rfl) ?_
  refine kSeq ?_
  refine cSeq ?_
  refine cSeq ?_
  refine cReg ?_
  refine segEndH [1, 2, 16] (T1 := (mkT 24 [(1, vI (-1)), (2, vP 2 0), (16, .bool true)])) (by kernel_rfl) ?_
  refine kSeq ?_
  refine cTrue (by kernel_rfl) ?_
  refine cSeq ?_
  refine cReg ?_
  refine segEndH [4] (T1 := (mkT 24 [(4, vI (-1))])) (by kernel_rfl) ?_
  refine kSeq ?_
  refine cRet ?_
  refine kSeqR ?_
  exact endQ (Or.inr rfl) (l := [vI (-1)]) [rB [vI x, vI y, vI z, .slice none 0 0, vS 0 B.length, vS 1 C.length] 24] (by kernel_rfl) (by first | rfl | kernel_rfl) rfl rfl hcl rfl
 ·
  (try simp only [bs0, bs1, bs2, bs3, beq_iff_eq, bne_iff_ne, beq_eq_false_iff_ne, bne_eq_false_iff_eq, ne_eq, bs4, bs5, bs6, bs7, bs8, bs9, bs10, bs11, ge_iff_le, gt_iff_lt] at h1)
  exfalso; omega
set_option maxRecDepth 100000 in
set_option maxHeartbeats 4000000 in
theorem szSh_nss_C (x : Int) (y : Int) (z : Int) (B : List Int) (C : List Int) (n : Nat) (hl0 : B.length ≤ n) (hl : n - B.length < C.length) (hm : C.length ≤ 9223372036854775807) (hn : n ≤ 1048576) : Sound Try.prog 15 [.agg #[vI x, vI y, vI z, .slice none 0 0, vS 0 B.length, vS 1 C.length], vN n] [nR B, nR C] (vI (-1)) [nR B, nR C] := by
 refine sound_intro (C := cx) Try.func15 rfl (by kernel_rfl) fun hcl => ?_
 refine cSeq ?_
 refine cReg ?_
 refine segEnd [1, 2] (T1 := (mkT 24 [(1, vN n), (2, vP 2 0)])) (H1 := [nR B, nR C, rB [vI x, vI y, vI z, .slice none 0 0, vS 0 B.length, vS 1 C.length] 24]) (by kernel_rfl) ?_
 refine kSeq ?_
 refine cSeq ?_
 refine cReg ?_
 refine segH 3 (T1 := (mkT 24 [(1, vN n), (2, vP 2 0), (5, vP 2 3), (6, .slice none 0 0), (7, vN n)])) (by kernel_rfl) ?_
 refine rCall (v := vN n) (args := [.slice none 0 0, vN n]) (by kernel_rfl) rfl (by kernel_rfl) (Sound.lay0 [] (szI_N n (by first | omega | assumption | decide)) trivial rfl trivial rfl (by first | rfl | simp [mpV, mpA, mpS, mpP, renId, shift]) rfl) ?_
 refine segEndH [1, 2] (T1 := (mkT 24 [(1, vN n), (2, vP 2 0)])) (by kernel_rfl) ?_
 refine kSeq ?_
 refine cSeq ?_
 refine cSeq ?_
 refine cReg ?_
 refine segEndH [1, 2, 10] (T1 := (mkT 24 [(1, vN n), (2, vP 2 0), (10, .bool (decide (((n : Nat) : Int) < 0)))])) (by kernel_rfl) ?_
 refine kSeq ?_
 cases h1 : (decide (((n : Nat) : Int) < 0) : Bool)
 ·
  (try simp only [bs0, bs1, bs2, bs3, beq_iff_eq, bne_iff_ne, beq_eq_false_iff_ne, bne_eq_false_iff_eq, ne_eq, bs4, bs5, bs6, bs7, bs8, bs9, bs10, bs11, ge_iff_le, gt_iff_lt] at h1)
  refine cFalse (by kernel_rfl) ?_
  refine cSkip ?_
  refine kSeq ?_
  refine cSeq ?_
  refine cReg ?_
  refine segH 3 (T1 := (mkT 24 [(1, vN n), (2, vP 2 0), (10, .bool false), (11, vP 2 4), (12, vS 0 B.length), (13, vN n)])) (by kernel_rfl) ?_
  refine rCall (v := vN (n - B.length)) (args := [vS 0 B.length, vN n]) (by kernel_rfl) rfl (by kernel_rfl) (Sound.lay0 [0] (szI_S B n (by first | omega | assumption | (simp; done) | (simp; omega)) (by first | omega | assumption | decide)) ⟨rdF false (flatNums _ _ _ _) rfl rfl, trivial⟩ rfl ⟨clF (flatNums _ _ _ _), trivial⟩ rfl (by first | rfl | simp [mpV, mpA, mpS, mpP, renId, shift]) rfl) ?_
  refine segEndH [1, 2] (T1 := (mkT 24 [(1, vN (n - B.length)), (2, vP 2 0)])) (by kernel_rfl) ?_
  refine kSeq ?_
  refine cSeq ?_
  refine cSeq ?_
  refine cReg ?_
  refine segEndH [1, 2, 16] (T1 := (mkT 24 [(1, vN (n - B.length)), (2, vP 2 0), (16, .bool (decide (((n - B.length : Nat) : Int) < 0)))])) (by kernel_rfl) ?_
  refine kSeq ?_
  cases h2 : (decide (((n - B.length : Nat) : Int) < 0) : Bool)
  ·
   (try simp only [bs0, bs1, bs2, bs3, beq_iff_eq, bne_iff_ne, beq_eq_false_iff_ne, bne_eq_false_iff_eq, ne_eq, bs4, bs5, bs6, bs7, bs8, bs9, bs10, bs11, ge_iff_le, gt_iff_lt] at h2)
   refine cFalse (by kernel_rfl) ?_
   refine cSkip ?_
   refine kSeq ?_
   refine cSeq ?_
   refine cReg ?_
   refine segH 3 (T1 := (mkT 24 [(1, vN (n - B.length)), (2, vP 2 0), (16, .bool false), (17, vP 2 5), (18, vS 1 C.length), (19, vN (n - B.length))])) (by kernel_rfl) ?_
   refine rCall (v := vI (-1)) (args := [vS 1 C.length, vN (n - B.length)]) (by kernel_rfl) rfl (by kernel_rfl) (Sound.lay0 [1] (szI_G C (n - B.length) (by first | omega | assumption | (simp; done) | (simp; omega)) (by first | assumption | omega | rfl | decide | exact HeapL.list _ _ _ _ | exact HeapL.nil _ _ _ | exact HeapL.all _ _ _ | (apply HeapL.lt64 <;> assumption) | (repeat' (first | assumption | apply or_lt64 | apply and_lt64 | apply andn_lt64 | apply pow_lt64 | (apply HeapL.lt64 <;> assumption)))) (by first | omega | assumption | decide)) ⟨rdF false (flatNums _ _ _ _) rfl rfl, trivial⟩ rfl ⟨clF (flatNums _ _ _ _), trivial⟩ rfl (by first | rfl | simp [mpV, mpA, mpS, mpP, renId, shift]) rfl) ?_
   refine segEndH [1] (T1 := (mkT 24 [(1, vI (-1))])) (by kernel_rfl) ?_
   refine kSeq ?_
   refine cSeq ?_
   refine cSeq ?_
   refine cReg ?_
   refine segEndH [1, 22] (T1 := (mkT 24 [(1, vI (-1)), (22, .bool true)])) (by kernel_rfl) ?_
   refine kSeq ?_
   refine cTrue (by kernel_rfl) ?_
   refine cSeq ?_
   refine cReg ?_
   refine segEndH [4] (T1 := (mkT 24 [(4, vI (-1))])) (by kernel_rfl) ?_
   refine kSeq ?_
   refine cRet ?_
   refine kSeqR ?_
   exact endQ (Or.inr rfl) (l := [vI (-1)]) [rB [vI x, vI y, vI z, .slice none 0 0, vS 0 B.length, vS 1 C.length] 24] (by kernel_rfl) (by first | rfl | kernel_rfl) rfl rfl hcl rfl
  ·
   (try simp only [bs0, bs1, bs2, bs3, beq_iff_eq, bne_iff_ne, beq_eq_false_iff_ne, bne_eq_false_iff_eq, ne_eq, bs4, bs5, bs6, bs7, bs8, bs9, bs10, bs11, ge_iff_le, gt_iff_lt] at h2)
   exfalso; omega
 ·
  (try simp only [bs0, bs1, bs2, bs3, beq_iff_eq, bne_iff_ne, beq_eq_false_iff_ne, bne_eq_false_iff_eq, ne_eq, bs4, bs5, bs6, bs7, bs8, bs9, bs10, bs11, ge_iff_le, gt_iff_lt] at h1)
  exfalso; omega
set_option maxRecDepth 100000 in
set_option maxHeartbeats 4000000 in
theorem toSh_nss (x : Int) (y : Int) (z : Int) (B : List Int) (C : List Int) (hB : B.length ≤ 1048576) (hC : C.length ≤ 1048576) : Sound Try.prog 17 [.agg #[vI x, vI y, vI z, .slice none 0 0, vS 0 B.length, vS 1 C.length]] [nR B, nR C] (.agg #[vI x, vI y, vI z, vS 2 0, vS 3 B.length, vS 4 C.length]) [nR B, nR C, nW ([] : List Int), nW B, nW C] := by
 refine sound_intro (C := cx) Try.func17 rfl (by kernel_rfl) fun hcl => ?_
 refine cSeq ?_
 refine cReg ?_
 refine segEnd [1, 2] (T1 := (mkT 26 [(1, vP 2 0), (2, vP 3 0)])) (H1 := [nR B, nR C, rB [vI x, vI y, vI z, .slice none 0 0, vS 0 B.length, vS 1 C.length] 24, rB [vI 0, vI 0, vI 0, .slice none 0 0, .slice none 0 0, .slice none 0 0] 27]) (by kernel_rfl) ?_
 refine kSeq ?_
 refine cSeq ?_
 refine cReg ?_
 refine segEnd [1, 2, 3] (T1 := (mkT 26 [(1, vP 2 0), (2, vP 3 0), (3, vP 4 0)])) (H1 := [nR B, nR C, rB [vI x, vI y, vI z, .slice none 0 0, vS 0 B.length, vS 1 C.length] 24, rB [vI 0, vI 0, vI 0, .slice none 0 0, .slice none 0 0, .slice none 0 0] 27, rB [vI 0, vI 0, vI 0, .slice none 0 0, .slice none 0 0, .slice none 0 0] 27]) (by kernel_rfl) ?_
 refine kSeq ?_
 refine cSeq ?_
 refine cReg ?_
 refine segEnd [1, 2, 3] (T1 := (mkT 26 [(1, vP 2 0), (2, vP 3 0), (3, vP 4 0)])) (H1 := [nR B, nR C, rB [vI x, vI y, vI z, .slice none 0 0, vS 0 B.length, vS 1 C.length] 24, rB [vI 0, vI 0, vI 0, .slice none 0 0, .slice none 0 0, .slice none 0 0] 27, rB [vI x, vI 0, vI 0, .slice none 0 0, .slice none 0 0, .slice none 0 0] 27]) (by kernel_rfl) ?_
 refine kSeq ?_
 refine cSeq ?_
 refine cReg ?_
 refine segEnd [1, 2, 3] (T1 := (mkT 26 [(1, vP 2 0), (2, vP 3 0), (3, vP 4 0)])) (H1 := [nR B, nR C, rB [vI x, vI y, vI z, .slice none 0 0, vS 0 B.length, vS 1 C.length] 24, rB [vI 0, vI 0, vI 0, .slice none 0 0, .slice none 0 0, .slice none 0 0] 27, rB [vI x, vI y, vI 0, .slice none 0 0, .slice none 0 0, .slice none 0 0] 27]) (by kernel_rfl) ?_
 refine kSeq ?_
 refine cSeq ?_
 refine cReg ?_
 refine segEnd [1, 2, 3] (T1 := (mkT 26 [(1, vP 2 0), (2, vP 3 0), (3, vP 4 0)])) (H1 := [nR B, nR C, rB [vI x, vI y, vI z, .slice none 0 0, vS 0 B.length, vS 1 C.length] 24, rB [vI 0, vI 0, vI 0, .slice none 0 0, .slice none 0 0, .slice none 0 0] 27, rB [vI x, vI y, vI z, .slice none 0 0, .slice none 0 0, .slice none 0 0] 27]) (by kernel_rfl) ?_
 refine kSeq ?_
 refine cSeq ?_
 refine cReg ?_
 refine segH 2 (T1 := (mkT 26 [(1, vP 2 0), (2, vP 3 0), (3, vP 4 0), (13, vP 2 3), (14, .slice none 0 0)])) (by kernel_rfl) ?_
 refine rCall (v := vS 5 0) (args := [.slice none 0 0]) (by kernel_rfl) rfl (by kernel_rfl) (Sound.lay (E := [nW ([] : List Int)]) [] (toI_N) trivial rfl trivial rfl (by first | rfl | simp [mpV, mpA, mpS, mpP, renId, shift]) rfl ⟨enF (flatNums _ _ _ _) (Or.inl rfl), trivial⟩) ?_
 refine segEnd [1, 2, 3] (T1 := (mkT 26 [(1, vP 2 0), (2, vP 3 0), (3, vP 4 0)])) (H1 := [nR B, nR C, rB [vI x, vI y, vI z, .slice none 0 0, vS 0 B.length, vS 1 C.length] 24, rB [vI 0, vI 0, vI 0, .slice none 0 0, .slice none 0 0, .slice none 0 0] 27, rB [vI x, vI y, vI z, vS 5 0, .slice none 0 0, .slice none 0 0] 27, nW ([] : List Int)]) (by kernel_rfl) ?_
 refine kSeq ?_
 refine cSeq ?_
 refine cReg ?_
 refine segH 2 (T1 := (mkT 26 [(1, vP 2 0), (2, vP 3 0), (3, vP 4 0), (17, vP 2 4), (18, vS 0 B.length)])) (by kernel_rfl) ?_
 refine rCall (v := vS 6 B.length) (args := [vS 0 B.length]) (by kernel_rfl) rfl (by kernel_rfl) (Sound.lay (E := [nW B]) [0] (toI_S B (by first | omega | assumption | (simp; done) | (simp; omega))) ⟨rdF false (flatNums _ _ _ _) rfl rfl, trivial⟩ rfl ⟨clF (flatNums _ _ _ _), trivial⟩ rfl (by first | rfl | simp [mpV, mpA, mpS, mpP, renId, shift]) rfl ⟨enF (flatNums _ _ _ _) (Or.inl rfl), trivial⟩) ?_
 refine segEnd [1, 2, 3] (T1 := (mkT 26 [(1, vP 2 0), (2, vP 3 0), (3, vP 4 0)])) (H1 := [nR B, nR C, rB [vI x, vI y, vI z, .slice none 0 0, vS 0 B.length, vS 1 C.length] 24, rB [vI 0, vI 0, vI 0, .slice none 0 0, .slice none 0 0, .slice none 0 0] 27, rB [vI x, vI y, vI z, vS 5 0, vS 6 B.length, .slice none 0 0] 27, nW ([] : List Int), nW B]) (by kernel_rfl) ?_
 refine kSeq ?_
 refine cSeq ?_
 refine cReg ?_
 refine segH 2 (T1 := (mkT 26 [(1, vP 2 0), (2, vP 3 0), (3, vP 4 0), (21, vP 2 5), (22, vS 1 C.length)])) (by kernel_rfl) ?_
 refine rCall (v := vS 7 C.length) (args := [vS 1 C.length]) (by kernel_rfl) rfl (by kernel_rfl) (Sound.lay (E := [nW C]) [1] (toI_S C (by first | omega | assumption | (simp; done) | (simp; omega))) ⟨rdF false (flatNums _ _ _ _) rfl rfl, trivial⟩ rfl ⟨clF (flatNums _ _ _ _), trivial⟩ rfl (by first | rfl | simp [mpV, mpA, mpS, mpP, renId, shift]) rfl ⟨enF (flatNums _ _ _ _) (Or.inl rfl), trivial⟩) ?_
 refine segEnd [2, 3] (T1 := (mkT 26 [(2, vP 3 0), (3, vP 4 0)])) (H1 := [nR B, nR C, rB [vI x, vI y, vI z, .slice none 0 0, vS 0 B.length, vS 1 C.length] 24, rB [vI 0, vI 0, vI 0, .slice none 0 0, .slice none 0 0, .slice none 0 0] 27, rB [vI x, vI y, vI z, vS 5 0, vS 6 B.length, vS 7 C.length] 27, nW ([] : List Int), nW B, nW C]) (by kernel_rfl) ?_
 refine kSeq ?_
 refine cSeq ?_
 refine cReg ?_
 refine segEnd [2] (T1 := (mkT 26 [(2, vP 3 0)])) (H1 := [nR B, nR C, rB [vI x, vI y, vI z, .slice none 0 0, vS 0 B.length, vS 1 C.length] 24, rB [vI x, vI y, vI z, vS 5 0, vS 6 B.length, vS 7 C.length] 27, rB [vI x, vI y, vI z, vS 5 0, vS 6 B.length, vS 7 C.length] 27, nW ([] : List Int), nW B, nW C]) (by kernel_rfl) ?_
 refine kSeq ?_
 refine cRet ?_
 exact endF (Or.inr rfl) (l := [.agg #[vI x, vI y, vI z, vS 5 0, vS 6 B.length, vS 7 C.length]]) [0, 1, 5, 6, 7] (by kernel_rfl) (by first | rfl | simp [packR, mpV, mpA, mpS, mpP, renId]) ⟨rrF (flatNums _ _ _ _) rfl, ⟨rrF (flatNums _ _ _ _) rfl, ⟨rrF (flatNums _ _ _ _) rfl, ⟨rrF (flatNums _ _ _ _) rfl, ⟨rrF (flatNums _ _ _ _) rfl, trivial⟩⟩⟩⟩⟩ rfl rfl
set_option maxRecDepth 100000 in
set_option maxHeartbeats 4000000 in
theorem szSh_nsn (x : Int) (y : Int) (z : Int) (B : List Int) (n : Nat) (hl : B.length ≤ n) (hn : n ≤ 1048576) : Sound Try.prog 15 [.agg #[vI x, vI y, vI z, .slice none 0 0, vS 0 B.length, .slice none 0 0], vN n] [nR B] (vN (n - B.length)) [nR B] := by
 refine sound_intro (C := cx) Try.func15 rfl (by kernel_rfl) fun hcl => ?_
 refine cSeq ?_
 refine cReg ?_
 refine segEnd [1, 2] (T1 := (mkT 24 [(1, vN n), (2, vP 1 0)])) (H1 := [nR B, rB [vI x, vI y, vI z, .slice none 0 0, vS 0 B.length, .slice none 0 0] 24]) (by kernel_rfl) ?_
 refine kSeq ?_
 refine cSeq ?_
 refine cReg ?_
 refine segH 3 (T1 := (mkT 24 [(1, vN n), (2, vP 1 0), (5, vP 1 3), (6, .slice none 0 0), (7, vN n)])) (by kernel_rfl) ?_
 refine rCall (v := vN n) (args := [.slice none 0 0, vN n]) (by kernel_rfl) rfl (by kernel_rfl) (Sound.lay0 [] (szI_N n (by first | omega | assumption | decide)) trivial rfl trivial rfl (by first | rfl | simp [mpV, mpA, mpS, mpP, renId, shift]) rfl) ?_
 refine segEndH [1, 2] (T1 := (mkT 24 [(1, vN n), (2, vP 1 0)])) (by kernel_rfl) ?_
 refine kSeq ?_
 refine cSeq ?_
 refine cSeq ?_
 refine cReg ?_
 refine segEndH [1, 2, 10] (T1 := (mkT 24 [(1, vN n), (2, vP 1 0), (10, .bool (decide (((n : Nat) : Int) < 0)))])) (by kernel_rfl) ?_
 refine kSeq ?_
 cases h1 : (decide (((n : Nat) : Int) < 0) : Bool)
 ·
  (try simp only [bs0, bs1, bs2, bs3, beq_iff_eq, bne_iff_ne, beq_eq_false_iff_ne, bne_eq_false_iff_eq, ne_eq, bs4, bs5, bs6, bs7, bs8, bs9, bs10, bs11, ge_iff_le, gt_iff_lt] at h1)
  refine cFalse (by kernel_rfl) ?_
  refine cSkip ?_
  refine kSeq ?_
  refine cSeq ?_
  refine cReg ?_
  refine segH 3 (T1 := (mkT 24 [(1, vN n), (2, vP 1 0), (10, .bool false), (11, vP 1 4), (12, vS 0 B.length), (13, vN n)])) (by kernel_rfl) ?_
  refine rCall (v := vN (n - B.length)) (args := [vS 0 B.length, vN n]) (by kernel_rfl) rfl (by kernel_rfl) (Sound.lay0 [0] (szI_S B n (by first | omega | assumption | (simp; done) | (simp; omega)) (by first | omega | assumption | decide)) ⟨rdF false (flatNums _ _ _ _) rfl rfl, trivial⟩ rfl ⟨clF (flatNums _ _ _ _), trivial⟩ rfl (by first | rfl | simp [mpV, mpA, mpS, mpP, renId, shift]) rfl) ?_
  refine segEndH [1, 2] (T1 := (mkT 24 [(1, vN (n - B.length)), (2, vP 1 0)])) (by kernel_rfl) ?_
  refine kSeq ?_
  refine cSeq ?_
  refine cSeq ?_
  refine cReg ?_
  refine segEndH [1, 2, 16] (T1 := (mkT 24 [(1, vN (n - B.length)), (2, vP 1 0), (16, .bool (decide (((n - B.length : Nat) : Int) < 0)))])) (by kernel_rfl) ?_
  refine kSeq ?_
  cases h2 : (decide (((n - B.length : Nat) : Int) < 0) : Bool)
  ·
   (try simp only [bs0, bs1, bs2, bs3, beq_iff_eq, bne_iff_ne, beq_eq_false_iff_ne, bne_eq_false_iff_eq, ne_eq, bs4, bs5, bs6, bs7, bs8, bs9, bs10, bs11, ge_iff_le, gt_iff_lt] at h2)
   refine cFalse (by kernel_rfl) ?_
   refine cSkip ?_
   refine kSeq ?_
   refine cSeq ?_
   refine cReg ?_
   refine segH 3 (T1 := (mkT 24 [(1, vN (n - B.length)), (2, vP 1 0), (16, .bool false), (17, vP 1 5), (18, .slice none 0 0), (19, vN (n - B.length))])) (by kernel_rfl) ?_
   refine rCall (v := vN (n - B.length)) (args := [.slice none 0 0, vN (n - B.length)]) (by kernel_rfl) rfl (by kernel_rfl) (Sound.lay0 [] (szI_N (n - B.length) (by first | omega | assumption | decide)) trivial rfl trivial rfl (by first | rfl | simp [mpV, mpA, mpS, mpP, renId, shift]) rfl) ?_
   refine segEndH [1] (T1 := (mkT 24 [(1, vN (n - B.length))])) (by kernel_rfl) ?_
   refine kSeq ?_
   refine cSeq ?_
   refine cSeq ?_
   refine cReg ?_
   refine segEndH [1, 22] (T1 := (mkT 24 [(1, vN (n - B.length)), (22, .bool (decide (((n - B.length : Nat) : Int) < 0)))])) (by kernel_rfl) ?_
   refine kSeq ?_
   cases h3 : (decide (((n - B.length : Nat) : Int) < 0) : Bool)
   ·
    (try simp only [bs0, bs1, bs2, bs3, beq_iff_eq, bne_iff_ne, beq_eq_false_iff_ne, bne_eq_false_iff_eq, ne_eq, bs4, bs5, bs6, bs7, bs8, bs9, bs10, bs11, ge_iff_le, gt_iff_lt] at h3)
    refine cFalse (by kernel_rfl) ?_
    refine cSkip ?_
    refine kSeq ?_
    refine cSeq ?_
    refine cReg ?_
    refine segEndH [4] (T1 := (mkT 24 [(4, vN (n - B.length))])) (by kernel_rfl) ?_
    refine kSeq ?_
    refine cRet ?_
    exact endQ (Or.inr rfl) (l := [vN (n - B.length)]) [rB [vI x, vI y, vI z, .slice none 0 0, vS 0 B.length, .slice none 0 0] 24] (by kernel_rfl) (by first | rfl | kernel_rfl) rfl rfl hcl rfl
   ·
    (try simp only [bs0, bs1, bs2, bs3, beq_iff_eq, bne_iff_ne, beq_eq_false_iff_ne, bne_eq_false_iff_eq, ne_eq, bs4, bs5, bs6, bs7, bs8, bs9, bs10, bs11, ge_iff_le, gt_iff_lt] at h3)
    exfalso; omega
  ·
   (try simp only [bs0, bs1, bs2, bs3, beq_iff_eq, bne_iff_ne, beq_eq_false_iff_ne, bne_eq_false_iff_eq, ne_eq, bs4, bs5, bs6, bs7, bs8, bs9, bs10, bs11, ge_iff_le, gt_iff_lt] at h2)
   exfalso; omega
 ·
  (try simp only [bs0, bs1, bs2, bs3, beq_iff_eq, bne_iff_ne, beq_eq_false_iff_ne, bne_eq_false_iff_eq, ne_eq, bs4, bs5, bs6, bs7, bs8, bs9, bs10, bs11, ge_iff_le, gt_iff_lt] at h1)
  exfalso; omega
set_option maxRecDepth 100000 in
set_option maxHeartbeats 4000000 in
theorem szSh_nsn_B (x : Int) (y : Int) (z : Int) (B : List Int) (n : Nat) (hl : n < B.length) (hm : B.length ≤ 9223372036854775807) (hn : n ≤ 1048576) : Sound Try.prog 15 [.agg #[vI x, vI y, vI z, .slice none 0 0, vS 0 B.length, .slice none 0 0], vN n] [nR B] (vI (-1)) [nR B] := by
 refine sound_intro (C := cx) Try.func15 rfl (by kernel_rfl) fun hcl => ?_
 refine cSeq ?_
 refine cReg ?_
 refine segEnd [1, 2] (T1 := (mkT 24 [(1, vN n), (2, vP 1 0)])) (H1 := [nR B, rB [vI x, vI y, vI z, .slice none 0 0, vS 0 B.length, .slice none 0 0] 24]) (by kernel_rfl) ?_
 refine kSeq ?_
 refine cSeq ?_
 refine cReg ?_
 refine segH 3 (T1 := (mkT 24 [(1, vN n), (2, vP 1 0), (5, vP 1 3), (6, .slice none 0 0), (7, vN n)])) (by kernel_rfl) ?_
 refine rCall (v := vN n) (args := [.slice none 0 0, vN n]) (by kernel_rfl) rfl (by kernel_rfl) (Sound.lay0 [] (szI_N n (by first | omega | assumption | decide)) trivial rfl trivial rfl (by first | rfl | simp [mpV, mpA, mpS, mpP, renId, shift]) rfl) ?_
 refine segEndH [1, 2] (T1 := (mkT 24 [(1, vN n), (2, vP 1 0)])) (by kernel_rfl) ?_
 refine kSeq ?_
 refine cSeq ?_
 refine cSeq ?_
 refine cReg ?_
 refine segEndH [1, 2, 10] (T1 := (mkT 24 [(1, vN n), (2, vP 1 0), (10, .bool (decide (((n : Nat) : Int) < 0)))])) (by kernel_rfl) ?_
 refine kSeq ?_
 cases h1 : (decide (((n : Nat) : Int) < 0) : Bool)
 ·
  (try simp only [bs0, bs1, bs2, bs3, beq_iff_eq, bne_iff_ne, beq_eq_false_iff_ne, bne_eq_false_iff_eq, ne_eq, bs4, bs5, bs6, bs7, bs8, bs9, bs10, bs11, ge_iff_le, gt_iff_lt] at h1)
  refine cFalse (by kernel_rfl) ?_
  refine cSkip ?_
  refine kSeq ?_
  refine cSeq ?_
  refine cReg ?_
  refine segH 3 (T1 := (mkT 24 [(1, vN n), (2, vP 1 0), (10, .bool false), (11, vP 1 4), (12, vS 0 B.length), (13, vN n)])) (by kernel_rfl) ?_
  refine rCall (v := vI (-1)) (args := [vS 0 B.length, vN n]) (by kernel_rfl) rfl (by kernel_rfl) (Sound.lay0 [0] (szI_G B n (by first | omega | assumption | (simp; done) | (simp; omega)) (by first | assumption | omega | rfl | decide | exact HeapL.list _ _ _ _ | exact HeapL.nil _ _ _ | exact HeapL.all _ _ _ | (apply HeapL.lt64 <;> assumption) | (repeat' (first | assumption | apply or_lt64 | apply and_lt64 | apply andn_lt64 | apply pow_lt64 | (apply HeapL.lt64 <;> assumption)))) (by first | omega | assumption | decide)) ⟨rdF false (flatNums _ _ _ _) rfl rfl, trivial⟩ rfl ⟨clF (flatNums _ _ _ _), trivial⟩ rfl (by first | rfl | simp [mpV, mpA, mpS, mpP, renId, shift]) rfl) ?_
  refine segEndH [1, 2] (T1 := (mkT 24 [(1, vI (-1)), (2, vP 1 0)])) (by kernel_rfl) ?_
  refine kSeq ?_
  refine cSeq ?_
  refine cSeq ?_
  refine cReg ?_
  refine segEndH [1, 2, 16] (T1 := (mkT 24 [(1, vI (-1)), (2, vP 1 0), (16, .bool true)])) (by kernel_rfl) ?_
  refine kSeq ?_
  refine cTrue (by kernel_rfl) ?_
  refine cSeq ?_
  refine cReg ?_
  refine segEndH [4] (T1 := (mkT 24 [(4, vI (-1))])) (by kernel_rfl) ?_
  refine kSeq ?_
  refine cRet ?_
  refine kSeqR ?_
  exact endQ (Or.inr rfl) (l := [vI (-1)]) [rB [vI x, vI y, vI z, .slice none 0 0, vS 0 B.length, .slice none 0 0] 24] (by kernel_rfl) (by first | rfl | kernel_rfl) rfl rfl hcl rfl
 ·
  (try simp only [bs0, bs1, bs2, bs3, beq_iff_eq, bne_iff_ne, beq_eq_false_iff_ne, bne_eq_false_iff_eq, ne_eq, bs4, bs5, bs6, bs7, bs8, bs9, bs10, bs11, ge_iff_le, gt_iff_lt] at h1)
  exfalso; omega
set_option maxRecDepth 100000 in
set_option maxHeartbeats 4000000 in
theorem toSh_nsn (x : Int) (y : Int) (z : Int) (B : List Int) (hB : B.length ≤ 1048576) : Sound Try.prog 17 [.agg #[vI x, vI y, vI z, .slice none 0 0, vS 0 B.length, .slice none 0 0]] [nR B] (.agg #[vI x, vI y, vI z, vS 1 0, vS 2 B.length, vS 3 0]) [nR B, nW ([] : List Int), nW B, nW ([] : List Int)] := by
 refine sound_intro (C := cx) Try.func17 rfl (by kernel_rfl) fun hcl => ?_
 refine cSeq ?_
 refine cReg ?_
 refine segEnd [1, 2] (T1 := (mkT 26 [(1, vP 1 0), (2, vP 2 0)])) (H1 := [nR B, rB [vI x, vI y, vI z, .slice none 0 0, vS 0 B.length, .slice none 0 0] 24, rB [vI 0, vI 0, vI 0, .slice none 0 0, .slice none 0 0, .slice none 0 0] 27]) (by kernel_rfl) ?_
 refine kSeq ?_
 refine cSeq ?_
 refine cReg ?_
 refine segEnd [1, 2, 3] (T1 := (mkT 26 [(1, vP 1 0), (2, vP 2 0), (3, vP 3 0)])) (H1 := [nR B, rB [vI x, vI y, vI z, .slice none 0 0, vS 0 B.length, .slice none 0 0] 24, rB [vI 0, vI 0, vI 0, .slice none 0 0, .slice none 0 0, .slice none 0 0] 27, rB [vI 0, vI 0, vI 0, .slice none 0 0, .slice none 0 0, .slice none 0 0] 27]) (by kernel_rfl) ?_
 refine kSeq ?_
 refine cSeq ?_
 refine cReg ?_
 refine segEnd [1, 2, 3] (T1 := (mkT 26 [(1, vP 1 0), (2, vP 2 0), (3, vP 3 0)])) (H1 := [nR B, rB [vI x, vI y, vI z, .slice none 0 0, vS 0 B.length, .slice none 0 0] 24, rB [vI 0, vI 0, vI 0, .slice none 0 0, .slice none 0 0, .slice none 0 0] 27, rB [vI x, vI 0, vI 0, .slice none 0 0, .slice none 0 0, .slice none 0 0] 27]) (by kernel_rfl) ?_
 refine kSeq ?_
 refine cSeq ?_
 refine cReg ?_
 refine segEnd [1, 2, 3] (T1 := (mkT 26 [(1, vP 1 0), (2, vP 2 0), (3, vP 3 0)])) (H1 := [nR B, rB [vI x, vI y, vI z, .slice none 0 0, vS 0 B.length, .slice none 0 0] 24, rB [vI 0, vI 0, vI 0, .slice none 0 0, .slice none 0 0, .slice none 0 0] 27, rB [vI x, vI y, vI 0, .slice none 0 0, .slice none 0 0, .slice none 0 0] 27]) (by kernel_rfl) ?_
 refine kSeq ?_
 refine cSeq ?_
 refine cReg ?_
 refine segEnd [1, 2, 3] (T1 := (mkT 26 [(1, vP 1 0), (2, vP 2 0), (3, vP 3 0)])) (H1 := [nR B, rB [vI x, vI y, vI z, .slice none 0 0, vS 0 B.length, .slice none 0 0] 24, rB [vI 0, vI 0, vI 0, .slice none 0 0, .slice none 0 0, .slice none 0 0] 27, rB [vI x, vI y, vI z, .slice none 0 0, .slice none 0 0, .slice none 0 0] 27]) (by kernel_rfl) ?_
 refine kSeq ?_
 refine cSeq ?_
 refine cReg ?_
 refine segH 2 (T1 := (mkT 26 [(1, vP 1 0), (2, vP 2 0), (3, vP 3 0), (13, vP 1 3), (14, .slice none 0 0)])) (by kernel_rfl) ?_
 refine rCall (v := vS 4 0) (args := [.slice none 0 0]) (by kernel_rfl) rfl (by kernel_rfl) (Sound.lay (E := [nW ([] : List Int)]) [] (toI_N) trivial rfl trivial rfl (by first | rfl | simp [mpV, mpA, mpS, mpP, renId, shift]) rfl ⟨enF (flatNums _ _ _ _) (Or.inl rfl), trivial⟩) ?_
 refine segEnd [1, 2, 3] (T1 := (mkT 26 [(1, vP 1 0), (2, vP 2 0), (3, vP 3 0)])) (H1 := [nR B, rB [vI x, vI y, vI z, .slice none 0 0, vS 0 B.length, .slice none 0 0] 24, rB [vI 0, vI 0, vI 0, .slice none 0 0, .slice none 0 0, .slice none 0 0] 27, rB [vI x, vI y, vI z, vS 4 0, .slice none 0 0, .slice none 0 0] 27, nW ([] : List Int)]) (by kernel_rfl) ?_
 refine kSeq ?_
 refine cSeq ?_
 refine cReg ?_
 refine segH 2 (T1 := (mkT 26 [(1, vP 1 0), (2, vP 2 0), (3, vP 3 0), (17, vP 1 4), (18, vS 0 B.length)])) (by kernel_rfl) ?_
 refine rCall (v := vS 5 B.length) (args := [vS 0 B.length]) (by kernel_rfl) rfl (by kernel_rfl) (Sound.lay (E := [nW B]) [0] (toI_S B (by first | omega | assumption | (simp; done) | (simp; omega))) ⟨rdF false (flatNums _ _ _ _) rfl rfl, trivial⟩ rfl ⟨clF (flatNums _ _ _ _), trivial⟩ rfl (by first | rfl | simp [mpV, mpA, mpS, mpP, renId, shift]) rfl ⟨enF (flatNums _ _ _ _) (Or.inl rfl), trivial⟩) ?_
 refine segEnd [1, 2, 3] (T1 := (mkT 26 [(1, vP 1 0), (2, vP 2 0), (3, vP 3 0)])) (H1 := [nR B, rB [vI x, vI y, vI z, .slice none 0 0, vS 0 B.length, .slice none 0 0] 24, rB [vI 0, vI 0, vI 0, .slice none 0 0, .slice none 0 0, .slice none 0 0] 27, rB [vI x, vI y, vI z, vS 4 0, vS 5 B.length, .slice none 0 0] 27, nW ([] : List Int), nW B]) (by kernel_rfl) ?_
 refine kSeq ?_
 refine cSeq ?_
 refine cReg ?_
 refine segH 2 (T1 := (mkT 26 [(1, vP 1 0), (2, vP 2 0), (3, vP 3 0), (21, vP 1 5), (22, .slice none 0 0)])) (by kernel_rfl) ?_
 refine rCall (v := vS 6 0) (args := [.slice none 0 0]) (by kernel_rfl) rfl (by kernel_rfl) (Sound.lay (E := [nW ([] : List Int)]) [] (toI_N) trivial rfl trivial rfl (by first | rfl | simp [mpV, mpA, mpS, mpP, renId, shift]) rfl ⟨enF (flatNums _ _ _ _) (Or.inl rfl), trivial⟩) ?_
 refine segEnd [2, 3] (T1 := (mkT 26 [(2, vP 2 0), (3, vP 3 0)])) (H1 := [nR B, rB [vI x, vI y, vI z, .slice none 0 0, vS 0 B.length, .slice none 0 0] 24, rB [vI 0, vI 0, vI 0, .slice none 0 0, .slice none 0 0, .slice none 0 0] 27, rB [vI x, vI y, vI z, vS 4 0, vS 5 B.length, vS 6 0] 27, nW ([] : List Int), nW B, nW ([] : List Int)]) (by kernel_rfl) ?_
 refine kSeq ?_
 refine cSeq ?_
 refine cReg ?_
 refine segEnd [2] (T1 := (mkT 26 [(2, vP 2 0)])) (H1 := [nR B, rB [vI x, vI y, vI z, .slice none 0 0, vS 0 B.length, .slice none 0 0] 24, rB [vI x, vI y, vI z, vS 4 0, vS 5 B.length, vS 6 0] 27, rB [vI x, vI y, vI z, vS 4 0, vS 5 B.length, vS 6 0] 27, nW ([] : List Int), nW B, nW ([] : List Int)]) (by kernel_rfl) ?_
 refine kSeq ?_
 refine cRet ?_
 exact endF (Or.inr rfl) (l := [.agg #[vI x, vI y, vI z, vS 4 0, vS 5 B.length, vS 6 0]]) [0, 4, 5, 6] (by kernel_rfl) (by first | rfl | simp [packR, mpV, mpA, mpS, mpP, renId]) ⟨rrF (flatNums _ _ _ _) rfl, ⟨rrF (flatNums _ _ _ _) rfl, ⟨rrF (flatNums _ _ _ _) rfl, ⟨rrF (flatNums _ _ _ _) rfl, trivial⟩⟩⟩⟩ rfl rfl
set_option maxRecDepth 100000 in
set_option maxHeartbeats 4000000 in
theorem szSh_nns (x : Int) (y : Int) (z : Int) (C : List Int) (n : Nat) (hl : C.length ≤ n) (hn : n ≤ 1048576) : Sound Try.prog 15 [.agg #[vI x, vI y, vI z, .slice none 0 0, .slice none 0 0, vS 0 C.length], vN n] [nR C] (vN (n - C.length)) [nR C] := by
 refine sound_intro (C := cx) Try.func15 rfl (by kernel_rfl) fun hcl => ?_
 refine cSeq ?_
 refine cReg ?_
 refine segEnd [1, 2] (T1 := (mkT 24 [(1, vN n), (2, vP 1 0)])) (H1 := [nR C, rB [vI x, vI y, vI z, .slice none 0 0, .slice none 0 0, vS 0 C.length] 24]) (by kernel_rfl) ?_
 refine kSeq ?_
 refine cSeq ?_
 refine cReg ?_
 refine segH 3 (T1 := (mkT 24 [(1, vN n), (2, vP 1 0), (5, vP 1 3), (6, .slice none 0 0), (7, vN n)])) (by kernel_rfl) ?_
 refine rCall (v := vN n) (args := [.slice none 0 0, vN n]) (by kernel_rfl) rfl (by kernel_rfl) (Sound.lay0 [] (szI_N n (by first | omega | assumption | decide)) trivial rfl trivial rfl (by first | rfl | simp [mpV, mpA, mpS, mpP, renId, shift]) rfl) ?_
 refine segEndH [1, 2] (T1 := (mkT 24 [(1, vN n), (2, vP 1 0)])) (by kernel_rfl) ?_
 refine kSeq ?_
 refine cSeq ?_
 refine cSeq ?_
 refine cReg ?_
 refine segEndH [1, 2, 10] (T1 := (mkT 24 [(1, vN n), (2, vP 1 0), (10, .bool (decide (((n : Nat) : Int) < 0)))])) (by kernel_rfl) ?_
 refine kSeq ?_
 cases h1 : (decide (((n : Nat) : Int) < 0) : Bool)
 ·
  (try simp only [bs0, bs1, bs2, bs3, beq_iff_eq, bne_iff_ne, beq_eq_false_iff_ne, bne_eq_false_iff_eq, ne_eq, bs4, bs5, bs6, bs7, bs8, bs9, bs10, bs11, ge_iff_le, gt_iff_lt] at h1)
  refine cFalse (by kernel_rfl) ?_
  refine cSkip ?_
  refine kSeq ?_
  refine cSeq ?_
  refine cReg ?_
  refine segH 3 (T1 := (mkT 24 [(1, vN n), (2, vP 1 0), (10, .bool false), (11, vP 1 4), (12, .slice none 0 0), (13, vN n)])) (by kernel_rfl) ?_
  refine rCall (v := vN n) (args := [.slice none 0 0, vN n]) (by kernel_rfl) rfl (by kernel_rfl) (Sound.lay0 [] (szI_N n (by first | omega | assumption | decide)) trivial rfl trivial rfl (by first | rfl | simp [mpV, mpA, mpS, mpP, renId, shift]) rfl) ?_
  refine segEndH [1, 2] (T1 := (mkT 24 [(1, vN n), (2, vP 1 0)])) (by kernel_rfl) ?_
  refine kSeq ?_
  refine cSeq ?_
  refine cSeq ?_
  refine cReg ?_
  refine segEndH [1, 2, 16] (T1 := (mkT 24 [(1, vN n), (2, vP 1 0), (16, .bool (decide (((n : Nat) : Int) < 0)))])) (by kernel_rfl) ?_
  refine kSeq ?_
  cases h2 : (decide (((n : Nat) : Int) < 0) : Bool)
  ·
   (try simp only [bs0, bs1, bs2, bs3, beq_iff_eq, bne_iff_ne, beq_eq_false_iff_ne, bne_eq_false_iff_eq, ne_eq, bs4, bs5, bs6, bs7, bs8, bs9, bs10, bs11, ge_iff_le, gt_iff_lt] at h2)
   refine cFalse (by kernel_rfl) ?_
   refine cSkip ?_
   refine kSeq ?_
   refine cSeq ?_
   refine cReg ?_
   refine segH 3 (T1 := (mkT 24 [(1, vN n), (2, vP 1 0), (16, .bool false), (17, vP 1 5), (18, vS 0 C.length), (19, vN n)])) (by kernel_rfl) ?_
   refine rCall (v := vN (n - C.length)) (args := [vS 0 C.length, vN n]) (by kernel_rfl) rfl (by kernel_rfl) (Sound.lay0 [0] (szI_S C n (by first | omega | assumption | (simp; done) | (simp; omega)) (by first | omega | assumption | decide)) ⟨rdF false (flatNums _ _ _ _) rfl rfl, trivial⟩ rfl ⟨clF (flatNums _ _ _ _), trivial⟩ rfl (by first | rfl | simp [mpV, mpA, mpS, mpP, renId, shift]) rfl) ?_
   refine segEndH [1] (T1 := (mkT 24 [(1, vN (n - C.length))])) (by kernel_rfl) ?_
   refine kSeq ?_
   refine cSeq ?_
   refine cSeq ?_
   refine cReg ?_
   refine segEndH [1, 22] (T1 := (mkT 24 [(1, vN (n - C.length)), (22, .bool (decide (((n - C.length : Nat) : Int) < 0)))])) (by kernel_rfl) ?_
   refine kSeq ?_
   cases h3 : (decide (((n - C.length : Nat) : Int) < 0) : Bool)
   ·
    (try simp only [bs0, bs1, bs2, bs3, beq_iff_eq, bne_iff_ne, beq_eq_false_iff_ne, bne_eq_false_iff_eq, ne_eq, bs4, bs5, bs6, bs7, bs8, bs9, bs10, bs11, ge_iff_le, gt_iff_lt] at h3)
    refine cFalse (by kernel_rfl) ?_
    refine cSkip ?_
    refine kSeq ?_
    refine cSeq ?_
    refine cReg ?_
    refine segEndH [4] (T1 := (mkT 24 [(4, vN (n - C.length))])) (by kernel_rfl) ?_
    refine kSeq ?_
    refine cRet ?_
    exact endQ (Or.inr rfl) (l := [vN (n - C.length)]) [rB [vI x, vI y, vI z, .slice none 0 0, .slice none 0 0, vS 0 C.length] 24] (by kernel_rfl) (by first | rfl | kernel_rfl) rfl rfl hcl rfl
   ·
    (try simp only [bs0, bs1, bs2, bs3, beq_iff_eq, bne_iff_ne, beq_eq_false_iff_ne, bne_eq_false_iff_eq, ne_eq, bs4, bs5, bs6, bs7, bs8, bs9, bs10, bs11, ge_iff_le, gt_iff_lt] at h3)
    exfalso; omega
  ·
   (try simp only [bs0, bs1, bs2, bs3, beq_iff_eq, bne_iff_ne, beq_eq_false_iff_ne, bne_eq_false_iff_eq, ne_eq, bs4, bs5, bs6, bs7, bs8, bs9, bs10, bs11, ge_iff_le, gt_iff_lt] at h2)
   exfalso; omega
 ·
  (try simp only [bs0, bs1, bs2, bs3, beq_iff_eq, bne_iff_ne, beq_eq_false_iff_ne, bne_eq_false_iff_eq, ne_eq, bs4, bs5, bs6, bs7, bs8, bs9, bs10, bs11, ge_iff_le, gt_iff_lt] at h1)
  exfalso; omega
set_option maxRecDepth 100000 in
set_option maxHeartbeats 4000000 in
theorem szSh_nns_C (x : Int) (y : Int) (z : Int) (C : List Int) (n : Nat) (hl : n < C.length) (hm : C.length ≤ 9223372036854775807) (hn : n ≤ 1048576) : Sound Try.prog 15 [.agg #[vI x, vI y, vI z, .slice none 0 0, .slice none 0 0, vS 0 C.length], vN n] [nR C] (vI (-1)) [nR C] := by
 refine sound_intro (C := cx) Try.func15 rfl (by kernel_rfl) fun hcl => ?_
 refine cSeq ?_
 refine cReg ?_
 refine segEnd [1, 2] (T1 := (mkT 24 [(1, vN n), (2, vP 1 0)])) (H1 := [nR C, rB [vI x, vI y, vI z, .slice none 0 0, .slice none 0 0, vS 0 C.length] 24]) (by kernel_rfl) ?_
 refine kSeq ?_
 refine cSeq ?_
 refine cReg ?_
 refine segH 3 (T1 := (mkT 24 [(1, vN n), (2, vP 1 0), (5, vP 1 3), (6, .slice none 0 0), (7, vN n)])) (by kernel_rfl) ?_
 refine rCall (v := vN n) (args := [.slice none 0 0, vN n]) (by kernel_rfl) rfl (by kernel_rfl) (Sound.lay0 [] (szI_N n (by first | omega | assumption | decide)) trivial rfl trivial rfl (by first | rfl | simp [mpV, mpA, mpS, mpP, renId, shift]) rfl) ?_
 refine segEndH [1, 2] (T1 := (mkT 24 [(1, vN n), (2, vP 1 0)])) (by kernel_rfl) ?_
 refine kSeq ?_
 refine cSeq ?_
 refine cSeq ?_
 refine cReg ?_
 refine segEndH [1, 2, 10] (T1 := (mkT 24 [(1, vN n), (2, vP 1 0), (10, .bool (decide (((n : Nat) : Int) < 0)))])) (by kernel_rfl) ?_
 refine kSeq ?_
 cases h1 : (decide (((n : Nat) : Int) < 0) : Bool)
 ·
  (try simp only [bs0, bs1, bs2, bs3, beq_iff_eq, bne_iff_ne, beq_eq_false_iff_ne, bne_eq_false_iff_eq, ne_eq, bs4, bs5, bs6, bs7, bs8, bs9, bs10, bs11, ge_iff_le, gt_iff_lt] at h1)
  refine cFalse (by kernel_rfl) ?_
  refine cSkip ?_
  refine kSeq ?_
  refine cSeq ?_
  refine cReg ?_
  refine segH 3 (T1 := (mkT 24 [(1, vN n), (2, vP 1 0), (10, .bool false), (11, vP 1 4), (12, .slice none 0 0), (13, vN n)])) (by kernel_rfl) ?_
  refine rCall (v := vN n) (args := [.slice none 0 0, vN n]) (by kernel_rfl) rfl (by kernel_rfl) (Sound.lay0 [] (szI_N n (by first | omega | assumption | decide)) trivial rfl trivial rfl (by first | rfl | simp [mpV, mpA, mpS, mpP, renId, shift]) rfl) ?_
  refine segEndH [1, 2] (T1 := (mkT 24 [(1, vN n), (2, vP 1 0)])) (by kernel_rfl) ?_
  refine kSeq ?_
  refine cSeq ?_
  refine cSeq ?_
  refine cReg ?_
  refine segEndH [1, 2, 16] (T1 := (mkT 24 [(1, vN n), (2, vP 1 0), (16, .bool (decide (((n : Nat) : Int) < 0)))])) (by kernel_rfl) ?_
  refine kSeq ?_
  cases h2 : (decide (((n : Nat) : Int) < 0) : Bool)
  ·
   (try simp only [bs0, bs1, bs2, bs3, beq_iff_eq, bne_iff_ne, beq_eq_false_iff_ne, bne_eq_false_iff_eq, ne_eq, bs4, bs5, bs6, bs7, bs8, bs9, bs10, bs11, ge_iff_le, gt_iff_lt] at h2)
   refine cFalse (by kernel_rfl) ?_
   refine cSkip ?_
   refine kSeq ?_
   refine cSeq ?_
   refine cReg ?_
   refine segH 3 (T1 := (mkT 24 [(1, vN n), (2, vP 1 0), (16, .bool false), (17, vP 1 5), (18, vS 0 C.length), (19, vN n)])) (by kernel_rfl) ?_
   refine rCall (v := vI (-1)) (args := [vS 0 C.length, vN n]) (by kernel_rfl) rfl (by kernel_rfl) (Sound.lay0 [0] (szI_G C n (by first | omega | assumption | (simp; done) | (simp; omega)) (by first | assumption | omega | rfl | decide | exact HeapL.list _ _ _ _ | exact HeapL.nil _ _ _ | exact HeapL.all _ _ _ | (apply HeapL.lt64 <;> assumption) | (repeat' (first | assumption | apply or_lt64 | apply and_lt64 | apply andn_lt64 | apply pow_lt64 | (apply HeapL.lt64 <;> assumption)))) (by first | omega | assumption | decide)) ⟨rdF false (flatNums _ _ _ _) rfl rfl, trivial⟩ rfl ⟨clF (flatNums _ _ _ _), trivial⟩ rfl (by first | rfl | simp [mpV, mpA, mpS, mpP, renId, shift]) rfl) ?_
   refine segEndH [1] (T1 := (mkT 24 [(1, vI (-1))])) (by kernel_rfl) ?_
   refine kSeq ?_
   refine cSeq ?_
   refine cSeq ?_
   refine cReg ?_
   refine segEndH [1, 22] (T1 := (mkT 24 [(1, vI (-1)), (22, .bool true)])) (by kernel_rfl) ?_
   refine kSeq ?_
   refine cTrue (by kernel_rfl) ?_
   refine cSeq ?_
   refine cReg ?_
   refine segEndH [4] (T1 := (mkT 24 [(4, vI (-1))])) (by kernel_rfl) ?_
   refine kSeq ?_
   refine cRet ?_
   refine kSeqR ?_
   exact endQ (Or.inr rfl) (l := [vI (-1)]) [rB [vI x, vI y, vI z, .slice none 0 0, .slice none 0 0, vS 0 C.length] 24] (by kernel_rfl) (by first | rfl | kernel_rfl) rfl rfl hcl rfl
  ·
   (try simp only [bs0, bs1, bs2, bs3, beq_iff_eq, bne_iff_ne, beq_eq_false_iff_ne, bne_eq_false_iff_eq, ne_eq, bs4, bs5, bs6, bs7, bs8, bs9, bs10, bs11, ge_iff_le, gt_iff_lt] at h2)
   exfalso; omega
 ·
  (try simp only [bs0, bs1, bs2, bs3, beq_iff_eq, bne_iff_ne, beq_eq_false_iff_ne, bne_eq_false_iff_eq, ne_eq, bs4, bs5, bs6, bs7, bs8, bs9, bs10, bs11, ge_iff_le, gt_iff_lt] at h1)
  exfalso; omega
set_option maxRecDepth 100000 in
set_option maxHeartbeats 4000000 in
theorem toSh_nns (x : Int) (y : Int) (z : Int) (C : List Int) (hC : C.length ≤ 1048576) : Sound Try.prog 17 [.agg #[vI x, vI y, vI z, .slice none 0 0, .slice none 0 0, vS 0 C.length]] [nR C] (.agg #[vI x, vI y, vI z, vS 1 0, vS 2 0, vS 3 C.length]) [nR C, nW ([] : List Int), nW ([] : List Int), nW C] := by
 refine sound_intro (C := cx) Try.func17 rfl (by kernel_rfl) fun hcl => ?_
 refine cSeq ?_
 refine cReg ?_
 refine segEnd [1, 2] (T1 := (mkT 26 [(1, vP 1 0), (2, vP 2 0)])) (H1 := [nR C, rB [vI x, vI y, vI z, .slice none 0 0, .slice none 0 0, vS 0 C.length] 24, rB [vI 0, vI 0, vI 0, .slice none 0 0, .slice none 0 0, .slice none 0 0] 27]) (by kernel_rfl) ?_
 refine kSeq ?_
 refine cSeq ?_
 refine cReg ?_
 refine segEnd [1, 2, 3] (T1 := (mkT 26 [(1, vP 1 0), (2, vP 2 0), (3, vP 3 0)])) (H1 := [nR C, rB [vI x, vI y, vI z, .slice none 0 0, .slice none 0 0, vS 0 C.length] 24, rB [vI 0, vI 0, vI 0, .slice none 0 0, .slice none 0 0, .slice none 0 0] 27, rB [vI 0, vI 0, vI 0, .slice none 0 0, .slice none 0 0, .slice none 0 0] 27]) (by kernel_rfl) ?_
 refine kSeq ?_
 refine cSeq ?_
 refine cReg ?_
 refine segEnd [1, 2, 3] (T1 := (mkT 26 [(1, vP 1 0), (2, vP 2 0), (3, vP 3 0)])) (H1 := [nR C, rB [vI x, vI y, vI z, .slice none 0 0, .slice none 0 0, vS 0 C.length] 24, rB [vI 0, vI 0, vI 0, .slice none 0 0, .slice none 0 0, .slice none 0 0] 27, rB [vI x, vI 0, vI 0, .slice none 0 0, .slice none 0 0, .slice none 0 0] 27]) (by kernel_rfl) ?_
 refine kSeq ?_
 refine cSeq ?_
 refine cReg ?_
 refine segEnd [1, 2, 3] (T1 := (mkT 26 [(1, vP 1 0), (2, vP 2 0), (3, vP 3 0)])) (H1 := [nR C, rB [vI x, vI y, vI z, .slice none 0 0, .slice none 0 0, vS 0 C.length] 24, rB [vI 0, vI 0, vI 0, .slice none 0 0, .slice none 0 0, .slice none 0 0] 27, rB [vI x, vI y, vI 0, .slice none 0 0, .slice none 0 0, .slice none 0 0] 27]) (by kernel_rfl) ?_
 refine kSeq ?_
 refine cSeq ?_
 refine cReg ?_
 refine segEnd [1, 2, 3] (T1 := (mkT 26 [(1, vP 1 0), (2, vP 2 0), (3, vP 3 0)])) (H1 := [nR C, rB [vI x, vI y, vI z, .slice none 0 0, .slice none 0 0, vS 0 C.length] 24, rB [vI 0, vI 0, vI 0, .slice none 0 0, .slice none 0 0, .slice none 0 0] 27, rB [vI x, vI y, vI z, .slice none 0 0, .slice none 0 0, .slice none 0 0] 27]) (by kernel_rfl) ?_
 refine kSeq ?_
 refine cSeq ?_
 refine cReg ?_
 refine segH 2 (T1 := (mkT 26 [(1, vP 1 0), (2, vP 2 0), (3, vP 3 0), (13, vP 1 3), (14, .slice none 0 0)])) (by kernel_rfl) ?_
 refine rCall (v := vS 4 0) (args := [.slice none 0 0]) (by kernel_rfl) rfl (by kernel_rfl) (Sound.lay (E := [nW ([] : List Int)]) [] (toI_N) trivial rfl trivial rfl (by first | rfl | simp [mpV, mpA, mpS, mpP, renId, shift]) rfl ⟨enF (flatNums _ _ _ _) (Or.inl rfl), trivial⟩) ?_
 refine segEnd [1, 2, 3] (T1 := (mkT 26 [(1, vP 1 0), (2, vP 2 0), (3, vP 3 0)])) (H1 := [nR C, rB [vI x, vI y, vI z, .slice none 0 0, .slice none 0 0, vS 0 C.length] 24, rB [vI 0, vI 0, vI 0, .slice none 0 0, .slice none 0 0, .slice none 0 0] 27, rB [vI x, vI y, vI z, vS 4 0, .slice none 0 0, .slice none 0 0] 27, nW ([] : List Int)]) (by kernel_rfl) ?_
 refine kSeq ?_
 refine cSeq ?_
 refine cReg ?_
 refine segH 2 (T1 := (mkT 26 [(1, vP 1 0), (2, vP 2 0), (3, vP 3 0), (17, vP 1 4), (18, .slice none 0 0)])) (by kernel_rfl) ?_
 refine rCall (v := vS 5 0) (args := [.slice none 0 0]) (by kernel_rfl) rfl (by kernel_rfl) (Sound.lay (E := [nW ([] : List Int)]) [] (toI_N) trivial rfl trivial rfl (by first | rfl | simp [mpV, mpA, mpS, mpP, renId, shift]) rfl ⟨enF (flatNums _ _ _ _) (Or.inl rfl), trivial⟩) ?_
 refine segEnd [1, 2, 3] (T1 := (mkT 26 [(1, vP 1 0), (2, vP 2 0), (3, vP 3 0)])) (H1 := [nR C, rB [vI x, vI y, vI z, .slice none 0 0, .slice none 0 0, vS 0 C.length] 24, rB [vI 0, vI 0, vI 0, .slice none 0 0, .slice none 0 0, .slice none 0 0] 27, rB [vI x, vI y, vI z, vS 4 0, vS 5 0, .slice none 0 0] 27, nW ([] : List Int), nW ([] : List Int)]) (by kernel_rfl) ?_
 refine kSeq ?_
 refine cSeq ?_
 refine cReg ?_
 refine segH 2 (T1 := (mkT 26 [(1, vP 1 0), (2, vP 2 0), (3, vP 3 0), (21, vP 1 5), (22, vS 0 C.length)])) (by kernel_rfl) ?_
 refine rCall (v := vS 6 C.length) (args := [vS 0 C.length]) (by kernel_rfl) rfl (by kernel_rfl) (Sound.lay (E := [nW C]) [0] (toI_S C (by first | omega | assumption | (simp; done) | (simp; omega))) ⟨rdF false (flatNums _ _ _ _) rfl rfl, trivial⟩ rfl ⟨clF (flatNums _ _ _ _), trivial⟩ rfl (by first | rfl | simp [mpV, mpA, mpS, mpP, renId, shift]) rfl ⟨enF (flatNums _ _ _ _) (Or.inl rfl), trivial⟩) ?_
 refine segEnd [2, 3] (T1 := (mkT 26 [(2, vP 2 0), (3, vP 3 0)])) (H1 := [nR C, rB [vI x, vI y, vI z, .slice none 0 0, .slice none 0 0, vS 0 C.length] 24, rB [vI 0, vI 0, vI 0, .slice none 0 0, .slice none 0 0, .slice none 0 0] 27, rB [vI x, vI y, vI z, vS 4 0, vS 5 0, vS 6 C.length] 27, nW ([] : List Int), nW ([] : List Int), nW C]) (by kernel_rfl) ?_
 refine kSeq ?_
 refine cSeq ?_
 refine cReg ?_
 refine segEnd [2] (T1 := (mkT 26 [(2, vP 2 0)])) (H1 := [nR C, rB [vI x, vI y, vI z, .slice none 0 0, .slice none 0 0, vS 0 C.length] 24, rB [vI x, vI y, vI z, vS 4 0, vS 5 0, vS 6 C.length] 27, rB [vI x, vI y, vI z, vS 4 0, vS 5 0, vS 6 C.length] 27, nW ([] : List Int), nW ([] : List Int), nW C]) (by kernel_rfl) ?_
 refine kSeq ?_
 refine cRet ?_
 exact endF (Or.inr rfl) (l := [.agg #[vI x, vI y, vI z, vS 4 0, vS 5 0, vS 6 C.length]]) [0, 4, 5, 6] (by kernel_rfl) (by first | rfl | simp [packR, mpV, mpA, mpS, mpP, renId]) ⟨rrF (flatNums _ _ _ _) rfl, ⟨rrF (flatNums _ _ _ _) rfl, ⟨rrF (flatNums _ _ _ _) rfl, ⟨rrF (flatNums _ _ _ _) rfl, trivial⟩⟩⟩⟩ rfl rfl
set_option maxRecDepth 100000 in
set_option maxHeartbeats 4000000 in
theorem szSh_nnn (x : Int) (y : Int) (z : Int) (n : Nat) (hn : n ≤ 1048576) : Sound Try.prog 15 [.agg #[vI x, vI y, vI z, .slice none 0 0, .slice none 0 0, .slice none 0 0], vN n] [] (vN n) [] := by
 refine sound_intro (C := cx) Try.func15 rfl (by kernel_rfl) fun hcl => ?_
 refine cSeq ?_
 refine cReg ?_
 refine segEnd [1, 2] (T1 := (mkT 24 [(1, vN n), (2, vP 0 0)])) (H1 := [rB [vI x, vI y, vI z, .slice none 0 0, .slice none 0 0, .slice none 0 0] 24]) (by kernel_rfl) ?_
 refine kSeq ?_
 refine cSeq ?_
 refine cReg ?_
 refine segH 3 (T1 := (mkT 24 [(1, vN n), (2, vP 0 0), (5, vP 0 3), (6, .slice none 0 0), (7, vN n)])) (by kernel_rfl) ?_
 refine rCall (v := vN n) (args := [.slice none 0 0, vN n]) (by kernel_rfl) rfl (by kernel_rfl) (Sound.lay0 [] (szI_N n (by first | omega | assumption | decide)) trivial rfl trivial rfl (by first | rfl | simp [mpV, mpA, mpS, mpP, renId, shift]) rfl) ?_
 refine segEndH [1, 2] (T1 := (mkT 24 [(1, vN n), (2, vP 0 0)])) (by kernel_rfl) ?_
 refine kSeq ?_
 refine cSeq ?_
 refine cSeq ?_
 refine cReg ?_
 refine segEndH [1, 2, 10] (T1 := (mkT 24 [(1, vN n), (2, vP 0 0), (10, .bool (decide (((n : Nat) : Int) < 0)))])) (by kernel_rfl) ?_
 refine kSeq ?_
 cases h1 : (decide (((n : Nat) : Int) < 0) : Bool)
 ·
  (try simp only [bs0, bs1, bs2, bs3, beq_iff_eq, bne_iff_ne, beq_eq_false_iff_ne, bne_eq_false_iff_eq, ne_eq, bs4, bs5, bs6, bs7, bs8, bs9, bs10, bs11, ge_iff_le, gt_iff_lt] at h1)
  refine cFalse (by kernel_rfl) ?_
  refine cSkip ?_
  refine kSeq ?_
  refine cSeq ?_
  refine cReg ?_
  refine segH 3 (T1 := (mkT 24 [(1, vN n), (2, vP 0 0), (10, .bool false), (11, vP 0 4), (12, .slice none 0 0), (13, vN n)])) (by kernel_rfl) ?_
  refine rCall (v := vN n) (args := [.slice none 0 0, vN n]) (by kernel_rfl) rfl (by kernel_rfl) (Sound.lay0 [] (szI_N n (by first | omega | assumption | decide)) trivial rfl trivial rfl (by first | rfl | simp [mpV, mpA, mpS, mpP, renId, shift]) rfl) ?_
  refine segEndH [1, 2] (T1 := (mkT 24 [(1, vN n), (2, vP 0 0)])) (by kernel_rfl) ?_
  refine kSeq ?_
  refine cSeq ?_
  refine cSeq ?_
  refine cReg ?_
  refine segEndH [1, 2, 16] (T1 := (mkT 24 [(1, vN n), (2, vP 0 0), (16, .bool (decide (((n : Nat) : Int) < 0)))])) (by kernel_rfl) ?_
  refine kSeq ?_
  cases h2 : (decide (((n : Nat) : Int) < 0) : Bool)
  ·
   (try simp only [bs0, bs1, bs2, bs3, beq_iff_eq, bne_iff_ne, beq_eq_false_iff_ne, bne_eq_false_iff_eq, ne_eq, bs4, bs5, bs6, bs7, bs8, bs9, bs10, bs11, ge_iff_le, gt_iff_lt] at h2)
   refine cFalse (by kernel_rfl) ?_
   refine cSkip ?_
   refine kSeq ?_
   refine cSeq ?_
   refine cReg ?_
   refine segH 3 (T1 := (mkT 24 [(1, vN n), (2, vP 0 0), (16, .bool false), (17, vP 0 5), (18, .slice none 0 0), (19, vN n)])) (by kernel_rfl) ?_
   refine rCall (v := vN n) (args := [.slice none 0 0, vN n]) (by kernel_rfl) rfl (by kernel_rfl) (Sound.lay0 [] (szI_N n (by first | omega | assumption | decide)) trivial rfl trivial rfl (by first | rfl | simp [mpV, mpA, mpS, mpP, renId, shift]) rfl) ?_
   refine segEndH [1] (T1 := (mkT 24 [(1, vN n)])) (by kernel_rfl) ?_
   refine kSeq ?_
   refine cSeq ?_
   refine cSeq ?_
   refine cReg ?_
   refine segEndH [1, 22] (T1 := (mkT 24 [(1, vN n), (22, .bool (decide (((n : Nat) : Int) < 0)))])) (by kernel_rfl) ?_
   refine kSeq ?_
   cases h3 : (decide (((n : Nat) : Int) < 0) : Bool)
   ·
    (try simp only [bs0, bs1, bs2, bs3, beq_iff_eq, bne_iff_ne, beq_eq_false_iff_ne, bne_eq_false_iff_eq, ne_eq, bs4, bs5, bs6, bs7, bs8, bs9, bs10, bs11, ge_iff_le, gt_iff_lt] at h3)
    refine cFalse (by kernel_rfl) ?_
    refine cSkip ?_
    refine kSeq ?_
    refine cSeq ?_
    refine cReg ?_
    refine segEndH [4] (T1 := (mkT 24 [(4, vN n)])) (by kernel_rfl) ?_
    refine kSeq ?_
    refine cRet ?_
    exact endQ (Or.inr rfl) (l := [vN n]) [rB [vI x, vI y, vI z, .slice none 0 0, .slice none 0 0, .slice none 0 0] 24] (by kernel_rfl) (by first | rfl | kernel_rfl) rfl rfl hcl rfl
   ·
    (try simp only [bs0, bs1, bs2, bs3, beq_iff_eq, bne_iff_ne, beq_eq_false_iff_ne, bne_eq_false_iff_eq, ne_eq, bs4, bs5, bs6, bs7, bs8, bs9, bs10, bs11, ge_iff_le, gt_iff_lt] at h3)
    exfalso; omega
  ·
   (try simp only [bs0, bs1, bs2, bs3, beq_iff_eq, bne_iff_ne, beq_eq_false_iff_ne, bne_eq_false_iff_eq, ne_eq, bs4, bs5, bs6, bs7, bs8, bs9, bs10, bs11, ge_iff_le, gt_iff_lt] at h2)
   exfalso; omega
 ·
  (try simp only [bs0, bs1, bs2, bs3, beq_iff_eq, bne_iff_ne, beq_eq_false_iff_ne, bne_eq_false_iff_eq, ne_eq, bs4, bs5, bs6, bs7, bs8, bs9, bs10, bs11, ge_iff_le, gt_iff_lt] at h1)
  exfalso; omega
set_option maxRecDepth 100000 in
set_option maxHeartbeats 4000000 in
theorem toSh_nnn (x : Int) (y : Int) (z : Int)  : Sound Try.prog 17 [.agg #[vI x, vI y, vI z, .slice none 0 0, .slice none 0 0, .slice none 0 0]] [] (.agg #[vI x, vI y, vI z, vS 0 0, vS 1 0, vS 2 0]) [nW ([] : List Int), nW ([] : List Int), nW ([] : List Int)] := by
 refine sound_intro (C := cx) Try.func17 rfl (by kernel_rfl) fun hcl => ?_
 refine cSeq ?_
 refine cReg ?_
 refine segEnd [1, 2] (T1 := (mkT 26 [(1, vP 0 0), (2, vP 1 0)])) (H1 := [rB [vI x, vI y, vI z, .slice none 0 0, .slice none 0 0, .slice none 0 0] 24, rB [vI 0, vI 0, vI 0, .slice none 0 0, .slice none 0 0, .slice none 0 0] 27]) (by kernel_rfl) ?_
 refine kSeq ?_
 refine cSeq ?_
 refine cReg ?_
 refine segEnd [1, 2, 3] (T1 := (mkT 26 [(1, vP 0 0), (2, vP 1 0), (3, vP 2 0)])) (H1 := [rB [vI x, vI y, vI z, .slice none 0 0, .slice none 0 0, .slice none 0 0] 24, rB [vI 0, vI 0, vI 0, .slice none 0 0, .slice none 0 0, .slice none 0 0] 27, rB [vI 0, vI 0, vI 0, .slice none 0 0, .slice none 0 0, .slice none 0 0] 27]) (by kernel_rfl) ?_
 refine kSeq ?_
 refine cSeq ?_
 refine cReg ?_
 refine segEnd [1, 2, 3] (T1 := (mkT 26 [(1, vP 0 0), (2, vP 1 0), (3, vP 2 0)])) (H1 := [rB [vI x, vI y, vI z, .slice none 0 0, .slice none 0 0, .slice none 0 0] 24, rB [vI 0, vI 0, vI 0, .slice none 0 0, .slice none 0 0, .slice none 0 0] 27, rB [vI x, vI 0, vI 0, .slice none 0 0, .slice none 0 0, .slice none 0 0] 27]) (by kernel_rfl) ?_
 refine kSeq ?_
 refine cSeq ?_
 refine cReg ?_
 refine segEnd [1, 2, 3] (T1 := (mkT 26 [(1, vP 0 0), (2, vP 1 0), (3, vP 2 0)])) (H1 := [rB [vI x, vI y, vI z, .slice none 0 0, .slice none 0 0, .slice none 0 0] 24, rB [vI 0, vI 0, vI 0, .slice none 0 0, .slice none 0 0, .slice none 0 0] 27, rB [vI x, vI y, vI 0, .slice none 0 0, .slice none 0 0, .slice none 0 0] 27]) (by kernel_rfl) ?_
 refine kSeq ?_
 refine cSeq ?_
 refine cReg ?_
 refine segEnd [1, 2, 3] (T1 := (mkT 26 [(1, vP 0 0), (2, vP 1 0), (3, vP 2 0)])) (H1 := [rB [vI x, vI y, vI z, .slice none 0 0, .slice none 0 0, .slice none 0 0] 24, rB [vI 0, vI 0, vI 0, .slice none 0 0, .slice none 0 0, .slice none 0 0] 27, rB [vI x, vI y, vI z, .slice none 0 0, .slice none 0 0, .slice none 0 0] 27]) (by kernel_rfl) ?_
 refine kSeq ?_
 refine cSeq ?_
 refine cReg ?_
 refine segH 2 (T1 := (mkT 26 [(1, vP 0 0), (2, vP 1 0), (3, vP 2 0), (13, vP 0 3), (14, .slice none 0 0)])) (by kernel_rfl) ?_
 refine rCall (v := vS 3 0) (args := [.slice none 0 0]) (by kernel_rfl) rfl (by kernel_rfl) (Sound.lay (E := [nW ([] : List Int)]) [] (toI_N) trivial rfl trivial rfl (by first | rfl | simp [mpV, mpA, mpS, mpP, renId, shift]) rfl ⟨enF (flatNums _ _ _ _) (Or.inl rfl), trivial⟩) ?_
 refine segEnd [1, 2, 3] (T1 := (mkT 26 [(1, vP 0 0), (2, vP 1 0), (3, vP 2 0)])) (H1 := [rB [vI x, vI y, vI z, .slice none 0 0, .slice none 0 0, .slice none 0 0] 24, rB [vI 0, vI 0, vI 0, .slice none 0 0, .slice none 0 0, .slice none 0 0] 27, rB [vI x, vI y, vI z, vS 3 0, .slice none 0 0, .slice none 0 0] 27, nW ([] : List Int)]) (by kernel_rfl) ?_
 refine kSeq ?_
 refine cSeq ?_
 refine cReg ?_
 refine segH 2 (T1 := (mkT 26 [(1, vP 0 0), (2, vP 1 0), (3, vP 2 0), (17, vP 0 4), (18, .slice none 0 0)])) (by kernel_rfl) ?_
 refine rCall (v := vS 4 0) (args := [.slice none 0 0]) (by kernel_rfl) rfl (by kernel_rfl) (Sound.lay (E := [nW ([] : List Int)]) [] (toI_N) trivial rfl trivial rfl (by first | rfl | simp [mpV, mpA, mpS, mpP, renId, shift]) rfl ⟨enF (flatNums _ _ _ _) (Or.inl rfl), trivial⟩) ?_
 refine segEnd [1, 2, 3] (T1 := (mkT 26 [(1, vP 0 0), (2, vP 1 0), (3, vP 2 0)])) (H1 := [rB [vI x, vI y, vI z, .slice none 0 0, .slice none 0 0, .slice none 0 0] 24, rB [vI 0, vI 0, vI 0, .slice none 0 0, .slice none 0 0, .slice none 0 0] 27, rB [vI x, vI y, vI z, vS 3 0, vS 4 0, .slice none 0 0] 27, nW ([] : List Int), nW ([] : List Int)]) (by kernel_rfl) ?_
 refine kSeq ?_
 refine cSeq ?_
 refine cReg ?_
 refine segH 2 (T1 := (mkT 26 [(1, vP 0 0), (2, vP 1 0), (3, vP 2 0), (21, vP 0 5), (22, .slice none 0 0)])) (by kernel_rfl) ?_
 refine rCall (v := vS 5 0) (args := [.slice none 0 0]) (by kernel_rfl) rfl (by kernel_rfl) (Sound.lay (E := [nW ([] : List Int)]) [] (toI_N) trivial rfl trivial rfl (by first | rfl | simp [mpV, mpA, mpS, mpP, renId, shift]) rfl ⟨enF (flatNums _ _ _ _) (Or.inl rfl), trivial⟩) ?_
 refine segEnd [2, 3] (T1 := (mkT 26 [(2, vP 1 0), (3, vP 2 0)])) (H1 := [rB [vI x, vI y, vI z, .slice none 0 0, .slice none 0 0, .slice none 0 0] 24, rB [vI 0, vI 0, vI 0, .slice none 0 0, .slice none 0 0, .slice none 0 0] 27, rB [vI x, vI y, vI z, vS 3 0, vS 4 0, vS 5 0] 27, nW ([] : List Int), nW ([] : List Int), nW ([] : List Int)]) (by kernel_rfl) ?_
 refine kSeq ?_
 refine cSeq ?_
 refine cReg ?_
 refine segEnd [2] (T1 := (mkT 26 [(2, vP 1 0)])) (H1 := [rB [vI x, vI y, vI z, .slice none 0 0, .slice none 0 0, .slice none 0 0] 24, rB [vI x, vI y, vI z, vS 3 0, vS 4 0, vS 5 0] 27, rB [vI x, vI y, vI z, vS 3 0, vS 4 0, vS 5 0] 27, nW ([] : List Int), nW ([] : List Int), nW ([] : List Int)]) (by kernel_rfl) ?_
 refine kSeq ?_
 refine cRet ?_
 exact endF (Or.inr rfl) (l := [.agg #[vI x, vI y, vI z, vS 3 0, vS 4 0, vS 5 0]]) [3, 4, 5] (by kernel_rfl) (by first | rfl | simp [packR, mpV, mpA, mpS, mpP, renId]) ⟨rrF (flatNums _ _ _ _) rfl, ⟨rrF (flatNums _ _ _ _) rfl, ⟨rrF (flatNums _ _ _ _) rfl, trivial⟩⟩⟩ rfl rfl
set_option maxRecDepth 100000 in
set_option maxHeartbeats 4000000 in
theorem eqSh (x : Int) (y : Int) (z : Int) (A : List Int) (B : List Int) (C : List Int) (hA : A.length ≤ 1048576) (hB : B.length ≤ 1048576) (hC : C.length ≤ 1048576) : Sound Try.prog 19 [.agg #[vI x, vI y, vI z, vS 0 A.length, vS 1 B.length, vS 2 C.length], .agg #[vI x, vI y, vI z, vS 3 A.length, vS 4 B.length, vS 5 C.length]] [nR A, nR B, nR C, nR A, nR B, nR C] (.bool true) [nR A, nR B, nR C, nR A, nR B, nR C] := by
 refine sound_intro (C := cx) Try.func19 rfl (by kernel_rfl) fun hcl => ?_
 refine cSeq ?_
 refine cReg ?_
 refine segEnd [2, 3] (T1 := (mkT 38 [(2, vP 6 0), (3, vP 7 0)])) (H1 := [nR A, nR B, nR C, nR A, nR B, nR C, rB [vI x, vI y, vI z, vS 0 A.length, vS 1 B.length, vS 2 C.length] 27, rB [vI x, vI y, vI z, vS 3 A.length, vS 4 B.length, vS 5 C.length] 27]) (by kernel_rfl) ?_
 refine kSeq ?_
 refine cSeq ?_
 refine cSeq ?_
 refine cReg ?_
 refine segH 4 (T1 := (mkT 38 [(2, vP 6 0), (3, vP 7 0), (5, vP 6 0), (6, vI x), (7, vP 7 0), (8, vI x)])) (by kernel_rfl) ?_
 refine rOp (v := .bool false) (by kernel_rfl) (eNeS (k := .i64) (a := x) (by kernel_rfl) (by kernel_rfl)) ?_
 refine segEndH [2, 3, 9] (T1 := (mkT 38 [(2, vP 6 0), (3, vP 7 0), (9, .bool false)])) (by kernel_rfl) ?_
 refine kSeq ?_
 refine cFalse (by kernel_rfl) ?_
 refine cSkip ?_
 refine kSeq ?_
 refine cSeq ?_
 refine cSeq ?_
 refine cReg ?_
 refine segH 4 (T1 := (mkT 38 [(2, vP 6 0), (3, vP 7 0), (9, .bool false), (10, vP 6 1), (11, vI y), (12, vP 7 1), (13, vI y)])) (by kernel_rfl) ?_
 refine rOp (v := .bool false) (by kernel_rfl) (eNeS (k := .i64) (a := y) (by kernel_rfl) (by kernel_rfl)) ?_
 refine segEndH [2, 3, 14] (T1 := (mkT 38 [(2, vP 6 0), (3, vP 7 0), (14, .bool false)])) (by kernel_rfl) ?_
 refine kSeq ?_
 refine cFalse (by kernel_rfl) ?_
 refine cSkip ?_
 refine kSeq ?_
 refine cSeq ?_
 refine cSeq ?_
 refine cReg ?_
 refine segH 4 (T1 := (mkT 38 [(2, vP 6 0), (3, vP 7 0), (14, .bool false), (15, vP 6 2), (16, vI z), (17, vP 7 2), (18, vI z)])) (by kernel_rfl) ?_
 refine rOp (v := .bool false) (by kernel_rfl) (eNeS (k := .i64) (a := z) (by kernel_rfl) (by kernel_rfl)) ?_
 refine segEndH [2, 3, 19] (T1 := (mkT 38 [(2, vP 6 0), (3, vP 7 0), (19, .bool false)])) (by kernel_rfl) ?_
 refine kSeq ?_
 refine cFalse (by kernel_rfl) ?_
 refine cSkip ?_
 refine kSeq ?_
 refine cSeq ?_
 refine cSeq ?_
 refine cReg ?_
 refine segH 4 (T1 := (mkT 38 [(2, vP 6 0), (3, vP 7 0), (19, .bool false), (20, vP 6 3), (21, vS 0 A.length), (22, vP 7 3), (23, vS 3 A.length)])) (by kernel_rfl) ?_
 refine rCall (v := .bool true) (args := [vS 0 A.length, vS 3 A.length]) (by kernel_rfl) rfl (by kernel_rfl) (Sound.lay0 [0, 3] (eqI_S A (by first | omega | assumption | (simp; done) | (simp; omega))) ⟨rdF false (flatNums _ _ _ _) rfl rfl, ⟨rdF false (flatNums _ _ _ _) rfl rfl, trivial⟩⟩ rfl ⟨clF (flatNums _ _ _ _), ⟨clF (flatNums _ _ _ _), trivial⟩⟩ rfl (by first | rfl | simp [mpV, mpA, mpS, mpP, renId, shift]) rfl) ?_
 refine segEndH [2, 3, 25] (T1 := (mkT 38 [(2, vP 6 0), (3, vP 7 0), (25, .bool false)])) (by kernel_rfl) ?_
 refine kSeq ?_
 refine cFalse (by kernel_rfl) ?_
 refine cSkip ?_
 refine kSeq ?_
 refine cSeq ?_
 refine cSeq ?_
 refine cReg ?_
 refine segH 4 (T1 := (mkT 38 [(2, vP 6 0), (3, vP 7 0), (25, .bool false), (26, vP 6 4), (27, vS 1 B.length), (28, vP 7 4), (29, vS 4 B.length)])) (by kernel_rfl) ?_
 refine rCall (v := .bool true) (args := [vS 1 B.length, vS 4 B.length]) (by kernel_rfl) rfl (by kernel_rfl) (Sound.lay0 [1, 4] (eqI_S B (by first | omega | assumption | (simp; done) | (simp; omega))) ⟨rdF false (flatNums _ _ _ _) rfl rfl, ⟨rdF false (flatNums _ _ _ _) rfl rfl, trivial⟩⟩ rfl ⟨clF (flatNums _ _ _ _), ⟨clF (flatNums _ _ _ _), trivial⟩⟩ rfl (by first | rfl | simp [mpV, mpA, mpS, mpP, renId, shift]) rfl) ?_
 refine segEndH [2, 3, 31] (T1 := (mkT 38 [(2, vP 6 0), (3, vP 7 0), (31, .bool false)])) (by kernel_rfl) ?_
 refine kSeq ?_
 refine cFalse (by kernel_rfl) ?_
 refine cSkip ?_
 refine kSeq ?_
 refine cSeq ?_
 refine cSeq ?_
 refine cReg ?_
 refine segH 4 (T1 := (mkT 38 [(2, vP 6 0), (3, vP 7 0), (31, .bool false), (32, vP 6 5), (33, vS 2 C.length), (34, vP 7 5), (35, vS 5 C.length)])) (by kernel_rfl) ?_
 refine rCall (v := .bool true) (args := [vS 2 C.length, vS 5 C.length]) (by kernel_rfl) rfl (by kernel_rfl) (Sound.lay0 [2, 5] (eqI_S C (by first | omega | assumption | (simp; done) | (simp; omega))) ⟨rdF false (flatNums _ _ _ _) rfl rfl, ⟨rdF false (flatNums _ _ _ _) rfl rfl, trivial⟩⟩ rfl ⟨clF (flatNums _ _ _ _), ⟨clF (flatNums _ _ _ _), trivial⟩⟩ rfl (by first | rfl | simp [mpV, mpA, mpS, mpP, renId, shift]) rfl) ?_
 refine segEndH [37] (T1 := (mkT 38 [(37, .bool false)])) (by kernel_rfl) ?_
 refine kSeq ?_
 refine cFalse (by kernel_rfl) ?_
 refine cSkip ?_
 refine kSeq ?_
 refine cSeq ?_
 refine cReg ?_
 refine segEndH [4] (T1 := (mkT 38 [(4, .bool true)])) (by kernel_rfl) ?_
 refine kSeq ?_
 refine cRet ?_
 exact endQ (Or.inr rfl) (l := [.bool true]) [rB [vI x, vI y, vI z, vS 0 A.length, vS 1 B.length, vS 2 C.length] 27, rB [vI x, vI y, vI z, vS 3 A.length, vS 4 B.length, vS 5 C.length] 27] (by kernel_rfl) (by first | rfl | kernel_rfl) rfl rfl hcl rfl
end Go.Proofs.Ytbheeobnghlckaa
set_option linter.unusedVariables false
set_option linter.unusedSimpArgs false
namespace Go.Proofs.Ytbheeobnghlckaa
open Go.Am Go.RowKit
set_option maxRecDepth 100000 in
set_option maxHeartbeats 4000000 in
theorem shBox (x : Int) (y : Int) (z : Int) (A : List Int) (B : List Int) (C : List Int)  : Sound Try.prog 61 [.agg #[vI x, vI y, vI z, vS 0 A.length, vS 1 B.length, vS 2 C.length]] [nR A, nR B, nR C] (.agg #[vI x, vI y, vI z]) [nR A, nR B, nR C] := by
 refine sound_intro (C := cx) Try.func61 rfl (by kernel_rfl) fun hcl => ?_
 refine cSeq ?_
 refine cReg ?_
 refine segEnd [1, 2] (T1 := (mkT 10 [(1, vP 3 0), (2, vP 4 0)])) (H1 := [nR A, nR B, nR C, rB [vI x, vI y, vI z, vS 0 A.length, vS 1 B.length, vS 2 C.length] 27, rB [vI 0, vI 0, vI 0] 75]) (by kernel_rfl) ?_
 refine kSeq ?_
 refine cSeq ?_
 refine cReg ?_
 refine segEnd [2] (T1 := (mkT 10 [(2, vP 4 0)])) (H1 := [nR A, nR B, nR C, rB [vI x, vI y, vI z, vS 0 A.length, vS 1 B.length, vS 2 C.length] 27, rB [vI x, vI y, vI z] 75]) (by kernel_rfl) ?_
 refine kSeq ?_
 refine cRet ?_
 exact endQ (Or.inr rfl) (l := [.agg #[vI x, vI y, vI z]]) [rB [vI x, vI y, vI z, vS 0 A.length, vS 1 B.length, vS 2 C.length] 27, rB [vI x, vI y, vI z] 75] (by kernel_rfl) (by first | rfl | kernel_rfl) rfl rfl hcl rfl
set_option maxRecDepth 100000 in
set_option maxHeartbeats 4000000 in
theorem shList0 (x : Int) (y : Int) (z : Int) (A : List Int) (B : List Int) (C : List Int)  : Sound Try.prog 63 [.agg #[vI x, vI y, vI z, vS 0 A.length, vS 1 B.length, vS 2 C.length], vI 0] [nR A, nR B, nR C] (vS 2 C.length) [nR A, nR B, nR C] := by
 refine sound_intro (C := cx) Try.func63 rfl (by kernel_rfl) fun hcl => ?_
 refine cSeq ?_
 refine cReg ?_
 refine segEnd [1, 2] (T1 := (mkT 14 [(1, vI 0), (2, vP 3 0)])) (H1 := [nR A, nR B, nR C, rB [vI x, vI y, vI z, vS 0 A.length, vS 1 B.length, vS 2 C.length] 27]) (by kernel_rfl) ?_
 refine kSeq ?_
 refine cSeq ?_
 refine cReg ?_
 refine segEndH [4] (T1 := (mkT 14 [(4, vS 2 C.length)])) (by kernel_rfl) ?_
 refine kSeq ?_
 refine cRet ?_
 exact endQ (Or.inr rfl) (l := [vS 2 C.length]) [rB [vI x, vI y, vI z, vS 0 A.length, vS 1 B.length, vS 2 C.length] 27] (by kernel_rfl) (by first | rfl | kernel_rfl) rfl rfl hcl rfl
set_option maxRecDepth 100000 in
set_option maxHeartbeats 4000000 in
theorem lines0 (X : Nat) (Y : Nat) (Z : Nat) (hs : Sides X Y Z) : Sound Try.prog 64 [.agg #[vN X, vN Y, vN Z], vI 0] [] (vN (Y * Z)) [] := by
 refine sound_intro (C := cx) Try.func64 rfl (by kernel_rfl) fun hcl => ?_
 have hz := hs.size
 have hx0 := hs.x0
 have hx4 := hs.x4
 have hy0 := hs.y0
 have hy4 := hs.y4
 have hz0 := hs.z0
 have hz4 := hs.z4
 refine cSeq ?_
 refine cReg ?_
 refine segEnd [1, 2] (T1 := (mkT 11 [(1, vI 0), (2, vP 0 0)])) (H1 := [rB [vN X, vN Y, vN Z] 75]) (by kernel_rfl) ?_
 refine kSeq ?_
 refine cSeq ?_
 refine cRegW (N := 1) [⟨[], [], [0]⟩, ⟨[], [], []⟩, ⟨[], [], []⟩, ⟨[], [], []⟩, ⟨[], [], [0]⟩, ⟨[], [], []⟩, ⟨[], [], []⟩] 0 [] (by rfl) (by rfl) (by kernel_rfl) (by kernel_rfl) (by kernel_rfl) ⟨nmsX (by kernel_rfl), trivial⟩ ?_
 refine segWH 1 (T1 := (mkT 11 [(1, vI 0), (2, vP 0 0), (5, .agg #[vN X, vN Y, vN Z])])) (by kernel_rfl) ?_
 refine rW (m := ⟨[], [], []⟩) (v := vN (X * Y * Z)) rfl (by kernel_rfl) (stQ (args := [.agg #[vN X, vN Y, vN Z]]) rfl (by kernel_rfl) (Any.lay0 [] (sizeB X Y Z (by first | assumption | omega | rfl | decide | exact HeapL.list _ _ _ _ | exact HeapL.nil _ _ _ | exact HeapL.all _ _ _ | (apply HeapL.lt64 <;> assumption) | (repeat' (first | assumption | apply or_lt64 | apply and_lt64 | apply andn_lt64 | apply pow_lt64 | (apply HeapL.lt64 <;> assumption))))) trivial rfl trivial rfl (by first | rfl | simp [mpV, mpA, mpS, mpP, renId, shift]) rfl) rfl (by kernel_rfl) (by kernel_rfl)) (by kernel_rfl) nr0 ?_
 refine segWH 3 (T1 := (mkT 11 [(1, vI 0), (2, vP 0 0), (5, .agg #[vN X, vN Y, vN Z]), (6, vN (X * Y * Z)), (7, vI 0), (8, vP 0 0), (9, vN X)])) (by kernel_rfl) ?_
 refine rW (m := ⟨[], [], []⟩) (v := vN ((X * Y * Z) / X)) rfl (by kernel_rfl) (stId (eQuo (k := .i64) (a := ((X * Y * Z : Nat) : Int)) (b := ((X : Nat) : Int)) (c := (((X * Y * Z) / X : Nat) : Int)) (by kernel_rfl) (by kernel_rfl) (by omega) (nQuo (by omega))) rfl (by kernel_rfl) (by kernel_rfl) (by kernel_rfl)) (by kernel_rfl) nr0 ?_
 refine segEndWH [4] (T1 := (mkT 11 [(4, vN ((X * Y * Z) / X))])) (by kernel_rfl) ?_
 refine kSeq ?_
 refine cRet ?_
 have he0 : ((X * Y * Z) / X : Nat) = Y * Z := by first | exact (by rw [Nat.mul_assoc, Nat.mul_div_cancel_left _ (by omega)])
 refine endCast (v1 := vN ((X * Y * Z) / X)) (H1 := []) (by first | rfl | ((try rw [← he0]); done) | (simp only [← he0]; done)) (by first | rfl | ((try rw [← he0]); done) | (simp only [← he0]; done)) ?_
 exact endQ (Or.inr rfl) (l := [vN ((X * Y * Z) / X)]) [rB [vN X, vN Y, vN Z] 75] (by kernel_rfl) (by first | rfl | kernel_rfl) rfl rfl hcl rfl
set_option maxRecDepth 100000 in
set_option maxHeartbeats 4000000 in
theorem shList1 (x : Int) (y : Int) (z : Int) (A : List Int) (B : List Int) (C : List Int)  : Sound Try.prog 63 [.agg #[vI x, vI y, vI z, vS 0 A.length, vS 1 B.length, vS 2 C.length], vI 1] [nR A, nR B, nR C] (vS 1 B.length) [nR A, nR B, nR C] := by
 refine sound_intro (C := cx) Try.func63 rfl (by kernel_rfl) fun hcl => ?_
 refine cSeq ?_
 refine cReg ?_
 refine segEnd [1, 2] (T1 := (mkT 14 [(1, vI 1), (2, vP 3 0)])) (H1 := [nR A, nR B, nR C, rB [vI x, vI y, vI z, vS 0 A.length, vS 1 B.length, vS 2 C.length] 27]) (by kernel_rfl) ?_
 refine kSeq ?_
 refine cSeq ?_
 refine cReg ?_
 refine segEndH [4] (T1 := (mkT 14 [(4, vS 1 B.length)])) (by kernel_rfl) ?_
 refine kSeq ?_
 refine cRet ?_
 exact endQ (Or.inr rfl) (l := [vS 1 B.length]) [rB [vI x, vI y, vI z, vS 0 A.length, vS 1 B.length, vS 2 C.length] 27] (by kernel_rfl) (by first | rfl | kernel_rfl) rfl rfl hcl rfl
set_option maxRecDepth 100000 in
set_option maxHeartbeats 4000000 in
theorem lines1 (X : Nat) (Y : Nat) (Z : Nat) (hs : Sides X Y Z) : Sound Try.prog 64 [.agg #[vN X, vN Y, vN Z], vI 1] [] (vN (X * Z)) [] := by
 refine sound_intro (C := cx) Try.func64 rfl (by kernel_rfl) fun hcl => ?_
 have hz := hs.size
 have hx0 := hs.x0
 have hx4 := hs.x4
 have hy0 := hs.y0
 have hy4 := hs.y4
 have hz0 := hs.z0
 have hz4 := hs.z4
 refine cSeq ?_
 refine cReg ?_
 refine segEnd [1, 2] (T1 := (mkT 11 [(1, vI 1), (2, vP 0 0)])) (H1 := [rB [vN X, vN Y, vN Z] 75]) (by kernel_rfl) ?_
 refine kSeq ?_
 refine cSeq ?_
 refine cRegW (N := 1) [⟨[], [], [0]⟩, ⟨[], [], []⟩, ⟨[], [], []⟩, ⟨[], [], []⟩, ⟨[], [], [0]⟩, ⟨[], [], []⟩, ⟨[], [], []⟩] 0 [] (by rfl) (by rfl) (by kernel_rfl) (by kernel_rfl) (by kernel_rfl) ⟨nmsX (by kernel_rfl), trivial⟩ ?_
 refine segWH 1 (T1 := (mkT 11 [(1, vI 1), (2, vP 0 0), (5, .agg #[vN X, vN Y, vN Z])])) (by kernel_rfl) ?_
 refine rW (m := ⟨[], [], []⟩) (v := vN (X * Y * Z)) rfl (by kernel_rfl) (stQ (args := [.agg #[vN X, vN Y, vN Z]]) rfl (by kernel_rfl) (Any.lay0 [] (sizeB X Y Z (by first | assumption | omega | rfl | decide | exact HeapL.list _ _ _ _ | exact HeapL.nil _ _ _ | exact HeapL.all _ _ _ | (apply HeapL.lt64 <;> assumption) | (repeat' (first | assumption | apply or_lt64 | apply and_lt64 | apply andn_lt64 | apply pow_lt64 | (apply HeapL.lt64 <;> assumption))))) trivial rfl trivial rfl (by first | rfl | simp [mpV, mpA, mpS, mpP, renId, shift]) rfl) rfl (by kernel_rfl) (by kernel_rfl)) (by kernel_rfl) nr0 ?_
 refine segWH 3 (T1 := (mkT 11 [(1, vI 1), (2, vP 0 0), (5, .agg #[vN X, vN Y, vN Z]), (6, vN (X * Y * Z)), (7, vI 1), (8, vP 0 1), (9, vN Y)])) (by kernel_rfl) ?_
 refine rW (m := ⟨[], [], []⟩) (v := vN ((X * Y * Z) / Y)) rfl (by kernel_rfl) (stId (eQuo (k := .i64) (a := ((X * Y * Z : Nat) : Int)) (b := ((Y : Nat) : Int)) (c := (((X * Y * Z) / Y : Nat) : Int)) (by kernel_rfl) (by kernel_rfl) (by omega) (nQuo (by omega))) rfl (by kernel_rfl) (by kernel_rfl) (by kernel_rfl)) (by kernel_rfl) nr0 ?_
 refine segEndWH [4] (T1 := (mkT 11 [(4, vN ((X * Y * Z) / Y))])) (by kernel_rfl) ?_
 refine kSeq ?_
 refine cRet ?_
 have he0 : ((X * Y * Z) / Y : Nat) = X * Z := by first | exact (by rw [Nat.mul_right_comm X Y Z, Nat.mul_div_cancel _ (by omega)])
 refine endCast (v1 := vN ((X * Y * Z) / Y)) (H1 := []) (by first | rfl | ((try rw [← he0]); done) | (simp only [← he0]; done)) (by first | rfl | ((try rw [← he0]); done) | (simp only [← he0]; done)) ?_
 exact endQ (Or.inr rfl) (l := [vN ((X * Y * Z) / Y)]) [rB [vN X, vN Y, vN Z] 75] (by kernel_rfl) (by first | rfl | kernel_rfl) rfl rfl hcl rfl
set_option maxRecDepth 100000 in
set_option maxHeartbeats 4000000 in
theorem shList2 (x : Int) (y : Int) (z : Int) (A : List Int) (B : List Int) (C : List Int)  : Sound Try.prog 63 [.agg #[vI x, vI y, vI z, vS 0 A.length, vS 1 B.length, vS 2 C.length], vI 2] [nR A, nR B, nR C] (vS 0 A.length) [nR A, nR B, nR C] := by
 refine sound_intro (C := cx) Try.func63 rfl (by kernel_rfl) fun hcl => ?_
 refine cSeq ?_
 refine cReg ?_
 refine segEnd [1, 2] (T1 := (mkT 14 [(1, vI 2), (2, vP 3 0)])) (H1 := [nR A, nR B, nR C, rB [vI x, vI y, vI z, vS 0 A.length, vS 1 B.length, vS 2 C.length] 27]) (by kernel_rfl) ?_
 refine kSeq ?_
 refine cSeq ?_
 refine cReg ?_
 refine segEndH [4] (T1 := (mkT 14 [(4, vS 0 A.length)])) (by kernel_rfl) ?_
 refine kSeq ?_
 refine cRet ?_
 exact endQ (Or.inr rfl) (l := [vS 0 A.length]) [rB [vI x, vI y, vI z, vS 0 A.length, vS 1 B.length, vS 2 C.length] 27] (by kernel_rfl) (by first | rfl | kernel_rfl) rfl rfl hcl rfl
set_option maxRecDepth 100000 in
set_option maxHeartbeats 4000000 in
theorem lines2r (X : Nat) (Y : Nat) (Z : Nat) (hs : Sides X Y Z) : Sound Try.prog 64 [.agg #[vN X, vN Y, vN Z], vI 2] [] (vN (X * Y * Z / Z)) [] := by
 refine sound_intro (C := cx) Try.func64 rfl (by kernel_rfl) fun hcl => ?_
 have hz := hs.size
 have hx0 := hs.x0
 have hx4 := hs.x4
 have hy0 := hs.y0
 have hy4 := hs.y4
 have hz0 := hs.z0
 have hz4 := hs.z4
 refine cSeq ?_
 refine cReg ?_
 refine segEnd [1, 2] (T1 := (mkT 11 [(1, vI 2), (2, vP 0 0)])) (H1 := [rB [vN X, vN Y, vN Z] 75]) (by kernel_rfl) ?_
 refine kSeq ?_
 refine cSeq ?_
 refine cRegW (N := 1) [⟨[], [], [0]⟩, ⟨[], [], []⟩, ⟨[], [], []⟩, ⟨[], [], []⟩, ⟨[], [], [0]⟩, ⟨[], [], []⟩, ⟨[], [], []⟩] 0 [] (by rfl) (by rfl) (by kernel_rfl) (by kernel_rfl) (by kernel_rfl) ⟨nmsX (by kernel_rfl), trivial⟩ ?_
 refine segWH 1 (T1 := (mkT 11 [(1, vI 2), (2, vP 0 0), (5, .agg #[vN X, vN Y, vN Z])])) (by kernel_rfl) ?_
 refine rW (m := ⟨[], [], []⟩) (v := vN (X * Y * Z)) rfl (by kernel_rfl) (stQ (args := [.agg #[vN X, vN Y, vN Z]]) rfl (by kernel_rfl) (Any.lay0 [] (sizeB X Y Z (by first | assumption | omega | rfl | decide | exact HeapL.list _ _ _ _ | exact HeapL.nil _ _ _ | exact HeapL.all _ _ _ | (apply HeapL.lt64 <;> assumption) | (repeat' (first | assumption | apply or_lt64 | apply and_lt64 | apply andn_lt64 | apply pow_lt64 | (apply HeapL.lt64 <;> assumption))))) trivial rfl trivial rfl (by first | rfl | simp [mpV, mpA, mpS, mpP, renId, shift]) rfl) rfl (by kernel_rfl) (by kernel_rfl)) (by kernel_rfl) nr0 ?_
 refine segWH 3 (T1 := (mkT 11 [(1, vI 2), (2, vP 0 0), (5, .agg #[vN X, vN Y, vN Z]), (6, vN (X * Y * Z)), (7, vI 2), (8, vP 0 2), (9, vN Z)])) (by kernel_rfl) ?_
 refine rW (m := ⟨[], [], []⟩) (v := vN ((X * Y * Z) / Z)) rfl (by kernel_rfl) (stId (eQuo (k := .i64) (a := ((X * Y * Z : Nat) : Int)) (b := ((Z : Nat) : Int)) (c := (((X * Y * Z) / Z : Nat) : Int)) (by kernel_rfl) (by kernel_rfl) (by omega) (nQuo (by omega))) rfl (by kernel_rfl) (by kernel_rfl) (by kernel_rfl)) (by kernel_rfl) nr0 ?_
 refine segEndWH [4] (T1 := (mkT 11 [(4, vN ((X * Y * Z) / Z))])) (by kernel_rfl) ?_
 refine kSeq ?_
 refine cRet ?_
 have he0 : ((X * Y * Z) / Z : Nat) = X * Y * Z / Z := by first | omega | assumption | rfl | (symm; assumption) | (simp_all; done)
 refine endCast (v1 := vN ((X * Y * Z) / Z)) (H1 := []) (by first | rfl | ((try rw [← he0]); done) | (simp only [← he0]; done)) (by first | rfl | ((try rw [← he0]); done) | (simp only [← he0]; done)) ?_
 exact endQ (Or.inr rfl) (l := [vN ((X * Y * Z) / Z)]) [rB [vN X, vN Y, vN Z] 75] (by kernel_rfl) (by first | rfl | kernel_rfl) rfl rfl hcl rfl
theorem lines2 (X : Nat) (Y : Nat) (Z : Nat) (hs : Sides X Y Z) : Sound Try.prog 64 [.agg #[vN X, vN Y, vN Z], vI 2] [] (vN (X * Y)) [] := by
 have h := lines2r X Y Z hs; rw [Nat.mul_div_cancel _ (by have := hs.z0; omega)] at h; exact h
set_option maxRecDepth 100000 in
set_option maxHeartbeats 4000000 in
theorem allWithinN (N : List Int) (lo : Int) (hi : Int) (hl : N.length ≤ 1048576) : Sound Try.prog 65 [vS 0 N.length, vI lo, vI hi] [nR N] (.bool (allB N lo hi)) [nR N] := by
 refine sound_intro (C := cx) Try.func65 rfl (by kernel_rfl) fun hcl => ?_
 refine cSeq ?_
 refine cReg ?_
 refine segEndH [0, 1, 2] (T1 := (mkT 21 [(0, vS 0 N.length), (1, vI lo), (2, vI hi)])) (by kernel_rfl) ?_
 refine kSeq ?_
 refine cSeq ?_
 refine cSeq ?_
 refine cReg ?_
 refine segEndH [1, 2, 9, 10, 11] (T1 := (mkT 21 [(1, vI lo), (2, vI hi), (9, vS 0 N.length), (10, vN N.length), (11, vI 0)])) (by kernel_rfl) ?_
 refine kSeq ?_
 refine cBlk ?_
 refine cLoop (fun mm T H => ∃ i : Nat, (i ≤ N.length) ∧ (∀ j, j < i → j < N.length → inR (N.getD j 0) lo hi = true) ∧ mm = N.length - i ∧ T = (mkT 21 [(1, vI lo), (2, vI hi), (9, vS 0 N.length), (10, vN N.length), (11, vN i)]) ∧ H = [nR N]) (N.length - 0) (mkT 21 [(1, vI lo), (2, vI hi), (9, vS 0 N.length), (10, vN N.length), (11, vI 0)]) [nR N] (wkSame [1, 2, 9, 10, 11] (by kernel_rfl)) ?_ ?_
 ·
  exact ⟨0, (Nat.zero_le _), (fun j hj => absurd hj (Nat.not_lt_zero j)), rfl, rfl, rfl⟩
 ·
  rintro _ _ _ ⟨i, hir, ho, rfl, rfl, rfl⟩
  refine cSeq ?_
  refine cReg ?_
  refine segEndH [1, 2, 9, 10, 11, 12] (T1 := (mkT 21 [(1, vI lo), (2, vI hi), (9, vS 0 N.length), (10, vN N.length), (11, vN i), (12, .bool (decide (((i : Nat) : Int) < ((N.length : Nat) : Int))))])) (by kernel_rfl) ?_
  refine kSeq ?_
  refine cSeq ?_
  cases h1 : (decide (((i : Nat) : Int) < ((N.length : Nat) : Int)) : Bool)
  ·
   have h1k := h1
   (try simp only [bs0, bs1, bs2, bs3, beq_iff_eq, bne_iff_ne, beq_eq_false_iff_ne, bne_eq_false_iff_eq, ne_eq, bs4, bs5, bs6, bs7, bs8, bs9, bs10, bs11, ge_iff_le, gt_iff_lt] at h1)
   refine cFalse (by kernel_rfl) ?_
   refine cExit ?_
   refine kSeqE ?_
   refine kLoopE ?_
   refine kBlkHit ?_
   refine kSeq ?_
   refine cSeq ?_
   refine cReg ?_
   refine segEndH [6] (T1 := (mkT 21 [(6, .bool true)])) (by kernel_rfl) ?_
   refine kSeq ?_
   refine cRet ?_
   have he0 : (true : Bool) = allB N lo hi := by first | exact allB_no (i := i) (by omega) (by assumption) | exact allB_yes (by omega) ho
   refine endCast (v1 := .bool true) (H1 := [nR N]) (by first | rfl | ((try rw [← he0]); done) | (simp only [← he0]; done)) (by first | rfl | ((try rw [← he0]); done) | (simp only [← he0]; done)) ?_
   exact endQ (Or.inr rfl) (l := [.bool true]) [] (by kernel_rfl) (by first | rfl | kernel_rfl) rfl rfl hcl rfl
  ·
   have h1k := h1
   (try simp only [bs0, bs1, bs2, bs3, beq_iff_eq, bne_iff_ne, beq_eq_false_iff_ne, bne_eq_false_iff_eq, ne_eq, bs4, bs5, bs6, bs7, bs8, bs9, bs10, bs11, ge_iff_le, gt_iff_lt] at h1)
   refine cTrue (by kernel_rfl) ?_
   refine cSkip ?_
   refine kSeq ?_
   refine cSeq ?_
   refine cBlk ?_
   refine cSeq ?_
   refine cReg ?_
   refine rOp (v := vP 0 i) (by kernel_rfl) (eIdxS (ad := ⟨0, 0, none⟩) (n := N.length) (m := 0) (k := .i64) (c := ((i : Nat) : Int)) (j := i) (o := i) (by kernel_rfl) (by kernel_rfl) ti22 ti3 (rfl) (by omega) (by simp)) ?_
   refine rOp (v := vI (N.getD i 0)) (by kernel_rfl) (eLdNum (ad := ⟨0, i, none⟩) (r := ⟨nums N, 3, false, false⟩) (L := N) (j := i) (by kernel_rfl) (by kernel_rfl) rfl (by first | rfl | omega) (by omega) ti3 rfl) ?_
   refine segEndH [1, 2, 8, 9, 10, 11] (T1 := (mkT 21 [(1, vI lo), (2, vI hi), (8, vI (N.getD i 0)), (9, vS 0 N.length), (10, vN N.length), (11, vN i)])) (by kernel_rfl) ?_
   refine kSeq ?_
   refine cSeq ?_
   refine cReg ?_
   refine segH 3 (T1 := (mkT 21 [(1, vI lo), (2, vI hi), (8, vI (N.getD i 0)), (9, vS 0 N.length), (10, vN N.length), (11, vN i), (15, vI (N.getD i 0)), (16, vI lo), (17, vI hi)])) (by kernel_rfl) ?_
   refine rCall (v := .bool (inR (N.getD i 0) lo hi)) (args := [vI (N.getD i 0), vI lo, vI hi]) (by kernel_rfl) rfl (by kernel_rfl) (Sound.lay0 [] (withinB (N.getD i 0) lo hi) trivial rfl trivial rfl (by first | rfl | simp [mpV, mpA, mpS, mpP, renId, shift]) rfl) ?_
   refine segEndH [1, 2, 9, 10, 11, 19] (T1 := (mkT 21 [(1, vI lo), (2, vI hi), (9, vS 0 N.length), (10, vN N.length), (11, vN i), (19, .bool (!(inR (N.getD i 0) lo hi)))])) (by kernel_rfl) ?_
   refine kSeq ?_
   cases h2 : (inR (N.getD i 0) lo hi : Bool)
   ·
    have h2k := h2
    (try simp only [bs0, bs1, bs2, bs3, beq_iff_eq, bne_iff_ne, beq_eq_false_iff_ne, bne_eq_false_iff_eq, ne_eq, bs4, bs5, bs6, bs7, bs8, bs9, bs10, bs11, ge_iff_le, gt_iff_lt] at h2)
    refine cTrue (by kernel_rfl) ?_
    refine cSeq ?_
    refine cReg ?_
    refine segEndH [6] (T1 := (mkT 21 [(6, .bool false)])) (by kernel_rfl) ?_
    refine kSeq ?_
    refine cRet ?_
    refine kBlkR ?_
    refine kSeqR ?_
    refine kLoopR ?_
    refine kBlkR ?_
    refine kSeqR ?_
    have he0 : (false : Bool) = allB N lo hi := by first | exact allB_no (i := i) (by omega) (by assumption) | exact allB_yes (by omega) ho
    refine endCast (v1 := .bool false) (H1 := [nR N]) (by first | rfl | ((try rw [← he0]); done) | (simp only [← he0]; done)) (by first | rfl | ((try rw [← he0]); done) | (simp only [← he0]; done)) ?_
    exact endQ (Or.inr rfl) (l := [.bool false]) [] (by kernel_rfl) (by first | rfl | kernel_rfl) rfl rfl hcl rfl
   ·
    have h2k := h2
    (try simp only [bs0, bs1, bs2, bs3, beq_iff_eq, bne_iff_ne, beq_eq_false_iff_ne, bne_eq_false_iff_eq, ne_eq, bs4, bs5, bs6, bs7, bs8, bs9, bs10, bs11, ge_iff_le, gt_iff_lt] at h2)
    refine cFalse (by kernel_rfl) ?_
    refine cSkip ?_
    refine kBlk ?_
    refine kSeq ?_
    refine cReg ?_
    refine rOp (v := vN (i + 1)) (by kernel_rfl) (eAdd (k := .i64) (a := ((i : Nat) : Int)) (b := 1) (c := ((i + 1 : Nat) : Int)) (by kernel_rfl) (by kernel_rfl) (wr64 (by omega) (by omega) (by omega))) ?_
    refine segEndH [1, 2, 9, 10, 11] (T1 := (mkT 21 [(1, vI lo), (2, vI hi), (9, vS 0 N.length), (10, vN N.length), (11, vN (i + 1))])) (by kernel_rfl) ?_
    exact kLoop (N.length - (i + 1)) (mkT 21 [(1, vI lo), (2, vI hi), (9, vS 0 N.length), (10, vN N.length), (11, vN (i + 1))]) [nR N] (by omega) (wkSame [1, 2, 9, 10, 11] (by kernel_rfl)) ⟨(i + 1), (by omega), (fun j hj hl => by rcases Nat.lt_or_ge j i with h | h; exact ho j h hl; (have e : j = i := by omega); subst e; assumption), rfl, rfl, rfl⟩
set_option maxRecDepth 100000 in
set_option maxHeartbeats 4000000 in
theorem l3OnesB (N : List Int) (n : Int) (hl : N.length ≤ 1048576) : Sound Try.prog 105 [vS 0 N.length, vI n] [nR N] (.bool (onesB N n)) [nR N] := by
 refine sound_intro (C := cx) Try.func105 rfl (by kernel_rfl) fun hcl => ?_
 refine cSeq ?_
 refine cReg ?_
 refine segEndH [0, 1] (T1 := (mkT 22 [(0, vS 0 N.length), (1, vI n)])) (by kernel_rfl) ?_
 refine kSeq ?_
 refine cSeq ?_
 refine cSeq ?_
 refine cReg ?_
 refine segEndH [0, 1, 5] (T1 := (mkT 22 [(0, vS 0 N.length), (1, vI n), (5, vI 0)])) (by kernel_rfl) ?_
 refine kSeq ?_
 refine cBlk ?_
 refine cLoop (fun mm T H => ∃ i : Nat, (i ≤ N.length) ∧ (∀ j, j < i → j < N.length → inR (N.getD j 0) 0 1 = true) ∧ mm = N.length - i ∧ T = (mkT 22 [(0, vS 0 N.length), (1, vI n), (5, vN i)]) ∧ H = [nR N]) (N.length - 0) (mkT 22 [(0, vS 0 N.length), (1, vI n), (5, vI 0)]) [nR N] (wkSame [0, 1, 5] (by kernel_rfl)) ?_ ?_
 ·
  exact ⟨0, (Nat.zero_le _), (fun j hj => absurd hj (Nat.not_lt_zero j)), rfl, rfl, rfl⟩
 ·
  rintro _ _ _ ⟨i, hir, ho, rfl, rfl, rfl⟩
  refine cSeq ?_
  refine cSeq ?_
  refine cReg ?_
  refine segEndH [0, 1, 5, 9] (T1 := (mkT 22 [(0, vS 0 N.length), (1, vI n), (5, vN i), (9, .bool (decide (((i : Nat) : Int) < ((N.length : Nat) : Int))))])) (by kernel_rfl) ?_
  refine kSeq ?_
  cases h1 : (decide (((i : Nat) : Int) < ((N.length : Nat) : Int)) : Bool)
  ·
   have h1k := h1
   (try simp only [bs0, bs1, bs2, bs3, beq_iff_eq, bne_iff_ne, beq_eq_false_iff_ne, bne_eq_false_iff_eq, ne_eq, bs4, bs5, bs6, bs7, bs8, bs9, bs10, bs11, ge_iff_le, gt_iff_lt] at h1)
   refine cFalse (by kernel_rfl) ?_
   refine cExit ?_
   refine kSeqE ?_
   refine kLoopE ?_
   refine kBlkHit ?_
   refine kSeq ?_
   refine cSeq ?_
   refine cReg ?_
   refine segEndH [4] (T1 := (mkT 22 [(4, .bool (((N.length : Nat) : Int) == n))])) (by kernel_rfl) ?_
   refine kSeq ?_
   refine cRet ?_
   have he0 : ((((N.length : Nat) : Int) == n) : Bool) = onesB N n := by first | exact ones_no (i := i) (by omega) (by assumption) | exact ones_yes (by omega) ho
   refine endCast (v1 := .bool (((N.length : Nat) : Int) == n)) (H1 := [nR N]) (by first | rfl | ((try rw [← he0]); done) | (simp only [← he0]; done)) (by first | rfl | ((try rw [← he0]); done) | (simp only [← he0]; done)) ?_
   exact endQ (Or.inr rfl) (l := [.bool (((N.length : Nat) : Int) == n)]) [] (by kernel_rfl) (by first | rfl | kernel_rfl) rfl rfl hcl rfl
  ·
   have h1k := h1
   (try simp only [bs0, bs1, bs2, bs3, beq_iff_eq, bne_iff_ne, beq_eq_false_iff_ne, bne_eq_false_iff_eq, ne_eq, bs4, bs5, bs6, bs7, bs8, bs9, bs10, bs11, ge_iff_le, gt_iff_lt] at h1)
   refine cTrue (by kernel_rfl) ?_
   refine cSkip ?_
   refine kSeq ?_
   refine cSeq ?_
   refine cBlk ?_
   refine cSeq ?_
   refine cReg ?_
   refine segH 2 (T1 := (mkT 22 [(0, vS 0 N.length), (1, vI n), (5, vN i), (9, .bool true), (12, vS 0 N.length), (13, vN i)])) (by kernel_rfl) ?_
   refine rOp (v := vP 0 i) (by kernel_rfl) (eIdxS (ad := ⟨0, 0, none⟩) (n := N.length) (m := 0) (k := .i64) (c := ((i : Nat) : Int)) (j := i) (o := i) (by kernel_rfl) (by kernel_rfl) ti22 ti3 (rfl) (by omega) (by simp)) ?_
   refine rOp (v := vI (N.getD i 0)) (by kernel_rfl) (eLdNum (ad := ⟨0, i, none⟩) (r := ⟨nums N, 3, false, false⟩) (L := N) (j := i) (by kernel_rfl) (by kernel_rfl) rfl (by first | rfl | omega) (by omega) ti3 rfl) ?_
   refine rCall (v := .bool (inR (N.getD i 0) 0 1)) (args := [vI (N.getD i 0), vI 0, vI 1]) (by kernel_rfl) rfl (by kernel_rfl) (Sound.lay0 [] (l1InB (N.getD i 0) 0 1) trivial rfl trivial rfl (by first | rfl | simp [mpV, mpA, mpS, mpP, renId, shift]) rfl) ?_
   refine segEndH [0, 1, 5, 17] (T1 := (mkT 22 [(0, vS 0 N.length), (1, vI n), (5, vN i), (17, .bool (!(inR (N.getD i 0) 0 1)))])) (by kernel_rfl) ?_
   refine kSeq ?_
   cases h2 : (inR (N.getD i 0) 0 1 : Bool)
   ·
    have h2k := h2
    (try simp only [bs0, bs1, bs2, bs3, beq_iff_eq, bne_iff_ne, beq_eq_false_iff_ne, bne_eq_false_iff_eq, ne_eq, bs4, bs5, bs6, bs7, bs8, bs9, bs10, bs11, ge_iff_le, gt_iff_lt] at h2)
    refine cTrue (by kernel_rfl) ?_
    refine cSeq ?_
    refine cReg ?_
    refine segEndH [4] (T1 := (mkT 22 [(4, .bool false)])) (by kernel_rfl) ?_
    refine kSeq ?_
    refine cRet ?_
    refine kBlkR ?_
    refine kSeqR ?_
    refine kLoopR ?_
    refine kBlkR ?_
    refine kSeqR ?_
    have he0 : (false : Bool) = onesB N n := by first | exact ones_no (i := i) (by omega) (by assumption) | exact ones_yes (by omega) ho
    refine endCast (v1 := .bool false) (H1 := [nR N]) (by first | rfl | ((try rw [← he0]); done) | (simp only [← he0]; done)) (by first | rfl | ((try rw [← he0]); done) | (simp only [← he0]; done)) ?_
    exact endQ (Or.inr rfl) (l := [.bool false]) [] (by kernel_rfl) (by first | rfl | kernel_rfl) rfl rfl hcl rfl
   ·
    have h2k := h2
    (try simp only [bs0, bs1, bs2, bs3, beq_iff_eq, bne_iff_ne, beq_eq_false_iff_ne, bne_eq_false_iff_eq, ne_eq, bs4, bs5, bs6, bs7, bs8, bs9, bs10, bs11, ge_iff_le, gt_iff_lt] at h2)
    refine cFalse (by kernel_rfl) ?_
    refine cSkip ?_
    refine kBlk ?_
    refine kSeq ?_
    refine cReg ?_
    refine segH 1 (T1 := (mkT 22 [(0, vS 0 N.length), (1, vI n), (5, vN i), (10, vN i), (17, .bool false)])) (by kernel_rfl) ?_
    refine rOp (v := vN (i + 1)) (by kernel_rfl) (eAdd (k := .i64) (a := ((i : Nat) : Int)) (b := 1) (c := ((i + 1 : Nat) : Int)) (by kernel_rfl) (by kernel_rfl) (wr64 (by omega) (by omega) (by omega))) ?_
    refine segEndH [0, 1, 5] (T1 := (mkT 22 [(0, vS 0 N.length), (1, vI n), (5, vN (i + 1))])) (by kernel_rfl) ?_
    exact kLoop (N.length - (i + 1)) (mkT 22 [(0, vS 0 N.length), (1, vI n), (5, vN (i + 1))]) [nR N] (by omega) (wkSame [0, 1, 5] (by kernel_rfl)) ⟨(i + 1), (by omega), (fun j hj hl => by rcases Nat.lt_or_ge j i with h | h; exact ho j h hl; (have e : j = i := by omega); subst e; assumption), rfl, rfl, rfl⟩
set_option maxRecDepth 100000 in
set_option maxHeartbeats 4000000 in
theorem l3ShadowB_no (x : Int) (y : Int) (z : Int) (A : List Int) (B : List Int) (C : List Int) (hv : valid3 x y z = false) (hA : A.length ≤ 1048576) (hB : B.length ≤ 1048576) (hC : C.length ≤ 1048576) : Sound Try.prog 60 [.agg #[vI x, vI y, vI z, vS 0 A.length, vS 1 B.length, vS 2 C.length]] [nR A, nR B, nR C] (.bool false) [nR A, nR B, nR C] := by
 refine sound_intro (C := cx) Try.func60 rfl (by kernel_rfl) fun hcl => ?_
 refine cSeq ?_
 refine cReg ?_
 refine segEnd [1] (T1 := (mkT 40 [(1, vP 3 0)])) (H1 := [nR A, nR B, nR C, rB [vI x, vI y, vI z, vS 0 A.length, vS 1 B.length, vS 2 C.length] 27]) (by kernel_rfl) ?_
 refine kSeq ?_
 refine cSeq ?_
 refine cReg ?_
 refine segH 6 (T1 := (mkT 40 [(1, vP 3 0), (3, vP 3 0), (4, vI x), (5, vP 3 1), (6, vI y), (7, vP 3 2), (8, vI z)])) (by kernel_rfl) ?_
 refine rCall (v := .bool false) (args := [vI x, vI y, vI z]) (by kernel_rfl) rfl (by kernel_rfl) (Sound.lay0 [] (sides_no x y z (by assumption)) trivial rfl trivial rfl (by first | rfl | simp [mpV, mpA, mpS, mpP, renId, shift]) rfl) ?_
 refine segEndH [2] (T1 := (mkT 40 [(2, .bool false)])) (by kernel_rfl) ?_
 refine kSeq ?_
 refine cRet ?_
 exact endQ (Or.inr rfl) (l := [.bool false]) [rB [vI x, vI y, vI z, vS 0 A.length, vS 1 B.length, vS 2 C.length] 27] (by kernel_rfl) (by first | rfl | kernel_rfl) rfl rfl hcl rfl
set_option maxRecDepth 100000 in
set_option maxHeartbeats 4000000 in
theorem l3ShadowB_yes (X : Nat) (Y : Nat) (Z : Nat) (A : List Int) (B : List Int) (C : List Int) (hs : Sides X Y Z) (hA : A.length ≤ 1048576) (hB : B.length ≤ 1048576) (hC : C.length ≤ 1048576) : Sound Try.prog 60 [.agg #[vN X, vN Y, vN Z, vS 0 A.length, vS 1 B.length, vS 2 C.length]] [nR A, nR B, nR C] (.bool (shadB X Y Z A B C)) [nR A, nR B, nR C] := by
 refine sound_intro (C := cx) Try.func60 rfl (by kernel_rfl) fun hcl => ?_
 have hz := hs.size
 have hx0 := hs.x0
 have hx4 := hs.x4
 have hy0 := hs.y0
 have hy4 := hs.y4
 have hz0 := hs.z0
 have hz4 := hs.z4
 have hxy : X * Y ≤ 4 * 4 := Nat.mul_le_mul (by omega) (by omega)
 have hxz : X * Z ≤ 4 * 4 := Nat.mul_le_mul (by omega) (by omega)
 have hyz : Y * Z ≤ 4 * 4 := Nat.mul_le_mul (by omega) (by omega)
 refine cSeq ?_
 refine cReg ?_
 refine segEnd [1] (T1 := (mkT 40 [(1, vP 3 0)])) (H1 := [nR A, nR B, nR C, rB [vN X, vN Y, vN Z, vS 0 A.length, vS 1 B.length, vS 2 C.length] 27]) (by kernel_rfl) ?_
 refine kSeq ?_
 refine cSeq ?_
 refine cReg ?_
 refine segH 6 (T1 := (mkT 40 [(1, vP 3 0), (3, vP 3 0), (4, vN X), (5, vP 3 1), (6, vN Y), (7, vP 3 2), (8, vN Z)])) (by kernel_rfl) ?_
 refine rCall (v := .bool true) (args := [vN X, vN Y, vN Z]) (by kernel_rfl) rfl (by kernel_rfl) (Sound.lay0 [] (sidesB X Y Z (by first | assumption | omega | rfl | decide | exact HeapL.list _ _ _ _ | exact HeapL.nil _ _ _ | exact HeapL.all _ _ _ | (apply HeapL.lt64 <;> assumption) | (repeat' (first | assumption | apply or_lt64 | apply and_lt64 | apply andn_lt64 | apply pow_lt64 | (apply HeapL.lt64 <;> assumption))))) trivial rfl trivial rfl (by first | rfl | simp [mpV, mpA, mpS, mpP, renId, shift]) rfl) ?_
 refine segH 7 (T1 := (mkT 40 [(1, vP 3 0), (3, vP 3 0), (4, vN X), (5, vP 3 1), (6, vN Y), (7, vP 3 2), (8, vN Z), (9, .bool true), (10, .bool true), (11, vP 3 3), (12, vS 0 A.length), (13, vP 3 0), (14, vN X), (15, vP 3 1), (16, vN Y)])) (by kernel_rfl) ?_
 refine rOp (v := vN (X * Y)) (by kernel_rfl) (eMul (k := .i64) (a := ((X : Nat) : Int)) (b := ((Y : Nat) : Int)) (c := ((X * Y : Nat) : Int)) (by kernel_rfl) (by kernel_rfl) (nMul (by omega))) ?_
 refine rCall (v := .bool (onesB A ((X * Y : Nat) : Int))) (args := [vS 0 A.length, vN (X * Y)]) (by kernel_rfl) rfl (by kernel_rfl) (Sound.lay0 [0] (l3OnesB A ((X * Y : Nat) : Int) (by first | omega | assumption | (simp; done) | (simp; omega))) ⟨rdF false (flatNums _ _ _ _) rfl rfl, trivial⟩ rfl ⟨clF (flatNums _ _ _ _), trivial⟩ rfl (by first | rfl | simp [mpV, mpA, mpS, mpP, renId, shift]) rfl) ?_
 refine segH 2 (T1 := (mkT 40 [(1, vP 3 0), (3, vP 3 0), (4, vN X), (5, vP 3 1), (6, vN Y), (7, vP 3 2), (8, vN Z), (9, .bool true), (10, .bool true), (11, vP 3 3), (12, vS 0 A.length), (13, vP 3 0), (14, vN X), (15, vP 3 1), (16, vN Y), (17, vN (X * Y)), (18, .bool (onesB A ((X * Y : Nat) : Int))), (19, .bool (onesB A ((X * Y : Nat) : Int))), (20, .bool (onesB A ((X * Y : Nat) : Int)))])) (by kernel_rfl) ?_
 cases h1 : (onesB A ((X * Y : Nat) : Int) : Bool)
 ·
  have h1k := h1
  (try simp only [bs0, bs1, bs2, bs3, beq_iff_eq, bne_iff_ne, beq_eq_false_iff_ne, bne_eq_false_iff_eq, ne_eq, bs4, bs5, bs6, bs7, bs8, bs9, bs10, bs11, ge_iff_le, gt_iff_lt] at h1)
  refine segEnd [2] (T1 := (mkT 40 [(2, .bool false)])) (H1 := [nR A, nR B, nR C, rB [vN X, vN Y, vN Z, vS 0 A.length, vS 1 B.length, vS 2 C.length] 27]) (by kernel_rfl) ?_
  refine kSeq ?_
  refine cRet ?_
  have he0 : (false : Bool) = shadB X Y Z A B C := by first | exact (shad_t (ho.2.2 (by omega)) (ho.2.1 (by omega)) (ho.1 (by omega))).symm | (symm; first | exact shad_3 (ones_len (by omega)) | exact shad_2 (ones_len (by omega)) | exact shad_1 (ones_len (by omega)) | exact shad_3 (ones_all (by assumption)) | exact shad_2 (ones_all (by assumption)) | exact shad_1 (ones_all (by assumption)) | exact shad_1 (by assumption) | exact shad_2 (by assumption) | exact shad_3 (by assumption) | exact shad_t (by assumption) (by assumption) (by assumption)) | (unfold shadB; simp_all; done)
  refine endCast (v1 := .bool false) (H1 := [nR A, nR B, nR C]) (by first | rfl | ((try rw [← he0]); done) | (simp only [← he0]; done)) (by first | rfl | ((try rw [← he0]); done) | (simp only [← he0]; done)) ?_
  exact endQ (Or.inr rfl) (l := [.bool false]) [rB [vN X, vN Y, vN Z, vS 0 A.length, vS 1 B.length, vS 2 C.length] 27] (by kernel_rfl) (by first | rfl | kernel_rfl) rfl rfl hcl rfl
 ·
  have h1k := h1
  (try simp only [bs0, bs1, bs2, bs3, beq_iff_eq, bne_iff_ne, beq_eq_false_iff_ne, bne_eq_false_iff_eq, ne_eq, bs4, bs5, bs6, bs7, bs8, bs9, bs10, bs11, ge_iff_le, gt_iff_lt] at h1)
  refine seg 6 (T1 := (mkT 40 [(1, vP 3 0), (3, vP 3 0), (4, vN X), (5, vP 3 1), (6, vN Y), (7, vP 3 2), (8, vN Z), (9, .bool true), (10, .bool true), (11, vP 3 3), (12, vS 0 A.length), (13, vP 3 0), (14, vN X), (15, vP 3 1), (16, vN Y), (17, vN (X * Y)), (18, .bool true), (19, .bool true), (20, .bool true), (21, vP 3 4), (22, vS 1 B.length), (23, vP 3 0), (24, vN X), (25, vP 3 2), (26, vN Z)])) (H1 := [nR A, nR B, nR C, rB [vN X, vN Y, vN Z, vS 0 A.length, vS 1 B.length, vS 2 C.length] 27]) (by kernel_rfl) ?_
  refine rOp (v := vN (X * Z)) (by kernel_rfl) (eMul (k := .i64) (a := ((X : Nat) : Int)) (b := ((Z : Nat) : Int)) (c := ((X * Z : Nat) : Int)) (by kernel_rfl) (by kernel_rfl) (nMul (by omega))) ?_
  refine rCall (v := .bool (onesB B ((X * Z : Nat) : Int))) (args := [vS 1 B.length, vN (X * Z)]) (by kernel_rfl) rfl (by kernel_rfl) (Sound.lay0 [1] (l3OnesB B ((X * Z : Nat) : Int) (by first | omega | assumption | (simp; done) | (simp; omega))) ⟨rdF false (flatNums _ _ _ _) rfl rfl, trivial⟩ rfl ⟨clF (flatNums _ _ _ _), trivial⟩ rfl (by first | rfl | simp [mpV, mpA, mpS, mpP, renId, shift]) rfl) ?_
  refine seg 2 (T1 := (mkT 40 [(1, vP 3 0), (3, vP 3 0), (4, vN X), (5, vP 3 1), (6, vN Y), (7, vP 3 2), (8, vN Z), (9, .bool true), (10, .bool true), (11, vP 3 3), (12, vS 0 A.length), (13, vP 3 0), (14, vN X), (15, vP 3 1), (16, vN Y), (17, vN (X * Y)), (18, .bool true), (19, .bool true), (20, .bool true), (21, vP 3 4), (22, vS 1 B.length), (23, vP 3 0), (24, vN X), (25, vP 3 2), (26, vN Z), (27, vN (X * Z)), (28, .bool (onesB B ((X * Z : Nat) : Int))), (29, .bool (onesB B ((X * Z : Nat) : Int))), (30, .bool (onesB B ((X * Z : Nat) : Int)))])) (H1 := [nR A, nR B, nR C, rB [vN X, vN Y, vN Z, vS 0 A.length, vS 1 B.length, vS 2 C.length] 27]) (by kernel_rfl) ?_
  cases h2 : (onesB B ((X * Z : Nat) : Int) : Bool)
  ·
   have h2k := h2
   (try simp only [bs0, bs1, bs2, bs3, beq_iff_eq, bne_iff_ne, beq_eq_false_iff_ne, bne_eq_false_iff_eq, ne_eq, bs4, bs5, bs6, bs7, bs8, bs9, bs10, bs11, ge_iff_le, gt_iff_lt] at h2)
   refine segEnd [2] (T1 := (mkT 40 [(2, .bool false)])) (H1 := [nR A, nR B, nR C, rB [vN X, vN Y, vN Z, vS 0 A.length, vS 1 B.length, vS 2 C.length] 27]) (by kernel_rfl) ?_
   refine kSeq ?_
   refine cRet ?_
   have he0 : (false : Bool) = shadB X Y Z A B C := by first | exact (shad_t (ho.2.2 (by omega)) (ho.2.1 (by omega)) (ho.1 (by omega))).symm | (symm; first | exact shad_3 (ones_len (by omega)) | exact shad_2 (ones_len (by omega)) | exact shad_1 (ones_len (by omega)) | exact shad_3 (ones_all (by assumption)) | exact shad_2 (ones_all (by assumption)) | exact shad_1 (ones_all (by assumption)) | exact shad_1 (by assumption) | exact shad_2 (by assumption) | exact shad_3 (by assumption) | exact shad_t (by assumption) (by assumption) (by assumption)) | (unfold shadB; simp_all; done)
   refine endCast (v1 := .bool false) (H1 := [nR A, nR B, nR C]) (by first | rfl | ((try rw [← he0]); done) | (simp only [← he0]; done)) (by first | rfl | ((try rw [← he0]); done) | (simp only [← he0]; done)) ?_
   exact endQ (Or.inr rfl) (l := [.bool false]) [rB [vN X, vN Y, vN Z, vS 0 A.length, vS 1 B.length, vS 2 C.length] 27] (by kernel_rfl) (by first | rfl | kernel_rfl) rfl rfl hcl rfl
  ·
   have h2k := h2
   (try simp only [bs0, bs1, bs2, bs3, beq_iff_eq, bne_iff_ne, beq_eq_false_iff_ne, bne_eq_false_iff_eq, ne_eq, bs4, bs5, bs6, bs7, bs8, bs9, bs10, bs11, ge_iff_le, gt_iff_lt] at h2)
   refine seg 6 (T1 := (mkT 40 [(1, vP 3 0), (3, vP 3 0), (4, vN X), (5, vP 3 1), (6, vN Y), (7, vP 3 2), (8, vN Z), (9, .bool true), (10, .bool true), (11, vP 3 3), (12, vS 0 A.length), (13, vP 3 0), (14, vN X), (15, vP 3 1), (16, vN Y), (17, vN (X * Y)), (18, .bool true), (19, .bool true), (20, .bool true), (21, vP 3 4), (22, vS 1 B.length), (23, vP 3 0), (24, vN X), (25, vP 3 2), (26, vN Z), (27, vN (X * Z)), (28, .bool true), (29, .bool true), (30, .bool true), (31, vP 3 5), (32, vS 2 C.length), (33, vP 3 1), (34, vN Y), (35, vP 3 2), (36, vN Z)])) (H1 := [nR A, nR B, nR C, rB [vN X, vN Y, vN Z, vS 0 A.length, vS 1 B.length, vS 2 C.length] 27]) (by kernel_rfl) ?_
   refine rOp (v := vN (Y * Z)) (by kernel_rfl) (eMul (k := .i64) (a := ((Y : Nat) : Int)) (b := ((Z : Nat) : Int)) (c := ((Y * Z : Nat) : Int)) (by kernel_rfl) (by kernel_rfl) (nMul (by omega))) ?_
   refine rCall (v := .bool (onesB C ((Y * Z : Nat) : Int))) (args := [vS 2 C.length, vN (Y * Z)]) (by kernel_rfl) rfl (by kernel_rfl) (Sound.lay0 [2] (l3OnesB C ((Y * Z : Nat) : Int) (by first | omega | assumption | (simp; done) | (simp; omega))) ⟨rdF false (flatNums _ _ _ _) rfl rfl, trivial⟩ rfl ⟨clF (flatNums _ _ _ _), trivial⟩ rfl (by first | rfl | simp [mpV, mpA, mpS, mpP, renId, shift]) rfl) ?_
   refine segEnd [2] (T1 := (mkT 40 [(2, .bool (onesB C ((Y * Z : Nat) : Int)))])) (H1 := [nR A, nR B, nR C, rB [vN X, vN Y, vN Z, vS 0 A.length, vS 1 B.length, vS 2 C.length] 27]) (by kernel_rfl) ?_
   refine kSeq ?_
   refine cRet ?_
   have he0 : (onesB C ((Y * Z : Nat) : Int) : Bool) = shadB X Y Z A B C := by first | exact (shad_t (ho.2.2 (by omega)) (ho.2.1 (by omega)) (ho.1 (by omega))).symm | (symm; first | exact shad_3 (ones_len (by omega)) | exact shad_2 (ones_len (by omega)) | exact shad_1 (ones_len (by omega)) | exact shad_3 (ones_all (by assumption)) | exact shad_2 (ones_all (by assumption)) | exact shad_1 (ones_all (by assumption)) | exact shad_1 (by assumption) | exact shad_2 (by assumption) | exact shad_3 (by assumption) | exact shad_t (by assumption) (by assumption) (by assumption)) | (unfold shadB; simp_all; done)
   refine endCast (v1 := .bool (onesB C ((Y * Z : Nat) : Int))) (H1 := [nR A, nR B, nR C]) (by first | rfl | ((try rw [← he0]); done) | (simp only [← he0]; done)) (by first | rfl | ((try rw [← he0]); done) | (simp only [← he0]; done)) ?_
   exact endQ (Or.inr rfl) (l := [.bool (onesB C ((Y * Z : Nat) : Int))]) [rB [vN X, vN Y, vN Z, vS 0 A.length, vS 1 B.length, vS 2 C.length] 27] (by kernel_rfl) (by first | rfl | kernel_rfl) rfl rfl hcl rfl
set_option maxRecDepth 100000 in
set_option maxHeartbeats 4000000 in
theorem isShadowB_no (x : Int) (y : Int) (z : Int) (A : List Int) (B : List Int) (C : List Int) (hv : valid3 x y z = false) (hA : A.length ≤ 1048576) (hB : B.length ≤ 1048576) (hC : C.length ≤ 1048576) : Sound Try.prog 18 [.agg #[vI x, vI y, vI z, vS 0 A.length, vS 1 B.length, vS 2 C.length]] [nR A, nR B, nR C] (.bool false) [nR A, nR B, nR C] := by
 refine sound_intro (C := cx) Try.func18 rfl (by kernel_rfl) fun hcl => ?_
 refine cSeq ?_
 refine cReg ?_
 refine segEnd [1] (T1 := (mkT 28 [(1, vP 3 0)])) (H1 := [nR A, nR B, nR C, rB [vI x, vI y, vI z, vS 0 A.length, vS 1 B.length, vS 2 C.length] 27]) (by kernel_rfl) ?_
 refine kSeq ?_
 refine cSeq ?_
 refine cSeq ?_
 refine cReg ?_
 refine segH 1 (T1 := (mkT 28 [(1, vP 3 0), (5, .agg #[vI x, vI y, vI z, vS 0 A.length, vS 1 B.length, vS 2 C.length])])) (by kernel_rfl) ?_
 refine rCall (v := .agg #[vI x, vI y, vI z]) (args := [.agg #[vI x, vI y, vI z, vS 0 A.length, vS 1 B.length, vS 2 C.length]]) (by kernel_rfl) rfl (by kernel_rfl) (Sound.lay0 [0, 1, 2] (shBox x y z A B C) ⟨rdF false (flatNums _ _ _ _) rfl rfl, ⟨rdF false (flatNums _ _ _ _) rfl rfl, ⟨rdF false (flatNums _ _ _ _) rfl rfl, trivial⟩⟩⟩ rfl ⟨clF (flatNums _ _ _ _), ⟨clF (flatNums _ _ _ _), ⟨clF (flatNums _ _ _ _), trivial⟩⟩⟩ rfl (by first | rfl | simp [mpV, mpA, mpS, mpP, renId, shift]) (by first | rfl | simp [mpV, mpA, mpS, mpP, renId, shift])) ?_
 refine rCall (v := .bool false) (args := [.agg #[vI x, vI y, vI z]]) (by kernel_rfl) rfl (by kernel_rfl) (Sound.lay0 [] (valid_no x y z (by assumption)) trivial rfl trivial rfl (by first | rfl | simp [mpV, mpA, mpS, mpP, renId, shift]) rfl) ?_
 refine segEndH [1, 8] (T1 := (mkT 28 [(1, vP 3 0), (8, .bool true)])) (by kernel_rfl) ?_
 refine kSeq ?_
 refine cTrue (by kernel_rfl) ?_
 refine cSeq ?_
 refine cReg ?_
 refine segEndH [2] (T1 := (mkT 28 [(2, .bool false)])) (by kernel_rfl) ?_
 refine kSeq ?_
 refine cRet ?_
 refine kSeqR ?_
 exact endQ (Or.inr rfl) (l := [.bool false]) [rB [vI x, vI y, vI z, vS 0 A.length, vS 1 B.length, vS 2 C.length] 27] (by kernel_rfl) (by first | rfl | kernel_rfl) rfl rfl hcl rfl
set_option maxRecDepth 100000 in
set_option maxHeartbeats 4000000 in
theorem isShadowB_yes (X : Nat) (Y : Nat) (Z : Nat) (A : List Int) (B : List Int) (C : List Int) (hs : Sides X Y Z) (hA : A.length ≤ 1048576) (hB : B.length ≤ 1048576) (hC : C.length ≤ 1048576) : Sound Try.prog 18 [.agg #[vN X, vN Y, vN Z, vS 0 A.length, vS 1 B.length, vS 2 C.length]] [nR A, nR B, nR C] (.bool (shadB X Y Z A B C)) [nR A, nR B, nR C] := by
 refine sound_intro (C := cx) Try.func18 rfl (by kernel_rfl) fun hcl => ?_
 have hz := hs.size
 have hx0 := hs.x0
 have hx4 := hs.x4
 have hy0 := hs.y0
 have hy4 := hs.y4
 have hz0 := hs.z0
 have hz4 := hs.z4
 have hxy : X * Y ≤ 4 * 4 := Nat.mul_le_mul (by omega) (by omega)
 have hxz : X * Z ≤ 4 * 4 := Nat.mul_le_mul (by omega) (by omega)
 have hyz : Y * Z ≤ 4 * 4 := Nat.mul_le_mul (by omega) (by omega)
 refine cSeq ?_
 refine cReg ?_
 refine segEnd [1] (T1 := (mkT 28 [(1, vP 3 0)])) (H1 := [nR A, nR B, nR C, rB [vN X, vN Y, vN Z, vS 0 A.length, vS 1 B.length, vS 2 C.length] 27]) (by kernel_rfl) ?_
 refine kSeq ?_
 refine cSeq ?_
 refine cSeq ?_
 refine cReg ?_
 refine segH 1 (T1 := (mkT 28 [(1, vP 3 0), (5, .agg #[vN X, vN Y, vN Z, vS 0 A.length, vS 1 B.length, vS 2 C.length])])) (by kernel_rfl) ?_
 refine rCall (v := .agg #[vN X, vN Y, vN Z]) (args := [.agg #[vN X, vN Y, vN Z, vS 0 A.length, vS 1 B.length, vS 2 C.length]]) (by kernel_rfl) rfl (by kernel_rfl) (Sound.lay0 [0, 1, 2] (shBox ((X : Nat) : Int) ((Y : Nat) : Int) ((Z : Nat) : Int) A B C) ⟨rdF false (flatNums _ _ _ _) rfl rfl, ⟨rdF false (flatNums _ _ _ _) rfl rfl, ⟨rdF false (flatNums _ _ _ _) rfl rfl, trivial⟩⟩⟩ rfl ⟨clF (flatNums _ _ _ _), ⟨clF (flatNums _ _ _ _), ⟨clF (flatNums _ _ _ _), trivial⟩⟩⟩ rfl (by first | rfl | simp [mpV, mpA, mpS, mpP, renId, shift]) (by first | rfl | simp [mpV, mpA, mpS, mpP, renId, shift])) ?_
 refine rCall (v := .bool true) (args := [.agg #[vN X, vN Y, vN Z]]) (by kernel_rfl) rfl (by kernel_rfl) (Sound.lay0 [] (validB X Y Z (by first | assumption | omega | rfl | decide | exact HeapL.list _ _ _ _ | exact HeapL.nil _ _ _ | exact HeapL.all _ _ _ | (apply HeapL.lt64 <;> assumption) | (repeat' (first | assumption | apply or_lt64 | apply and_lt64 | apply andn_lt64 | apply pow_lt64 | (apply HeapL.lt64 <;> assumption))))) trivial rfl trivial rfl (by first | rfl | simp [mpV, mpA, mpS, mpP, renId, shift]) rfl) ?_
 refine segEndH [1, 8] (T1 := (mkT 28 [(1, vP 3 0), (8, .bool false)])) (by kernel_rfl) ?_
 refine kSeq ?_
 refine cFalse (by kernel_rfl) ?_
 refine cSkip ?_
 refine kSeq ?_
 refine cSeq ?_
 refine cSeq ?_
 refine cReg ?_
 refine segEndH [1, 9] (T1 := (mkT 28 [(1, vP 3 0), (9, vI 0)])) (by kernel_rfl) ?_
 refine kSeq ?_
 refine cBlk ?_
 refine cLoop (fun mm T H => ∃ d : Nat, (d ≤ 3) ∧ ((1 ≤ d → onesB C ((Y * Z : Nat) : Int) = true) ∧ (2 ≤ d → onesB B ((X * Z : Nat) : Int) = true) ∧ (3 ≤ d → onesB A ((X * Y : Nat) : Int) = true)) ∧ mm = 3 - d ∧ T = (mkT 28 [(1, vP 3 0), (9, vN d)]) ∧ H = [nR A, nR B, nR C, rB [vN X, vN Y, vN Z, vS 0 A.length, vS 1 B.length, vS 2 C.length] 27]) (3 - 0) (mkT 28 [(1, vP 3 0), (9, vI 0)]) [nR A, nR B, nR C, rB [vN X, vN Y, vN Z, vS 0 A.length, vS 1 B.length, vS 2 C.length] 27] (wkSame [1, 9] (by kernel_rfl)) ?_ ?_
 ·
  exact ⟨0, (Nat.zero_le _), (⟨fun h => absurd h (by omega), fun h => absurd h (by omega), fun h => absurd h (by omega)⟩), rfl, rfl, rfl⟩
 ·
  rintro _ _ _ ⟨d, hd, ho, rfl, rfl, rfl⟩
  have hcase : d = 0 ∨ d = 1 ∨ d = 2 ∨ d = 3 := by omega
  rcases hcase with rfl | rfl | rfl | rfl
  ·
   refine cSeq ?_
   refine cReg ?_
   refine segEndH [1, 9, 10] (T1 := (mkT 28 [(1, vP 3 0), (9, vI 0), (10, .bool true)])) (by kernel_rfl) ?_
   refine kSeq ?_
   refine cSeq ?_
   refine cTrue (by kernel_rfl) ?_
   refine cSkip ?_
   refine kSeq ?_
   refine cSeq ?_
   refine cBlk ?_
   refine cSeq ?_
   refine cReg ?_
   refine segEndH [1, 3, 9] (T1 := (mkT 28 [(1, vP 3 0), (3, vI 0), (9, vI 0)])) (by kernel_rfl) ?_
   refine kSeq ?_
   refine cSeq ?_
   refine cReg ?_
   refine segH 2 (T1 := (mkT 28 [(1, vP 3 0), (3, vI 0), (9, vI 0), (12, .agg #[vN X, vN Y, vN Z, vS 0 A.length, vS 1 B.length, vS 2 C.length]), (13, vI 0)])) (by kernel_rfl) ?_
   refine rCall (v := vS 2 C.length) (args := [.agg #[vN X, vN Y, vN Z, vS 0 A.length, vS 1 B.length, vS 2 C.length], vI 0]) (by kernel_rfl) rfl (by kernel_rfl) (Sound.lay0 [0, 1, 2] (shList0 ((X : Nat) : Int) ((Y : Nat) : Int) ((Z : Nat) : Int) A B C) ⟨rdF false (flatNums _ _ _ _) rfl rfl, ⟨rdF false (flatNums _ _ _ _) rfl rfl, ⟨rdF false (flatNums _ _ _ _) rfl rfl, trivial⟩⟩⟩ rfl ⟨clF (flatNums _ _ _ _), ⟨clF (flatNums _ _ _ _), ⟨clF (flatNums _ _ _ _), trivial⟩⟩⟩ rfl (by first | rfl | simp [mpV, mpA, mpS, mpP, renId, shift]) rfl) ?_
   refine segEndH [1, 3, 4, 9] (T1 := (mkT 28 [(1, vP 3 0), (3, vI 0), (4, vS 2 C.length), (9, vI 0)])) (by kernel_rfl) ?_
   refine kSeq ?_
   refine cSeq ?_
   refine cReg ?_
   refine segH 3 (T1 := (mkT 28 [(1, vP 3 0), (3, vI 0), (4, vS 2 C.length), (9, vI 0), (15, vS 2 C.length), (16, vN C.length), (17, .agg #[vN X, vN Y, vN Z, vS 0 A.length, vS 1 B.length, vS 2 C.length])])) (by kernel_rfl) ?_
   refine rCall (v := .agg #[vN X, vN Y, vN Z]) (args := [.agg #[vN X, vN Y, vN Z, vS 0 A.length, vS 1 B.length, vS 2 C.length]]) (by kernel_rfl) rfl (by kernel_rfl) (Sound.lay0 [0, 1, 2] (shBox ((X : Nat) : Int) ((Y : Nat) : Int) ((Z : Nat) : Int) A B C) ⟨rdF false (flatNums _ _ _ _) rfl rfl, ⟨rdF false (flatNums _ _ _ _) rfl rfl, ⟨rdF false (flatNums _ _ _ _) rfl rfl, trivial⟩⟩⟩ rfl ⟨clF (flatNums _ _ _ _), ⟨clF (flatNums _ _ _ _), ⟨clF (flatNums _ _ _ _), trivial⟩⟩⟩ rfl (by first | rfl | simp [mpV, mpA, mpS, mpP, renId, shift]) (by first | rfl | simp [mpV, mpA, mpS, mpP, renId, shift])) ?_
   refine segH 1 (T1 := (mkT 28 [(1, vP 3 0), (3, vI 0), (4, vS 2 C.length), (9, vI 0), (15, vS 2 C.length), (16, vN C.length), (17, .agg #[vN X, vN Y, vN Z, vS 0 A.length, vS 1 B.length, vS 2 C.length]), (18, .agg #[vN X, vN Y, vN Z]), (19, vI 0)])) (by kernel_rfl) ?_
   refine rCall (v := vN (Y * Z)) (args := [.agg #[vN X, vN Y, vN Z], vI 0]) (by kernel_rfl) rfl (by kernel_rfl) (Sound.lay0 [] (lines0 X Y Z (by first | assumption | omega | rfl | decide | exact HeapL.list _ _ _ _ | exact HeapL.nil _ _ _ | exact HeapL.all _ _ _ | (apply HeapL.lt64 <;> assumption) | (repeat' (first | assumption | apply or_lt64 | apply and_lt64 | apply andn_lt64 | apply pow_lt64 | (apply HeapL.lt64 <;> assumption))))) trivial rfl trivial rfl (by first | rfl | simp [mpV, mpA, mpS, mpP, renId, shift]) rfl) ?_
   refine segH 2 (T1 := (mkT 28 [(1, vP 3 0), (3, vI 0), (4, vS 2 C.length), (9, vI 0), (15, vS 2 C.length), (16, vN C.length), (17, .agg #[vN X, vN Y, vN Z, vS 0 A.length, vS 1 B.length, vS 2 C.length]), (18, .agg #[vN X, vN Y, vN Z]), (19, vI 0), (20, vN (Y * Z)), (21, .bool (((C.length : Nat) : Int) != ((Y * Z : Nat) : Int))), (22, .bool (((C.length : Nat) : Int) != ((Y * Z : Nat) : Int)))])) (by kernel_rfl) ?_
   cases h1 : ((((C.length : Nat) : Int) != ((Y * Z : Nat) : Int)) : Bool)
   ·
    have h1k := h1
    (try simp only [bs0, bs1, bs2, bs3, beq_iff_eq, bne_iff_ne, beq_eq_false_iff_ne, bne_eq_false_iff_eq, ne_eq, bs4, bs5, bs6, bs7, bs8, bs9, bs10, bs11, ge_iff_le, gt_iff_lt] at h1)
    refine seg 1 (T1 := (mkT 28 [(1, vP 3 0), (3, vI 0), (4, vS 2 C.length), (9, vI 0), (15, vS 2 C.length), (16, vN C.length), (17, .agg #[vN X, vN Y, vN Z, vS 0 A.length, vS 1 B.length, vS 2 C.length]), (18, .agg #[vN X, vN Y, vN Z]), (19, vI 0), (20, vN (Y * Z)), (21, .bool false), (22, .bool false), (23, vS 2 C.length)])) (H1 := [nR A, nR B, nR C, rB [vN X, vN Y, vN Z, vS 0 A.length, vS 1 B.length, vS 2 C.length] 27]) (by kernel_rfl) ?_
    refine rCall (v := .bool (allB C 0 1)) (args := [vS 2 C.length, vI 0, vI 1]) (by kernel_rfl) rfl (by kernel_rfl) (Sound.lay0 [2] (allWithinN C 0 1 (by first | omega | assumption | (simp; done) | (simp; omega))) ⟨rdF false (flatNums _ _ _ _) rfl rfl, trivial⟩ rfl ⟨clF (flatNums _ _ _ _), trivial⟩ rfl (by first | rfl | simp [mpV, mpA, mpS, mpP, renId, shift]) rfl) ?_
    refine segEnd [1, 9, 26] (T1 := (mkT 28 [(1, vP 3 0), (9, vI 0), (26, .bool (!(allB C 0 1)))])) (H1 := [nR A, nR B, nR C, rB [vN X, vN Y, vN Z, vS 0 A.length, vS 1 B.length, vS 2 C.length] 27]) (by kernel_rfl) ?_
    refine kSeq ?_
    cases h2 : (allB C 0 1 : Bool)
    ·
     have h2k := h2
     (try simp only [bs0, bs1, bs2, bs3, beq_iff_eq, bne_iff_ne, beq_eq_false_iff_ne, bne_eq_false_iff_eq, ne_eq, bs4, bs5, bs6, bs7, bs8, bs9, bs10, bs11, ge_iff_le, gt_iff_lt] at h2)
     refine cTrue (by kernel_rfl) ?_
     refine cSeq ?_
     refine cReg ?_
     refine segEndH [2] (T1 := (mkT 28 [(2, .bool false)])) (by kernel_rfl) ?_
     refine kSeq ?_
     refine cRet ?_
     refine kBlkR ?_
     refine kSeqR ?_
     refine kLoopR ?_
     refine kBlkR ?_
     refine kSeqR ?_
     have he0 : (false : Bool) = shadB X Y Z A B C := by first | exact (shad_t (ho.2.2 (by omega)) (ho.2.1 (by omega)) (ho.1 (by omega))).symm | (symm; first | exact shad_3 (ones_len (by omega)) | exact shad_2 (ones_len (by omega)) | exact shad_1 (ones_len (by omega)) | exact shad_3 (ones_all (by assumption)) | exact shad_2 (ones_all (by assumption)) | exact shad_1 (ones_all (by assumption)) | exact shad_1 (by assumption) | exact shad_2 (by assumption) | exact shad_3 (by assumption) | exact shad_t (by assumption) (by assumption) (by assumption)) | (unfold shadB; simp_all; done)
     refine endCast (v1 := .bool false) (H1 := [nR A, nR B, nR C]) (by first | rfl | ((try rw [← he0]); done) | (simp only [← he0]; done)) (by first | rfl | ((try rw [← he0]); done) | (simp only [← he0]; done)) ?_
     exact endQ (Or.inr rfl) (l := [.bool false]) [rB [vN X, vN Y, vN Z, vS 0 A.length, vS 1 B.length, vS 2 C.length] 27] (by kernel_rfl) (by first | rfl | kernel_rfl) rfl rfl hcl rfl
    ·
     have h2k := h2
     (try simp only [bs0, bs1, bs2, bs3, beq_iff_eq, bne_iff_ne, beq_eq_false_iff_ne, bne_eq_false_iff_eq, ne_eq, bs4, bs5, bs6, bs7, bs8, bs9, bs10, bs11, ge_iff_le, gt_iff_lt] at h2)
     refine cFalse (by kernel_rfl) ?_
     refine cSkip ?_
     refine kBlk ?_
     refine kSeq ?_
     refine cReg ?_
     refine segEndH [1, 9] (T1 := (mkT 28 [(1, vP 3 0), (9, vI 1)])) (by kernel_rfl) ?_
     exact kLoop (3 - 1) (mkT 28 [(1, vP 3 0), (9, vI 1)]) [nR A, nR B, nR C, rB [vN X, vN Y, vN Z, vS 0 A.length, vS 1 B.length, vS 2 C.length] 27] (by omega) (wkSame [1, 9] (by kernel_rfl)) ⟨1, (by omega), (by refine ⟨fun _ => ?_, fun _ => ?_, fun _ => ?_⟩ <;> first | omega | exact ho.1 (by omega) | exact ho.2.1 (by omega) | exact ones_t (by assumption) (by omega) | exact ones_t rfl (by omega) | (refine ones_t ?_ (by omega); first | assumption | rfl)), rfl, rfl, rfl⟩
   ·
    have h1k := h1
    (try simp only [bs0, bs1, bs2, bs3, beq_iff_eq, bne_iff_ne, beq_eq_false_iff_ne, bne_eq_false_iff_eq, ne_eq, bs4, bs5, bs6, bs7, bs8, bs9, bs10, bs11, ge_iff_le, gt_iff_lt] at h1)
    refine segEnd [1, 9, 26] (T1 := (mkT 28 [(1, vP 3 0), (9, vI 0), (26, .bool true)])) (H1 := [nR A, nR B, nR C, rB [vN X, vN Y, vN Z, vS 0 A.length, vS 1 B.length, vS 2 C.length] 27]) (by kernel_rfl) ?_
    refine kSeq ?_
    refine cTrue (by kernel_rfl) ?_
    refine cSeq ?_
    refine cReg ?_
    refine segEndH [2] (T1 := (mkT 28 [(2, .bool false)])) (by kernel_rfl) ?_
    refine kSeq ?_
    refine cRet ?_
    refine kBlkR ?_
    refine kSeqR ?_
    refine kLoopR ?_
    refine kBlkR ?_
    refine kSeqR ?_
    have he0 : (false : Bool) = shadB X Y Z A B C := by first | exact (shad_t (ho.2.2 (by omega)) (ho.2.1 (by omega)) (ho.1 (by omega))).symm | (symm; first | exact shad_3 (ones_len (by omega)) | exact shad_2 (ones_len (by omega)) | exact shad_1 (ones_len (by omega)) | exact shad_3 (ones_all (by assumption)) | exact shad_2 (ones_all (by assumption)) | exact shad_1 (ones_all (by assumption)) | exact shad_1 (by assumption) | exact shad_2 (by assumption) | exact shad_3 (by assumption) | exact shad_t (by assumption) (by assumption) (by assumption)) | (unfold shadB; simp_all; done)
    refine endCast (v1 := .bool false) (H1 := [nR A, nR B, nR C]) (by first | rfl | ((try rw [← he0]); done) | (simp only [← he0]; done)) (by first | rfl | ((try rw [← he0]); done) | (simp only [← he0]; done)) ?_
    exact endQ (Or.inr rfl) (l := [.bool false]) [rB [vN X, vN Y, vN Z, vS 0 A.length, vS 1 B.length, vS 2 C.length] 27] (by kernel_rfl) (by first | rfl | kernel_rfl) rfl rfl hcl rfl
  ·
   refine cSeq ?_
   refine cReg ?_
   refine segEndH [1, 9, 10] (T1 := (mkT 28 [(1, vP 3 0), (9, vI 1), (10, .bool true)])) (by kernel_rfl) ?_
   refine kSeq ?_
   refine cSeq ?_
   refine cTrue (by kernel_rfl) ?_
   refine cSkip ?_
   refine kSeq ?_
   refine cSeq ?_
   refine cBlk ?_
   refine cSeq ?_
   refine cReg ?_
   refine segEndH [1, 3, 9] (T1 := (mkT 28 [(1, vP 3 0), (3, vI 1), (9, vI 1)])) (by kernel_rfl) ?_
   refine kSeq ?_
   refine cSeq ?_
   refine cReg ?_
   refine segH 2 (T1 := (mkT 28 [(1, vP 3 0), (3, vI 1), (9, vI 1), (12, .agg #[vN X, vN Y, vN Z, vS 0 A.length, vS 1 B.length, vS 2 C.length]), (13, vI 1)])) (by kernel_rfl) ?_
   refine rCall (v := vS 1 B.length) (args := [.agg #[vN X, vN Y, vN Z, vS 0 A.length, vS 1 B.length, vS 2 C.length], vI 1]) (by kernel_rfl) rfl (by kernel_rfl) (Sound.lay0 [0, 1, 2] (shList1 ((X : Nat) : Int) ((Y : Nat) : Int) ((Z : Nat) : Int) A B C) ⟨rdF false (flatNums _ _ _ _) rfl rfl, ⟨rdF false (flatNums _ _ _ _) rfl rfl, ⟨rdF false (flatNums _ _ _ _) rfl rfl, trivial⟩⟩⟩ rfl ⟨clF (flatNums _ _ _ _), ⟨clF (flatNums _ _ _ _), ⟨clF (flatNums _ _ _ _), trivial⟩⟩⟩ rfl (by first | rfl | simp [mpV, mpA, mpS, mpP, renId, shift]) rfl) ?_
   refine segEndH [1, 3, 4, 9] (T1 := (mkT 28 [(1, vP 3 0), (3, vI 1), (4, vS 1 B.length), (9, vI 1)])) (by kernel_rfl) ?_
   refine kSeq ?_
   refine cSeq ?_
   refine cReg ?_
   refine segH 3 (T1 := (mkT 28 [(1, vP 3 0), (3, vI 1), (4, vS 1 B.length), (9, vI 1), (15, vS 1 B.length), (16, vN B.length), (17, .agg #[vN X, vN Y, vN Z, vS 0 A.length, vS 1 B.length, vS 2 C.length])])) (by kernel_rfl) ?_
   refine rCall (v := .agg #[vN X, vN Y, vN Z]) (args := [.agg #[vN X, vN Y, vN Z, vS 0 A.length, vS 1 B.length, vS 2 C.length]]) (by kernel_rfl) rfl (by kernel_rfl) (Sound.lay0 [0, 1, 2] (shBox ((X : Nat) : Int) ((Y : Nat) : Int) ((Z : Nat) : Int) A B C) ⟨rdF false (flatNums _ _ _ _) rfl rfl, ⟨rdF false (flatNums _ _ _ _) rfl rfl, ⟨rdF false (flatNums _ _ _ _) rfl rfl, trivial⟩⟩⟩ rfl ⟨clF (flatNums _ _ _ _), ⟨clF (flatNums _ _ _ _), ⟨clF (flatNums _ _ _ _), trivial⟩⟩⟩ rfl (by first | rfl | simp [mpV, mpA, mpS, mpP, renId, shift]) (by first | rfl | simp [mpV, mpA, mpS, mpP, renId, shift])) ?_
   refine segH 1 (T1 := (mkT 28 [(1, vP 3 0), (3, vI 1), (4, vS 1 B.length), (9, vI 1), (15, vS 1 B.length), (16, vN B.length), (17, .agg #[vN X, vN Y, vN Z, vS 0 A.length, vS 1 B.length, vS 2 C.length]), (18, .agg #[vN X, vN Y, vN Z]), (19, vI 1)])) (by kernel_rfl) ?_
   refine rCall (v := vN (X * Z)) (args := [.agg #[vN X, vN Y, vN Z], vI 1]) (by kernel_rfl) rfl (by kernel_rfl) (Sound.lay0 [] (lines1 X Y Z (by first | assumption | omega | rfl | decide | exact HeapL.list _ _ _ _ | exact HeapL.nil _ _ _ | exact HeapL.all _ _ _ | (apply HeapL.lt64 <;> assumption) | (repeat' (first | assumption | apply or_lt64 | apply and_lt64 | apply andn_lt64 | apply pow_lt64 | (apply HeapL.lt64 <;> assumption))))) trivial rfl trivial rfl (by first | rfl | simp [mpV, mpA, mpS, mpP, renId, shift]) rfl) ?_
   refine segH 2 (T1 := (mkT 28 [(1, vP 3 0), (3, vI 1), (4, vS 1 B.length), (9, vI 1), (15, vS 1 B.length), (16, vN B.length), (17, .agg #[vN X, vN Y, vN Z, vS 0 A.length, vS 1 B.length, vS 2 C.length]), (18, .agg #[vN X, vN Y, vN Z]), (19, vI 1), (20, vN (X * Z)), (21, .bool (((B.length : Nat) : Int) != ((X * Z : Nat) : Int))), (22, .bool (((B.length : Nat) : Int) != ((X * Z : Nat) : Int)))])) (by kernel_rfl) ?_
   cases h3 : ((((B.length : Nat) : Int) != ((X * Z : Nat) : Int)) : Bool)
   ·
    have h3k := h3
    (try simp only [bs0, bs1, bs2, bs3, beq_iff_eq, bne_iff_ne, beq_eq_false_iff_ne, bne_eq_false_iff_eq, ne_eq, bs4, bs5, bs6, bs7, bs8, bs9, bs10, bs11, ge_iff_le, gt_iff_lt] at h3)
    refine seg 1 (T1 := (mkT 28 [(1, vP 3 0), (3, vI 1), (4, vS 1 B.length), (9, vI 1), (15, vS 1 B.length), (16, vN B.length), (17, .agg #[vN X, vN Y, vN Z, vS 0 A.length, vS 1 B.length, vS 2 C.length]), (18, .agg #[vN X, vN Y, vN Z]), (19, vI 1), (20, vN (X * Z)), (21, .bool false), (22, .bool false), (23, vS 1 B.length)])) (H1 := [nR A, nR B, nR C, rB [vN X, vN Y, vN Z, vS 0 A.length, vS 1 B.length, vS 2 C.length] 27]) (by kernel_rfl) ?_
    refine rCall (v := .bool (allB B 0 1)) (args := [vS 1 B.length, vI 0, vI 1]) (by kernel_rfl) rfl (by kernel_rfl) (Sound.lay0 [1] (allWithinN B 0 1 (by first | omega | assumption | (simp; done) | (simp; omega))) ⟨rdF false (flatNums _ _ _ _) rfl rfl, trivial⟩ rfl ⟨clF (flatNums _ _ _ _), trivial⟩ rfl (by first | rfl | simp [mpV, mpA, mpS, mpP, renId, shift]) rfl) ?_
    refine segEnd [1, 9, 26] (T1 := (mkT 28 [(1, vP 3 0), (9, vI 1), (26, .bool (!(allB B 0 1)))])) (H1 := [nR A, nR B, nR C, rB [vN X, vN Y, vN Z, vS 0 A.length, vS 1 B.length, vS 2 C.length] 27]) (by kernel_rfl) ?_
    refine kSeq ?_
    cases h4 : (allB B 0 1 : Bool)
    ·
     have h4k := h4
     (try simp only [bs0, bs1, bs2, bs3, beq_iff_eq, bne_iff_ne, beq_eq_false_iff_ne, bne_eq_false_iff_eq, ne_eq, bs4, bs5, bs6, bs7, bs8, bs9, bs10, bs11, ge_iff_le, gt_iff_lt] at h4)
     refine cTrue (by kernel_rfl) ?_
     refine cSeq ?_
     refine cReg ?_
     refine segEndH [2] (T1 := (mkT 28 [(2, .bool false)])) (by kernel_rfl) ?_
     refine kSeq ?_
     refine cRet ?_
     refine kBlkR ?_
     refine kSeqR ?_
     refine kLoopR ?_
     refine kBlkR ?_
     refine kSeqR ?_
     have he0 : (false : Bool) = shadB X Y Z A B C := by first | exact (shad_t (ho.2.2 (by omega)) (ho.2.1 (by omega)) (ho.1 (by omega))).symm | (symm; first | exact shad_3 (ones_len (by omega)) | exact shad_2 (ones_len (by omega)) | exact shad_1 (ones_len (by omega)) | exact shad_3 (ones_all (by assumption)) | exact shad_2 (ones_all (by assumption)) | exact shad_1 (ones_all (by assumption)) | exact shad_1 (by assumption) | exact shad_2 (by assumption) | exact shad_3 (by assumption) | exact shad_t (by assumption) (by assumption) (by assumption)) | (unfold shadB; simp_all; done)
     refine endCast (v1 := .bool false) (H1 := [nR A, nR B, nR C]) (by first | rfl | ((try rw [← he0]); done) | (simp only [← he0]; done)) (by first | rfl | ((try rw [← he0]); done) | (simp only [← he0]; done)) ?_
     exact endQ (Or.inr rfl) (l := [.bool false]) [rB [vN X, vN Y, vN Z, vS 0 A.length, vS 1 B.length, vS 2 C.length] 27] (by kernel_rfl) (by first | rfl | kernel_rfl) rfl rfl hcl rfl
    ·
     have h4k := h4
     (try simp only [bs0, bs1, bs2, bs3, beq_iff_eq, bne_iff_ne, beq_eq_false_iff_ne, bne_eq_false_iff_eq, ne_eq, bs4, bs5, bs6, bs7, bs8, bs9, bs10, bs11, ge_iff_le, gt_iff_lt] at h4)
     refine cFalse (by kernel_rfl) ?_
     refine cSkip ?_
     refine kBlk ?_
     refine kSeq ?_
     refine cReg ?_
     refine segEndH [1, 9] (T1 := (mkT 28 [(1, vP 3 0), (9, vI 2)])) (by kernel_rfl) ?_
     exact kLoop (3 - 2) (mkT 28 [(1, vP 3 0), (9, vI 2)]) [nR A, nR B, nR C, rB [vN X, vN Y, vN Z, vS 0 A.length, vS 1 B.length, vS 2 C.length] 27] (by omega) (wkSame [1, 9] (by kernel_rfl)) ⟨2, (by omega), (by refine ⟨fun _ => ?_, fun _ => ?_, fun _ => ?_⟩ <;> first | omega | exact ho.1 (by omega) | exact ho.2.1 (by omega) | exact ones_t (by assumption) (by omega) | exact ones_t rfl (by omega) | (refine ones_t ?_ (by omega); first | assumption | rfl)), rfl, rfl, rfl⟩
   ·
    have h3k := h3
    (try simp only [bs0, bs1, bs2, bs3, beq_iff_eq, bne_iff_ne, beq_eq_false_iff_ne, bne_eq_false_iff_eq, ne_eq, bs4, bs5, bs6, bs7, bs8, bs9, bs10, bs11, ge_iff_le, gt_iff_lt] at h3)
    refine segEnd [1, 9, 26] (T1 := (mkT 28 [(1, vP 3 0), (9, vI 1), (26, .bool true)])) (H1 := [nR A, nR B, nR C, rB [vN X, vN Y, vN Z, vS 0 A.length, vS 1 B.length, vS 2 C.length] 27]) (by kernel_rfl) ?_
    refine kSeq ?_
    refine cTrue (by kernel_rfl) ?_
    refine cSeq ?_
    refine cReg ?_
    refine segEndH [2] (T1 := (mkT 28 [(2, .bool false)])) (by kernel_rfl) ?_
    refine kSeq ?_
    refine cRet ?_
    refine kBlkR ?_
    refine kSeqR ?_
    refine kLoopR ?_
    refine kBlkR ?_
    refine kSeqR ?_
    have he0 : (false : Bool) = shadB X Y Z A B C := by first | exact (shad_t (ho.2.2 (by omega)) (ho.2.1 (by omega)) (ho.1 (by omega))).symm | (symm; first | exact shad_3 (ones_len (by omega)) | exact shad_2 (ones_len (by omega)) | exact shad_1 (ones_len (by omega)) | exact shad_3 (ones_all (by assumption)) | exact shad_2 (ones_all (by assumption)) | exact shad_1 (ones_all (by assumption)) | exact shad_1 (by assumption) | exact shad_2 (by assumption) | exact shad_3 (by assumption) | exact shad_t (by assumption) (by assumption) (by assumption)) | (unfold shadB; simp_all; done)
    refine endCast (v1 := .bool false) (H1 := [nR A, nR B, nR C]) (by first | rfl | ((try rw [← he0]); done) | (simp only [← he0]; done)) (by first | rfl | ((try rw [← he0]); done) | (simp only [← he0]; done)) ?_
    exact endQ (Or.inr rfl) (l := [.bool false]) [rB [vN X, vN Y, vN Z, vS 0 A.length, vS 1 B.length, vS 2 C.length] 27] (by kernel_rfl) (by first | rfl | kernel_rfl) rfl rfl hcl rfl
  ·
   refine cSeq ?_
   refine cReg ?_
   refine segEndH [1, 9, 10] (T1 := (mkT 28 [(1, vP 3 0), (9, vI 2), (10, .bool true)])) (by kernel_rfl) ?_
   refine kSeq ?_
   refine cSeq ?_
   refine cTrue (by kernel_rfl) ?_
   refine cSkip ?_
   refine kSeq ?_
   refine cSeq ?_
   refine cBlk ?_
   refine cSeq ?_
   refine cReg ?_
   refine segEndH [1, 3, 9] (T1 := (mkT 28 [(1, vP 3 0), (3, vI 2), (9, vI 2)])) (by kernel_rfl) ?_
   refine kSeq ?_
   refine cSeq ?_
   refine cReg ?_
   refine segH 2 (T1 := (mkT 28 [(1, vP 3 0), (3, vI 2), (9, vI 2), (12, .agg #[vN X, vN Y, vN Z, vS 0 A.length, vS 1 B.length, vS 2 C.length]), (13, vI 2)])) (by kernel_rfl) ?_
   refine rCall (v := vS 0 A.length) (args := [.agg #[vN X, vN Y, vN Z, vS 0 A.length, vS 1 B.length, vS 2 C.length], vI 2]) (by kernel_rfl) rfl (by kernel_rfl) (Sound.lay0 [0, 1, 2] (shList2 ((X : Nat) : Int) ((Y : Nat) : Int) ((Z : Nat) : Int) A B C) ⟨rdF false (flatNums _ _ _ _) rfl rfl, ⟨rdF false (flatNums _ _ _ _) rfl rfl, ⟨rdF false (flatNums _ _ _ _) rfl rfl, trivial⟩⟩⟩ rfl ⟨clF (flatNums _ _ _ _), ⟨clF (flatNums _ _ _ _), ⟨clF (flatNums _ _ _ _), trivial⟩⟩⟩ rfl (by first | rfl | simp [mpV, mpA, mpS, mpP, renId, shift]) rfl) ?_
   refine segEndH [1, 3, 4, 9] (T1 := (mkT 28 [(1, vP 3 0), (3, vI 2), (4, vS 0 A.length), (9, vI 2)])) (by kernel_rfl) ?_
   refine kSeq ?_
   refine cSeq ?_
   refine cReg ?_
   refine segH 3 (T1 := (mkT 28 [(1, vP 3 0), (3, vI 2), (4, vS 0 A.length), (9, vI 2), (15, vS 0 A.length), (16, vN A.length), (17, .agg #[vN X, vN Y, vN Z, vS 0 A.length, vS 1 B.length, vS 2 C.length])])) (by kernel_rfl) ?_
   refine rCall (v := .agg #[vN X, vN Y, vN Z]) (args := [.agg #[vN X, vN Y, vN Z, vS 0 A.length, vS 1 B.length, vS 2 C.length]]) (by kernel_rfl) rfl (by kernel_rfl) (Sound.lay0 [0, 1, 2] (shBox ((X : Nat) : Int) ((Y : Nat) : Int) ((Z : Nat) : Int) A B C) ⟨rdF false (flatNums _ _ _ _) rfl rfl, ⟨rdF false (flatNums _ _ _ _) rfl rfl, ⟨rdF false (flatNums _ _ _ _) rfl rfl, trivial⟩⟩⟩ rfl ⟨clF (flatNums _ _ _ _), ⟨clF (flatNums _ _ _ _), ⟨clF (flatNums _ _ _ _), trivial⟩⟩⟩ rfl (by first | rfl | simp [mpV, mpA, mpS, mpP, renId, shift]) (by first | rfl | simp [mpV, mpA, mpS, mpP, renId, shift])) ?_
   refine segH 1 (T1 := (mkT 28 [(1, vP 3 0), (3, vI 2), (4, vS 0 A.length), (9, vI 2), (15, vS 0 A.length), (16, vN A.length), (17, .agg #[vN X, vN Y, vN Z, vS 0 A.length, vS 1 B.length, vS 2 C.length]), (18, .agg #[vN X, vN Y, vN Z]), (19, vI 2)])) (by kernel_rfl) ?_
   refine rCall (v := vN (X * Y)) (args := [.agg #[vN X, vN Y, vN Z], vI 2]) (by kernel_rfl) rfl (by kernel_rfl) (Sound.lay0 [] (lines2 X Y Z (by first | assumption | omega | rfl | decide | exact HeapL.list _ _ _ _ | exact HeapL.nil _ _ _ | exact HeapL.all _ _ _ | (apply HeapL.lt64 <;> assumption) | (repeat' (first | assumption | apply or_lt64 | apply and_lt64 | apply andn_lt64 | apply pow_lt64 | (apply HeapL.lt64 <;> assumption))))) trivial rfl trivial rfl (by first | rfl | simp [mpV, mpA, mpS, mpP, renId, shift]) rfl) ?_
   refine segH 2 (T1 := (mkT 28 [(1, vP 3 0), (3, vI 2), (4, vS 0 A.length), (9, vI 2), (15, vS 0 A.length), (16, vN A.length), (17, .agg #[vN X, vN Y, vN Z, vS 0 A.length, vS 1 B.length, vS 2 C.length]), (18, .agg #[vN X, vN Y, vN Z]), (19, vI 2), (20, vN (X * Y)), (21, .bool (((A.length : Nat) : Int) != ((X * Y : Nat) : Int))), (22, .bool (((A.length : Nat) : Int) != ((X * Y : Nat) : Int)))])) (by kernel_rfl) ?_
   cases h5 : ((((A.length : Nat) : Int) != ((X * Y : Nat) : Int)) : Bool)
   ·
    have h5k := h5
    (try simp only [bs0, bs1, bs2, bs3, beq_iff_eq, bne_iff_ne, beq_eq_false_iff_ne, bne_eq_false_iff_eq, ne_eq, bs4, bs5, bs6, bs7, bs8, bs9, bs10, bs11, ge_iff_le, gt_iff_lt] at h5)
    refine seg 1 (T1 := (mkT 28 [(1, vP 3 0), (3, vI 2), (4, vS 0 A.length), (9, vI 2), (15, vS 0 A.length), (16, vN A.length), (17, .agg #[vN X, vN Y, vN Z, vS 0 A.length, vS 1 B.length, vS 2 C.length]), (18, .agg #[vN X, vN Y, vN Z]), (19, vI 2), (20, vN (X * Y)), (21, .bool false), (22, .bool false), (23, vS 0 A.length)])) (H1 := [nR A, nR B, nR C, rB [vN X, vN Y, vN Z, vS 0 A.length, vS 1 B.length, vS 2 C.length] 27]) (by kernel_rfl) ?_
    refine rCall (v := .bool (allB A 0 1)) (args := [vS 0 A.length, vI 0, vI 1]) (by kernel_rfl) rfl (by kernel_rfl) (Sound.lay0 [0] (allWithinN A 0 1 (by first | omega | assumption | (simp; done) | (simp; omega))) ⟨rdF false (flatNums _ _ _ _) rfl rfl, trivial⟩ rfl ⟨clF (flatNums _ _ _ _), trivial⟩ rfl (by first | rfl | simp [mpV, mpA, mpS, mpP, renId, shift]) rfl) ?_
    refine segEnd [1, 9, 26] (T1 := (mkT 28 [(1, vP 3 0), (9, vI 2), (26, .bool (!(allB A 0 1)))])) (H1 := [nR A, nR B, nR C, rB [vN X, vN Y, vN Z, vS 0 A.length, vS 1 B.length, vS 2 C.length] 27]) (by kernel_rfl) ?_
    refine kSeq ?_
    cases h6 : (allB A 0 1 : Bool)
    ·
     have h6k := h6
     (try simp only [bs0, bs1, bs2, bs3, beq_iff_eq, bne_iff_ne, beq_eq_false_iff_ne, bne_eq_false_iff_eq, ne_eq, bs4, bs5, bs6, bs7, bs8, bs9, bs10, bs11, ge_iff_le, gt_iff_lt] at h6)
     refine cTrue (by kernel_rfl) ?_
     refine cSeq ?_
     refine cReg ?_
     refine segEndH [2] (T1 := (mkT 28 [(2, .bool false)])) (by kernel_rfl) ?_
     refine kSeq ?_
     refine cRet ?_
     refine kBlkR ?_
     refine kSeqR ?_
     refine kLoopR ?_
     refine kBlkR ?_
     refine kSeqR ?_
     have he0 : (false : Bool) = shadB X Y Z A B C := by first | exact (shad_t (ho.2.2 (by omega)) (ho.2.1 (by omega)) (ho.1 (by omega))).symm | (symm; first | exact shad_3 (ones_len (by omega)) | exact shad_2 (ones_len (by omega)) | exact shad_1 (ones_len (by omega)) | exact shad_3 (ones_all (by assumption)) | exact shad_2 (ones_all (by assumption)) | exact shad_1 (ones_all (by assumption)) | exact shad_1 (by assumption) | exact shad_2 (by assumption) | exact shad_3 (by assumption) | exact shad_t (by assumption) (by assumption) (by assumption)) | (unfold shadB; simp_all; done)
     refine endCast (v1 := .bool false) (H1 := [nR A, nR B, nR C]) (by first | rfl | ((try rw [← he0]); done) | (simp only [← he0]; done)) (by first | rfl | ((try rw [← he0]); done) | (simp only [← he0]; done)) ?_
     exact endQ (Or.inr rfl) (l := [.bool false]) [rB [vN X, vN Y, vN Z, vS 0 A.length, vS 1 B.length, vS 2 C.length] 27] (by kernel_rfl) (by first | rfl | kernel_rfl) rfl rfl hcl rfl
    ·
     have h6k := h6
     (try simp only [bs0, bs1, bs2, bs3, beq_iff_eq, bne_iff_ne, beq_eq_false_iff_ne, bne_eq_false_iff_eq, ne_eq, bs4, bs5, bs6, bs7, bs8, bs9, bs10, bs11, ge_iff_le, gt_iff_lt] at h6)
     refine cFalse (by kernel_rfl) ?_
     refine cSkip ?_
     refine kBlk ?_
     refine kSeq ?_
     refine cReg ?_
     refine segEndH [1, 9] (T1 := (mkT 28 [(1, vP 3 0), (9, vI 3)])) (by kernel_rfl) ?_
     exact kLoop (3 - 3) (mkT 28 [(1, vP 3 0), (9, vI 3)]) [nR A, nR B, nR C, rB [vN X, vN Y, vN Z, vS 0 A.length, vS 1 B.length, vS 2 C.length] 27] (by omega) (wkSame [1, 9] (by kernel_rfl)) ⟨3, (by omega), (by refine ⟨fun _ => ?_, fun _ => ?_, fun _ => ?_⟩ <;> first | omega | exact ho.1 (by omega) | exact ho.2.1 (by omega) | exact ones_t (by assumption) (by omega) | exact ones_t rfl (by omega) | (refine ones_t ?_ (by omega); first | assumption | rfl)), rfl, rfl, rfl⟩
   ·
    have h5k := h5
    (try simp only [bs0, bs1, bs2, bs3, beq_iff_eq, bne_iff_ne, beq_eq_false_iff_ne, bne_eq_false_iff_eq, ne_eq, bs4, bs5, bs6, bs7, bs8, bs9, bs10, bs11, ge_iff_le, gt_iff_lt] at h5)
    refine segEnd [1, 9, 26] (T1 := (mkT 28 [(1, vP 3 0), (9, vI 2), (26, .bool true)])) (H1 := [nR A, nR B, nR C, rB [vN X, vN Y, vN Z, vS 0 A.length, vS 1 B.length, vS 2 C.length] 27]) (by kernel_rfl) ?_
    refine kSeq ?_
    refine cTrue (by kernel_rfl) ?_
    refine cSeq ?_
    refine cReg ?_
    refine segEndH [2] (T1 := (mkT 28 [(2, .bool false)])) (by kernel_rfl) ?_
    refine kSeq ?_
    refine cRet ?_
    refine kBlkR ?_
    refine kSeqR ?_
    refine kLoopR ?_
    refine kBlkR ?_
    refine kSeqR ?_
    have he0 : (false : Bool) = shadB X Y Z A B C := by first | exact (shad_t (ho.2.2 (by omega)) (ho.2.1 (by omega)) (ho.1 (by omega))).symm | (symm; first | exact shad_3 (ones_len (by omega)) | exact shad_2 (ones_len (by omega)) | exact shad_1 (ones_len (by omega)) | exact shad_3 (ones_all (by assumption)) | exact shad_2 (ones_all (by assumption)) | exact shad_1 (ones_all (by assumption)) | exact shad_1 (by assumption) | exact shad_2 (by assumption) | exact shad_3 (by assumption) | exact shad_t (by assumption) (by assumption) (by assumption)) | (unfold shadB; simp_all; done)
    refine endCast (v1 := .bool false) (H1 := [nR A, nR B, nR C]) (by first | rfl | ((try rw [← he0]); done) | (simp only [← he0]; done)) (by first | rfl | ((try rw [← he0]); done) | (simp only [← he0]; done)) ?_
    exact endQ (Or.inr rfl) (l := [.bool false]) [rB [vN X, vN Y, vN Z, vS 0 A.length, vS 1 B.length, vS 2 C.length] 27] (by kernel_rfl) (by first | rfl | kernel_rfl) rfl rfl hcl rfl
  ·
   refine cSeq ?_
   refine cReg ?_
   refine segEndH [1, 9, 10] (T1 := (mkT 28 [(1, vP 3 0), (9, vI 3), (10, .bool false)])) (by kernel_rfl) ?_
   refine kSeq ?_
   refine cSeq ?_
   refine cFalse (by kernel_rfl) ?_
   refine cExit ?_
   refine kSeqE ?_
   refine kLoopE ?_
   refine kBlkHit ?_
   refine kSeq ?_
   refine cSeq ?_
   refine cReg ?_
   refine segEndH [2] (T1 := (mkT 28 [(2, .bool true)])) (by kernel_rfl) ?_
   refine kSeq ?_
   refine cRet ?_
   have he0 : (true : Bool) = shadB X Y Z A B C := by first | exact (shad_t (ho.2.2 (by omega)) (ho.2.1 (by omega)) (ho.1 (by omega))).symm | (symm; first | exact shad_3 (ones_len (by omega)) | exact shad_2 (ones_len (by omega)) | exact shad_1 (ones_len (by omega)) | exact shad_3 (ones_all (by assumption)) | exact shad_2 (ones_all (by assumption)) | exact shad_1 (ones_all (by assumption)) | exact shad_1 (by assumption) | exact shad_2 (by assumption) | exact shad_3 (by assumption) | exact shad_t (by assumption) (by assumption) (by assumption)) | (unfold shadB; simp_all; done)
   refine endCast (v1 := .bool true) (H1 := [nR A, nR B, nR C]) (by first | rfl | ((try rw [← he0]); done) | (simp only [← he0]; done)) (by first | rfl | ((try rw [← he0]); done) | (simp only [← he0]; done)) ?_
   exact endQ (Or.inr rfl) (l := [.bool true]) [rB [vN X, vN Y, vN Z, vS 0 A.length, vS 1 B.length, vS 2 C.length] 27] (by kernel_rfl) (by first | rfl | kernel_rfl) rfl rfl hcl rfl
end Go.Proofs.Ytbheeobnghlckaa
set_option linter.unusedVariables false
set_option linter.unusedSimpArgs false
namespace Go.Am
open Go.RowKit
theorem has_cellOf {X Y Z i : Nat} (hs : Sides X Y Z) (h : i < X * Y * Z) : has3 (X : Int) (Y : Int) (Z : Int) ((i / Z / Y : Nat) : Int) ((i / Z % Y : Nat) : Int) ((i % Z : Nat) : Int) = true := by
  have := (HeapL.all X Y Z).mem_has hs (c := cellOf Y Z i) (List.mem_map.2 ⟨i, List.mem_range.2 h, rfl⟩)
  exact this
end Go.Am
