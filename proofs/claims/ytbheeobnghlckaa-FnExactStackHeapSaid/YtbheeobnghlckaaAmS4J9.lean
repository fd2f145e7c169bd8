/- Walks. No condition. -/
import Derived.Test.YtbheeobnghlckaaAmS4J7
import Derived.Test.YtbheeobnghlckaaAmQ5
set_option linter.unusedVariables false
set_option linter.unusedSimpArgs false
namespace Go.Proofs.Ytbheeobnghlckaa
open Go.Am Go.RowKit
set_option maxRecDepth 100000 in
set_option maxHeartbeats 4000000 in
theorem markI_S (N : List Int) (m : Nat) (hl : N.length ≤ 1048576) (hm : m ≤ 1099511627776) : Sound Try.prog 34 [vS 0 N.length, vN m] [some ⟨nums N, 3, false, true⟩] (vN (m + N.length)) [some ⟨nums (mkI m N.length), 3, false, true⟩] := by
  refine sound_intro (C := cx) Try.func34 rfl (by kernel_rfl) fun hcl => ?_
  refine cSeq ?_
  refine cReg ?_
  refine segEndH [0, 1] (T1 := (mkT 19 [(0, vS 0 N.length), (1, vN m)])) (by kernel_rfl) ?_
  refine kSeq ?_
  refine cSeq ?_
  refine cSeq ?_
  refine cReg ?_
  refine segEndH [0, 1, 5] (T1 := (mkT 19 [(0, vS 0 N.length), (1, vN m), (5, vI 0)])) (by kernel_rfl) ?_
  refine kSeq ?_
  refine cBlk ?_
  -- loop
  refine cLoop (fun mm T H => ∃ j : Nat, ∃ q : Nat, ∃ M : List Int, (j ≤ N.length) ∧ (q = m + j) ∧ (M = mkI m j ++ N.drop j) ∧ mm = N.length - j ∧ T = (mkT 19 [(0, vS 0 N.length), (1, vN q), (5, vN j)]) ∧ H = [some ⟨nums M, 3, false, true⟩]) (N.length - 0) (mkT 19 [(0, vS 0 N.length), (1, vN m), (5, vI 0)]) [some ⟨nums N, 3, false, true⟩] (wkSame [0, 1, 5] (by kernel_rfl)) ?_ ?_
  · exact ⟨0, m, N, (Nat.zero_le _), (rfl), (by simp [mkI]), rfl, rfl, rfl⟩
  · rintro _ _ _ ⟨j, q, M, hj, hq, hM, rfl, rfl, rfl⟩
    have hml : M.length = N.length := (by rw [hM]; simp; omega)
    refine cSeq ?_
    refine cSeq ?_
    refine cReg ?_
    refine segEndH [0, 1, 5, 9] (T1 := (mkT 19 [(0, vS 0 N.length), (1, vN q), (5, vN j), (9, .bool (decide (((j : Nat) : Int) < ((N.length : Nat) : Int))))])) (by kernel_rfl) ?_
    refine kSeq ?_
    cases h1 : (decide (((j : Nat) : Int) < ((N.length : Nat) : Int)) : Bool)
    ·
      (try simp only [Bool.not_eq_true', Bool.not_eq_false', decide_eq_true_eq, decide_eq_false_iff_not, beq_iff_eq, bne_iff_ne, beq_eq_false_iff_ne, bne_eq_false_iff_eq, ne_eq, Decidable.not_not, Bool.and_eq_true, Bool.and_eq_false_imp, Bool.or_eq_true, Bool.or_eq_false_iff, Bool.not_eq_true, Int.not_lt, Int.not_le, ge_iff_le, gt_iff_lt] at h1)
      refine cFalse (by kernel_rfl) ?_
      refine cExit ?_
      refine kSeqE ?_
      refine kLoopE ?_
      refine kBlkHit ?_
      refine kSeq ?_
      refine cSeq ?_
      refine cReg ?_
      refine segEndH [4] (T1 := (mkT 19 [(4, vN q)])) (by kernel_rfl) ?_
      refine kSeq ?_
      refine cRet ?_
      -- end
      have he0 : (q : Nat) = m + N.length := by first | omega | (rw [hM]; exact mkI_end (by omega) hj)
      have he1 : (M : List Int) = (mkI m N.length) := by first | omega | (rw [hM]; exact mkI_end (by omega) hj)
      refine endCast (v1 := vN q) (H1 := [some ⟨nums M, 3, false, true⟩]) (by first | rfl | ((try rw [← he0]); (try rw [← he1]); done) | (simp only [← he0, ← he1]; done)) (by first | rfl | ((try rw [← he0]); (try rw [← he1]); done) | (simp only [← he0, ← he1]; done)) ?_
      exact endQ (Or.inr rfl) (l := [vN q]) [] (by kernel_rfl) (by first | rfl | kernel_rfl) rfl rfl (closedL ⟨clF (flatNums _ _ _ _), trivial⟩) rfl
    ·
      (try simp only [Bool.not_eq_true', Bool.not_eq_false', decide_eq_true_eq, decide_eq_false_iff_not, beq_iff_eq, bne_iff_ne, beq_eq_false_iff_ne, bne_eq_false_iff_eq, ne_eq, Decidable.not_not, Bool.and_eq_true, Bool.and_eq_false_imp, Bool.or_eq_true, Bool.or_eq_false_iff, Bool.not_eq_true, Int.not_lt, Int.not_le, ge_iff_le, gt_iff_lt] at h1)
      refine cTrue (by kernel_rfl) ?_
      refine cSkip ?_
      refine kSeq ?_
      refine cSeq ?_
      refine cBlk ?_
      refine cSeq ?_
      refine cReg ?_
      refine segH 3 (T1 := (mkT 19 [(0, vS 0 N.length), (1, vN q), (5, vN j), (9, .bool true), (12, vS 0 N.length), (13, vN j), (14, vN q)])) (by kernel_rfl) ?_
      refine rOp (v := vP 0 j) (by kernel_rfl) (eIdxS (ad := ⟨0, 0, none⟩) (n := N.length) (m := 0) (k := .i64) (c := ((j : Nat) : Int)) (j := j) (o := j) (by kernel_rfl) (by kernel_rfl) ti22 ti3 (rfl) (by omega) (by simp)) ?_
      refine rOp (v := .tuple #[]) (H' := [some ⟨nums (M.set j ((q : Nat) : Int)), 3, false, true⟩]) (by kernel_rfl) (eStNum (b := 0) (o := j) (L := M) (n := ((q : Nat) : Int)) (e := 3) (bx := false) (by kernel_rfl) (by kernel_rfl) (by kernel_rfl) (by omega) ti3 rfl (by rfl)) ?_
      refine segEnd [0, 1, 5] (T1 := (mkT 19 [(0, vS 0 N.length), (1, vN q), (5, vN j)])) (H1 := [some ⟨nums (M.set j ((q : Nat) : Int)), 3, false, true⟩]) (by kernel_rfl) ?_
      refine kSeq ?_
      refine cReg ?_
      refine segH 1 (T1 := (mkT 19 [(0, vS 0 N.length), (1, vN q), (5, vN j), (16, vN q)])) (by kernel_rfl) ?_
      refine rOp (v := vN (q + 1)) (by kernel_rfl) (eAdd (k := .i64) (a := ((q : Nat) : Int)) (b := 1) (c := ((q + 1 : Nat) : Int)) (by kernel_rfl) (by kernel_rfl) (wr64 (by omega) (by omega) (by omega))) ?_
      refine segEndH [0, 1, 5] (T1 := (mkT 19 [(0, vS 0 N.length), (1, vN (q + 1)), (5, vN j)])) (by kernel_rfl) ?_
      refine kBlk ?_
      refine kSeq ?_
      refine cReg ?_
      refine segH 1 (T1 := (mkT 19 [(0, vS 0 N.length), (1, vN (q + 1)), (5, vN j), (10, vN j)])) (by kernel_rfl) ?_
      refine rOp (v := vN (j + 1)) (by kernel_rfl) (eAdd (k := .i64) (a := ((j : Nat) : Int)) (b := 1) (c := ((j + 1 : Nat) : Int)) (by kernel_rfl) (by kernel_rfl) (wr64 (by omega) (by omega) (by omega))) ?_
      refine segEndH [0, 1, 5] (T1 := (mkT 19 [(0, vS 0 N.length), (1, vN (q + 1)), (5, vN (j + 1))])) (by kernel_rfl) ?_
      exact kLoop (N.length - (j + 1)) (mkT 19 [(0, vS 0 N.length), (1, vN (q + 1)), (5, vN (j + 1))]) [some ⟨nums (M.set j ((q : Nat) : Int)), 3, false, true⟩] (by omega) (wkSame [0, 1, 5] (by kernel_rfl)) ⟨(j + 1), (q + 1), (M.set j ((q : Nat) : Int)), (by omega), (by omega), (by rw [hM, hq]; exact mkI_put (by omega)), rfl, rfl, rfl⟩

set_option maxRecDepth 100000 in
set_option maxHeartbeats 4000000 in
theorem others2   : Sound Try.prog 126 [vI 2] [] (.tuple #[vI 0, vI 1]) [] := by
  refine sound_intro (C := cx) Try.func126 rfl (by kernel_rfl) fun hcl => ?_
  refine cSeq ?_
  refine cReg ?_
  refine segEndH [0] (T1 := (mkT 9 [(0, vI 2)])) (by kernel_rfl) ?_
  refine kSeq ?_
  refine cSeq ?_
  refine cSeq ?_
  refine cReg ?_
  refine segEndH [4] (T1 := (mkT 9 [(4, vI 2)])) (by kernel_rfl) ?_
  refine kSeq ?_
  refine cBlk ?_
  refine cSeq ?_
  refine cReg ?_
  refine segEndH [4, 5] (T1 := (mkT 9 [(4, vI 2), (5, .bool false)])) (by kernel_rfl) ?_
  refine kSeq ?_
  refine cFalse (by kernel_rfl) ?_
  refine cSeq ?_
  refine cReg ?_
  refine segEndH [7] (T1 := (mkT 9 [(7, .bool false)])) (by kernel_rfl) ?_
  refine kSeq ?_
  refine cFalse (by kernel_rfl) ?_
  refine cSkip ?_
  refine kBlk ?_
  refine kSeq ?_
  refine cSeq ?_
  refine cReg ?_
  refine segEndH [2, 3] (T1 := (mkT 9 [(2, vI 0), (3, vI 1)])) (by kernel_rfl) ?_
  refine kSeq ?_
  refine cRet ?_
  -- end
  exact endQ (Or.inr rfl) (l := [vI 0, vI 1]) [] (by kernel_rfl) (by first | rfl | kernel_rfl) rfl rfl hcl rfl

set_option maxRecDepth 100000 in
set_option maxHeartbeats 4000000 in
theorem line2 (X : Nat) (Y : Nat) (Z : Nat) (a : Int) (b : Int) (c : Int) (hs : Sides X Y Z) (hh : has3 (X : Int) (Y : Int) (Z : Int) a b c = true) : Sound Try.prog 98 [.agg #[vN X, vN Y, vN Z], .agg #[vI a, vI b, vI c], vI 2] [] (vI (a * (Y : Int) + b)) [] := by
  refine sound_intro (C := cx) Try.func98 rfl (by kernel_rfl) fun hcl => ?_
  have hz := hs.size
  have hx0 := hs.x0
  have hx4 := hs.x4
  have hy0 := hs.y0
  have hy4 := hs.y4
  have hz0 := hs.z0
  have hz4 := hs.z4
  have hfl := flat_lt hh
  have hh3 := (has3_iff (c := A3.mk a b c)).1 hh
  simp only at hh3
  have hxy : X * Y ≤ 4 * 4 := Nat.mul_le_mul (by omega) (by omega)
  refine cSeq ?_
  refine cReg ?_
  refine segEnd [2, 3, 4] (T1 := (mkT 25 [(2, vI 2), (3, vP 0 0), (4, vP 1 0)])) (H1 := [rB [vN X, vN Y, vN Z] 75, rB [vI a, vI b, vI c] 74]) (by kernel_rfl) ?_
  refine kSeq ?_
  refine cSeq ?_
  refine cReg ?_
  refine segH 1 (T1 := (mkT 25 [(2, vI 2), (3, vP 0 0), (4, vP 1 0), (10, vI 2)])) (by kernel_rfl) ?_
  refine rCall (v := .tuple #[vI 0, vI 1]) (args := [vI 2]) (by kernel_rfl) rfl (by kernel_rfl) (Sound.lay0 [] (others2) trivial rfl trivial rfl (by first | rfl | simp [mpV, mpA, mpS, mpP, renId, shift]) (by first | rfl | simp [mpV, mpA, mpS, mpP, renId, shift])) ?_
  refine segEndH [3, 4, 7, 8] (T1 := (mkT 25 [(3, vP 0 0), (4, vP 1 0), (7, vI 0), (8, vI 1)])) (by kernel_rfl) ?_
  refine kSeq ?_
  refine cSeq ?_
  refine cRegW (N := 2) [⟨[], [], []⟩, ⟨[], [], []⟩, ⟨[], [], [1]⟩, ⟨[], [], []⟩, ⟨[], [], []⟩, ⟨[], [], [0]⟩, ⟨[], [], []⟩, ⟨[], [], []⟩, ⟨[], [], []⟩, ⟨[], [], [1]⟩, ⟨[], [], []⟩, ⟨[], [], []⟩] 0 [] (by rfl) (by rfl) (by kernel_rfl) (by kernel_rfl) (by kernel_rfl) ⟨nmsX (by kernel_rfl), ⟨nmsX (by kernel_rfl), trivial⟩⟩ ?_
  refine segWH 6 (T1 := (mkT 25 [(3, vP 0 0), (4, vP 1 0), (7, vI 0), (8, vI 1), (14, vI 0), (15, vP 1 0), (16, vI a), (17, vI 1), (18, vP 0 1), (19, vN Y)])) (by kernel_rfl) ?_
  refine rW (m := ⟨[], [], []⟩) (v := vI (a * ((Y : Nat) : Int))) rfl (by kernel_rfl) (stId (eMul (k := .i64) (a := a) (b := ((Y : Nat) : Int)) (c := (a * ((Y : Nat) : Int))) (by kernel_rfl) (by kernel_rfl) (wr64 (by omega) (by omega) (by omega))) rfl (by kernel_rfl) (by kernel_rfl) (by kernel_rfl)) (by kernel_rfl) nr0 ?_
  refine segWH 3 (T1 := (mkT 25 [(3, vP 0 0), (4, vP 1 0), (7, vI 0), (8, vI 1), (14, vI 0), (15, vP 1 0), (16, vI a), (17, vI 1), (18, vP 0 1), (19, vN Y), (20, vI (a * ((Y : Nat) : Int))), (21, vI 1), (22, vP 1 1), (23, vI b)])) (by kernel_rfl) ?_
  refine rW (m := ⟨[], [], []⟩) (v := vI (a * ((Y : Nat) : Int) + b)) rfl (by kernel_rfl) (stId (eAdd (k := .i64) (a := (a * ((Y : Nat) : Int))) (b := b) (c := (a * ((Y : Nat) : Int) + b)) (by kernel_rfl) (by kernel_rfl) (wr64 (by omega) (by omega) (by omega))) rfl (by kernel_rfl) (by kernel_rfl) (by kernel_rfl)) (by kernel_rfl) nr0 ?_
  refine segEndWH [6] (T1 := (mkT 25 [(6, vI (a * ((Y : Nat) : Int) + b))])) (by kernel_rfl) ?_
  refine kSeq ?_
  refine cRet ?_
  -- end
  have he0 : (a * ((Y : Nat) : Int) + b : Int) = a * (Y : Int) + b := by first | omega | assumption | rfl | (symm; assumption) | (simp_all; done)
  refine endCast (v1 := vI (a * ((Y : Nat) : Int) + b)) (H1 := []) (by first | rfl | ((try rw [← he0]); done) | (simp only [← he0]; done)) (by first | rfl | ((try rw [← he0]); done) | (simp only [← he0]; done)) ?_
  exact endQ (Or.inr rfl) (l := [vI (a * ((Y : Nat) : Int) + b)]) [rB [vN X, vN Y, vN Z] 75, rB [vI a, vI b, vI c] 74] (by kernel_rfl) (by first | rfl | kernel_rfl) rfl rfl hcl rfl

set_option maxRecDepth 100000 in
set_option maxHeartbeats 4000000 in
theorem stackC (X : Nat) (Y : Nat) (Z : Nat) (a : Int) (b : Int) (c : Int) (N : List Int) (hs : Sides X Y Z) (hnl : N.length = X * Y) (hh : has3 (X : Int) (Y : Int) (Z : Int) a b c = true) : Sound Try.prog 113 [.agg #[vI a, vI b, vI c], vP 0 0, vP 1 0] [some ⟨[vS 2 N.length], 22, true, false⟩, some ⟨[vN X, vN Y, vN Z], 75, true, false⟩, some ⟨nums N, 3, false, false⟩] (.bool (ltN Y N (A3.mk a b c))) [some ⟨[vS 2 N.length], 22, true, false⟩, some ⟨[vN X, vN Y, vN Z], 75, true, false⟩, some ⟨nums N, 3, false, false⟩] := by
  refine sound_intro (C := cx) Try.func113 rfl (by kernel_rfl) fun hcl => ?_
  have hz := hs.size
  have hx0 := hs.x0
  have hx4 := hs.x4
  have hy0 := hs.y0
  have hy4 := hs.y4
  have hz0 := hs.z0
  have hz4 := hs.z4
  have hfl := flat_lt hh
  have hh3 := (has3_iff (c := A3.mk a b c)).1 hh
  simp only at hh3
  have hxy : X * Y ≤ 4 * 4 := Nat.mul_le_mul (by omega) (by omega)
  refine cSeq ?_
  refine cReg ?_
  refine segEnd [1, 2, 3] (T1 := (mkT 14 [(1, vP 0 0), (2, vP 1 0), (3, vP 3 0)])) (H1 := [some ⟨[vS 2 N.length], 22, true, false⟩, some ⟨[vN X, vN Y, vN Z], 75, true, false⟩, some ⟨nums N, 3, false, false⟩, rB [vI a, vI b, vI c] 74]) (by kernel_rfl) ?_
  refine kSeq ?_
  refine cSeq ?_
  refine cRegW (N := 4) [⟨[], [], []⟩, ⟨[], [], [3]⟩, ⟨[], [], [0]⟩, ⟨[], [], [1]⟩, ⟨[], [], [3]⟩, ⟨[], [], []⟩, ⟨[], [], []⟩, ⟨[], [], [2]⟩, ⟨[], [], []⟩, ⟨[], [], []⟩] 0 [] (by rfl) (by rfl) (by kernel_rfl) (by kernel_rfl) (by kernel_rfl) ⟨nmsX (by kernel_rfl), ⟨nmsX (by kernel_rfl), ⟨nmsF (flatNums _ _ _ _), ⟨nmsX (by kernel_rfl), trivial⟩⟩⟩⟩ ?_
  refine segWH 5 (T1 := (mkT 14 [(1, vP 0 0), (2, vP 1 0), (3, vP 3 0), (5, vP 3 2), (6, vI c), (7, vS 2 N.length), (8, .agg #[vN X, vN Y, vN Z]), (9, .agg #[vI a, vI b, vI c])])) (by kernel_rfl) ?_
  refine rW (m := ⟨[], [], []⟩) (v := vI (a * (Y : Int) + b)) rfl (by kernel_rfl) (stQ (args := [.agg #[vN X, vN Y, vN Z], .agg #[vI a, vI b, vI c], vI 2]) rfl (by kernel_rfl) (Any.lay0 [] (line2 X Y Z a b c (by first | assumption | omega | rfl | decide | exact HeapL.list _ _ _ _ | exact HeapL.nil _ _ _ | exact HeapL.all _ _ _ | (apply HeapL.lt64 <;> assumption) | (repeat' (first | assumption | apply or_lt64 | apply and_lt64 | apply andn_lt64 | apply pow_lt64 | (apply HeapL.lt64 <;> assumption)))) (by first | assumption | omega | rfl | decide | exact HeapL.list _ _ _ _ | exact HeapL.nil _ _ _ | exact HeapL.all _ _ _ | (apply HeapL.lt64 <;> assumption) | (repeat' (first | assumption | apply or_lt64 | apply and_lt64 | apply andn_lt64 | apply pow_lt64 | (apply HeapL.lt64 <;> assumption))))) trivial rfl trivial rfl (by first | rfl | simp [mpV, mpA, mpS, mpP, renId, shift]) rfl) rfl (by kernel_rfl) (by kernel_rfl)) (by kernel_rfl) nr0 ?_
  refine rW (m := ⟨[], [], []⟩) (v := vP 2 ((a * (Y : Int) + b).toNat)) rfl (by kernel_rfl) (stId (eIdxS (ad := ⟨2, 0, none⟩) (n := N.length) (m := 0) (k := .i64) (c := (a * (Y : Int) + b)) (j := ((a * (Y : Int) + b).toNat)) (o := (a * (Y : Int) + b).toNat) (by kernel_rfl) (by kernel_rfl) ti22 ti3 (by omega) (by omega) (by simp)) rfl (by kernel_rfl) (by kernel_rfl) (by kernel_rfl)) (by kernel_rfl) nr0 ?_
  refine rW (m := ⟨[], [], [2]⟩) (v := vI (N.getD ((a * (Y : Int) + b).toNat) 0)) rfl (by kernel_rfl) (stId (eLdNum (ad := ⟨2, (a * (Y : Int) + b).toNat, none⟩) (r := ⟨nums N, 3, false, false⟩) (L := N) (j := ((a * (Y : Int) + b).toNat)) (by kernel_rfl) (by kernel_rfl) rfl (by first | rfl | omega) (by omega) ti3 rfl) rfl (by kernel_rfl) (by kernel_rfl) (by kernel_rfl)) (by kernel_rfl) nr0 ?_
  refine segEndWH [4] (T1 := (mkT 14 [(4, .bool (decide (c < (N.getD ((a * (Y : Int) + b).toNat) 0))))])) (by kernel_rfl) ?_
  refine kSeq ?_
  refine cRet ?_
  -- end
  have he0 : (decide (c < (N.getD ((a * (Y : Int) + b).toNat) 0)) : Bool) = ltN Y N (A3.mk a b c) := by first | omega | assumption | rfl | (symm; assumption) | (simp_all; done)
  refine endCast (v1 := .bool (decide (c < (N.getD ((a * (Y : Int) + b).toNat) 0)))) (H1 := [some ⟨[vS 2 N.length], 22, true, false⟩, some ⟨[vN X, vN Y, vN Z], 75, true, false⟩, some ⟨nums N, 3, false, false⟩]) (by first | rfl | ((try rw [← he0]); done) | (simp only [← he0]; done)) (by first | rfl | ((try rw [← he0]); done) | (simp only [← he0]; done)) ?_
  exact endQ (Or.inr rfl) (l := [.bool (decide (c < (N.getD ((a * (Y : Int) + b).toNat) 0)))]) [rB [vI a, vI b, vI c] 74] (by kernel_rfl) (by first | rfl | kernel_rfl) rfl rfl hcl rfl

set_option maxRecDepth 100000 in
set_option maxHeartbeats 4000000 in
theorem thoseStack (X : Nat) (Y : Nat) (Z : Nat) (N : List Int) (hs : Sides X Y Z) (hnl : N.length = X * Y) : Sound Try.prog 112 [.agg #[vN X, vN Y, vN Z], .func (.func 113) #[] #[vP 0 0, vP 1 0]] [some ⟨[vS 2 N.length], 22, true, false⟩, some ⟨[vN X, vN Y, vN Z], 75, true, false⟩, some ⟨nums N, 3, false, false⟩] (vU (stackS X Y Z N)) [some ⟨[vS 2 N.length], 22, true, false⟩, some ⟨[vN X, vN Y, vN Z], 75, true, false⟩, some ⟨nums N, 3, false, false⟩] := by
  refine sound_intro (C := cx) Try.func112 rfl (by kernel_rfl) fun hcl => ?_
  have hz := hs.size
  have hx0 := hs.x0
  have hx4 := hs.x4
  have hy0 := hs.y0
  have hy4 := hs.y4
  have hz0 := hs.z0
  have hz4 := hs.z4
  refine cSeq ?_
  refine cReg ?_
  refine segEnd [1, 2] (T1 := (mkT 23 [(1, .func (.func 113) #[] #[vP 0 0, vP 1 0]), (2, vP 3 0)])) (H1 := [some ⟨[vS 2 N.length], 22, true, false⟩, some ⟨[vN X, vN Y, vN Z], 75, true, false⟩, some ⟨nums N, 3, false, false⟩, rB [vN X, vN Y, vN Z] 75]) (by kernel_rfl) ?_
  refine kSeq ?_
  refine cSeq ?_
  refine cReg ?_
  refine segEndH [1, 2, 5] (T1 := (mkT 23 [(1, .func (.func 113) #[] #[vP 0 0, vP 1 0]), (2, vP 3 0), (5, vU 0)])) (by kernel_rfl) ?_
  refine kSeq ?_
  refine cSeq ?_
  refine cSeq ?_
  refine cReg ?_
  refine segH 1 (T1 := (mkT 23 [(1, .func (.func 113) #[] #[vP 0 0, vP 1 0]), (2, vP 3 0), (5, vU 0), (7, .agg #[vN X, vN Y, vN Z])])) (by kernel_rfl) ?_
  refine rCall (v := vN (X * Y * Z)) (args := [.agg #[vN X, vN Y, vN Z]]) (by kernel_rfl) rfl (by kernel_rfl) (Sound.lay0 [] (sizeB X Y Z (by first | assumption | omega | rfl | decide | exact HeapL.list _ _ _ _ | exact HeapL.nil _ _ _ | exact HeapL.all _ _ _ | (apply HeapL.lt64 <;> assumption) | (repeat' (first | assumption | apply or_lt64 | apply and_lt64 | apply andn_lt64 | apply pow_lt64 | (apply HeapL.lt64 <;> assumption))))) trivial rfl trivial rfl (by first | rfl | simp [mpV, mpA, mpS, mpP, renId, shift]) rfl) ?_
  refine segEndH [1, 2, 5, 8, 9] (T1 := (mkT 23 [(1, .func (.func 113) #[] #[vP 0 0, vP 1 0]), (2, vP 3 0), (5, vU 0), (8, vN (X * Y * Z)), (9, vI 0)])) (by kernel_rfl) ?_
  refine kSeq ?_
  refine cBlk ?_
  -- loop
  refine cLoop (fun mm T H => ∃ i : Nat, ∃ s : Nat, (i ≤ X * Y * Z) ∧ (s = thS i (fun i => ltN Y N (cellOf Y Z i))) ∧ mm = X * Y * Z - i ∧ T = (mkT 23 [(1, .func (.func 113) #[] #[vP 0 0, vP 1 0]), (2, vP 3 0), (5, vU s), (8, vN (X * Y * Z)), (9, vN i)]) ∧ H = [some ⟨[vS 2 N.length], 22, true, false⟩, some ⟨[vN X, vN Y, vN Z], 75, true, false⟩, some ⟨nums N, 3, false, false⟩, rB [vN X, vN Y, vN Z] 75]) (X * Y * Z - 0) (mkT 23 [(1, .func (.func 113) #[] #[vP 0 0, vP 1 0]), (2, vP 3 0), (5, vU 0), (8, vN (X * Y * Z)), (9, vI 0)]) [some ⟨[vS 2 N.length], 22, true, false⟩, some ⟨[vN X, vN Y, vN Z], 75, true, false⟩, some ⟨nums N, 3, false, false⟩, rB [vN X, vN Y, vN Z] 75] (wkSame [1, 2, 5, 8, 9] (by kernel_rfl)) ?_ ?_
  · exact ⟨0, 0, (Nat.zero_le _), (rfl), rfl, rfl, rfl⟩
  · rintro _ _ _ ⟨i, s, hi, hs1, rfl, rfl, rfl⟩
    have hslt : s < 18446744073709551616 := hs1 ▸ thS_lt _ i (by omega)
    refine cSeq ?_
    refine cReg ?_
    refine segEndH [1, 2, 5, 8, 9, 10] (T1 := (mkT 23 [(1, .func (.func 113) #[] #[vP 0 0, vP 1 0]), (2, vP 3 0), (5, vU s), (8, vN (X * Y * Z)), (9, vN i), (10, .bool (decide (((i : Nat) : Int) < ((X * Y * Z : Nat) : Int))))])) (by kernel_rfl) ?_
    refine kSeq ?_
    refine cSeq ?_
    cases h1 : (decide (((i : Nat) : Int) < ((X * Y * Z : Nat) : Int)) : Bool)
    ·
      have h1k := h1
      (try simp only [Bool.not_eq_true', Bool.not_eq_false', decide_eq_true_eq, decide_eq_false_iff_not, beq_iff_eq, bne_iff_ne, beq_eq_false_iff_ne, bne_eq_false_iff_eq, ne_eq, Decidable.not_not, Bool.and_eq_true, Bool.and_eq_false_imp, Bool.or_eq_true, Bool.or_eq_false_iff, Bool.not_eq_true, Int.not_lt, Int.not_le, ge_iff_le, gt_iff_lt] at h1)
      refine cFalse (by kernel_rfl) ?_
      refine cExit ?_
      refine kSeqE ?_
      refine kLoopE ?_
      refine kBlkHit ?_
      refine kSeq ?_
      refine cSeq ?_
      refine cReg ?_
      refine segEndH [4] (T1 := (mkT 23 [(4, vU s)])) (by kernel_rfl) ?_
      refine kSeq ?_
      refine cRet ?_
      -- end
      have he0 : (s : Nat) = stackS X Y Z N := by (rw [hs1, show i = X * Y * Z by omega]; rfl)
      refine endCast (v1 := vU s) (H1 := [some ⟨[vS 2 N.length], 22, true, false⟩, some ⟨[vN X, vN Y, vN Z], 75, true, false⟩, some ⟨nums N, 3, false, false⟩]) (by first | rfl | ((try rw [← he0]); done) | (simp only [← he0]; done)) (by first | rfl | ((try rw [← he0]); done) | (simp only [← he0]; done)) ?_
      exact endQ (Or.inr rfl) (l := [vU s]) [rB [vN X, vN Y, vN Z] 75] (by kernel_rfl) (by first | rfl | kernel_rfl) rfl rfl hcl rfl
    ·
      have h1k := h1
      (try simp only [Bool.not_eq_true', Bool.not_eq_false', decide_eq_true_eq, decide_eq_false_iff_not, beq_iff_eq, bne_iff_ne, beq_eq_false_iff_ne, bne_eq_false_iff_eq, ne_eq, Decidable.not_not, Bool.and_eq_true, Bool.and_eq_false_imp, Bool.or_eq_true, Bool.or_eq_false_iff, Bool.not_eq_true, Int.not_lt, Int.not_le, ge_iff_le, gt_iff_lt] at h1)
      refine cTrue (by kernel_rfl) ?_
      refine cSkip ?_
      refine kSeq ?_
      refine cSeq ?_
      refine cBlk ?_
      refine cSeq ?_
      refine cReg ?_
      refine segEndH [1, 2, 5, 6, 8, 9] (T1 := (mkT 23 [(1, .func (.func 113) #[] #[vP 0 0, vP 1 0]), (2, vP 3 0), (5, vU s), (6, vN i), (8, vN (X * Y * Z)), (9, vN i)])) (by kernel_rfl) ?_
      refine kSeq ?_
      refine cSeq ?_
      refine cReg ?_
      refine segH 3 (T1 := (mkT 23 [(1, .func (.func 113) #[] #[vP 0 0, vP 1 0]), (2, vP 3 0), (5, vU s), (6, vN i), (8, vN (X * Y * Z)), (9, vN i), (12, .func (.func 113) #[] #[vP 0 0, vP 1 0]), (13, .agg #[vN X, vN Y, vN Z]), (14, vN i)])) (by kernel_rfl) ?_
      refine rCall (v := .agg #[vN (i / Z / Y), vN (i / Z % Y), vN (i % Z)]) (args := [.agg #[vN X, vN Y, vN Z], vN i]) (by kernel_rfl) rfl (by kernel_rfl) (Sound.lay0 [] (cellB X Y Z i (by first | assumption | omega | rfl | decide | exact HeapL.list _ _ _ _ | exact HeapL.nil _ _ _ | exact HeapL.all _ _ _ | (apply HeapL.lt64 <;> assumption) | (repeat' (first | assumption | apply or_lt64 | apply and_lt64 | apply andn_lt64 | apply pow_lt64 | (apply HeapL.lt64 <;> assumption)))) (by first | assumption | omega | rfl | decide | exact HeapL.list _ _ _ _ | exact HeapL.nil _ _ _ | exact HeapL.all _ _ _ | (apply HeapL.lt64 <;> assumption) | (repeat' (first | assumption | apply or_lt64 | apply and_lt64 | apply andn_lt64 | apply pow_lt64 | (apply HeapL.lt64 <;> assumption))))) trivial rfl trivial rfl (by first | rfl | simp [mpV, mpA, mpS, mpP, renId, shift]) (by first | rfl | simp [mpV, mpA, mpS, mpP, renId, shift])) ?_
      refine rCall (v := .bool (ltN Y N (A3.mk ((i / Z / Y : Nat) : Int) ((i / Z % Y : Nat) : Int) ((i % Z : Nat) : Int)))) (args := [.agg #[vN (i / Z / Y), vN (i / Z % Y), vN (i % Z)], vP 0 0, vP 1 0]) (by kernel_rfl) rfl (by kernel_rfl) (Sound.lay0 [0, 1, 2] (stackC X Y Z ((i / Z / Y : Nat) : Int) ((i / Z % Y : Nat) : Int) ((i % Z : Nat) : Int) N (by first | assumption | omega | rfl | decide | exact HeapL.list _ _ _ _ | exact HeapL.nil _ _ _ | exact HeapL.all _ _ _ | (apply HeapL.lt64 <;> assumption) | (repeat' (first | assumption | apply or_lt64 | apply and_lt64 | apply andn_lt64 | apply pow_lt64 | (apply HeapL.lt64 <;> assumption)))) (by first | assumption | omega | rfl | decide | exact HeapL.list _ _ _ _ | exact HeapL.nil _ _ _ | exact HeapL.all _ _ _ | (apply HeapL.lt64 <;> assumption) | (repeat' (first | assumption | apply or_lt64 | apply and_lt64 | apply andn_lt64 | apply pow_lt64 | (apply HeapL.lt64 <;> assumption)))) (by exact has_cellOf hs (by omega))) ⟨rdX false rfl rfl, ⟨rdX false rfl rfl, ⟨rdF false (flatNums _ _ _ _) rfl rfl, trivial⟩⟩⟩ rfl ⟨clX rfl, ⟨clX rfl, ⟨clF (flatNums _ _ _ _), trivial⟩⟩⟩ rfl (by first | rfl | simp [mpV, mpA, mpS, mpP, renId, shift]) rfl) ?_
      refine segEndH [1, 2, 5, 6, 8, 9, 16] (T1 := (mkT 23 [(1, .func (.func 113) #[] #[vP 0 0, vP 1 0]), (2, vP 3 0), (5, vU s), (6, vN i), (8, vN (X * Y * Z)), (9, vN i), (16, .bool (ltN Y N (A3.mk ((i / Z / Y : Nat) : Int) ((i / Z % Y : Nat) : Int) ((i % Z : Nat) : Int))))])) (by kernel_rfl) ?_
      refine kSeq ?_
      cases h2 : (ltN Y N (A3.mk ((i / Z / Y : Nat) : Int) ((i / Z % Y : Nat) : Int) ((i % Z : Nat) : Int)) : Bool)
      ·
        have h2k := h2
        (try simp only [Bool.not_eq_true', Bool.not_eq_false', decide_eq_true_eq, decide_eq_false_iff_not, beq_iff_eq, bne_iff_ne, beq_eq_false_iff_ne, bne_eq_false_iff_eq, ne_eq, Decidable.not_not, Bool.and_eq_true, Bool.and_eq_false_imp, Bool.or_eq_true, Bool.or_eq_false_iff, Bool.not_eq_true, Int.not_lt, Int.not_le, ge_iff_le, gt_iff_lt] at h2)
        refine cFalse (by kernel_rfl) ?_
        refine cSkip ?_
        refine kBlk ?_
        refine kSeq ?_
        refine cReg ?_
        refine rOp (v := vN (i + 1)) (by kernel_rfl) (eAdd (k := .i64) (a := ((i : Nat) : Int)) (b := 1) (c := ((i + 1 : Nat) : Int)) (by kernel_rfl) (by kernel_rfl) (wr64 (by omega) (by omega) (by omega))) ?_
        refine segEndH [1, 2, 5, 8, 9] (T1 := (mkT 23 [(1, .func (.func 113) #[] #[vP 0 0, vP 1 0]), (2, vP 3 0), (5, vU s), (8, vN (X * Y * Z)), (9, vN (i + 1))])) (by kernel_rfl) ?_
        exact kLoop (X * Y * Z - (i + 1)) (mkT 23 [(1, .func (.func 113) #[] #[vP 0 0, vP 1 0]), (2, vP 3 0), (5, vU s), (8, vN (X * Y * Z)), (9, vN (i + 1))]) [some ⟨[vS 2 N.length], 22, true, false⟩, some ⟨[vN X, vN Y, vN Z], 75, true, false⟩, some ⟨nums N, 3, false, false⟩, rB [vN X, vN Y, vN Z] 75] (by omega) (wkSame [1, 2, 5, 8, 9] (by kernel_rfl)) ⟨(i + 1), s, (by omega), (by first | (rw [hs1]; exact thS_yes (by assumption)) | (rw [hs1]; exact thS_no (by assumption))), rfl, rfl, rfl⟩
      ·
        have h2k := h2
        (try simp only [Bool.not_eq_true', Bool.not_eq_false', decide_eq_true_eq, decide_eq_false_iff_not, beq_iff_eq, bne_iff_ne, beq_eq_false_iff_ne, bne_eq_false_iff_eq, ne_eq, Decidable.not_not, Bool.and_eq_true, Bool.and_eq_false_imp, Bool.or_eq_true, Bool.or_eq_false_iff, Bool.not_eq_true, Int.not_lt, Int.not_le, ge_iff_le, gt_iff_lt] at h2)
        refine cTrue (by kernel_rfl) ?_
        refine cReg ?_
        refine segH 2 (T1 := (mkT 23 [(1, .func (.func 113) #[] #[vP 0 0, vP 1 0]), (2, vP 3 0), (5, vU s), (6, vN i), (8, vN (X * Y * Z)), (9, vN i), (16, .bool true), (17, vU s), (18, vN i)])) (by kernel_rfl) ?_
        refine rOp (v := vU (2 ^ i)) (by kernel_rfl) (eShl (k := .u64) (a := 1) (b := ((i : Nat) : Int)) (k' := .i64) (c := ((2 ^ i : Nat) : Int)) (by kernel_rfl) (by kernel_rfl) (by omega) (shl1 _ (by omega))) ?_
        refine rOp (v := vU (s ||| (2 ^ i))) (by kernel_rfl) (eOp (k := .u64) (a := ((s : Nat) : Int)) (b := ((2 ^ i : Nat) : Int)) (by kernel_rfl) (by kernel_rfl) ⟨by decide, by decide⟩ (orU s (2 ^ i) (by first | assumption | omega | (repeat' (first | assumption | omega | apply or_lt64 | apply and_lt64 | apply andn_lt64 | apply pow_lt64 | (apply HeapL.lt64 <;> assumption)))) (by first | assumption | omega | (repeat' (first | assumption | omega | apply or_lt64 | apply and_lt64 | apply andn_lt64 | apply pow_lt64 | (apply HeapL.lt64 <;> assumption)))))) ?_
        refine segEndH [1, 2, 5, 8, 9] (T1 := (mkT 23 [(1, .func (.func 113) #[] #[vP 0 0, vP 1 0]), (2, vP 3 0), (5, vU (s ||| (2 ^ i))), (8, vN (X * Y * Z)), (9, vN i)])) (by kernel_rfl) ?_
        refine kBlk ?_
        refine kSeq ?_
        refine cReg ?_
        refine rOp (v := vN (i + 1)) (by kernel_rfl) (eAdd (k := .i64) (a := ((i : Nat) : Int)) (b := 1) (c := ((i + 1 : Nat) : Int)) (by kernel_rfl) (by kernel_rfl) (wr64 (by omega) (by omega) (by omega))) ?_
        refine segEndH [1, 2, 5, 8, 9] (T1 := (mkT 23 [(1, .func (.func 113) #[] #[vP 0 0, vP 1 0]), (2, vP 3 0), (5, vU (s ||| (2 ^ i))), (8, vN (X * Y * Z)), (9, vN (i + 1))])) (by kernel_rfl) ?_
        exact kLoop (X * Y * Z - (i + 1)) (mkT 23 [(1, .func (.func 113) #[] #[vP 0 0, vP 1 0]), (2, vP 3 0), (5, vU (s ||| (2 ^ i))), (8, vN (X * Y * Z)), (9, vN (i + 1))]) [some ⟨[vS 2 N.length], 22, true, false⟩, some ⟨[vN X, vN Y, vN Z], 75, true, false⟩, some ⟨nums N, 3, false, false⟩, rB [vN X, vN Y, vN Z] 75] (by omega) (wkSame [1, 2, 5, 8, 9] (by kernel_rfl)) ⟨(i + 1), (s ||| (2 ^ i)), (by omega), (by first | (rw [hs1]; exact thS_yes (by assumption)) | (rw [hs1]; exact thS_no (by assumption))), rfl, rfl, rfl⟩

set_option maxRecDepth 100000 in
set_option maxHeartbeats 4000000 in
theorem stackB (X : Nat) (Y : Nat) (Z : Nat) (N : List Int) (hs : Sides X Y Z) (hnl : N.length = X * Y) : Sound Try.prog 79 [.agg #[vN X, vN Y, vN Z], vS 0 N.length] [some ⟨nums N, 3, false, false⟩] (vU (stackS X Y Z N)) [some ⟨nums N, 3, false, false⟩] := by
  refine sound_intro (C := cx) Try.func79 rfl (by kernel_rfl) fun hcl => ?_
  refine cSeq ?_
  refine cReg ?_
  refine segEnd [2, 3] (T1 := (mkT 8 [(2, vP 1 0), (3, vP 2 0)])) (H1 := [some ⟨nums N, 3, false, false⟩, rB [vN X, vN Y, vN Z] 75, rB [vS 0 N.length] 22]) (by kernel_rfl) ?_
  refine kSeq ?_
  refine cSeq ?_
  refine cReg ?_
  refine segH 2 (T1 := (mkT 8 [(2, vP 1 0), (3, vP 2 0), (5, .agg #[vN X, vN Y, vN Z]), (6, .func (.func 113) #[] #[vP 2 0, vP 1 0])])) (by kernel_rfl) ?_
  refine rCall (v := vU (stackS X Y Z N)) (args := [.agg #[vN X, vN Y, vN Z], .func (.func 113) #[] #[vP 2 0, vP 1 0]]) (by kernel_rfl) rfl (by kernel_rfl) (Sound.lay0 [2, 1, 0] (thoseStack X Y Z N (by first | assumption | omega | rfl | decide | exact HeapL.list _ _ _ _ | exact HeapL.nil _ _ _ | exact HeapL.all _ _ _ | (apply HeapL.lt64 <;> assumption) | (repeat' (first | assumption | apply or_lt64 | apply and_lt64 | apply andn_lt64 | apply pow_lt64 | (apply HeapL.lt64 <;> assumption)))) (by first | assumption | omega | rfl | decide | exact HeapL.list _ _ _ _ | exact HeapL.nil _ _ _ | exact HeapL.all _ _ _ | (apply HeapL.lt64 <;> assumption) | (repeat' (first | assumption | apply or_lt64 | apply and_lt64 | apply andn_lt64 | apply pow_lt64 | (apply HeapL.lt64 <;> assumption))))) ⟨rdX true rfl rfl, ⟨rdX true rfl rfl, ⟨rdF false (flatNums _ _ _ _) rfl rfl, trivial⟩⟩⟩ rfl ⟨clX rfl, ⟨clX rfl, ⟨clF (flatNums _ _ _ _), trivial⟩⟩⟩ rfl (by first | rfl | simp [mpV, mpA, mpS, mpP, renId, shift]) rfl) ?_
  refine segEndH [4] (T1 := (mkT 8 [(4, vU (stackS X Y Z N))])) (by kernel_rfl) ?_
  refine kSeq ?_
  refine cRet ?_
  -- end
  exact endQ (Or.inr rfl) (l := [vU (stackS X Y Z N)]) [rB [vN X, vN Y, vN Z] 75, rB [vS 0 N.length] 22] (by kernel_rfl) (by first | rfl | kernel_rfl) rfl rfl hcl rfl

set_option maxRecDepth 100000 in
set_option maxHeartbeats 4000000 in
theorem l2StackB (X : Nat) (Y : Nat) (Z : Nat) (N : List Int) (hs : Sides X Y Z) (hnl : N.length = X * Y) : Sound Try.prog 77 [vN X, vN Y, vN Z, vS 0 N.length] [some ⟨nums N, 3, false, false⟩] (.agg #[vN X, vN Y, vN Z, vS 1 ((listOf X Y Z (stackS X Y Z N)).length)]) [some ⟨nums N, 3, false, false⟩, some ⟨a3s (listOf X Y Z (stackS X Y Z N)), 74, false, true⟩] := by
  refine sound_intro (C := cx) Try.func77 rfl (by kernel_rfl) fun hcl => ?_
  have hz := hs.size
  have hx0 := hs.x0
  have hx4 := hs.x4
  have hy0 := hs.y0
  have hy4 := hs.y4
  have hz0 := hs.z0
  have hz4 := hs.z4
  have hall := allOf_length X Y Z
  have hxy : X * Y ≤ 4 * 4 := Nat.mul_le_mul (by omega) (by omega)
  refine cSeq ?_
  refine cReg ?_
  refine segEnd [0, 1, 2, 3, 8] (T1 := (mkT 56 [(0, vN X), (1, vN Y), (2, vN Z), (3, vS 0 N.length), (8, vP 1 0)])) (H1 := [some ⟨nums N, 3, false, false⟩, rB [vI 0, vI 0, vI 0, .slice none 0 0] 40]) (by kernel_rfl) ?_
  refine kSeq ?_
  refine cSeq ?_
  refine cReg ?_
  refine segH 3 (T1 := (mkT 56 [(0, vN X), (1, vN Y), (2, vN Z), (3, vS 0 N.length), (8, vP 1 0), (12, vN X), (13, vN Y), (14, vN Z)])) (by kernel_rfl) ?_
  refine rCall (v := .agg #[vN X, vN Y, vN Z, vS 2 0]) (args := [vN X, vN Y, vN Z]) (by kernel_rfl) rfl (by kernel_rfl) (Sound.lay (E := [some ⟨[], 74, false, true⟩]) [] (l2EmptyB ((X : Nat) : Int) ((Y : Nat) : Int) ((Z : Nat) : Int)) trivial rfl trivial rfl (by first | rfl | simp [mpV, mpA, mpS, mpP, renId, shift]) (by first | rfl | simp [mpV, mpA, mpS, mpP, renId, shift]) ⟨enX rfl (Or.inl rfl), trivial⟩) ?_
  refine segEnd [1, 3, 8, 9] (T1 := (mkT 56 [(1, vN Y), (3, vS 0 N.length), (8, vP 1 0), (9, vP 3 0)])) (H1 := [some ⟨nums N, 3, false, false⟩, rB [vI 0, vI 0, vI 0, .slice none 0 0] 40, some ⟨[], 74, false, true⟩, rB [vN X, vN Y, vN Z, vS 2 0] 40]) (by kernel_rfl) ?_
  refine kSeq ?_
  refine cSeq ?_
  refine cReg ?_
  refine segH 1 (T1 := (mkT 56 [(1, vN Y), (3, vS 0 N.length), (8, vP 1 0), (9, vP 3 0), (16, .agg #[vN X, vN Y, vN Z, vS 2 0])])) (by kernel_rfl) ?_
  refine rCall (v := vS 4 ((allOf X Y Z).length)) (H' := [some ⟨nums N, 3, false, false⟩, rB [vI 0, vI 0, vI 0, .slice none 0 0] 40, some ⟨[], 74, false, true⟩, rB [vN X, vN Y, vN Z, vS 2 0] 40, some ⟨a3s (allOf X Y Z), 74, false, true⟩]) (args := [.agg #[vN X, vN Y, vN Z, vS 2 0]]) (by kernel_rfl) rfl (by kernel_rfl) (Sound.reads1F 2 true (l2All_ok X Y Z (by omega) (by omega) (by omega) (by omega) (by omega) (by omega)) (flatRow_of rfl) (flatA3 _ _ _ _) rfl rfl rfl rfl (by first | rfl | simp [mpV, mpA, mpS, mpP, renId, shift]) (by first | rfl | simp [mpV, mpA, mpS, mpP, renId, shift])) ?_
  refine segEnd [1, 3, 8, 9, 10] (T1 := (mkT 56 [(1, vN Y), (3, vS 0 N.length), (8, vP 1 0), (9, vP 3 0), (10, vS 4 ((allOf X Y Z).length))])) (H1 := [some ⟨nums N, 3, false, false⟩, rB [vI 0, vI 0, vI 0, .slice none 0 0] 40, some ⟨[], 74, false, true⟩, rB [vN X, vN Y, vN Z, vS 2 0] 40, some ⟨a3s (allOf X Y Z), 74, false, true⟩]) (by kernel_rfl) ?_
  refine kSeq ?_
  refine cSeq ?_
  refine cSeq ?_
  refine cReg ?_
  refine segEndH [1, 3, 8, 9, 10, 11] (T1 := (mkT 56 [(1, vN Y), (3, vS 0 N.length), (8, vP 1 0), (9, vP 3 0), (10, vS 4 ((allOf X Y Z).length)), (11, vI 0)])) (by kernel_rfl) ?_
  refine kSeq ?_
  refine cBlk ?_
  -- loop
  refine cLoop (fun mm T H => ∃ i : Nat, ∃ M : List A3, (i ≤ (allOf X Y Z).length) ∧ (M = ((allOf X Y Z).take i).filter (ltN Y N)) ∧ mm = (allOf X Y Z).length - i ∧ T = (mkT 56 [(1, vN Y), (3, vS 0 N.length), (8, vP 1 0), (9, vP 3 0), (10, vS 4 ((allOf X Y Z).length)), (11, vN i)]) ∧ H = [some ⟨nums N, 3, false, false⟩, rB [vI 0, vI 0, vI 0, .slice none 0 0] 40, some ⟨a3s M, 74, false, true⟩, rB [vN X, vN Y, vN Z, vS 2 M.length] 40, some ⟨a3s (allOf X Y Z), 74, false, true⟩]) ((allOf X Y Z).length - 0) (mkT 56 [(1, vN Y), (3, vS 0 N.length), (8, vP 1 0), (9, vP 3 0), (10, vS 4 ((allOf X Y Z).length)), (11, vI 0)]) [some ⟨nums N, 3, false, false⟩, rB [vI 0, vI 0, vI 0, .slice none 0 0] 40, some ⟨a3s ([] : List A3), 74, false, true⟩, rB [vN X, vN Y, vN Z, vS 2 (([] : List A3).length)] 40, some ⟨a3s (allOf X Y Z), 74, false, true⟩] (wkSame [1, 3, 8, 9, 10, 11] (by kernel_rfl)) ?_ ?_
  · exact ⟨0, ([] : List A3), (Nat.zero_le _), (by simp), rfl, rfl, rfl⟩
  · rintro _ _ _ ⟨i, M, hi, hM, rfl, rfl, rfl⟩
    have hml : M.length ≤ i := (by rw [hM]; exact Nat.le_trans (List.length_filter_le _ _) (by simp; omega))
    refine cSeq ?_
    refine cSeq ?_
    refine cReg ?_
    refine segEndH [1, 3, 8, 9, 10, 11, 21] (T1 := (mkT 56 [(1, vN Y), (3, vS 0 N.length), (8, vP 1 0), (9, vP 3 0), (10, vS 4 ((allOf X Y Z).length)), (11, vN i), (21, .bool (decide (((i : Nat) : Int) < (((allOf X Y Z).length : Nat) : Int))))])) (by kernel_rfl) ?_
    refine kSeq ?_
    cases h1 : (decide (((i : Nat) : Int) < (((allOf X Y Z).length : Nat) : Int)) : Bool)
    ·
      have h1k := h1
      (try simp only [Bool.not_eq_true', Bool.not_eq_false', decide_eq_true_eq, decide_eq_false_iff_not, beq_iff_eq, bne_iff_ne, beq_eq_false_iff_ne, bne_eq_false_iff_eq, ne_eq, Decidable.not_not, Bool.and_eq_true, Bool.and_eq_false_imp, Bool.or_eq_true, Bool.or_eq_false_iff, Bool.not_eq_true, Int.not_lt, Int.not_le, ge_iff_le, gt_iff_lt] at h1)
      refine cFalse (by kernel_rfl) ?_
      refine cExit ?_
      refine kSeqE ?_
      refine kLoopE ?_
      refine kBlkHit ?_
      refine kSeq ?_
      refine cSeq ?_
      refine cReg ?_
      refine segEnd [8] (T1 := (mkT 56 [(8, vP 1 0)])) (H1 := [some ⟨nums N, 3, false, false⟩, rB [vN X, vN Y, vN Z, vS 2 M.length] 40, some ⟨a3s M, 74, false, true⟩, rB [vN X, vN Y, vN Z, vS 2 M.length] 40, some ⟨a3s (allOf X Y Z), 74, false, true⟩]) (by kernel_rfl) ?_
      refine kSeq ?_
      refine cRet ?_
      -- end
      have he0 : (M : List A3) = (listOf X Y Z (stackS X Y Z N)) := by (rw [hM, take_end (by omega)]; exact stack_end)
      refine endCast (v1 := .agg #[vN X, vN Y, vN Z, vS 1 M.length]) (H1 := [some ⟨nums N, 3, false, false⟩, some ⟨a3s M, 74, false, true⟩]) (by first | rfl | ((try rw [← he0]); done) | (simp only [← he0]; done)) (by first | rfl | ((try rw [← he0]); done) | (simp only [← he0]; done)) ?_
      exact endF (Or.inr rfl) (l := [.agg #[vN X, vN Y, vN Z, vS 2 M.length]]) [0, 2] (by kernel_rfl) (by first | rfl | simp [packR, mpV, mpA, mpS, mpP, renId]) ⟨rrF (flatNums _ _ _ _) rfl, ⟨rrF (flatA3 _ _ _ _) rfl, trivial⟩⟩ rfl rfl
    ·
      have h1k := h1
      (try simp only [Bool.not_eq_true', Bool.not_eq_false', decide_eq_true_eq, decide_eq_false_iff_not, beq_iff_eq, bne_iff_ne, beq_eq_false_iff_ne, bne_eq_false_iff_eq, ne_eq, Decidable.not_not, Bool.and_eq_true, Bool.and_eq_false_imp, Bool.or_eq_true, Bool.or_eq_false_iff, Bool.not_eq_true, Int.not_lt, Int.not_le, ge_iff_le, gt_iff_lt] at h1)
      have hhas := (HeapL.all X Y Z).has hs (i := i) (by omega)
      have hfl := flat_lt hhas
      have hh3 := has3_iff.1 hhas
      refine cTrue (by kernel_rfl) ?_
      refine cSkip ?_
      refine kSeq ?_
      refine cSeq ?_
      refine cBlk ?_
      refine cSeq ?_
      refine cRegW (N := 5) [⟨[], [], []⟩, ⟨[], [], []⟩, ⟨[], [], []⟩, ⟨[], [], []⟩, ⟨[], [], [4]⟩, ⟨[], [], []⟩, ⟨[], [], []⟩, ⟨[], [], []⟩, ⟨[], [], []⟩, ⟨[], [], []⟩, ⟨[], [], [4]⟩, ⟨[], [], []⟩, ⟨[], [], []⟩, ⟨[], [], []⟩, ⟨[], [], []⟩, ⟨[], [], []⟩, ⟨[], [], []⟩, ⟨[], [], [4]⟩, ⟨[], [], []⟩, ⟨[], [], []⟩, ⟨[], [], [0]⟩, ⟨[], [], []⟩] 0 [] (by rfl) (by rfl) (by kernel_rfl) (by kernel_rfl) (by kernel_rfl) ⟨nmsF (flatNums _ _ _ _), ⟨nmsX (by kernel_rfl), ⟨nmsF (flatA3 _ _ _ _), ⟨nmsX (by kernel_rfl), ⟨nmsF (flatA3 _ _ _ _), trivial⟩⟩⟩⟩⟩ ?_
      refine segWH 2 (T1 := (mkT 56 [(1, vN Y), (3, vS 0 N.length), (8, vP 1 0), (9, vP 3 0), (10, vS 4 ((allOf X Y Z).length)), (11, vN i), (21, .bool true), (24, vS 4 ((allOf X Y Z).length)), (25, vN i)])) (by kernel_rfl) ?_
      refine rW (m := ⟨[], [], []⟩) (v := vP 4 (i * 3)) rfl (by kernel_rfl) (stId (eIdxS (ad := ⟨4, 0, none⟩) (n := ((allOf X Y Z).length)) (m := 0) (k := .i64) (c := ((i : Nat) : Int)) (j := i) (o := i * 3) (by kernel_rfl) (by kernel_rfl) ti31 ti74 (rfl) (by omega) (by exact Nat.zero_add _)) rfl (by kernel_rfl) (by kernel_rfl) (by kernel_rfl)) (by kernel_rfl) nr0 ?_
      refine segWH 1 (T1 := (mkT 56 [(1, vN Y), (3, vS 0 N.length), (8, vP 1 0), (9, vP 3 0), (10, vS 4 ((allOf X Y Z).length)), (11, vN i), (21, .bool true), (24, vS 4 ((allOf X Y Z).length)), (25, vN i), (26, vP 4 (i * 3)), (27, vP 4 (i * 3 + 2))])) (by kernel_rfl) ?_
      refine rW (m := ⟨[], [], [4]⟩) (v := vI (((allOf X Y Z).getD i default).z)) rfl (by kernel_rfl) (stId (eLdA3i (ad := ⟨4, i * 3 + 2, none⟩) (r := ⟨a3s (allOf X Y Z), 74, false, true⟩) (L := (allOf X Y Z)) (j := i) (i := 2) (by kernel_rfl) (by kernel_rfl) rfl (by first | rfl | omega) (by omega) ti3 rfl rfl) rfl (by kernel_rfl) (by kernel_rfl) (by kernel_rfl)) (by kernel_rfl) nr0 ?_
      refine segWH 3 (T1 := (mkT 56 [(1, vN Y), (3, vS 0 N.length), (8, vP 1 0), (9, vP 3 0), (10, vS 4 ((allOf X Y Z).length)), (11, vN i), (21, .bool true), (24, vS 4 ((allOf X Y Z).length)), (25, vN i), (26, vP 4 (i * 3)), (27, vP 4 (i * 3 + 2)), (28, vI (((allOf X Y Z).getD i default).z)), (29, vS 0 N.length), (30, vS 4 ((allOf X Y Z).length)), (31, vN i)])) (by kernel_rfl) ?_
      refine rW (m := ⟨[], [], []⟩) (v := vP 4 (i * 3)) rfl (by kernel_rfl) (stId (eIdxS (ad := ⟨4, 0, none⟩) (n := ((allOf X Y Z).length)) (m := 0) (k := .i64) (c := ((i : Nat) : Int)) (j := i) (o := i * 3) (by kernel_rfl) (by kernel_rfl) ti31 ti74 (rfl) (by omega) (by exact Nat.zero_add _)) rfl (by kernel_rfl) (by kernel_rfl) (by kernel_rfl)) (by kernel_rfl) nr0 ?_
      refine segWH 1 (T1 := (mkT 56 [(1, vN Y), (3, vS 0 N.length), (8, vP 1 0), (9, vP 3 0), (10, vS 4 ((allOf X Y Z).length)), (11, vN i), (21, .bool true), (24, vS 4 ((allOf X Y Z).length)), (25, vN i), (26, vP 4 (i * 3)), (27, vP 4 (i * 3 + 2)), (28, vI (((allOf X Y Z).getD i default).z)), (29, vS 0 N.length), (30, vS 4 ((allOf X Y Z).length)), (31, vN i), (32, vP 4 (i * 3)), (33, vP 4 (i * 3 + 0))])) (by kernel_rfl) ?_
      refine rW (m := ⟨[], [], [4]⟩) (v := vI (((allOf X Y Z).getD i default).x)) rfl (by kernel_rfl) (stId (eLdA3i (ad := ⟨4, i * 3 + 0, none⟩) (r := ⟨a3s (allOf X Y Z), 74, false, true⟩) (L := (allOf X Y Z)) (j := i) (i := 0) (by kernel_rfl) (by kernel_rfl) rfl (by first | rfl | omega) (by omega) ti3 rfl rfl) rfl (by kernel_rfl) (by kernel_rfl) (by kernel_rfl)) (by kernel_rfl) nr0 ?_
      refine segWH 1 (T1 := (mkT 56 [(1, vN Y), (3, vS 0 N.length), (8, vP 1 0), (9, vP 3 0), (10, vS 4 ((allOf X Y Z).length)), (11, vN i), (21, .bool true), (24, vS 4 ((allOf X Y Z).length)), (25, vN i), (26, vP 4 (i * 3)), (27, vP 4 (i * 3 + 2)), (28, vI (((allOf X Y Z).getD i default).z)), (29, vS 0 N.length), (30, vS 4 ((allOf X Y Z).length)), (31, vN i), (32, vP 4 (i * 3)), (33, vP 4 (i * 3 + 0)), (34, vI (((allOf X Y Z).getD i default).x)), (35, vN Y)])) (by kernel_rfl) ?_
      refine rW (m := ⟨[], [], []⟩) (v := vI ((((allOf X Y Z).getD i default).x) * ((Y : Nat) : Int))) rfl (by kernel_rfl) (stId (eMul (k := .i64) (a := (((allOf X Y Z).getD i default).x)) (b := ((Y : Nat) : Int)) (c := ((((allOf X Y Z).getD i default).x) * ((Y : Nat) : Int))) (by kernel_rfl) (by kernel_rfl) (wr64 (by omega) (by omega) (by omega))) rfl (by kernel_rfl) (by kernel_rfl) (by kernel_rfl)) (by kernel_rfl) nr0 ?_
      refine segWH 2 (T1 := (mkT 56 [(1, vN Y), (3, vS 0 N.length), (8, vP 1 0), (9, vP 3 0), (10, vS 4 ((allOf X Y Z).length)), (11, vN i), (21, .bool true), (24, vS 4 ((allOf X Y Z).length)), (25, vN i), (26, vP 4 (i * 3)), (27, vP 4 (i * 3 + 2)), (28, vI (((allOf X Y Z).getD i default).z)), (29, vS 0 N.length), (30, vS 4 ((allOf X Y Z).length)), (31, vN i), (32, vP 4 (i * 3)), (33, vP 4 (i * 3 + 0)), (34, vI (((allOf X Y Z).getD i default).x)), (35, vN Y), (36, vI ((((allOf X Y Z).getD i default).x) * ((Y : Nat) : Int))), (37, vS 4 ((allOf X Y Z).length)), (38, vN i)])) (by kernel_rfl) ?_
      refine rW (m := ⟨[], [], []⟩) (v := vP 4 (i * 3)) rfl (by kernel_rfl) (stId (eIdxS (ad := ⟨4, 0, none⟩) (n := ((allOf X Y Z).length)) (m := 0) (k := .i64) (c := ((i : Nat) : Int)) (j := i) (o := i * 3) (by kernel_rfl) (by kernel_rfl) ti31 ti74 (rfl) (by omega) (by exact Nat.zero_add _)) rfl (by kernel_rfl) (by kernel_rfl) (by kernel_rfl)) (by kernel_rfl) nr0 ?_
      refine segWH 1 (T1 := (mkT 56 [(1, vN Y), (3, vS 0 N.length), (8, vP 1 0), (9, vP 3 0), (10, vS 4 ((allOf X Y Z).length)), (11, vN i), (21, .bool true), (24, vS 4 ((allOf X Y Z).length)), (25, vN i), (26, vP 4 (i * 3)), (27, vP 4 (i * 3 + 2)), (28, vI (((allOf X Y Z).getD i default).z)), (29, vS 0 N.length), (30, vS 4 ((allOf X Y Z).length)), (31, vN i), (32, vP 4 (i * 3)), (33, vP 4 (i * 3 + 0)), (34, vI (((allOf X Y Z).getD i default).x)), (35, vN Y), (36, vI ((((allOf X Y Z).getD i default).x) * ((Y : Nat) : Int))), (37, vS 4 ((allOf X Y Z).length)), (38, vN i), (39, vP 4 (i * 3)), (40, vP 4 (i * 3 + 1))])) (by kernel_rfl) ?_
      refine rW (m := ⟨[], [], [4]⟩) (v := vI (((allOf X Y Z).getD i default).y)) rfl (by kernel_rfl) (stId (eLdA3i (ad := ⟨4, i * 3 + 1, none⟩) (r := ⟨a3s (allOf X Y Z), 74, false, true⟩) (L := (allOf X Y Z)) (j := i) (i := 1) (by kernel_rfl) (by kernel_rfl) rfl (by first | rfl | omega) (by omega) ti3 rfl rfl) rfl (by kernel_rfl) (by kernel_rfl) (by kernel_rfl)) (by kernel_rfl) nr0 ?_
      refine rW (m := ⟨[], [], []⟩) (v := vI ((((allOf X Y Z).getD i default).x) * ((Y : Nat) : Int) + (((allOf X Y Z).getD i default).y))) rfl (by kernel_rfl) (stId (eAdd (k := .i64) (a := ((((allOf X Y Z).getD i default).x) * ((Y : Nat) : Int))) (b := (((allOf X Y Z).getD i default).y)) (c := ((((allOf X Y Z).getD i default).x) * ((Y : Nat) : Int) + (((allOf X Y Z).getD i default).y))) (by kernel_rfl) (by kernel_rfl) (wr64 (by omega) (by omega) (by omega))) rfl (by kernel_rfl) (by kernel_rfl) (by kernel_rfl)) (by kernel_rfl) nr0 ?_
      refine rW (m := ⟨[], [], []⟩) (v := vP 0 (((((allOf X Y Z).getD i default).x) * ((Y : Nat) : Int) + (((allOf X Y Z).getD i default).y)).toNat)) rfl (by kernel_rfl) (stId (eIdxS (ad := ⟨0, 0, none⟩) (n := N.length) (m := 0) (k := .i64) (c := ((((allOf X Y Z).getD i default).x) * ((Y : Nat) : Int) + (((allOf X Y Z).getD i default).y))) (j := (((((allOf X Y Z).getD i default).x) * ((Y : Nat) : Int) + (((allOf X Y Z).getD i default).y)).toNat)) (o := ((((allOf X Y Z).getD i default).x) * ((Y : Nat) : Int) + (((allOf X Y Z).getD i default).y)).toNat) (by kernel_rfl) (by kernel_rfl) ti22 ti3 (by omega) (by omega) (by simp)) rfl (by kernel_rfl) (by kernel_rfl) (by kernel_rfl)) (by kernel_rfl) nr0 ?_
      refine rW (m := ⟨[], [], [0]⟩) (v := vI (N.getD (((((allOf X Y Z).getD i default).x) * ((Y : Nat) : Int) + (((allOf X Y Z).getD i default).y)).toNat) 0)) rfl (by kernel_rfl) (stId (eLdNum (ad := ⟨0, ((((allOf X Y Z).getD i default).x) * ((Y : Nat) : Int) + (((allOf X Y Z).getD i default).y)).toNat, none⟩) (r := ⟨nums N, 3, false, false⟩) (L := N) (j := (((((allOf X Y Z).getD i default).x) * ((Y : Nat) : Int) + (((allOf X Y Z).getD i default).y)).toNat)) (by kernel_rfl) (by kernel_rfl) rfl (by first | rfl | omega) (by omega) ti3 rfl) rfl (by kernel_rfl) (by kernel_rfl) (by kernel_rfl)) (by kernel_rfl) nr0 ?_
      refine segEndWH [1, 3, 8, 9, 10, 11, 45] (T1 := (mkT 56 [(1, vN Y), (3, vS 0 N.length), (8, vP 1 0), (9, vP 3 0), (10, vS 4 ((allOf X Y Z).length)), (11, vN i), (45, .bool (decide (((allOf X Y Z).getD i default).z < (N.getD (((((allOf X Y Z).getD i default).x) * ((Y : Nat) : Int) + (((allOf X Y Z).getD i default).y)).toNat) 0))))])) (by kernel_rfl) ?_
      refine kSeq ?_
      cases h2 : (decide (((allOf X Y Z).getD i default).z < (N.getD (((((allOf X Y Z).getD i default).x) * ((Y : Nat) : Int) + (((allOf X Y Z).getD i default).y)).toNat) 0)) : Bool)
      ·
        have h2k := h2
        (try simp only [Bool.not_eq_true', Bool.not_eq_false', decide_eq_true_eq, decide_eq_false_iff_not, beq_iff_eq, bne_iff_ne, beq_eq_false_iff_ne, bne_eq_false_iff_eq, ne_eq, Decidable.not_not, Bool.and_eq_true, Bool.and_eq_false_imp, Bool.or_eq_true, Bool.or_eq_false_iff, Bool.not_eq_true, Int.not_lt, Int.not_le, ge_iff_le, gt_iff_lt] at h2)
        refine cFalse (by kernel_rfl) ?_
        refine cSkip ?_
        refine kBlk ?_
        refine kSeq ?_
        refine cReg ?_
        refine segH 1 (T1 := (mkT 56 [(1, vN Y), (3, vS 0 N.length), (8, vP 1 0), (9, vP 3 0), (10, vS 4 ((allOf X Y Z).length)), (11, vN i), (22, vN i), (45, .bool false)])) (by kernel_rfl) ?_
        refine rOp (v := vN (i + 1)) (by kernel_rfl) (eAdd (k := .i64) (a := ((i : Nat) : Int)) (b := 1) (c := ((i + 1 : Nat) : Int)) (by kernel_rfl) (by kernel_rfl) (wr64 (by omega) (by omega) (by omega))) ?_
        refine segEndH [1, 3, 8, 9, 10, 11] (T1 := (mkT 56 [(1, vN Y), (3, vS 0 N.length), (8, vP 1 0), (9, vP 3 0), (10, vS 4 ((allOf X Y Z).length)), (11, vN (i + 1))])) (by kernel_rfl) ?_
        exact kLoop ((allOf X Y Z).length - (i + 1)) (mkT 56 [(1, vN Y), (3, vS 0 N.length), (8, vP 1 0), (9, vP 3 0), (10, vS 4 ((allOf X Y Z).length)), (11, vN (i + 1))]) [some ⟨nums N, 3, false, false⟩, rB [vI 0, vI 0, vI 0, .slice none 0 0] 40, some ⟨a3s M, 74, false, true⟩, rB [vN X, vN Y, vN Z, vS 2 M.length] 40, some ⟨a3s (allOf X Y Z), 74, false, true⟩] (by omega) (wkSame [1, 3, 8, 9, 10, 11] (by kernel_rfl)) ⟨(i + 1), M, (by omega), (by first | (rw [hM]; exact take_filter_yes (by omega) (ltN_t (by assumption))) | (rw [hM]; exact take_filter_no (by omega) (ltN_f (by assumption)))), rfl, rfl, rfl⟩
      ·
        have h2k := h2
        (try simp only [Bool.not_eq_true', Bool.not_eq_false', decide_eq_true_eq, decide_eq_false_iff_not, beq_iff_eq, bne_iff_ne, beq_eq_false_iff_ne, bne_eq_false_iff_eq, ne_eq, Decidable.not_not, Bool.and_eq_true, Bool.and_eq_false_imp, Bool.or_eq_true, Bool.or_eq_false_iff, Bool.not_eq_true, Int.not_lt, Int.not_le, ge_iff_le, gt_iff_lt] at h2)
        refine cTrue (by kernel_rfl) ?_
        refine cRegW (N := 7) [⟨[], [], []⟩, ⟨[], [], [3]⟩, ⟨[], [], []⟩, ⟨[], [], []⟩, ⟨[], [], []⟩, ⟨[], [], [4]⟩, ⟨[5], [], []⟩, ⟨[6], [2], [5]⟩, ⟨[], [], []⟩, ⟨[], [3], []⟩] 2 [5, 6] (by rfl) (by rfl) (by kernel_rfl) (by kernel_rfl) (by kernel_rfl) ⟨nmsF (flatNums _ _ _ _), ⟨nmsX (by kernel_rfl), ⟨nmsF (flatA3 _ _ _ _), ⟨nmsX (by kernel_rfl), ⟨nmsF (flatA3 _ _ _ _), trivial⟩⟩⟩⟩⟩ ?_
        refine segWH 4 (T1 := (mkT 56 [(1, vN Y), (3, vS 0 N.length), (8, vP 1 0), (9, vP 3 0), (10, vS 4 ((allOf X Y Z).length)), (11, vN i), (45, .bool true), (46, vP 3 3), (47, vS 2 M.length), (48, vS 4 ((allOf X Y Z).length)), (49, vN i)])) (by kernel_rfl) ?_
        refine rW (m := ⟨[], [], []⟩) (v := vP 4 (i * 3)) rfl (by kernel_rfl) (stId (eIdxS (ad := ⟨4, 0, none⟩) (n := ((allOf X Y Z).length)) (m := 0) (k := .i64) (c := ((i : Nat) : Int)) (j := i) (o := i * 3) (by kernel_rfl) (by kernel_rfl) ti31 ti74 (rfl) (by omega) (by exact Nat.zero_add _)) rfl (by kernel_rfl) (by kernel_rfl) (by kernel_rfl)) (by kernel_rfl) nr0 ?_
        refine rW (m := ⟨[], [], [4]⟩) (v := .agg #[vI (((allOf X Y Z).getD i default).x), vI (((allOf X Y Z).getD i default).y), vI (((allOf X Y Z).getD i default).z)]) rfl (by kernel_rfl) (stId (eLdA3 (ad := ⟨4, i * 3, none⟩) (r := ⟨a3s (allOf X Y Z), 74, false, true⟩) (L := (allOf X Y Z)) (j := i) (by kernel_rfl) (by kernel_rfl) rfl (by first | rfl | omega) (by omega) ti74) rfl (by kernel_rfl) (by kernel_rfl) (by kernel_rfl)) (by kernel_rfl) nr0 ?_
        refine rW (m := ⟨[5], [], []⟩) (v := vS 5 1) rfl (by kernel_rfl) (stNew (i := 5) (v1 := vS 7 1) (r := ⟨[vI (((allOf X Y Z).getD i default).x), vI (((allOf X Y Z).getD i default).y), vI (((allOf X Y Z).getD i default).z)], 74, false, true⟩) (by kernel_rfl) rfl (by kernel_rfl) (by kernel_rfl) (by kernel_rfl) (by kernel_rfl) (nmX (by kernel_rfl)) (clX (by kernel_rfl))) (by kernel_rfl) (NRs.all ⟨nrOf (by rfl) (nmX (by kernel_rfl)), trivial⟩) ?_
        refine rW (m := ⟨[6], [2], [5]⟩) (v := vS 6 ((M ++ [((allOf X Y Z).getD i default)]).length)) rfl (by kernel_rfl) (stApp (i := 6) (b := 2) (v1 := vS 7 ((M ++ [((allOf X Y Z).getD i default)]).length)) (r := ⟨a3s (M ++ [((allOf X Y Z).getD i default)]), 74, false, true⟩) (eAppA3 (b := 2) (a := 5) (L := M) (c := ((allOf X Y Z).getD i default)) (r := ⟨[vI (((allOf X Y Z).getD i default).x), vI (((allOf X Y Z).getD i default).y), vI (((allOf X Y Z).getD i default).z)], 74, false, true⟩) (m := 0) (by kernel_rfl) (by kernel_rfl) ti31 ti74 rfl rfl (by decide) (by kernel_rfl) (by kernel_rfl) rfl (by first | omega | (simp <;> omega)) rfl) rfl (by kernel_rfl) (by kernel_rfl) (by kernel_rfl) (by kernel_rfl) (nmF (flatA3 _ _ _ _)) (clF (flatA3 _ _ _ _))) (by kernel_rfl) (NRs.all ⟨nrOf (by rfl) (nmF (flatA3 _ _ _ _)), ⟨nrNone (by rfl), trivial⟩⟩) ?_
        refine segWH 1 (T1 := (mkT 56 [(1, vN Y), (3, vS 0 N.length), (8, vP 1 0), (9, vP 3 0), (10, vS 4 ((allOf X Y Z).length)), (11, vN i), (45, .bool true), (46, vP 3 3), (47, vS 2 M.length), (48, vS 4 ((allOf X Y Z).length)), (49, vN i), (50, vP 4 (i * 3)), (51, .agg #[vI (((allOf X Y Z).getD i default).x), vI (((allOf X Y Z).getD i default).y), vI (((allOf X Y Z).getD i default).z)]), (52, vS 5 1), (53, vS 6 ((M ++ [((allOf X Y Z).getD i default)]).length)), (54, vP 3 3)])) (by kernel_rfl) ?_
        refine rW (m := ⟨[], [3], []⟩) (v := .tuple #[]) rfl (by kernel_rfl) (stSet (b := 3) (r := ⟨[vN X, vN Y, vN Z, vS 6 ((M ++ [((allOf X Y Z).getD i default)]).length)], 40, true, true⟩) (by kernel_rfl) rfl (by kernel_rfl) (by kernel_rfl) (by kernel_rfl) (by kernel_rfl) (nmX (by kernel_rfl)) (clX (by kernel_rfl))) (by kernel_rfl) (NRs.all ⟨nrOf (by rfl) (nmX (by kernel_rfl)), trivial⟩) ?_
        refine segEndW [1, 3, 8, 9, 10, 11] (T1 := (mkT 56 [(1, vN Y), (3, vS 0 N.length), (8, vP 1 0), (9, vP 3 0), (10, vS 4 ((allOf X Y Z).length)), (11, vN i)])) (H1 := [some ⟨nums N, 3, false, false⟩, rB [vI 0, vI 0, vI 0, .slice none 0 0] 40, none, rB [vN X, vN Y, vN Z, vS 6 ((M ++ [((allOf X Y Z).getD i default)]).length)] 40, some ⟨a3s (allOf X Y Z), 74, false, true⟩, some ⟨[vI (((allOf X Y Z).getD i default).x), vI (((allOf X Y Z).getD i default).y), vI (((allOf X Y Z).getD i default).z)], 74, false, true⟩, some ⟨a3s (M ++ [((allOf X Y Z).getD i default)]), 74, false, true⟩]) (by kernel_rfl) ?_
        refine kBlk ?_
        refine kSeq ?_
        refine cReg ?_
        refine segH 1 (T1 := (mkT 56 [(1, vN Y), (3, vS 0 N.length), (8, vP 1 0), (9, vP 3 0), (10, vS 4 ((allOf X Y Z).length)), (11, vN i), (22, vN i)])) (by kernel_rfl) ?_
        refine rOp (v := vN (i + 1)) (by kernel_rfl) (eAdd (k := .i64) (a := ((i : Nat) : Int)) (b := 1) (c := ((i + 1 : Nat) : Int)) (by kernel_rfl) (by kernel_rfl) (wr64 (by omega) (by omega) (by omega))) ?_
        refine segEndH [1, 3, 8, 9, 10, 11] (T1 := (mkT 56 [(1, vN Y), (3, vS 0 N.length), (8, vP 1 0), (9, vP 3 0), (10, vS 4 ((allOf X Y Z).length)), (11, vN (i + 1))])) (by kernel_rfl) ?_
        exact kLoop ((allOf X Y Z).length - (i + 1)) (mkT 56 [(1, vN Y), (3, vS 0 N.length), (8, vP 1 0), (9, vP 3 0), (10, vS 4 ((allOf X Y Z).length)), (11, vN (i + 1))]) [some ⟨nums N, 3, false, false⟩, rB [vI 0, vI 0, vI 0, .slice none 0 0] 40, some ⟨a3s (M ++ [((allOf X Y Z).getD i default)]), 74, false, true⟩, rB [vN X, vN Y, vN Z, vS 2 ((M ++ [((allOf X Y Z).getD i default)]).length)] 40, some ⟨a3s (allOf X Y Z), 74, false, true⟩] (by omega) (wkRen [0, 1, 6, 3, 4] [1, 3, 8, 9, 10, 11] ⟨rrF (flatNums _ _ _ _) rfl, ⟨rrX rfl rfl, ⟨rrF (flatA3 _ _ _ _) rfl, ⟨rrX rfl rfl, ⟨rrF (flatA3 _ _ _ _) rfl, trivial⟩⟩⟩⟩⟩ rfl (by kernel_rfl) rfl) ⟨(i + 1), (M ++ [((allOf X Y Z).getD i default)]), (by omega), (by first | (rw [hM]; exact take_filter_yes (by omega) (ltN_t (by assumption))) | (rw [hM]; exact take_filter_no (by omega) (ltN_f (by assumption)))), rfl, rfl, rfl⟩

set_option maxRecDepth 100000 in
set_option maxHeartbeats 4000000 in
theorem specStackHeap_no (x : Int) (y : Int) (z : Int) (N : List Int) (hl : N.length ≤ 1048576) (hv2 : valid3 x y z = false) : Sound Try.prog 29 [vI x, vI y, vI z, vS 0 N.length] [some ⟨nums N, 3, false, false⟩] (.tuple #[.agg #[vI 0, vI 0, vI 0, .slice none 0 0], .bool false]) [some ⟨nums N, 3, false, false⟩] := by
  refine sound_intro (C := cx) Try.func29 rfl (by kernel_rfl) fun hcl => ?_
  refine cSeq ?_
  refine cReg ?_
  refine segEnd [0, 1, 2, 3, 8] (T1 := (mkT 44 [(0, vI x), (1, vI y), (2, vI z), (3, vS 0 N.length), (8, vP 1 0)])) (H1 := [some ⟨nums N, 3, false, false⟩, rB [vI 0, vI 0, vI 0, .slice none 0 0] 40]) (by kernel_rfl) ?_
  refine kSeq ?_
  refine cSeq ?_
  refine cSeq ?_
  refine cReg ?_
  refine segH 3 (T1 := (mkT 44 [(0, vI x), (1, vI y), (2, vI z), (3, vS 0 N.length), (8, vP 1 0), (11, vI x), (12, vI y), (13, vI z)])) (by kernel_rfl) ?_
  refine rCall (v := .bool false) (args := [vI x, vI y, vI z]) (by kernel_rfl) rfl (by kernel_rfl) (Sound.lay0 [] (sides_no x y z (by first | assumption | omega | rfl | decide | exact HeapL.list _ _ _ _ | exact HeapL.nil _ _ _ | exact HeapL.all _ _ _ | (apply HeapL.lt64 <;> assumption) | (repeat' (first | assumption | apply or_lt64 | apply and_lt64 | apply andn_lt64 | apply pow_lt64 | (apply HeapL.lt64 <;> assumption))))) trivial rfl trivial rfl (by first | rfl | simp [mpV, mpA, mpS, mpP, renId, shift]) rfl) ?_
  refine segEndH [0, 1, 2, 3, 8, 23] (T1 := (mkT 44 [(0, vI x), (1, vI y), (2, vI z), (3, vS 0 N.length), (8, vP 1 0), (23, .bool true)])) (by kernel_rfl) ?_
  refine kSeq ?_
  refine cTrue (by kernel_rfl) ?_
  refine cSeq ?_
  refine cReg ?_
  refine segEnd [8, 9] (T1 := (mkT 44 [(8, vP 1 0), (9, .bool false)])) (H1 := [some ⟨nums N, 3, false, false⟩, rB [vI 0, vI 0, vI 0, .slice none 0 0] 40]) (by kernel_rfl) ?_
  refine kSeq ?_
  refine cRet ?_
  refine kSeqR ?_
  -- end
  exact endQ (Or.inr rfl) (l := [.agg #[vI 0, vI 0, vI 0, .slice none 0 0], .bool false]) [rB [vI 0, vI 0, vI 0, .slice none 0 0] 40] (by kernel_rfl) (by first | rfl | kernel_rfl) rfl rfl hcl rfl

set_option maxRecDepth 100000 in
set_option maxHeartbeats 4000000 in
theorem specStackHeap_n2 (X : Nat) (Y : Nat) (Z : Nat) (N : List Int) (hs : Sides X Y Z) (hl : N.length ≤ 1048576) (hnl : N.length ≠ X * Y) : Sound Try.prog 29 [vN X, vN Y, vN Z, vS 0 N.length] [some ⟨nums N, 3, false, false⟩] (.tuple #[.agg #[vI 0, vI 0, vI 0, .slice none 0 0], .bool false]) [some ⟨nums N, 3, false, false⟩] := by
  refine sound_intro (C := cx) Try.func29 rfl (by kernel_rfl) fun hcl => ?_
  have hz := hs.size
  have hx0 := hs.x0
  have hx4 := hs.x4
  have hy0 := hs.y0
  have hy4 := hs.y4
  have hz0 := hs.z0
  have hz4 := hs.z4
  have hxy : X * Y ≤ 4 * 4 := Nat.mul_le_mul (by omega) (by omega)
  refine cSeq ?_
  refine cReg ?_
  refine segEnd [0, 1, 2, 3, 8] (T1 := (mkT 44 [(0, vN X), (1, vN Y), (2, vN Z), (3, vS 0 N.length), (8, vP 1 0)])) (H1 := [some ⟨nums N, 3, false, false⟩, rB [vI 0, vI 0, vI 0, .slice none 0 0] 40]) (by kernel_rfl) ?_
  refine kSeq ?_
  refine cSeq ?_
  refine cSeq ?_
  refine cReg ?_
  refine segH 3 (T1 := (mkT 44 [(0, vN X), (1, vN Y), (2, vN Z), (3, vS 0 N.length), (8, vP 1 0), (11, vN X), (12, vN Y), (13, vN Z)])) (by kernel_rfl) ?_
  refine rCall (v := .bool true) (args := [vN X, vN Y, vN Z]) (by kernel_rfl) rfl (by kernel_rfl) (Sound.lay0 [] (sidesB X Y Z (by first | assumption | omega | rfl | decide | exact HeapL.list _ _ _ _ | exact HeapL.nil _ _ _ | exact HeapL.all _ _ _ | (apply HeapL.lt64 <;> assumption) | (repeat' (first | assumption | apply or_lt64 | apply and_lt64 | apply andn_lt64 | apply pow_lt64 | (apply HeapL.lt64 <;> assumption))))) trivial rfl trivial rfl (by first | rfl | simp [mpV, mpA, mpS, mpP, renId, shift]) rfl) ?_
  refine segH 6 (T1 := (mkT 44 [(0, vN X), (1, vN Y), (2, vN Z), (3, vS 0 N.length), (8, vP 1 0), (11, vN X), (12, vN Y), (13, vN Z), (14, .bool true), (15, .bool false), (16, .bool false), (17, vS 0 N.length), (18, vN N.length), (19, vN X), (20, vN Y)])) (by kernel_rfl) ?_
  refine rOp (v := vN (X * Y)) (by kernel_rfl) (eMul (k := .i64) (a := ((X : Nat) : Int)) (b := ((Y : Nat) : Int)) (c := ((X * Y : Nat) : Int)) (by kernel_rfl) (by kernel_rfl) (nMul (by omega))) ?_
  refine segEndH [0, 1, 2, 3, 8, 23] (T1 := (mkT 44 [(0, vN X), (1, vN Y), (2, vN Z), (3, vS 0 N.length), (8, vP 1 0), (23, .bool (((N.length : Nat) : Int) != ((X * Y : Nat) : Int)))])) (by kernel_rfl) ?_
  refine kSeq ?_
  cases h1 : ((((N.length : Nat) : Int) != ((X * Y : Nat) : Int)) : Bool)
  ·
    (try simp only [Bool.not_eq_true', Bool.not_eq_false', decide_eq_true_eq, decide_eq_false_iff_not, beq_iff_eq, bne_iff_ne, beq_eq_false_iff_ne, bne_eq_false_iff_eq, ne_eq, Decidable.not_not, Bool.and_eq_true, Bool.and_eq_false_imp, Bool.or_eq_true, Bool.or_eq_false_iff, Bool.not_eq_true, Int.not_lt, Int.not_le, ge_iff_le, gt_iff_lt] at h1)
    exfalso; (omega)
  ·
    (try simp only [Bool.not_eq_true', Bool.not_eq_false', decide_eq_true_eq, decide_eq_false_iff_not, beq_iff_eq, bne_iff_ne, beq_eq_false_iff_ne, bne_eq_false_iff_eq, ne_eq, Decidable.not_not, Bool.and_eq_true, Bool.and_eq_false_imp, Bool.or_eq_true, Bool.or_eq_false_iff, Bool.not_eq_true, Int.not_lt, Int.not_le, ge_iff_le, gt_iff_lt] at h1)
    refine cTrue (by kernel_rfl) ?_
    refine cSeq ?_
    refine cReg ?_
    refine segEnd [8, 9] (T1 := (mkT 44 [(8, vP 1 0), (9, .bool false)])) (H1 := [some ⟨nums N, 3, false, false⟩, rB [vI 0, vI 0, vI 0, .slice none 0 0] 40]) (by kernel_rfl) ?_
    refine kSeq ?_
    refine cRet ?_
    refine kSeqR ?_
    -- end
    exact endQ (Or.inr rfl) (l := [.agg #[vI 0, vI 0, vI 0, .slice none 0 0], .bool false]) [rB [vI 0, vI 0, vI 0, .slice none 0 0] 40] (by kernel_rfl) (by first | rfl | kernel_rfl) rfl rfl hcl rfl

set_option maxRecDepth 100000 in
set_option maxHeartbeats 4000000 in
theorem specStackHeap_n3 (X : Nat) (Y : Nat) (Z : Nat) (N : List Int) (hs : Sides X Y Z) (hl : N.length ≤ 1048576) (hnl : N.length = X * Y) (hq : allB N 0 (Z : Int) = false) : Sound Try.prog 29 [vN X, vN Y, vN Z, vS 0 N.length] [some ⟨nums N, 3, false, false⟩] (.tuple #[.agg #[vI 0, vI 0, vI 0, .slice none 0 0], .bool false]) [some ⟨nums N, 3, false, false⟩] := by
  refine sound_intro (C := cx) Try.func29 rfl (by kernel_rfl) fun hcl => ?_
  have hz := hs.size
  have hx0 := hs.x0
  have hx4 := hs.x4
  have hy0 := hs.y0
  have hy4 := hs.y4
  have hz0 := hs.z0
  have hz4 := hs.z4
  have hxy : X * Y ≤ 4 * 4 := Nat.mul_le_mul (by omega) (by omega)
  refine cSeq ?_
  refine cReg ?_
  refine segEnd [0, 1, 2, 3, 8] (T1 := (mkT 44 [(0, vN X), (1, vN Y), (2, vN Z), (3, vS 0 N.length), (8, vP 1 0)])) (H1 := [some ⟨nums N, 3, false, false⟩, rB [vI 0, vI 0, vI 0, .slice none 0 0] 40]) (by kernel_rfl) ?_
  refine kSeq ?_
  refine cSeq ?_
  refine cSeq ?_
  refine cReg ?_
  refine segH 3 (T1 := (mkT 44 [(0, vN X), (1, vN Y), (2, vN Z), (3, vS 0 N.length), (8, vP 1 0), (11, vN X), (12, vN Y), (13, vN Z)])) (by kernel_rfl) ?_
  refine rCall (v := .bool true) (args := [vN X, vN Y, vN Z]) (by kernel_rfl) rfl (by kernel_rfl) (Sound.lay0 [] (sidesB X Y Z (by first | assumption | omega | rfl | decide | exact HeapL.list _ _ _ _ | exact HeapL.nil _ _ _ | exact HeapL.all _ _ _ | (apply HeapL.lt64 <;> assumption) | (repeat' (first | assumption | apply or_lt64 | apply and_lt64 | apply andn_lt64 | apply pow_lt64 | (apply HeapL.lt64 <;> assumption))))) trivial rfl trivial rfl (by first | rfl | simp [mpV, mpA, mpS, mpP, renId, shift]) rfl) ?_
  refine segH 6 (T1 := (mkT 44 [(0, vN X), (1, vN Y), (2, vN Z), (3, vS 0 N.length), (8, vP 1 0), (11, vN X), (12, vN Y), (13, vN Z), (14, .bool true), (15, .bool false), (16, .bool false), (17, vS 0 N.length), (18, vN N.length), (19, vN X), (20, vN Y)])) (by kernel_rfl) ?_
  refine rOp (v := vN (X * Y)) (by kernel_rfl) (eMul (k := .i64) (a := ((X : Nat) : Int)) (b := ((Y : Nat) : Int)) (c := ((X * Y : Nat) : Int)) (by kernel_rfl) (by kernel_rfl) (nMul (by omega))) ?_
  refine segEndH [0, 1, 2, 3, 8, 23] (T1 := (mkT 44 [(0, vN X), (1, vN Y), (2, vN Z), (3, vS 0 N.length), (8, vP 1 0), (23, .bool (((N.length : Nat) : Int) != ((X * Y : Nat) : Int)))])) (by kernel_rfl) ?_
  refine kSeq ?_
  cases h1 : ((((N.length : Nat) : Int) != ((X * Y : Nat) : Int)) : Bool)
  ·
    have h1k := h1
    (try simp only [Bool.not_eq_true', Bool.not_eq_false', decide_eq_true_eq, decide_eq_false_iff_not, beq_iff_eq, bne_iff_ne, beq_eq_false_iff_ne, bne_eq_false_iff_eq, ne_eq, Decidable.not_not, Bool.and_eq_true, Bool.and_eq_false_imp, Bool.or_eq_true, Bool.or_eq_false_iff, Bool.not_eq_true, Int.not_lt, Int.not_le, ge_iff_le, gt_iff_lt] at h1)
    refine cFalse (by kernel_rfl) ?_
    refine cSkip ?_
    refine kSeq ?_
    refine cSeq ?_
    refine cSeq ?_
    refine cReg ?_
    refine segEndH [0, 1, 2, 3, 8, 10] (T1 := (mkT 44 [(0, vN X), (1, vN Y), (2, vN Z), (3, vS 0 N.length), (8, vP 1 0), (10, vI 0)])) (by kernel_rfl) ?_
    refine kSeq ?_
    refine cBlk ?_
    -- loop
    refine cLoop (fun mm T H => ∃ i : Nat, (i ≤ N.length) ∧ (∀ j, j < i → j < N.length → inR (N.getD j 0) 0 (Z : Int) = true) ∧ mm = N.length - i ∧ T = (mkT 44 [(0, vN X), (1, vN Y), (2, vN Z), (3, vS 0 N.length), (8, vP 1 0), (10, vN i)]) ∧ H = [some ⟨nums N, 3, false, false⟩, rB [vI 0, vI 0, vI 0, .slice none 0 0] 40]) (N.length - 0) (mkT 44 [(0, vN X), (1, vN Y), (2, vN Z), (3, vS 0 N.length), (8, vP 1 0), (10, vI 0)]) [some ⟨nums N, 3, false, false⟩, rB [vI 0, vI 0, vI 0, .slice none 0 0] 40] (wkSame [0, 1, 2, 3, 8, 10] (by kernel_rfl)) ?_ ?_
    · exact ⟨0, (Nat.zero_le _), (fun j hj => absurd hj (Nat.not_lt_zero j)), rfl, rfl, rfl⟩
    · rintro _ _ _ ⟨i, hi, ho, rfl, rfl, rfl⟩
      refine cSeq ?_
      refine cSeq ?_
      refine cReg ?_
      refine segEndH [0, 1, 2, 3, 8, 10, 28] (T1 := (mkT 44 [(0, vN X), (1, vN Y), (2, vN Z), (3, vS 0 N.length), (8, vP 1 0), (10, vN i), (28, .bool (decide (((i : Nat) : Int) < ((N.length : Nat) : Int))))])) (by kernel_rfl) ?_
      refine kSeq ?_
      cases h2 : (decide (((i : Nat) : Int) < ((N.length : Nat) : Int)) : Bool)
      ·
        have h2k := h2
        (try simp only [Bool.not_eq_true', Bool.not_eq_false', decide_eq_true_eq, decide_eq_false_iff_not, beq_iff_eq, bne_iff_ne, beq_eq_false_iff_ne, bne_eq_false_iff_eq, ne_eq, Decidable.not_not, Bool.and_eq_true, Bool.and_eq_false_imp, Bool.or_eq_true, Bool.or_eq_false_iff, Bool.not_eq_true, Int.not_lt, Int.not_le, ge_iff_le, gt_iff_lt] at h2)
        exfalso; (have hq2 := allB_yes (by omega) ho; rw [hq] at hq2; cases hq2)
      ·
        have h2k := h2
        (try simp only [Bool.not_eq_true', Bool.not_eq_false', decide_eq_true_eq, decide_eq_false_iff_not, beq_iff_eq, bne_iff_ne, beq_eq_false_iff_ne, bne_eq_false_iff_eq, ne_eq, Decidable.not_not, Bool.and_eq_true, Bool.and_eq_false_imp, Bool.or_eq_true, Bool.or_eq_false_iff, Bool.not_eq_true, Int.not_lt, Int.not_le, ge_iff_le, gt_iff_lt] at h2)
        refine cTrue (by kernel_rfl) ?_
        refine cSkip ?_
        refine kSeq ?_
        refine cSeq ?_
        refine cBlk ?_
        refine cSeq ?_
        refine cReg ?_
        refine segH 2 (T1 := (mkT 44 [(0, vN X), (1, vN Y), (2, vN Z), (3, vS 0 N.length), (8, vP 1 0), (10, vN i), (28, .bool true), (31, vS 0 N.length), (32, vN i)])) (by kernel_rfl) ?_
        refine rOp (v := vP 0 i) (by kernel_rfl) (eIdxS (ad := ⟨0, 0, none⟩) (n := N.length) (m := 0) (k := .i64) (c := ((i : Nat) : Int)) (j := i) (o := i) (by kernel_rfl) (by kernel_rfl) ti22 ti3 (rfl) (by omega) (by simp)) ?_
        refine rOp (v := vI (N.getD i 0)) (by kernel_rfl) (eLdNum (ad := ⟨0, i, none⟩) (r := ⟨nums N, 3, false, false⟩) (L := N) (j := i) (by kernel_rfl) (by kernel_rfl) rfl (by first | rfl | omega) (by omega) ti3 rfl) ?_
        refine segH 1 (T1 := (mkT 44 [(0, vN X), (1, vN Y), (2, vN Z), (3, vS 0 N.length), (8, vP 1 0), (10, vN i), (28, .bool true), (31, vS 0 N.length), (32, vN i), (33, vP 0 i), (34, vI (N.getD i 0)), (35, vN Z)])) (by kernel_rfl) ?_
        refine rCall (v := .bool (inR (N.getD i 0) 0 ((Z : Nat) : Int))) (args := [vI (N.getD i 0), vI 0, vN Z]) (by kernel_rfl) rfl (by kernel_rfl) (Sound.lay0 [] (l1InB (N.getD i 0) 0 ((Z : Nat) : Int)) trivial rfl trivial rfl (by first | rfl | simp [mpV, mpA, mpS, mpP, renId, shift]) rfl) ?_
        refine segEndH [0, 1, 2, 3, 8, 10, 37] (T1 := (mkT 44 [(0, vN X), (1, vN Y), (2, vN Z), (3, vS 0 N.length), (8, vP 1 0), (10, vN i), (37, .bool (!(inR (N.getD i 0) 0 ((Z : Nat) : Int))))])) (by kernel_rfl) ?_
        refine kSeq ?_
        cases h3 : (inR (N.getD i 0) 0 ((Z : Nat) : Int) : Bool)
        ·
          have h3k := h3
          (try simp only [Bool.not_eq_true', Bool.not_eq_false', decide_eq_true_eq, decide_eq_false_iff_not, beq_iff_eq, bne_iff_ne, beq_eq_false_iff_ne, bne_eq_false_iff_eq, ne_eq, Decidable.not_not, Bool.and_eq_true, Bool.and_eq_false_imp, Bool.or_eq_true, Bool.or_eq_false_iff, Bool.not_eq_true, Int.not_lt, Int.not_le, ge_iff_le, gt_iff_lt] at h3)
          refine cTrue (by kernel_rfl) ?_
          refine cSeq ?_
          refine cReg ?_
          refine segEnd [8, 9] (T1 := (mkT 44 [(8, vP 1 0), (9, .bool false)])) (H1 := [some ⟨nums N, 3, false, false⟩, rB [vI 0, vI 0, vI 0, .slice none 0 0] 40]) (by kernel_rfl) ?_
          refine kSeq ?_
          refine cRet ?_
          refine kBlkR ?_
          refine kSeqR ?_
          refine kLoopR ?_
          refine kBlkR ?_
          refine kSeqR ?_
          -- end
          exact endQ (Or.inr rfl) (l := [.agg #[vI 0, vI 0, vI 0, .slice none 0 0], .bool false]) [rB [vI 0, vI 0, vI 0, .slice none 0 0] 40] (by kernel_rfl) (by first | rfl | kernel_rfl) rfl rfl hcl rfl
        ·
          have h3k := h3
          (try simp only [Bool.not_eq_true', Bool.not_eq_false', decide_eq_true_eq, decide_eq_false_iff_not, beq_iff_eq, bne_iff_ne, beq_eq_false_iff_ne, bne_eq_false_iff_eq, ne_eq, Decidable.not_not, Bool.and_eq_true, Bool.and_eq_false_imp, Bool.or_eq_true, Bool.or_eq_false_iff, Bool.not_eq_true, Int.not_lt, Int.not_le, ge_iff_le, gt_iff_lt] at h3)
          refine cFalse (by kernel_rfl) ?_
          refine cSkip ?_
          refine kBlk ?_
          refine kSeq ?_
          refine cReg ?_
          refine segH 1 (T1 := (mkT 44 [(0, vN X), (1, vN Y), (2, vN Z), (3, vS 0 N.length), (8, vP 1 0), (10, vN i), (29, vN i), (37, .bool false)])) (by kernel_rfl) ?_
          refine rOp (v := vN (i + 1)) (by kernel_rfl) (eAdd (k := .i64) (a := ((i : Nat) : Int)) (b := 1) (c := ((i + 1 : Nat) : Int)) (by kernel_rfl) (by kernel_rfl) (wr64 (by omega) (by omega) (by omega))) ?_
          refine segEndH [0, 1, 2, 3, 8, 10] (T1 := (mkT 44 [(0, vN X), (1, vN Y), (2, vN Z), (3, vS 0 N.length), (8, vP 1 0), (10, vN (i + 1))])) (by kernel_rfl) ?_
          exact kLoop (N.length - (i + 1)) (mkT 44 [(0, vN X), (1, vN Y), (2, vN Z), (3, vS 0 N.length), (8, vP 1 0), (10, vN (i + 1))]) [some ⟨nums N, 3, false, false⟩, rB [vI 0, vI 0, vI 0, .slice none 0 0] 40] (by omega) (wkSame [0, 1, 2, 3, 8, 10] (by kernel_rfl)) ⟨(i + 1), (by omega), (fun j hj hl => by rcases Nat.lt_or_ge j i with h | h; exact ho j h hl; (have e : j = i := by omega); subst e; assumption), rfl, rfl, rfl⟩
  ·
    have h1k := h1
    (try simp only [Bool.not_eq_true', Bool.not_eq_false', decide_eq_true_eq, decide_eq_false_iff_not, beq_iff_eq, bne_iff_ne, beq_eq_false_iff_ne, bne_eq_false_iff_eq, ne_eq, Decidable.not_not, Bool.and_eq_true, Bool.and_eq_false_imp, Bool.or_eq_true, Bool.or_eq_false_iff, Bool.not_eq_true, Int.not_lt, Int.not_le, ge_iff_le, gt_iff_lt] at h1)
    exfalso; (omega)

set_option maxRecDepth 100000 in
set_option maxHeartbeats 4000000 in
theorem specStackHeap_yes (X : Nat) (Y : Nat) (Z : Nat) (N : List Int) (hs : Sides X Y Z) (hl : N.length ≤ 1048576) (hnl : N.length = X * Y) (hq : allB N 0 (Z : Int) = true) : Sound Try.prog 29 [vN X, vN Y, vN Z, vS 0 N.length] [some ⟨nums N, 3, false, false⟩] (.tuple #[.agg #[vN X, vN Y, vN Z, vS 1 ((listOf X Y Z (stackS X Y Z N)).length)], .bool true]) [some ⟨nums N, 3, false, false⟩, some ⟨a3s (listOf X Y Z (stackS X Y Z N)), 74, false, true⟩] := by
  refine sound_intro (C := cx) Try.func29 rfl (by kernel_rfl) fun hcl => ?_
  have hz := hs.size
  have hx0 := hs.x0
  have hx4 := hs.x4
  have hy0 := hs.y0
  have hy4 := hs.y4
  have hz0 := hs.z0
  have hz4 := hs.z4
  have hxy : X * Y ≤ 4 * 4 := Nat.mul_le_mul (by omega) (by omega)
  have hst := stackS_lt (X := X) (Y := Y) (Z := Z) N hs.size
  refine cSeq ?_
  refine cReg ?_
  refine segEnd [0, 1, 2, 3, 8] (T1 := (mkT 44 [(0, vN X), (1, vN Y), (2, vN Z), (3, vS 0 N.length), (8, vP 1 0)])) (H1 := [some ⟨nums N, 3, false, false⟩, rB [vI 0, vI 0, vI 0, .slice none 0 0] 40]) (by kernel_rfl) ?_
  refine kSeq ?_
  refine cSeq ?_
  refine cSeq ?_
  refine cReg ?_
  refine segH 3 (T1 := (mkT 44 [(0, vN X), (1, vN Y), (2, vN Z), (3, vS 0 N.length), (8, vP 1 0), (11, vN X), (12, vN Y), (13, vN Z)])) (by kernel_rfl) ?_
  refine rCall (v := .bool true) (args := [vN X, vN Y, vN Z]) (by kernel_rfl) rfl (by kernel_rfl) (Sound.lay0 [] (sidesB X Y Z (by first | assumption | omega | rfl | decide | exact HeapL.list _ _ _ _ | exact HeapL.nil _ _ _ | exact HeapL.all _ _ _ | (apply HeapL.lt64 <;> assumption) | (repeat' (first | assumption | apply or_lt64 | apply and_lt64 | apply andn_lt64 | apply pow_lt64 | (apply HeapL.lt64 <;> assumption))))) trivial rfl trivial rfl (by first | rfl | simp [mpV, mpA, mpS, mpP, renId, shift]) rfl) ?_
  refine segH 6 (T1 := (mkT 44 [(0, vN X), (1, vN Y), (2, vN Z), (3, vS 0 N.length), (8, vP 1 0), (11, vN X), (12, vN Y), (13, vN Z), (14, .bool true), (15, .bool false), (16, .bool false), (17, vS 0 N.length), (18, vN N.length), (19, vN X), (20, vN Y)])) (by kernel_rfl) ?_
  refine rOp (v := vN (X * Y)) (by kernel_rfl) (eMul (k := .i64) (a := ((X : Nat) : Int)) (b := ((Y : Nat) : Int)) (c := ((X * Y : Nat) : Int)) (by kernel_rfl) (by kernel_rfl) (nMul (by omega))) ?_
  refine segEndH [0, 1, 2, 3, 8, 23] (T1 := (mkT 44 [(0, vN X), (1, vN Y), (2, vN Z), (3, vS 0 N.length), (8, vP 1 0), (23, .bool (((N.length : Nat) : Int) != ((X * Y : Nat) : Int)))])) (by kernel_rfl) ?_
  refine kSeq ?_
  cases h1 : ((((N.length : Nat) : Int) != ((X * Y : Nat) : Int)) : Bool)
  ·
    (try simp only [Bool.not_eq_true', Bool.not_eq_false', decide_eq_true_eq, decide_eq_false_iff_not, beq_iff_eq, bne_iff_ne, beq_eq_false_iff_ne, bne_eq_false_iff_eq, ne_eq, Decidable.not_not, Bool.and_eq_true, Bool.and_eq_false_imp, Bool.or_eq_true, Bool.or_eq_false_iff, Bool.not_eq_true, Int.not_lt, Int.not_le, ge_iff_le, gt_iff_lt] at h1)
    refine cFalse (by kernel_rfl) ?_
    refine cSkip ?_
    refine kSeq ?_
    refine cSeq ?_
    refine cSeq ?_
    refine cReg ?_
    refine segEndH [0, 1, 2, 3, 8, 10] (T1 := (mkT 44 [(0, vN X), (1, vN Y), (2, vN Z), (3, vS 0 N.length), (8, vP 1 0), (10, vI 0)])) (by kernel_rfl) ?_
    refine kSeq ?_
    refine cBlk ?_
    -- loop
    refine cLoop (fun mm T H => ∃ i : Nat, (i ≤ N.length) ∧ (∀ j, j < i → j < N.length → inR (N.getD j 0) 0 (Z : Int) = true) ∧ mm = N.length - i ∧ T = (mkT 44 [(0, vN X), (1, vN Y), (2, vN Z), (3, vS 0 N.length), (8, vP 1 0), (10, vN i)]) ∧ H = [some ⟨nums N, 3, false, false⟩, rB [vI 0, vI 0, vI 0, .slice none 0 0] 40]) (N.length - 0) (mkT 44 [(0, vN X), (1, vN Y), (2, vN Z), (3, vS 0 N.length), (8, vP 1 0), (10, vI 0)]) [some ⟨nums N, 3, false, false⟩, rB [vI 0, vI 0, vI 0, .slice none 0 0] 40] (wkSame [0, 1, 2, 3, 8, 10] (by kernel_rfl)) ?_ ?_
    · exact ⟨0, (Nat.zero_le _), (fun j hj => absurd hj (Nat.not_lt_zero j)), rfl, rfl, rfl⟩
    · rintro _ _ _ ⟨i, hi, ho, rfl, rfl, rfl⟩
      refine cSeq ?_
      refine cSeq ?_
      refine cReg ?_
      refine segEndH [0, 1, 2, 3, 8, 10, 28] (T1 := (mkT 44 [(0, vN X), (1, vN Y), (2, vN Z), (3, vS 0 N.length), (8, vP 1 0), (10, vN i), (28, .bool (decide (((i : Nat) : Int) < ((N.length : Nat) : Int))))])) (by kernel_rfl) ?_
      refine kSeq ?_
      cases h2 : (decide (((i : Nat) : Int) < ((N.length : Nat) : Int)) : Bool)
      ·
        (try simp only [Bool.not_eq_true', Bool.not_eq_false', decide_eq_true_eq, decide_eq_false_iff_not, beq_iff_eq, bne_iff_ne, beq_eq_false_iff_ne, bne_eq_false_iff_eq, ne_eq, Decidable.not_not, Bool.and_eq_true, Bool.and_eq_false_imp, Bool.or_eq_true, Bool.or_eq_false_iff, Bool.not_eq_true, Int.not_lt, Int.not_le, ge_iff_le, gt_iff_lt] at h2)
        refine cFalse (by kernel_rfl) ?_
        refine cExit ?_
        refine kSeqE ?_
        refine kLoopE ?_
        refine kBlkHit ?_
        refine kSeq ?_
        refine cSeq ?_
        refine cReg ?_
        refine segH 4 (T1 := (mkT 44 [(0, vN X), (1, vN Y), (2, vN Z), (3, vS 0 N.length), (8, vP 1 0), (10, vN i), (28, .bool false), (39, vN X), (40, vN Y), (41, vN Z), (42, vS 0 N.length)])) (by kernel_rfl) ?_
        refine rCall (v := .agg #[vN X, vN Y, vN Z, vS 2 ((listOf X Y Z (stackS X Y Z N)).length)]) (args := [vN X, vN Y, vN Z, vS 0 N.length]) (by kernel_rfl) rfl (by kernel_rfl) (Sound.lay (E := [some ⟨a3s (listOf X Y Z (stackS X Y Z N)), 74, false, true⟩]) [0] (l2StackB X Y Z N (by first | assumption | omega | rfl | decide | exact HeapL.list _ _ _ _ | exact HeapL.nil _ _ _ | exact HeapL.all _ _ _ | (apply HeapL.lt64 <;> assumption) | (repeat' (first | assumption | apply or_lt64 | apply and_lt64 | apply andn_lt64 | apply pow_lt64 | (apply HeapL.lt64 <;> assumption)))) (by first | assumption | omega | rfl | decide | exact HeapL.list _ _ _ _ | exact HeapL.nil _ _ _ | exact HeapL.all _ _ _ | (apply HeapL.lt64 <;> assumption) | (repeat' (first | assumption | apply or_lt64 | apply and_lt64 | apply andn_lt64 | apply pow_lt64 | (apply HeapL.lt64 <;> assumption))))) ⟨rdF false (flatNums _ _ _ _) rfl rfl, trivial⟩ rfl ⟨clF (flatNums _ _ _ _), trivial⟩ rfl (by first | rfl | simp [mpV, mpA, mpS, mpP, renId, shift]) (by first | rfl | simp [mpV, mpA, mpS, mpP, renId, shift]) ⟨enF (flatA3 _ _ _ _) (Or.inl rfl), trivial⟩) ?_
        refine segEnd [8, 9] (T1 := (mkT 44 [(8, vP 1 0), (9, .bool true)])) (H1 := [some ⟨nums N, 3, false, false⟩, rB [vN X, vN Y, vN Z, vS 2 ((listOf X Y Z (stackS X Y Z N)).length)] 40, some ⟨a3s (listOf X Y Z (stackS X Y Z N)), 74, false, true⟩]) (by kernel_rfl) ?_
        refine kSeq ?_
        refine cRet ?_
        -- end
        exact endF (Or.inr rfl) (l := [.agg #[vN X, vN Y, vN Z, vS 2 ((listOf X Y Z (stackS X Y Z N)).length)], .bool true]) [0, 2] (by kernel_rfl) (by first | rfl | simp [packR, mpV, mpA, mpS, mpP, renId]) ⟨rrF (flatNums _ _ _ _) rfl, ⟨rrF (flatA3 _ _ _ _) rfl, trivial⟩⟩ rfl rfl
      ·
        (try simp only [Bool.not_eq_true', Bool.not_eq_false', decide_eq_true_eq, decide_eq_false_iff_not, beq_iff_eq, bne_iff_ne, beq_eq_false_iff_ne, bne_eq_false_iff_eq, ne_eq, Decidable.not_not, Bool.and_eq_true, Bool.and_eq_false_imp, Bool.or_eq_true, Bool.or_eq_false_iff, Bool.not_eq_true, Int.not_lt, Int.not_le, ge_iff_le, gt_iff_lt] at h2)
        refine cTrue (by kernel_rfl) ?_
        refine cSkip ?_
        refine kSeq ?_
        refine cSeq ?_
        refine cBlk ?_
        refine cSeq ?_
        refine cReg ?_
        refine segH 2 (T1 := (mkT 44 [(0, vN X), (1, vN Y), (2, vN Z), (3, vS 0 N.length), (8, vP 1 0), (10, vN i), (28, .bool true), (31, vS 0 N.length), (32, vN i)])) (by kernel_rfl) ?_
        refine rOp (v := vP 0 i) (by kernel_rfl) (eIdxS (ad := ⟨0, 0, none⟩) (n := N.length) (m := 0) (k := .i64) (c := ((i : Nat) : Int)) (j := i) (o := i) (by kernel_rfl) (by kernel_rfl) ti22 ti3 (rfl) (by omega) (by simp)) ?_
        refine rOp (v := vI (N.getD i 0)) (by kernel_rfl) (eLdNum (ad := ⟨0, i, none⟩) (r := ⟨nums N, 3, false, false⟩) (L := N) (j := i) (by kernel_rfl) (by kernel_rfl) rfl (by first | rfl | omega) (by omega) ti3 rfl) ?_
        refine segH 1 (T1 := (mkT 44 [(0, vN X), (1, vN Y), (2, vN Z), (3, vS 0 N.length), (8, vP 1 0), (10, vN i), (28, .bool true), (31, vS 0 N.length), (32, vN i), (33, vP 0 i), (34, vI (N.getD i 0)), (35, vN Z)])) (by kernel_rfl) ?_
        refine rCall (v := .bool (inR (N.getD i 0) 0 ((Z : Nat) : Int))) (args := [vI (N.getD i 0), vI 0, vN Z]) (by kernel_rfl) rfl (by kernel_rfl) (Sound.lay0 [] (l1InB (N.getD i 0) 0 ((Z : Nat) : Int)) trivial rfl trivial rfl (by first | rfl | simp [mpV, mpA, mpS, mpP, renId, shift]) rfl) ?_
        refine segEndH [0, 1, 2, 3, 8, 10, 37] (T1 := (mkT 44 [(0, vN X), (1, vN Y), (2, vN Z), (3, vS 0 N.length), (8, vP 1 0), (10, vN i), (37, .bool (!(inR (N.getD i 0) 0 ((Z : Nat) : Int))))])) (by kernel_rfl) ?_
        refine kSeq ?_
        cases h3 : (inR (N.getD i 0) 0 ((Z : Nat) : Int) : Bool)
        ·
          (try simp only [Bool.not_eq_true', Bool.not_eq_false', decide_eq_true_eq, decide_eq_false_iff_not, beq_iff_eq, bne_iff_ne, beq_eq_false_iff_ne, bne_eq_false_iff_eq, ne_eq, Decidable.not_not, Bool.and_eq_true, Bool.and_eq_false_imp, Bool.or_eq_true, Bool.or_eq_false_iff, Bool.not_eq_true, Int.not_lt, Int.not_le, ge_iff_le, gt_iff_lt] at h3)
          exfalso; (have hq2 := allB_at hq (i := i) (by omega); simp_all)
        ·
          (try simp only [Bool.not_eq_true', Bool.not_eq_false', decide_eq_true_eq, decide_eq_false_iff_not, beq_iff_eq, bne_iff_ne, beq_eq_false_iff_ne, bne_eq_false_iff_eq, ne_eq, Decidable.not_not, Bool.and_eq_true, Bool.and_eq_false_imp, Bool.or_eq_true, Bool.or_eq_false_iff, Bool.not_eq_true, Int.not_lt, Int.not_le, ge_iff_le, gt_iff_lt] at h3)
          refine cFalse (by kernel_rfl) ?_
          refine cSkip ?_
          refine kBlk ?_
          refine kSeq ?_
          refine cReg ?_
          refine segH 1 (T1 := (mkT 44 [(0, vN X), (1, vN Y), (2, vN Z), (3, vS 0 N.length), (8, vP 1 0), (10, vN i), (29, vN i), (37, .bool false)])) (by kernel_rfl) ?_
          refine rOp (v := vN (i + 1)) (by kernel_rfl) (eAdd (k := .i64) (a := ((i : Nat) : Int)) (b := 1) (c := ((i + 1 : Nat) : Int)) (by kernel_rfl) (by kernel_rfl) (wr64 (by omega) (by omega) (by omega))) ?_
          refine segEndH [0, 1, 2, 3, 8, 10] (T1 := (mkT 44 [(0, vN X), (1, vN Y), (2, vN Z), (3, vS 0 N.length), (8, vP 1 0), (10, vN (i + 1))])) (by kernel_rfl) ?_
          exact kLoop (N.length - (i + 1)) (mkT 44 [(0, vN X), (1, vN Y), (2, vN Z), (3, vS 0 N.length), (8, vP 1 0), (10, vN (i + 1))]) [some ⟨nums N, 3, false, false⟩, rB [vI 0, vI 0, vI 0, .slice none 0 0] 40] (by omega) (wkSame [0, 1, 2, 3, 8, 10] (by kernel_rfl)) ⟨(i + 1), (by omega), (fun j hj hl => by rcases Nat.lt_or_ge j i with h | h; exact ho j h hl; (have e : j = i := by omega); subst e; assumption), rfl, rfl, rfl⟩
  ·
    (try simp only [Bool.not_eq_true', Bool.not_eq_false', decide_eq_true_eq, decide_eq_false_iff_not, beq_iff_eq, bne_iff_ne, beq_eq_false_iff_ne, bne_eq_false_iff_eq, ne_eq, Decidable.not_not, Bool.and_eq_true, Bool.and_eq_false_imp, Bool.or_eq_true, Bool.or_eq_false_iff, Bool.not_eq_true, Int.not_lt, Int.not_le, ge_iff_le, gt_iff_lt] at h1)
    exfalso; (omega)

set_option maxRecDepth 100000 in
set_option maxHeartbeats 4000000 in
theorem implStackHeap_no (x : Int) (y : Int) (z : Int) (N : List Int) (hl : N.length ≤ 1048576) (hv2 : valid3 x y z = false) : Sound Try.prog 31 [vI x, vI y, vI z, vS 0 N.length] [some ⟨nums N, 3, false, false⟩] (.tuple #[.agg #[vI 0, vI 0, vI 0, .slice none 0 0], .bool false]) [some ⟨nums N, 3, false, false⟩] := by
  refine sound_intro (C := cx) Try.func31 rfl (by kernel_rfl) fun hcl => ?_
  refine cSeq ?_
  refine cReg ?_
  refine segEnd [0, 1, 2, 3, 8] (T1 := (mkT 38 [(0, vI x), (1, vI y), (2, vI z), (3, vS 0 N.length), (8, vP 1 0)])) (H1 := [some ⟨nums N, 3, false, false⟩, rB [vI 0, vI 0, vI 0, .slice none 0 0] 40]) (by kernel_rfl) ?_
  refine kSeq ?_
  refine cSeq ?_
  refine cReg ?_
  refine segEnd [0, 1, 2, 3, 8, 10] (T1 := (mkT 38 [(0, vI x), (1, vI y), (2, vI z), (3, vS 0 N.length), (8, vP 1 0), (10, vP 2 0)])) (H1 := [some ⟨nums N, 3, false, false⟩, rB [vI 0, vI 0, vI 0, .slice none 0 0] 40, rB [vI x, vI y, vI z] 75]) (by kernel_rfl) ?_
  refine kSeq ?_
  refine cSeq ?_
  refine cSeq ?_
  refine cReg ?_
  refine segH 1 (T1 := (mkT 38 [(0, vI x), (1, vI y), (2, vI z), (3, vS 0 N.length), (8, vP 1 0), (10, vP 2 0), (15, .agg #[vI x, vI y, vI z])])) (by kernel_rfl) ?_
  refine rCall (v := .bool false) (args := [.agg #[vI x, vI y, vI z]]) (by kernel_rfl) rfl (by kernel_rfl) (Sound.lay0 [] (valid_no x y z (by first | assumption | omega | rfl | decide | exact HeapL.list _ _ _ _ | exact HeapL.nil _ _ _ | exact HeapL.all _ _ _ | (apply HeapL.lt64 <;> assumption) | (repeat' (first | assumption | apply or_lt64 | apply and_lt64 | apply andn_lt64 | apply pow_lt64 | (apply HeapL.lt64 <;> assumption))))) trivial rfl trivial rfl (by first | rfl | simp [mpV, mpA, mpS, mpP, renId, shift]) rfl) ?_
  refine segEndH [3, 8, 10, 31] (T1 := (mkT 38 [(3, vS 0 N.length), (8, vP 1 0), (10, vP 2 0), (31, .bool true)])) (by kernel_rfl) ?_
  refine kSeq ?_
  refine cTrue (by kernel_rfl) ?_
  refine cSeq ?_
  refine cReg ?_
  refine segEnd [8, 9] (T1 := (mkT 38 [(8, vP 1 0), (9, .bool false)])) (H1 := [some ⟨nums N, 3, false, false⟩, rB [vI 0, vI 0, vI 0, .slice none 0 0] 40, rB [vI x, vI y, vI z] 75]) (by kernel_rfl) ?_
  refine kSeq ?_
  refine cRet ?_
  refine kSeqR ?_
  -- end
  exact endQ (Or.inr rfl) (l := [.agg #[vI 0, vI 0, vI 0, .slice none 0 0], .bool false]) [rB [vI 0, vI 0, vI 0, .slice none 0 0] 40, rB [vI x, vI y, vI z] 75] (by kernel_rfl) (by first | rfl | kernel_rfl) rfl rfl hcl rfl

set_option maxRecDepth 100000 in
set_option maxHeartbeats 4000000 in
theorem implStackHeap_n2 (X : Nat) (Y : Nat) (Z : Nat) (N : List Int) (hs : Sides X Y Z) (hl : N.length ≤ 1048576) (hnl : N.length ≠ X * Y) : Sound Try.prog 31 [vN X, vN Y, vN Z, vS 0 N.length] [some ⟨nums N, 3, false, false⟩] (.tuple #[.agg #[vI 0, vI 0, vI 0, .slice none 0 0], .bool false]) [some ⟨nums N, 3, false, false⟩] := by
  refine sound_intro (C := cx) Try.func31 rfl (by kernel_rfl) fun hcl => ?_
  have hz := hs.size
  have hx0 := hs.x0
  have hx4 := hs.x4
  have hy0 := hs.y0
  have hy4 := hs.y4
  have hz0 := hs.z0
  have hz4 := hs.z4
  have hxy : X * Y ≤ 4 * 4 := Nat.mul_le_mul (by omega) (by omega)
  refine cSeq ?_
  refine cReg ?_
  refine segEnd [0, 1, 2, 3, 8] (T1 := (mkT 38 [(0, vN X), (1, vN Y), (2, vN Z), (3, vS 0 N.length), (8, vP 1 0)])) (H1 := [some ⟨nums N, 3, false, false⟩, rB [vI 0, vI 0, vI 0, .slice none 0 0] 40]) (by kernel_rfl) ?_
  refine kSeq ?_
  refine cSeq ?_
  refine cReg ?_
  refine segEnd [0, 1, 2, 3, 8, 10] (T1 := (mkT 38 [(0, vN X), (1, vN Y), (2, vN Z), (3, vS 0 N.length), (8, vP 1 0), (10, vP 2 0)])) (H1 := [some ⟨nums N, 3, false, false⟩, rB [vI 0, vI 0, vI 0, .slice none 0 0] 40, rB [vN X, vN Y, vN Z] 75]) (by kernel_rfl) ?_
  refine kSeq ?_
  refine cSeq ?_
  refine cSeq ?_
  refine cReg ?_
  refine segH 1 (T1 := (mkT 38 [(0, vN X), (1, vN Y), (2, vN Z), (3, vS 0 N.length), (8, vP 1 0), (10, vP 2 0), (15, .agg #[vN X, vN Y, vN Z])])) (by kernel_rfl) ?_
  refine rCall (v := .bool true) (args := [.agg #[vN X, vN Y, vN Z]]) (by kernel_rfl) rfl (by kernel_rfl) (Sound.lay0 [] (validB X Y Z (by first | assumption | omega | rfl | decide | exact HeapL.list _ _ _ _ | exact HeapL.nil _ _ _ | exact HeapL.all _ _ _ | (apply HeapL.lt64 <;> assumption) | (repeat' (first | assumption | apply or_lt64 | apply and_lt64 | apply andn_lt64 | apply pow_lt64 | (apply HeapL.lt64 <;> assumption))))) trivial rfl trivial rfl (by first | rfl | simp [mpV, mpA, mpS, mpP, renId, shift]) rfl) ?_
  refine segH 6 (T1 := (mkT 38 [(0, vN X), (1, vN Y), (2, vN Z), (3, vS 0 N.length), (8, vP 1 0), (10, vP 2 0), (15, .agg #[vN X, vN Y, vN Z]), (16, .bool true), (17, .bool false), (18, .bool false), (19, vS 0 N.length), (20, vN N.length), (21, vN X), (22, vN Y)])) (by kernel_rfl) ?_
  refine rOp (v := vN (X * Y)) (by kernel_rfl) (eMul (k := .i64) (a := ((X : Nat) : Int)) (b := ((Y : Nat) : Int)) (c := ((X * Y : Nat) : Int)) (by kernel_rfl) (by kernel_rfl) (nMul (by omega))) ?_
  refine segH 3 (T1 := (mkT 38 [(0, vN X), (1, vN Y), (2, vN Z), (3, vS 0 N.length), (8, vP 1 0), (10, vP 2 0), (15, .agg #[vN X, vN Y, vN Z]), (16, .bool true), (17, .bool false), (18, .bool false), (19, vS 0 N.length), (20, vN N.length), (21, vN X), (22, vN Y), (23, vN (X * Y)), (24, .bool (((N.length : Nat) : Int) != ((X * Y : Nat) : Int))), (25, .bool (((N.length : Nat) : Int) != ((X * Y : Nat) : Int))), (26, .bool (((N.length : Nat) : Int) != ((X * Y : Nat) : Int)))])) (by kernel_rfl) ?_
  cases h1 : ((((N.length : Nat) : Int) != ((X * Y : Nat) : Int)) : Bool)
  ·
    (try simp only [Bool.not_eq_true', Bool.not_eq_false', decide_eq_true_eq, decide_eq_false_iff_not, beq_iff_eq, bne_iff_ne, beq_eq_false_iff_ne, bne_eq_false_iff_eq, ne_eq, Decidable.not_not, Bool.and_eq_true, Bool.and_eq_false_imp, Bool.or_eq_true, Bool.or_eq_false_iff, Bool.not_eq_true, Int.not_lt, Int.not_le, ge_iff_le, gt_iff_lt] at h1)
    exfalso; (omega)
  ·
    (try simp only [Bool.not_eq_true', Bool.not_eq_false', decide_eq_true_eq, decide_eq_false_iff_not, beq_iff_eq, bne_iff_ne, beq_eq_false_iff_ne, bne_eq_false_iff_eq, ne_eq, Decidable.not_not, Bool.and_eq_true, Bool.and_eq_false_imp, Bool.or_eq_true, Bool.or_eq_false_iff, Bool.not_eq_true, Int.not_lt, Int.not_le, ge_iff_le, gt_iff_lt] at h1)
    refine segEndH [3, 8, 10, 31] (T1 := (mkT 38 [(3, vS 0 N.length), (8, vP 1 0), (10, vP 2 0), (31, .bool true)])) (by kernel_rfl) ?_
    refine kSeq ?_
    refine cTrue (by kernel_rfl) ?_
    refine cSeq ?_
    refine cReg ?_
    refine segEnd [8, 9] (T1 := (mkT 38 [(8, vP 1 0), (9, .bool false)])) (H1 := [some ⟨nums N, 3, false, false⟩, rB [vI 0, vI 0, vI 0, .slice none 0 0] 40, rB [vN X, vN Y, vN Z] 75]) (by kernel_rfl) ?_
    refine kSeq ?_
    refine cRet ?_
    refine kSeqR ?_
    -- end
    exact endQ (Or.inr rfl) (l := [.agg #[vI 0, vI 0, vI 0, .slice none 0 0], .bool false]) [rB [vI 0, vI 0, vI 0, .slice none 0 0] 40, rB [vN X, vN Y, vN Z] 75] (by kernel_rfl) (by first | rfl | kernel_rfl) rfl rfl hcl rfl

set_option maxRecDepth 100000 in
set_option maxHeartbeats 4000000 in
theorem implStackHeap_n3 (X : Nat) (Y : Nat) (Z : Nat) (N : List Int) (hs : Sides X Y Z) (hl : N.length ≤ 1048576) (hnl : N.length = X * Y) (hq : allB N 0 (Z : Int) = false) : Sound Try.prog 31 [vN X, vN Y, vN Z, vS 0 N.length] [some ⟨nums N, 3, false, false⟩] (.tuple #[.agg #[vI 0, vI 0, vI 0, .slice none 0 0], .bool false]) [some ⟨nums N, 3, false, false⟩] := by
  refine sound_intro (C := cx) Try.func31 rfl (by kernel_rfl) fun hcl => ?_
  have hz := hs.size
  have hx0 := hs.x0
  have hx4 := hs.x4
  have hy0 := hs.y0
  have hy4 := hs.y4
  have hz0 := hs.z0
  have hz4 := hs.z4
  have hxy : X * Y ≤ 4 * 4 := Nat.mul_le_mul (by omega) (by omega)
  refine cSeq ?_
  refine cReg ?_
  refine segEnd [0, 1, 2, 3, 8] (T1 := (mkT 38 [(0, vN X), (1, vN Y), (2, vN Z), (3, vS 0 N.length), (8, vP 1 0)])) (H1 := [some ⟨nums N, 3, false, false⟩, rB [vI 0, vI 0, vI 0, .slice none 0 0] 40]) (by kernel_rfl) ?_
  refine kSeq ?_
  refine cSeq ?_
  refine cReg ?_
  refine segEnd [0, 1, 2, 3, 8, 10] (T1 := (mkT 38 [(0, vN X), (1, vN Y), (2, vN Z), (3, vS 0 N.length), (8, vP 1 0), (10, vP 2 0)])) (H1 := [some ⟨nums N, 3, false, false⟩, rB [vI 0, vI 0, vI 0, .slice none 0 0] 40, rB [vN X, vN Y, vN Z] 75]) (by kernel_rfl) ?_
  refine kSeq ?_
  refine cSeq ?_
  refine cSeq ?_
  refine cReg ?_
  refine segH 1 (T1 := (mkT 38 [(0, vN X), (1, vN Y), (2, vN Z), (3, vS 0 N.length), (8, vP 1 0), (10, vP 2 0), (15, .agg #[vN X, vN Y, vN Z])])) (by kernel_rfl) ?_
  refine rCall (v := .bool true) (args := [.agg #[vN X, vN Y, vN Z]]) (by kernel_rfl) rfl (by kernel_rfl) (Sound.lay0 [] (validB X Y Z (by first | assumption | omega | rfl | decide | exact HeapL.list _ _ _ _ | exact HeapL.nil _ _ _ | exact HeapL.all _ _ _ | (apply HeapL.lt64 <;> assumption) | (repeat' (first | assumption | apply or_lt64 | apply and_lt64 | apply andn_lt64 | apply pow_lt64 | (apply HeapL.lt64 <;> assumption))))) trivial rfl trivial rfl (by first | rfl | simp [mpV, mpA, mpS, mpP, renId, shift]) rfl) ?_
  refine segH 6 (T1 := (mkT 38 [(0, vN X), (1, vN Y), (2, vN Z), (3, vS 0 N.length), (8, vP 1 0), (10, vP 2 0), (15, .agg #[vN X, vN Y, vN Z]), (16, .bool true), (17, .bool false), (18, .bool false), (19, vS 0 N.length), (20, vN N.length), (21, vN X), (22, vN Y)])) (by kernel_rfl) ?_
  refine rOp (v := vN (X * Y)) (by kernel_rfl) (eMul (k := .i64) (a := ((X : Nat) : Int)) (b := ((Y : Nat) : Int)) (c := ((X * Y : Nat) : Int)) (by kernel_rfl) (by kernel_rfl) (nMul (by omega))) ?_
  refine segH 3 (T1 := (mkT 38 [(0, vN X), (1, vN Y), (2, vN Z), (3, vS 0 N.length), (8, vP 1 0), (10, vP 2 0), (15, .agg #[vN X, vN Y, vN Z]), (16, .bool true), (17, .bool false), (18, .bool false), (19, vS 0 N.length), (20, vN N.length), (21, vN X), (22, vN Y), (23, vN (X * Y)), (24, .bool (((N.length : Nat) : Int) != ((X * Y : Nat) : Int))), (25, .bool (((N.length : Nat) : Int) != ((X * Y : Nat) : Int))), (26, .bool (((N.length : Nat) : Int) != ((X * Y : Nat) : Int)))])) (by kernel_rfl) ?_
  cases h1 : ((((N.length : Nat) : Int) != ((X * Y : Nat) : Int)) : Bool)
  ·
    have h1k := h1
    (try simp only [Bool.not_eq_true', Bool.not_eq_false', decide_eq_true_eq, decide_eq_false_iff_not, beq_iff_eq, bne_iff_ne, beq_eq_false_iff_ne, bne_eq_false_iff_eq, ne_eq, Decidable.not_not, Bool.and_eq_true, Bool.and_eq_false_imp, Bool.or_eq_true, Bool.or_eq_false_iff, Bool.not_eq_true, Int.not_lt, Int.not_le, ge_iff_le, gt_iff_lt] at h1)
    refine segH 2 (T1 := (mkT 38 [(0, vN X), (1, vN Y), (2, vN Z), (3, vS 0 N.length), (8, vP 1 0), (10, vP 2 0), (15, .agg #[vN X, vN Y, vN Z]), (16, .bool true), (17, .bool false), (18, .bool false), (19, vS 0 N.length), (20, vN N.length), (21, vN X), (22, vN Y), (23, vN (X * Y)), (24, .bool false), (25, .bool false), (26, .bool false), (27, vS 0 N.length), (28, vN Z)])) (by kernel_rfl) ?_
    refine rCall (v := .bool (allB N 0 ((Z : Nat) : Int))) (args := [vS 0 N.length, vI 0, vN Z]) (by kernel_rfl) rfl (by kernel_rfl) (Sound.lay0 [0] (allWithinN N 0 ((Z : Nat) : Int) (by first | omega | assumption | (simp; done) | (simp; omega))) ⟨rdF false (flatNums _ _ _ _) rfl rfl, trivial⟩ rfl ⟨clF (flatNums _ _ _ _), trivial⟩ rfl (by first | rfl | simp [mpV, mpA, mpS, mpP, renId, shift]) rfl) ?_
    refine segEndH [3, 8, 10, 31] (T1 := (mkT 38 [(3, vS 0 N.length), (8, vP 1 0), (10, vP 2 0), (31, .bool (!(allB N 0 ((Z : Nat) : Int))))])) (by kernel_rfl) ?_
    refine kSeq ?_
    cases h2 : (allB N 0 ((Z : Nat) : Int) : Bool)
    ·
      have h2k := h2
      (try simp only [Bool.not_eq_true', Bool.not_eq_false', decide_eq_true_eq, decide_eq_false_iff_not, beq_iff_eq, bne_iff_ne, beq_eq_false_iff_ne, bne_eq_false_iff_eq, ne_eq, Decidable.not_not, Bool.and_eq_true, Bool.and_eq_false_imp, Bool.or_eq_true, Bool.or_eq_false_iff, Bool.not_eq_true, Int.not_lt, Int.not_le, ge_iff_le, gt_iff_lt] at h2)
      refine cTrue (by kernel_rfl) ?_
      refine cSeq ?_
      refine cReg ?_
      refine segEnd [8, 9] (T1 := (mkT 38 [(8, vP 1 0), (9, .bool false)])) (H1 := [some ⟨nums N, 3, false, false⟩, rB [vI 0, vI 0, vI 0, .slice none 0 0] 40, rB [vN X, vN Y, vN Z] 75]) (by kernel_rfl) ?_
      refine kSeq ?_
      refine cRet ?_
      refine kSeqR ?_
      -- end
      exact endQ (Or.inr rfl) (l := [.agg #[vI 0, vI 0, vI 0, .slice none 0 0], .bool false]) [rB [vI 0, vI 0, vI 0, .slice none 0 0] 40, rB [vN X, vN Y, vN Z] 75] (by kernel_rfl) (by first | rfl | kernel_rfl) rfl rfl hcl rfl
    ·
      have h2k := h2
      (try simp only [Bool.not_eq_true', Bool.not_eq_false', decide_eq_true_eq, decide_eq_false_iff_not, beq_iff_eq, bne_iff_ne, beq_eq_false_iff_ne, bne_eq_false_iff_eq, ne_eq, Decidable.not_not, Bool.and_eq_true, Bool.and_eq_false_imp, Bool.or_eq_true, Bool.or_eq_false_iff, Bool.not_eq_true, Int.not_lt, Int.not_le, ge_iff_le, gt_iff_lt] at h2)
      exfalso; simp_all
  ·
    have h1k := h1
    (try simp only [Bool.not_eq_true', Bool.not_eq_false', decide_eq_true_eq, decide_eq_false_iff_not, beq_iff_eq, bne_iff_ne, beq_eq_false_iff_ne, bne_eq_false_iff_eq, ne_eq, Decidable.not_not, Bool.and_eq_true, Bool.and_eq_false_imp, Bool.or_eq_true, Bool.or_eq_false_iff, Bool.not_eq_true, Int.not_lt, Int.not_le, ge_iff_le, gt_iff_lt] at h1)
    exfalso; (omega)

set_option maxRecDepth 100000 in
set_option maxHeartbeats 4000000 in
theorem implStackHeap_yes (X : Nat) (Y : Nat) (Z : Nat) (N : List Int) (hs : Sides X Y Z) (hl : N.length ≤ 1048576) (hnl : N.length = X * Y) (hq : allB N 0 (Z : Int) = true) : Sound Try.prog 31 [vN X, vN Y, vN Z, vS 0 N.length] [some ⟨nums N, 3, false, false⟩] (.tuple #[.agg #[vN X, vN Y, vN Z, vS 1 ((listOf X Y Z (stackS X Y Z N)).length)], .bool true]) [some ⟨nums N, 3, false, false⟩, some ⟨a3s (listOf X Y Z (stackS X Y Z N)), 74, false, true⟩] := by
  refine sound_intro (C := cx) Try.func31 rfl (by kernel_rfl) fun hcl => ?_
  have hz := hs.size
  have hx0 := hs.x0
  have hx4 := hs.x4
  have hy0 := hs.y0
  have hy4 := hs.y4
  have hz0 := hs.z0
  have hz4 := hs.z4
  have hxy : X * Y ≤ 4 * 4 := Nat.mul_le_mul (by omega) (by omega)
  have hst := stackS_lt (X := X) (Y := Y) (Z := Z) N hs.size
  refine cSeq ?_
  refine cReg ?_
  refine segEnd [0, 1, 2, 3, 8] (T1 := (mkT 38 [(0, vN X), (1, vN Y), (2, vN Z), (3, vS 0 N.length), (8, vP 1 0)])) (H1 := [some ⟨nums N, 3, false, false⟩, rB [vI 0, vI 0, vI 0, .slice none 0 0] 40]) (by kernel_rfl) ?_
  refine kSeq ?_
  refine cSeq ?_
  refine cReg ?_
  refine segEnd [0, 1, 2, 3, 8, 10] (T1 := (mkT 38 [(0, vN X), (1, vN Y), (2, vN Z), (3, vS 0 N.length), (8, vP 1 0), (10, vP 2 0)])) (H1 := [some ⟨nums N, 3, false, false⟩, rB [vI 0, vI 0, vI 0, .slice none 0 0] 40, rB [vN X, vN Y, vN Z] 75]) (by kernel_rfl) ?_
  refine kSeq ?_
  refine cSeq ?_
  refine cSeq ?_
  refine cReg ?_
  refine segH 1 (T1 := (mkT 38 [(0, vN X), (1, vN Y), (2, vN Z), (3, vS 0 N.length), (8, vP 1 0), (10, vP 2 0), (15, .agg #[vN X, vN Y, vN Z])])) (by kernel_rfl) ?_
  refine rCall (v := .bool true) (args := [.agg #[vN X, vN Y, vN Z]]) (by kernel_rfl) rfl (by kernel_rfl) (Sound.lay0 [] (validB X Y Z (by first | assumption | omega | rfl | decide | exact HeapL.list _ _ _ _ | exact HeapL.nil _ _ _ | exact HeapL.all _ _ _ | (apply HeapL.lt64 <;> assumption) | (repeat' (first | assumption | apply or_lt64 | apply and_lt64 | apply andn_lt64 | apply pow_lt64 | (apply HeapL.lt64 <;> assumption))))) trivial rfl trivial rfl (by first | rfl | simp [mpV, mpA, mpS, mpP, renId, shift]) rfl) ?_
  refine segH 6 (T1 := (mkT 38 [(0, vN X), (1, vN Y), (2, vN Z), (3, vS 0 N.length), (8, vP 1 0), (10, vP 2 0), (15, .agg #[vN X, vN Y, vN Z]), (16, .bool true), (17, .bool false), (18, .bool false), (19, vS 0 N.length), (20, vN N.length), (21, vN X), (22, vN Y)])) (by kernel_rfl) ?_
  refine rOp (v := vN (X * Y)) (by kernel_rfl) (eMul (k := .i64) (a := ((X : Nat) : Int)) (b := ((Y : Nat) : Int)) (c := ((X * Y : Nat) : Int)) (by kernel_rfl) (by kernel_rfl) (nMul (by omega))) ?_
  refine segH 3 (T1 := (mkT 38 [(0, vN X), (1, vN Y), (2, vN Z), (3, vS 0 N.length), (8, vP 1 0), (10, vP 2 0), (15, .agg #[vN X, vN Y, vN Z]), (16, .bool true), (17, .bool false), (18, .bool false), (19, vS 0 N.length), (20, vN N.length), (21, vN X), (22, vN Y), (23, vN (X * Y)), (24, .bool (((N.length : Nat) : Int) != ((X * Y : Nat) : Int))), (25, .bool (((N.length : Nat) : Int) != ((X * Y : Nat) : Int))), (26, .bool (((N.length : Nat) : Int) != ((X * Y : Nat) : Int)))])) (by kernel_rfl) ?_
  cases h1 : ((((N.length : Nat) : Int) != ((X * Y : Nat) : Int)) : Bool)
  ·
    (try simp only [Bool.not_eq_true', Bool.not_eq_false', decide_eq_true_eq, decide_eq_false_iff_not, beq_iff_eq, bne_iff_ne, beq_eq_false_iff_ne, bne_eq_false_iff_eq, ne_eq, Decidable.not_not, Bool.and_eq_true, Bool.and_eq_false_imp, Bool.or_eq_true, Bool.or_eq_false_iff, Bool.not_eq_true, Int.not_lt, Int.not_le, ge_iff_le, gt_iff_lt] at h1)
    refine segH 2 (T1 := (mkT 38 [(0, vN X), (1, vN Y), (2, vN Z), (3, vS 0 N.length), (8, vP 1 0), (10, vP 2 0), (15, .agg #[vN X, vN Y, vN Z]), (16, .bool true), (17, .bool false), (18, .bool false), (19, vS 0 N.length), (20, vN N.length), (21, vN X), (22, vN Y), (23, vN (X * Y)), (24, .bool false), (25, .bool false), (26, .bool false), (27, vS 0 N.length), (28, vN Z)])) (by kernel_rfl) ?_
    refine rCall (v := .bool (allB N 0 ((Z : Nat) : Int))) (args := [vS 0 N.length, vI 0, vN Z]) (by kernel_rfl) rfl (by kernel_rfl) (Sound.lay0 [0] (allWithinN N 0 ((Z : Nat) : Int) (by first | omega | assumption | (simp; done) | (simp; omega))) ⟨rdF false (flatNums _ _ _ _) rfl rfl, trivial⟩ rfl ⟨clF (flatNums _ _ _ _), trivial⟩ rfl (by first | rfl | simp [mpV, mpA, mpS, mpP, renId, shift]) rfl) ?_
    refine segEndH [3, 8, 10, 31] (T1 := (mkT 38 [(3, vS 0 N.length), (8, vP 1 0), (10, vP 2 0), (31, .bool (!(allB N 0 ((Z : Nat) : Int))))])) (by kernel_rfl) ?_
    refine kSeq ?_
    cases h2 : (allB N 0 ((Z : Nat) : Int) : Bool)
    ·
      (try simp only [Bool.not_eq_true', Bool.not_eq_false', decide_eq_true_eq, decide_eq_false_iff_not, beq_iff_eq, bne_iff_ne, beq_eq_false_iff_ne, bne_eq_false_iff_eq, ne_eq, Decidable.not_not, Bool.and_eq_true, Bool.and_eq_false_imp, Bool.or_eq_true, Bool.or_eq_false_iff, Bool.not_eq_true, Int.not_lt, Int.not_le, ge_iff_le, gt_iff_lt] at h2)
      exfalso; simp_all
    ·
      (try simp only [Bool.not_eq_true', Bool.not_eq_false', decide_eq_true_eq, decide_eq_false_iff_not, beq_iff_eq, bne_iff_ne, beq_eq_false_iff_ne, bne_eq_false_iff_eq, ne_eq, Decidable.not_not, Bool.and_eq_true, Bool.and_eq_false_imp, Bool.or_eq_true, Bool.or_eq_false_iff, Bool.not_eq_true, Int.not_lt, Int.not_le, ge_iff_le, gt_iff_lt] at h2)
      refine cFalse (by kernel_rfl) ?_
      refine cSkip ?_
      refine kSeq ?_
      refine cSeq ?_
      refine cRegW (N := 4) [⟨[], [], [2]⟩, ⟨[], [], [2]⟩, ⟨[], [], []⟩, ⟨[], [], [0]⟩, ⟨[3], [], []⟩, ⟨[], [1], []⟩, ⟨[], [], []⟩] 1 [3] (by rfl) (by rfl) (by kernel_rfl) (by kernel_rfl) (by kernel_rfl) ⟨nmsF (flatNums _ _ _ _), ⟨nmsX (by kernel_rfl), ⟨nmsX (by kernel_rfl), trivial⟩⟩⟩ ?_
      refine segWH 3 (T1 := (mkT 38 [(3, vS 0 N.length), (8, vP 1 0), (10, vP 2 0), (31, .bool false), (33, .agg #[vN X, vN Y, vN Z]), (34, .agg #[vN X, vN Y, vN Z]), (35, vS 0 N.length)])) (by kernel_rfl) ?_
      refine rW (m := ⟨[], [], [0]⟩) (v := vU (stackS X Y Z N)) rfl (by kernel_rfl) (stQ (args := [.agg #[vN X, vN Y, vN Z], vS 0 N.length]) rfl (by kernel_rfl) (Any.lay0 [0] (stackB X Y Z N (by first | assumption | omega | rfl | decide | exact HeapL.list _ _ _ _ | exact HeapL.nil _ _ _ | exact HeapL.all _ _ _ | (apply HeapL.lt64 <;> assumption) | (repeat' (first | assumption | apply or_lt64 | apply and_lt64 | apply andn_lt64 | apply pow_lt64 | (apply HeapL.lt64 <;> assumption)))) (by first | assumption | omega | rfl | decide | exact HeapL.list _ _ _ _ | exact HeapL.nil _ _ _ | exact HeapL.all _ _ _ | (apply HeapL.lt64 <;> assumption) | (repeat' (first | assumption | apply or_lt64 | apply and_lt64 | apply andn_lt64 | apply pow_lt64 | (apply HeapL.lt64 <;> assumption))))) ⟨rdF false (flatNums _ _ _ _) rfl rfl, trivial⟩ rfl ⟨clF (flatNums _ _ _ _), trivial⟩ rfl (by first | rfl | simp [mpV, mpA, mpS, mpP, renId, shift]) rfl) rfl (by kernel_rfl) (by kernel_rfl)) (by kernel_rfl) nr0 ?_
      refine rW (m := ⟨[3], [], []⟩) (v := .agg #[vN X, vN Y, vN Z, vS 3 ((listOf X Y Z (stackS X Y Z N)).length)]) rfl (by kernel_rfl) (stN (i := 3) (E := [some ⟨a3s (listOf X Y Z (stackS X Y Z N)), 74, false, true⟩]) (v1 := .agg #[vN X, vN Y, vN Z, vS 4 ((listOf X Y Z (stackS X Y Z N)).length)]) (args := [.agg #[vN X, vN Y, vN Z], vU (stackS X Y Z N)]) rfl (by kernel_rfl) (Any.lay (E := [some ⟨a3s (listOf X Y Z (stackS X Y Z N)), 74, false, true⟩]) (N := 4) [] (heapB X Y Z (stackS X Y Z N) (by first | assumption | omega | rfl | decide | exact HeapL.list _ _ _ _ | exact HeapL.nil _ _ _ | exact HeapL.all _ _ _ | (apply HeapL.lt64 <;> assumption) | (repeat' (first | assumption | apply or_lt64 | apply and_lt64 | apply andn_lt64 | apply pow_lt64 | (apply HeapL.lt64 <;> assumption)))) (by first | assumption | omega | rfl | decide | exact HeapL.list _ _ _ _ | exact HeapL.nil _ _ _ | exact HeapL.all _ _ _ | (apply HeapL.lt64 <;> assumption) | (repeat' (first | assumption | apply or_lt64 | apply and_lt64 | apply andn_lt64 | apply pow_lt64 | (apply HeapL.lt64 <;> assumption))))) trivial rfl trivial rfl (by first | rfl | simp [mpV, mpA, mpS, mpP, renId, shift]) (by first | rfl | simp [mpV, mpA, mpS, mpP, renId, shift]) ⟨enF (flatA3 _ _ _ _) (Or.inl rfl), trivial⟩) rfl (by kernel_rfl) (by kernel_rfl) (by kernel_rfl) (by kernel_rfl) (FlatH.cons (flatA3 _ _ _ _) FlatH.nil)) (by kernel_rfl) (NRs.all ⟨nrOf (by rfl) (nmF (flatA3 _ _ _ _)), trivial⟩) ?_
      refine rW (m := ⟨[], [1], []⟩) (v := .tuple #[]) rfl (by kernel_rfl) (stSet (b := 1) (r := ⟨[vN X, vN Y, vN Z, vS 3 ((listOf X Y Z (stackS X Y Z N)).length)], 40, true, true⟩) (by kernel_rfl) rfl (by kernel_rfl) (by kernel_rfl) (by kernel_rfl) (by kernel_rfl) (nmX (by kernel_rfl)) (clX (by kernel_rfl))) (by kernel_rfl) (NRs.all ⟨nrOf (by rfl) (nmX (by kernel_rfl)), trivial⟩) ?_
      refine segEndW [8, 9] (T1 := (mkT 38 [(8, vP 1 0), (9, .bool true)])) (H1 := [some ⟨nums N, 3, false, false⟩, rB [vN X, vN Y, vN Z, vS 3 ((listOf X Y Z (stackS X Y Z N)).length)] 40, rB [vN X, vN Y, vN Z] 75, some ⟨a3s (listOf X Y Z (stackS X Y Z N)), 74, false, true⟩]) (by kernel_rfl) ?_
      refine kSeq ?_
      refine cRet ?_
      -- end
      exact endF (Or.inr rfl) (l := [.agg #[vN X, vN Y, vN Z, vS 3 ((listOf X Y Z (stackS X Y Z N)).length)], .bool true]) [0, 3] (by kernel_rfl) (by first | rfl | simp [packR, mpV, mpA, mpS, mpP, renId]) ⟨rrF (flatNums _ _ _ _) rfl, ⟨rrF (flatA3 _ _ _ _) rfl, trivial⟩⟩ rfl rfl
  ·
    (try simp only [Bool.not_eq_true', Bool.not_eq_false', decide_eq_true_eq, decide_eq_false_iff_not, beq_iff_eq, bne_iff_ne, beq_eq_false_iff_ne, bne_eq_false_iff_eq, ne_eq, Decidable.not_not, Bool.and_eq_true, Bool.and_eq_false_imp, Bool.or_eq_true, Bool.or_eq_false_iff, Bool.not_eq_true, Int.not_lt, Int.not_le, ge_iff_le, gt_iff_lt] at h1)
    exfalso; (omega)
end Go.Proofs.Ytbheeobnghlckaa
