/- Walks. No condition. -/
import Derived.Test.YtenkiofddpjidaaAmJ4
set_option linter.unusedVariables false
set_option linter.unusedSimpArgs false
namespace Go.Proofs.Ytenkiofddpjidaa
open Go.Am Go.RowKit
set_option maxRecDepth 100000 in
set_option maxHeartbeats 4000000 in
theorem l1MostB (a : Int) (b : Int)  : Sound Try.prog 104 [vI a, vI b] [] (vI (mxI a b)) [] := by
  refine sound_intro (C := cx) Try.func104 rfl (by kernel_rfl) fun hcl => ?_
  refine cSeq ?_
  refine cReg ?_
  refine segEndH [0, 1] (T1 := (mkT 10 [(0, vI a), (1, vI b)])) (by kernel_rfl) ?_
  refine kSeq ?_
  refine cSeq ?_
  refine cSeq ?_
  refine cReg ?_
  refine segEndH [0, 1, 7] (T1 := (mkT 10 [(0, vI a), (1, vI b), (7, .bool (decide (a > b)))])) (by kernel_rfl) ?_
  refine kSeq ?_
  cases h1 : (decide (a > b) : Bool)
  ·
    (try simp only [Bool.not_eq_true', Bool.not_eq_false', decide_eq_true_eq, decide_eq_false_iff_not, beq_iff_eq, bne_iff_ne, beq_eq_false_iff_ne, bne_eq_false_iff_eq, ne_eq, Decidable.not_not, Bool.and_eq_true, Bool.and_eq_false_imp, Bool.or_eq_true, Bool.or_eq_false_iff, Bool.not_eq_true, Int.not_lt, Int.not_le, ge_iff_le, gt_iff_lt] at h1)
    refine cFalse (by kernel_rfl) ?_
    refine cSkip ?_
    refine kSeq ?_
    refine cSeq ?_
    refine cReg ?_
    refine segEndH [4] (T1 := (mkT 10 [(4, vI b)])) (by kernel_rfl) ?_
    refine kSeq ?_
    refine cRet ?_
    -- end
    have he0 : (b : Int) = mxI a b := by (unfold mxI; split <;> omega)
    refine endCast (v1 := vI b) (H1 := []) (by first | rfl | ((try rw [← he0]); done) | (simp only [← he0]; done)) (by first | rfl | ((try rw [← he0]); done) | (simp only [← he0]; done)) ?_
    exact endQ (Or.inr rfl) (l := [vI b]) [] (by kernel_rfl) (by first | rfl | kernel_rfl) rfl rfl hcl rfl
  ·
    (try simp only [Bool.not_eq_true', Bool.not_eq_false', decide_eq_true_eq, decide_eq_false_iff_not, beq_iff_eq, bne_iff_ne, beq_eq_false_iff_ne, bne_eq_false_iff_eq, ne_eq, Decidable.not_not, Bool.and_eq_true, Bool.and_eq_false_imp, Bool.or_eq_true, Bool.or_eq_false_iff, Bool.not_eq_true, Int.not_lt, Int.not_le, ge_iff_le, gt_iff_lt] at h1)
    refine cTrue (by kernel_rfl) ?_
    refine cSeq ?_
    refine cReg ?_
    refine segEndH [4] (T1 := (mkT 10 [(4, vI a)])) (by kernel_rfl) ?_
    refine kSeq ?_
    refine cRet ?_
    refine kSeqR ?_
    -- end
    have he0 : (a : Int) = mxI a b := by (unfold mxI; split <;> omega)
    refine endCast (v1 := vI a) (H1 := []) (by first | rfl | ((try rw [← he0]); done) | (simp only [← he0]; done)) (by first | rfl | ((try rw [← he0]); done) | (simp only [← he0]; done)) ?_
    exact endQ (Or.inr rfl) (l := [vI a]) [] (by kernel_rfl) (by first | rfl | kernel_rfl) rfl rfl hcl rfl

set_option maxRecDepth 100000 in
set_option maxHeartbeats 4000000 in
theorem l2ApartB (a : Int) (b : Int) (c : Int) (x : Int) (y : Int) (z : Int) (hsm : (0 ≤ a ∧ a ≤ 4) ∧ (0 ≤ b ∧ b ≤ 4) ∧ (0 ≤ c ∧ c ≤ 4) ∧ (0 ≤ x ∧ x ≤ 4) ∧ (0 ≤ y ∧ y ≤ 4) ∧ (0 ≤ z ∧ z ≤ 4)) : Sound Try.prog 97 [.agg #[vI a, vI b, vI c], .agg #[vI x, vI y, vI z]] [] (vI (apart a b c x y z)) [] := by
  refine sound_intro (C := cx) Try.func97 rfl (by kernel_rfl) fun hcl => ?_
  have ma : 0 ≤ mxI (a - x) (x - a) ∧ mxI (a - x) (x - a) ≤ 4 := by unfold mxI; split <;> omega
  have mb : 0 ≤ mxI (b - y) (y - b) ∧ mxI (b - y) (y - b) ≤ 4 := by unfold mxI; split <;> omega
  have mc : 0 ≤ mxI (c - z) (z - c) ∧ mxI (c - z) (z - c) ≤ 4 := by unfold mxI; split <;> omega
  refine cSeq ?_
  refine cReg ?_
  refine segEnd [2, 3] (T1 := (mkT 29 [(2, vP 0 0), (3, vP 1 0)])) (H1 := [rB [vI a, vI b, vI c] 25, rB [vI x, vI y, vI z] 25]) (by kernel_rfl) ?_
  refine kSeq ?_
  refine cSeq ?_
  refine cReg ?_
  refine segEndH [2, 3, 5] (T1 := (mkT 29 [(2, vP 0 0), (3, vP 1 0), (5, vI 0)])) (by kernel_rfl) ?_
  refine kSeq ?_
  refine cSeq ?_
  refine cSeq ?_
  refine cReg ?_
  refine segEndH [2, 3, 5, 6] (T1 := (mkT 29 [(2, vP 0 0), (3, vP 1 0), (5, vI 0), (6, vI 0)])) (by kernel_rfl) ?_
  refine kSeq ?_
  refine cBlk ?_
  -- loop
  refine cLoop (fun mm T H => ∃ i : Nat, ∃ s : Int, (i ≤ 3) ∧ (s = apTo a b c x y z i) ∧ (0 ≤ s ∧ s ≤ 4 * i) ∧ mm = 3 - i ∧ T = (mkT 29 [(2, vP 0 0), (3, vP 1 0), (5, vI s), (6, vN i)]) ∧ H = [rB [vI a, vI b, vI c] 25, rB [vI x, vI y, vI z] 25]) (3 - 0) (mkT 29 [(2, vP 0 0), (3, vP 1 0), (5, vI 0), (6, vI 0)]) [rB [vI a, vI b, vI c] 25, rB [vI x, vI y, vI z] 25] (wkSame [2, 3, 5, 6] (by kernel_rfl)) ?_ ?_
  · exact ⟨0, 0, (Nat.zero_le _), (rfl), (by omega), rfl, rfl, rfl⟩
  · rintro _ _ _ ⟨i, s, hi, hs1, hb, rfl, rfl, rfl⟩
    have hcase : i = 0 ∨ i = 1 ∨ i = 2 ∨ i = 3 := by omega
    rcases hcase with rfl | rfl | rfl | rfl
    ·
      refine cSeq ?_
      refine cSeq ?_
      refine cReg ?_
      refine segEndH [2, 3, 5, 6, 8] (T1 := (mkT 29 [(2, vP 0 0), (3, vP 1 0), (5, vI s), (6, vI 0), (8, .bool true)])) (by kernel_rfl) ?_
      refine kSeq ?_
      refine cTrue (by kernel_rfl) ?_
      refine cSkip ?_
      refine kSeq ?_
      refine cSeq ?_
      refine cBlk ?_
      refine cRegW (N := 2) [⟨[], [], []⟩, ⟨[], [], []⟩, ⟨[], [], []⟩, ⟨[], [], [0]⟩, ⟨[], [], []⟩, ⟨[], [], []⟩, ⟨[], [], [1]⟩, ⟨[], [], []⟩, ⟨[], [], []⟩, ⟨[], [], []⟩, ⟨[], [], [1]⟩, ⟨[], [], []⟩, ⟨[], [], []⟩, ⟨[], [], [0]⟩, ⟨[], [], []⟩, ⟨[], [], []⟩, ⟨[], [], []⟩, ⟨[], [], []⟩] 0 [] (by rfl) (by rfl) (by kernel_rfl) (by kernel_rfl) (by kernel_rfl) ⟨nmsX (by kernel_rfl), ⟨nmsX (by kernel_rfl), trivial⟩⟩ ?_
      refine segWH 7 (T1 := (mkT 29 [(2, vP 0 0), (3, vP 1 0), (5, vI s), (6, vI 0), (8, .bool true), (11, vI s), (12, vI 0), (13, vP 0 0), (14, vI a), (15, vI 0), (16, vP 1 0), (17, vI x)])) (by kernel_rfl) ?_
      refine rW (m := ⟨[], [], []⟩) (v := vI (a - x)) rfl (by kernel_rfl) (stId (eSub (k := .i64) (a := a) (b := x) (c := (a - x)) (by kernel_rfl) (by kernel_rfl) (wr64 (by omega) (by omega) (by omega))) rfl (by kernel_rfl) (by kernel_rfl) (by kernel_rfl)) (by kernel_rfl) nr0 ?_
      refine segWH 6 (T1 := (mkT 29 [(2, vP 0 0), (3, vP 1 0), (5, vI s), (6, vI 0), (8, .bool true), (11, vI s), (12, vI 0), (13, vP 0 0), (14, vI a), (15, vI 0), (16, vP 1 0), (17, vI x), (18, vI (a - x)), (19, vI 0), (20, vP 1 0), (21, vI x), (22, vI 0), (23, vP 0 0), (24, vI a)])) (by kernel_rfl) ?_
      refine rW (m := ⟨[], [], []⟩) (v := vI (x - a)) rfl (by kernel_rfl) (stId (eSub (k := .i64) (a := x) (b := a) (c := (x - a)) (by kernel_rfl) (by kernel_rfl) (wr64 (by omega) (by omega) (by omega))) rfl (by kernel_rfl) (by kernel_rfl) (by kernel_rfl)) (by kernel_rfl) nr0 ?_
      refine rW (m := ⟨[], [], []⟩) (v := vI (mxI (a - x) (x - a))) rfl (by kernel_rfl) (stQ (args := [vI (a - x), vI (x - a)]) rfl (by kernel_rfl) (Any.lay0 [] (l1MostB (a - x) (x - a)) trivial rfl trivial rfl (by first | rfl | simp [mpV, mpA, mpS, mpP, renId, shift]) rfl) rfl (by kernel_rfl) (by kernel_rfl)) (by kernel_rfl) nr0 ?_
      refine rW (m := ⟨[], [], []⟩) (v := vI (s + (mxI (a - x) (x - a)))) rfl (by kernel_rfl) (stId (eAdd (k := .i64) (a := s) (b := (mxI (a - x) (x - a))) (c := (s + (mxI (a - x) (x - a)))) (by kernel_rfl) (by kernel_rfl) (wr64 (by omega) (by omega) (by omega))) rfl (by kernel_rfl) (by kernel_rfl) (by kernel_rfl)) (by kernel_rfl) nr0 ?_
      refine segEndWH [2, 3, 5, 6] (T1 := (mkT 29 [(2, vP 0 0), (3, vP 1 0), (5, vI (s + (mxI (a - x) (x - a)))), (6, vI 0)])) (by kernel_rfl) ?_
      refine kBlk ?_
      refine kSeq ?_
      refine cReg ?_
      refine segEndH [2, 3, 5, 6] (T1 := (mkT 29 [(2, vP 0 0), (3, vP 1 0), (5, vI (s + (mxI (a - x) (x - a)))), (6, vI 1)])) (by kernel_rfl) ?_
      exact kLoop (3 - 1) (mkT 29 [(2, vP 0 0), (3, vP 1 0), (5, vI (s + (mxI (a - x) (x - a)))), (6, vI 1)]) [rB [vI a, vI b, vI c] 25, rB [vI x, vI y, vI z] 25] (by omega) (wkSame [2, 3, 5, 6] (by kernel_rfl)) ⟨1, (s + (mxI (a - x) (x - a))), (by omega), (by rw [hs1]; rfl), (by omega), rfl, rfl, rfl⟩
    ·
      refine cSeq ?_
      refine cSeq ?_
      refine cReg ?_
      refine segEndH [2, 3, 5, 6, 8] (T1 := (mkT 29 [(2, vP 0 0), (3, vP 1 0), (5, vI s), (6, vI 1), (8, .bool true)])) (by kernel_rfl) ?_
      refine kSeq ?_
      refine cTrue (by kernel_rfl) ?_
      refine cSkip ?_
      refine kSeq ?_
      refine cSeq ?_
      refine cBlk ?_
      refine cRegW (N := 2) [⟨[], [], []⟩, ⟨[], [], []⟩, ⟨[], [], []⟩, ⟨[], [], [0]⟩, ⟨[], [], []⟩, ⟨[], [], []⟩, ⟨[], [], [1]⟩, ⟨[], [], []⟩, ⟨[], [], []⟩, ⟨[], [], []⟩, ⟨[], [], [1]⟩, ⟨[], [], []⟩, ⟨[], [], []⟩, ⟨[], [], [0]⟩, ⟨[], [], []⟩, ⟨[], [], []⟩, ⟨[], [], []⟩, ⟨[], [], []⟩] 0 [] (by rfl) (by rfl) (by kernel_rfl) (by kernel_rfl) (by kernel_rfl) ⟨nmsX (by kernel_rfl), ⟨nmsX (by kernel_rfl), trivial⟩⟩ ?_
      refine segWH 7 (T1 := (mkT 29 [(2, vP 0 0), (3, vP 1 0), (5, vI s), (6, vI 1), (8, .bool true), (11, vI s), (12, vI 1), (13, vP 0 1), (14, vI b), (15, vI 1), (16, vP 1 1), (17, vI y)])) (by kernel_rfl) ?_
      refine rW (m := ⟨[], [], []⟩) (v := vI (b - y)) rfl (by kernel_rfl) (stId (eSub (k := .i64) (a := b) (b := y) (c := (b - y)) (by kernel_rfl) (by kernel_rfl) (wr64 (by omega) (by omega) (by omega))) rfl (by kernel_rfl) (by kernel_rfl) (by kernel_rfl)) (by kernel_rfl) nr0 ?_
      refine segWH 6 (T1 := (mkT 29 [(2, vP 0 0), (3, vP 1 0), (5, vI s), (6, vI 1), (8, .bool true), (11, vI s), (12, vI 1), (13, vP 0 1), (14, vI b), (15, vI 1), (16, vP 1 1), (17, vI y), (18, vI (b - y)), (19, vI 1), (20, vP 1 1), (21, vI y), (22, vI 1), (23, vP 0 1), (24, vI b)])) (by kernel_rfl) ?_
      refine rW (m := ⟨[], [], []⟩) (v := vI (y - b)) rfl (by kernel_rfl) (stId (eSub (k := .i64) (a := y) (b := b) (c := (y - b)) (by kernel_rfl) (by kernel_rfl) (wr64 (by omega) (by omega) (by omega))) rfl (by kernel_rfl) (by kernel_rfl) (by kernel_rfl)) (by kernel_rfl) nr0 ?_
      refine rW (m := ⟨[], [], []⟩) (v := vI (mxI (b - y) (y - b))) rfl (by kernel_rfl) (stQ (args := [vI (b - y), vI (y - b)]) rfl (by kernel_rfl) (Any.lay0 [] (l1MostB (b - y) (y - b)) trivial rfl trivial rfl (by first | rfl | simp [mpV, mpA, mpS, mpP, renId, shift]) rfl) rfl (by kernel_rfl) (by kernel_rfl)) (by kernel_rfl) nr0 ?_
      refine rW (m := ⟨[], [], []⟩) (v := vI (s + (mxI (b - y) (y - b)))) rfl (by kernel_rfl) (stId (eAdd (k := .i64) (a := s) (b := (mxI (b - y) (y - b))) (c := (s + (mxI (b - y) (y - b)))) (by kernel_rfl) (by kernel_rfl) (wr64 (by omega) (by omega) (by omega))) rfl (by kernel_rfl) (by kernel_rfl) (by kernel_rfl)) (by kernel_rfl) nr0 ?_
      refine segEndWH [2, 3, 5, 6] (T1 := (mkT 29 [(2, vP 0 0), (3, vP 1 0), (5, vI (s + (mxI (b - y) (y - b)))), (6, vI 1)])) (by kernel_rfl) ?_
      refine kBlk ?_
      refine kSeq ?_
      refine cReg ?_
      refine segEndH [2, 3, 5, 6] (T1 := (mkT 29 [(2, vP 0 0), (3, vP 1 0), (5, vI (s + (mxI (b - y) (y - b)))), (6, vI 2)])) (by kernel_rfl) ?_
      exact kLoop (3 - 2) (mkT 29 [(2, vP 0 0), (3, vP 1 0), (5, vI (s + (mxI (b - y) (y - b)))), (6, vI 2)]) [rB [vI a, vI b, vI c] 25, rB [vI x, vI y, vI z] 25] (by omega) (wkSame [2, 3, 5, 6] (by kernel_rfl)) ⟨2, (s + (mxI (b - y) (y - b))), (by omega), (by rw [hs1]; rfl), (by omega), rfl, rfl, rfl⟩
    ·
      refine cSeq ?_
      refine cSeq ?_
      refine cReg ?_
      refine segEndH [2, 3, 5, 6, 8] (T1 := (mkT 29 [(2, vP 0 0), (3, vP 1 0), (5, vI s), (6, vI 2), (8, .bool true)])) (by kernel_rfl) ?_
      refine kSeq ?_
      refine cTrue (by kernel_rfl) ?_
      refine cSkip ?_
      refine kSeq ?_
      refine cSeq ?_
      refine cBlk ?_
      refine cRegW (N := 2) [⟨[], [], []⟩, ⟨[], [], []⟩, ⟨[], [], []⟩, ⟨[], [], [0]⟩, ⟨[], [], []⟩, ⟨[], [], []⟩, ⟨[], [], [1]⟩, ⟨[], [], []⟩, ⟨[], [], []⟩, ⟨[], [], []⟩, ⟨[], [], [1]⟩, ⟨[], [], []⟩, ⟨[], [], []⟩, ⟨[], [], [0]⟩, ⟨[], [], []⟩, ⟨[], [], []⟩, ⟨[], [], []⟩, ⟨[], [], []⟩] 0 [] (by rfl) (by rfl) (by kernel_rfl) (by kernel_rfl) (by kernel_rfl) ⟨nmsX (by kernel_rfl), ⟨nmsX (by kernel_rfl), trivial⟩⟩ ?_
      refine segWH 7 (T1 := (mkT 29 [(2, vP 0 0), (3, vP 1 0), (5, vI s), (6, vI 2), (8, .bool true), (11, vI s), (12, vI 2), (13, vP 0 2), (14, vI c), (15, vI 2), (16, vP 1 2), (17, vI z)])) (by kernel_rfl) ?_
      refine rW (m := ⟨[], [], []⟩) (v := vI (c - z)) rfl (by kernel_rfl) (stId (eSub (k := .i64) (a := c) (b := z) (c := (c - z)) (by kernel_rfl) (by kernel_rfl) (wr64 (by omega) (by omega) (by omega))) rfl (by kernel_rfl) (by kernel_rfl) (by kernel_rfl)) (by kernel_rfl) nr0 ?_
      refine segWH 6 (T1 := (mkT 29 [(2, vP 0 0), (3, vP 1 0), (5, vI s), (6, vI 2), (8, .bool true), (11, vI s), (12, vI 2), (13, vP 0 2), (14, vI c), (15, vI 2), (16, vP 1 2), (17, vI z), (18, vI (c - z)), (19, vI 2), (20, vP 1 2), (21, vI z), (22, vI 2), (23, vP 0 2), (24, vI c)])) (by kernel_rfl) ?_
      refine rW (m := ⟨[], [], []⟩) (v := vI (z - c)) rfl (by kernel_rfl) (stId (eSub (k := .i64) (a := z) (b := c) (c := (z - c)) (by kernel_rfl) (by kernel_rfl) (wr64 (by omega) (by omega) (by omega))) rfl (by kernel_rfl) (by kernel_rfl) (by kernel_rfl)) (by kernel_rfl) nr0 ?_
      refine rW (m := ⟨[], [], []⟩) (v := vI (mxI (c - z) (z - c))) rfl (by kernel_rfl) (stQ (args := [vI (c - z), vI (z - c)]) rfl (by kernel_rfl) (Any.lay0 [] (l1MostB (c - z) (z - c)) trivial rfl trivial rfl (by first | rfl | simp [mpV, mpA, mpS, mpP, renId, shift]) rfl) rfl (by kernel_rfl) (by kernel_rfl)) (by kernel_rfl) nr0 ?_
      refine rW (m := ⟨[], [], []⟩) (v := vI (s + (mxI (c - z) (z - c)))) rfl (by kernel_rfl) (stId (eAdd (k := .i64) (a := s) (b := (mxI (c - z) (z - c))) (c := (s + (mxI (c - z) (z - c)))) (by kernel_rfl) (by kernel_rfl) (wr64 (by omega) (by omega) (by omega))) rfl (by kernel_rfl) (by kernel_rfl) (by kernel_rfl)) (by kernel_rfl) nr0 ?_
      refine segEndWH [2, 3, 5, 6] (T1 := (mkT 29 [(2, vP 0 0), (3, vP 1 0), (5, vI (s + (mxI (c - z) (z - c)))), (6, vI 2)])) (by kernel_rfl) ?_
      refine kBlk ?_
      refine kSeq ?_
      refine cReg ?_
      refine segEndH [2, 3, 5, 6] (T1 := (mkT 29 [(2, vP 0 0), (3, vP 1 0), (5, vI (s + (mxI (c - z) (z - c)))), (6, vI 3)])) (by kernel_rfl) ?_
      exact kLoop (3 - 3) (mkT 29 [(2, vP 0 0), (3, vP 1 0), (5, vI (s + (mxI (c - z) (z - c)))), (6, vI 3)]) [rB [vI a, vI b, vI c] 25, rB [vI x, vI y, vI z] 25] (by omega) (wkSame [2, 3, 5, 6] (by kernel_rfl)) ⟨3, (s + (mxI (c - z) (z - c))), (by omega), (by rw [hs1]; rfl), (by omega), rfl, rfl, rfl⟩
    ·
      refine cSeq ?_
      refine cSeq ?_
      refine cReg ?_
      refine segEndH [2, 3, 5, 6, 8] (T1 := (mkT 29 [(2, vP 0 0), (3, vP 1 0), (5, vI s), (6, vI 3), (8, .bool false)])) (by kernel_rfl) ?_
      refine kSeq ?_
      refine cFalse (by kernel_rfl) ?_
      refine cExit ?_
      refine kSeqE ?_
      refine kLoopE ?_
      refine kBlkHit ?_
      refine kSeq ?_
      refine cSeq ?_
      refine cReg ?_
      refine segEndH [4] (T1 := (mkT 29 [(4, vI s)])) (by kernel_rfl) ?_
      refine kSeq ?_
      refine cRet ?_
      -- end
      have he0 : (s : Int) = apart a b c x y z := by first | omega | exact hs1
      refine endCast (v1 := vI s) (H1 := []) (by first | rfl | ((try rw [← he0]); done) | (simp only [← he0]; done)) (by first | rfl | ((try rw [← he0]); done) | (simp only [← he0]; done)) ?_
      exact endQ (Or.inr rfl) (l := [vI s]) [rB [vI a, vI b, vI c] 25, rB [vI x, vI y, vI z] 25] (by kernel_rfl) (by first | rfl | kernel_rfl) rfl rfl hcl rfl

set_option maxRecDepth 100000 in
set_option maxHeartbeats 4000000 in
theorem l2NearB (X : Nat) (Y : Nat) (Z : Nat) (L : List A3) (a : Int) (b : Int) (c : Int) (hs : Sides X Y Z) (hL : HeapL X Y Z L) (hh : has3 (X : Int) (Y : Int) (Z : Int) a b c = true) : Sound Try.prog 63 [.agg #[vN X, vN Y, vN Z, vS 0 L.length], .agg #[vI a, vI b, vI c]] [some ⟨a3s L, 25, false, false⟩] (vS 1 ((listOf X Y Z (nearTo X Y Z a b c 6 &&& setOf Y Z L)).length)) [some ⟨a3s L, 25, false, false⟩, some ⟨a3s (listOf X Y Z (nearTo X Y Z a b c 6 &&& setOf Y Z L)), 25, false, true⟩] := by
  refine sound_intro (C := cx) Try.func63 rfl (by kernel_rfl) fun hcl => ?_
  have hz := hs.size
  have hx0 := hs.x0
  have hx4 := hs.x4
  have hy0 := hs.y0
  have hy4 := hs.y4
  have hz0 := hs.z0
  have hz4 := hs.z4
  have hlen := hL.len
  have hlt := hL.lt64 hs
  have hh3 := (has3_iff (c := A3.mk a b c)).1 hh
  simp only at hh3
  refine cSeq ?_
  refine cReg ?_
  refine segEnd [2, 3] (T1 := (mkT 32 [(2, vP 1 0), (3, vP 2 0)])) (H1 := [some ⟨a3s L, 25, false, false⟩, rB [vN X, vN Y, vN Z, vS 0 L.length] 29, rB [vI a, vI b, vI c] 25]) (by kernel_rfl) ?_
  refine kSeq ?_
  refine cSeq ?_
  refine cReg ?_
  refine segEnd [2, 3, 5] (T1 := (mkT 32 [(2, vP 1 0), (3, vP 2 0), (5, vS 3 0)])) (H1 := [some ⟨a3s L, 25, false, false⟩, rB [vN X, vN Y, vN Z, vS 0 L.length] 29, rB [vI a, vI b, vI c] 25, some ⟨[], 25, false, true⟩]) (by kernel_rfl) ?_
  refine kSeq ?_
  refine cSeq ?_
  refine cSeq ?_
  refine cReg ?_
  refine segEndH [2, 3, 5, 6] (T1 := (mkT 32 [(2, vP 1 0), (3, vP 2 0), (5, vS 3 0), (6, vI 0)])) (by kernel_rfl) ?_
  refine kSeq ?_
  refine cBlk ?_
  -- loop
  refine cLoop (fun mm T H => ∃ i : Nat, ∃ M : List A3, (i ≤ L.length) ∧ (M = (L.take i).filter (fun d => apart d.x d.y d.z a b c == 1)) ∧ mm = L.length - i ∧ T = (mkT 32 [(2, vP 1 0), (3, vP 2 0), (5, vS 3 M.length), (6, vN i)]) ∧ H = [some ⟨a3s L, 25, false, false⟩, rB [vN X, vN Y, vN Z, vS 0 L.length] 29, rB [vI a, vI b, vI c] 25, some ⟨a3s M, 25, false, true⟩]) (L.length - 0) (mkT 32 [(2, vP 1 0), (3, vP 2 0), (5, vS 3 (([] : List A3).length)), (6, vI 0)]) [some ⟨a3s L, 25, false, false⟩, rB [vN X, vN Y, vN Z, vS 0 L.length] 29, rB [vI a, vI b, vI c] 25, some ⟨a3s ([] : List A3), 25, false, true⟩] (wkSame [2, 3, 5, 6] (by kernel_rfl)) ?_ ?_
  · exact ⟨0, ([] : List A3), (Nat.zero_le _), (by simp), rfl, rfl, rfl⟩
  · rintro _ _ _ ⟨i, M, hi, hM, rfl, rfl, rfl⟩
    have hml : M.length ≤ i := (by rw [hM]; exact Nat.le_trans (List.length_filter_le _ _) (by simp; omega))
    refine cSeq ?_
    refine cSeq ?_
    refine cReg ?_
    refine segEndH [2, 3, 5, 6, 12] (T1 := (mkT 32 [(2, vP 1 0), (3, vP 2 0), (5, vS 3 M.length), (6, vN i), (12, .bool (decide (((i : Nat) : Int) < ((L.length : Nat) : Int))))])) (by kernel_rfl) ?_
    refine kSeq ?_
    cases h1 : (decide (((i : Nat) : Int) < ((L.length : Nat) : Int)) : Bool)
    ·
      have h1k := h1
      (try simp only [Bool.not_eq_true', Bool.not_eq_false', decide_eq_true_eq, decide_eq_false_iff_not, beq_iff_eq, bne_iff_ne, beq_eq_false_iff_ne, bne_eq_false_iff_eq, ne_eq, Decidable.not_not, Bool.and_eq_true, Bool.and_eq_false_imp, Bool.or_eq_true, Bool.or_eq_false_iff, Bool.not_eq_true, Int.not_lt, Int.not_le, ge_iff_le, gt_iff_lt] at h1)
      refine cFalse (by kernel_rfl) ?_
      refine cExit ?_
      refine kSeqE ?_
      refine kLoopE ?_
      refine kBlkHit ?_
      refine kSeq ?_
      refine cSeq ?_
      refine cReg ?_
      refine segEndH [4] (T1 := (mkT 32 [(4, vS 3 M.length)])) (by kernel_rfl) ?_
      refine kSeq ?_
      refine cRet ?_
      -- end
      have he0 : (M : List A3) = (listOf X Y Z (nearTo X Y Z a b c 6 &&& setOf Y Z L)) := by (rw [hM, take_end (by omega)]; exact near_end hs hL)
      refine endCast (v1 := vS 1 M.length) (H1 := [some ⟨a3s L, 25, false, false⟩, some ⟨a3s M, 25, false, true⟩]) (by first | rfl | ((try rw [← he0]); done) | (simp only [← he0]; done)) (by first | rfl | ((try rw [← he0]); done) | (simp only [← he0]; done)) ?_
      exact endF (Or.inr rfl) (l := [vS 3 M.length]) [0, 3] (by kernel_rfl) (by first | rfl | simp [packR, mpV, mpA, mpS, mpP, renId]) ⟨rrF (flatA3 _ _ _ _) rfl, ⟨rrF (flatA3 _ _ _ _) rfl, trivial⟩⟩ rfl rfl
    ·
      have h1k := h1
      (try simp only [Bool.not_eq_true', Bool.not_eq_false', decide_eq_true_eq, decide_eq_false_iff_not, beq_iff_eq, bne_iff_ne, beq_eq_false_iff_ne, bne_eq_false_iff_eq, ne_eq, Decidable.not_not, Bool.and_eq_true, Bool.and_eq_false_imp, Bool.or_eq_true, Bool.or_eq_false_iff, Bool.not_eq_true, Int.not_lt, Int.not_le, ge_iff_le, gt_iff_lt] at h1)
      have hc0 := (hL.small hs).at (i := i) (by omega)
      refine cTrue (by kernel_rfl) ?_
      refine cSkip ?_
      refine kSeq ?_
      refine cSeq ?_
      refine cBlk ?_
      refine cSeq ?_
      refine cRegW (N := 4) [⟨[], [], []⟩, ⟨[], [], [1]⟩, ⟨[], [], []⟩, ⟨[], [], []⟩, ⟨[], [], [0]⟩, ⟨[], [], [2]⟩, ⟨[], [], []⟩, ⟨[], [], []⟩] 0 [] (by rfl) (by rfl) (by kernel_rfl) (by kernel_rfl) (by kernel_rfl) ⟨nmsF (flatA3 _ _ _ _), ⟨nmsX (by kernel_rfl), ⟨nmsX (by kernel_rfl), ⟨nmsF (flatA3 _ _ _ _), trivial⟩⟩⟩⟩ ?_
      refine segWH 3 (T1 := (mkT 32 [(2, vP 1 0), (3, vP 2 0), (5, vS 3 M.length), (6, vN i), (12, .bool true), (15, vP 1 3), (16, vS 0 L.length), (17, vN i)])) (by kernel_rfl) ?_
      refine rW (m := ⟨[], [], []⟩) (v := vP 0 (i * 3)) rfl (by kernel_rfl) (stId (eIdxS (ad := ⟨0, 0, none⟩) (n := L.length) (m := 0) (k := .i64) (c := ((i : Nat) : Int)) (j := i) (o := i * 3) (by kernel_rfl) (by kernel_rfl) ti22 ti25 (rfl) (by omega) (by exact Nat.zero_add _)) rfl (by kernel_rfl) (by kernel_rfl) (by kernel_rfl)) (by kernel_rfl) nr0 ?_
      refine rW (m := ⟨[], [], [0]⟩) (v := .agg #[vI ((L.getD i default).x), vI ((L.getD i default).y), vI ((L.getD i default).z)]) rfl (by kernel_rfl) (stId (eLdA3 (ad := ⟨0, i * 3, none⟩) (r := ⟨a3s L, 25, false, false⟩) (L := L) (j := i) (by kernel_rfl) (by kernel_rfl) rfl (by first | rfl | omega) (by omega) ti25) rfl (by kernel_rfl) (by kernel_rfl) (by kernel_rfl)) (by kernel_rfl) nr0 ?_
      refine segWH 1 (T1 := (mkT 32 [(2, vP 1 0), (3, vP 2 0), (5, vS 3 M.length), (6, vN i), (12, .bool true), (15, vP 1 3), (16, vS 0 L.length), (17, vN i), (18, vP 0 (i * 3)), (19, .agg #[vI ((L.getD i default).x), vI ((L.getD i default).y), vI ((L.getD i default).z)]), (20, .agg #[vI a, vI b, vI c])])) (by kernel_rfl) ?_
      refine rW (m := ⟨[], [], []⟩) (v := vI (apart ((L.getD i default).x) ((L.getD i default).y) ((L.getD i default).z) a b c)) rfl (by kernel_rfl) (stQ (args := [.agg #[vI ((L.getD i default).x), vI ((L.getD i default).y), vI ((L.getD i default).z)], .agg #[vI a, vI b, vI c]]) rfl (by kernel_rfl) (Any.lay0 [] (l2ApartB ((L.getD i default).x) ((L.getD i default).y) ((L.getD i default).z) a b c (by first | assumption | omega | rfl | decide | exact HeapL.list _ _ _ _ | exact HeapL.nil _ _ _ | exact HeapL.all _ _ _ | (apply HeapL.lt64 <;> assumption) | (repeat' (first | assumption | apply or_lt64 | apply and_lt64 | apply andn_lt64 | apply pow_lt64 | (apply HeapL.lt64 <;> assumption))))) trivial rfl trivial rfl (by first | rfl | simp [mpV, mpA, mpS, mpP, renId, shift]) rfl) rfl (by kernel_rfl) (by kernel_rfl)) (by kernel_rfl) nr0 ?_
      refine segEndWH [2, 3, 5, 6, 22] (T1 := (mkT 32 [(2, vP 1 0), (3, vP 2 0), (5, vS 3 M.length), (6, vN i), (22, .bool (apart ((L.getD i default).x) ((L.getD i default).y) ((L.getD i default).z) a b c == 1))])) (by kernel_rfl) ?_
      refine kSeq ?_
      cases h2 : ((apart ((L.getD i default).x) ((L.getD i default).y) ((L.getD i default).z) a b c == 1) : Bool)
      ·
        have h2k := h2
        (try simp only [Bool.not_eq_true', Bool.not_eq_false', decide_eq_true_eq, decide_eq_false_iff_not, beq_iff_eq, bne_iff_ne, beq_eq_false_iff_ne, bne_eq_false_iff_eq, ne_eq, Decidable.not_not, Bool.and_eq_true, Bool.and_eq_false_imp, Bool.or_eq_true, Bool.or_eq_false_iff, Bool.not_eq_true, Int.not_lt, Int.not_le, ge_iff_le, gt_iff_lt] at h2)
        refine cFalse (by kernel_rfl) ?_
        refine cSkip ?_
        refine kBlk ?_
        refine kSeq ?_
        refine cReg ?_
        refine segH 1 (T1 := (mkT 32 [(2, vP 1 0), (3, vP 2 0), (5, vS 3 M.length), (6, vN i), (13, vN i), (22, .bool false)])) (by kernel_rfl) ?_
        refine rOp (v := vN (i + 1)) (by kernel_rfl) (eAdd (k := .i64) (a := ((i : Nat) : Int)) (b := 1) (c := ((i + 1 : Nat) : Int)) (by kernel_rfl) (by kernel_rfl) (wr64 (by omega) (by omega) (by omega))) ?_
        refine segEndH [2, 3, 5, 6] (T1 := (mkT 32 [(2, vP 1 0), (3, vP 2 0), (5, vS 3 M.length), (6, vN (i + 1))])) (by kernel_rfl) ?_
        exact kLoop (L.length - (i + 1)) (mkT 32 [(2, vP 1 0), (3, vP 2 0), (5, vS 3 M.length), (6, vN (i + 1))]) [some ⟨a3s L, 25, false, false⟩, rB [vN X, vN Y, vN Z, vS 0 L.length] 29, rB [vI a, vI b, vI c] 25, some ⟨a3s M, 25, false, true⟩] (by omega) (wkSame [2, 3, 5, 6] (by kernel_rfl)) ⟨(i + 1), M, (by omega), (by first | (rw [hM]; exact take_filter_yes (by omega) (by assumption)) | (rw [hM]; exact take_filter_no (by omega) (by assumption))), rfl, rfl, rfl⟩
      ·
        have h2k := h2
        (try simp only [Bool.not_eq_true', Bool.not_eq_false', decide_eq_true_eq, decide_eq_false_iff_not, beq_iff_eq, bne_iff_ne, beq_eq_false_iff_ne, bne_eq_false_iff_eq, ne_eq, Decidable.not_not, Bool.and_eq_true, Bool.and_eq_false_imp, Bool.or_eq_true, Bool.or_eq_false_iff, Bool.not_eq_true, Int.not_lt, Int.not_le, ge_iff_le, gt_iff_lt] at h2)
        refine cTrue (by kernel_rfl) ?_
        refine cReg ?_
        refine segH 4 (T1 := (mkT 32 [(2, vP 1 0), (3, vP 2 0), (5, vS 3 M.length), (6, vN i), (22, .bool true), (23, vS 3 M.length), (24, vP 1 3), (25, vS 0 L.length), (26, vN i)])) (by kernel_rfl) ?_
        refine rOp (v := vP 0 (i * 3)) (by kernel_rfl) (eIdxS (ad := ⟨0, 0, none⟩) (n := L.length) (m := 0) (k := .i64) (c := ((i : Nat) : Int)) (j := i) (o := i * 3) (by kernel_rfl) (by kernel_rfl) ti22 ti25 (rfl) (by omega) (by exact Nat.zero_add _)) ?_
        refine rOp (v := .agg #[vI ((L.getD i default).x), vI ((L.getD i default).y), vI ((L.getD i default).z)]) (by kernel_rfl) (eLdA3 (ad := ⟨0, i * 3, none⟩) (r := ⟨a3s L, 25, false, false⟩) (L := L) (j := i) (by kernel_rfl) (by kernel_rfl) rfl (by first | rfl | omega) (by omega) ti25) ?_
        refine seg 1 (T1 := (mkT 32 [(2, vP 1 0), (3, vP 2 0), (5, vS 3 M.length), (6, vN i), (22, .bool true), (23, vS 3 M.length), (24, vP 1 3), (25, vS 0 L.length), (26, vN i), (27, vP 0 (i * 3)), (28, .agg #[vI ((L.getD i default).x), vI ((L.getD i default).y), vI ((L.getD i default).z)]), (29, vS 4 1)])) (H1 := [some ⟨a3s L, 25, false, false⟩, rB [vN X, vN Y, vN Z, vS 0 L.length] 29, rB [vI a, vI b, vI c] 25, some ⟨a3s M, 25, false, true⟩, some ⟨[vI ((L.getD i default).x), vI ((L.getD i default).y), vI ((L.getD i default).z)], 25, false, true⟩]) (by kernel_rfl) ?_
        refine rOp (v := vS 5 ((M ++ [(L.getD i default)]).length)) (H' := [some ⟨a3s L, 25, false, false⟩, rB [vN X, vN Y, vN Z, vS 0 L.length] 29, rB [vI a, vI b, vI c] 25, none, some ⟨[vI ((L.getD i default).x), vI ((L.getD i default).y), vI ((L.getD i default).z)], 25, false, true⟩, some ⟨a3s (M ++ [(L.getD i default)]), 25, false, true⟩]) (by kernel_rfl) (eAppA3 (b := 3) (a := 4) (L := M) (c := (L.getD i default)) (r := ⟨[vI ((L.getD i default).x), vI ((L.getD i default).y), vI ((L.getD i default).z)], 25, false, true⟩) (m := 0) (by kernel_rfl) (by kernel_rfl) ti22 ti25 rfl rfl (by decide) (by kernel_rfl) (by kernel_rfl) rfl (by first | omega | (simp <;> omega)) rfl) ?_
        refine segEnd [2, 3, 5, 6] (T1 := (mkT 32 [(2, vP 1 0), (3, vP 2 0), (5, vS 5 ((M ++ [(L.getD i default)]).length)), (6, vN i)])) (H1 := [some ⟨a3s L, 25, false, false⟩, rB [vN X, vN Y, vN Z, vS 0 L.length] 29, rB [vI a, vI b, vI c] 25, none, some ⟨[vI ((L.getD i default).x), vI ((L.getD i default).y), vI ((L.getD i default).z)], 25, false, true⟩, some ⟨a3s (M ++ [(L.getD i default)]), 25, false, true⟩]) (by kernel_rfl) ?_
        refine kBlk ?_
        refine kSeq ?_
        refine cReg ?_
        refine segH 1 (T1 := (mkT 32 [(2, vP 1 0), (3, vP 2 0), (5, vS 5 ((M ++ [(L.getD i default)]).length)), (6, vN i), (13, vN i)])) (by kernel_rfl) ?_
        refine rOp (v := vN (i + 1)) (by kernel_rfl) (eAdd (k := .i64) (a := ((i : Nat) : Int)) (b := 1) (c := ((i + 1 : Nat) : Int)) (by kernel_rfl) (by kernel_rfl) (wr64 (by omega) (by omega) (by omega))) ?_
        refine segEndH [2, 3, 5, 6] (T1 := (mkT 32 [(2, vP 1 0), (3, vP 2 0), (5, vS 5 ((M ++ [(L.getD i default)]).length)), (6, vN (i + 1))])) (by kernel_rfl) ?_
        exact kLoop (L.length - (i + 1)) (mkT 32 [(2, vP 1 0), (3, vP 2 0), (5, vS 3 ((M ++ [(L.getD i default)]).length)), (6, vN (i + 1))]) [some ⟨a3s L, 25, false, false⟩, rB [vN X, vN Y, vN Z, vS 0 L.length] 29, rB [vI a, vI b, vI c] 25, some ⟨a3s (M ++ [(L.getD i default)]), 25, false, true⟩] (by omega) (wkRen [0, 1, 2, 5] [2, 3, 5, 6] ⟨rrF (flatA3 _ _ _ _) rfl, ⟨rrX rfl rfl, ⟨rrX rfl rfl, ⟨rrF (flatA3 _ _ _ _) rfl, trivial⟩⟩⟩⟩ rfl (by kernel_rfl) rfl) ⟨(i + 1), (M ++ [(L.getD i default)]), (by omega), (by first | (rw [hM]; exact take_filter_yes (by omega) (by assumption)) | (rw [hM]; exact take_filter_no (by omega) (by assumption))), rfl, rfl, rfl⟩

set_option maxRecDepth 100000 in
set_option maxHeartbeats 4000000 in
theorem nearB (X : Nat) (Y : Nat) (Z : Nat) (a : Int) (b : Int) (c : Int) (hs : Sides X Y Z) (hh : has3 (X : Int) (Y : Int) (Z : Int) a b c = true) : Sound Try.prog 65 [.agg #[vN X, vN Y, vN Z], .agg #[vI a, vI b, vI c]] [] (vU (nearTo X Y Z a b c 6)) [] := by
  refine sound_intro (C := cx) Try.func65 rfl (by kernel_rfl) fun hcl => ?_
  have hz := hs.size
  have hx0 := hs.x0
  have hx4 := hs.x4
  have hy0 := hs.y0
  have hy4 := hs.y4
  have hz0 := hs.z0
  have hz4 := hs.z4
  have hh3 := (has3_iff (c := A3.mk a b c)).1 hh
  simp only at hh3
  refine cSeq ?_
  refine cReg ?_
  refine segEnd [2, 3] (T1 := (mkT 36 [(2, vP 0 0), (3, vP 1 0)])) (H1 := [rB [vN X, vN Y, vN Z] 60, rB [vI a, vI b, vI c] 25]) (by kernel_rfl) ?_
  refine kSeq ?_
  refine cSeq ?_
  refine cReg ?_
  refine segEndH [2, 3, 5] (T1 := (mkT 36 [(2, vP 0 0), (3, vP 1 0), (5, vU 0)])) (by kernel_rfl) ?_
  refine kSeq ?_
  refine cSeq ?_
  refine cSeq ?_
  refine cReg ?_
  refine segEndH [2, 3, 5, 10] (T1 := (mkT 36 [(2, vP 0 0), (3, vP 1 0), (5, vU 0), (10, vI 0)])) (by kernel_rfl) ?_
  refine kSeq ?_
  refine cBlk ?_
  -- loop
  refine cLoop (fun mm T H => ∃ d : Nat, ∃ s : Nat, (d ≤ 3) ∧ (s = nearTo X Y Z a b c (2 * d)) ∧ mm = 3 - d ∧ T = (mkT 36 [(2, vP 0 0), (3, vP 1 0), (5, vU s), (10, vN d)]) ∧ H = [rB [vN X, vN Y, vN Z] 60, rB [vI a, vI b, vI c] 25]) (3 - 0) (mkT 36 [(2, vP 0 0), (3, vP 1 0), (5, vU 0), (10, vI 0)]) [rB [vN X, vN Y, vN Z] 60, rB [vI a, vI b, vI c] 25] (wkSame [2, 3, 5, 10] (by kernel_rfl)) ?_ ?_
  · exact ⟨0, 0, (Nat.zero_le _), (rfl), rfl, rfl, rfl⟩
  · rintro _ _ _ ⟨d, s, hd, hs1, rfl, rfl, rfl⟩
    have hslt : s < 18446744073709551616 := hs1 ▸ nearTo_lt hs _
    have hcase : d = 0 ∨ d = 1 ∨ d = 2 ∨ d = 3 := by omega
    rcases hcase with rfl | rfl | rfl | rfl
    ·
      refine cSeq ?_
      refine cReg ?_
      refine segEndH [2, 3, 5, 10, 11] (T1 := (mkT 36 [(2, vP 0 0), (3, vP 1 0), (5, vU s), (10, vI 0), (11, .bool true)])) (by kernel_rfl) ?_
      refine kSeq ?_
      refine cSeq ?_
      refine cTrue (by kernel_rfl) ?_
      refine cSkip ?_
      refine kSeq ?_
      refine cSeq ?_
      refine cBlk ?_
      refine cSeq ?_
      refine cReg ?_
      refine segEndH [2, 3, 5, 6, 10] (T1 := (mkT 36 [(2, vP 0 0), (3, vP 1 0), (5, vU s), (6, vI 0), (10, vI 0)])) (by kernel_rfl) ?_
      refine kSeq ?_
      refine cSeq ?_
      refine cReg ?_
      refine segEndH [2, 3, 5, 6, 10, 13, 14] (T1 := (mkT 36 [(2, vP 0 0), (3, vP 1 0), (5, vU s), (6, vI 0), (10, vI 0), (13, .agg #[vI (-1), vI 1]), (14, vI 0)])) (by kernel_rfl) ?_
      refine kSeq ?_
      refine cBlk ?_
      -- loop
      refine cLoop (fun mm T H => ∃ k : Nat, ∃ t : Nat, (k ≤ 2) ∧ (t = nearTo X Y Z a b c (0 + k)) ∧ mm = 2 - k ∧ T = (mkT 36 [(2, vP 0 0), (3, vP 1 0), (5, vU t), (6, vI 0), (10, vI 0), (13, .agg #[vI (-1), vI 1]), (14, vN k)]) ∧ H = [rB [vN X, vN Y, vN Z] 60, rB [vI a, vI b, vI c] 25]) (2 - 0) (mkT 36 [(2, vP 0 0), (3, vP 1 0), (5, vU s), (6, vI 0), (10, vI 0), (13, .agg #[vI (-1), vI 1]), (14, vI 0)]) [rB [vN X, vN Y, vN Z] 60, rB [vI a, vI b, vI c] 25] (wkSame [2, 3, 5, 6, 10, 13, 14] (by kernel_rfl)) ?_ ?_
      · exact ⟨0, s, (Nat.zero_le _), (by rw [hs1]), rfl, rfl, rfl⟩
      · rintro _ _ _ ⟨k, t, hk, hs1b, rfl, rfl, rfl⟩
        have htlt : t < 18446744073709551616 := hs1b ▸ nearTo_lt hs _
        have hcase : k = 0 ∨ k = 1 ∨ k = 2 := by omega
        rcases hcase with rfl | rfl | rfl
        ·
          refine cSeq ?_
          refine cReg ?_
          refine segEndH [2, 3, 5, 6, 10, 13, 14, 15] (T1 := (mkT 36 [(2, vP 0 0), (3, vP 1 0), (5, vU t), (6, vI 0), (10, vI 0), (13, .agg #[vI (-1), vI 1]), (14, vI 0), (15, .bool true)])) (by kernel_rfl) ?_
          refine kSeq ?_
          refine cSeq ?_
          refine cTrue (by kernel_rfl) ?_
          refine cSkip ?_
          refine kSeq ?_
          refine cSeq ?_
          refine cBlk ?_
          refine cSeq ?_
          refine cReg ?_
          refine segEndH [2, 3, 5, 6, 8, 10, 13, 14] (T1 := (mkT 36 [(2, vP 0 0), (3, vP 1 0), (5, vU t), (6, vI 0), (8, vI (-1)), (10, vI 0), (13, .agg #[vI (-1), vI 1]), (14, vI 0)])) (by kernel_rfl) ?_
          refine kSeq ?_
          refine cSeq ?_
          refine cReg ?_
          refine segEnd [2, 3, 5, 6, 8, 9, 10, 13, 14] (T1 := (mkT 36 [(2, vP 0 0), (3, vP 1 0), (5, vU t), (6, vI 0), (8, vI (-1)), (9, vP 2 0), (10, vI 0), (13, .agg #[vI (-1), vI 1]), (14, vI 0)])) (H1 := [rB [vN X, vN Y, vN Z] 60, rB [vI a, vI b, vI c] 25, rB [vI a, vI b, vI c] 25]) (by kernel_rfl) ?_
          refine kSeq ?_
          refine cSeq ?_
          refine cReg ?_
          refine segH 4 (T1 := (mkT 36 [(2, vP 0 0), (3, vP 1 0), (5, vU t), (6, vI 0), (8, vI (-1)), (9, vP 2 0), (10, vI 0), (13, .agg #[vI (-1), vI 1]), (14, vI 0), (18, vI 0), (19, vP 2 0), (20, vI a), (21, vI (-1))])) (by kernel_rfl) ?_
          refine rOp (v := vI (a + (-1))) (by kernel_rfl) (eAdd (k := .i64) (a := a) (b := (-1)) (c := (a + (-1))) (by kernel_rfl) (by kernel_rfl) (wr64 (by omega) (by omega) (by omega))) ?_
          refine segEnd [2, 3, 5, 6, 9, 10, 13, 14] (T1 := (mkT 36 [(2, vP 0 0), (3, vP 1 0), (5, vU t), (6, vI 0), (9, vP 2 0), (10, vI 0), (13, .agg #[vI (-1), vI 1]), (14, vI 0)])) (H1 := [rB [vN X, vN Y, vN Z] 60, rB [vI a, vI b, vI c] 25, rB [vI (a + (-1)), vI b, vI c] 25]) (by kernel_rfl) ?_
          refine kSeq ?_
          refine cSeq ?_
          refine cReg ?_
          refine segH 2 (T1 := (mkT 36 [(2, vP 0 0), (3, vP 1 0), (5, vU t), (6, vI 0), (9, vP 2 0), (10, vI 0), (13, .agg #[vI (-1), vI 1]), (14, vI 0), (24, .agg #[vN X, vN Y, vN Z]), (25, .agg #[vI (a + (-1)), vI b, vI c])])) (by kernel_rfl) ?_
          refine rCall (v := .bool (has3 (X : Int) (Y : Int) (Z : Int) (a + (-1)) b c)) (args := [.agg #[vN X, vN Y, vN Z], .agg #[vI (a + (-1)), vI b, vI c]]) (by kernel_rfl) rfl (by kernel_rfl) (Sound.lay0 [] (hasB X Y Z (a + (-1)) b c (by first | assumption | omega | rfl | decide | exact HeapL.list _ _ _ _ | exact HeapL.nil _ _ _ | exact HeapL.all _ _ _ | (apply HeapL.lt64 <;> assumption) | (repeat' (first | assumption | apply or_lt64 | apply and_lt64 | apply andn_lt64 | apply pow_lt64 | (apply HeapL.lt64 <;> assumption))))) trivial rfl trivial rfl (by first | rfl | simp [mpV, mpA, mpS, mpP, renId, shift]) rfl) ?_
          refine segEndH [2, 3, 5, 6, 9, 10, 13, 14, 26] (T1 := (mkT 36 [(2, vP 0 0), (3, vP 1 0), (5, vU t), (6, vI 0), (9, vP 2 0), (10, vI 0), (13, .agg #[vI (-1), vI 1]), (14, vI 0), (26, .bool (has3 (X : Int) (Y : Int) (Z : Int) (a + (-1)) b c))])) (by kernel_rfl) ?_
          refine kSeq ?_
          cases h1 : (has3 (X : Int) (Y : Int) (Z : Int) (a + (-1)) b c : Bool)
          ·
            have h1k := h1
            (try simp only [Bool.not_eq_true', Bool.not_eq_false', decide_eq_true_eq, decide_eq_false_iff_not, beq_iff_eq, bne_iff_ne, beq_eq_false_iff_ne, bne_eq_false_iff_eq, ne_eq, Decidable.not_not, Bool.and_eq_true, Bool.and_eq_false_imp, Bool.or_eq_true, Bool.or_eq_false_iff, Bool.not_eq_true, Int.not_lt, Int.not_le, ge_iff_le, gt_iff_lt] at h1)
            refine cFalse (by kernel_rfl) ?_
            refine cSkip ?_
            refine kBlk ?_
            refine kSeq ?_
            refine cReg ?_
            refine segEndH [2, 3, 5, 6, 10, 13, 14] (T1 := (mkT 36 [(2, vP 0 0), (3, vP 1 0), (5, vU t), (6, vI 0), (10, vI 0), (13, .agg #[vI (-1), vI 1]), (14, vI 1)])) (by kernel_rfl) ?_
            exact kLoop (2 - 1) (mkT 36 [(2, vP 0 0), (3, vP 1 0), (5, vU t), (6, vI 0), (10, vI 0), (13, .agg #[vI (-1), vI 1]), (14, vI 1)]) [rB [vN X, vN Y, vN Z] 60, rB [vI a, vI b, vI c] 25] (by omega) (wkDrop [2, 3, 5, 6, 10, 13, 14] _ rfl rfl ((closedL ⟨clX rfl, ⟨clX rfl, trivial⟩⟩)) (by kernel_rfl) rfl) ⟨1, t, (by omega), (by first | (rw [hs1b]; exact nearTo_yes 0 (by assumption)) | (rw [hs1b]; exact nearTo_no 0 (by assumption))), rfl, rfl, rfl⟩
          ·
            have h1k := h1
            (try simp only [Bool.not_eq_true', Bool.not_eq_false', decide_eq_true_eq, decide_eq_false_iff_not, beq_iff_eq, bne_iff_ne, beq_eq_false_iff_ne, bne_eq_false_iff_eq, ne_eq, Decidable.not_not, Bool.and_eq_true, Bool.and_eq_false_imp, Bool.or_eq_true, Bool.or_eq_false_iff, Bool.not_eq_true, Int.not_lt, Int.not_le, ge_iff_le, gt_iff_lt] at h1)
            have hidx := Nat.lt_of_lt_of_le (idx_lt (c := A3.mk _ _ _) h1) hs.size
            refine cTrue (by kernel_rfl) ?_
            refine cReg ?_
            refine segH 3 (T1 := (mkT 36 [(2, vP 0 0), (3, vP 1 0), (5, vU t), (6, vI 0), (9, vP 2 0), (10, vI 0), (13, .agg #[vI (-1), vI 1]), (14, vI 0), (26, .bool true), (27, vU t), (28, .agg #[vN X, vN Y, vN Z]), (29, .agg #[vI (a + (-1)), vI b, vI c])])) (by kernel_rfl) ?_
            refine rCall (v := vN (idxN Y Z (A3.mk (a + (-1)) b c))) (args := [.agg #[vN X, vN Y, vN Z], .agg #[vI (a + (-1)), vI b, vI c]]) (by kernel_rfl) rfl (by kernel_rfl) (Sound.lay0 [] (indexB X Y Z (a + (-1)) b c (by first | assumption | omega | rfl | decide | exact HeapL.list _ _ _ _ | exact HeapL.nil _ _ _ | exact HeapL.all _ _ _ | (apply HeapL.lt64 <;> assumption) | (repeat' (first | assumption | apply or_lt64 | apply and_lt64 | apply andn_lt64 | apply pow_lt64 | (apply HeapL.lt64 <;> assumption)))) (by first | assumption | omega | rfl | decide | exact HeapL.list _ _ _ _ | exact HeapL.nil _ _ _ | exact HeapL.all _ _ _ | (apply HeapL.lt64 <;> assumption) | (repeat' (first | assumption | apply or_lt64 | apply and_lt64 | apply andn_lt64 | apply pow_lt64 | (apply HeapL.lt64 <;> assumption))))) trivial rfl trivial rfl (by first | rfl | simp [mpV, mpA, mpS, mpP, renId, shift]) rfl) ?_
            refine rOp (v := vU (2 ^ (idxN Y Z (A3.mk (a + (-1)) b c)))) (by kernel_rfl) (eShl (k := .u64) (a := 1) (b := ((idxN Y Z (A3.mk (a + (-1)) b c) : Nat) : Int)) (k' := .i64) (c := ((2 ^ (idxN Y Z (A3.mk (a + (-1)) b c)) : Nat) : Int)) (by kernel_rfl) (by kernel_rfl) (by omega) (shl1 _ (by omega))) ?_
            refine rOp (v := vU (t ||| (2 ^ (idxN Y Z (A3.mk (a + (-1)) b c))))) (by kernel_rfl) (eOp (k := .u64) (a := ((t : Nat) : Int)) (b := ((2 ^ (idxN Y Z (A3.mk (a + (-1)) b c)) : Nat) : Int)) (by kernel_rfl) (by kernel_rfl) ⟨by decide, by decide⟩ (orU t (2 ^ (idxN Y Z (A3.mk (a + (-1)) b c))) (by first | assumption | omega | (repeat' (first | assumption | omega | apply or_lt64 | apply and_lt64 | apply andn_lt64 | apply pow_lt64 | (apply HeapL.lt64 <;> assumption)))) (by first | assumption | omega | (repeat' (first | assumption | omega | apply or_lt64 | apply and_lt64 | apply andn_lt64 | apply pow_lt64 | (apply HeapL.lt64 <;> assumption)))))) ?_
            refine segEndH [2, 3, 5, 6, 10, 13, 14] (T1 := (mkT 36 [(2, vP 0 0), (3, vP 1 0), (5, vU (t ||| (2 ^ (idxN Y Z (A3.mk (a + (-1)) b c))))), (6, vI 0), (10, vI 0), (13, .agg #[vI (-1), vI 1]), (14, vI 0)])) (by kernel_rfl) ?_
            refine kBlk ?_
            refine kSeq ?_
            refine cReg ?_
            refine segEndH [2, 3, 5, 6, 10, 13, 14] (T1 := (mkT 36 [(2, vP 0 0), (3, vP 1 0), (5, vU (t ||| (2 ^ (idxN Y Z (A3.mk (a + (-1)) b c))))), (6, vI 0), (10, vI 0), (13, .agg #[vI (-1), vI 1]), (14, vI 1)])) (by kernel_rfl) ?_
            exact kLoop (2 - 1) (mkT 36 [(2, vP 0 0), (3, vP 1 0), (5, vU (t ||| (2 ^ (idxN Y Z (A3.mk (a + (-1)) b c))))), (6, vI 0), (10, vI 0), (13, .agg #[vI (-1), vI 1]), (14, vI 1)]) [rB [vN X, vN Y, vN Z] 60, rB [vI a, vI b, vI c] 25] (by omega) (wkDrop [2, 3, 5, 6, 10, 13, 14] _ rfl rfl ((closedL ⟨clX rfl, ⟨clX rfl, trivial⟩⟩)) (by kernel_rfl) rfl) ⟨1, (t ||| (2 ^ (idxN Y Z (A3.mk (a + (-1)) b c)))), (by omega), (by first | (rw [hs1b]; exact nearTo_yes 0 (by assumption)) | (rw [hs1b]; exact nearTo_no 0 (by assumption))), rfl, rfl, rfl⟩
        ·
          refine cSeq ?_
          refine cReg ?_
          refine segEndH [2, 3, 5, 6, 10, 13, 14, 15] (T1 := (mkT 36 [(2, vP 0 0), (3, vP 1 0), (5, vU t), (6, vI 0), (10, vI 0), (13, .agg #[vI (-1), vI 1]), (14, vI 1), (15, .bool true)])) (by kernel_rfl) ?_
          refine kSeq ?_
          refine cSeq ?_
          refine cTrue (by kernel_rfl) ?_
          refine cSkip ?_
          refine kSeq ?_
          refine cSeq ?_
          refine cBlk ?_
          refine cSeq ?_
          refine cReg ?_
          refine segEndH [2, 3, 5, 6, 8, 10, 13, 14] (T1 := (mkT 36 [(2, vP 0 0), (3, vP 1 0), (5, vU t), (6, vI 0), (8, vI 1), (10, vI 0), (13, .agg #[vI (-1), vI 1]), (14, vI 1)])) (by kernel_rfl) ?_
          refine kSeq ?_
          refine cSeq ?_
          refine cReg ?_
          refine segEnd [2, 3, 5, 6, 8, 9, 10, 13, 14] (T1 := (mkT 36 [(2, vP 0 0), (3, vP 1 0), (5, vU t), (6, vI 0), (8, vI 1), (9, vP 2 0), (10, vI 0), (13, .agg #[vI (-1), vI 1]), (14, vI 1)])) (H1 := [rB [vN X, vN Y, vN Z] 60, rB [vI a, vI b, vI c] 25, rB [vI a, vI b, vI c] 25]) (by kernel_rfl) ?_
          refine kSeq ?_
          refine cSeq ?_
          refine cReg ?_
          refine segH 4 (T1 := (mkT 36 [(2, vP 0 0), (3, vP 1 0), (5, vU t), (6, vI 0), (8, vI 1), (9, vP 2 0), (10, vI 0), (13, .agg #[vI (-1), vI 1]), (14, vI 1), (18, vI 0), (19, vP 2 0), (20, vI a), (21, vI 1)])) (by kernel_rfl) ?_
          refine rOp (v := vI (a + 1)) (by kernel_rfl) (eAdd (k := .i64) (a := a) (b := 1) (c := (a + 1)) (by kernel_rfl) (by kernel_rfl) (wr64 (by omega) (by omega) (by omega))) ?_
          refine segEnd [2, 3, 5, 6, 9, 10, 13, 14] (T1 := (mkT 36 [(2, vP 0 0), (3, vP 1 0), (5, vU t), (6, vI 0), (9, vP 2 0), (10, vI 0), (13, .agg #[vI (-1), vI 1]), (14, vI 1)])) (H1 := [rB [vN X, vN Y, vN Z] 60, rB [vI a, vI b, vI c] 25, rB [vI (a + 1), vI b, vI c] 25]) (by kernel_rfl) ?_
          refine kSeq ?_
          refine cSeq ?_
          refine cReg ?_
          refine segH 2 (T1 := (mkT 36 [(2, vP 0 0), (3, vP 1 0), (5, vU t), (6, vI 0), (9, vP 2 0), (10, vI 0), (13, .agg #[vI (-1), vI 1]), (14, vI 1), (24, .agg #[vN X, vN Y, vN Z]), (25, .agg #[vI (a + 1), vI b, vI c])])) (by kernel_rfl) ?_
          refine rCall (v := .bool (has3 (X : Int) (Y : Int) (Z : Int) (a + 1) b c)) (args := [.agg #[vN X, vN Y, vN Z], .agg #[vI (a + 1), vI b, vI c]]) (by kernel_rfl) rfl (by kernel_rfl) (Sound.lay0 [] (hasB X Y Z (a + 1) b c (by first | assumption | omega | rfl | decide | exact HeapL.list _ _ _ _ | exact HeapL.nil _ _ _ | exact HeapL.all _ _ _ | (apply HeapL.lt64 <;> assumption) | (repeat' (first | assumption | apply or_lt64 | apply and_lt64 | apply andn_lt64 | apply pow_lt64 | (apply HeapL.lt64 <;> assumption))))) trivial rfl trivial rfl (by first | rfl | simp [mpV, mpA, mpS, mpP, renId, shift]) rfl) ?_
          refine segEndH [2, 3, 5, 6, 9, 10, 13, 14, 26] (T1 := (mkT 36 [(2, vP 0 0), (3, vP 1 0), (5, vU t), (6, vI 0), (9, vP 2 0), (10, vI 0), (13, .agg #[vI (-1), vI 1]), (14, vI 1), (26, .bool (has3 (X : Int) (Y : Int) (Z : Int) (a + 1) b c))])) (by kernel_rfl) ?_
          refine kSeq ?_
          cases h2 : (has3 (X : Int) (Y : Int) (Z : Int) (a + 1) b c : Bool)
          ·
            have h2k := h2
            (try simp only [Bool.not_eq_true', Bool.not_eq_false', decide_eq_true_eq, decide_eq_false_iff_not, beq_iff_eq, bne_iff_ne, beq_eq_false_iff_ne, bne_eq_false_iff_eq, ne_eq, Decidable.not_not, Bool.and_eq_true, Bool.and_eq_false_imp, Bool.or_eq_true, Bool.or_eq_false_iff, Bool.not_eq_true, Int.not_lt, Int.not_le, ge_iff_le, gt_iff_lt] at h2)
            refine cFalse (by kernel_rfl) ?_
            refine cSkip ?_
            refine kBlk ?_
            refine kSeq ?_
            refine cReg ?_
            refine segEndH [2, 3, 5, 6, 10, 13, 14] (T1 := (mkT 36 [(2, vP 0 0), (3, vP 1 0), (5, vU t), (6, vI 0), (10, vI 0), (13, .agg #[vI (-1), vI 1]), (14, vI 2)])) (by kernel_rfl) ?_
            exact kLoop (2 - 2) (mkT 36 [(2, vP 0 0), (3, vP 1 0), (5, vU t), (6, vI 0), (10, vI 0), (13, .agg #[vI (-1), vI 1]), (14, vI 2)]) [rB [vN X, vN Y, vN Z] 60, rB [vI a, vI b, vI c] 25] (by omega) (wkDrop [2, 3, 5, 6, 10, 13, 14] _ rfl rfl ((closedL ⟨clX rfl, ⟨clX rfl, trivial⟩⟩)) (by kernel_rfl) rfl) ⟨2, t, (by omega), (by first | (rw [hs1b]; exact nearTo_yes 1 (by assumption)) | (rw [hs1b]; exact nearTo_no 1 (by assumption))), rfl, rfl, rfl⟩
          ·
            have h2k := h2
            (try simp only [Bool.not_eq_true', Bool.not_eq_false', decide_eq_true_eq, decide_eq_false_iff_not, beq_iff_eq, bne_iff_ne, beq_eq_false_iff_ne, bne_eq_false_iff_eq, ne_eq, Decidable.not_not, Bool.and_eq_true, Bool.and_eq_false_imp, Bool.or_eq_true, Bool.or_eq_false_iff, Bool.not_eq_true, Int.not_lt, Int.not_le, ge_iff_le, gt_iff_lt] at h2)
            have hidx := Nat.lt_of_lt_of_le (idx_lt (c := A3.mk _ _ _) h2) hs.size
            refine cTrue (by kernel_rfl) ?_
            refine cReg ?_
            refine segH 3 (T1 := (mkT 36 [(2, vP 0 0), (3, vP 1 0), (5, vU t), (6, vI 0), (9, vP 2 0), (10, vI 0), (13, .agg #[vI (-1), vI 1]), (14, vI 1), (26, .bool true), (27, vU t), (28, .agg #[vN X, vN Y, vN Z]), (29, .agg #[vI (a + 1), vI b, vI c])])) (by kernel_rfl) ?_
            refine rCall (v := vN (idxN Y Z (A3.mk (a + 1) b c))) (args := [.agg #[vN X, vN Y, vN Z], .agg #[vI (a + 1), vI b, vI c]]) (by kernel_rfl) rfl (by kernel_rfl) (Sound.lay0 [] (indexB X Y Z (a + 1) b c (by first | assumption | omega | rfl | decide | exact HeapL.list _ _ _ _ | exact HeapL.nil _ _ _ | exact HeapL.all _ _ _ | (apply HeapL.lt64 <;> assumption) | (repeat' (first | assumption | apply or_lt64 | apply and_lt64 | apply andn_lt64 | apply pow_lt64 | (apply HeapL.lt64 <;> assumption)))) (by first | assumption | omega | rfl | decide | exact HeapL.list _ _ _ _ | exact HeapL.nil _ _ _ | exact HeapL.all _ _ _ | (apply HeapL.lt64 <;> assumption) | (repeat' (first | assumption | apply or_lt64 | apply and_lt64 | apply andn_lt64 | apply pow_lt64 | (apply HeapL.lt64 <;> assumption))))) trivial rfl trivial rfl (by first | rfl | simp [mpV, mpA, mpS, mpP, renId, shift]) rfl) ?_
            refine rOp (v := vU (2 ^ (idxN Y Z (A3.mk (a + 1) b c)))) (by kernel_rfl) (eShl (k := .u64) (a := 1) (b := ((idxN Y Z (A3.mk (a + 1) b c) : Nat) : Int)) (k' := .i64) (c := ((2 ^ (idxN Y Z (A3.mk (a + 1) b c)) : Nat) : Int)) (by kernel_rfl) (by kernel_rfl) (by omega) (shl1 _ (by omega))) ?_
            refine rOp (v := vU (t ||| (2 ^ (idxN Y Z (A3.mk (a + 1) b c))))) (by kernel_rfl) (eOp (k := .u64) (a := ((t : Nat) : Int)) (b := ((2 ^ (idxN Y Z (A3.mk (a + 1) b c)) : Nat) : Int)) (by kernel_rfl) (by kernel_rfl) ⟨by decide, by decide⟩ (orU t (2 ^ (idxN Y Z (A3.mk (a + 1) b c))) (by first | assumption | omega | (repeat' (first | assumption | omega | apply or_lt64 | apply and_lt64 | apply andn_lt64 | apply pow_lt64 | (apply HeapL.lt64 <;> assumption)))) (by first | assumption | omega | (repeat' (first | assumption | omega | apply or_lt64 | apply and_lt64 | apply andn_lt64 | apply pow_lt64 | (apply HeapL.lt64 <;> assumption)))))) ?_
            refine segEndH [2, 3, 5, 6, 10, 13, 14] (T1 := (mkT 36 [(2, vP 0 0), (3, vP 1 0), (5, vU (t ||| (2 ^ (idxN Y Z (A3.mk (a + 1) b c))))), (6, vI 0), (10, vI 0), (13, .agg #[vI (-1), vI 1]), (14, vI 1)])) (by kernel_rfl) ?_
            refine kBlk ?_
            refine kSeq ?_
            refine cReg ?_
            refine segEndH [2, 3, 5, 6, 10, 13, 14] (T1 := (mkT 36 [(2, vP 0 0), (3, vP 1 0), (5, vU (t ||| (2 ^ (idxN Y Z (A3.mk (a + 1) b c))))), (6, vI 0), (10, vI 0), (13, .agg #[vI (-1), vI 1]), (14, vI 2)])) (by kernel_rfl) ?_
            exact kLoop (2 - 2) (mkT 36 [(2, vP 0 0), (3, vP 1 0), (5, vU (t ||| (2 ^ (idxN Y Z (A3.mk (a + 1) b c))))), (6, vI 0), (10, vI 0), (13, .agg #[vI (-1), vI 1]), (14, vI 2)]) [rB [vN X, vN Y, vN Z] 60, rB [vI a, vI b, vI c] 25] (by omega) (wkDrop [2, 3, 5, 6, 10, 13, 14] _ rfl rfl ((closedL ⟨clX rfl, ⟨clX rfl, trivial⟩⟩)) (by kernel_rfl) rfl) ⟨2, (t ||| (2 ^ (idxN Y Z (A3.mk (a + 1) b c)))), (by omega), (by first | (rw [hs1b]; exact nearTo_yes 1 (by assumption)) | (rw [hs1b]; exact nearTo_no 1 (by assumption))), rfl, rfl, rfl⟩
        ·
          refine cSeq ?_
          refine cReg ?_
          refine segEndH [2, 3, 5, 6, 10, 13, 14, 15] (T1 := (mkT 36 [(2, vP 0 0), (3, vP 1 0), (5, vU t), (6, vI 0), (10, vI 0), (13, .agg #[vI (-1), vI 1]), (14, vI 2), (15, .bool false)])) (by kernel_rfl) ?_
          refine kSeq ?_
          refine cSeq ?_
          refine cFalse (by kernel_rfl) ?_
          refine cExit ?_
          refine kSeqE ?_
          refine kLoopE ?_
          refine kBlkHit ?_
          refine kBlk ?_
          refine kSeq ?_
          refine cReg ?_
          refine segEndH [2, 3, 5, 10] (T1 := (mkT 36 [(2, vP 0 0), (3, vP 1 0), (5, vU t), (10, vI 1)])) (by kernel_rfl) ?_
          exact kLoop (3 - 1) (mkT 36 [(2, vP 0 0), (3, vP 1 0), (5, vU t), (10, vI 1)]) [rB [vN X, vN Y, vN Z] 60, rB [vI a, vI b, vI c] 25] (by omega) (wkSame [2, 3, 5, 10] (by kernel_rfl)) ⟨1, t, (by omega), (by rw [hs1b]), rfl, rfl, rfl⟩
    ·
      refine cSeq ?_
      refine cReg ?_
      refine segEndH [2, 3, 5, 10, 11] (T1 := (mkT 36 [(2, vP 0 0), (3, vP 1 0), (5, vU s), (10, vI 1), (11, .bool true)])) (by kernel_rfl) ?_
      refine kSeq ?_
      refine cSeq ?_
      refine cTrue (by kernel_rfl) ?_
      refine cSkip ?_
      refine kSeq ?_
      refine cSeq ?_
      refine cBlk ?_
      refine cSeq ?_
      refine cReg ?_
      refine segEndH [2, 3, 5, 6, 10] (T1 := (mkT 36 [(2, vP 0 0), (3, vP 1 0), (5, vU s), (6, vI 1), (10, vI 1)])) (by kernel_rfl) ?_
      refine kSeq ?_
      refine cSeq ?_
      refine cReg ?_
      refine segEndH [2, 3, 5, 6, 10, 13, 14] (T1 := (mkT 36 [(2, vP 0 0), (3, vP 1 0), (5, vU s), (6, vI 1), (10, vI 1), (13, .agg #[vI (-1), vI 1]), (14, vI 0)])) (by kernel_rfl) ?_
      refine kSeq ?_
      refine cBlk ?_
      -- loop
      refine cLoop (fun mm T H => ∃ k : Nat, ∃ t : Nat, (k ≤ 2) ∧ (t = nearTo X Y Z a b c (2 + k)) ∧ mm = 2 - k ∧ T = (mkT 36 [(2, vP 0 0), (3, vP 1 0), (5, vU t), (6, vI 1), (10, vI 1), (13, .agg #[vI (-1), vI 1]), (14, vN k)]) ∧ H = [rB [vN X, vN Y, vN Z] 60, rB [vI a, vI b, vI c] 25]) (2 - 0) (mkT 36 [(2, vP 0 0), (3, vP 1 0), (5, vU s), (6, vI 1), (10, vI 1), (13, .agg #[vI (-1), vI 1]), (14, vI 0)]) [rB [vN X, vN Y, vN Z] 60, rB [vI a, vI b, vI c] 25] (wkSame [2, 3, 5, 6, 10, 13, 14] (by kernel_rfl)) ?_ ?_
      · exact ⟨0, s, (Nat.zero_le _), (by rw [hs1]), rfl, rfl, rfl⟩
      · rintro _ _ _ ⟨k, t, hk, hs1b, rfl, rfl, rfl⟩
        have htlt : t < 18446744073709551616 := hs1b ▸ nearTo_lt hs _
        have hcase : k = 0 ∨ k = 1 ∨ k = 2 := by omega
        rcases hcase with rfl | rfl | rfl
        ·
          refine cSeq ?_
          refine cReg ?_
          refine segEndH [2, 3, 5, 6, 10, 13, 14, 15] (T1 := (mkT 36 [(2, vP 0 0), (3, vP 1 0), (5, vU t), (6, vI 1), (10, vI 1), (13, .agg #[vI (-1), vI 1]), (14, vI 0), (15, .bool true)])) (by kernel_rfl) ?_
          refine kSeq ?_
          refine cSeq ?_
          refine cTrue (by kernel_rfl) ?_
          refine cSkip ?_
          refine kSeq ?_
          refine cSeq ?_
          refine cBlk ?_
          refine cSeq ?_
          refine cReg ?_
          refine segEndH [2, 3, 5, 6, 8, 10, 13, 14] (T1 := (mkT 36 [(2, vP 0 0), (3, vP 1 0), (5, vU t), (6, vI 1), (8, vI (-1)), (10, vI 1), (13, .agg #[vI (-1), vI 1]), (14, vI 0)])) (by kernel_rfl) ?_
          refine kSeq ?_
          refine cSeq ?_
          refine cReg ?_
          refine segEnd [2, 3, 5, 6, 8, 9, 10, 13, 14] (T1 := (mkT 36 [(2, vP 0 0), (3, vP 1 0), (5, vU t), (6, vI 1), (8, vI (-1)), (9, vP 2 0), (10, vI 1), (13, .agg #[vI (-1), vI 1]), (14, vI 0)])) (H1 := [rB [vN X, vN Y, vN Z] 60, rB [vI a, vI b, vI c] 25, rB [vI a, vI b, vI c] 25]) (by kernel_rfl) ?_
          refine kSeq ?_
          refine cSeq ?_
          refine cReg ?_
          refine segH 4 (T1 := (mkT 36 [(2, vP 0 0), (3, vP 1 0), (5, vU t), (6, vI 1), (8, vI (-1)), (9, vP 2 0), (10, vI 1), (13, .agg #[vI (-1), vI 1]), (14, vI 0), (18, vI 1), (19, vP 2 1), (20, vI b), (21, vI (-1))])) (by kernel_rfl) ?_
          refine rOp (v := vI (b + (-1))) (by kernel_rfl) (eAdd (k := .i64) (a := b) (b := (-1)) (c := (b + (-1))) (by kernel_rfl) (by kernel_rfl) (wr64 (by omega) (by omega) (by omega))) ?_
          refine segEnd [2, 3, 5, 6, 9, 10, 13, 14] (T1 := (mkT 36 [(2, vP 0 0), (3, vP 1 0), (5, vU t), (6, vI 1), (9, vP 2 0), (10, vI 1), (13, .agg #[vI (-1), vI 1]), (14, vI 0)])) (H1 := [rB [vN X, vN Y, vN Z] 60, rB [vI a, vI b, vI c] 25, rB [vI a, vI (b + (-1)), vI c] 25]) (by kernel_rfl) ?_
          refine kSeq ?_
          refine cSeq ?_
          refine cReg ?_
          refine segH 2 (T1 := (mkT 36 [(2, vP 0 0), (3, vP 1 0), (5, vU t), (6, vI 1), (9, vP 2 0), (10, vI 1), (13, .agg #[vI (-1), vI 1]), (14, vI 0), (24, .agg #[vN X, vN Y, vN Z]), (25, .agg #[vI a, vI (b + (-1)), vI c])])) (by kernel_rfl) ?_
          refine rCall (v := .bool (has3 (X : Int) (Y : Int) (Z : Int) a (b + (-1)) c)) (args := [.agg #[vN X, vN Y, vN Z], .agg #[vI a, vI (b + (-1)), vI c]]) (by kernel_rfl) rfl (by kernel_rfl) (Sound.lay0 [] (hasB X Y Z a (b + (-1)) c (by first | assumption | omega | rfl | decide | exact HeapL.list _ _ _ _ | exact HeapL.nil _ _ _ | exact HeapL.all _ _ _ | (apply HeapL.lt64 <;> assumption) | (repeat' (first | assumption | apply or_lt64 | apply and_lt64 | apply andn_lt64 | apply pow_lt64 | (apply HeapL.lt64 <;> assumption))))) trivial rfl trivial rfl (by first | rfl | simp [mpV, mpA, mpS, mpP, renId, shift]) rfl) ?_
          refine segEndH [2, 3, 5, 6, 9, 10, 13, 14, 26] (T1 := (mkT 36 [(2, vP 0 0), (3, vP 1 0), (5, vU t), (6, vI 1), (9, vP 2 0), (10, vI 1), (13, .agg #[vI (-1), vI 1]), (14, vI 0), (26, .bool (has3 (X : Int) (Y : Int) (Z : Int) a (b + (-1)) c))])) (by kernel_rfl) ?_
          refine kSeq ?_
          cases h3 : (has3 (X : Int) (Y : Int) (Z : Int) a (b + (-1)) c : Bool)
          ·
            have h3k := h3
            (try simp only [Bool.not_eq_true', Bool.not_eq_false', decide_eq_true_eq, decide_eq_false_iff_not, beq_iff_eq, bne_iff_ne, beq_eq_false_iff_ne, bne_eq_false_iff_eq, ne_eq, Decidable.not_not, Bool.and_eq_true, Bool.and_eq_false_imp, Bool.or_eq_true, Bool.or_eq_false_iff, Bool.not_eq_true, Int.not_lt, Int.not_le, ge_iff_le, gt_iff_lt] at h3)
            refine cFalse (by kernel_rfl) ?_
            refine cSkip ?_
            refine kBlk ?_
            refine kSeq ?_
            refine cReg ?_
            refine segEndH [2, 3, 5, 6, 10, 13, 14] (T1 := (mkT 36 [(2, vP 0 0), (3, vP 1 0), (5, vU t), (6, vI 1), (10, vI 1), (13, .agg #[vI (-1), vI 1]), (14, vI 1)])) (by kernel_rfl) ?_
            exact kLoop (2 - 1) (mkT 36 [(2, vP 0 0), (3, vP 1 0), (5, vU t), (6, vI 1), (10, vI 1), (13, .agg #[vI (-1), vI 1]), (14, vI 1)]) [rB [vN X, vN Y, vN Z] 60, rB [vI a, vI b, vI c] 25] (by omega) (wkDrop [2, 3, 5, 6, 10, 13, 14] _ rfl rfl ((closedL ⟨clX rfl, ⟨clX rfl, trivial⟩⟩)) (by kernel_rfl) rfl) ⟨1, t, (by omega), (by first | (rw [hs1b]; exact nearTo_yes 2 (by assumption)) | (rw [hs1b]; exact nearTo_no 2 (by assumption))), rfl, rfl, rfl⟩
          ·
            have h3k := h3
            (try simp only [Bool.not_eq_true', Bool.not_eq_false', decide_eq_true_eq, decide_eq_false_iff_not, beq_iff_eq, bne_iff_ne, beq_eq_false_iff_ne, bne_eq_false_iff_eq, ne_eq, Decidable.not_not, Bool.and_eq_true, Bool.and_eq_false_imp, Bool.or_eq_true, Bool.or_eq_false_iff, Bool.not_eq_true, Int.not_lt, Int.not_le, ge_iff_le, gt_iff_lt] at h3)
            have hidx := Nat.lt_of_lt_of_le (idx_lt (c := A3.mk _ _ _) h3) hs.size
            refine cTrue (by kernel_rfl) ?_
            refine cReg ?_
            refine segH 3 (T1 := (mkT 36 [(2, vP 0 0), (3, vP 1 0), (5, vU t), (6, vI 1), (9, vP 2 0), (10, vI 1), (13, .agg #[vI (-1), vI 1]), (14, vI 0), (26, .bool true), (27, vU t), (28, .agg #[vN X, vN Y, vN Z]), (29, .agg #[vI a, vI (b + (-1)), vI c])])) (by kernel_rfl) ?_
            refine rCall (v := vN (idxN Y Z (A3.mk a (b + (-1)) c))) (args := [.agg #[vN X, vN Y, vN Z], .agg #[vI a, vI (b + (-1)), vI c]]) (by kernel_rfl) rfl (by kernel_rfl) (Sound.lay0 [] (indexB X Y Z a (b + (-1)) c (by first | assumption | omega | rfl | decide | exact HeapL.list _ _ _ _ | exact HeapL.nil _ _ _ | exact HeapL.all _ _ _ | (apply HeapL.lt64 <;> assumption) | (repeat' (first | assumption | apply or_lt64 | apply and_lt64 | apply andn_lt64 | apply pow_lt64 | (apply HeapL.lt64 <;> assumption)))) (by first | assumption | omega | rfl | decide | exact HeapL.list _ _ _ _ | exact HeapL.nil _ _ _ | exact HeapL.all _ _ _ | (apply HeapL.lt64 <;> assumption) | (repeat' (first | assumption | apply or_lt64 | apply and_lt64 | apply andn_lt64 | apply pow_lt64 | (apply HeapL.lt64 <;> assumption))))) trivial rfl trivial rfl (by first | rfl | simp [mpV, mpA, mpS, mpP, renId, shift]) rfl) ?_
            refine rOp (v := vU (2 ^ (idxN Y Z (A3.mk a (b + (-1)) c)))) (by kernel_rfl) (eShl (k := .u64) (a := 1) (b := ((idxN Y Z (A3.mk a (b + (-1)) c) : Nat) : Int)) (k' := .i64) (c := ((2 ^ (idxN Y Z (A3.mk a (b + (-1)) c)) : Nat) : Int)) (by kernel_rfl) (by kernel_rfl) (by omega) (shl1 _ (by omega))) ?_
            refine rOp (v := vU (t ||| (2 ^ (idxN Y Z (A3.mk a (b + (-1)) c))))) (by kernel_rfl) (eOp (k := .u64) (a := ((t : Nat) : Int)) (b := ((2 ^ (idxN Y Z (A3.mk a (b + (-1)) c)) : Nat) : Int)) (by kernel_rfl) (by kernel_rfl) ⟨by decide, by decide⟩ (orU t (2 ^ (idxN Y Z (A3.mk a (b + (-1)) c))) (by first | assumption | omega | (repeat' (first | assumption | omega | apply or_lt64 | apply and_lt64 | apply andn_lt64 | apply pow_lt64 | (apply HeapL.lt64 <;> assumption)))) (by first | assumption | omega | (repeat' (first | assumption | omega | apply or_lt64 | apply and_lt64 | apply andn_lt64 | apply pow_lt64 | (apply HeapL.lt64 <;> assumption)))))) ?_
            refine segEndH [2, 3, 5, 6, 10, 13, 14] (T1 := (mkT 36 [(2, vP 0 0), (3, vP 1 0), (5, vU (t ||| (2 ^ (idxN Y Z (A3.mk a (b + (-1)) c))))), (6, vI 1), (10, vI 1), (13, .agg #[vI (-1), vI 1]), (14, vI 0)])) (by kernel_rfl) ?_
            refine kBlk ?_
            refine kSeq ?_
            refine cReg ?_
            refine segEndH [2, 3, 5, 6, 10, 13, 14] (T1 := (mkT 36 [(2, vP 0 0), (3, vP 1 0), (5, vU (t ||| (2 ^ (idxN Y Z (A3.mk a (b + (-1)) c))))), (6, vI 1), (10, vI 1), (13, .agg #[vI (-1), vI 1]), (14, vI 1)])) (by kernel_rfl) ?_
            exact kLoop (2 - 1) (mkT 36 [(2, vP 0 0), (3, vP 1 0), (5, vU (t ||| (2 ^ (idxN Y Z (A3.mk a (b + (-1)) c))))), (6, vI 1), (10, vI 1), (13, .agg #[vI (-1), vI 1]), (14, vI 1)]) [rB [vN X, vN Y, vN Z] 60, rB [vI a, vI b, vI c] 25] (by omega) (wkDrop [2, 3, 5, 6, 10, 13, 14] _ rfl rfl ((closedL ⟨clX rfl, ⟨clX rfl, trivial⟩⟩)) (by kernel_rfl) rfl) ⟨1, (t ||| (2 ^ (idxN Y Z (A3.mk a (b + (-1)) c)))), (by omega), (by first | (rw [hs1b]; exact nearTo_yes 2 (by assumption)) | (rw [hs1b]; exact nearTo_no 2 (by assumption))), rfl, rfl, rfl⟩
        ·
          refine cSeq ?_
          refine cReg ?_
          refine segEndH [2, 3, 5, 6, 10, 13, 14, 15] (T1 := (mkT 36 [(2, vP 0 0), (3, vP 1 0), (5, vU t), (6, vI 1), (10, vI 1), (13, .agg #[vI (-1), vI 1]), (14, vI 1), (15, .bool true)])) (by kernel_rfl) ?_
          refine kSeq ?_
          refine cSeq ?_
          refine cTrue (by kernel_rfl) ?_
          refine cSkip ?_
          refine kSeq ?_
          refine cSeq ?_
          refine cBlk ?_
          refine cSeq ?_
          refine cReg ?_
          refine segEndH [2, 3, 5, 6, 8, 10, 13, 14] (T1 := (mkT 36 [(2, vP 0 0), (3, vP 1 0), (5, vU t), (6, vI 1), (8, vI 1), (10, vI 1), (13, .agg #[vI (-1), vI 1]), (14, vI 1)])) (by kernel_rfl) ?_
          refine kSeq ?_
          refine cSeq ?_
          refine cReg ?_
          refine segEnd [2, 3, 5, 6, 8, 9, 10, 13, 14] (T1 := (mkT 36 [(2, vP 0 0), (3, vP 1 0), (5, vU t), (6, vI 1), (8, vI 1), (9, vP 2 0), (10, vI 1), (13, .agg #[vI (-1), vI 1]), (14, vI 1)])) (H1 := [rB [vN X, vN Y, vN Z] 60, rB [vI a, vI b, vI c] 25, rB [vI a, vI b, vI c] 25]) (by kernel_rfl) ?_
          refine kSeq ?_
          refine cSeq ?_
          refine cReg ?_
          refine segH 4 (T1 := (mkT 36 [(2, vP 0 0), (3, vP 1 0), (5, vU t), (6, vI 1), (8, vI 1), (9, vP 2 0), (10, vI 1), (13, .agg #[vI (-1), vI 1]), (14, vI 1), (18, vI 1), (19, vP 2 1), (20, vI b), (21, vI 1)])) (by kernel_rfl) ?_
          refine rOp (v := vI (b + 1)) (by kernel_rfl) (eAdd (k := .i64) (a := b) (b := 1) (c := (b + 1)) (by kernel_rfl) (by kernel_rfl) (wr64 (by omega) (by omega) (by omega))) ?_
          refine segEnd [2, 3, 5, 6, 9, 10, 13, 14] (T1 := (mkT 36 [(2, vP 0 0), (3, vP 1 0), (5, vU t), (6, vI 1), (9, vP 2 0), (10, vI 1), (13, .agg #[vI (-1), vI 1]), (14, vI 1)])) (H1 := [rB [vN X, vN Y, vN Z] 60, rB [vI a, vI b, vI c] 25, rB [vI a, vI (b + 1), vI c] 25]) (by kernel_rfl) ?_
          refine kSeq ?_
          refine cSeq ?_
          refine cReg ?_
          refine segH 2 (T1 := (mkT 36 [(2, vP 0 0), (3, vP 1 0), (5, vU t), (6, vI 1), (9, vP 2 0), (10, vI 1), (13, .agg #[vI (-1), vI 1]), (14, vI 1), (24, .agg #[vN X, vN Y, vN Z]), (25, .agg #[vI a, vI (b + 1), vI c])])) (by kernel_rfl) ?_
          refine rCall (v := .bool (has3 (X : Int) (Y : Int) (Z : Int) a (b + 1) c)) (args := [.agg #[vN X, vN Y, vN Z], .agg #[vI a, vI (b + 1), vI c]]) (by kernel_rfl) rfl (by kernel_rfl) (Sound.lay0 [] (hasB X Y Z a (b + 1) c (by first | assumption | omega | rfl | decide | exact HeapL.list _ _ _ _ | exact HeapL.nil _ _ _ | exact HeapL.all _ _ _ | (apply HeapL.lt64 <;> assumption) | (repeat' (first | assumption | apply or_lt64 | apply and_lt64 | apply andn_lt64 | apply pow_lt64 | (apply HeapL.lt64 <;> assumption))))) trivial rfl trivial rfl (by first | rfl | simp [mpV, mpA, mpS, mpP, renId, shift]) rfl) ?_
          refine segEndH [2, 3, 5, 6, 9, 10, 13, 14, 26] (T1 := (mkT 36 [(2, vP 0 0), (3, vP 1 0), (5, vU t), (6, vI 1), (9, vP 2 0), (10, vI 1), (13, .agg #[vI (-1), vI 1]), (14, vI 1), (26, .bool (has3 (X : Int) (Y : Int) (Z : Int) a (b + 1) c))])) (by kernel_rfl) ?_
          refine kSeq ?_
          cases h4 : (has3 (X : Int) (Y : Int) (Z : Int) a (b + 1) c : Bool)
          ·
            have h4k := h4
            (try simp only [Bool.not_eq_true', Bool.not_eq_false', decide_eq_true_eq, decide_eq_false_iff_not, beq_iff_eq, bne_iff_ne, beq_eq_false_iff_ne, bne_eq_false_iff_eq, ne_eq, Decidable.not_not, Bool.and_eq_true, Bool.and_eq_false_imp, Bool.or_eq_true, Bool.or_eq_false_iff, Bool.not_eq_true, Int.not_lt, Int.not_le, ge_iff_le, gt_iff_lt] at h4)
            refine cFalse (by kernel_rfl) ?_
            refine cSkip ?_
            refine kBlk ?_
            refine kSeq ?_
            refine cReg ?_
            refine segEndH [2, 3, 5, 6, 10, 13, 14] (T1 := (mkT 36 [(2, vP 0 0), (3, vP 1 0), (5, vU t), (6, vI 1), (10, vI 1), (13, .agg #[vI (-1), vI 1]), (14, vI 2)])) (by kernel_rfl) ?_
            exact kLoop (2 - 2) (mkT 36 [(2, vP 0 0), (3, vP 1 0), (5, vU t), (6, vI 1), (10, vI 1), (13, .agg #[vI (-1), vI 1]), (14, vI 2)]) [rB [vN X, vN Y, vN Z] 60, rB [vI a, vI b, vI c] 25] (by omega) (wkDrop [2, 3, 5, 6, 10, 13, 14] _ rfl rfl ((closedL ⟨clX rfl, ⟨clX rfl, trivial⟩⟩)) (by kernel_rfl) rfl) ⟨2, t, (by omega), (by first | (rw [hs1b]; exact nearTo_yes 3 (by assumption)) | (rw [hs1b]; exact nearTo_no 3 (by assumption))), rfl, rfl, rfl⟩
          ·
            have h4k := h4
            (try simp only [Bool.not_eq_true', Bool.not_eq_false', decide_eq_true_eq, decide_eq_false_iff_not, beq_iff_eq, bne_iff_ne, beq_eq_false_iff_ne, bne_eq_false_iff_eq, ne_eq, Decidable.not_not, Bool.and_eq_true, Bool.and_eq_false_imp, Bool.or_eq_true, Bool.or_eq_false_iff, Bool.not_eq_true, Int.not_lt, Int.not_le, ge_iff_le, gt_iff_lt] at h4)
            have hidx := Nat.lt_of_lt_of_le (idx_lt (c := A3.mk _ _ _) h4) hs.size
            refine cTrue (by kernel_rfl) ?_
            refine cReg ?_
            refine segH 3 (T1 := (mkT 36 [(2, vP 0 0), (3, vP 1 0), (5, vU t), (6, vI 1), (9, vP 2 0), (10, vI 1), (13, .agg #[vI (-1), vI 1]), (14, vI 1), (26, .bool true), (27, vU t), (28, .agg #[vN X, vN Y, vN Z]), (29, .agg #[vI a, vI (b + 1), vI c])])) (by kernel_rfl) ?_
            refine rCall (v := vN (idxN Y Z (A3.mk a (b + 1) c))) (args := [.agg #[vN X, vN Y, vN Z], .agg #[vI a, vI (b + 1), vI c]]) (by kernel_rfl) rfl (by kernel_rfl) (Sound.lay0 [] (indexB X Y Z a (b + 1) c (by first | assumption | omega | rfl | decide | exact HeapL.list _ _ _ _ | exact HeapL.nil _ _ _ | exact HeapL.all _ _ _ | (apply HeapL.lt64 <;> assumption) | (repeat' (first | assumption | apply or_lt64 | apply and_lt64 | apply andn_lt64 | apply pow_lt64 | (apply HeapL.lt64 <;> assumption)))) (by first | assumption | omega | rfl | decide | exact HeapL.list _ _ _ _ | exact HeapL.nil _ _ _ | exact HeapL.all _ _ _ | (apply HeapL.lt64 <;> assumption) | (repeat' (first | assumption | apply or_lt64 | apply and_lt64 | apply andn_lt64 | apply pow_lt64 | (apply HeapL.lt64 <;> assumption))))) trivial rfl trivial rfl (by first | rfl | simp [mpV, mpA, mpS, mpP, renId, shift]) rfl) ?_
            refine rOp (v := vU (2 ^ (idxN Y Z (A3.mk a (b + 1) c)))) (by kernel_rfl) (eShl (k := .u64) (a := 1) (b := ((idxN Y Z (A3.mk a (b + 1) c) : Nat) : Int)) (k' := .i64) (c := ((2 ^ (idxN Y Z (A3.mk a (b + 1) c)) : Nat) : Int)) (by kernel_rfl) (by kernel_rfl) (by omega) (shl1 _ (by omega))) ?_
            refine rOp (v := vU (t ||| (2 ^ (idxN Y Z (A3.mk a (b + 1) c))))) (by kernel_rfl) (eOp (k := .u64) (a := ((t : Nat) : Int)) (b := ((2 ^ (idxN Y Z (A3.mk a (b + 1) c)) : Nat) : Int)) (by kernel_rfl) (by kernel_rfl) ⟨by decide, by decide⟩ (orU t (2 ^ (idxN Y Z (A3.mk a (b + 1) c))) (by first | assumption | omega | (repeat' (first | assumption | omega | apply or_lt64 | apply and_lt64 | apply andn_lt64 | apply pow_lt64 | (apply HeapL.lt64 <;> assumption)))) (by first | assumption | omega | (repeat' (first | assumption | omega | apply or_lt64 | apply and_lt64 | apply andn_lt64 | apply pow_lt64 | (apply HeapL.lt64 <;> assumption)))))) ?_
            refine segEndH [2, 3, 5, 6, 10, 13, 14] (T1 := (mkT 36 [(2, vP 0 0), (3, vP 1 0), (5, vU (t ||| (2 ^ (idxN Y Z (A3.mk a (b + 1) c))))), (6, vI 1), (10, vI 1), (13, .agg #[vI (-1), vI 1]), (14, vI 1)])) (by kernel_rfl) ?_
            refine kBlk ?_
            refine kSeq ?_
            refine cReg ?_
            refine segEndH [2, 3, 5, 6, 10, 13, 14] (T1 := (mkT 36 [(2, vP 0 0), (3, vP 1 0), (5, vU (t ||| (2 ^ (idxN Y Z (A3.mk a (b + 1) c))))), (6, vI 1), (10, vI 1), (13, .agg #[vI (-1), vI 1]), (14, vI 2)])) (by kernel_rfl) ?_
            exact kLoop (2 - 2) (mkT 36 [(2, vP 0 0), (3, vP 1 0), (5, vU (t ||| (2 ^ (idxN Y Z (A3.mk a (b + 1) c))))), (6, vI 1), (10, vI 1), (13, .agg #[vI (-1), vI 1]), (14, vI 2)]) [rB [vN X, vN Y, vN Z] 60, rB [vI a, vI b, vI c] 25] (by omega) (wkDrop [2, 3, 5, 6, 10, 13, 14] _ rfl rfl ((closedL ⟨clX rfl, ⟨clX rfl, trivial⟩⟩)) (by kernel_rfl) rfl) ⟨2, (t ||| (2 ^ (idxN Y Z (A3.mk a (b + 1) c)))), (by omega), (by first | (rw [hs1b]; exact nearTo_yes 3 (by assumption)) | (rw [hs1b]; exact nearTo_no 3 (by assumption))), rfl, rfl, rfl⟩
        ·
          refine cSeq ?_
          refine cReg ?_
          refine segEndH [2, 3, 5, 6, 10, 13, 14, 15] (T1 := (mkT 36 [(2, vP 0 0), (3, vP 1 0), (5, vU t), (6, vI 1), (10, vI 1), (13, .agg #[vI (-1), vI 1]), (14, vI 2), (15, .bool false)])) (by kernel_rfl) ?_
          refine kSeq ?_
          refine cSeq ?_
          refine cFalse (by kernel_rfl) ?_
          refine cExit ?_
          refine kSeqE ?_
          refine kLoopE ?_
          refine kBlkHit ?_
          refine kBlk ?_
          refine kSeq ?_
          refine cReg ?_
          refine segEndH [2, 3, 5, 10] (T1 := (mkT 36 [(2, vP 0 0), (3, vP 1 0), (5, vU t), (10, vI 2)])) (by kernel_rfl) ?_
          exact kLoop (3 - 2) (mkT 36 [(2, vP 0 0), (3, vP 1 0), (5, vU t), (10, vI 2)]) [rB [vN X, vN Y, vN Z] 60, rB [vI a, vI b, vI c] 25] (by omega) (wkSame [2, 3, 5, 10] (by kernel_rfl)) ⟨2, t, (by omega), (by rw [hs1b]), rfl, rfl, rfl⟩
    ·
      refine cSeq ?_
      refine cReg ?_
      refine segEndH [2, 3, 5, 10, 11] (T1 := (mkT 36 [(2, vP 0 0), (3, vP 1 0), (5, vU s), (10, vI 2), (11, .bool true)])) (by kernel_rfl) ?_
      refine kSeq ?_
      refine cSeq ?_
      refine cTrue (by kernel_rfl) ?_
      refine cSkip ?_
      refine kSeq ?_
      refine cSeq ?_
      refine cBlk ?_
      refine cSeq ?_
      refine cReg ?_
      refine segEndH [2, 3, 5, 6, 10] (T1 := (mkT 36 [(2, vP 0 0), (3, vP 1 0), (5, vU s), (6, vI 2), (10, vI 2)])) (by kernel_rfl) ?_
      refine kSeq ?_
      refine cSeq ?_
      refine cReg ?_
      refine segEndH [2, 3, 5, 6, 10, 13, 14] (T1 := (mkT 36 [(2, vP 0 0), (3, vP 1 0), (5, vU s), (6, vI 2), (10, vI 2), (13, .agg #[vI (-1), vI 1]), (14, vI 0)])) (by kernel_rfl) ?_
      refine kSeq ?_
      refine cBlk ?_
      -- loop
      refine cLoop (fun mm T H => ∃ k : Nat, ∃ t : Nat, (k ≤ 2) ∧ (t = nearTo X Y Z a b c (4 + k)) ∧ mm = 2 - k ∧ T = (mkT 36 [(2, vP 0 0), (3, vP 1 0), (5, vU t), (6, vI 2), (10, vI 2), (13, .agg #[vI (-1), vI 1]), (14, vN k)]) ∧ H = [rB [vN X, vN Y, vN Z] 60, rB [vI a, vI b, vI c] 25]) (2 - 0) (mkT 36 [(2, vP 0 0), (3, vP 1 0), (5, vU s), (6, vI 2), (10, vI 2), (13, .agg #[vI (-1), vI 1]), (14, vI 0)]) [rB [vN X, vN Y, vN Z] 60, rB [vI a, vI b, vI c] 25] (wkSame [2, 3, 5, 6, 10, 13, 14] (by kernel_rfl)) ?_ ?_
      · exact ⟨0, s, (Nat.zero_le _), (by rw [hs1]), rfl, rfl, rfl⟩
      · rintro _ _ _ ⟨k, t, hk, hs1b, rfl, rfl, rfl⟩
        have htlt : t < 18446744073709551616 := hs1b ▸ nearTo_lt hs _
        have hcase : k = 0 ∨ k = 1 ∨ k = 2 := by omega
        rcases hcase with rfl | rfl | rfl
        ·
          refine cSeq ?_
          refine cReg ?_
          refine segEndH [2, 3, 5, 6, 10, 13, 14, 15] (T1 := (mkT 36 [(2, vP 0 0), (3, vP 1 0), (5, vU t), (6, vI 2), (10, vI 2), (13, .agg #[vI (-1), vI 1]), (14, vI 0), (15, .bool true)])) (by kernel_rfl) ?_
          refine kSeq ?_
          refine cSeq ?_
          refine cTrue (by kernel_rfl) ?_
          refine cSkip ?_
          refine kSeq ?_
          refine cSeq ?_
          refine cBlk ?_
          refine cSeq ?_
          refine cReg ?_
          refine segEndH [2, 3, 5, 6, 8, 10, 13, 14] (T1 := (mkT 36 [(2, vP 0 0), (3, vP 1 0), (5, vU t), (6, vI 2), (8, vI (-1)), (10, vI 2), (13, .agg #[vI (-1), vI 1]), (14, vI 0)])) (by kernel_rfl) ?_
          refine kSeq ?_
          refine cSeq ?_
          refine cReg ?_
          refine segEnd [2, 3, 5, 6, 8, 9, 10, 13, 14] (T1 := (mkT 36 [(2, vP 0 0), (3, vP 1 0), (5, vU t), (6, vI 2), (8, vI (-1)), (9, vP 2 0), (10, vI 2), (13, .agg #[vI (-1), vI 1]), (14, vI 0)])) (H1 := [rB [vN X, vN Y, vN Z] 60, rB [vI a, vI b, vI c] 25, rB [vI a, vI b, vI c] 25]) (by kernel_rfl) ?_
          refine kSeq ?_
          refine cSeq ?_
          refine cReg ?_
          refine segH 4 (T1 := (mkT 36 [(2, vP 0 0), (3, vP 1 0), (5, vU t), (6, vI 2), (8, vI (-1)), (9, vP 2 0), (10, vI 2), (13, .agg #[vI (-1), vI 1]), (14, vI 0), (18, vI 2), (19, vP 2 2), (20, vI c), (21, vI (-1))])) (by kernel_rfl) ?_
          refine rOp (v := vI (c + (-1))) (by kernel_rfl) (eAdd (k := .i64) (a := c) (b := (-1)) (c := (c + (-1))) (by kernel_rfl) (by kernel_rfl) (wr64 (by omega) (by omega) (by omega))) ?_
          refine segEnd [2, 3, 5, 6, 9, 10, 13, 14] (T1 := (mkT 36 [(2, vP 0 0), (3, vP 1 0), (5, vU t), (6, vI 2), (9, vP 2 0), (10, vI 2), (13, .agg #[vI (-1), vI 1]), (14, vI 0)])) (H1 := [rB [vN X, vN Y, vN Z] 60, rB [vI a, vI b, vI c] 25, rB [vI a, vI b, vI (c + (-1))] 25]) (by kernel_rfl) ?_
          refine kSeq ?_
          refine cSeq ?_
          refine cReg ?_
          refine segH 2 (T1 := (mkT 36 [(2, vP 0 0), (3, vP 1 0), (5, vU t), (6, vI 2), (9, vP 2 0), (10, vI 2), (13, .agg #[vI (-1), vI 1]), (14, vI 0), (24, .agg #[vN X, vN Y, vN Z]), (25, .agg #[vI a, vI b, vI (c + (-1))])])) (by kernel_rfl) ?_
          refine rCall (v := .bool (has3 (X : Int) (Y : Int) (Z : Int) a b (c + (-1)))) (args := [.agg #[vN X, vN Y, vN Z], .agg #[vI a, vI b, vI (c + (-1))]]) (by kernel_rfl) rfl (by kernel_rfl) (Sound.lay0 [] (hasB X Y Z a b (c + (-1)) (by first | assumption | omega | rfl | decide | exact HeapL.list _ _ _ _ | exact HeapL.nil _ _ _ | exact HeapL.all _ _ _ | (apply HeapL.lt64 <;> assumption) | (repeat' (first | assumption | apply or_lt64 | apply and_lt64 | apply andn_lt64 | apply pow_lt64 | (apply HeapL.lt64 <;> assumption))))) trivial rfl trivial rfl (by first | rfl | simp [mpV, mpA, mpS, mpP, renId, shift]) rfl) ?_
          refine segEndH [2, 3, 5, 6, 9, 10, 13, 14, 26] (T1 := (mkT 36 [(2, vP 0 0), (3, vP 1 0), (5, vU t), (6, vI 2), (9, vP 2 0), (10, vI 2), (13, .agg #[vI (-1), vI 1]), (14, vI 0), (26, .bool (has3 (X : Int) (Y : Int) (Z : Int) a b (c + (-1))))])) (by kernel_rfl) ?_
          refine kSeq ?_
          cases h5 : (has3 (X : Int) (Y : Int) (Z : Int) a b (c + (-1)) : Bool)
          ·
            have h5k := h5
            (try simp only [Bool.not_eq_true', Bool.not_eq_false', decide_eq_true_eq, decide_eq_false_iff_not, beq_iff_eq, bne_iff_ne, beq_eq_false_iff_ne, bne_eq_false_iff_eq, ne_eq, Decidable.not_not, Bool.and_eq_true, Bool.and_eq_false_imp, Bool.or_eq_true, Bool.or_eq_false_iff, Bool.not_eq_true, Int.not_lt, Int.not_le, ge_iff_le, gt_iff_lt] at h5)
            refine cFalse (by kernel_rfl) ?_
            refine cSkip ?_
            refine kBlk ?_
            refine kSeq ?_
            refine cReg ?_
            refine segEndH [2, 3, 5, 6, 10, 13, 14] (T1 := (mkT 36 [(2, vP 0 0), (3, vP 1 0), (5, vU t), (6, vI 2), (10, vI 2), (13, .agg #[vI (-1), vI 1]), (14, vI 1)])) (by kernel_rfl) ?_
            exact kLoop (2 - 1) (mkT 36 [(2, vP 0 0), (3, vP 1 0), (5, vU t), (6, vI 2), (10, vI 2), (13, .agg #[vI (-1), vI 1]), (14, vI 1)]) [rB [vN X, vN Y, vN Z] 60, rB [vI a, vI b, vI c] 25] (by omega) (wkDrop [2, 3, 5, 6, 10, 13, 14] _ rfl rfl ((closedL ⟨clX rfl, ⟨clX rfl, trivial⟩⟩)) (by kernel_rfl) rfl) ⟨1, t, (by omega), (by first | (rw [hs1b]; exact nearTo_yes 4 (by assumption)) | (rw [hs1b]; exact nearTo_no 4 (by assumption))), rfl, rfl, rfl⟩
          ·
            have h5k := h5
            (try simp only [Bool.not_eq_true', Bool.not_eq_false', decide_eq_true_eq, decide_eq_false_iff_not, beq_iff_eq, bne_iff_ne, beq_eq_false_iff_ne, bne_eq_false_iff_eq, ne_eq, Decidable.not_not, Bool.and_eq_true, Bool.and_eq_false_imp, Bool.or_eq_true, Bool.or_eq_false_iff, Bool.not_eq_true, Int.not_lt, Int.not_le, ge_iff_le, gt_iff_lt] at h5)
            have hidx := Nat.lt_of_lt_of_le (idx_lt (c := A3.mk _ _ _) h5) hs.size
            refine cTrue (by kernel_rfl) ?_
            refine cReg ?_
            refine segH 3 (T1 := (mkT 36 [(2, vP 0 0), (3, vP 1 0), (5, vU t), (6, vI 2), (9, vP 2 0), (10, vI 2), (13, .agg #[vI (-1), vI 1]), (14, vI 0), (26, .bool true), (27, vU t), (28, .agg #[vN X, vN Y, vN Z]), (29, .agg #[vI a, vI b, vI (c + (-1))])])) (by kernel_rfl) ?_
            refine rCall (v := vN (idxN Y Z (A3.mk a b (c + (-1))))) (args := [.agg #[vN X, vN Y, vN Z], .agg #[vI a, vI b, vI (c + (-1))]]) (by kernel_rfl) rfl (by kernel_rfl) (Sound.lay0 [] (indexB X Y Z a b (c + (-1)) (by first | assumption | omega | rfl | decide | exact HeapL.list _ _ _ _ | exact HeapL.nil _ _ _ | exact HeapL.all _ _ _ | (apply HeapL.lt64 <;> assumption) | (repeat' (first | assumption | apply or_lt64 | apply and_lt64 | apply andn_lt64 | apply pow_lt64 | (apply HeapL.lt64 <;> assumption)))) (by first | assumption | omega | rfl | decide | exact HeapL.list _ _ _ _ | exact HeapL.nil _ _ _ | exact HeapL.all _ _ _ | (apply HeapL.lt64 <;> assumption) | (repeat' (first | assumption | apply or_lt64 | apply and_lt64 | apply andn_lt64 | apply pow_lt64 | (apply HeapL.lt64 <;> assumption))))) trivial rfl trivial rfl (by first | rfl | simp [mpV, mpA, mpS, mpP, renId, shift]) rfl) ?_
            refine rOp (v := vU (2 ^ (idxN Y Z (A3.mk a b (c + (-1)))))) (by kernel_rfl) (eShl (k := .u64) (a := 1) (b := ((idxN Y Z (A3.mk a b (c + (-1))) : Nat) : Int)) (k' := .i64) (c := ((2 ^ (idxN Y Z (A3.mk a b (c + (-1)))) : Nat) : Int)) (by kernel_rfl) (by kernel_rfl) (by omega) (shl1 _ (by omega))) ?_
            refine rOp (v := vU (t ||| (2 ^ (idxN Y Z (A3.mk a b (c + (-1))))))) (by kernel_rfl) (eOp (k := .u64) (a := ((t : Nat) : Int)) (b := ((2 ^ (idxN Y Z (A3.mk a b (c + (-1)))) : Nat) : Int)) (by kernel_rfl) (by kernel_rfl) ⟨by decide, by decide⟩ (orU t (2 ^ (idxN Y Z (A3.mk a b (c + (-1))))) (by first | assumption | omega | (repeat' (first | assumption | omega | apply or_lt64 | apply and_lt64 | apply andn_lt64 | apply pow_lt64 | (apply HeapL.lt64 <;> assumption)))) (by first | assumption | omega | (repeat' (first | assumption | omega | apply or_lt64 | apply and_lt64 | apply andn_lt64 | apply pow_lt64 | (apply HeapL.lt64 <;> assumption)))))) ?_
            refine segEndH [2, 3, 5, 6, 10, 13, 14] (T1 := (mkT 36 [(2, vP 0 0), (3, vP 1 0), (5, vU (t ||| (2 ^ (idxN Y Z (A3.mk a b (c + (-1))))))), (6, vI 2), (10, vI 2), (13, .agg #[vI (-1), vI 1]), (14, vI 0)])) (by kernel_rfl) ?_
            refine kBlk ?_
            refine kSeq ?_
            refine cReg ?_
            refine segEndH [2, 3, 5, 6, 10, 13, 14] (T1 := (mkT 36 [(2, vP 0 0), (3, vP 1 0), (5, vU (t ||| (2 ^ (idxN Y Z (A3.mk a b (c + (-1))))))), (6, vI 2), (10, vI 2), (13, .agg #[vI (-1), vI 1]), (14, vI 1)])) (by kernel_rfl) ?_
            exact kLoop (2 - 1) (mkT 36 [(2, vP 0 0), (3, vP 1 0), (5, vU (t ||| (2 ^ (idxN Y Z (A3.mk a b (c + (-1))))))), (6, vI 2), (10, vI 2), (13, .agg #[vI (-1), vI 1]), (14, vI 1)]) [rB [vN X, vN Y, vN Z] 60, rB [vI a, vI b, vI c] 25] (by omega) (wkDrop [2, 3, 5, 6, 10, 13, 14] _ rfl rfl ((closedL ⟨clX rfl, ⟨clX rfl, trivial⟩⟩)) (by kernel_rfl) rfl) ⟨1, (t ||| (2 ^ (idxN Y Z (A3.mk a b (c + (-1)))))), (by omega), (by first | (rw [hs1b]; exact nearTo_yes 4 (by assumption)) | (rw [hs1b]; exact nearTo_no 4 (by assumption))), rfl, rfl, rfl⟩
        ·
          refine cSeq ?_
          refine cReg ?_
          refine segEndH [2, 3, 5, 6, 10, 13, 14, 15] (T1 := (mkT 36 [(2, vP 0 0), (3, vP 1 0), (5, vU t), (6, vI 2), (10, vI 2), (13, .agg #[vI (-1), vI 1]), (14, vI 1), (15, .bool true)])) (by kernel_rfl) ?_
          refine kSeq ?_
          refine cSeq ?_
          refine cTrue (by kernel_rfl) ?_
          refine cSkip ?_
          refine kSeq ?_
          refine cSeq ?_
          refine cBlk ?_
          refine cSeq ?_
          refine cReg ?_
          refine segEndH [2, 3, 5, 6, 8, 10, 13, 14] (T1 := (mkT 36 [(2, vP 0 0), (3, vP 1 0), (5, vU t), (6, vI 2), (8, vI 1), (10, vI 2), (13, .agg #[vI (-1), vI 1]), (14, vI 1)])) (by kernel_rfl) ?_
          refine kSeq ?_
          refine cSeq ?_
          refine cReg ?_
          refine segEnd [2, 3, 5, 6, 8, 9, 10, 13, 14] (T1 := (mkT 36 [(2, vP 0 0), (3, vP 1 0), (5, vU t), (6, vI 2), (8, vI 1), (9, vP 2 0), (10, vI 2), (13, .agg #[vI (-1), vI 1]), (14, vI 1)])) (H1 := [rB [vN X, vN Y, vN Z] 60, rB [vI a, vI b, vI c] 25, rB [vI a, vI b, vI c] 25]) (by kernel_rfl) ?_
          refine kSeq ?_
          refine cSeq ?_
          refine cReg ?_
          refine segH 4 (T1 := (mkT 36 [(2, vP 0 0), (3, vP 1 0), (5, vU t), (6, vI 2), (8, vI 1), (9, vP 2 0), (10, vI 2), (13, .agg #[vI (-1), vI 1]), (14, vI 1), (18, vI 2), (19, vP 2 2), (20, vI c), (21, vI 1)])) (by kernel_rfl) ?_
          refine rOp (v := vI (c + 1)) (by kernel_rfl) (eAdd (k := .i64) (a := c) (b := 1) (c := (c + 1)) (by kernel_rfl) (by kernel_rfl) (wr64 (by omega) (by omega) (by omega))) ?_
          refine segEnd [2, 3, 5, 6, 9, 10, 13, 14] (T1 := (mkT 36 [(2, vP 0 0), (3, vP 1 0), (5, vU t), (6, vI 2), (9, vP 2 0), (10, vI 2), (13, .agg #[vI (-1), vI 1]), (14, vI 1)])) (H1 := [rB [vN X, vN Y, vN Z] 60, rB [vI a, vI b, vI c] 25, rB [vI a, vI b, vI (c + 1)] 25]) (by kernel_rfl) ?_
          refine kSeq ?_
          refine cSeq ?_
          refine cReg ?_
          refine segH 2 (T1 := (mkT 36 [(2, vP 0 0), (3, vP 1 0), (5, vU t), (6, vI 2), (9, vP 2 0), (10, vI 2), (13, .agg #[vI (-1), vI 1]), (14, vI 1), (24, .agg #[vN X, vN Y, vN Z]), (25, .agg #[vI a, vI b, vI (c + 1)])])) (by kernel_rfl) ?_
          refine rCall (v := .bool (has3 (X : Int) (Y : Int) (Z : Int) a b (c + 1))) (args := [.agg #[vN X, vN Y, vN Z], .agg #[vI a, vI b, vI (c + 1)]]) (by kernel_rfl) rfl (by kernel_rfl) (Sound.lay0 [] (hasB X Y Z a b (c + 1) (by first | assumption | omega | rfl | decide | exact HeapL.list _ _ _ _ | exact HeapL.nil _ _ _ | exact HeapL.all _ _ _ | (apply HeapL.lt64 <;> assumption) | (repeat' (first | assumption | apply or_lt64 | apply and_lt64 | apply andn_lt64 | apply pow_lt64 | (apply HeapL.lt64 <;> assumption))))) trivial rfl trivial rfl (by first | rfl | simp [mpV, mpA, mpS, mpP, renId, shift]) rfl) ?_
          refine segEndH [2, 3, 5, 6, 9, 10, 13, 14, 26] (T1 := (mkT 36 [(2, vP 0 0), (3, vP 1 0), (5, vU t), (6, vI 2), (9, vP 2 0), (10, vI 2), (13, .agg #[vI (-1), vI 1]), (14, vI 1), (26, .bool (has3 (X : Int) (Y : Int) (Z : Int) a b (c + 1)))])) (by kernel_rfl) ?_
          refine kSeq ?_
          cases h6 : (has3 (X : Int) (Y : Int) (Z : Int) a b (c + 1) : Bool)
          ·
            have h6k := h6
            (try simp only [Bool.not_eq_true', Bool.not_eq_false', decide_eq_true_eq, decide_eq_false_iff_not, beq_iff_eq, bne_iff_ne, beq_eq_false_iff_ne, bne_eq_false_iff_eq, ne_eq, Decidable.not_not, Bool.and_eq_true, Bool.and_eq_false_imp, Bool.or_eq_true, Bool.or_eq_false_iff, Bool.not_eq_true, Int.not_lt, Int.not_le, ge_iff_le, gt_iff_lt] at h6)
            refine cFalse (by kernel_rfl) ?_
            refine cSkip ?_
            refine kBlk ?_
            refine kSeq ?_
            refine cReg ?_
            refine segEndH [2, 3, 5, 6, 10, 13, 14] (T1 := (mkT 36 [(2, vP 0 0), (3, vP 1 0), (5, vU t), (6, vI 2), (10, vI 2), (13, .agg #[vI (-1), vI 1]), (14, vI 2)])) (by kernel_rfl) ?_
            exact kLoop (2 - 2) (mkT 36 [(2, vP 0 0), (3, vP 1 0), (5, vU t), (6, vI 2), (10, vI 2), (13, .agg #[vI (-1), vI 1]), (14, vI 2)]) [rB [vN X, vN Y, vN Z] 60, rB [vI a, vI b, vI c] 25] (by omega) (wkDrop [2, 3, 5, 6, 10, 13, 14] _ rfl rfl ((closedL ⟨clX rfl, ⟨clX rfl, trivial⟩⟩)) (by kernel_rfl) rfl) ⟨2, t, (by omega), (by first | (rw [hs1b]; exact nearTo_yes 5 (by assumption)) | (rw [hs1b]; exact nearTo_no 5 (by assumption))), rfl, rfl, rfl⟩
          ·
            have h6k := h6
            (try simp only [Bool.not_eq_true', Bool.not_eq_false', decide_eq_true_eq, decide_eq_false_iff_not, beq_iff_eq, bne_iff_ne, beq_eq_false_iff_ne, bne_eq_false_iff_eq, ne_eq, Decidable.not_not, Bool.and_eq_true, Bool.and_eq_false_imp, Bool.or_eq_true, Bool.or_eq_false_iff, Bool.not_eq_true, Int.not_lt, Int.not_le, ge_iff_le, gt_iff_lt] at h6)
            have hidx := Nat.lt_of_lt_of_le (idx_lt (c := A3.mk _ _ _) h6) hs.size
            refine cTrue (by kernel_rfl) ?_
            refine cReg ?_
            refine segH 3 (T1 := (mkT 36 [(2, vP 0 0), (3, vP 1 0), (5, vU t), (6, vI 2), (9, vP 2 0), (10, vI 2), (13, .agg #[vI (-1), vI 1]), (14, vI 1), (26, .bool true), (27, vU t), (28, .agg #[vN X, vN Y, vN Z]), (29, .agg #[vI a, vI b, vI (c + 1)])])) (by kernel_rfl) ?_
            refine rCall (v := vN (idxN Y Z (A3.mk a b (c + 1)))) (args := [.agg #[vN X, vN Y, vN Z], .agg #[vI a, vI b, vI (c + 1)]]) (by kernel_rfl) rfl (by kernel_rfl) (Sound.lay0 [] (indexB X Y Z a b (c + 1) (by first | assumption | omega | rfl | decide | exact HeapL.list _ _ _ _ | exact HeapL.nil _ _ _ | exact HeapL.all _ _ _ | (apply HeapL.lt64 <;> assumption) | (repeat' (first | assumption | apply or_lt64 | apply and_lt64 | apply andn_lt64 | apply pow_lt64 | (apply HeapL.lt64 <;> assumption)))) (by first | assumption | omega | rfl | decide | exact HeapL.list _ _ _ _ | exact HeapL.nil _ _ _ | exact HeapL.all _ _ _ | (apply HeapL.lt64 <;> assumption) | (repeat' (first | assumption | apply or_lt64 | apply and_lt64 | apply andn_lt64 | apply pow_lt64 | (apply HeapL.lt64 <;> assumption))))) trivial rfl trivial rfl (by first | rfl | simp [mpV, mpA, mpS, mpP, renId, shift]) rfl) ?_
            refine rOp (v := vU (2 ^ (idxN Y Z (A3.mk a b (c + 1))))) (by kernel_rfl) (eShl (k := .u64) (a := 1) (b := ((idxN Y Z (A3.mk a b (c + 1)) : Nat) : Int)) (k' := .i64) (c := ((2 ^ (idxN Y Z (A3.mk a b (c + 1))) : Nat) : Int)) (by kernel_rfl) (by kernel_rfl) (by omega) (shl1 _ (by omega))) ?_
            refine rOp (v := vU (t ||| (2 ^ (idxN Y Z (A3.mk a b (c + 1)))))) (by kernel_rfl) (eOp (k := .u64) (a := ((t : Nat) : Int)) (b := ((2 ^ (idxN Y Z (A3.mk a b (c + 1))) : Nat) : Int)) (by kernel_rfl) (by kernel_rfl) ⟨by decide, by decide⟩ (orU t (2 ^ (idxN Y Z (A3.mk a b (c + 1)))) (by first | assumption | omega | (repeat' (first | assumption | omega | apply or_lt64 | apply and_lt64 | apply andn_lt64 | apply pow_lt64 | (apply HeapL.lt64 <;> assumption)))) (by first | assumption | omega | (repeat' (first | assumption | omega | apply or_lt64 | apply and_lt64 | apply andn_lt64 | apply pow_lt64 | (apply HeapL.lt64 <;> assumption)))))) ?_
            refine segEndH [2, 3, 5, 6, 10, 13, 14] (T1 := (mkT 36 [(2, vP 0 0), (3, vP 1 0), (5, vU (t ||| (2 ^ (idxN Y Z (A3.mk a b (c + 1)))))), (6, vI 2), (10, vI 2), (13, .agg #[vI (-1), vI 1]), (14, vI 1)])) (by kernel_rfl) ?_
            refine kBlk ?_
            refine kSeq ?_
            refine cReg ?_
            refine segEndH [2, 3, 5, 6, 10, 13, 14] (T1 := (mkT 36 [(2, vP 0 0), (3, vP 1 0), (5, vU (t ||| (2 ^ (idxN Y Z (A3.mk a b (c + 1)))))), (6, vI 2), (10, vI 2), (13, .agg #[vI (-1), vI 1]), (14, vI 2)])) (by kernel_rfl) ?_
            exact kLoop (2 - 2) (mkT 36 [(2, vP 0 0), (3, vP 1 0), (5, vU (t ||| (2 ^ (idxN Y Z (A3.mk a b (c + 1)))))), (6, vI 2), (10, vI 2), (13, .agg #[vI (-1), vI 1]), (14, vI 2)]) [rB [vN X, vN Y, vN Z] 60, rB [vI a, vI b, vI c] 25] (by omega) (wkDrop [2, 3, 5, 6, 10, 13, 14] _ rfl rfl ((closedL ⟨clX rfl, ⟨clX rfl, trivial⟩⟩)) (by kernel_rfl) rfl) ⟨2, (t ||| (2 ^ (idxN Y Z (A3.mk a b (c + 1))))), (by omega), (by first | (rw [hs1b]; exact nearTo_yes 5 (by assumption)) | (rw [hs1b]; exact nearTo_no 5 (by assumption))), rfl, rfl, rfl⟩
        ·
          refine cSeq ?_
          refine cReg ?_
          refine segEndH [2, 3, 5, 6, 10, 13, 14, 15] (T1 := (mkT 36 [(2, vP 0 0), (3, vP 1 0), (5, vU t), (6, vI 2), (10, vI 2), (13, .agg #[vI (-1), vI 1]), (14, vI 2), (15, .bool false)])) (by kernel_rfl) ?_
          refine kSeq ?_
          refine cSeq ?_
          refine cFalse (by kernel_rfl) ?_
          refine cExit ?_
          refine kSeqE ?_
          refine kLoopE ?_
          refine kBlkHit ?_
          refine kBlk ?_
          refine kSeq ?_
          refine cReg ?_
          refine segEndH [2, 3, 5, 10] (T1 := (mkT 36 [(2, vP 0 0), (3, vP 1 0), (5, vU t), (10, vI 3)])) (by kernel_rfl) ?_
          exact kLoop (3 - 3) (mkT 36 [(2, vP 0 0), (3, vP 1 0), (5, vU t), (10, vI 3)]) [rB [vN X, vN Y, vN Z] 60, rB [vI a, vI b, vI c] 25] (by omega) (wkSame [2, 3, 5, 10] (by kernel_rfl)) ⟨3, t, (by omega), (by rw [hs1b]), rfl, rfl, rfl⟩
    ·
      refine cSeq ?_
      refine cReg ?_
      refine segEndH [2, 3, 5, 10, 11] (T1 := (mkT 36 [(2, vP 0 0), (3, vP 1 0), (5, vU s), (10, vI 3), (11, .bool false)])) (by kernel_rfl) ?_
      refine kSeq ?_
      refine cSeq ?_
      refine cFalse (by kernel_rfl) ?_
      refine cExit ?_
      refine kSeqE ?_
      refine kLoopE ?_
      refine kBlkHit ?_
      refine kSeq ?_
      refine cSeq ?_
      refine cReg ?_
      refine segEndH [4] (T1 := (mkT 36 [(4, vU s)])) (by kernel_rfl) ?_
      refine kSeq ?_
      refine cRet ?_
      -- end
      have he0 : (s : Nat) = nearTo X Y Z a b c 6 := by exact hs1
      refine endCast (v1 := vU s) (H1 := []) (by first | rfl | ((try rw [← he0]); done) | (simp only [← he0]; done)) (by first | rfl | ((try rw [← he0]); done) | (simp only [← he0]; done)) ?_
      exact endQ (Or.inr rfl) (l := [vU s]) [rB [vN X, vN Y, vN Z] 60, rB [vI a, vI b, vI c] 25] (by kernel_rfl) (by first | rfl | kernel_rfl) rfl rfl hcl rfl

set_option maxRecDepth 100000 in
set_option maxHeartbeats 4000000 in
theorem specNearCubes_no (x : Int) (y : Int) (z : Int) (L : List A3) (a : Int) (b : Int) (c : Int) (hl : L.length ≤ 1048576) (hv : (isHeapB x y z L && has3 x y z a b c) = false) : Sound Try.prog 27 [.agg #[vI x, vI y, vI z, vS 0 L.length], .agg #[vI a, vI b, vI c]] [some ⟨a3s L, 25, false, false⟩] (.tuple #[vS 1 0, .bool false]) [some ⟨a3s L, 25, false, false⟩, some ⟨[], 25, false, true⟩] := by
  refine sound_intro (C := cx) Try.func27 rfl (by kernel_rfl) fun hcl => ?_
  refine cSeq ?_
  refine cReg ?_
  refine segEnd [2, 3] (T1 := (mkT 14 [(2, vP 1 0), (3, vP 2 0)])) (H1 := [some ⟨a3s L, 25, false, false⟩, rB [vI x, vI y, vI z, vS 0 L.length] 29, rB [vI a, vI b, vI c] 25]) (by kernel_rfl) ?_
  refine kSeq ?_
  refine cSeq ?_
  refine cSeq ?_
  refine cReg ?_
  refine segH 2 (T1 := (mkT 14 [(2, vP 1 0), (3, vP 2 0), (6, .agg #[vI x, vI y, vI z, vS 0 L.length]), (7, .agg #[vI a, vI b, vI c])])) (by kernel_rfl) ?_
  refine rCall (v := .bool false) (args := [.agg #[vI x, vI y, vI z, vS 0 L.length], .agg #[vI a, vI b, vI c]]) (by kernel_rfl) rfl (by kernel_rfl) (Sound.lay0 [0] (l2CellB_no x y z L a b c (by first | assumption | omega | rfl | decide | exact HeapL.list _ _ _ _ | exact HeapL.nil _ _ _ | exact HeapL.all _ _ _ | (apply HeapL.lt64 <;> assumption) | (repeat' (first | assumption | apply or_lt64 | apply and_lt64 | apply andn_lt64 | apply pow_lt64 | (apply HeapL.lt64 <;> assumption)))) (by first | assumption | omega | rfl | decide | exact HeapL.list _ _ _ _ | exact HeapL.nil _ _ _ | exact HeapL.all _ _ _ | (apply HeapL.lt64 <;> assumption) | (repeat' (first | assumption | apply or_lt64 | apply and_lt64 | apply andn_lt64 | apply pow_lt64 | (apply HeapL.lt64 <;> assumption))))) ⟨rdF false (flatA3 _ _ _ _) rfl rfl, trivial⟩ rfl ⟨clF (flatA3 _ _ _ _), trivial⟩ rfl (by first | rfl | simp [mpV, mpA, mpS, mpP, renId, shift]) rfl) ?_
  refine segEndH [2, 3, 9] (T1 := (mkT 14 [(2, vP 1 0), (3, vP 2 0), (9, .bool true)])) (by kernel_rfl) ?_
  refine kSeq ?_
  refine cTrue (by kernel_rfl) ?_
  refine cSeq ?_
  refine cReg ?_
  refine segEnd [4, 5] (T1 := (mkT 14 [(4, vS 3 0), (5, .bool false)])) (H1 := [some ⟨a3s L, 25, false, false⟩, rB [vI x, vI y, vI z, vS 0 L.length] 29, rB [vI a, vI b, vI c] 25, some ⟨[], 25, false, true⟩]) (by kernel_rfl) ?_
  refine kSeq ?_
  refine cRet ?_
  refine kSeqR ?_
  -- end
  exact endF (Or.inr rfl) (l := [vS 3 0, .bool false]) [0, 3] (by kernel_rfl) (by first | rfl | simp [packR, mpV, mpA, mpS, mpP, renId]) ⟨rrF (flatA3 _ _ _ _) rfl, ⟨rrX rfl rfl, trivial⟩⟩ rfl rfl

set_option maxRecDepth 100000 in
set_option maxHeartbeats 4000000 in
theorem specNearCubes_yes (X : Nat) (Y : Nat) (Z : Nat) (L : List A3) (a : Int) (b : Int) (c : Int) (hs : Sides X Y Z) (hL : HeapL X Y Z L) (hh : has3 (X : Int) (Y : Int) (Z : Int) a b c = true) : Sound Try.prog 27 [.agg #[vN X, vN Y, vN Z, vS 0 L.length], .agg #[vI a, vI b, vI c]] [some ⟨a3s L, 25, false, false⟩] (.tuple #[vS 1 ((listOf X Y Z (nearTo X Y Z a b c 6 &&& setOf Y Z L)).length), .bool true]) [some ⟨a3s L, 25, false, false⟩, some ⟨a3s (listOf X Y Z (nearTo X Y Z a b c 6 &&& setOf Y Z L)), 25, false, true⟩] := by
  refine sound_intro (C := cx) Try.func27 rfl (by kernel_rfl) fun hcl => ?_
  have hz := hs.size
  have hx0 := hs.x0
  have hx4 := hs.x4
  have hy0 := hs.y0
  have hy4 := hs.y4
  have hz0 := hs.z0
  have hz4 := hs.z4
  have hlen := hL.len
  have hlt := hL.lt64 hs
  have hnlt := nearTo_lt (a := a) (b := b) (c := c) hs 6
  refine cSeq ?_
  refine cReg ?_
  refine segEnd [2, 3] (T1 := (mkT 14 [(2, vP 1 0), (3, vP 2 0)])) (H1 := [some ⟨a3s L, 25, false, false⟩, rB [vN X, vN Y, vN Z, vS 0 L.length] 29, rB [vI a, vI b, vI c] 25]) (by kernel_rfl) ?_
  refine kSeq ?_
  refine cSeq ?_
  refine cSeq ?_
  refine cReg ?_
  refine segH 2 (T1 := (mkT 14 [(2, vP 1 0), (3, vP 2 0), (6, .agg #[vN X, vN Y, vN Z, vS 0 L.length]), (7, .agg #[vI a, vI b, vI c])])) (by kernel_rfl) ?_
  refine rCall (v := .bool true) (args := [.agg #[vN X, vN Y, vN Z, vS 0 L.length], .agg #[vI a, vI b, vI c]]) (by kernel_rfl) rfl (by kernel_rfl) (Sound.lay0 [0] (l2CellB X Y Z L a b c (by first | assumption | omega | rfl | decide | exact HeapL.list _ _ _ _ | exact HeapL.nil _ _ _ | exact HeapL.all _ _ _ | (apply HeapL.lt64 <;> assumption) | (repeat' (first | assumption | apply or_lt64 | apply and_lt64 | apply andn_lt64 | apply pow_lt64 | (apply HeapL.lt64 <;> assumption)))) (by first | assumption | omega | rfl | decide | exact HeapL.list _ _ _ _ | exact HeapL.nil _ _ _ | exact HeapL.all _ _ _ | (apply HeapL.lt64 <;> assumption) | (repeat' (first | assumption | apply or_lt64 | apply and_lt64 | apply andn_lt64 | apply pow_lt64 | (apply HeapL.lt64 <;> assumption)))) (by first | assumption | omega | rfl | decide | exact HeapL.list _ _ _ _ | exact HeapL.nil _ _ _ | exact HeapL.all _ _ _ | (apply HeapL.lt64 <;> assumption) | (repeat' (first | assumption | apply or_lt64 | apply and_lt64 | apply andn_lt64 | apply pow_lt64 | (apply HeapL.lt64 <;> assumption))))) ⟨rdF false (flatA3 _ _ _ _) rfl rfl, trivial⟩ rfl ⟨clF (flatA3 _ _ _ _), trivial⟩ rfl (by first | rfl | simp [mpV, mpA, mpS, mpP, renId, shift]) rfl) ?_
  refine segEndH [2, 3, 9] (T1 := (mkT 14 [(2, vP 1 0), (3, vP 2 0), (9, .bool false)])) (by kernel_rfl) ?_
  refine kSeq ?_
  refine cFalse (by kernel_rfl) ?_
  refine cSkip ?_
  refine kSeq ?_
  refine cSeq ?_
  refine cReg ?_
  refine segH 2 (T1 := (mkT 14 [(2, vP 1 0), (3, vP 2 0), (9, .bool false), (11, .agg #[vN X, vN Y, vN Z, vS 0 L.length]), (12, .agg #[vI a, vI b, vI c])])) (by kernel_rfl) ?_
  refine rCall (v := vS 3 ((listOf X Y Z (nearTo X Y Z a b c 6 &&& setOf Y Z L)).length)) (args := [.agg #[vN X, vN Y, vN Z, vS 0 L.length], .agg #[vI a, vI b, vI c]]) (by kernel_rfl) rfl (by kernel_rfl) (Sound.lay (E := [some ⟨a3s (listOf X Y Z (nearTo X Y Z a b c 6 &&& setOf Y Z L)), 25, false, true⟩]) [0] (l2NearB X Y Z L a b c (by first | assumption | omega | rfl | decide | exact HeapL.list _ _ _ _ | exact HeapL.nil _ _ _ | exact HeapL.all _ _ _ | (apply HeapL.lt64 <;> assumption) | (repeat' (first | assumption | apply or_lt64 | apply and_lt64 | apply andn_lt64 | apply pow_lt64 | (apply HeapL.lt64 <;> assumption)))) (by first | assumption | omega | rfl | decide | exact HeapL.list _ _ _ _ | exact HeapL.nil _ _ _ | exact HeapL.all _ _ _ | (apply HeapL.lt64 <;> assumption) | (repeat' (first | assumption | apply or_lt64 | apply and_lt64 | apply andn_lt64 | apply pow_lt64 | (apply HeapL.lt64 <;> assumption)))) (by first | assumption | omega | rfl | decide | exact HeapL.list _ _ _ _ | exact HeapL.nil _ _ _ | exact HeapL.all _ _ _ | (apply HeapL.lt64 <;> assumption) | (repeat' (first | assumption | apply or_lt64 | apply and_lt64 | apply andn_lt64 | apply pow_lt64 | (apply HeapL.lt64 <;> assumption))))) ⟨rdF false (flatA3 _ _ _ _) rfl rfl, trivial⟩ rfl ⟨clF (flatA3 _ _ _ _), trivial⟩ rfl (by first | rfl | simp [mpV, mpA, mpS, mpP, renId, shift]) rfl ⟨enF (flatA3 _ _ _ _) (Or.inl rfl), trivial⟩) ?_
  refine segEnd [4, 5] (T1 := (mkT 14 [(4, vS 3 ((listOf X Y Z (nearTo X Y Z a b c 6 &&& setOf Y Z L)).length)), (5, .bool true)])) (H1 := [some ⟨a3s L, 25, false, false⟩, rB [vN X, vN Y, vN Z, vS 0 L.length] 29, rB [vI a, vI b, vI c] 25, some ⟨a3s (listOf X Y Z (nearTo X Y Z a b c 6 &&& setOf Y Z L)), 25, false, true⟩]) (by kernel_rfl) ?_
  refine kSeq ?_
  refine cRet ?_
  -- end
  exact endF (Or.inr rfl) (l := [vS 3 ((listOf X Y Z (nearTo X Y Z a b c 6 &&& setOf Y Z L)).length), .bool true]) [0, 3] (by kernel_rfl) (by first | rfl | simp [packR, mpV, mpA, mpS, mpP, renId]) ⟨rrF (flatA3 _ _ _ _) rfl, ⟨rrF (flatA3 _ _ _ _) rfl, trivial⟩⟩ rfl rfl

set_option maxRecDepth 100000 in
set_option maxHeartbeats 4000000 in
theorem implNearCubes_no (x : Int) (y : Int) (z : Int) (L : List A3) (a : Int) (b : Int) (c : Int) (hl : L.length ≤ 1048576) (hv : (isHeapB x y z L && has3 x y z a b c) = false) : Sound Try.prog 28 [.agg #[vI x, vI y, vI z, vS 0 L.length], .agg #[vI a, vI b, vI c]] [some ⟨a3s L, 25, false, false⟩] (.tuple #[.slice none 0 0, .bool false]) [some ⟨a3s L, 25, false, false⟩] := by
  refine sound_intro (C := cx) Try.func28 rfl (by kernel_rfl) fun hcl => ?_
  refine cSeq ?_
  refine cReg ?_
  refine segEnd [2, 3] (T1 := (mkT 20 [(2, vP 1 0), (3, vP 2 0)])) (H1 := [some ⟨a3s L, 25, false, false⟩, rB [vI x, vI y, vI z, vS 0 L.length] 29, rB [vI a, vI b, vI c] 25]) (by kernel_rfl) ?_
  refine kSeq ?_
  refine cSeq ?_
  refine cSeq ?_
  refine cReg ?_
  refine segH 2 (T1 := (mkT 20 [(2, vP 1 0), (3, vP 2 0), (6, .agg #[vI x, vI y, vI z, vS 0 L.length]), (7, .agg #[vI a, vI b, vI c])])) (by kernel_rfl) ?_
  refine rCall (v := .bool false) (args := [.agg #[vI x, vI y, vI z, vS 0 L.length], .agg #[vI a, vI b, vI c]]) (by kernel_rfl) rfl (by kernel_rfl) (Sound.lay0 [0] (isCellB_no x y z L a b c (by first | assumption | omega | rfl | decide | exact HeapL.list _ _ _ _ | exact HeapL.nil _ _ _ | exact HeapL.all _ _ _ | (apply HeapL.lt64 <;> assumption) | (repeat' (first | assumption | apply or_lt64 | apply and_lt64 | apply andn_lt64 | apply pow_lt64 | (apply HeapL.lt64 <;> assumption)))) (by first | assumption | omega | rfl | decide | exact HeapL.list _ _ _ _ | exact HeapL.nil _ _ _ | exact HeapL.all _ _ _ | (apply HeapL.lt64 <;> assumption) | (repeat' (first | assumption | apply or_lt64 | apply and_lt64 | apply andn_lt64 | apply pow_lt64 | (apply HeapL.lt64 <;> assumption))))) ⟨rdF false (flatA3 _ _ _ _) rfl rfl, trivial⟩ rfl ⟨clF (flatA3 _ _ _ _), trivial⟩ rfl (by first | rfl | simp [mpV, mpA, mpS, mpP, renId, shift]) rfl) ?_
  refine segEndH [2, 3, 9] (T1 := (mkT 20 [(2, vP 1 0), (3, vP 2 0), (9, .bool true)])) (by kernel_rfl) ?_
  refine kSeq ?_
  refine cTrue (by kernel_rfl) ?_
  refine cSeq ?_
  refine cReg ?_
  refine segEndH [4, 5] (T1 := (mkT 20 [(4, .slice none 0 0), (5, .bool false)])) (by kernel_rfl) ?_
  refine kSeq ?_
  refine cRet ?_
  refine kSeqR ?_
  -- end
  exact endQ (Or.inr rfl) (l := [.slice none 0 0, .bool false]) [rB [vI x, vI y, vI z, vS 0 L.length] 29, rB [vI a, vI b, vI c] 25] (by kernel_rfl) (by first | rfl | kernel_rfl) rfl rfl hcl rfl

set_option maxRecDepth 100000 in
set_option maxHeartbeats 4000000 in
theorem implNearCubes_yes (X : Nat) (Y : Nat) (Z : Nat) (L : List A3) (a : Int) (b : Int) (c : Int) (hs : Sides X Y Z) (hL : HeapL X Y Z L) (hh : has3 (X : Int) (Y : Int) (Z : Int) a b c = true) : Sound Try.prog 28 [.agg #[vN X, vN Y, vN Z, vS 0 L.length], .agg #[vI a, vI b, vI c]] [some ⟨a3s L, 25, false, false⟩] (.tuple #[vS 1 ((listOf X Y Z (nearTo X Y Z a b c 6 &&& setOf Y Z L)).length), .bool true]) [some ⟨a3s L, 25, false, false⟩, some ⟨a3s (listOf X Y Z (nearTo X Y Z a b c 6 &&& setOf Y Z L)), 25, false, true⟩] := by
  refine sound_intro (C := cx) Try.func28 rfl (by kernel_rfl) fun hcl => ?_
  have hz := hs.size
  have hx0 := hs.x0
  have hx4 := hs.x4
  have hy0 := hs.y0
  have hy4 := hs.y4
  have hz0 := hs.z0
  have hz4 := hs.z4
  have hlen := hL.len
  have hlt := hL.lt64 hs
  have hnlt := nearTo_lt (a := a) (b := b) (c := c) hs 6
  refine cSeq ?_
  refine cReg ?_
  refine segEnd [2, 3] (T1 := (mkT 20 [(2, vP 1 0), (3, vP 2 0)])) (H1 := [some ⟨a3s L, 25, false, false⟩, rB [vN X, vN Y, vN Z, vS 0 L.length] 29, rB [vI a, vI b, vI c] 25]) (by kernel_rfl) ?_
  refine kSeq ?_
  refine cSeq ?_
  refine cSeq ?_
  refine cReg ?_
  refine segH 2 (T1 := (mkT 20 [(2, vP 1 0), (3, vP 2 0), (6, .agg #[vN X, vN Y, vN Z, vS 0 L.length]), (7, .agg #[vI a, vI b, vI c])])) (by kernel_rfl) ?_
  refine rCall (v := .bool true) (args := [.agg #[vN X, vN Y, vN Z, vS 0 L.length], .agg #[vI a, vI b, vI c]]) (by kernel_rfl) rfl (by kernel_rfl) (Sound.lay0 [0] (isCellB X Y Z L a b c (by first | assumption | omega | rfl | decide | exact HeapL.list _ _ _ _ | exact HeapL.nil _ _ _ | exact HeapL.all _ _ _ | (apply HeapL.lt64 <;> assumption) | (repeat' (first | assumption | apply or_lt64 | apply and_lt64 | apply andn_lt64 | apply pow_lt64 | (apply HeapL.lt64 <;> assumption)))) (by first | assumption | omega | rfl | decide | exact HeapL.list _ _ _ _ | exact HeapL.nil _ _ _ | exact HeapL.all _ _ _ | (apply HeapL.lt64 <;> assumption) | (repeat' (first | assumption | apply or_lt64 | apply and_lt64 | apply andn_lt64 | apply pow_lt64 | (apply HeapL.lt64 <;> assumption)))) (by first | assumption | omega | rfl | decide | exact HeapL.list _ _ _ _ | exact HeapL.nil _ _ _ | exact HeapL.all _ _ _ | (apply HeapL.lt64 <;> assumption) | (repeat' (first | assumption | apply or_lt64 | apply and_lt64 | apply andn_lt64 | apply pow_lt64 | (apply HeapL.lt64 <;> assumption))))) ⟨rdF false (flatA3 _ _ _ _) rfl rfl, trivial⟩ rfl ⟨clF (flatA3 _ _ _ _), trivial⟩ rfl (by first | rfl | simp [mpV, mpA, mpS, mpP, renId, shift]) rfl) ?_
  refine segEndH [2, 3, 9] (T1 := (mkT 20 [(2, vP 1 0), (3, vP 2 0), (9, .bool false)])) (by kernel_rfl) ?_
  refine kSeq ?_
  refine cFalse (by kernel_rfl) ?_
  refine cSkip ?_
  refine kSeq ?_
  refine cSeq ?_
  refine cRegW (N := 4) [⟨[], [], [1]⟩, ⟨[], [], [0]⟩, ⟨[], [], [1]⟩, ⟨[], [], [0]⟩, ⟨[], [], [2]⟩, ⟨[], [], []⟩, ⟨[], [], [1]⟩, ⟨[], [], [0]⟩, ⟨[], [], []⟩, ⟨[3], [], []⟩, ⟨[], [], []⟩, ⟨[], [], []⟩] 1 [3] (by rfl) (by rfl) (by kernel_rfl) (by kernel_rfl) (by kernel_rfl) ⟨nmsF (flatA3 _ _ _ _), ⟨nmsX (by kernel_rfl), ⟨nmsX (by kernel_rfl), trivial⟩⟩⟩ ?_
  refine segWH 1 (T1 := (mkT 20 [(2, vP 1 0), (3, vP 2 0), (9, .bool false), (10, .agg #[vN X, vN Y, vN Z, vS 0 L.length])])) (by kernel_rfl) ?_
  refine rW (m := ⟨[], [], [0]⟩) (v := .agg #[vN X, vN Y, vN Z]) rfl (by kernel_rfl) (stQ (args := [.agg #[vN X, vN Y, vN Z, vS 0 L.length]]) rfl (by kernel_rfl) (Any.lay0 [0] (boxB ((X : Nat) : Int) ((Y : Nat) : Int) ((Z : Nat) : Int) L) ⟨rdF false (flatA3 _ _ _ _) rfl rfl, trivial⟩ rfl ⟨clF (flatA3 _ _ _ _), trivial⟩ rfl (by first | rfl | simp [mpV, mpA, mpS, mpP, renId, shift]) (by first | rfl | simp [mpV, mpA, mpS, mpP, renId, shift])) rfl (by kernel_rfl) (by kernel_rfl)) (by kernel_rfl) nr0 ?_
  refine segWH 1 (T1 := (mkT 20 [(2, vP 1 0), (3, vP 2 0), (9, .bool false), (10, .agg #[vN X, vN Y, vN Z, vS 0 L.length]), (11, .agg #[vN X, vN Y, vN Z]), (12, .agg #[vN X, vN Y, vN Z, vS 0 L.length])])) (by kernel_rfl) ?_
  refine rW (m := ⟨[], [], [0]⟩) (v := .agg #[vN X, vN Y, vN Z]) rfl (by kernel_rfl) (stQ (args := [.agg #[vN X, vN Y, vN Z, vS 0 L.length]]) rfl (by kernel_rfl) (Any.lay0 [0] (boxB ((X : Nat) : Int) ((Y : Nat) : Int) ((Z : Nat) : Int) L) ⟨rdF false (flatA3 _ _ _ _) rfl rfl, trivial⟩ rfl ⟨clF (flatA3 _ _ _ _), trivial⟩ rfl (by first | rfl | simp [mpV, mpA, mpS, mpP, renId, shift]) (by first | rfl | simp [mpV, mpA, mpS, mpP, renId, shift])) rfl (by kernel_rfl) (by kernel_rfl)) (by kernel_rfl) nr0 ?_
  refine segWH 1 (T1 := (mkT 20 [(2, vP 1 0), (3, vP 2 0), (9, .bool false), (10, .agg #[vN X, vN Y, vN Z, vS 0 L.length]), (11, .agg #[vN X, vN Y, vN Z]), (12, .agg #[vN X, vN Y, vN Z, vS 0 L.length]), (13, .agg #[vN X, vN Y, vN Z]), (14, .agg #[vI a, vI b, vI c])])) (by kernel_rfl) ?_
  refine rW (m := ⟨[], [], []⟩) (v := vU (nearTo X Y Z a b c 6)) rfl (by kernel_rfl) (stQ (args := [.agg #[vN X, vN Y, vN Z], .agg #[vI a, vI b, vI c]]) rfl (by kernel_rfl) (Any.lay0 [] (nearB X Y Z a b c (by first | assumption | omega | rfl | decide | exact HeapL.list _ _ _ _ | exact HeapL.nil _ _ _ | exact HeapL.all _ _ _ | (apply HeapL.lt64 <;> assumption) | (repeat' (first | assumption | apply or_lt64 | apply and_lt64 | apply andn_lt64 | apply pow_lt64 | (apply HeapL.lt64 <;> assumption)))) (by first | assumption | omega | rfl | decide | exact HeapL.list _ _ _ _ | exact HeapL.nil _ _ _ | exact HeapL.all _ _ _ | (apply HeapL.lt64 <;> assumption) | (repeat' (first | assumption | apply or_lt64 | apply and_lt64 | apply andn_lt64 | apply pow_lt64 | (apply HeapL.lt64 <;> assumption))))) trivial rfl trivial rfl (by first | rfl | simp [mpV, mpA, mpS, mpP, renId, shift]) rfl) rfl (by kernel_rfl) (by kernel_rfl)) (by kernel_rfl) nr0 ?_
  refine segWH 1 (T1 := (mkT 20 [(2, vP 1 0), (3, vP 2 0), (9, .bool false), (10, .agg #[vN X, vN Y, vN Z, vS 0 L.length]), (11, .agg #[vN X, vN Y, vN Z]), (12, .agg #[vN X, vN Y, vN Z, vS 0 L.length]), (13, .agg #[vN X, vN Y, vN Z]), (14, .agg #[vI a, vI b, vI c]), (15, vU (nearTo X Y Z a b c 6)), (16, .agg #[vN X, vN Y, vN Z, vS 0 L.length])])) (by kernel_rfl) ?_
  refine rW (m := ⟨[], [], [0]⟩) (v := vU (setOf Y Z L)) rfl (by kernel_rfl) (stQ (args := [.agg #[vN X, vN Y, vN Z, vS 0 L.length]]) rfl (by kernel_rfl) (Any.lay0 [0] (cubesB X Y Z L (by first | assumption | omega | rfl | decide | exact HeapL.list _ _ _ _ | exact HeapL.nil _ _ _ | exact HeapL.all _ _ _ | (apply HeapL.lt64 <;> assumption) | (repeat' (first | assumption | apply or_lt64 | apply and_lt64 | apply andn_lt64 | apply pow_lt64 | (apply HeapL.lt64 <;> assumption)))) (by first | assumption | omega | rfl | decide | exact HeapL.list _ _ _ _ | exact HeapL.nil _ _ _ | exact HeapL.all _ _ _ | (apply HeapL.lt64 <;> assumption) | (repeat' (first | assumption | apply or_lt64 | apply and_lt64 | apply andn_lt64 | apply pow_lt64 | (apply HeapL.lt64 <;> assumption))))) ⟨rdF false (flatA3 _ _ _ _) rfl rfl, trivial⟩ rfl ⟨clF (flatA3 _ _ _ _), trivial⟩ rfl (by first | rfl | simp [mpV, mpA, mpS, mpP, renId, shift]) rfl) rfl (by kernel_rfl) (by kernel_rfl)) (by kernel_rfl) nr0 ?_
  refine rW (m := ⟨[], [], []⟩) (v := vU ((nearTo X Y Z a b c 6) &&& (setOf Y Z L))) rfl (by kernel_rfl) (stId (eOp (k := .u64) (a := ((nearTo X Y Z a b c 6 : Nat) : Int)) (b := ((setOf Y Z L : Nat) : Int)) (by kernel_rfl) (by kernel_rfl) ⟨by decide, by decide⟩ (andU (nearTo X Y Z a b c 6) (setOf Y Z L) (by first | assumption | omega | (repeat' (first | assumption | omega | apply or_lt64 | apply and_lt64 | apply andn_lt64 | apply pow_lt64 | (apply HeapL.lt64 <;> assumption)))) (by first | assumption | omega | (repeat' (first | assumption | omega | apply or_lt64 | apply and_lt64 | apply andn_lt64 | apply pow_lt64 | (apply HeapL.lt64 <;> assumption)))))) rfl (by kernel_rfl) (by kernel_rfl) (by kernel_rfl)) (by kernel_rfl) nr0 ?_
  refine rW (m := ⟨[3], [], []⟩) (v := vS 3 ((listOf X Y Z ((nearTo X Y Z a b c 6) &&& (setOf Y Z L))).length)) rfl (by kernel_rfl) (stN (i := 3) (E := [some ⟨a3s (listOf X Y Z ((nearTo X Y Z a b c 6) &&& (setOf Y Z L))), 25, false, true⟩]) (v1 := vS 4 ((listOf X Y Z ((nearTo X Y Z a b c 6) &&& (setOf Y Z L))).length)) (args := [.agg #[vN X, vN Y, vN Z], vU ((nearTo X Y Z a b c 6) &&& (setOf Y Z L))]) rfl (by kernel_rfl) (Any.lay (E := [some ⟨a3s (listOf X Y Z ((nearTo X Y Z a b c 6) &&& (setOf Y Z L))), 25, false, true⟩]) (N := 4) [] (listB X Y Z ((nearTo X Y Z a b c 6) &&& (setOf Y Z L)) (by first | assumption | omega | rfl | decide | exact HeapL.list _ _ _ _ | exact HeapL.nil _ _ _ | exact HeapL.all _ _ _ | (apply HeapL.lt64 <;> assumption) | (repeat' (first | assumption | apply or_lt64 | apply and_lt64 | apply andn_lt64 | apply pow_lt64 | (apply HeapL.lt64 <;> assumption)))) (by first | assumption | omega | rfl | decide | exact HeapL.list _ _ _ _ | exact HeapL.nil _ _ _ | exact HeapL.all _ _ _ | (apply HeapL.lt64 <;> assumption) | (repeat' (first | assumption | apply or_lt64 | apply and_lt64 | apply andn_lt64 | apply pow_lt64 | (apply HeapL.lt64 <;> assumption))))) trivial rfl trivial rfl (by first | rfl | simp [mpV, mpA, mpS, mpP, renId, shift]) rfl ⟨enF (flatA3 _ _ _ _) (Or.inl rfl), trivial⟩) rfl (by kernel_rfl) (by kernel_rfl) (by kernel_rfl) (by kernel_rfl) (FlatH.cons (flatA3 _ _ _ _) FlatH.nil)) (by kernel_rfl) (NRs.all ⟨nrOf (by rfl) (nmF (flatA3 _ _ _ _)), trivial⟩) ?_
  refine segEndW [4, 5] (T1 := (mkT 20 [(4, vS 3 ((listOf X Y Z ((nearTo X Y Z a b c 6) &&& (setOf Y Z L))).length)), (5, .bool true)])) (H1 := [some ⟨a3s L, 25, false, false⟩, rB [vN X, vN Y, vN Z, vS 0 L.length] 29, rB [vI a, vI b, vI c] 25, some ⟨a3s (listOf X Y Z ((nearTo X Y Z a b c 6) &&& (setOf Y Z L))), 25, false, true⟩]) (by kernel_rfl) ?_
  refine kSeq ?_
  refine cRet ?_
  -- end
  exact endF (Or.inr rfl) (l := [vS 3 ((listOf X Y Z ((nearTo X Y Z a b c 6) &&& (setOf Y Z L))).length), .bool true]) [0, 3] (by kernel_rfl) (by first | rfl | simp [packR, mpV, mpA, mpS, mpP, renId]) ⟨rrF (flatA3 _ _ _ _) rfl, ⟨rrF (flatA3 _ _ _ _) rfl, trivial⟩⟩ rfl rfl

theorem eqA3SB (L : List A3) (hl : L.length ≤ 1048576) : Sound Try.prog 29 [vS 0 L.length, vS 1 L.length] [some ⟨a3s L, 25, false, false⟩, some ⟨a3s L, 25, false, false⟩] (.bool true) [some ⟨a3s L, 25, false, false⟩, some ⟨a3s L, 25, false, false⟩] := by
  exact eqA3S_same L hl

theorem eqA3SNE   : Sound Try.prog 29 [.slice none 0 0, vS 0 0] [some ⟨[], 25, false, false⟩] (.bool true) [some ⟨[], 25, false, false⟩] := by
  exact exF_sound (C := cx) told_none 8 29 _ _ _ _ (by kernel_rfl)

theorem markA3SB (L : List A3) (m : Nat) (hl : L.length ≤ 1048576) (hm : m ≤ 1099511627776) : Sound Try.prog 30 [vS 0 L.length, vN m] [some ⟨a3s L, 25, false, true⟩] (vN (m + 3 * L.length)) [some ⟨a3s (mk3 m L.length), 25, false, true⟩] := by
  exact mark_ok L m hl hm

theorem markA3SN (m : Nat)  : Sound Try.prog 30 [.slice none 0 0, vN m] [] (vN m) [] := by
  exact exF_sound (C := cx) told_none 8 30 _ _ _ _ (by kernel_rfl)

theorem heldA3SB (m : Nat) (n : Nat) (hn : n ≤ 1048576) (hm : m ≤ 1099511627776) : Sound Try.prog 31 [vS 0 n, vN m] [some ⟨a3s (mk3 m n), 25, false, false⟩] (vN (m + 3 * n)) [some ⟨a3s (mk3 m n), 25, false, false⟩] := by
  exact held_ok m n hn hm

theorem heldA3SN   : Sound Try.prog 31 [.slice none 0 0, vI 1] [] (vI 1) [] := by
  exact exF_sound (C := cx) told_none 8 31 _ _ _ _ (by kernel_rfl)
end Go.Proofs.Ytenkiofddpjidaa
