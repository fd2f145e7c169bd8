/- Walks. No condition. -/
import Derived.Test.YtbheeobnghlckaaAmS4G4
set_option linter.unusedVariables false
set_option linter.unusedSimpArgs false
namespace Go.Proofs.Ytbheeobnghlckaa
open Go.Am Go.RowKit
set_option maxRecDepth 100000 in
set_option maxHeartbeats 4000000 in
theorem toA3_ok (a b c : Int) : Sound Try.prog 67 [.agg #[vI a, vI b, vI c]] [] (.agg #[vI a, vI b, vI c]) [] := by
  refine sound_intro (C := cx) Try.func67 rfl (by kernel_rfl) fun hcl => ?_
  refine cSeq ?_
  refine cReg ?_
  refine segEnd [0, 1, 2] (T1 := (mkT 15 [(0, .agg #[vI a, vI b, vI c]), (1, vP 0 0), (2, vP 1 0)])) (H1 := [rB [vI a, vI b, vI c] 74, rB [vI 0, vI 0, vI 0] 74]) (by kernel_rfl) ?_
  refine kSeq ?_
  refine cSeq ?_
  refine cReg ?_
  refine segEnd [0, 1, 2, 3] (T1 := (mkT 15 [(0, .agg #[vI a, vI b, vI c]), (1, vP 0 0), (2, vP 1 0), (3, vP 2 0)])) (H1 := [rB [vI a, vI b, vI c] 74, rB [vI 0, vI 0, vI 0] 74, rB [vI 0, vI 0, vI 0] 74]) (by kernel_rfl) ?_
  refine kSeq ?_
  refine cSeq ?_
  refine cSeq ?_
  refine cReg ?_
  refine segEnd [0, 1, 2, 3, 4] (T1 := (mkT 15 [(0, .agg #[vI a, vI b, vI c]), (1, vP 0 0), (2, vP 1 0), (3, vP 2 0), (4, vI 0)])) (H1 := [rB [vI a, vI b, vI c] 74, rB [vI 0, vI 0, vI 0] 74, rB [vI 0, vI 0, vI 0] 74]) (by kernel_rfl) ?_
  refine kSeq ?_
  refine cBlk ?_
  -- loop
  refine cLoop (fun mm T H => ∃ i : Nat, (i ≤ 3) ∧ mm = 3 - i ∧ T = (mkT 15 [(1, vP 0 0), (2, vP 1 0), (3, vP 2 0), (4, vN i)]) ∧ H = [rB [vI a, vI b, vI c] 74, rB [vI 0, vI 0, vI 0] 74, rB [vI (if 0 < i then a else 0), vI (if 1 < i then b else 0), vI (if 2 < i then c else 0)] 74]) (3 - 0) (mkT 15 [(1, vP 0 0), (2, vP 1 0), (3, vP 2 0), (4, vI 0)]) [rB [vI a, vI b, vI c] 74, rB [vI 0, vI 0, vI 0] 74, rB [vI 0, vI 0, vI 0] 74] (wkSame [1, 2, 3, 4] (by kernel_rfl)) ?_ ?_
  · exact ⟨0, (Nat.zero_le _), rfl, rfl, rfl⟩
  · rintro _ _ _ ⟨i, hi, rfl, rfl, rfl⟩
    have hcase : i = 0 ∨ i = 1 ∨ i = 2 ∨ i = 3 := by omega
    rcases hcase with rfl | rfl | rfl | rfl
    ·
      refine cSeq ?_
      refine cSeq ?_
      refine cReg ?_
      refine segEnd [1, 2, 3, 4, 6] (T1 := (mkT 15 [(1, vP 0 0), (2, vP 1 0), (3, vP 2 0), (4, vI 0), (6, .bool true)])) (H1 := [rB [vI a, vI b, vI c] 74, rB [vI 0, vI 0, vI 0] 74, rB [vI 0, vI 0, vI 0] 74]) (by kernel_rfl) ?_
      refine kSeq ?_
      refine cTrue (by kernel_rfl) ?_
      refine cSkip ?_
      refine kSeq ?_
      refine cSeq ?_
      refine cBlk ?_
      refine cReg ?_
      refine segEnd [1, 2, 3, 4, 6] (T1 := (mkT 15 [(1, vP 0 0), (2, vP 1 0), (3, vP 2 0), (4, vI 0), (6, .bool true)])) (H1 := [rB [vI a, vI b, vI c] 74, rB [vI 0, vI 0, vI 0] 74, rB [vI a, vI 0, vI 0] 74]) (by kernel_rfl) ?_
      refine kBlk ?_
      refine kSeq ?_
      refine cReg ?_
      refine segEnd [1, 2, 3, 4, 6] (T1 := (mkT 15 [(1, vP 0 0), (2, vP 1 0), (3, vP 2 0), (4, vI 1), (6, .bool true)])) (H1 := [rB [vI a, vI b, vI c] 74, rB [vI 0, vI 0, vI 0] 74, rB [vI a, vI 0, vI 0] 74]) (by kernel_rfl) ?_
      exact kLoop (3 - 1) (mkT 15 [(1, vP 0 0), (2, vP 1 0), (3, vP 2 0), (4, vI 1)]) [rB [vI a, vI b, vI c] 74, rB [vI 0, vI 0, vI 0] 74, rB [vI a, vI 0, vI 0] 74] (by omega) (wkSame [1, 2, 3, 4] (by kernel_rfl)) ⟨1, (by omega), rfl, rfl, rfl⟩
    ·
      refine cSeq ?_
      refine cSeq ?_
      refine cReg ?_
      refine segEnd [1, 2, 3, 4, 6] (T1 := (mkT 15 [(1, vP 0 0), (2, vP 1 0), (3, vP 2 0), (4, vI 1), (6, .bool true)])) (H1 := [rB [vI a, vI b, vI c] 74, rB [vI 0, vI 0, vI 0] 74, rB [vI a, vI 0, vI 0] 74]) (by kernel_rfl) ?_
      refine kSeq ?_
      refine cTrue (by kernel_rfl) ?_
      refine cSkip ?_
      refine kSeq ?_
      refine cSeq ?_
      refine cBlk ?_
      refine cReg ?_
      refine segEnd [1, 2, 3, 4, 6] (T1 := (mkT 15 [(1, vP 0 0), (2, vP 1 0), (3, vP 2 0), (4, vI 1), (6, .bool true)])) (H1 := [rB [vI a, vI b, vI c] 74, rB [vI 0, vI 0, vI 0] 74, rB [vI a, vI b, vI 0] 74]) (by kernel_rfl) ?_
      refine kBlk ?_
      refine kSeq ?_
      refine cReg ?_
      refine segEnd [1, 2, 3, 4, 6] (T1 := (mkT 15 [(1, vP 0 0), (2, vP 1 0), (3, vP 2 0), (4, vI 2), (6, .bool true)])) (H1 := [rB [vI a, vI b, vI c] 74, rB [vI 0, vI 0, vI 0] 74, rB [vI a, vI b, vI 0] 74]) (by kernel_rfl) ?_
      exact kLoop (3 - 2) (mkT 15 [(1, vP 0 0), (2, vP 1 0), (3, vP 2 0), (4, vI 2)]) [rB [vI a, vI b, vI c] 74, rB [vI 0, vI 0, vI 0] 74, rB [vI a, vI b, vI 0] 74] (by omega) (wkSame [1, 2, 3, 4] (by kernel_rfl)) ⟨2, (by omega), rfl, rfl, rfl⟩
    ·
      refine cSeq ?_
      refine cSeq ?_
      refine cReg ?_
      refine segEnd [1, 2, 3, 4, 6] (T1 := (mkT 15 [(1, vP 0 0), (2, vP 1 0), (3, vP 2 0), (4, vI 2), (6, .bool true)])) (H1 := [rB [vI a, vI b, vI c] 74, rB [vI 0, vI 0, vI 0] 74, rB [vI a, vI b, vI 0] 74]) (by kernel_rfl) ?_
      refine kSeq ?_
      refine cTrue (by kernel_rfl) ?_
      refine cSkip ?_
      refine kSeq ?_
      refine cSeq ?_
      refine cBlk ?_
      refine cReg ?_
      refine segEnd [1, 2, 3, 4, 6] (T1 := (mkT 15 [(1, vP 0 0), (2, vP 1 0), (3, vP 2 0), (4, vI 2), (6, .bool true)])) (H1 := [rB [vI a, vI b, vI c] 74, rB [vI 0, vI 0, vI 0] 74, rB [vI a, vI b, vI c] 74]) (by kernel_rfl) ?_
      refine kBlk ?_
      refine kSeq ?_
      refine cReg ?_
      refine segEnd [1, 2, 3, 4, 6] (T1 := (mkT 15 [(1, vP 0 0), (2, vP 1 0), (3, vP 2 0), (4, vI 3), (6, .bool true)])) (H1 := [rB [vI a, vI b, vI c] 74, rB [vI 0, vI 0, vI 0] 74, rB [vI a, vI b, vI c] 74]) (by kernel_rfl) ?_
      exact kLoop (3 - 3) (mkT 15 [(1, vP 0 0), (2, vP 1 0), (3, vP 2 0), (4, vI 3)]) [rB [vI a, vI b, vI c] 74, rB [vI 0, vI 0, vI 0] 74, rB [vI a, vI b, vI c] 74] (by omega) (wkSame [1, 2, 3, 4] (by kernel_rfl)) ⟨3, (by omega), rfl, rfl, rfl⟩
    ·
      refine cSeq ?_
      refine cSeq ?_
      refine cReg ?_
      refine segEnd [1, 2, 3, 4, 6] (T1 := (mkT 15 [(1, vP 0 0), (2, vP 1 0), (3, vP 2 0), (4, vI 3), (6, .bool false)])) (H1 := [rB [vI a, vI b, vI c] 74, rB [vI 0, vI 0, vI 0] 74, rB [vI a, vI b, vI c] 74]) (by kernel_rfl) ?_
      refine kSeq ?_
      refine cFalse (by kernel_rfl) ?_
      refine cExit ?_
      refine kSeqE ?_
      refine kLoopE ?_
      refine kBlkHit ?_
      refine kSeq ?_
      refine cSeq ?_
      refine cReg ?_
      refine segEnd [1, 2, 3, 4, 6] (T1 := (mkT 15 [(1, vP 0 0), (2, vP 1 0), (3, vP 2 0), (4, vI 3), (6, .bool false)])) (H1 := [rB [vI a, vI b, vI c] 74, rB [vI a, vI b, vI c] 74, rB [vI a, vI b, vI c] 74]) (by kernel_rfl) ?_
      refine kSeq ?_
      refine cRet ?_
      exact endQ (Or.inr rfl) (l := [.agg #[vI a, vI b, vI c]]) [rB [vI a, vI b, vI c] 74, rB [vI a, vI b, vI c] 74, rB [vI a, vI b, vI c] 74] (by kernel_rfl) (rfl) rfl rfl hcl rfl

set_option maxRecDepth 100000 in
set_option maxHeartbeats 4000000 in
theorem toA3S_ok (L : List A3) (hL : L.length ≤ 1048576) : Sound Try.prog 22 [vS 0 L.length] [some ⟨a3s L, 74, false, false⟩] (vS 1 L.length) [some ⟨a3s L, 74, false, false⟩, some ⟨a3s L, 74, false, true⟩] := by
  refine sound_intro (C := cx) Try.func22 rfl (by kernel_rfl) fun hcl => ?_
  refine cSeq ?_
  refine cReg ?_
  refine segEnd [0, 2] (T1 := (mkT 23 [(0, vS 0 L.length), (2, .slice none 0 0)])) (H1 := [some ⟨a3s L, 74, false, false⟩]) (by kernel_rfl) ?_
  refine kSeq ?_
  refine cSeq ?_
  refine cReg ?_
  refine seg 2 (T1 := (mkT 23 [(0, vS 0 L.length), (2, .slice none 0 0), (5, vS 0 L.length), (6, vN L.length)])) (H1 := [some ⟨a3s L, 74, false, false⟩]) (by kernel_rfl) ?_
  refine rOp (v := vS 1 L.length) (H' := [some ⟨a3s L, 74, false, false⟩, some ⟨a3s (List.replicate L.length zero3), 74, false, true⟩]) (by kernel_rfl) (eMkA3 (n := L.length) (k := .i64) (k2 := .i64) (by kernel_rfl) (by kernel_rfl) ti31 ti74 rfl rfl (by decide) (by omega)) ?_
  refine segEnd [0, 2, 3] (T1 := (mkT 23 [(0, vS 0 L.length), (2, .slice none 0 0), (3, vS 1 L.length)])) (H1 := [some ⟨a3s L, 74, false, false⟩, some ⟨a3s (List.replicate L.length zero3), 74, false, true⟩]) (by kernel_rfl) ?_
  refine kSeq ?_
  refine cSeq ?_
  refine cSeq ?_
  refine cReg ?_
  refine segEnd [0, 2, 3, 4] (T1 := (mkT 23 [(0, vS 0 L.length), (2, .slice none 0 0), (3, vS 1 L.length), (4, vI 0)])) (H1 := [some ⟨a3s L, 74, false, false⟩, some ⟨a3s (List.replicate L.length zero3), 74, false, true⟩]) (by kernel_rfl) ?_
  refine kSeq ?_
  refine cBlk ?_
  -- loop
  refine cLoop (fun mm T H => ∃ j : Nat, ∃ L2 : List A3, (j ≤ L.length) ∧ (L2 = copied L j) ∧ mm = L.length - j ∧ T = (mkT 23 [(0, vS 0 L.length), (2, .slice none 0 0), (3, vS 1 L.length), (4, vN j)]) ∧ H = [some ⟨a3s L, 74, false, false⟩, some ⟨a3s L2, 74, false, true⟩]) (L.length - 0) (mkT 23 [(0, vS 0 L.length), (2, .slice none 0 0), (3, vS 1 L.length), (4, vI 0)]) [some ⟨a3s L, 74, false, false⟩, some ⟨a3s (List.replicate L.length zero3), 74, false, true⟩] (wkSame [0, 2, 3, 4] (by kernel_rfl)) ?_ ?_
  · exact ⟨0, (List.replicate L.length zero3), (Nat.zero_le _), (by simp [copied]), rfl, rfl, rfl⟩
  · rintro _ _ _ ⟨j, L2, hj, hL2, rfl, rfl, rfl⟩
    have hlen : L2.length = L.length := (by rw [hL2]; exact copied_length L j hj)
    refine cSeq ?_
    refine cSeq ?_
    refine cReg ?_
    refine segEnd [0, 2, 3, 4, 11] (T1 := (mkT 23 [(0, vS 0 L.length), (2, .slice none 0 0), (3, vS 1 L.length), (4, vN j), (11, .bool (decide (((j : Nat) : Int) < ((L.length : Nat) : Int))))])) (H1 := [some ⟨a3s L, 74, false, false⟩, some ⟨a3s L2, 74, false, true⟩]) (by kernel_rfl) ?_
    refine kSeq ?_
    cases h1 : (decide (((j : Nat) : Int) < ((L.length : Nat) : Int)) : Bool)
    ·
      (try simp only [Bool.not_eq_true', Bool.not_eq_false', decide_eq_true_eq, decide_eq_false_iff_not, beq_iff_eq, bne_iff_ne, beq_eq_false_iff_ne, bne_eq_false_iff_eq, ne_eq, Decidable.not_not, Bool.and_eq_true, Bool.and_eq_false_imp, Bool.or_eq_true, Bool.or_eq_false_iff, Bool.not_eq_true, Int.not_lt, Int.not_le, ge_iff_le, gt_iff_lt] at h1)
      refine cFalse (by kernel_rfl) ?_
      refine cExit ?_
      refine kSeqE ?_
      refine kLoopE ?_
      refine kBlkHit ?_
      refine kSeq ?_
      refine cSeq ?_
      refine cReg ?_
      refine segEnd [0, 2, 3, 4, 11] (T1 := (mkT 23 [(0, vS 0 L.length), (2, vS 1 L.length), (3, vS 1 L.length), (4, vN j), (11, .bool false)])) (H1 := [some ⟨a3s L, 74, false, false⟩, some ⟨a3s L2, 74, false, true⟩]) (by kernel_rfl) ?_
      refine kSeq ?_
      refine cRet ?_
      have hend : j = L.length := (by omega)
      have hfin : L2 = L := (by rw [hL2, hend]; exact copied_all L)
      subst hfin
      exact endF (Or.inr rfl) (l := [vS 1 L2.length]) [0, 1] (by kernel_rfl) (by first | rfl | simp [packR, mpV, mpA, mpS, mpP, renId]) ⟨rrF (flatA3 _ _ _ _) rfl, ⟨rrF (flatA3 _ _ _ _) rfl, trivial⟩⟩ rfl rfl
    ·
      (try simp only [Bool.not_eq_true', Bool.not_eq_false', decide_eq_true_eq, decide_eq_false_iff_not, beq_iff_eq, bne_iff_ne, beq_eq_false_iff_ne, bne_eq_false_iff_eq, ne_eq, Decidable.not_not, Bool.and_eq_true, Bool.and_eq_false_imp, Bool.or_eq_true, Bool.or_eq_false_iff, Bool.not_eq_true, Int.not_lt, Int.not_le, ge_iff_le, gt_iff_lt] at h1)
      refine cTrue (by kernel_rfl) ?_
      refine cSkip ?_
      refine kSeq ?_
      refine cSeq ?_
      refine cBlk ?_
      refine cReg ?_
      refine seg 4 (T1 := (mkT 23 [(0, vS 0 L.length), (2, .slice none 0 0), (3, vS 1 L.length), (4, vN j), (11, .bool true), (14, vS 1 L.length), (15, vN j), (16, vS 0 L.length), (17, vN j)])) (H1 := [some ⟨a3s L, 74, false, false⟩, some ⟨a3s L2, 74, false, true⟩]) (by kernel_rfl) ?_
      refine rOp (v := vP 0 (j * 3)) (H' := [some ⟨a3s L, 74, false, false⟩, some ⟨a3s L2, 74, false, true⟩]) (by kernel_rfl) (eIdxS (ad := ⟨0, 0, none⟩) (n := L.length) (m := 0) (k := .i64) (c := ((j : Nat) : Int)) (j := j) (o := j * 3) (by kernel_rfl) (by kernel_rfl) ti31 ti74 (rfl) (by omega) (by exact Nat.zero_add _)) ?_
      refine rOp (v := .agg #[vI ((L.getD j default).x), vI ((L.getD j default).y), vI ((L.getD j default).z)]) (H' := [some ⟨a3s L, 74, false, false⟩, some ⟨a3s L2, 74, false, true⟩]) (by kernel_rfl) (eLdA3 (ad := ⟨0, j * 3, none⟩) (r := ⟨a3s L, 74, false, false⟩) (L := L) (j := j) (by kernel_rfl) (by kernel_rfl) rfl (by first | rfl | omega) (by omega) ti74) ?_
      refine rCall (v := .agg #[vI ((L.getD j default).x), vI ((L.getD j default).y), vI ((L.getD j default).z)]) (H' := [some ⟨a3s L, 74, false, false⟩, some ⟨a3s L2, 74, false, true⟩]) (args := [.agg #[vI ((L.getD j default).x), vI ((L.getD j default).y), vI ((L.getD j default).z)]]) (by kernel_rfl) rfl (by kernel_rfl) ((toA3_ok ((L.getD j default).x) ((L.getD j default).y) ((L.getD j default).z)).flat rfl rfl _) ?_
      refine rOp (v := vP 1 (j * 3)) (H' := [some ⟨a3s L, 74, false, false⟩, some ⟨a3s L2, 74, false, true⟩]) (by kernel_rfl) (eIdxS (ad := ⟨1, 0, none⟩) (n := L.length) (m := 0) (k := .i64) (c := ((j : Nat) : Int)) (j := j) (o := j * 3) (by kernel_rfl) (by kernel_rfl) ti31 ti74 (rfl) (by omega) (by exact Nat.zero_add _)) ?_
      refine rOp (v := .tuple #[]) (H' := [some ⟨a3s L, 74, false, false⟩, some ⟨a3s ((L2).set j (L.getD j default)), 74, false, true⟩]) (by kernel_rfl) (eStA3 (b := 1) (o := (j * 3)) (L := L2) (c := (L.getD j default)) (e := 74) (bx := false) (j := j) (by kernel_rfl) (by kernel_rfl) (by kernel_rfl) (by first | rfl | omega) (by omega) ti74 rfl (by rfl)) ?_
      refine segEnd [0, 2, 3, 4, 11] (T1 := (mkT 23 [(0, vS 0 L.length), (2, .slice none 0 0), (3, vS 1 L.length), (4, vN j), (11, .bool true)])) (H1 := [some ⟨a3s L, 74, false, false⟩, some ⟨a3s ((L2).set j (L.getD j default)), 74, false, true⟩]) (by kernel_rfl) ?_
      refine kBlk ?_
      refine kSeq ?_
      refine cReg ?_
      refine seg 1 (T1 := (mkT 23 [(0, vS 0 L.length), (2, .slice none 0 0), (3, vS 1 L.length), (4, vN j), (11, .bool true), (12, vN j)])) (H1 := [some ⟨a3s L, 74, false, false⟩, some ⟨a3s ((L2).set j (L.getD j default)), 74, false, true⟩]) (by kernel_rfl) ?_
      refine rOp (v := vN (j + 1)) (H' := [some ⟨a3s L, 74, false, false⟩, some ⟨a3s ((L2).set j (L.getD j default)), 74, false, true⟩]) (by kernel_rfl) (eAdd (k := .i64) (a := ((j : Nat) : Int)) (b := 1) (c := ((j + 1 : Nat) : Int)) (by kernel_rfl) (by kernel_rfl) (wr64 (by omega) (by omega) (by omega))) ?_
      refine segEnd [0, 2, 3, 4, 11] (T1 := (mkT 23 [(0, vS 0 L.length), (2, .slice none 0 0), (3, vS 1 L.length), (4, vN (j + 1)), (11, .bool true)])) (H1 := [some ⟨a3s L, 74, false, false⟩, some ⟨a3s ((L2).set j (L.getD j default)), 74, false, true⟩]) (by kernel_rfl) ?_
      exact kLoop (L.length - (j + 1)) (mkT 23 [(0, vS 0 L.length), (2, .slice none 0 0), (3, vS 1 L.length), (4, vN (j + 1))]) [some ⟨a3s L, 74, false, false⟩, some ⟨a3s ((L2).set j (L.getD j default)), 74, false, true⟩] (by omega) (wkSame [0, 2, 3, 4] (by kernel_rfl)) ⟨(j + 1), ((L2).set j (L.getD j default)), (by omega), (by rw [hL2]; exact copied_set L j (by omega)), rfl, rfl, rfl⟩

set_option maxRecDepth 100000 in
set_option maxHeartbeats 4000000 in
theorem toA3S_ok_nil  : Sound Try.prog 22 [.slice none 0 0] [] (vS 0 0) [some ⟨[], 74, false, true⟩] := by
  refine sound_intro (C := cx) Try.func22 rfl (by kernel_rfl) fun hcl => ?_
  refine cSeq ?_
  refine cReg ?_
  refine segEnd [0, 2] (T1 := (mkT 23 [(0, .slice none 0 0), (2, .slice none 0 0)])) (H1 := []) (by kernel_rfl) ?_
  refine kSeq ?_
  refine cSeq ?_
  refine cReg ?_
  refine seg 2 (T1 := (mkT 23 [(0, .slice none 0 0), (2, .slice none 0 0), (5, .slice none 0 0), (6, vI 0)])) (H1 := []) (by kernel_rfl) ?_
  refine rOp (v := vS 0 0) (H' := [some ⟨a3s (List.replicate 0 zero3), 74, false, true⟩]) (by kernel_rfl) (eMkA3 (n := 0) (k := .i64) (k2 := .i64) (by kernel_rfl) (by kernel_rfl) ti31 ti74 rfl rfl (by decide) (by omega)) ?_
  refine segEnd [0, 2, 3] (T1 := (mkT 23 [(0, .slice none 0 0), (2, .slice none 0 0), (3, vS 0 0)])) (H1 := [some ⟨a3s (List.replicate 0 zero3), 74, false, true⟩]) (by kernel_rfl) ?_
  refine kSeq ?_
  refine cSeq ?_
  refine cSeq ?_
  refine cReg ?_
  refine segEnd [0, 2, 3, 4] (T1 := (mkT 23 [(0, .slice none 0 0), (2, .slice none 0 0), (3, vS 0 0), (4, vI 0)])) (H1 := [some ⟨a3s (List.replicate 0 zero3), 74, false, true⟩]) (by kernel_rfl) ?_
  refine kSeq ?_
  refine cBlk ?_
  -- loop
  refine cLoop (fun mm T H => mm = 0 ∧ T = (mkT 23 [(0, .slice none 0 0), (2, .slice none 0 0), (3, vS 0 0), (4, vI 0)]) ∧ H = [some ⟨a3s (List.replicate 0 zero3), 74, false, true⟩]) (0) (mkT 23 [(0, .slice none 0 0), (2, .slice none 0 0), (3, vS 0 0), (4, vI 0)]) [some ⟨a3s (List.replicate 0 zero3), 74, false, true⟩] (wkSame [0, 2, 3, 4] (by kernel_rfl)) ?_ ?_
  · exact ⟨rfl, rfl, rfl⟩
  · rintro _ _ _ ⟨rfl, rfl, rfl⟩
    refine cSeq ?_
    refine cSeq ?_
    refine cReg ?_
    refine segEnd [0, 2, 3, 4, 11] (T1 := (mkT 23 [(0, .slice none 0 0), (2, .slice none 0 0), (3, vS 0 0), (4, vI 0), (11, .bool false)])) (H1 := [some ⟨a3s (List.replicate 0 zero3), 74, false, true⟩]) (by kernel_rfl) ?_
    refine kSeq ?_
    refine cFalse (by kernel_rfl) ?_
    refine cExit ?_
    refine kSeqE ?_
    refine kLoopE ?_
    refine kBlkHit ?_
    refine kSeq ?_
    refine cSeq ?_
    refine cReg ?_
    refine segEnd [0, 2, 3, 4, 11] (T1 := (mkT 23 [(0, .slice none 0 0), (2, vS 0 0), (3, vS 0 0), (4, vI 0), (11, .bool false)])) (H1 := [some ⟨a3s (List.replicate 0 zero3), 74, false, true⟩]) (by kernel_rfl) ?_
    refine kSeq ?_
    refine cRet ?_
    exact endF (Or.inr rfl) (l := [vS 0 0]) [0] (by kernel_rfl) (by first | rfl | simp [packR, mpV, mpA, mpS, mpP, renId]) ⟨rrX rfl rfl, trivial⟩ rfl rfl

end Go.Proofs.Ytbheeobnghlckaa
