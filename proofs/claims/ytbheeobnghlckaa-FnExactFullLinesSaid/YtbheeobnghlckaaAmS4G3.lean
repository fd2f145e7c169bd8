/- Walks. No condition. -/
import Derived.Test.YtbheeobnghlckaaAmS4G2
set_option linter.unusedVariables false
set_option linter.unusedSimpArgs false
namespace Go.Proofs.Ytbheeobnghlckaa
open Go.Am Go.RowKit
set_option maxRecDepth 100000 in
set_option maxHeartbeats 4000000 in
theorem eqA3_same (a b c : Int) : Sound Try.prog 70 [.agg #[vI a, vI b, vI c], .agg #[vI a, vI b, vI c]] [] (.bool true) [] := by
  refine sound_intro (C := cx) Try.func70 rfl (by kernel_rfl) fun hcl => ?_
  refine cSeq ?_
  refine cReg ?_
  refine segEnd [0, 1, 2, 3, 4] (T1 := (mkT 17 [(0, .agg #[vI a, vI b, vI c]), (1, .agg #[vI a, vI b, vI c]), (2, vP 0 0), (3, vP 1 0), (4, .bool false)])) (H1 := [rB [vI a, vI b, vI c] 74, rB [vI a, vI b, vI c] 74]) (by kernel_rfl) ?_
  refine kSeq ?_
  refine cSeq ?_
  refine cSeq ?_
  refine cReg ?_
  refine segEnd [0, 1, 2, 3, 4, 5] (T1 := (mkT 17 [(0, .agg #[vI a, vI b, vI c]), (1, .agg #[vI a, vI b, vI c]), (2, vP 0 0), (3, vP 1 0), (4, .bool false), (5, vI 0)])) (H1 := [rB [vI a, vI b, vI c] 74, rB [vI a, vI b, vI c] 74]) (by kernel_rfl) ?_
  refine kSeq ?_
  refine cBlk ?_
  -- loop
  refine cLoop (fun mm T H => ∃ i : Nat, (i ≤ 3) ∧ mm = 3 - i ∧ T = (mkT 17 [(2, vP 0 0), (3, vP 1 0), (4, .bool false), (5, vN i)]) ∧ H = [rB [vI a, vI b, vI c] 74, rB [vI a, vI b, vI c] 74]) (3 - 0) (mkT 17 [(2, vP 0 0), (3, vP 1 0), (4, .bool false), (5, vI 0)]) [rB [vI a, vI b, vI c] 74, rB [vI a, vI b, vI c] 74] (wkSame [2, 3, 4, 5] (by kernel_rfl)) ?_ ?_
  · exact ⟨0, (Nat.zero_le _), rfl, rfl, rfl⟩
  · rintro _ _ _ ⟨i, hi, rfl, rfl, rfl⟩
    have hcase : i = 0 ∨ i = 1 ∨ i = 2 ∨ i = 3 := by omega
    rcases hcase with rfl | rfl | rfl | rfl
    ·
      refine cSeq ?_
      refine cSeq ?_
      refine cReg ?_
      refine segEnd [2, 3, 4, 5, 7] (T1 := (mkT 17 [(2, vP 0 0), (3, vP 1 0), (4, .bool false), (5, vI 0), (7, .bool true)])) (H1 := [rB [vI a, vI b, vI c] 74, rB [vI a, vI b, vI c] 74]) (by kernel_rfl) ?_
      refine kSeq ?_
      refine cTrue (by kernel_rfl) ?_
      refine cSkip ?_
      refine kSeq ?_
      refine cSeq ?_
      refine cBlk ?_
      refine cSeq ?_
      refine cRegD (by kernel_rfl) ?_
      refine segD 6 (T1 := (mkT 17 [(2, vP 0 0), (3, vP 1 0), (4, .bool false), (5, vI 0), (7, .bool true), (10, vI 0), (11, vP 0 0), (12, vI a), (13, vI 0), (14, vP 1 0), (15, vI a)])) (H1 := [rB [vI a, vI b, vI c] 74, rB [vI a, vI b, vI c] 74]) (by kernel_rfl) ?_
      refine rOpD (v := .bool false) (H' := [rB [vI a, vI b, vI c] 74, rB [vI a, vI b, vI c] 74]) (by kernel_rfl) (eNeS (k := .i64) (a := a) (by kernel_rfl) (by kernel_rfl)) (by rfl) ?_
      refine segEndD [2, 3, 4, 5, 7, 16] (T1 := (mkT 17 [(2, vP 0 0), (3, vP 1 0), (4, .bool false), (5, vI 0), (7, .bool true), (16, .bool false)])) (H1 := [rB [vI a, vI b, vI c] 74, rB [vI a, vI b, vI c] 74]) (by kernel_rfl) ?_
      refine kSeq ?_
      refine cFalse (by kernel_rfl) ?_
      refine cSkip ?_
      refine kBlk ?_
      refine kSeq ?_
      refine cReg ?_
      refine segEnd [2, 3, 4, 5, 7, 16] (T1 := (mkT 17 [(2, vP 0 0), (3, vP 1 0), (4, .bool false), (5, vI 1), (7, .bool true), (16, .bool false)])) (H1 := [rB [vI a, vI b, vI c] 74, rB [vI a, vI b, vI c] 74]) (by kernel_rfl) ?_
      exact kLoop (3 - 1) (mkT 17 [(2, vP 0 0), (3, vP 1 0), (4, .bool false), (5, vI 1)]) [rB [vI a, vI b, vI c] 74, rB [vI a, vI b, vI c] 74] (by omega) (wkSame [2, 3, 4, 5] (by kernel_rfl)) ⟨1, (by omega), rfl, rfl, rfl⟩
    ·
      refine cSeq ?_
      refine cSeq ?_
      refine cReg ?_
      refine segEnd [2, 3, 4, 5, 7] (T1 := (mkT 17 [(2, vP 0 0), (3, vP 1 0), (4, .bool false), (5, vI 1), (7, .bool true)])) (H1 := [rB [vI a, vI b, vI c] 74, rB [vI a, vI b, vI c] 74]) (by kernel_rfl) ?_
      refine kSeq ?_
      refine cTrue (by kernel_rfl) ?_
      refine cSkip ?_
      refine kSeq ?_
      refine cSeq ?_
      refine cBlk ?_
      refine cSeq ?_
      refine cRegD (by kernel_rfl) ?_
      refine segD 6 (T1 := (mkT 17 [(2, vP 0 0), (3, vP 1 0), (4, .bool false), (5, vI 1), (7, .bool true), (10, vI 1), (11, vP 0 1), (12, vI b), (13, vI 1), (14, vP 1 1), (15, vI b)])) (H1 := [rB [vI a, vI b, vI c] 74, rB [vI a, vI b, vI c] 74]) (by kernel_rfl) ?_
      refine rOpD (v := .bool false) (H' := [rB [vI a, vI b, vI c] 74, rB [vI a, vI b, vI c] 74]) (by kernel_rfl) (eNeS (k := .i64) (a := b) (by kernel_rfl) (by kernel_rfl)) (by rfl) ?_
      refine segEndD [2, 3, 4, 5, 7, 16] (T1 := (mkT 17 [(2, vP 0 0), (3, vP 1 0), (4, .bool false), (5, vI 1), (7, .bool true), (16, .bool false)])) (H1 := [rB [vI a, vI b, vI c] 74, rB [vI a, vI b, vI c] 74]) (by kernel_rfl) ?_
      refine kSeq ?_
      refine cFalse (by kernel_rfl) ?_
      refine cSkip ?_
      refine kBlk ?_
      refine kSeq ?_
      refine cReg ?_
      refine segEnd [2, 3, 4, 5, 7, 16] (T1 := (mkT 17 [(2, vP 0 0), (3, vP 1 0), (4, .bool false), (5, vI 2), (7, .bool true), (16, .bool false)])) (H1 := [rB [vI a, vI b, vI c] 74, rB [vI a, vI b, vI c] 74]) (by kernel_rfl) ?_
      exact kLoop (3 - 2) (mkT 17 [(2, vP 0 0), (3, vP 1 0), (4, .bool false), (5, vI 2)]) [rB [vI a, vI b, vI c] 74, rB [vI a, vI b, vI c] 74] (by omega) (wkSame [2, 3, 4, 5] (by kernel_rfl)) ⟨2, (by omega), rfl, rfl, rfl⟩
    ·
      refine cSeq ?_
      refine cSeq ?_
      refine cReg ?_
      refine segEnd [2, 3, 4, 5, 7] (T1 := (mkT 17 [(2, vP 0 0), (3, vP 1 0), (4, .bool false), (5, vI 2), (7, .bool true)])) (H1 := [rB [vI a, vI b, vI c] 74, rB [vI a, vI b, vI c] 74]) (by kernel_rfl) ?_
      refine kSeq ?_
      refine cTrue (by kernel_rfl) ?_
      refine cSkip ?_
      refine kSeq ?_
      refine cSeq ?_
      refine cBlk ?_
      refine cSeq ?_
      refine cRegD (by kernel_rfl) ?_
      refine segD 6 (T1 := (mkT 17 [(2, vP 0 0), (3, vP 1 0), (4, .bool false), (5, vI 2), (7, .bool true), (10, vI 2), (11, vP 0 2), (12, vI c), (13, vI 2), (14, vP 1 2), (15, vI c)])) (H1 := [rB [vI a, vI b, vI c] 74, rB [vI a, vI b, vI c] 74]) (by kernel_rfl) ?_
      refine rOpD (v := .bool false) (H' := [rB [vI a, vI b, vI c] 74, rB [vI a, vI b, vI c] 74]) (by kernel_rfl) (eNeS (k := .i64) (a := c) (by kernel_rfl) (by kernel_rfl)) (by rfl) ?_
      refine segEndD [2, 3, 4, 5, 7, 16] (T1 := (mkT 17 [(2, vP 0 0), (3, vP 1 0), (4, .bool false), (5, vI 2), (7, .bool true), (16, .bool false)])) (H1 := [rB [vI a, vI b, vI c] 74, rB [vI a, vI b, vI c] 74]) (by kernel_rfl) ?_
      refine kSeq ?_
      refine cFalse (by kernel_rfl) ?_
      refine cSkip ?_
      refine kBlk ?_
      refine kSeq ?_
      refine cReg ?_
      refine segEnd [2, 3, 4, 5, 7, 16] (T1 := (mkT 17 [(2, vP 0 0), (3, vP 1 0), (4, .bool false), (5, vI 3), (7, .bool true), (16, .bool false)])) (H1 := [rB [vI a, vI b, vI c] 74, rB [vI a, vI b, vI c] 74]) (by kernel_rfl) ?_
      exact kLoop (3 - 3) (mkT 17 [(2, vP 0 0), (3, vP 1 0), (4, .bool false), (5, vI 3)]) [rB [vI a, vI b, vI c] 74, rB [vI a, vI b, vI c] 74] (by omega) (wkSame [2, 3, 4, 5] (by kernel_rfl)) ⟨3, (by omega), rfl, rfl, rfl⟩
    ·
      refine cSeq ?_
      refine cSeq ?_
      refine cReg ?_
      refine segEnd [2, 3, 4, 5, 7] (T1 := (mkT 17 [(2, vP 0 0), (3, vP 1 0), (4, .bool false), (5, vI 3), (7, .bool false)])) (H1 := [rB [vI a, vI b, vI c] 74, rB [vI a, vI b, vI c] 74]) (by kernel_rfl) ?_
      refine kSeq ?_
      refine cFalse (by kernel_rfl) ?_
      refine cExit ?_
      refine kSeqE ?_
      refine kLoopE ?_
      refine kBlkHit ?_
      refine kSeq ?_
      refine cSeq ?_
      refine cReg ?_
      refine segEnd [2, 3, 4, 5, 7] (T1 := (mkT 17 [(2, vP 0 0), (3, vP 1 0), (4, .bool true), (5, vI 3), (7, .bool false)])) (H1 := [rB [vI a, vI b, vI c] 74, rB [vI a, vI b, vI c] 74]) (by kernel_rfl) ?_
      refine kSeq ?_
      refine cRet ?_
      exact endQ (Or.inr rfl) (l := [.bool true]) [rB [vI a, vI b, vI c] 74, rB [vI a, vI b, vI c] 74] (by kernel_rfl) (rfl) rfl rfl hcl rfl

set_option maxRecDepth 100000 in
set_option maxHeartbeats 4000000 in
theorem eqA3S_same (L : List A3) (hL : L.length ≤ 1048576) : Sound Try.prog 24 [vS 0 L.length, vS 1 L.length] [some ⟨a3s L, 74, false, false⟩, some ⟨a3s L, 74, false, false⟩] (.bool true) [some ⟨a3s L, 74, false, false⟩, some ⟨a3s L, 74, false, false⟩] := by
  refine sound_intro (C := cx) Try.func24 rfl (by kernel_rfl) fun hcl => ?_
  refine cSeq ?_
  refine cReg ?_
  refine segEnd [0, 1, 4] (T1 := (mkT 27 [(0, vS 0 L.length), (1, vS 1 L.length), (4, .bool false)])) (H1 := [some ⟨a3s L, 74, false, false⟩, some ⟨a3s L, 74, false, false⟩]) (by kernel_rfl) ?_
  refine kSeq ?_
  refine cSeq ?_
  refine cSeq ?_
  refine cReg ?_
  refine seg 4 (T1 := (mkT 27 [(0, vS 0 L.length), (1, vS 1 L.length), (4, .bool false), (6, vS 0 L.length), (7, vN L.length), (8, vS 1 L.length), (9, vN L.length)])) (H1 := [some ⟨a3s L, 74, false, false⟩, some ⟨a3s L, 74, false, false⟩]) (by kernel_rfl) ?_
  refine rOp (v := .bool false) (H' := [some ⟨a3s L, 74, false, false⟩, some ⟨a3s L, 74, false, false⟩]) (by kernel_rfl) (eNeS (k := .i64) (a := ((L.length : Nat) : Int)) (by kernel_rfl) (by kernel_rfl)) ?_
  refine segEnd [0, 1, 4, 10] (T1 := (mkT 27 [(0, vS 0 L.length), (1, vS 1 L.length), (4, .bool false), (10, .bool false)])) (H1 := [some ⟨a3s L, 74, false, false⟩, some ⟨a3s L, 74, false, false⟩]) (by kernel_rfl) ?_
  refine kSeq ?_
  refine cFalse (by kernel_rfl) ?_
  refine cSkip ?_
  refine kSeq ?_
  refine cSeq ?_
  refine cSeq ?_
  refine cReg ?_
  refine segEnd [0, 1, 4, 5, 10] (T1 := (mkT 27 [(0, vS 0 L.length), (1, vS 1 L.length), (4, .bool false), (5, vI 0), (10, .bool false)])) (H1 := [some ⟨a3s L, 74, false, false⟩, some ⟨a3s L, 74, false, false⟩]) (by kernel_rfl) ?_
  refine kSeq ?_
  refine cBlk ?_
  -- loop
  refine cLoop (fun mm T H => ∃ i : Nat, (i ≤ L.length) ∧ mm = L.length - i ∧ T = (mkT 27 [(0, vS 0 L.length), (1, vS 1 L.length), (4, .bool false), (5, vN i)]) ∧ H = [some ⟨a3s L, 74, false, false⟩, some ⟨a3s L, 74, false, false⟩]) (L.length - 0) (mkT 27 [(0, vS 0 L.length), (1, vS 1 L.length), (4, .bool false), (5, vI 0)]) [some ⟨a3s L, 74, false, false⟩, some ⟨a3s L, 74, false, false⟩] (wkSame [0, 1, 4, 5] (by kernel_rfl)) ?_ ?_
  · exact ⟨0, (Nat.zero_le _), rfl, rfl, rfl⟩
  · rintro _ _ _ ⟨i, hi, rfl, rfl, rfl⟩
    refine cSeq ?_
    refine cSeq ?_
    refine cReg ?_
    refine segEnd [0, 1, 4, 5, 14] (T1 := (mkT 27 [(0, vS 0 L.length), (1, vS 1 L.length), (4, .bool false), (5, vN i), (14, .bool (decide (((i : Nat) : Int) < ((L.length : Nat) : Int))))])) (H1 := [some ⟨a3s L, 74, false, false⟩, some ⟨a3s L, 74, false, false⟩]) (by kernel_rfl) ?_
    refine kSeq ?_
    cases h1 : (decide (((i : Nat) : Int) < ((L.length : Nat) : Int)) : Bool)
    ·
      (try simp only [Bool.not_eq_true', Bool.not_eq_false', decide_eq_true_eq, decide_eq_false_iff_not, beq_iff_eq, bne_iff_ne, beq_eq_false_iff_ne, bne_eq_false_iff_eq, ne_eq, Decidable.not_not, Bool.and_eq_true, Bool.and_eq_false_imp, Bool.or_eq_true, Bool.or_eq_false_iff, Bool.not_eq_true, Int.not_lt, Int.not_le, ge_iff_le, gt_iff_lt] at h1)
      refine cFalse (by kernel_rfl) ?_
      refine cExit ?_
      refine kSeqE ?_
      refine kLoopE ?_
      refine kBlkHit ?_
      refine kSeq ?_
      refine cSeq ?_
      refine cReg ?_
      refine segEnd [0, 1, 4, 5, 14] (T1 := (mkT 27 [(0, vS 0 L.length), (1, vS 1 L.length), (4, .bool true), (5, vN i), (14, .bool false)])) (H1 := [some ⟨a3s L, 74, false, false⟩, some ⟨a3s L, 74, false, false⟩]) (by kernel_rfl) ?_
      refine kSeq ?_
      refine cRet ?_
      exact endQ (Or.inr rfl) (l := [.bool true]) [] (by kernel_rfl) (rfl) rfl rfl hcl rfl
    ·
      (try simp only [Bool.not_eq_true', Bool.not_eq_false', decide_eq_true_eq, decide_eq_false_iff_not, beq_iff_eq, bne_iff_ne, beq_eq_false_iff_ne, bne_eq_false_iff_eq, ne_eq, Decidable.not_not, Bool.and_eq_true, Bool.and_eq_false_imp, Bool.or_eq_true, Bool.or_eq_false_iff, Bool.not_eq_true, Int.not_lt, Int.not_le, ge_iff_le, gt_iff_lt] at h1)
      refine cTrue (by kernel_rfl) ?_
      refine cSkip ?_
      refine kSeq ?_
      refine cSeq ?_
      refine cBlk ?_
      refine cSeq ?_
      refine cRegD (by kernel_rfl) ?_
      refine segD 2 (T1 := (mkT 27 [(0, vS 0 L.length), (1, vS 1 L.length), (4, .bool false), (5, vN i), (14, .bool true), (17, vS 0 L.length), (18, vN i)])) (H1 := [some ⟨a3s L, 74, false, false⟩, some ⟨a3s L, 74, false, false⟩]) (by kernel_rfl) ?_
      refine rOpD (v := vP 0 (i * 3)) (H' := [some ⟨a3s L, 74, false, false⟩, some ⟨a3s L, 74, false, false⟩]) (by kernel_rfl) (eIdxS (ad := ⟨0, 0, none⟩) (n := L.length) (m := 0) (k := .i64) (c := ((i : Nat) : Int)) (j := i) (o := i * 3) (by kernel_rfl) (by kernel_rfl) ti31 ti74 (rfl) (by omega) (by exact Nat.zero_add _)) (by rfl) ?_
      refine rOpD (v := .agg #[vI ((L.getD i default).x), vI ((L.getD i default).y), vI ((L.getD i default).z)]) (H' := [some ⟨a3s L, 74, false, false⟩, some ⟨a3s L, 74, false, false⟩]) (by kernel_rfl) (eLdA3 (ad := ⟨0, i * 3, none⟩) (r := ⟨a3s L, 74, false, false⟩) (L := L) (j := i) (by kernel_rfl) (by kernel_rfl) rfl (by first | rfl | omega) (by omega) ti74) (by rfl) ?_
      refine segD 2 (T1 := (mkT 27 [(0, vS 0 L.length), (1, vS 1 L.length), (4, .bool false), (5, vN i), (14, .bool true), (17, vS 0 L.length), (18, vN i), (19, vP 0 (i * 3)), (20, .agg #[vI ((L.getD i default).x), vI ((L.getD i default).y), vI ((L.getD i default).z)]), (21, vS 1 L.length), (22, vN i)])) (H1 := [some ⟨a3s L, 74, false, false⟩, some ⟨a3s L, 74, false, false⟩]) (by kernel_rfl) ?_
      refine rOpD (v := vP 1 (i * 3)) (H' := [some ⟨a3s L, 74, false, false⟩, some ⟨a3s L, 74, false, false⟩]) (by kernel_rfl) (eIdxS (ad := ⟨1, 0, none⟩) (n := L.length) (m := 0) (k := .i64) (c := ((i : Nat) : Int)) (j := i) (o := i * 3) (by kernel_rfl) (by kernel_rfl) ti31 ti74 (rfl) (by omega) (by exact Nat.zero_add _)) (by rfl) ?_
      refine rOpD (v := .agg #[vI ((L.getD i default).x), vI ((L.getD i default).y), vI ((L.getD i default).z)]) (H' := [some ⟨a3s L, 74, false, false⟩, some ⟨a3s L, 74, false, false⟩]) (by kernel_rfl) (eLdA3 (ad := ⟨1, i * 3, none⟩) (r := ⟨a3s L, 74, false, false⟩) (L := L) (j := i) (by kernel_rfl) (by kernel_rfl) rfl (by first | rfl | omega) (by omega) ti74) (by rfl) ?_
      refine rCallQ (v := .bool true) (args := [.agg #[vI ((L.getD i default).x), vI ((L.getD i default).y), vI ((L.getD i default).z)], .agg #[vI ((L.getD i default).x), vI ((L.getD i default).y), vI ((L.getD i default).z)]]) (by kernel_rfl) rfl (by kernel_rfl) (by kernel_rfl) (by kernel_rfl) (Quiet.flat (eqA3_same ((L.getD i default).x) ((L.getD i default).y) ((L.getD i default).z)) rfl rfl) ?_
      refine segEndD [0, 1, 4, 5, 14, 26] (T1 := (mkT 27 [(0, vS 0 L.length), (1, vS 1 L.length), (4, .bool false), (5, vN i), (14, .bool true), (26, .bool false)])) (H1 := [some ⟨a3s L, 74, false, false⟩, some ⟨a3s L, 74, false, false⟩]) (by kernel_rfl) ?_
      refine kSeq ?_
      refine cFalse (by kernel_rfl) ?_
      refine cSkip ?_
      refine kBlk ?_
      refine kSeq ?_
      refine cReg ?_
      refine seg 1 (T1 := (mkT 27 [(0, vS 0 L.length), (1, vS 1 L.length), (4, .bool false), (5, vN i), (14, .bool true), (15, vN i), (26, .bool false)])) (H1 := [some ⟨a3s L, 74, false, false⟩, some ⟨a3s L, 74, false, false⟩]) (by kernel_rfl) ?_
      refine rOp (v := vN (i + 1)) (H' := [some ⟨a3s L, 74, false, false⟩, some ⟨a3s L, 74, false, false⟩]) (by kernel_rfl) (eAdd (k := .i64) (a := ((i : Nat) : Int)) (b := 1) (c := ((i + 1 : Nat) : Int)) (by kernel_rfl) (by kernel_rfl) (wr64 (by omega) (by omega) (by omega))) ?_
      refine segEnd [0, 1, 4, 5, 14, 26] (T1 := (mkT 27 [(0, vS 0 L.length), (1, vS 1 L.length), (4, .bool false), (5, vN (i + 1)), (14, .bool true), (26, .bool false)])) (H1 := [some ⟨a3s L, 74, false, false⟩, some ⟨a3s L, 74, false, false⟩]) (by kernel_rfl) ?_
      exact kLoop (L.length - (i + 1)) (mkT 27 [(0, vS 0 L.length), (1, vS 1 L.length), (4, .bool false), (5, vN (i + 1))]) [some ⟨a3s L, 74, false, false⟩, some ⟨a3s L, 74, false, false⟩] (by omega) (wkSame [0, 1, 4, 5] (by kernel_rfl)) ⟨(i + 1), (by omega), rfl, rfl, rfl⟩

set_option maxRecDepth 100000 in
set_option maxHeartbeats 4000000 in
theorem eqHeap_same (x y z : Int) (L : List A3) (hL : L.length ≤ 1048576) : Sound Try.prog 32 [.agg #[vI x, vI y, vI z, vS 0 L.length], .agg #[vI x, vI y, vI z, vS 1 L.length]] [some ⟨a3s L, 74, false, false⟩, some ⟨a3s L, 74, false, false⟩] (.bool true) [some ⟨a3s L, 74, false, false⟩, some ⟨a3s L, 74, false, false⟩] := by
  refine sound_intro (C := cx) Try.func32 rfl (by kernel_rfl) fun hcl => ?_
  refine cSeq ?_
  refine cReg ?_
  refine segEnd [0, 1, 2, 3, 4] (T1 := (mkT 26 [(0, .agg #[vI x, vI y, vI z, vS 0 L.length]), (1, .agg #[vI x, vI y, vI z, vS 1 L.length]), (2, vP 2 0), (3, vP 3 0), (4, .bool false)])) (H1 := [some ⟨a3s L, 74, false, false⟩, some ⟨a3s L, 74, false, false⟩, rB [vI x, vI y, vI z, vS 0 L.length] 40, rB [vI x, vI y, vI z, vS 1 L.length] 40]) (by kernel_rfl) ?_
  refine kSeq ?_
  refine cSeq ?_
  refine cSeq ?_
  refine cReg ?_
  refine seg 4 (T1 := (mkT 26 [(0, .agg #[vI x, vI y, vI z, vS 0 L.length]), (1, .agg #[vI x, vI y, vI z, vS 1 L.length]), (2, vP 2 0), (3, vP 3 0), (4, .bool false), (5, vP 2 0), (6, vI x), (7, vP 3 0), (8, vI x)])) (H1 := [some ⟨a3s L, 74, false, false⟩, some ⟨a3s L, 74, false, false⟩, rB [vI x, vI y, vI z, vS 0 L.length] 40, rB [vI x, vI y, vI z, vS 1 L.length] 40]) (by kernel_rfl) ?_
  refine rOp (v := .bool false) (H' := [some ⟨a3s L, 74, false, false⟩, some ⟨a3s L, 74, false, false⟩, rB [vI x, vI y, vI z, vS 0 L.length] 40, rB [vI x, vI y, vI z, vS 1 L.length] 40]) (by kernel_rfl) (eNeS (k := .i64) (a := x) (by kernel_rfl) (by kernel_rfl)) ?_
  refine segEnd [0, 1, 2, 3, 4, 9] (T1 := (mkT 26 [(0, .agg #[vI x, vI y, vI z, vS 0 L.length]), (1, .agg #[vI x, vI y, vI z, vS 1 L.length]), (2, vP 2 0), (3, vP 3 0), (4, .bool false), (9, .bool false)])) (H1 := [some ⟨a3s L, 74, false, false⟩, some ⟨a3s L, 74, false, false⟩, rB [vI x, vI y, vI z, vS 0 L.length] 40, rB [vI x, vI y, vI z, vS 1 L.length] 40]) (by kernel_rfl) ?_
  refine kSeq ?_
  refine cFalse (by kernel_rfl) ?_
  refine cSkip ?_
  refine kSeq ?_
  refine cSeq ?_
  refine cSeq ?_
  refine cReg ?_
  refine seg 4 (T1 := (mkT 26 [(0, .agg #[vI x, vI y, vI z, vS 0 L.length]), (1, .agg #[vI x, vI y, vI z, vS 1 L.length]), (2, vP 2 0), (3, vP 3 0), (4, .bool false), (9, .bool false), (10, vP 2 1), (11, vI y), (12, vP 3 1), (13, vI y)])) (H1 := [some ⟨a3s L, 74, false, false⟩, some ⟨a3s L, 74, false, false⟩, rB [vI x, vI y, vI z, vS 0 L.length] 40, rB [vI x, vI y, vI z, vS 1 L.length] 40]) (by kernel_rfl) ?_
  refine rOp (v := .bool false) (H' := [some ⟨a3s L, 74, false, false⟩, some ⟨a3s L, 74, false, false⟩, rB [vI x, vI y, vI z, vS 0 L.length] 40, rB [vI x, vI y, vI z, vS 1 L.length] 40]) (by kernel_rfl) (eNeS (k := .i64) (a := y) (by kernel_rfl) (by kernel_rfl)) ?_
  refine segEnd [0, 1, 2, 3, 4, 9, 14] (T1 := (mkT 26 [(0, .agg #[vI x, vI y, vI z, vS 0 L.length]), (1, .agg #[vI x, vI y, vI z, vS 1 L.length]), (2, vP 2 0), (3, vP 3 0), (4, .bool false), (9, .bool false), (14, .bool false)])) (H1 := [some ⟨a3s L, 74, false, false⟩, some ⟨a3s L, 74, false, false⟩, rB [vI x, vI y, vI z, vS 0 L.length] 40, rB [vI x, vI y, vI z, vS 1 L.length] 40]) (by kernel_rfl) ?_
  refine kSeq ?_
  refine cFalse (by kernel_rfl) ?_
  refine cSkip ?_
  refine kSeq ?_
  refine cSeq ?_
  refine cSeq ?_
  refine cReg ?_
  refine seg 4 (T1 := (mkT 26 [(0, .agg #[vI x, vI y, vI z, vS 0 L.length]), (1, .agg #[vI x, vI y, vI z, vS 1 L.length]), (2, vP 2 0), (3, vP 3 0), (4, .bool false), (9, .bool false), (14, .bool false), (15, vP 2 2), (16, vI z), (17, vP 3 2), (18, vI z)])) (H1 := [some ⟨a3s L, 74, false, false⟩, some ⟨a3s L, 74, false, false⟩, rB [vI x, vI y, vI z, vS 0 L.length] 40, rB [vI x, vI y, vI z, vS 1 L.length] 40]) (by kernel_rfl) ?_
  refine rOp (v := .bool false) (H' := [some ⟨a3s L, 74, false, false⟩, some ⟨a3s L, 74, false, false⟩, rB [vI x, vI y, vI z, vS 0 L.length] 40, rB [vI x, vI y, vI z, vS 1 L.length] 40]) (by kernel_rfl) (eNeS (k := .i64) (a := z) (by kernel_rfl) (by kernel_rfl)) ?_
  refine segEnd [0, 1, 2, 3, 4, 9, 14, 19] (T1 := (mkT 26 [(0, .agg #[vI x, vI y, vI z, vS 0 L.length]), (1, .agg #[vI x, vI y, vI z, vS 1 L.length]), (2, vP 2 0), (3, vP 3 0), (4, .bool false), (9, .bool false), (14, .bool false), (19, .bool false)])) (H1 := [some ⟨a3s L, 74, false, false⟩, some ⟨a3s L, 74, false, false⟩, rB [vI x, vI y, vI z, vS 0 L.length] 40, rB [vI x, vI y, vI z, vS 1 L.length] 40]) (by kernel_rfl) ?_
  refine kSeq ?_
  refine cFalse (by kernel_rfl) ?_
  refine cSkip ?_
  refine kSeq ?_
  refine cSeq ?_
  refine cSeq ?_
  refine cReg ?_
  refine seg 4 (T1 := (mkT 26 [(0, .agg #[vI x, vI y, vI z, vS 0 L.length]), (1, .agg #[vI x, vI y, vI z, vS 1 L.length]), (2, vP 2 0), (3, vP 3 0), (4, .bool false), (9, .bool false), (14, .bool false), (19, .bool false), (20, vP 2 3), (21, vS 0 L.length), (22, vP 3 3), (23, vS 1 L.length)])) (H1 := [some ⟨a3s L, 74, false, false⟩, some ⟨a3s L, 74, false, false⟩, rB [vI x, vI y, vI z, vS 0 L.length] 40, rB [vI x, vI y, vI z, vS 1 L.length] 40]) (by kernel_rfl) ?_
  refine rCall (v := .bool true) (H' := [some ⟨a3s L, 74, false, false⟩, some ⟨a3s L, 74, false, false⟩, rB [vI x, vI y, vI z, vS 0 L.length] 40, rB [vI x, vI y, vI z, vS 1 L.length] 40]) (args := [vS 0 L.length, vS 1 L.length]) (by kernel_rfl) rfl (by kernel_rfl) (Sound.reads2 0 1 false false (eqA3S_same L (by first | omega | (simp only [allOf_length, List.length_nil, mk3_length]; omega))) (flatA3 _ _ _ _) (flatA3 _ _ _ _) rfl rfl rfl rfl rfl (by first | rfl | simp [mpV, mpA, mpS, mpP, renId, shift]) rfl) ?_
  refine segEnd [0, 1, 2, 3, 4, 9, 14, 19, 25] (T1 := (mkT 26 [(0, .agg #[vI x, vI y, vI z, vS 0 L.length]), (1, .agg #[vI x, vI y, vI z, vS 1 L.length]), (2, vP 2 0), (3, vP 3 0), (4, .bool false), (9, .bool false), (14, .bool false), (19, .bool false), (25, .bool false)])) (H1 := [some ⟨a3s L, 74, false, false⟩, some ⟨a3s L, 74, false, false⟩, rB [vI x, vI y, vI z, vS 0 L.length] 40, rB [vI x, vI y, vI z, vS 1 L.length] 40]) (by kernel_rfl) ?_
  refine kSeq ?_
  refine cFalse (by kernel_rfl) ?_
  refine cSkip ?_
  refine kSeq ?_
  refine cSeq ?_
  refine cReg ?_
  refine segEnd [0, 1, 2, 3, 4, 9, 14, 19, 25] (T1 := (mkT 26 [(0, .agg #[vI x, vI y, vI z, vS 0 L.length]), (1, .agg #[vI x, vI y, vI z, vS 1 L.length]), (2, vP 2 0), (3, vP 3 0), (4, .bool true), (9, .bool false), (14, .bool false), (19, .bool false), (25, .bool false)])) (H1 := [some ⟨a3s L, 74, false, false⟩, some ⟨a3s L, 74, false, false⟩, rB [vI x, vI y, vI z, vS 0 L.length] 40, rB [vI x, vI y, vI z, vS 1 L.length] 40]) (by kernel_rfl) ?_
  refine kSeq ?_
  refine cRet ?_
  exact endQ (Or.inr rfl) (l := [.bool true]) [rB [vI x, vI y, vI z, vS 0 L.length] 40, rB [vI x, vI y, vI z, vS 1 L.length] 40] (by kernel_rfl) (rfl) rfl rfl hcl rfl

end Go.Proofs.Ytbheeobnghlckaa
