/- Walks. No condition. -/
import Derived.Test.YtbheeobnghlckaaAmS4G2
set_option linter.unusedVariables false
set_option linter.unusedSimpArgs false
namespace Go.Proofs.Ytbheeobnghlckaa
open Go.Am Go.RowKit
set_option maxRecDepth 100000 in
set_option maxHeartbeats 4000000 in
theorem eqA3_same (a b c : Int) : Sound Try.prog 70 [.agg #[vI a, vI b, vI c], .agg #[vI a, vI b, vI c]] [] (.bool true) [] := by
  refine sound_intro (C := cx) Try.func70 rfl (by kernel_rfl) fun hcl => ?_
  refine cSeq ?_
  refine cReg ?_
  refine segEnd [0, 1, 2, 3, 4] (T1 := (mkT 17 [(0, .agg #[vI a, vI b, vI c]), (1, .agg #[vI a, vI b, vI c]), (2, vP 0 0), (3, vP 1 0), (4, .bool false)])) (H1 := [rB [vI a, vI b, vI c] 74, rB [vI a, vI b, vI c] 74]) (by kernel_rfl) ?_
  refine kSeq ?_
  refine cSeq ?_
  refine cSeq ?_
  refine cReg ?_
  refine segEnd [0, 1, 2, 3, 4, 5] (T1 := (mkT 17 [(0, .agg #[vI a, vI b, vI c]), (1, .agg #[vI a, vI b, vI c]), (2, vP 0 0), (3, vP 1 0), (4, .bool false), (5, vI 0)])) (H1 := [rB [vI a, vI b, vI c] 74, rB [vI a, vI b, vI c] 74]) (by kernel_rfl) ?_
  refine kSeq ?_
  refine cBlk ?_
  -- loop
  refine cLoop (fun mm T H => ∃ i : Nat, (i ≤ 3) ∧ mm = 3 - i ∧ T = (mkT 17 [(2, vP 0 0), (3, vP 1 0), (4, .bool false), (5, vN i)]) ∧ H = [rB [vI a, vI b, vI c] 74, rB [vI a, vI b, vI c] 74]) (3 - 0) (mkT 17 [(2, vP 0 0), (3, vP 1 0), (4, .bool false), (5, vI 0)]) [rB [vI a, vI b, vI c] 74, rB [vI a, vI b, vI c] 74] (wkSame [2, 3, 4, 5] (by kernel_rfl)) ?_ ?_
  · exact ⟨0, (Nat.zero_le _), rfl, rfl, rfl⟩
  · rintro _ _ _ ⟨i, hi, rfl, rfl, rfl⟩
    have hcase : i = 0 ∨ i = 1 ∨ i = 2 ∨ i = 3 := by omega
    rcases hcase with rfl | rfl | rfl | rfl
    ·
      refine cSeq ?_
      refine cSeq ?_
      refine cReg ?_
      refine segEnd [2, 3, 4, 5, 7] (T1 := (mkT 17 [(2, vP 0 0), (3, vP 1 0), (4, .bool false), (5, vI 0), (7, .bool true)])) (H1 := [rB [vI a, vI b, vI c] 74, rB [vI a, vI b, vI c] 74]) (by kernel_rfl) ?_
      refine kSeq ?_
      refine cTrue (by kernel_rfl) ?_
      refine cSkip ?_
      refine kSeq ?_
      refine cSeq ?_
      refine cBlk ?_
      refine cSeq ?_
      refine cRegD (by kernel_rfl) ?_
      refine segD 6 (T1 := (mkT 17 [(2, vP 0 0), (3, vP 1 0), (4, .bool false), (5, vI 0), (7, .bool true), (10, vI 0), (11, vP 0 0), (12, vI a), (13, vI 0), (14, vP 1 0), (15, vI a)])) (H1 := [rB [vI a, vI b, vI c] 74, rB [vI a, vI b, vI c] 74]) (by kernel_rfl) ?_
      refine rOpD (v := .bool false) (H' := [rB [vI a, vI b, vI c] 74, rB [vI a, vI b, vI c] 74]) (by kernel_rfl) (eNeS (k := .i64) (a := a) (by kernel_rfl) (by kernel_rfl)) (by rfl) ?_
      refine segEndD [2, 3, 4, 5, 7, 16] (T1 := (mkT 17 [(2, vP 0 0), (3, vP 1 0), (4, .bool false), (5, vI 0), (7, .bool true), (16, .bool false)])) (H1 := [rB [vI a, vI b, vI c] 74, rB [vI a, vI b, vI c] 74]) (by kernel_rfl) ?_
      refine kSeq ?_
      refine cFalse (by kernel_rfl) ?_
      refine cSkip ?_
      refine kBlk ?_
      refine kSeq ?_
      refine cReg ?_
      refine segEnd [2, 3, 4, 5, 7, 16] (T1 := (mkT 17 [(2, vP 0 0), (3, vP 1 0), (4, .bool false), (5, vI 1), (7, .bool true), (16, .bool false)])) (H1 := [rB [vI a, vI b, vI c] 74, rB [vI a, vI b, vI c] 74]) (by kernel_rfl) ?_
      exact kLoop (3 - 1) (mkT 17 [(2, vP 0 0), (3, vP 1 0), (4, .bool false), (5, vI 1)]) [rB [vI a, vI b, vI c] 74, rB [vI a, vI b, vI c] 74] (by omega) (wkSame [2, 3, 4, 5] (by kernel_rfl)) ⟨1, (by omega), rfl, rfl, rfl⟩
    ·
      refine cSeq ?_
      refine cSeq ?_
      refine cReg ?_
      refine segEnd [2, 3, 4, 5, 7] (T1 := (mkT 17 [(2, vP 0 0), (3, vP 1 0), (4, .bool false), (5, vI 1), (7, .bool true)])) (H1 := [rB [vI a, vI b, vI c] 74, rB [vI a, vI b, vI c] 74]) (by kernel_rfl) ?_
      refine kSeq ?_
      refine cTrue (by kernel_rfl) ?_
      refine cSkip ?_
      refine kSeq ?_
      refine cSeq ?_
      refine cBlk ?_
      refine cSeq ?_
      refine cRegD (by kernel_rfl) ?_
      refine segD 6 (T1 := (mkT 17 [(2, vP 0 0), (3, vP 1 0), (4, .bool false), (5, vI 1), (7, .bool true), (10, vI 1), (11, vP 0 1), (12, vI b), (13, vI 1), (14, vP 1 1), (15, vI b)])) (H1 := [rB [vI a, vI b, vI c] 74, rB [vI a, vI b, vI c] 74]) (by kernel_rfl) ?_
      refine rOpD (v := .bool false) (H' := [rB [vI a, vI b, vI c] 74, rB [vI a, vI b, vI c] 74]) (by kernel_rfl) (eNeS (k := .i64) (a := b) (by kernel_rfl) (by kernel_rfl)) (by rfl) ?_
      refine segEndD [2, 3, 4, 5, 7, 16] (T1 := (mkT 17 [(2, vP 0 0), (3, vP 1 0), (4, .bool false), (5, vI 1), (7, .bool true), (16, .bool false)])) (H1 := [rB [vI a, vI b, vI c] 74, rB [vI a, vI b, vI c] 74]) (by kernel_rfl) ?_
      refine kSeq ?_
      refine cFalse (by kernel_rfl) ?_
      refine cSkip ?_
      refine kBlk ?_
      refine kSeq ?_
      refine cReg ?_
      refine segEnd [2, 3, 4, 5, 7, 16] (T1 := (mkT 17 [(2, vP 0 0), (3, vP 1 0), (4, .bool false), (5, vI 2), (7, .bool true), (16, .bool false)])) (H1 := [rB [vI a, vI b, vI c] 74, rB [vI a, vI b, vI c] 74]) (by kernel_rfl) ?_
      exact kLoop (3 - 2) (mkT 17 [(2, vP 0 0), (3, vP 1 0), (4, .bool false), (5, vI 2)]) [rB [vI a, vI b, vI c] 74, rB [vI a, vI b, vI c] 74] (by omega) (wkSame [2, 3, 4, 5] (by kernel_rfl)) ⟨2, (by omega), rfl, rfl, rfl⟩
    ·
      refine cSeq ?_
      refine cSeq ?_
      refine cReg ?_
      refine segEnd [2, 3, 4, 5, 7] (T1 := (mkT 17 [(2, vP 0 0), (3, vP 1 0), (4, .bool false), (5, vI 2), (7, .bool true)])) (H1 := [rB [vI a, vI b, vI c] 74, rB [vI a, vI b, vI c] 74]) (by kernel_rfl) ?_
      refine kSeq ?_
      refine cTrue (by kernel_rfl) ?_
      refine cSkip ?_
      refine kSeq ?_
      refine cSeq ?_
      refine cBlk ?_
      refine cSeq ?_
      refine cRegD (by kernel_rfl) ?_
      refine segD 6 (T1 := (mkT 17 [(2, vP 0 0), (3, vP 1 0), (4, .bool false), (5, vI 2), (7, .bool true), (10, vI 2), (11, vP 0 2), (12, vI c), (13, vI 2), (14, vP 1 2), (15, vI c)])) (H1 := [rB [vI a, vI b, vI c] 74, rB [vI a, vI b, vI c] 74]) (by kernel_rfl) ?_
      refine rOpD (v := .bool false) (H' := [rB [vI a, vI b, vI c] 74, rB [vI a, vI b, vI c] 74]) (by kernel_rfl) (eNeS (k := .i64) (a := c) (by kernel_rfl) (by kernel_rfl)) (by rfl) ?_
      refine segEndD [2, 3, 4, 5, 7, 16] (T1 := (mkT 17 [(2, vP 0 0), (3, vP 1 0), (4, .bool false), (5, vI 2), (7, .bool true), (16, .bool false)])) (H1 := [rB [vI a, vI b, vI c] 74, rB [vI a, vI b, vI c] 74]) (by kernel_rfl) ?_
      refine kSeq ?_
      refine cFalse (by kernel_rfl) ?_
      refine cSkip ?_
      refine kBlk ?_
      refine kSeq ?_
      refine cReg ?_
      refine segEnd [2, 3, 4, 5, 7, 16] (T1 := (mkT 17 [(2, vP 0 0), (3, vP 1 0), (4, .bool false), (5, vI 3), (7, .bool true), (16, .bool false)])) (H1 := [rB [vI a, vI b, vI c] 74, rB [vI a, vI b, vI c] 74]) (by kernel_rfl) ?_
      exact kLoop (3 - 3) (mkT 17 [(2, vP 0 0), (3, vP 1 0), (4, .bool false), (5, vI 3)]) [rB [vI a, vI b, vI c] 74, rB [vI a, vI b, vI c] 74] (by omega) (wkSame [2, 3, 4, 5] (by kernel_rfl)) ⟨3, (by omega), rfl, rfl, rfl⟩
    ·
      refine cSeq ?_
      refine cSeq ?_
      refine cReg ?_
      refine segEnd [2, 3, 4, 5, 7] (T1 := (mkT 17 [(2, vP 0 0), (3, vP 1 0), (4, .bool false), (5, vI 3), (7, .bool false)])) (H1 := [rB [vI a, vI b, vI c] 74, rB [vI a, vI b, vI c] 74]) (by kernel_rfl) ?_
      refine kSeq ?_
      refine cFalse (by kernel_rfl) ?_
      refine cExit ?_
      refine kSeqE ?_
      refine kLoopE ?_
      refine kBlkHit ?_
      refine kSeq ?_
      refine cSeq ?_
      refine cReg ?_
      refine segEnd [2, 3, 4, 5, 7] (T1 := (mkT 17 [(2, vP 0 0), (3, vP 1 0), (4, .bool true), (5, vI 3), (7, .bool false)])) (H1 := [rB [vI a, vI b, vI c] 74, rB [vI a, vI b, vI c] 74]) (by kernel_rfl) ?_
      refine kSeq ?_
      refine cRet ?_
      exact endQ (Or.inr rfl) (l := [.bool true]) [rB [vI a, vI b, vI c] 74, rB [vI a, vI b, vI c] 74] (by kernel_rfl) (rfl) rfl rfl hcl rfl

set_option maxRecDepth 100000 in
set_option maxHeartbeats 4000000 in
theorem eqA3S_same (L : List A3) (hL : L.length ≤ 1048576) : Sound Try.prog 24 [vS 0 L.length, vS 1 L.length] [some ⟨a3s L, 74, false, false⟩, some ⟨a3s L, 74, false, false⟩] (.bool true) [some ⟨a3s L, 74, false, false⟩, some ⟨a3s L, 74, false, false⟩] := by
  refine sound_intro (C := cx) Try.func24 rfl (by kernel_rfl) fun hcl => ?_
  refine cSeq ?_
  refine cReg ?_
  refine segEnd [0, 1, 4] (T1 := (mkT 27 [(0, vS 0 L.length), (1, vS 1 L.length), (4, .bool false)])) (H1 := [some ⟨a3s L, 74, false, false⟩, some ⟨a3s L, 74, false, false⟩]) (by kernel_rfl) ?_
  refine kSeq ?_
  refine cSeq ?_
  refine cSeq ?_
  refine cReg ?_
  refine seg 4 (T1 := (mkT 27 [(0, vS 0 L.length), (1, vS 1 L.length), (4, .bool false), (6, vS 0 L.length), (7, vN L.length), (8, vS 1 L.length), (9, vN L.length)])) (H1 := [some ⟨a3s L, 74, false, false⟩, some ⟨a3s L, 74, false, false⟩]) (by kernel_rfl) ?_
  refine rOp (v := .bool false) (H' := [some ⟨a3s L, 74, false, false⟩, some ⟨a3s L, 74, false, false⟩]) (by kernel_rfl) (eNeS (k := .i64) (a := ((L.length : Nat) : Int)) (by kernel_rfl) (by kernel_rfl)) ?_
  refine segEnd [0, 1, 4, 10] (T1 := (mkT 27 [(0, vS 0 L.length), (1, vS 1 L.length), (4, .bool false), (10, .bool false)])) (H1 := [some ⟨a3s L, 74, false, false⟩, some ⟨a3s L, 74, false, false⟩]) (by kernel_rfl) ?_
  refine kSeq ?_
  refine cFalse (by kernel_rfl) ?_
  refine cSkip ?_
  refine kSeq ?_
  refine cSeq ?_
  refine cSeq ?_
  refine cReg ?_
  refine segEnd [0, 1, 4, 5, 10] (T1 := (mkT 27 [(0, vS 0 L.length), (1, vS 1 L.length), (4, .bool false), (5, vI 0), (10, .bool false)])) (H1 := [some ⟨a3s L, 74, false, false⟩, some ⟨a3s L, 74, false, false⟩]) (by kernel_rfl) ?_
  refine kSeq ?_
  refine cBlk ?_
  -- loop
  refine cLoop (fun mm T H => ∃ i : Nat, (i ≤ L.length) ∧ mm = L.length - i ∧ T = (mkT 27 [(0, vS 0 L.length), (1, vS 1 L.length), (4, .bool false), (5, vN i)]) ∧ H = [some ⟨a3s L, 74, false, false⟩, some ⟨a3s L, 74, false, false⟩]) (L.length - 0) (mkT 27 [(0, vS 0 L.length), (1, vS 1 L.length), (4, .bool false), (5, vI 0)]) [some ⟨a3s L, 74, false, false⟩, some ⟨a3s L, 74, false, false⟩] (wkSame [0, 1, 4, 5] (by kernel_rfl)) ?_ ?_
  · exact ⟨0, (Nat.zero_le _), rfl, rfl, rfl⟩
  · rintro _ _ _ ⟨i, hi, rfl, rfl, rfl⟩
    refine cSeq ?_
    refine cSeq ?_
    refine cReg ?_
    refine segEnd [0, 1, 4, 5, 14] (T1 := (mkT 27 [(0, vS 0 L.length), (1, vS 1 L.length), (4, .bool false), (5, vN i), (14, .bool (decide (((i : Nat) : Int) < ((L.length : Nat) : Int))))])) (H1 := [some ⟨a3s L, 74, false, false⟩, some ⟨a3s L, 74, false, false⟩]) (by kernel_rfl) ?_
    refine kSeq ?_
    cases h1 : (decide (((i : Nat) : Int) < ((L.length : Nat) : Int)) : Bool)
    ·
      (try simp only [Bool.not_eq_true', Bool.not_eq_false', decide_eq_true_eq, decide_eq_false_iff_not, beq_iff_eq, bne_iff_ne, beq_eq_false_iff_ne, bne_eq_false_iff_eq, ne_eq, Decidable.not_not, Bool.and_eq_true, Bool.and_eq_false_imp, Bool.or_eq_true, Bool.or_eq_false_iff, Bool.not_eq_true, Int.not_lt, Int.not_le, ge_iff_le, gt_iff_lt] at h1)
      refine cFalse (by kernel_rfl) ?_
      refine cExit ?_
      refine kSeqE ?_
      refine kLoopE ?_
      refine kBlkHit ?_
      refine kSeq ?_
      refine cSeq ?_
      refine cReg ?_
      refine segEnd [0, 1, 4, 5, 14] (T1 := (mkT 27 [(0, vS 0 L.length), (1, vS 1 L.length), (4, .bool true), (5, vN i), (14, .bool false)])) (H1 := [some ⟨a3s L, 74, false, false⟩, some ⟨a3s L, 74, false, false⟩]) (by kernel_rfl) ?_
      refine kSeq ?_
      refine cRet ?_
      exact endQ (Or.inr rfl) (l := [.bool true]) [] (by kernel_rfl) (rfl) rfl rfl hcl rfl
    ·
      (try simp only [Bool.not_eq_true', Bool.not_eq_false', decide_eq_true_eq, decide_eq_false_iff_not, beq_iff_eq, bne_iff_ne, beq_eq_false_iff_ne, bne_eq_false_iff_eq, ne_eq, Decidable.not_not, Bool.and_eq_true, Bool.and_eq_false_imp, Bool.or_eq_true, Bool.or_eq_false_iff, Bool.not_eq_true, Int.not_lt, Int.not_le, ge_iff_le, gt_iff_lt] at h1)
      refine cTrue (by kernel_rfl) ?_
      refine cSkip ?_
      refine kSeq ?_
      refine cSeq ?_
      refine cBlk ?_
      refine cSeq ?_
      refine cRegD (by kernel_rfl) ?_
      refine segD 2 (T1 := (mkT 27 [(0, vS 0 L.length), (1, vS 1 L.length), (4, .bool false), (5, vN i), (14, .bool true), (17, vS 0 L.length), (18, vN i)])) (H1 := [some ⟨a3s L, 74, false, false⟩, some ⟨a3s L, 74, false, false⟩]) (by kernel_rfl) ?_
      refine rOpD (v := vP 0 (i * 3)) (H' := [some ⟨a3s L, 74, false, false⟩, some ⟨a3s L, 74, false, false⟩]) (by kernel_rfl) (eIdxS (ad := ⟨0, 0, none⟩) (n := L.length) (m := 0) (k := .i64) (c := ((i : Nat) : Int)) (j := i) (o := i * 3) (by kernel_rfl) (by kernel_rfl) ti31 ti74 (rfl) (by omega) (by exact Nat.zero_add _)) (by rfl) ?_
      refine rOpD (v := .agg #[vI ((L.getD i default).x), vI ((L.getD i default).y), vI ((L.getD i default).z)]) (H' := [some ⟨a3s L, 74, false, false⟩, some ⟨a3s L, 74, false, false⟩]) (by kernel_rfl) (eLdA3 (ad := ⟨0, i * 3, none⟩) (r := ⟨a3s L, 74, false, false⟩) (L := L) (j := i) (by kernel_rfl) (by kernel_rfl) rfl (by first | rfl | omega) (by omega) ti74) (by rfl) ?_
      refine segD 2 (T1 := (mkT 27 [(0, vS 0 L.length), (1, vS 1 L.length), (4, .bool false), (5, vN i), (14, .bool true), (17, vS 0 L.length), (18, vN i), (19, vP 0 (i * 3)), (20, .agg #[vI ((L.getD i default).x), vI ((L.getD i default).y), vI ((L.getD i default).z)]), (21, vS 1 L.length), (22, vN i)])) (H1 := [some ⟨a3s L, 74, false, false⟩, some ⟨a3s L, 74, false, false⟩]) (by kernel_rfl) ?_
      refine rOpD (v := vP 1 (i * 3)) (H' := [some ⟨a3s L, 74, false, false⟩, some ⟨a3s L, 74, false, false⟩]) (by kernel_rfl) (eIdxS (ad := ⟨1, 0, none⟩) (n := L.length) (m := 0) (k := .i64) (c := ((i : Nat) : Int)) (j := i) (o := i * 3) (by kernel_rfl) (by kernel_rfl) ti31 ti74 (rfl) (by omega) (by exact Nat.zero_add _)) (by rfl) ?_
      refine rOpD (v := .agg #[vI ((L.getD i default).x), vI ((L.getD i default).y), vI ((L.getD i default).z)]) (H' := [some ⟨a3s L, 74, false, false⟩, some ⟨a3s L, 74, false, false⟩]) (by kernel_rfl) (eLdA3 (ad := ⟨1, i * 3, none⟩) (r := ⟨a3s L, 74, false, false⟩) (L := L) (j := i) (by kernel_rfl) (by kernel_rfl) rfl (by first | rfl | omega) (by omega) ti74) (by rfl) ?_
      refine rCallQ (v := .bool true) (args := [.agg #[vI ((L.getD i default).x), vI ((L.getD i default).y), vI ((L.getD i default).z)], .agg #[vI ((L.getD i default).x), vI ((L.getD i default).y), vI ((L.getD i default).z)]]) (by kernel_rfl) rfl (by kernel_rfl) (by kernel_rfl) (by kernel_rfl) (Quiet.flat (eqA3_same ((L.getD i default).x) ((L.getD i default).y) ((L.getD i default).z)) rfl rfl) ?_
      refine segEndD [0, 1, 4, 5, 14, 26] (T1 := (mkT 27 [(0, vS 0 L.length), (1, vS 1 L.length), (4, .bool false), (5, vN i), (14, .bool true), (26, .bool false)])) (H1 := [some ⟨a3s L, 74, false, false⟩, some ⟨a3s L, 74, false, false⟩]) (by kernel_rfl) ?_
      refine kSeq ?_
      refine cFalse (by kernel_rfl) ?_
      refine cSkip ?_
      refine kBlk ?_
      refine kSeq ?_
      refine cReg ?_
      refine seg 1 (T1 := (mkT 27 [(0, vS 0 L.length), (1, vS 1 L.length), (4, .bool false), (5, vN i), (14, .bool true), (15, vN i), (26, .bool false)])) (H1 := [some ⟨a3s L, 74, false, false⟩, some ⟨a3s L, 74, false, false⟩]) (by kernel_rfl) ?_
      refine rOp (v := vN (i + 1)) (H' := [some ⟨a3s L, 74, false, false⟩, some ⟨a3s L, 74, false, false⟩]) (by kernel_rfl) (eAdd (k := .i64) (a := ((i : Nat) : Int)) (b := 1) (c := ((i + 1 : Nat) : Int)) (by kernel_rfl) (by kernel_rfl) (wr64 (by omega) (by omega) (by omega))) ?_
      refine segEnd [0, 1, 4, 5, 14, 26] (T1 := (mkT 27 [(0, vS 0 L.length), (1, vS 1 L.length), (4, .bool false), (5, vN (i + 1)), (14, .bool true), (26, .bool false)])) (H1 := [some ⟨a3s L, 74, false, false⟩, some ⟨a3s L, 74, false, false⟩]) (by kernel_rfl) ?_
      exact kLoop (L.length - (i + 1)) (mkT 27 [(0, vS 0 L.length), (1, vS 1 L.length), (4, .bool false), (5, vN (i + 1))]) [some ⟨a3s L, 74, false, false⟩, some ⟨a3s L, 74, false, false⟩] (by omega) (wkSame [0, 1, 4, 5] (by kernel_rfl)) ⟨(i + 1), (by omega), rfl, rfl, rfl⟩

set_option maxRecDepth 100000 in
set_option maxHeartbeats 4000000 in
theorem eqHeap_same (x y z : Int) (L : List A3) (hL : L.length ≤ 1048576) : Sound Try.prog 32 [.agg #[vI x, vI y, vI z, vS 0 L.length], .agg #[vI x, vI y, vI z, vS 1 L.length]] [some ⟨a3s L, 74, false, false⟩, some ⟨a3s L, 74, false, false⟩] (.bool true) [some ⟨a3s L, 74, false, false⟩, some ⟨a3s L, 74, false, false⟩] := by
  refine sound_intro (C := cx) Try.func32 rfl (by kernel_rfl) fun hcl => ?_
  refine cSeq ?_
  refine cReg ?_
  refine segEnd [0, 1, 2, 3, 4] (T1 := (mkT 26 [(0, .agg #[vI x, vI y, vI z, vS 0 L.length]), (1, .agg #[vI x, vI y, vI z, vS 1 L.length]), (2, vP 2 0), (3, vP 3 0), (4, .bool false)])) (H1 := [some ⟨a3s L, 74, false, false⟩, some ⟨a3s L, 74, false, false⟩, rB [vI x, vI y, vI z, vS 0 L.length] 40, rB [vI x, vI y, vI z, vS 1 L.length] 40]) (by kernel_rfl) ?_
  refine kSeq ?_
  refine cSeq ?_
  refine cSeq ?_
  refine cReg ?_
  refine seg 4 (T1 := (mkT 26 [(0, .agg #[vI x, vI y, vI z, vS 0 L.length]), (1, .agg #[vI x, vI y, vI z, vS 1 L.length]), (2, vP 2 0), (3, vP 3 0), (4, .bool false), (5, vP 2 0), (6, vI x), (7, vP 3 0), (8, vI x)])) (H1 := [some ⟨a3s L, 74, false, false⟩, some ⟨a3s L, 74, false, false⟩, rB [vI x, vI y, vI z, vS 0 L.length] 40, rB [vI x, vI y, vI z, vS 1 L.length] 40]) (by kernel_rfl) ?_
  refine rOp (v := .bool false) (H' := [some ⟨a3s L, 74, false, false⟩, some ⟨a3s L, 74, false, false⟩, rB [vI x, vI y, vI z, vS 0 L.length] 40, rB [vI x, vI y, vI z, vS 1 L.length] 40]) (by kernel_rfl) (eNeS (k := .i64) (a := x) (by kernel_rfl) (by kernel_rfl)) ?_
  refine segEnd [0, 1, 2, 3, 4, 9] (T1 := (mkT 26 [(0, .agg #[vI x, vI y, vI z, vS 0 L.length]), (1, .agg #[vI x, vI y, vI z, vS 1 L.length]), (2, vP 2 0), (3, vP 3 0), (4, .bool false), (9, .bool false)])) (H1 := [some ⟨a3s L, 74, false, false⟩, some ⟨a3s L, 74, false, false⟩, rB [vI x, vI y, vI z, vS 0 L.length] 40, rB [vI x, vI y, vI z, vS 1 L.length] 40]) (by kernel_rfl) ?_
  refine kSeq ?_
  refine cFalse (by kernel_rfl) ?_
  refine cSkip ?_
  refine kSeq ?_
  refine cSeq ?_
  refine cSeq ?_
  refine cReg ?_
  refine seg 4 (T1 := (mkT 26 [(0, .agg #[vI x, vI y, vI z, vS 0 L.length]), (1, .agg #[vI x, vI y, vI z, vS 1 L.length]), (2, vP 2 0), (3, vP 3 0), (4, .bool false), (9, .bool false), (10, vP 2 1), (11, vI y), (12, vP 3 1), (13, vI y)])) (H1 := [some ⟨a3s L, 74, false, false⟩, some ⟨a3s L, 74, false, false⟩, rB [vI x, vI y, vI z, vS 0 L.length] 40, rB [vI x, vI y, vI z, vS 1 L.length] 40]) (by kernel_rfl) ?_
  refine rOp (v := .bool false) (H' := [some ⟨a3s L, 74, false, false⟩, some ⟨a3s L, 74, false, false⟩, rB [vI x, vI y, vI z, vS 0 L.length] 40, rB [vI x, vI y, vI z, vS 1 L.length] 40]) (by kernel_rfl) (eNeS (k := .i64) (a := y) (by kernel_rfl) (by kernel_rfl)) ?_
  refine segEnd [0, 1, 2, 3, 4, 9, 14] (T1 := (mkT 26 [(0, .agg #[vI x, vI y, vI z, vS 0 L.length]), (1, .agg #[vI x, vI y, vI z, vS 1 L.length]), (2, vP 2 0), (3, vP 3 0), (4, .bool false), (9, .bool false), (14, .bool false)])) (H1 := [some ⟨a3s L, 74, false, false⟩, some ⟨a3s L, 74, false, false⟩, rB [vI x, vI y, vI z, vS 0 L.length] 40, rB [vI x, vI y, vI z, vS 1 L.length] 40]) (by kernel_rfl) ?_
  refine kSeq ?_
  refine cFalse (by kernel_rfl) ?_
  refine cSkip ?_
  refine kSeq ?_
  refine cSeq ?_
  refine cSeq ?_
  refine cReg ?_
  refine seg 4 (T1 := (mkT 26 [(0, .agg #[vI x, vI y, vI z, vS 0 L.length]), (1, .agg #[vI x, vI y, vI z, vS 1 L.length]), (2, vP 2 0), (3, vP 3 0), (4, .bool false), (9, .bool false), (14, .bool false), (15, vP 2 2), (16, vI z), (17, vP 3 2), (18, vI z)])) (H1 := [some ⟨a3s L, 74, false, false⟩, some ⟨a3s L, 74, false, false⟩, rB [vI x, vI y, vI z, vS 0 L.length] 40, rB [vI x, vI y, vI z, vS 1 L.length] 40]) (by kernel_rfl) ?_
  refine rOp (v := .bool false) (H' := [some ⟨a3s L, 74, false, false⟩, some ⟨a3s L, 74, false, false⟩, rB [vI x, vI y, vI z, vS 0 L.length] 40, rB [vI x, vI y, vI z, vS 1 L.length] 40]) (by kernel_rfl) (eNeS (k := .i64) (a := z) (by kernel_rfl) (by kernel_rfl)) ?_
  refine segEnd [0, 1, 2, 3, 4, 9, 14, 19] (T1 := (mkT 26 [(0, .agg #[vI x, vI y, vI z, vS 0 L.length]), (1, .agg #[vI x, vI y, vI z, vS 1 L.length]), (2, vP 2 0), (3, vP 3 0), (4, .bool false), (9, .bool false), (14, .bool false), (19, .bool false)])) (H1 := [some ⟨a3s L, 74, false, false⟩, some ⟨a3s L, 74, false, false⟩, rB [vI x, vI y, vI z, vS 0 L.length] 40, rB [vI x, vI y, vI z, vS 1 L.length] 40]) (by kernel_rfl) ?_
  refine kSeq ?_
  refine cFalse (by kernel_rfl) ?_
  refine cSkip ?_
  refine kSeq ?_
  refine cSeq ?_
  refine cSeq ?_
  refine cReg ?_
  refine seg 4 (T1 := (mkT 26 [(0, .agg #[vI x, vI y, vI z, vS 0 L.length]), (1, .agg #[vI x, vI y, vI z, vS 1 L.length]), (2, vP 2 0), (3, vP 3 0), (4, .bool false), (9, .bool false), (14, .bool false), (19, .bool false), (20, vP 2 3), (21, vS 0 L.length), (22, vP 3 3), (23, vS 1 L.length)])) (H1 := [some ⟨a3s L, 74, false, false⟩, some ⟨a3s L, 74, false, false⟩, rB [vI x, vI y, vI z, vS 0 L.length] 40, rB [vI x, vI y, vI z, vS 1 L.length] 40]) (by kernel_rfl) ?_
  refine rCall (v := .bool true) (H' := [some ⟨a3s L, 74, false, false⟩, some ⟨a3s L, 74, false, false⟩, rB [vI x, vI y, vI z, vS 0 L.length] 40, rB [vI x, vI y, vI z, vS 1 L.length] 40]) (args := [vS 0 L.length, vS 1 L.length]) (by kernel_rfl) rfl (by kernel_rfl) (Sound.reads2 0 1 false false (eqA3S_same L (by first | omega | (simp only [allOf_length, List.length_nil, mk3_length]; omega))) (flatA3 _ _ _ _) (flatA3 _ _ _ _) rfl rfl rfl rfl rfl (by first | rfl | simp [mpV, mpA, mpS, mpP, renId, shift]) rfl) ?_
  refine segEnd [0, 1, 2, 3, 4, 9, 14, 19, 25] (T1 := (mkT 26 [(0, .agg #[vI x, vI y, vI z, vS 0 L.length]), (1, .agg #[vI x, vI y, vI z, vS 1 L.length]), (2, vP 2 0), (3, vP 3 0), (4, .bool false), (9, .bool false), (14, .bool false), (19, .bool false), (25, .bool false)])) (H1 := [some ⟨a3s L, 74, false, false⟩, some ⟨a3s L, 74, false, false⟩, rB [vI x, vI y, vI z, vS 0 L.length] 40, rB [vI x, vI y, vI z, vS 1 L.length] 40]) (by kernel_rfl) ?_
  refine kSeq ?_
  refine cFalse (by kernel_rfl) ?_
  refine cSkip ?_
  refine kSeq ?_
  refine cSeq ?_
  refine cReg ?_
  refine segEnd [0, 1, 2, 3, 4, 9, 14, 19, 25] (T1 := (mkT 26 [(0, .agg #[vI x, vI y, vI z, vS 0 L.length]), (1, .agg #[vI x, vI y, vI z, vS 1 L.length]), (2, vP 2 0), (3, vP 3 0), (4, .bool true), (9, .bool false), (14, .bool false), (19, .bool false), (25, .bool false)])) (H1 := [some ⟨a3s L, 74, false, false⟩, some ⟨a3s L, 74, false, false⟩, rB [vI x, vI y, vI z, vS 0 L.length] 40, rB [vI x, vI y, vI z, vS 1 L.length] 40]) (by kernel_rfl) ?_
  refine kSeq ?_
  refine cRet ?_
  exact endQ (Or.inr rfl) (l := [.bool true]) [rB [vI x, vI y, vI z, vS 0 L.length] 40, rB [vI x, vI y, vI z, vS 1 L.length] 40] (by kernel_rfl) (rfl) rfl rfl hcl rfl

set_option maxRecDepth 100000 in
set_option maxHeartbeats 4000000 in
theorem mark_ok (L : List A3) (m : Nat) (hLl : L.length ≤ 1048576) (hm : m ≤ 1099511627776) : Sound Try.prog 80 [vS 0 L.length, vN m] [some ⟨a3s L, 74, false, true⟩] (vN (m + 3 * L.length)) [some ⟨a3s (mk3 m L.length), 74, false, true⟩] := by
  refine sound_intro (C := cx) Try.func80 rfl (by kernel_rfl) fun hcl => ?_
  refine cSeq ?_
  refine cReg ?_
  refine segEnd [0, 1, 4] (T1 := (mkT 26 [(0, vS 0 L.length), (1, vN m), (4, vI 0)])) (H1 := [some ⟨a3s L, 74, false, true⟩]) (by kernel_rfl) ?_
  refine kSeq ?_
  refine cSeq ?_
  refine cSeq ?_
  refine cReg ?_
  refine segEnd [0, 1, 4, 5] (T1 := (mkT 26 [(0, vS 0 L.length), (1, vN m), (4, vI 0), (5, vI 0)])) (H1 := [some ⟨a3s L, 74, false, true⟩]) (by kernel_rfl) ?_
  refine kSeq ?_
  refine cBlk ?_
  -- loop
  refine cLoop (fun mm T H => ∃ j : Nat, ∃ L2 : List A3, (j ≤ L.length) ∧ (L2 = mk3 m j ++ L.drop j) ∧ mm = L.length - j ∧ T = (mkT 26 [(0, vS 0 L.length), (1, vN (m + 3 * j)), (4, vI 0), (5, vN j)]) ∧ H = [some ⟨a3s L2, 74, false, true⟩]) (L.length - 0) (mkT 26 [(0, vS 0 L.length), (1, vN (m + 3 * 0)), (4, vI 0), (5, vI 0)]) [some ⟨a3s L, 74, false, true⟩] (wkSame [0, 1, 4, 5] (by kernel_rfl)) ?_ ?_
  · exact ⟨0, L, (Nat.zero_le _), (by simp [mk3]), rfl, rfl, rfl⟩
  · rintro _ _ _ ⟨j, L2, hj, hL2, rfl, rfl, rfl⟩
    have hlen : L2.length = L.length := (by rw [hL2]; simp [mk3_length]; omega)
    refine cSeq ?_
    refine cSeq ?_
    refine cReg ?_
    refine segEnd [0, 1, 4, 5, 10] (T1 := (mkT 26 [(0, vS 0 L.length), (1, vN (m + 3 * j)), (4, vI 0), (5, vN j), (10, .bool (decide (((j : Nat) : Int) < ((L.length : Nat) : Int))))])) (H1 := [some ⟨a3s L2, 74, false, true⟩]) (by kernel_rfl) ?_
    refine kSeq ?_
    cases h1 : (decide (((j : Nat) : Int) < ((L.length : Nat) : Int)) : Bool)
    ·
      (try simp only [Bool.not_eq_true', Bool.not_eq_false', decide_eq_true_eq, decide_eq_false_iff_not, beq_iff_eq, bne_iff_ne, beq_eq_false_iff_ne, bne_eq_false_iff_eq, ne_eq, Decidable.not_not, Bool.and_eq_true, Bool.and_eq_false_imp, Bool.or_eq_true, Bool.or_eq_false_iff, Bool.not_eq_true, Int.not_lt, Int.not_le, ge_iff_le, gt_iff_lt] at h1)
      refine cFalse (by kernel_rfl) ?_
      refine cExit ?_
      refine kSeqE ?_
      refine kLoopE ?_
      refine kBlkHit ?_
      refine kSeq ?_
      refine cSeq ?_
      refine cReg ?_
      refine segEnd [0, 1, 4, 5, 10] (T1 := (mkT 26 [(0, vS 0 L.length), (1, vN (m + 3 * j)), (4, vN (m + 3 * j)), (5, vN j), (10, .bool false)])) (H1 := [some ⟨a3s L2, 74, false, true⟩]) (by kernel_rfl) ?_
      refine kSeq ?_
      refine cRet ?_
      have hend : j = L.length := (by omega)
      have hfin : L2 = mk3 m L.length := (by rw [hL2, hend]; simp)
      subst hend
      clear hL2
      subst hfin
      exact endQ (Or.inr rfl) (l := [vN (m + 3 * L.length)]) [] (by kernel_rfl) (rfl) rfl rfl (closedL ⟨clF (flatA3 _ _ _ _), trivial⟩) rfl
    ·
      (try simp only [Bool.not_eq_true', Bool.not_eq_false', decide_eq_true_eq, decide_eq_false_iff_not, beq_iff_eq, bne_iff_ne, beq_eq_false_iff_ne, bne_eq_false_iff_eq, ne_eq, Decidable.not_not, Bool.and_eq_true, Bool.and_eq_false_imp, Bool.or_eq_true, Bool.or_eq_false_iff, Bool.not_eq_true, Int.not_lt, Int.not_le, ge_iff_le, gt_iff_lt] at h1)
      refine cTrue (by kernel_rfl) ?_
      refine cSkip ?_
      refine kSeq ?_
      refine cSeq ?_
      refine cBlk ?_
      refine cSeq ?_
      refine cReg ?_
      refine segEnd [0, 1, 4, 5, 6, 10] (T1 := (mkT 26 [(0, vS 0 L.length), (1, vN (m + 3 * j)), (4, vI 0), (5, vN j), (6, vI 0), (10, .bool true)])) (H1 := [some ⟨a3s L2, 74, false, true⟩]) (by kernel_rfl) ?_
      refine kSeq ?_
      refine cBlk ?_
      -- loop
      refine cLoop (fun mm T H => ∃ k : Nat, ∃ L3 : List A3, (k ≤ 3) ∧ (L3 = marked L m j k) ∧ mm = 3 - k ∧ T = (mkT 26 [(0, vS 0 L.length), (1, vN (m + 3 * j + k)), (4, vI 0), (5, vN j), (6, vN k)]) ∧ H = [some ⟨a3s L3, 74, false, true⟩]) (3 - 0) (mkT 26 [(0, vS 0 L.length), (1, vN (m + 3 * j)), (4, vI 0), (5, vN j), (6, vI 0)]) [some ⟨a3s L2, 74, false, true⟩] (wkSame [0, 1, 4, 5, 6] (by kernel_rfl)) ?_ ?_
      · exact ⟨0, L2, (Nat.zero_le _), (by rw [hL2]; exact marked_start L m j (by omega)), rfl, rfl, rfl⟩
      · rintro _ _ _ ⟨k, L3, hk, hL3, rfl, rfl, rfl⟩
        have hlen3 : L3.length = L.length := (by rw [hL3]; exact marked_length L m j k (by omega))
        have hcase : k = 0 ∨ k = 1 ∨ k = 2 ∨ k = 3 := by omega
        rcases hcase with rfl | rfl | rfl | rfl
        ·
          refine cSeq ?_
          refine cSeq ?_
          refine cReg ?_
          refine segEnd [0, 1, 4, 5, 6, 14] (T1 := (mkT 26 [(0, vS 0 L.length), (1, vN (m + 3 * j)), (4, vI 0), (5, vN j), (6, vI 0), (14, .bool true)])) (H1 := [some ⟨a3s L3, 74, false, true⟩]) (by kernel_rfl) ?_
          refine kSeq ?_
          refine cTrue (by kernel_rfl) ?_
          refine cSkip ?_
          refine kSeq ?_
          refine cSeq ?_
          refine cBlk ?_
          refine cSeq ?_
          refine cReg ?_
          refine seg 4 (T1 := (mkT 26 [(0, vS 0 L.length), (1, vN (m + 3 * j)), (4, vI 0), (5, vN j), (6, vI 0), (14, .bool true), (17, vS 0 L.length), (18, vN j), (19, vI 0), (20, vN (m + 3 * j))])) (H1 := [some ⟨a3s L3, 74, false, true⟩]) (by kernel_rfl) ?_
          refine rOp (v := vP 0 (j * 3)) (H' := [some ⟨a3s L3, 74, false, true⟩]) (by kernel_rfl) (eIdxS (ad := ⟨0, 0, none⟩) (n := L.length) (m := 0) (k := .i64) (c := ((j : Nat) : Int)) (j := j) (o := j * 3) (by kernel_rfl) (by kernel_rfl) ti31 ti74 (rfl) (by omega) (by exact Nat.zero_add _)) ?_
          refine seg 1 (T1 := (mkT 26 [(0, vS 0 L.length), (1, vN (m + 3 * j)), (4, vI 0), (5, vN j), (6, vI 0), (14, .bool true), (17, vS 0 L.length), (18, vN j), (19, vI 0), (20, vN (m + 3 * j)), (21, vP 0 (j * 3)), (22, vP 0 (j * 3 + 0))])) (H1 := [some ⟨a3s L3, 74, false, true⟩]) (by kernel_rfl) ?_
          refine rOp (v := .tuple #[]) (H' := [some ⟨a3s ((L3).set j ((L3.getD j default).put 0 ((m + 3 * j : Nat) : Int))), 74, false, true⟩]) (by kernel_rfl) (eStA3i (b := 0) (o := (j * 3 + 0)) (L := L3) (e := 74) (bx := false) (j := j) (k := 0) (n := ((m + 3 * j : Nat) : Int)) (by kernel_rfl) (by kernel_rfl) (by kernel_rfl) (by first | rfl | omega) (by omega) (by decide) ti3 rfl (by rfl)) ?_
          refine segEnd [0, 1, 4, 5, 6, 14] (T1 := (mkT 26 [(0, vS 0 L.length), (1, vN (m + 3 * j)), (4, vI 0), (5, vN j), (6, vI 0), (14, .bool true)])) (H1 := [some ⟨a3s ((L3).set j ((L3.getD j default).put 0 ((m + 3 * j : Nat) : Int))), 74, false, true⟩]) (by kernel_rfl) ?_
          refine kSeq ?_
          refine cReg ?_
          refine seg 1 (T1 := (mkT 26 [(0, vS 0 L.length), (1, vN (m + 3 * j)), (4, vI 0), (5, vN j), (6, vI 0), (14, .bool true), (23, vN (m + 3 * j))])) (H1 := [some ⟨a3s ((L3).set j ((L3.getD j default).put 0 ((m + 3 * j : Nat) : Int))), 74, false, true⟩]) (by kernel_rfl) ?_
          refine rOp (v := vN ((m + 3 * j) + 1)) (H' := [some ⟨a3s ((L3).set j ((L3.getD j default).put 0 ((m + 3 * j : Nat) : Int))), 74, false, true⟩]) (by kernel_rfl) (eAdd (k := .i64) (a := ((m + 3 * j : Nat) : Int)) (b := 1) (c := (((m + 3 * j) + 1 : Nat) : Int)) (by kernel_rfl) (by kernel_rfl) (wr64 (by omega) (by omega) (by omega))) ?_
          refine segEnd [0, 1, 4, 5, 6, 14] (T1 := (mkT 26 [(0, vS 0 L.length), (1, vN ((m + 3 * j) + 1)), (4, vI 0), (5, vN j), (6, vI 0), (14, .bool true)])) (H1 := [some ⟨a3s ((L3).set j ((L3.getD j default).put 0 ((m + 3 * j : Nat) : Int))), 74, false, true⟩]) (by kernel_rfl) ?_
          refine kBlk ?_
          refine kSeq ?_
          refine cReg ?_
          refine segEnd [0, 1, 4, 5, 6, 14] (T1 := (mkT 26 [(0, vS 0 L.length), (1, vN ((m + 3 * j) + 1)), (4, vI 0), (5, vN j), (6, vI 1), (14, .bool true)])) (H1 := [some ⟨a3s ((L3).set j ((L3.getD j default).put 0 ((m + 3 * j : Nat) : Int))), 74, false, true⟩]) (by kernel_rfl) ?_
          exact kLoop (3 - 1) (mkT 26 [(0, vS 0 L.length), (1, vN (m + 3 * j + 1)), (4, vI 0), (5, vN j), (6, vI 1)]) [some ⟨a3s ((L3).set j ((L3.getD j default).put 0 ((m + 3 * j : Nat) : Int))), 74, false, true⟩] (by omega) (wkSame [0, 1, 4, 5, 6] (by kernel_rfl)) ⟨1, ((L3).set j ((L3.getD j default).put 0 ((m + 3 * j : Nat) : Int))), (by omega), (by rw [hL3]; exact marked_put L m j 0 (by decide)), rfl, rfl, rfl⟩
        ·
          refine cSeq ?_
          refine cSeq ?_
          refine cReg ?_
          refine segEnd [0, 1, 4, 5, 6, 14] (T1 := (mkT 26 [(0, vS 0 L.length), (1, vN (m + 3 * j + 1)), (4, vI 0), (5, vN j), (6, vI 1), (14, .bool true)])) (H1 := [some ⟨a3s L3, 74, false, true⟩]) (by kernel_rfl) ?_
          refine kSeq ?_
          refine cTrue (by kernel_rfl) ?_
          refine cSkip ?_
          refine kSeq ?_
          refine cSeq ?_
          refine cBlk ?_
          refine cSeq ?_
          refine cReg ?_
          refine seg 4 (T1 := (mkT 26 [(0, vS 0 L.length), (1, vN (m + 3 * j + 1)), (4, vI 0), (5, vN j), (6, vI 1), (14, .bool true), (17, vS 0 L.length), (18, vN j), (19, vI 1), (20, vN (m + 3 * j + 1))])) (H1 := [some ⟨a3s L3, 74, false, true⟩]) (by kernel_rfl) ?_
          refine rOp (v := vP 0 (j * 3)) (H' := [some ⟨a3s L3, 74, false, true⟩]) (by kernel_rfl) (eIdxS (ad := ⟨0, 0, none⟩) (n := L.length) (m := 0) (k := .i64) (c := ((j : Nat) : Int)) (j := j) (o := j * 3) (by kernel_rfl) (by kernel_rfl) ti31 ti74 (rfl) (by omega) (by exact Nat.zero_add _)) ?_
          refine seg 1 (T1 := (mkT 26 [(0, vS 0 L.length), (1, vN (m + 3 * j + 1)), (4, vI 0), (5, vN j), (6, vI 1), (14, .bool true), (17, vS 0 L.length), (18, vN j), (19, vI 1), (20, vN (m + 3 * j + 1)), (21, vP 0 (j * 3)), (22, vP 0 (j * 3 + 1))])) (H1 := [some ⟨a3s L3, 74, false, true⟩]) (by kernel_rfl) ?_
          refine rOp (v := .tuple #[]) (H' := [some ⟨a3s ((L3).set j ((L3.getD j default).put 1 ((m + 3 * j + 1 : Nat) : Int))), 74, false, true⟩]) (by kernel_rfl) (eStA3i (b := 0) (o := (j * 3 + 1)) (L := L3) (e := 74) (bx := false) (j := j) (k := 1) (n := ((m + 3 * j + 1 : Nat) : Int)) (by kernel_rfl) (by kernel_rfl) (by kernel_rfl) (by first | rfl | omega) (by omega) (by decide) ti3 rfl (by rfl)) ?_
          refine segEnd [0, 1, 4, 5, 6, 14] (T1 := (mkT 26 [(0, vS 0 L.length), (1, vN (m + 3 * j + 1)), (4, vI 0), (5, vN j), (6, vI 1), (14, .bool true)])) (H1 := [some ⟨a3s ((L3).set j ((L3.getD j default).put 1 ((m + 3 * j + 1 : Nat) : Int))), 74, false, true⟩]) (by kernel_rfl) ?_
          refine kSeq ?_
          refine cReg ?_
          refine seg 1 (T1 := (mkT 26 [(0, vS 0 L.length), (1, vN (m + 3 * j + 1)), (4, vI 0), (5, vN j), (6, vI 1), (14, .bool true), (23, vN (m + 3 * j + 1))])) (H1 := [some ⟨a3s ((L3).set j ((L3.getD j default).put 1 ((m + 3 * j + 1 : Nat) : Int))), 74, false, true⟩]) (by kernel_rfl) ?_
          refine rOp (v := vN ((m + 3 * j + 1) + 1)) (H' := [some ⟨a3s ((L3).set j ((L3.getD j default).put 1 ((m + 3 * j + 1 : Nat) : Int))), 74, false, true⟩]) (by kernel_rfl) (eAdd (k := .i64) (a := ((m + 3 * j + 1 : Nat) : Int)) (b := 1) (c := (((m + 3 * j + 1) + 1 : Nat) : Int)) (by kernel_rfl) (by kernel_rfl) (wr64 (by omega) (by omega) (by omega))) ?_
          refine segEnd [0, 1, 4, 5, 6, 14] (T1 := (mkT 26 [(0, vS 0 L.length), (1, vN ((m + 3 * j + 1) + 1)), (4, vI 0), (5, vN j), (6, vI 1), (14, .bool true)])) (H1 := [some ⟨a3s ((L3).set j ((L3.getD j default).put 1 ((m + 3 * j + 1 : Nat) : Int))), 74, false, true⟩]) (by kernel_rfl) ?_
          refine kBlk ?_
          refine kSeq ?_
          refine cReg ?_
          refine segEnd [0, 1, 4, 5, 6, 14] (T1 := (mkT 26 [(0, vS 0 L.length), (1, vN ((m + 3 * j + 1) + 1)), (4, vI 0), (5, vN j), (6, vI 2), (14, .bool true)])) (H1 := [some ⟨a3s ((L3).set j ((L3.getD j default).put 1 ((m + 3 * j + 1 : Nat) : Int))), 74, false, true⟩]) (by kernel_rfl) ?_
          exact kLoop (3 - 2) (mkT 26 [(0, vS 0 L.length), (1, vN (m + 3 * j + 2)), (4, vI 0), (5, vN j), (6, vI 2)]) [some ⟨a3s ((L3).set j ((L3.getD j default).put 1 ((m + 3 * j + 1 : Nat) : Int))), 74, false, true⟩] (by omega) (wkSame [0, 1, 4, 5, 6] (by kernel_rfl)) ⟨2, ((L3).set j ((L3.getD j default).put 1 ((m + 3 * j + 1 : Nat) : Int))), (by omega), (by rw [hL3]; exact marked_put L m j 1 (by decide)), rfl, rfl, rfl⟩
        ·
          refine cSeq ?_
          refine cSeq ?_
          refine cReg ?_
          refine segEnd [0, 1, 4, 5, 6, 14] (T1 := (mkT 26 [(0, vS 0 L.length), (1, vN (m + 3 * j + 2)), (4, vI 0), (5, vN j), (6, vI 2), (14, .bool true)])) (H1 := [some ⟨a3s L3, 74, false, true⟩]) (by kernel_rfl) ?_
          refine kSeq ?_
          refine cTrue (by kernel_rfl) ?_
          refine cSkip ?_
          refine kSeq ?_
          refine cSeq ?_
          refine cBlk ?_
          refine cSeq ?_
          refine cReg ?_
          refine seg 4 (T1 := (mkT 26 [(0, vS 0 L.length), (1, vN (m + 3 * j + 2)), (4, vI 0), (5, vN j), (6, vI 2), (14, .bool true), (17, vS 0 L.length), (18, vN j), (19, vI 2), (20, vN (m + 3 * j + 2))])) (H1 := [some ⟨a3s L3, 74, false, true⟩]) (by kernel_rfl) ?_
          refine rOp (v := vP 0 (j * 3)) (H' := [some ⟨a3s L3, 74, false, true⟩]) (by kernel_rfl) (eIdxS (ad := ⟨0, 0, none⟩) (n := L.length) (m := 0) (k := .i64) (c := ((j : Nat) : Int)) (j := j) (o := j * 3) (by kernel_rfl) (by kernel_rfl) ti31 ti74 (rfl) (by omega) (by exact Nat.zero_add _)) ?_
          refine seg 1 (T1 := (mkT 26 [(0, vS 0 L.length), (1, vN (m + 3 * j + 2)), (4, vI 0), (5, vN j), (6, vI 2), (14, .bool true), (17, vS 0 L.length), (18, vN j), (19, vI 2), (20, vN (m + 3 * j + 2)), (21, vP 0 (j * 3)), (22, vP 0 (j * 3 + 2))])) (H1 := [some ⟨a3s L3, 74, false, true⟩]) (by kernel_rfl) ?_
          refine rOp (v := .tuple #[]) (H' := [some ⟨a3s ((L3).set j ((L3.getD j default).put 2 ((m + 3 * j + 2 : Nat) : Int))), 74, false, true⟩]) (by kernel_rfl) (eStA3i (b := 0) (o := (j * 3 + 2)) (L := L3) (e := 74) (bx := false) (j := j) (k := 2) (n := ((m + 3 * j + 2 : Nat) : Int)) (by kernel_rfl) (by kernel_rfl) (by kernel_rfl) (by first | rfl | omega) (by omega) (by decide) ti3 rfl (by rfl)) ?_
          refine segEnd [0, 1, 4, 5, 6, 14] (T1 := (mkT 26 [(0, vS 0 L.length), (1, vN (m + 3 * j + 2)), (4, vI 0), (5, vN j), (6, vI 2), (14, .bool true)])) (H1 := [some ⟨a3s ((L3).set j ((L3.getD j default).put 2 ((m + 3 * j + 2 : Nat) : Int))), 74, false, true⟩]) (by kernel_rfl) ?_
          refine kSeq ?_
          refine cReg ?_
          refine seg 1 (T1 := (mkT 26 [(0, vS 0 L.length), (1, vN (m + 3 * j + 2)), (4, vI 0), (5, vN j), (6, vI 2), (14, .bool true), (23, vN (m + 3 * j + 2))])) (H1 := [some ⟨a3s ((L3).set j ((L3.getD j default).put 2 ((m + 3 * j + 2 : Nat) : Int))), 74, false, true⟩]) (by kernel_rfl) ?_
          refine rOp (v := vN ((m + 3 * j + 2) + 1)) (H' := [some ⟨a3s ((L3).set j ((L3.getD j default).put 2 ((m + 3 * j + 2 : Nat) : Int))), 74, false, true⟩]) (by kernel_rfl) (eAdd (k := .i64) (a := ((m + 3 * j + 2 : Nat) : Int)) (b := 1) (c := (((m + 3 * j + 2) + 1 : Nat) : Int)) (by kernel_rfl) (by kernel_rfl) (wr64 (by omega) (by omega) (by omega))) ?_
          refine segEnd [0, 1, 4, 5, 6, 14] (T1 := (mkT 26 [(0, vS 0 L.length), (1, vN ((m + 3 * j + 2) + 1)), (4, vI 0), (5, vN j), (6, vI 2), (14, .bool true)])) (H1 := [some ⟨a3s ((L3).set j ((L3.getD j default).put 2 ((m + 3 * j + 2 : Nat) : Int))), 74, false, true⟩]) (by kernel_rfl) ?_
          refine kBlk ?_
          refine kSeq ?_
          refine cReg ?_
          refine segEnd [0, 1, 4, 5, 6, 14] (T1 := (mkT 26 [(0, vS 0 L.length), (1, vN ((m + 3 * j + 2) + 1)), (4, vI 0), (5, vN j), (6, vI 3), (14, .bool true)])) (H1 := [some ⟨a3s ((L3).set j ((L3.getD j default).put 2 ((m + 3 * j + 2 : Nat) : Int))), 74, false, true⟩]) (by kernel_rfl) ?_
          exact kLoop (3 - 3) (mkT 26 [(0, vS 0 L.length), (1, vN (m + 3 * j + 3)), (4, vI 0), (5, vN j), (6, vI 3)]) [some ⟨a3s ((L3).set j ((L3.getD j default).put 2 ((m + 3 * j + 2 : Nat) : Int))), 74, false, true⟩] (by omega) (wkSame [0, 1, 4, 5, 6] (by kernel_rfl)) ⟨3, ((L3).set j ((L3.getD j default).put 2 ((m + 3 * j + 2 : Nat) : Int))), (by omega), (by rw [hL3]; exact marked_put L m j 2 (by decide)), rfl, rfl, rfl⟩
        ·
          refine cSeq ?_
          refine cSeq ?_
          refine cReg ?_
          refine segEnd [0, 1, 4, 5, 6, 14] (T1 := (mkT 26 [(0, vS 0 L.length), (1, vN (m + 3 * j + 3)), (4, vI 0), (5, vN j), (6, vI 3), (14, .bool false)])) (H1 := [some ⟨a3s L3, 74, false, true⟩]) (by kernel_rfl) ?_
          refine kSeq ?_
          refine cFalse (by kernel_rfl) ?_
          refine cExit ?_
          refine kSeqE ?_
          refine kLoopE ?_
          refine kBlkHit ?_
          refine kBlk ?_
          refine kSeq ?_
          refine cReg ?_
          refine seg 1 (T1 := (mkT 26 [(0, vS 0 L.length), (1, vN (m + 3 * j + 3)), (4, vI 0), (5, vN j), (6, vI 3), (11, vN j), (14, .bool false)])) (H1 := [some ⟨a3s L3, 74, false, true⟩]) (by kernel_rfl) ?_
          refine rOp (v := vN (j + 1)) (H' := [some ⟨a3s L3, 74, false, true⟩]) (by kernel_rfl) (eAdd (k := .i64) (a := ((j : Nat) : Int)) (b := 1) (c := ((j + 1 : Nat) : Int)) (by kernel_rfl) (by kernel_rfl) (wr64 (by omega) (by omega) (by omega))) ?_
          refine segEnd [0, 1, 4, 5, 6, 14] (T1 := (mkT 26 [(0, vS 0 L.length), (1, vN (m + 3 * j + 3)), (4, vI 0), (5, vN (j + 1)), (6, vI 3), (14, .bool false)])) (H1 := [some ⟨a3s L3, 74, false, true⟩]) (by kernel_rfl) ?_
          exact kLoop (L.length - (j + 1)) (mkT 26 [(0, vS 0 L.length), (1, vN (m + 3 * (j + 1))), (4, vI 0), (5, vN (j + 1))]) [some ⟨a3s L3, 74, false, true⟩] (by omega) (wkSame [0, 1, 4, 5] (by kernel_rfl)) ⟨(j + 1), L3, (by omega), (by rw [hL3]; exact marked_end L m j), rfl, rfl, rfl⟩

set_option maxRecDepth 100000 in
set_option maxHeartbeats 4000000 in
theorem markHeap_ok (x y z : Int) (L : List A3) (m : Nat) (hLl : L.length ≤ 1048576) (hm : m ≤ 1099511627776) : Sound Try.prog 35 [.agg #[vI x, vI y, vI z, vS 0 L.length], vN m] [some ⟨a3s L, 74, false, true⟩] (vN (m + 3 * L.length)) [some ⟨a3s (mk3 m L.length), 74, false, true⟩] := by
  refine sound_intro (C := cx) Try.func35 rfl (by kernel_rfl) fun hcl => ?_
  refine cSeq ?_
  refine cReg ?_
  refine segEnd [0, 1, 2, 4] (T1 := (mkT 10 [(0, .agg #[vI x, vI y, vI z, vS 0 L.length]), (1, vN m), (2, vP 1 0), (4, vI 0)])) (H1 := [some ⟨a3s L, 74, false, true⟩, rB [vI x, vI y, vI z, vS 0 L.length] 40]) (by kernel_rfl) ?_
  refine kSeq ?_
  refine cSeq ?_
  refine cReg ?_
  refine seg 3 (T1 := (mkT 10 [(0, .agg #[vI x, vI y, vI z, vS 0 L.length]), (1, vN m), (2, vP 1 0), (4, vI 0), (5, vP 1 3), (6, vS 0 L.length), (7, vN m)])) (H1 := [some ⟨a3s L, 74, false, true⟩, rB [vI x, vI y, vI z, vS 0 L.length] 40]) (by kernel_rfl) ?_
  refine rCall (v := vN (m + 3 * L.length)) (H' := [some ⟨a3s (mk3 m L.length), 74, false, true⟩, rB [vI x, vI y, vI z, vS 0 L.length] 40]) (args := [vS 0 L.length, vN m]) (by kernel_rfl) rfl (by kernel_rfl) (Sound.emb_set (r := ⟨a3s L, 74, false, true⟩) (r' := ⟨a3s (mk3 m L.length), 74, false, true⟩) 0 (mark_ok L m (by first | omega | (simp only [allOf_length, List.length_nil, mk3_length]; omega)) (by omega)) (flatA3 _ _ _ _) rfl (flatA3 _ _ _ _) rfl rfl rfl (by first | rfl | simp [mpV, mpA, mpS, mpP, renId, shift]) rfl) ?_
  refine segEnd [0, 1, 2, 4] (T1 := (mkT 10 [(0, .agg #[vI x, vI y, vI z, vS 0 L.length]), (1, vN (m + 3 * L.length)), (2, vP 1 0), (4, vI 0)])) (H1 := [some ⟨a3s (mk3 m L.length), 74, false, true⟩, rB [vI x, vI y, vI z, vS 0 L.length] 40]) (by kernel_rfl) ?_
  refine kSeq ?_
  refine cSeq ?_
  refine cReg ?_
  refine segEnd [0, 1, 2, 4] (T1 := (mkT 10 [(0, .agg #[vI x, vI y, vI z, vS 0 L.length]), (1, vN (m + 3 * L.length)), (2, vP 1 0), (4, vN (m + 3 * L.length))])) (H1 := [some ⟨a3s (mk3 m L.length), 74, false, true⟩, rB [vI x, vI y, vI z, vS 0 L.length] 40]) (by kernel_rfl) ?_
  refine kSeq ?_
  refine cRet ?_
  exact endQ (Or.inr rfl) (l := [vN (m + 3 * L.length)]) [rB [vI x, vI y, vI z, vS 0 L.length] 40] (by kernel_rfl) (rfl) rfl rfl (closedL ⟨clF (flatA3 _ _ _ _), trivial⟩) rfl

set_option maxRecDepth 100000 in
set_option maxHeartbeats 4000000 in
theorem held_ok (m n : Nat) (hn : n ≤ 1048576) (hm : m ≤ 1099511627776) : Sound Try.prog 81 [vS 0 n, vN m] [some ⟨a3s (mk3 m n), 74, false, false⟩] (vN (m + 3 * n)) [some ⟨a3s (mk3 m n), 74, false, false⟩] := by
  refine sound_intro (C := cx) Try.func81 rfl (by kernel_rfl) fun hcl => ?_
  refine cSeq ?_
  refine cReg ?_
  refine segEnd [0, 1, 4] (T1 := (mkT 28 [(0, vS 0 n), (1, vN m), (4, vI 0)])) (H1 := [some ⟨a3s (mk3 m n), 74, false, false⟩]) (by kernel_rfl) ?_
  refine kSeq ?_
  refine cSeq ?_
  refine cSeq ?_
  refine cReg ?_
  refine segEnd [0, 1, 4, 5] (T1 := (mkT 28 [(0, vS 0 n), (1, vN m), (4, vI 0), (5, vI 0)])) (H1 := [some ⟨a3s (mk3 m n), 74, false, false⟩]) (by kernel_rfl) ?_
  refine kSeq ?_
  refine cBlk ?_
  -- loop
  refine cLoop (fun mm T H => ∃ j : Nat, (j ≤ n) ∧ mm = n - j ∧ T = (mkT 28 [(0, vS 0 n), (1, vN (m + 3 * j)), (4, vI 0), (5, vN j)]) ∧ H = [some ⟨a3s (mk3 m n), 74, false, false⟩]) (n - 0) (mkT 28 [(0, vS 0 n), (1, vN (m + 3 * 0)), (4, vI 0), (5, vI 0)]) [some ⟨a3s (mk3 m n), 74, false, false⟩] (wkSame [0, 1, 4, 5] (by kernel_rfl)) ?_ ?_
  · exact ⟨0, (Nat.zero_le _), rfl, rfl, rfl⟩
  · rintro _ _ _ ⟨j, hj, rfl, rfl, rfl⟩
    refine cSeq ?_
    refine cSeq ?_
    refine cReg ?_
    refine segEnd [0, 1, 4, 5, 10] (T1 := (mkT 28 [(0, vS 0 n), (1, vN (m + 3 * j)), (4, vI 0), (5, vN j), (10, .bool (decide (((j : Nat) : Int) < ((n : Nat) : Int))))])) (H1 := [some ⟨a3s (mk3 m n), 74, false, false⟩]) (by kernel_rfl) ?_
    refine kSeq ?_
    cases h1 : (decide (((j : Nat) : Int) < ((n : Nat) : Int)) : Bool)
    ·
      (try simp only [Bool.not_eq_true', Bool.not_eq_false', decide_eq_true_eq, decide_eq_false_iff_not, beq_iff_eq, bne_iff_ne, beq_eq_false_iff_ne, bne_eq_false_iff_eq, ne_eq, Decidable.not_not, Bool.and_eq_true, Bool.and_eq_false_imp, Bool.or_eq_true, Bool.or_eq_false_iff, Bool.not_eq_true, Int.not_lt, Int.not_le, ge_iff_le, gt_iff_lt] at h1)
      refine cFalse (by kernel_rfl) ?_
      refine cExit ?_
      refine kSeqE ?_
      refine kLoopE ?_
      refine kBlkHit ?_
      refine kSeq ?_
      refine cSeq ?_
      refine cReg ?_
      refine segEnd [0, 1, 4, 5, 10] (T1 := (mkT 28 [(0, vS 0 n), (1, vN (m + 3 * j)), (4, vN (m + 3 * j)), (5, vN j), (10, .bool false)])) (H1 := [some ⟨a3s (mk3 m n), 74, false, false⟩]) (by kernel_rfl) ?_
      refine kSeq ?_
      refine cRet ?_
      have hend : j = n := (by omega)
      subst hend
      exact endQ (Or.inr rfl) (l := [vN (m + 3 * j)]) [] (by kernel_rfl) (rfl) rfl rfl hcl rfl
    ·
      (try simp only [Bool.not_eq_true', Bool.not_eq_false', decide_eq_true_eq, decide_eq_false_iff_not, beq_iff_eq, bne_iff_ne, beq_eq_false_iff_ne, bne_eq_false_iff_eq, ne_eq, Decidable.not_not, Bool.and_eq_true, Bool.and_eq_false_imp, Bool.or_eq_true, Bool.or_eq_false_iff, Bool.not_eq_true, Int.not_lt, Int.not_le, ge_iff_le, gt_iff_lt] at h1)
      refine cTrue (by kernel_rfl) ?_
      refine cSkip ?_
      refine kSeq ?_
      refine cSeq ?_
      refine cBlk ?_
      refine cSeq ?_
      refine cReg ?_
      refine segEnd [0, 1, 4, 5, 6, 10] (T1 := (mkT 28 [(0, vS 0 n), (1, vN (m + 3 * j)), (4, vI 0), (5, vN j), (6, vI 0), (10, .bool true)])) (H1 := [some ⟨a3s (mk3 m n), 74, false, false⟩]) (by kernel_rfl) ?_
      refine kSeq ?_
      refine cBlk ?_
      -- loop
      refine cLoop (fun mm T H => ∃ k : Nat, (k ≤ 3) ∧ mm = 3 - k ∧ T = (mkT 28 [(0, vS 0 n), (1, vN (m + 3 * j + k)), (4, vI 0), (5, vN j), (6, vN k)]) ∧ H = [some ⟨a3s (mk3 m n), 74, false, false⟩]) (3 - 0) (mkT 28 [(0, vS 0 n), (1, vN (m + 3 * j)), (4, vI 0), (5, vN j), (6, vI 0)]) [some ⟨a3s (mk3 m n), 74, false, false⟩] (wkSame [0, 1, 4, 5, 6] (by kernel_rfl)) ?_ ?_
      · exact ⟨0, (Nat.zero_le _), rfl, rfl, rfl⟩
      · rintro _ _ _ ⟨k, hk, rfl, rfl, rfl⟩
        have hcase : k = 0 ∨ k = 1 ∨ k = 2 ∨ k = 3 := by omega
        rcases hcase with rfl | rfl | rfl | rfl
        ·
          refine cSeq ?_
          refine cSeq ?_
          refine cReg ?_
          refine segEnd [0, 1, 4, 5, 6, 14] (T1 := (mkT 28 [(0, vS 0 n), (1, vN (m + 3 * j)), (4, vI 0), (5, vN j), (6, vI 0), (14, .bool true)])) (H1 := [some ⟨a3s (mk3 m n), 74, false, false⟩]) (by kernel_rfl) ?_
          refine kSeq ?_
          refine cTrue (by kernel_rfl) ?_
          refine cSkip ?_
          refine kSeq ?_
          refine cSeq ?_
          refine cBlk ?_
          refine cSeq ?_
          refine cSeq ?_
          refine cReg ?_
          refine seg 3 (T1 := (mkT 28 [(0, vS 0 n), (1, vN (m + 3 * j)), (4, vI 0), (5, vN j), (6, vI 0), (14, .bool true), (17, vS 0 n), (18, vN j), (19, vI 0)])) (H1 := [some ⟨a3s (mk3 m n), 74, false, false⟩]) (by kernel_rfl) ?_
          refine rOp (v := vP 0 (j * 3)) (H' := [some ⟨a3s (mk3 m n), 74, false, false⟩]) (by kernel_rfl) (eIdxS (ad := ⟨0, 0, none⟩) (n := n) (m := 0) (k := .i64) (c := ((j : Nat) : Int)) (j := j) (o := j * 3) (by kernel_rfl) (by kernel_rfl) ti31 ti74 (rfl) (by omega) (by exact Nat.zero_add _)) ?_
          refine seg 1 (T1 := (mkT 28 [(0, vS 0 n), (1, vN (m + 3 * j)), (4, vI 0), (5, vN j), (6, vI 0), (14, .bool true), (17, vS 0 n), (18, vN j), (19, vI 0), (20, vP 0 (j * 3)), (21, vP 0 (j * 3 + 0))])) (H1 := [some ⟨a3s (mk3 m n), 74, false, false⟩]) (by kernel_rfl) ?_
          refine rOp (v := vN (m + 3 * j)) (H' := [some ⟨a3s (mk3 m n), 74, false, false⟩]) (by kernel_rfl) (eLdA3k (ad := ⟨0, j * 3 + 0, none⟩) (r := ⟨a3s (mk3 m n), 74, false, false⟩) (L := (mk3 m n)) (j := j) (k := 0) (by kernel_rfl) (by kernel_rfl) rfl (by first | rfl | omega) (by (rw [mk3_length]; omega)) (by decide) ti3 rfl (mk3_cell m n j 0 (by omega) (by decide))) ?_
          refine seg 1 (T1 := (mkT 28 [(0, vS 0 n), (1, vN (m + 3 * j)), (4, vI 0), (5, vN j), (6, vI 0), (14, .bool true), (17, vS 0 n), (18, vN j), (19, vI 0), (20, vP 0 (j * 3)), (21, vP 0 (j * 3 + 0)), (22, vN (m + 3 * j)), (23, vN (m + 3 * j))])) (H1 := [some ⟨a3s (mk3 m n), 74, false, false⟩]) (by kernel_rfl) ?_
          refine rOp (v := .bool false) (H' := [some ⟨a3s (mk3 m n), 74, false, false⟩]) (by kernel_rfl) (eNeS (k := .i64) (a := ((m + 3 * j : Nat) : Int)) (by kernel_rfl) (by kernel_rfl)) ?_
          refine segEnd [0, 1, 4, 5, 6, 14, 24] (T1 := (mkT 28 [(0, vS 0 n), (1, vN (m + 3 * j)), (4, vI 0), (5, vN j), (6, vI 0), (14, .bool true), (24, .bool false)])) (H1 := [some ⟨a3s (mk3 m n), 74, false, false⟩]) (by kernel_rfl) ?_
          refine kSeq ?_
          refine cFalse (by kernel_rfl) ?_
          refine cSkip ?_
          refine kSeq ?_
          refine cReg ?_
          refine seg 1 (T1 := (mkT 28 [(0, vS 0 n), (1, vN (m + 3 * j)), (4, vI 0), (5, vN j), (6, vI 0), (14, .bool true), (24, .bool false), (25, vN (m + 3 * j))])) (H1 := [some ⟨a3s (mk3 m n), 74, false, false⟩]) (by kernel_rfl) ?_
          refine rOp (v := vN ((m + 3 * j) + 1)) (H' := [some ⟨a3s (mk3 m n), 74, false, false⟩]) (by kernel_rfl) (eAdd (k := .i64) (a := ((m + 3 * j : Nat) : Int)) (b := 1) (c := (((m + 3 * j) + 1 : Nat) : Int)) (by kernel_rfl) (by kernel_rfl) (wr64 (by omega) (by omega) (by omega))) ?_
          refine segEnd [0, 1, 4, 5, 6, 14, 24] (T1 := (mkT 28 [(0, vS 0 n), (1, vN ((m + 3 * j) + 1)), (4, vI 0), (5, vN j), (6, vI 0), (14, .bool true), (24, .bool false)])) (H1 := [some ⟨a3s (mk3 m n), 74, false, false⟩]) (by kernel_rfl) ?_
          refine kBlk ?_
          refine kSeq ?_
          refine cReg ?_
          refine segEnd [0, 1, 4, 5, 6, 14, 24] (T1 := (mkT 28 [(0, vS 0 n), (1, vN ((m + 3 * j) + 1)), (4, vI 0), (5, vN j), (6, vI 1), (14, .bool true), (24, .bool false)])) (H1 := [some ⟨a3s (mk3 m n), 74, false, false⟩]) (by kernel_rfl) ?_
          exact kLoop (3 - 1) (mkT 28 [(0, vS 0 n), (1, vN (m + 3 * j + 1)), (4, vI 0), (5, vN j), (6, vI 1)]) [some ⟨a3s (mk3 m n), 74, false, false⟩] (by omega) (wkSame [0, 1, 4, 5, 6] (by kernel_rfl)) ⟨1, (by omega), rfl, rfl, rfl⟩
        ·
          refine cSeq ?_
          refine cSeq ?_
          refine cReg ?_
          refine segEnd [0, 1, 4, 5, 6, 14] (T1 := (mkT 28 [(0, vS 0 n), (1, vN (m + 3 * j + 1)), (4, vI 0), (5, vN j), (6, vI 1), (14, .bool true)])) (H1 := [some ⟨a3s (mk3 m n), 74, false, false⟩]) (by kernel_rfl) ?_
          refine kSeq ?_
          refine cTrue (by kernel_rfl) ?_
          refine cSkip ?_
          refine kSeq ?_
          refine cSeq ?_
          refine cBlk ?_
          refine cSeq ?_
          refine cSeq ?_
          refine cReg ?_
          refine seg 3 (T1 := (mkT 28 [(0, vS 0 n), (1, vN (m + 3 * j + 1)), (4, vI 0), (5, vN j), (6, vI 1), (14, .bool true), (17, vS 0 n), (18, vN j), (19, vI 1)])) (H1 := [some ⟨a3s (mk3 m n), 74, false, false⟩]) (by kernel_rfl) ?_
          refine rOp (v := vP 0 (j * 3)) (H' := [some ⟨a3s (mk3 m n), 74, false, false⟩]) (by kernel_rfl) (eIdxS (ad := ⟨0, 0, none⟩) (n := n) (m := 0) (k := .i64) (c := ((j : Nat) : Int)) (j := j) (o := j * 3) (by kernel_rfl) (by kernel_rfl) ti31 ti74 (rfl) (by omega) (by exact Nat.zero_add _)) ?_
          refine seg 1 (T1 := (mkT 28 [(0, vS 0 n), (1, vN (m + 3 * j + 1)), (4, vI 0), (5, vN j), (6, vI 1), (14, .bool true), (17, vS 0 n), (18, vN j), (19, vI 1), (20, vP 0 (j * 3)), (21, vP 0 (j * 3 + 1))])) (H1 := [some ⟨a3s (mk3 m n), 74, false, false⟩]) (by kernel_rfl) ?_
          refine rOp (v := vN (m + 3 * j + 1)) (H' := [some ⟨a3s (mk3 m n), 74, false, false⟩]) (by kernel_rfl) (eLdA3k (ad := ⟨0, j * 3 + 1, none⟩) (r := ⟨a3s (mk3 m n), 74, false, false⟩) (L := (mk3 m n)) (j := j) (k := 1) (by kernel_rfl) (by kernel_rfl) rfl (by first | rfl | omega) (by (rw [mk3_length]; omega)) (by decide) ti3 rfl (mk3_cell m n j 1 (by omega) (by decide))) ?_
          refine seg 1 (T1 := (mkT 28 [(0, vS 0 n), (1, vN (m + 3 * j + 1)), (4, vI 0), (5, vN j), (6, vI 1), (14, .bool true), (17, vS 0 n), (18, vN j), (19, vI 1), (20, vP 0 (j * 3)), (21, vP 0 (j * 3 + 1)), (22, vN (m + 3 * j + 1)), (23, vN (m + 3 * j + 1))])) (H1 := [some ⟨a3s (mk3 m n), 74, false, false⟩]) (by kernel_rfl) ?_
          refine rOp (v := .bool false) (H' := [some ⟨a3s (mk3 m n), 74, false, false⟩]) (by kernel_rfl) (eNeS (k := .i64) (a := ((m + 3 * j + 1 : Nat) : Int)) (by kernel_rfl) (by kernel_rfl)) ?_
          refine segEnd [0, 1, 4, 5, 6, 14, 24] (T1 := (mkT 28 [(0, vS 0 n), (1, vN (m + 3 * j + 1)), (4, vI 0), (5, vN j), (6, vI 1), (14, .bool true), (24, .bool false)])) (H1 := [some ⟨a3s (mk3 m n), 74, false, false⟩]) (by kernel_rfl) ?_
          refine kSeq ?_
          refine cFalse (by kernel_rfl) ?_
          refine cSkip ?_
          refine kSeq ?_
          refine cReg ?_
          refine seg 1 (T1 := (mkT 28 [(0, vS 0 n), (1, vN (m + 3 * j + 1)), (4, vI 0), (5, vN j), (6, vI 1), (14, .bool true), (24, .bool false), (25, vN (m + 3 * j + 1))])) (H1 := [some ⟨a3s (mk3 m n), 74, false, false⟩]) (by kernel_rfl) ?_
          refine rOp (v := vN ((m + 3 * j + 1) + 1)) (H' := [some ⟨a3s (mk3 m n), 74, false, false⟩]) (by kernel_rfl) (eAdd (k := .i64) (a := ((m + 3 * j + 1 : Nat) : Int)) (b := 1) (c := (((m + 3 * j + 1) + 1 : Nat) : Int)) (by kernel_rfl) (by kernel_rfl) (wr64 (by omega) (by omega) (by omega))) ?_
          refine segEnd [0, 1, 4, 5, 6, 14, 24] (T1 := (mkT 28 [(0, vS 0 n), (1, vN ((m + 3 * j + 1) + 1)), (4, vI 0), (5, vN j), (6, vI 1), (14, .bool true), (24, .bool false)])) (H1 := [some ⟨a3s (mk3 m n), 74, false, false⟩]) (by kernel_rfl) ?_
          refine kBlk ?_
          refine kSeq ?_
          refine cReg ?_
          refine segEnd [0, 1, 4, 5, 6, 14, 24] (T1 := (mkT 28 [(0, vS 0 n), (1, vN ((m + 3 * j + 1) + 1)), (4, vI 0), (5, vN j), (6, vI 2), (14, .bool true), (24, .bool false)])) (H1 := [some ⟨a3s (mk3 m n), 74, false, false⟩]) (by kernel_rfl) ?_
          exact kLoop (3 - 2) (mkT 28 [(0, vS 0 n), (1, vN (m + 3 * j + 2)), (4, vI 0), (5, vN j), (6, vI 2)]) [some ⟨a3s (mk3 m n), 74, false, false⟩] (by omega) (wkSame [0, 1, 4, 5, 6] (by kernel_rfl)) ⟨2, (by omega), rfl, rfl, rfl⟩
        ·
          refine cSeq ?_
          refine cSeq ?_
          refine cReg ?_
          refine segEnd [0, 1, 4, 5, 6, 14] (T1 := (mkT 28 [(0, vS 0 n), (1, vN (m + 3 * j + 2)), (4, vI 0), (5, vN j), (6, vI 2), (14, .bool true)])) (H1 := [some ⟨a3s (mk3 m n), 74, false, false⟩]) (by kernel_rfl) ?_
          refine kSeq ?_
          refine cTrue (by kernel_rfl) ?_
          refine cSkip ?_
          refine kSeq ?_
          refine cSeq ?_
          refine cBlk ?_
          refine cSeq ?_
          refine cSeq ?_
          refine cReg ?_
          refine seg 3 (T1 := (mkT 28 [(0, vS 0 n), (1, vN (m + 3 * j + 2)), (4, vI 0), (5, vN j), (6, vI 2), (14, .bool true), (17, vS 0 n), (18, vN j), (19, vI 2)])) (H1 := [some ⟨a3s (mk3 m n), 74, false, false⟩]) (by kernel_rfl) ?_
          refine rOp (v := vP 0 (j * 3)) (H' := [some ⟨a3s (mk3 m n), 74, false, false⟩]) (by kernel_rfl) (eIdxS (ad := ⟨0, 0, none⟩) (n := n) (m := 0) (k := .i64) (c := ((j : Nat) : Int)) (j := j) (o := j * 3) (by kernel_rfl) (by kernel_rfl) ti31 ti74 (rfl) (by omega) (by exact Nat.zero_add _)) ?_
          refine seg 1 (T1 := (mkT 28 [(0, vS 0 n), (1, vN (m + 3 * j + 2)), (4, vI 0), (5, vN j), (6, vI 2), (14, .bool true), (17, vS 0 n), (18, vN j), (19, vI 2), (20, vP 0 (j * 3)), (21, vP 0 (j * 3 + 2))])) (H1 := [some ⟨a3s (mk3 m n), 74, false, false⟩]) (by kernel_rfl) ?_
          refine rOp (v := vN (m + 3 * j + 2)) (H' := [some ⟨a3s (mk3 m n), 74, false, false⟩]) (by kernel_rfl) (eLdA3k (ad := ⟨0, j * 3 + 2, none⟩) (r := ⟨a3s (mk3 m n), 74, false, false⟩) (L := (mk3 m n)) (j := j) (k := 2) (by kernel_rfl) (by kernel_rfl) rfl (by first | rfl | omega) (by (rw [mk3_length]; omega)) (by decide) ti3 rfl (mk3_cell m n j 2 (by omega) (by decide))) ?_
          refine seg 1 (T1 := (mkT 28 [(0, vS 0 n), (1, vN (m + 3 * j + 2)), (4, vI 0), (5, vN j), (6, vI 2), (14, .bool true), (17, vS 0 n), (18, vN j), (19, vI 2), (20, vP 0 (j * 3)), (21, vP 0 (j * 3 + 2)), (22, vN (m + 3 * j + 2)), (23, vN (m + 3 * j + 2))])) (H1 := [some ⟨a3s (mk3 m n), 74, false, false⟩]) (by kernel_rfl) ?_
          refine rOp (v := .bool false) (H' := [some ⟨a3s (mk3 m n), 74, false, false⟩]) (by kernel_rfl) (eNeS (k := .i64) (a := ((m + 3 * j + 2 : Nat) : Int)) (by kernel_rfl) (by kernel_rfl)) ?_
          refine segEnd [0, 1, 4, 5, 6, 14, 24] (T1 := (mkT 28 [(0, vS 0 n), (1, vN (m + 3 * j + 2)), (4, vI 0), (5, vN j), (6, vI 2), (14, .bool true), (24, .bool false)])) (H1 := [some ⟨a3s (mk3 m n), 74, false, false⟩]) (by kernel_rfl) ?_
          refine kSeq ?_
          refine cFalse (by kernel_rfl) ?_
          refine cSkip ?_
          refine kSeq ?_
          refine cReg ?_
          refine seg 1 (T1 := (mkT 28 [(0, vS 0 n), (1, vN (m + 3 * j + 2)), (4, vI 0), (5, vN j), (6, vI 2), (14, .bool true), (24, .bool false), (25, vN (m + 3 * j + 2))])) (H1 := [some ⟨a3s (mk3 m n), 74, false, false⟩]) (by kernel_rfl) ?_
          refine rOp (v := vN ((m + 3 * j + 2) + 1)) (H' := [some ⟨a3s (mk3 m n), 74, false, false⟩]) (by kernel_rfl) (eAdd (k := .i64) (a := ((m + 3 * j + 2 : Nat) : Int)) (b := 1) (c := (((m + 3 * j + 2) + 1 : Nat) : Int)) (by kernel_rfl) (by kernel_rfl) (wr64 (by omega) (by omega) (by omega))) ?_
          refine segEnd [0, 1, 4, 5, 6, 14, 24] (T1 := (mkT 28 [(0, vS 0 n), (1, vN ((m + 3 * j + 2) + 1)), (4, vI 0), (5, vN j), (6, vI 2), (14, .bool true), (24, .bool false)])) (H1 := [some ⟨a3s (mk3 m n), 74, false, false⟩]) (by kernel_rfl) ?_
          refine kBlk ?_
          refine kSeq ?_
          refine cReg ?_
          refine segEnd [0, 1, 4, 5, 6, 14, 24] (T1 := (mkT 28 [(0, vS 0 n), (1, vN ((m + 3 * j + 2) + 1)), (4, vI 0), (5, vN j), (6, vI 3), (14, .bool true), (24, .bool false)])) (H1 := [some ⟨a3s (mk3 m n), 74, false, false⟩]) (by kernel_rfl) ?_
          exact kLoop (3 - 3) (mkT 28 [(0, vS 0 n), (1, vN (m + 3 * j + 3)), (4, vI 0), (5, vN j), (6, vI 3)]) [some ⟨a3s (mk3 m n), 74, false, false⟩] (by omega) (wkSame [0, 1, 4, 5, 6] (by kernel_rfl)) ⟨3, (by omega), rfl, rfl, rfl⟩
        ·
          refine cSeq ?_
          refine cSeq ?_
          refine cReg ?_
          refine segEnd [0, 1, 4, 5, 6, 14] (T1 := (mkT 28 [(0, vS 0 n), (1, vN (m + 3 * j + 3)), (4, vI 0), (5, vN j), (6, vI 3), (14, .bool false)])) (H1 := [some ⟨a3s (mk3 m n), 74, false, false⟩]) (by kernel_rfl) ?_
          refine kSeq ?_
          refine cFalse (by kernel_rfl) ?_
          refine cExit ?_
          refine kSeqE ?_
          refine kLoopE ?_
          refine kBlkHit ?_
          refine kBlk ?_
          refine kSeq ?_
          refine cReg ?_
          refine seg 1 (T1 := (mkT 28 [(0, vS 0 n), (1, vN (m + 3 * j + 3)), (4, vI 0), (5, vN j), (6, vI 3), (11, vN j), (14, .bool false)])) (H1 := [some ⟨a3s (mk3 m n), 74, false, false⟩]) (by kernel_rfl) ?_
          refine rOp (v := vN (j + 1)) (H' := [some ⟨a3s (mk3 m n), 74, false, false⟩]) (by kernel_rfl) (eAdd (k := .i64) (a := ((j : Nat) : Int)) (b := 1) (c := ((j + 1 : Nat) : Int)) (by kernel_rfl) (by kernel_rfl) (wr64 (by omega) (by omega) (by omega))) ?_
          refine segEnd [0, 1, 4, 5, 6, 14] (T1 := (mkT 28 [(0, vS 0 n), (1, vN (m + 3 * j + 3)), (4, vI 0), (5, vN (j + 1)), (6, vI 3), (14, .bool false)])) (H1 := [some ⟨a3s (mk3 m n), 74, false, false⟩]) (by kernel_rfl) ?_
          exact kLoop (n - (j + 1)) (mkT 28 [(0, vS 0 n), (1, vN (m + 3 * (j + 1))), (4, vI 0), (5, vN (j + 1))]) [some ⟨a3s (mk3 m n), 74, false, false⟩] (by omega) (wkSame [0, 1, 4, 5] (by kernel_rfl)) ⟨(j + 1), (by omega), rfl, rfl, rfl⟩

set_option maxRecDepth 100000 in
set_option maxHeartbeats 4000000 in
theorem heldHeap_ok (x y z : Int) (m n : Nat) (hn : n ≤ 1048576) (hm : m ≤ 1099511627776) : Sound Try.prog 36 [.agg #[vI x, vI y, vI z, vS 0 n], vN m] [some ⟨a3s (mk3 m n), 74, false, false⟩] (vN (m + 3 * n)) [some ⟨a3s (mk3 m n), 74, false, false⟩] := by
  refine sound_intro (C := cx) Try.func36 rfl (by kernel_rfl) fun hcl => ?_
  refine cSeq ?_
  refine cReg ?_
  refine segEnd [0, 1, 2, 4] (T1 := (mkT 12 [(0, .agg #[vI x, vI y, vI z, vS 0 n]), (1, vN m), (2, vP 1 0), (4, vI 0)])) (H1 := [some ⟨a3s (mk3 m n), 74, false, false⟩, rB [vI x, vI y, vI z, vS 0 n] 40]) (by kernel_rfl) ?_
  refine kSeq ?_
  refine cSeq ?_
  refine cReg ?_
  refine seg 3 (T1 := (mkT 12 [(0, .agg #[vI x, vI y, vI z, vS 0 n]), (1, vN m), (2, vP 1 0), (4, vI 0), (5, vP 1 3), (6, vS 0 n), (7, vN m)])) (H1 := [some ⟨a3s (mk3 m n), 74, false, false⟩, rB [vI x, vI y, vI z, vS 0 n] 40]) (by kernel_rfl) ?_
  refine rCall (v := vN (m + 3 * n)) (H' := [some ⟨a3s (mk3 m n), 74, false, false⟩, rB [vI x, vI y, vI z, vS 0 n] 40]) (args := [vS 0 n, vN m]) (by kernel_rfl) rfl (by kernel_rfl) (Sound.reads1 0 false (held_ok m n (by first | omega | (simp only [allOf_length, List.length_nil, mk3_length]; omega)) (by omega)) (flatA3 _ _ _ _) rfl rfl rfl (by first | rfl | simp [mpV, mpA, mpS, mpP, renId, shift]) rfl) ?_
  refine segEnd [0, 1, 2, 4] (T1 := (mkT 12 [(0, .agg #[vI x, vI y, vI z, vS 0 n]), (1, vN (m + 3 * n)), (2, vP 1 0), (4, vI 0)])) (H1 := [some ⟨a3s (mk3 m n), 74, false, false⟩, rB [vI x, vI y, vI z, vS 0 n] 40]) (by kernel_rfl) ?_
  refine kSeq ?_
  refine cSeq ?_
  refine cSeq ?_
  refine cReg ?_
  refine segEnd [0, 1, 2, 4, 10] (T1 := (mkT 12 [(0, .agg #[vI x, vI y, vI z, vS 0 n]), (1, vN (m + 3 * n)), (2, vP 1 0), (4, vI 0), (10, .bool (decide (((m + 3 * n : Nat) : Int) < 0)))])) (H1 := [some ⟨a3s (mk3 m n), 74, false, false⟩, rB [vI x, vI y, vI z, vS 0 n] 40]) (by kernel_rfl) ?_
  refine kSeq ?_
  cases h1 : (decide (((m + 3 * n : Nat) : Int) < 0) : Bool)
  ·
    (try simp only [Bool.not_eq_true', Bool.not_eq_false', decide_eq_true_eq, decide_eq_false_iff_not, beq_iff_eq, bne_iff_ne, beq_eq_false_iff_ne, bne_eq_false_iff_eq, ne_eq, Decidable.not_not, Bool.and_eq_true, Bool.and_eq_false_imp, Bool.or_eq_true, Bool.or_eq_false_iff, Bool.not_eq_true, Int.not_lt, Int.not_le, ge_iff_le, gt_iff_lt] at h1)
    refine cFalse (by kernel_rfl) ?_
    refine cSkip ?_
    refine kSeq ?_
    refine cSeq ?_
    refine cReg ?_
    refine segEnd [0, 1, 2, 4, 10] (T1 := (mkT 12 [(0, .agg #[vI x, vI y, vI z, vS 0 n]), (1, vN (m + 3 * n)), (2, vP 1 0), (4, vN (m + 3 * n)), (10, .bool false)])) (H1 := [some ⟨a3s (mk3 m n), 74, false, false⟩, rB [vI x, vI y, vI z, vS 0 n] 40]) (by kernel_rfl) ?_
    refine kSeq ?_
    refine cRet ?_
    exact endQ (Or.inr rfl) (l := [vN (m + 3 * n)]) [rB [vI x, vI y, vI z, vS 0 n] 40] (by kernel_rfl) (rfl) rfl rfl hcl rfl
  ·
    (try simp only [Bool.not_eq_true', Bool.not_eq_false', decide_eq_true_eq, decide_eq_false_iff_not, beq_iff_eq, bne_iff_ne, beq_eq_false_iff_ne, bne_eq_false_iff_eq, ne_eq, Decidable.not_not, Bool.and_eq_true, Bool.and_eq_false_imp, Bool.or_eq_true, Bool.or_eq_false_iff, Bool.not_eq_true, Int.not_lt, Int.not_le, ge_iff_le, gt_iff_lt] at h1)
    exfalso; omega
end Go.Proofs.Ytbheeobnghlckaa
