/- Walks. No condition. -/
import Derived.Test.YtbheeobnghlckaaAmS4G1
set_option linter.unusedVariables false
set_option linter.unusedSimpArgs false
namespace Go.Proofs.Ytbheeobnghlckaa
open Go.Am Go.RowKit
set_option maxRecDepth 100000 in
set_option maxHeartbeats 4000000 in
theorem setHas_ok (s i : Nat) (hs : s < 18446744073709551616) (hi : i < 64) : Sound Try.prog 132 [vU s, vN i] [] (.bool (s.testBit i)) [] := by
  refine sound_intro (C := cx) Try.func132 rfl (by kernel_rfl) fun hcl => ?_
  refine cSeq ?_
  refine cReg ?_
  refine segEnd [0, 1, 4] (T1 := (mkT 10 [(0, vU s), (1, vN i), (4, .bool false)])) (H1 := []) (by kernel_rfl) ?_
  refine kSeq ?_
  refine cSeq ?_
  refine cReg ?_
  refine seg 2 (T1 := (mkT 10 [(0, vU s), (1, vN i), (4, .bool false), (5, vU s), (6, vN i)])) (H1 := []) (by kernel_rfl) ?_
  refine rOp (v := vU (s >>> i)) (H' := []) (by kernel_rfl) (eShr (k := .u64) (a := ((s : Nat) : Int)) (b := ((i : Nat) : Int)) (k' := .i64) (c := ((s >>> i : Nat) : Int)) (by kernel_rfl) (by kernel_rfl) (by omega) (shrU s i hi)) ?_
  refine rOp (v := vU (s >>> i &&& 1)) (H' := []) (by kernel_rfl) (eOp (k := .u64) (a := ((s >>> i : Nat) : Int)) (b := 1) (by kernel_rfl) (by kernel_rfl) ⟨by decide, by decide⟩ (andU _ 1 (shr_le s i hs) (by decide))) ?_
  refine segEnd [0, 1, 4] (T1 := (mkT 10 [(0, vU s), (1, vN i), (4, .bool (((s >>> i &&& 1 : Nat) : Int) == 1))])) (H1 := []) (by kernel_rfl) ?_
  refine kSeq ?_
  refine cRet ?_
  exact endQ (Or.inr rfl) (l := [.bool (((s >>> i &&& 1 : Nat) : Int) == 1)]) [] (by kernel_rfl) (congrArg Value.bool (bit_eq s i)) rfl rfl hcl rfl

set_option maxRecDepth 100000 in
set_option maxHeartbeats 4000000 in
theorem size_ok (X Y Z : Nat) (hX : X ≤ 4) (hY : Y ≤ 4) (hZ : Z ≤ 4) : Sound Try.prog 96 [.agg #[vN X, vN Y, vN Z]] [] (vN (X * Y * Z)) [] := by
  refine sound_intro (C := cx) Try.func96 rfl (by kernel_rfl) fun hcl => ?_
  have hsz := size_le hX hY hZ
  refine cSeq ?_
  refine cReg ?_
  refine segEnd [0, 1, 2] (T1 := (mkT 11 [(0, .agg #[vN X, vN Y, vN Z]), (1, vP 0 0), (2, vI 0)])) (H1 := [rB [vN X, vN Y, vN Z] 75]) (by kernel_rfl) ?_
  refine kSeq ?_
  refine cSeq ?_
  refine cReg ?_
  refine seg 4 (T1 := (mkT 11 [(0, .agg #[vN X, vN Y, vN Z]), (1, vP 0 0), (2, vI 0), (3, vP 0 0), (4, vN X), (5, vP 0 1), (6, vN Y)])) (H1 := [rB [vN X, vN Y, vN Z] 75]) (by kernel_rfl) ?_
  refine rOp (v := vN (X * Y)) (H' := [rB [vN X, vN Y, vN Z] 75]) (by kernel_rfl) (eMul (k := .i64) (a := ((X : Nat) : Int)) (b := ((Y : Nat) : Int)) (c := ((X * Y : Nat) : Int)) (by kernel_rfl) (by kernel_rfl) (nMul (by omega))) ?_
  refine seg 2 (T1 := (mkT 11 [(0, .agg #[vN X, vN Y, vN Z]), (1, vP 0 0), (2, vI 0), (3, vP 0 0), (4, vN X), (5, vP 0 1), (6, vN Y), (7, vN (X * Y)), (8, vP 0 2), (9, vN Z)])) (H1 := [rB [vN X, vN Y, vN Z] 75]) (by kernel_rfl) ?_
  refine rOp (v := vN ((X * Y) * Z)) (H' := [rB [vN X, vN Y, vN Z] 75]) (by kernel_rfl) (eMul (k := .i64) (a := ((X * Y : Nat) : Int)) (b := ((Z : Nat) : Int)) (c := (((X * Y) * Z : Nat) : Int)) (by kernel_rfl) (by kernel_rfl) (nMul (by omega))) ?_
  refine segEnd [0, 1, 2] (T1 := (mkT 11 [(0, .agg #[vN X, vN Y, vN Z]), (1, vP 0 0), (2, vN ((X * Y) * Z))])) (H1 := [rB [vN X, vN Y, vN Z] 75]) (by kernel_rfl) ?_
  refine kSeq ?_
  refine cRet ?_
  exact endQ (Or.inr rfl) (l := [vN ((X * Y) * Z)]) [rB [vN X, vN Y, vN Z] 75] (by kernel_rfl) (rfl) rfl rfl hcl rfl

set_option maxRecDepth 100000 in
set_option maxHeartbeats 4000000 in
theorem cell_ok (X Y Z i : Nat) (hY0 : 1 ≤ Y) (hZ0 : 1 ≤ Z) (hi : i ≤ 64) : Sound Try.prog 97 [.agg #[vN X, vN Y, vN Z], vN i] [] (.agg #[vN (i / Z / Y), vN (i / Z % Y), vN (i % Z)]) [] := by
  refine sound_intro (C := cx) Try.func97 rfl (by kernel_rfl) fun hcl => ?_
  have hq := Nat.div_le_self i Z
  refine cSeq ?_
  refine cReg ?_
  refine segEnd [0, 1, 2, 4] (T1 := (mkT 24 [(0, .agg #[vN X, vN Y, vN Z]), (1, vN i), (2, vP 0 0), (4, vP 1 0)])) (H1 := [rB [vN X, vN Y, vN Z] 75, rB [vI 0, vI 0, vI 0] 74]) (by kernel_rfl) ?_
  refine kSeq ?_
  refine cSeq ?_
  refine cRegD (by kernel_rfl) ?_
  refine segD 3 (T1 := (mkT 24 [(0, .agg #[vN X, vN Y, vN Z]), (1, vN i), (2, vP 0 0), (4, vP 1 0), (5, vN i), (6, vP 0 2), (7, vN Z)])) (H1 := [rB [vN X, vN Y, vN Z] 75, rB [vI 0, vI 0, vI 0] 74]) (by kernel_rfl) ?_
  refine rOpD (v := vN (i / Z)) (H' := [rB [vN X, vN Y, vN Z] 75, rB [vI 0, vI 0, vI 0] 74]) (by kernel_rfl) (eQuo (k := .i64) (a := ((i : Nat) : Int)) (b := ((Z : Nat) : Int)) (c := ((i / Z : Nat) : Int)) (by kernel_rfl) (by kernel_rfl) (by omega) (nQuo (by omega))) (by rfl) ?_
  refine segD 2 (T1 := (mkT 24 [(0, .agg #[vN X, vN Y, vN Z]), (1, vN i), (2, vP 0 0), (4, vP 1 0), (5, vN i), (6, vP 0 2), (7, vN Z), (8, vN (i / Z)), (9, vP 0 1), (10, vN Y)])) (H1 := [rB [vN X, vN Y, vN Z] 75, rB [vI 0, vI 0, vI 0] 74]) (by kernel_rfl) ?_
  refine rOpD (v := vN ((i / Z) / Y)) (H' := [rB [vN X, vN Y, vN Z] 75, rB [vI 0, vI 0, vI 0] 74]) (by kernel_rfl) (eQuo (k := .i64) (a := ((i / Z : Nat) : Int)) (b := ((Y : Nat) : Int)) (c := (((i / Z) / Y : Nat) : Int)) (by kernel_rfl) (by kernel_rfl) (by omega) (nQuo (by omega))) (by rfl) ?_
  refine segD 3 (T1 := (mkT 24 [(0, .agg #[vN X, vN Y, vN Z]), (1, vN i), (2, vP 0 0), (4, vP 1 0), (5, vN i), (6, vP 0 2), (7, vN Z), (8, vN (i / Z)), (9, vP 0 1), (10, vN Y), (11, vN ((i / Z) / Y)), (12, vN i), (13, vP 0 2), (14, vN Z)])) (H1 := [rB [vN X, vN Y, vN Z] 75, rB [vI 0, vI 0, vI 0] 74]) (by kernel_rfl) ?_
  refine rOpD (v := vN (i / Z)) (H' := [rB [vN X, vN Y, vN Z] 75, rB [vI 0, vI 0, vI 0] 74]) (by kernel_rfl) (eQuo (k := .i64) (a := ((i : Nat) : Int)) (b := ((Z : Nat) : Int)) (c := ((i / Z : Nat) : Int)) (by kernel_rfl) (by kernel_rfl) (by omega) (nQuo (by omega))) (by rfl) ?_
  refine segD 2 (T1 := (mkT 24 [(0, .agg #[vN X, vN Y, vN Z]), (1, vN i), (2, vP 0 0), (4, vP 1 0), (5, vN i), (6, vP 0 2), (7, vN Z), (8, vN (i / Z)), (9, vP 0 1), (10, vN Y), (11, vN ((i / Z) / Y)), (12, vN i), (13, vP 0 2), (14, vN Z), (15, vN (i / Z)), (16, vP 0 1), (17, vN Y)])) (H1 := [rB [vN X, vN Y, vN Z] 75, rB [vI 0, vI 0, vI 0] 74]) (by kernel_rfl) ?_
  refine rOpD (v := vN ((i / Z) % Y)) (H' := [rB [vN X, vN Y, vN Z] 75, rB [vI 0, vI 0, vI 0] 74]) (by kernel_rfl) (eRem (k := .i64) (a := ((i / Z : Nat) : Int)) (b := ((Y : Nat) : Int)) (c := (((i / Z) % Y : Nat) : Int)) (by kernel_rfl) (by kernel_rfl) (by omega) nRem) (by rfl) ?_
  refine segD 3 (T1 := (mkT 24 [(0, .agg #[vN X, vN Y, vN Z]), (1, vN i), (2, vP 0 0), (4, vP 1 0), (5, vN i), (6, vP 0 2), (7, vN Z), (8, vN (i / Z)), (9, vP 0 1), (10, vN Y), (11, vN ((i / Z) / Y)), (12, vN i), (13, vP 0 2), (14, vN Z), (15, vN (i / Z)), (16, vP 0 1), (17, vN Y), (18, vN ((i / Z) % Y)), (19, vN i), (20, vP 0 2), (21, vN Z)])) (H1 := [rB [vN X, vN Y, vN Z] 75, rB [vI 0, vI 0, vI 0] 74]) (by kernel_rfl) ?_
  refine rOpD (v := vN (i % Z)) (H' := [rB [vN X, vN Y, vN Z] 75, rB [vI 0, vI 0, vI 0] 74]) (by kernel_rfl) (eRem (k := .i64) (a := ((i : Nat) : Int)) (b := ((Z : Nat) : Int)) (c := ((i % Z : Nat) : Int)) (by kernel_rfl) (by kernel_rfl) (by omega) nRem) (by rfl) ?_
  refine segEndD [0, 1, 2, 4] (T1 := (mkT 24 [(0, .agg #[vN X, vN Y, vN Z]), (1, vN i), (2, vP 0 0), (4, vP 1 0)])) (H1 := [rB [vN X, vN Y, vN Z] 75, rB [vN ((i / Z) / Y), vN ((i / Z) % Y), vN (i % Z)] 74]) (by kernel_rfl) ?_
  refine kSeq ?_
  refine cRet ?_
  exact endQ (Or.inr rfl) (l := [.agg #[vN ((i / Z) / Y), vN ((i / Z) % Y), vN (i % Z)]]) [rB [vN X, vN Y, vN Z] 75, rB [vN ((i / Z) / Y), vN ((i / Z) % Y), vN (i % Z)] 74] (by kernel_rfl) (rfl) rfl rfl hcl rfl

set_option maxRecDepth 100000 in
set_option maxHeartbeats 4000000 in
theorem list_ok (X Y Z s : Nat) (hX0 : 1 ≤ X) (hX : X ≤ 4) (hY0 : 1 ≤ Y) (hY : Y ≤ 4) (hZ0 : 1 ≤ Z) (hZ : Z ≤ 4) (hs : s < 18446744073709551616) : Sound Try.prog 111 [.agg #[vN X, vN Y, vN Z], vU s] [] (vS 0 ((listOf X Y Z s).length)) [some ⟨a3s (listOf X Y Z s), 74, false, true⟩] := by
  refine sound_intro (C := cx) Try.func111 rfl (by kernel_rfl) fun hcl => ?_
  have hsz := size_le hX hY hZ
  refine cSeq ?_
  refine cReg ?_
  refine segEnd [0, 1, 2, 4] (T1 := (mkT 24 [(0, .agg #[vN X, vN Y, vN Z]), (1, vU s), (2, vP 0 0), (4, .slice none 0 0)])) (H1 := [rB [vN X, vN Y, vN Z] 75]) (by kernel_rfl) ?_
  refine kSeq ?_
  refine cSeq ?_
  refine cReg ?_
  refine segEnd [0, 1, 2, 4, 5] (T1 := (mkT 24 [(0, .agg #[vN X, vN Y, vN Z]), (1, vU s), (2, vP 0 0), (4, .slice none 0 0), (5, vS 1 0)])) (H1 := [rB [vN X, vN Y, vN Z] 75, some ⟨[], 74, false, true⟩]) (by kernel_rfl) ?_
  refine kSeq ?_
  refine cSeq ?_
  refine cSeq ?_
  refine cReg ?_
  refine seg 1 (T1 := (mkT 24 [(0, .agg #[vN X, vN Y, vN Z]), (1, vU s), (2, vP 0 0), (4, .slice none 0 0), (5, vS 1 0), (8, .agg #[vN X, vN Y, vN Z])])) (H1 := [rB [vN X, vN Y, vN Z] 75, some ⟨[], 74, false, true⟩]) (by kernel_rfl) ?_
  refine rCall (v := vN (X * Y * Z)) (H' := [rB [vN X, vN Y, vN Z] 75, some ⟨[], 74, false, true⟩]) (args := [.agg #[vN X, vN Y, vN Z]]) (by kernel_rfl) rfl (by kernel_rfl) ((size_ok X Y Z (by omega) (by omega) (by omega)).flat rfl rfl _) ?_
  refine segEnd [0, 1, 2, 4, 5, 9, 10] (T1 := (mkT 24 [(0, .agg #[vN X, vN Y, vN Z]), (1, vU s), (2, vP 0 0), (4, .slice none 0 0), (5, vS 1 0), (9, vN (X * Y * Z)), (10, vI 0)])) (H1 := [rB [vN X, vN Y, vN Z] 75, some ⟨[], 74, false, true⟩]) (by kernel_rfl) ?_
  refine kSeq ?_
  refine cBlk ?_
  -- loop
  refine cLoop (fun mm T H => ∃ i : Nat, ∃ L : List A3, (i ≤ X * Y * Z) ∧ (L = upto Y Z s i) ∧ mm = X * Y * Z - i ∧ T = (mkT 24 [(1, vU s), (2, vP 0 0), (4, .slice none 0 0), (5, vS 1 L.length), (9, vN (X * Y * Z)), (10, vN i)]) ∧ H = [rB [vN X, vN Y, vN Z] 75, some ⟨a3s L, 74, false, true⟩]) (X * Y * Z - 0) (mkT 24 [(1, vU s), (2, vP 0 0), (4, .slice none 0 0), (5, vS 1 (([] : List A3).length)), (9, vN (X * Y * Z)), (10, vI 0)]) [rB [vN X, vN Y, vN Z] 75, some ⟨a3s ([] : List A3), 74, false, true⟩] (wkSame [1, 2, 4, 5, 9, 10] (by kernel_rfl)) ?_ ?_
  · exact ⟨0, ([] : List A3), (Nat.zero_le _), (by simp [upto]), rfl, rfl, rfl⟩
  · rintro _ _ _ ⟨i, L, hi, hL, rfl, rfl, rfl⟩
    have hlen : L.length ≤ i := hL ▸ upto_length Y Z s i
    refine cSeq ?_
    refine cReg ?_
    refine segEnd [1, 2, 4, 5, 9, 10, 11] (T1 := (mkT 24 [(1, vU s), (2, vP 0 0), (4, .slice none 0 0), (5, vS 1 L.length), (9, vN (X * Y * Z)), (10, vN i), (11, .bool (decide (((i : Nat) : Int) < ((X * Y * Z : Nat) : Int))))])) (H1 := [rB [vN X, vN Y, vN Z] 75, some ⟨a3s L, 74, false, true⟩]) (by kernel_rfl) ?_
    refine kSeq ?_
    refine cSeq ?_
    cases h1 : (decide (((i : Nat) : Int) < ((X * Y * Z : Nat) : Int)) : Bool)
    ·
      (try simp only [Bool.not_eq_true', Bool.not_eq_false', decide_eq_true_eq, decide_eq_false_iff_not, beq_iff_eq, bne_iff_ne, beq_eq_false_iff_ne, bne_eq_false_iff_eq, ne_eq, Decidable.not_not, Bool.and_eq_true, Bool.and_eq_false_imp, Bool.or_eq_true, Bool.or_eq_false_iff, Bool.not_eq_true, Int.not_lt, Int.not_le, ge_iff_le, gt_iff_lt] at h1)
      refine cFalse (by kernel_rfl) ?_
      refine cExit ?_
      refine kSeqE ?_
      refine kLoopE ?_
      refine kBlkHit ?_
      refine kSeq ?_
      refine cSeq ?_
      refine cReg ?_
      refine segEnd [1, 2, 4, 5, 9, 10, 11] (T1 := (mkT 24 [(1, vU s), (2, vP 0 0), (4, vS 1 L.length), (5, vS 1 L.length), (9, vN (X * Y * Z)), (10, vN i), (11, .bool false)])) (H1 := [rB [vN X, vN Y, vN Z] 75, some ⟨a3s L, 74, false, true⟩]) (by kernel_rfl) ?_
      refine kSeq ?_
      refine cRet ?_
      have hend : i = X * Y * Z := by omega
      subst hend
      subst hL
      exact endF (Or.inr rfl) (l := [vS 1 (upto Y Z s (X * Y * Z)).length]) [1] (by kernel_rfl) (by first | rfl | simp [packR, mpV, mpA, mpS, mpP, renId]) ⟨rrF (flatA3 _ _ _ _) rfl, trivial⟩ rfl rfl
    ·
      (try simp only [Bool.not_eq_true', Bool.not_eq_false', decide_eq_true_eq, decide_eq_false_iff_not, beq_iff_eq, bne_iff_ne, beq_eq_false_iff_ne, bne_eq_false_iff_eq, ne_eq, Decidable.not_not, Bool.and_eq_true, Bool.and_eq_false_imp, Bool.or_eq_true, Bool.or_eq_false_iff, Bool.not_eq_true, Int.not_lt, Int.not_le, ge_iff_le, gt_iff_lt] at h1)
      refine cTrue (by kernel_rfl) ?_
      refine cSkip ?_
      refine kSeq ?_
      refine cSeq ?_
      refine cBlk ?_
      refine cSeq ?_
      refine cReg ?_
      refine segEnd [1, 2, 4, 5, 6, 9, 10, 11] (T1 := (mkT 24 [(1, vU s), (2, vP 0 0), (4, .slice none 0 0), (5, vS 1 L.length), (6, vN i), (9, vN (X * Y * Z)), (10, vN i), (11, .bool true)])) (H1 := [rB [vN X, vN Y, vN Z] 75, some ⟨a3s L, 74, false, true⟩]) (by kernel_rfl) ?_
      refine kSeq ?_
      refine cSeq ?_
      refine cReg ?_
      refine seg 2 (T1 := (mkT 24 [(1, vU s), (2, vP 0 0), (4, .slice none 0 0), (5, vS 1 L.length), (6, vN i), (9, vN (X * Y * Z)), (10, vN i), (11, .bool true), (13, vU s), (14, vN i)])) (H1 := [rB [vN X, vN Y, vN Z] 75, some ⟨a3s L, 74, false, true⟩]) (by kernel_rfl) ?_
      refine rCall (v := .bool (s.testBit i)) (H' := [rB [vN X, vN Y, vN Z] 75, some ⟨a3s L, 74, false, true⟩]) (args := [vU s, vN i]) (by kernel_rfl) rfl (by kernel_rfl) ((setHas_ok s i (by first | omega | exact full_lt (by omega)) (by omega)).flat rfl rfl _) ?_
      refine segEnd [1, 2, 4, 5, 6, 9, 10, 11, 15] (T1 := (mkT 24 [(1, vU s), (2, vP 0 0), (4, .slice none 0 0), (5, vS 1 L.length), (6, vN i), (9, vN (X * Y * Z)), (10, vN i), (11, .bool true), (15, .bool (s.testBit i))])) (H1 := [rB [vN X, vN Y, vN Z] 75, some ⟨a3s L, 74, false, true⟩]) (by kernel_rfl) ?_
      refine kSeq ?_
      cases h2 : (s.testBit i : Bool)
      ·
        (try simp only [Bool.not_eq_true', Bool.not_eq_false', decide_eq_true_eq, decide_eq_false_iff_not, beq_iff_eq, bne_iff_ne, beq_eq_false_iff_ne, bne_eq_false_iff_eq, ne_eq, Decidable.not_not, Bool.and_eq_true, Bool.and_eq_false_imp, Bool.or_eq_true, Bool.or_eq_false_iff, Bool.not_eq_true, Int.not_lt, Int.not_le, ge_iff_le, gt_iff_lt] at h2)
        refine cFalse (by kernel_rfl) ?_
        refine cSkip ?_
        refine kBlk ?_
        refine kSeq ?_
        refine cReg ?_
        refine rOp (v := vN (i + 1)) (H' := [rB [vN X, vN Y, vN Z] 75, some ⟨a3s L, 74, false, true⟩]) (by kernel_rfl) (eAdd (k := .i64) (a := ((i : Nat) : Int)) (b := 1) (c := ((i + 1 : Nat) : Int)) (by kernel_rfl) (by kernel_rfl) (wr64 (by omega) (by omega) (by omega))) ?_
        refine segEnd [1, 2, 4, 5, 6, 9, 10, 11, 15] (T1 := (mkT 24 [(1, vU s), (2, vP 0 0), (4, .slice none 0 0), (5, vS 1 L.length), (6, vN i), (9, vN (X * Y * Z)), (10, vN (i + 1)), (11, .bool true), (15, .bool false)])) (H1 := [rB [vN X, vN Y, vN Z] 75, some ⟨a3s L, 74, false, true⟩]) (by kernel_rfl) ?_
        exact kLoop (X * Y * Z - (i + 1)) (mkT 24 [(1, vU s), (2, vP 0 0), (4, .slice none 0 0), (5, vS 1 L.length), (9, vN (X * Y * Z)), (10, vN (i + 1))]) [rB [vN X, vN Y, vN Z] 75, some ⟨a3s L, 74, false, true⟩] (by omega) (wkSame [1, 2, 4, 5, 9, 10] (by kernel_rfl)) ⟨(i + 1), L, (by omega), (by subst hL; rw [upto_succ]; simp_all [cellOf]), rfl, rfl, rfl⟩
      ·
        (try simp only [Bool.not_eq_true', Bool.not_eq_false', decide_eq_true_eq, decide_eq_false_iff_not, beq_iff_eq, bne_iff_ne, beq_eq_false_iff_ne, bne_eq_false_iff_eq, ne_eq, Decidable.not_not, Bool.and_eq_true, Bool.and_eq_false_imp, Bool.or_eq_true, Bool.or_eq_false_iff, Bool.not_eq_true, Int.not_lt, Int.not_le, ge_iff_le, gt_iff_lt] at h2)
        refine cTrue (by kernel_rfl) ?_
        refine cReg ?_
        refine seg 3 (T1 := (mkT 24 [(1, vU s), (2, vP 0 0), (4, .slice none 0 0), (5, vS 1 L.length), (6, vN i), (9, vN (X * Y * Z)), (10, vN i), (11, .bool true), (15, .bool true), (16, vS 1 L.length), (17, .agg #[vN X, vN Y, vN Z]), (18, vN i)])) (H1 := [rB [vN X, vN Y, vN Z] 75, some ⟨a3s L, 74, false, true⟩]) (by kernel_rfl) ?_
        refine rCall (v := .agg #[vN (i / Z / Y), vN (i / Z % Y), vN (i % Z)]) (H' := [rB [vN X, vN Y, vN Z] 75, some ⟨a3s L, 74, false, true⟩]) (args := [.agg #[vN X, vN Y, vN Z], vN i]) (by kernel_rfl) rfl (by kernel_rfl) ((cell_ok X Y Z i (by omega) (by omega) (by omega)).flat rfl rfl _) ?_
        refine seg 1 (T1 := (mkT 24 [(1, vU s), (2, vP 0 0), (4, .slice none 0 0), (5, vS 1 L.length), (6, vN i), (9, vN (X * Y * Z)), (10, vN i), (11, .bool true), (15, .bool true), (16, vS 1 L.length), (17, .agg #[vN X, vN Y, vN Z]), (18, vN i), (19, .agg #[vN (i / Z / Y), vN (i / Z % Y), vN (i % Z)]), (20, vS 2 1)])) (H1 := [rB [vN X, vN Y, vN Z] 75, some ⟨a3s L, 74, false, true⟩, some ⟨[vN (i / Z / Y), vN (i / Z % Y), vN (i % Z)], 74, false, true⟩]) (by kernel_rfl) ?_
        refine rOp (v := vS 3 ((L ++ [(A3.mk ((i / Z / Y : Nat) : Int) ((i / Z % Y : Nat) : Int) ((i % Z : Nat) : Int))]).length)) (H' := [rB [vN X, vN Y, vN Z] 75, none, some ⟨[vN (i / Z / Y), vN (i / Z % Y), vN (i % Z)], 74, false, true⟩, some ⟨a3s (L ++ [(A3.mk ((i / Z / Y : Nat) : Int) ((i / Z % Y : Nat) : Int) ((i % Z : Nat) : Int))]), 74, false, true⟩]) (by kernel_rfl) (eAppA3 (b := 1) (a := 2) (L := L) (c := (A3.mk ((i / Z / Y : Nat) : Int) ((i / Z % Y : Nat) : Int) ((i % Z : Nat) : Int))) (r := ⟨[vN (i / Z / Y), vN (i / Z % Y), vN (i % Z)], 74, false, true⟩) (m := 0) (by kernel_rfl) (by kernel_rfl) ti31 ti74 rfl rfl (by decide) (by kernel_rfl) (by kernel_rfl) rfl (by omega) rfl) ?_
        refine segEnd [1, 2, 4, 5, 6, 9, 10, 11, 15] (T1 := (mkT 24 [(1, vU s), (2, vP 0 0), (4, .slice none 0 0), (5, vS 3 ((L ++ [(A3.mk ((i / Z / Y : Nat) : Int) ((i / Z % Y : Nat) : Int) ((i % Z : Nat) : Int))]).length)), (6, vN i), (9, vN (X * Y * Z)), (10, vN i), (11, .bool true), (15, .bool true)])) (H1 := [rB [vN X, vN Y, vN Z] 75, none, some ⟨[vN (i / Z / Y), vN (i / Z % Y), vN (i % Z)], 74, false, true⟩, some ⟨a3s (L ++ [(A3.mk ((i / Z / Y : Nat) : Int) ((i / Z % Y : Nat) : Int) ((i % Z : Nat) : Int))]), 74, false, true⟩]) (by kernel_rfl) ?_
        refine kBlk ?_
        refine kSeq ?_
        refine cReg ?_
        refine rOp (v := vN (i + 1)) (H' := [rB [vN X, vN Y, vN Z] 75, none, some ⟨[vN (i / Z / Y), vN (i / Z % Y), vN (i % Z)], 74, false, true⟩, some ⟨a3s (L ++ [(A3.mk ((i / Z / Y : Nat) : Int) ((i / Z % Y : Nat) : Int) ((i % Z : Nat) : Int))]), 74, false, true⟩]) (by kernel_rfl) (eAdd (k := .i64) (a := ((i : Nat) : Int)) (b := 1) (c := ((i + 1 : Nat) : Int)) (by kernel_rfl) (by kernel_rfl) (wr64 (by omega) (by omega) (by omega))) ?_
        refine segEnd [1, 2, 4, 5, 6, 9, 10, 11, 15] (T1 := (mkT 24 [(1, vU s), (2, vP 0 0), (4, .slice none 0 0), (5, vS 3 ((L ++ [(A3.mk ((i / Z / Y : Nat) : Int) ((i / Z % Y : Nat) : Int) ((i % Z : Nat) : Int))]).length)), (6, vN i), (9, vN (X * Y * Z)), (10, vN (i + 1)), (11, .bool true), (15, .bool true)])) (H1 := [rB [vN X, vN Y, vN Z] 75, none, some ⟨[vN (i / Z / Y), vN (i / Z % Y), vN (i % Z)], 74, false, true⟩, some ⟨a3s (L ++ [(A3.mk ((i / Z / Y : Nat) : Int) ((i / Z % Y : Nat) : Int) ((i % Z : Nat) : Int))]), 74, false, true⟩]) (by kernel_rfl) ?_
        exact kLoop (X * Y * Z - (i + 1)) (mkT 24 [(1, vU s), (2, vP 0 0), (4, .slice none 0 0), (5, vS 1 ((L ++ [(A3.mk ((i / Z / Y : Nat) : Int) ((i / Z % Y : Nat) : Int) ((i % Z : Nat) : Int))]).length)), (9, vN (X * Y * Z)), (10, vN (i + 1))]) [rB [vN X, vN Y, vN Z] 75, some ⟨a3s (L ++ [(A3.mk ((i / Z / Y : Nat) : Int) ((i / Z % Y : Nat) : Int) ((i % Z : Nat) : Int))]), 74, false, true⟩] (by omega) (wkRen [0, 3] [1, 2, 4, 5, 9, 10] ⟨rrX rfl rfl, ⟨rrF (flatA3 _ _ _ _) rfl, trivial⟩⟩ rfl (by kernel_rfl) rfl) ⟨(i + 1), (L ++ [(A3.mk ((i / Z / Y : Nat) : Int) ((i / Z % Y : Nat) : Int) ((i % Z : Nat) : Int))]), (by omega), (by subst hL; rw [upto_succ]; simp_all [cellOf]), rfl, rfl, rfl⟩

end Go.Proofs.Ytbheeobnghlckaa
