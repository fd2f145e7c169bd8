/- Walks. No condition. -/
import Derived.Test.YtbheeobnghlckaaAmS4G6
set_option linter.unusedVariables false
set_option linter.unusedSimpArgs false
namespace Go.Proofs.Ytbheeobnghlckaa
open Go.Am Go.RowKit
set_option maxRecDepth 100000 in
set_option maxHeartbeats 4000000 in
theorem l2Has_ok (X Y Z : Nat) (hX0 : 1 ≤ X) (hX : X ≤ 4) (hY0 : 1 ≤ Y) (hY : Y ≤ 4) (hZ0 : 1 ≤ Z) (hZ : Z ≤ 4) (p : Nat → Bool) (a b c : Int) : Sound Try.prog 119 [.agg #[vN X, vN Y, vN Z, vS 0 ((fl Y Z (X * Y * Z) p).length)], .agg #[vI a, vI b, vI c]] [some ⟨a3s (fl Y Z (X * Y * Z) p), 74, false, false⟩] (.bool (hasL (fl Y Z (X * Y * Z) p) a b c)) [some ⟨a3s (fl Y Z (X * Y * Z) p), 74, false, false⟩] := by
  refine sound_intro (C := cx) Try.func119 rfl (by kernel_rfl) fun hcl => ?_
  have hsz := size_le hX hY hZ
  have hlen := fl_length Y Z (X * Y * Z) p
  refine cSeq ?_
  refine cReg ?_
  refine segEnd [0, 1, 2, 3, 4] (T1 := (mkT 20 [(0, .agg #[vN X, vN Y, vN Z, vS 0 ((fl Y Z (X * Y * Z) p).length)]), (1, .agg #[vI a, vI b, vI c]), (2, vP 1 0), (3, vP 2 0), (4, .bool false)])) (H1 := [some ⟨a3s (fl Y Z (X * Y * Z) p), 74, false, false⟩, rB [vN X, vN Y, vN Z, vS 0 ((fl Y Z (X * Y * Z) p).length)] 40, rB [vI a, vI b, vI c] 74]) (by kernel_rfl) ?_
  refine kSeq ?_
  refine cSeq ?_
  refine cSeq ?_
  refine cReg ?_
  refine segEnd [0, 1, 2, 3, 4, 5] (T1 := (mkT 20 [(0, .agg #[vN X, vN Y, vN Z, vS 0 ((fl Y Z (X * Y * Z) p).length)]), (1, .agg #[vI a, vI b, vI c]), (2, vP 1 0), (3, vP 2 0), (4, .bool false), (5, vI 0)])) (H1 := [some ⟨a3s (fl Y Z (X * Y * Z) p), 74, false, false⟩, rB [vN X, vN Y, vN Z, vS 0 ((fl Y Z (X * Y * Z) p).length)] 40, rB [vI a, vI b, vI c] 74]) (by kernel_rfl) ?_
  refine kSeq ?_
  refine cBlk ?_
  -- loop
  refine cLoop (fun mm T H => ∃ i : Nat, (i ≤ (fl Y Z (X * Y * Z) p).length) ∧ (hasTo (fl Y Z (X * Y * Z) p) a b c i = false) ∧ mm = (fl Y Z (X * Y * Z) p).length - i ∧ T = (mkT 20 [(2, vP 1 0), (3, vP 2 0), (4, .bool false), (5, vN i)]) ∧ H = [some ⟨a3s (fl Y Z (X * Y * Z) p), 74, false, false⟩, rB [vN X, vN Y, vN Z, vS 0 ((fl Y Z (X * Y * Z) p).length)] 40, rB [vI a, vI b, vI c] 74]) ((fl Y Z (X * Y * Z) p).length - 0) (mkT 20 [(2, vP 1 0), (3, vP 2 0), (4, .bool false), (5, vI 0)]) [some ⟨a3s (fl Y Z (X * Y * Z) p), 74, false, false⟩, rB [vN X, vN Y, vN Z, vS 0 ((fl Y Z (X * Y * Z) p).length)] 40, rB [vI a, vI b, vI c] 74] (wkSame [2, 3, 4, 5] (by kernel_rfl)) ?_ ?_
  · exact ⟨0, (Nat.zero_le _), (rfl), rfl, rfl, rfl⟩
  · rintro _ _ _ ⟨i, hi, ho, rfl, rfl, rfl⟩
    refine cSeq ?_
    refine cSeq ?_
    refine cReg ?_
    refine segEnd [2, 3, 4, 5, 10] (T1 := (mkT 20 [(2, vP 1 0), (3, vP 2 0), (4, .bool false), (5, vN i), (10, .bool (decide (((i : Nat) : Int) < (((fl Y Z (X * Y * Z) p).length : Nat) : Int))))])) (H1 := [some ⟨a3s (fl Y Z (X * Y * Z) p), 74, false, false⟩, rB [vN X, vN Y, vN Z, vS 0 ((fl Y Z (X * Y * Z) p).length)] 40, rB [vI a, vI b, vI c] 74]) (by kernel_rfl) ?_
    refine kSeq ?_
    cases h1 : (decide (((i : Nat) : Int) < (((fl Y Z (X * Y * Z) p).length : Nat) : Int)) : Bool)
    ·
      have h1k := h1
      (try simp only [Bool.not_eq_true', Bool.not_eq_false', decide_eq_true_eq, decide_eq_false_iff_not, beq_iff_eq, bne_iff_ne, beq_eq_false_iff_ne, bne_eq_false_iff_eq, ne_eq, Decidable.not_not, Bool.and_eq_true, Bool.and_eq_false_imp, Bool.or_eq_true, Bool.or_eq_false_iff, Bool.not_eq_true, Int.not_lt, Int.not_le, ge_iff_le, gt_iff_lt] at h1)
      refine cFalse (by kernel_rfl) ?_
      refine cExit ?_
      refine kSeqE ?_
      refine kLoopE ?_
      refine kBlkHit ?_
      refine kSeq ?_
      refine cSeq ?_
      refine cReg ?_
      refine segEnd [2, 3, 4, 5, 10] (T1 := (mkT 20 [(2, vP 1 0), (3, vP 2 0), (4, .bool false), (5, vN i), (10, .bool false)])) (H1 := [some ⟨a3s (fl Y Z (X * Y * Z) p), 74, false, false⟩, rB [vN X, vN Y, vN Z, vS 0 ((fl Y Z (X * Y * Z) p).length)] 40, rB [vI a, vI b, vI c] 74]) (by kernel_rfl) ?_
      refine kSeq ?_
      refine cRet ?_
      exact endQ (Or.inr rfl) (l := [.bool false]) [rB [vN X, vN Y, vN Z, vS 0 ((fl Y Z (X * Y * Z) p).length)] 40, rB [vI a, vI b, vI c] 74] (by kernel_rfl) (congrArg Value.bool (by first | exact (hasL_of (n := i) (by omega) (by assumption)).symm | (have hend : i = (fl Y Z (X * Y * Z) p).length := (by omega); rw [← hasTo_all, ← hend, ho]))) rfl rfl hcl rfl
    ·
      have h1k := h1
      (try simp only [Bool.not_eq_true', Bool.not_eq_false', decide_eq_true_eq, decide_eq_false_iff_not, beq_iff_eq, bne_iff_ne, beq_eq_false_iff_ne, bne_eq_false_iff_eq, ne_eq, Decidable.not_not, Bool.and_eq_true, Bool.and_eq_false_imp, Bool.or_eq_true, Bool.or_eq_false_iff, Bool.not_eq_true, Int.not_lt, Int.not_le, ge_iff_le, gt_iff_lt] at h1)
      refine cTrue (by kernel_rfl) ?_
      refine cSkip ?_
      refine kSeq ?_
      refine cSeq ?_
      refine cBlk ?_
      refine cSeq ?_
      refine cRegD (by kernel_rfl) ?_
      refine segD 3 (T1 := (mkT 20 [(2, vP 1 0), (3, vP 2 0), (4, .bool false), (5, vN i), (10, .bool true), (13, vP 1 3), (14, vS 0 ((fl Y Z (X * Y * Z) p).length)), (15, vN i)])) (H1 := [some ⟨a3s (fl Y Z (X * Y * Z) p), 74, false, false⟩, rB [vN X, vN Y, vN Z, vS 0 ((fl Y Z (X * Y * Z) p).length)] 40, rB [vI a, vI b, vI c] 74]) (by kernel_rfl) ?_
      refine rOpD (v := vP 0 (i * 3)) (H' := [some ⟨a3s (fl Y Z (X * Y * Z) p), 74, false, false⟩, rB [vN X, vN Y, vN Z, vS 0 ((fl Y Z (X * Y * Z) p).length)] 40, rB [vI a, vI b, vI c] 74]) (by kernel_rfl) (eIdxS (ad := ⟨0, 0, none⟩) (n := ((fl Y Z (X * Y * Z) p).length)) (m := 0) (k := .i64) (c := ((i : Nat) : Int)) (j := i) (o := i * 3) (by kernel_rfl) (by kernel_rfl) ti31 ti74 (rfl) (by omega) (by exact Nat.zero_add _)) (by rfl) ?_
      refine rOpD (v := .agg #[vI (((fl Y Z (X * Y * Z) p).getD i default).x), vI (((fl Y Z (X * Y * Z) p).getD i default).y), vI (((fl Y Z (X * Y * Z) p).getD i default).z)]) (H' := [some ⟨a3s (fl Y Z (X * Y * Z) p), 74, false, false⟩, rB [vN X, vN Y, vN Z, vS 0 ((fl Y Z (X * Y * Z) p).length)] 40, rB [vI a, vI b, vI c] 74]) (by kernel_rfl) (eLdA3 (ad := ⟨0, i * 3, none⟩) (r := ⟨a3s (fl Y Z (X * Y * Z) p), 74, false, false⟩) (L := (fl Y Z (X * Y * Z) p)) (j := i) (by kernel_rfl) (by kernel_rfl) rfl (by first | rfl | omega) (by omega) ti74) (by rfl) ?_
      refine segEndD [2, 3, 4, 5, 10, 19] (T1 := (mkT 20 [(2, vP 1 0), (3, vP 2 0), (4, .bool false), (5, vN i), (10, .bool true), (19, .bool ((((fl Y Z (X * Y * Z) p).getD i default).x == a) && ((((fl Y Z (X * Y * Z) p).getD i default).y == b) && ((((fl Y Z (X * Y * Z) p).getD i default).z == c) && true))))])) (H1 := [some ⟨a3s (fl Y Z (X * Y * Z) p), 74, false, false⟩, rB [vN X, vN Y, vN Z, vS 0 ((fl Y Z (X * Y * Z) p).length)] 40, rB [vI a, vI b, vI c] 74]) (by kernel_rfl) ?_
      refine kSeq ?_
      cases h2 : (((((fl Y Z (X * Y * Z) p).getD i default).x == a) && ((((fl Y Z (X * Y * Z) p).getD i default).y == b) && ((((fl Y Z (X * Y * Z) p).getD i default).z == c) && true))) : Bool)
      ·
        have h2k := h2
        (try simp only [Bool.not_eq_true', Bool.not_eq_false', decide_eq_true_eq, decide_eq_false_iff_not, beq_iff_eq, bne_iff_ne, beq_eq_false_iff_ne, bne_eq_false_iff_eq, ne_eq, Decidable.not_not, Bool.and_eq_true, Bool.and_eq_false_imp, Bool.or_eq_true, Bool.or_eq_false_iff, Bool.not_eq_true, Int.not_lt, Int.not_le, ge_iff_le, gt_iff_lt] at h2)
        refine cFalse (by kernel_rfl) ?_
        refine cSkip ?_
        refine kBlk ?_
        refine kSeq ?_
        refine cReg ?_
        refine seg 1 (T1 := (mkT 20 [(2, vP 1 0), (3, vP 2 0), (4, .bool false), (5, vN i), (10, .bool true), (11, vN i), (19, .bool false)])) (H1 := [some ⟨a3s (fl Y Z (X * Y * Z) p), 74, false, false⟩, rB [vN X, vN Y, vN Z, vS 0 ((fl Y Z (X * Y * Z) p).length)] 40, rB [vI a, vI b, vI c] 74]) (by kernel_rfl) ?_
        refine rOp (v := vN (i + 1)) (H' := [some ⟨a3s (fl Y Z (X * Y * Z) p), 74, false, false⟩, rB [vN X, vN Y, vN Z, vS 0 ((fl Y Z (X * Y * Z) p).length)] 40, rB [vI a, vI b, vI c] 74]) (by kernel_rfl) (eAdd (k := .i64) (a := ((i : Nat) : Int)) (b := 1) (c := ((i + 1 : Nat) : Int)) (by kernel_rfl) (by kernel_rfl) (wr64 (by omega) (by omega) (by omega))) ?_
        refine segEnd [2, 3, 4, 5, 10, 19] (T1 := (mkT 20 [(2, vP 1 0), (3, vP 2 0), (4, .bool false), (5, vN (i + 1)), (10, .bool true), (19, .bool false)])) (H1 := [some ⟨a3s (fl Y Z (X * Y * Z) p), 74, false, false⟩, rB [vN X, vN Y, vN Z, vS 0 ((fl Y Z (X * Y * Z) p).length)] 40, rB [vI a, vI b, vI c] 74]) (by kernel_rfl) ?_
        exact kLoop ((fl Y Z (X * Y * Z) p).length - (i + 1)) (mkT 20 [(2, vP 1 0), (3, vP 2 0), (4, .bool false), (5, vN (i + 1))]) [some ⟨a3s (fl Y Z (X * Y * Z) p), 74, false, false⟩, rB [vN X, vN Y, vN Z, vS 0 ((fl Y Z (X * Y * Z) p).length)] 40, rB [vI a, vI b, vI c] 74] (by omega) (wkSame [2, 3, 4, 5] (by kernel_rfl)) ⟨(i + 1), (by omega), (by rw [hasTo_succ (by omega), ho]; first | assumption | (rw [Bool.false_or]; assumption)), rfl, rfl, rfl⟩
      ·
        have h2k := h2
        (try simp only [Bool.not_eq_true', Bool.not_eq_false', decide_eq_true_eq, decide_eq_false_iff_not, beq_iff_eq, bne_iff_ne, beq_eq_false_iff_ne, bne_eq_false_iff_eq, ne_eq, Decidable.not_not, Bool.and_eq_true, Bool.and_eq_false_imp, Bool.or_eq_true, Bool.or_eq_false_iff, Bool.not_eq_true, Int.not_lt, Int.not_le, ge_iff_le, gt_iff_lt] at h2)
        refine cTrue (by kernel_rfl) ?_
        refine cSeq ?_
        refine cReg ?_
        refine segEnd [2, 3, 4, 5, 10, 19] (T1 := (mkT 20 [(2, vP 1 0), (3, vP 2 0), (4, .bool true), (5, vN i), (10, .bool true), (19, .bool true)])) (H1 := [some ⟨a3s (fl Y Z (X * Y * Z) p), 74, false, false⟩, rB [vN X, vN Y, vN Z, vS 0 ((fl Y Z (X * Y * Z) p).length)] 40, rB [vI a, vI b, vI c] 74]) (by kernel_rfl) ?_
        refine kSeq ?_
        refine cRet ?_
        refine kBlkR ?_
        refine kSeqR ?_
        refine kLoopR ?_
        refine kBlkR ?_
        refine kSeqR ?_
        exact endQ (Or.inr rfl) (l := [.bool true]) [rB [vN X, vN Y, vN Z, vS 0 ((fl Y Z (X * Y * Z) p).length)] 40, rB [vI a, vI b, vI c] 74] (by kernel_rfl) (congrArg Value.bool (by first | exact (hasL_of (n := i) (by omega) (by assumption)).symm | (have hend : i = (fl Y Z (X * Y * Z) p).length := (by omega); rw [← hasTo_all, ← hend, ho]))) rfl rfl hcl rfl

set_option maxRecDepth 100000 in
set_option maxHeartbeats 4000000 in
theorem hasCube_ok (X Y Z : Nat) (hX0 : 1 ≤ X) (hX : X ≤ 4) (hY0 : 1 ≤ Y) (hY : Y ≤ 4) (hZ0 : 1 ≤ Z) (hZ : Z ≤ 4) (p : Nat → Bool) (a b c : Int) (hh : has3 (X : Int) (Y : Int) (Z : Int) a b c = true) : Sound Try.prog 136 [.agg #[vN X, vN Y, vN Z, vS 0 ((fl Y Z (X * Y * Z) p).length)], .agg #[vI a, vI b, vI c]] [some ⟨a3s (fl Y Z (X * Y * Z) p), 74, false, false⟩] (.bool (hasL (fl Y Z (X * Y * Z) p) a b c)) [some ⟨a3s (fl Y Z (X * Y * Z) p), 74, false, false⟩] := by
  refine sound_intro (C := cx) Try.func136 rfl (by kernel_rfl) fun hcl => ?_
  have hsz := size_le hX hY hZ
  have hlen := fl_length Y Z (X * Y * Z) p
  have hidx := Nat.lt_of_lt_of_le (idx_lt (c := ⟨a, b, c⟩) hh) hsz.2
  have hsl := setOf_fl_lt hY0 hZ0 hsz.2 p
  refine cSeq ?_
  refine cReg ?_
  refine segEnd [0, 1, 2, 3, 4] (T1 := (mkT 12 [(0, .agg #[vN X, vN Y, vN Z, vS 0 ((fl Y Z (X * Y * Z) p).length)]), (1, .agg #[vI a, vI b, vI c]), (2, vP 1 0), (3, vP 2 0), (4, .bool false)])) (H1 := [some ⟨a3s (fl Y Z (X * Y * Z) p), 74, false, false⟩, rB [vN X, vN Y, vN Z, vS 0 ((fl Y Z (X * Y * Z) p).length)] 40, rB [vI a, vI b, vI c] 74]) (by kernel_rfl) ?_
  refine kSeq ?_
  refine cSeq ?_
  refine cRegD (by kernel_rfl) ?_
  refine segD 1 (T1 := (mkT 12 [(0, .agg #[vN X, vN Y, vN Z, vS 0 ((fl Y Z (X * Y * Z) p).length)]), (1, .agg #[vI a, vI b, vI c]), (2, vP 1 0), (3, vP 2 0), (4, .bool false), (5, .agg #[vN X, vN Y, vN Z, vS 0 ((fl Y Z (X * Y * Z) p).length)])])) (H1 := [some ⟨a3s (fl Y Z (X * Y * Z) p), 74, false, false⟩, rB [vN X, vN Y, vN Z, vS 0 ((fl Y Z (X * Y * Z) p).length)] 40, rB [vI a, vI b, vI c] 74]) (by kernel_rfl) ?_
  refine rCallQ (v := vU (setOf Y Z (fl Y Z (X * Y * Z) p))) (args := [.agg #[vN X, vN Y, vN Z, vS 0 ((fl Y Z (X * Y * Z) p).length)]]) (by kernel_rfl) rfl (by kernel_rfl) (by kernel_rfl) (by kernel_rfl) (Quiet.reads1 (r := ⟨a3s (fl Y Z (X * Y * Z) p), 74, false, false⟩) 0 false (cubes_ok X Y Z (by omega) (by omega) (by omega) (by omega) (by omega) (by omega) p) (flatA3 _ _ _ _) rfl rfl rfl (by first | rfl | simp [mpV, mpA, mpS, mpP, renId, shift]) rfl rfl) ?_
  refine segD 1 (T1 := (mkT 12 [(0, .agg #[vN X, vN Y, vN Z, vS 0 ((fl Y Z (X * Y * Z) p).length)]), (1, .agg #[vI a, vI b, vI c]), (2, vP 1 0), (3, vP 2 0), (4, .bool false), (5, .agg #[vN X, vN Y, vN Z, vS 0 ((fl Y Z (X * Y * Z) p).length)]), (6, vU (setOf Y Z (fl Y Z (X * Y * Z) p))), (7, .agg #[vN X, vN Y, vN Z, vS 0 ((fl Y Z (X * Y * Z) p).length)])])) (H1 := [some ⟨a3s (fl Y Z (X * Y * Z) p), 74, false, false⟩, rB [vN X, vN Y, vN Z, vS 0 ((fl Y Z (X * Y * Z) p).length)] 40, rB [vI a, vI b, vI c] 74]) (by kernel_rfl) ?_
  refine rCallQ (v := .agg #[vN X, vN Y, vN Z]) (args := [.agg #[vN X, vN Y, vN Z, vS 0 ((fl Y Z (X * Y * Z) p).length)]]) (by kernel_rfl) rfl (by kernel_rfl) (by kernel_rfl) (by kernel_rfl) (Quiet.reads1 (r := ⟨a3s (fl Y Z (X * Y * Z) p), 74, false, false⟩) 0 false (box_ok ((X : Nat) : Int) ((Y : Nat) : Int) ((Z : Nat) : Int) (fl Y Z (X * Y * Z) p)) (flatA3 _ _ _ _) rfl rfl rfl (by first | rfl | simp [mpV, mpA, mpS, mpP, renId, shift]) rfl rfl) ?_
  refine segD 1 (T1 := (mkT 12 [(0, .agg #[vN X, vN Y, vN Z, vS 0 ((fl Y Z (X * Y * Z) p).length)]), (1, .agg #[vI a, vI b, vI c]), (2, vP 1 0), (3, vP 2 0), (4, .bool false), (5, .agg #[vN X, vN Y, vN Z, vS 0 ((fl Y Z (X * Y * Z) p).length)]), (6, vU (setOf Y Z (fl Y Z (X * Y * Z) p))), (7, .agg #[vN X, vN Y, vN Z, vS 0 ((fl Y Z (X * Y * Z) p).length)]), (8, .agg #[vN X, vN Y, vN Z]), (9, .agg #[vI a, vI b, vI c])])) (H1 := [some ⟨a3s (fl Y Z (X * Y * Z) p), 74, false, false⟩, rB [vN X, vN Y, vN Z, vS 0 ((fl Y Z (X * Y * Z) p).length)] 40, rB [vI a, vI b, vI c] 74]) (by kernel_rfl) ?_
  refine rCallQ (v := vN (idxN Y Z (A3.mk a b c))) (args := [.agg #[vN X, vN Y, vN Z], .agg #[vI a, vI b, vI c]]) (by kernel_rfl) rfl (by kernel_rfl) (by kernel_rfl) (by kernel_rfl) (Quiet.flat (index_ok X Y Z (by omega) (by omega) (by omega) a b c (by assumption)) rfl rfl) ?_
  refine rCallQ (v := .bool ((setOf Y Z (fl Y Z (X * Y * Z) p)).testBit (idxN Y Z (A3.mk a b c)))) (args := [vU (setOf Y Z (fl Y Z (X * Y * Z) p)), vN (idxN Y Z (A3.mk a b c))]) (by kernel_rfl) rfl (by kernel_rfl) (by kernel_rfl) (by kernel_rfl) (Quiet.flat (setHas_ok (setOf Y Z (fl Y Z (X * Y * Z) p)) (idxN Y Z (A3.mk a b c)) (by first | omega | exact full_lt (by omega)) (by omega)) rfl rfl) ?_
  refine segEndD [0, 1, 2, 3, 4] (T1 := (mkT 12 [(0, .agg #[vN X, vN Y, vN Z, vS 0 ((fl Y Z (X * Y * Z) p).length)]), (1, .agg #[vI a, vI b, vI c]), (2, vP 1 0), (3, vP 2 0), (4, .bool ((setOf Y Z (fl Y Z (X * Y * Z) p)).testBit (idxN Y Z (A3.mk a b c))))])) (H1 := [some ⟨a3s (fl Y Z (X * Y * Z) p), 74, false, false⟩, rB [vN X, vN Y, vN Z, vS 0 ((fl Y Z (X * Y * Z) p).length)] 40, rB [vI a, vI b, vI c] 74]) (by kernel_rfl) ?_
  refine kSeq ?_
  refine cRet ?_
  exact endQ (Or.inr rfl) (l := [.bool ((setOf Y Z (fl Y Z (X * Y * Z) p)).testBit (idxN Y Z (A3.mk a b c)))]) [rB [vN X, vN Y, vN Z, vS 0 ((fl Y Z (X * Y * Z) p).length)] 40, rB [vI a, vI b, vI c] 74] (by kernel_rfl) (congrArg Value.bool (by rw [setOf_fl hY0 hZ0, hasL_fl hY0 hZ0 hh]; simp [idx_lt (c := ⟨a, b, c⟩) hh])) rfl rfl hcl rfl
end Go.Proofs.Ytbheeobnghlckaa
