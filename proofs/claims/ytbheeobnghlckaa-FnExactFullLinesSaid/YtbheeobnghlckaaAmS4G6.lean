/- Walks. No condition. -/
import Derived.Test.YtbheeobnghlckaaAmS4G5
import Derived.Test.YtbheeobnghlckaaAmH2
set_option linter.unusedVariables false
set_option linter.unusedSimpArgs false
namespace Go.Proofs.Ytbheeobnghlckaa
open Go.Am Go.RowKit
set_option maxRecDepth 100000 in
set_option maxHeartbeats 4000000 in
theorem index_nat (X Y Z a b c : Nat) (hY : Y ≤ 4) (hZ : Z ≤ 4) (ha : a ≤ 4) (hb : b ≤ 4) (hc : c ≤ 4) : Sound Try.prog 134 [.agg #[vN X, vN Y, vN Z], .agg #[vN a, vN b, vN c]] [] (vN ((a * Y + b) * Z + c)) [] := by
  refine sound_intro (C := cx) Try.func134 rfl (by kernel_rfl) fun hcl => ?_
  have h1 : a * Y ≤ 16 := Nat.mul_le_mul ha hY
  have h2 : (a * Y + b) * Z ≤ 20 * 4 := Nat.mul_le_mul (by omega) hZ
  refine cSeq ?_
  refine cReg ?_
  refine segEnd [0, 1, 2, 3, 4] (T1 := (mkT 19 [(0, .agg #[vN X, vN Y, vN Z]), (1, .agg #[vN a, vN b, vN c]), (2, vP 0 0), (3, vP 1 0), (4, vI 0)])) (H1 := [rB [vN X, vN Y, vN Z] 75, rB [vN a, vN b, vN c] 74]) (by kernel_rfl) ?_
  refine kSeq ?_
  refine cSeq ?_
  refine cReg ?_
  refine seg 4 (T1 := (mkT 19 [(0, .agg #[vN X, vN Y, vN Z]), (1, .agg #[vN a, vN b, vN c]), (2, vP 0 0), (3, vP 1 0), (4, vI 0), (5, vP 1 0), (6, vN a), (7, vP 0 1), (8, vN Y)])) (H1 := [rB [vN X, vN Y, vN Z] 75, rB [vN a, vN b, vN c] 74]) (by kernel_rfl) ?_
  refine rOp (v := vN (a * Y)) (H' := [rB [vN X, vN Y, vN Z] 75, rB [vN a, vN b, vN c] 74]) (by kernel_rfl) (eMul (k := .i64) (a := ((a : Nat) : Int)) (b := ((Y : Nat) : Int)) (c := ((a * Y : Nat) : Int)) (by kernel_rfl) (by kernel_rfl) (nMul (by omega))) ?_
  refine seg 2 (T1 := (mkT 19 [(0, .agg #[vN X, vN Y, vN Z]), (1, .agg #[vN a, vN b, vN c]), (2, vP 0 0), (3, vP 1 0), (4, vI 0), (5, vP 1 0), (6, vN a), (7, vP 0 1), (8, vN Y), (9, vN (a * Y)), (10, vP 1 1), (11, vN b)])) (H1 := [rB [vN X, vN Y, vN Z] 75, rB [vN a, vN b, vN c] 74]) (by kernel_rfl) ?_
  refine rOp (v := vN ((a * Y) + b)) (H' := [rB [vN X, vN Y, vN Z] 75, rB [vN a, vN b, vN c] 74]) (by kernel_rfl) (eAdd (k := .i64) (a := ((a * Y : Nat) : Int)) (b := ((b : Nat) : Int)) (c := (((a * Y) + b : Nat) : Int)) (by kernel_rfl) (by kernel_rfl) (wr64 (by omega) (by omega) (by omega))) ?_
  refine seg 2 (T1 := (mkT 19 [(0, .agg #[vN X, vN Y, vN Z]), (1, .agg #[vN a, vN b, vN c]), (2, vP 0 0), (3, vP 1 0), (4, vI 0), (5, vP 1 0), (6, vN a), (7, vP 0 1), (8, vN Y), (9, vN (a * Y)), (10, vP 1 1), (11, vN b), (12, vN ((a * Y) + b)), (13, vP 0 2), (14, vN Z)])) (H1 := [rB [vN X, vN Y, vN Z] 75, rB [vN a, vN b, vN c] 74]) (by kernel_rfl) ?_
  refine rOp (v := vN (((a * Y) + b) * Z)) (H' := [rB [vN X, vN Y, vN Z] 75, rB [vN a, vN b, vN c] 74]) (by kernel_rfl) (eMul (k := .i64) (a := (((a * Y) + b : Nat) : Int)) (b := ((Z : Nat) : Int)) (c := ((((a * Y) + b) * Z : Nat) : Int)) (by kernel_rfl) (by kernel_rfl) (nMul (by omega))) ?_
  refine seg 2 (T1 := (mkT 19 [(0, .agg #[vN X, vN Y, vN Z]), (1, .agg #[vN a, vN b, vN c]), (2, vP 0 0), (3, vP 1 0), (4, vI 0), (5, vP 1 0), (6, vN a), (7, vP 0 1), (8, vN Y), (9, vN (a * Y)), (10, vP 1 1), (11, vN b), (12, vN ((a * Y) + b)), (13, vP 0 2), (14, vN Z), (15, vN (((a * Y) + b) * Z)), (16, vP 1 2), (17, vN c)])) (H1 := [rB [vN X, vN Y, vN Z] 75, rB [vN a, vN b, vN c] 74]) (by kernel_rfl) ?_
  refine rOp (v := vN ((((a * Y) + b) * Z) + c)) (H' := [rB [vN X, vN Y, vN Z] 75, rB [vN a, vN b, vN c] 74]) (by kernel_rfl) (eAdd (k := .i64) (a := ((((a * Y) + b) * Z : Nat) : Int)) (b := ((c : Nat) : Int)) (c := (((((a * Y) + b) * Z) + c : Nat) : Int)) (by kernel_rfl) (by kernel_rfl) (wr64 (by omega) (by omega) (by omega))) ?_
  refine segEnd [0, 1, 2, 3, 4] (T1 := (mkT 19 [(0, .agg #[vN X, vN Y, vN Z]), (1, .agg #[vN a, vN b, vN c]), (2, vP 0 0), (3, vP 1 0), (4, vN ((((a * Y) + b) * Z) + c))])) (H1 := [rB [vN X, vN Y, vN Z] 75, rB [vN a, vN b, vN c] 74]) (by kernel_rfl) ?_
  refine kSeq ?_
  refine cRet ?_
  exact endQ (Or.inr rfl) (l := [vN ((((a * Y) + b) * Z) + c)]) [rB [vN X, vN Y, vN Z] 75, rB [vN a, vN b, vN c] 74] (by kernel_rfl) (rfl) rfl rfl hcl rfl

theorem index_ok (X Y Z : Nat) (hX : X ≤ 4) (hY : Y ≤ 4) (hZ : Z ≤ 4) (a b c : Int) (hh : has3 (X : Int) (Y : Int) (Z : Int) a b c = true) : Sound Try.prog 134 [.agg #[vN X, vN Y, vN Z], .agg #[vI a, vI b, vI c]] [] (.int .i64 ((idxN Y Z ⟨a, b, c⟩ : Nat) : Int)) [] := by
  obtain ⟨h1, h2, h3⟩ := (has3_iff (c := ⟨a, b, c⟩)).1 hh
  simp only at h1 h2 h3
  obtain ⟨a, rfl⟩ := Int.eq_ofNat_of_zero_le h1.1
  obtain ⟨b, rfl⟩ := Int.eq_ofNat_of_zero_le h2.1
  obtain ⟨c, rfl⟩ := Int.eq_ofNat_of_zero_le h3.1
  exact index_nat X Y Z a b c hY hZ (by omega) (by omega) (by omega)

set_option maxRecDepth 100000 in
set_option maxHeartbeats 4000000 in
theorem cubes_ok (X Y Z : Nat) (hX0 : 1 ≤ X) (hX : X ≤ 4) (hY0 : 1 ≤ Y) (hY : Y ≤ 4) (hZ0 : 1 ≤ Z) (hZ : Z ≤ 4) (p : Nat → Bool) : Sound Try.prog 118 [.agg #[vN X, vN Y, vN Z, vS 0 ((fl Y Z (X * Y * Z) p).length)]] [some ⟨a3s (fl Y Z (X * Y * Z) p), 74, false, false⟩] (vU (setOf Y Z (fl Y Z (X * Y * Z) p))) [some ⟨a3s (fl Y Z (X * Y * Z) p), 74, false, false⟩] := by
  refine sound_intro (C := cx) Try.func118 rfl (by kernel_rfl) fun hcl => ?_
  have hsz := size_le hX hY hZ
  have hlen := fl_length Y Z (X * Y * Z) p
  refine cSeq ?_
  refine cReg ?_
  refine segEnd [0, 1, 2] (T1 := (mkT 22 [(0, .agg #[vN X, vN Y, vN Z, vS 0 ((fl Y Z (X * Y * Z) p).length)]), (1, vP 1 0), (2, vU 0)])) (H1 := [some ⟨a3s (fl Y Z (X * Y * Z) p), 74, false, false⟩, rB [vN X, vN Y, vN Z, vS 0 ((fl Y Z (X * Y * Z) p).length)] 40]) (by kernel_rfl) ?_
  refine kSeq ?_
  refine cSeq ?_
  refine cReg ?_
  refine segEnd [0, 1, 2, 3] (T1 := (mkT 22 [(0, .agg #[vN X, vN Y, vN Z, vS 0 ((fl Y Z (X * Y * Z) p).length)]), (1, vP 1 0), (2, vU 0), (3, vU 0)])) (H1 := [some ⟨a3s (fl Y Z (X * Y * Z) p), 74, false, false⟩, rB [vN X, vN Y, vN Z, vS 0 ((fl Y Z (X * Y * Z) p).length)] 40]) (by kernel_rfl) ?_
  refine kSeq ?_
  refine cSeq ?_
  refine cSeq ?_
  refine cReg ?_
  refine segEnd [0, 1, 2, 3, 7, 8, 9] (T1 := (mkT 22 [(0, .agg #[vN X, vN Y, vN Z, vS 0 ((fl Y Z (X * Y * Z) p).length)]), (1, vP 1 0), (2, vU 0), (3, vU 0), (7, vS 0 ((fl Y Z (X * Y * Z) p).length)), (8, vN ((fl Y Z (X * Y * Z) p).length)), (9, vI 0)])) (H1 := [some ⟨a3s (fl Y Z (X * Y * Z) p), 74, false, false⟩, rB [vN X, vN Y, vN Z, vS 0 ((fl Y Z (X * Y * Z) p).length)] 40]) (by kernel_rfl) ?_
  refine kSeq ?_
  refine cBlk ?_
  -- loop
  refine cLoop (fun mm T H => ∃ i : Nat, ∃ s : Nat, (i ≤ (fl Y Z (X * Y * Z) p).length) ∧ (s = setOf Y Z ((fl Y Z (X * Y * Z) p).take i)) ∧ mm = (fl Y Z (X * Y * Z) p).length - i ∧ T = (mkT 22 [(1, vP 1 0), (2, vU 0), (3, vU s), (7, vS 0 ((fl Y Z (X * Y * Z) p).length)), (8, vN ((fl Y Z (X * Y * Z) p).length)), (9, vN i)]) ∧ H = [some ⟨a3s (fl Y Z (X * Y * Z) p), 74, false, false⟩, rB [vN X, vN Y, vN Z, vS 0 ((fl Y Z (X * Y * Z) p).length)] 40]) ((fl Y Z (X * Y * Z) p).length - 0) (mkT 22 [(1, vP 1 0), (2, vU 0), (3, vU 0), (7, vS 0 ((fl Y Z (X * Y * Z) p).length)), (8, vN ((fl Y Z (X * Y * Z) p).length)), (9, vI 0)]) [some ⟨a3s (fl Y Z (X * Y * Z) p), 74, false, false⟩, rB [vN X, vN Y, vN Z, vS 0 ((fl Y Z (X * Y * Z) p).length)] 40] (wkSame [1, 2, 3, 7, 8, 9] (by kernel_rfl)) ?_ ?_
  · exact ⟨0, 0, (Nat.zero_le _), (rfl), rfl, rfl, rfl⟩
  · rintro _ _ _ ⟨i, s, hi, hs, rfl, rfl, rfl⟩
    refine cSeq ?_
    refine cReg ?_
    refine segEnd [1, 2, 3, 7, 8, 9, 10] (T1 := (mkT 22 [(1, vP 1 0), (2, vU 0), (3, vU s), (7, vS 0 ((fl Y Z (X * Y * Z) p).length)), (8, vN ((fl Y Z (X * Y * Z) p).length)), (9, vN i), (10, .bool (decide (((i : Nat) : Int) < (((fl Y Z (X * Y * Z) p).length : Nat) : Int))))])) (H1 := [some ⟨a3s (fl Y Z (X * Y * Z) p), 74, false, false⟩, rB [vN X, vN Y, vN Z, vS 0 ((fl Y Z (X * Y * Z) p).length)] 40]) (by kernel_rfl) ?_
    refine kSeq ?_
    refine cSeq ?_
    cases h1 : (decide (((i : Nat) : Int) < (((fl Y Z (X * Y * Z) p).length : Nat) : Int)) : Bool)
    ·
      (try simp only [Bool.not_eq_true', Bool.not_eq_false', decide_eq_true_eq, decide_eq_false_iff_not, beq_iff_eq, bne_iff_ne, beq_eq_false_iff_ne, bne_eq_false_iff_eq, ne_eq, Decidable.not_not, Bool.and_eq_true, Bool.and_eq_false_imp, Bool.or_eq_true, Bool.or_eq_false_iff, Bool.not_eq_true, Int.not_lt, Int.not_le, ge_iff_le, gt_iff_lt] at h1)
      refine cFalse (by kernel_rfl) ?_
      refine cExit ?_
      refine kSeqE ?_
      refine kLoopE ?_
      refine kBlkHit ?_
      refine kSeq ?_
      refine cSeq ?_
      refine cReg ?_
      refine segEnd [1, 2, 3, 7, 8, 9, 10] (T1 := (mkT 22 [(1, vP 1 0), (2, vU s), (3, vU s), (7, vS 0 ((fl Y Z (X * Y * Z) p).length)), (8, vN ((fl Y Z (X * Y * Z) p).length)), (9, vN i), (10, .bool false)])) (H1 := [some ⟨a3s (fl Y Z (X * Y * Z) p), 74, false, false⟩, rB [vN X, vN Y, vN Z, vS 0 ((fl Y Z (X * Y * Z) p).length)] 40]) (by kernel_rfl) ?_
      refine kSeq ?_
      refine cRet ?_
      have hend : i = (fl Y Z (X * Y * Z) p).length := (by omega)
      have hfin : s = setOf Y Z (fl Y Z (X * Y * Z) p) := (by rw [hs, hend, List.take_length])
      subst hfin
      exact endQ (Or.inr rfl) (l := [vU (setOf Y Z (fl Y Z (X * Y * Z) p))]) [rB [vN X, vN Y, vN Z, vS 0 ((fl Y Z (X * Y * Z) p).length)] 40] (by kernel_rfl) (rfl) rfl rfl hcl rfl
    ·
      (try simp only [Bool.not_eq_true', Bool.not_eq_false', decide_eq_true_eq, decide_eq_false_iff_not, beq_iff_eq, bne_iff_ne, beq_eq_false_iff_ne, bne_eq_false_iff_eq, ne_eq, Decidable.not_not, Bool.and_eq_true, Bool.and_eq_false_imp, Bool.or_eq_true, Bool.or_eq_false_iff, Bool.not_eq_true, Int.not_lt, Int.not_le, ge_iff_le, gt_iff_lt] at h1)
      have hhas := fl_has (X := X) (i := i) (p := p) hY0 hZ0 (by omega); have hidx := Nat.lt_of_lt_of_le (idx_lt hhas) hsz.2; have hsl : s < 18446744073709551616 := (by rw [hs]; exact take_lt hY0 hZ0 hsz.2 p i)
      refine cTrue (by kernel_rfl) ?_
      refine cSkip ?_
      refine kSeq ?_
      refine cSeq ?_
      refine cBlk ?_
      refine cSeq ?_
      refine cReg ?_
      refine rOp (v := vP 0 (i * 3)) (H' := [some ⟨a3s (fl Y Z (X * Y * Z) p), 74, false, false⟩, rB [vN X, vN Y, vN Z, vS 0 ((fl Y Z (X * Y * Z) p).length)] 40]) (by kernel_rfl) (eIdxS (ad := ⟨0, 0, none⟩) (n := ((fl Y Z (X * Y * Z) p).length)) (m := 0) (k := .i64) (c := ((i : Nat) : Int)) (j := i) (o := i * 3) (by kernel_rfl) (by kernel_rfl) ti31 ti74 (rfl) (by omega) (by exact Nat.zero_add _)) ?_
      refine rOp (v := .agg #[vI (((fl Y Z (X * Y * Z) p).getD i default).x), vI (((fl Y Z (X * Y * Z) p).getD i default).y), vI (((fl Y Z (X * Y * Z) p).getD i default).z)]) (H' := [some ⟨a3s (fl Y Z (X * Y * Z) p), 74, false, false⟩, rB [vN X, vN Y, vN Z, vS 0 ((fl Y Z (X * Y * Z) p).length)] 40]) (by kernel_rfl) (eLdA3 (ad := ⟨0, i * 3, none⟩) (r := ⟨a3s (fl Y Z (X * Y * Z) p), 74, false, false⟩) (L := (fl Y Z (X * Y * Z) p)) (j := i) (by kernel_rfl) (by kernel_rfl) rfl (by first | rfl | omega) (by omega) ti74) ?_
      refine segEnd [1, 2, 3, 5, 7, 8, 9, 10] (T1 := (mkT 22 [(1, vP 1 0), (2, vU 0), (3, vU s), (5, vP 2 0), (7, vS 0 ((fl Y Z (X * Y * Z) p).length)), (8, vN ((fl Y Z (X * Y * Z) p).length)), (9, vN i), (10, .bool true)])) (H1 := [some ⟨a3s (fl Y Z (X * Y * Z) p), 74, false, false⟩, rB [vN X, vN Y, vN Z, vS 0 ((fl Y Z (X * Y * Z) p).length)] 40, rB [vI (((fl Y Z (X * Y * Z) p).getD i default).x), vI (((fl Y Z (X * Y * Z) p).getD i default).y), vI (((fl Y Z (X * Y * Z) p).getD i default).z)] 74]) (by kernel_rfl) ?_
      refine kSeq ?_
      refine cRegD (by kernel_rfl) ?_
      refine segD 2 (T1 := (mkT 22 [(1, vP 1 0), (2, vU 0), (3, vU s), (5, vP 2 0), (7, vS 0 ((fl Y Z (X * Y * Z) p).length)), (8, vN ((fl Y Z (X * Y * Z) p).length)), (9, vN i), (10, .bool true), (13, vU s), (14, .agg #[vN X, vN Y, vN Z, vS 0 ((fl Y Z (X * Y * Z) p).length)])])) (H1 := [some ⟨a3s (fl Y Z (X * Y * Z) p), 74, false, false⟩, rB [vN X, vN Y, vN Z, vS 0 ((fl Y Z (X * Y * Z) p).length)] 40, rB [vI (((fl Y Z (X * Y * Z) p).getD i default).x), vI (((fl Y Z (X * Y * Z) p).getD i default).y), vI (((fl Y Z (X * Y * Z) p).getD i default).z)] 74]) (by kernel_rfl) ?_
      refine rCallQ (v := .agg #[vN X, vN Y, vN Z]) (args := [.agg #[vN X, vN Y, vN Z, vS 0 ((fl Y Z (X * Y * Z) p).length)]]) (by kernel_rfl) rfl (by kernel_rfl) (by kernel_rfl) (by kernel_rfl) (Quiet.reads1 (r := ⟨a3s (fl Y Z (X * Y * Z) p), 74, false, false⟩) 0 false (box_ok ((X : Nat) : Int) ((Y : Nat) : Int) ((Z : Nat) : Int) (fl Y Z (X * Y * Z) p)) (flatA3 _ _ _ _) rfl rfl rfl (by first | rfl | simp [mpV, mpA, mpS, mpP, renId, shift]) rfl rfl) ?_
      refine segD 1 (T1 := (mkT 22 [(1, vP 1 0), (2, vU 0), (3, vU s), (5, vP 2 0), (7, vS 0 ((fl Y Z (X * Y * Z) p).length)), (8, vN ((fl Y Z (X * Y * Z) p).length)), (9, vN i), (10, .bool true), (13, vU s), (14, .agg #[vN X, vN Y, vN Z, vS 0 ((fl Y Z (X * Y * Z) p).length)]), (15, .agg #[vN X, vN Y, vN Z]), (16, .agg #[vI (((fl Y Z (X * Y * Z) p).getD i default).x), vI (((fl Y Z (X * Y * Z) p).getD i default).y), vI (((fl Y Z (X * Y * Z) p).getD i default).z)])])) (H1 := [some ⟨a3s (fl Y Z (X * Y * Z) p), 74, false, false⟩, rB [vN X, vN Y, vN Z, vS 0 ((fl Y Z (X * Y * Z) p).length)] 40, rB [vI (((fl Y Z (X * Y * Z) p).getD i default).x), vI (((fl Y Z (X * Y * Z) p).getD i default).y), vI (((fl Y Z (X * Y * Z) p).getD i default).z)] 74]) (by kernel_rfl) ?_
      refine rCallQ (v := vN (idxN Y Z ((fl Y Z (X * Y * Z) p).getD i default))) (args := [.agg #[vN X, vN Y, vN Z], .agg #[vI (((fl Y Z (X * Y * Z) p).getD i default).x), vI (((fl Y Z (X * Y * Z) p).getD i default).y), vI (((fl Y Z (X * Y * Z) p).getD i default).z)]]) (by kernel_rfl) rfl (by kernel_rfl) (by kernel_rfl) (by kernel_rfl) (Quiet.flat (index_ok X Y Z (by omega) (by omega) (by omega) (((fl Y Z (X * Y * Z) p).getD i default).x) (((fl Y Z (X * Y * Z) p).getD i default).y) (((fl Y Z (X * Y * Z) p).getD i default).z) (hhas)) rfl rfl) ?_
      refine rOpD (v := vU (2 ^ idxN Y Z ((fl Y Z (X * Y * Z) p).getD i default))) (H' := [some ⟨a3s (fl Y Z (X * Y * Z) p), 74, false, false⟩, rB [vN X, vN Y, vN Z, vS 0 ((fl Y Z (X * Y * Z) p).length)] 40, rB [vI (((fl Y Z (X * Y * Z) p).getD i default).x), vI (((fl Y Z (X * Y * Z) p).getD i default).y), vI (((fl Y Z (X * Y * Z) p).getD i default).z)] 74]) (by kernel_rfl) (eShl (k := .u64) (a := 1) (b := ((idxN Y Z ((fl Y Z (X * Y * Z) p).getD i default) : Nat) : Int)) (k' := .i64) (c := ((2 ^ idxN Y Z ((fl Y Z (X * Y * Z) p).getD i default) : Nat) : Int)) (by kernel_rfl) (by kernel_rfl) (by omega) (shl1 _ hidx)) (by rfl) ?_
      refine rOpD (v := vU (s ||| 2 ^ idxN Y Z ((fl Y Z (X * Y * Z) p).getD i default))) (H' := [some ⟨a3s (fl Y Z (X * Y * Z) p), 74, false, false⟩, rB [vN X, vN Y, vN Z, vS 0 ((fl Y Z (X * Y * Z) p).length)] 40, rB [vI (((fl Y Z (X * Y * Z) p).getD i default).x), vI (((fl Y Z (X * Y * Z) p).getD i default).y), vI (((fl Y Z (X * Y * Z) p).getD i default).z)] 74]) (by kernel_rfl) (eOp (k := .u64) (a := ((s : Nat) : Int)) (b := ((2 ^ idxN Y Z ((fl Y Z (X * Y * Z) p).getD i default) : Nat) : Int)) (by kernel_rfl) (by kernel_rfl) ⟨by decide, by decide⟩ (orU _ _ hsl (pow_lt64 hidx))) (by rfl) ?_
      refine segEndD [1, 2, 3, 5, 7, 8, 9, 10] (T1 := (mkT 22 [(1, vP 1 0), (2, vU 0), (3, vU (s ||| 2 ^ idxN Y Z ((fl Y Z (X * Y * Z) p).getD i default))), (5, vP 2 0), (7, vS 0 ((fl Y Z (X * Y * Z) p).length)), (8, vN ((fl Y Z (X * Y * Z) p).length)), (9, vN i), (10, .bool true)])) (H1 := [some ⟨a3s (fl Y Z (X * Y * Z) p), 74, false, false⟩, rB [vN X, vN Y, vN Z, vS 0 ((fl Y Z (X * Y * Z) p).length)] 40, rB [vI (((fl Y Z (X * Y * Z) p).getD i default).x), vI (((fl Y Z (X * Y * Z) p).getD i default).y), vI (((fl Y Z (X * Y * Z) p).getD i default).z)] 74]) (by kernel_rfl) ?_
      refine kBlk ?_
      refine kSeq ?_
      refine cReg ?_
      refine rOp (v := vN (i + 1)) (H' := [some ⟨a3s (fl Y Z (X * Y * Z) p), 74, false, false⟩, rB [vN X, vN Y, vN Z, vS 0 ((fl Y Z (X * Y * Z) p).length)] 40, rB [vI (((fl Y Z (X * Y * Z) p).getD i default).x), vI (((fl Y Z (X * Y * Z) p).getD i default).y), vI (((fl Y Z (X * Y * Z) p).getD i default).z)] 74]) (by kernel_rfl) (eAdd (k := .i64) (a := ((i : Nat) : Int)) (b := 1) (c := ((i + 1 : Nat) : Int)) (by kernel_rfl) (by kernel_rfl) (wr64 (by omega) (by omega) (by omega))) ?_
      refine segEnd [1, 2, 3, 5, 7, 8, 9, 10] (T1 := (mkT 22 [(1, vP 1 0), (2, vU 0), (3, vU (s ||| 2 ^ idxN Y Z ((fl Y Z (X * Y * Z) p).getD i default))), (5, vP 2 0), (7, vS 0 ((fl Y Z (X * Y * Z) p).length)), (8, vN ((fl Y Z (X * Y * Z) p).length)), (9, vN (i + 1)), (10, .bool true)])) (H1 := [some ⟨a3s (fl Y Z (X * Y * Z) p), 74, false, false⟩, rB [vN X, vN Y, vN Z, vS 0 ((fl Y Z (X * Y * Z) p).length)] 40, rB [vI (((fl Y Z (X * Y * Z) p).getD i default).x), vI (((fl Y Z (X * Y * Z) p).getD i default).y), vI (((fl Y Z (X * Y * Z) p).getD i default).z)] 74]) (by kernel_rfl) ?_
      exact kLoop ((fl Y Z (X * Y * Z) p).length - (i + 1)) (mkT 22 [(1, vP 1 0), (2, vU 0), (3, vU (s ||| 2 ^ idxN Y Z ((fl Y Z (X * Y * Z) p).getD i default))), (7, vS 0 ((fl Y Z (X * Y * Z) p).length)), (8, vN ((fl Y Z (X * Y * Z) p).length)), (9, vN (i + 1))]) [some ⟨a3s (fl Y Z (X * Y * Z) p), 74, false, false⟩, rB [vN X, vN Y, vN Z, vS 0 ((fl Y Z (X * Y * Z) p).length)] 40] (by omega) (wkDrop [1, 2, 3, 7, 8, 9] _ rfl rfl ((closedL ⟨clF (flatA3 _ _ _ _), ⟨clX rfl, trivial⟩⟩)) (by kernel_rfl) rfl) ⟨(i + 1), (s ||| 2 ^ idxN Y Z ((fl Y Z (X * Y * Z) p).getD i default)), (by omega), (by rw [hs]; exact (setOf_take Y Z (fl Y Z (X * Y * Z) p) i (by omega)).symm), rfl, rfl, rfl⟩
end Go.Proofs.Ytbheeobnghlckaa
