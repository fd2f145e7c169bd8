/- Walks. No condition. -/
import Derived.Test.YtenkiofddpjidaaAmJ0
import Derived.Test.YtenkiofddpjidaaAmQ
set_option linter.unusedVariables false
set_option linter.unusedSimpArgs false
namespace Go.Proofs.Ytenkiofddpjidaa
open Go.Am Go.RowKit
set_option maxRecDepth 100000 in
set_option maxHeartbeats 4000000 in
theorem l2AllB (X : Nat) (Y : Nat) (Z : Nat) (L : List A3) (hs : Sides X Y Z) : Sound Try.prog 69 [.agg #[vN X, vN Y, vN Z, vS 0 L.length]] [some ⟨a3s L, 25, false, false⟩] (vS 1 ((allOf X Y Z).length)) [some ⟨a3s L, 25, false, false⟩, some ⟨a3s (allOf X Y Z), 25, false, true⟩] := by
  refine sound_intro (C := cx) Try.func69 rfl (by kernel_rfl) fun hcl => ?_
  have hz := hs.size
  have hx0 := hs.x0
  have hx4 := hs.x4
  have hy0 := hs.y0
  have hy4 := hs.y4
  have hz0 := hs.z0
  have hz4 := hs.z4
  refine cSeq ?_
  refine cReg ?_
  refine segEnd [1] (T1 := (mkT 34 [(1, vP 1 0)])) (H1 := [some ⟨a3s L, 25, false, false⟩, rB [vN X, vN Y, vN Z, vS 0 L.length] 29]) (by kernel_rfl) ?_
  refine kSeq ?_
  refine cSeq ?_
  refine cReg ?_
  refine segEnd [1, 3] (T1 := (mkT 34 [(1, vP 1 0), (3, vS 2 0)])) (H1 := [some ⟨a3s L, 25, false, false⟩, rB [vN X, vN Y, vN Z, vS 0 L.length] 29, some ⟨[], 25, false, true⟩]) (by kernel_rfl) ?_
  refine kSeq ?_
  refine cSeq ?_
  refine cSeq ?_
  refine cReg ?_
  refine segEndH [1, 3, 4] (T1 := (mkT 34 [(1, vP 1 0), (3, vS 2 0), (4, vI 0)])) (by kernel_rfl) ?_
  refine kSeq ?_
  refine cBlk ?_
  -- loop
  refine cLoop (fun mm T H => ∃ x : Nat, ∃ M : List A3, (x ≤ X) ∧ (M = allUpto Y Z (x * Y * Z)) ∧ mm = X - x ∧ T = (mkT 34 [(1, vP 1 0), (3, vS 2 M.length), (4, vN x)]) ∧ H = [some ⟨a3s L, 25, false, false⟩, rB [vN X, vN Y, vN Z, vS 0 L.length] 29, some ⟨a3s M, 25, false, true⟩]) (X - 0) (mkT 34 [(1, vP 1 0), (3, vS 2 (([] : List A3).length)), (4, vI 0)]) [some ⟨a3s L, 25, false, false⟩, rB [vN X, vN Y, vN Z, vS 0 L.length] 29, some ⟨a3s ([] : List A3), 25, false, true⟩] (wkSame [1, 3, 4] (by kernel_rfl)) ?_ ?_
  · exact ⟨0, ([] : List A3), (Nat.zero_le _), (by simp [allUpto]), rfl, rfl, rfl⟩
  · rintro _ _ _ ⟨x, M, hx, hM, rfl, rfl, rfl⟩
    refine cSeq ?_
    refine cSeq ?_
    refine cReg ?_
    refine segEndH [1, 3, 4, 11] (T1 := (mkT 34 [(1, vP 1 0), (3, vS 2 M.length), (4, vN x), (11, .bool (decide (((x : Nat) : Int) < ((X : Nat) : Int))))])) (by kernel_rfl) ?_
    refine kSeq ?_
    cases h1 : (decide (((x : Nat) : Int) < ((X : Nat) : Int)) : Bool)
    ·
      (try simp only [Bool.not_eq_true', Bool.not_eq_false', decide_eq_true_eq, decide_eq_false_iff_not, beq_iff_eq, bne_iff_ne, beq_eq_false_iff_ne, bne_eq_false_iff_eq, ne_eq, Decidable.not_not, Bool.and_eq_true, Bool.and_eq_false_imp, Bool.or_eq_true, Bool.or_eq_false_iff, Bool.not_eq_true, Int.not_lt, Int.not_le, ge_iff_le, gt_iff_lt] at h1)
      refine cFalse (by kernel_rfl) ?_
      refine cExit ?_
      refine kSeqE ?_
      refine kLoopE ?_
      refine kBlkHit ?_
      refine kSeq ?_
      refine cSeq ?_
      refine cReg ?_
      refine segEndH [2] (T1 := (mkT 34 [(2, vS 2 M.length)])) (by kernel_rfl) ?_
      refine kSeq ?_
      refine cRet ?_
      -- end
      have he0 : (M : List A3) = (allOf X Y Z) := by (rw [hM, show x = X by omega]; rfl)
      refine endCast (v1 := vS 1 M.length) (H1 := [some ⟨a3s L, 25, false, false⟩, some ⟨a3s M, 25, false, true⟩]) (by first | rfl | ((try rw [← he0]); done) | (simp only [← he0]; done)) (by first | rfl | ((try rw [← he0]); done) | (simp only [← he0]; done)) ?_
      exact endF (Or.inr rfl) (l := [vS 2 M.length]) [0, 2] (by kernel_rfl) (by first | rfl | simp [packR, mpV, mpA, mpS, mpP, renId]) ⟨rrF (flatA3 _ _ _ _) rfl, ⟨rrF (flatA3 _ _ _ _) rfl, trivial⟩⟩ rfl rfl
    ·
      (try simp only [Bool.not_eq_true', Bool.not_eq_false', decide_eq_true_eq, decide_eq_false_iff_not, beq_iff_eq, bne_iff_ne, beq_eq_false_iff_ne, bne_eq_false_iff_eq, ne_eq, Decidable.not_not, Bool.and_eq_true, Bool.and_eq_false_imp, Bool.or_eq_true, Bool.or_eq_false_iff, Bool.not_eq_true, Int.not_lt, Int.not_le, ge_iff_le, gt_iff_lt] at h1)
      refine cTrue (by kernel_rfl) ?_
      refine cSkip ?_
      refine kSeq ?_
      refine cSeq ?_
      refine cBlk ?_
      refine cSeq ?_
      refine cReg ?_
      refine segEndH [1, 3, 4, 5] (T1 := (mkT 34 [(1, vP 1 0), (3, vS 2 M.length), (4, vN x), (5, vI 0)])) (by kernel_rfl) ?_
      refine kSeq ?_
      refine cBlk ?_
      -- loop
      refine cLoop (fun mm T H => ∃ y : Nat, ∃ M2 : List A3, (y ≤ Y) ∧ (M2 = allUpto Y Z ((x * Y + y) * Z)) ∧ mm = Y - y ∧ T = (mkT 34 [(1, vP 1 0), (3, vS 2 M2.length), (4, vN x), (5, vN y)]) ∧ H = [some ⟨a3s L, 25, false, false⟩, rB [vN X, vN Y, vN Z, vS 0 L.length] 29, some ⟨a3s M2, 25, false, true⟩]) (Y - 0) (mkT 34 [(1, vP 1 0), (3, vS 2 M.length), (4, vN x), (5, vI 0)]) [some ⟨a3s L, 25, false, false⟩, rB [vN X, vN Y, vN Z, vS 0 L.length] 29, some ⟨a3s M, 25, false, true⟩] (wkSame [1, 3, 4, 5] (by kernel_rfl)) ?_ ?_
      · exact ⟨0, M, (Nat.zero_le _), (by rw [hM]; rfl), rfl, rfl, rfl⟩
      · rintro _ _ _ ⟨y, M2, hy, hM2, rfl, rfl, rfl⟩
        refine cSeq ?_
        refine cSeq ?_
        refine cReg ?_
        refine segEndH [1, 3, 4, 5, 17] (T1 := (mkT 34 [(1, vP 1 0), (3, vS 2 M2.length), (4, vN x), (5, vN y), (17, .bool (decide (((y : Nat) : Int) < ((Y : Nat) : Int))))])) (by kernel_rfl) ?_
        refine kSeq ?_
        cases h2 : (decide (((y : Nat) : Int) < ((Y : Nat) : Int)) : Bool)
        ·
          (try simp only [Bool.not_eq_true', Bool.not_eq_false', decide_eq_true_eq, decide_eq_false_iff_not, beq_iff_eq, bne_iff_ne, beq_eq_false_iff_ne, bne_eq_false_iff_eq, ne_eq, Decidable.not_not, Bool.and_eq_true, Bool.and_eq_false_imp, Bool.or_eq_true, Bool.or_eq_false_iff, Bool.not_eq_true, Int.not_lt, Int.not_le, ge_iff_le, gt_iff_lt] at h2)
          refine cFalse (by kernel_rfl) ?_
          refine cExit ?_
          refine kSeqE ?_
          refine kLoopE ?_
          refine kBlkHit ?_
          refine kBlk ?_
          refine kSeq ?_
          refine cReg ?_
          refine segH 1 (T1 := (mkT 34 [(1, vP 1 0), (3, vS 2 M2.length), (4, vN x), (5, vN y), (12, vN x), (17, .bool false)])) (by kernel_rfl) ?_
          refine rOp (v := vN (x + 1)) (by kernel_rfl) (eAdd (k := .i64) (a := ((x : Nat) : Int)) (b := 1) (c := ((x + 1 : Nat) : Int)) (by kernel_rfl) (by kernel_rfl) (wr64 (by omega) (by omega) (by omega))) ?_
          refine segEndH [1, 3, 4] (T1 := (mkT 34 [(1, vP 1 0), (3, vS 2 M2.length), (4, vN (x + 1))])) (by kernel_rfl) ?_
          exact kLoop (X - (x + 1)) (mkT 34 [(1, vP 1 0), (3, vS 2 M2.length), (4, vN (x + 1))]) [some ⟨a3s L, 25, false, false⟩, rB [vN X, vN Y, vN Z, vS 0 L.length] 29, some ⟨a3s M2, 25, false, true⟩] (by omega) (wkSame [1, 3, 4] (by kernel_rfl)) ⟨(x + 1), M2, (by omega), (by rw [hM2, show y = Y by omega]; congr 1; rw [Nat.add_mul x 1 Y, Nat.one_mul]), rfl, rfl, rfl⟩
        ·
          (try simp only [Bool.not_eq_true', Bool.not_eq_false', decide_eq_true_eq, decide_eq_false_iff_not, beq_iff_eq, bne_iff_ne, beq_eq_false_iff_ne, bne_eq_false_iff_eq, ne_eq, Decidable.not_not, Bool.and_eq_true, Bool.and_eq_false_imp, Bool.or_eq_true, Bool.or_eq_false_iff, Bool.not_eq_true, Int.not_lt, Int.not_le, ge_iff_le, gt_iff_lt] at h2)
          refine cTrue (by kernel_rfl) ?_
          refine cSkip ?_
          refine kSeq ?_
          refine cSeq ?_
          refine cBlk ?_
          refine cSeq ?_
          refine cReg ?_
          refine segEndH [1, 3, 4, 5, 6] (T1 := (mkT 34 [(1, vP 1 0), (3, vS 2 M2.length), (4, vN x), (5, vN y), (6, vI 0)])) (by kernel_rfl) ?_
          refine kSeq ?_
          refine cBlk ?_
          -- loop
          refine cLoop (fun mm T H => ∃ z : Nat, ∃ M3 : List A3, (z ≤ Z) ∧ (M3 = allUpto Y Z ((x * Y + y) * Z + z)) ∧ mm = Z - z ∧ T = (mkT 34 [(1, vP 1 0), (3, vS 2 M3.length), (4, vN x), (5, vN y), (6, vN z)]) ∧ H = [some ⟨a3s L, 25, false, false⟩, rB [vN X, vN Y, vN Z, vS 0 L.length] 29, some ⟨a3s M3, 25, false, true⟩]) (Z - 0) (mkT 34 [(1, vP 1 0), (3, vS 2 M2.length), (4, vN x), (5, vN y), (6, vI 0)]) [some ⟨a3s L, 25, false, false⟩, rB [vN X, vN Y, vN Z, vS 0 L.length] 29, some ⟨a3s M2, 25, false, true⟩] (wkSame [1, 3, 4, 5, 6] (by kernel_rfl)) ?_ ?_
          · exact ⟨0, M2, (Nat.zero_le _), (by rw [hM2]; rfl), rfl, rfl, rfl⟩
          · rintro _ _ _ ⟨z, M3, hz1, hM3, rfl, rfl, rfl⟩
            have hl3 : M3.length ≤ 64 := (by have h1 : (x * Y + y) * Z ≤ (3 * 4 + 3) * 4 := Nat.mul_le_mul (Nat.add_le_add (Nat.mul_le_mul (by omega) hs.y4) (by omega)) hs.z4; rw [hM3]; simp only [allUpto, List.length_map, List.length_range]; omega)
            refine cSeq ?_
            refine cSeq ?_
            refine cReg ?_
            refine segEndH [1, 3, 4, 5, 6, 23] (T1 := (mkT 34 [(1, vP 1 0), (3, vS 2 M3.length), (4, vN x), (5, vN y), (6, vN z), (23, .bool (decide (((z : Nat) : Int) < ((Z : Nat) : Int))))])) (by kernel_rfl) ?_
            refine kSeq ?_
            cases h3 : (decide (((z : Nat) : Int) < ((Z : Nat) : Int)) : Bool)
            ·
              (try simp only [Bool.not_eq_true', Bool.not_eq_false', decide_eq_true_eq, decide_eq_false_iff_not, beq_iff_eq, bne_iff_ne, beq_eq_false_iff_ne, bne_eq_false_iff_eq, ne_eq, Decidable.not_not, Bool.and_eq_true, Bool.and_eq_false_imp, Bool.or_eq_true, Bool.or_eq_false_iff, Bool.not_eq_true, Int.not_lt, Int.not_le, ge_iff_le, gt_iff_lt] at h3)
              refine cFalse (by kernel_rfl) ?_
              refine cExit ?_
              refine kSeqE ?_
              refine kLoopE ?_
              refine kBlkHit ?_
              refine kBlk ?_
              refine kSeq ?_
              refine cReg ?_
              refine segH 1 (T1 := (mkT 34 [(1, vP 1 0), (3, vS 2 M3.length), (4, vN x), (5, vN y), (6, vN z), (18, vN y), (23, .bool false)])) (by kernel_rfl) ?_
              refine rOp (v := vN (y + 1)) (by kernel_rfl) (eAdd (k := .i64) (a := ((y : Nat) : Int)) (b := 1) (c := ((y + 1 : Nat) : Int)) (by kernel_rfl) (by kernel_rfl) (wr64 (by omega) (by omega) (by omega))) ?_
              refine segEndH [1, 3, 4, 5] (T1 := (mkT 34 [(1, vP 1 0), (3, vS 2 M3.length), (4, vN x), (5, vN (y + 1))])) (by kernel_rfl) ?_
              exact kLoop (Y - (y + 1)) (mkT 34 [(1, vP 1 0), (3, vS 2 M3.length), (4, vN x), (5, vN (y + 1))]) [some ⟨a3s L, 25, false, false⟩, rB [vN X, vN Y, vN Z, vS 0 L.length] 29, some ⟨a3s M3, 25, false, true⟩] (by omega) (wkSame [1, 3, 4, 5] (by kernel_rfl)) ⟨(y + 1), M3, (by omega), (by rw [hM3, show z = Z by omega]; congr 1; rw [← Nat.add_assoc, Nat.add_mul (x * Y + y) 1 Z, Nat.one_mul]), rfl, rfl, rfl⟩
            ·
              (try simp only [Bool.not_eq_true', Bool.not_eq_false', decide_eq_true_eq, decide_eq_false_iff_not, beq_iff_eq, bne_iff_ne, beq_eq_false_iff_ne, bne_eq_false_iff_eq, ne_eq, Decidable.not_not, Bool.and_eq_true, Bool.and_eq_false_imp, Bool.or_eq_true, Bool.or_eq_false_iff, Bool.not_eq_true, Int.not_lt, Int.not_le, ge_iff_le, gt_iff_lt] at h3)
              refine cTrue (by kernel_rfl) ?_
              refine cSkip ?_
              refine kSeq ?_
              refine cSeq ?_
              refine cBlk ?_
              refine cReg ?_
              refine seg 6 (T1 := (mkT 34 [(1, vP 1 0), (3, vS 2 M3.length), (4, vN x), (5, vN y), (6, vN z), (23, .bool true), (26, vS 2 M3.length), (27, vN x), (28, vN y), (29, vN z), (30, .agg #[vN x, vN y, vN z]), (31, vS 3 1)])) (H1 := [some ⟨a3s L, 25, false, false⟩, rB [vN X, vN Y, vN Z, vS 0 L.length] 29, some ⟨a3s M3, 25, false, true⟩, some ⟨[vN x, vN y, vN z], 25, false, true⟩]) (by kernel_rfl) ?_
              refine rOp (v := vS 4 ((M3 ++ [(A3.mk ((x : Nat) : Int) ((y : Nat) : Int) ((z : Nat) : Int))]).length)) (H' := [some ⟨a3s L, 25, false, false⟩, rB [vN X, vN Y, vN Z, vS 0 L.length] 29, none, some ⟨[vN x, vN y, vN z], 25, false, true⟩, some ⟨a3s (M3 ++ [(A3.mk ((x : Nat) : Int) ((y : Nat) : Int) ((z : Nat) : Int))]), 25, false, true⟩]) (by kernel_rfl) (eAppA3 (b := 2) (a := 3) (L := M3) (c := (A3.mk ((x : Nat) : Int) ((y : Nat) : Int) ((z : Nat) : Int))) (r := ⟨[vN x, vN y, vN z], 25, false, true⟩) (m := 0) (by kernel_rfl) (by kernel_rfl) ti22 ti25 rfl rfl (by decide) (by kernel_rfl) (by kernel_rfl) rfl (by first | omega | (simp <;> omega)) rfl) ?_
              refine segEnd [1, 3, 4, 5, 6] (T1 := (mkT 34 [(1, vP 1 0), (3, vS 4 ((M3 ++ [(A3.mk ((x : Nat) : Int) ((y : Nat) : Int) ((z : Nat) : Int))]).length)), (4, vN x), (5, vN y), (6, vN z)])) (H1 := [some ⟨a3s L, 25, false, false⟩, rB [vN X, vN Y, vN Z, vS 0 L.length] 29, none, some ⟨[vN x, vN y, vN z], 25, false, true⟩, some ⟨a3s (M3 ++ [(A3.mk ((x : Nat) : Int) ((y : Nat) : Int) ((z : Nat) : Int))]), 25, false, true⟩]) (by kernel_rfl) ?_
              refine kBlk ?_
              refine kSeq ?_
              refine cReg ?_
              refine segH 1 (T1 := (mkT 34 [(1, vP 1 0), (3, vS 4 ((M3 ++ [(A3.mk ((x : Nat) : Int) ((y : Nat) : Int) ((z : Nat) : Int))]).length)), (4, vN x), (5, vN y), (6, vN z), (24, vN z)])) (by kernel_rfl) ?_
              refine rOp (v := vN (z + 1)) (by kernel_rfl) (eAdd (k := .i64) (a := ((z : Nat) : Int)) (b := 1) (c := ((z + 1 : Nat) : Int)) (by kernel_rfl) (by kernel_rfl) (wr64 (by omega) (by omega) (by omega))) ?_
              refine segEndH [1, 3, 4, 5, 6] (T1 := (mkT 34 [(1, vP 1 0), (3, vS 4 ((M3 ++ [(A3.mk ((x : Nat) : Int) ((y : Nat) : Int) ((z : Nat) : Int))]).length)), (4, vN x), (5, vN y), (6, vN (z + 1))])) (by kernel_rfl) ?_
              exact kLoop (Z - (z + 1)) (mkT 34 [(1, vP 1 0), (3, vS 2 ((M3 ++ [(A3.mk ((x : Nat) : Int) ((y : Nat) : Int) ((z : Nat) : Int))]).length)), (4, vN x), (5, vN y), (6, vN (z + 1))]) [some ⟨a3s L, 25, false, false⟩, rB [vN X, vN Y, vN Z, vS 0 L.length] 29, some ⟨a3s (M3 ++ [(A3.mk ((x : Nat) : Int) ((y : Nat) : Int) ((z : Nat) : Int))]), 25, false, true⟩] (by omega) (wkRen [0, 1, 4] [1, 3, 4, 5, 6] ⟨rrF (flatA3 _ _ _ _) rfl, ⟨rrX rfl rfl, ⟨rrF (flatA3 _ _ _ _) rfl, trivial⟩⟩⟩ rfl (by kernel_rfl) rfl) ⟨(z + 1), (M3 ++ [(A3.mk ((x : Nat) : Int) ((y : Nat) : Int) ((z : Nat) : Int))]), (by omega), (by rw [hM3, ← Nat.add_assoc, allUpto_succ, cellOf_at (by omega) (by omega)]), rfl, rfl, rfl⟩

end Go.Proofs.Ytenkiofddpjidaa
