/- Walks. No condition. -/
import Derived.Test.YtbheeobnghlckaaAmS4J6
import Derived.Test.YtbheeobnghlckaaAmQ4
set_option linter.unusedVariables false
set_option linter.unusedSimpArgs false
namespace Go.Proofs.Ytbheeobnghlckaa
open Go.Am Go.RowKit
set_option maxRecDepth 100000 in
set_option maxHeartbeats 4000000 in
theorem shBox (x : Int) (y : Int) (z : Int) (A : List Int) (B : List Int) (C : List Int)  : Sound Try.prog 61 [.agg #[vI x, vI y, vI z, vS 0 A.length, vS 1 B.length, vS 2 C.length]] [some ⟨nums A, 3, false, false⟩, some ⟨nums B, 3, false, false⟩, some ⟨nums C, 3, false, false⟩] (.agg #[vI x, vI y, vI z]) [some ⟨nums A, 3, false, false⟩, some ⟨nums B, 3, false, false⟩, some ⟨nums C, 3, false, false⟩] := by
  refine sound_intro (C := cx) Try.func61 rfl (by kernel_rfl) fun hcl => ?_
  refine cSeq ?_
  refine cReg ?_
  refine segEnd [1, 2] (T1 := (mkT 10 [(1, vP 3 0), (2, vP 4 0)])) (H1 := [some ⟨nums A, 3, false, false⟩, some ⟨nums B, 3, false, false⟩, some ⟨nums C, 3, false, false⟩, rB [vI x, vI y, vI z, vS 0 A.length, vS 1 B.length, vS 2 C.length] 27, rB [vI 0, vI 0, vI 0] 75]) (by kernel_rfl) ?_
  refine kSeq ?_
  refine cSeq ?_
  refine cReg ?_
  refine segEnd [2] (T1 := (mkT 10 [(2, vP 4 0)])) (H1 := [some ⟨nums A, 3, false, false⟩, some ⟨nums B, 3, false, false⟩, some ⟨nums C, 3, false, false⟩, rB [vI x, vI y, vI z, vS 0 A.length, vS 1 B.length, vS 2 C.length] 27, rB [vI x, vI y, vI z] 75]) (by kernel_rfl) ?_
  refine kSeq ?_
  refine cRet ?_
  -- end
  exact endQ (Or.inr rfl) (l := [.agg #[vI x, vI y, vI z]]) [rB [vI x, vI y, vI z, vS 0 A.length, vS 1 B.length, vS 2 C.length] 27, rB [vI x, vI y, vI z] 75] (by kernel_rfl) (by first | rfl | kernel_rfl) rfl rfl hcl rfl

set_option maxRecDepth 100000 in
set_option maxHeartbeats 4000000 in
theorem shList0 (x : Int) (y : Int) (z : Int) (A : List Int) (B : List Int) (C : List Int)  : Sound Try.prog 63 [.agg #[vI x, vI y, vI z, vS 0 A.length, vS 1 B.length, vS 2 C.length], vI 0] [some ⟨nums A, 3, false, false⟩, some ⟨nums B, 3, false, false⟩, some ⟨nums C, 3, false, false⟩] (vS 2 C.length) [some ⟨nums A, 3, false, false⟩, some ⟨nums B, 3, false, false⟩, some ⟨nums C, 3, false, false⟩] := by
  refine sound_intro (C := cx) Try.func63 rfl (by kernel_rfl) fun hcl => ?_
  refine cSeq ?_
  refine cReg ?_
  refine segEnd [1, 2] (T1 := (mkT 14 [(1, vI 0), (2, vP 3 0)])) (H1 := [some ⟨nums A, 3, false, false⟩, some ⟨nums B, 3, false, false⟩, some ⟨nums C, 3, false, false⟩, rB [vI x, vI y, vI z, vS 0 A.length, vS 1 B.length, vS 2 C.length] 27]) (by kernel_rfl) ?_
  refine kSeq ?_
  refine cSeq ?_
  refine cReg ?_
  refine segEndH [4] (T1 := (mkT 14 [(4, vS 2 C.length)])) (by kernel_rfl) ?_
  refine kSeq ?_
  refine cRet ?_
  -- end
  exact endQ (Or.inr rfl) (l := [vS 2 C.length]) [rB [vI x, vI y, vI z, vS 0 A.length, vS 1 B.length, vS 2 C.length] 27] (by kernel_rfl) (by first | rfl | kernel_rfl) rfl rfl hcl rfl

set_option maxRecDepth 100000 in
set_option maxHeartbeats 4000000 in
theorem lines0 (X : Nat) (Y : Nat) (Z : Nat) (hs : Sides X Y Z) : Sound Try.prog 64 [.agg #[vN X, vN Y, vN Z], vI 0] [] (vN (Y * Z)) [] := by
  refine sound_intro (C := cx) Try.func64 rfl (by kernel_rfl) fun hcl => ?_
  have hz := hs.size
  have hx0 := hs.x0
  have hx4 := hs.x4
  have hy0 := hs.y0
  have hy4 := hs.y4
  have hz0 := hs.z0
  have hz4 := hs.z4
  refine cSeq ?_
  refine cReg ?_
  refine segEnd [1, 2] (T1 := (mkT 11 [(1, vI 0), (2, vP 0 0)])) (H1 := [rB [vN X, vN Y, vN Z] 75]) (by kernel_rfl) ?_
  refine kSeq ?_
  refine cSeq ?_
  refine cRegW (N := 1) [⟨[], [], [0]⟩, ⟨[], [], []⟩, ⟨[], [], []⟩, ⟨[], [], []⟩, ⟨[], [], [0]⟩, ⟨[], [], []⟩, ⟨[], [], []⟩] 0 [] (by rfl) (by rfl) (by kernel_rfl) (by kernel_rfl) (by kernel_rfl) ⟨nmsX (by kernel_rfl), trivial⟩ ?_
  refine segWH 1 (T1 := (mkT 11 [(1, vI 0), (2, vP 0 0), (5, .agg #[vN X, vN Y, vN Z])])) (by kernel_rfl) ?_
  refine rW (m := ⟨[], [], []⟩) (v := vN (X * Y * Z)) rfl (by kernel_rfl) (stQ (args := [.agg #[vN X, vN Y, vN Z]]) rfl (by kernel_rfl) (Any.lay0 [] (sizeB X Y Z (by first | assumption | omega | rfl | decide | exact HeapL.list _ _ _ _ | exact HeapL.nil _ _ _ | exact HeapL.all _ _ _ | (apply HeapL.lt64 <;> assumption) | (repeat' (first | assumption | apply or_lt64 | apply and_lt64 | apply andn_lt64 | apply pow_lt64 | (apply HeapL.lt64 <;> assumption))))) trivial rfl trivial rfl (by first | rfl | simp [mpV, mpA, mpS, mpP, renId, shift]) rfl) rfl (by kernel_rfl) (by kernel_rfl)) (by kernel_rfl) nr0 ?_
  refine segWH 3 (T1 := (mkT 11 [(1, vI 0), (2, vP 0 0), (5, .agg #[vN X, vN Y, vN Z]), (6, vN (X * Y * Z)), (7, vI 0), (8, vP 0 0), (9, vN X)])) (by kernel_rfl) ?_
  refine rW (m := ⟨[], [], []⟩) (v := vN ((X * Y * Z) / X)) rfl (by kernel_rfl) (stId (eQuo (k := .i64) (a := ((X * Y * Z : Nat) : Int)) (b := ((X : Nat) : Int)) (c := (((X * Y * Z) / X : Nat) : Int)) (by kernel_rfl) (by kernel_rfl) (by omega) (nQuo (by omega))) rfl (by kernel_rfl) (by kernel_rfl) (by kernel_rfl)) (by kernel_rfl) nr0 ?_
  refine segEndWH [4] (T1 := (mkT 11 [(4, vN ((X * Y * Z) / X))])) (by kernel_rfl) ?_
  refine kSeq ?_
  refine cRet ?_
  -- end
  have he0 : ((X * Y * Z) / X : Nat) = Y * Z := by first | exact (by rw [Nat.mul_assoc, Nat.mul_div_cancel_left _ (by omega)])
  refine endCast (v1 := vN ((X * Y * Z) / X)) (H1 := []) (by first | rfl | ((try rw [← he0]); done) | (simp only [← he0]; done)) (by first | rfl | ((try rw [← he0]); done) | (simp only [← he0]; done)) ?_
  exact endQ (Or.inr rfl) (l := [vN ((X * Y * Z) / X)]) [rB [vN X, vN Y, vN Z] 75] (by kernel_rfl) (by first | rfl | kernel_rfl) rfl rfl hcl rfl

set_option maxRecDepth 100000 in
set_option maxHeartbeats 4000000 in
theorem shList1 (x : Int) (y : Int) (z : Int) (A : List Int) (B : List Int) (C : List Int)  : Sound Try.prog 63 [.agg #[vI x, vI y, vI z, vS 0 A.length, vS 1 B.length, vS 2 C.length], vI 1] [some ⟨nums A, 3, false, false⟩, some ⟨nums B, 3, false, false⟩, some ⟨nums C, 3, false, false⟩] (vS 1 B.length) [some ⟨nums A, 3, false, false⟩, some ⟨nums B, 3, false, false⟩, some ⟨nums C, 3, false, false⟩] := by
  refine sound_intro (C := cx) Try.func63 rfl (by kernel_rfl) fun hcl => ?_
  refine cSeq ?_
  refine cReg ?_
  refine segEnd [1, 2] (T1 := (mkT 14 [(1, vI 1), (2, vP 3 0)])) (H1 := [some ⟨nums A, 3, false, false⟩, some ⟨nums B, 3, false, false⟩, some ⟨nums C, 3, false, false⟩, rB [vI x, vI y, vI z, vS 0 A.length, vS 1 B.length, vS 2 C.length] 27]) (by kernel_rfl) ?_
  refine kSeq ?_
  refine cSeq ?_
  refine cReg ?_
  refine segEndH [4] (T1 := (mkT 14 [(4, vS 1 B.length)])) (by kernel_rfl) ?_
  refine kSeq ?_
  refine cRet ?_
  -- end
  exact endQ (Or.inr rfl) (l := [vS 1 B.length]) [rB [vI x, vI y, vI z, vS 0 A.length, vS 1 B.length, vS 2 C.length] 27] (by kernel_rfl) (by first | rfl | kernel_rfl) rfl rfl hcl rfl

set_option maxRecDepth 100000 in
set_option maxHeartbeats 4000000 in
theorem lines1 (X : Nat) (Y : Nat) (Z : Nat) (hs : Sides X Y Z) : Sound Try.prog 64 [.agg #[vN X, vN Y, vN Z], vI 1] [] (vN (X * Z)) [] := by
  refine sound_intro (C := cx) Try.func64 rfl (by kernel_rfl) fun hcl => ?_
  have hz := hs.size
  have hx0 := hs.x0
  have hx4 := hs.x4
  have hy0 := hs.y0
  have hy4 := hs.y4
  have hz0 := hs.z0
  have hz4 := hs.z4
  refine cSeq ?_
  refine cReg ?_
  refine segEnd [1, 2] (T1 := (mkT 11 [(1, vI 1), (2, vP 0 0)])) (H1 := [rB [vN X, vN Y, vN Z] 75]) (by kernel_rfl) ?_
  refine kSeq ?_
  refine cSeq ?_
  refine cRegW (N := 1) [⟨[], [], [0]⟩, ⟨[], [], []⟩, ⟨[], [], []⟩, ⟨[], [], []⟩, ⟨[], [], [0]⟩, ⟨[], [], []⟩, ⟨[], [], []⟩] 0 [] (by rfl) (by rfl) (by kernel_rfl) (by kernel_rfl) (by kernel_rfl) ⟨nmsX (by kernel_rfl), trivial⟩ ?_
  refine segWH 1 (T1 := (mkT 11 [(1, vI 1), (2, vP 0 0), (5, .agg #[vN X, vN Y, vN Z])])) (by kernel_rfl) ?_
  refine rW (m := ⟨[], [], []⟩) (v := vN (X * Y * Z)) rfl (by kernel_rfl) (stQ (args := [.agg #[vN X, vN Y, vN Z]]) rfl (by kernel_rfl) (Any.lay0 [] (sizeB X Y Z (by first | assumption | omega | rfl | decide | exact HeapL.list _ _ _ _ | exact HeapL.nil _ _ _ | exact HeapL.all _ _ _ | (apply HeapL.lt64 <;> assumption) | (repeat' (first | assumption | apply or_lt64 | apply and_lt64 | apply andn_lt64 | apply pow_lt64 | (apply HeapL.lt64 <;> assumption))))) trivial rfl trivial rfl (by first | rfl | simp [mpV, mpA, mpS, mpP, renId, shift]) rfl) rfl (by kernel_rfl) (by kernel_rfl)) (by kernel_rfl) nr0 ?_
  refine segWH 3 (T1 := (mkT 11 [(1, vI 1), (2, vP 0 0), (5, .agg #[vN X, vN Y, vN Z]), (6, vN (X * Y * Z)), (7, vI 1), (8, vP 0 1), (9, vN Y)])) (by kernel_rfl) ?_
  refine rW (m := ⟨[], [], []⟩) (v := vN ((X * Y * Z) / Y)) rfl (by kernel_rfl) (stId (eQuo (k := .i64) (a := ((X * Y * Z : Nat) : Int)) (b := ((Y : Nat) : Int)) (c := (((X * Y * Z) / Y : Nat) : Int)) (by kernel_rfl) (by kernel_rfl) (by omega) (nQuo (by omega))) rfl (by kernel_rfl) (by kernel_rfl) (by kernel_rfl)) (by kernel_rfl) nr0 ?_
  refine segEndWH [4] (T1 := (mkT 11 [(4, vN ((X * Y * Z) / Y))])) (by kernel_rfl) ?_
  refine kSeq ?_
  refine cRet ?_
  -- end
  have he0 : ((X * Y * Z) / Y : Nat) = X * Z := by first | exact (by rw [Nat.mul_right_comm X Y Z, Nat.mul_div_cancel _ (by omega)])
  refine endCast (v1 := vN ((X * Y * Z) / Y)) (H1 := []) (by first | rfl | ((try rw [← he0]); done) | (simp only [← he0]; done)) (by first | rfl | ((try rw [← he0]); done) | (simp only [← he0]; done)) ?_
  exact endQ (Or.inr rfl) (l := [vN ((X * Y * Z) / Y)]) [rB [vN X, vN Y, vN Z] 75] (by kernel_rfl) (by first | rfl | kernel_rfl) rfl rfl hcl rfl

set_option maxRecDepth 100000 in
set_option maxHeartbeats 4000000 in
theorem shList2 (x : Int) (y : Int) (z : Int) (A : List Int) (B : List Int) (C : List Int)  : Sound Try.prog 63 [.agg #[vI x, vI y, vI z, vS 0 A.length, vS 1 B.length, vS 2 C.length], vI 2] [some ⟨nums A, 3, false, false⟩, some ⟨nums B, 3, false, false⟩, some ⟨nums C, 3, false, false⟩] (vS 0 A.length) [some ⟨nums A, 3, false, false⟩, some ⟨nums B, 3, false, false⟩, some ⟨nums C, 3, false, false⟩] := by
  refine sound_intro (C := cx) Try.func63 rfl (by kernel_rfl) fun hcl => ?_
  refine cSeq ?_
  refine cReg ?_
  refine segEnd [1, 2] (T1 := (mkT 14 [(1, vI 2), (2, vP 3 0)])) (H1 := [some ⟨nums A, 3, false, false⟩, some ⟨nums B, 3, false, false⟩, some ⟨nums C, 3, false, false⟩, rB [vI x, vI y, vI z, vS 0 A.length, vS 1 B.length, vS 2 C.length] 27]) (by kernel_rfl) ?_
  refine kSeq ?_
  refine cSeq ?_
  refine cReg ?_
  refine segEndH [4] (T1 := (mkT 14 [(4, vS 0 A.length)])) (by kernel_rfl) ?_
  refine kSeq ?_
  refine cRet ?_
  -- end
  exact endQ (Or.inr rfl) (l := [vS 0 A.length]) [rB [vI x, vI y, vI z, vS 0 A.length, vS 1 B.length, vS 2 C.length] 27] (by kernel_rfl) (by first | rfl | kernel_rfl) rfl rfl hcl rfl

set_option maxRecDepth 100000 in
set_option maxHeartbeats 4000000 in
theorem lines2r (X : Nat) (Y : Nat) (Z : Nat) (hs : Sides X Y Z) : Sound Try.prog 64 [.agg #[vN X, vN Y, vN Z], vI 2] [] (vN (X * Y * Z / Z)) [] := by
  refine sound_intro (C := cx) Try.func64 rfl (by kernel_rfl) fun hcl => ?_
  have hz := hs.size
  have hx0 := hs.x0
  have hx4 := hs.x4
  have hy0 := hs.y0
  have hy4 := hs.y4
  have hz0 := hs.z0
  have hz4 := hs.z4
  refine cSeq ?_
  refine cReg ?_
  refine segEnd [1, 2] (T1 := (mkT 11 [(1, vI 2), (2, vP 0 0)])) (H1 := [rB [vN X, vN Y, vN Z] 75]) (by kernel_rfl) ?_
  refine kSeq ?_
  refine cSeq ?_
  refine cRegW (N := 1) [⟨[], [], [0]⟩, ⟨[], [], []⟩, ⟨[], [], []⟩, ⟨[], [], []⟩, ⟨[], [], [0]⟩, ⟨[], [], []⟩, ⟨[], [], []⟩] 0 [] (by rfl) (by rfl) (by kernel_rfl) (by kernel_rfl) (by kernel_rfl) ⟨nmsX (by kernel_rfl), trivial⟩ ?_
  refine segWH 1 (T1 := (mkT 11 [(1, vI 2), (2, vP 0 0), (5, .agg #[vN X, vN Y, vN Z])])) (by kernel_rfl) ?_
  refine rW (m := ⟨[], [], []⟩) (v := vN (X * Y * Z)) rfl (by kernel_rfl) (stQ (args := [.agg #[vN X, vN Y, vN Z]]) rfl (by kernel_rfl) (Any.lay0 [] (sizeB X Y Z (by first | assumption | omega | rfl | decide | exact HeapL.list _ _ _ _ | exact HeapL.nil _ _ _ | exact HeapL.all _ _ _ | (apply HeapL.lt64 <;> assumption) | (repeat' (first | assumption | apply or_lt64 | apply and_lt64 | apply andn_lt64 | apply pow_lt64 | (apply HeapL.lt64 <;> assumption))))) trivial rfl trivial rfl (by first | rfl | simp [mpV, mpA, mpS, mpP, renId, shift]) rfl) rfl (by kernel_rfl) (by kernel_rfl)) (by kernel_rfl) nr0 ?_
  refine segWH 3 (T1 := (mkT 11 [(1, vI 2), (2, vP 0 0), (5, .agg #[vN X, vN Y, vN Z]), (6, vN (X * Y * Z)), (7, vI 2), (8, vP 0 2), (9, vN Z)])) (by kernel_rfl) ?_
  refine rW (m := ⟨[], [], []⟩) (v := vN ((X * Y * Z) / Z)) rfl (by kernel_rfl) (stId (eQuo (k := .i64) (a := ((X * Y * Z : Nat) : Int)) (b := ((Z : Nat) : Int)) (c := (((X * Y * Z) / Z : Nat) : Int)) (by kernel_rfl) (by kernel_rfl) (by omega) (nQuo (by omega))) rfl (by kernel_rfl) (by kernel_rfl) (by kernel_rfl)) (by kernel_rfl) nr0 ?_
  refine segEndWH [4] (T1 := (mkT 11 [(4, vN ((X * Y * Z) / Z))])) (by kernel_rfl) ?_
  refine kSeq ?_
  refine cRet ?_
  -- end
  have he0 : ((X * Y * Z) / Z : Nat) = X * Y * Z / Z := by first | omega | assumption | rfl | (symm; assumption) | (simp_all; done)
  refine endCast (v1 := vN ((X * Y * Z) / Z)) (H1 := []) (by first | rfl | ((try rw [← he0]); done) | (simp only [← he0]; done)) (by first | rfl | ((try rw [← he0]); done) | (simp only [← he0]; done)) ?_
  exact endQ (Or.inr rfl) (l := [vN ((X * Y * Z) / Z)]) [rB [vN X, vN Y, vN Z] 75] (by kernel_rfl) (by first | rfl | kernel_rfl) rfl rfl hcl rfl

theorem lines2 (X : Nat) (Y : Nat) (Z : Nat) (hs : Sides X Y Z) : Sound Try.prog 64 [.agg #[vN X, vN Y, vN Z], vI 2] [] (vN (X * Y)) [] := by
  have h := lines2r X Y Z hs; rw [Nat.mul_div_cancel _ (by have := hs.z0; omega)] at h; exact h

set_option maxRecDepth 100000 in
set_option maxHeartbeats 4000000 in
theorem allWithinN (N : List Int) (lo : Int) (hi : Int) (hl : N.length ≤ 1048576) : Sound Try.prog 65 [vS 0 N.length, vI lo, vI hi] [some ⟨nums N, 3, false, false⟩] (.bool (allB N lo hi)) [some ⟨nums N, 3, false, false⟩] := by
  refine sound_intro (C := cx) Try.func65 rfl (by kernel_rfl) fun hcl => ?_
  refine cSeq ?_
  refine cReg ?_
  refine segEndH [0, 1, 2] (T1 := (mkT 21 [(0, vS 0 N.length), (1, vI lo), (2, vI hi)])) (by kernel_rfl) ?_
  refine kSeq ?_
  refine cSeq ?_
  refine cSeq ?_
  refine cReg ?_
  refine segEndH [1, 2, 9, 10, 11] (T1 := (mkT 21 [(1, vI lo), (2, vI hi), (9, vS 0 N.length), (10, vN N.length), (11, vI 0)])) (by kernel_rfl) ?_
  refine kSeq ?_
  refine cBlk ?_
  -- loop
  refine cLoop (fun mm T H => ∃ i : Nat, (i ≤ N.length) ∧ (∀ j, j < i → j < N.length → inR (N.getD j 0) lo hi = true) ∧ mm = N.length - i ∧ T = (mkT 21 [(1, vI lo), (2, vI hi), (9, vS 0 N.length), (10, vN N.length), (11, vN i)]) ∧ H = [some ⟨nums N, 3, false, false⟩]) (N.length - 0) (mkT 21 [(1, vI lo), (2, vI hi), (9, vS 0 N.length), (10, vN N.length), (11, vI 0)]) [some ⟨nums N, 3, false, false⟩] (wkSame [1, 2, 9, 10, 11] (by kernel_rfl)) ?_ ?_
  · exact ⟨0, (Nat.zero_le _), (fun j hj => absurd hj (Nat.not_lt_zero j)), rfl, rfl, rfl⟩
  · rintro _ _ _ ⟨i, hir, ho, rfl, rfl, rfl⟩
    refine cSeq ?_
    refine cReg ?_
    refine segEndH [1, 2, 9, 10, 11, 12] (T1 := (mkT 21 [(1, vI lo), (2, vI hi), (9, vS 0 N.length), (10, vN N.length), (11, vN i), (12, .bool (decide (((i : Nat) : Int) < ((N.length : Nat) : Int))))])) (by kernel_rfl) ?_
    refine kSeq ?_
    refine cSeq ?_
    cases h1 : (decide (((i : Nat) : Int) < ((N.length : Nat) : Int)) : Bool)
    ·
      have h1k := h1
      (try simp only [Bool.not_eq_true', Bool.not_eq_false', decide_eq_true_eq, decide_eq_false_iff_not, beq_iff_eq, bne_iff_ne, beq_eq_false_iff_ne, bne_eq_false_iff_eq, ne_eq, Decidable.not_not, Bool.and_eq_true, Bool.and_eq_false_imp, Bool.or_eq_true, Bool.or_eq_false_iff, Bool.not_eq_true, Int.not_lt, Int.not_le, ge_iff_le, gt_iff_lt] at h1)
      refine cFalse (by kernel_rfl) ?_
      refine cExit ?_
      refine kSeqE ?_
      refine kLoopE ?_
      refine kBlkHit ?_
      refine kSeq ?_
      refine cSeq ?_
      refine cReg ?_
      refine segEndH [6] (T1 := (mkT 21 [(6, .bool true)])) (by kernel_rfl) ?_
      refine kSeq ?_
      refine cRet ?_
      -- end
      have he0 : (true : Bool) = allB N lo hi := by first | exact allB_no (i := i) (by omega) (by assumption) | exact allB_yes (by omega) ho
      refine endCast (v1 := .bool true) (H1 := [some ⟨nums N, 3, false, false⟩]) (by first | rfl | ((try rw [← he0]); done) | (simp only [← he0]; done)) (by first | rfl | ((try rw [← he0]); done) | (simp only [← he0]; done)) ?_
      exact endQ (Or.inr rfl) (l := [.bool true]) [] (by kernel_rfl) (by first | rfl | kernel_rfl) rfl rfl hcl rfl
    ·
      have h1k := h1
      (try simp only [Bool.not_eq_true', Bool.not_eq_false', decide_eq_true_eq, decide_eq_false_iff_not, beq_iff_eq, bne_iff_ne, beq_eq_false_iff_ne, bne_eq_false_iff_eq, ne_eq, Decidable.not_not, Bool.and_eq_true, Bool.and_eq_false_imp, Bool.or_eq_true, Bool.or_eq_false_iff, Bool.not_eq_true, Int.not_lt, Int.not_le, ge_iff_le, gt_iff_lt] at h1)
      refine cTrue (by kernel_rfl) ?_
      refine cSkip ?_
      refine kSeq ?_
      refine cSeq ?_
      refine cBlk ?_
      refine cSeq ?_
      refine cReg ?_
      refine rOp (v := vP 0 i) (by kernel_rfl) (eIdxS (ad := ⟨0, 0, none⟩) (n := N.length) (m := 0) (k := .i64) (c := ((i : Nat) : Int)) (j := i) (o := i) (by kernel_rfl) (by kernel_rfl) ti22 ti3 (rfl) (by omega) (by simp)) ?_
      refine rOp (v := vI (N.getD i 0)) (by kernel_rfl) (eLdNum (ad := ⟨0, i, none⟩) (r := ⟨nums N, 3, false, false⟩) (L := N) (j := i) (by kernel_rfl) (by kernel_rfl) rfl (by first | rfl | omega) (by omega) ti3 rfl) ?_
      refine segEndH [1, 2, 8, 9, 10, 11] (T1 := (mkT 21 [(1, vI lo), (2, vI hi), (8, vI (N.getD i 0)), (9, vS 0 N.length), (10, vN N.length), (11, vN i)])) (by kernel_rfl) ?_
      refine kSeq ?_
      refine cSeq ?_
      refine cReg ?_
      refine segH 3 (T1 := (mkT 21 [(1, vI lo), (2, vI hi), (8, vI (N.getD i 0)), (9, vS 0 N.length), (10, vN N.length), (11, vN i), (15, vI (N.getD i 0)), (16, vI lo), (17, vI hi)])) (by kernel_rfl) ?_
      refine rCall (v := .bool (inR (N.getD i 0) lo hi)) (args := [vI (N.getD i 0), vI lo, vI hi]) (by kernel_rfl) rfl (by kernel_rfl) (Sound.lay0 [] (withinB (N.getD i 0) lo hi) trivial rfl trivial rfl (by first | rfl | simp [mpV, mpA, mpS, mpP, renId, shift]) rfl) ?_
      refine segEndH [1, 2, 9, 10, 11, 19] (T1 := (mkT 21 [(1, vI lo), (2, vI hi), (9, vS 0 N.length), (10, vN N.length), (11, vN i), (19, .bool (!(inR (N.getD i 0) lo hi)))])) (by kernel_rfl) ?_
      refine kSeq ?_
      cases h2 : (inR (N.getD i 0) lo hi : Bool)
      ·
        have h2k := h2
        (try simp only [Bool.not_eq_true', Bool.not_eq_false', decide_eq_true_eq, decide_eq_false_iff_not, beq_iff_eq, bne_iff_ne, beq_eq_false_iff_ne, bne_eq_false_iff_eq, ne_eq, Decidable.not_not, Bool.and_eq_true, Bool.and_eq_false_imp, Bool.or_eq_true, Bool.or_eq_false_iff, Bool.not_eq_true, Int.not_lt, Int.not_le, ge_iff_le, gt_iff_lt] at h2)
        refine cTrue (by kernel_rfl) ?_
        refine cSeq ?_
        refine cReg ?_
        refine segEndH [6] (T1 := (mkT 21 [(6, .bool false)])) (by kernel_rfl) ?_
        refine kSeq ?_
        refine cRet ?_
        refine kBlkR ?_
        refine kSeqR ?_
        refine kLoopR ?_
        refine kBlkR ?_
        refine kSeqR ?_
        -- end
        have he0 : (false : Bool) = allB N lo hi := by first | exact allB_no (i := i) (by omega) (by assumption) | exact allB_yes (by omega) ho
        refine endCast (v1 := .bool false) (H1 := [some ⟨nums N, 3, false, false⟩]) (by first | rfl | ((try rw [← he0]); done) | (simp only [← he0]; done)) (by first | rfl | ((try rw [← he0]); done) | (simp only [← he0]; done)) ?_
        exact endQ (Or.inr rfl) (l := [.bool false]) [] (by kernel_rfl) (by first | rfl | kernel_rfl) rfl rfl hcl rfl
      ·
        have h2k := h2
        (try simp only [Bool.not_eq_true', Bool.not_eq_false', decide_eq_true_eq, decide_eq_false_iff_not, beq_iff_eq, bne_iff_ne, beq_eq_false_iff_ne, bne_eq_false_iff_eq, ne_eq, Decidable.not_not, Bool.and_eq_true, Bool.and_eq_false_imp, Bool.or_eq_true, Bool.or_eq_false_iff, Bool.not_eq_true, Int.not_lt, Int.not_le, ge_iff_le, gt_iff_lt] at h2)
        refine cFalse (by kernel_rfl) ?_
        refine cSkip ?_
        refine kBlk ?_
        refine kSeq ?_
        refine cReg ?_
        refine rOp (v := vN (i + 1)) (by kernel_rfl) (eAdd (k := .i64) (a := ((i : Nat) : Int)) (b := 1) (c := ((i + 1 : Nat) : Int)) (by kernel_rfl) (by kernel_rfl) (wr64 (by omega) (by omega) (by omega))) ?_
        refine segEndH [1, 2, 9, 10, 11] (T1 := (mkT 21 [(1, vI lo), (2, vI hi), (9, vS 0 N.length), (10, vN N.length), (11, vN (i + 1))])) (by kernel_rfl) ?_
        exact kLoop (N.length - (i + 1)) (mkT 21 [(1, vI lo), (2, vI hi), (9, vS 0 N.length), (10, vN N.length), (11, vN (i + 1))]) [some ⟨nums N, 3, false, false⟩] (by omega) (wkSame [1, 2, 9, 10, 11] (by kernel_rfl)) ⟨(i + 1), (by omega), (fun j hj hl => by rcases Nat.lt_or_ge j i with h | h; exact ho j h hl; (have e : j = i := by omega); subst e; assumption), rfl, rfl, rfl⟩

set_option maxRecDepth 100000 in
set_option maxHeartbeats 4000000 in
theorem l3OnesB (N : List Int) (n : Int) (hl : N.length ≤ 1048576) : Sound Try.prog 105 [vS 0 N.length, vI n] [some ⟨nums N, 3, false, false⟩] (.bool (onesB N n)) [some ⟨nums N, 3, false, false⟩] := by
  refine sound_intro (C := cx) Try.func105 rfl (by kernel_rfl) fun hcl => ?_
  refine cSeq ?_
  refine cReg ?_
  refine segEndH [0, 1] (T1 := (mkT 22 [(0, vS 0 N.length), (1, vI n)])) (by kernel_rfl) ?_
  refine kSeq ?_
  refine cSeq ?_
  refine cSeq ?_
  refine cReg ?_
  refine segEndH [0, 1, 5] (T1 := (mkT 22 [(0, vS 0 N.length), (1, vI n), (5, vI 0)])) (by kernel_rfl) ?_
  refine kSeq ?_
  refine cBlk ?_
  -- loop
  refine cLoop (fun mm T H => ∃ i : Nat, (i ≤ N.length) ∧ (∀ j, j < i → j < N.length → inR (N.getD j 0) 0 1 = true) ∧ mm = N.length - i ∧ T = (mkT 22 [(0, vS 0 N.length), (1, vI n), (5, vN i)]) ∧ H = [some ⟨nums N, 3, false, false⟩]) (N.length - 0) (mkT 22 [(0, vS 0 N.length), (1, vI n), (5, vI 0)]) [some ⟨nums N, 3, false, false⟩] (wkSame [0, 1, 5] (by kernel_rfl)) ?_ ?_
  · exact ⟨0, (Nat.zero_le _), (fun j hj => absurd hj (Nat.not_lt_zero j)), rfl, rfl, rfl⟩
  · rintro _ _ _ ⟨i, hir, ho, rfl, rfl, rfl⟩
    refine cSeq ?_
    refine cSeq ?_
    refine cReg ?_
    refine segEndH [0, 1, 5, 9] (T1 := (mkT 22 [(0, vS 0 N.length), (1, vI n), (5, vN i), (9, .bool (decide (((i : Nat) : Int) < ((N.length : Nat) : Int))))])) (by kernel_rfl) ?_
    refine kSeq ?_
    cases h1 : (decide (((i : Nat) : Int) < ((N.length : Nat) : Int)) : Bool)
    ·
      have h1k := h1
      (try simp only [Bool.not_eq_true', Bool.not_eq_false', decide_eq_true_eq, decide_eq_false_iff_not, beq_iff_eq, bne_iff_ne, beq_eq_false_iff_ne, bne_eq_false_iff_eq, ne_eq, Decidable.not_not, Bool.and_eq_true, Bool.and_eq_false_imp, Bool.or_eq_true, Bool.or_eq_false_iff, Bool.not_eq_true, Int.not_lt, Int.not_le, ge_iff_le, gt_iff_lt] at h1)
      refine cFalse (by kernel_rfl) ?_
      refine cExit ?_
      refine kSeqE ?_
      refine kLoopE ?_
      refine kBlkHit ?_
      refine kSeq ?_
      refine cSeq ?_
      refine cReg ?_
      refine segEndH [4] (T1 := (mkT 22 [(4, .bool (((N.length : Nat) : Int) == n))])) (by kernel_rfl) ?_
      refine kSeq ?_
      refine cRet ?_
      -- end
      have he0 : ((((N.length : Nat) : Int) == n) : Bool) = onesB N n := by first | exact ones_no (i := i) (by omega) (by assumption) | exact ones_yes (by omega) ho
      refine endCast (v1 := .bool (((N.length : Nat) : Int) == n)) (H1 := [some ⟨nums N, 3, false, false⟩]) (by first | rfl | ((try rw [← he0]); done) | (simp only [← he0]; done)) (by first | rfl | ((try rw [← he0]); done) | (simp only [← he0]; done)) ?_
      exact endQ (Or.inr rfl) (l := [.bool (((N.length : Nat) : Int) == n)]) [] (by kernel_rfl) (by first | rfl | kernel_rfl) rfl rfl hcl rfl
    ·
      have h1k := h1
      (try simp only [Bool.not_eq_true', Bool.not_eq_false', decide_eq_true_eq, decide_eq_false_iff_not, beq_iff_eq, bne_iff_ne, beq_eq_false_iff_ne, bne_eq_false_iff_eq, ne_eq, Decidable.not_not, Bool.and_eq_true, Bool.and_eq_false_imp, Bool.or_eq_true, Bool.or_eq_false_iff, Bool.not_eq_true, Int.not_lt, Int.not_le, ge_iff_le, gt_iff_lt] at h1)
      refine cTrue (by kernel_rfl) ?_
      refine cSkip ?_
      refine kSeq ?_
      refine cSeq ?_
      refine cBlk ?_
      refine cSeq ?_
      refine cReg ?_
      refine segH 2 (T1 := (mkT 22 [(0, vS 0 N.length), (1, vI n), (5, vN i), (9, .bool true), (12, vS 0 N.length), (13, vN i)])) (by kernel_rfl) ?_
      refine rOp (v := vP 0 i) (by kernel_rfl) (eIdxS (ad := ⟨0, 0, none⟩) (n := N.length) (m := 0) (k := .i64) (c := ((i : Nat) : Int)) (j := i) (o := i) (by kernel_rfl) (by kernel_rfl) ti22 ti3 (rfl) (by omega) (by simp)) ?_
      refine rOp (v := vI (N.getD i 0)) (by kernel_rfl) (eLdNum (ad := ⟨0, i, none⟩) (r := ⟨nums N, 3, false, false⟩) (L := N) (j := i) (by kernel_rfl) (by kernel_rfl) rfl (by first | rfl | omega) (by omega) ti3 rfl) ?_
      refine rCall (v := .bool (inR (N.getD i 0) 0 1)) (args := [vI (N.getD i 0), vI 0, vI 1]) (by kernel_rfl) rfl (by kernel_rfl) (Sound.lay0 [] (l1InB (N.getD i 0) 0 1) trivial rfl trivial rfl (by first | rfl | simp [mpV, mpA, mpS, mpP, renId, shift]) rfl) ?_
      refine segEndH [0, 1, 5, 17] (T1 := (mkT 22 [(0, vS 0 N.length), (1, vI n), (5, vN i), (17, .bool (!(inR (N.getD i 0) 0 1)))])) (by kernel_rfl) ?_
      refine kSeq ?_
      cases h2 : (inR (N.getD i 0) 0 1 : Bool)
      ·
        have h2k := h2
        (try simp only [Bool.not_eq_true', Bool.not_eq_false', decide_eq_true_eq, decide_eq_false_iff_not, beq_iff_eq, bne_iff_ne, beq_eq_false_iff_ne, bne_eq_false_iff_eq, ne_eq, Decidable.not_not, Bool.and_eq_true, Bool.and_eq_false_imp, Bool.or_eq_true, Bool.or_eq_false_iff, Bool.not_eq_true, Int.not_lt, Int.not_le, ge_iff_le, gt_iff_lt] at h2)
        refine cTrue (by kernel_rfl) ?_
        refine cSeq ?_
        refine cReg ?_
        refine segEndH [4] (T1 := (mkT 22 [(4, .bool false)])) (by kernel_rfl) ?_
        refine kSeq ?_
        refine cRet ?_
        refine kBlkR ?_
        refine kSeqR ?_
        refine kLoopR ?_
        refine kBlkR ?_
        refine kSeqR ?_
        -- end
        have he0 : (false : Bool) = onesB N n := by first | exact ones_no (i := i) (by omega) (by assumption) | exact ones_yes (by omega) ho
        refine endCast (v1 := .bool false) (H1 := [some ⟨nums N, 3, false, false⟩]) (by first | rfl | ((try rw [← he0]); done) | (simp only [← he0]; done)) (by first | rfl | ((try rw [← he0]); done) | (simp only [← he0]; done)) ?_
        exact endQ (Or.inr rfl) (l := [.bool false]) [] (by kernel_rfl) (by first | rfl | kernel_rfl) rfl rfl hcl rfl
      ·
        have h2k := h2
        (try simp only [Bool.not_eq_true', Bool.not_eq_false', decide_eq_true_eq, decide_eq_false_iff_not, beq_iff_eq, bne_iff_ne, beq_eq_false_iff_ne, bne_eq_false_iff_eq, ne_eq, Decidable.not_not, Bool.and_eq_true, Bool.and_eq_false_imp, Bool.or_eq_true, Bool.or_eq_false_iff, Bool.not_eq_true, Int.not_lt, Int.not_le, ge_iff_le, gt_iff_lt] at h2)
        refine cFalse (by kernel_rfl) ?_
        refine cSkip ?_
        refine kBlk ?_
        refine kSeq ?_
        refine cReg ?_
        refine segH 1 (T1 := (mkT 22 [(0, vS 0 N.length), (1, vI n), (5, vN i), (10, vN i), (17, .bool false)])) (by kernel_rfl) ?_
        refine rOp (v := vN (i + 1)) (by kernel_rfl) (eAdd (k := .i64) (a := ((i : Nat) : Int)) (b := 1) (c := ((i + 1 : Nat) : Int)) (by kernel_rfl) (by kernel_rfl) (wr64 (by omega) (by omega) (by omega))) ?_
        refine segEndH [0, 1, 5] (T1 := (mkT 22 [(0, vS 0 N.length), (1, vI n), (5, vN (i + 1))])) (by kernel_rfl) ?_
        exact kLoop (N.length - (i + 1)) (mkT 22 [(0, vS 0 N.length), (1, vI n), (5, vN (i + 1))]) [some ⟨nums N, 3, false, false⟩] (by omega) (wkSame [0, 1, 5] (by kernel_rfl)) ⟨(i + 1), (by omega), (fun j hj hl => by rcases Nat.lt_or_ge j i with h | h; exact ho j h hl; (have e : j = i := by omega); subst e; assumption), rfl, rfl, rfl⟩

set_option maxRecDepth 100000 in
set_option maxHeartbeats 4000000 in
theorem l3ShadowB_no (x : Int) (y : Int) (z : Int) (A : List Int) (B : List Int) (C : List Int) (hv : valid3 x y z = false) (hA : A.length ≤ 1048576) (hB : B.length ≤ 1048576) (hC : C.length ≤ 1048576) : Sound Try.prog 60 [.agg #[vI x, vI y, vI z, vS 0 A.length, vS 1 B.length, vS 2 C.length]] [some ⟨nums A, 3, false, false⟩, some ⟨nums B, 3, false, false⟩, some ⟨nums C, 3, false, false⟩] (.bool false) [some ⟨nums A, 3, false, false⟩, some ⟨nums B, 3, false, false⟩, some ⟨nums C, 3, false, false⟩] := by
  refine sound_intro (C := cx) Try.func60 rfl (by kernel_rfl) fun hcl => ?_
  refine cSeq ?_
  refine cReg ?_
  refine segEnd [1] (T1 := (mkT 40 [(1, vP 3 0)])) (H1 := [some ⟨nums A, 3, false, false⟩, some ⟨nums B, 3, false, false⟩, some ⟨nums C, 3, false, false⟩, rB [vI x, vI y, vI z, vS 0 A.length, vS 1 B.length, vS 2 C.length] 27]) (by kernel_rfl) ?_
  refine kSeq ?_
  refine cSeq ?_
  refine cReg ?_
  refine segH 6 (T1 := (mkT 40 [(1, vP 3 0), (3, vP 3 0), (4, vI x), (5, vP 3 1), (6, vI y), (7, vP 3 2), (8, vI z)])) (by kernel_rfl) ?_
  refine rCall (v := .bool false) (args := [vI x, vI y, vI z]) (by kernel_rfl) rfl (by kernel_rfl) (Sound.lay0 [] (sides_no x y z (by assumption)) trivial rfl trivial rfl (by first | rfl | simp [mpV, mpA, mpS, mpP, renId, shift]) rfl) ?_
  refine segEndH [2] (T1 := (mkT 40 [(2, .bool false)])) (by kernel_rfl) ?_
  refine kSeq ?_
  refine cRet ?_
  -- end
  exact endQ (Or.inr rfl) (l := [.bool false]) [rB [vI x, vI y, vI z, vS 0 A.length, vS 1 B.length, vS 2 C.length] 27] (by kernel_rfl) (by first | rfl | kernel_rfl) rfl rfl hcl rfl

set_option maxRecDepth 100000 in
set_option maxHeartbeats 4000000 in
theorem l3ShadowB_yes (X : Nat) (Y : Nat) (Z : Nat) (A : List Int) (B : List Int) (C : List Int) (hs : Sides X Y Z) (hA : A.length ≤ 1048576) (hB : B.length ≤ 1048576) (hC : C.length ≤ 1048576) : Sound Try.prog 60 [.agg #[vN X, vN Y, vN Z, vS 0 A.length, vS 1 B.length, vS 2 C.length]] [some ⟨nums A, 3, false, false⟩, some ⟨nums B, 3, false, false⟩, some ⟨nums C, 3, false, false⟩] (.bool (shadB X Y Z A B C)) [some ⟨nums A, 3, false, false⟩, some ⟨nums B, 3, false, false⟩, some ⟨nums C, 3, false, false⟩] := by
  refine sound_intro (C := cx) Try.func60 rfl (by kernel_rfl) fun hcl => ?_
  have hz := hs.size
  have hx0 := hs.x0
  have hx4 := hs.x4
  have hy0 := hs.y0
  have hy4 := hs.y4
  have hz0 := hs.z0
  have hz4 := hs.z4
  have hxy : X * Y ≤ 4 * 4 := Nat.mul_le_mul (by omega) (by omega)
  have hxz : X * Z ≤ 4 * 4 := Nat.mul_le_mul (by omega) (by omega)
  have hyz : Y * Z ≤ 4 * 4 := Nat.mul_le_mul (by omega) (by omega)
  refine cSeq ?_
  refine cReg ?_
  refine segEnd [1] (T1 := (mkT 40 [(1, vP 3 0)])) (H1 := [some ⟨nums A, 3, false, false⟩, some ⟨nums B, 3, false, false⟩, some ⟨nums C, 3, false, false⟩, rB [vN X, vN Y, vN Z, vS 0 A.length, vS 1 B.length, vS 2 C.length] 27]) (by kernel_rfl) ?_
  refine kSeq ?_
  refine cSeq ?_
  refine cReg ?_
  refine segH 6 (T1 := (mkT 40 [(1, vP 3 0), (3, vP 3 0), (4, vN X), (5, vP 3 1), (6, vN Y), (7, vP 3 2), (8, vN Z)])) (by kernel_rfl) ?_
  refine rCall (v := .bool true) (args := [vN X, vN Y, vN Z]) (by kernel_rfl) rfl (by kernel_rfl) (Sound.lay0 [] (sidesB X Y Z (by first | assumption | omega | rfl | decide | exact HeapL.list _ _ _ _ | exact HeapL.nil _ _ _ | exact HeapL.all _ _ _ | (apply HeapL.lt64 <;> assumption) | (repeat' (first | assumption | apply or_lt64 | apply and_lt64 | apply andn_lt64 | apply pow_lt64 | (apply HeapL.lt64 <;> assumption))))) trivial rfl trivial rfl (by first | rfl | simp [mpV, mpA, mpS, mpP, renId, shift]) rfl) ?_
  refine segH 7 (T1 := (mkT 40 [(1, vP 3 0), (3, vP 3 0), (4, vN X), (5, vP 3 1), (6, vN Y), (7, vP 3 2), (8, vN Z), (9, .bool true), (10, .bool true), (11, vP 3 3), (12, vS 0 A.length), (13, vP 3 0), (14, vN X), (15, vP 3 1), (16, vN Y)])) (by kernel_rfl) ?_
  refine rOp (v := vN (X * Y)) (by kernel_rfl) (eMul (k := .i64) (a := ((X : Nat) : Int)) (b := ((Y : Nat) : Int)) (c := ((X * Y : Nat) : Int)) (by kernel_rfl) (by kernel_rfl) (nMul (by omega))) ?_
  refine rCall (v := .bool (onesB A ((X * Y : Nat) : Int))) (args := [vS 0 A.length, vN (X * Y)]) (by kernel_rfl) rfl (by kernel_rfl) (Sound.lay0 [0] (l3OnesB A ((X * Y : Nat) : Int) (by first | omega | assumption | (simp; done) | (simp; omega))) ⟨rdF false (flatNums _ _ _ _) rfl rfl, trivial⟩ rfl ⟨clF (flatNums _ _ _ _), trivial⟩ rfl (by first | rfl | simp [mpV, mpA, mpS, mpP, renId, shift]) rfl) ?_
  refine segH 2 (T1 := (mkT 40 [(1, vP 3 0), (3, vP 3 0), (4, vN X), (5, vP 3 1), (6, vN Y), (7, vP 3 2), (8, vN Z), (9, .bool true), (10, .bool true), (11, vP 3 3), (12, vS 0 A.length), (13, vP 3 0), (14, vN X), (15, vP 3 1), (16, vN Y), (17, vN (X * Y)), (18, .bool (onesB A ((X * Y : Nat) : Int))), (19, .bool (onesB A ((X * Y : Nat) : Int))), (20, .bool (onesB A ((X * Y : Nat) : Int)))])) (by kernel_rfl) ?_
  cases h1 : (onesB A ((X * Y : Nat) : Int) : Bool)
  ·
    have h1k := h1
    (try simp only [Bool.not_eq_true', Bool.not_eq_false', decide_eq_true_eq, decide_eq_false_iff_not, beq_iff_eq, bne_iff_ne, beq_eq_false_iff_ne, bne_eq_false_iff_eq, ne_eq, Decidable.not_not, Bool.and_eq_true, Bool.and_eq_false_imp, Bool.or_eq_true, Bool.or_eq_false_iff, Bool.not_eq_true, Int.not_lt, Int.not_le, ge_iff_le, gt_iff_lt] at h1)
    refine segEnd [2] (T1 := (mkT 40 [(2, .bool false)])) (H1 := [some ⟨nums A, 3, false, false⟩, some ⟨nums B, 3, false, false⟩, some ⟨nums C, 3, false, false⟩, rB [vN X, vN Y, vN Z, vS 0 A.length, vS 1 B.length, vS 2 C.length] 27]) (by kernel_rfl) ?_
    refine kSeq ?_
    refine cRet ?_
    -- end
    have he0 : (false : Bool) = shadB X Y Z A B C := by first | exact (shad_t (ho.2.2 (by omega)) (ho.2.1 (by omega)) (ho.1 (by omega))).symm | (symm; first | exact shad_3 (ones_len (by omega)) | exact shad_2 (ones_len (by omega)) | exact shad_1 (ones_len (by omega)) | exact shad_3 (ones_all (by assumption)) | exact shad_2 (ones_all (by assumption)) | exact shad_1 (ones_all (by assumption)) | exact shad_1 (by assumption) | exact shad_2 (by assumption) | exact shad_3 (by assumption) | exact shad_t (by assumption) (by assumption) (by assumption)) | (unfold shadB; simp_all; done)
    refine endCast (v1 := .bool false) (H1 := [some ⟨nums A, 3, false, false⟩, some ⟨nums B, 3, false, false⟩, some ⟨nums C, 3, false, false⟩]) (by first | rfl | ((try rw [← he0]); done) | (simp only [← he0]; done)) (by first | rfl | ((try rw [← he0]); done) | (simp only [← he0]; done)) ?_
    exact endQ (Or.inr rfl) (l := [.bool false]) [rB [vN X, vN Y, vN Z, vS 0 A.length, vS 1 B.length, vS 2 C.length] 27] (by kernel_rfl) (by first | rfl | kernel_rfl) rfl rfl hcl rfl
  ·
    have h1k := h1
    (try simp only [Bool.not_eq_true', Bool.not_eq_false', decide_eq_true_eq, decide_eq_false_iff_not, beq_iff_eq, bne_iff_ne, beq_eq_false_iff_ne, bne_eq_false_iff_eq, ne_eq, Decidable.not_not, Bool.and_eq_true, Bool.and_eq_false_imp, Bool.or_eq_true, Bool.or_eq_false_iff, Bool.not_eq_true, Int.not_lt, Int.not_le, ge_iff_le, gt_iff_lt] at h1)
    refine seg 6 (T1 := (mkT 40 [(1, vP 3 0), (3, vP 3 0), (4, vN X), (5, vP 3 1), (6, vN Y), (7, vP 3 2), (8, vN Z), (9, .bool true), (10, .bool true), (11, vP 3 3), (12, vS 0 A.length), (13, vP 3 0), (14, vN X), (15, vP 3 1), (16, vN Y), (17, vN (X * Y)), (18, .bool true), (19, .bool true), (20, .bool true), (21, vP 3 4), (22, vS 1 B.length), (23, vP 3 0), (24, vN X), (25, vP 3 2), (26, vN Z)])) (H1 := [some ⟨nums A, 3, false, false⟩, some ⟨nums B, 3, false, false⟩, some ⟨nums C, 3, false, false⟩, rB [vN X, vN Y, vN Z, vS 0 A.length, vS 1 B.length, vS 2 C.length] 27]) (by kernel_rfl) ?_
    refine rOp (v := vN (X * Z)) (by kernel_rfl) (eMul (k := .i64) (a := ((X : Nat) : Int)) (b := ((Z : Nat) : Int)) (c := ((X * Z : Nat) : Int)) (by kernel_rfl) (by kernel_rfl) (nMul (by omega))) ?_
    refine rCall (v := .bool (onesB B ((X * Z : Nat) : Int))) (args := [vS 1 B.length, vN (X * Z)]) (by kernel_rfl) rfl (by kernel_rfl) (Sound.lay0 [1] (l3OnesB B ((X * Z : Nat) : Int) (by first | omega | assumption | (simp; done) | (simp; omega))) ⟨rdF false (flatNums _ _ _ _) rfl rfl, trivial⟩ rfl ⟨clF (flatNums _ _ _ _), trivial⟩ rfl (by first | rfl | simp [mpV, mpA, mpS, mpP, renId, shift]) rfl) ?_
    refine seg 2 (T1 := (mkT 40 [(1, vP 3 0), (3, vP 3 0), (4, vN X), (5, vP 3 1), (6, vN Y), (7, vP 3 2), (8, vN Z), (9, .bool true), (10, .bool true), (11, vP 3 3), (12, vS 0 A.length), (13, vP 3 0), (14, vN X), (15, vP 3 1), (16, vN Y), (17, vN (X * Y)), (18, .bool true), (19, .bool true), (20, .bool true), (21, vP 3 4), (22, vS 1 B.length), (23, vP 3 0), (24, vN X), (25, vP 3 2), (26, vN Z), (27, vN (X * Z)), (28, .bool (onesB B ((X * Z : Nat) : Int))), (29, .bool (onesB B ((X * Z : Nat) : Int))), (30, .bool (onesB B ((X * Z : Nat) : Int)))])) (H1 := [some ⟨nums A, 3, false, false⟩, some ⟨nums B, 3, false, false⟩, some ⟨nums C, 3, false, false⟩, rB [vN X, vN Y, vN Z, vS 0 A.length, vS 1 B.length, vS 2 C.length] 27]) (by kernel_rfl) ?_
    cases h2 : (onesB B ((X * Z : Nat) : Int) : Bool)
    ·
      have h2k := h2
      (try simp only [Bool.not_eq_true', Bool.not_eq_false', decide_eq_true_eq, decide_eq_false_iff_not, beq_iff_eq, bne_iff_ne, beq_eq_false_iff_ne, bne_eq_false_iff_eq, ne_eq, Decidable.not_not, Bool.and_eq_true, Bool.and_eq_false_imp, Bool.or_eq_true, Bool.or_eq_false_iff, Bool.not_eq_true, Int.not_lt, Int.not_le, ge_iff_le, gt_iff_lt] at h2)
      refine segEnd [2] (T1 := (mkT 40 [(2, .bool false)])) (H1 := [some ⟨nums A, 3, false, false⟩, some ⟨nums B, 3, false, false⟩, some ⟨nums C, 3, false, false⟩, rB [vN X, vN Y, vN Z, vS 0 A.length, vS 1 B.length, vS 2 C.length] 27]) (by kernel_rfl) ?_
      refine kSeq ?_
      refine cRet ?_
      -- end
      have he0 : (false : Bool) = shadB X Y Z A B C := by first | exact (shad_t (ho.2.2 (by omega)) (ho.2.1 (by omega)) (ho.1 (by omega))).symm | (symm; first | exact shad_3 (ones_len (by omega)) | exact shad_2 (ones_len (by omega)) | exact shad_1 (ones_len (by omega)) | exact shad_3 (ones_all (by assumption)) | exact shad_2 (ones_all (by assumption)) | exact shad_1 (ones_all (by assumption)) | exact shad_1 (by assumption) | exact shad_2 (by assumption) | exact shad_3 (by assumption) | exact shad_t (by assumption) (by assumption) (by assumption)) | (unfold shadB; simp_all; done)
      refine endCast (v1 := .bool false) (H1 := [some ⟨nums A, 3, false, false⟩, some ⟨nums B, 3, false, false⟩, some ⟨nums C, 3, false, false⟩]) (by first | rfl | ((try rw [← he0]); done) | (simp only [← he0]; done)) (by first | rfl | ((try rw [← he0]); done) | (simp only [← he0]; done)) ?_
      exact endQ (Or.inr rfl) (l := [.bool false]) [rB [vN X, vN Y, vN Z, vS 0 A.length, vS 1 B.length, vS 2 C.length] 27] (by kernel_rfl) (by first | rfl | kernel_rfl) rfl rfl hcl rfl
    ·
      have h2k := h2
      (try simp only [Bool.not_eq_true', Bool.not_eq_false', decide_eq_true_eq, decide_eq_false_iff_not, beq_iff_eq, bne_iff_ne, beq_eq_false_iff_ne, bne_eq_false_iff_eq, ne_eq, Decidable.not_not, Bool.and_eq_true, Bool.and_eq_false_imp, Bool.or_eq_true, Bool.or_eq_false_iff, Bool.not_eq_true, Int.not_lt, Int.not_le, ge_iff_le, gt_iff_lt] at h2)
      refine seg 6 (T1 := (mkT 40 [(1, vP 3 0), (3, vP 3 0), (4, vN X), (5, vP 3 1), (6, vN Y), (7, vP 3 2), (8, vN Z), (9, .bool true), (10, .bool true), (11, vP 3 3), (12, vS 0 A.length), (13, vP 3 0), (14, vN X), (15, vP 3 1), (16, vN Y), (17, vN (X * Y)), (18, .bool true), (19, .bool true), (20, .bool true), (21, vP 3 4), (22, vS 1 B.length), (23, vP 3 0), (24, vN X), (25, vP 3 2), (26, vN Z), (27, vN (X * Z)), (28, .bool true), (29, .bool true), (30, .bool true), (31, vP 3 5), (32, vS 2 C.length), (33, vP 3 1), (34, vN Y), (35, vP 3 2), (36, vN Z)])) (H1 := [some ⟨nums A, 3, false, false⟩, some ⟨nums B, 3, false, false⟩, some ⟨nums C, 3, false, false⟩, rB [vN X, vN Y, vN Z, vS 0 A.length, vS 1 B.length, vS 2 C.length] 27]) (by kernel_rfl) ?_
      refine rOp (v := vN (Y * Z)) (by kernel_rfl) (eMul (k := .i64) (a := ((Y : Nat) : Int)) (b := ((Z : Nat) : Int)) (c := ((Y * Z : Nat) : Int)) (by kernel_rfl) (by kernel_rfl) (nMul (by omega))) ?_
      refine rCall (v := .bool (onesB C ((Y * Z : Nat) : Int))) (args := [vS 2 C.length, vN (Y * Z)]) (by kernel_rfl) rfl (by kernel_rfl) (Sound.lay0 [2] (l3OnesB C ((Y * Z : Nat) : Int) (by first | omega | assumption | (simp; done) | (simp; omega))) ⟨rdF false (flatNums _ _ _ _) rfl rfl, trivial⟩ rfl ⟨clF (flatNums _ _ _ _), trivial⟩ rfl (by first | rfl | simp [mpV, mpA, mpS, mpP, renId, shift]) rfl) ?_
      refine segEnd [2] (T1 := (mkT 40 [(2, .bool (onesB C ((Y * Z : Nat) : Int)))])) (H1 := [some ⟨nums A, 3, false, false⟩, some ⟨nums B, 3, false, false⟩, some ⟨nums C, 3, false, false⟩, rB [vN X, vN Y, vN Z, vS 0 A.length, vS 1 B.length, vS 2 C.length] 27]) (by kernel_rfl) ?_
      refine kSeq ?_
      refine cRet ?_
      -- end
      have he0 : (onesB C ((Y * Z : Nat) : Int) : Bool) = shadB X Y Z A B C := by first | exact (shad_t (ho.2.2 (by omega)) (ho.2.1 (by omega)) (ho.1 (by omega))).symm | (symm; first | exact shad_3 (ones_len (by omega)) | exact shad_2 (ones_len (by omega)) | exact shad_1 (ones_len (by omega)) | exact shad_3 (ones_all (by assumption)) | exact shad_2 (ones_all (by assumption)) | exact shad_1 (ones_all (by assumption)) | exact shad_1 (by assumption) | exact shad_2 (by assumption) | exact shad_3 (by assumption) | exact shad_t (by assumption) (by assumption) (by assumption)) | (unfold shadB; simp_all; done)
      refine endCast (v1 := .bool (onesB C ((Y * Z : Nat) : Int))) (H1 := [some ⟨nums A, 3, false, false⟩, some ⟨nums B, 3, false, false⟩, some ⟨nums C, 3, false, false⟩]) (by first | rfl | ((try rw [← he0]); done) | (simp only [← he0]; done)) (by first | rfl | ((try rw [← he0]); done) | (simp only [← he0]; done)) ?_
      exact endQ (Or.inr rfl) (l := [.bool (onesB C ((Y * Z : Nat) : Int))]) [rB [vN X, vN Y, vN Z, vS 0 A.length, vS 1 B.length, vS 2 C.length] 27] (by kernel_rfl) (by first | rfl | kernel_rfl) rfl rfl hcl rfl

set_option maxRecDepth 100000 in
set_option maxHeartbeats 4000000 in
theorem isShadowB_no (x : Int) (y : Int) (z : Int) (A : List Int) (B : List Int) (C : List Int) (hv : valid3 x y z = false) (hA : A.length ≤ 1048576) (hB : B.length ≤ 1048576) (hC : C.length ≤ 1048576) : Sound Try.prog 18 [.agg #[vI x, vI y, vI z, vS 0 A.length, vS 1 B.length, vS 2 C.length]] [some ⟨nums A, 3, false, false⟩, some ⟨nums B, 3, false, false⟩, some ⟨nums C, 3, false, false⟩] (.bool false) [some ⟨nums A, 3, false, false⟩, some ⟨nums B, 3, false, false⟩, some ⟨nums C, 3, false, false⟩] := by
  refine sound_intro (C := cx) Try.func18 rfl (by kernel_rfl) fun hcl => ?_
  refine cSeq ?_
  refine cReg ?_
  refine segEnd [1] (T1 := (mkT 28 [(1, vP 3 0)])) (H1 := [some ⟨nums A, 3, false, false⟩, some ⟨nums B, 3, false, false⟩, some ⟨nums C, 3, false, false⟩, rB [vI x, vI y, vI z, vS 0 A.length, vS 1 B.length, vS 2 C.length] 27]) (by kernel_rfl) ?_
  refine kSeq ?_
  refine cSeq ?_
  refine cSeq ?_
  refine cReg ?_
  refine segH 1 (T1 := (mkT 28 [(1, vP 3 0), (5, .agg #[vI x, vI y, vI z, vS 0 A.length, vS 1 B.length, vS 2 C.length])])) (by kernel_rfl) ?_
  refine rCall (v := .agg #[vI x, vI y, vI z]) (args := [.agg #[vI x, vI y, vI z, vS 0 A.length, vS 1 B.length, vS 2 C.length]]) (by kernel_rfl) rfl (by kernel_rfl) (Sound.lay0 [0, 1, 2] (shBox x y z A B C) ⟨rdF false (flatNums _ _ _ _) rfl rfl, ⟨rdF false (flatNums _ _ _ _) rfl rfl, ⟨rdF false (flatNums _ _ _ _) rfl rfl, trivial⟩⟩⟩ rfl ⟨clF (flatNums _ _ _ _), ⟨clF (flatNums _ _ _ _), ⟨clF (flatNums _ _ _ _), trivial⟩⟩⟩ rfl (by first | rfl | simp [mpV, mpA, mpS, mpP, renId, shift]) (by first | rfl | simp [mpV, mpA, mpS, mpP, renId, shift])) ?_
  refine rCall (v := .bool false) (args := [.agg #[vI x, vI y, vI z]]) (by kernel_rfl) rfl (by kernel_rfl) (Sound.lay0 [] (valid_no x y z (by assumption)) trivial rfl trivial rfl (by first | rfl | simp [mpV, mpA, mpS, mpP, renId, shift]) rfl) ?_
  refine segEndH [1, 8] (T1 := (mkT 28 [(1, vP 3 0), (8, .bool true)])) (by kernel_rfl) ?_
  refine kSeq ?_
  refine cTrue (by kernel_rfl) ?_
  refine cSeq ?_
  refine cReg ?_
  refine segEndH [2] (T1 := (mkT 28 [(2, .bool false)])) (by kernel_rfl) ?_
  refine kSeq ?_
  refine cRet ?_
  refine kSeqR ?_
  -- end
  exact endQ (Or.inr rfl) (l := [.bool false]) [rB [vI x, vI y, vI z, vS 0 A.length, vS 1 B.length, vS 2 C.length] 27] (by kernel_rfl) (by first | rfl | kernel_rfl) rfl rfl hcl rfl

set_option maxRecDepth 100000 in
set_option maxHeartbeats 4000000 in
theorem isShadowB_yes (X : Nat) (Y : Nat) (Z : Nat) (A : List Int) (B : List Int) (C : List Int) (hs : Sides X Y Z) (hA : A.length ≤ 1048576) (hB : B.length ≤ 1048576) (hC : C.length ≤ 1048576) : Sound Try.prog 18 [.agg #[vN X, vN Y, vN Z, vS 0 A.length, vS 1 B.length, vS 2 C.length]] [some ⟨nums A, 3, false, false⟩, some ⟨nums B, 3, false, false⟩, some ⟨nums C, 3, false, false⟩] (.bool (shadB X Y Z A B C)) [some ⟨nums A, 3, false, false⟩, some ⟨nums B, 3, false, false⟩, some ⟨nums C, 3, false, false⟩] := by
  refine sound_intro (C := cx) Try.func18 rfl (by kernel_rfl) fun hcl => ?_
  have hz := hs.size
  have hx0 := hs.x0
  have hx4 := hs.x4
  have hy0 := hs.y0
  have hy4 := hs.y4
  have hz0 := hs.z0
  have hz4 := hs.z4
  have hxy : X * Y ≤ 4 * 4 := Nat.mul_le_mul (by omega) (by omega)
  have hxz : X * Z ≤ 4 * 4 := Nat.mul_le_mul (by omega) (by omega)
  have hyz : Y * Z ≤ 4 * 4 := Nat.mul_le_mul (by omega) (by omega)
  refine cSeq ?_
  refine cReg ?_
  refine segEnd [1] (T1 := (mkT 28 [(1, vP 3 0)])) (H1 := [some ⟨nums A, 3, false, false⟩, some ⟨nums B, 3, false, false⟩, some ⟨nums C, 3, false, false⟩, rB [vN X, vN Y, vN Z, vS 0 A.length, vS 1 B.length, vS 2 C.length] 27]) (by kernel_rfl) ?_
  refine kSeq ?_
  refine cSeq ?_
  refine cSeq ?_
  refine cReg ?_
  refine segH 1 (T1 := (mkT 28 [(1, vP 3 0), (5, .agg #[vN X, vN Y, vN Z, vS 0 A.length, vS 1 B.length, vS 2 C.length])])) (by kernel_rfl) ?_
  refine rCall (v := .agg #[vN X, vN Y, vN Z]) (args := [.agg #[vN X, vN Y, vN Z, vS 0 A.length, vS 1 B.length, vS 2 C.length]]) (by kernel_rfl) rfl (by kernel_rfl) (Sound.lay0 [0, 1, 2] (shBox ((X : Nat) : Int) ((Y : Nat) : Int) ((Z : Nat) : Int) A B C) ⟨rdF false (flatNums _ _ _ _) rfl rfl, ⟨rdF false (flatNums _ _ _ _) rfl rfl, ⟨rdF false (flatNums _ _ _ _) rfl rfl, trivial⟩⟩⟩ rfl ⟨clF (flatNums _ _ _ _), ⟨clF (flatNums _ _ _ _), ⟨clF (flatNums _ _ _ _), trivial⟩⟩⟩ rfl (by first | rfl | simp [mpV, mpA, mpS, mpP, renId, shift]) (by first | rfl | simp [mpV, mpA, mpS, mpP, renId, shift])) ?_
  refine rCall (v := .bool true) (args := [.agg #[vN X, vN Y, vN Z]]) (by kernel_rfl) rfl (by kernel_rfl) (Sound.lay0 [] (validB X Y Z (by first | assumption | omega | rfl | decide | exact HeapL.list _ _ _ _ | exact HeapL.nil _ _ _ | exact HeapL.all _ _ _ | (apply HeapL.lt64 <;> assumption) | (repeat' (first | assumption | apply or_lt64 | apply and_lt64 | apply andn_lt64 | apply pow_lt64 | (apply HeapL.lt64 <;> assumption))))) trivial rfl trivial rfl (by first | rfl | simp [mpV, mpA, mpS, mpP, renId, shift]) rfl) ?_
  refine segEndH [1, 8] (T1 := (mkT 28 [(1, vP 3 0), (8, .bool false)])) (by kernel_rfl) ?_
  refine kSeq ?_
  refine cFalse (by kernel_rfl) ?_
  refine cSkip ?_
  refine kSeq ?_
  refine cSeq ?_
  refine cSeq ?_
  refine cReg ?_
  refine segEndH [1, 9] (T1 := (mkT 28 [(1, vP 3 0), (9, vI 0)])) (by kernel_rfl) ?_
  refine kSeq ?_
  refine cBlk ?_
  -- loop
  refine cLoop (fun mm T H => ∃ d : Nat, (d ≤ 3) ∧ ((1 ≤ d → onesB C ((Y * Z : Nat) : Int) = true) ∧ (2 ≤ d → onesB B ((X * Z : Nat) : Int) = true) ∧ (3 ≤ d → onesB A ((X * Y : Nat) : Int) = true)) ∧ mm = 3 - d ∧ T = (mkT 28 [(1, vP 3 0), (9, vN d)]) ∧ H = [some ⟨nums A, 3, false, false⟩, some ⟨nums B, 3, false, false⟩, some ⟨nums C, 3, false, false⟩, rB [vN X, vN Y, vN Z, vS 0 A.length, vS 1 B.length, vS 2 C.length] 27]) (3 - 0) (mkT 28 [(1, vP 3 0), (9, vI 0)]) [some ⟨nums A, 3, false, false⟩, some ⟨nums B, 3, false, false⟩, some ⟨nums C, 3, false, false⟩, rB [vN X, vN Y, vN Z, vS 0 A.length, vS 1 B.length, vS 2 C.length] 27] (wkSame [1, 9] (by kernel_rfl)) ?_ ?_
  · exact ⟨0, (Nat.zero_le _), (⟨fun h => absurd h (by omega), fun h => absurd h (by omega), fun h => absurd h (by omega)⟩), rfl, rfl, rfl⟩
  · rintro _ _ _ ⟨d, hd, ho, rfl, rfl, rfl⟩
    have hcase : d = 0 ∨ d = 1 ∨ d = 2 ∨ d = 3 := by omega
    rcases hcase with rfl | rfl | rfl | rfl
    ·
      refine cSeq ?_
      refine cReg ?_
      refine segEndH [1, 9, 10] (T1 := (mkT 28 [(1, vP 3 0), (9, vI 0), (10, .bool true)])) (by kernel_rfl) ?_
      refine kSeq ?_
      refine cSeq ?_
      refine cTrue (by kernel_rfl) ?_
      refine cSkip ?_
      refine kSeq ?_
      refine cSeq ?_
      refine cBlk ?_
      refine cSeq ?_
      refine cReg ?_
      refine segEndH [1, 3, 9] (T1 := (mkT 28 [(1, vP 3 0), (3, vI 0), (9, vI 0)])) (by kernel_rfl) ?_
      refine kSeq ?_
      refine cSeq ?_
      refine cReg ?_
      refine segH 2 (T1 := (mkT 28 [(1, vP 3 0), (3, vI 0), (9, vI 0), (12, .agg #[vN X, vN Y, vN Z, vS 0 A.length, vS 1 B.length, vS 2 C.length]), (13, vI 0)])) (by kernel_rfl) ?_
      refine rCall (v := vS 2 C.length) (args := [.agg #[vN X, vN Y, vN Z, vS 0 A.length, vS 1 B.length, vS 2 C.length], vI 0]) (by kernel_rfl) rfl (by kernel_rfl) (Sound.lay0 [0, 1, 2] (shList0 ((X : Nat) : Int) ((Y : Nat) : Int) ((Z : Nat) : Int) A B C) ⟨rdF false (flatNums _ _ _ _) rfl rfl, ⟨rdF false (flatNums _ _ _ _) rfl rfl, ⟨rdF false (flatNums _ _ _ _) rfl rfl, trivial⟩⟩⟩ rfl ⟨clF (flatNums _ _ _ _), ⟨clF (flatNums _ _ _ _), ⟨clF (flatNums _ _ _ _), trivial⟩⟩⟩ rfl (by first | rfl | simp [mpV, mpA, mpS, mpP, renId, shift]) rfl) ?_
      refine segEndH [1, 3, 4, 9] (T1 := (mkT 28 [(1, vP 3 0), (3, vI 0), (4, vS 2 C.length), (9, vI 0)])) (by kernel_rfl) ?_
      refine kSeq ?_
      refine cSeq ?_
      refine cReg ?_
      refine segH 3 (T1 := (mkT 28 [(1, vP 3 0), (3, vI 0), (4, vS 2 C.length), (9, vI 0), (15, vS 2 C.length), (16, vN C.length), (17, .agg #[vN X, vN Y, vN Z, vS 0 A.length, vS 1 B.length, vS 2 C.length])])) (by kernel_rfl) ?_
      refine rCall (v := .agg #[vN X, vN Y, vN Z]) (args := [.agg #[vN X, vN Y, vN Z, vS 0 A.length, vS 1 B.length, vS 2 C.length]]) (by kernel_rfl) rfl (by kernel_rfl) (Sound.lay0 [0, 1, 2] (shBox ((X : Nat) : Int) ((Y : Nat) : Int) ((Z : Nat) : Int) A B C) ⟨rdF false (flatNums _ _ _ _) rfl rfl, ⟨rdF false (flatNums _ _ _ _) rfl rfl, ⟨rdF false (flatNums _ _ _ _) rfl rfl, trivial⟩⟩⟩ rfl ⟨clF (flatNums _ _ _ _), ⟨clF (flatNums _ _ _ _), ⟨clF (flatNums _ _ _ _), trivial⟩⟩⟩ rfl (by first | rfl | simp [mpV, mpA, mpS, mpP, renId, shift]) (by first | rfl | simp [mpV, mpA, mpS, mpP, renId, shift])) ?_
      refine segH 1 (T1 := (mkT 28 [(1, vP 3 0), (3, vI 0), (4, vS 2 C.length), (9, vI 0), (15, vS 2 C.length), (16, vN C.length), (17, .agg #[vN X, vN Y, vN Z, vS 0 A.length, vS 1 B.length, vS 2 C.length]), (18, .agg #[vN X, vN Y, vN Z]), (19, vI 0)])) (by kernel_rfl) ?_
      refine rCall (v := vN (Y * Z)) (args := [.agg #[vN X, vN Y, vN Z], vI 0]) (by kernel_rfl) rfl (by kernel_rfl) (Sound.lay0 [] (lines0 X Y Z (by first | assumption | omega | rfl | decide | exact HeapL.list _ _ _ _ | exact HeapL.nil _ _ _ | exact HeapL.all _ _ _ | (apply HeapL.lt64 <;> assumption) | (repeat' (first | assumption | apply or_lt64 | apply and_lt64 | apply andn_lt64 | apply pow_lt64 | (apply HeapL.lt64 <;> assumption))))) trivial rfl trivial rfl (by first | rfl | simp [mpV, mpA, mpS, mpP, renId, shift]) rfl) ?_
      refine segH 2 (T1 := (mkT 28 [(1, vP 3 0), (3, vI 0), (4, vS 2 C.length), (9, vI 0), (15, vS 2 C.length), (16, vN C.length), (17, .agg #[vN X, vN Y, vN Z, vS 0 A.length, vS 1 B.length, vS 2 C.length]), (18, .agg #[vN X, vN Y, vN Z]), (19, vI 0), (20, vN (Y * Z)), (21, .bool (((C.length : Nat) : Int) != ((Y * Z : Nat) : Int))), (22, .bool (((C.length : Nat) : Int) != ((Y * Z : Nat) : Int)))])) (by kernel_rfl) ?_
      cases h1 : ((((C.length : Nat) : Int) != ((Y * Z : Nat) : Int)) : Bool)
      ·
        have h1k := h1
        (try simp only [Bool.not_eq_true', Bool.not_eq_false', decide_eq_true_eq, decide_eq_false_iff_not, beq_iff_eq, bne_iff_ne, beq_eq_false_iff_ne, bne_eq_false_iff_eq, ne_eq, Decidable.not_not, Bool.and_eq_true, Bool.and_eq_false_imp, Bool.or_eq_true, Bool.or_eq_false_iff, Bool.not_eq_true, Int.not_lt, Int.not_le, ge_iff_le, gt_iff_lt] at h1)
        refine seg 1 (T1 := (mkT 28 [(1, vP 3 0), (3, vI 0), (4, vS 2 C.length), (9, vI 0), (15, vS 2 C.length), (16, vN C.length), (17, .agg #[vN X, vN Y, vN Z, vS 0 A.length, vS 1 B.length, vS 2 C.length]), (18, .agg #[vN X, vN Y, vN Z]), (19, vI 0), (20, vN (Y * Z)), (21, .bool false), (22, .bool false), (23, vS 2 C.length)])) (H1 := [some ⟨nums A, 3, false, false⟩, some ⟨nums B, 3, false, false⟩, some ⟨nums C, 3, false, false⟩, rB [vN X, vN Y, vN Z, vS 0 A.length, vS 1 B.length, vS 2 C.length] 27]) (by kernel_rfl) ?_
        refine rCall (v := .bool (allB C 0 1)) (args := [vS 2 C.length, vI 0, vI 1]) (by kernel_rfl) rfl (by kernel_rfl) (Sound.lay0 [2] (allWithinN C 0 1 (by first | omega | assumption | (simp; done) | (simp; omega))) ⟨rdF false (flatNums _ _ _ _) rfl rfl, trivial⟩ rfl ⟨clF (flatNums _ _ _ _), trivial⟩ rfl (by first | rfl | simp [mpV, mpA, mpS, mpP, renId, shift]) rfl) ?_
        refine segEnd [1, 9, 26] (T1 := (mkT 28 [(1, vP 3 0), (9, vI 0), (26, .bool (!(allB C 0 1)))])) (H1 := [some ⟨nums A, 3, false, false⟩, some ⟨nums B, 3, false, false⟩, some ⟨nums C, 3, false, false⟩, rB [vN X, vN Y, vN Z, vS 0 A.length, vS 1 B.length, vS 2 C.length] 27]) (by kernel_rfl) ?_
        refine kSeq ?_
        cases h2 : (allB C 0 1 : Bool)
        ·
          have h2k := h2
          (try simp only [Bool.not_eq_true', Bool.not_eq_false', decide_eq_true_eq, decide_eq_false_iff_not, beq_iff_eq, bne_iff_ne, beq_eq_false_iff_ne, bne_eq_false_iff_eq, ne_eq, Decidable.not_not, Bool.and_eq_true, Bool.and_eq_false_imp, Bool.or_eq_true, Bool.or_eq_false_iff, Bool.not_eq_true, Int.not_lt, Int.not_le, ge_iff_le, gt_iff_lt] at h2)
          refine cTrue (by kernel_rfl) ?_
          refine cSeq ?_
          refine cReg ?_
          refine segEndH [2] (T1 := (mkT 28 [(2, .bool false)])) (by kernel_rfl) ?_
          refine kSeq ?_
          refine cRet ?_
          refine kBlkR ?_
          refine kSeqR ?_
          refine kLoopR ?_
          refine kBlkR ?_
          refine kSeqR ?_
          -- end
          have he0 : (false : Bool) = shadB X Y Z A B C := by first | exact (shad_t (ho.2.2 (by omega)) (ho.2.1 (by omega)) (ho.1 (by omega))).symm | (symm; first | exact shad_3 (ones_len (by omega)) | exact shad_2 (ones_len (by omega)) | exact shad_1 (ones_len (by omega)) | exact shad_3 (ones_all (by assumption)) | exact shad_2 (ones_all (by assumption)) | exact shad_1 (ones_all (by assumption)) | exact shad_1 (by assumption) | exact shad_2 (by assumption) | exact shad_3 (by assumption) | exact shad_t (by assumption) (by assumption) (by assumption)) | (unfold shadB; simp_all; done)
          refine endCast (v1 := .bool false) (H1 := [some ⟨nums A, 3, false, false⟩, some ⟨nums B, 3, false, false⟩, some ⟨nums C, 3, false, false⟩]) (by first | rfl | ((try rw [← he0]); done) | (simp only [← he0]; done)) (by first | rfl | ((try rw [← he0]); done) | (simp only [← he0]; done)) ?_
          exact endQ (Or.inr rfl) (l := [.bool false]) [rB [vN X, vN Y, vN Z, vS 0 A.length, vS 1 B.length, vS 2 C.length] 27] (by kernel_rfl) (by first | rfl | kernel_rfl) rfl rfl hcl rfl
        ·
          have h2k := h2
          (try simp only [Bool.not_eq_true', Bool.not_eq_false', decide_eq_true_eq, decide_eq_false_iff_not, beq_iff_eq, bne_iff_ne, beq_eq_false_iff_ne, bne_eq_false_iff_eq, ne_eq, Decidable.not_not, Bool.and_eq_true, Bool.and_eq_false_imp, Bool.or_eq_true, Bool.or_eq_false_iff, Bool.not_eq_true, Int.not_lt, Int.not_le, ge_iff_le, gt_iff_lt] at h2)
          refine cFalse (by kernel_rfl) ?_
          refine cSkip ?_
          refine kBlk ?_
          refine kSeq ?_
          refine cReg ?_
          refine segEndH [1, 9] (T1 := (mkT 28 [(1, vP 3 0), (9, vI 1)])) (by kernel_rfl) ?_
          exact kLoop (3 - 1) (mkT 28 [(1, vP 3 0), (9, vI 1)]) [some ⟨nums A, 3, false, false⟩, some ⟨nums B, 3, false, false⟩, some ⟨nums C, 3, false, false⟩, rB [vN X, vN Y, vN Z, vS 0 A.length, vS 1 B.length, vS 2 C.length] 27] (by omega) (wkSame [1, 9] (by kernel_rfl)) ⟨1, (by omega), (by refine ⟨fun _ => ?_, fun _ => ?_, fun _ => ?_⟩ <;> first | omega | exact ho.1 (by omega) | exact ho.2.1 (by omega) | exact ones_t (by assumption) (by omega) | exact ones_t rfl (by omega) | (refine ones_t ?_ (by omega); first | assumption | rfl)), rfl, rfl, rfl⟩
      ·
        have h1k := h1
        (try simp only [Bool.not_eq_true', Bool.not_eq_false', decide_eq_true_eq, decide_eq_false_iff_not, beq_iff_eq, bne_iff_ne, beq_eq_false_iff_ne, bne_eq_false_iff_eq, ne_eq, Decidable.not_not, Bool.and_eq_true, Bool.and_eq_false_imp, Bool.or_eq_true, Bool.or_eq_false_iff, Bool.not_eq_true, Int.not_lt, Int.not_le, ge_iff_le, gt_iff_lt] at h1)
        refine segEnd [1, 9, 26] (T1 := (mkT 28 [(1, vP 3 0), (9, vI 0), (26, .bool true)])) (H1 := [some ⟨nums A, 3, false, false⟩, some ⟨nums B, 3, false, false⟩, some ⟨nums C, 3, false, false⟩, rB [vN X, vN Y, vN Z, vS 0 A.length, vS 1 B.length, vS 2 C.length] 27]) (by kernel_rfl) ?_
        refine kSeq ?_
        refine cTrue (by kernel_rfl) ?_
        refine cSeq ?_
        refine cReg ?_
        refine segEndH [2] (T1 := (mkT 28 [(2, .bool false)])) (by kernel_rfl) ?_
        refine kSeq ?_
        refine cRet ?_
        refine kBlkR ?_
        refine kSeqR ?_
        refine kLoopR ?_
        refine kBlkR ?_
        refine kSeqR ?_
        -- end
        have he0 : (false : Bool) = shadB X Y Z A B C := by first | exact (shad_t (ho.2.2 (by omega)) (ho.2.1 (by omega)) (ho.1 (by omega))).symm | (symm; first | exact shad_3 (ones_len (by omega)) | exact shad_2 (ones_len (by omega)) | exact shad_1 (ones_len (by omega)) | exact shad_3 (ones_all (by assumption)) | exact shad_2 (ones_all (by assumption)) | exact shad_1 (ones_all (by assumption)) | exact shad_1 (by assumption) | exact shad_2 (by assumption) | exact shad_3 (by assumption) | exact shad_t (by assumption) (by assumption) (by assumption)) | (unfold shadB; simp_all; done)
        refine endCast (v1 := .bool false) (H1 := [some ⟨nums A, 3, false, false⟩, some ⟨nums B, 3, false, false⟩, some ⟨nums C, 3, false, false⟩]) (by first | rfl | ((try rw [← he0]); done) | (simp only [← he0]; done)) (by first | rfl | ((try rw [← he0]); done) | (simp only [← he0]; done)) ?_
        exact endQ (Or.inr rfl) (l := [.bool false]) [rB [vN X, vN Y, vN Z, vS 0 A.length, vS 1 B.length, vS 2 C.length] 27] (by kernel_rfl) (by first | rfl | kernel_rfl) rfl rfl hcl rfl
    ·
      refine cSeq ?_
      refine cReg ?_
      refine segEndH [1, 9, 10] (T1 := (mkT 28 [(1, vP 3 0), (9, vI 1), (10, .bool true)])) (by kernel_rfl) ?_
      refine kSeq ?_
      refine cSeq ?_
      refine cTrue (by kernel_rfl) ?_
      refine cSkip ?_
      refine kSeq ?_
      refine cSeq ?_
      refine cBlk ?_
      refine cSeq ?_
      refine cReg ?_
      refine segEndH [1, 3, 9] (T1 := (mkT 28 [(1, vP 3 0), (3, vI 1), (9, vI 1)])) (by kernel_rfl) ?_
      refine kSeq ?_
      refine cSeq ?_
      refine cReg ?_
      refine segH 2 (T1 := (mkT 28 [(1, vP 3 0), (3, vI 1), (9, vI 1), (12, .agg #[vN X, vN Y, vN Z, vS 0 A.length, vS 1 B.length, vS 2 C.length]), (13, vI 1)])) (by kernel_rfl) ?_
      refine rCall (v := vS 1 B.length) (args := [.agg #[vN X, vN Y, vN Z, vS 0 A.length, vS 1 B.length, vS 2 C.length], vI 1]) (by kernel_rfl) rfl (by kernel_rfl) (Sound.lay0 [0, 1, 2] (shList1 ((X : Nat) : Int) ((Y : Nat) : Int) ((Z : Nat) : Int) A B C) ⟨rdF false (flatNums _ _ _ _) rfl rfl, ⟨rdF false (flatNums _ _ _ _) rfl rfl, ⟨rdF false (flatNums _ _ _ _) rfl rfl, trivial⟩⟩⟩ rfl ⟨clF (flatNums _ _ _ _), ⟨clF (flatNums _ _ _ _), ⟨clF (flatNums _ _ _ _), trivial⟩⟩⟩ rfl (by first | rfl | simp [mpV, mpA, mpS, mpP, renId, shift]) rfl) ?_
      refine segEndH [1, 3, 4, 9] (T1 := (mkT 28 [(1, vP 3 0), (3, vI 1), (4, vS 1 B.length), (9, vI 1)])) (by kernel_rfl) ?_
      refine kSeq ?_
      refine cSeq ?_
      refine cReg ?_
      refine segH 3 (T1 := (mkT 28 [(1, vP 3 0), (3, vI 1), (4, vS 1 B.length), (9, vI 1), (15, vS 1 B.length), (16, vN B.length), (17, .agg #[vN X, vN Y, vN Z, vS 0 A.length, vS 1 B.length, vS 2 C.length])])) (by kernel_rfl) ?_
      refine rCall (v := .agg #[vN X, vN Y, vN Z]) (args := [.agg #[vN X, vN Y, vN Z, vS 0 A.length, vS 1 B.length, vS 2 C.length]]) (by kernel_rfl) rfl (by kernel_rfl) (Sound.lay0 [0, 1, 2] (shBox ((X : Nat) : Int) ((Y : Nat) : Int) ((Z : Nat) : Int) A B C) ⟨rdF false (flatNums _ _ _ _) rfl rfl, ⟨rdF false (flatNums _ _ _ _) rfl rfl, ⟨rdF false (flatNums _ _ _ _) rfl rfl, trivial⟩⟩⟩ rfl ⟨clF (flatNums _ _ _ _), ⟨clF (flatNums _ _ _ _), ⟨clF (flatNums _ _ _ _), trivial⟩⟩⟩ rfl (by first | rfl | simp [mpV, mpA, mpS, mpP, renId, shift]) (by first | rfl | simp [mpV, mpA, mpS, mpP, renId, shift])) ?_
      refine segH 1 (T1 := (mkT 28 [(1, vP 3 0), (3, vI 1), (4, vS 1 B.length), (9, vI 1), (15, vS 1 B.length), (16, vN B.length), (17, .agg #[vN X, vN Y, vN Z, vS 0 A.length, vS 1 B.length, vS 2 C.length]), (18, .agg #[vN X, vN Y, vN Z]), (19, vI 1)])) (by kernel_rfl) ?_
      refine rCall (v := vN (X * Z)) (args := [.agg #[vN X, vN Y, vN Z], vI 1]) (by kernel_rfl) rfl (by kernel_rfl) (Sound.lay0 [] (lines1 X Y Z (by first | assumption | omega | rfl | decide | exact HeapL.list _ _ _ _ | exact HeapL.nil _ _ _ | exact HeapL.all _ _ _ | (apply HeapL.lt64 <;> assumption) | (repeat' (first | assumption | apply or_lt64 | apply and_lt64 | apply andn_lt64 | apply pow_lt64 | (apply HeapL.lt64 <;> assumption))))) trivial rfl trivial rfl (by first | rfl | simp [mpV, mpA, mpS, mpP, renId, shift]) rfl) ?_
      refine segH 2 (T1 := (mkT 28 [(1, vP 3 0), (3, vI 1), (4, vS 1 B.length), (9, vI 1), (15, vS 1 B.length), (16, vN B.length), (17, .agg #[vN X, vN Y, vN Z, vS 0 A.length, vS 1 B.length, vS 2 C.length]), (18, .agg #[vN X, vN Y, vN Z]), (19, vI 1), (20, vN (X * Z)), (21, .bool (((B.length : Nat) : Int) != ((X * Z : Nat) : Int))), (22, .bool (((B.length : Nat) : Int) != ((X * Z : Nat) : Int)))])) (by kernel_rfl) ?_
      cases h3 : ((((B.length : Nat) : Int) != ((X * Z : Nat) : Int)) : Bool)
      ·
        have h3k := h3
        (try simp only [Bool.not_eq_true', Bool.not_eq_false', decide_eq_true_eq, decide_eq_false_iff_not, beq_iff_eq, bne_iff_ne, beq_eq_false_iff_ne, bne_eq_false_iff_eq, ne_eq, Decidable.not_not, Bool.and_eq_true, Bool.and_eq_false_imp, Bool.or_eq_true, Bool.or_eq_false_iff, Bool.not_eq_true, Int.not_lt, Int.not_le, ge_iff_le, gt_iff_lt] at h3)
        refine seg 1 (T1 := (mkT 28 [(1, vP 3 0), (3, vI 1), (4, vS 1 B.length), (9, vI 1), (15, vS 1 B.length), (16, vN B.length), (17, .agg #[vN X, vN Y, vN Z, vS 0 A.length, vS 1 B.length, vS 2 C.length]), (18, .agg #[vN X, vN Y, vN Z]), (19, vI 1), (20, vN (X * Z)), (21, .bool false), (22, .bool false), (23, vS 1 B.length)])) (H1 := [some ⟨nums A, 3, false, false⟩, some ⟨nums B, 3, false, false⟩, some ⟨nums C, 3, false, false⟩, rB [vN X, vN Y, vN Z, vS 0 A.length, vS 1 B.length, vS 2 C.length] 27]) (by kernel_rfl) ?_
        refine rCall (v := .bool (allB B 0 1)) (args := [vS 1 B.length, vI 0, vI 1]) (by kernel_rfl) rfl (by kernel_rfl) (Sound.lay0 [1] (allWithinN B 0 1 (by first | omega | assumption | (simp; done) | (simp; omega))) ⟨rdF false (flatNums _ _ _ _) rfl rfl, trivial⟩ rfl ⟨clF (flatNums _ _ _ _), trivial⟩ rfl (by first | rfl | simp [mpV, mpA, mpS, mpP, renId, shift]) rfl) ?_
        refine segEnd [1, 9, 26] (T1 := (mkT 28 [(1, vP 3 0), (9, vI 1), (26, .bool (!(allB B 0 1)))])) (H1 := [some ⟨nums A, 3, false, false⟩, some ⟨nums B, 3, false, false⟩, some ⟨nums C, 3, false, false⟩, rB [vN X, vN Y, vN Z, vS 0 A.length, vS 1 B.length, vS 2 C.length] 27]) (by kernel_rfl) ?_
        refine kSeq ?_
        cases h4 : (allB B 0 1 : Bool)
        ·
          have h4k := h4
          (try simp only [Bool.not_eq_true', Bool.not_eq_false', decide_eq_true_eq, decide_eq_false_iff_not, beq_iff_eq, bne_iff_ne, beq_eq_false_iff_ne, bne_eq_false_iff_eq, ne_eq, Decidable.not_not, Bool.and_eq_true, Bool.and_eq_false_imp, Bool.or_eq_true, Bool.or_eq_false_iff, Bool.not_eq_true, Int.not_lt, Int.not_le, ge_iff_le, gt_iff_lt] at h4)
          refine cTrue (by kernel_rfl) ?_
          refine cSeq ?_
          refine cReg ?_
          refine segEndH [2] (T1 := (mkT 28 [(2, .bool false)])) (by kernel_rfl) ?_
          refine kSeq ?_
          refine cRet ?_
          refine kBlkR ?_
          refine kSeqR ?_
          refine kLoopR ?_
          refine kBlkR ?_
          refine kSeqR ?_
          -- end
          have he0 : (false : Bool) = shadB X Y Z A B C := by first | exact (shad_t (ho.2.2 (by omega)) (ho.2.1 (by omega)) (ho.1 (by omega))).symm | (symm; first | exact shad_3 (ones_len (by omega)) | exact shad_2 (ones_len (by omega)) | exact shad_1 (ones_len (by omega)) | exact shad_3 (ones_all (by assumption)) | exact shad_2 (ones_all (by assumption)) | exact shad_1 (ones_all (by assumption)) | exact shad_1 (by assumption) | exact shad_2 (by assumption) | exact shad_3 (by assumption) | exact shad_t (by assumption) (by assumption) (by assumption)) | (unfold shadB; simp_all; done)
          refine endCast (v1 := .bool false) (H1 := [some ⟨nums A, 3, false, false⟩, some ⟨nums B, 3, false, false⟩, some ⟨nums C, 3, false, false⟩]) (by first | rfl | ((try rw [← he0]); done) | (simp only [← he0]; done)) (by first | rfl | ((try rw [← he0]); done) | (simp only [← he0]; done)) ?_
          exact endQ (Or.inr rfl) (l := [.bool false]) [rB [vN X, vN Y, vN Z, vS 0 A.length, vS 1 B.length, vS 2 C.length] 27] (by kernel_rfl) (by first | rfl | kernel_rfl) rfl rfl hcl rfl
        ·
          have h4k := h4
          (try simp only [Bool.not_eq_true', Bool.not_eq_false', decide_eq_true_eq, decide_eq_false_iff_not, beq_iff_eq, bne_iff_ne, beq_eq_false_iff_ne, bne_eq_false_iff_eq, ne_eq, Decidable.not_not, Bool.and_eq_true, Bool.and_eq_false_imp, Bool.or_eq_true, Bool.or_eq_false_iff, Bool.not_eq_true, Int.not_lt, Int.not_le, ge_iff_le, gt_iff_lt] at h4)
          refine cFalse (by kernel_rfl) ?_
          refine cSkip ?_
          refine kBlk ?_
          refine kSeq ?_
          refine cReg ?_
          refine segEndH [1, 9] (T1 := (mkT 28 [(1, vP 3 0), (9, vI 2)])) (by kernel_rfl) ?_
          exact kLoop (3 - 2) (mkT 28 [(1, vP 3 0), (9, vI 2)]) [some ⟨nums A, 3, false, false⟩, some ⟨nums B, 3, false, false⟩, some ⟨nums C, 3, false, false⟩, rB [vN X, vN Y, vN Z, vS 0 A.length, vS 1 B.length, vS 2 C.length] 27] (by omega) (wkSame [1, 9] (by kernel_rfl)) ⟨2, (by omega), (by refine ⟨fun _ => ?_, fun _ => ?_, fun _ => ?_⟩ <;> first | omega | exact ho.1 (by omega) | exact ho.2.1 (by omega) | exact ones_t (by assumption) (by omega) | exact ones_t rfl (by omega) | (refine ones_t ?_ (by omega); first | assumption | rfl)), rfl, rfl, rfl⟩
      ·
        have h3k := h3
        (try simp only [Bool.not_eq_true', Bool.not_eq_false', decide_eq_true_eq, decide_eq_false_iff_not, beq_iff_eq, bne_iff_ne, beq_eq_false_iff_ne, bne_eq_false_iff_eq, ne_eq, Decidable.not_not, Bool.and_eq_true, Bool.and_eq_false_imp, Bool.or_eq_true, Bool.or_eq_false_iff, Bool.not_eq_true, Int.not_lt, Int.not_le, ge_iff_le, gt_iff_lt] at h3)
        refine segEnd [1, 9, 26] (T1 := (mkT 28 [(1, vP 3 0), (9, vI 1), (26, .bool true)])) (H1 := [some ⟨nums A, 3, false, false⟩, some ⟨nums B, 3, false, false⟩, some ⟨nums C, 3, false, false⟩, rB [vN X, vN Y, vN Z, vS 0 A.length, vS 1 B.length, vS 2 C.length] 27]) (by kernel_rfl) ?_
        refine kSeq ?_
        refine cTrue (by kernel_rfl) ?_
        refine cSeq ?_
        refine cReg ?_
        refine segEndH [2] (T1 := (mkT 28 [(2, .bool false)])) (by kernel_rfl) ?_
        refine kSeq ?_
        refine cRet ?_
        refine kBlkR ?_
        refine kSeqR ?_
        refine kLoopR ?_
        refine kBlkR ?_
        refine kSeqR ?_
        -- end
        have he0 : (false : Bool) = shadB X Y Z A B C := by first | exact (shad_t (ho.2.2 (by omega)) (ho.2.1 (by omega)) (ho.1 (by omega))).symm | (symm; first | exact shad_3 (ones_len (by omega)) | exact shad_2 (ones_len (by omega)) | exact shad_1 (ones_len (by omega)) | exact shad_3 (ones_all (by assumption)) | exact shad_2 (ones_all (by assumption)) | exact shad_1 (ones_all (by assumption)) | exact shad_1 (by assumption) | exact shad_2 (by assumption) | exact shad_3 (by assumption) | exact shad_t (by assumption) (by assumption) (by assumption)) | (unfold shadB; simp_all; done)
        refine endCast (v1 := .bool false) (H1 := [some ⟨nums A, 3, false, false⟩, some ⟨nums B, 3, false, false⟩, some ⟨nums C, 3, false, false⟩]) (by first | rfl | ((try rw [← he0]); done) | (simp only [← he0]; done)) (by first | rfl | ((try rw [← he0]); done) | (simp only [← he0]; done)) ?_
        exact endQ (Or.inr rfl) (l := [.bool false]) [rB [vN X, vN Y, vN Z, vS 0 A.length, vS 1 B.length, vS 2 C.length] 27] (by kernel_rfl) (by first | rfl | kernel_rfl) rfl rfl hcl rfl
    ·
      refine cSeq ?_
      refine cReg ?_
      refine segEndH [1, 9, 10] (T1 := (mkT 28 [(1, vP 3 0), (9, vI 2), (10, .bool true)])) (by kernel_rfl) ?_
      refine kSeq ?_
      refine cSeq ?_
      refine cTrue (by kernel_rfl) ?_
      refine cSkip ?_
      refine kSeq ?_
      refine cSeq ?_
      refine cBlk ?_
      refine cSeq ?_
      refine cReg ?_
      refine segEndH [1, 3, 9] (T1 := (mkT 28 [(1, vP 3 0), (3, vI 2), (9, vI 2)])) (by kernel_rfl) ?_
      refine kSeq ?_
      refine cSeq ?_
      refine cReg ?_
      refine segH 2 (T1 := (mkT 28 [(1, vP 3 0), (3, vI 2), (9, vI 2), (12, .agg #[vN X, vN Y, vN Z, vS 0 A.length, vS 1 B.length, vS 2 C.length]), (13, vI 2)])) (by kernel_rfl) ?_
      refine rCall (v := vS 0 A.length) (args := [.agg #[vN X, vN Y, vN Z, vS 0 A.length, vS 1 B.length, vS 2 C.length], vI 2]) (by kernel_rfl) rfl (by kernel_rfl) (Sound.lay0 [0, 1, 2] (shList2 ((X : Nat) : Int) ((Y : Nat) : Int) ((Z : Nat) : Int) A B C) ⟨rdF false (flatNums _ _ _ _) rfl rfl, ⟨rdF false (flatNums _ _ _ _) rfl rfl, ⟨rdF false (flatNums _ _ _ _) rfl rfl, trivial⟩⟩⟩ rfl ⟨clF (flatNums _ _ _ _), ⟨clF (flatNums _ _ _ _), ⟨clF (flatNums _ _ _ _), trivial⟩⟩⟩ rfl (by first | rfl | simp [mpV, mpA, mpS, mpP, renId, shift]) rfl) ?_
      refine segEndH [1, 3, 4, 9] (T1 := (mkT 28 [(1, vP 3 0), (3, vI 2), (4, vS 0 A.length), (9, vI 2)])) (by kernel_rfl) ?_
      refine kSeq ?_
      refine cSeq ?_
      refine cReg ?_
      refine segH 3 (T1 := (mkT 28 [(1, vP 3 0), (3, vI 2), (4, vS 0 A.length), (9, vI 2), (15, vS 0 A.length), (16, vN A.length), (17, .agg #[vN X, vN Y, vN Z, vS 0 A.length, vS 1 B.length, vS 2 C.length])])) (by kernel_rfl) ?_
      refine rCall (v := .agg #[vN X, vN Y, vN Z]) (args := [.agg #[vN X, vN Y, vN Z, vS 0 A.length, vS 1 B.length, vS 2 C.length]]) (by kernel_rfl) rfl (by kernel_rfl) (Sound.lay0 [0, 1, 2] (shBox ((X : Nat) : Int) ((Y : Nat) : Int) ((Z : Nat) : Int) A B C) ⟨rdF false (flatNums _ _ _ _) rfl rfl, ⟨rdF false (flatNums _ _ _ _) rfl rfl, ⟨rdF false (flatNums _ _ _ _) rfl rfl, trivial⟩⟩⟩ rfl ⟨clF (flatNums _ _ _ _), ⟨clF (flatNums _ _ _ _), ⟨clF (flatNums _ _ _ _), trivial⟩⟩⟩ rfl (by first | rfl | simp [mpV, mpA, mpS, mpP, renId, shift]) (by first | rfl | simp [mpV, mpA, mpS, mpP, renId, shift])) ?_
      refine segH 1 (T1 := (mkT 28 [(1, vP 3 0), (3, vI 2), (4, vS 0 A.length), (9, vI 2), (15, vS 0 A.length), (16, vN A.length), (17, .agg #[vN X, vN Y, vN Z, vS 0 A.length, vS 1 B.length, vS 2 C.length]), (18, .agg #[vN X, vN Y, vN Z]), (19, vI 2)])) (by kernel_rfl) ?_
      refine rCall (v := vN (X * Y)) (args := [.agg #[vN X, vN Y, vN Z], vI 2]) (by kernel_rfl) rfl (by kernel_rfl) (Sound.lay0 [] (lines2 X Y Z (by first | assumption | omega | rfl | decide | exact HeapL.list _ _ _ _ | exact HeapL.nil _ _ _ | exact HeapL.all _ _ _ | (apply HeapL.lt64 <;> assumption) | (repeat' (first | assumption | apply or_lt64 | apply and_lt64 | apply andn_lt64 | apply pow_lt64 | (apply HeapL.lt64 <;> assumption))))) trivial rfl trivial rfl (by first | rfl | simp [mpV, mpA, mpS, mpP, renId, shift]) rfl) ?_
      refine segH 2 (T1 := (mkT 28 [(1, vP 3 0), (3, vI 2), (4, vS 0 A.length), (9, vI 2), (15, vS 0 A.length), (16, vN A.length), (17, .agg #[vN X, vN Y, vN Z, vS 0 A.length, vS 1 B.length, vS 2 C.length]), (18, .agg #[vN X, vN Y, vN Z]), (19, vI 2), (20, vN (X * Y)), (21, .bool (((A.length : Nat) : Int) != ((X * Y : Nat) : Int))), (22, .bool (((A.length : Nat) : Int) != ((X * Y : Nat) : Int)))])) (by kernel_rfl) ?_
      cases h5 : ((((A.length : Nat) : Int) != ((X * Y : Nat) : Int)) : Bool)
      ·
        have h5k := h5
        (try simp only [Bool.not_eq_true', Bool.not_eq_false', decide_eq_true_eq, decide_eq_false_iff_not, beq_iff_eq, bne_iff_ne, beq_eq_false_iff_ne, bne_eq_false_iff_eq, ne_eq, Decidable.not_not, Bool.and_eq_true, Bool.and_eq_false_imp, Bool.or_eq_true, Bool.or_eq_false_iff, Bool.not_eq_true, Int.not_lt, Int.not_le, ge_iff_le, gt_iff_lt] at h5)
        refine seg 1 (T1 := (mkT 28 [(1, vP 3 0), (3, vI 2), (4, vS 0 A.length), (9, vI 2), (15, vS 0 A.length), (16, vN A.length), (17, .agg #[vN X, vN Y, vN Z, vS 0 A.length, vS 1 B.length, vS 2 C.length]), (18, .agg #[vN X, vN Y, vN Z]), (19, vI 2), (20, vN (X * Y)), (21, .bool false), (22, .bool false), (23, vS 0 A.length)])) (H1 := [some ⟨nums A, 3, false, false⟩, some ⟨nums B, 3, false, false⟩, some ⟨nums C, 3, false, false⟩, rB [vN X, vN Y, vN Z, vS 0 A.length, vS 1 B.length, vS 2 C.length] 27]) (by kernel_rfl) ?_
        refine rCall (v := .bool (allB A 0 1)) (args := [vS 0 A.length, vI 0, vI 1]) (by kernel_rfl) rfl (by kernel_rfl) (Sound.lay0 [0] (allWithinN A 0 1 (by first | omega | assumption | (simp; done) | (simp; omega))) ⟨rdF false (flatNums _ _ _ _) rfl rfl, trivial⟩ rfl ⟨clF (flatNums _ _ _ _), trivial⟩ rfl (by first | rfl | simp [mpV, mpA, mpS, mpP, renId, shift]) rfl) ?_
        refine segEnd [1, 9, 26] (T1 := (mkT 28 [(1, vP 3 0), (9, vI 2), (26, .bool (!(allB A 0 1)))])) (H1 := [some ⟨nums A, 3, false, false⟩, some ⟨nums B, 3, false, false⟩, some ⟨nums C, 3, false, false⟩, rB [vN X, vN Y, vN Z, vS 0 A.length, vS 1 B.length, vS 2 C.length] 27]) (by kernel_rfl) ?_
        refine kSeq ?_
        cases h6 : (allB A 0 1 : Bool)
        ·
          have h6k := h6
          (try simp only [Bool.not_eq_true', Bool.not_eq_false', decide_eq_true_eq, decide_eq_false_iff_not, beq_iff_eq, bne_iff_ne, beq_eq_false_iff_ne, bne_eq_false_iff_eq, ne_eq, Decidable.not_not, Bool.and_eq_true, Bool.and_eq_false_imp, Bool.or_eq_true, Bool.or_eq_false_iff, Bool.not_eq_true, Int.not_lt, Int.not_le, ge_iff_le, gt_iff_lt] at h6)
          refine cTrue (by kernel_rfl) ?_
          refine cSeq ?_
          refine cReg ?_
          refine segEndH [2] (T1 := (mkT 28 [(2, .bool false)])) (by kernel_rfl) ?_
          refine kSeq ?_
          refine cRet ?_
          refine kBlkR ?_
          refine kSeqR ?_
          refine kLoopR ?_
          refine kBlkR ?_
          refine kSeqR ?_
          -- end
          have he0 : (false : Bool) = shadB X Y Z A B C := by first | exact (shad_t (ho.2.2 (by omega)) (ho.2.1 (by omega)) (ho.1 (by omega))).symm | (symm; first | exact shad_3 (ones_len (by omega)) | exact shad_2 (ones_len (by omega)) | exact shad_1 (ones_len (by omega)) | exact shad_3 (ones_all (by assumption)) | exact shad_2 (ones_all (by assumption)) | exact shad_1 (ones_all (by assumption)) | exact shad_1 (by assumption) | exact shad_2 (by assumption) | exact shad_3 (by assumption) | exact shad_t (by assumption) (by assumption) (by assumption)) | (unfold shadB; simp_all; done)
          refine endCast (v1 := .bool false) (H1 := [some ⟨nums A, 3, false, false⟩, some ⟨nums B, 3, false, false⟩, some ⟨nums C, 3, false, false⟩]) (by first | rfl | ((try rw [← he0]); done) | (simp only [← he0]; done)) (by first | rfl | ((try rw [← he0]); done) | (simp only [← he0]; done)) ?_
          exact endQ (Or.inr rfl) (l := [.bool false]) [rB [vN X, vN Y, vN Z, vS 0 A.length, vS 1 B.length, vS 2 C.length] 27] (by kernel_rfl) (by first | rfl | kernel_rfl) rfl rfl hcl rfl
        ·
          have h6k := h6
          (try simp only [Bool.not_eq_true', Bool.not_eq_false', decide_eq_true_eq, decide_eq_false_iff_not, beq_iff_eq, bne_iff_ne, beq_eq_false_iff_ne, bne_eq_false_iff_eq, ne_eq, Decidable.not_not, Bool.and_eq_true, Bool.and_eq_false_imp, Bool.or_eq_true, Bool.or_eq_false_iff, Bool.not_eq_true, Int.not_lt, Int.not_le, ge_iff_le, gt_iff_lt] at h6)
          refine cFalse (by kernel_rfl) ?_
          refine cSkip ?_
          refine kBlk ?_
          refine kSeq ?_
          refine cReg ?_
          refine segEndH [1, 9] (T1 := (mkT 28 [(1, vP 3 0), (9, vI 3)])) (by kernel_rfl) ?_
          exact kLoop (3 - 3) (mkT 28 [(1, vP 3 0), (9, vI 3)]) [some ⟨nums A, 3, false, false⟩, some ⟨nums B, 3, false, false⟩, some ⟨nums C, 3, false, false⟩, rB [vN X, vN Y, vN Z, vS 0 A.length, vS 1 B.length, vS 2 C.length] 27] (by omega) (wkSame [1, 9] (by kernel_rfl)) ⟨3, (by omega), (by refine ⟨fun _ => ?_, fun _ => ?_, fun _ => ?_⟩ <;> first | omega | exact ho.1 (by omega) | exact ho.2.1 (by omega) | exact ones_t (by assumption) (by omega) | exact ones_t rfl (by omega) | (refine ones_t ?_ (by omega); first | assumption | rfl)), rfl, rfl, rfl⟩
      ·
        have h5k := h5
        (try simp only [Bool.not_eq_true', Bool.not_eq_false', decide_eq_true_eq, decide_eq_false_iff_not, beq_iff_eq, bne_iff_ne, beq_eq_false_iff_ne, bne_eq_false_iff_eq, ne_eq, Decidable.not_not, Bool.and_eq_true, Bool.and_eq_false_imp, Bool.or_eq_true, Bool.or_eq_false_iff, Bool.not_eq_true, Int.not_lt, Int.not_le, ge_iff_le, gt_iff_lt] at h5)
        refine segEnd [1, 9, 26] (T1 := (mkT 28 [(1, vP 3 0), (9, vI 2), (26, .bool true)])) (H1 := [some ⟨nums A, 3, false, false⟩, some ⟨nums B, 3, false, false⟩, some ⟨nums C, 3, false, false⟩, rB [vN X, vN Y, vN Z, vS 0 A.length, vS 1 B.length, vS 2 C.length] 27]) (by kernel_rfl) ?_
        refine kSeq ?_
        refine cTrue (by kernel_rfl) ?_
        refine cSeq ?_
        refine cReg ?_
        refine segEndH [2] (T1 := (mkT 28 [(2, .bool false)])) (by kernel_rfl) ?_
        refine kSeq ?_
        refine cRet ?_
        refine kBlkR ?_
        refine kSeqR ?_
        refine kLoopR ?_
        refine kBlkR ?_
        refine kSeqR ?_
        -- end
        have he0 : (false : Bool) = shadB X Y Z A B C := by first | exact (shad_t (ho.2.2 (by omega)) (ho.2.1 (by omega)) (ho.1 (by omega))).symm | (symm; first | exact shad_3 (ones_len (by omega)) | exact shad_2 (ones_len (by omega)) | exact shad_1 (ones_len (by omega)) | exact shad_3 (ones_all (by assumption)) | exact shad_2 (ones_all (by assumption)) | exact shad_1 (ones_all (by assumption)) | exact shad_1 (by assumption) | exact shad_2 (by assumption) | exact shad_3 (by assumption) | exact shad_t (by assumption) (by assumption) (by assumption)) | (unfold shadB; simp_all; done)
        refine endCast (v1 := .bool false) (H1 := [some ⟨nums A, 3, false, false⟩, some ⟨nums B, 3, false, false⟩, some ⟨nums C, 3, false, false⟩]) (by first | rfl | ((try rw [← he0]); done) | (simp only [← he0]; done)) (by first | rfl | ((try rw [← he0]); done) | (simp only [← he0]; done)) ?_
        exact endQ (Or.inr rfl) (l := [.bool false]) [rB [vN X, vN Y, vN Z, vS 0 A.length, vS 1 B.length, vS 2 C.length] 27] (by kernel_rfl) (by first | rfl | kernel_rfl) rfl rfl hcl rfl
    ·
      refine cSeq ?_
      refine cReg ?_
      refine segEndH [1, 9, 10] (T1 := (mkT 28 [(1, vP 3 0), (9, vI 3), (10, .bool false)])) (by kernel_rfl) ?_
      refine kSeq ?_
      refine cSeq ?_
      refine cFalse (by kernel_rfl) ?_
      refine cExit ?_
      refine kSeqE ?_
      refine kLoopE ?_
      refine kBlkHit ?_
      refine kSeq ?_
      refine cSeq ?_
      refine cReg ?_
      refine segEndH [2] (T1 := (mkT 28 [(2, .bool true)])) (by kernel_rfl) ?_
      refine kSeq ?_
      refine cRet ?_
      -- end
      have he0 : (true : Bool) = shadB X Y Z A B C := by first | exact (shad_t (ho.2.2 (by omega)) (ho.2.1 (by omega)) (ho.1 (by omega))).symm | (symm; first | exact shad_3 (ones_len (by omega)) | exact shad_2 (ones_len (by omega)) | exact shad_1 (ones_len (by omega)) | exact shad_3 (ones_all (by assumption)) | exact shad_2 (ones_all (by assumption)) | exact shad_1 (ones_all (by assumption)) | exact shad_1 (by assumption) | exact shad_2 (by assumption) | exact shad_3 (by assumption) | exact shad_t (by assumption) (by assumption) (by assumption)) | (unfold shadB; simp_all; done)
      refine endCast (v1 := .bool true) (H1 := [some ⟨nums A, 3, false, false⟩, some ⟨nums B, 3, false, false⟩, some ⟨nums C, 3, false, false⟩]) (by first | rfl | ((try rw [← he0]); done) | (simp only [← he0]; done)) (by first | rfl | ((try rw [← he0]); done) | (simp only [← he0]; done)) ?_
      exact endQ (Or.inr rfl) (l := [.bool true]) [rB [vN X, vN Y, vN Z, vS 0 A.length, vS 1 B.length, vS 2 C.length] 27] (by kernel_rfl) (by first | rfl | kernel_rfl) rfl rfl hcl rfl

end Go.Proofs.Ytbheeobnghlckaa
