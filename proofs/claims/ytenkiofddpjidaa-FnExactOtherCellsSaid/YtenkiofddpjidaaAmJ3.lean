/- Walks. No condition. -/
import Derived.Test.YtenkiofddpjidaaAmJ2
set_option linter.unusedVariables false
set_option linter.unusedSimpArgs false
namespace Go.Proofs.Ytenkiofddpjidaa
open Go.Am Go.RowKit
set_option maxRecDepth 100000 in
set_option maxHeartbeats 4000000 in
theorem specOtherCells_no (x : Int) (y : Int) (z : Int) (L : List A3) (hl : L.length ≤ 1048576) (hv : isHeapB x y z L = false) : Sound Try.prog 32 [.agg #[vI x, vI y, vI z, vS 0 L.length]] [some ⟨a3s L, 25, false, false⟩] (.tuple #[.agg #[vI 0, vI 0, vI 0, .slice none 0 0], .bool false]) [some ⟨a3s L, 25, false, false⟩] := by
  refine sound_intro (C := cx) Try.func32 rfl (by kernel_rfl) fun hcl => ?_
  refine cSeq ?_
  refine cReg ?_
  refine segEnd [1, 2] (T1 := (mkT 43 [(1, vP 1 0), (2, vP 2 0)])) (H1 := [some ⟨a3s L, 25, false, false⟩, rB [vI x, vI y, vI z, vS 0 L.length] 29, rB [vI 0, vI 0, vI 0, .slice none 0 0] 29]) (by kernel_rfl) ?_
  refine kSeq ?_
  refine cSeq ?_
  refine cSeq ?_
  refine cReg ?_
  refine segH 1 (T1 := (mkT 43 [(1, vP 1 0), (2, vP 2 0), (7, .agg #[vI x, vI y, vI z, vS 0 L.length])])) (by kernel_rfl) ?_
  refine rCall (v := .bool false) (args := [.agg #[vI x, vI y, vI z, vS 0 L.length]]) (by kernel_rfl) rfl (by kernel_rfl) (Sound.lay0 [0] (l2HeapB_no x y z L (by first | assumption | omega | rfl | decide | exact HeapL.list _ _ _ _ | exact HeapL.nil _ _ _ | exact HeapL.all _ _ _ | (apply HeapL.lt64 <;> assumption) | (repeat' (first | assumption | apply or_lt64 | apply and_lt64 | apply andn_lt64 | apply pow_lt64 | (apply HeapL.lt64 <;> assumption)))) (by first | assumption | omega | rfl | decide | exact HeapL.list _ _ _ _ | exact HeapL.nil _ _ _ | exact HeapL.all _ _ _ | (apply HeapL.lt64 <;> assumption) | (repeat' (first | assumption | apply or_lt64 | apply and_lt64 | apply andn_lt64 | apply pow_lt64 | (apply HeapL.lt64 <;> assumption))))) ⟨rdF false (flatA3 _ _ _ _) rfl rfl, trivial⟩ rfl ⟨clF (flatA3 _ _ _ _), trivial⟩ rfl (by first | rfl | simp [mpV, mpA, mpS, mpP, renId, shift]) rfl) ?_
  refine segEndH [1, 2, 9] (T1 := (mkT 43 [(1, vP 1 0), (2, vP 2 0), (9, .bool true)])) (by kernel_rfl) ?_
  refine kSeq ?_
  refine cTrue (by kernel_rfl) ?_
  refine cSeq ?_
  refine cReg ?_
  refine segEnd [2, 3] (T1 := (mkT 43 [(2, vP 2 0), (3, .bool false)])) (H1 := [some ⟨a3s L, 25, false, false⟩, rB [vI x, vI y, vI z, vS 0 L.length] 29, rB [vI 0, vI 0, vI 0, .slice none 0 0] 29]) (by kernel_rfl) ?_
  refine kSeq ?_
  refine cRet ?_
  refine kSeqR ?_
  -- end
  exact endQ (Or.inr rfl) (l := [.agg #[vI 0, vI 0, vI 0, .slice none 0 0], .bool false]) [rB [vI x, vI y, vI z, vS 0 L.length] 29, rB [vI 0, vI 0, vI 0, .slice none 0 0] 29] (by kernel_rfl) (by first | rfl | kernel_rfl) rfl rfl hcl rfl

set_option maxRecDepth 100000 in
set_option maxHeartbeats 4000000 in
theorem specOtherCells_yes (X : Nat) (Y : Nat) (Z : Nat) (L : List A3) (hs : Sides X Y Z) (hL : HeapL X Y Z L) : Sound Try.prog 32 [.agg #[vN X, vN Y, vN Z, vS 0 L.length]] [some ⟨a3s L, 25, false, false⟩] (.tuple #[.agg #[vN X, vN Y, vN Z, vS 1 ((listOf X Y Z (andn (2 ^ (X * Y * Z) - 1) (setOf Y Z L))).length)], .bool true]) [some ⟨a3s L, 25, false, false⟩, some ⟨a3s (listOf X Y Z (andn (2 ^ (X * Y * Z) - 1) (setOf Y Z L))), 25, false, true⟩] := by
  refine sound_intro (C := cx) Try.func32 rfl (by kernel_rfl) fun hcl => ?_
  have hz := hs.size
  have hx0 := hs.x0
  have hx4 := hs.x4
  have hy0 := hs.y0
  have hy4 := hs.y4
  have hz0 := hs.z0
  have hz4 := hs.z4
  have hlen := hL.len
  have hlt := hL.lt64 hs
  have hall := allOf_length X Y Z
  have hfull : 2 ^ (X * Y * Z) - 1 < 18446744073709551616 := by have := hs.pow; have := Nat.two_pow_pos (X * Y * Z); omega
  refine cSeq ?_
  refine cReg ?_
  refine segEnd [1, 2] (T1 := (mkT 43 [(1, vP 1 0), (2, vP 2 0)])) (H1 := [some ⟨a3s L, 25, false, false⟩, rB [vN X, vN Y, vN Z, vS 0 L.length] 29, rB [vI 0, vI 0, vI 0, .slice none 0 0] 29]) (by kernel_rfl) ?_
  refine kSeq ?_
  refine cSeq ?_
  refine cSeq ?_
  refine cReg ?_
  refine segH 1 (T1 := (mkT 43 [(1, vP 1 0), (2, vP 2 0), (7, .agg #[vN X, vN Y, vN Z, vS 0 L.length])])) (by kernel_rfl) ?_
  refine rCall (v := .bool true) (args := [.agg #[vN X, vN Y, vN Z, vS 0 L.length]]) (by kernel_rfl) rfl (by kernel_rfl) (Sound.lay0 [0] (l2HeapB X Y Z L (by first | assumption | omega | rfl | decide | exact HeapL.list _ _ _ _ | exact HeapL.nil _ _ _ | exact HeapL.all _ _ _ | (apply HeapL.lt64 <;> assumption) | (repeat' (first | assumption | apply or_lt64 | apply and_lt64 | apply andn_lt64 | apply pow_lt64 | (apply HeapL.lt64 <;> assumption)))) (by first | assumption | omega | rfl | decide | exact HeapL.list _ _ _ _ | exact HeapL.nil _ _ _ | exact HeapL.all _ _ _ | (apply HeapL.lt64 <;> assumption) | (repeat' (first | assumption | apply or_lt64 | apply and_lt64 | apply andn_lt64 | apply pow_lt64 | (apply HeapL.lt64 <;> assumption))))) ⟨rdF false (flatA3 _ _ _ _) rfl rfl, trivial⟩ rfl ⟨clF (flatA3 _ _ _ _), trivial⟩ rfl (by first | rfl | simp [mpV, mpA, mpS, mpP, renId, shift]) rfl) ?_
  refine segEndH [1, 2, 9] (T1 := (mkT 43 [(1, vP 1 0), (2, vP 2 0), (9, .bool false)])) (by kernel_rfl) ?_
  refine kSeq ?_
  refine cFalse (by kernel_rfl) ?_
  refine cSkip ?_
  refine kSeq ?_
  refine cSeq ?_
  refine cRegW (N := 6) [⟨[], [], []⟩, ⟨[], [], [1]⟩, ⟨[], [], []⟩, ⟨[], [], [1]⟩, ⟨[], [], []⟩, ⟨[], [], [1]⟩, ⟨[3], [], []⟩, ⟨[], [], [1]⟩, ⟨[4], [], [0]⟩, ⟨[5], [], []⟩, ⟨[], [5], []⟩, ⟨[], [], []⟩] 3 [3, 4, 5] (by rfl) (by rfl) (by kernel_rfl) (by kernel_rfl) (by kernel_rfl) ⟨nmsF (flatA3 _ _ _ _), ⟨nmsX (by kernel_rfl), ⟨nmsX (by kernel_rfl), trivial⟩⟩⟩ ?_
  refine segWH 6 (T1 := (mkT 43 [(1, vP 1 0), (2, vP 2 0), (9, .bool false), (11, vP 1 0), (12, vN X), (13, vP 1 1), (14, vN Y), (15, vP 1 2), (16, vN Z)])) (by kernel_rfl) ?_
  refine rW (m := ⟨[3], [], []⟩) (v := .agg #[vN X, vN Y, vN Z, vS 3 0]) rfl (by kernel_rfl) (stN (i := 3) (E := [some ⟨[], 25, false, true⟩]) (v1 := .agg #[vN X, vN Y, vN Z, vS 6 0]) (args := [vN X, vN Y, vN Z]) rfl (by kernel_rfl) (Any.lay [] (l2EmptyB ((X : Nat) : Int) ((Y : Nat) : Int) ((Z : Nat) : Int)) trivial rfl trivial rfl (by first | rfl | simp [mpV, mpA, mpS, mpP, renId, shift]) (by first | rfl | simp [mpV, mpA, mpS, mpP, renId, shift]) ⟨enX rfl (Or.inl rfl), trivial⟩) rfl (by kernel_rfl) (by kernel_rfl) (by kernel_rfl) (by kernel_rfl) (FlatH.cons (flatRow_of rfl) FlatH.nil)) (by kernel_rfl) (NRs.all ⟨nrOf (by rfl) (nmX (by kernel_rfl)), trivial⟩) ?_
  refine segWH 1 (T1 := (mkT 43 [(1, vP 1 0), (2, vP 2 0), (9, .bool false), (11, vP 1 0), (12, vN X), (13, vP 1 1), (14, vN Y), (15, vP 1 2), (16, vN Z), (17, .agg #[vN X, vN Y, vN Z, vS 3 0]), (18, .agg #[vN X, vN Y, vN Z, vS 0 L.length])])) (by kernel_rfl) ?_
  refine rW (m := ⟨[4], [], [0]⟩) (v := vS 4 ((allOf X Y Z).length)) rfl (by kernel_rfl) (stN (i := 4) (E := [some ⟨a3s (allOf X Y Z), 25, false, true⟩]) (v1 := vS 6 ((allOf X Y Z).length)) (args := [.agg #[vN X, vN Y, vN Z, vS 0 L.length]]) rfl (by kernel_rfl) (Any.lay [0] (l2AllB X Y Z L (by first | assumption | omega | rfl | decide | exact HeapL.list _ _ _ _ | exact HeapL.nil _ _ _ | exact HeapL.all _ _ _ | (apply HeapL.lt64 <;> assumption) | (repeat' (first | assumption | apply or_lt64 | apply and_lt64 | apply andn_lt64 | apply pow_lt64 | (apply HeapL.lt64 <;> assumption))))) ⟨rdF false (flatA3 _ _ _ _) rfl rfl, trivial⟩ rfl ⟨clF (flatA3 _ _ _ _), trivial⟩ rfl (by first | rfl | simp [mpV, mpA, mpS, mpP, renId, shift]) rfl ⟨enF (flatA3 _ _ _ _) (Or.inl rfl), trivial⟩) rfl (by kernel_rfl) (by kernel_rfl) (by kernel_rfl) (by kernel_rfl) (FlatH.cons (flatA3 _ _ _ _) FlatH.nil)) (by kernel_rfl) (NRs.all ⟨nrOf (by rfl) (nmF (flatA3 _ _ _ _)), trivial⟩) ?_
  refine rW (m := ⟨[5], [], []⟩) (v := vP 5 0) rfl (by kernel_rfl) (stNew (i := 5) (v1 := vP 6 0) (r := ⟨[vI 0, vI 0, vI 0, .slice none 0 0], 29, true, true⟩) (by kernel_rfl) rfl (by kernel_rfl) (by kernel_rfl) (by kernel_rfl) (by kernel_rfl) (nmX (by kernel_rfl)) (clX (by kernel_rfl))) (by kernel_rfl) (NRs.all ⟨nrOf (by rfl) (nmX (by kernel_rfl)), trivial⟩) ?_
  refine rW (m := ⟨[], [5], []⟩) (v := .tuple #[]) rfl (by kernel_rfl) (stSet (b := 5) (r := ⟨[vN X, vN Y, vN Z, vS 3 0], 29, true, true⟩) (by kernel_rfl) rfl (by kernel_rfl) (by kernel_rfl) (by kernel_rfl) (by kernel_rfl) (nmX (by kernel_rfl)) (clX (by kernel_rfl))) (by kernel_rfl) (NRs.all ⟨nrOf (by rfl) (nmX (by kernel_rfl)), trivial⟩) ?_
  refine segEndW [1, 2, 4, 5] (T1 := (mkT 43 [(1, vP 1 0), (2, vP 2 0), (4, vP 5 0), (5, vS 4 ((allOf X Y Z).length))])) (H1 := [some ⟨a3s L, 25, false, false⟩, rB [vN X, vN Y, vN Z, vS 0 L.length] 29, rB [vI 0, vI 0, vI 0, .slice none 0 0] 29, some ⟨[], 25, false, true⟩, some ⟨a3s (allOf X Y Z), 25, false, true⟩, rB [vN X, vN Y, vN Z, vS 3 0] 29]) (by kernel_rfl) ?_
  refine kSeq ?_
  refine cSeq ?_
  refine cSeq ?_
  refine cReg ?_
  refine segEndH [1, 2, 4, 5, 6] (T1 := (mkT 43 [(1, vP 1 0), (2, vP 2 0), (4, vP 5 0), (5, vS 4 ((allOf X Y Z).length)), (6, vI 0)])) (by kernel_rfl) ?_
  refine kSeq ?_
  refine cBlk ?_
  -- loop
  refine cLoop (fun mm T H => ∃ i : Nat, ∃ M : List A3, (i ≤ (allOf X Y Z).length) ∧ (M = ((allOf X Y Z).take i).filter (fun d => !hasL L d.x d.y d.z)) ∧ mm = (allOf X Y Z).length - i ∧ T = (mkT 43 [(1, vP 1 0), (2, vP 2 0), (4, vP 5 0), (5, vS 4 ((allOf X Y Z).length)), (6, vN i)]) ∧ H = [some ⟨a3s L, 25, false, false⟩, rB [vN X, vN Y, vN Z, vS 0 L.length] 29, rB [vI 0, vI 0, vI 0, .slice none 0 0] 29, some ⟨a3s M, 25, false, true⟩, some ⟨a3s (allOf X Y Z), 25, false, true⟩, rB [vN X, vN Y, vN Z, vS 3 M.length] 29]) ((allOf X Y Z).length - 0) (mkT 43 [(1, vP 1 0), (2, vP 2 0), (4, vP 5 0), (5, vS 4 ((allOf X Y Z).length)), (6, vI 0)]) [some ⟨a3s L, 25, false, false⟩, rB [vN X, vN Y, vN Z, vS 0 L.length] 29, rB [vI 0, vI 0, vI 0, .slice none 0 0] 29, some ⟨a3s ([] : List A3), 25, false, true⟩, some ⟨a3s (allOf X Y Z), 25, false, true⟩, rB [vN X, vN Y, vN Z, vS 3 (([] : List A3).length)] 29] (wkSame [1, 2, 4, 5, 6] (by kernel_rfl)) ?_ ?_
  · exact ⟨0, ([] : List A3), (Nat.zero_le _), (by simp), rfl, rfl, rfl⟩
  · rintro _ _ _ ⟨i, M, hi, hM, rfl, rfl, rfl⟩
    have hml : M.length ≤ i := (by rw [hM]; exact Nat.le_trans (List.length_filter_le _ _) (by simp; omega))
    refine cSeq ?_
    refine cSeq ?_
    refine cReg ?_
    refine segEndH [1, 2, 4, 5, 6, 23] (T1 := (mkT 43 [(1, vP 1 0), (2, vP 2 0), (4, vP 5 0), (5, vS 4 ((allOf X Y Z).length)), (6, vN i), (23, .bool (decide (((i : Nat) : Int) < (((allOf X Y Z).length : Nat) : Int))))])) (by kernel_rfl) ?_
    refine kSeq ?_
    cases h1 : (decide (((i : Nat) : Int) < (((allOf X Y Z).length : Nat) : Int)) : Bool)
    ·
      have h1k := h1
      (try simp only [Bool.not_eq_true', Bool.not_eq_false', decide_eq_true_eq, decide_eq_false_iff_not, beq_iff_eq, bne_iff_ne, beq_eq_false_iff_ne, bne_eq_false_iff_eq, ne_eq, Decidable.not_not, Bool.and_eq_true, Bool.and_eq_false_imp, Bool.or_eq_true, Bool.or_eq_false_iff, Bool.not_eq_true, Int.not_lt, Int.not_le, ge_iff_le, gt_iff_lt] at h1)
      refine cFalse (by kernel_rfl) ?_
      refine cExit ?_
      refine kSeqE ?_
      refine kLoopE ?_
      refine kBlkHit ?_
      refine kSeq ?_
      refine cSeq ?_
      refine cReg ?_
      refine segEnd [2, 3] (T1 := (mkT 43 [(2, vP 2 0), (3, .bool true)])) (H1 := [some ⟨a3s L, 25, false, false⟩, rB [vN X, vN Y, vN Z, vS 0 L.length] 29, rB [vN X, vN Y, vN Z, vS 3 M.length] 29, some ⟨a3s M, 25, false, true⟩, some ⟨a3s (allOf X Y Z), 25, false, true⟩, rB [vN X, vN Y, vN Z, vS 3 M.length] 29]) (by kernel_rfl) ?_
      refine kSeq ?_
      refine cRet ?_
      -- end
      have he0 : (M : List A3) = (listOf X Y Z (andn (2 ^ (X * Y * Z) - 1) (setOf Y Z L))) := by (rw [hM, take_end (by omega)]; exact others_end hs hL)
      refine endCast (v1 := .tuple #[.agg #[vN X, vN Y, vN Z, vS 1 M.length], .bool true]) (H1 := [some ⟨a3s L, 25, false, false⟩, some ⟨a3s M, 25, false, true⟩]) (by first | rfl | ((try rw [← he0]); done) | (simp only [← he0]; done)) (by first | rfl | ((try rw [← he0]); done) | (simp only [← he0]; done)) ?_
      exact endF (Or.inr rfl) (l := [.agg #[vN X, vN Y, vN Z, vS 3 M.length], .bool true]) [0, 3] (by kernel_rfl) (by first | rfl | simp [packR, mpV, mpA, mpS, mpP, renId]) ⟨rrF (flatA3 _ _ _ _) rfl, ⟨rrF (flatA3 _ _ _ _) rfl, trivial⟩⟩ rfl rfl
    ·
      have h1k := h1
      (try simp only [Bool.not_eq_true', Bool.not_eq_false', decide_eq_true_eq, decide_eq_false_iff_not, beq_iff_eq, bne_iff_ne, beq_eq_false_iff_ne, bne_eq_false_iff_eq, ne_eq, Decidable.not_not, Bool.and_eq_true, Bool.and_eq_false_imp, Bool.or_eq_true, Bool.or_eq_false_iff, Bool.not_eq_true, Int.not_lt, Int.not_le, ge_iff_le, gt_iff_lt] at h1)
      refine cTrue (by kernel_rfl) ?_
      refine cSkip ?_
      refine kSeq ?_
      refine cSeq ?_
      refine cBlk ?_
      refine cSeq ?_
      refine cRegW (N := 6) [⟨[], [], [1]⟩, ⟨[], [], []⟩, ⟨[], [], []⟩, ⟨[], [], []⟩, ⟨[], [], [4]⟩, ⟨[], [], [0]⟩, ⟨[], [], []⟩] 0 [] (by rfl) (by rfl) (by kernel_rfl) (by kernel_rfl) (by kernel_rfl) ⟨nmsF (flatA3 _ _ _ _), ⟨nmsX (by kernel_rfl), ⟨nmsX (by kernel_rfl), ⟨nmsF (flatA3 _ _ _ _), ⟨nmsF (flatA3 _ _ _ _), ⟨nmsX (by kernel_rfl), trivial⟩⟩⟩⟩⟩⟩ ?_
      refine segWH 3 (T1 := (mkT 43 [(1, vP 1 0), (2, vP 2 0), (4, vP 5 0), (5, vS 4 ((allOf X Y Z).length)), (6, vN i), (23, .bool true), (26, .agg #[vN X, vN Y, vN Z, vS 0 L.length]), (27, vS 4 ((allOf X Y Z).length)), (28, vN i)])) (by kernel_rfl) ?_
      refine rW (m := ⟨[], [], []⟩) (v := vP 4 (i * 3)) rfl (by kernel_rfl) (stId (eIdxS (ad := ⟨4, 0, none⟩) (n := ((allOf X Y Z).length)) (m := 0) (k := .i64) (c := ((i : Nat) : Int)) (j := i) (o := i * 3) (by kernel_rfl) (by kernel_rfl) ti22 ti25 (rfl) (by omega) (by exact Nat.zero_add _)) rfl (by kernel_rfl) (by kernel_rfl) (by kernel_rfl)) (by kernel_rfl) nr0 ?_
      refine rW (m := ⟨[], [], [4]⟩) (v := .agg #[vI (((allOf X Y Z).getD i default).x), vI (((allOf X Y Z).getD i default).y), vI (((allOf X Y Z).getD i default).z)]) rfl (by kernel_rfl) (stId (eLdA3 (ad := ⟨4, i * 3, none⟩) (r := ⟨a3s (allOf X Y Z), 25, false, true⟩) (L := (allOf X Y Z)) (j := i) (by kernel_rfl) (by kernel_rfl) rfl (by first | rfl | omega) (by omega) ti25) rfl (by kernel_rfl) (by kernel_rfl) (by kernel_rfl)) (by kernel_rfl) nr0 ?_
      refine rW (m := ⟨[], [], [0]⟩) (v := .bool (hasL L (((allOf X Y Z).getD i default).x) (((allOf X Y Z).getD i default).y) (((allOf X Y Z).getD i default).z))) rfl (by kernel_rfl) (stQ (args := [.agg #[vN X, vN Y, vN Z, vS 0 L.length], .agg #[vI (((allOf X Y Z).getD i default).x), vI (((allOf X Y Z).getD i default).y), vI (((allOf X Y Z).getD i default).z)]]) rfl (by kernel_rfl) (Any.lay0 [0] (l2HasB X Y Z L (((allOf X Y Z).getD i default).x) (((allOf X Y Z).getD i default).y) (((allOf X Y Z).getD i default).z) (by first | assumption | omega | rfl | decide | exact HeapL.list _ _ _ _ | exact HeapL.nil _ _ _ | exact HeapL.all _ _ _ | (apply HeapL.lt64 <;> assumption) | (repeat' (first | assumption | apply or_lt64 | apply and_lt64 | apply andn_lt64 | apply pow_lt64 | (apply HeapL.lt64 <;> assumption)))) (by first | assumption | omega | rfl | decide | exact HeapL.list _ _ _ _ | exact HeapL.nil _ _ _ | exact HeapL.all _ _ _ | (apply HeapL.lt64 <;> assumption) | (repeat' (first | assumption | apply or_lt64 | apply and_lt64 | apply andn_lt64 | apply pow_lt64 | (apply HeapL.lt64 <;> assumption))))) ⟨rdF false (flatA3 _ _ _ _) rfl rfl, trivial⟩ rfl ⟨clF (flatA3 _ _ _ _), trivial⟩ rfl (by first | rfl | simp [mpV, mpA, mpS, mpP, renId, shift]) rfl) rfl (by kernel_rfl) (by kernel_rfl)) (by kernel_rfl) nr0 ?_
      refine segEndWH [1, 2, 4, 5, 6, 32] (T1 := (mkT 43 [(1, vP 1 0), (2, vP 2 0), (4, vP 5 0), (5, vS 4 ((allOf X Y Z).length)), (6, vN i), (32, .bool (!(hasL L (((allOf X Y Z).getD i default).x) (((allOf X Y Z).getD i default).y) (((allOf X Y Z).getD i default).z))))])) (by kernel_rfl) ?_
      refine kSeq ?_
      cases h2 : (hasL L (((allOf X Y Z).getD i default).x) (((allOf X Y Z).getD i default).y) (((allOf X Y Z).getD i default).z) : Bool)
      ·
        have h2k := h2
        (try simp only [Bool.not_eq_true', Bool.not_eq_false', decide_eq_true_eq, decide_eq_false_iff_not, beq_iff_eq, bne_iff_ne, beq_eq_false_iff_ne, bne_eq_false_iff_eq, ne_eq, Decidable.not_not, Bool.and_eq_true, Bool.and_eq_false_imp, Bool.or_eq_true, Bool.or_eq_false_iff, Bool.not_eq_true, Int.not_lt, Int.not_le, ge_iff_le, gt_iff_lt] at h2)
        refine cTrue (by kernel_rfl) ?_
        refine cRegW (N := 8) [⟨[], [], []⟩, ⟨[], [], [5]⟩, ⟨[], [], []⟩, ⟨[], [], []⟩, ⟨[], [], []⟩, ⟨[], [], [4]⟩, ⟨[6], [], []⟩, ⟨[7], [3], [6]⟩, ⟨[], [], []⟩, ⟨[], [5], []⟩] 2 [6, 7] (by rfl) (by rfl) (by kernel_rfl) (by kernel_rfl) (by kernel_rfl) ⟨nmsF (flatA3 _ _ _ _), ⟨nmsX (by kernel_rfl), ⟨nmsX (by kernel_rfl), ⟨nmsF (flatA3 _ _ _ _), ⟨nmsF (flatA3 _ _ _ _), ⟨nmsX (by kernel_rfl), trivial⟩⟩⟩⟩⟩⟩ ?_
        refine segWH 4 (T1 := (mkT 43 [(1, vP 1 0), (2, vP 2 0), (4, vP 5 0), (5, vS 4 ((allOf X Y Z).length)), (6, vN i), (32, .bool true), (33, vP 5 3), (34, vS 3 M.length), (35, vS 4 ((allOf X Y Z).length)), (36, vN i)])) (by kernel_rfl) ?_
        refine rW (m := ⟨[], [], []⟩) (v := vP 4 (i * 3)) rfl (by kernel_rfl) (stId (eIdxS (ad := ⟨4, 0, none⟩) (n := ((allOf X Y Z).length)) (m := 0) (k := .i64) (c := ((i : Nat) : Int)) (j := i) (o := i * 3) (by kernel_rfl) (by kernel_rfl) ti22 ti25 (rfl) (by omega) (by exact Nat.zero_add _)) rfl (by kernel_rfl) (by kernel_rfl) (by kernel_rfl)) (by kernel_rfl) nr0 ?_
        refine rW (m := ⟨[], [], [4]⟩) (v := .agg #[vI (((allOf X Y Z).getD i default).x), vI (((allOf X Y Z).getD i default).y), vI (((allOf X Y Z).getD i default).z)]) rfl (by kernel_rfl) (stId (eLdA3 (ad := ⟨4, i * 3, none⟩) (r := ⟨a3s (allOf X Y Z), 25, false, true⟩) (L := (allOf X Y Z)) (j := i) (by kernel_rfl) (by kernel_rfl) rfl (by first | rfl | omega) (by omega) ti25) rfl (by kernel_rfl) (by kernel_rfl) (by kernel_rfl)) (by kernel_rfl) nr0 ?_
        refine rW (m := ⟨[6], [], []⟩) (v := vS 6 1) rfl (by kernel_rfl) (stNew (i := 6) (v1 := vS 8 1) (r := ⟨[vI (((allOf X Y Z).getD i default).x), vI (((allOf X Y Z).getD i default).y), vI (((allOf X Y Z).getD i default).z)], 25, false, true⟩) (by kernel_rfl) rfl (by kernel_rfl) (by kernel_rfl) (by kernel_rfl) (by kernel_rfl) (nmX (by kernel_rfl)) (clX (by kernel_rfl))) (by kernel_rfl) (NRs.all ⟨nrOf (by rfl) (nmX (by kernel_rfl)), trivial⟩) ?_
        refine rW (m := ⟨[7], [3], [6]⟩) (v := vS 7 ((M ++ [((allOf X Y Z).getD i default)]).length)) rfl (by kernel_rfl) (stApp (i := 7) (b := 3) (v1 := vS 8 ((M ++ [((allOf X Y Z).getD i default)]).length)) (r := ⟨a3s (M ++ [((allOf X Y Z).getD i default)]), 25, false, true⟩) (eAppA3 (b := 3) (a := 6) (L := M) (c := ((allOf X Y Z).getD i default)) (r := ⟨[vI (((allOf X Y Z).getD i default).x), vI (((allOf X Y Z).getD i default).y), vI (((allOf X Y Z).getD i default).z)], 25, false, true⟩) (m := 0) (by kernel_rfl) (by kernel_rfl) ti22 ti25 rfl rfl (by decide) (by kernel_rfl) (by kernel_rfl) rfl (by first | omega | (simp <;> omega)) rfl) rfl (by kernel_rfl) (by kernel_rfl) (by kernel_rfl) (by kernel_rfl) (nmF (flatA3 _ _ _ _)) (clF (flatA3 _ _ _ _))) (by kernel_rfl) (NRs.all ⟨nrOf (by rfl) (nmF (flatA3 _ _ _ _)), ⟨nrNone (by rfl), trivial⟩⟩) ?_
        refine segWH 1 (T1 := (mkT 43 [(1, vP 1 0), (2, vP 2 0), (4, vP 5 0), (5, vS 4 ((allOf X Y Z).length)), (6, vN i), (32, .bool true), (33, vP 5 3), (34, vS 3 M.length), (35, vS 4 ((allOf X Y Z).length)), (36, vN i), (37, vP 4 (i * 3)), (38, .agg #[vI (((allOf X Y Z).getD i default).x), vI (((allOf X Y Z).getD i default).y), vI (((allOf X Y Z).getD i default).z)]), (39, vS 6 1), (40, vS 7 ((M ++ [((allOf X Y Z).getD i default)]).length)), (41, vP 5 3)])) (by kernel_rfl) ?_
        refine rW (m := ⟨[], [5], []⟩) (v := .tuple #[]) rfl (by kernel_rfl) (stSet (b := 5) (r := ⟨[vN X, vN Y, vN Z, vS 7 ((M ++ [((allOf X Y Z).getD i default)]).length)], 29, true, true⟩) (by kernel_rfl) rfl (by kernel_rfl) (by kernel_rfl) (by kernel_rfl) (by kernel_rfl) (nmX (by kernel_rfl)) (clX (by kernel_rfl))) (by kernel_rfl) (NRs.all ⟨nrOf (by rfl) (nmX (by kernel_rfl)), trivial⟩) ?_
        refine segEndW [1, 2, 4, 5, 6] (T1 := (mkT 43 [(1, vP 1 0), (2, vP 2 0), (4, vP 5 0), (5, vS 4 ((allOf X Y Z).length)), (6, vN i)])) (H1 := [some ⟨a3s L, 25, false, false⟩, rB [vN X, vN Y, vN Z, vS 0 L.length] 29, rB [vI 0, vI 0, vI 0, .slice none 0 0] 29, none, some ⟨a3s (allOf X Y Z), 25, false, true⟩, rB [vN X, vN Y, vN Z, vS 7 ((M ++ [((allOf X Y Z).getD i default)]).length)] 29, some ⟨[vI (((allOf X Y Z).getD i default).x), vI (((allOf X Y Z).getD i default).y), vI (((allOf X Y Z).getD i default).z)], 25, false, true⟩, some ⟨a3s (M ++ [((allOf X Y Z).getD i default)]), 25, false, true⟩]) (by kernel_rfl) ?_
        refine kBlk ?_
        refine kSeq ?_
        refine cReg ?_
        refine segH 1 (T1 := (mkT 43 [(1, vP 1 0), (2, vP 2 0), (4, vP 5 0), (5, vS 4 ((allOf X Y Z).length)), (6, vN i), (24, vN i)])) (by kernel_rfl) ?_
        refine rOp (v := vN (i + 1)) (by kernel_rfl) (eAdd (k := .i64) (a := ((i : Nat) : Int)) (b := 1) (c := ((i + 1 : Nat) : Int)) (by kernel_rfl) (by kernel_rfl) (wr64 (by omega) (by omega) (by omega))) ?_
        refine segEndH [1, 2, 4, 5, 6] (T1 := (mkT 43 [(1, vP 1 0), (2, vP 2 0), (4, vP 5 0), (5, vS 4 ((allOf X Y Z).length)), (6, vN (i + 1))])) (by kernel_rfl) ?_
        exact kLoop ((allOf X Y Z).length - (i + 1)) (mkT 43 [(1, vP 1 0), (2, vP 2 0), (4, vP 5 0), (5, vS 4 ((allOf X Y Z).length)), (6, vN (i + 1))]) [some ⟨a3s L, 25, false, false⟩, rB [vN X, vN Y, vN Z, vS 0 L.length] 29, rB [vI 0, vI 0, vI 0, .slice none 0 0] 29, some ⟨a3s (M ++ [((allOf X Y Z).getD i default)]), 25, false, true⟩, some ⟨a3s (allOf X Y Z), 25, false, true⟩, rB [vN X, vN Y, vN Z, vS 3 ((M ++ [((allOf X Y Z).getD i default)]).length)] 29] (by omega) (wkRen [0, 1, 2, 7, 4, 5] [1, 2, 4, 5, 6] ⟨rrF (flatA3 _ _ _ _) rfl, ⟨rrX rfl rfl, ⟨rrX rfl rfl, ⟨rrF (flatA3 _ _ _ _) rfl, ⟨rrF (flatA3 _ _ _ _) rfl, ⟨rrX rfl rfl, trivial⟩⟩⟩⟩⟩⟩ rfl (by kernel_rfl) rfl) ⟨(i + 1), (M ++ [((allOf X Y Z).getD i default)]), (by omega), (by first | (rw [hM]; exact take_filter_yes (by omega) (notB_t (by assumption))) | (rw [hM]; exact take_filter_no (by omega) (notB_f (by assumption)))), rfl, rfl, rfl⟩
      ·
        have h2k := h2
        (try simp only [Bool.not_eq_true', Bool.not_eq_false', decide_eq_true_eq, decide_eq_false_iff_not, beq_iff_eq, bne_iff_ne, beq_eq_false_iff_ne, bne_eq_false_iff_eq, ne_eq, Decidable.not_not, Bool.and_eq_true, Bool.and_eq_false_imp, Bool.or_eq_true, Bool.or_eq_false_iff, Bool.not_eq_true, Int.not_lt, Int.not_le, ge_iff_le, gt_iff_lt] at h2)
        refine cFalse (by kernel_rfl) ?_
        refine cSkip ?_
        refine kBlk ?_
        refine kSeq ?_
        refine cReg ?_
        refine segH 1 (T1 := (mkT 43 [(1, vP 1 0), (2, vP 2 0), (4, vP 5 0), (5, vS 4 ((allOf X Y Z).length)), (6, vN i), (24, vN i), (32, .bool false)])) (by kernel_rfl) ?_
        refine rOp (v := vN (i + 1)) (by kernel_rfl) (eAdd (k := .i64) (a := ((i : Nat) : Int)) (b := 1) (c := ((i + 1 : Nat) : Int)) (by kernel_rfl) (by kernel_rfl) (wr64 (by omega) (by omega) (by omega))) ?_
        refine segEndH [1, 2, 4, 5, 6] (T1 := (mkT 43 [(1, vP 1 0), (2, vP 2 0), (4, vP 5 0), (5, vS 4 ((allOf X Y Z).length)), (6, vN (i + 1))])) (by kernel_rfl) ?_
        exact kLoop ((allOf X Y Z).length - (i + 1)) (mkT 43 [(1, vP 1 0), (2, vP 2 0), (4, vP 5 0), (5, vS 4 ((allOf X Y Z).length)), (6, vN (i + 1))]) [some ⟨a3s L, 25, false, false⟩, rB [vN X, vN Y, vN Z, vS 0 L.length] 29, rB [vI 0, vI 0, vI 0, .slice none 0 0] 29, some ⟨a3s M, 25, false, true⟩, some ⟨a3s (allOf X Y Z), 25, false, true⟩, rB [vN X, vN Y, vN Z, vS 3 M.length] 29] (by omega) (wkSame [1, 2, 4, 5, 6] (by kernel_rfl)) ⟨(i + 1), M, (by omega), (by first | (rw [hM]; exact take_filter_yes (by omega) (notB_t (by assumption))) | (rw [hM]; exact take_filter_no (by omega) (notB_f (by assumption)))), rfl, rfl, rfl⟩

set_option maxRecDepth 100000 in
set_option maxHeartbeats 4000000 in
theorem implOtherCells_no (x : Int) (y : Int) (z : Int) (L : List A3) (hl : L.length ≤ 1048576) (hv : isHeapB x y z L = false) : Sound Try.prog 33 [.agg #[vI x, vI y, vI z, vS 0 L.length]] [some ⟨a3s L, 25, false, false⟩] (.tuple #[.agg #[vI 0, vI 0, vI 0, .slice none 0 0], .bool false]) [some ⟨a3s L, 25, false, false⟩] := by
  refine sound_intro (C := cx) Try.func33 rfl (by kernel_rfl) fun hcl => ?_
  refine cSeq ?_
  refine cReg ?_
  refine segEnd [1, 2] (T1 := (mkT 17 [(1, vP 1 0), (2, vP 2 0)])) (H1 := [some ⟨a3s L, 25, false, false⟩, rB [vI x, vI y, vI z, vS 0 L.length] 29, rB [vI 0, vI 0, vI 0, .slice none 0 0] 29]) (by kernel_rfl) ?_
  refine kSeq ?_
  refine cSeq ?_
  refine cSeq ?_
  refine cReg ?_
  refine segH 1 (T1 := (mkT 17 [(1, vP 1 0), (2, vP 2 0), (4, .agg #[vI x, vI y, vI z, vS 0 L.length])])) (by kernel_rfl) ?_
  refine rCall (v := .bool false) (args := [.agg #[vI x, vI y, vI z, vS 0 L.length]]) (by kernel_rfl) rfl (by kernel_rfl) (Sound.lay0 [0] (isHeapBt_no x y z L (by first | assumption | omega | rfl | decide | exact HeapL.list _ _ _ _ | exact HeapL.nil _ _ _ | exact HeapL.all _ _ _ | (apply HeapL.lt64 <;> assumption) | (repeat' (first | assumption | apply or_lt64 | apply and_lt64 | apply andn_lt64 | apply pow_lt64 | (apply HeapL.lt64 <;> assumption)))) (by first | assumption | omega | rfl | decide | exact HeapL.list _ _ _ _ | exact HeapL.nil _ _ _ | exact HeapL.all _ _ _ | (apply HeapL.lt64 <;> assumption) | (repeat' (first | assumption | apply or_lt64 | apply and_lt64 | apply andn_lt64 | apply pow_lt64 | (apply HeapL.lt64 <;> assumption))))) ⟨rdF false (flatA3 _ _ _ _) rfl rfl, trivial⟩ rfl ⟨clF (flatA3 _ _ _ _), trivial⟩ rfl (by first | rfl | simp [mpV, mpA, mpS, mpP, renId, shift]) rfl) ?_
  refine segEndH [1, 2, 6] (T1 := (mkT 17 [(1, vP 1 0), (2, vP 2 0), (6, .bool true)])) (by kernel_rfl) ?_
  refine kSeq ?_
  refine cTrue (by kernel_rfl) ?_
  refine cSeq ?_
  refine cReg ?_
  refine segEnd [2, 3] (T1 := (mkT 17 [(2, vP 2 0), (3, .bool false)])) (H1 := [some ⟨a3s L, 25, false, false⟩, rB [vI x, vI y, vI z, vS 0 L.length] 29, rB [vI 0, vI 0, vI 0, .slice none 0 0] 29]) (by kernel_rfl) ?_
  refine kSeq ?_
  refine cRet ?_
  refine kSeqR ?_
  -- end
  exact endQ (Or.inr rfl) (l := [.agg #[vI 0, vI 0, vI 0, .slice none 0 0], .bool false]) [rB [vI x, vI y, vI z, vS 0 L.length] 29, rB [vI 0, vI 0, vI 0, .slice none 0 0] 29] (by kernel_rfl) (by first | rfl | kernel_rfl) rfl rfl hcl rfl

set_option maxRecDepth 100000 in
set_option maxHeartbeats 4000000 in
theorem implOtherCells_yes (X : Nat) (Y : Nat) (Z : Nat) (L : List A3) (hs : Sides X Y Z) (hL : HeapL X Y Z L) : Sound Try.prog 33 [.agg #[vN X, vN Y, vN Z, vS 0 L.length]] [some ⟨a3s L, 25, false, false⟩] (.tuple #[.agg #[vN X, vN Y, vN Z, vS 1 ((listOf X Y Z (andn (2 ^ (X * Y * Z) - 1) (setOf Y Z L))).length)], .bool true]) [some ⟨a3s L, 25, false, false⟩, some ⟨a3s (listOf X Y Z (andn (2 ^ (X * Y * Z) - 1) (setOf Y Z L))), 25, false, true⟩] := by
  refine sound_intro (C := cx) Try.func33 rfl (by kernel_rfl) fun hcl => ?_
  have hz := hs.size
  have hx0 := hs.x0
  have hx4 := hs.x4
  have hy0 := hs.y0
  have hy4 := hs.y4
  have hz0 := hs.z0
  have hz4 := hs.z4
  have hlen := hL.len
  have hlt := hL.lt64 hs
  have hall := allOf_length X Y Z
  have hfull : 2 ^ (X * Y * Z) - 1 < 18446744073709551616 := by have := hs.pow; have := Nat.two_pow_pos (X * Y * Z); omega
  refine cSeq ?_
  refine cReg ?_
  refine segEnd [1, 2] (T1 := (mkT 17 [(1, vP 1 0), (2, vP 2 0)])) (H1 := [some ⟨a3s L, 25, false, false⟩, rB [vN X, vN Y, vN Z, vS 0 L.length] 29, rB [vI 0, vI 0, vI 0, .slice none 0 0] 29]) (by kernel_rfl) ?_
  refine kSeq ?_
  refine cSeq ?_
  refine cSeq ?_
  refine cReg ?_
  refine segH 1 (T1 := (mkT 17 [(1, vP 1 0), (2, vP 2 0), (4, .agg #[vN X, vN Y, vN Z, vS 0 L.length])])) (by kernel_rfl) ?_
  refine rCall (v := .bool true) (args := [.agg #[vN X, vN Y, vN Z, vS 0 L.length]]) (by kernel_rfl) rfl (by kernel_rfl) (Sound.lay0 [0] (isHeapBt X Y Z L (by first | assumption | omega | rfl | decide | exact HeapL.list _ _ _ _ | exact HeapL.nil _ _ _ | exact HeapL.all _ _ _ | (apply HeapL.lt64 <;> assumption) | (repeat' (first | assumption | apply or_lt64 | apply and_lt64 | apply andn_lt64 | apply pow_lt64 | (apply HeapL.lt64 <;> assumption)))) (by first | assumption | omega | rfl | decide | exact HeapL.list _ _ _ _ | exact HeapL.nil _ _ _ | exact HeapL.all _ _ _ | (apply HeapL.lt64 <;> assumption) | (repeat' (first | assumption | apply or_lt64 | apply and_lt64 | apply andn_lt64 | apply pow_lt64 | (apply HeapL.lt64 <;> assumption))))) ⟨rdF false (flatA3 _ _ _ _) rfl rfl, trivial⟩ rfl ⟨clF (flatA3 _ _ _ _), trivial⟩ rfl (by first | rfl | simp [mpV, mpA, mpS, mpP, renId, shift]) rfl) ?_
  refine segEndH [1, 2, 6] (T1 := (mkT 17 [(1, vP 1 0), (2, vP 2 0), (6, .bool false)])) (by kernel_rfl) ?_
  refine kSeq ?_
  refine cFalse (by kernel_rfl) ?_
  refine cSkip ?_
  refine kSeq ?_
  refine cSeq ?_
  refine cRegW (N := 4) [⟨[], [], [1]⟩, ⟨[], [], [0]⟩, ⟨[], [], [1]⟩, ⟨[], [], [0]⟩, ⟨[], [], []⟩, ⟨[], [], [1]⟩, ⟨[], [], [0]⟩, ⟨[], [], []⟩, ⟨[3], [], []⟩, ⟨[], [2], []⟩, ⟨[], [], []⟩] 1 [3] (by rfl) (by rfl) (by kernel_rfl) (by kernel_rfl) (by kernel_rfl) ⟨nmsF (flatA3 _ _ _ _), ⟨nmsX (by kernel_rfl), ⟨nmsX (by kernel_rfl), trivial⟩⟩⟩ ?_
  refine segWH 1 (T1 := (mkT 17 [(1, vP 1 0), (2, vP 2 0), (6, .bool false), (8, .agg #[vN X, vN Y, vN Z, vS 0 L.length])])) (by kernel_rfl) ?_
  refine rW (m := ⟨[], [], [0]⟩) (v := .agg #[vN X, vN Y, vN Z]) rfl (by kernel_rfl) (stQ (args := [.agg #[vN X, vN Y, vN Z, vS 0 L.length]]) rfl (by kernel_rfl) (Any.lay0 [0] (boxB ((X : Nat) : Int) ((Y : Nat) : Int) ((Z : Nat) : Int) L) ⟨rdF false (flatA3 _ _ _ _) rfl rfl, trivial⟩ rfl ⟨clF (flatA3 _ _ _ _), trivial⟩ rfl (by first | rfl | simp [mpV, mpA, mpS, mpP, renId, shift]) (by first | rfl | simp [mpV, mpA, mpS, mpP, renId, shift])) rfl (by kernel_rfl) (by kernel_rfl)) (by kernel_rfl) nr0 ?_
  refine segWH 1 (T1 := (mkT 17 [(1, vP 1 0), (2, vP 2 0), (6, .bool false), (8, .agg #[vN X, vN Y, vN Z, vS 0 L.length]), (9, .agg #[vN X, vN Y, vN Z]), (10, .agg #[vN X, vN Y, vN Z, vS 0 L.length])])) (by kernel_rfl) ?_
  refine rW (m := ⟨[], [], [0]⟩) (v := .agg #[vN X, vN Y, vN Z]) rfl (by kernel_rfl) (stQ (args := [.agg #[vN X, vN Y, vN Z, vS 0 L.length]]) rfl (by kernel_rfl) (Any.lay0 [0] (boxB ((X : Nat) : Int) ((Y : Nat) : Int) ((Z : Nat) : Int) L) ⟨rdF false (flatA3 _ _ _ _) rfl rfl, trivial⟩ rfl ⟨clF (flatA3 _ _ _ _), trivial⟩ rfl (by first | rfl | simp [mpV, mpA, mpS, mpP, renId, shift]) (by first | rfl | simp [mpV, mpA, mpS, mpP, renId, shift])) rfl (by kernel_rfl) (by kernel_rfl)) (by kernel_rfl) nr0 ?_
  refine rW (m := ⟨[], [], []⟩) (v := vU (2 ^ (X * Y * Z) - 1)) rfl (by kernel_rfl) (stQ (args := [.agg #[vN X, vN Y, vN Z]]) rfl (by kernel_rfl) (Any.lay0 [] (fullB X Y Z (by first | assumption | omega | rfl | decide | exact HeapL.list _ _ _ _ | exact HeapL.nil _ _ _ | exact HeapL.all _ _ _ | (apply HeapL.lt64 <;> assumption) | (repeat' (first | assumption | apply or_lt64 | apply and_lt64 | apply andn_lt64 | apply pow_lt64 | (apply HeapL.lt64 <;> assumption))))) trivial rfl trivial rfl (by first | rfl | simp [mpV, mpA, mpS, mpP, renId, shift]) rfl) rfl (by kernel_rfl) (by kernel_rfl)) (by kernel_rfl) nr0 ?_
  refine segWH 1 (T1 := (mkT 17 [(1, vP 1 0), (2, vP 2 0), (6, .bool false), (8, .agg #[vN X, vN Y, vN Z, vS 0 L.length]), (9, .agg #[vN X, vN Y, vN Z]), (10, .agg #[vN X, vN Y, vN Z, vS 0 L.length]), (11, .agg #[vN X, vN Y, vN Z]), (12, vU (2 ^ (X * Y * Z) - 1)), (13, .agg #[vN X, vN Y, vN Z, vS 0 L.length])])) (by kernel_rfl) ?_
  refine rW (m := ⟨[], [], [0]⟩) (v := vU (setOf Y Z L)) rfl (by kernel_rfl) (stQ (args := [.agg #[vN X, vN Y, vN Z, vS 0 L.length]]) rfl (by kernel_rfl) (Any.lay0 [0] (cubesB X Y Z L (by first | assumption | omega | rfl | decide | exact HeapL.list _ _ _ _ | exact HeapL.nil _ _ _ | exact HeapL.all _ _ _ | (apply HeapL.lt64 <;> assumption) | (repeat' (first | assumption | apply or_lt64 | apply and_lt64 | apply andn_lt64 | apply pow_lt64 | (apply HeapL.lt64 <;> assumption)))) (by first | assumption | omega | rfl | decide | exact HeapL.list _ _ _ _ | exact HeapL.nil _ _ _ | exact HeapL.all _ _ _ | (apply HeapL.lt64 <;> assumption) | (repeat' (first | assumption | apply or_lt64 | apply and_lt64 | apply andn_lt64 | apply pow_lt64 | (apply HeapL.lt64 <;> assumption))))) ⟨rdF false (flatA3 _ _ _ _) rfl rfl, trivial⟩ rfl ⟨clF (flatA3 _ _ _ _), trivial⟩ rfl (by first | rfl | simp [mpV, mpA, mpS, mpP, renId, shift]) rfl) rfl (by kernel_rfl) (by kernel_rfl)) (by kernel_rfl) nr0 ?_
  refine rW (m := ⟨[], [], []⟩) (v := vU (andn (2 ^ (X * Y * Z) - 1) (setOf Y Z L))) rfl (by kernel_rfl) (stId (eOp (k := .u64) (a := ((2 ^ (X * Y * Z) - 1 : Nat) : Int)) (b := ((setOf Y Z L : Nat) : Int)) (by kernel_rfl) (by kernel_rfl) ⟨by decide, by decide⟩ (andnU (2 ^ (X * Y * Z) - 1) (setOf Y Z L) (by first | assumption | omega | (repeat' (first | assumption | omega | apply or_lt64 | apply and_lt64 | apply andn_lt64 | apply pow_lt64 | (apply HeapL.lt64 <;> assumption)))) (by first | assumption | omega | (repeat' (first | assumption | omega | apply or_lt64 | apply and_lt64 | apply andn_lt64 | apply pow_lt64 | (apply HeapL.lt64 <;> assumption)))))) rfl (by kernel_rfl) (by kernel_rfl) (by kernel_rfl)) (by kernel_rfl) nr0 ?_
  refine rW (m := ⟨[3], [], []⟩) (v := .agg #[vN X, vN Y, vN Z, vS 3 ((listOf X Y Z (andn (2 ^ (X * Y * Z) - 1) (setOf Y Z L))).length)]) rfl (by kernel_rfl) (stN (i := 3) (E := [some ⟨a3s (listOf X Y Z (andn (2 ^ (X * Y * Z) - 1) (setOf Y Z L))), 25, false, true⟩]) (v1 := .agg #[vN X, vN Y, vN Z, vS 4 ((listOf X Y Z (andn (2 ^ (X * Y * Z) - 1) (setOf Y Z L))).length)]) (args := [.agg #[vN X, vN Y, vN Z], vU (andn (2 ^ (X * Y * Z) - 1) (setOf Y Z L))]) rfl (by kernel_rfl) (Any.lay [] (heapB X Y Z (andn (2 ^ (X * Y * Z) - 1) (setOf Y Z L)) (by first | assumption | omega | rfl | decide | exact HeapL.list _ _ _ _ | exact HeapL.nil _ _ _ | exact HeapL.all _ _ _ | (apply HeapL.lt64 <;> assumption) | (repeat' (first | assumption | apply or_lt64 | apply and_lt64 | apply andn_lt64 | apply pow_lt64 | (apply HeapL.lt64 <;> assumption)))) (by first | assumption | omega | rfl | decide | exact HeapL.list _ _ _ _ | exact HeapL.nil _ _ _ | exact HeapL.all _ _ _ | (apply HeapL.lt64 <;> assumption) | (repeat' (first | assumption | apply or_lt64 | apply and_lt64 | apply andn_lt64 | apply pow_lt64 | (apply HeapL.lt64 <;> assumption))))) trivial rfl trivial rfl (by first | rfl | simp [mpV, mpA, mpS, mpP, renId, shift]) (by first | rfl | simp [mpV, mpA, mpS, mpP, renId, shift]) ⟨enF (flatA3 _ _ _ _) (Or.inl rfl), trivial⟩) rfl (by kernel_rfl) (by kernel_rfl) (by kernel_rfl) (by kernel_rfl) (FlatH.cons (flatA3 _ _ _ _) FlatH.nil)) (by kernel_rfl) (NRs.all ⟨nrOf (by rfl) (nmF (flatA3 _ _ _ _)), trivial⟩) ?_
  refine rW (m := ⟨[], [2], []⟩) (v := .tuple #[]) rfl (by kernel_rfl) (stSet (b := 2) (r := ⟨[vN X, vN Y, vN Z, vS 3 ((listOf X Y Z (andn (2 ^ (X * Y * Z) - 1) (setOf Y Z L))).length)], 29, true, true⟩) (by kernel_rfl) rfl (by kernel_rfl) (by kernel_rfl) (by kernel_rfl) (by kernel_rfl) (nmX (by kernel_rfl)) (clX (by kernel_rfl))) (by kernel_rfl) (NRs.all ⟨nrOf (by rfl) (nmX (by kernel_rfl)), trivial⟩) ?_
  refine segEndW [2, 3] (T1 := (mkT 17 [(2, vP 2 0), (3, .bool true)])) (H1 := [some ⟨a3s L, 25, false, false⟩, rB [vN X, vN Y, vN Z, vS 0 L.length] 29, rB [vN X, vN Y, vN Z, vS 3 ((listOf X Y Z (andn (2 ^ (X * Y * Z) - 1) (setOf Y Z L))).length)] 29, some ⟨a3s (listOf X Y Z (andn (2 ^ (X * Y * Z) - 1) (setOf Y Z L))), 25, false, true⟩]) (by kernel_rfl) ?_
  refine kSeq ?_
  refine cRet ?_
  -- end
  exact endF (Or.inr rfl) (l := [.agg #[vN X, vN Y, vN Z, vS 3 ((listOf X Y Z (andn (2 ^ (X * Y * Z) - 1) (setOf Y Z L))).length)], .bool true]) [0, 3] (by kernel_rfl) (by first | rfl | simp [packR, mpV, mpA, mpS, mpP, renId]) ⟨rrF (flatA3 _ _ _ _) rfl, ⟨rrF (flatA3 _ _ _ _) rfl, trivial⟩⟩ rfl rfl
end Go.Proofs.Ytenkiofddpjidaa
