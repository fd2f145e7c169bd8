/- Walks. No condition. -/
import Derived.Test.YtenkiofddpjidaaAmJ5
set_option linter.unusedVariables false
set_option linter.unusedSimpArgs false
namespace Go.Proofs.Ytenkiofddpjidaa
open Go.Am Go.RowKit
set_option maxRecDepth 100000 in
set_option maxHeartbeats 4000000 in
theorem isDirB (k : Int)  : Sound Try.prog 88 [vI k] [] (.bool (inR k 0 2)) [] := by
  refine sound_intro (C := cx) Try.func88 rfl (by kernel_rfl) fun hcl => ?_
  refine cSeq ?_
  refine cReg ?_
  refine segEndH [0] (T1 := (mkT 5 [(0, vI k)])) (by kernel_rfl) ?_
  refine kSeq ?_
  refine cSeq ?_
  refine cReg ?_
  refine segH 1 (T1 := (mkT 5 [(0, vI k), (3, vI k)])) (by kernel_rfl) ?_
  refine rCall (v := .bool (inR k 0 2)) (args := [vI k, vI 0, vI 2]) (by kernel_rfl) rfl (by kernel_rfl) (Sound.lay0 [] (withinB k 0 2) trivial rfl trivial rfl (by first | rfl | simp [mpV, mpA, mpS, mpP, renId, shift]) rfl) ?_
  refine segEndH [2] (T1 := (mkT 5 [(2, .bool (inR k 0 2))])) (by kernel_rfl) ?_
  refine kSeq ?_
  refine cRet ?_
  -- end
  exact endQ (Or.inr rfl) (l := [.bool (inR k 0 2)]) [] (by kernel_rfl) (by first | rfl | kernel_rfl) rfl rfl hcl rfl

set_option maxRecDepth 100000 in
set_option maxHeartbeats 4000000 in
theorem l2Long0 (x : Int) (y : Int) (z : Int) (L : List A3)  : Sound Try.prog 103 [.agg #[vI x, vI y, vI z, vS 0 L.length], vI 0] [some ⟨a3s L, 25, false, false⟩] (vI x) [some ⟨a3s L, 25, false, false⟩] := by
  refine sound_intro (C := cx) Try.func103 rfl (by kernel_rfl) fun hcl => ?_
  refine cSeq ?_
  refine cReg ?_
  refine segEnd [1, 2] (T1 := (mkT 14 [(1, vI 0), (2, vP 1 0)])) (H1 := [some ⟨a3s L, 25, false, false⟩, rB [vI x, vI y, vI z, vS 0 L.length] 29]) (by kernel_rfl) ?_
  refine kSeq ?_
  refine cSeq ?_
  refine cReg ?_
  refine segEndH [4] (T1 := (mkT 14 [(4, vI x)])) (by kernel_rfl) ?_
  refine kSeq ?_
  refine cRet ?_
  -- end
  exact endQ (Or.inr rfl) (l := [vI x]) [rB [vI x, vI y, vI z, vS 0 L.length] 29] (by kernel_rfl) (by first | rfl | kernel_rfl) rfl rfl hcl rfl

set_option maxRecDepth 100000 in
set_option maxHeartbeats 4000000 in
theorem l2Mirrored0 (X : Nat) (Y : Nat) (Z : Nat) (L : List A3) (hs : Sides X Y Z) (hL : HeapL X Y Z L) : Sound Try.prog 87 [.agg #[vN X, vN Y, vN Z, vS 0 L.length], vI 0] [some ⟨a3s L, 25, false, false⟩] (.agg #[vN X, vN Y, vN Z, vS 1 ((listOf X Y Z (setOf Y Z (L.map (mir X Y Z 0)))).length)]) [some ⟨a3s L, 25, false, false⟩, some ⟨a3s (listOf X Y Z (setOf Y Z (L.map (mir X Y Z 0)))), 25, false, true⟩] := by
  refine sound_intro (C := cx) Try.func87 rfl (by kernel_rfl) fun hcl => ?_
  have hz := hs.size
  have hx0 := hs.x0
  have hx4 := hs.x4
  have hy0 := hs.y0
  have hy4 := hs.y4
  have hz0 := hs.z0
  have hz4 := hs.z4
  have hlen := hL.len
  have hlt := hL.lt64 hs
  refine cSeq ?_
  refine cReg ?_
  refine segEnd [1, 2, 4] (T1 := (mkT 41 [(1, vI 0), (2, vP 1 0), (4, vP 2 0)])) (H1 := [some ⟨a3s L, 25, false, false⟩, rB [vN X, vN Y, vN Z, vS 0 L.length] 29, rB [vI 0, vI 0, vI 0, .slice none 0 0] 29]) (by kernel_rfl) ?_
  refine kSeq ?_
  refine cSeq ?_
  refine cReg ?_
  refine segH 6 (T1 := (mkT 41 [(1, vI 0), (2, vP 1 0), (4, vP 2 0), (8, vP 1 0), (9, vN X), (10, vP 1 1), (11, vN Y), (12, vP 1 2), (13, vN Z)])) (by kernel_rfl) ?_
  refine rCall (v := .agg #[vN X, vN Y, vN Z, vS 3 0]) (args := [vN X, vN Y, vN Z]) (by kernel_rfl) rfl (by kernel_rfl) (Sound.lay (E := [some ⟨[], 25, false, true⟩]) [] (l2EmptyB ((X : Nat) : Int) ((Y : Nat) : Int) ((Z : Nat) : Int)) trivial rfl trivial rfl (by first | rfl | simp [mpV, mpA, mpS, mpP, renId, shift]) (by first | rfl | simp [mpV, mpA, mpS, mpP, renId, shift]) ⟨enX rfl (Or.inl rfl), trivial⟩) ?_
  refine segEnd [1, 2, 4, 5] (T1 := (mkT 41 [(1, vI 0), (2, vP 1 0), (4, vP 2 0), (5, vP 4 0)])) (H1 := [some ⟨a3s L, 25, false, false⟩, rB [vN X, vN Y, vN Z, vS 0 L.length] 29, rB [vI 0, vI 0, vI 0, .slice none 0 0] 29, some ⟨[], 25, false, true⟩, rB [vN X, vN Y, vN Z, vS 3 0] 29]) (by kernel_rfl) ?_
  refine kSeq ?_
  refine cSeq ?_
  refine cSeq ?_
  refine cReg ?_
  refine segEndH [1, 2, 4, 5, 6] (T1 := (mkT 41 [(1, vI 0), (2, vP 1 0), (4, vP 2 0), (5, vP 4 0), (6, vI 0)])) (by kernel_rfl) ?_
  refine kSeq ?_
  refine cBlk ?_
  -- loop
  refine cLoop (fun mm T H => ∃ i : Nat, ∃ M : List A3, (i ≤ L.length) ∧ (M = listOf X Y Z (setOf Y Z ((L.take i).map (mir X Y Z 0)))) ∧ mm = L.length - i ∧ T = (mkT 41 [(1, vI 0), (2, vP 1 0), (4, vP 2 0), (5, vP 4 0), (6, vN i)]) ∧ H = [some ⟨a3s L, 25, false, false⟩, rB [vN X, vN Y, vN Z, vS 0 L.length] 29, rB [vI 0, vI 0, vI 0, .slice none 0 0] 29, some ⟨a3s M, 25, false, true⟩, rB [vN X, vN Y, vN Z, vS 3 M.length] 29]) (L.length - 0) (mkT 41 [(1, vI 0), (2, vP 1 0), (4, vP 2 0), (5, vP 4 0), (6, vI 0)]) [some ⟨a3s L, 25, false, false⟩, rB [vN X, vN Y, vN Z, vS 0 L.length] 29, rB [vI 0, vI 0, vI 0, .slice none 0 0] 29, some ⟨a3s ([] : List A3), 25, false, true⟩, rB [vN X, vN Y, vN Z, vS 3 (([] : List A3).length)] 29] (wkSame [1, 2, 4, 5, 6] (by kernel_rfl)) ?_ ?_
  · exact ⟨0, ([] : List A3), (Nat.zero_le _), (by rw [List.take_zero, List.map_nil, setOf_nil, listOf_zero]), rfl, rfl, rfl⟩
  · rintro _ _ _ ⟨i, M, hi, hM, rfl, rfl, rfl⟩
    have hLM : HeapL X Y Z M := hM ▸ HeapL.list _ _ _ _
    have hmlen := hLM.len
    refine cSeq ?_
    refine cSeq ?_
    refine cReg ?_
    refine segEndH [1, 2, 4, 5, 6, 19] (T1 := (mkT 41 [(1, vI 0), (2, vP 1 0), (4, vP 2 0), (5, vP 4 0), (6, vN i), (19, .bool (decide (((i : Nat) : Int) < ((L.length : Nat) : Int))))])) (by kernel_rfl) ?_
    refine kSeq ?_
    cases h1 : (decide (((i : Nat) : Int) < ((L.length : Nat) : Int)) : Bool)
    ·
      (try simp only [Bool.not_eq_true', Bool.not_eq_false', decide_eq_true_eq, decide_eq_false_iff_not, beq_iff_eq, bne_iff_ne, beq_eq_false_iff_ne, bne_eq_false_iff_eq, ne_eq, Decidable.not_not, Bool.and_eq_true, Bool.and_eq_false_imp, Bool.or_eq_true, Bool.or_eq_false_iff, Bool.not_eq_true, Int.not_lt, Int.not_le, ge_iff_le, gt_iff_lt] at h1)
      refine cFalse (by kernel_rfl) ?_
      refine cExit ?_
      refine kSeqE ?_
      refine kLoopE ?_
      refine kBlkHit ?_
      refine kSeq ?_
      refine cSeq ?_
      refine cReg ?_
      refine segEnd [4] (T1 := (mkT 41 [(4, vP 2 0)])) (H1 := [some ⟨a3s L, 25, false, false⟩, rB [vN X, vN Y, vN Z, vS 0 L.length] 29, rB [vN X, vN Y, vN Z, vS 3 M.length] 29, some ⟨a3s M, 25, false, true⟩, rB [vN X, vN Y, vN Z, vS 3 M.length] 29]) (by kernel_rfl) ?_
      refine kSeq ?_
      refine cRet ?_
      -- end
      have he0 : (M : List A3) = (listOf X Y Z (setOf Y Z (L.map (mir X Y Z 0)))) := by (rw [hM, show i = L.length by omega, List.take_length])
      refine endCast (v1 := .agg #[vN X, vN Y, vN Z, vS 1 M.length]) (H1 := [some ⟨a3s L, 25, false, false⟩, some ⟨a3s M, 25, false, true⟩]) (by first | rfl | ((try rw [← he0]); done) | (simp only [← he0]; done)) (by first | rfl | ((try rw [← he0]); done) | (simp only [← he0]; done)) ?_
      exact endF (Or.inr rfl) (l := [.agg #[vN X, vN Y, vN Z, vS 3 M.length]]) [0, 3] (by kernel_rfl) (by first | rfl | simp [packR, mpV, mpA, mpS, mpP, renId]) ⟨rrF (flatA3 _ _ _ _) rfl, ⟨rrF (flatA3 _ _ _ _) rfl, trivial⟩⟩ rfl rfl
    ·
      (try simp only [Bool.not_eq_true', Bool.not_eq_false', decide_eq_true_eq, decide_eq_false_iff_not, beq_iff_eq, bne_iff_ne, beq_eq_false_iff_ne, bne_eq_false_iff_eq, ne_eq, Decidable.not_not, Bool.and_eq_true, Bool.and_eq_false_imp, Bool.or_eq_true, Bool.or_eq_false_iff, Bool.not_eq_true, Int.not_lt, Int.not_le, ge_iff_le, gt_iff_lt] at h1)
      have hhas := hL.has hs (i := i) (by omega)
      have hh3 := has3_iff.1 hhas
      have hmir := mir_has (d := 0) hhas
      simp only [mir] at hmir
      refine cTrue (by kernel_rfl) ?_
      refine cSkip ?_
      refine kSeq ?_
      refine cSeq ?_
      refine cBlk ?_
      refine cSeq ?_
      refine cReg ?_
      refine segH 3 (T1 := (mkT 41 [(1, vI 0), (2, vP 1 0), (4, vP 2 0), (5, vP 4 0), (6, vN i), (19, .bool true), (22, vP 1 3), (23, vS 0 L.length), (24, vN i)])) (by kernel_rfl) ?_
      refine rOp (v := vP 0 (i * 3)) (by kernel_rfl) (eIdxS (ad := ⟨0, 0, none⟩) (n := L.length) (m := 0) (k := .i64) (c := ((i : Nat) : Int)) (j := i) (o := i * 3) (by kernel_rfl) (by kernel_rfl) ti22 ti25 (rfl) (by omega) (by exact Nat.zero_add _)) ?_
      refine rOp (v := .agg #[vI ((L.getD i default).x), vI ((L.getD i default).y), vI ((L.getD i default).z)]) (by kernel_rfl) (eLdA3 (ad := ⟨0, i * 3, none⟩) (r := ⟨a3s L, 25, false, false⟩) (L := L) (j := i) (by kernel_rfl) (by kernel_rfl) rfl (by first | rfl | omega) (by omega) ti25) ?_
      refine segEnd [1, 2, 4, 5, 6, 7] (T1 := (mkT 41 [(1, vI 0), (2, vP 1 0), (4, vP 2 0), (5, vP 4 0), (6, vN i), (7, vP 5 0)])) (H1 := [some ⟨a3s L, 25, false, false⟩, rB [vN X, vN Y, vN Z, vS 0 L.length] 29, rB [vI 0, vI 0, vI 0, .slice none 0 0] 29, some ⟨a3s M, 25, false, true⟩, rB [vN X, vN Y, vN Z, vS 3 M.length] 29, rB [vI ((L.getD i default).x), vI ((L.getD i default).y), vI ((L.getD i default).z)] 25]) (by kernel_rfl) ?_
      refine kSeq ?_
      refine cSeq ?_
      refine cRegW (N := 6) [⟨[], [], []⟩, ⟨[], [], [1]⟩, ⟨[], [], []⟩, ⟨[], [], [0]⟩, ⟨[], [], []⟩, ⟨[], [], []⟩, ⟨[], [], []⟩, ⟨[], [], [5]⟩, ⟨[], [], []⟩, ⟨[], [], []⟩, ⟨[], [5], []⟩] 0 [] (by rfl) (by rfl) (by kernel_rfl) (by kernel_rfl) (by kernel_rfl) ⟨nmsF (flatA3 _ _ _ _), ⟨nmsX (by kernel_rfl), ⟨nmsX (by kernel_rfl), ⟨nmsF (flatA3 _ _ _ _), ⟨nmsX (by kernel_rfl), ⟨nmsX (by kernel_rfl), trivial⟩⟩⟩⟩⟩⟩ ?_
      refine segWH 3 (T1 := (mkT 41 [(1, vI 0), (2, vP 1 0), (4, vP 2 0), (5, vP 4 0), (6, vN i), (7, vP 5 0), (27, vI 0), (28, .agg #[vN X, vN Y, vN Z, vS 0 L.length]), (29, vI 0)])) (by kernel_rfl) ?_
      refine rW (m := ⟨[], [], [0]⟩) (v := vN X) rfl (by kernel_rfl) (stQ (args := [.agg #[vN X, vN Y, vN Z, vS 0 L.length], vI 0]) rfl (by kernel_rfl) (Any.lay0 [0] (l2Long0 ((X : Nat) : Int) ((Y : Nat) : Int) ((Z : Nat) : Int) L) ⟨rdF false (flatA3 _ _ _ _) rfl rfl, trivial⟩ rfl ⟨clF (flatA3 _ _ _ _), trivial⟩ rfl (by first | rfl | simp [mpV, mpA, mpS, mpP, renId, shift]) rfl) rfl (by kernel_rfl) (by kernel_rfl)) (by kernel_rfl) nr0 ?_
      refine rW (m := ⟨[], [], []⟩) (v := vI (((X : Nat) : Int) - 1)) rfl (by kernel_rfl) (stId (eSub (k := .i64) (a := ((X : Nat) : Int)) (b := 1) (c := (((X : Nat) : Int) - 1)) (by kernel_rfl) (by kernel_rfl) (wr64 (by omega) (by omega) (by omega))) rfl (by kernel_rfl) (by kernel_rfl) (by kernel_rfl)) (by kernel_rfl) nr0 ?_
      refine segWH 3 (T1 := (mkT 41 [(1, vI 0), (2, vP 1 0), (4, vP 2 0), (5, vP 4 0), (6, vN i), (7, vP 5 0), (27, vI 0), (28, .agg #[vN X, vN Y, vN Z, vS 0 L.length]), (29, vI 0), (30, vN X), (31, vI (((X : Nat) : Int) - 1)), (32, vI 0), (33, vP 5 0), (34, vI ((L.getD i default).x))])) (by kernel_rfl) ?_
      refine rW (m := ⟨[], [], []⟩) (v := vI (((X : Nat) : Int) - 1 - ((L.getD i default).x))) rfl (by kernel_rfl) (stId (eSub (k := .i64) (a := (((X : Nat) : Int) - 1)) (b := ((L.getD i default).x)) (c := (((X : Nat) : Int) - 1 - ((L.getD i default).x))) (by kernel_rfl) (by kernel_rfl) (wr64 (by omega) (by omega) (by omega))) rfl (by kernel_rfl) (by kernel_rfl) (by kernel_rfl)) (by kernel_rfl) nr0 ?_
      refine segWH 1 (T1 := (mkT 41 [(1, vI 0), (2, vP 1 0), (4, vP 2 0), (5, vP 4 0), (6, vN i), (7, vP 5 0), (27, vI 0), (28, .agg #[vN X, vN Y, vN Z, vS 0 L.length]), (29, vI 0), (30, vN X), (31, vI (((X : Nat) : Int) - 1)), (32, vI 0), (33, vP 5 0), (34, vI ((L.getD i default).x)), (35, vI (((X : Nat) : Int) - 1 - ((L.getD i default).x))), (36, vP 5 0)])) (by kernel_rfl) ?_
      refine rW (m := ⟨[], [5], []⟩) (v := .tuple #[]) rfl (by kernel_rfl) (stSet (b := 5) (r := ⟨[vI (((X : Nat) : Int) - 1 - ((L.getD i default).x)), vI ((L.getD i default).y), vI ((L.getD i default).z)], 25, true, true⟩) (by kernel_rfl) rfl (by kernel_rfl) (by kernel_rfl) (by kernel_rfl) (by kernel_rfl) (nmX (by kernel_rfl)) (clX (by kernel_rfl))) (by kernel_rfl) (NRs.all ⟨nrOf (by rfl) (nmX (by kernel_rfl)), trivial⟩) ?_
      refine segEndW [1, 2, 4, 5, 6, 7] (T1 := (mkT 41 [(1, vI 0), (2, vP 1 0), (4, vP 2 0), (5, vP 4 0), (6, vN i), (7, vP 5 0)])) (H1 := [some ⟨a3s L, 25, false, false⟩, rB [vN X, vN Y, vN Z, vS 0 L.length] 29, rB [vI 0, vI 0, vI 0, .slice none 0 0] 29, some ⟨a3s M, 25, false, true⟩, rB [vN X, vN Y, vN Z, vS 3 M.length] 29, rB [vI (((X : Nat) : Int) - 1 - ((L.getD i default).x)), vI ((L.getD i default).y), vI ((L.getD i default).z)] 25]) (by kernel_rfl) ?_
      refine kSeq ?_
      refine cReg ?_
      refine segH 2 (T1 := (mkT 41 [(1, vI 0), (2, vP 1 0), (4, vP 2 0), (5, vP 4 0), (6, vN i), (7, vP 5 0), (37, .agg #[vN X, vN Y, vN Z, vS 3 M.length]), (38, .agg #[vI (((X : Nat) : Int) - 1 - ((L.getD i default).x)), vI ((L.getD i default).y), vI ((L.getD i default).z)])])) (by kernel_rfl) ?_
      refine rCall (v := .agg #[vN X, vN Y, vN Z, vS 6 ((listOf X Y Z (setOf Y Z M ||| 2 ^ idxN Y Z (A3.mk (((X : Nat) : Int) - 1 - ((L.getD i default).x)) ((L.getD i default).y) ((L.getD i default).z)))).length)]) (args := [.agg #[vN X, vN Y, vN Z, vS 3 M.length], .agg #[vI (((X : Nat) : Int) - 1 - ((L.getD i default).x)), vI ((L.getD i default).y), vI ((L.getD i default).z)]]) (by kernel_rfl) rfl (by kernel_rfl) (Sound.lay (E := [some ⟨a3s (listOf X Y Z (setOf Y Z M ||| 2 ^ idxN Y Z (A3.mk (((X : Nat) : Int) - 1 - ((L.getD i default).x)) ((L.getD i default).y) ((L.getD i default).z)))), 25, false, true⟩]) [3] (l2WithB X Y Z M (((X : Nat) : Int) - 1 - ((L.getD i default).x)) ((L.getD i default).y) ((L.getD i default).z) (by first | assumption | omega | rfl | decide | exact HeapL.list _ _ _ _ | exact HeapL.nil _ _ _ | exact HeapL.all _ _ _ | (apply HeapL.lt64 <;> assumption) | (repeat' (first | assumption | apply or_lt64 | apply and_lt64 | apply andn_lt64 | apply pow_lt64 | (apply HeapL.lt64 <;> assumption)))) (by first | assumption | omega | rfl | decide | exact HeapL.list _ _ _ _ | exact HeapL.nil _ _ _ | exact HeapL.all _ _ _ | (apply HeapL.lt64 <;> assumption) | (repeat' (first | assumption | apply or_lt64 | apply and_lt64 | apply andn_lt64 | apply pow_lt64 | (apply HeapL.lt64 <;> assumption)))) (by first | assumption | omega | rfl | decide | exact HeapL.list _ _ _ _ | exact HeapL.nil _ _ _ | exact HeapL.all _ _ _ | (apply HeapL.lt64 <;> assumption) | (repeat' (first | assumption | apply or_lt64 | apply and_lt64 | apply andn_lt64 | apply pow_lt64 | (apply HeapL.lt64 <;> assumption))))) ⟨rdF true (flatA3 _ _ _ _) rfl rfl, trivial⟩ rfl ⟨clF (flatA3 _ _ _ _), trivial⟩ rfl (by first | rfl | simp [mpV, mpA, mpS, mpP, renId, shift]) (by first | rfl | simp [mpV, mpA, mpS, mpP, renId, shift]) ⟨enF (flatA3 _ _ _ _) (Or.inl rfl), trivial⟩) ?_
      refine segEnd [1, 2, 4, 5, 6] (T1 := (mkT 41 [(1, vI 0), (2, vP 1 0), (4, vP 2 0), (5, vP 4 0), (6, vN i)])) (H1 := [some ⟨a3s L, 25, false, false⟩, rB [vN X, vN Y, vN Z, vS 0 L.length] 29, rB [vI 0, vI 0, vI 0, .slice none 0 0] 29, some ⟨a3s M, 25, false, true⟩, rB [vN X, vN Y, vN Z, vS 6 ((listOf X Y Z (setOf Y Z M ||| 2 ^ idxN Y Z (A3.mk (((X : Nat) : Int) - 1 - ((L.getD i default).x)) ((L.getD i default).y) ((L.getD i default).z)))).length)] 29, rB [vI (((X : Nat) : Int) - 1 - ((L.getD i default).x)), vI ((L.getD i default).y), vI ((L.getD i default).z)] 25, some ⟨a3s (listOf X Y Z (setOf Y Z M ||| 2 ^ idxN Y Z (A3.mk (((X : Nat) : Int) - 1 - ((L.getD i default).x)) ((L.getD i default).y) ((L.getD i default).z)))), 25, false, true⟩]) (by kernel_rfl) ?_
      refine kBlk ?_
      refine kSeq ?_
      refine cReg ?_
      refine segH 1 (T1 := (mkT 41 [(1, vI 0), (2, vP 1 0), (4, vP 2 0), (5, vP 4 0), (6, vN i), (20, vN i)])) (by kernel_rfl) ?_
      refine rOp (v := vN (i + 1)) (by kernel_rfl) (eAdd (k := .i64) (a := ((i : Nat) : Int)) (b := 1) (c := ((i + 1 : Nat) : Int)) (by kernel_rfl) (by kernel_rfl) (wr64 (by omega) (by omega) (by omega))) ?_
      refine segEndH [1, 2, 4, 5, 6] (T1 := (mkT 41 [(1, vI 0), (2, vP 1 0), (4, vP 2 0), (5, vP 4 0), (6, vN (i + 1))])) (by kernel_rfl) ?_
      exact kLoop (L.length - (i + 1)) (mkT 41 [(1, vI 0), (2, vP 1 0), (4, vP 2 0), (5, vP 4 0), (6, vN (i + 1))]) [some ⟨a3s L, 25, false, false⟩, rB [vN X, vN Y, vN Z, vS 0 L.length] 29, rB [vI 0, vI 0, vI 0, .slice none 0 0] 29, some ⟨a3s (listOf X Y Z (setOf Y Z M ||| 2 ^ idxN Y Z (A3.mk (((X : Nat) : Int) - 1 - ((L.getD i default).x)) ((L.getD i default).y) ((L.getD i default).z)))), 25, false, true⟩, rB [vN X, vN Y, vN Z, vS 3 ((listOf X Y Z (setOf Y Z M ||| 2 ^ idxN Y Z (A3.mk (((X : Nat) : Int) - 1 - ((L.getD i default).x)) ((L.getD i default).y) ((L.getD i default).z)))).length)] 29] (by omega) (wkRen [0, 1, 2, 6, 4] [1, 2, 4, 5, 6] ⟨rrF (flatA3 _ _ _ _) rfl, ⟨rrX rfl rfl, ⟨rrX rfl rfl, ⟨rrF (flatA3 _ _ _ _) rfl, ⟨rrX rfl rfl, trivial⟩⟩⟩⟩⟩ rfl (by kernel_rfl) rfl) ⟨(i + 1), (listOf X Y Z (setOf Y Z M ||| 2 ^ idxN Y Z (A3.mk (((X : Nat) : Int) - 1 - ((L.getD i default).x)) ((L.getD i default).y) ((L.getD i default).z)))), (by omega), (moved_step (g := mir X Y Z 0) hs hM (by omega)), rfl, rfl, rfl⟩

set_option maxRecDepth 100000 in
set_option maxHeartbeats 4000000 in
theorem l2Long1 (x : Int) (y : Int) (z : Int) (L : List A3)  : Sound Try.prog 103 [.agg #[vI x, vI y, vI z, vS 0 L.length], vI 1] [some ⟨a3s L, 25, false, false⟩] (vI y) [some ⟨a3s L, 25, false, false⟩] := by
  refine sound_intro (C := cx) Try.func103 rfl (by kernel_rfl) fun hcl => ?_
  refine cSeq ?_
  refine cReg ?_
  refine segEnd [1, 2] (T1 := (mkT 14 [(1, vI 1), (2, vP 1 0)])) (H1 := [some ⟨a3s L, 25, false, false⟩, rB [vI x, vI y, vI z, vS 0 L.length] 29]) (by kernel_rfl) ?_
  refine kSeq ?_
  refine cSeq ?_
  refine cReg ?_
  refine segEndH [4] (T1 := (mkT 14 [(4, vI y)])) (by kernel_rfl) ?_
  refine kSeq ?_
  refine cRet ?_
  -- end
  exact endQ (Or.inr rfl) (l := [vI y]) [rB [vI x, vI y, vI z, vS 0 L.length] 29] (by kernel_rfl) (by first | rfl | kernel_rfl) rfl rfl hcl rfl

set_option maxRecDepth 100000 in
set_option maxHeartbeats 4000000 in
theorem l2Mirrored1 (X : Nat) (Y : Nat) (Z : Nat) (L : List A3) (hs : Sides X Y Z) (hL : HeapL X Y Z L) : Sound Try.prog 87 [.agg #[vN X, vN Y, vN Z, vS 0 L.length], vI 1] [some ⟨a3s L, 25, false, false⟩] (.agg #[vN X, vN Y, vN Z, vS 1 ((listOf X Y Z (setOf Y Z (L.map (mir X Y Z 1)))).length)]) [some ⟨a3s L, 25, false, false⟩, some ⟨a3s (listOf X Y Z (setOf Y Z (L.map (mir X Y Z 1)))), 25, false, true⟩] := by
  refine sound_intro (C := cx) Try.func87 rfl (by kernel_rfl) fun hcl => ?_
  have hz := hs.size
  have hx0 := hs.x0
  have hx4 := hs.x4
  have hy0 := hs.y0
  have hy4 := hs.y4
  have hz0 := hs.z0
  have hz4 := hs.z4
  have hlen := hL.len
  have hlt := hL.lt64 hs
  refine cSeq ?_
  refine cReg ?_
  refine segEnd [1, 2, 4] (T1 := (mkT 41 [(1, vI 1), (2, vP 1 0), (4, vP 2 0)])) (H1 := [some ⟨a3s L, 25, false, false⟩, rB [vN X, vN Y, vN Z, vS 0 L.length] 29, rB [vI 0, vI 0, vI 0, .slice none 0 0] 29]) (by kernel_rfl) ?_
  refine kSeq ?_
  refine cSeq ?_
  refine cReg ?_
  refine segH 6 (T1 := (mkT 41 [(1, vI 1), (2, vP 1 0), (4, vP 2 0), (8, vP 1 0), (9, vN X), (10, vP 1 1), (11, vN Y), (12, vP 1 2), (13, vN Z)])) (by kernel_rfl) ?_
  refine rCall (v := .agg #[vN X, vN Y, vN Z, vS 3 0]) (args := [vN X, vN Y, vN Z]) (by kernel_rfl) rfl (by kernel_rfl) (Sound.lay (E := [some ⟨[], 25, false, true⟩]) [] (l2EmptyB ((X : Nat) : Int) ((Y : Nat) : Int) ((Z : Nat) : Int)) trivial rfl trivial rfl (by first | rfl | simp [mpV, mpA, mpS, mpP, renId, shift]) (by first | rfl | simp [mpV, mpA, mpS, mpP, renId, shift]) ⟨enX rfl (Or.inl rfl), trivial⟩) ?_
  refine segEnd [1, 2, 4, 5] (T1 := (mkT 41 [(1, vI 1), (2, vP 1 0), (4, vP 2 0), (5, vP 4 0)])) (H1 := [some ⟨a3s L, 25, false, false⟩, rB [vN X, vN Y, vN Z, vS 0 L.length] 29, rB [vI 0, vI 0, vI 0, .slice none 0 0] 29, some ⟨[], 25, false, true⟩, rB [vN X, vN Y, vN Z, vS 3 0] 29]) (by kernel_rfl) ?_
  refine kSeq ?_
  refine cSeq ?_
  refine cSeq ?_
  refine cReg ?_
  refine segEndH [1, 2, 4, 5, 6] (T1 := (mkT 41 [(1, vI 1), (2, vP 1 0), (4, vP 2 0), (5, vP 4 0), (6, vI 0)])) (by kernel_rfl) ?_
  refine kSeq ?_
  refine cBlk ?_
  -- loop
  refine cLoop (fun mm T H => ∃ i : Nat, ∃ M : List A3, (i ≤ L.length) ∧ (M = listOf X Y Z (setOf Y Z ((L.take i).map (mir X Y Z 1)))) ∧ mm = L.length - i ∧ T = (mkT 41 [(1, vI 1), (2, vP 1 0), (4, vP 2 0), (5, vP 4 0), (6, vN i)]) ∧ H = [some ⟨a3s L, 25, false, false⟩, rB [vN X, vN Y, vN Z, vS 0 L.length] 29, rB [vI 0, vI 0, vI 0, .slice none 0 0] 29, some ⟨a3s M, 25, false, true⟩, rB [vN X, vN Y, vN Z, vS 3 M.length] 29]) (L.length - 0) (mkT 41 [(1, vI 1), (2, vP 1 0), (4, vP 2 0), (5, vP 4 0), (6, vI 0)]) [some ⟨a3s L, 25, false, false⟩, rB [vN X, vN Y, vN Z, vS 0 L.length] 29, rB [vI 0, vI 0, vI 0, .slice none 0 0] 29, some ⟨a3s ([] : List A3), 25, false, true⟩, rB [vN X, vN Y, vN Z, vS 3 (([] : List A3).length)] 29] (wkSame [1, 2, 4, 5, 6] (by kernel_rfl)) ?_ ?_
  · exact ⟨0, ([] : List A3), (Nat.zero_le _), (by rw [List.take_zero, List.map_nil, setOf_nil, listOf_zero]), rfl, rfl, rfl⟩
  · rintro _ _ _ ⟨i, M, hi, hM, rfl, rfl, rfl⟩
    have hLM : HeapL X Y Z M := hM ▸ HeapL.list _ _ _ _
    have hmlen := hLM.len
    refine cSeq ?_
    refine cSeq ?_
    refine cReg ?_
    refine segEndH [1, 2, 4, 5, 6, 19] (T1 := (mkT 41 [(1, vI 1), (2, vP 1 0), (4, vP 2 0), (5, vP 4 0), (6, vN i), (19, .bool (decide (((i : Nat) : Int) < ((L.length : Nat) : Int))))])) (by kernel_rfl) ?_
    refine kSeq ?_
    cases h1 : (decide (((i : Nat) : Int) < ((L.length : Nat) : Int)) : Bool)
    ·
      (try simp only [Bool.not_eq_true', Bool.not_eq_false', decide_eq_true_eq, decide_eq_false_iff_not, beq_iff_eq, bne_iff_ne, beq_eq_false_iff_ne, bne_eq_false_iff_eq, ne_eq, Decidable.not_not, Bool.and_eq_true, Bool.and_eq_false_imp, Bool.or_eq_true, Bool.or_eq_false_iff, Bool.not_eq_true, Int.not_lt, Int.not_le, ge_iff_le, gt_iff_lt] at h1)
      refine cFalse (by kernel_rfl) ?_
      refine cExit ?_
      refine kSeqE ?_
      refine kLoopE ?_
      refine kBlkHit ?_
      refine kSeq ?_
      refine cSeq ?_
      refine cReg ?_
      refine segEnd [4] (T1 := (mkT 41 [(4, vP 2 0)])) (H1 := [some ⟨a3s L, 25, false, false⟩, rB [vN X, vN Y, vN Z, vS 0 L.length] 29, rB [vN X, vN Y, vN Z, vS 3 M.length] 29, some ⟨a3s M, 25, false, true⟩, rB [vN X, vN Y, vN Z, vS 3 M.length] 29]) (by kernel_rfl) ?_
      refine kSeq ?_
      refine cRet ?_
      -- end
      have he0 : (M : List A3) = (listOf X Y Z (setOf Y Z (L.map (mir X Y Z 1)))) := by (rw [hM, show i = L.length by omega, List.take_length])
      refine endCast (v1 := .agg #[vN X, vN Y, vN Z, vS 1 M.length]) (H1 := [some ⟨a3s L, 25, false, false⟩, some ⟨a3s M, 25, false, true⟩]) (by first | rfl | ((try rw [← he0]); done) | (simp only [← he0]; done)) (by first | rfl | ((try rw [← he0]); done) | (simp only [← he0]; done)) ?_
      exact endF (Or.inr rfl) (l := [.agg #[vN X, vN Y, vN Z, vS 3 M.length]]) [0, 3] (by kernel_rfl) (by first | rfl | simp [packR, mpV, mpA, mpS, mpP, renId]) ⟨rrF (flatA3 _ _ _ _) rfl, ⟨rrF (flatA3 _ _ _ _) rfl, trivial⟩⟩ rfl rfl
    ·
      (try simp only [Bool.not_eq_true', Bool.not_eq_false', decide_eq_true_eq, decide_eq_false_iff_not, beq_iff_eq, bne_iff_ne, beq_eq_false_iff_ne, bne_eq_false_iff_eq, ne_eq, Decidable.not_not, Bool.and_eq_true, Bool.and_eq_false_imp, Bool.or_eq_true, Bool.or_eq_false_iff, Bool.not_eq_true, Int.not_lt, Int.not_le, ge_iff_le, gt_iff_lt] at h1)
      have hhas := hL.has hs (i := i) (by omega)
      have hh3 := has3_iff.1 hhas
      have hmir := mir_has (d := 1) hhas
      simp only [mir] at hmir
      refine cTrue (by kernel_rfl) ?_
      refine cSkip ?_
      refine kSeq ?_
      refine cSeq ?_
      refine cBlk ?_
      refine cSeq ?_
      refine cReg ?_
      refine segH 3 (T1 := (mkT 41 [(1, vI 1), (2, vP 1 0), (4, vP 2 0), (5, vP 4 0), (6, vN i), (19, .bool true), (22, vP 1 3), (23, vS 0 L.length), (24, vN i)])) (by kernel_rfl) ?_
      refine rOp (v := vP 0 (i * 3)) (by kernel_rfl) (eIdxS (ad := ⟨0, 0, none⟩) (n := L.length) (m := 0) (k := .i64) (c := ((i : Nat) : Int)) (j := i) (o := i * 3) (by kernel_rfl) (by kernel_rfl) ti22 ti25 (rfl) (by omega) (by exact Nat.zero_add _)) ?_
      refine rOp (v := .agg #[vI ((L.getD i default).x), vI ((L.getD i default).y), vI ((L.getD i default).z)]) (by kernel_rfl) (eLdA3 (ad := ⟨0, i * 3, none⟩) (r := ⟨a3s L, 25, false, false⟩) (L := L) (j := i) (by kernel_rfl) (by kernel_rfl) rfl (by first | rfl | omega) (by omega) ti25) ?_
      refine segEnd [1, 2, 4, 5, 6, 7] (T1 := (mkT 41 [(1, vI 1), (2, vP 1 0), (4, vP 2 0), (5, vP 4 0), (6, vN i), (7, vP 5 0)])) (H1 := [some ⟨a3s L, 25, false, false⟩, rB [vN X, vN Y, vN Z, vS 0 L.length] 29, rB [vI 0, vI 0, vI 0, .slice none 0 0] 29, some ⟨a3s M, 25, false, true⟩, rB [vN X, vN Y, vN Z, vS 3 M.length] 29, rB [vI ((L.getD i default).x), vI ((L.getD i default).y), vI ((L.getD i default).z)] 25]) (by kernel_rfl) ?_
      refine kSeq ?_
      refine cSeq ?_
      refine cRegW (N := 6) [⟨[], [], []⟩, ⟨[], [], [1]⟩, ⟨[], [], []⟩, ⟨[], [], [0]⟩, ⟨[], [], []⟩, ⟨[], [], []⟩, ⟨[], [], []⟩, ⟨[], [], [5]⟩, ⟨[], [], []⟩, ⟨[], [], []⟩, ⟨[], [5], []⟩] 0 [] (by rfl) (by rfl) (by kernel_rfl) (by kernel_rfl) (by kernel_rfl) ⟨nmsF (flatA3 _ _ _ _), ⟨nmsX (by kernel_rfl), ⟨nmsX (by kernel_rfl), ⟨nmsF (flatA3 _ _ _ _), ⟨nmsX (by kernel_rfl), ⟨nmsX (by kernel_rfl), trivial⟩⟩⟩⟩⟩⟩ ?_
      refine segWH 3 (T1 := (mkT 41 [(1, vI 1), (2, vP 1 0), (4, vP 2 0), (5, vP 4 0), (6, vN i), (7, vP 5 0), (27, vI 1), (28, .agg #[vN X, vN Y, vN Z, vS 0 L.length]), (29, vI 1)])) (by kernel_rfl) ?_
      refine rW (m := ⟨[], [], [0]⟩) (v := vN Y) rfl (by kernel_rfl) (stQ (args := [.agg #[vN X, vN Y, vN Z, vS 0 L.length], vI 1]) rfl (by kernel_rfl) (Any.lay0 [0] (l2Long1 ((X : Nat) : Int) ((Y : Nat) : Int) ((Z : Nat) : Int) L) ⟨rdF false (flatA3 _ _ _ _) rfl rfl, trivial⟩ rfl ⟨clF (flatA3 _ _ _ _), trivial⟩ rfl (by first | rfl | simp [mpV, mpA, mpS, mpP, renId, shift]) rfl) rfl (by kernel_rfl) (by kernel_rfl)) (by kernel_rfl) nr0 ?_
      refine rW (m := ⟨[], [], []⟩) (v := vI (((Y : Nat) : Int) - 1)) rfl (by kernel_rfl) (stId (eSub (k := .i64) (a := ((Y : Nat) : Int)) (b := 1) (c := (((Y : Nat) : Int) - 1)) (by kernel_rfl) (by kernel_rfl) (wr64 (by omega) (by omega) (by omega))) rfl (by kernel_rfl) (by kernel_rfl) (by kernel_rfl)) (by kernel_rfl) nr0 ?_
      refine segWH 3 (T1 := (mkT 41 [(1, vI 1), (2, vP 1 0), (4, vP 2 0), (5, vP 4 0), (6, vN i), (7, vP 5 0), (27, vI 1), (28, .agg #[vN X, vN Y, vN Z, vS 0 L.length]), (29, vI 1), (30, vN Y), (31, vI (((Y : Nat) : Int) - 1)), (32, vI 1), (33, vP 5 1), (34, vI ((L.getD i default).y))])) (by kernel_rfl) ?_
      refine rW (m := ⟨[], [], []⟩) (v := vI (((Y : Nat) : Int) - 1 - ((L.getD i default).y))) rfl (by kernel_rfl) (stId (eSub (k := .i64) (a := (((Y : Nat) : Int) - 1)) (b := ((L.getD i default).y)) (c := (((Y : Nat) : Int) - 1 - ((L.getD i default).y))) (by kernel_rfl) (by kernel_rfl) (wr64 (by omega) (by omega) (by omega))) rfl (by kernel_rfl) (by kernel_rfl) (by kernel_rfl)) (by kernel_rfl) nr0 ?_
      refine segWH 1 (T1 := (mkT 41 [(1, vI 1), (2, vP 1 0), (4, vP 2 0), (5, vP 4 0), (6, vN i), (7, vP 5 0), (27, vI 1), (28, .agg #[vN X, vN Y, vN Z, vS 0 L.length]), (29, vI 1), (30, vN Y), (31, vI (((Y : Nat) : Int) - 1)), (32, vI 1), (33, vP 5 1), (34, vI ((L.getD i default).y)), (35, vI (((Y : Nat) : Int) - 1 - ((L.getD i default).y))), (36, vP 5 1)])) (by kernel_rfl) ?_
      refine rW (m := ⟨[], [5], []⟩) (v := .tuple #[]) rfl (by kernel_rfl) (stSet (b := 5) (r := ⟨[vI ((L.getD i default).x), vI (((Y : Nat) : Int) - 1 - ((L.getD i default).y)), vI ((L.getD i default).z)], 25, true, true⟩) (by kernel_rfl) rfl (by kernel_rfl) (by kernel_rfl) (by kernel_rfl) (by kernel_rfl) (nmX (by kernel_rfl)) (clX (by kernel_rfl))) (by kernel_rfl) (NRs.all ⟨nrOf (by rfl) (nmX (by kernel_rfl)), trivial⟩) ?_
      refine segEndW [1, 2, 4, 5, 6, 7] (T1 := (mkT 41 [(1, vI 1), (2, vP 1 0), (4, vP 2 0), (5, vP 4 0), (6, vN i), (7, vP 5 0)])) (H1 := [some ⟨a3s L, 25, false, false⟩, rB [vN X, vN Y, vN Z, vS 0 L.length] 29, rB [vI 0, vI 0, vI 0, .slice none 0 0] 29, some ⟨a3s M, 25, false, true⟩, rB [vN X, vN Y, vN Z, vS 3 M.length] 29, rB [vI ((L.getD i default).x), vI (((Y : Nat) : Int) - 1 - ((L.getD i default).y)), vI ((L.getD i default).z)] 25]) (by kernel_rfl) ?_
      refine kSeq ?_
      refine cReg ?_
      refine segH 2 (T1 := (mkT 41 [(1, vI 1), (2, vP 1 0), (4, vP 2 0), (5, vP 4 0), (6, vN i), (7, vP 5 0), (37, .agg #[vN X, vN Y, vN Z, vS 3 M.length]), (38, .agg #[vI ((L.getD i default).x), vI (((Y : Nat) : Int) - 1 - ((L.getD i default).y)), vI ((L.getD i default).z)])])) (by kernel_rfl) ?_
      refine rCall (v := .agg #[vN X, vN Y, vN Z, vS 6 ((listOf X Y Z (setOf Y Z M ||| 2 ^ idxN Y Z (A3.mk ((L.getD i default).x) (((Y : Nat) : Int) - 1 - ((L.getD i default).y)) ((L.getD i default).z)))).length)]) (args := [.agg #[vN X, vN Y, vN Z, vS 3 M.length], .agg #[vI ((L.getD i default).x), vI (((Y : Nat) : Int) - 1 - ((L.getD i default).y)), vI ((L.getD i default).z)]]) (by kernel_rfl) rfl (by kernel_rfl) (Sound.lay (E := [some ⟨a3s (listOf X Y Z (setOf Y Z M ||| 2 ^ idxN Y Z (A3.mk ((L.getD i default).x) (((Y : Nat) : Int) - 1 - ((L.getD i default).y)) ((L.getD i default).z)))), 25, false, true⟩]) [3] (l2WithB X Y Z M ((L.getD i default).x) (((Y : Nat) : Int) - 1 - ((L.getD i default).y)) ((L.getD i default).z) (by first | assumption | omega | rfl | decide | exact HeapL.list _ _ _ _ | exact HeapL.nil _ _ _ | exact HeapL.all _ _ _ | (apply HeapL.lt64 <;> assumption) | (repeat' (first | assumption | apply or_lt64 | apply and_lt64 | apply andn_lt64 | apply pow_lt64 | (apply HeapL.lt64 <;> assumption)))) (by first | assumption | omega | rfl | decide | exact HeapL.list _ _ _ _ | exact HeapL.nil _ _ _ | exact HeapL.all _ _ _ | (apply HeapL.lt64 <;> assumption) | (repeat' (first | assumption | apply or_lt64 | apply and_lt64 | apply andn_lt64 | apply pow_lt64 | (apply HeapL.lt64 <;> assumption)))) (by first | assumption | omega | rfl | decide | exact HeapL.list _ _ _ _ | exact HeapL.nil _ _ _ | exact HeapL.all _ _ _ | (apply HeapL.lt64 <;> assumption) | (repeat' (first | assumption | apply or_lt64 | apply and_lt64 | apply andn_lt64 | apply pow_lt64 | (apply HeapL.lt64 <;> assumption))))) ⟨rdF true (flatA3 _ _ _ _) rfl rfl, trivial⟩ rfl ⟨clF (flatA3 _ _ _ _), trivial⟩ rfl (by first | rfl | simp [mpV, mpA, mpS, mpP, renId, shift]) (by first | rfl | simp [mpV, mpA, mpS, mpP, renId, shift]) ⟨enF (flatA3 _ _ _ _) (Or.inl rfl), trivial⟩) ?_
      refine segEnd [1, 2, 4, 5, 6] (T1 := (mkT 41 [(1, vI 1), (2, vP 1 0), (4, vP 2 0), (5, vP 4 0), (6, vN i)])) (H1 := [some ⟨a3s L, 25, false, false⟩, rB [vN X, vN Y, vN Z, vS 0 L.length] 29, rB [vI 0, vI 0, vI 0, .slice none 0 0] 29, some ⟨a3s M, 25, false, true⟩, rB [vN X, vN Y, vN Z, vS 6 ((listOf X Y Z (setOf Y Z M ||| 2 ^ idxN Y Z (A3.mk ((L.getD i default).x) (((Y : Nat) : Int) - 1 - ((L.getD i default).y)) ((L.getD i default).z)))).length)] 29, rB [vI ((L.getD i default).x), vI (((Y : Nat) : Int) - 1 - ((L.getD i default).y)), vI ((L.getD i default).z)] 25, some ⟨a3s (listOf X Y Z (setOf Y Z M ||| 2 ^ idxN Y Z (A3.mk ((L.getD i default).x) (((Y : Nat) : Int) - 1 - ((L.getD i default).y)) ((L.getD i default).z)))), 25, false, true⟩]) (by kernel_rfl) ?_
      refine kBlk ?_
      refine kSeq ?_
      refine cReg ?_
      refine segH 1 (T1 := (mkT 41 [(1, vI 1), (2, vP 1 0), (4, vP 2 0), (5, vP 4 0), (6, vN i), (20, vN i)])) (by kernel_rfl) ?_
      refine rOp (v := vN (i + 1)) (by kernel_rfl) (eAdd (k := .i64) (a := ((i : Nat) : Int)) (b := 1) (c := ((i + 1 : Nat) : Int)) (by kernel_rfl) (by kernel_rfl) (wr64 (by omega) (by omega) (by omega))) ?_
      refine segEndH [1, 2, 4, 5, 6] (T1 := (mkT 41 [(1, vI 1), (2, vP 1 0), (4, vP 2 0), (5, vP 4 0), (6, vN (i + 1))])) (by kernel_rfl) ?_
      exact kLoop (L.length - (i + 1)) (mkT 41 [(1, vI 1), (2, vP 1 0), (4, vP 2 0), (5, vP 4 0), (6, vN (i + 1))]) [some ⟨a3s L, 25, false, false⟩, rB [vN X, vN Y, vN Z, vS 0 L.length] 29, rB [vI 0, vI 0, vI 0, .slice none 0 0] 29, some ⟨a3s (listOf X Y Z (setOf Y Z M ||| 2 ^ idxN Y Z (A3.mk ((L.getD i default).x) (((Y : Nat) : Int) - 1 - ((L.getD i default).y)) ((L.getD i default).z)))), 25, false, true⟩, rB [vN X, vN Y, vN Z, vS 3 ((listOf X Y Z (setOf Y Z M ||| 2 ^ idxN Y Z (A3.mk ((L.getD i default).x) (((Y : Nat) : Int) - 1 - ((L.getD i default).y)) ((L.getD i default).z)))).length)] 29] (by omega) (wkRen [0, 1, 2, 6, 4] [1, 2, 4, 5, 6] ⟨rrF (flatA3 _ _ _ _) rfl, ⟨rrX rfl rfl, ⟨rrX rfl rfl, ⟨rrF (flatA3 _ _ _ _) rfl, ⟨rrX rfl rfl, trivial⟩⟩⟩⟩⟩ rfl (by kernel_rfl) rfl) ⟨(i + 1), (listOf X Y Z (setOf Y Z M ||| 2 ^ idxN Y Z (A3.mk ((L.getD i default).x) (((Y : Nat) : Int) - 1 - ((L.getD i default).y)) ((L.getD i default).z)))), (by omega), (moved_step (g := mir X Y Z 1) hs hM (by omega)), rfl, rfl, rfl⟩

set_option maxRecDepth 100000 in
set_option maxHeartbeats 4000000 in
theorem l2Long2 (x : Int) (y : Int) (z : Int) (L : List A3)  : Sound Try.prog 103 [.agg #[vI x, vI y, vI z, vS 0 L.length], vI 2] [some ⟨a3s L, 25, false, false⟩] (vI z) [some ⟨a3s L, 25, false, false⟩] := by
  refine sound_intro (C := cx) Try.func103 rfl (by kernel_rfl) fun hcl => ?_
  refine cSeq ?_
  refine cReg ?_
  refine segEnd [1, 2] (T1 := (mkT 14 [(1, vI 2), (2, vP 1 0)])) (H1 := [some ⟨a3s L, 25, false, false⟩, rB [vI x, vI y, vI z, vS 0 L.length] 29]) (by kernel_rfl) ?_
  refine kSeq ?_
  refine cSeq ?_
  refine cReg ?_
  refine segEndH [4] (T1 := (mkT 14 [(4, vI z)])) (by kernel_rfl) ?_
  refine kSeq ?_
  refine cRet ?_
  -- end
  exact endQ (Or.inr rfl) (l := [vI z]) [rB [vI x, vI y, vI z, vS 0 L.length] 29] (by kernel_rfl) (by first | rfl | kernel_rfl) rfl rfl hcl rfl

set_option maxRecDepth 100000 in
set_option maxHeartbeats 4000000 in
theorem l2Mirrored2 (X : Nat) (Y : Nat) (Z : Nat) (L : List A3) (hs : Sides X Y Z) (hL : HeapL X Y Z L) : Sound Try.prog 87 [.agg #[vN X, vN Y, vN Z, vS 0 L.length], vI 2] [some ⟨a3s L, 25, false, false⟩] (.agg #[vN X, vN Y, vN Z, vS 1 ((listOf X Y Z (setOf Y Z (L.map (mir X Y Z 2)))).length)]) [some ⟨a3s L, 25, false, false⟩, some ⟨a3s (listOf X Y Z (setOf Y Z (L.map (mir X Y Z 2)))), 25, false, true⟩] := by
  refine sound_intro (C := cx) Try.func87 rfl (by kernel_rfl) fun hcl => ?_
  have hz := hs.size
  have hx0 := hs.x0
  have hx4 := hs.x4
  have hy0 := hs.y0
  have hy4 := hs.y4
  have hz0 := hs.z0
  have hz4 := hs.z4
  have hlen := hL.len
  have hlt := hL.lt64 hs
  refine cSeq ?_
  refine cReg ?_
  refine segEnd [1, 2, 4] (T1 := (mkT 41 [(1, vI 2), (2, vP 1 0), (4, vP 2 0)])) (H1 := [some ⟨a3s L, 25, false, false⟩, rB [vN X, vN Y, vN Z, vS 0 L.length] 29, rB [vI 0, vI 0, vI 0, .slice none 0 0] 29]) (by kernel_rfl) ?_
  refine kSeq ?_
  refine cSeq ?_
  refine cReg ?_
  refine segH 6 (T1 := (mkT 41 [(1, vI 2), (2, vP 1 0), (4, vP 2 0), (8, vP 1 0), (9, vN X), (10, vP 1 1), (11, vN Y), (12, vP 1 2), (13, vN Z)])) (by kernel_rfl) ?_
  refine rCall (v := .agg #[vN X, vN Y, vN Z, vS 3 0]) (args := [vN X, vN Y, vN Z]) (by kernel_rfl) rfl (by kernel_rfl) (Sound.lay (E := [some ⟨[], 25, false, true⟩]) [] (l2EmptyB ((X : Nat) : Int) ((Y : Nat) : Int) ((Z : Nat) : Int)) trivial rfl trivial rfl (by first | rfl | simp [mpV, mpA, mpS, mpP, renId, shift]) (by first | rfl | simp [mpV, mpA, mpS, mpP, renId, shift]) ⟨enX rfl (Or.inl rfl), trivial⟩) ?_
  refine segEnd [1, 2, 4, 5] (T1 := (mkT 41 [(1, vI 2), (2, vP 1 0), (4, vP 2 0), (5, vP 4 0)])) (H1 := [some ⟨a3s L, 25, false, false⟩, rB [vN X, vN Y, vN Z, vS 0 L.length] 29, rB [vI 0, vI 0, vI 0, .slice none 0 0] 29, some ⟨[], 25, false, true⟩, rB [vN X, vN Y, vN Z, vS 3 0] 29]) (by kernel_rfl) ?_
  refine kSeq ?_
  refine cSeq ?_
  refine cSeq ?_
  refine cReg ?_
  refine segEndH [1, 2, 4, 5, 6] (T1 := (mkT 41 [(1, vI 2), (2, vP 1 0), (4, vP 2 0), (5, vP 4 0), (6, vI 0)])) (by kernel_rfl) ?_
  refine kSeq ?_
  refine cBlk ?_
  -- loop
  refine cLoop (fun mm T H => ∃ i : Nat, ∃ M : List A3, (i ≤ L.length) ∧ (M = listOf X Y Z (setOf Y Z ((L.take i).map (mir X Y Z 2)))) ∧ mm = L.length - i ∧ T = (mkT 41 [(1, vI 2), (2, vP 1 0), (4, vP 2 0), (5, vP 4 0), (6, vN i)]) ∧ H = [some ⟨a3s L, 25, false, false⟩, rB [vN X, vN Y, vN Z, vS 0 L.length] 29, rB [vI 0, vI 0, vI 0, .slice none 0 0] 29, some ⟨a3s M, 25, false, true⟩, rB [vN X, vN Y, vN Z, vS 3 M.length] 29]) (L.length - 0) (mkT 41 [(1, vI 2), (2, vP 1 0), (4, vP 2 0), (5, vP 4 0), (6, vI 0)]) [some ⟨a3s L, 25, false, false⟩, rB [vN X, vN Y, vN Z, vS 0 L.length] 29, rB [vI 0, vI 0, vI 0, .slice none 0 0] 29, some ⟨a3s ([] : List A3), 25, false, true⟩, rB [vN X, vN Y, vN Z, vS 3 (([] : List A3).length)] 29] (wkSame [1, 2, 4, 5, 6] (by kernel_rfl)) ?_ ?_
  · exact ⟨0, ([] : List A3), (Nat.zero_le _), (by rw [List.take_zero, List.map_nil, setOf_nil, listOf_zero]), rfl, rfl, rfl⟩
  · rintro _ _ _ ⟨i, M, hi, hM, rfl, rfl, rfl⟩
    have hLM : HeapL X Y Z M := hM ▸ HeapL.list _ _ _ _
    have hmlen := hLM.len
    refine cSeq ?_
    refine cSeq ?_
    refine cReg ?_
    refine segEndH [1, 2, 4, 5, 6, 19] (T1 := (mkT 41 [(1, vI 2), (2, vP 1 0), (4, vP 2 0), (5, vP 4 0), (6, vN i), (19, .bool (decide (((i : Nat) : Int) < ((L.length : Nat) : Int))))])) (by kernel_rfl) ?_
    refine kSeq ?_
    cases h1 : (decide (((i : Nat) : Int) < ((L.length : Nat) : Int)) : Bool)
    ·
      (try simp only [Bool.not_eq_true', Bool.not_eq_false', decide_eq_true_eq, decide_eq_false_iff_not, beq_iff_eq, bne_iff_ne, beq_eq_false_iff_ne, bne_eq_false_iff_eq, ne_eq, Decidable.not_not, Bool.and_eq_true, Bool.and_eq_false_imp, Bool.or_eq_true, Bool.or_eq_false_iff, Bool.not_eq_true, Int.not_lt, Int.not_le, ge_iff_le, gt_iff_lt] at h1)
      refine cFalse (by kernel_rfl) ?_
      refine cExit ?_
      refine kSeqE ?_
      refine kLoopE ?_
      refine kBlkHit ?_
      refine kSeq ?_
      refine cSeq ?_
      refine cReg ?_
      refine segEnd [4] (T1 := (mkT 41 [(4, vP 2 0)])) (H1 := [some ⟨a3s L, 25, false, false⟩, rB [vN X, vN Y, vN Z, vS 0 L.length] 29, rB [vN X, vN Y, vN Z, vS 3 M.length] 29, some ⟨a3s M, 25, false, true⟩, rB [vN X, vN Y, vN Z, vS 3 M.length] 29]) (by kernel_rfl) ?_
      refine kSeq ?_
      refine cRet ?_
      -- end
      have he0 : (M : List A3) = (listOf X Y Z (setOf Y Z (L.map (mir X Y Z 2)))) := by (rw [hM, show i = L.length by omega, List.take_length])
      refine endCast (v1 := .agg #[vN X, vN Y, vN Z, vS 1 M.length]) (H1 := [some ⟨a3s L, 25, false, false⟩, some ⟨a3s M, 25, false, true⟩]) (by first | rfl | ((try rw [← he0]); done) | (simp only [← he0]; done)) (by first | rfl | ((try rw [← he0]); done) | (simp only [← he0]; done)) ?_
      exact endF (Or.inr rfl) (l := [.agg #[vN X, vN Y, vN Z, vS 3 M.length]]) [0, 3] (by kernel_rfl) (by first | rfl | simp [packR, mpV, mpA, mpS, mpP, renId]) ⟨rrF (flatA3 _ _ _ _) rfl, ⟨rrF (flatA3 _ _ _ _) rfl, trivial⟩⟩ rfl rfl
    ·
      (try simp only [Bool.not_eq_true', Bool.not_eq_false', decide_eq_true_eq, decide_eq_false_iff_not, beq_iff_eq, bne_iff_ne, beq_eq_false_iff_ne, bne_eq_false_iff_eq, ne_eq, Decidable.not_not, Bool.and_eq_true, Bool.and_eq_false_imp, Bool.or_eq_true, Bool.or_eq_false_iff, Bool.not_eq_true, Int.not_lt, Int.not_le, ge_iff_le, gt_iff_lt] at h1)
      have hhas := hL.has hs (i := i) (by omega)
      have hh3 := has3_iff.1 hhas
      have hmir := mir_has (d := 2) hhas
      simp only [mir] at hmir
      refine cTrue (by kernel_rfl) ?_
      refine cSkip ?_
      refine kSeq ?_
      refine cSeq ?_
      refine cBlk ?_
      refine cSeq ?_
      refine cReg ?_
      refine segH 3 (T1 := (mkT 41 [(1, vI 2), (2, vP 1 0), (4, vP 2 0), (5, vP 4 0), (6, vN i), (19, .bool true), (22, vP 1 3), (23, vS 0 L.length), (24, vN i)])) (by kernel_rfl) ?_
      refine rOp (v := vP 0 (i * 3)) (by kernel_rfl) (eIdxS (ad := ⟨0, 0, none⟩) (n := L.length) (m := 0) (k := .i64) (c := ((i : Nat) : Int)) (j := i) (o := i * 3) (by kernel_rfl) (by kernel_rfl) ti22 ti25 (rfl) (by omega) (by exact Nat.zero_add _)) ?_
      refine rOp (v := .agg #[vI ((L.getD i default).x), vI ((L.getD i default).y), vI ((L.getD i default).z)]) (by kernel_rfl) (eLdA3 (ad := ⟨0, i * 3, none⟩) (r := ⟨a3s L, 25, false, false⟩) (L := L) (j := i) (by kernel_rfl) (by kernel_rfl) rfl (by first | rfl | omega) (by omega) ti25) ?_
      refine segEnd [1, 2, 4, 5, 6, 7] (T1 := (mkT 41 [(1, vI 2), (2, vP 1 0), (4, vP 2 0), (5, vP 4 0), (6, vN i), (7, vP 5 0)])) (H1 := [some ⟨a3s L, 25, false, false⟩, rB [vN X, vN Y, vN Z, vS 0 L.length] 29, rB [vI 0, vI 0, vI 0, .slice none 0 0] 29, some ⟨a3s M, 25, false, true⟩, rB [vN X, vN Y, vN Z, vS 3 M.length] 29, rB [vI ((L.getD i default).x), vI ((L.getD i default).y), vI ((L.getD i default).z)] 25]) (by kernel_rfl) ?_
      refine kSeq ?_
      refine cSeq ?_
      refine cRegW (N := 6) [⟨[], [], []⟩, ⟨[], [], [1]⟩, ⟨[], [], []⟩, ⟨[], [], [0]⟩, ⟨[], [], []⟩, ⟨[], [], []⟩, ⟨[], [], []⟩, ⟨[], [], [5]⟩, ⟨[], [], []⟩, ⟨[], [], []⟩, ⟨[], [5], []⟩] 0 [] (by rfl) (by rfl) (by kernel_rfl) (by kernel_rfl) (by kernel_rfl) ⟨nmsF (flatA3 _ _ _ _), ⟨nmsX (by kernel_rfl), ⟨nmsX (by kernel_rfl), ⟨nmsF (flatA3 _ _ _ _), ⟨nmsX (by kernel_rfl), ⟨nmsX (by kernel_rfl), trivial⟩⟩⟩⟩⟩⟩ ?_
      refine segWH 3 (T1 := (mkT 41 [(1, vI 2), (2, vP 1 0), (4, vP 2 0), (5, vP 4 0), (6, vN i), (7, vP 5 0), (27, vI 2), (28, .agg #[vN X, vN Y, vN Z, vS 0 L.length]), (29, vI 2)])) (by kernel_rfl) ?_
      refine rW (m := ⟨[], [], [0]⟩) (v := vN Z) rfl (by kernel_rfl) (stQ (args := [.agg #[vN X, vN Y, vN Z, vS 0 L.length], vI 2]) rfl (by kernel_rfl) (Any.lay0 [0] (l2Long2 ((X : Nat) : Int) ((Y : Nat) : Int) ((Z : Nat) : Int) L) ⟨rdF false (flatA3 _ _ _ _) rfl rfl, trivial⟩ rfl ⟨clF (flatA3 _ _ _ _), trivial⟩ rfl (by first | rfl | simp [mpV, mpA, mpS, mpP, renId, shift]) rfl) rfl (by kernel_rfl) (by kernel_rfl)) (by kernel_rfl) nr0 ?_
      refine rW (m := ⟨[], [], []⟩) (v := vI (((Z : Nat) : Int) - 1)) rfl (by kernel_rfl) (stId (eSub (k := .i64) (a := ((Z : Nat) : Int)) (b := 1) (c := (((Z : Nat) : Int) - 1)) (by kernel_rfl) (by kernel_rfl) (wr64 (by omega) (by omega) (by omega))) rfl (by kernel_rfl) (by kernel_rfl) (by kernel_rfl)) (by kernel_rfl) nr0 ?_
      refine segWH 3 (T1 := (mkT 41 [(1, vI 2), (2, vP 1 0), (4, vP 2 0), (5, vP 4 0), (6, vN i), (7, vP 5 0), (27, vI 2), (28, .agg #[vN X, vN Y, vN Z, vS 0 L.length]), (29, vI 2), (30, vN Z), (31, vI (((Z : Nat) : Int) - 1)), (32, vI 2), (33, vP 5 2), (34, vI ((L.getD i default).z))])) (by kernel_rfl) ?_
      refine rW (m := ⟨[], [], []⟩) (v := vI (((Z : Nat) : Int) - 1 - ((L.getD i default).z))) rfl (by kernel_rfl) (stId (eSub (k := .i64) (a := (((Z : Nat) : Int) - 1)) (b := ((L.getD i default).z)) (c := (((Z : Nat) : Int) - 1 - ((L.getD i default).z))) (by kernel_rfl) (by kernel_rfl) (wr64 (by omega) (by omega) (by omega))) rfl (by kernel_rfl) (by kernel_rfl) (by kernel_rfl)) (by kernel_rfl) nr0 ?_
      refine segWH 1 (T1 := (mkT 41 [(1, vI 2), (2, vP 1 0), (4, vP 2 0), (5, vP 4 0), (6, vN i), (7, vP 5 0), (27, vI 2), (28, .agg #[vN X, vN Y, vN Z, vS 0 L.length]), (29, vI 2), (30, vN Z), (31, vI (((Z : Nat) : Int) - 1)), (32, vI 2), (33, vP 5 2), (34, vI ((L.getD i default).z)), (35, vI (((Z : Nat) : Int) - 1 - ((L.getD i default).z))), (36, vP 5 2)])) (by kernel_rfl) ?_
      refine rW (m := ⟨[], [5], []⟩) (v := .tuple #[]) rfl (by kernel_rfl) (stSet (b := 5) (r := ⟨[vI ((L.getD i default).x), vI ((L.getD i default).y), vI (((Z : Nat) : Int) - 1 - ((L.getD i default).z))], 25, true, true⟩) (by kernel_rfl) rfl (by kernel_rfl) (by kernel_rfl) (by kernel_rfl) (by kernel_rfl) (nmX (by kernel_rfl)) (clX (by kernel_rfl))) (by kernel_rfl) (NRs.all ⟨nrOf (by rfl) (nmX (by kernel_rfl)), trivial⟩) ?_
      refine segEndW [1, 2, 4, 5, 6, 7] (T1 := (mkT 41 [(1, vI 2), (2, vP 1 0), (4, vP 2 0), (5, vP 4 0), (6, vN i), (7, vP 5 0)])) (H1 := [some ⟨a3s L, 25, false, false⟩, rB [vN X, vN Y, vN Z, vS 0 L.length] 29, rB [vI 0, vI 0, vI 0, .slice none 0 0] 29, some ⟨a3s M, 25, false, true⟩, rB [vN X, vN Y, vN Z, vS 3 M.length] 29, rB [vI ((L.getD i default).x), vI ((L.getD i default).y), vI (((Z : Nat) : Int) - 1 - ((L.getD i default).z))] 25]) (by kernel_rfl) ?_
      refine kSeq ?_
      refine cReg ?_
      refine segH 2 (T1 := (mkT 41 [(1, vI 2), (2, vP 1 0), (4, vP 2 0), (5, vP 4 0), (6, vN i), (7, vP 5 0), (37, .agg #[vN X, vN Y, vN Z, vS 3 M.length]), (38, .agg #[vI ((L.getD i default).x), vI ((L.getD i default).y), vI (((Z : Nat) : Int) - 1 - ((L.getD i default).z))])])) (by kernel_rfl) ?_
      refine rCall (v := .agg #[vN X, vN Y, vN Z, vS 6 ((listOf X Y Z (setOf Y Z M ||| 2 ^ idxN Y Z (A3.mk ((L.getD i default).x) ((L.getD i default).y) (((Z : Nat) : Int) - 1 - ((L.getD i default).z))))).length)]) (args := [.agg #[vN X, vN Y, vN Z, vS 3 M.length], .agg #[vI ((L.getD i default).x), vI ((L.getD i default).y), vI (((Z : Nat) : Int) - 1 - ((L.getD i default).z))]]) (by kernel_rfl) rfl (by kernel_rfl) (Sound.lay (E := [some ⟨a3s (listOf X Y Z (setOf Y Z M ||| 2 ^ idxN Y Z (A3.mk ((L.getD i default).x) ((L.getD i default).y) (((Z : Nat) : Int) - 1 - ((L.getD i default).z))))), 25, false, true⟩]) [3] (l2WithB X Y Z M ((L.getD i default).x) ((L.getD i default).y) (((Z : Nat) : Int) - 1 - ((L.getD i default).z)) (by first | assumption | omega | rfl | decide | exact HeapL.list _ _ _ _ | exact HeapL.nil _ _ _ | exact HeapL.all _ _ _ | (apply HeapL.lt64 <;> assumption) | (repeat' (first | assumption | apply or_lt64 | apply and_lt64 | apply andn_lt64 | apply pow_lt64 | (apply HeapL.lt64 <;> assumption)))) (by first | assumption | omega | rfl | decide | exact HeapL.list _ _ _ _ | exact HeapL.nil _ _ _ | exact HeapL.all _ _ _ | (apply HeapL.lt64 <;> assumption) | (repeat' (first | assumption | apply or_lt64 | apply and_lt64 | apply andn_lt64 | apply pow_lt64 | (apply HeapL.lt64 <;> assumption)))) (by first | assumption | omega | rfl | decide | exact HeapL.list _ _ _ _ | exact HeapL.nil _ _ _ | exact HeapL.all _ _ _ | (apply HeapL.lt64 <;> assumption) | (repeat' (first | assumption | apply or_lt64 | apply and_lt64 | apply andn_lt64 | apply pow_lt64 | (apply HeapL.lt64 <;> assumption))))) ⟨rdF true (flatA3 _ _ _ _) rfl rfl, trivial⟩ rfl ⟨clF (flatA3 _ _ _ _), trivial⟩ rfl (by first | rfl | simp [mpV, mpA, mpS, mpP, renId, shift]) (by first | rfl | simp [mpV, mpA, mpS, mpP, renId, shift]) ⟨enF (flatA3 _ _ _ _) (Or.inl rfl), trivial⟩) ?_
      refine segEnd [1, 2, 4, 5, 6] (T1 := (mkT 41 [(1, vI 2), (2, vP 1 0), (4, vP 2 0), (5, vP 4 0), (6, vN i)])) (H1 := [some ⟨a3s L, 25, false, false⟩, rB [vN X, vN Y, vN Z, vS 0 L.length] 29, rB [vI 0, vI 0, vI 0, .slice none 0 0] 29, some ⟨a3s M, 25, false, true⟩, rB [vN X, vN Y, vN Z, vS 6 ((listOf X Y Z (setOf Y Z M ||| 2 ^ idxN Y Z (A3.mk ((L.getD i default).x) ((L.getD i default).y) (((Z : Nat) : Int) - 1 - ((L.getD i default).z))))).length)] 29, rB [vI ((L.getD i default).x), vI ((L.getD i default).y), vI (((Z : Nat) : Int) - 1 - ((L.getD i default).z))] 25, some ⟨a3s (listOf X Y Z (setOf Y Z M ||| 2 ^ idxN Y Z (A3.mk ((L.getD i default).x) ((L.getD i default).y) (((Z : Nat) : Int) - 1 - ((L.getD i default).z))))), 25, false, true⟩]) (by kernel_rfl) ?_
      refine kBlk ?_
      refine kSeq ?_
      refine cReg ?_
      refine segH 1 (T1 := (mkT 41 [(1, vI 2), (2, vP 1 0), (4, vP 2 0), (5, vP 4 0), (6, vN i), (20, vN i)])) (by kernel_rfl) ?_
      refine rOp (v := vN (i + 1)) (by kernel_rfl) (eAdd (k := .i64) (a := ((i : Nat) : Int)) (b := 1) (c := ((i + 1 : Nat) : Int)) (by kernel_rfl) (by kernel_rfl) (wr64 (by omega) (by omega) (by omega))) ?_
      refine segEndH [1, 2, 4, 5, 6] (T1 := (mkT 41 [(1, vI 2), (2, vP 1 0), (4, vP 2 0), (5, vP 4 0), (6, vN (i + 1))])) (by kernel_rfl) ?_
      exact kLoop (L.length - (i + 1)) (mkT 41 [(1, vI 2), (2, vP 1 0), (4, vP 2 0), (5, vP 4 0), (6, vN (i + 1))]) [some ⟨a3s L, 25, false, false⟩, rB [vN X, vN Y, vN Z, vS 0 L.length] 29, rB [vI 0, vI 0, vI 0, .slice none 0 0] 29, some ⟨a3s (listOf X Y Z (setOf Y Z M ||| 2 ^ idxN Y Z (A3.mk ((L.getD i default).x) ((L.getD i default).y) (((Z : Nat) : Int) - 1 - ((L.getD i default).z))))), 25, false, true⟩, rB [vN X, vN Y, vN Z, vS 3 ((listOf X Y Z (setOf Y Z M ||| 2 ^ idxN Y Z (A3.mk ((L.getD i default).x) ((L.getD i default).y) (((Z : Nat) : Int) - 1 - ((L.getD i default).z))))).length)] 29] (by omega) (wkRen [0, 1, 2, 6, 4] [1, 2, 4, 5, 6] ⟨rrF (flatA3 _ _ _ _) rfl, ⟨rrX rfl rfl, ⟨rrX rfl rfl, ⟨rrF (flatA3 _ _ _ _) rfl, ⟨rrX rfl rfl, trivial⟩⟩⟩⟩⟩ rfl (by kernel_rfl) rfl) ⟨(i + 1), (listOf X Y Z (setOf Y Z M ||| 2 ^ idxN Y Z (A3.mk ((L.getD i default).x) ((L.getD i default).y) (((Z : Nat) : Int) - 1 - ((L.getD i default).z))))), (by omega), (moved_step (g := mir X Y Z 2) hs hM (by omega)), rfl, rfl, rfl⟩

set_option maxRecDepth 100000 in
set_option maxHeartbeats 4000000 in
theorem specMirrorHeap_no1 (x : Int) (y : Int) (z : Int) (L : List A3) (k : Int) (hl : L.length ≤ 1048576) (hv : isHeapB x y z L = false) : Sound Try.prog 44 [.agg #[vI x, vI y, vI z, vS 0 L.length], vI k] [some ⟨a3s L, 25, false, false⟩] (.tuple #[.agg #[vI 0, vI 0, vI 0, .slice none 0 0], .bool false]) [some ⟨a3s L, 25, false, false⟩] := by
  refine sound_intro (C := cx) Try.func44 rfl (by kernel_rfl) fun hcl => ?_
  refine cSeq ?_
  refine cReg ?_
  refine segEnd [1, 2, 4] (T1 := (mkT 18 [(1, vI k), (2, vP 1 0), (4, vP 2 0)])) (H1 := [some ⟨a3s L, 25, false, false⟩, rB [vI x, vI y, vI z, vS 0 L.length] 29, rB [vI 0, vI 0, vI 0, .slice none 0 0] 29]) (by kernel_rfl) ?_
  refine kSeq ?_
  refine cSeq ?_
  refine cSeq ?_
  refine cReg ?_
  refine segH 1 (T1 := (mkT 18 [(1, vI k), (2, vP 1 0), (4, vP 2 0), (6, .agg #[vI x, vI y, vI z, vS 0 L.length])])) (by kernel_rfl) ?_
  refine rCall (v := .bool false) (args := [.agg #[vI x, vI y, vI z, vS 0 L.length]]) (by kernel_rfl) rfl (by kernel_rfl) (Sound.lay0 [0] (l2HeapB_no x y z L (by first | assumption | omega | rfl | decide | exact HeapL.list _ _ _ _ | exact HeapL.nil _ _ _ | exact HeapL.all _ _ _ | (apply HeapL.lt64 <;> assumption) | (repeat' (first | assumption | apply or_lt64 | apply and_lt64 | apply andn_lt64 | apply pow_lt64 | (apply HeapL.lt64 <;> assumption)))) (by first | assumption | omega | rfl | decide | exact HeapL.list _ _ _ _ | exact HeapL.nil _ _ _ | exact HeapL.all _ _ _ | (apply HeapL.lt64 <;> assumption) | (repeat' (first | assumption | apply or_lt64 | apply and_lt64 | apply andn_lt64 | apply pow_lt64 | (apply HeapL.lt64 <;> assumption))))) ⟨rdF false (flatA3 _ _ _ _) rfl rfl, trivial⟩ rfl ⟨clF (flatA3 _ _ _ _), trivial⟩ rfl (by first | rfl | simp [mpV, mpA, mpS, mpP, renId, shift]) rfl) ?_
  refine segEndH [1, 2, 4, 13] (T1 := (mkT 18 [(1, vI k), (2, vP 1 0), (4, vP 2 0), (13, .bool true)])) (by kernel_rfl) ?_
  refine kSeq ?_
  refine cTrue (by kernel_rfl) ?_
  refine cSeq ?_
  refine cReg ?_
  refine segEnd [4, 5] (T1 := (mkT 18 [(4, vP 2 0), (5, .bool false)])) (H1 := [some ⟨a3s L, 25, false, false⟩, rB [vI x, vI y, vI z, vS 0 L.length] 29, rB [vI 0, vI 0, vI 0, .slice none 0 0] 29]) (by kernel_rfl) ?_
  refine kSeq ?_
  refine cRet ?_
  refine kSeqR ?_
  -- end
  exact endQ (Or.inr rfl) (l := [.agg #[vI 0, vI 0, vI 0, .slice none 0 0], .bool false]) [rB [vI x, vI y, vI z, vS 0 L.length] 29, rB [vI 0, vI 0, vI 0, .slice none 0 0] 29] (by kernel_rfl) (by first | rfl | kernel_rfl) rfl rfl hcl rfl

set_option maxRecDepth 100000 in
set_option maxHeartbeats 4000000 in
theorem specMirrorHeap_no2 (X : Nat) (Y : Nat) (Z : Nat) (L : List A3) (k : Int) (hs : Sides X Y Z) (hL : HeapL X Y Z L) (hk : inR k 0 2 = false) : Sound Try.prog 44 [.agg #[vN X, vN Y, vN Z, vS 0 L.length], vI k] [some ⟨a3s L, 25, false, false⟩] (.tuple #[.agg #[vI 0, vI 0, vI 0, .slice none 0 0], .bool false]) [some ⟨a3s L, 25, false, false⟩] := by
  refine sound_intro (C := cx) Try.func44 rfl (by kernel_rfl) fun hcl => ?_
  have hz := hs.size
  have hx0 := hs.x0
  have hx4 := hs.x4
  have hy0 := hs.y0
  have hy4 := hs.y4
  have hz0 := hs.z0
  have hz4 := hs.z4
  have hlen := hL.len
  have hlt := hL.lt64 hs
  refine cSeq ?_
  refine cReg ?_
  refine segEnd [1, 2, 4] (T1 := (mkT 18 [(1, vI k), (2, vP 1 0), (4, vP 2 0)])) (H1 := [some ⟨a3s L, 25, false, false⟩, rB [vN X, vN Y, vN Z, vS 0 L.length] 29, rB [vI 0, vI 0, vI 0, .slice none 0 0] 29]) (by kernel_rfl) ?_
  refine kSeq ?_
  refine cSeq ?_
  refine cSeq ?_
  refine cReg ?_
  refine segH 1 (T1 := (mkT 18 [(1, vI k), (2, vP 1 0), (4, vP 2 0), (6, .agg #[vN X, vN Y, vN Z, vS 0 L.length])])) (by kernel_rfl) ?_
  refine rCall (v := .bool true) (args := [.agg #[vN X, vN Y, vN Z, vS 0 L.length]]) (by kernel_rfl) rfl (by kernel_rfl) (Sound.lay0 [0] (l2HeapB X Y Z L (by first | assumption | omega | rfl | decide | exact HeapL.list _ _ _ _ | exact HeapL.nil _ _ _ | exact HeapL.all _ _ _ | (apply HeapL.lt64 <;> assumption) | (repeat' (first | assumption | apply or_lt64 | apply and_lt64 | apply andn_lt64 | apply pow_lt64 | (apply HeapL.lt64 <;> assumption)))) (by first | assumption | omega | rfl | decide | exact HeapL.list _ _ _ _ | exact HeapL.nil _ _ _ | exact HeapL.all _ _ _ | (apply HeapL.lt64 <;> assumption) | (repeat' (first | assumption | apply or_lt64 | apply and_lt64 | apply andn_lt64 | apply pow_lt64 | (apply HeapL.lt64 <;> assumption))))) ⟨rdF false (flatA3 _ _ _ _) rfl rfl, trivial⟩ rfl ⟨clF (flatA3 _ _ _ _), trivial⟩ rfl (by first | rfl | simp [mpV, mpA, mpS, mpP, renId, shift]) rfl) ?_
  refine segH 3 (T1 := (mkT 18 [(1, vI k), (2, vP 1 0), (4, vP 2 0), (6, .agg #[vN X, vN Y, vN Z, vS 0 L.length]), (7, .bool true), (8, .bool false), (9, .bool false), (10, vI k)])) (by kernel_rfl) ?_
  refine rCall (v := .bool (inR k 0 2)) (args := [vI k, vI 0, vI 2]) (by kernel_rfl) rfl (by kernel_rfl) (Sound.lay0 [] (l1InB k 0 2) trivial rfl trivial rfl (by first | rfl | simp [mpV, mpA, mpS, mpP, renId, shift]) rfl) ?_
  refine segEndH [1, 2, 4, 13] (T1 := (mkT 18 [(1, vI k), (2, vP 1 0), (4, vP 2 0), (13, .bool (!(inR k 0 2)))])) (by kernel_rfl) ?_
  refine kSeq ?_
  cases h1 : (inR k 0 2 : Bool)
  ·
    (try simp only [Bool.not_eq_true', Bool.not_eq_false', decide_eq_true_eq, decide_eq_false_iff_not, beq_iff_eq, bne_iff_ne, beq_eq_false_iff_ne, bne_eq_false_iff_eq, ne_eq, Decidable.not_not, Bool.and_eq_true, Bool.and_eq_false_imp, Bool.or_eq_true, Bool.or_eq_false_iff, Bool.not_eq_true, Int.not_lt, Int.not_le, ge_iff_le, gt_iff_lt] at h1)
    refine cTrue (by kernel_rfl) ?_
    refine cSeq ?_
    refine cReg ?_
    refine segEnd [4, 5] (T1 := (mkT 18 [(4, vP 2 0), (5, .bool false)])) (H1 := [some ⟨a3s L, 25, false, false⟩, rB [vN X, vN Y, vN Z, vS 0 L.length] 29, rB [vI 0, vI 0, vI 0, .slice none 0 0] 29]) (by kernel_rfl) ?_
    refine kSeq ?_
    refine cRet ?_
    refine kSeqR ?_
    -- end
    exact endQ (Or.inr rfl) (l := [.agg #[vI 0, vI 0, vI 0, .slice none 0 0], .bool false]) [rB [vN X, vN Y, vN Z, vS 0 L.length] 29, rB [vI 0, vI 0, vI 0, .slice none 0 0] 29] (by kernel_rfl) (by first | rfl | kernel_rfl) rfl rfl hcl rfl
  ·
    (try simp only [Bool.not_eq_true', Bool.not_eq_false', decide_eq_true_eq, decide_eq_false_iff_not, beq_iff_eq, bne_iff_ne, beq_eq_false_iff_ne, bne_eq_false_iff_eq, ne_eq, Decidable.not_not, Bool.and_eq_true, Bool.and_eq_false_imp, Bool.or_eq_true, Bool.or_eq_false_iff, Bool.not_eq_true, Int.not_lt, Int.not_le, ge_iff_le, gt_iff_lt] at h1)
    exfalso; simp_all

set_option maxRecDepth 100000 in
set_option maxHeartbeats 4000000 in
theorem specMirrorHeap_0 (X : Nat) (Y : Nat) (Z : Nat) (L : List A3) (hs : Sides X Y Z) (hL : HeapL X Y Z L) : Sound Try.prog 44 [.agg #[vN X, vN Y, vN Z, vS 0 L.length], vI 0] [some ⟨a3s L, 25, false, false⟩] (.tuple #[.agg #[vN X, vN Y, vN Z, vS 1 ((listOf X Y Z (setOf Y Z (L.map (mir X Y Z 0)))).length)], .bool true]) [some ⟨a3s L, 25, false, false⟩, some ⟨a3s (listOf X Y Z (setOf Y Z (L.map (mir X Y Z 0)))), 25, false, true⟩] := by
  refine sound_intro (C := cx) Try.func44 rfl (by kernel_rfl) fun hcl => ?_
  have hz := hs.size
  have hx0 := hs.x0
  have hx4 := hs.x4
  have hy0 := hs.y0
  have hy4 := hs.y4
  have hz0 := hs.z0
  have hz4 := hs.z4
  have hlen := hL.len
  have hlt := hL.lt64 hs
  refine cSeq ?_
  refine cReg ?_
  refine segEnd [1, 2, 4] (T1 := (mkT 18 [(1, vI 0), (2, vP 1 0), (4, vP 2 0)])) (H1 := [some ⟨a3s L, 25, false, false⟩, rB [vN X, vN Y, vN Z, vS 0 L.length] 29, rB [vI 0, vI 0, vI 0, .slice none 0 0] 29]) (by kernel_rfl) ?_
  refine kSeq ?_
  refine cSeq ?_
  refine cSeq ?_
  refine cReg ?_
  refine segH 1 (T1 := (mkT 18 [(1, vI 0), (2, vP 1 0), (4, vP 2 0), (6, .agg #[vN X, vN Y, vN Z, vS 0 L.length])])) (by kernel_rfl) ?_
  refine rCall (v := .bool true) (args := [.agg #[vN X, vN Y, vN Z, vS 0 L.length]]) (by kernel_rfl) rfl (by kernel_rfl) (Sound.lay0 [0] (l2HeapB X Y Z L (by first | assumption | omega | rfl | decide | exact HeapL.list _ _ _ _ | exact HeapL.nil _ _ _ | exact HeapL.all _ _ _ | (apply HeapL.lt64 <;> assumption) | (repeat' (first | assumption | apply or_lt64 | apply and_lt64 | apply andn_lt64 | apply pow_lt64 | (apply HeapL.lt64 <;> assumption)))) (by first | assumption | omega | rfl | decide | exact HeapL.list _ _ _ _ | exact HeapL.nil _ _ _ | exact HeapL.all _ _ _ | (apply HeapL.lt64 <;> assumption) | (repeat' (first | assumption | apply or_lt64 | apply and_lt64 | apply andn_lt64 | apply pow_lt64 | (apply HeapL.lt64 <;> assumption))))) ⟨rdF false (flatA3 _ _ _ _) rfl rfl, trivial⟩ rfl ⟨clF (flatA3 _ _ _ _), trivial⟩ rfl (by first | rfl | simp [mpV, mpA, mpS, mpP, renId, shift]) rfl) ?_
  refine segH 3 (T1 := (mkT 18 [(1, vI 0), (2, vP 1 0), (4, vP 2 0), (6, .agg #[vN X, vN Y, vN Z, vS 0 L.length]), (7, .bool true), (8, .bool false), (9, .bool false), (10, vI 0)])) (by kernel_rfl) ?_
  refine rCall (v := .bool (inR 0 0 2)) (args := [vI 0, vI 0, vI 2]) (by kernel_rfl) rfl (by kernel_rfl) (Sound.lay0 [] (l1InB 0 0 2) trivial rfl trivial rfl (by first | rfl | simp [mpV, mpA, mpS, mpP, renId, shift]) rfl) ?_
  refine segEndH [1, 2, 4, 13] (T1 := (mkT 18 [(1, vI 0), (2, vP 1 0), (4, vP 2 0), (13, .bool (!(inR 0 0 2)))])) (by kernel_rfl) ?_
  refine kSeq ?_
  cases h1 : (inR 0 0 2 : Bool)
  ·
    (try simp only [Bool.not_eq_true', Bool.not_eq_false', decide_eq_true_eq, decide_eq_false_iff_not, beq_iff_eq, bne_iff_ne, beq_eq_false_iff_ne, bne_eq_false_iff_eq, ne_eq, Decidable.not_not, Bool.and_eq_true, Bool.and_eq_false_imp, Bool.or_eq_true, Bool.or_eq_false_iff, Bool.not_eq_true, Int.not_lt, Int.not_le, ge_iff_le, gt_iff_lt] at h1)
    exfalso; simp [inR] at h1
  ·
    (try simp only [Bool.not_eq_true', Bool.not_eq_false', decide_eq_true_eq, decide_eq_false_iff_not, beq_iff_eq, bne_iff_ne, beq_eq_false_iff_ne, bne_eq_false_iff_eq, ne_eq, Decidable.not_not, Bool.and_eq_true, Bool.and_eq_false_imp, Bool.or_eq_true, Bool.or_eq_false_iff, Bool.not_eq_true, Int.not_lt, Int.not_le, ge_iff_le, gt_iff_lt] at h1)
    refine cFalse (by kernel_rfl) ?_
    refine cSkip ?_
    refine kSeq ?_
    refine cSeq ?_
    refine cReg ?_
    refine segH 2 (T1 := (mkT 18 [(1, vI 0), (2, vP 1 0), (4, vP 2 0), (13, .bool false), (15, .agg #[vN X, vN Y, vN Z, vS 0 L.length]), (16, vI 0)])) (by kernel_rfl) ?_
    refine rCall (v := .agg #[vN X, vN Y, vN Z, vS 3 ((listOf X Y Z (setOf Y Z (L.map (mir X Y Z 0)))).length)]) (args := [.agg #[vN X, vN Y, vN Z, vS 0 L.length], vI 0]) (by kernel_rfl) rfl (by kernel_rfl) (Sound.lay (E := [some ⟨a3s (listOf X Y Z (setOf Y Z (L.map (mir X Y Z 0)))), 25, false, true⟩]) [0] (l2Mirrored0 X Y Z L (by first | assumption | omega | rfl | decide | exact HeapL.list _ _ _ _ | exact HeapL.nil _ _ _ | exact HeapL.all _ _ _ | (apply HeapL.lt64 <;> assumption) | (repeat' (first | assumption | apply or_lt64 | apply and_lt64 | apply andn_lt64 | apply pow_lt64 | (apply HeapL.lt64 <;> assumption)))) (by first | assumption | omega | rfl | decide | exact HeapL.list _ _ _ _ | exact HeapL.nil _ _ _ | exact HeapL.all _ _ _ | (apply HeapL.lt64 <;> assumption) | (repeat' (first | assumption | apply or_lt64 | apply and_lt64 | apply andn_lt64 | apply pow_lt64 | (apply HeapL.lt64 <;> assumption))))) ⟨rdF false (flatA3 _ _ _ _) rfl rfl, trivial⟩ rfl ⟨clF (flatA3 _ _ _ _), trivial⟩ rfl (by first | rfl | simp [mpV, mpA, mpS, mpP, renId, shift]) (by first | rfl | simp [mpV, mpA, mpS, mpP, renId, shift]) ⟨enF (flatA3 _ _ _ _) (Or.inl rfl), trivial⟩) ?_
    refine segEnd [4, 5] (T1 := (mkT 18 [(4, vP 2 0), (5, .bool true)])) (H1 := [some ⟨a3s L, 25, false, false⟩, rB [vN X, vN Y, vN Z, vS 0 L.length] 29, rB [vN X, vN Y, vN Z, vS 3 ((listOf X Y Z (setOf Y Z (L.map (mir X Y Z 0)))).length)] 29, some ⟨a3s (listOf X Y Z (setOf Y Z (L.map (mir X Y Z 0)))), 25, false, true⟩]) (by kernel_rfl) ?_
    refine kSeq ?_
    refine cRet ?_
    -- end
    exact endF (Or.inr rfl) (l := [.agg #[vN X, vN Y, vN Z, vS 3 ((listOf X Y Z (setOf Y Z (L.map (mir X Y Z 0)))).length)], .bool true]) [0, 3] (by kernel_rfl) (by first | rfl | simp [packR, mpV, mpA, mpS, mpP, renId]) ⟨rrF (flatA3 _ _ _ _) rfl, ⟨rrF (flatA3 _ _ _ _) rfl, trivial⟩⟩ rfl rfl

set_option maxRecDepth 100000 in
set_option maxHeartbeats 4000000 in
theorem specMirrorHeap_1 (X : Nat) (Y : Nat) (Z : Nat) (L : List A3) (hs : Sides X Y Z) (hL : HeapL X Y Z L) : Sound Try.prog 44 [.agg #[vN X, vN Y, vN Z, vS 0 L.length], vI 1] [some ⟨a3s L, 25, false, false⟩] (.tuple #[.agg #[vN X, vN Y, vN Z, vS 1 ((listOf X Y Z (setOf Y Z (L.map (mir X Y Z 1)))).length)], .bool true]) [some ⟨a3s L, 25, false, false⟩, some ⟨a3s (listOf X Y Z (setOf Y Z (L.map (mir X Y Z 1)))), 25, false, true⟩] := by
  refine sound_intro (C := cx) Try.func44 rfl (by kernel_rfl) fun hcl => ?_
  have hz := hs.size
  have hx0 := hs.x0
  have hx4 := hs.x4
  have hy0 := hs.y0
  have hy4 := hs.y4
  have hz0 := hs.z0
  have hz4 := hs.z4
  have hlen := hL.len
  have hlt := hL.lt64 hs
  refine cSeq ?_
  refine cReg ?_
  refine segEnd [1, 2, 4] (T1 := (mkT 18 [(1, vI 1), (2, vP 1 0), (4, vP 2 0)])) (H1 := [some ⟨a3s L, 25, false, false⟩, rB [vN X, vN Y, vN Z, vS 0 L.length] 29, rB [vI 0, vI 0, vI 0, .slice none 0 0] 29]) (by kernel_rfl) ?_
  refine kSeq ?_
  refine cSeq ?_
  refine cSeq ?_
  refine cReg ?_
  refine segH 1 (T1 := (mkT 18 [(1, vI 1), (2, vP 1 0), (4, vP 2 0), (6, .agg #[vN X, vN Y, vN Z, vS 0 L.length])])) (by kernel_rfl) ?_
  refine rCall (v := .bool true) (args := [.agg #[vN X, vN Y, vN Z, vS 0 L.length]]) (by kernel_rfl) rfl (by kernel_rfl) (Sound.lay0 [0] (l2HeapB X Y Z L (by first | assumption | omega | rfl | decide | exact HeapL.list _ _ _ _ | exact HeapL.nil _ _ _ | exact HeapL.all _ _ _ | (apply HeapL.lt64 <;> assumption) | (repeat' (first | assumption | apply or_lt64 | apply and_lt64 | apply andn_lt64 | apply pow_lt64 | (apply HeapL.lt64 <;> assumption)))) (by first | assumption | omega | rfl | decide | exact HeapL.list _ _ _ _ | exact HeapL.nil _ _ _ | exact HeapL.all _ _ _ | (apply HeapL.lt64 <;> assumption) | (repeat' (first | assumption | apply or_lt64 | apply and_lt64 | apply andn_lt64 | apply pow_lt64 | (apply HeapL.lt64 <;> assumption))))) ⟨rdF false (flatA3 _ _ _ _) rfl rfl, trivial⟩ rfl ⟨clF (flatA3 _ _ _ _), trivial⟩ rfl (by first | rfl | simp [mpV, mpA, mpS, mpP, renId, shift]) rfl) ?_
  refine segH 3 (T1 := (mkT 18 [(1, vI 1), (2, vP 1 0), (4, vP 2 0), (6, .agg #[vN X, vN Y, vN Z, vS 0 L.length]), (7, .bool true), (8, .bool false), (9, .bool false), (10, vI 1)])) (by kernel_rfl) ?_
  refine rCall (v := .bool (inR 1 0 2)) (args := [vI 1, vI 0, vI 2]) (by kernel_rfl) rfl (by kernel_rfl) (Sound.lay0 [] (l1InB 1 0 2) trivial rfl trivial rfl (by first | rfl | simp [mpV, mpA, mpS, mpP, renId, shift]) rfl) ?_
  refine segEndH [1, 2, 4, 13] (T1 := (mkT 18 [(1, vI 1), (2, vP 1 0), (4, vP 2 0), (13, .bool (!(inR 1 0 2)))])) (by kernel_rfl) ?_
  refine kSeq ?_
  cases h1 : (inR 1 0 2 : Bool)
  ·
    (try simp only [Bool.not_eq_true', Bool.not_eq_false', decide_eq_true_eq, decide_eq_false_iff_not, beq_iff_eq, bne_iff_ne, beq_eq_false_iff_ne, bne_eq_false_iff_eq, ne_eq, Decidable.not_not, Bool.and_eq_true, Bool.and_eq_false_imp, Bool.or_eq_true, Bool.or_eq_false_iff, Bool.not_eq_true, Int.not_lt, Int.not_le, ge_iff_le, gt_iff_lt] at h1)
    exfalso; simp [inR] at h1
  ·
    (try simp only [Bool.not_eq_true', Bool.not_eq_false', decide_eq_true_eq, decide_eq_false_iff_not, beq_iff_eq, bne_iff_ne, beq_eq_false_iff_ne, bne_eq_false_iff_eq, ne_eq, Decidable.not_not, Bool.and_eq_true, Bool.and_eq_false_imp, Bool.or_eq_true, Bool.or_eq_false_iff, Bool.not_eq_true, Int.not_lt, Int.not_le, ge_iff_le, gt_iff_lt] at h1)
    refine cFalse (by kernel_rfl) ?_
    refine cSkip ?_
    refine kSeq ?_
    refine cSeq ?_
    refine cReg ?_
    refine segH 2 (T1 := (mkT 18 [(1, vI 1), (2, vP 1 0), (4, vP 2 0), (13, .bool false), (15, .agg #[vN X, vN Y, vN Z, vS 0 L.length]), (16, vI 1)])) (by kernel_rfl) ?_
    refine rCall (v := .agg #[vN X, vN Y, vN Z, vS 3 ((listOf X Y Z (setOf Y Z (L.map (mir X Y Z 1)))).length)]) (args := [.agg #[vN X, vN Y, vN Z, vS 0 L.length], vI 1]) (by kernel_rfl) rfl (by kernel_rfl) (Sound.lay (E := [some ⟨a3s (listOf X Y Z (setOf Y Z (L.map (mir X Y Z 1)))), 25, false, true⟩]) [0] (l2Mirrored1 X Y Z L (by first | assumption | omega | rfl | decide | exact HeapL.list _ _ _ _ | exact HeapL.nil _ _ _ | exact HeapL.all _ _ _ | (apply HeapL.lt64 <;> assumption) | (repeat' (first | assumption | apply or_lt64 | apply and_lt64 | apply andn_lt64 | apply pow_lt64 | (apply HeapL.lt64 <;> assumption)))) (by first | assumption | omega | rfl | decide | exact HeapL.list _ _ _ _ | exact HeapL.nil _ _ _ | exact HeapL.all _ _ _ | (apply HeapL.lt64 <;> assumption) | (repeat' (first | assumption | apply or_lt64 | apply and_lt64 | apply andn_lt64 | apply pow_lt64 | (apply HeapL.lt64 <;> assumption))))) ⟨rdF false (flatA3 _ _ _ _) rfl rfl, trivial⟩ rfl ⟨clF (flatA3 _ _ _ _), trivial⟩ rfl (by first | rfl | simp [mpV, mpA, mpS, mpP, renId, shift]) (by first | rfl | simp [mpV, mpA, mpS, mpP, renId, shift]) ⟨enF (flatA3 _ _ _ _) (Or.inl rfl), trivial⟩) ?_
    refine segEnd [4, 5] (T1 := (mkT 18 [(4, vP 2 0), (5, .bool true)])) (H1 := [some ⟨a3s L, 25, false, false⟩, rB [vN X, vN Y, vN Z, vS 0 L.length] 29, rB [vN X, vN Y, vN Z, vS 3 ((listOf X Y Z (setOf Y Z (L.map (mir X Y Z 1)))).length)] 29, some ⟨a3s (listOf X Y Z (setOf Y Z (L.map (mir X Y Z 1)))), 25, false, true⟩]) (by kernel_rfl) ?_
    refine kSeq ?_
    refine cRet ?_
    -- end
    exact endF (Or.inr rfl) (l := [.agg #[vN X, vN Y, vN Z, vS 3 ((listOf X Y Z (setOf Y Z (L.map (mir X Y Z 1)))).length)], .bool true]) [0, 3] (by kernel_rfl) (by first | rfl | simp [packR, mpV, mpA, mpS, mpP, renId]) ⟨rrF (flatA3 _ _ _ _) rfl, ⟨rrF (flatA3 _ _ _ _) rfl, trivial⟩⟩ rfl rfl

set_option maxRecDepth 100000 in
set_option maxHeartbeats 4000000 in
theorem specMirrorHeap_2 (X : Nat) (Y : Nat) (Z : Nat) (L : List A3) (hs : Sides X Y Z) (hL : HeapL X Y Z L) : Sound Try.prog 44 [.agg #[vN X, vN Y, vN Z, vS 0 L.length], vI 2] [some ⟨a3s L, 25, false, false⟩] (.tuple #[.agg #[vN X, vN Y, vN Z, vS 1 ((listOf X Y Z (setOf Y Z (L.map (mir X Y Z 2)))).length)], .bool true]) [some ⟨a3s L, 25, false, false⟩, some ⟨a3s (listOf X Y Z (setOf Y Z (L.map (mir X Y Z 2)))), 25, false, true⟩] := by
  refine sound_intro (C := cx) Try.func44 rfl (by kernel_rfl) fun hcl => ?_
  have hz := hs.size
  have hx0 := hs.x0
  have hx4 := hs.x4
  have hy0 := hs.y0
  have hy4 := hs.y4
  have hz0 := hs.z0
  have hz4 := hs.z4
  have hlen := hL.len
  have hlt := hL.lt64 hs
  refine cSeq ?_
  refine cReg ?_
  refine segEnd [1, 2, 4] (T1 := (mkT 18 [(1, vI 2), (2, vP 1 0), (4, vP 2 0)])) (H1 := [some ⟨a3s L, 25, false, false⟩, rB [vN X, vN Y, vN Z, vS 0 L.length] 29, rB [vI 0, vI 0, vI 0, .slice none 0 0] 29]) (by kernel_rfl) ?_
  refine kSeq ?_
  refine cSeq ?_
  refine cSeq ?_
  refine cReg ?_
  refine segH 1 (T1 := (mkT 18 [(1, vI 2), (2, vP 1 0), (4, vP 2 0), (6, .agg #[vN X, vN Y, vN Z, vS 0 L.length])])) (by kernel_rfl) ?_
  refine rCall (v := .bool true) (args := [.agg #[vN X, vN Y, vN Z, vS 0 L.length]]) (by kernel_rfl) rfl (by kernel_rfl) (Sound.lay0 [0] (l2HeapB X Y Z L (by first | assumption | omega | rfl | decide | exact HeapL.list _ _ _ _ | exact HeapL.nil _ _ _ | exact HeapL.all _ _ _ | (apply HeapL.lt64 <;> assumption) | (repeat' (first | assumption | apply or_lt64 | apply and_lt64 | apply andn_lt64 | apply pow_lt64 | (apply HeapL.lt64 <;> assumption)))) (by first | assumption | omega | rfl | decide | exact HeapL.list _ _ _ _ | exact HeapL.nil _ _ _ | exact HeapL.all _ _ _ | (apply HeapL.lt64 <;> assumption) | (repeat' (first | assumption | apply or_lt64 | apply and_lt64 | apply andn_lt64 | apply pow_lt64 | (apply HeapL.lt64 <;> assumption))))) ⟨rdF false (flatA3 _ _ _ _) rfl rfl, trivial⟩ rfl ⟨clF (flatA3 _ _ _ _), trivial⟩ rfl (by first | rfl | simp [mpV, mpA, mpS, mpP, renId, shift]) rfl) ?_
  refine segH 3 (T1 := (mkT 18 [(1, vI 2), (2, vP 1 0), (4, vP 2 0), (6, .agg #[vN X, vN Y, vN Z, vS 0 L.length]), (7, .bool true), (8, .bool false), (9, .bool false), (10, vI 2)])) (by kernel_rfl) ?_
  refine rCall (v := .bool (inR 2 0 2)) (args := [vI 2, vI 0, vI 2]) (by kernel_rfl) rfl (by kernel_rfl) (Sound.lay0 [] (l1InB 2 0 2) trivial rfl trivial rfl (by first | rfl | simp [mpV, mpA, mpS, mpP, renId, shift]) rfl) ?_
  refine segEndH [1, 2, 4, 13] (T1 := (mkT 18 [(1, vI 2), (2, vP 1 0), (4, vP 2 0), (13, .bool (!(inR 2 0 2)))])) (by kernel_rfl) ?_
  refine kSeq ?_
  cases h1 : (inR 2 0 2 : Bool)
  ·
    (try simp only [Bool.not_eq_true', Bool.not_eq_false', decide_eq_true_eq, decide_eq_false_iff_not, beq_iff_eq, bne_iff_ne, beq_eq_false_iff_ne, bne_eq_false_iff_eq, ne_eq, Decidable.not_not, Bool.and_eq_true, Bool.and_eq_false_imp, Bool.or_eq_true, Bool.or_eq_false_iff, Bool.not_eq_true, Int.not_lt, Int.not_le, ge_iff_le, gt_iff_lt] at h1)
    exfalso; simp [inR] at h1
  ·
    (try simp only [Bool.not_eq_true', Bool.not_eq_false', decide_eq_true_eq, decide_eq_false_iff_not, beq_iff_eq, bne_iff_ne, beq_eq_false_iff_ne, bne_eq_false_iff_eq, ne_eq, Decidable.not_not, Bool.and_eq_true, Bool.and_eq_false_imp, Bool.or_eq_true, Bool.or_eq_false_iff, Bool.not_eq_true, Int.not_lt, Int.not_le, ge_iff_le, gt_iff_lt] at h1)
    refine cFalse (by kernel_rfl) ?_
    refine cSkip ?_
    refine kSeq ?_
    refine cSeq ?_
    refine cReg ?_
    refine segH 2 (T1 := (mkT 18 [(1, vI 2), (2, vP 1 0), (4, vP 2 0), (13, .bool false), (15, .agg #[vN X, vN Y, vN Z, vS 0 L.length]), (16, vI 2)])) (by kernel_rfl) ?_
    refine rCall (v := .agg #[vN X, vN Y, vN Z, vS 3 ((listOf X Y Z (setOf Y Z (L.map (mir X Y Z 2)))).length)]) (args := [.agg #[vN X, vN Y, vN Z, vS 0 L.length], vI 2]) (by kernel_rfl) rfl (by kernel_rfl) (Sound.lay (E := [some ⟨a3s (listOf X Y Z (setOf Y Z (L.map (mir X Y Z 2)))), 25, false, true⟩]) [0] (l2Mirrored2 X Y Z L (by first | assumption | omega | rfl | decide | exact HeapL.list _ _ _ _ | exact HeapL.nil _ _ _ | exact HeapL.all _ _ _ | (apply HeapL.lt64 <;> assumption) | (repeat' (first | assumption | apply or_lt64 | apply and_lt64 | apply andn_lt64 | apply pow_lt64 | (apply HeapL.lt64 <;> assumption)))) (by first | assumption | omega | rfl | decide | exact HeapL.list _ _ _ _ | exact HeapL.nil _ _ _ | exact HeapL.all _ _ _ | (apply HeapL.lt64 <;> assumption) | (repeat' (first | assumption | apply or_lt64 | apply and_lt64 | apply andn_lt64 | apply pow_lt64 | (apply HeapL.lt64 <;> assumption))))) ⟨rdF false (flatA3 _ _ _ _) rfl rfl, trivial⟩ rfl ⟨clF (flatA3 _ _ _ _), trivial⟩ rfl (by first | rfl | simp [mpV, mpA, mpS, mpP, renId, shift]) (by first | rfl | simp [mpV, mpA, mpS, mpP, renId, shift]) ⟨enF (flatA3 _ _ _ _) (Or.inl rfl), trivial⟩) ?_
    refine segEnd [4, 5] (T1 := (mkT 18 [(4, vP 2 0), (5, .bool true)])) (H1 := [some ⟨a3s L, 25, false, false⟩, rB [vN X, vN Y, vN Z, vS 0 L.length] 29, rB [vN X, vN Y, vN Z, vS 3 ((listOf X Y Z (setOf Y Z (L.map (mir X Y Z 2)))).length)] 29, some ⟨a3s (listOf X Y Z (setOf Y Z (L.map (mir X Y Z 2)))), 25, false, true⟩]) (by kernel_rfl) ?_
    refine kSeq ?_
    refine cRet ?_
    -- end
    exact endF (Or.inr rfl) (l := [.agg #[vN X, vN Y, vN Z, vS 3 ((listOf X Y Z (setOf Y Z (L.map (mir X Y Z 2)))).length)], .bool true]) [0, 3] (by kernel_rfl) (by first | rfl | simp [packR, mpV, mpA, mpS, mpP, renId]) ⟨rrF (flatA3 _ _ _ _) rfl, ⟨rrF (flatA3 _ _ _ _) rfl, trivial⟩⟩ rfl rfl

set_option maxRecDepth 100000 in
set_option maxHeartbeats 4000000 in
theorem implMirrorHeap_no1 (x : Int) (y : Int) (z : Int) (L : List A3) (k : Int) (hl : L.length ≤ 1048576) (hv : isHeapB x y z L = false) : Sound Try.prog 45 [.agg #[vI x, vI y, vI z, vS 0 L.length], vI k] [some ⟨a3s L, 25, false, false⟩] (.tuple #[.agg #[vI 0, vI 0, vI 0, .slice none 0 0], .bool false]) [some ⟨a3s L, 25, false, false⟩] := by
  refine sound_intro (C := cx) Try.func45 rfl (by kernel_rfl) fun hcl => ?_
  refine cSeq ?_
  refine cReg ?_
  refine segEnd [2, 3, 4] (T1 := (mkT 20 [(2, vP 1 0), (3, vP 2 0), (4, vP 3 0)])) (H1 := [some ⟨a3s L, 25, false, false⟩, rB [vI x, vI y, vI z, vS 0 L.length] 29, rB [vI k] 3, rB [vI 0, vI 0, vI 0, .slice none 0 0] 29]) (by kernel_rfl) ?_
  refine kSeq ?_
  refine cSeq ?_
  refine cSeq ?_
  refine cReg ?_
  refine segH 1 (T1 := (mkT 20 [(2, vP 1 0), (3, vP 2 0), (4, vP 3 0), (6, .agg #[vI x, vI y, vI z, vS 0 L.length])])) (by kernel_rfl) ?_
  refine rCall (v := .bool false) (args := [.agg #[vI x, vI y, vI z, vS 0 L.length]]) (by kernel_rfl) rfl (by kernel_rfl) (Sound.lay0 [0] (isHeapBt_no x y z L (by first | assumption | omega | rfl | decide | exact HeapL.list _ _ _ _ | exact HeapL.nil _ _ _ | exact HeapL.all _ _ _ | (apply HeapL.lt64 <;> assumption) | (repeat' (first | assumption | apply or_lt64 | apply and_lt64 | apply andn_lt64 | apply pow_lt64 | (apply HeapL.lt64 <;> assumption)))) (by first | assumption | omega | rfl | decide | exact HeapL.list _ _ _ _ | exact HeapL.nil _ _ _ | exact HeapL.all _ _ _ | (apply HeapL.lt64 <;> assumption) | (repeat' (first | assumption | apply or_lt64 | apply and_lt64 | apply andn_lt64 | apply pow_lt64 | (apply HeapL.lt64 <;> assumption))))) ⟨rdF false (flatA3 _ _ _ _) rfl rfl, trivial⟩ rfl ⟨clF (flatA3 _ _ _ _), trivial⟩ rfl (by first | rfl | simp [mpV, mpA, mpS, mpP, renId, shift]) rfl) ?_
  refine segEndH [2, 3, 4, 13] (T1 := (mkT 20 [(2, vP 1 0), (3, vP 2 0), (4, vP 3 0), (13, .bool true)])) (by kernel_rfl) ?_
  refine kSeq ?_
  refine cTrue (by kernel_rfl) ?_
  refine cSeq ?_
  refine cReg ?_
  refine segEnd [4, 5] (T1 := (mkT 20 [(4, vP 3 0), (5, .bool false)])) (H1 := [some ⟨a3s L, 25, false, false⟩, rB [vI x, vI y, vI z, vS 0 L.length] 29, rB [vI k] 3, rB [vI 0, vI 0, vI 0, .slice none 0 0] 29]) (by kernel_rfl) ?_
  refine kSeq ?_
  refine cRet ?_
  refine kSeqR ?_
  -- end
  exact endQ (Or.inr rfl) (l := [.agg #[vI 0, vI 0, vI 0, .slice none 0 0], .bool false]) [rB [vI x, vI y, vI z, vS 0 L.length] 29, rB [vI k] 3, rB [vI 0, vI 0, vI 0, .slice none 0 0] 29] (by kernel_rfl) (by first | rfl | kernel_rfl) rfl rfl hcl rfl

set_option maxRecDepth 100000 in
set_option maxHeartbeats 4000000 in
theorem implMirrorHeap_no2 (X : Nat) (Y : Nat) (Z : Nat) (L : List A3) (k : Int) (hs : Sides X Y Z) (hL : HeapL X Y Z L) (hk : inR k 0 2 = false) : Sound Try.prog 45 [.agg #[vN X, vN Y, vN Z, vS 0 L.length], vI k] [some ⟨a3s L, 25, false, false⟩] (.tuple #[.agg #[vI 0, vI 0, vI 0, .slice none 0 0], .bool false]) [some ⟨a3s L, 25, false, false⟩] := by
  refine sound_intro (C := cx) Try.func45 rfl (by kernel_rfl) fun hcl => ?_
  have hz := hs.size
  have hx0 := hs.x0
  have hx4 := hs.x4
  have hy0 := hs.y0
  have hy4 := hs.y4
  have hz0 := hs.z0
  have hz4 := hs.z4
  have hlen := hL.len
  have hlt := hL.lt64 hs
  refine cSeq ?_
  refine cReg ?_
  refine segEnd [2, 3, 4] (T1 := (mkT 20 [(2, vP 1 0), (3, vP 2 0), (4, vP 3 0)])) (H1 := [some ⟨a3s L, 25, false, false⟩, rB [vN X, vN Y, vN Z, vS 0 L.length] 29, rB [vI k] 3, rB [vI 0, vI 0, vI 0, .slice none 0 0] 29]) (by kernel_rfl) ?_
  refine kSeq ?_
  refine cSeq ?_
  refine cSeq ?_
  refine cReg ?_
  refine segH 1 (T1 := (mkT 20 [(2, vP 1 0), (3, vP 2 0), (4, vP 3 0), (6, .agg #[vN X, vN Y, vN Z, vS 0 L.length])])) (by kernel_rfl) ?_
  refine rCall (v := .bool true) (args := [.agg #[vN X, vN Y, vN Z, vS 0 L.length]]) (by kernel_rfl) rfl (by kernel_rfl) (Sound.lay0 [0] (isHeapBt X Y Z L (by first | assumption | omega | rfl | decide | exact HeapL.list _ _ _ _ | exact HeapL.nil _ _ _ | exact HeapL.all _ _ _ | (apply HeapL.lt64 <;> assumption) | (repeat' (first | assumption | apply or_lt64 | apply and_lt64 | apply andn_lt64 | apply pow_lt64 | (apply HeapL.lt64 <;> assumption)))) (by first | assumption | omega | rfl | decide | exact HeapL.list _ _ _ _ | exact HeapL.nil _ _ _ | exact HeapL.all _ _ _ | (apply HeapL.lt64 <;> assumption) | (repeat' (first | assumption | apply or_lt64 | apply and_lt64 | apply andn_lt64 | apply pow_lt64 | (apply HeapL.lt64 <;> assumption))))) ⟨rdF false (flatA3 _ _ _ _) rfl rfl, trivial⟩ rfl ⟨clF (flatA3 _ _ _ _), trivial⟩ rfl (by first | rfl | simp [mpV, mpA, mpS, mpP, renId, shift]) rfl) ?_
  refine segH 3 (T1 := (mkT 20 [(2, vP 1 0), (3, vP 2 0), (4, vP 3 0), (6, .agg #[vN X, vN Y, vN Z, vS 0 L.length]), (7, .bool true), (8, .bool false), (9, .bool false), (10, vI k)])) (by kernel_rfl) ?_
  refine rCall (v := .bool (inR k 0 2)) (args := [vI k]) (by kernel_rfl) rfl (by kernel_rfl) (Sound.lay0 [] (isDirB k) trivial rfl trivial rfl (by first | rfl | simp [mpV, mpA, mpS, mpP, renId, shift]) rfl) ?_
  refine segEndH [2, 3, 4, 13] (T1 := (mkT 20 [(2, vP 1 0), (3, vP 2 0), (4, vP 3 0), (13, .bool (!(inR k 0 2)))])) (by kernel_rfl) ?_
  refine kSeq ?_
  cases h1 : (inR k 0 2 : Bool)
  ·
    (try simp only [Bool.not_eq_true', Bool.not_eq_false', decide_eq_true_eq, decide_eq_false_iff_not, beq_iff_eq, bne_iff_ne, beq_eq_false_iff_ne, bne_eq_false_iff_eq, ne_eq, Decidable.not_not, Bool.and_eq_true, Bool.and_eq_false_imp, Bool.or_eq_true, Bool.or_eq_false_iff, Bool.not_eq_true, Int.not_lt, Int.not_le, ge_iff_le, gt_iff_lt] at h1)
    refine cTrue (by kernel_rfl) ?_
    refine cSeq ?_
    refine cReg ?_
    refine segEnd [4, 5] (T1 := (mkT 20 [(4, vP 3 0), (5, .bool false)])) (H1 := [some ⟨a3s L, 25, false, false⟩, rB [vN X, vN Y, vN Z, vS 0 L.length] 29, rB [vI k] 3, rB [vI 0, vI 0, vI 0, .slice none 0 0] 29]) (by kernel_rfl) ?_
    refine kSeq ?_
    refine cRet ?_
    refine kSeqR ?_
    -- end
    exact endQ (Or.inr rfl) (l := [.agg #[vI 0, vI 0, vI 0, .slice none 0 0], .bool false]) [rB [vN X, vN Y, vN Z, vS 0 L.length] 29, rB [vI k] 3, rB [vI 0, vI 0, vI 0, .slice none 0 0] 29] (by kernel_rfl) (by first | rfl | kernel_rfl) rfl rfl hcl rfl
  ·
    (try simp only [Bool.not_eq_true', Bool.not_eq_false', decide_eq_true_eq, decide_eq_false_iff_not, beq_iff_eq, bne_iff_ne, beq_eq_false_iff_ne, bne_eq_false_iff_eq, ne_eq, Decidable.not_not, Bool.and_eq_true, Bool.and_eq_false_imp, Bool.or_eq_true, Bool.or_eq_false_iff, Bool.not_eq_true, Int.not_lt, Int.not_le, ge_iff_le, gt_iff_lt] at h1)
    exfalso; simp_all

set_option maxRecDepth 100000 in
set_option maxHeartbeats 4000000 in
theorem implMirrorHeap_0 (X : Nat) (Y : Nat) (Z : Nat) (L : List A3) (hs : Sides X Y Z) (hL : HeapL X Y Z L) : Sound Try.prog 45 [.agg #[vN X, vN Y, vN Z, vS 0 L.length], vI 0] [some ⟨a3s L, 25, false, false⟩] (.tuple #[.agg #[vN X, vN Y, vN Z, vS 1 ((listOf X Y Z (setOf Y Z (L.map (mir X Y Z 0)))).length)], .bool true]) [some ⟨a3s L, 25, false, false⟩, some ⟨a3s (listOf X Y Z (setOf Y Z (L.map (mir X Y Z 0)))), 25, false, true⟩] := by
  refine sound_intro (C := cx) Try.func45 rfl (by kernel_rfl) fun hcl => ?_
  have hz := hs.size
  have hx0 := hs.x0
  have hx4 := hs.x4
  have hy0 := hs.y0
  have hy4 := hs.y4
  have hz0 := hs.z0
  have hz4 := hs.z4
  have hlen := hL.len
  have hlt := hL.lt64 hs
  refine cSeq ?_
  refine cReg ?_
  refine segEnd [2, 3, 4] (T1 := (mkT 20 [(2, vP 1 0), (3, vP 2 0), (4, vP 3 0)])) (H1 := [some ⟨a3s L, 25, false, false⟩, rB [vN X, vN Y, vN Z, vS 0 L.length] 29, rB [vI 0] 3, rB [vI 0, vI 0, vI 0, .slice none 0 0] 29]) (by kernel_rfl) ?_
  refine kSeq ?_
  refine cSeq ?_
  refine cSeq ?_
  refine cReg ?_
  refine segH 1 (T1 := (mkT 20 [(2, vP 1 0), (3, vP 2 0), (4, vP 3 0), (6, .agg #[vN X, vN Y, vN Z, vS 0 L.length])])) (by kernel_rfl) ?_
  refine rCall (v := .bool true) (args := [.agg #[vN X, vN Y, vN Z, vS 0 L.length]]) (by kernel_rfl) rfl (by kernel_rfl) (Sound.lay0 [0] (isHeapBt X Y Z L (by first | assumption | omega | rfl | decide | exact HeapL.list _ _ _ _ | exact HeapL.nil _ _ _ | exact HeapL.all _ _ _ | (apply HeapL.lt64 <;> assumption) | (repeat' (first | assumption | apply or_lt64 | apply and_lt64 | apply andn_lt64 | apply pow_lt64 | (apply HeapL.lt64 <;> assumption)))) (by first | assumption | omega | rfl | decide | exact HeapL.list _ _ _ _ | exact HeapL.nil _ _ _ | exact HeapL.all _ _ _ | (apply HeapL.lt64 <;> assumption) | (repeat' (first | assumption | apply or_lt64 | apply and_lt64 | apply andn_lt64 | apply pow_lt64 | (apply HeapL.lt64 <;> assumption))))) ⟨rdF false (flatA3 _ _ _ _) rfl rfl, trivial⟩ rfl ⟨clF (flatA3 _ _ _ _), trivial⟩ rfl (by first | rfl | simp [mpV, mpA, mpS, mpP, renId, shift]) rfl) ?_
  refine segH 3 (T1 := (mkT 20 [(2, vP 1 0), (3, vP 2 0), (4, vP 3 0), (6, .agg #[vN X, vN Y, vN Z, vS 0 L.length]), (7, .bool true), (8, .bool false), (9, .bool false), (10, vI 0)])) (by kernel_rfl) ?_
  refine rCall (v := .bool (inR 0 0 2)) (args := [vI 0]) (by kernel_rfl) rfl (by kernel_rfl) (Sound.lay0 [] (isDirB 0) trivial rfl trivial rfl (by first | rfl | simp [mpV, mpA, mpS, mpP, renId, shift]) rfl) ?_
  refine segEndH [2, 3, 4, 13] (T1 := (mkT 20 [(2, vP 1 0), (3, vP 2 0), (4, vP 3 0), (13, .bool (!(inR 0 0 2)))])) (by kernel_rfl) ?_
  refine kSeq ?_
  cases h1 : (inR 0 0 2 : Bool)
  ·
    (try simp only [Bool.not_eq_true', Bool.not_eq_false', decide_eq_true_eq, decide_eq_false_iff_not, beq_iff_eq, bne_iff_ne, beq_eq_false_iff_ne, bne_eq_false_iff_eq, ne_eq, Decidable.not_not, Bool.and_eq_true, Bool.and_eq_false_imp, Bool.or_eq_true, Bool.or_eq_false_iff, Bool.not_eq_true, Int.not_lt, Int.not_le, ge_iff_le, gt_iff_lt] at h1)
    exfalso; simp [inR] at h1
  ·
    (try simp only [Bool.not_eq_true', Bool.not_eq_false', decide_eq_true_eq, decide_eq_false_iff_not, beq_iff_eq, bne_iff_ne, beq_eq_false_iff_ne, bne_eq_false_iff_eq, ne_eq, Decidable.not_not, Bool.and_eq_true, Bool.and_eq_false_imp, Bool.or_eq_true, Bool.or_eq_false_iff, Bool.not_eq_true, Int.not_lt, Int.not_le, ge_iff_le, gt_iff_lt] at h1)
    refine cFalse (by kernel_rfl) ?_
    refine cSkip ?_
    refine kSeq ?_
    refine cSeq ?_
    refine cRegW (N := 5) [⟨[], [], [1]⟩, ⟨[], [], [1]⟩, ⟨[], [], [0]⟩, ⟨[], [], []⟩, ⟨[4], [], [0, 1, 2]⟩, ⟨[], [3], []⟩, ⟨[], [], []⟩] 1 [4] (by rfl) (by rfl) (by kernel_rfl) (by kernel_rfl) (by kernel_rfl) ⟨nmsF (flatA3 _ _ _ _), ⟨nmsX (by kernel_rfl), ⟨nmsX (by kernel_rfl), ⟨nmsX (by kernel_rfl), trivial⟩⟩⟩⟩ ?_
    refine segWH 2 (T1 := (mkT 20 [(2, vP 1 0), (3, vP 2 0), (4, vP 3 0), (13, .bool false), (15, .agg #[vN X, vN Y, vN Z, vS 0 L.length]), (16, .agg #[vN X, vN Y, vN Z, vS 0 L.length])])) (by kernel_rfl) ?_
    refine rW (m := ⟨[], [], [0]⟩) (v := .agg #[vN X, vN Y, vN Z]) rfl (by kernel_rfl) (stQ (args := [.agg #[vN X, vN Y, vN Z, vS 0 L.length]]) rfl (by kernel_rfl) (Any.lay0 [0] (boxB ((X : Nat) : Int) ((Y : Nat) : Int) ((Z : Nat) : Int) L) ⟨rdF false (flatA3 _ _ _ _) rfl rfl, trivial⟩ rfl ⟨clF (flatA3 _ _ _ _), trivial⟩ rfl (by first | rfl | simp [mpV, mpA, mpS, mpP, renId, shift]) (by first | rfl | simp [mpV, mpA, mpS, mpP, renId, shift])) rfl (by kernel_rfl) (by kernel_rfl)) (by kernel_rfl) nr0 ?_
    refine segWH 1 (T1 := (mkT 20 [(2, vP 1 0), (3, vP 2 0), (4, vP 3 0), (13, .bool false), (15, .agg #[vN X, vN Y, vN Z, vS 0 L.length]), (16, .agg #[vN X, vN Y, vN Z, vS 0 L.length]), (17, .agg #[vN X, vN Y, vN Z]), (18, .func (.func 89) #[] #[vP 1 0, vP 2 0])])) (by kernel_rfl) ?_
    refine rW (m := ⟨[4], [], [0, 1, 2]⟩) (v := .agg #[vN X, vN Y, vN Z, vS 4 ((listOf X Y Z (setOf Y Z (L.map (mir X Y Z 0)))).length)]) rfl (by kernel_rfl) (stN (i := 4) (E := [some ⟨a3s (listOf X Y Z (setOf Y Z (L.map (mir X Y Z 0)))), 25, false, true⟩]) (v1 := .agg #[vN X, vN Y, vN Z, vS 5 ((listOf X Y Z (setOf Y Z (L.map (mir X Y Z 0)))).length)]) (args := [.agg #[vN X, vN Y, vN Z, vS 0 L.length], .agg #[vN X, vN Y, vN Z], .func (.func 89) #[] #[vP 1 0, vP 2 0]]) rfl (by kernel_rfl) ((fun G hG hag => (Any.lay (E := [some ⟨a3s (listOf X Y Z (setOf Y Z (L.map (mir X Y Z 0)))), 25, false, true⟩]) (N := 5) [1, 2, 0] (movedM0 X Y Z L (by first | assumption | omega | rfl | decide | exact HeapL.list _ _ _ _ | exact HeapL.nil _ _ _ | exact HeapL.all _ _ _ | (apply HeapL.lt64 <;> assumption) | (repeat' (first | assumption | apply or_lt64 | apply and_lt64 | apply andn_lt64 | apply pow_lt64 | (apply HeapL.lt64 <;> assumption)))) (by first | assumption | omega | rfl | decide | exact HeapL.list _ _ _ _ | exact HeapL.nil _ _ _ | exact HeapL.all _ _ _ | (apply HeapL.lt64 <;> assumption) | (repeat' (first | assumption | apply or_lt64 | apply and_lt64 | apply andn_lt64 | apply pow_lt64 | (apply HeapL.lt64 <;> assumption))))) ⟨rdX true rfl rfl, ⟨rdX true rfl rfl, ⟨rdF false (flatA3 _ _ _ _) rfl rfl, trivial⟩⟩⟩ rfl ⟨clX rfl, ⟨clX rfl, ⟨clF (flatA3 _ _ _ _), trivial⟩⟩⟩ rfl (by first | rfl | simp [mpV, mpA, mpS, mpP, renId, shift]) (by first | rfl | simp [mpV, mpA, mpS, mpP, renId, shift]) ⟨enF (flatA3 _ _ _ _) (Or.inl rfl), trivial⟩) G hG fun i hi => hag i (by simp at hi ⊢; omega))) rfl (by kernel_rfl) (by kernel_rfl) (by kernel_rfl) (by kernel_rfl) (FlatH.cons (flatA3 _ _ _ _) FlatH.nil)) (by kernel_rfl) (NRs.all ⟨nrOf (by rfl) (nmF (flatA3 _ _ _ _)), trivial⟩) ?_
    refine rW (m := ⟨[], [3], []⟩) (v := .tuple #[]) rfl (by kernel_rfl) (stSet (b := 3) (r := ⟨[vN X, vN Y, vN Z, vS 4 ((listOf X Y Z (setOf Y Z (L.map (mir X Y Z 0)))).length)], 29, true, true⟩) (by kernel_rfl) rfl (by kernel_rfl) (by kernel_rfl) (by kernel_rfl) (by kernel_rfl) (nmX (by kernel_rfl)) (clX (by kernel_rfl))) (by kernel_rfl) (NRs.all ⟨nrOf (by rfl) (nmX (by kernel_rfl)), trivial⟩) ?_
    refine segEndW [4, 5] (T1 := (mkT 20 [(4, vP 3 0), (5, .bool true)])) (H1 := [some ⟨a3s L, 25, false, false⟩, rB [vN X, vN Y, vN Z, vS 0 L.length] 29, rB [vI 0] 3, rB [vN X, vN Y, vN Z, vS 4 ((listOf X Y Z (setOf Y Z (L.map (mir X Y Z 0)))).length)] 29, some ⟨a3s (listOf X Y Z (setOf Y Z (L.map (mir X Y Z 0)))), 25, false, true⟩]) (by kernel_rfl) ?_
    refine kSeq ?_
    refine cRet ?_
    -- end
    exact endF (Or.inr rfl) (l := [.agg #[vN X, vN Y, vN Z, vS 4 ((listOf X Y Z (setOf Y Z (L.map (mir X Y Z 0)))).length)], .bool true]) [0, 4] (by kernel_rfl) (by first | rfl | simp [packR, mpV, mpA, mpS, mpP, renId]) ⟨rrF (flatA3 _ _ _ _) rfl, ⟨rrF (flatA3 _ _ _ _) rfl, trivial⟩⟩ rfl rfl

set_option maxRecDepth 100000 in
set_option maxHeartbeats 4000000 in
theorem implMirrorHeap_1 (X : Nat) (Y : Nat) (Z : Nat) (L : List A3) (hs : Sides X Y Z) (hL : HeapL X Y Z L) : Sound Try.prog 45 [.agg #[vN X, vN Y, vN Z, vS 0 L.length], vI 1] [some ⟨a3s L, 25, false, false⟩] (.tuple #[.agg #[vN X, vN Y, vN Z, vS 1 ((listOf X Y Z (setOf Y Z (L.map (mir X Y Z 1)))).length)], .bool true]) [some ⟨a3s L, 25, false, false⟩, some ⟨a3s (listOf X Y Z (setOf Y Z (L.map (mir X Y Z 1)))), 25, false, true⟩] := by
  refine sound_intro (C := cx) Try.func45 rfl (by kernel_rfl) fun hcl => ?_
  have hz := hs.size
  have hx0 := hs.x0
  have hx4 := hs.x4
  have hy0 := hs.y0
  have hy4 := hs.y4
  have hz0 := hs.z0
  have hz4 := hs.z4
  have hlen := hL.len
  have hlt := hL.lt64 hs
  refine cSeq ?_
  refine cReg ?_
  refine segEnd [2, 3, 4] (T1 := (mkT 20 [(2, vP 1 0), (3, vP 2 0), (4, vP 3 0)])) (H1 := [some ⟨a3s L, 25, false, false⟩, rB [vN X, vN Y, vN Z, vS 0 L.length] 29, rB [vI 1] 3, rB [vI 0, vI 0, vI 0, .slice none 0 0] 29]) (by kernel_rfl) ?_
  refine kSeq ?_
  refine cSeq ?_
  refine cSeq ?_
  refine cReg ?_
  refine segH 1 (T1 := (mkT 20 [(2, vP 1 0), (3, vP 2 0), (4, vP 3 0), (6, .agg #[vN X, vN Y, vN Z, vS 0 L.length])])) (by kernel_rfl) ?_
  refine rCall (v := .bool true) (args := [.agg #[vN X, vN Y, vN Z, vS 0 L.length]]) (by kernel_rfl) rfl (by kernel_rfl) (Sound.lay0 [0] (isHeapBt X Y Z L (by first | assumption | omega | rfl | decide | exact HeapL.list _ _ _ _ | exact HeapL.nil _ _ _ | exact HeapL.all _ _ _ | (apply HeapL.lt64 <;> assumption) | (repeat' (first | assumption | apply or_lt64 | apply and_lt64 | apply andn_lt64 | apply pow_lt64 | (apply HeapL.lt64 <;> assumption)))) (by first | assumption | omega | rfl | decide | exact HeapL.list _ _ _ _ | exact HeapL.nil _ _ _ | exact HeapL.all _ _ _ | (apply HeapL.lt64 <;> assumption) | (repeat' (first | assumption | apply or_lt64 | apply and_lt64 | apply andn_lt64 | apply pow_lt64 | (apply HeapL.lt64 <;> assumption))))) ⟨rdF false (flatA3 _ _ _ _) rfl rfl, trivial⟩ rfl ⟨clF (flatA3 _ _ _ _), trivial⟩ rfl (by first | rfl | simp [mpV, mpA, mpS, mpP, renId, shift]) rfl) ?_
  refine segH 3 (T1 := (mkT 20 [(2, vP 1 0), (3, vP 2 0), (4, vP 3 0), (6, .agg #[vN X, vN Y, vN Z, vS 0 L.length]), (7, .bool true), (8, .bool false), (9, .bool false), (10, vI 1)])) (by kernel_rfl) ?_
  refine rCall (v := .bool (inR 1 0 2)) (args := [vI 1]) (by kernel_rfl) rfl (by kernel_rfl) (Sound.lay0 [] (isDirB 1) trivial rfl trivial rfl (by first | rfl | simp [mpV, mpA, mpS, mpP, renId, shift]) rfl) ?_
  refine segEndH [2, 3, 4, 13] (T1 := (mkT 20 [(2, vP 1 0), (3, vP 2 0), (4, vP 3 0), (13, .bool (!(inR 1 0 2)))])) (by kernel_rfl) ?_
  refine kSeq ?_
  cases h1 : (inR 1 0 2 : Bool)
  ·
    (try simp only [Bool.not_eq_true', Bool.not_eq_false', decide_eq_true_eq, decide_eq_false_iff_not, beq_iff_eq, bne_iff_ne, beq_eq_false_iff_ne, bne_eq_false_iff_eq, ne_eq, Decidable.not_not, Bool.and_eq_true, Bool.and_eq_false_imp, Bool.or_eq_true, Bool.or_eq_false_iff, Bool.not_eq_true, Int.not_lt, Int.not_le, ge_iff_le, gt_iff_lt] at h1)
    exfalso; simp [inR] at h1
  ·
    (try simp only [Bool.not_eq_true', Bool.not_eq_false', decide_eq_true_eq, decide_eq_false_iff_not, beq_iff_eq, bne_iff_ne, beq_eq_false_iff_ne, bne_eq_false_iff_eq, ne_eq, Decidable.not_not, Bool.and_eq_true, Bool.and_eq_false_imp, Bool.or_eq_true, Bool.or_eq_false_iff, Bool.not_eq_true, Int.not_lt, Int.not_le, ge_iff_le, gt_iff_lt] at h1)
    refine cFalse (by kernel_rfl) ?_
    refine cSkip ?_
    refine kSeq ?_
    refine cSeq ?_
    refine cRegW (N := 5) [⟨[], [], [1]⟩, ⟨[], [], [1]⟩, ⟨[], [], [0]⟩, ⟨[], [], []⟩, ⟨[4], [], [0, 1, 2]⟩, ⟨[], [3], []⟩, ⟨[], [], []⟩] 1 [4] (by rfl) (by rfl) (by kernel_rfl) (by kernel_rfl) (by kernel_rfl) ⟨nmsF (flatA3 _ _ _ _), ⟨nmsX (by kernel_rfl), ⟨nmsX (by kernel_rfl), ⟨nmsX (by kernel_rfl), trivial⟩⟩⟩⟩ ?_
    refine segWH 2 (T1 := (mkT 20 [(2, vP 1 0), (3, vP 2 0), (4, vP 3 0), (13, .bool false), (15, .agg #[vN X, vN Y, vN Z, vS 0 L.length]), (16, .agg #[vN X, vN Y, vN Z, vS 0 L.length])])) (by kernel_rfl) ?_
    refine rW (m := ⟨[], [], [0]⟩) (v := .agg #[vN X, vN Y, vN Z]) rfl (by kernel_rfl) (stQ (args := [.agg #[vN X, vN Y, vN Z, vS 0 L.length]]) rfl (by kernel_rfl) (Any.lay0 [0] (boxB ((X : Nat) : Int) ((Y : Nat) : Int) ((Z : Nat) : Int) L) ⟨rdF false (flatA3 _ _ _ _) rfl rfl, trivial⟩ rfl ⟨clF (flatA3 _ _ _ _), trivial⟩ rfl (by first | rfl | simp [mpV, mpA, mpS, mpP, renId, shift]) (by first | rfl | simp [mpV, mpA, mpS, mpP, renId, shift])) rfl (by kernel_rfl) (by kernel_rfl)) (by kernel_rfl) nr0 ?_
    refine segWH 1 (T1 := (mkT 20 [(2, vP 1 0), (3, vP 2 0), (4, vP 3 0), (13, .bool false), (15, .agg #[vN X, vN Y, vN Z, vS 0 L.length]), (16, .agg #[vN X, vN Y, vN Z, vS 0 L.length]), (17, .agg #[vN X, vN Y, vN Z]), (18, .func (.func 89) #[] #[vP 1 0, vP 2 0])])) (by kernel_rfl) ?_
    refine rW (m := ⟨[4], [], [0, 1, 2]⟩) (v := .agg #[vN X, vN Y, vN Z, vS 4 ((listOf X Y Z (setOf Y Z (L.map (mir X Y Z 1)))).length)]) rfl (by kernel_rfl) (stN (i := 4) (E := [some ⟨a3s (listOf X Y Z (setOf Y Z (L.map (mir X Y Z 1)))), 25, false, true⟩]) (v1 := .agg #[vN X, vN Y, vN Z, vS 5 ((listOf X Y Z (setOf Y Z (L.map (mir X Y Z 1)))).length)]) (args := [.agg #[vN X, vN Y, vN Z, vS 0 L.length], .agg #[vN X, vN Y, vN Z], .func (.func 89) #[] #[vP 1 0, vP 2 0]]) rfl (by kernel_rfl) ((fun G hG hag => (Any.lay (E := [some ⟨a3s (listOf X Y Z (setOf Y Z (L.map (mir X Y Z 1)))), 25, false, true⟩]) (N := 5) [1, 2, 0] (movedM1 X Y Z L (by first | assumption | omega | rfl | decide | exact HeapL.list _ _ _ _ | exact HeapL.nil _ _ _ | exact HeapL.all _ _ _ | (apply HeapL.lt64 <;> assumption) | (repeat' (first | assumption | apply or_lt64 | apply and_lt64 | apply andn_lt64 | apply pow_lt64 | (apply HeapL.lt64 <;> assumption)))) (by first | assumption | omega | rfl | decide | exact HeapL.list _ _ _ _ | exact HeapL.nil _ _ _ | exact HeapL.all _ _ _ | (apply HeapL.lt64 <;> assumption) | (repeat' (first | assumption | apply or_lt64 | apply and_lt64 | apply andn_lt64 | apply pow_lt64 | (apply HeapL.lt64 <;> assumption))))) ⟨rdX true rfl rfl, ⟨rdX true rfl rfl, ⟨rdF false (flatA3 _ _ _ _) rfl rfl, trivial⟩⟩⟩ rfl ⟨clX rfl, ⟨clX rfl, ⟨clF (flatA3 _ _ _ _), trivial⟩⟩⟩ rfl (by first | rfl | simp [mpV, mpA, mpS, mpP, renId, shift]) (by first | rfl | simp [mpV, mpA, mpS, mpP, renId, shift]) ⟨enF (flatA3 _ _ _ _) (Or.inl rfl), trivial⟩) G hG fun i hi => hag i (by simp at hi ⊢; omega))) rfl (by kernel_rfl) (by kernel_rfl) (by kernel_rfl) (by kernel_rfl) (FlatH.cons (flatA3 _ _ _ _) FlatH.nil)) (by kernel_rfl) (NRs.all ⟨nrOf (by rfl) (nmF (flatA3 _ _ _ _)), trivial⟩) ?_
    refine rW (m := ⟨[], [3], []⟩) (v := .tuple #[]) rfl (by kernel_rfl) (stSet (b := 3) (r := ⟨[vN X, vN Y, vN Z, vS 4 ((listOf X Y Z (setOf Y Z (L.map (mir X Y Z 1)))).length)], 29, true, true⟩) (by kernel_rfl) rfl (by kernel_rfl) (by kernel_rfl) (by kernel_rfl) (by kernel_rfl) (nmX (by kernel_rfl)) (clX (by kernel_rfl))) (by kernel_rfl) (NRs.all ⟨nrOf (by rfl) (nmX (by kernel_rfl)), trivial⟩) ?_
    refine segEndW [4, 5] (T1 := (mkT 20 [(4, vP 3 0), (5, .bool true)])) (H1 := [some ⟨a3s L, 25, false, false⟩, rB [vN X, vN Y, vN Z, vS 0 L.length] 29, rB [vI 1] 3, rB [vN X, vN Y, vN Z, vS 4 ((listOf X Y Z (setOf Y Z (L.map (mir X Y Z 1)))).length)] 29, some ⟨a3s (listOf X Y Z (setOf Y Z (L.map (mir X Y Z 1)))), 25, false, true⟩]) (by kernel_rfl) ?_
    refine kSeq ?_
    refine cRet ?_
    -- end
    exact endF (Or.inr rfl) (l := [.agg #[vN X, vN Y, vN Z, vS 4 ((listOf X Y Z (setOf Y Z (L.map (mir X Y Z 1)))).length)], .bool true]) [0, 4] (by kernel_rfl) (by first | rfl | simp [packR, mpV, mpA, mpS, mpP, renId]) ⟨rrF (flatA3 _ _ _ _) rfl, ⟨rrF (flatA3 _ _ _ _) rfl, trivial⟩⟩ rfl rfl

set_option maxRecDepth 100000 in
set_option maxHeartbeats 4000000 in
theorem implMirrorHeap_2 (X : Nat) (Y : Nat) (Z : Nat) (L : List A3) (hs : Sides X Y Z) (hL : HeapL X Y Z L) : Sound Try.prog 45 [.agg #[vN X, vN Y, vN Z, vS 0 L.length], vI 2] [some ⟨a3s L, 25, false, false⟩] (.tuple #[.agg #[vN X, vN Y, vN Z, vS 1 ((listOf X Y Z (setOf Y Z (L.map (mir X Y Z 2)))).length)], .bool true]) [some ⟨a3s L, 25, false, false⟩, some ⟨a3s (listOf X Y Z (setOf Y Z (L.map (mir X Y Z 2)))), 25, false, true⟩] := by
  refine sound_intro (C := cx) Try.func45 rfl (by kernel_rfl) fun hcl => ?_
  have hz := hs.size
  have hx0 := hs.x0
  have hx4 := hs.x4
  have hy0 := hs.y0
  have hy4 := hs.y4
  have hz0 := hs.z0
  have hz4 := hs.z4
  have hlen := hL.len
  have hlt := hL.lt64 hs
  refine cSeq ?_
  refine cReg ?_
  refine segEnd [2, 3, 4] (T1 := (mkT 20 [(2, vP 1 0), (3, vP 2 0), (4, vP 3 0)])) (H1 := [some ⟨a3s L, 25, false, false⟩, rB [vN X, vN Y, vN Z, vS 0 L.length] 29, rB [vI 2] 3, rB [vI 0, vI 0, vI 0, .slice none 0 0] 29]) (by kernel_rfl) ?_
  refine kSeq ?_
  refine cSeq ?_
  refine cSeq ?_
  refine cReg ?_
  refine segH 1 (T1 := (mkT 20 [(2, vP 1 0), (3, vP 2 0), (4, vP 3 0), (6, .agg #[vN X, vN Y, vN Z, vS 0 L.length])])) (by kernel_rfl) ?_
  refine rCall (v := .bool true) (args := [.agg #[vN X, vN Y, vN Z, vS 0 L.length]]) (by kernel_rfl) rfl (by kernel_rfl) (Sound.lay0 [0] (isHeapBt X Y Z L (by first | assumption | omega | rfl | decide | exact HeapL.list _ _ _ _ | exact HeapL.nil _ _ _ | exact HeapL.all _ _ _ | (apply HeapL.lt64 <;> assumption) | (repeat' (first | assumption | apply or_lt64 | apply and_lt64 | apply andn_lt64 | apply pow_lt64 | (apply HeapL.lt64 <;> assumption)))) (by first | assumption | omega | rfl | decide | exact HeapL.list _ _ _ _ | exact HeapL.nil _ _ _ | exact HeapL.all _ _ _ | (apply HeapL.lt64 <;> assumption) | (repeat' (first | assumption | apply or_lt64 | apply and_lt64 | apply andn_lt64 | apply pow_lt64 | (apply HeapL.lt64 <;> assumption))))) ⟨rdF false (flatA3 _ _ _ _) rfl rfl, trivial⟩ rfl ⟨clF (flatA3 _ _ _ _), trivial⟩ rfl (by first | rfl | simp [mpV, mpA, mpS, mpP, renId, shift]) rfl) ?_
  refine segH 3 (T1 := (mkT 20 [(2, vP 1 0), (3, vP 2 0), (4, vP 3 0), (6, .agg #[vN X, vN Y, vN Z, vS 0 L.length]), (7, .bool true), (8, .bool false), (9, .bool false), (10, vI 2)])) (by kernel_rfl) ?_
  refine rCall (v := .bool (inR 2 0 2)) (args := [vI 2]) (by kernel_rfl) rfl (by kernel_rfl) (Sound.lay0 [] (isDirB 2) trivial rfl trivial rfl (by first | rfl | simp [mpV, mpA, mpS, mpP, renId, shift]) rfl) ?_
  refine segEndH [2, 3, 4, 13] (T1 := (mkT 20 [(2, vP 1 0), (3, vP 2 0), (4, vP 3 0), (13, .bool (!(inR 2 0 2)))])) (by kernel_rfl) ?_
  refine kSeq ?_
  cases h1 : (inR 2 0 2 : Bool)
  ·
    (try simp only [Bool.not_eq_true', Bool.not_eq_false', decide_eq_true_eq, decide_eq_false_iff_not, beq_iff_eq, bne_iff_ne, beq_eq_false_iff_ne, bne_eq_false_iff_eq, ne_eq, Decidable.not_not, Bool.and_eq_true, Bool.and_eq_false_imp, Bool.or_eq_true, Bool.or_eq_false_iff, Bool.not_eq_true, Int.not_lt, Int.not_le, ge_iff_le, gt_iff_lt] at h1)
    exfalso; simp [inR] at h1
  ·
    (try simp only [Bool.not_eq_true', Bool.not_eq_false', decide_eq_true_eq, decide_eq_false_iff_not, beq_iff_eq, bne_iff_ne, beq_eq_false_iff_ne, bne_eq_false_iff_eq, ne_eq, Decidable.not_not, Bool.and_eq_true, Bool.and_eq_false_imp, Bool.or_eq_true, Bool.or_eq_false_iff, Bool.not_eq_true, Int.not_lt, Int.not_le, ge_iff_le, gt_iff_lt] at h1)
    refine cFalse (by kernel_rfl) ?_
    refine cSkip ?_
    refine kSeq ?_
    refine cSeq ?_
    refine cRegW (N := 5) [⟨[], [], [1]⟩, ⟨[], [], [1]⟩, ⟨[], [], [0]⟩, ⟨[], [], []⟩, ⟨[4], [], [0, 1, 2]⟩, ⟨[], [3], []⟩, ⟨[], [], []⟩] 1 [4] (by rfl) (by rfl) (by kernel_rfl) (by kernel_rfl) (by kernel_rfl) ⟨nmsF (flatA3 _ _ _ _), ⟨nmsX (by kernel_rfl), ⟨nmsX (by kernel_rfl), ⟨nmsX (by kernel_rfl), trivial⟩⟩⟩⟩ ?_
    refine segWH 2 (T1 := (mkT 20 [(2, vP 1 0), (3, vP 2 0), (4, vP 3 0), (13, .bool false), (15, .agg #[vN X, vN Y, vN Z, vS 0 L.length]), (16, .agg #[vN X, vN Y, vN Z, vS 0 L.length])])) (by kernel_rfl) ?_
    refine rW (m := ⟨[], [], [0]⟩) (v := .agg #[vN X, vN Y, vN Z]) rfl (by kernel_rfl) (stQ (args := [.agg #[vN X, vN Y, vN Z, vS 0 L.length]]) rfl (by kernel_rfl) (Any.lay0 [0] (boxB ((X : Nat) : Int) ((Y : Nat) : Int) ((Z : Nat) : Int) L) ⟨rdF false (flatA3 _ _ _ _) rfl rfl, trivial⟩ rfl ⟨clF (flatA3 _ _ _ _), trivial⟩ rfl (by first | rfl | simp [mpV, mpA, mpS, mpP, renId, shift]) (by first | rfl | simp [mpV, mpA, mpS, mpP, renId, shift])) rfl (by kernel_rfl) (by kernel_rfl)) (by kernel_rfl) nr0 ?_
    refine segWH 1 (T1 := (mkT 20 [(2, vP 1 0), (3, vP 2 0), (4, vP 3 0), (13, .bool false), (15, .agg #[vN X, vN Y, vN Z, vS 0 L.length]), (16, .agg #[vN X, vN Y, vN Z, vS 0 L.length]), (17, .agg #[vN X, vN Y, vN Z]), (18, .func (.func 89) #[] #[vP 1 0, vP 2 0])])) (by kernel_rfl) ?_
    refine rW (m := ⟨[4], [], [0, 1, 2]⟩) (v := .agg #[vN X, vN Y, vN Z, vS 4 ((listOf X Y Z (setOf Y Z (L.map (mir X Y Z 2)))).length)]) rfl (by kernel_rfl) (stN (i := 4) (E := [some ⟨a3s (listOf X Y Z (setOf Y Z (L.map (mir X Y Z 2)))), 25, false, true⟩]) (v1 := .agg #[vN X, vN Y, vN Z, vS 5 ((listOf X Y Z (setOf Y Z (L.map (mir X Y Z 2)))).length)]) (args := [.agg #[vN X, vN Y, vN Z, vS 0 L.length], .agg #[vN X, vN Y, vN Z], .func (.func 89) #[] #[vP 1 0, vP 2 0]]) rfl (by kernel_rfl) ((fun G hG hag => (Any.lay (E := [some ⟨a3s (listOf X Y Z (setOf Y Z (L.map (mir X Y Z 2)))), 25, false, true⟩]) (N := 5) [1, 2, 0] (movedM2 X Y Z L (by first | assumption | omega | rfl | decide | exact HeapL.list _ _ _ _ | exact HeapL.nil _ _ _ | exact HeapL.all _ _ _ | (apply HeapL.lt64 <;> assumption) | (repeat' (first | assumption | apply or_lt64 | apply and_lt64 | apply andn_lt64 | apply pow_lt64 | (apply HeapL.lt64 <;> assumption)))) (by first | assumption | omega | rfl | decide | exact HeapL.list _ _ _ _ | exact HeapL.nil _ _ _ | exact HeapL.all _ _ _ | (apply HeapL.lt64 <;> assumption) | (repeat' (first | assumption | apply or_lt64 | apply and_lt64 | apply andn_lt64 | apply pow_lt64 | (apply HeapL.lt64 <;> assumption))))) ⟨rdX true rfl rfl, ⟨rdX true rfl rfl, ⟨rdF false (flatA3 _ _ _ _) rfl rfl, trivial⟩⟩⟩ rfl ⟨clX rfl, ⟨clX rfl, ⟨clF (flatA3 _ _ _ _), trivial⟩⟩⟩ rfl (by first | rfl | simp [mpV, mpA, mpS, mpP, renId, shift]) (by first | rfl | simp [mpV, mpA, mpS, mpP, renId, shift]) ⟨enF (flatA3 _ _ _ _) (Or.inl rfl), trivial⟩) G hG fun i hi => hag i (by simp at hi ⊢; omega))) rfl (by kernel_rfl) (by kernel_rfl) (by kernel_rfl) (by kernel_rfl) (FlatH.cons (flatA3 _ _ _ _) FlatH.nil)) (by kernel_rfl) (NRs.all ⟨nrOf (by rfl) (nmF (flatA3 _ _ _ _)), trivial⟩) ?_
    refine rW (m := ⟨[], [3], []⟩) (v := .tuple #[]) rfl (by kernel_rfl) (stSet (b := 3) (r := ⟨[vN X, vN Y, vN Z, vS 4 ((listOf X Y Z (setOf Y Z (L.map (mir X Y Z 2)))).length)], 29, true, true⟩) (by kernel_rfl) rfl (by kernel_rfl) (by kernel_rfl) (by kernel_rfl) (by kernel_rfl) (nmX (by kernel_rfl)) (clX (by kernel_rfl))) (by kernel_rfl) (NRs.all ⟨nrOf (by rfl) (nmX (by kernel_rfl)), trivial⟩) ?_
    refine segEndW [4, 5] (T1 := (mkT 20 [(4, vP 3 0), (5, .bool true)])) (H1 := [some ⟨a3s L, 25, false, false⟩, rB [vN X, vN Y, vN Z, vS 0 L.length] 29, rB [vI 2] 3, rB [vN X, vN Y, vN Z, vS 4 ((listOf X Y Z (setOf Y Z (L.map (mir X Y Z 2)))).length)] 29, some ⟨a3s (listOf X Y Z (setOf Y Z (L.map (mir X Y Z 2)))), 25, false, true⟩]) (by kernel_rfl) ?_
    refine kSeq ?_
    refine cRet ?_
    -- end
    exact endF (Or.inr rfl) (l := [.agg #[vN X, vN Y, vN Z, vS 4 ((listOf X Y Z (setOf Y Z (L.map (mir X Y Z 2)))).length)], .bool true]) [0, 4] (by kernel_rfl) (by first | rfl | simp [packR, mpV, mpA, mpS, mpP, renId]) ⟨rrF (flatA3 _ _ _ _) rfl, ⟨rrF (flatA3 _ _ _ _) rfl, trivial⟩⟩ rfl rfl
end Go.Proofs.Ytenkiofddpjidaa
