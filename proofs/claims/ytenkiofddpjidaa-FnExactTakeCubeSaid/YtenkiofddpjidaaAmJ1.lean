/- Walks. No condition. -/
import Derived.Test.YtenkiofddpjidaaAmJ0
import Derived.Test.YtenkiofddpjidaaAmQ
set_option linter.unusedVariables false
set_option linter.unusedSimpArgs false
namespace Go.Proofs.Ytenkiofddpjidaa
open Go.Am Go.RowKit
set_option maxRecDepth 100000 in
set_option maxHeartbeats 4000000 in
theorem l2WithoutB (X : Nat) (Y : Nat) (Z : Nat) (L : List A3) (a : Int) (b : Int) (c : Int) (hs : Sides X Y Z) (hL : HeapL X Y Z L) (hh : has3 (X : Int) (Y : Int) (Z : Int) a b c = true) : Sound Try.prog 62 [.agg #[vN X, vN Y, vN Z, vS 0 L.length], .agg #[vI a, vI b, vI c]] [some ⟨a3s L, 25, false, false⟩] (.agg #[vN X, vN Y, vN Z, vS 1 ((listOf X Y Z (andn (setOf Y Z L) (2 ^ idxN Y Z (A3.mk a b c)))).length)]) [some ⟨a3s L, 25, false, false⟩, some ⟨a3s (listOf X Y Z (andn (setOf Y Z L) (2 ^ idxN Y Z (A3.mk a b c)))), 25, false, true⟩] := by
  refine sound_intro (C := cx) Try.func62 rfl (by kernel_rfl) fun hcl => ?_
  have hz := hs.size
  have hx0 := hs.x0
  have hx4 := hs.x4
  have hy0 := hs.y0
  have hy4 := hs.y4
  have hz0 := hs.z0
  have hz4 := hs.z4
  have hlen := hL.len
  have hlt := hL.lt64 hs
  refine cSeq ?_
  refine cReg ?_
  refine segEnd [2, 3, 4] (T1 := (mkT 39 [(2, vP 1 0), (3, vP 2 0), (4, vP 3 0)])) (H1 := [some ⟨a3s L, 25, false, false⟩, rB [vN X, vN Y, vN Z, vS 0 L.length] 29, rB [vI a, vI b, vI c] 25, rB [vI 0, vI 0, vI 0, .slice none 0 0] 29]) (by kernel_rfl) ?_
  refine kSeq ?_
  refine cSeq ?_
  refine cReg ?_
  refine seg 6 (T1 := (mkT 39 [(2, vP 1 0), (3, vP 2 0), (4, vP 3 0), (7, vP 1 0), (8, vN X), (9, vP 1 1), (10, vN Y), (11, vP 1 2), (12, vN Z)])) (H1 := [some ⟨a3s L, 25, false, false⟩, rB [vN X, vN Y, vN Z, vS 0 L.length] 29, rB [vI a, vI b, vI c] 25, rB [vI 0, vI 0, vI 0, .slice none 0 0] 29]) (by kernel_rfl) ?_
  refine rCall (v := .agg #[vN X, vN Y, vN Z, vS 4 0]) (H' := [some ⟨a3s L, 25, false, false⟩, rB [vN X, vN Y, vN Z, vS 0 L.length] 29, rB [vI a, vI b, vI c] 25, rB [vI 0, vI 0, vI 0, .slice none 0 0] 29, some ⟨[], 25, false, true⟩]) (args := [vN X, vN Y, vN Z]) (by kernel_rfl) rfl (by kernel_rfl) (Sound.lay [] (l2EmptyB ((X : Nat) : Int) ((Y : Nat) : Int) ((Z : Nat) : Int)) trivial rfl trivial rfl (by first | rfl | simp [mpV, mpA, mpS, mpP, renId, shift]) (by first | rfl | simp [mpV, mpA, mpS, mpP, renId, shift]) ⟨enX rfl (Or.inl rfl), trivial⟩) ?_
  refine segEnd [2, 3, 4, 5] (T1 := (mkT 39 [(2, vP 1 0), (3, vP 2 0), (4, vP 3 0), (5, vP 5 0)])) (H1 := [some ⟨a3s L, 25, false, false⟩, rB [vN X, vN Y, vN Z, vS 0 L.length] 29, rB [vI a, vI b, vI c] 25, rB [vI 0, vI 0, vI 0, .slice none 0 0] 29, some ⟨[], 25, false, true⟩, rB [vN X, vN Y, vN Z, vS 4 0] 29]) (by kernel_rfl) ?_
  refine kSeq ?_
  refine cSeq ?_
  refine cSeq ?_
  refine cReg ?_
  refine segEnd [2, 3, 4, 5, 6] (T1 := (mkT 39 [(2, vP 1 0), (3, vP 2 0), (4, vP 3 0), (5, vP 5 0), (6, vI 0)])) (H1 := [some ⟨a3s L, 25, false, false⟩, rB [vN X, vN Y, vN Z, vS 0 L.length] 29, rB [vI a, vI b, vI c] 25, rB [vI 0, vI 0, vI 0, .slice none 0 0] 29, some ⟨[], 25, false, true⟩, rB [vN X, vN Y, vN Z, vS 4 0] 29]) (by kernel_rfl) ?_
  refine kSeq ?_
  refine cBlk ?_
  -- loop
  refine cLoop (fun mm T H => ∃ i : Nat, ∃ M : List A3, (i ≤ L.length) ∧ (M = (L.take i).filter (fun d => !decide (d = A3.mk a b c))) ∧ mm = L.length - i ∧ T = (mkT 39 [(2, vP 1 0), (3, vP 2 0), (4, vP 3 0), (5, vP 5 0), (6, vN i)]) ∧ H = [some ⟨a3s L, 25, false, false⟩, rB [vN X, vN Y, vN Z, vS 0 L.length] 29, rB [vI a, vI b, vI c] 25, rB [vI 0, vI 0, vI 0, .slice none 0 0] 29, some ⟨a3s M, 25, false, true⟩, rB [vN X, vN Y, vN Z, vS 4 M.length] 29]) (L.length - 0) (mkT 39 [(2, vP 1 0), (3, vP 2 0), (4, vP 3 0), (5, vP 5 0), (6, vI 0)]) [some ⟨a3s L, 25, false, false⟩, rB [vN X, vN Y, vN Z, vS 0 L.length] 29, rB [vI a, vI b, vI c] 25, rB [vI 0, vI 0, vI 0, .slice none 0 0] 29, some ⟨a3s ([] : List A3), 25, false, true⟩, rB [vN X, vN Y, vN Z, vS 4 (([] : List A3).length)] 29] (wkSame [2, 3, 4, 5, 6] (by kernel_rfl)) ?_ ?_
  · exact ⟨0, ([] : List A3), (Nat.zero_le _), (by simp), rfl, rfl, rfl⟩
  · rintro _ _ _ ⟨i, M, hi, hM, rfl, rfl, rfl⟩
    have hml : M.length ≤ i := (by rw [hM]; exact Nat.le_trans (List.length_filter_le _ _) (by simp; omega))
    refine cSeq ?_
    refine cSeq ?_
    refine cReg ?_
    refine segEnd [2, 3, 4, 5, 6, 18] (T1 := (mkT 39 [(2, vP 1 0), (3, vP 2 0), (4, vP 3 0), (5, vP 5 0), (6, vN i), (18, .bool (decide (((i : Nat) : Int) < ((L.length : Nat) : Int))))])) (H1 := [some ⟨a3s L, 25, false, false⟩, rB [vN X, vN Y, vN Z, vS 0 L.length] 29, rB [vI a, vI b, vI c] 25, rB [vI 0, vI 0, vI 0, .slice none 0 0] 29, some ⟨a3s M, 25, false, true⟩, rB [vN X, vN Y, vN Z, vS 4 M.length] 29]) (by kernel_rfl) ?_
    refine kSeq ?_
    cases h1 : (decide (((i : Nat) : Int) < ((L.length : Nat) : Int)) : Bool)
    ·
      have h1k := h1
      (try simp only [Bool.not_eq_true', Bool.not_eq_false', decide_eq_true_eq, decide_eq_false_iff_not, beq_iff_eq, bne_iff_ne, beq_eq_false_iff_ne, bne_eq_false_iff_eq, ne_eq, Decidable.not_not, Bool.and_eq_true, Bool.and_eq_false_imp, Bool.or_eq_true, Bool.or_eq_false_iff, Bool.not_eq_true, Int.not_lt, Int.not_le, ge_iff_le, gt_iff_lt] at h1)
      refine cFalse (by kernel_rfl) ?_
      refine cExit ?_
      refine kSeqE ?_
      refine kLoopE ?_
      refine kBlkHit ?_
      refine kSeq ?_
      refine cSeq ?_
      refine cReg ?_
      refine segEnd [4] (T1 := (mkT 39 [(4, vP 3 0)])) (H1 := [some ⟨a3s L, 25, false, false⟩, rB [vN X, vN Y, vN Z, vS 0 L.length] 29, rB [vI a, vI b, vI c] 25, rB [vN X, vN Y, vN Z, vS 4 M.length] 29, some ⟨a3s M, 25, false, true⟩, rB [vN X, vN Y, vN Z, vS 4 M.length] 29]) (by kernel_rfl) ?_
      refine kSeq ?_
      refine cRet ?_
      -- end
      have he0 : (M : List A3) = (listOf X Y Z (andn (setOf Y Z L) (2 ^ idxN Y Z (A3.mk a b c)))) := by (rw [hM, take_end (by omega)]; exact without_eq (c := A3.mk a b c) hL hs hh)
      refine endCast (v1 := .agg #[vN X, vN Y, vN Z, vS 1 M.length]) (H1 := [some ⟨a3s L, 25, false, false⟩, some ⟨a3s M, 25, false, true⟩]) (by first | rfl | ((try rw [he0]); done) | (simp only [he0]; done)) (by first | rfl | ((try rw [he0]); done) | (simp only [he0]; done)) ?_
      exact endF (Or.inr rfl) (l := [.agg #[vN X, vN Y, vN Z, vS 4 M.length]]) [0, 4] (by kernel_rfl) (by first | rfl | simp [packR, mpV, mpA, mpS, mpP, renId]) ⟨rrF (flatA3 _ _ _ _) rfl, ⟨rrF (flatA3 _ _ _ _) rfl, trivial⟩⟩ rfl rfl
    ·
      have h1k := h1
      (try simp only [Bool.not_eq_true', Bool.not_eq_false', decide_eq_true_eq, decide_eq_false_iff_not, beq_iff_eq, bne_iff_ne, beq_eq_false_iff_ne, bne_eq_false_iff_eq, ne_eq, Decidable.not_not, Bool.and_eq_true, Bool.and_eq_false_imp, Bool.or_eq_true, Bool.or_eq_false_iff, Bool.not_eq_true, Int.not_lt, Int.not_le, ge_iff_le, gt_iff_lt] at h1)
      refine cTrue (by kernel_rfl) ?_
      refine cSkip ?_
      refine kSeq ?_
      refine cSeq ?_
      refine cBlk ?_
      refine cSeq ?_
      refine cRegW (N := 6) [⟨[], [], []⟩, ⟨[], [], [1]⟩, ⟨[], [], []⟩, ⟨[], [], []⟩, ⟨[], [], [0]⟩, ⟨[], [], [2]⟩, ⟨[], [], []⟩] 0 [] (by rfl) (by rfl) (by kernel_rfl) (by kernel_rfl) (by kernel_rfl) ⟨nmsF (flatA3 _ _ _ _), ⟨nmsX (by kernel_rfl), ⟨nmsX (by kernel_rfl), ⟨nmsX (by kernel_rfl), ⟨nmsF (flatA3 _ _ _ _), ⟨nmsX (by kernel_rfl), trivial⟩⟩⟩⟩⟩⟩ ?_
      refine segW 3 (T1 := (mkT 39 [(2, vP 1 0), (3, vP 2 0), (4, vP 3 0), (5, vP 5 0), (6, vN i), (18, .bool true), (21, vP 1 3), (22, vS 0 L.length), (23, vN i)])) (H1 := [some ⟨a3s L, 25, false, false⟩, rB [vN X, vN Y, vN Z, vS 0 L.length] 29, rB [vI a, vI b, vI c] 25, rB [vI 0, vI 0, vI 0, .slice none 0 0] 29, some ⟨a3s M, 25, false, true⟩, rB [vN X, vN Y, vN Z, vS 4 M.length] 29]) (by kernel_rfl) ?_
      refine rW (m := ⟨[], [], []⟩) (v := vP 0 (i * 3)) rfl (by kernel_rfl) (stId (eIdxS (ad := ⟨0, 0, none⟩) (n := L.length) (m := 0) (k := .i64) (c := ((i : Nat) : Int)) (j := i) (o := i * 3) (by kernel_rfl) (by kernel_rfl) ti22 ti25 (rfl) (by omega) (by exact Nat.zero_add _)) rfl (by kernel_rfl) (by kernel_rfl) (by kernel_rfl)) (by kernel_rfl) nr0 ?_
      refine rW (m := ⟨[], [], [0]⟩) (v := .agg #[vI ((L.getD i default).x), vI ((L.getD i default).y), vI ((L.getD i default).z)]) rfl (by kernel_rfl) (stId (eLdA3 (ad := ⟨0, i * 3, none⟩) (r := ⟨a3s L, 25, false, false⟩) (L := L) (j := i) (by kernel_rfl) (by kernel_rfl) rfl (by first | rfl | omega) (by omega) ti25) rfl (by kernel_rfl) (by kernel_rfl) (by kernel_rfl)) (by kernel_rfl) nr0 ?_
      refine segEndW [2, 3, 4, 5, 6, 27] (T1 := (mkT 39 [(2, vP 1 0), (3, vP 2 0), (4, vP 3 0), (5, vP 5 0), (6, vN i), (27, .bool (!(((L.getD i default).x == a) && (((L.getD i default).y == b) && (((L.getD i default).z == c) && true)))))])) (H1 := [some ⟨a3s L, 25, false, false⟩, rB [vN X, vN Y, vN Z, vS 0 L.length] 29, rB [vI a, vI b, vI c] 25, rB [vI 0, vI 0, vI 0, .slice none 0 0] 29, some ⟨a3s M, 25, false, true⟩, rB [vN X, vN Y, vN Z, vS 4 M.length] 29]) (by kernel_rfl) ?_
      refine kSeq ?_
      cases h2 : (((L.getD i default).x == a) && (((L.getD i default).y == b) && (((L.getD i default).z == c) && true)) : Bool)
      ·
        have h2k := h2
        (try simp only [Bool.not_eq_true', Bool.not_eq_false', decide_eq_true_eq, decide_eq_false_iff_not, beq_iff_eq, bne_iff_ne, beq_eq_false_iff_ne, bne_eq_false_iff_eq, ne_eq, Decidable.not_not, Bool.and_eq_true, Bool.and_eq_false_imp, Bool.or_eq_true, Bool.or_eq_false_iff, Bool.not_eq_true, Int.not_lt, Int.not_le, ge_iff_le, gt_iff_lt] at h2)
        refine cTrue (by kernel_rfl) ?_
        refine cRegW (N := 8) [⟨[], [], []⟩, ⟨[], [], [5]⟩, ⟨[], [], []⟩, ⟨[], [], [1]⟩, ⟨[], [], []⟩, ⟨[], [], []⟩, ⟨[], [], [0]⟩, ⟨[6], [], []⟩, ⟨[7], [4], [6]⟩, ⟨[], [], []⟩, ⟨[], [5], []⟩] 2 [6, 7] (by rfl) (by rfl) (by kernel_rfl) (by kernel_rfl) (by kernel_rfl) ⟨nmsF (flatA3 _ _ _ _), ⟨nmsX (by kernel_rfl), ⟨nmsX (by kernel_rfl), ⟨nmsX (by kernel_rfl), ⟨nmsF (flatA3 _ _ _ _), ⟨nmsX (by kernel_rfl), trivial⟩⟩⟩⟩⟩⟩ ?_
        refine segW 5 (T1 := (mkT 39 [(2, vP 1 0), (3, vP 2 0), (4, vP 3 0), (5, vP 5 0), (6, vN i), (27, .bool true), (28, vP 5 3), (29, vS 4 M.length), (30, vP 1 3), (31, vS 0 L.length), (32, vN i)])) (H1 := [some ⟨a3s L, 25, false, false⟩, rB [vN X, vN Y, vN Z, vS 0 L.length] 29, rB [vI a, vI b, vI c] 25, rB [vI 0, vI 0, vI 0, .slice none 0 0] 29, some ⟨a3s M, 25, false, true⟩, rB [vN X, vN Y, vN Z, vS 4 M.length] 29, none, none]) (by kernel_rfl) ?_
        refine rW (m := ⟨[], [], []⟩) (v := vP 0 (i * 3)) rfl (by kernel_rfl) (stId (eIdxS (ad := ⟨0, 0, none⟩) (n := L.length) (m := 0) (k := .i64) (c := ((i : Nat) : Int)) (j := i) (o := i * 3) (by kernel_rfl) (by kernel_rfl) ti22 ti25 (rfl) (by omega) (by exact Nat.zero_add _)) rfl (by kernel_rfl) (by kernel_rfl) (by kernel_rfl)) (by kernel_rfl) nr0 ?_
        refine rW (m := ⟨[], [], [0]⟩) (v := .agg #[vI ((L.getD i default).x), vI ((L.getD i default).y), vI ((L.getD i default).z)]) rfl (by kernel_rfl) (stId (eLdA3 (ad := ⟨0, i * 3, none⟩) (r := ⟨a3s L, 25, false, false⟩) (L := L) (j := i) (by kernel_rfl) (by kernel_rfl) rfl (by first | rfl | omega) (by omega) ti25) rfl (by kernel_rfl) (by kernel_rfl) (by kernel_rfl)) (by kernel_rfl) nr0 ?_
        refine rW (m := ⟨[6], [], []⟩) (v := vS 6 1) rfl (by kernel_rfl) (stNew (i := 6) (v1 := vS 8 1) (r := ⟨[vI ((L.getD i default).x), vI ((L.getD i default).y), vI ((L.getD i default).z)], 25, false, true⟩) (by kernel_rfl) rfl (by kernel_rfl) (by kernel_rfl) (by kernel_rfl) (by kernel_rfl) (nmX (by kernel_rfl)) (clX (by kernel_rfl))) (by kernel_rfl) (NRs.all ⟨nrOf (by rfl) (nmX (by kernel_rfl)), trivial⟩) ?_
        refine rW (m := ⟨[7], [4], [6]⟩) (v := vS 7 ((M ++ [(L.getD i default)]).length)) rfl (by kernel_rfl) (stApp (i := 7) (b := 4) (v1 := vS 8 ((M ++ [(L.getD i default)]).length)) (r := ⟨a3s (M ++ [(L.getD i default)]), 25, false, true⟩) (eAppA3 (b := 4) (a := 6) (L := M) (c := (L.getD i default)) (r := ⟨[vI ((L.getD i default).x), vI ((L.getD i default).y), vI ((L.getD i default).z)], 25, false, true⟩) (m := 0) (by kernel_rfl) (by kernel_rfl) ti22 ti25 rfl rfl (by decide) (by kernel_rfl) (by kernel_rfl) rfl (by omega) rfl) rfl (by kernel_rfl) (by kernel_rfl) (by kernel_rfl) (by kernel_rfl) (nmF (flatA3 _ _ _ _)) (clF (flatA3 _ _ _ _))) (by kernel_rfl) (NRs.all ⟨nrOf (by rfl) (nmF (flatA3 _ _ _ _)), ⟨nrNone (by rfl), trivial⟩⟩) ?_
        refine segW 1 (T1 := (mkT 39 [(2, vP 1 0), (3, vP 2 0), (4, vP 3 0), (5, vP 5 0), (6, vN i), (27, .bool true), (28, vP 5 3), (29, vS 4 M.length), (30, vP 1 3), (31, vS 0 L.length), (32, vN i), (33, vP 0 (i * 3)), (34, .agg #[vI ((L.getD i default).x), vI ((L.getD i default).y), vI ((L.getD i default).z)]), (35, vS 6 1), (36, vS 7 ((M ++ [(L.getD i default)]).length)), (37, vP 5 3)])) (H1 := [some ⟨a3s L, 25, false, false⟩, rB [vN X, vN Y, vN Z, vS 0 L.length] 29, rB [vI a, vI b, vI c] 25, rB [vI 0, vI 0, vI 0, .slice none 0 0] 29, none, rB [vN X, vN Y, vN Z, vS 4 M.length] 29, some ⟨[vI ((L.getD i default).x), vI ((L.getD i default).y), vI ((L.getD i default).z)], 25, false, true⟩, some ⟨a3s (M ++ [(L.getD i default)]), 25, false, true⟩]) (by kernel_rfl) ?_
        refine rW (m := ⟨[], [5], []⟩) (v := .tuple #[]) rfl (by kernel_rfl) (stSet (b := 5) (r := ⟨[vN X, vN Y, vN Z, vS 7 ((M ++ [(L.getD i default)]).length)], 29, true, true⟩) (by kernel_rfl) rfl (by kernel_rfl) (by kernel_rfl) (by kernel_rfl) (by kernel_rfl) (nmX (by kernel_rfl)) (clX (by kernel_rfl))) (by kernel_rfl) (NRs.all ⟨nrOf (by rfl) (nmX (by kernel_rfl)), trivial⟩) ?_
        refine segEndW [2, 3, 4, 5, 6] (T1 := (mkT 39 [(2, vP 1 0), (3, vP 2 0), (4, vP 3 0), (5, vP 5 0), (6, vN i)])) (H1 := [some ⟨a3s L, 25, false, false⟩, rB [vN X, vN Y, vN Z, vS 0 L.length] 29, rB [vI a, vI b, vI c] 25, rB [vI 0, vI 0, vI 0, .slice none 0 0] 29, none, rB [vN X, vN Y, vN Z, vS 7 ((M ++ [(L.getD i default)]).length)] 29, some ⟨[vI ((L.getD i default).x), vI ((L.getD i default).y), vI ((L.getD i default).z)], 25, false, true⟩, some ⟨a3s (M ++ [(L.getD i default)]), 25, false, true⟩]) (by kernel_rfl) ?_
        refine kBlk ?_
        refine kSeq ?_
        refine cReg ?_
        refine seg 1 (T1 := (mkT 39 [(2, vP 1 0), (3, vP 2 0), (4, vP 3 0), (5, vP 5 0), (6, vN i), (19, vN i)])) (H1 := [some ⟨a3s L, 25, false, false⟩, rB [vN X, vN Y, vN Z, vS 0 L.length] 29, rB [vI a, vI b, vI c] 25, rB [vI 0, vI 0, vI 0, .slice none 0 0] 29, none, rB [vN X, vN Y, vN Z, vS 7 ((M ++ [(L.getD i default)]).length)] 29, some ⟨[vI ((L.getD i default).x), vI ((L.getD i default).y), vI ((L.getD i default).z)], 25, false, true⟩, some ⟨a3s (M ++ [(L.getD i default)]), 25, false, true⟩]) (by kernel_rfl) ?_
        refine rOp (v := vN (i + 1)) (H' := [some ⟨a3s L, 25, false, false⟩, rB [vN X, vN Y, vN Z, vS 0 L.length] 29, rB [vI a, vI b, vI c] 25, rB [vI 0, vI 0, vI 0, .slice none 0 0] 29, none, rB [vN X, vN Y, vN Z, vS 7 ((M ++ [(L.getD i default)]).length)] 29, some ⟨[vI ((L.getD i default).x), vI ((L.getD i default).y), vI ((L.getD i default).z)], 25, false, true⟩, some ⟨a3s (M ++ [(L.getD i default)]), 25, false, true⟩]) (by kernel_rfl) (eAdd (k := .i64) (a := ((i : Nat) : Int)) (b := 1) (c := ((i + 1 : Nat) : Int)) (by kernel_rfl) (by kernel_rfl) (wr64 (by omega) (by omega) (by omega))) ?_
        refine segEnd [2, 3, 4, 5, 6] (T1 := (mkT 39 [(2, vP 1 0), (3, vP 2 0), (4, vP 3 0), (5, vP 5 0), (6, vN (i + 1))])) (H1 := [some ⟨a3s L, 25, false, false⟩, rB [vN X, vN Y, vN Z, vS 0 L.length] 29, rB [vI a, vI b, vI c] 25, rB [vI 0, vI 0, vI 0, .slice none 0 0] 29, none, rB [vN X, vN Y, vN Z, vS 7 ((M ++ [(L.getD i default)]).length)] 29, some ⟨[vI ((L.getD i default).x), vI ((L.getD i default).y), vI ((L.getD i default).z)], 25, false, true⟩, some ⟨a3s (M ++ [(L.getD i default)]), 25, false, true⟩]) (by kernel_rfl) ?_
        exact kLoop (L.length - (i + 1)) (mkT 39 [(2, vP 1 0), (3, vP 2 0), (4, vP 3 0), (5, vP 5 0), (6, vN (i + 1))]) [some ⟨a3s L, 25, false, false⟩, rB [vN X, vN Y, vN Z, vS 0 L.length] 29, rB [vI a, vI b, vI c] 25, rB [vI 0, vI 0, vI 0, .slice none 0 0] 29, some ⟨a3s (M ++ [(L.getD i default)]), 25, false, true⟩, rB [vN X, vN Y, vN Z, vS 4 ((M ++ [(L.getD i default)]).length)] 29] (by omega) (wkRen [0, 1, 2, 3, 7, 5] [2, 3, 4, 5, 6] ⟨rrF (flatA3 _ _ _ _) rfl, ⟨rrX rfl rfl, ⟨rrX rfl rfl, ⟨rrX rfl rfl, ⟨rrF (flatA3 _ _ _ _) rfl, ⟨rrX rfl rfl, trivial⟩⟩⟩⟩⟩⟩ rfl (by kernel_rfl) rfl) ⟨(i + 1), (M ++ [(L.getD i default)]), (by omega), (by first | (rw [hM]; exact take_filter_yes (by omega) (neA3t (by assumption))) | (rw [hM]; exact take_filter_no (by omega) (neA3f (by assumption)))), rfl, rfl, rfl⟩
      ·
        have h2k := h2
        (try simp only [Bool.not_eq_true', Bool.not_eq_false', decide_eq_true_eq, decide_eq_false_iff_not, beq_iff_eq, bne_iff_ne, beq_eq_false_iff_ne, bne_eq_false_iff_eq, ne_eq, Decidable.not_not, Bool.and_eq_true, Bool.and_eq_false_imp, Bool.or_eq_true, Bool.or_eq_false_iff, Bool.not_eq_true, Int.not_lt, Int.not_le, ge_iff_le, gt_iff_lt] at h2)
        refine cFalse (by kernel_rfl) ?_
        refine cSkip ?_
        refine kBlk ?_
        refine kSeq ?_
        refine cReg ?_
        refine seg 1 (T1 := (mkT 39 [(2, vP 1 0), (3, vP 2 0), (4, vP 3 0), (5, vP 5 0), (6, vN i), (19, vN i), (27, .bool false)])) (H1 := [some ⟨a3s L, 25, false, false⟩, rB [vN X, vN Y, vN Z, vS 0 L.length] 29, rB [vI a, vI b, vI c] 25, rB [vI 0, vI 0, vI 0, .slice none 0 0] 29, some ⟨a3s M, 25, false, true⟩, rB [vN X, vN Y, vN Z, vS 4 M.length] 29]) (by kernel_rfl) ?_
        refine rOp (v := vN (i + 1)) (H' := [some ⟨a3s L, 25, false, false⟩, rB [vN X, vN Y, vN Z, vS 0 L.length] 29, rB [vI a, vI b, vI c] 25, rB [vI 0, vI 0, vI 0, .slice none 0 0] 29, some ⟨a3s M, 25, false, true⟩, rB [vN X, vN Y, vN Z, vS 4 M.length] 29]) (by kernel_rfl) (eAdd (k := .i64) (a := ((i : Nat) : Int)) (b := 1) (c := ((i + 1 : Nat) : Int)) (by kernel_rfl) (by kernel_rfl) (wr64 (by omega) (by omega) (by omega))) ?_
        refine segEnd [2, 3, 4, 5, 6] (T1 := (mkT 39 [(2, vP 1 0), (3, vP 2 0), (4, vP 3 0), (5, vP 5 0), (6, vN (i + 1))])) (H1 := [some ⟨a3s L, 25, false, false⟩, rB [vN X, vN Y, vN Z, vS 0 L.length] 29, rB [vI a, vI b, vI c] 25, rB [vI 0, vI 0, vI 0, .slice none 0 0] 29, some ⟨a3s M, 25, false, true⟩, rB [vN X, vN Y, vN Z, vS 4 M.length] 29]) (by kernel_rfl) ?_
        exact kLoop (L.length - (i + 1)) (mkT 39 [(2, vP 1 0), (3, vP 2 0), (4, vP 3 0), (5, vP 5 0), (6, vN (i + 1))]) [some ⟨a3s L, 25, false, false⟩, rB [vN X, vN Y, vN Z, vS 0 L.length] 29, rB [vI a, vI b, vI c] 25, rB [vI 0, vI 0, vI 0, .slice none 0 0] 29, some ⟨a3s M, 25, false, true⟩, rB [vN X, vN Y, vN Z, vS 4 M.length] 29] (by omega) (wkSame [2, 3, 4, 5, 6] (by kernel_rfl)) ⟨(i + 1), M, (by omega), (by first | (rw [hM]; exact take_filter_yes (by omega) (neA3t (by assumption))) | (rw [hM]; exact take_filter_no (by omega) (neA3f (by assumption)))), rfl, rfl, rfl⟩

set_option maxRecDepth 100000 in
set_option maxHeartbeats 4000000 in
theorem specTakeCube_no (x : Int) (y : Int) (z : Int) (L : List A3) (a : Int) (b : Int) (c : Int) (hl : L.length ≤ 1048576) (hv : (isHeapB x y z L && has3 x y z a b c) = false) : Sound Try.prog 25 [.agg #[vI x, vI y, vI z, vS 0 L.length], .agg #[vI a, vI b, vI c]] [some ⟨a3s L, 25, false, false⟩] (.tuple #[.agg #[vI 0, vI 0, vI 0, .slice none 0 0], .bool false]) [some ⟨a3s L, 25, false, false⟩] := by
  refine sound_intro (C := cx) Try.func25 rfl (by kernel_rfl) fun hcl => ?_
  refine cSeq ?_
  refine cReg ?_
  refine segEnd [2, 3, 4] (T1 := (mkT 20 [(2, vP 1 0), (3, vP 2 0), (4, vP 3 0)])) (H1 := [some ⟨a3s L, 25, false, false⟩, rB [vI x, vI y, vI z, vS 0 L.length] 29, rB [vI a, vI b, vI c] 25, rB [vI 0, vI 0, vI 0, .slice none 0 0] 29]) (by kernel_rfl) ?_
  refine kSeq ?_
  refine cSeq ?_
  refine cSeq ?_
  refine cReg ?_
  refine seg 2 (T1 := (mkT 20 [(2, vP 1 0), (3, vP 2 0), (4, vP 3 0), (6, .agg #[vI x, vI y, vI z, vS 0 L.length]), (7, .agg #[vI a, vI b, vI c])])) (H1 := [some ⟨a3s L, 25, false, false⟩, rB [vI x, vI y, vI z, vS 0 L.length] 29, rB [vI a, vI b, vI c] 25, rB [vI 0, vI 0, vI 0, .slice none 0 0] 29]) (by kernel_rfl) ?_
  refine rCall (v := .bool false) (H' := [some ⟨a3s L, 25, false, false⟩, rB [vI x, vI y, vI z, vS 0 L.length] 29, rB [vI a, vI b, vI c] 25, rB [vI 0, vI 0, vI 0, .slice none 0 0] 29]) (args := [.agg #[vI x, vI y, vI z, vS 0 L.length], .agg #[vI a, vI b, vI c]]) (by kernel_rfl) rfl (by kernel_rfl) (Sound.lay0 [0] (l2CellB_no x y z L a b c (by first | assumption | omega | rfl | decide | exact HeapL.list _ _ _ _ | exact HeapL.nil _ _ _ | exact HeapL.all _ _ _ | (apply HeapL.lt64 <;> assumption) | (repeat' (first | assumption | apply or_lt64 | apply and_lt64 | apply andn_lt64 | apply pow_lt64 | (apply HeapL.lt64 <;> assumption)))) (by first | assumption | omega | rfl | decide | exact HeapL.list _ _ _ _ | exact HeapL.nil _ _ _ | exact HeapL.all _ _ _ | (apply HeapL.lt64 <;> assumption) | (repeat' (first | assumption | apply or_lt64 | apply and_lt64 | apply andn_lt64 | apply pow_lt64 | (apply HeapL.lt64 <;> assumption))))) ⟨rdF false (flatA3 _ _ _ _) rfl rfl, trivial⟩ rfl ⟨clF (flatA3 _ _ _ _), trivial⟩ rfl (by first | rfl | simp [mpV, mpA, mpS, mpP, renId, shift]) rfl) ?_
  refine segEnd [2, 3, 4, 15] (T1 := (mkT 20 [(2, vP 1 0), (3, vP 2 0), (4, vP 3 0), (15, .bool true)])) (H1 := [some ⟨a3s L, 25, false, false⟩, rB [vI x, vI y, vI z, vS 0 L.length] 29, rB [vI a, vI b, vI c] 25, rB [vI 0, vI 0, vI 0, .slice none 0 0] 29]) (by kernel_rfl) ?_
  refine kSeq ?_
  refine cTrue (by kernel_rfl) ?_
  refine cSeq ?_
  refine cReg ?_
  refine segEnd [4, 5] (T1 := (mkT 20 [(4, vP 3 0), (5, .bool false)])) (H1 := [some ⟨a3s L, 25, false, false⟩, rB [vI x, vI y, vI z, vS 0 L.length] 29, rB [vI a, vI b, vI c] 25, rB [vI 0, vI 0, vI 0, .slice none 0 0] 29]) (by kernel_rfl) ?_
  refine kSeq ?_
  refine cRet ?_
  refine kSeqR ?_
  -- end
  exact endQ (Or.inr rfl) (l := [.agg #[vI 0, vI 0, vI 0, .slice none 0 0], .bool false]) [rB [vI x, vI y, vI z, vS 0 L.length] 29, rB [vI a, vI b, vI c] 25, rB [vI 0, vI 0, vI 0, .slice none 0 0] 29] (by kernel_rfl) (by first | rfl | kernel_rfl) rfl rfl hcl rfl

set_option maxRecDepth 100000 in
set_option maxHeartbeats 4000000 in
theorem specTakeCube_out (X : Nat) (Y : Nat) (Z : Nat) (L : List A3) (a : Int) (b : Int) (c : Int) (hs : Sides X Y Z) (hL : HeapL X Y Z L) (hh : has3 (X : Int) (Y : Int) (Z : Int) a b c = true) (hb : hasL L a b c = false) : Sound Try.prog 25 [.agg #[vN X, vN Y, vN Z, vS 0 L.length], .agg #[vI a, vI b, vI c]] [some ⟨a3s L, 25, false, false⟩] (.tuple #[.agg #[vI 0, vI 0, vI 0, .slice none 0 0], .bool false]) [some ⟨a3s L, 25, false, false⟩] := by
  refine sound_intro (C := cx) Try.func25 rfl (by kernel_rfl) fun hcl => ?_
  have hz := hs.size
  have hx0 := hs.x0
  have hx4 := hs.x4
  have hy0 := hs.y0
  have hy4 := hs.y4
  have hz0 := hs.z0
  have hz4 := hs.z4
  have hlen := hL.len
  have hlt := hL.lt64 hs
  have hidx : idxN Y Z (A3.mk a b c) < 64 := Nat.lt_of_lt_of_le (idx_lt (c := A3.mk a b c) hh) hs.size
  refine cSeq ?_
  refine cReg ?_
  refine segEnd [2, 3, 4] (T1 := (mkT 20 [(2, vP 1 0), (3, vP 2 0), (4, vP 3 0)])) (H1 := [some ⟨a3s L, 25, false, false⟩, rB [vN X, vN Y, vN Z, vS 0 L.length] 29, rB [vI a, vI b, vI c] 25, rB [vI 0, vI 0, vI 0, .slice none 0 0] 29]) (by kernel_rfl) ?_
  refine kSeq ?_
  refine cSeq ?_
  refine cSeq ?_
  refine cReg ?_
  refine seg 2 (T1 := (mkT 20 [(2, vP 1 0), (3, vP 2 0), (4, vP 3 0), (6, .agg #[vN X, vN Y, vN Z, vS 0 L.length]), (7, .agg #[vI a, vI b, vI c])])) (H1 := [some ⟨a3s L, 25, false, false⟩, rB [vN X, vN Y, vN Z, vS 0 L.length] 29, rB [vI a, vI b, vI c] 25, rB [vI 0, vI 0, vI 0, .slice none 0 0] 29]) (by kernel_rfl) ?_
  refine rCall (v := .bool true) (H' := [some ⟨a3s L, 25, false, false⟩, rB [vN X, vN Y, vN Z, vS 0 L.length] 29, rB [vI a, vI b, vI c] 25, rB [vI 0, vI 0, vI 0, .slice none 0 0] 29]) (args := [.agg #[vN X, vN Y, vN Z, vS 0 L.length], .agg #[vI a, vI b, vI c]]) (by kernel_rfl) rfl (by kernel_rfl) (Sound.lay0 [0] (l2CellB X Y Z L a b c (by first | assumption | omega | rfl | decide | exact HeapL.list _ _ _ _ | exact HeapL.nil _ _ _ | exact HeapL.all _ _ _ | (apply HeapL.lt64 <;> assumption) | (repeat' (first | assumption | apply or_lt64 | apply and_lt64 | apply andn_lt64 | apply pow_lt64 | (apply HeapL.lt64 <;> assumption)))) (by first | assumption | omega | rfl | decide | exact HeapL.list _ _ _ _ | exact HeapL.nil _ _ _ | exact HeapL.all _ _ _ | (apply HeapL.lt64 <;> assumption) | (repeat' (first | assumption | apply or_lt64 | apply and_lt64 | apply andn_lt64 | apply pow_lt64 | (apply HeapL.lt64 <;> assumption)))) (by first | assumption | omega | rfl | decide | exact HeapL.list _ _ _ _ | exact HeapL.nil _ _ _ | exact HeapL.all _ _ _ | (apply HeapL.lt64 <;> assumption) | (repeat' (first | assumption | apply or_lt64 | apply and_lt64 | apply andn_lt64 | apply pow_lt64 | (apply HeapL.lt64 <;> assumption))))) ⟨rdF false (flatA3 _ _ _ _) rfl rfl, trivial⟩ rfl ⟨clF (flatA3 _ _ _ _), trivial⟩ rfl (by first | rfl | simp [mpV, mpA, mpS, mpP, renId, shift]) rfl) ?_
  refine seg 4 (T1 := (mkT 20 [(2, vP 1 0), (3, vP 2 0), (4, vP 3 0), (6, .agg #[vN X, vN Y, vN Z, vS 0 L.length]), (7, .agg #[vI a, vI b, vI c]), (8, .bool true), (9, .bool false), (10, .bool false), (11, .agg #[vN X, vN Y, vN Z, vS 0 L.length]), (12, .agg #[vI a, vI b, vI c])])) (H1 := [some ⟨a3s L, 25, false, false⟩, rB [vN X, vN Y, vN Z, vS 0 L.length] 29, rB [vI a, vI b, vI c] 25, rB [vI 0, vI 0, vI 0, .slice none 0 0] 29]) (by kernel_rfl) ?_
  refine rCall (v := .bool (hasL L a b c)) (H' := [some ⟨a3s L, 25, false, false⟩, rB [vN X, vN Y, vN Z, vS 0 L.length] 29, rB [vI a, vI b, vI c] 25, rB [vI 0, vI 0, vI 0, .slice none 0 0] 29]) (args := [.agg #[vN X, vN Y, vN Z, vS 0 L.length], .agg #[vI a, vI b, vI c]]) (by kernel_rfl) rfl (by kernel_rfl) (Sound.lay0 [0] (l2HasB X Y Z L a b c (by first | assumption | omega | rfl | decide | exact HeapL.list _ _ _ _ | exact HeapL.nil _ _ _ | exact HeapL.all _ _ _ | (apply HeapL.lt64 <;> assumption) | (repeat' (first | assumption | apply or_lt64 | apply and_lt64 | apply andn_lt64 | apply pow_lt64 | (apply HeapL.lt64 <;> assumption)))) (by first | assumption | omega | rfl | decide | exact HeapL.list _ _ _ _ | exact HeapL.nil _ _ _ | exact HeapL.all _ _ _ | (apply HeapL.lt64 <;> assumption) | (repeat' (first | assumption | apply or_lt64 | apply and_lt64 | apply andn_lt64 | apply pow_lt64 | (apply HeapL.lt64 <;> assumption))))) ⟨rdF false (flatA3 _ _ _ _) rfl rfl, trivial⟩ rfl ⟨clF (flatA3 _ _ _ _), trivial⟩ rfl (by first | rfl | simp [mpV, mpA, mpS, mpP, renId, shift]) rfl) ?_
  refine segEnd [2, 3, 4, 15] (T1 := (mkT 20 [(2, vP 1 0), (3, vP 2 0), (4, vP 3 0), (15, .bool (!(hasL L a b c)))])) (H1 := [some ⟨a3s L, 25, false, false⟩, rB [vN X, vN Y, vN Z, vS 0 L.length] 29, rB [vI a, vI b, vI c] 25, rB [vI 0, vI 0, vI 0, .slice none 0 0] 29]) (by kernel_rfl) ?_
  refine kSeq ?_
  cases h1 : (hasL L a b c : Bool)
  ·
    (try simp only [Bool.not_eq_true', Bool.not_eq_false', decide_eq_true_eq, decide_eq_false_iff_not, beq_iff_eq, bne_iff_ne, beq_eq_false_iff_ne, bne_eq_false_iff_eq, ne_eq, Decidable.not_not, Bool.and_eq_true, Bool.and_eq_false_imp, Bool.or_eq_true, Bool.or_eq_false_iff, Bool.not_eq_true, Int.not_lt, Int.not_le, ge_iff_le, gt_iff_lt] at h1)
    refine cTrue (by kernel_rfl) ?_
    refine cSeq ?_
    refine cReg ?_
    refine segEnd [4, 5] (T1 := (mkT 20 [(4, vP 3 0), (5, .bool false)])) (H1 := [some ⟨a3s L, 25, false, false⟩, rB [vN X, vN Y, vN Z, vS 0 L.length] 29, rB [vI a, vI b, vI c] 25, rB [vI 0, vI 0, vI 0, .slice none 0 0] 29]) (by kernel_rfl) ?_
    refine kSeq ?_
    refine cRet ?_
    refine kSeqR ?_
    -- end
    exact endQ (Or.inr rfl) (l := [.agg #[vI 0, vI 0, vI 0, .slice none 0 0], .bool false]) [rB [vN X, vN Y, vN Z, vS 0 L.length] 29, rB [vI a, vI b, vI c] 25, rB [vI 0, vI 0, vI 0, .slice none 0 0] 29] (by kernel_rfl) (by first | rfl | kernel_rfl) rfl rfl hcl rfl
  ·
    (try simp only [Bool.not_eq_true', Bool.not_eq_false', decide_eq_true_eq, decide_eq_false_iff_not, beq_iff_eq, bne_iff_ne, beq_eq_false_iff_ne, bne_eq_false_iff_eq, ne_eq, Decidable.not_not, Bool.and_eq_true, Bool.and_eq_false_imp, Bool.or_eq_true, Bool.or_eq_false_iff, Bool.not_eq_true, Int.not_lt, Int.not_le, ge_iff_le, gt_iff_lt] at h1)
    exfalso; simp_all

set_option maxRecDepth 100000 in
set_option maxHeartbeats 4000000 in
theorem specTakeCube_in (X : Nat) (Y : Nat) (Z : Nat) (L : List A3) (a : Int) (b : Int) (c : Int) (hs : Sides X Y Z) (hL : HeapL X Y Z L) (hh : has3 (X : Int) (Y : Int) (Z : Int) a b c = true) (hb : hasL L a b c = true) : Sound Try.prog 25 [.agg #[vN X, vN Y, vN Z, vS 0 L.length], .agg #[vI a, vI b, vI c]] [some ⟨a3s L, 25, false, false⟩] (.tuple #[.agg #[vN X, vN Y, vN Z, vS 1 ((listOf X Y Z (andn (setOf Y Z L) (2 ^ idxN Y Z (A3.mk a b c)))).length)], .bool true]) [some ⟨a3s L, 25, false, false⟩, some ⟨a3s (listOf X Y Z (andn (setOf Y Z L) (2 ^ idxN Y Z (A3.mk a b c)))), 25, false, true⟩] := by
  refine sound_intro (C := cx) Try.func25 rfl (by kernel_rfl) fun hcl => ?_
  have hz := hs.size
  have hx0 := hs.x0
  have hx4 := hs.x4
  have hy0 := hs.y0
  have hy4 := hs.y4
  have hz0 := hs.z0
  have hz4 := hs.z4
  have hlen := hL.len
  have hlt := hL.lt64 hs
  have hidx : idxN Y Z (A3.mk a b c) < 64 := Nat.lt_of_lt_of_le (idx_lt (c := A3.mk a b c) hh) hs.size
  refine cSeq ?_
  refine cReg ?_
  refine segEnd [2, 3, 4] (T1 := (mkT 20 [(2, vP 1 0), (3, vP 2 0), (4, vP 3 0)])) (H1 := [some ⟨a3s L, 25, false, false⟩, rB [vN X, vN Y, vN Z, vS 0 L.length] 29, rB [vI a, vI b, vI c] 25, rB [vI 0, vI 0, vI 0, .slice none 0 0] 29]) (by kernel_rfl) ?_
  refine kSeq ?_
  refine cSeq ?_
  refine cSeq ?_
  refine cReg ?_
  refine seg 2 (T1 := (mkT 20 [(2, vP 1 0), (3, vP 2 0), (4, vP 3 0), (6, .agg #[vN X, vN Y, vN Z, vS 0 L.length]), (7, .agg #[vI a, vI b, vI c])])) (H1 := [some ⟨a3s L, 25, false, false⟩, rB [vN X, vN Y, vN Z, vS 0 L.length] 29, rB [vI a, vI b, vI c] 25, rB [vI 0, vI 0, vI 0, .slice none 0 0] 29]) (by kernel_rfl) ?_
  refine rCall (v := .bool true) (H' := [some ⟨a3s L, 25, false, false⟩, rB [vN X, vN Y, vN Z, vS 0 L.length] 29, rB [vI a, vI b, vI c] 25, rB [vI 0, vI 0, vI 0, .slice none 0 0] 29]) (args := [.agg #[vN X, vN Y, vN Z, vS 0 L.length], .agg #[vI a, vI b, vI c]]) (by kernel_rfl) rfl (by kernel_rfl) (Sound.lay0 [0] (l2CellB X Y Z L a b c (by first | assumption | omega | rfl | decide | exact HeapL.list _ _ _ _ | exact HeapL.nil _ _ _ | exact HeapL.all _ _ _ | (apply HeapL.lt64 <;> assumption) | (repeat' (first | assumption | apply or_lt64 | apply and_lt64 | apply andn_lt64 | apply pow_lt64 | (apply HeapL.lt64 <;> assumption)))) (by first | assumption | omega | rfl | decide | exact HeapL.list _ _ _ _ | exact HeapL.nil _ _ _ | exact HeapL.all _ _ _ | (apply HeapL.lt64 <;> assumption) | (repeat' (first | assumption | apply or_lt64 | apply and_lt64 | apply andn_lt64 | apply pow_lt64 | (apply HeapL.lt64 <;> assumption)))) (by first | assumption | omega | rfl | decide | exact HeapL.list _ _ _ _ | exact HeapL.nil _ _ _ | exact HeapL.all _ _ _ | (apply HeapL.lt64 <;> assumption) | (repeat' (first | assumption | apply or_lt64 | apply and_lt64 | apply andn_lt64 | apply pow_lt64 | (apply HeapL.lt64 <;> assumption))))) ⟨rdF false (flatA3 _ _ _ _) rfl rfl, trivial⟩ rfl ⟨clF (flatA3 _ _ _ _), trivial⟩ rfl (by first | rfl | simp [mpV, mpA, mpS, mpP, renId, shift]) rfl) ?_
  refine seg 4 (T1 := (mkT 20 [(2, vP 1 0), (3, vP 2 0), (4, vP 3 0), (6, .agg #[vN X, vN Y, vN Z, vS 0 L.length]), (7, .agg #[vI a, vI b, vI c]), (8, .bool true), (9, .bool false), (10, .bool false), (11, .agg #[vN X, vN Y, vN Z, vS 0 L.length]), (12, .agg #[vI a, vI b, vI c])])) (H1 := [some ⟨a3s L, 25, false, false⟩, rB [vN X, vN Y, vN Z, vS 0 L.length] 29, rB [vI a, vI b, vI c] 25, rB [vI 0, vI 0, vI 0, .slice none 0 0] 29]) (by kernel_rfl) ?_
  refine rCall (v := .bool (hasL L a b c)) (H' := [some ⟨a3s L, 25, false, false⟩, rB [vN X, vN Y, vN Z, vS 0 L.length] 29, rB [vI a, vI b, vI c] 25, rB [vI 0, vI 0, vI 0, .slice none 0 0] 29]) (args := [.agg #[vN X, vN Y, vN Z, vS 0 L.length], .agg #[vI a, vI b, vI c]]) (by kernel_rfl) rfl (by kernel_rfl) (Sound.lay0 [0] (l2HasB X Y Z L a b c (by first | assumption | omega | rfl | decide | exact HeapL.list _ _ _ _ | exact HeapL.nil _ _ _ | exact HeapL.all _ _ _ | (apply HeapL.lt64 <;> assumption) | (repeat' (first | assumption | apply or_lt64 | apply and_lt64 | apply andn_lt64 | apply pow_lt64 | (apply HeapL.lt64 <;> assumption)))) (by first | assumption | omega | rfl | decide | exact HeapL.list _ _ _ _ | exact HeapL.nil _ _ _ | exact HeapL.all _ _ _ | (apply HeapL.lt64 <;> assumption) | (repeat' (first | assumption | apply or_lt64 | apply and_lt64 | apply andn_lt64 | apply pow_lt64 | (apply HeapL.lt64 <;> assumption))))) ⟨rdF false (flatA3 _ _ _ _) rfl rfl, trivial⟩ rfl ⟨clF (flatA3 _ _ _ _), trivial⟩ rfl (by first | rfl | simp [mpV, mpA, mpS, mpP, renId, shift]) rfl) ?_
  refine segEnd [2, 3, 4, 15] (T1 := (mkT 20 [(2, vP 1 0), (3, vP 2 0), (4, vP 3 0), (15, .bool (!(hasL L a b c)))])) (H1 := [some ⟨a3s L, 25, false, false⟩, rB [vN X, vN Y, vN Z, vS 0 L.length] 29, rB [vI a, vI b, vI c] 25, rB [vI 0, vI 0, vI 0, .slice none 0 0] 29]) (by kernel_rfl) ?_
  refine kSeq ?_
  cases h1 : (hasL L a b c : Bool)
  ·
    (try simp only [Bool.not_eq_true', Bool.not_eq_false', decide_eq_true_eq, decide_eq_false_iff_not, beq_iff_eq, bne_iff_ne, beq_eq_false_iff_ne, bne_eq_false_iff_eq, ne_eq, Decidable.not_not, Bool.and_eq_true, Bool.and_eq_false_imp, Bool.or_eq_true, Bool.or_eq_false_iff, Bool.not_eq_true, Int.not_lt, Int.not_le, ge_iff_le, gt_iff_lt] at h1)
    exfalso; simp_all
  ·
    (try simp only [Bool.not_eq_true', Bool.not_eq_false', decide_eq_true_eq, decide_eq_false_iff_not, beq_iff_eq, bne_iff_ne, beq_eq_false_iff_ne, bne_eq_false_iff_eq, ne_eq, Decidable.not_not, Bool.and_eq_true, Bool.and_eq_false_imp, Bool.or_eq_true, Bool.or_eq_false_iff, Bool.not_eq_true, Int.not_lt, Int.not_le, ge_iff_le, gt_iff_lt] at h1)
    refine cFalse (by kernel_rfl) ?_
    refine cSkip ?_
    refine kSeq ?_
    refine cSeq ?_
    refine cReg ?_
    refine seg 2 (T1 := (mkT 20 [(2, vP 1 0), (3, vP 2 0), (4, vP 3 0), (15, .bool false), (17, .agg #[vN X, vN Y, vN Z, vS 0 L.length]), (18, .agg #[vI a, vI b, vI c])])) (H1 := [some ⟨a3s L, 25, false, false⟩, rB [vN X, vN Y, vN Z, vS 0 L.length] 29, rB [vI a, vI b, vI c] 25, rB [vI 0, vI 0, vI 0, .slice none 0 0] 29]) (by kernel_rfl) ?_
    refine rCall (v := .agg #[vN X, vN Y, vN Z, vS 4 ((listOf X Y Z (andn (setOf Y Z L) (2 ^ idxN Y Z (A3.mk a b c)))).length)]) (H' := [some ⟨a3s L, 25, false, false⟩, rB [vN X, vN Y, vN Z, vS 0 L.length] 29, rB [vI a, vI b, vI c] 25, rB [vI 0, vI 0, vI 0, .slice none 0 0] 29, some ⟨a3s (listOf X Y Z (andn (setOf Y Z L) (2 ^ idxN Y Z (A3.mk a b c)))), 25, false, true⟩]) (args := [.agg #[vN X, vN Y, vN Z, vS 0 L.length], .agg #[vI a, vI b, vI c]]) (by kernel_rfl) rfl (by kernel_rfl) (Sound.lay [0] (l2WithoutB X Y Z L a b c (by first | assumption | omega | rfl | decide | exact HeapL.list _ _ _ _ | exact HeapL.nil _ _ _ | exact HeapL.all _ _ _ | (apply HeapL.lt64 <;> assumption) | (repeat' (first | assumption | apply or_lt64 | apply and_lt64 | apply andn_lt64 | apply pow_lt64 | (apply HeapL.lt64 <;> assumption)))) (by first | assumption | omega | rfl | decide | exact HeapL.list _ _ _ _ | exact HeapL.nil _ _ _ | exact HeapL.all _ _ _ | (apply HeapL.lt64 <;> assumption) | (repeat' (first | assumption | apply or_lt64 | apply and_lt64 | apply andn_lt64 | apply pow_lt64 | (apply HeapL.lt64 <;> assumption)))) (by first | assumption | omega | rfl | decide | exact HeapL.list _ _ _ _ | exact HeapL.nil _ _ _ | exact HeapL.all _ _ _ | (apply HeapL.lt64 <;> assumption) | (repeat' (first | assumption | apply or_lt64 | apply and_lt64 | apply andn_lt64 | apply pow_lt64 | (apply HeapL.lt64 <;> assumption))))) ⟨rdF false (flatA3 _ _ _ _) rfl rfl, trivial⟩ rfl ⟨clF (flatA3 _ _ _ _), trivial⟩ rfl (by first | rfl | simp [mpV, mpA, mpS, mpP, renId, shift]) (by first | rfl | simp [mpV, mpA, mpS, mpP, renId, shift]) ⟨enF (flatA3 _ _ _ _) (Or.inl rfl), trivial⟩) ?_
    refine segEnd [4, 5] (T1 := (mkT 20 [(4, vP 3 0), (5, .bool true)])) (H1 := [some ⟨a3s L, 25, false, false⟩, rB [vN X, vN Y, vN Z, vS 0 L.length] 29, rB [vI a, vI b, vI c] 25, rB [vN X, vN Y, vN Z, vS 4 ((listOf X Y Z (andn (setOf Y Z L) (2 ^ idxN Y Z (A3.mk a b c)))).length)] 29, some ⟨a3s (listOf X Y Z (andn (setOf Y Z L) (2 ^ idxN Y Z (A3.mk a b c)))), 25, false, true⟩]) (by kernel_rfl) ?_
    refine kSeq ?_
    refine cRet ?_
    -- end
    exact endF (Or.inr rfl) (l := [.agg #[vN X, vN Y, vN Z, vS 4 ((listOf X Y Z (andn (setOf Y Z L) (2 ^ idxN Y Z (A3.mk a b c)))).length)], .bool true]) [0, 4] (by kernel_rfl) (by first | rfl | simp [packR, mpV, mpA, mpS, mpP, renId]) ⟨rrF (flatA3 _ _ _ _) rfl, ⟨rrF (flatA3 _ _ _ _) rfl, trivial⟩⟩ rfl rfl

set_option maxRecDepth 100000 in
set_option maxHeartbeats 4000000 in
theorem implTakeCube_no (x : Int) (y : Int) (z : Int) (L : List A3) (a : Int) (b : Int) (c : Int) (hl : L.length ≤ 1048576) (hv : (isHeapB x y z L && has3 x y z a b c) = false) : Sound Try.prog 26 [.agg #[vI x, vI y, vI z, vS 0 L.length], .agg #[vI a, vI b, vI c]] [some ⟨a3s L, 25, false, false⟩] (.tuple #[.agg #[vI 0, vI 0, vI 0, .slice none 0 0], .bool false]) [some ⟨a3s L, 25, false, false⟩] := by
  refine sound_intro (C := cx) Try.func26 rfl (by kernel_rfl) fun hcl => ?_
  refine cSeq ?_
  refine cReg ?_
  refine segEnd [2, 3, 4] (T1 := (mkT 28 [(2, vP 1 0), (3, vP 2 0), (4, vP 3 0)])) (H1 := [some ⟨a3s L, 25, false, false⟩, rB [vI x, vI y, vI z, vS 0 L.length] 29, rB [vI a, vI b, vI c] 25, rB [vI 0, vI 0, vI 0, .slice none 0 0] 29]) (by kernel_rfl) ?_
  refine kSeq ?_
  refine cSeq ?_
  refine cSeq ?_
  refine cReg ?_
  refine seg 2 (T1 := (mkT 28 [(2, vP 1 0), (3, vP 2 0), (4, vP 3 0), (6, .agg #[vI x, vI y, vI z, vS 0 L.length]), (7, .agg #[vI a, vI b, vI c])])) (H1 := [some ⟨a3s L, 25, false, false⟩, rB [vI x, vI y, vI z, vS 0 L.length] 29, rB [vI a, vI b, vI c] 25, rB [vI 0, vI 0, vI 0, .slice none 0 0] 29]) (by kernel_rfl) ?_
  refine rCall (v := .bool false) (H' := [some ⟨a3s L, 25, false, false⟩, rB [vI x, vI y, vI z, vS 0 L.length] 29, rB [vI a, vI b, vI c] 25, rB [vI 0, vI 0, vI 0, .slice none 0 0] 29]) (args := [.agg #[vI x, vI y, vI z, vS 0 L.length], .agg #[vI a, vI b, vI c]]) (by kernel_rfl) rfl (by kernel_rfl) (Sound.lay0 [0] (isCellB_no x y z L a b c (by first | assumption | omega | rfl | decide | exact HeapL.list _ _ _ _ | exact HeapL.nil _ _ _ | exact HeapL.all _ _ _ | (apply HeapL.lt64 <;> assumption) | (repeat' (first | assumption | apply or_lt64 | apply and_lt64 | apply andn_lt64 | apply pow_lt64 | (apply HeapL.lt64 <;> assumption)))) (by first | assumption | omega | rfl | decide | exact HeapL.list _ _ _ _ | exact HeapL.nil _ _ _ | exact HeapL.all _ _ _ | (apply HeapL.lt64 <;> assumption) | (repeat' (first | assumption | apply or_lt64 | apply and_lt64 | apply andn_lt64 | apply pow_lt64 | (apply HeapL.lt64 <;> assumption))))) ⟨rdF false (flatA3 _ _ _ _) rfl rfl, trivial⟩ rfl ⟨clF (flatA3 _ _ _ _), trivial⟩ rfl (by first | rfl | simp [mpV, mpA, mpS, mpP, renId, shift]) rfl) ?_
  refine segEnd [2, 3, 4, 15] (T1 := (mkT 28 [(2, vP 1 0), (3, vP 2 0), (4, vP 3 0), (15, .bool true)])) (H1 := [some ⟨a3s L, 25, false, false⟩, rB [vI x, vI y, vI z, vS 0 L.length] 29, rB [vI a, vI b, vI c] 25, rB [vI 0, vI 0, vI 0, .slice none 0 0] 29]) (by kernel_rfl) ?_
  refine kSeq ?_
  refine cTrue (by kernel_rfl) ?_
  refine cSeq ?_
  refine cReg ?_
  refine segEnd [4, 5] (T1 := (mkT 28 [(4, vP 3 0), (5, .bool false)])) (H1 := [some ⟨a3s L, 25, false, false⟩, rB [vI x, vI y, vI z, vS 0 L.length] 29, rB [vI a, vI b, vI c] 25, rB [vI 0, vI 0, vI 0, .slice none 0 0] 29]) (by kernel_rfl) ?_
  refine kSeq ?_
  refine cRet ?_
  refine kSeqR ?_
  -- end
  exact endQ (Or.inr rfl) (l := [.agg #[vI 0, vI 0, vI 0, .slice none 0 0], .bool false]) [rB [vI x, vI y, vI z, vS 0 L.length] 29, rB [vI a, vI b, vI c] 25, rB [vI 0, vI 0, vI 0, .slice none 0 0] 29] (by kernel_rfl) (by first | rfl | kernel_rfl) rfl rfl hcl rfl

set_option maxRecDepth 100000 in
set_option maxHeartbeats 4000000 in
theorem implTakeCube_out (X : Nat) (Y : Nat) (Z : Nat) (L : List A3) (a : Int) (b : Int) (c : Int) (hs : Sides X Y Z) (hL : HeapL X Y Z L) (hh : has3 (X : Int) (Y : Int) (Z : Int) a b c = true) (hb : hasL L a b c = false) : Sound Try.prog 26 [.agg #[vN X, vN Y, vN Z, vS 0 L.length], .agg #[vI a, vI b, vI c]] [some ⟨a3s L, 25, false, false⟩] (.tuple #[.agg #[vI 0, vI 0, vI 0, .slice none 0 0], .bool false]) [some ⟨a3s L, 25, false, false⟩] := by
  refine sound_intro (C := cx) Try.func26 rfl (by kernel_rfl) fun hcl => ?_
  have hz := hs.size
  have hx0 := hs.x0
  have hx4 := hs.x4
  have hy0 := hs.y0
  have hy4 := hs.y4
  have hz0 := hs.z0
  have hz4 := hs.z4
  have hlen := hL.len
  have hlt := hL.lt64 hs
  have hidx : idxN Y Z (A3.mk a b c) < 64 := Nat.lt_of_lt_of_le (idx_lt (c := A3.mk a b c) hh) hs.size
  refine cSeq ?_
  refine cReg ?_
  refine segEnd [2, 3, 4] (T1 := (mkT 28 [(2, vP 1 0), (3, vP 2 0), (4, vP 3 0)])) (H1 := [some ⟨a3s L, 25, false, false⟩, rB [vN X, vN Y, vN Z, vS 0 L.length] 29, rB [vI a, vI b, vI c] 25, rB [vI 0, vI 0, vI 0, .slice none 0 0] 29]) (by kernel_rfl) ?_
  refine kSeq ?_
  refine cSeq ?_
  refine cSeq ?_
  refine cReg ?_
  refine seg 2 (T1 := (mkT 28 [(2, vP 1 0), (3, vP 2 0), (4, vP 3 0), (6, .agg #[vN X, vN Y, vN Z, vS 0 L.length]), (7, .agg #[vI a, vI b, vI c])])) (H1 := [some ⟨a3s L, 25, false, false⟩, rB [vN X, vN Y, vN Z, vS 0 L.length] 29, rB [vI a, vI b, vI c] 25, rB [vI 0, vI 0, vI 0, .slice none 0 0] 29]) (by kernel_rfl) ?_
  refine rCall (v := .bool true) (H' := [some ⟨a3s L, 25, false, false⟩, rB [vN X, vN Y, vN Z, vS 0 L.length] 29, rB [vI a, vI b, vI c] 25, rB [vI 0, vI 0, vI 0, .slice none 0 0] 29]) (args := [.agg #[vN X, vN Y, vN Z, vS 0 L.length], .agg #[vI a, vI b, vI c]]) (by kernel_rfl) rfl (by kernel_rfl) (Sound.lay0 [0] (isCellB X Y Z L a b c (by first | assumption | omega | rfl | decide | exact HeapL.list _ _ _ _ | exact HeapL.nil _ _ _ | exact HeapL.all _ _ _ | (apply HeapL.lt64 <;> assumption) | (repeat' (first | assumption | apply or_lt64 | apply and_lt64 | apply andn_lt64 | apply pow_lt64 | (apply HeapL.lt64 <;> assumption)))) (by first | assumption | omega | rfl | decide | exact HeapL.list _ _ _ _ | exact HeapL.nil _ _ _ | exact HeapL.all _ _ _ | (apply HeapL.lt64 <;> assumption) | (repeat' (first | assumption | apply or_lt64 | apply and_lt64 | apply andn_lt64 | apply pow_lt64 | (apply HeapL.lt64 <;> assumption)))) (by first | assumption | omega | rfl | decide | exact HeapL.list _ _ _ _ | exact HeapL.nil _ _ _ | exact HeapL.all _ _ _ | (apply HeapL.lt64 <;> assumption) | (repeat' (first | assumption | apply or_lt64 | apply and_lt64 | apply andn_lt64 | apply pow_lt64 | (apply HeapL.lt64 <;> assumption))))) ⟨rdF false (flatA3 _ _ _ _) rfl rfl, trivial⟩ rfl ⟨clF (flatA3 _ _ _ _), trivial⟩ rfl (by first | rfl | simp [mpV, mpA, mpS, mpP, renId, shift]) rfl) ?_
  refine seg 4 (T1 := (mkT 28 [(2, vP 1 0), (3, vP 2 0), (4, vP 3 0), (6, .agg #[vN X, vN Y, vN Z, vS 0 L.length]), (7, .agg #[vI a, vI b, vI c]), (8, .bool true), (9, .bool false), (10, .bool false), (11, .agg #[vN X, vN Y, vN Z, vS 0 L.length]), (12, .agg #[vI a, vI b, vI c])])) (H1 := [some ⟨a3s L, 25, false, false⟩, rB [vN X, vN Y, vN Z, vS 0 L.length] 29, rB [vI a, vI b, vI c] 25, rB [vI 0, vI 0, vI 0, .slice none 0 0] 29]) (by kernel_rfl) ?_
  refine rCall (v := .bool (hasL L a b c)) (H' := [some ⟨a3s L, 25, false, false⟩, rB [vN X, vN Y, vN Z, vS 0 L.length] 29, rB [vI a, vI b, vI c] 25, rB [vI 0, vI 0, vI 0, .slice none 0 0] 29]) (args := [.agg #[vN X, vN Y, vN Z, vS 0 L.length], .agg #[vI a, vI b, vI c]]) (by kernel_rfl) rfl (by kernel_rfl) (Sound.lay0 [0] (hasCubeB X Y Z L a b c (by first | assumption | omega | rfl | decide | exact HeapL.list _ _ _ _ | exact HeapL.nil _ _ _ | exact HeapL.all _ _ _ | (apply HeapL.lt64 <;> assumption) | (repeat' (first | assumption | apply or_lt64 | apply and_lt64 | apply andn_lt64 | apply pow_lt64 | (apply HeapL.lt64 <;> assumption)))) (by first | assumption | omega | rfl | decide | exact HeapL.list _ _ _ _ | exact HeapL.nil _ _ _ | exact HeapL.all _ _ _ | (apply HeapL.lt64 <;> assumption) | (repeat' (first | assumption | apply or_lt64 | apply and_lt64 | apply andn_lt64 | apply pow_lt64 | (apply HeapL.lt64 <;> assumption)))) (by first | assumption | omega | rfl | decide | exact HeapL.list _ _ _ _ | exact HeapL.nil _ _ _ | exact HeapL.all _ _ _ | (apply HeapL.lt64 <;> assumption) | (repeat' (first | assumption | apply or_lt64 | apply and_lt64 | apply andn_lt64 | apply pow_lt64 | (apply HeapL.lt64 <;> assumption))))) ⟨rdF false (flatA3 _ _ _ _) rfl rfl, trivial⟩ rfl ⟨clF (flatA3 _ _ _ _), trivial⟩ rfl (by first | rfl | simp [mpV, mpA, mpS, mpP, renId, shift]) rfl) ?_
  refine segEnd [2, 3, 4, 15] (T1 := (mkT 28 [(2, vP 1 0), (3, vP 2 0), (4, vP 3 0), (15, .bool (!(hasL L a b c)))])) (H1 := [some ⟨a3s L, 25, false, false⟩, rB [vN X, vN Y, vN Z, vS 0 L.length] 29, rB [vI a, vI b, vI c] 25, rB [vI 0, vI 0, vI 0, .slice none 0 0] 29]) (by kernel_rfl) ?_
  refine kSeq ?_
  cases h1 : (hasL L a b c : Bool)
  ·
    (try simp only [Bool.not_eq_true', Bool.not_eq_false', decide_eq_true_eq, decide_eq_false_iff_not, beq_iff_eq, bne_iff_ne, beq_eq_false_iff_ne, bne_eq_false_iff_eq, ne_eq, Decidable.not_not, Bool.and_eq_true, Bool.and_eq_false_imp, Bool.or_eq_true, Bool.or_eq_false_iff, Bool.not_eq_true, Int.not_lt, Int.not_le, ge_iff_le, gt_iff_lt] at h1)
    refine cTrue (by kernel_rfl) ?_
    refine cSeq ?_
    refine cReg ?_
    refine segEnd [4, 5] (T1 := (mkT 28 [(4, vP 3 0), (5, .bool false)])) (H1 := [some ⟨a3s L, 25, false, false⟩, rB [vN X, vN Y, vN Z, vS 0 L.length] 29, rB [vI a, vI b, vI c] 25, rB [vI 0, vI 0, vI 0, .slice none 0 0] 29]) (by kernel_rfl) ?_
    refine kSeq ?_
    refine cRet ?_
    refine kSeqR ?_
    -- end
    exact endQ (Or.inr rfl) (l := [.agg #[vI 0, vI 0, vI 0, .slice none 0 0], .bool false]) [rB [vN X, vN Y, vN Z, vS 0 L.length] 29, rB [vI a, vI b, vI c] 25, rB [vI 0, vI 0, vI 0, .slice none 0 0] 29] (by kernel_rfl) (by first | rfl | kernel_rfl) rfl rfl hcl rfl
  ·
    (try simp only [Bool.not_eq_true', Bool.not_eq_false', decide_eq_true_eq, decide_eq_false_iff_not, beq_iff_eq, bne_iff_ne, beq_eq_false_iff_ne, bne_eq_false_iff_eq, ne_eq, Decidable.not_not, Bool.and_eq_true, Bool.and_eq_false_imp, Bool.or_eq_true, Bool.or_eq_false_iff, Bool.not_eq_true, Int.not_lt, Int.not_le, ge_iff_le, gt_iff_lt] at h1)
    exfalso; simp_all

set_option maxRecDepth 100000 in
set_option maxHeartbeats 4000000 in
theorem implTakeCube_in (X : Nat) (Y : Nat) (Z : Nat) (L : List A3) (a : Int) (b : Int) (c : Int) (hs : Sides X Y Z) (hL : HeapL X Y Z L) (hh : has3 (X : Int) (Y : Int) (Z : Int) a b c = true) (hb : hasL L a b c = true) : Sound Try.prog 26 [.agg #[vN X, vN Y, vN Z, vS 0 L.length], .agg #[vI a, vI b, vI c]] [some ⟨a3s L, 25, false, false⟩] (.tuple #[.agg #[vN X, vN Y, vN Z, vS 1 ((listOf X Y Z (andn (setOf Y Z L) (2 ^ idxN Y Z (A3.mk a b c)))).length)], .bool true]) [some ⟨a3s L, 25, false, false⟩, some ⟨a3s (listOf X Y Z (andn (setOf Y Z L) (2 ^ idxN Y Z (A3.mk a b c)))), 25, false, true⟩] := by
  refine sound_intro (C := cx) Try.func26 rfl (by kernel_rfl) fun hcl => ?_
  have hz := hs.size
  have hx0 := hs.x0
  have hx4 := hs.x4
  have hy0 := hs.y0
  have hy4 := hs.y4
  have hz0 := hs.z0
  have hz4 := hs.z4
  have hlen := hL.len
  have hlt := hL.lt64 hs
  have hidx : idxN Y Z (A3.mk a b c) < 64 := Nat.lt_of_lt_of_le (idx_lt (c := A3.mk a b c) hh) hs.size
  refine cSeq ?_
  refine cReg ?_
  refine segEnd [2, 3, 4] (T1 := (mkT 28 [(2, vP 1 0), (3, vP 2 0), (4, vP 3 0)])) (H1 := [some ⟨a3s L, 25, false, false⟩, rB [vN X, vN Y, vN Z, vS 0 L.length] 29, rB [vI a, vI b, vI c] 25, rB [vI 0, vI 0, vI 0, .slice none 0 0] 29]) (by kernel_rfl) ?_
  refine kSeq ?_
  refine cSeq ?_
  refine cSeq ?_
  refine cReg ?_
  refine seg 2 (T1 := (mkT 28 [(2, vP 1 0), (3, vP 2 0), (4, vP 3 0), (6, .agg #[vN X, vN Y, vN Z, vS 0 L.length]), (7, .agg #[vI a, vI b, vI c])])) (H1 := [some ⟨a3s L, 25, false, false⟩, rB [vN X, vN Y, vN Z, vS 0 L.length] 29, rB [vI a, vI b, vI c] 25, rB [vI 0, vI 0, vI 0, .slice none 0 0] 29]) (by kernel_rfl) ?_
  refine rCall (v := .bool true) (H' := [some ⟨a3s L, 25, false, false⟩, rB [vN X, vN Y, vN Z, vS 0 L.length] 29, rB [vI a, vI b, vI c] 25, rB [vI 0, vI 0, vI 0, .slice none 0 0] 29]) (args := [.agg #[vN X, vN Y, vN Z, vS 0 L.length], .agg #[vI a, vI b, vI c]]) (by kernel_rfl) rfl (by kernel_rfl) (Sound.lay0 [0] (isCellB X Y Z L a b c (by first | assumption | omega | rfl | decide | exact HeapL.list _ _ _ _ | exact HeapL.nil _ _ _ | exact HeapL.all _ _ _ | (apply HeapL.lt64 <;> assumption) | (repeat' (first | assumption | apply or_lt64 | apply and_lt64 | apply andn_lt64 | apply pow_lt64 | (apply HeapL.lt64 <;> assumption)))) (by first | assumption | omega | rfl | decide | exact HeapL.list _ _ _ _ | exact HeapL.nil _ _ _ | exact HeapL.all _ _ _ | (apply HeapL.lt64 <;> assumption) | (repeat' (first | assumption | apply or_lt64 | apply and_lt64 | apply andn_lt64 | apply pow_lt64 | (apply HeapL.lt64 <;> assumption)))) (by first | assumption | omega | rfl | decide | exact HeapL.list _ _ _ _ | exact HeapL.nil _ _ _ | exact HeapL.all _ _ _ | (apply HeapL.lt64 <;> assumption) | (repeat' (first | assumption | apply or_lt64 | apply and_lt64 | apply andn_lt64 | apply pow_lt64 | (apply HeapL.lt64 <;> assumption))))) ⟨rdF false (flatA3 _ _ _ _) rfl rfl, trivial⟩ rfl ⟨clF (flatA3 _ _ _ _), trivial⟩ rfl (by first | rfl | simp [mpV, mpA, mpS, mpP, renId, shift]) rfl) ?_
  refine seg 4 (T1 := (mkT 28 [(2, vP 1 0), (3, vP 2 0), (4, vP 3 0), (6, .agg #[vN X, vN Y, vN Z, vS 0 L.length]), (7, .agg #[vI a, vI b, vI c]), (8, .bool true), (9, .bool false), (10, .bool false), (11, .agg #[vN X, vN Y, vN Z, vS 0 L.length]), (12, .agg #[vI a, vI b, vI c])])) (H1 := [some ⟨a3s L, 25, false, false⟩, rB [vN X, vN Y, vN Z, vS 0 L.length] 29, rB [vI a, vI b, vI c] 25, rB [vI 0, vI 0, vI 0, .slice none 0 0] 29]) (by kernel_rfl) ?_
  refine rCall (v := .bool (hasL L a b c)) (H' := [some ⟨a3s L, 25, false, false⟩, rB [vN X, vN Y, vN Z, vS 0 L.length] 29, rB [vI a, vI b, vI c] 25, rB [vI 0, vI 0, vI 0, .slice none 0 0] 29]) (args := [.agg #[vN X, vN Y, vN Z, vS 0 L.length], .agg #[vI a, vI b, vI c]]) (by kernel_rfl) rfl (by kernel_rfl) (Sound.lay0 [0] (hasCubeB X Y Z L a b c (by first | assumption | omega | rfl | decide | exact HeapL.list _ _ _ _ | exact HeapL.nil _ _ _ | exact HeapL.all _ _ _ | (apply HeapL.lt64 <;> assumption) | (repeat' (first | assumption | apply or_lt64 | apply and_lt64 | apply andn_lt64 | apply pow_lt64 | (apply HeapL.lt64 <;> assumption)))) (by first | assumption | omega | rfl | decide | exact HeapL.list _ _ _ _ | exact HeapL.nil _ _ _ | exact HeapL.all _ _ _ | (apply HeapL.lt64 <;> assumption) | (repeat' (first | assumption | apply or_lt64 | apply and_lt64 | apply andn_lt64 | apply pow_lt64 | (apply HeapL.lt64 <;> assumption)))) (by first | assumption | omega | rfl | decide | exact HeapL.list _ _ _ _ | exact HeapL.nil _ _ _ | exact HeapL.all _ _ _ | (apply HeapL.lt64 <;> assumption) | (repeat' (first | assumption | apply or_lt64 | apply and_lt64 | apply andn_lt64 | apply pow_lt64 | (apply HeapL.lt64 <;> assumption))))) ⟨rdF false (flatA3 _ _ _ _) rfl rfl, trivial⟩ rfl ⟨clF (flatA3 _ _ _ _), trivial⟩ rfl (by first | rfl | simp [mpV, mpA, mpS, mpP, renId, shift]) rfl) ?_
  refine segEnd [2, 3, 4, 15] (T1 := (mkT 28 [(2, vP 1 0), (3, vP 2 0), (4, vP 3 0), (15, .bool (!(hasL L a b c)))])) (H1 := [some ⟨a3s L, 25, false, false⟩, rB [vN X, vN Y, vN Z, vS 0 L.length] 29, rB [vI a, vI b, vI c] 25, rB [vI 0, vI 0, vI 0, .slice none 0 0] 29]) (by kernel_rfl) ?_
  refine kSeq ?_
  cases h1 : (hasL L a b c : Bool)
  ·
    (try simp only [Bool.not_eq_true', Bool.not_eq_false', decide_eq_true_eq, decide_eq_false_iff_not, beq_iff_eq, bne_iff_ne, beq_eq_false_iff_ne, bne_eq_false_iff_eq, ne_eq, Decidable.not_not, Bool.and_eq_true, Bool.and_eq_false_imp, Bool.or_eq_true, Bool.or_eq_false_iff, Bool.not_eq_true, Int.not_lt, Int.not_le, ge_iff_le, gt_iff_lt] at h1)
    exfalso; simp_all
  ·
    (try simp only [Bool.not_eq_true', Bool.not_eq_false', decide_eq_true_eq, decide_eq_false_iff_not, beq_iff_eq, bne_iff_ne, beq_eq_false_iff_ne, bne_eq_false_iff_eq, ne_eq, Decidable.not_not, Bool.and_eq_true, Bool.and_eq_false_imp, Bool.or_eq_true, Bool.or_eq_false_iff, Bool.not_eq_true, Int.not_lt, Int.not_le, ge_iff_le, gt_iff_lt] at h1)
    refine cFalse (by kernel_rfl) ?_
    refine cSkip ?_
    refine kSeq ?_
    refine cSeq ?_
    refine cRegW (N := 5) [⟨[], [], [1]⟩, ⟨[], [], [0]⟩, ⟨[], [], [1]⟩, ⟨[], [], [0]⟩, ⟨[], [], [1]⟩, ⟨[], [], [0]⟩, ⟨[], [], [2]⟩, ⟨[], [], []⟩, ⟨[], [], []⟩, ⟨[], [], []⟩, ⟨[4], [], []⟩, ⟨[], [3], []⟩, ⟨[], [], []⟩] 1 [4] (by rfl) (by rfl) (by kernel_rfl) (by kernel_rfl) (by kernel_rfl) ⟨nmsF (flatA3 _ _ _ _), ⟨nmsX (by kernel_rfl), ⟨nmsX (by kernel_rfl), ⟨nmsX (by kernel_rfl), trivial⟩⟩⟩⟩ ?_
    refine segW 1 (T1 := (mkT 28 [(2, vP 1 0), (3, vP 2 0), (4, vP 3 0), (15, .bool false), (17, .agg #[vN X, vN Y, vN Z, vS 0 L.length])])) (H1 := [some ⟨a3s L, 25, false, false⟩, rB [vN X, vN Y, vN Z, vS 0 L.length] 29, rB [vI a, vI b, vI c] 25, rB [vI 0, vI 0, vI 0, .slice none 0 0] 29, none]) (by kernel_rfl) ?_
    refine rW (m := ⟨[], [], [0]⟩) (v := .agg #[vN X, vN Y, vN Z]) rfl (by kernel_rfl) (stQ (args := [.agg #[vN X, vN Y, vN Z, vS 0 L.length]]) rfl (by kernel_rfl) (Any.lay0 [0] (boxB ((X : Nat) : Int) ((Y : Nat) : Int) ((Z : Nat) : Int) L) ⟨rdF false (flatA3 _ _ _ _) rfl rfl, trivial⟩ rfl ⟨clF (flatA3 _ _ _ _), trivial⟩ rfl (by first | rfl | simp [mpV, mpA, mpS, mpP, renId, shift]) (by first | rfl | simp [mpV, mpA, mpS, mpP, renId, shift])) rfl (by kernel_rfl) (by kernel_rfl)) (by kernel_rfl) nr0 ?_
    refine segW 1 (T1 := (mkT 28 [(2, vP 1 0), (3, vP 2 0), (4, vP 3 0), (15, .bool false), (17, .agg #[vN X, vN Y, vN Z, vS 0 L.length]), (18, .agg #[vN X, vN Y, vN Z]), (19, .agg #[vN X, vN Y, vN Z, vS 0 L.length])])) (H1 := [some ⟨a3s L, 25, false, false⟩, rB [vN X, vN Y, vN Z, vS 0 L.length] 29, rB [vI a, vI b, vI c] 25, rB [vI 0, vI 0, vI 0, .slice none 0 0] 29, none]) (by kernel_rfl) ?_
    refine rW (m := ⟨[], [], [0]⟩) (v := vU (setOf Y Z L)) rfl (by kernel_rfl) (stQ (args := [.agg #[vN X, vN Y, vN Z, vS 0 L.length]]) rfl (by kernel_rfl) (Any.lay0 [0] (cubesB X Y Z L (by first | assumption | omega | rfl | decide | exact HeapL.list _ _ _ _ | exact HeapL.nil _ _ _ | exact HeapL.all _ _ _ | (apply HeapL.lt64 <;> assumption) | (repeat' (first | assumption | apply or_lt64 | apply and_lt64 | apply andn_lt64 | apply pow_lt64 | (apply HeapL.lt64 <;> assumption)))) (by first | assumption | omega | rfl | decide | exact HeapL.list _ _ _ _ | exact HeapL.nil _ _ _ | exact HeapL.all _ _ _ | (apply HeapL.lt64 <;> assumption) | (repeat' (first | assumption | apply or_lt64 | apply and_lt64 | apply andn_lt64 | apply pow_lt64 | (apply HeapL.lt64 <;> assumption))))) ⟨rdF false (flatA3 _ _ _ _) rfl rfl, trivial⟩ rfl ⟨clF (flatA3 _ _ _ _), trivial⟩ rfl (by first | rfl | simp [mpV, mpA, mpS, mpP, renId, shift]) rfl) rfl (by kernel_rfl) (by kernel_rfl)) (by kernel_rfl) nr0 ?_
    refine segW 1 (T1 := (mkT 28 [(2, vP 1 0), (3, vP 2 0), (4, vP 3 0), (15, .bool false), (17, .agg #[vN X, vN Y, vN Z, vS 0 L.length]), (18, .agg #[vN X, vN Y, vN Z]), (19, .agg #[vN X, vN Y, vN Z, vS 0 L.length]), (20, vU (setOf Y Z L)), (21, .agg #[vN X, vN Y, vN Z, vS 0 L.length])])) (H1 := [some ⟨a3s L, 25, false, false⟩, rB [vN X, vN Y, vN Z, vS 0 L.length] 29, rB [vI a, vI b, vI c] 25, rB [vI 0, vI 0, vI 0, .slice none 0 0] 29, none]) (by kernel_rfl) ?_
    refine rW (m := ⟨[], [], [0]⟩) (v := .agg #[vN X, vN Y, vN Z]) rfl (by kernel_rfl) (stQ (args := [.agg #[vN X, vN Y, vN Z, vS 0 L.length]]) rfl (by kernel_rfl) (Any.lay0 [0] (boxB ((X : Nat) : Int) ((Y : Nat) : Int) ((Z : Nat) : Int) L) ⟨rdF false (flatA3 _ _ _ _) rfl rfl, trivial⟩ rfl ⟨clF (flatA3 _ _ _ _), trivial⟩ rfl (by first | rfl | simp [mpV, mpA, mpS, mpP, renId, shift]) (by first | rfl | simp [mpV, mpA, mpS, mpP, renId, shift])) rfl (by kernel_rfl) (by kernel_rfl)) (by kernel_rfl) nr0 ?_
    refine segW 1 (T1 := (mkT 28 [(2, vP 1 0), (3, vP 2 0), (4, vP 3 0), (15, .bool false), (17, .agg #[vN X, vN Y, vN Z, vS 0 L.length]), (18, .agg #[vN X, vN Y, vN Z]), (19, .agg #[vN X, vN Y, vN Z, vS 0 L.length]), (20, vU (setOf Y Z L)), (21, .agg #[vN X, vN Y, vN Z, vS 0 L.length]), (22, .agg #[vN X, vN Y, vN Z]), (23, .agg #[vI a, vI b, vI c])])) (H1 := [some ⟨a3s L, 25, false, false⟩, rB [vN X, vN Y, vN Z, vS 0 L.length] 29, rB [vI a, vI b, vI c] 25, rB [vI 0, vI 0, vI 0, .slice none 0 0] 29, none]) (by kernel_rfl) ?_
    refine rW (m := ⟨[], [], []⟩) (v := vN (idxN Y Z (A3.mk a b c))) rfl (by kernel_rfl) (stQ (args := [.agg #[vN X, vN Y, vN Z], .agg #[vI a, vI b, vI c]]) rfl (by kernel_rfl) (Any.lay0 [] (indexB X Y Z a b c (by first | assumption | omega | rfl | decide | exact HeapL.list _ _ _ _ | exact HeapL.nil _ _ _ | exact HeapL.all _ _ _ | (apply HeapL.lt64 <;> assumption) | (repeat' (first | assumption | apply or_lt64 | apply and_lt64 | apply andn_lt64 | apply pow_lt64 | (apply HeapL.lt64 <;> assumption)))) (by first | assumption | omega | rfl | decide | exact HeapL.list _ _ _ _ | exact HeapL.nil _ _ _ | exact HeapL.all _ _ _ | (apply HeapL.lt64 <;> assumption) | (repeat' (first | assumption | apply or_lt64 | apply and_lt64 | apply andn_lt64 | apply pow_lt64 | (apply HeapL.lt64 <;> assumption))))) trivial rfl trivial rfl (by first | rfl | simp [mpV, mpA, mpS, mpP, renId, shift]) rfl) rfl (by kernel_rfl) (by kernel_rfl)) (by kernel_rfl) nr0 ?_
    refine rW (m := ⟨[], [], []⟩) (v := vU (2 ^ (idxN Y Z (A3.mk a b c)))) rfl (by kernel_rfl) (stId (eShl (k := .u64) (a := 1) (b := ((idxN Y Z (A3.mk a b c) : Nat) : Int)) (k' := .i64) (c := ((2 ^ (idxN Y Z (A3.mk a b c)) : Nat) : Int)) (by kernel_rfl) (by kernel_rfl) (by omega) (shl1 _ (by omega))) rfl (by kernel_rfl) (by kernel_rfl) (by kernel_rfl)) (by kernel_rfl) nr0 ?_
    refine rW (m := ⟨[], [], []⟩) (v := vU (andn (setOf Y Z L) (2 ^ (idxN Y Z (A3.mk a b c))))) rfl (by kernel_rfl) (stId (eOp (k := .u64) (a := ((setOf Y Z L : Nat) : Int)) (b := ((2 ^ (idxN Y Z (A3.mk a b c)) : Nat) : Int)) (by kernel_rfl) (by kernel_rfl) ⟨by decide, by decide⟩ (andnU (setOf Y Z L) (2 ^ (idxN Y Z (A3.mk a b c))) (by first | assumption | omega | (repeat' (first | assumption | omega | apply or_lt64 | apply and_lt64 | apply andn_lt64 | apply pow_lt64 | (apply HeapL.lt64 <;> assumption)))) (by first | assumption | omega | (repeat' (first | assumption | omega | apply or_lt64 | apply and_lt64 | apply andn_lt64 | apply pow_lt64 | (apply HeapL.lt64 <;> assumption)))))) rfl (by kernel_rfl) (by kernel_rfl) (by kernel_rfl)) (by kernel_rfl) nr0 ?_
    refine rW (m := ⟨[4], [], []⟩) (v := .agg #[vN X, vN Y, vN Z, vS 4 ((listOf X Y Z (andn (setOf Y Z L) (2 ^ (idxN Y Z (A3.mk a b c))))).length)]) rfl (by kernel_rfl) (stN (i := 4) (E := [some ⟨a3s (listOf X Y Z (andn (setOf Y Z L) (2 ^ (idxN Y Z (A3.mk a b c))))), 25, false, true⟩]) (v1 := .agg #[vN X, vN Y, vN Z, vS 5 ((listOf X Y Z (andn (setOf Y Z L) (2 ^ (idxN Y Z (A3.mk a b c))))).length)]) (args := [.agg #[vN X, vN Y, vN Z], vU (andn (setOf Y Z L) (2 ^ (idxN Y Z (A3.mk a b c))))]) rfl (by kernel_rfl) (Any.lay [] (heapB X Y Z (andn (setOf Y Z L) (2 ^ (idxN Y Z (A3.mk a b c)))) (by first | assumption | omega | rfl | decide | exact HeapL.list _ _ _ _ | exact HeapL.nil _ _ _ | exact HeapL.all _ _ _ | (apply HeapL.lt64 <;> assumption) | (repeat' (first | assumption | apply or_lt64 | apply and_lt64 | apply andn_lt64 | apply pow_lt64 | (apply HeapL.lt64 <;> assumption)))) (by first | assumption | omega | rfl | decide | exact HeapL.list _ _ _ _ | exact HeapL.nil _ _ _ | exact HeapL.all _ _ _ | (apply HeapL.lt64 <;> assumption) | (repeat' (first | assumption | apply or_lt64 | apply and_lt64 | apply andn_lt64 | apply pow_lt64 | (apply HeapL.lt64 <;> assumption))))) trivial rfl trivial rfl (by first | rfl | simp [mpV, mpA, mpS, mpP, renId, shift]) (by first | rfl | simp [mpV, mpA, mpS, mpP, renId, shift]) ⟨enF (flatA3 _ _ _ _) (Or.inl rfl), trivial⟩) rfl (by kernel_rfl) (by kernel_rfl) (by kernel_rfl) (by kernel_rfl) (FlatH.cons (flatA3 _ _ _ _) FlatH.nil)) (by kernel_rfl) (NRs.all ⟨nrOf (by rfl) (nmF (flatA3 _ _ _ _)), trivial⟩) ?_
    refine rW (m := ⟨[], [3], []⟩) (v := .tuple #[]) rfl (by kernel_rfl) (stSet (b := 3) (r := ⟨[vN X, vN Y, vN Z, vS 4 ((listOf X Y Z (andn (setOf Y Z L) (2 ^ (idxN Y Z (A3.mk a b c))))).length)], 29, true, true⟩) (by kernel_rfl) rfl (by kernel_rfl) (by kernel_rfl) (by kernel_rfl) (by kernel_rfl) (nmX (by kernel_rfl)) (clX (by kernel_rfl))) (by kernel_rfl) (NRs.all ⟨nrOf (by rfl) (nmX (by kernel_rfl)), trivial⟩) ?_
    refine segEndW [4, 5] (T1 := (mkT 28 [(4, vP 3 0), (5, .bool true)])) (H1 := [some ⟨a3s L, 25, false, false⟩, rB [vN X, vN Y, vN Z, vS 0 L.length] 29, rB [vI a, vI b, vI c] 25, rB [vN X, vN Y, vN Z, vS 4 ((listOf X Y Z (andn (setOf Y Z L) (2 ^ (idxN Y Z (A3.mk a b c))))).length)] 29, some ⟨a3s (listOf X Y Z (andn (setOf Y Z L) (2 ^ (idxN Y Z (A3.mk a b c))))), 25, false, true⟩]) (by kernel_rfl) ?_
    refine kSeq ?_
    refine cRet ?_
    -- end
    exact endF (Or.inr rfl) (l := [.agg #[vN X, vN Y, vN Z, vS 4 ((listOf X Y Z (andn (setOf Y Z L) (2 ^ (idxN Y Z (A3.mk a b c))))).length)], .bool true]) [0, 4] (by kernel_rfl) (by first | rfl | simp [packR, mpV, mpA, mpS, mpP, renId]) ⟨rrF (flatA3 _ _ _ _) rfl, ⟨rrF (flatA3 _ _ _ _) rfl, trivial⟩⟩ rfl rfl
end Go.Proofs.Ytenkiofddpjidaa
