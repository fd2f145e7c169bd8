/- Walks. No condition. -/
import Derived.Test.YtenkiofddpjidaaAmJ3
set_option linter.unusedVariables false
set_option linter.unusedSimpArgs false
namespace Go.Proofs.Ytenkiofddpjidaa
open Go.Am Go.RowKit
set_option maxRecDepth 100000 in
set_option maxHeartbeats 4000000 in
theorem indexA3 (L : List A3) (a : Int) (b : Int) (c : Int) (hl : L.length ≤ 1048576) : Sound Try.prog 101 [vS 0 L.length, .agg #[vI a, vI b, vI c]] [some ⟨a3s L, 25, false, false⟩] (vI (findL L a b c)) [some ⟨a3s L, 25, false, false⟩] := by
  refine sound_intro (C := cx) Try.func101 rfl (by kernel_rfl) fun hcl => ?_
  refine cSeq ?_
  refine cReg ?_
  refine segEnd [0, 3] (T1 := (mkT 19 [(0, vS 0 L.length), (3, vP 1 0)])) (H1 := [some ⟨a3s L, 25, false, false⟩, rB [vI a, vI b, vI c] 25]) (by kernel_rfl) ?_
  refine kSeq ?_
  refine cSeq ?_
  refine cSeq ?_
  refine cReg ?_
  refine segEndH [0, 3, 7, 8] (T1 := (mkT 19 [(0, vS 0 L.length), (3, vP 1 0), (7, vN L.length), (8, vI 0)])) (by kernel_rfl) ?_
  refine kSeq ?_
  refine cBlk ?_
  -- loop
  refine cLoop (fun mm T H => ∃ i : Nat, (i ≤ L.length) ∧ (hasTo L a b c i = false) ∧ mm = L.length - i ∧ T = (mkT 19 [(0, vS 0 L.length), (3, vP 1 0), (7, vN L.length), (8, vN i)]) ∧ H = [some ⟨a3s L, 25, false, false⟩, rB [vI a, vI b, vI c] 25]) (L.length - 0) (mkT 19 [(0, vS 0 L.length), (3, vP 1 0), (7, vN L.length), (8, vI 0)]) [some ⟨a3s L, 25, false, false⟩, rB [vI a, vI b, vI c] 25] (wkSame [0, 3, 7, 8] (by kernel_rfl)) ?_ ?_
  · exact ⟨0, (Nat.zero_le _), (rfl), rfl, rfl, rfl⟩
  · rintro _ _ _ ⟨i, hi, ho, rfl, rfl, rfl⟩
    refine cSeq ?_
    refine cReg ?_
    refine segEndH [0, 3, 7, 8, 9] (T1 := (mkT 19 [(0, vS 0 L.length), (3, vP 1 0), (7, vN L.length), (8, vN i), (9, .bool (decide (((i : Nat) : Int) < ((L.length : Nat) : Int))))])) (by kernel_rfl) ?_
    refine kSeq ?_
    refine cSeq ?_
    cases h1 : (decide (((i : Nat) : Int) < ((L.length : Nat) : Int)) : Bool)
    ·
      have h1k := h1
      (try simp only [Bool.not_eq_true', Bool.not_eq_false', decide_eq_true_eq, decide_eq_false_iff_not, beq_iff_eq, bne_iff_ne, beq_eq_false_iff_ne, bne_eq_false_iff_eq, ne_eq, Decidable.not_not, Bool.and_eq_true, Bool.and_eq_false_imp, Bool.or_eq_true, Bool.or_eq_false_iff, Bool.not_eq_true, Int.not_lt, Int.not_le, ge_iff_le, gt_iff_lt] at h1)
      refine cFalse (by kernel_rfl) ?_
      refine cExit ?_
      refine kSeqE ?_
      refine kLoopE ?_
      refine kBlkHit ?_
      refine kSeq ?_
      refine cSeq ?_
      refine cReg ?_
      refine segEndH [4] (T1 := (mkT 19 [(4, vI (-1))])) (by kernel_rfl) ?_
      refine kSeq ?_
      refine cRet ?_
      -- end
      have he0 : ((-1) : Int) = findL L a b c := by first | exact findL_at (by omega) ho (eqA3r (by assumption)) | exact findL_no (by omega) ho
      refine endCast (v1 := vI (-1)) (H1 := [some ⟨a3s L, 25, false, false⟩]) (by first | rfl | ((try rw [← he0]); done) | (simp only [← he0]; done)) (by first | rfl | ((try rw [← he0]); done) | (simp only [← he0]; done)) ?_
      exact endQ (Or.inr rfl) (l := [vI (-1)]) [rB [vI a, vI b, vI c] 25] (by kernel_rfl) (by first | rfl | kernel_rfl) rfl rfl hcl rfl
    ·
      have h1k := h1
      (try simp only [Bool.not_eq_true', Bool.not_eq_false', decide_eq_true_eq, decide_eq_false_iff_not, beq_iff_eq, bne_iff_ne, beq_eq_false_iff_ne, bne_eq_false_iff_eq, ne_eq, Decidable.not_not, Bool.and_eq_true, Bool.and_eq_false_imp, Bool.or_eq_true, Bool.or_eq_false_iff, Bool.not_eq_true, Int.not_lt, Int.not_le, ge_iff_le, gt_iff_lt] at h1)
      refine cTrue (by kernel_rfl) ?_
      refine cSkip ?_
      refine kSeq ?_
      refine cSeq ?_
      refine cBlk ?_
      refine cSeq ?_
      refine cReg ?_
      refine segEndH [0, 3, 5, 7, 8] (T1 := (mkT 19 [(0, vS 0 L.length), (3, vP 1 0), (5, vN i), (7, vN L.length), (8, vN i)])) (by kernel_rfl) ?_
      refine kSeq ?_
      refine cSeq ?_
      refine cRegW (N := 2) [⟨[], [], [1]⟩, ⟨[], [], []⟩, ⟨[], [], []⟩, ⟨[], [], []⟩, ⟨[], [], [0]⟩, ⟨[], [], []⟩] 0 [] (by rfl) (by rfl) (by kernel_rfl) (by kernel_rfl) (by kernel_rfl) ⟨nmsF (flatA3 _ _ _ _), ⟨nmsX (by kernel_rfl), trivial⟩⟩ ?_
      refine segWH 3 (T1 := (mkT 19 [(0, vS 0 L.length), (3, vP 1 0), (5, vN i), (7, vN L.length), (8, vN i), (11, .agg #[vI a, vI b, vI c]), (12, vS 0 L.length), (13, vN i)])) (by kernel_rfl) ?_
      refine rW (m := ⟨[], [], []⟩) (v := vP 0 (i * 3)) rfl (by kernel_rfl) (stId (eIdxS (ad := ⟨0, 0, none⟩) (n := L.length) (m := 0) (k := .i64) (c := ((i : Nat) : Int)) (j := i) (o := i * 3) (by kernel_rfl) (by kernel_rfl) ti22 ti25 (rfl) (by omega) (by exact Nat.zero_add _)) rfl (by kernel_rfl) (by kernel_rfl) (by kernel_rfl)) (by kernel_rfl) nr0 ?_
      refine rW (m := ⟨[], [], [0]⟩) (v := .agg #[vI ((L.getD i default).x), vI ((L.getD i default).y), vI ((L.getD i default).z)]) rfl (by kernel_rfl) (stId (eLdA3 (ad := ⟨0, i * 3, none⟩) (r := ⟨a3s L, 25, false, false⟩) (L := L) (j := i) (by kernel_rfl) (by kernel_rfl) rfl (by first | rfl | omega) (by omega) ti25) rfl (by kernel_rfl) (by kernel_rfl) (by kernel_rfl)) (by kernel_rfl) nr0 ?_
      refine segEndWH [0, 3, 5, 7, 8, 16] (T1 := (mkT 19 [(0, vS 0 L.length), (3, vP 1 0), (5, vN i), (7, vN L.length), (8, vN i), (16, .bool ((a == (L.getD i default).x) && ((b == (L.getD i default).y) && ((c == (L.getD i default).z) && true))))])) (by kernel_rfl) ?_
      refine kSeq ?_
      cases h2 : (((a == (L.getD i default).x) && ((b == (L.getD i default).y) && ((c == (L.getD i default).z) && true))) : Bool)
      ·
        have h2k := h2
        (try simp only [Bool.not_eq_true', Bool.not_eq_false', decide_eq_true_eq, decide_eq_false_iff_not, beq_iff_eq, bne_iff_ne, beq_eq_false_iff_ne, bne_eq_false_iff_eq, ne_eq, Decidable.not_not, Bool.and_eq_true, Bool.and_eq_false_imp, Bool.or_eq_true, Bool.or_eq_false_iff, Bool.not_eq_true, Int.not_lt, Int.not_le, ge_iff_le, gt_iff_lt] at h2)
        refine cFalse (by kernel_rfl) ?_
        refine cSkip ?_
        refine kBlk ?_
        refine kSeq ?_
        refine cReg ?_
        refine rOp (v := vN (i + 1)) (by kernel_rfl) (eAdd (k := .i64) (a := ((i : Nat) : Int)) (b := 1) (c := ((i + 1 : Nat) : Int)) (by kernel_rfl) (by kernel_rfl) (wr64 (by omega) (by omega) (by omega))) ?_
        refine segEndH [0, 3, 7, 8] (T1 := (mkT 19 [(0, vS 0 L.length), (3, vP 1 0), (7, vN L.length), (8, vN (i + 1))])) (by kernel_rfl) ?_
        exact kLoop (L.length - (i + 1)) (mkT 19 [(0, vS 0 L.length), (3, vP 1 0), (7, vN L.length), (8, vN (i + 1))]) [some ⟨a3s L, 25, false, false⟩, rB [vI a, vI b, vI c] 25] (by omega) (wkSame [0, 3, 7, 8] (by kernel_rfl)) ⟨(i + 1), (by omega), (has_next (by omega) ho (by assumption)), rfl, rfl, rfl⟩
      ·
        have h2k := h2
        (try simp only [Bool.not_eq_true', Bool.not_eq_false', decide_eq_true_eq, decide_eq_false_iff_not, beq_iff_eq, bne_iff_ne, beq_eq_false_iff_ne, bne_eq_false_iff_eq, ne_eq, Decidable.not_not, Bool.and_eq_true, Bool.and_eq_false_imp, Bool.or_eq_true, Bool.or_eq_false_iff, Bool.not_eq_true, Int.not_lt, Int.not_le, ge_iff_le, gt_iff_lt] at h2)
        refine cTrue (by kernel_rfl) ?_
        refine cSeq ?_
        refine cReg ?_
        refine segEndH [4] (T1 := (mkT 19 [(4, vN i)])) (by kernel_rfl) ?_
        refine kSeq ?_
        refine cRet ?_
        refine kBlkR ?_
        refine kSeqR ?_
        refine kLoopR ?_
        refine kBlkR ?_
        refine kSeqR ?_
        -- end
        have he0 : (((i : Nat) : Int) : Int) = findL L a b c := by first | exact findL_at (by omega) ho (eqA3r (by assumption)) | exact findL_no (by omega) ho
        refine endCast (v1 := vN i) (H1 := [some ⟨a3s L, 25, false, false⟩]) (by first | rfl | ((try rw [← he0]); done) | (simp only [← he0]; done)) (by first | rfl | ((try rw [← he0]); done) | (simp only [← he0]; done)) ?_
        exact endQ (Or.inr rfl) (l := [vN i]) [rB [vI a, vI b, vI c] 25] (by kernel_rfl) (by first | rfl | kernel_rfl) rfl rfl hcl rfl

set_option maxRecDepth 100000 in
set_option maxHeartbeats 4000000 in
theorem containsA3 (L : List A3) (a : Int) (b : Int) (c : Int) (hl : L.length ≤ 1048576) : Sound Try.prog 75 [vS 0 L.length, .agg #[vI a, vI b, vI c]] [some ⟨a3s L, 25, false, false⟩] (.bool (hasL L a b c)) [some ⟨a3s L, 25, false, false⟩] := by
  refine sound_intro (C := cx) Try.func75 rfl (by kernel_rfl) fun hcl => ?_
  refine cSeq ?_
  refine cReg ?_
  refine segEnd [0, 3] (T1 := (mkT 9 [(0, vS 0 L.length), (3, vP 1 0)])) (H1 := [some ⟨a3s L, 25, false, false⟩, rB [vI a, vI b, vI c] 25]) (by kernel_rfl) ?_
  refine kSeq ?_
  refine cSeq ?_
  refine cReg ?_
  refine segH 2 (T1 := (mkT 9 [(0, vS 0 L.length), (3, vP 1 0), (5, vS 0 L.length), (6, .agg #[vI a, vI b, vI c])])) (by kernel_rfl) ?_
  refine rCall (v := vI (findL L a b c)) (args := [vS 0 L.length, .agg #[vI a, vI b, vI c]]) (by kernel_rfl) rfl (by kernel_rfl) (Sound.lay0 [0] (indexA3 L a b c (by first | omega | assumption)) ⟨rdF false (flatA3 _ _ _ _) rfl rfl, trivial⟩ rfl ⟨clF (flatA3 _ _ _ _), trivial⟩ rfl (by first | rfl | simp [mpV, mpA, mpS, mpP, renId, shift]) rfl) ?_
  refine segEndH [4] (T1 := (mkT 9 [(4, .bool (decide (findL L a b c ≥ 0)))])) (by kernel_rfl) ?_
  refine kSeq ?_
  refine cRet ?_
  -- end
  have he0 : (decide (findL L a b c ≥ 0) : Bool) = hasL L a b c := by exact findL_ge L a b c
  refine endCast (v1 := .bool (decide (findL L a b c ≥ 0))) (H1 := [some ⟨a3s L, 25, false, false⟩]) (by first | rfl | ((try rw [← he0]); done) | (simp only [← he0]; done)) (by first | rfl | ((try rw [← he0]); done) | (simp only [← he0]; done)) ?_
  exact endQ (Or.inr rfl) (l := [.bool (decide (findL L a b c ≥ 0))]) [rB [vI a, vI b, vI c] 25] (by kernel_rfl) (by first | rfl | kernel_rfl) rfl rfl hcl rfl

set_option maxRecDepth 100000 in
set_option maxHeartbeats 4000000 in
theorem specLooseBottom_no (x : Int) (y : Int) (z : Int) (L : List A3) (hl : L.length ≤ 1048576) (hv : isHeapB x y z L = false) : Sound Try.prog 38 [.agg #[vI x, vI y, vI z, vS 0 L.length]] [some ⟨a3s L, 25, false, false⟩] (.tuple #[vI 0, .bool false]) [some ⟨a3s L, 25, false, false⟩] := by
  refine sound_intro (C := cx) Try.func38 rfl (by kernel_rfl) fun hcl => ?_
  refine cSeq ?_
  refine cReg ?_
  refine segEnd [1] (T1 := (mkT 38 [(1, vP 1 0)])) (H1 := [some ⟨a3s L, 25, false, false⟩, rB [vI x, vI y, vI z, vS 0 L.length] 29]) (by kernel_rfl) ?_
  refine kSeq ?_
  refine cSeq ?_
  refine cSeq ?_
  refine cReg ?_
  refine segH 1 (T1 := (mkT 38 [(1, vP 1 0), (7, .agg #[vI x, vI y, vI z, vS 0 L.length])])) (by kernel_rfl) ?_
  refine rCall (v := .bool false) (args := [.agg #[vI x, vI y, vI z, vS 0 L.length]]) (by kernel_rfl) rfl (by kernel_rfl) (Sound.lay0 [0] (l2HeapB_no x y z L (by first | assumption | omega | rfl | decide | exact HeapL.list _ _ _ _ | exact HeapL.nil _ _ _ | exact HeapL.all _ _ _ | (apply HeapL.lt64 <;> assumption) | (repeat' (first | assumption | apply or_lt64 | apply and_lt64 | apply andn_lt64 | apply pow_lt64 | (apply HeapL.lt64 <;> assumption)))) (by first | assumption | omega | rfl | decide | exact HeapL.list _ _ _ _ | exact HeapL.nil _ _ _ | exact HeapL.all _ _ _ | (apply HeapL.lt64 <;> assumption) | (repeat' (first | assumption | apply or_lt64 | apply and_lt64 | apply andn_lt64 | apply pow_lt64 | (apply HeapL.lt64 <;> assumption))))) ⟨rdF false (flatA3 _ _ _ _) rfl rfl, trivial⟩ rfl ⟨clF (flatA3 _ _ _ _), trivial⟩ rfl (by first | rfl | simp [mpV, mpA, mpS, mpP, renId, shift]) rfl) ?_
  refine segEndH [1, 9] (T1 := (mkT 38 [(1, vP 1 0), (9, .bool true)])) (by kernel_rfl) ?_
  refine kSeq ?_
  refine cTrue (by kernel_rfl) ?_
  refine cSeq ?_
  refine cReg ?_
  refine segEndH [2, 3] (T1 := (mkT 38 [(2, vI 0), (3, .bool false)])) (by kernel_rfl) ?_
  refine kSeq ?_
  refine cRet ?_
  refine kSeqR ?_
  -- end
  exact endQ (Or.inr rfl) (l := [vI 0, .bool false]) [rB [vI x, vI y, vI z, vS 0 L.length] 29] (by kernel_rfl) (by first | rfl | kernel_rfl) rfl rfl hcl rfl

set_option maxRecDepth 100000 in
set_option maxHeartbeats 4000000 in
theorem specLooseBottom_yes (X : Nat) (Y : Nat) (Z : Nat) (L : List A3) (hs : Sides X Y Z) (hL : HeapL X Y Z L) : Sound Try.prog 38 [.agg #[vN X, vN Y, vN Z, vS 0 L.length]] [some ⟨a3s L, 25, false, false⟩] (.tuple #[vN (L.countP (looseQ L)), .bool true]) [some ⟨a3s L, 25, false, false⟩] := by
  refine sound_intro (C := cx) Try.func38 rfl (by kernel_rfl) fun hcl => ?_
  have hz := hs.size
  have hx0 := hs.x0
  have hx4 := hs.x4
  have hy0 := hs.y0
  have hy4 := hs.y4
  have hz0 := hs.z0
  have hz4 := hs.z4
  have hlen := hL.len
  have hlt := hL.lt64 hs
  have hsm := hL.small hs
  refine cSeq ?_
  refine cReg ?_
  refine segEnd [1] (T1 := (mkT 38 [(1, vP 1 0)])) (H1 := [some ⟨a3s L, 25, false, false⟩, rB [vN X, vN Y, vN Z, vS 0 L.length] 29]) (by kernel_rfl) ?_
  refine kSeq ?_
  refine cSeq ?_
  refine cSeq ?_
  refine cReg ?_
  refine segH 1 (T1 := (mkT 38 [(1, vP 1 0), (7, .agg #[vN X, vN Y, vN Z, vS 0 L.length])])) (by kernel_rfl) ?_
  refine rCall (v := .bool true) (args := [.agg #[vN X, vN Y, vN Z, vS 0 L.length]]) (by kernel_rfl) rfl (by kernel_rfl) (Sound.lay0 [0] (l2HeapB X Y Z L (by first | assumption | omega | rfl | decide | exact HeapL.list _ _ _ _ | exact HeapL.nil _ _ _ | exact HeapL.all _ _ _ | (apply HeapL.lt64 <;> assumption) | (repeat' (first | assumption | apply or_lt64 | apply and_lt64 | apply andn_lt64 | apply pow_lt64 | (apply HeapL.lt64 <;> assumption)))) (by first | assumption | omega | rfl | decide | exact HeapL.list _ _ _ _ | exact HeapL.nil _ _ _ | exact HeapL.all _ _ _ | (apply HeapL.lt64 <;> assumption) | (repeat' (first | assumption | apply or_lt64 | apply and_lt64 | apply andn_lt64 | apply pow_lt64 | (apply HeapL.lt64 <;> assumption))))) ⟨rdF false (flatA3 _ _ _ _) rfl rfl, trivial⟩ rfl ⟨clF (flatA3 _ _ _ _), trivial⟩ rfl (by first | rfl | simp [mpV, mpA, mpS, mpP, renId, shift]) rfl) ?_
  refine segEndH [1, 9] (T1 := (mkT 38 [(1, vP 1 0), (9, .bool false)])) (by kernel_rfl) ?_
  refine kSeq ?_
  refine cFalse (by kernel_rfl) ?_
  refine cSkip ?_
  refine kSeq ?_
  refine cSeq ?_
  refine cReg ?_
  refine segEndH [1, 4] (T1 := (mkT 38 [(1, vP 1 0), (4, vI 0)])) (by kernel_rfl) ?_
  refine kSeq ?_
  refine cSeq ?_
  refine cSeq ?_
  refine cReg ?_
  refine segEndH [1, 4, 5] (T1 := (mkT 38 [(1, vP 1 0), (4, vI 0), (5, vI 0)])) (by kernel_rfl) ?_
  refine kSeq ?_
  refine cBlk ?_
  -- loop
  refine cLoop (fun mm T H => ∃ i : Nat, ∃ n : Nat, (i ≤ L.length) ∧ (n = (L.take i).countP (looseQ L)) ∧ (n ≤ i) ∧ mm = L.length - i ∧ T = (mkT 38 [(1, vP 1 0), (4, vN n), (5, vN i)]) ∧ H = [some ⟨a3s L, 25, false, false⟩, rB [vN X, vN Y, vN Z, vS 0 L.length] 29]) (L.length - 0) (mkT 38 [(1, vP 1 0), (4, vI 0), (5, vI 0)]) [some ⟨a3s L, 25, false, false⟩, rB [vN X, vN Y, vN Z, vS 0 L.length] 29] (wkSame [1, 4, 5] (by kernel_rfl)) ?_ ?_
  · exact ⟨0, 0, (Nat.zero_le _), (by simp), (Nat.zero_le _), rfl, rfl, rfl⟩
  · rintro _ _ _ ⟨i, n, hi, hn, hni, rfl, rfl, rfl⟩
    refine cSeq ?_
    refine cSeq ?_
    refine cReg ?_
    refine segEndH [1, 4, 5, 14] (T1 := (mkT 38 [(1, vP 1 0), (4, vN n), (5, vN i), (14, .bool (decide (((i : Nat) : Int) < ((L.length : Nat) : Int))))])) (by kernel_rfl) ?_
    refine kSeq ?_
    cases h1 : (decide (((i : Nat) : Int) < ((L.length : Nat) : Int)) : Bool)
    ·
      (try simp only [Bool.not_eq_true', Bool.not_eq_false', decide_eq_true_eq, decide_eq_false_iff_not, beq_iff_eq, bne_iff_ne, beq_eq_false_iff_ne, bne_eq_false_iff_eq, ne_eq, Decidable.not_not, Bool.and_eq_true, Bool.and_eq_false_imp, Bool.or_eq_true, Bool.or_eq_false_iff, Bool.not_eq_true, Int.not_lt, Int.not_le, ge_iff_le, gt_iff_lt] at h1)
      refine cFalse (by kernel_rfl) ?_
      refine cExit ?_
      refine kSeqE ?_
      refine kLoopE ?_
      refine kBlkHit ?_
      refine kSeq ?_
      refine cSeq ?_
      refine cReg ?_
      refine segEndH [2, 3] (T1 := (mkT 38 [(2, vN n), (3, .bool true)])) (by kernel_rfl) ?_
      refine kSeq ?_
      refine cRet ?_
      -- end
      have he0 : (n : Nat) = L.countP (looseQ L) := by (rw [hn, show i = L.length by omega, List.take_length])
      refine endCast (v1 := .tuple #[vN n, .bool true]) (H1 := [some ⟨a3s L, 25, false, false⟩]) (by first | rfl | ((try rw [← he0]); done) | (simp only [← he0]; done)) (by first | rfl | ((try rw [← he0]); done) | (simp only [← he0]; done)) ?_
      exact endQ (Or.inr rfl) (l := [vN n, .bool true]) [rB [vN X, vN Y, vN Z, vS 0 L.length] 29] (by kernel_rfl) (by first | rfl | kernel_rfl) rfl rfl hcl rfl
    ·
      (try simp only [Bool.not_eq_true', Bool.not_eq_false', decide_eq_true_eq, decide_eq_false_iff_not, beq_iff_eq, bne_iff_ne, beq_eq_false_iff_ne, bne_eq_false_iff_eq, ne_eq, Decidable.not_not, Bool.and_eq_true, Bool.and_eq_false_imp, Bool.or_eq_true, Bool.or_eq_false_iff, Bool.not_eq_true, Int.not_lt, Int.not_le, ge_iff_le, gt_iff_lt] at h1)
      have hc0 := hsm.at (i := i) (by omega)
      refine cTrue (by kernel_rfl) ?_
      refine cSkip ?_
      refine kSeq ?_
      refine cSeq ?_
      refine cBlk ?_
      refine cSeq ?_
      refine cReg ?_
      refine segH 3 (T1 := (mkT 38 [(1, vP 1 0), (4, vN n), (5, vN i), (14, .bool true), (17, vP 1 3), (18, vS 0 L.length), (19, vN i)])) (by kernel_rfl) ?_
      refine rOp (v := vP 0 (i * 3)) (by kernel_rfl) (eIdxS (ad := ⟨0, 0, none⟩) (n := L.length) (m := 0) (k := .i64) (c := ((i : Nat) : Int)) (j := i) (o := i * 3) (by kernel_rfl) (by kernel_rfl) ti22 ti25 (rfl) (by omega) (by exact Nat.zero_add _)) ?_
      refine rOp (v := .agg #[vI ((L.getD i default).x), vI ((L.getD i default).y), vI ((L.getD i default).z)]) (by kernel_rfl) (eLdA3 (ad := ⟨0, i * 3, none⟩) (r := ⟨a3s L, 25, false, false⟩) (L := L) (j := i) (by kernel_rfl) (by kernel_rfl) rfl (by first | rfl | omega) (by omega) ti25) ?_
      refine segEnd [1, 4, 5, 6] (T1 := (mkT 38 [(1, vP 1 0), (4, vN n), (5, vN i), (6, vP 2 0)])) (H1 := [some ⟨a3s L, 25, false, false⟩, rB [vN X, vN Y, vN Z, vS 0 L.length] 29, rB [vI ((L.getD i default).x), vI ((L.getD i default).y), vI ((L.getD i default).z)] 25]) (by kernel_rfl) ?_
      refine kSeq ?_
      refine cSeq ?_
      refine cReg ?_
      refine segH 2 (T1 := (mkT 38 [(1, vP 1 0), (4, vN n), (5, vN i), (6, vP 2 0), (22, vP 2 2), (23, vI ((L.getD i default).z))])) (by kernel_rfl) ?_
      refine rOp (v := vI ((L.getD i default).z - 1)) (by kernel_rfl) (eSub (k := .i64) (a := ((L.getD i default).z)) (b := 1) (c := ((L.getD i default).z - 1)) (by kernel_rfl) (by kernel_rfl) (wr64 (by omega) (by omega) (by omega))) ?_
      refine segEnd [1, 4, 5, 6] (T1 := (mkT 38 [(1, vP 1 0), (4, vN n), (5, vN i), (6, vP 2 0)])) (H1 := [some ⟨a3s L, 25, false, false⟩, rB [vN X, vN Y, vN Z, vS 0 L.length] 29, rB [vI ((L.getD i default).x), vI ((L.getD i default).y), vI ((L.getD i default).z - 1)] 25]) (by kernel_rfl) ?_
      refine kSeq ?_
      refine cSeq ?_
      refine cReg ?_
      refine segH 4 (T1 := (mkT 38 [(1, vP 1 0), (4, vN n), (5, vN i), (6, vP 2 0), (26, vP 2 2), (27, vI ((L.getD i default).z - 1)), (28, .bool (decide ((L.getD i default).z - 1 ≥ 0))), (29, .bool (decide ((L.getD i default).z - 1 ≥ 0)))])) (by kernel_rfl) ?_
      cases h2 : (decide ((L.getD i default).z - 1 ≥ 0) : Bool)
      ·
        (try simp only [Bool.not_eq_true', Bool.not_eq_false', decide_eq_true_eq, decide_eq_false_iff_not, beq_iff_eq, bne_iff_ne, beq_eq_false_iff_ne, bne_eq_false_iff_eq, ne_eq, Decidable.not_not, Bool.and_eq_true, Bool.and_eq_false_imp, Bool.or_eq_true, Bool.or_eq_false_iff, Bool.not_eq_true, Int.not_lt, Int.not_le, ge_iff_le, gt_iff_lt] at h2)
        refine segEnd [1, 4, 5, 34] (T1 := (mkT 38 [(1, vP 1 0), (4, vN n), (5, vN i), (34, .bool false)])) (H1 := [some ⟨a3s L, 25, false, false⟩, rB [vN X, vN Y, vN Z, vS 0 L.length] 29, rB [vI ((L.getD i default).x), vI ((L.getD i default).y), vI ((L.getD i default).z - 1)] 25]) (by kernel_rfl) ?_
        refine kSeq ?_
        refine cFalse (by kernel_rfl) ?_
        refine cSkip ?_
        refine kBlk ?_
        refine kSeq ?_
        refine cReg ?_
        refine segH 1 (T1 := (mkT 38 [(1, vP 1 0), (4, vN n), (5, vN i), (15, vN i), (34, .bool false)])) (by kernel_rfl) ?_
        refine rOp (v := vN (i + 1)) (by kernel_rfl) (eAdd (k := .i64) (a := ((i : Nat) : Int)) (b := 1) (c := ((i + 1 : Nat) : Int)) (by kernel_rfl) (by kernel_rfl) (wr64 (by omega) (by omega) (by omega))) ?_
        refine segEndH [1, 4, 5] (T1 := (mkT 38 [(1, vP 1 0), (4, vN n), (5, vN (i + 1))])) (by kernel_rfl) ?_
        exact kLoop (L.length - (i + 1)) (mkT 38 [(1, vP 1 0), (4, vN n), (5, vN (i + 1))]) [some ⟨a3s L, 25, false, false⟩, rB [vN X, vN Y, vN Z, vS 0 L.length] 29] (by omega) (wkDrop [1, 4, 5] _ rfl rfl ((closedL ⟨clF (flatA3 _ _ _ _), ⟨clX rfl, trivial⟩⟩)) (by kernel_rfl) rfl) ⟨(i + 1), n, (by omega), (by first | (rw [hn]; exact count_take_yes (by omega) (looseQ_t (by omega) (by assumption))) | (rw [hn]; exact count_take_no (by omega) (looseQ_f2 (by assumption))) | (rw [hn]; exact count_take_no (by omega) (looseQ_f1 (by omega)))), (by omega), rfl, rfl, rfl⟩
      ·
        (try simp only [Bool.not_eq_true', Bool.not_eq_false', decide_eq_true_eq, decide_eq_false_iff_not, beq_iff_eq, bne_iff_ne, beq_eq_false_iff_ne, bne_eq_false_iff_eq, ne_eq, Decidable.not_not, Bool.and_eq_true, Bool.and_eq_false_imp, Bool.or_eq_true, Bool.or_eq_false_iff, Bool.not_eq_true, Int.not_lt, Int.not_le, ge_iff_le, gt_iff_lt] at h2)
        refine seg 2 (T1 := (mkT 38 [(1, vP 1 0), (4, vN n), (5, vN i), (6, vP 2 0), (26, vP 2 2), (27, vI ((L.getD i default).z - 1)), (28, .bool true), (29, .bool true), (30, .agg #[vN X, vN Y, vN Z, vS 0 L.length]), (31, .agg #[vI ((L.getD i default).x), vI ((L.getD i default).y), vI ((L.getD i default).z - 1)])])) (H1 := [some ⟨a3s L, 25, false, false⟩, rB [vN X, vN Y, vN Z, vS 0 L.length] 29, rB [vI ((L.getD i default).x), vI ((L.getD i default).y), vI ((L.getD i default).z - 1)] 25]) (by kernel_rfl) ?_
        refine rCall (v := .bool (hasL L ((L.getD i default).x) ((L.getD i default).y) ((L.getD i default).z - 1))) (args := [.agg #[vN X, vN Y, vN Z, vS 0 L.length], .agg #[vI ((L.getD i default).x), vI ((L.getD i default).y), vI ((L.getD i default).z - 1)]]) (by kernel_rfl) rfl (by kernel_rfl) (Sound.lay0 [0] (l2HasB X Y Z L ((L.getD i default).x) ((L.getD i default).y) ((L.getD i default).z - 1) (by first | assumption | omega | rfl | decide | exact HeapL.list _ _ _ _ | exact HeapL.nil _ _ _ | exact HeapL.all _ _ _ | (apply HeapL.lt64 <;> assumption) | (repeat' (first | assumption | apply or_lt64 | apply and_lt64 | apply andn_lt64 | apply pow_lt64 | (apply HeapL.lt64 <;> assumption)))) (by first | assumption | omega | rfl | decide | exact HeapL.list _ _ _ _ | exact HeapL.nil _ _ _ | exact HeapL.all _ _ _ | (apply HeapL.lt64 <;> assumption) | (repeat' (first | assumption | apply or_lt64 | apply and_lt64 | apply andn_lt64 | apply pow_lt64 | (apply HeapL.lt64 <;> assumption))))) ⟨rdF false (flatA3 _ _ _ _) rfl rfl, trivial⟩ rfl ⟨clF (flatA3 _ _ _ _), trivial⟩ rfl (by first | rfl | simp [mpV, mpA, mpS, mpP, renId, shift]) rfl) ?_
        refine segEnd [1, 4, 5, 34] (T1 := (mkT 38 [(1, vP 1 0), (4, vN n), (5, vN i), (34, .bool (!(hasL L ((L.getD i default).x) ((L.getD i default).y) ((L.getD i default).z - 1))))])) (H1 := [some ⟨a3s L, 25, false, false⟩, rB [vN X, vN Y, vN Z, vS 0 L.length] 29, rB [vI ((L.getD i default).x), vI ((L.getD i default).y), vI ((L.getD i default).z - 1)] 25]) (by kernel_rfl) ?_
        refine kSeq ?_
        cases h3 : (hasL L ((L.getD i default).x) ((L.getD i default).y) ((L.getD i default).z - 1) : Bool)
        ·
          (try simp only [Bool.not_eq_true', Bool.not_eq_false', decide_eq_true_eq, decide_eq_false_iff_not, beq_iff_eq, bne_iff_ne, beq_eq_false_iff_ne, bne_eq_false_iff_eq, ne_eq, Decidable.not_not, Bool.and_eq_true, Bool.and_eq_false_imp, Bool.or_eq_true, Bool.or_eq_false_iff, Bool.not_eq_true, Int.not_lt, Int.not_le, ge_iff_le, gt_iff_lt] at h3)
          refine cTrue (by kernel_rfl) ?_
          refine cReg ?_
          refine segH 1 (T1 := (mkT 38 [(1, vP 1 0), (4, vN n), (5, vN i), (34, .bool true), (35, vN n)])) (by kernel_rfl) ?_
          refine rOp (v := vN (n + 1)) (by kernel_rfl) (eAdd (k := .i64) (a := ((n : Nat) : Int)) (b := 1) (c := ((n + 1 : Nat) : Int)) (by kernel_rfl) (by kernel_rfl) (wr64 (by omega) (by omega) (by omega))) ?_
          refine segEndH [1, 4, 5] (T1 := (mkT 38 [(1, vP 1 0), (4, vN (n + 1)), (5, vN i)])) (by kernel_rfl) ?_
          refine kBlk ?_
          refine kSeq ?_
          refine cReg ?_
          refine segH 1 (T1 := (mkT 38 [(1, vP 1 0), (4, vN (n + 1)), (5, vN i), (15, vN i)])) (by kernel_rfl) ?_
          refine rOp (v := vN (i + 1)) (by kernel_rfl) (eAdd (k := .i64) (a := ((i : Nat) : Int)) (b := 1) (c := ((i + 1 : Nat) : Int)) (by kernel_rfl) (by kernel_rfl) (wr64 (by omega) (by omega) (by omega))) ?_
          refine segEndH [1, 4, 5] (T1 := (mkT 38 [(1, vP 1 0), (4, vN (n + 1)), (5, vN (i + 1))])) (by kernel_rfl) ?_
          exact kLoop (L.length - (i + 1)) (mkT 38 [(1, vP 1 0), (4, vN (n + 1)), (5, vN (i + 1))]) [some ⟨a3s L, 25, false, false⟩, rB [vN X, vN Y, vN Z, vS 0 L.length] 29] (by omega) (wkDrop [1, 4, 5] _ rfl rfl ((closedL ⟨clF (flatA3 _ _ _ _), ⟨clX rfl, trivial⟩⟩)) (by kernel_rfl) rfl) ⟨(i + 1), (n + 1), (by omega), (by first | (rw [hn]; exact count_take_yes (by omega) (looseQ_t (by omega) (by assumption))) | (rw [hn]; exact count_take_no (by omega) (looseQ_f2 (by assumption))) | (rw [hn]; exact count_take_no (by omega) (looseQ_f1 (by omega)))), (by omega), rfl, rfl, rfl⟩
        ·
          (try simp only [Bool.not_eq_true', Bool.not_eq_false', decide_eq_true_eq, decide_eq_false_iff_not, beq_iff_eq, bne_iff_ne, beq_eq_false_iff_ne, bne_eq_false_iff_eq, ne_eq, Decidable.not_not, Bool.and_eq_true, Bool.and_eq_false_imp, Bool.or_eq_true, Bool.or_eq_false_iff, Bool.not_eq_true, Int.not_lt, Int.not_le, ge_iff_le, gt_iff_lt] at h3)
          refine cFalse (by kernel_rfl) ?_
          refine cSkip ?_
          refine kBlk ?_
          refine kSeq ?_
          refine cReg ?_
          refine segH 1 (T1 := (mkT 38 [(1, vP 1 0), (4, vN n), (5, vN i), (15, vN i), (34, .bool false)])) (by kernel_rfl) ?_
          refine rOp (v := vN (i + 1)) (by kernel_rfl) (eAdd (k := .i64) (a := ((i : Nat) : Int)) (b := 1) (c := ((i + 1 : Nat) : Int)) (by kernel_rfl) (by kernel_rfl) (wr64 (by omega) (by omega) (by omega))) ?_
          refine segEndH [1, 4, 5] (T1 := (mkT 38 [(1, vP 1 0), (4, vN n), (5, vN (i + 1))])) (by kernel_rfl) ?_
          exact kLoop (L.length - (i + 1)) (mkT 38 [(1, vP 1 0), (4, vN n), (5, vN (i + 1))]) [some ⟨a3s L, 25, false, false⟩, rB [vN X, vN Y, vN Z, vS 0 L.length] 29] (by omega) (wkDrop [1, 4, 5] _ rfl rfl ((closedL ⟨clF (flatA3 _ _ _ _), ⟨clX rfl, trivial⟩⟩)) (by kernel_rfl) rfl) ⟨(i + 1), n, (by omega), (by first | (rw [hn]; exact count_take_yes (by omega) (looseQ_t (by omega) (by assumption))) | (rw [hn]; exact count_take_no (by omega) (looseQ_f2 (by assumption))) | (rw [hn]; exact count_take_no (by omega) (looseQ_f1 (by omega)))), (by omega), rfl, rfl, rfl⟩

set_option maxRecDepth 100000 in
set_option maxHeartbeats 4000000 in
theorem implLooseBottom_no (x : Int) (y : Int) (z : Int) (L : List A3) (hl : L.length ≤ 1048576) (hv : isHeapB x y z L = false) : Sound Try.prog 39 [.agg #[vI x, vI y, vI z, vS 0 L.length]] [some ⟨a3s L, 25, false, false⟩] (.tuple #[vI 0, .bool false]) [some ⟨a3s L, 25, false, false⟩] := by
  refine sound_intro (C := cx) Try.func39 rfl (by kernel_rfl) fun hcl => ?_
  refine cSeq ?_
  refine cReg ?_
  refine segEnd [1] (T1 := (mkT 38 [(1, vP 1 0)])) (H1 := [some ⟨a3s L, 25, false, false⟩, rB [vI x, vI y, vI z, vS 0 L.length] 29]) (by kernel_rfl) ?_
  refine kSeq ?_
  refine cSeq ?_
  refine cSeq ?_
  refine cReg ?_
  refine segH 1 (T1 := (mkT 38 [(1, vP 1 0), (7, .agg #[vI x, vI y, vI z, vS 0 L.length])])) (by kernel_rfl) ?_
  refine rCall (v := .bool false) (args := [.agg #[vI x, vI y, vI z, vS 0 L.length]]) (by kernel_rfl) rfl (by kernel_rfl) (Sound.lay0 [0] (isHeapBt_no x y z L (by first | assumption | omega | rfl | decide | exact HeapL.list _ _ _ _ | exact HeapL.nil _ _ _ | exact HeapL.all _ _ _ | (apply HeapL.lt64 <;> assumption) | (repeat' (first | assumption | apply or_lt64 | apply and_lt64 | apply andn_lt64 | apply pow_lt64 | (apply HeapL.lt64 <;> assumption)))) (by first | assumption | omega | rfl | decide | exact HeapL.list _ _ _ _ | exact HeapL.nil _ _ _ | exact HeapL.all _ _ _ | (apply HeapL.lt64 <;> assumption) | (repeat' (first | assumption | apply or_lt64 | apply and_lt64 | apply andn_lt64 | apply pow_lt64 | (apply HeapL.lt64 <;> assumption))))) ⟨rdF false (flatA3 _ _ _ _) rfl rfl, trivial⟩ rfl ⟨clF (flatA3 _ _ _ _), trivial⟩ rfl (by first | rfl | simp [mpV, mpA, mpS, mpP, renId, shift]) rfl) ?_
  refine segEndH [1, 9] (T1 := (mkT 38 [(1, vP 1 0), (9, .bool true)])) (by kernel_rfl) ?_
  refine kSeq ?_
  refine cTrue (by kernel_rfl) ?_
  refine cSeq ?_
  refine cReg ?_
  refine segEndH [2, 3] (T1 := (mkT 38 [(2, vI 0), (3, .bool false)])) (by kernel_rfl) ?_
  refine kSeq ?_
  refine cRet ?_
  refine kSeqR ?_
  -- end
  exact endQ (Or.inr rfl) (l := [vI 0, .bool false]) [rB [vI x, vI y, vI z, vS 0 L.length] 29] (by kernel_rfl) (by first | rfl | kernel_rfl) rfl rfl hcl rfl

set_option maxRecDepth 100000 in
set_option maxHeartbeats 4000000 in
theorem implLooseBottom_yes (X : Nat) (Y : Nat) (Z : Nat) (L : List A3) (hs : Sides X Y Z) (hL : HeapL X Y Z L) : Sound Try.prog 39 [.agg #[vN X, vN Y, vN Z, vS 0 L.length]] [some ⟨a3s L, 25, false, false⟩] (.tuple #[vN (L.countP (looseQ L)), .bool true]) [some ⟨a3s L, 25, false, false⟩] := by
  refine sound_intro (C := cx) Try.func39 rfl (by kernel_rfl) fun hcl => ?_
  have hz := hs.size
  have hx0 := hs.x0
  have hx4 := hs.x4
  have hy0 := hs.y0
  have hy4 := hs.y4
  have hz0 := hs.z0
  have hz4 := hs.z4
  have hlen := hL.len
  have hlt := hL.lt64 hs
  have hsm := hL.small hs
  refine cSeq ?_
  refine cReg ?_
  refine segEnd [1] (T1 := (mkT 38 [(1, vP 1 0)])) (H1 := [some ⟨a3s L, 25, false, false⟩, rB [vN X, vN Y, vN Z, vS 0 L.length] 29]) (by kernel_rfl) ?_
  refine kSeq ?_
  refine cSeq ?_
  refine cSeq ?_
  refine cReg ?_
  refine segH 1 (T1 := (mkT 38 [(1, vP 1 0), (7, .agg #[vN X, vN Y, vN Z, vS 0 L.length])])) (by kernel_rfl) ?_
  refine rCall (v := .bool true) (args := [.agg #[vN X, vN Y, vN Z, vS 0 L.length]]) (by kernel_rfl) rfl (by kernel_rfl) (Sound.lay0 [0] (isHeapBt X Y Z L (by first | assumption | omega | rfl | decide | exact HeapL.list _ _ _ _ | exact HeapL.nil _ _ _ | exact HeapL.all _ _ _ | (apply HeapL.lt64 <;> assumption) | (repeat' (first | assumption | apply or_lt64 | apply and_lt64 | apply andn_lt64 | apply pow_lt64 | (apply HeapL.lt64 <;> assumption)))) (by first | assumption | omega | rfl | decide | exact HeapL.list _ _ _ _ | exact HeapL.nil _ _ _ | exact HeapL.all _ _ _ | (apply HeapL.lt64 <;> assumption) | (repeat' (first | assumption | apply or_lt64 | apply and_lt64 | apply andn_lt64 | apply pow_lt64 | (apply HeapL.lt64 <;> assumption))))) ⟨rdF false (flatA3 _ _ _ _) rfl rfl, trivial⟩ rfl ⟨clF (flatA3 _ _ _ _), trivial⟩ rfl (by first | rfl | simp [mpV, mpA, mpS, mpP, renId, shift]) rfl) ?_
  refine segEndH [1, 9] (T1 := (mkT 38 [(1, vP 1 0), (9, .bool false)])) (by kernel_rfl) ?_
  refine kSeq ?_
  refine cFalse (by kernel_rfl) ?_
  refine cSkip ?_
  refine kSeq ?_
  refine cSeq ?_
  refine cReg ?_
  refine segEndH [1, 4] (T1 := (mkT 38 [(1, vP 1 0), (4, vI 0)])) (by kernel_rfl) ?_
  refine kSeq ?_
  refine cSeq ?_
  refine cSeq ?_
  refine cReg ?_
  refine segEndH [1, 4, 11, 12, 13] (T1 := (mkT 38 [(1, vP 1 0), (4, vI 0), (11, vS 0 L.length), (12, vN L.length), (13, vI 0)])) (by kernel_rfl) ?_
  refine kSeq ?_
  refine cBlk ?_
  -- loop
  refine cLoop (fun mm T H => ∃ i : Nat, ∃ n : Nat, (i ≤ L.length) ∧ (n = (L.take i).countP (looseQ L)) ∧ (n ≤ i) ∧ mm = L.length - i ∧ T = (mkT 38 [(1, vP 1 0), (4, vN n), (11, vS 0 L.length), (12, vN L.length), (13, vN i)]) ∧ H = [some ⟨a3s L, 25, false, false⟩, rB [vN X, vN Y, vN Z, vS 0 L.length] 29]) (L.length - 0) (mkT 38 [(1, vP 1 0), (4, vI 0), (11, vS 0 L.length), (12, vN L.length), (13, vI 0)]) [some ⟨a3s L, 25, false, false⟩, rB [vN X, vN Y, vN Z, vS 0 L.length] 29] (wkSame [1, 4, 11, 12, 13] (by kernel_rfl)) ?_ ?_
  · exact ⟨0, 0, (Nat.zero_le _), (by simp), (Nat.zero_le _), rfl, rfl, rfl⟩
  · rintro _ _ _ ⟨i, n, hi, hn, hni, rfl, rfl, rfl⟩
    refine cSeq ?_
    refine cReg ?_
    refine segEndH [1, 4, 11, 12, 13, 14] (T1 := (mkT 38 [(1, vP 1 0), (4, vN n), (11, vS 0 L.length), (12, vN L.length), (13, vN i), (14, .bool (decide (((i : Nat) : Int) < ((L.length : Nat) : Int))))])) (by kernel_rfl) ?_
    refine kSeq ?_
    refine cSeq ?_
    cases h1 : (decide (((i : Nat) : Int) < ((L.length : Nat) : Int)) : Bool)
    ·
      (try simp only [Bool.not_eq_true', Bool.not_eq_false', decide_eq_true_eq, decide_eq_false_iff_not, beq_iff_eq, bne_iff_ne, beq_eq_false_iff_ne, bne_eq_false_iff_eq, ne_eq, Decidable.not_not, Bool.and_eq_true, Bool.and_eq_false_imp, Bool.or_eq_true, Bool.or_eq_false_iff, Bool.not_eq_true, Int.not_lt, Int.not_le, ge_iff_le, gt_iff_lt] at h1)
      refine cFalse (by kernel_rfl) ?_
      refine cExit ?_
      refine kSeqE ?_
      refine kLoopE ?_
      refine kBlkHit ?_
      refine kSeq ?_
      refine cSeq ?_
      refine cReg ?_
      refine segEndH [2, 3] (T1 := (mkT 38 [(2, vN n), (3, .bool true)])) (by kernel_rfl) ?_
      refine kSeq ?_
      refine cRet ?_
      -- end
      have he0 : (n : Nat) = L.countP (looseQ L) := by (rw [hn, show i = L.length by omega, List.take_length])
      refine endCast (v1 := .tuple #[vN n, .bool true]) (H1 := [some ⟨a3s L, 25, false, false⟩]) (by first | rfl | ((try rw [← he0]); done) | (simp only [← he0]; done)) (by first | rfl | ((try rw [← he0]); done) | (simp only [← he0]; done)) ?_
      exact endQ (Or.inr rfl) (l := [vN n, .bool true]) [rB [vN X, vN Y, vN Z, vS 0 L.length] 29] (by kernel_rfl) (by first | rfl | kernel_rfl) rfl rfl hcl rfl
    ·
      (try simp only [Bool.not_eq_true', Bool.not_eq_false', decide_eq_true_eq, decide_eq_false_iff_not, beq_iff_eq, bne_iff_ne, beq_eq_false_iff_ne, bne_eq_false_iff_eq, ne_eq, Decidable.not_not, Bool.and_eq_true, Bool.and_eq_false_imp, Bool.or_eq_true, Bool.or_eq_false_iff, Bool.not_eq_true, Int.not_lt, Int.not_le, ge_iff_le, gt_iff_lt] at h1)
      have hc0 := hsm.at (i := i) (by omega)
      refine cTrue (by kernel_rfl) ?_
      refine cSkip ?_
      refine kSeq ?_
      refine cSeq ?_
      refine cBlk ?_
      refine cSeq ?_
      refine cReg ?_
      refine rOp (v := vP 0 (i * 3)) (by kernel_rfl) (eIdxS (ad := ⟨0, 0, none⟩) (n := L.length) (m := 0) (k := .i64) (c := ((i : Nat) : Int)) (j := i) (o := i * 3) (by kernel_rfl) (by kernel_rfl) ti22 ti25 (rfl) (by omega) (by exact Nat.zero_add _)) ?_
      refine rOp (v := .agg #[vI ((L.getD i default).x), vI ((L.getD i default).y), vI ((L.getD i default).z)]) (by kernel_rfl) (eLdA3 (ad := ⟨0, i * 3, none⟩) (r := ⟨a3s L, 25, false, false⟩) (L := L) (j := i) (by kernel_rfl) (by kernel_rfl) rfl (by first | rfl | omega) (by omega) ti25) ?_
      refine segEnd [1, 4, 6, 11, 12, 13] (T1 := (mkT 38 [(1, vP 1 0), (4, vN n), (6, vP 2 0), (11, vS 0 L.length), (12, vN L.length), (13, vN i)])) (H1 := [some ⟨a3s L, 25, false, false⟩, rB [vN X, vN Y, vN Z, vS 0 L.length] 29, rB [vI ((L.getD i default).x), vI ((L.getD i default).y), vI ((L.getD i default).z)] 25]) (by kernel_rfl) ?_
      refine kSeq ?_
      refine cSeq ?_
      refine cReg ?_
      refine segH 4 (T1 := (mkT 38 [(1, vP 1 0), (4, vN n), (6, vP 2 0), (11, vS 0 L.length), (12, vN L.length), (13, vN i), (17, vP 2 2), (18, vI ((L.getD i default).z)), (19, .bool (decide ((L.getD i default).z > 0))), (20, .bool (decide ((L.getD i default).z > 0)))])) (by kernel_rfl) ?_
      cases h2 : (decide ((L.getD i default).z > 0) : Bool)
      ·
        (try simp only [Bool.not_eq_true', Bool.not_eq_false', decide_eq_true_eq, decide_eq_false_iff_not, beq_iff_eq, bne_iff_ne, beq_eq_false_iff_ne, bne_eq_false_iff_eq, ne_eq, Decidable.not_not, Bool.and_eq_true, Bool.and_eq_false_imp, Bool.or_eq_true, Bool.or_eq_false_iff, Bool.not_eq_true, Int.not_lt, Int.not_le, ge_iff_le, gt_iff_lt] at h2)
        refine segEnd [1, 4, 11, 12, 13, 33] (T1 := (mkT 38 [(1, vP 1 0), (4, vN n), (11, vS 0 L.length), (12, vN L.length), (13, vN i), (33, .bool false)])) (H1 := [some ⟨a3s L, 25, false, false⟩, rB [vN X, vN Y, vN Z, vS 0 L.length] 29, rB [vI ((L.getD i default).x), vI ((L.getD i default).y), vI ((L.getD i default).z)] 25]) (by kernel_rfl) ?_
        refine kSeq ?_
        refine cFalse (by kernel_rfl) ?_
        refine cSkip ?_
        refine kBlk ?_
        refine kSeq ?_
        refine cReg ?_
        refine rOp (v := vN (i + 1)) (by kernel_rfl) (eAdd (k := .i64) (a := ((i : Nat) : Int)) (b := 1) (c := ((i + 1 : Nat) : Int)) (by kernel_rfl) (by kernel_rfl) (wr64 (by omega) (by omega) (by omega))) ?_
        refine segEndH [1, 4, 11, 12, 13] (T1 := (mkT 38 [(1, vP 1 0), (4, vN n), (11, vS 0 L.length), (12, vN L.length), (13, vN (i + 1))])) (by kernel_rfl) ?_
        exact kLoop (L.length - (i + 1)) (mkT 38 [(1, vP 1 0), (4, vN n), (11, vS 0 L.length), (12, vN L.length), (13, vN (i + 1))]) [some ⟨a3s L, 25, false, false⟩, rB [vN X, vN Y, vN Z, vS 0 L.length] 29] (by omega) (wkDrop [1, 4, 11, 12, 13] _ rfl rfl ((closedL ⟨clF (flatA3 _ _ _ _), ⟨clX rfl, trivial⟩⟩)) (by kernel_rfl) rfl) ⟨(i + 1), n, (by omega), (by first | (rw [hn]; exact count_take_yes (by omega) (looseQ_t (by omega) (by assumption))) | (rw [hn]; exact count_take_no (by omega) (looseQ_f2 (by assumption))) | (rw [hn]; exact count_take_no (by omega) (looseQ_f1 (by omega)))), (by omega), rfl, rfl, rfl⟩
      ·
        (try simp only [Bool.not_eq_true', Bool.not_eq_false', decide_eq_true_eq, decide_eq_false_iff_not, beq_iff_eq, bne_iff_ne, beq_eq_false_iff_ne, bne_eq_false_iff_eq, ne_eq, Decidable.not_not, Bool.and_eq_true, Bool.and_eq_false_imp, Bool.or_eq_true, Bool.or_eq_false_iff, Bool.not_eq_true, Int.not_lt, Int.not_le, ge_iff_le, gt_iff_lt] at h2)
        refine seg 8 (T1 := (mkT 38 [(1, vP 1 0), (4, vN n), (6, vP 2 0), (11, vS 0 L.length), (12, vN L.length), (13, vN i), (17, vP 2 2), (18, vI ((L.getD i default).z)), (19, .bool true), (20, .bool true), (21, vP 1 3), (22, vS 0 L.length), (23, vP 2 0), (24, vI ((L.getD i default).x)), (25, vP 2 1), (26, vI ((L.getD i default).y)), (27, vP 2 2), (28, vI ((L.getD i default).z))])) (H1 := [some ⟨a3s L, 25, false, false⟩, rB [vN X, vN Y, vN Z, vS 0 L.length] 29, rB [vI ((L.getD i default).x), vI ((L.getD i default).y), vI ((L.getD i default).z)] 25]) (by kernel_rfl) ?_
        refine rOp (v := vI ((L.getD i default).z - 1)) (by kernel_rfl) (eSub (k := .i64) (a := ((L.getD i default).z)) (b := 1) (c := ((L.getD i default).z - 1)) (by kernel_rfl) (by kernel_rfl) (wr64 (by omega) (by omega) (by omega))) ?_
        refine seg 1 (T1 := (mkT 38 [(1, vP 1 0), (4, vN n), (6, vP 2 0), (11, vS 0 L.length), (12, vN L.length), (13, vN i), (17, vP 2 2), (18, vI ((L.getD i default).z)), (19, .bool true), (20, .bool true), (21, vP 1 3), (22, vS 0 L.length), (23, vP 2 0), (24, vI ((L.getD i default).x)), (25, vP 2 1), (26, vI ((L.getD i default).y)), (27, vP 2 2), (28, vI ((L.getD i default).z)), (29, vI ((L.getD i default).z - 1)), (30, .agg #[vI ((L.getD i default).x), vI ((L.getD i default).y), vI ((L.getD i default).z - 1)])])) (H1 := [some ⟨a3s L, 25, false, false⟩, rB [vN X, vN Y, vN Z, vS 0 L.length] 29, rB [vI ((L.getD i default).x), vI ((L.getD i default).y), vI ((L.getD i default).z)] 25]) (by kernel_rfl) ?_
        refine rCall (v := .bool (hasL L ((L.getD i default).x) ((L.getD i default).y) ((L.getD i default).z - 1))) (args := [vS 0 L.length, .agg #[vI ((L.getD i default).x), vI ((L.getD i default).y), vI ((L.getD i default).z - 1)]]) (by kernel_rfl) rfl (by kernel_rfl) (Sound.lay0 [0] (containsA3 L ((L.getD i default).x) ((L.getD i default).y) ((L.getD i default).z - 1) (by first | omega | assumption)) ⟨rdF false (flatA3 _ _ _ _) rfl rfl, trivial⟩ rfl ⟨clF (flatA3 _ _ _ _), trivial⟩ rfl (by first | rfl | simp [mpV, mpA, mpS, mpP, renId, shift]) rfl) ?_
        refine segEnd [1, 4, 11, 12, 13, 33] (T1 := (mkT 38 [(1, vP 1 0), (4, vN n), (11, vS 0 L.length), (12, vN L.length), (13, vN i), (33, .bool (!(hasL L ((L.getD i default).x) ((L.getD i default).y) ((L.getD i default).z - 1))))])) (H1 := [some ⟨a3s L, 25, false, false⟩, rB [vN X, vN Y, vN Z, vS 0 L.length] 29, rB [vI ((L.getD i default).x), vI ((L.getD i default).y), vI ((L.getD i default).z)] 25]) (by kernel_rfl) ?_
        refine kSeq ?_
        cases h3 : (hasL L ((L.getD i default).x) ((L.getD i default).y) ((L.getD i default).z - 1) : Bool)
        ·
          (try simp only [Bool.not_eq_true', Bool.not_eq_false', decide_eq_true_eq, decide_eq_false_iff_not, beq_iff_eq, bne_iff_ne, beq_eq_false_iff_ne, bne_eq_false_iff_eq, ne_eq, Decidable.not_not, Bool.and_eq_true, Bool.and_eq_false_imp, Bool.or_eq_true, Bool.or_eq_false_iff, Bool.not_eq_true, Int.not_lt, Int.not_le, ge_iff_le, gt_iff_lt] at h3)
          refine cTrue (by kernel_rfl) ?_
          refine cReg ?_
          refine segH 1 (T1 := (mkT 38 [(1, vP 1 0), (4, vN n), (11, vS 0 L.length), (12, vN L.length), (13, vN i), (33, .bool true), (34, vN n)])) (by kernel_rfl) ?_
          refine rOp (v := vN (n + 1)) (by kernel_rfl) (eAdd (k := .i64) (a := ((n : Nat) : Int)) (b := 1) (c := ((n + 1 : Nat) : Int)) (by kernel_rfl) (by kernel_rfl) (wr64 (by omega) (by omega) (by omega))) ?_
          refine segEndH [1, 4, 11, 12, 13] (T1 := (mkT 38 [(1, vP 1 0), (4, vN (n + 1)), (11, vS 0 L.length), (12, vN L.length), (13, vN i)])) (by kernel_rfl) ?_
          refine kBlk ?_
          refine kSeq ?_
          refine cReg ?_
          refine rOp (v := vN (i + 1)) (by kernel_rfl) (eAdd (k := .i64) (a := ((i : Nat) : Int)) (b := 1) (c := ((i + 1 : Nat) : Int)) (by kernel_rfl) (by kernel_rfl) (wr64 (by omega) (by omega) (by omega))) ?_
          refine segEndH [1, 4, 11, 12, 13] (T1 := (mkT 38 [(1, vP 1 0), (4, vN (n + 1)), (11, vS 0 L.length), (12, vN L.length), (13, vN (i + 1))])) (by kernel_rfl) ?_
          exact kLoop (L.length - (i + 1)) (mkT 38 [(1, vP 1 0), (4, vN (n + 1)), (11, vS 0 L.length), (12, vN L.length), (13, vN (i + 1))]) [some ⟨a3s L, 25, false, false⟩, rB [vN X, vN Y, vN Z, vS 0 L.length] 29] (by omega) (wkDrop [1, 4, 11, 12, 13] _ rfl rfl ((closedL ⟨clF (flatA3 _ _ _ _), ⟨clX rfl, trivial⟩⟩)) (by kernel_rfl) rfl) ⟨(i + 1), (n + 1), (by omega), (by first | (rw [hn]; exact count_take_yes (by omega) (looseQ_t (by omega) (by assumption))) | (rw [hn]; exact count_take_no (by omega) (looseQ_f2 (by assumption))) | (rw [hn]; exact count_take_no (by omega) (looseQ_f1 (by omega)))), (by omega), rfl, rfl, rfl⟩
        ·
          (try simp only [Bool.not_eq_true', Bool.not_eq_false', decide_eq_true_eq, decide_eq_false_iff_not, beq_iff_eq, bne_iff_ne, beq_eq_false_iff_ne, bne_eq_false_iff_eq, ne_eq, Decidable.not_not, Bool.and_eq_true, Bool.and_eq_false_imp, Bool.or_eq_true, Bool.or_eq_false_iff, Bool.not_eq_true, Int.not_lt, Int.not_le, ge_iff_le, gt_iff_lt] at h3)
          refine cFalse (by kernel_rfl) ?_
          refine cSkip ?_
          refine kBlk ?_
          refine kSeq ?_
          refine cReg ?_
          refine rOp (v := vN (i + 1)) (by kernel_rfl) (eAdd (k := .i64) (a := ((i : Nat) : Int)) (b := 1) (c := ((i + 1 : Nat) : Int)) (by kernel_rfl) (by kernel_rfl) (wr64 (by omega) (by omega) (by omega))) ?_
          refine segEndH [1, 4, 11, 12, 13] (T1 := (mkT 38 [(1, vP 1 0), (4, vN n), (11, vS 0 L.length), (12, vN L.length), (13, vN (i + 1))])) (by kernel_rfl) ?_
          exact kLoop (L.length - (i + 1)) (mkT 38 [(1, vP 1 0), (4, vN n), (11, vS 0 L.length), (12, vN L.length), (13, vN (i + 1))]) [some ⟨a3s L, 25, false, false⟩, rB [vN X, vN Y, vN Z, vS 0 L.length] 29] (by omega) (wkDrop [1, 4, 11, 12, 13] _ rfl rfl ((closedL ⟨clF (flatA3 _ _ _ _), ⟨clX rfl, trivial⟩⟩)) (by kernel_rfl) rfl) ⟨(i + 1), n, (by omega), (by first | (rw [hn]; exact count_take_yes (by omega) (looseQ_t (by omega) (by assumption))) | (rw [hn]; exact count_take_no (by omega) (looseQ_f2 (by assumption))) | (rw [hn]; exact count_take_no (by omega) (looseQ_f1 (by omega)))), (by omega), rfl, rfl, rfl⟩
end Go.Proofs.Ytenkiofddpjidaa
