/- Walks. No condition. -/
import Derived.Test.YtbheeobnghlckaaAmS4J1
set_option linter.unusedVariables false
set_option linter.unusedSimpArgs false
namespace Go.Proofs.Ytbheeobnghlckaa
open Go.Am Go.RowKit
set_option maxRecDepth 100000 in
set_option maxHeartbeats 4000000 in
theorem belowC (x : Int) (y : Int) (z : Int) (a : Int) (b : Int) (c : Int)  : Sound Try.prog 138 [.agg #[vI x, vI y, vI z], vP 0 0] [some ⟨[vI a, vI b, vI c], 74, true, false⟩] (.bool (belowB (A3.mk x y z) a b c)) [some ⟨[vI a, vI b, vI c], 74, true, false⟩] := by
  refine sound_intro (C := cx) Try.func138 rfl (by kernel_rfl) fun hcl => ?_
  refine cSeq ?_
  refine cReg ?_
  refine segEnd [1, 2] (T1 := (mkT 23 [(1, vP 0 0), (2, vP 1 0)])) (H1 := [some ⟨[vI a, vI b, vI c], 74, true, false⟩, rB [vI x, vI y, vI z] 74]) (by kernel_rfl) ?_
  refine kSeq ?_
  refine cSeq ?_
  refine cReg ?_
  refine segH 6 (T1 := (mkT 23 [(1, vP 0 0), (2, vP 1 0), (4, vP 1 0), (5, vI x), (6, vP 0 0), (7, vI a), (8, .bool (decide (x ≤ a))), (9, .bool (decide (x ≤ a)))])) (by kernel_rfl) ?_
  cases h1 : (decide (x ≤ a) : Bool)
  ·
    have h1k := h1
    (try simp only [Bool.not_eq_true', Bool.not_eq_false', decide_eq_true_eq, decide_eq_false_iff_not, beq_iff_eq, bne_iff_ne, beq_eq_false_iff_ne, bne_eq_false_iff_eq, ne_eq, Decidable.not_not, Bool.and_eq_true, Bool.and_eq_false_imp, Bool.or_eq_true, Bool.or_eq_false_iff, Bool.not_eq_true, Int.not_lt, Int.not_le, ge_iff_le, gt_iff_lt] at h1)
    refine segEnd [3] (T1 := (mkT 23 [(3, .bool false)])) (H1 := [some ⟨[vI a, vI b, vI c], 74, true, false⟩, rB [vI x, vI y, vI z] 74]) (by kernel_rfl) ?_
    refine kSeq ?_
    refine cRet ?_
    -- end
    have he0 : (false : Bool) = belowB (A3.mk x y z) a b c := by first | (simp only [belowB, *]; rfl) | (simp_all [belowB]; done)
    refine endCast (v1 := .bool false) (H1 := [some ⟨[vI a, vI b, vI c], 74, true, false⟩]) (by first | rfl | ((try rw [← he0]); done) | (simp only [← he0]; done)) (by first | rfl | ((try rw [← he0]); done) | (simp only [← he0]; done)) ?_
    exact endQ (Or.inr rfl) (l := [.bool false]) [rB [vI x, vI y, vI z] 74] (by kernel_rfl) (by first | rfl | kernel_rfl) rfl rfl hcl rfl
  ·
    have h1k := h1
    (try simp only [Bool.not_eq_true', Bool.not_eq_false', decide_eq_true_eq, decide_eq_false_iff_not, beq_iff_eq, bne_iff_ne, beq_eq_false_iff_ne, bne_eq_false_iff_eq, ne_eq, Decidable.not_not, Bool.and_eq_true, Bool.and_eq_false_imp, Bool.or_eq_true, Bool.or_eq_false_iff, Bool.not_eq_true, Int.not_lt, Int.not_le, ge_iff_le, gt_iff_lt] at h1)
    refine seg 7 (T1 := (mkT 23 [(1, vP 0 0), (2, vP 1 0), (4, vP 1 0), (5, vI x), (6, vP 0 0), (7, vI a), (8, .bool true), (9, .bool true), (10, vP 1 1), (11, vI y), (12, vP 0 1), (13, vI b), (14, .bool (decide (y ≤ b))), (15, .bool (decide (y ≤ b))), (16, .bool (decide (y ≤ b)))])) (H1 := [some ⟨[vI a, vI b, vI c], 74, true, false⟩, rB [vI x, vI y, vI z] 74]) (by kernel_rfl) ?_
    cases h2 : (decide (y ≤ b) : Bool)
    ·
      have h2k := h2
      (try simp only [Bool.not_eq_true', Bool.not_eq_false', decide_eq_true_eq, decide_eq_false_iff_not, beq_iff_eq, bne_iff_ne, beq_eq_false_iff_ne, bne_eq_false_iff_eq, ne_eq, Decidable.not_not, Bool.and_eq_true, Bool.and_eq_false_imp, Bool.or_eq_true, Bool.or_eq_false_iff, Bool.not_eq_true, Int.not_lt, Int.not_le, ge_iff_le, gt_iff_lt] at h2)
      refine segEnd [3] (T1 := (mkT 23 [(3, .bool false)])) (H1 := [some ⟨[vI a, vI b, vI c], 74, true, false⟩, rB [vI x, vI y, vI z] 74]) (by kernel_rfl) ?_
      refine kSeq ?_
      refine cRet ?_
      -- end
      have he0 : (false : Bool) = belowB (A3.mk x y z) a b c := by first | (simp only [belowB, *]; rfl) | (simp_all [belowB]; done)
      refine endCast (v1 := .bool false) (H1 := [some ⟨[vI a, vI b, vI c], 74, true, false⟩]) (by first | rfl | ((try rw [← he0]); done) | (simp only [← he0]; done)) (by first | rfl | ((try rw [← he0]); done) | (simp only [← he0]; done)) ?_
      exact endQ (Or.inr rfl) (l := [.bool false]) [rB [vI x, vI y, vI z] 74] (by kernel_rfl) (by first | rfl | kernel_rfl) rfl rfl hcl rfl
    ·
      have h2k := h2
      (try simp only [Bool.not_eq_true', Bool.not_eq_false', decide_eq_true_eq, decide_eq_false_iff_not, beq_iff_eq, bne_iff_ne, beq_eq_false_iff_ne, bne_eq_false_iff_eq, ne_eq, Decidable.not_not, Bool.and_eq_true, Bool.and_eq_false_imp, Bool.or_eq_true, Bool.or_eq_false_iff, Bool.not_eq_true, Int.not_lt, Int.not_le, ge_iff_le, gt_iff_lt] at h2)
      refine segEnd [3] (T1 := (mkT 23 [(3, .bool (decide (z ≤ c)))])) (H1 := [some ⟨[vI a, vI b, vI c], 74, true, false⟩, rB [vI x, vI y, vI z] 74]) (by kernel_rfl) ?_
      refine kSeq ?_
      refine cRet ?_
      -- end
      have he0 : (decide (z ≤ c) : Bool) = belowB (A3.mk x y z) a b c := by first | (simp only [belowB, *]; rfl) | (simp_all [belowB]; done)
      refine endCast (v1 := .bool (decide (z ≤ c))) (H1 := [some ⟨[vI a, vI b, vI c], 74, true, false⟩]) (by first | rfl | ((try rw [← he0]); done) | (simp only [← he0]; done)) (by first | rfl | ((try rw [← he0]); done) | (simp only [← he0]; done)) ?_
      exact endQ (Or.inr rfl) (l := [.bool (decide (z ≤ c))]) [rB [vI x, vI y, vI z] 74] (by kernel_rfl) (by first | rfl | kernel_rfl) rfl rfl hcl rfl

set_option maxRecDepth 100000 in
set_option maxHeartbeats 4000000 in
theorem thoseBelow (X : Nat) (Y : Nat) (Z : Nat) (a : Int) (b : Int) (c : Int) (hs : Sides X Y Z) : Sound Try.prog 112 [.agg #[vN X, vN Y, vN Z], .func (.func 138) #[] #[vP 0 0]] [some ⟨[vI a, vI b, vI c], 74, true, false⟩] (vU (belowS X Y Z a b c)) [some ⟨[vI a, vI b, vI c], 74, true, false⟩] := by
  refine sound_intro (C := cx) Try.func112 rfl (by kernel_rfl) fun hcl => ?_
  have hz := hs.size
  have hx0 := hs.x0
  have hx4 := hs.x4
  have hy0 := hs.y0
  have hy4 := hs.y4
  have hz0 := hs.z0
  have hz4 := hs.z4
  refine cSeq ?_
  refine cReg ?_
  refine segEnd [1, 2] (T1 := (mkT 23 [(1, .func (.func 138) #[] #[vP 0 0]), (2, vP 1 0)])) (H1 := [some ⟨[vI a, vI b, vI c], 74, true, false⟩, rB [vN X, vN Y, vN Z] 75]) (by kernel_rfl) ?_
  refine kSeq ?_
  refine cSeq ?_
  refine cReg ?_
  refine segEndH [1, 2, 5] (T1 := (mkT 23 [(1, .func (.func 138) #[] #[vP 0 0]), (2, vP 1 0), (5, vU 0)])) (by kernel_rfl) ?_
  refine kSeq ?_
  refine cSeq ?_
  refine cSeq ?_
  refine cReg ?_
  refine segH 1 (T1 := (mkT 23 [(1, .func (.func 138) #[] #[vP 0 0]), (2, vP 1 0), (5, vU 0), (7, .agg #[vN X, vN Y, vN Z])])) (by kernel_rfl) ?_
  refine rCall (v := vN (X * Y * Z)) (args := [.agg #[vN X, vN Y, vN Z]]) (by kernel_rfl) rfl (by kernel_rfl) (Sound.lay0 [] (sizeB X Y Z (by first | assumption | omega | rfl | decide | exact HeapL.list _ _ _ _ | exact HeapL.nil _ _ _ | exact HeapL.all _ _ _ | (apply HeapL.lt64 <;> assumption) | (repeat' (first | assumption | apply or_lt64 | apply and_lt64 | apply andn_lt64 | apply pow_lt64 | (apply HeapL.lt64 <;> assumption))))) trivial rfl trivial rfl (by first | rfl | simp [mpV, mpA, mpS, mpP, renId, shift]) rfl) ?_
  refine segEndH [1, 2, 5, 8, 9] (T1 := (mkT 23 [(1, .func (.func 138) #[] #[vP 0 0]), (2, vP 1 0), (5, vU 0), (8, vN (X * Y * Z)), (9, vI 0)])) (by kernel_rfl) ?_
  refine kSeq ?_
  refine cBlk ?_
  -- loop
  refine cLoop (fun mm T H => ∃ i : Nat, ∃ s : Nat, (i ≤ X * Y * Z) ∧ (s = thS i (fun i => belowB (cellOf Y Z i) a b c)) ∧ mm = X * Y * Z - i ∧ T = (mkT 23 [(1, .func (.func 138) #[] #[vP 0 0]), (2, vP 1 0), (5, vU s), (8, vN (X * Y * Z)), (9, vN i)]) ∧ H = [some ⟨[vI a, vI b, vI c], 74, true, false⟩, rB [vN X, vN Y, vN Z] 75]) (X * Y * Z - 0) (mkT 23 [(1, .func (.func 138) #[] #[vP 0 0]), (2, vP 1 0), (5, vU 0), (8, vN (X * Y * Z)), (9, vI 0)]) [some ⟨[vI a, vI b, vI c], 74, true, false⟩, rB [vN X, vN Y, vN Z] 75] (wkSame [1, 2, 5, 8, 9] (by kernel_rfl)) ?_ ?_
  · exact ⟨0, 0, (Nat.zero_le _), (rfl), rfl, rfl, rfl⟩
  · rintro _ _ _ ⟨i, s, hi, hs1, rfl, rfl, rfl⟩
    have hslt : s < 18446744073709551616 := hs1 ▸ thS_lt _ i (by omega)
    refine cSeq ?_
    refine cReg ?_
    refine segEndH [1, 2, 5, 8, 9, 10] (T1 := (mkT 23 [(1, .func (.func 138) #[] #[vP 0 0]), (2, vP 1 0), (5, vU s), (8, vN (X * Y * Z)), (9, vN i), (10, .bool (decide (((i : Nat) : Int) < ((X * Y * Z : Nat) : Int))))])) (by kernel_rfl) ?_
    refine kSeq ?_
    refine cSeq ?_
    cases h1 : (decide (((i : Nat) : Int) < ((X * Y * Z : Nat) : Int)) : Bool)
    ·
      have h1k := h1
      (try simp only [Bool.not_eq_true', Bool.not_eq_false', decide_eq_true_eq, decide_eq_false_iff_not, beq_iff_eq, bne_iff_ne, beq_eq_false_iff_ne, bne_eq_false_iff_eq, ne_eq, Decidable.not_not, Bool.and_eq_true, Bool.and_eq_false_imp, Bool.or_eq_true, Bool.or_eq_false_iff, Bool.not_eq_true, Int.not_lt, Int.not_le, ge_iff_le, gt_iff_lt] at h1)
      refine cFalse (by kernel_rfl) ?_
      refine cExit ?_
      refine kSeqE ?_
      refine kLoopE ?_
      refine kBlkHit ?_
      refine kSeq ?_
      refine cSeq ?_
      refine cReg ?_
      refine segEndH [4] (T1 := (mkT 23 [(4, vU s)])) (by kernel_rfl) ?_
      refine kSeq ?_
      refine cRet ?_
      -- end
      have he0 : (s : Nat) = belowS X Y Z a b c := by (rw [hs1, show i = X * Y * Z by omega]; rfl)
      refine endCast (v1 := vU s) (H1 := [some ⟨[vI a, vI b, vI c], 74, true, false⟩]) (by first | rfl | ((try rw [← he0]); done) | (simp only [← he0]; done)) (by first | rfl | ((try rw [← he0]); done) | (simp only [← he0]; done)) ?_
      exact endQ (Or.inr rfl) (l := [vU s]) [rB [vN X, vN Y, vN Z] 75] (by kernel_rfl) (by first | rfl | kernel_rfl) rfl rfl hcl rfl
    ·
      have h1k := h1
      (try simp only [Bool.not_eq_true', Bool.not_eq_false', decide_eq_true_eq, decide_eq_false_iff_not, beq_iff_eq, bne_iff_ne, beq_eq_false_iff_ne, bne_eq_false_iff_eq, ne_eq, Decidable.not_not, Bool.and_eq_true, Bool.and_eq_false_imp, Bool.or_eq_true, Bool.or_eq_false_iff, Bool.not_eq_true, Int.not_lt, Int.not_le, ge_iff_le, gt_iff_lt] at h1)
      refine cTrue (by kernel_rfl) ?_
      refine cSkip ?_
      refine kSeq ?_
      refine cSeq ?_
      refine cBlk ?_
      refine cSeq ?_
      refine cReg ?_
      refine segEndH [1, 2, 5, 6, 8, 9] (T1 := (mkT 23 [(1, .func (.func 138) #[] #[vP 0 0]), (2, vP 1 0), (5, vU s), (6, vN i), (8, vN (X * Y * Z)), (9, vN i)])) (by kernel_rfl) ?_
      refine kSeq ?_
      refine cSeq ?_
      refine cReg ?_
      refine segH 3 (T1 := (mkT 23 [(1, .func (.func 138) #[] #[vP 0 0]), (2, vP 1 0), (5, vU s), (6, vN i), (8, vN (X * Y * Z)), (9, vN i), (12, .func (.func 138) #[] #[vP 0 0]), (13, .agg #[vN X, vN Y, vN Z]), (14, vN i)])) (by kernel_rfl) ?_
      refine rCall (v := .agg #[vN (i / Z / Y), vN (i / Z % Y), vN (i % Z)]) (args := [.agg #[vN X, vN Y, vN Z], vN i]) (by kernel_rfl) rfl (by kernel_rfl) (Sound.lay0 [] (cellB X Y Z i (by first | assumption | omega | rfl | decide | exact HeapL.list _ _ _ _ | exact HeapL.nil _ _ _ | exact HeapL.all _ _ _ | (apply HeapL.lt64 <;> assumption) | (repeat' (first | assumption | apply or_lt64 | apply and_lt64 | apply andn_lt64 | apply pow_lt64 | (apply HeapL.lt64 <;> assumption)))) (by first | assumption | omega | rfl | decide | exact HeapL.list _ _ _ _ | exact HeapL.nil _ _ _ | exact HeapL.all _ _ _ | (apply HeapL.lt64 <;> assumption) | (repeat' (first | assumption | apply or_lt64 | apply and_lt64 | apply andn_lt64 | apply pow_lt64 | (apply HeapL.lt64 <;> assumption))))) trivial rfl trivial rfl (by first | rfl | simp [mpV, mpA, mpS, mpP, renId, shift]) (by first | rfl | simp [mpV, mpA, mpS, mpP, renId, shift])) ?_
      refine rCall (v := .bool (belowB (A3.mk ((i / Z / Y : Nat) : Int) ((i / Z % Y : Nat) : Int) ((i % Z : Nat) : Int)) a b c)) (args := [.agg #[vN (i / Z / Y), vN (i / Z % Y), vN (i % Z)], vP 0 0]) (by kernel_rfl) rfl (by kernel_rfl) (Sound.lay0 [0] (belowC ((i / Z / Y : Nat) : Int) ((i / Z % Y : Nat) : Int) ((i % Z : Nat) : Int) a b c) ⟨rdX false rfl rfl, trivial⟩ rfl ⟨clX rfl, trivial⟩ rfl (by first | rfl | simp [mpV, mpA, mpS, mpP, renId, shift]) rfl) ?_
      refine segEndH [1, 2, 5, 6, 8, 9, 16] (T1 := (mkT 23 [(1, .func (.func 138) #[] #[vP 0 0]), (2, vP 1 0), (5, vU s), (6, vN i), (8, vN (X * Y * Z)), (9, vN i), (16, .bool (belowB (A3.mk ((i / Z / Y : Nat) : Int) ((i / Z % Y : Nat) : Int) ((i % Z : Nat) : Int)) a b c))])) (by kernel_rfl) ?_
      refine kSeq ?_
      cases h2 : (belowB (A3.mk ((i / Z / Y : Nat) : Int) ((i / Z % Y : Nat) : Int) ((i % Z : Nat) : Int)) a b c : Bool)
      ·
        have h2k := h2
        (try simp only [Bool.not_eq_true', Bool.not_eq_false', decide_eq_true_eq, decide_eq_false_iff_not, beq_iff_eq, bne_iff_ne, beq_eq_false_iff_ne, bne_eq_false_iff_eq, ne_eq, Decidable.not_not, Bool.and_eq_true, Bool.and_eq_false_imp, Bool.or_eq_true, Bool.or_eq_false_iff, Bool.not_eq_true, Int.not_lt, Int.not_le, ge_iff_le, gt_iff_lt] at h2)
        refine cFalse (by kernel_rfl) ?_
        refine cSkip ?_
        refine kBlk ?_
        refine kSeq ?_
        refine cReg ?_
        refine rOp (v := vN (i + 1)) (by kernel_rfl) (eAdd (k := .i64) (a := ((i : Nat) : Int)) (b := 1) (c := ((i + 1 : Nat) : Int)) (by kernel_rfl) (by kernel_rfl) (wr64 (by omega) (by omega) (by omega))) ?_
        refine segEndH [1, 2, 5, 8, 9] (T1 := (mkT 23 [(1, .func (.func 138) #[] #[vP 0 0]), (2, vP 1 0), (5, vU s), (8, vN (X * Y * Z)), (9, vN (i + 1))])) (by kernel_rfl) ?_
        exact kLoop (X * Y * Z - (i + 1)) (mkT 23 [(1, .func (.func 138) #[] #[vP 0 0]), (2, vP 1 0), (5, vU s), (8, vN (X * Y * Z)), (9, vN (i + 1))]) [some ⟨[vI a, vI b, vI c], 74, true, false⟩, rB [vN X, vN Y, vN Z] 75] (by omega) (wkSame [1, 2, 5, 8, 9] (by kernel_rfl)) ⟨(i + 1), s, (by omega), (by first | (rw [hs1]; exact thS_yes (by assumption)) | (rw [hs1]; exact thS_no (by assumption))), rfl, rfl, rfl⟩
      ·
        have h2k := h2
        (try simp only [Bool.not_eq_true', Bool.not_eq_false', decide_eq_true_eq, decide_eq_false_iff_not, beq_iff_eq, bne_iff_ne, beq_eq_false_iff_ne, bne_eq_false_iff_eq, ne_eq, Decidable.not_not, Bool.and_eq_true, Bool.and_eq_false_imp, Bool.or_eq_true, Bool.or_eq_false_iff, Bool.not_eq_true, Int.not_lt, Int.not_le, ge_iff_le, gt_iff_lt] at h2)
        refine cTrue (by kernel_rfl) ?_
        refine cReg ?_
        refine segH 2 (T1 := (mkT 23 [(1, .func (.func 138) #[] #[vP 0 0]), (2, vP 1 0), (5, vU s), (6, vN i), (8, vN (X * Y * Z)), (9, vN i), (16, .bool true), (17, vU s), (18, vN i)])) (by kernel_rfl) ?_
        refine rOp (v := vU (2 ^ i)) (by kernel_rfl) (eShl (k := .u64) (a := 1) (b := ((i : Nat) : Int)) (k' := .i64) (c := ((2 ^ i : Nat) : Int)) (by kernel_rfl) (by kernel_rfl) (by omega) (shl1 _ (by omega))) ?_
        refine rOp (v := vU (s ||| (2 ^ i))) (by kernel_rfl) (eOp (k := .u64) (a := ((s : Nat) : Int)) (b := ((2 ^ i : Nat) : Int)) (by kernel_rfl) (by kernel_rfl) ⟨by decide, by decide⟩ (orU s (2 ^ i) (by first | assumption | omega | (repeat' (first | assumption | omega | apply or_lt64 | apply and_lt64 | apply andn_lt64 | apply pow_lt64 | (apply HeapL.lt64 <;> assumption)))) (by first | assumption | omega | (repeat' (first | assumption | omega | apply or_lt64 | apply and_lt64 | apply andn_lt64 | apply pow_lt64 | (apply HeapL.lt64 <;> assumption)))))) ?_
        refine segEndH [1, 2, 5, 8, 9] (T1 := (mkT 23 [(1, .func (.func 138) #[] #[vP 0 0]), (2, vP 1 0), (5, vU (s ||| (2 ^ i))), (8, vN (X * Y * Z)), (9, vN i)])) (by kernel_rfl) ?_
        refine kBlk ?_
        refine kSeq ?_
        refine cReg ?_
        refine rOp (v := vN (i + 1)) (by kernel_rfl) (eAdd (k := .i64) (a := ((i : Nat) : Int)) (b := 1) (c := ((i + 1 : Nat) : Int)) (by kernel_rfl) (by kernel_rfl) (wr64 (by omega) (by omega) (by omega))) ?_
        refine segEndH [1, 2, 5, 8, 9] (T1 := (mkT 23 [(1, .func (.func 138) #[] #[vP 0 0]), (2, vP 1 0), (5, vU (s ||| (2 ^ i))), (8, vN (X * Y * Z)), (9, vN (i + 1))])) (by kernel_rfl) ?_
        exact kLoop (X * Y * Z - (i + 1)) (mkT 23 [(1, .func (.func 138) #[] #[vP 0 0]), (2, vP 1 0), (5, vU (s ||| (2 ^ i))), (8, vN (X * Y * Z)), (9, vN (i + 1))]) [some ⟨[vI a, vI b, vI c], 74, true, false⟩, rB [vN X, vN Y, vN Z] 75] (by omega) (wkSame [1, 2, 5, 8, 9] (by kernel_rfl)) ⟨(i + 1), (s ||| (2 ^ i)), (by omega), (by first | (rw [hs1]; exact thS_yes (by assumption)) | (rw [hs1]; exact thS_no (by assumption))), rfl, rfl, rfl⟩

set_option maxRecDepth 100000 in
set_option maxHeartbeats 4000000 in
theorem belowFB (X : Nat) (Y : Nat) (Z : Nat) (a : Int) (b : Int) (c : Int) (hs : Sides X Y Z) : Sound Try.prog 135 [.agg #[vN X, vN Y, vN Z], .agg #[vI a, vI b, vI c]] [] (vU (belowS X Y Z a b c)) [] := by
  refine sound_intro (C := cx) Try.func135 rfl (by kernel_rfl) fun hcl => ?_
  refine cSeq ?_
  refine cReg ?_
  refine segEnd [2, 3] (T1 := (mkT 8 [(2, vP 0 0), (3, vP 1 0)])) (H1 := [rB [vN X, vN Y, vN Z] 75, rB [vI a, vI b, vI c] 74]) (by kernel_rfl) ?_
  refine kSeq ?_
  refine cSeq ?_
  refine cReg ?_
  refine segH 2 (T1 := (mkT 8 [(2, vP 0 0), (3, vP 1 0), (5, .agg #[vN X, vN Y, vN Z]), (6, .func (.func 138) #[] #[vP 1 0])])) (by kernel_rfl) ?_
  refine rCall (v := vU (belowS X Y Z a b c)) (args := [.agg #[vN X, vN Y, vN Z], .func (.func 138) #[] #[vP 1 0]]) (by kernel_rfl) rfl (by kernel_rfl) (Sound.lay0 [1] (thoseBelow X Y Z a b c (by first | assumption | omega | rfl | decide | exact HeapL.list _ _ _ _ | exact HeapL.nil _ _ _ | exact HeapL.all _ _ _ | (apply HeapL.lt64 <;> assumption) | (repeat' (first | assumption | apply or_lt64 | apply and_lt64 | apply andn_lt64 | apply pow_lt64 | (apply HeapL.lt64 <;> assumption))))) ⟨rdX true rfl rfl, trivial⟩ rfl ⟨clX rfl, trivial⟩ rfl (by first | rfl | simp [mpV, mpA, mpS, mpP, renId, shift]) rfl) ?_
  refine segEndH [4] (T1 := (mkT 8 [(4, vU (belowS X Y Z a b c))])) (by kernel_rfl) ?_
  refine kSeq ?_
  refine cRet ?_
  -- end
  exact endQ (Or.inr rfl) (l := [vU (belowS X Y Z a b c)]) [rB [vN X, vN Y, vN Z] 75, rB [vI a, vI b, vI c] 74] (by kernel_rfl) (by first | rfl | kernel_rfl) rfl rfl hcl rfl

set_option maxRecDepth 100000 in
set_option maxHeartbeats 4000000 in
theorem boxStair (X : Nat) (Y : Nat) (Z : Nat) (s : Nat) (hs : Sides X Y Z) (hlt : s < 18446744073709551616) : Sound Try.prog 120 [.agg #[vN X, vN Y, vN Z], vU s] [] (.bool (stairI X Y Z s)) [] := by
  refine sound_intro (C := cx) Try.func120 rfl (by kernel_rfl) fun hcl => ?_
  have hz := hs.size
  have hx0 := hs.x0
  have hx4 := hs.x4
  have hy0 := hs.y0
  have hy4 := hs.y4
  have hz0 := hs.z0
  have hz4 := hs.z4
  have hll := (HeapL.list X Y Z s).len
  have hbl : ∀ a b c, belowS X Y Z a b c < 18446744073709551616 := fun a b c => thS_lt _ _ hz
  refine cSeq ?_
  refine cReg ?_
  refine segEnd [1, 2] (T1 := (mkT 22 [(1, vU s), (2, vP 0 0)])) (H1 := [rB [vN X, vN Y, vN Z] 75]) (by kernel_rfl) ?_
  refine kSeq ?_
  refine cSeq ?_
  refine cSeq ?_
  refine cReg ?_
  refine segH 2 (T1 := (mkT 22 [(1, vU s), (2, vP 0 0), (7, .agg #[vN X, vN Y, vN Z]), (8, vU s)])) (by kernel_rfl) ?_
  refine rCall (v := vS 1 ((listOf X Y Z s).length)) (args := [.agg #[vN X, vN Y, vN Z], vU s]) (by kernel_rfl) rfl (by kernel_rfl) (Sound.lay (E := [some ⟨a3s (listOf X Y Z s), 74, false, true⟩]) [] (listB X Y Z s (by first | assumption | omega | rfl | decide | exact HeapL.list _ _ _ _ | exact HeapL.nil _ _ _ | exact HeapL.all _ _ _ | (apply HeapL.lt64 <;> assumption) | (repeat' (first | assumption | apply or_lt64 | apply and_lt64 | apply andn_lt64 | apply pow_lt64 | (apply HeapL.lt64 <;> assumption)))) (by first | assumption | omega | rfl | decide | exact HeapL.list _ _ _ _ | exact HeapL.nil _ _ _ | exact HeapL.all _ _ _ | (apply HeapL.lt64 <;> assumption) | (repeat' (first | assumption | apply or_lt64 | apply and_lt64 | apply andn_lt64 | apply pow_lt64 | (apply HeapL.lt64 <;> assumption))))) trivial rfl trivial rfl (by first | rfl | simp [mpV, mpA, mpS, mpP, renId, shift]) rfl ⟨enF (flatA3 _ _ _ _) (Or.inl rfl), trivial⟩) ?_
  refine segEnd [1, 2, 9, 10, 11] (T1 := (mkT 22 [(1, vU s), (2, vP 0 0), (9, vS 1 ((listOf X Y Z s).length)), (10, vN ((listOf X Y Z s).length)), (11, vI 0)])) (H1 := [rB [vN X, vN Y, vN Z] 75, some ⟨a3s (listOf X Y Z s), 74, false, true⟩]) (by kernel_rfl) ?_
  refine kSeq ?_
  refine cBlk ?_
  -- loop
  refine cLoop (fun mm T H => ∃ i : Nat, (i ≤ (listOf X Y Z s).length) ∧ (∀ j, j < i → j < (listOf X Y Z s).length → andn (belowS X Y Z ((listOf X Y Z s).getD j default).x ((listOf X Y Z s).getD j default).y ((listOf X Y Z s).getD j default).z) s = 0) ∧ mm = (listOf X Y Z s).length - i ∧ T = (mkT 22 [(1, vU s), (2, vP 0 0), (9, vS 1 ((listOf X Y Z s).length)), (10, vN ((listOf X Y Z s).length)), (11, vN i)]) ∧ H = [rB [vN X, vN Y, vN Z] 75, some ⟨a3s (listOf X Y Z s), 74, false, true⟩]) ((listOf X Y Z s).length - 0) (mkT 22 [(1, vU s), (2, vP 0 0), (9, vS 1 ((listOf X Y Z s).length)), (10, vN ((listOf X Y Z s).length)), (11, vI 0)]) [rB [vN X, vN Y, vN Z] 75, some ⟨a3s (listOf X Y Z s), 74, false, true⟩] (wkSame [1, 2, 9, 10, 11] (by kernel_rfl)) ?_ ?_
  · exact ⟨0, (Nat.zero_le _), (fun j hj => absurd hj (Nat.not_lt_zero j)), rfl, rfl, rfl⟩
  · rintro _ _ _ ⟨i, hi, ho, rfl, rfl, rfl⟩
    refine cSeq ?_
    refine cReg ?_
    refine segEndH [1, 2, 9, 10, 11, 12] (T1 := (mkT 22 [(1, vU s), (2, vP 0 0), (9, vS 1 ((listOf X Y Z s).length)), (10, vN ((listOf X Y Z s).length)), (11, vN i), (12, .bool (decide (((i : Nat) : Int) < (((listOf X Y Z s).length : Nat) : Int))))])) (by kernel_rfl) ?_
    refine kSeq ?_
    refine cSeq ?_
    cases h1 : (decide (((i : Nat) : Int) < (((listOf X Y Z s).length : Nat) : Int)) : Bool)
    ·
      have h1k := h1
      (try simp only [Bool.not_eq_true', Bool.not_eq_false', decide_eq_true_eq, decide_eq_false_iff_not, beq_iff_eq, bne_iff_ne, beq_eq_false_iff_ne, bne_eq_false_iff_eq, ne_eq, Decidable.not_not, Bool.and_eq_true, Bool.and_eq_false_imp, Bool.or_eq_true, Bool.or_eq_false_iff, Bool.not_eq_true, Int.not_lt, Int.not_le, ge_iff_le, gt_iff_lt] at h1)
      refine cFalse (by kernel_rfl) ?_
      refine cExit ?_
      refine kSeqE ?_
      refine kLoopE ?_
      refine kBlkHit ?_
      refine kSeq ?_
      refine cSeq ?_
      refine cReg ?_
      refine segEndH [4] (T1 := (mkT 22 [(4, .bool true)])) (by kernel_rfl) ?_
      refine kSeq ?_
      refine cRet ?_
      -- end
      have he0 : (true : Bool) = stairI X Y Z s := by first | exact stairI_no (i := i) (by omega) (by omega) | exact stairI_yes (i := i) (by omega) ho
      refine endCast (v1 := .bool true) (H1 := []) (by first | rfl | ((try rw [← he0]); done) | (simp only [← he0]; done)) (by first | rfl | ((try rw [← he0]); done) | (simp only [← he0]; done)) ?_
      exact endQ (Or.inr rfl) (l := [.bool true]) [rB [vN X, vN Y, vN Z] 75, some ⟨a3s (listOf X Y Z s), 74, false, true⟩] (by kernel_rfl) (by first | rfl | kernel_rfl) rfl rfl hcl rfl
    ·
      have h1k := h1
      (try simp only [Bool.not_eq_true', Bool.not_eq_false', decide_eq_true_eq, decide_eq_false_iff_not, beq_iff_eq, bne_iff_ne, beq_eq_false_iff_ne, bne_eq_false_iff_eq, ne_eq, Decidable.not_not, Bool.and_eq_true, Bool.and_eq_false_imp, Bool.or_eq_true, Bool.or_eq_false_iff, Bool.not_eq_true, Int.not_lt, Int.not_le, ge_iff_le, gt_iff_lt] at h1)
      refine cTrue (by kernel_rfl) ?_
      refine cSkip ?_
      refine kSeq ?_
      refine cSeq ?_
      refine cBlk ?_
      refine cSeq ?_
      refine cReg ?_
      refine rOp (v := vP 1 (i * 3)) (by kernel_rfl) (eIdxS (ad := ⟨1, 0, none⟩) (n := ((listOf X Y Z s).length)) (m := 0) (k := .i64) (c := ((i : Nat) : Int)) (j := i) (o := i * 3) (by kernel_rfl) (by kernel_rfl) ti31 ti74 (rfl) (by omega) (by exact Nat.zero_add _)) ?_
      refine rOp (v := .agg #[vI (((listOf X Y Z s).getD i default).x), vI (((listOf X Y Z s).getD i default).y), vI (((listOf X Y Z s).getD i default).z)]) (by kernel_rfl) (eLdA3 (ad := ⟨1, i * 3, none⟩) (r := ⟨a3s (listOf X Y Z s), 74, false, true⟩) (L := (listOf X Y Z s)) (j := i) (by kernel_rfl) (by kernel_rfl) rfl (by first | rfl | omega) (by omega) ti74) ?_
      refine segEnd [1, 2, 6, 9, 10, 11] (T1 := (mkT 22 [(1, vU s), (2, vP 0 0), (6, vP 2 0), (9, vS 1 ((listOf X Y Z s).length)), (10, vN ((listOf X Y Z s).length)), (11, vN i)])) (H1 := [rB [vN X, vN Y, vN Z] 75, some ⟨a3s (listOf X Y Z s), 74, false, true⟩, rB [vI (((listOf X Y Z s).getD i default).x), vI (((listOf X Y Z s).getD i default).y), vI (((listOf X Y Z s).getD i default).z)] 74]) (by kernel_rfl) ?_
      refine kSeq ?_
      refine cSeq ?_
      refine cReg ?_
      refine segH 2 (T1 := (mkT 22 [(1, vU s), (2, vP 0 0), (6, vP 2 0), (9, vS 1 ((listOf X Y Z s).length)), (10, vN ((listOf X Y Z s).length)), (11, vN i), (15, .agg #[vN X, vN Y, vN Z]), (16, .agg #[vI (((listOf X Y Z s).getD i default).x), vI (((listOf X Y Z s).getD i default).y), vI (((listOf X Y Z s).getD i default).z)])])) (by kernel_rfl) ?_
      refine rCall (v := vU (belowS X Y Z (((listOf X Y Z s).getD i default).x) (((listOf X Y Z s).getD i default).y) (((listOf X Y Z s).getD i default).z))) (args := [.agg #[vN X, vN Y, vN Z], .agg #[vI (((listOf X Y Z s).getD i default).x), vI (((listOf X Y Z s).getD i default).y), vI (((listOf X Y Z s).getD i default).z)]]) (by kernel_rfl) rfl (by kernel_rfl) (Sound.lay0 [] (belowFB X Y Z (((listOf X Y Z s).getD i default).x) (((listOf X Y Z s).getD i default).y) (((listOf X Y Z s).getD i default).z) (by first | assumption | omega | rfl | decide | exact HeapL.list _ _ _ _ | exact HeapL.nil _ _ _ | exact HeapL.all _ _ _ | (apply HeapL.lt64 <;> assumption) | (repeat' (first | assumption | apply or_lt64 | apply and_lt64 | apply andn_lt64 | apply pow_lt64 | (apply HeapL.lt64 <;> assumption))))) trivial rfl trivial rfl (by first | rfl | simp [mpV, mpA, mpS, mpP, renId, shift]) rfl) ?_
      refine segH 1 (T1 := (mkT 22 [(1, vU s), (2, vP 0 0), (6, vP 2 0), (9, vS 1 ((listOf X Y Z s).length)), (10, vN ((listOf X Y Z s).length)), (11, vN i), (15, .agg #[vN X, vN Y, vN Z]), (16, .agg #[vI (((listOf X Y Z s).getD i default).x), vI (((listOf X Y Z s).getD i default).y), vI (((listOf X Y Z s).getD i default).z)]), (17, vU (belowS X Y Z (((listOf X Y Z s).getD i default).x) (((listOf X Y Z s).getD i default).y) (((listOf X Y Z s).getD i default).z))), (18, vU s)])) (by kernel_rfl) ?_
      refine rOp (v := vU (andn (belowS X Y Z (((listOf X Y Z s).getD i default).x) (((listOf X Y Z s).getD i default).y) (((listOf X Y Z s).getD i default).z)) s)) (by kernel_rfl) (eOp (k := .u64) (a := ((belowS X Y Z (((listOf X Y Z s).getD i default).x) (((listOf X Y Z s).getD i default).y) (((listOf X Y Z s).getD i default).z) : Nat) : Int)) (b := ((s : Nat) : Int)) (by kernel_rfl) (by kernel_rfl) ⟨by decide, by decide⟩ (andnU (belowS X Y Z (((listOf X Y Z s).getD i default).x) (((listOf X Y Z s).getD i default).y) (((listOf X Y Z s).getD i default).z)) s (by first | exact hbl _ _ _ | assumption | omega | (repeat' (first | assumption | omega | apply or_lt64 | apply and_lt64 | apply andn_lt64 | apply pow_lt64 | (apply HeapL.lt64 <;> assumption)))) (by first | exact hbl _ _ _ | assumption | omega | (repeat' (first | assumption | omega | apply or_lt64 | apply and_lt64 | apply andn_lt64 | apply pow_lt64 | (apply HeapL.lt64 <;> assumption)))))) ?_
      refine segEndH [1, 2, 9, 10, 11, 20] (T1 := (mkT 22 [(1, vU s), (2, vP 0 0), (9, vS 1 ((listOf X Y Z s).length)), (10, vN ((listOf X Y Z s).length)), (11, vN i), (20, .bool ((((andn (belowS X Y Z (((listOf X Y Z s).getD i default).x) (((listOf X Y Z s).getD i default).y) (((listOf X Y Z s).getD i default).z)) s) : Nat) : Int) != 0))])) (by kernel_rfl) ?_
      refine kSeq ?_
      cases h2 : (((((andn (belowS X Y Z (((listOf X Y Z s).getD i default).x) (((listOf X Y Z s).getD i default).y) (((listOf X Y Z s).getD i default).z)) s) : Nat) : Int) != 0) : Bool)
      ·
        have h2k := h2
        (try simp only [Bool.not_eq_true', Bool.not_eq_false', decide_eq_true_eq, decide_eq_false_iff_not, beq_iff_eq, bne_iff_ne, beq_eq_false_iff_ne, bne_eq_false_iff_eq, ne_eq, Decidable.not_not, Bool.and_eq_true, Bool.and_eq_false_imp, Bool.or_eq_true, Bool.or_eq_false_iff, Bool.not_eq_true, Int.not_lt, Int.not_le, ge_iff_le, gt_iff_lt] at h2)
        refine cFalse (by kernel_rfl) ?_
        refine cSkip ?_
        refine kBlk ?_
        refine kSeq ?_
        refine cReg ?_
        refine rOp (v := vN (i + 1)) (by kernel_rfl) (eAdd (k := .i64) (a := ((i : Nat) : Int)) (b := 1) (c := ((i + 1 : Nat) : Int)) (by kernel_rfl) (by kernel_rfl) (wr64 (by omega) (by omega) (by omega))) ?_
        refine segEndH [1, 2, 9, 10, 11] (T1 := (mkT 22 [(1, vU s), (2, vP 0 0), (9, vS 1 ((listOf X Y Z s).length)), (10, vN ((listOf X Y Z s).length)), (11, vN (i + 1))])) (by kernel_rfl) ?_
        exact kLoop ((listOf X Y Z s).length - (i + 1)) (mkT 22 [(1, vU s), (2, vP 0 0), (9, vS 1 ((listOf X Y Z s).length)), (10, vN ((listOf X Y Z s).length)), (11, vN (i + 1))]) [rB [vN X, vN Y, vN Z] 75, some ⟨a3s (listOf X Y Z s), 74, false, true⟩] (by omega) (wkDrop [1, 2, 9, 10, 11] _ rfl rfl ((closedL ⟨clX rfl, ⟨clF (flatA3 _ _ _ _), trivial⟩⟩)) (by kernel_rfl) rfl) ⟨(i + 1), (by omega), (fun j hj hl => by rcases Nat.lt_or_ge j i with h | h; exact ho j h hl; (have e : j = i := by omega); subst e; omega), rfl, rfl, rfl⟩
      ·
        have h2k := h2
        (try simp only [Bool.not_eq_true', Bool.not_eq_false', decide_eq_true_eq, decide_eq_false_iff_not, beq_iff_eq, bne_iff_ne, beq_eq_false_iff_ne, bne_eq_false_iff_eq, ne_eq, Decidable.not_not, Bool.and_eq_true, Bool.and_eq_false_imp, Bool.or_eq_true, Bool.or_eq_false_iff, Bool.not_eq_true, Int.not_lt, Int.not_le, ge_iff_le, gt_iff_lt] at h2)
        refine cTrue (by kernel_rfl) ?_
        refine cSeq ?_
        refine cReg ?_
        refine segEndH [4] (T1 := (mkT 22 [(4, .bool false)])) (by kernel_rfl) ?_
        refine kSeq ?_
        refine cRet ?_
        refine kBlkR ?_
        refine kSeqR ?_
        refine kLoopR ?_
        refine kBlkR ?_
        refine kSeqR ?_
        -- end
        have he0 : (false : Bool) = stairI X Y Z s := by first | exact stairI_no (i := i) (by omega) (by omega) | exact stairI_yes (i := i) (by omega) ho
        refine endCast (v1 := .bool false) (H1 := []) (by first | rfl | ((try rw [← he0]); done) | (simp only [← he0]; done)) (by first | rfl | ((try rw [← he0]); done) | (simp only [← he0]; done)) ?_
        exact endQ (Or.inr rfl) (l := [.bool false]) [rB [vN X, vN Y, vN Z] 75, some ⟨a3s (listOf X Y Z s), 74, false, true⟩, rB [vI (((listOf X Y Z s).getD i default).x), vI (((listOf X Y Z s).getD i default).y), vI (((listOf X Y Z s).getD i default).z)] 74] (by kernel_rfl) (by first | rfl | kernel_rfl) rfl rfl hcl rfl

set_option maxRecDepth 100000 in
set_option maxHeartbeats 4000000 in
theorem l5StairB (X : Nat) (Y : Nat) (Z : Nat) (L : List A3) (hs : Sides X Y Z) (hL : HeapL X Y Z L) : Sound Try.prog 89 [.agg #[vN X, vN Y, vN Z, vS 0 L.length]] [some ⟨a3s L, 74, false, false⟩] (.bool (stairS L)) [some ⟨a3s L, 74, false, false⟩] := by
  refine sound_intro (C := cx) Try.func89 rfl (by kernel_rfl) fun hcl => ?_
  have hz := hs.size
  have hx0 := hs.x0
  have hx4 := hs.x4
  have hy0 := hs.y0
  have hy4 := hs.y4
  have hz0 := hs.z0
  have hz4 := hs.z4
  have hlen := hL.len
  have hlt := hL.lt64 hs
  have hsm := hL.small hs
  refine cSeq ?_
  refine cReg ?_
  refine segEnd [1] (T1 := (mkT 37 [(1, vP 1 0)])) (H1 := [some ⟨a3s L, 74, false, false⟩, rB [vN X, vN Y, vN Z, vS 0 L.length] 40]) (by kernel_rfl) ?_
  refine kSeq ?_
  refine cSeq ?_
  refine cSeq ?_
  refine cReg ?_
  refine segEndH [1, 3] (T1 := (mkT 37 [(1, vP 1 0), (3, vI 0)])) (by kernel_rfl) ?_
  refine kSeq ?_
  refine cBlk ?_
  -- loop
  refine cLoop (fun mm T H => ∃ i : Nat, (i ≤ L.length) ∧ (∀ j, j < i → j < L.length → stairQ L (L.getD j default) = true) ∧ mm = L.length - i ∧ T = (mkT 37 [(1, vP 1 0), (3, vN i)]) ∧ H = [some ⟨a3s L, 74, false, false⟩, rB [vN X, vN Y, vN Z, vS 0 L.length] 40]) (L.length - 0) (mkT 37 [(1, vP 1 0), (3, vI 0)]) [some ⟨a3s L, 74, false, false⟩, rB [vN X, vN Y, vN Z, vS 0 L.length] 40] (wkSame [1, 3] (by kernel_rfl)) ?_ ?_
  · exact ⟨0, (Nat.zero_le _), (fun j hj => absurd hj (Nat.not_lt_zero j)), rfl, rfl, rfl⟩
  · rintro _ _ _ ⟨i, hi, ho, rfl, rfl, rfl⟩
    refine cSeq ?_
    refine cSeq ?_
    refine cReg ?_
    refine segEndH [1, 3, 10] (T1 := (mkT 37 [(1, vP 1 0), (3, vN i), (10, .bool (decide (((i : Nat) : Int) < ((L.length : Nat) : Int))))])) (by kernel_rfl) ?_
    refine kSeq ?_
    cases h1 : (decide (((i : Nat) : Int) < ((L.length : Nat) : Int)) : Bool)
    ·
      have h1k := h1
      (try simp only [Bool.not_eq_true', Bool.not_eq_false', decide_eq_true_eq, decide_eq_false_iff_not, beq_iff_eq, bne_iff_ne, beq_eq_false_iff_ne, bne_eq_false_iff_eq, ne_eq, Decidable.not_not, Bool.and_eq_true, Bool.and_eq_false_imp, Bool.or_eq_true, Bool.or_eq_false_iff, Bool.not_eq_true, Int.not_lt, Int.not_le, ge_iff_le, gt_iff_lt] at h1)
      refine cFalse (by kernel_rfl) ?_
      refine cExit ?_
      refine kSeqE ?_
      refine kLoopE ?_
      refine kBlkHit ?_
      refine kSeq ?_
      refine cSeq ?_
      refine cReg ?_
      refine segEndH [2] (T1 := (mkT 37 [(2, .bool true)])) (by kernel_rfl) ?_
      refine kSeq ?_
      refine cRet ?_
      -- end
      have he0 : (true : Bool) = stairS L := by first | exact stairS_yes (i := i) (by omega) ho | exact stairS_no (i := i) (by omega) (stairQ_no (by first | exact Or.inl ⟨by omega, by assumption⟩ | exact Or.inr (Or.inl ⟨by omega, by assumption⟩) | exact Or.inr (Or.inr ⟨by omega, by assumption⟩)))
      refine endCast (v1 := .bool true) (H1 := [some ⟨a3s L, 74, false, false⟩]) (by first | rfl | ((try rw [← he0]); done) | (simp only [← he0]; done)) (by first | rfl | ((try rw [← he0]); done) | (simp only [← he0]; done)) ?_
      exact endQ (Or.inr rfl) (l := [.bool true]) [rB [vN X, vN Y, vN Z, vS 0 L.length] 40] (by kernel_rfl) (by first | rfl | kernel_rfl) rfl rfl hcl rfl
    ·
      have h1k := h1
      (try simp only [Bool.not_eq_true', Bool.not_eq_false', decide_eq_true_eq, decide_eq_false_iff_not, beq_iff_eq, bne_iff_ne, beq_eq_false_iff_ne, bne_eq_false_iff_eq, ne_eq, Decidable.not_not, Bool.and_eq_true, Bool.and_eq_false_imp, Bool.or_eq_true, Bool.or_eq_false_iff, Bool.not_eq_true, Int.not_lt, Int.not_le, ge_iff_le, gt_iff_lt] at h1)
      have hc0 := hsm.at (i := i) (by omega)
      refine cTrue (by kernel_rfl) ?_
      refine cSkip ?_
      refine kSeq ?_
      refine cSeq ?_
      refine cBlk ?_
      refine cSeq ?_
      refine cReg ?_
      refine segEndH [1, 3, 4] (T1 := (mkT 37 [(1, vP 1 0), (3, vN i), (4, vI 0)])) (by kernel_rfl) ?_
      refine kSeq ?_
      refine cBlk ?_
      -- loop
      refine cLoop (fun mm T H => ∃ k : Nat, (k ≤ 3) ∧ ((1 ≤ k → ((L.getD i default).x - 1 < 0 ∨ hasL L ((L.getD i default).x - 1) (L.getD i default).y (L.getD i default).z = true)) ∧ (2 ≤ k → ((L.getD i default).y - 1 < 0 ∨ hasL L (L.getD i default).x ((L.getD i default).y - 1) (L.getD i default).z = true)) ∧ (3 ≤ k → ((L.getD i default).z - 1 < 0 ∨ hasL L (L.getD i default).x (L.getD i default).y ((L.getD i default).z - 1) = true))) ∧ mm = 3 - k ∧ T = (mkT 37 [(1, vP 1 0), (3, vN i), (4, vN k)]) ∧ H = [some ⟨a3s L, 74, false, false⟩, rB [vN X, vN Y, vN Z, vS 0 L.length] 40]) (3 - 0) (mkT 37 [(1, vP 1 0), (3, vN i), (4, vI 0)]) [some ⟨a3s L, 74, false, false⟩, rB [vN X, vN Y, vN Z, vS 0 L.length] 40] (wkSame [1, 3, 4] (by kernel_rfl)) ?_ ?_
      · exact ⟨0, (Nat.zero_le _), (⟨fun h => absurd h (by omega), fun h => absurd h (by omega), fun h => absurd h (by omega)⟩), rfl, rfl, rfl⟩
      · rintro _ _ _ ⟨k, hk, hin, rfl, rfl, rfl⟩
        have hcase : k = 0 ∨ k = 1 ∨ k = 2 ∨ k = 3 := by omega
        rcases hcase with rfl | rfl | rfl | rfl
        ·
          refine cSeq ?_
          refine cSeq ?_
          refine cReg ?_
          refine segEndH [1, 3, 4, 14] (T1 := (mkT 37 [(1, vP 1 0), (3, vN i), (4, vI 0), (14, .bool true)])) (by kernel_rfl) ?_
          refine kSeq ?_
          refine cTrue (by kernel_rfl) ?_
          refine cSkip ?_
          refine kSeq ?_
          refine cSeq ?_
          refine cBlk ?_
          refine cSeq ?_
          refine cReg ?_
          refine segH 3 (T1 := (mkT 37 [(1, vP 1 0), (3, vN i), (4, vI 0), (14, .bool true), (17, vP 1 3), (18, vS 0 L.length), (19, vN i)])) (by kernel_rfl) ?_
          refine rOp (v := vP 0 (i * 3)) (by kernel_rfl) (eIdxS (ad := ⟨0, 0, none⟩) (n := L.length) (m := 0) (k := .i64) (c := ((i : Nat) : Int)) (j := i) (o := i * 3) (by kernel_rfl) (by kernel_rfl) ti31 ti74 (rfl) (by omega) (by exact Nat.zero_add _)) ?_
          refine rOp (v := .agg #[vI ((L.getD i default).x), vI ((L.getD i default).y), vI ((L.getD i default).z)]) (by kernel_rfl) (eLdA3 (ad := ⟨0, i * 3, none⟩) (r := ⟨a3s L, 74, false, false⟩) (L := L) (j := i) (by kernel_rfl) (by kernel_rfl) rfl (by first | rfl | omega) (by omega) ti74) ?_
          refine segEnd [1, 3, 4, 5] (T1 := (mkT 37 [(1, vP 1 0), (3, vN i), (4, vI 0), (5, vP 2 0)])) (H1 := [some ⟨a3s L, 74, false, false⟩, rB [vN X, vN Y, vN Z, vS 0 L.length] 40, rB [vI ((L.getD i default).x), vI ((L.getD i default).y), vI ((L.getD i default).z)] 74]) (by kernel_rfl) ?_
          refine kSeq ?_
          refine cSeq ?_
          refine cReg ?_
          refine segH 3 (T1 := (mkT 37 [(1, vP 1 0), (3, vN i), (4, vI 0), (5, vP 2 0), (22, vI 0), (23, vP 2 0), (24, vI ((L.getD i default).x))])) (by kernel_rfl) ?_
          refine rOp (v := vI ((L.getD i default).x - 1)) (by kernel_rfl) (eSub (k := .i64) (a := ((L.getD i default).x)) (b := 1) (c := ((L.getD i default).x - 1)) (by kernel_rfl) (by kernel_rfl) (wr64 (by omega) (by omega) (by omega))) ?_
          refine segEnd [1, 3, 4, 5] (T1 := (mkT 37 [(1, vP 1 0), (3, vN i), (4, vI 0), (5, vP 2 0)])) (H1 := [some ⟨a3s L, 74, false, false⟩, rB [vN X, vN Y, vN Z, vS 0 L.length] 40, rB [vI ((L.getD i default).x - 1), vI ((L.getD i default).y), vI ((L.getD i default).z)] 74]) (by kernel_rfl) ?_
          refine kSeq ?_
          refine cSeq ?_
          refine cReg ?_
          refine segH 5 (T1 := (mkT 37 [(1, vP 1 0), (3, vN i), (4, vI 0), (5, vP 2 0), (27, vI 0), (28, vP 2 0), (29, vI ((L.getD i default).x - 1)), (30, .bool (decide ((L.getD i default).x - 1 ≥ 0))), (31, .bool (decide ((L.getD i default).x - 1 ≥ 0)))])) (by kernel_rfl) ?_
          cases h2 : (decide ((L.getD i default).x - 1 ≥ 0) : Bool)
          ·
            have h2k := h2
            (try simp only [Bool.not_eq_true', Bool.not_eq_false', decide_eq_true_eq, decide_eq_false_iff_not, beq_iff_eq, bne_iff_ne, beq_eq_false_iff_ne, bne_eq_false_iff_eq, ne_eq, Decidable.not_not, Bool.and_eq_true, Bool.and_eq_false_imp, Bool.or_eq_true, Bool.or_eq_false_iff, Bool.not_eq_true, Int.not_lt, Int.not_le, ge_iff_le, gt_iff_lt] at h2)
            refine segEnd [1, 3, 4, 36] (T1 := (mkT 37 [(1, vP 1 0), (3, vN i), (4, vI 0), (36, .bool false)])) (H1 := [some ⟨a3s L, 74, false, false⟩, rB [vN X, vN Y, vN Z, vS 0 L.length] 40, rB [vI ((L.getD i default).x - 1), vI ((L.getD i default).y), vI ((L.getD i default).z)] 74]) (by kernel_rfl) ?_
            refine kSeq ?_
            refine cFalse (by kernel_rfl) ?_
            refine cSkip ?_
            refine kBlk ?_
            refine kSeq ?_
            refine cReg ?_
            refine segEndH [1, 3, 4] (T1 := (mkT 37 [(1, vP 1 0), (3, vN i), (4, vI 1)])) (by kernel_rfl) ?_
            exact kLoop (3 - 1) (mkT 37 [(1, vP 1 0), (3, vN i), (4, vI 1)]) [some ⟨a3s L, 74, false, false⟩, rB [vN X, vN Y, vN Z, vS 0 L.length] 40] (by omega) (wkDrop [1, 3, 4] _ rfl rfl ((closedL ⟨clF (flatA3 _ _ _ _), ⟨clX rfl, trivial⟩⟩)) (by kernel_rfl) rfl) ⟨1, (by omega), (by refine ⟨fun _ => ?_, fun _ => ?_, fun _ => ?_⟩ <;> first | omega | exact hin.1 (by omega) | exact hin.2.1 (by omega) | exact Or.inl (by omega) | exact Or.inr (by assumption) | exact Or.inr rfl), rfl, rfl, rfl⟩
          ·
            have h2k := h2
            (try simp only [Bool.not_eq_true', Bool.not_eq_false', decide_eq_true_eq, decide_eq_false_iff_not, beq_iff_eq, bne_iff_ne, beq_eq_false_iff_ne, bne_eq_false_iff_eq, ne_eq, Decidable.not_not, Bool.and_eq_true, Bool.and_eq_false_imp, Bool.or_eq_true, Bool.or_eq_false_iff, Bool.not_eq_true, Int.not_lt, Int.not_le, ge_iff_le, gt_iff_lt] at h2)
            refine seg 2 (T1 := (mkT 37 [(1, vP 1 0), (3, vN i), (4, vI 0), (5, vP 2 0), (27, vI 0), (28, vP 2 0), (29, vI ((L.getD i default).x - 1)), (30, .bool true), (31, .bool true), (32, .agg #[vN X, vN Y, vN Z, vS 0 L.length]), (33, .agg #[vI ((L.getD i default).x - 1), vI ((L.getD i default).y), vI ((L.getD i default).z)])])) (H1 := [some ⟨a3s L, 74, false, false⟩, rB [vN X, vN Y, vN Z, vS 0 L.length] 40, rB [vI ((L.getD i default).x - 1), vI ((L.getD i default).y), vI ((L.getD i default).z)] 74]) (by kernel_rfl) ?_
            refine rCall (v := .bool (hasL L ((L.getD i default).x - 1) ((L.getD i default).y) ((L.getD i default).z))) (args := [.agg #[vN X, vN Y, vN Z, vS 0 L.length], .agg #[vI ((L.getD i default).x - 1), vI ((L.getD i default).y), vI ((L.getD i default).z)]]) (by kernel_rfl) rfl (by kernel_rfl) (Sound.lay0 [0] (l2HasB X Y Z L ((L.getD i default).x - 1) ((L.getD i default).y) ((L.getD i default).z) (by first | assumption | omega | rfl | decide | exact HeapL.list _ _ _ _ | exact HeapL.nil _ _ _ | exact HeapL.all _ _ _ | (apply HeapL.lt64 <;> assumption) | (repeat' (first | assumption | apply or_lt64 | apply and_lt64 | apply andn_lt64 | apply pow_lt64 | (apply HeapL.lt64 <;> assumption)))) (by first | assumption | omega | rfl | decide | exact HeapL.list _ _ _ _ | exact HeapL.nil _ _ _ | exact HeapL.all _ _ _ | (apply HeapL.lt64 <;> assumption) | (repeat' (first | assumption | apply or_lt64 | apply and_lt64 | apply andn_lt64 | apply pow_lt64 | (apply HeapL.lt64 <;> assumption))))) ⟨rdF false (flatA3 _ _ _ _) rfl rfl, trivial⟩ rfl ⟨clF (flatA3 _ _ _ _), trivial⟩ rfl (by first | rfl | simp [mpV, mpA, mpS, mpP, renId, shift]) rfl) ?_
            refine segEnd [1, 3, 4, 36] (T1 := (mkT 37 [(1, vP 1 0), (3, vN i), (4, vI 0), (36, .bool (!(hasL L ((L.getD i default).x - 1) ((L.getD i default).y) ((L.getD i default).z))))])) (H1 := [some ⟨a3s L, 74, false, false⟩, rB [vN X, vN Y, vN Z, vS 0 L.length] 40, rB [vI ((L.getD i default).x - 1), vI ((L.getD i default).y), vI ((L.getD i default).z)] 74]) (by kernel_rfl) ?_
            refine kSeq ?_
            cases h3 : (hasL L ((L.getD i default).x - 1) ((L.getD i default).y) ((L.getD i default).z) : Bool)
            ·
              have h3k := h3
              (try simp only [Bool.not_eq_true', Bool.not_eq_false', decide_eq_true_eq, decide_eq_false_iff_not, beq_iff_eq, bne_iff_ne, beq_eq_false_iff_ne, bne_eq_false_iff_eq, ne_eq, Decidable.not_not, Bool.and_eq_true, Bool.and_eq_false_imp, Bool.or_eq_true, Bool.or_eq_false_iff, Bool.not_eq_true, Int.not_lt, Int.not_le, ge_iff_le, gt_iff_lt] at h3)
              refine cTrue (by kernel_rfl) ?_
              refine cSeq ?_
              refine cReg ?_
              refine segEndH [2] (T1 := (mkT 37 [(2, .bool false)])) (by kernel_rfl) ?_
              refine kSeq ?_
              refine cRet ?_
              refine kBlkR ?_
              refine kSeqR ?_
              refine kLoopR ?_
              refine kBlkR ?_
              refine kBlkR ?_
              refine kSeqR ?_
              refine kLoopR ?_
              refine kBlkR ?_
              refine kSeqR ?_
              -- end
              have he0 : (false : Bool) = stairS L := by first | exact stairS_yes (i := i) (by omega) ho | exact stairS_no (i := i) (by omega) (stairQ_no (by first | exact Or.inl ⟨by omega, by assumption⟩ | exact Or.inr (Or.inl ⟨by omega, by assumption⟩) | exact Or.inr (Or.inr ⟨by omega, by assumption⟩)))
              refine endCast (v1 := .bool false) (H1 := [some ⟨a3s L, 74, false, false⟩]) (by first | rfl | ((try rw [← he0]); done) | (simp only [← he0]; done)) (by first | rfl | ((try rw [← he0]); done) | (simp only [← he0]; done)) ?_
              exact endQ (Or.inr rfl) (l := [.bool false]) [rB [vN X, vN Y, vN Z, vS 0 L.length] 40, rB [vI ((L.getD i default).x - 1), vI ((L.getD i default).y), vI ((L.getD i default).z)] 74] (by kernel_rfl) (by first | rfl | kernel_rfl) rfl rfl hcl rfl
            ·
              have h3k := h3
              (try simp only [Bool.not_eq_true', Bool.not_eq_false', decide_eq_true_eq, decide_eq_false_iff_not, beq_iff_eq, bne_iff_ne, beq_eq_false_iff_ne, bne_eq_false_iff_eq, ne_eq, Decidable.not_not, Bool.and_eq_true, Bool.and_eq_false_imp, Bool.or_eq_true, Bool.or_eq_false_iff, Bool.not_eq_true, Int.not_lt, Int.not_le, ge_iff_le, gt_iff_lt] at h3)
              refine cFalse (by kernel_rfl) ?_
              refine cSkip ?_
              refine kBlk ?_
              refine kSeq ?_
              refine cReg ?_
              refine segEndH [1, 3, 4] (T1 := (mkT 37 [(1, vP 1 0), (3, vN i), (4, vI 1)])) (by kernel_rfl) ?_
              exact kLoop (3 - 1) (mkT 37 [(1, vP 1 0), (3, vN i), (4, vI 1)]) [some ⟨a3s L, 74, false, false⟩, rB [vN X, vN Y, vN Z, vS 0 L.length] 40] (by omega) (wkDrop [1, 3, 4] _ rfl rfl ((closedL ⟨clF (flatA3 _ _ _ _), ⟨clX rfl, trivial⟩⟩)) (by kernel_rfl) rfl) ⟨1, (by omega), (by refine ⟨fun _ => ?_, fun _ => ?_, fun _ => ?_⟩ <;> first | omega | exact hin.1 (by omega) | exact hin.2.1 (by omega) | exact Or.inl (by omega) | exact Or.inr (by assumption) | exact Or.inr rfl), rfl, rfl, rfl⟩
        ·
          refine cSeq ?_
          refine cSeq ?_
          refine cReg ?_
          refine segEndH [1, 3, 4, 14] (T1 := (mkT 37 [(1, vP 1 0), (3, vN i), (4, vI 1), (14, .bool true)])) (by kernel_rfl) ?_
          refine kSeq ?_
          refine cTrue (by kernel_rfl) ?_
          refine cSkip ?_
          refine kSeq ?_
          refine cSeq ?_
          refine cBlk ?_
          refine cSeq ?_
          refine cReg ?_
          refine segH 3 (T1 := (mkT 37 [(1, vP 1 0), (3, vN i), (4, vI 1), (14, .bool true), (17, vP 1 3), (18, vS 0 L.length), (19, vN i)])) (by kernel_rfl) ?_
          refine rOp (v := vP 0 (i * 3)) (by kernel_rfl) (eIdxS (ad := ⟨0, 0, none⟩) (n := L.length) (m := 0) (k := .i64) (c := ((i : Nat) : Int)) (j := i) (o := i * 3) (by kernel_rfl) (by kernel_rfl) ti31 ti74 (rfl) (by omega) (by exact Nat.zero_add _)) ?_
          refine rOp (v := .agg #[vI ((L.getD i default).x), vI ((L.getD i default).y), vI ((L.getD i default).z)]) (by kernel_rfl) (eLdA3 (ad := ⟨0, i * 3, none⟩) (r := ⟨a3s L, 74, false, false⟩) (L := L) (j := i) (by kernel_rfl) (by kernel_rfl) rfl (by first | rfl | omega) (by omega) ti74) ?_
          refine segEnd [1, 3, 4, 5] (T1 := (mkT 37 [(1, vP 1 0), (3, vN i), (4, vI 1), (5, vP 2 0)])) (H1 := [some ⟨a3s L, 74, false, false⟩, rB [vN X, vN Y, vN Z, vS 0 L.length] 40, rB [vI ((L.getD i default).x), vI ((L.getD i default).y), vI ((L.getD i default).z)] 74]) (by kernel_rfl) ?_
          refine kSeq ?_
          refine cSeq ?_
          refine cReg ?_
          refine segH 3 (T1 := (mkT 37 [(1, vP 1 0), (3, vN i), (4, vI 1), (5, vP 2 0), (22, vI 1), (23, vP 2 1), (24, vI ((L.getD i default).y))])) (by kernel_rfl) ?_
          refine rOp (v := vI ((L.getD i default).y - 1)) (by kernel_rfl) (eSub (k := .i64) (a := ((L.getD i default).y)) (b := 1) (c := ((L.getD i default).y - 1)) (by kernel_rfl) (by kernel_rfl) (wr64 (by omega) (by omega) (by omega))) ?_
          refine segEnd [1, 3, 4, 5] (T1 := (mkT 37 [(1, vP 1 0), (3, vN i), (4, vI 1), (5, vP 2 0)])) (H1 := [some ⟨a3s L, 74, false, false⟩, rB [vN X, vN Y, vN Z, vS 0 L.length] 40, rB [vI ((L.getD i default).x), vI ((L.getD i default).y - 1), vI ((L.getD i default).z)] 74]) (by kernel_rfl) ?_
          refine kSeq ?_
          refine cSeq ?_
          refine cReg ?_
          refine segH 5 (T1 := (mkT 37 [(1, vP 1 0), (3, vN i), (4, vI 1), (5, vP 2 0), (27, vI 1), (28, vP 2 1), (29, vI ((L.getD i default).y - 1)), (30, .bool (decide ((L.getD i default).y - 1 ≥ 0))), (31, .bool (decide ((L.getD i default).y - 1 ≥ 0)))])) (by kernel_rfl) ?_
          cases h4 : (decide ((L.getD i default).y - 1 ≥ 0) : Bool)
          ·
            have h4k := h4
            (try simp only [Bool.not_eq_true', Bool.not_eq_false', decide_eq_true_eq, decide_eq_false_iff_not, beq_iff_eq, bne_iff_ne, beq_eq_false_iff_ne, bne_eq_false_iff_eq, ne_eq, Decidable.not_not, Bool.and_eq_true, Bool.and_eq_false_imp, Bool.or_eq_true, Bool.or_eq_false_iff, Bool.not_eq_true, Int.not_lt, Int.not_le, ge_iff_le, gt_iff_lt] at h4)
            refine segEnd [1, 3, 4, 36] (T1 := (mkT 37 [(1, vP 1 0), (3, vN i), (4, vI 1), (36, .bool false)])) (H1 := [some ⟨a3s L, 74, false, false⟩, rB [vN X, vN Y, vN Z, vS 0 L.length] 40, rB [vI ((L.getD i default).x), vI ((L.getD i default).y - 1), vI ((L.getD i default).z)] 74]) (by kernel_rfl) ?_
            refine kSeq ?_
            refine cFalse (by kernel_rfl) ?_
            refine cSkip ?_
            refine kBlk ?_
            refine kSeq ?_
            refine cReg ?_
            refine segEndH [1, 3, 4] (T1 := (mkT 37 [(1, vP 1 0), (3, vN i), (4, vI 2)])) (by kernel_rfl) ?_
            exact kLoop (3 - 2) (mkT 37 [(1, vP 1 0), (3, vN i), (4, vI 2)]) [some ⟨a3s L, 74, false, false⟩, rB [vN X, vN Y, vN Z, vS 0 L.length] 40] (by omega) (wkDrop [1, 3, 4] _ rfl rfl ((closedL ⟨clF (flatA3 _ _ _ _), ⟨clX rfl, trivial⟩⟩)) (by kernel_rfl) rfl) ⟨2, (by omega), (by refine ⟨fun _ => ?_, fun _ => ?_, fun _ => ?_⟩ <;> first | omega | exact hin.1 (by omega) | exact hin.2.1 (by omega) | exact Or.inl (by omega) | exact Or.inr (by assumption) | exact Or.inr rfl), rfl, rfl, rfl⟩
          ·
            have h4k := h4
            (try simp only [Bool.not_eq_true', Bool.not_eq_false', decide_eq_true_eq, decide_eq_false_iff_not, beq_iff_eq, bne_iff_ne, beq_eq_false_iff_ne, bne_eq_false_iff_eq, ne_eq, Decidable.not_not, Bool.and_eq_true, Bool.and_eq_false_imp, Bool.or_eq_true, Bool.or_eq_false_iff, Bool.not_eq_true, Int.not_lt, Int.not_le, ge_iff_le, gt_iff_lt] at h4)
            refine seg 2 (T1 := (mkT 37 [(1, vP 1 0), (3, vN i), (4, vI 1), (5, vP 2 0), (27, vI 1), (28, vP 2 1), (29, vI ((L.getD i default).y - 1)), (30, .bool true), (31, .bool true), (32, .agg #[vN X, vN Y, vN Z, vS 0 L.length]), (33, .agg #[vI ((L.getD i default).x), vI ((L.getD i default).y - 1), vI ((L.getD i default).z)])])) (H1 := [some ⟨a3s L, 74, false, false⟩, rB [vN X, vN Y, vN Z, vS 0 L.length] 40, rB [vI ((L.getD i default).x), vI ((L.getD i default).y - 1), vI ((L.getD i default).z)] 74]) (by kernel_rfl) ?_
            refine rCall (v := .bool (hasL L ((L.getD i default).x) ((L.getD i default).y - 1) ((L.getD i default).z))) (args := [.agg #[vN X, vN Y, vN Z, vS 0 L.length], .agg #[vI ((L.getD i default).x), vI ((L.getD i default).y - 1), vI ((L.getD i default).z)]]) (by kernel_rfl) rfl (by kernel_rfl) (Sound.lay0 [0] (l2HasB X Y Z L ((L.getD i default).x) ((L.getD i default).y - 1) ((L.getD i default).z) (by first | assumption | omega | rfl | decide | exact HeapL.list _ _ _ _ | exact HeapL.nil _ _ _ | exact HeapL.all _ _ _ | (apply HeapL.lt64 <;> assumption) | (repeat' (first | assumption | apply or_lt64 | apply and_lt64 | apply andn_lt64 | apply pow_lt64 | (apply HeapL.lt64 <;> assumption)))) (by first | assumption | omega | rfl | decide | exact HeapL.list _ _ _ _ | exact HeapL.nil _ _ _ | exact HeapL.all _ _ _ | (apply HeapL.lt64 <;> assumption) | (repeat' (first | assumption | apply or_lt64 | apply and_lt64 | apply andn_lt64 | apply pow_lt64 | (apply HeapL.lt64 <;> assumption))))) ⟨rdF false (flatA3 _ _ _ _) rfl rfl, trivial⟩ rfl ⟨clF (flatA3 _ _ _ _), trivial⟩ rfl (by first | rfl | simp [mpV, mpA, mpS, mpP, renId, shift]) rfl) ?_
            refine segEnd [1, 3, 4, 36] (T1 := (mkT 37 [(1, vP 1 0), (3, vN i), (4, vI 1), (36, .bool (!(hasL L ((L.getD i default).x) ((L.getD i default).y - 1) ((L.getD i default).z))))])) (H1 := [some ⟨a3s L, 74, false, false⟩, rB [vN X, vN Y, vN Z, vS 0 L.length] 40, rB [vI ((L.getD i default).x), vI ((L.getD i default).y - 1), vI ((L.getD i default).z)] 74]) (by kernel_rfl) ?_
            refine kSeq ?_
            cases h5 : (hasL L ((L.getD i default).x) ((L.getD i default).y - 1) ((L.getD i default).z) : Bool)
            ·
              have h5k := h5
              (try simp only [Bool.not_eq_true', Bool.not_eq_false', decide_eq_true_eq, decide_eq_false_iff_not, beq_iff_eq, bne_iff_ne, beq_eq_false_iff_ne, bne_eq_false_iff_eq, ne_eq, Decidable.not_not, Bool.and_eq_true, Bool.and_eq_false_imp, Bool.or_eq_true, Bool.or_eq_false_iff, Bool.not_eq_true, Int.not_lt, Int.not_le, ge_iff_le, gt_iff_lt] at h5)
              refine cTrue (by kernel_rfl) ?_
              refine cSeq ?_
              refine cReg ?_
              refine segEndH [2] (T1 := (mkT 37 [(2, .bool false)])) (by kernel_rfl) ?_
              refine kSeq ?_
              refine cRet ?_
              refine kBlkR ?_
              refine kSeqR ?_
              refine kLoopR ?_
              refine kBlkR ?_
              refine kBlkR ?_
              refine kSeqR ?_
              refine kLoopR ?_
              refine kBlkR ?_
              refine kSeqR ?_
              -- end
              have he0 : (false : Bool) = stairS L := by first | exact stairS_yes (i := i) (by omega) ho | exact stairS_no (i := i) (by omega) (stairQ_no (by first | exact Or.inl ⟨by omega, by assumption⟩ | exact Or.inr (Or.inl ⟨by omega, by assumption⟩) | exact Or.inr (Or.inr ⟨by omega, by assumption⟩)))
              refine endCast (v1 := .bool false) (H1 := [some ⟨a3s L, 74, false, false⟩]) (by first | rfl | ((try rw [← he0]); done) | (simp only [← he0]; done)) (by first | rfl | ((try rw [← he0]); done) | (simp only [← he0]; done)) ?_
              exact endQ (Or.inr rfl) (l := [.bool false]) [rB [vN X, vN Y, vN Z, vS 0 L.length] 40, rB [vI ((L.getD i default).x), vI ((L.getD i default).y - 1), vI ((L.getD i default).z)] 74] (by kernel_rfl) (by first | rfl | kernel_rfl) rfl rfl hcl rfl
            ·
              have h5k := h5
              (try simp only [Bool.not_eq_true', Bool.not_eq_false', decide_eq_true_eq, decide_eq_false_iff_not, beq_iff_eq, bne_iff_ne, beq_eq_false_iff_ne, bne_eq_false_iff_eq, ne_eq, Decidable.not_not, Bool.and_eq_true, Bool.and_eq_false_imp, Bool.or_eq_true, Bool.or_eq_false_iff, Bool.not_eq_true, Int.not_lt, Int.not_le, ge_iff_le, gt_iff_lt] at h5)
              refine cFalse (by kernel_rfl) ?_
              refine cSkip ?_
              refine kBlk ?_
              refine kSeq ?_
              refine cReg ?_
              refine segEndH [1, 3, 4] (T1 := (mkT 37 [(1, vP 1 0), (3, vN i), (4, vI 2)])) (by kernel_rfl) ?_
              exact kLoop (3 - 2) (mkT 37 [(1, vP 1 0), (3, vN i), (4, vI 2)]) [some ⟨a3s L, 74, false, false⟩, rB [vN X, vN Y, vN Z, vS 0 L.length] 40] (by omega) (wkDrop [1, 3, 4] _ rfl rfl ((closedL ⟨clF (flatA3 _ _ _ _), ⟨clX rfl, trivial⟩⟩)) (by kernel_rfl) rfl) ⟨2, (by omega), (by refine ⟨fun _ => ?_, fun _ => ?_, fun _ => ?_⟩ <;> first | omega | exact hin.1 (by omega) | exact hin.2.1 (by omega) | exact Or.inl (by omega) | exact Or.inr (by assumption) | exact Or.inr rfl), rfl, rfl, rfl⟩
        ·
          refine cSeq ?_
          refine cSeq ?_
          refine cReg ?_
          refine segEndH [1, 3, 4, 14] (T1 := (mkT 37 [(1, vP 1 0), (3, vN i), (4, vI 2), (14, .bool true)])) (by kernel_rfl) ?_
          refine kSeq ?_
          refine cTrue (by kernel_rfl) ?_
          refine cSkip ?_
          refine kSeq ?_
          refine cSeq ?_
          refine cBlk ?_
          refine cSeq ?_
          refine cReg ?_
          refine segH 3 (T1 := (mkT 37 [(1, vP 1 0), (3, vN i), (4, vI 2), (14, .bool true), (17, vP 1 3), (18, vS 0 L.length), (19, vN i)])) (by kernel_rfl) ?_
          refine rOp (v := vP 0 (i * 3)) (by kernel_rfl) (eIdxS (ad := ⟨0, 0, none⟩) (n := L.length) (m := 0) (k := .i64) (c := ((i : Nat) : Int)) (j := i) (o := i * 3) (by kernel_rfl) (by kernel_rfl) ti31 ti74 (rfl) (by omega) (by exact Nat.zero_add _)) ?_
          refine rOp (v := .agg #[vI ((L.getD i default).x), vI ((L.getD i default).y), vI ((L.getD i default).z)]) (by kernel_rfl) (eLdA3 (ad := ⟨0, i * 3, none⟩) (r := ⟨a3s L, 74, false, false⟩) (L := L) (j := i) (by kernel_rfl) (by kernel_rfl) rfl (by first | rfl | omega) (by omega) ti74) ?_
          refine segEnd [1, 3, 4, 5] (T1 := (mkT 37 [(1, vP 1 0), (3, vN i), (4, vI 2), (5, vP 2 0)])) (H1 := [some ⟨a3s L, 74, false, false⟩, rB [vN X, vN Y, vN Z, vS 0 L.length] 40, rB [vI ((L.getD i default).x), vI ((L.getD i default).y), vI ((L.getD i default).z)] 74]) (by kernel_rfl) ?_
          refine kSeq ?_
          refine cSeq ?_
          refine cReg ?_
          refine segH 3 (T1 := (mkT 37 [(1, vP 1 0), (3, vN i), (4, vI 2), (5, vP 2 0), (22, vI 2), (23, vP 2 2), (24, vI ((L.getD i default).z))])) (by kernel_rfl) ?_
          refine rOp (v := vI ((L.getD i default).z - 1)) (by kernel_rfl) (eSub (k := .i64) (a := ((L.getD i default).z)) (b := 1) (c := ((L.getD i default).z - 1)) (by kernel_rfl) (by kernel_rfl) (wr64 (by omega) (by omega) (by omega))) ?_
          refine segEnd [1, 3, 4, 5] (T1 := (mkT 37 [(1, vP 1 0), (3, vN i), (4, vI 2), (5, vP 2 0)])) (H1 := [some ⟨a3s L, 74, false, false⟩, rB [vN X, vN Y, vN Z, vS 0 L.length] 40, rB [vI ((L.getD i default).x), vI ((L.getD i default).y), vI ((L.getD i default).z - 1)] 74]) (by kernel_rfl) ?_
          refine kSeq ?_
          refine cSeq ?_
          refine cReg ?_
          refine segH 5 (T1 := (mkT 37 [(1, vP 1 0), (3, vN i), (4, vI 2), (5, vP 2 0), (27, vI 2), (28, vP 2 2), (29, vI ((L.getD i default).z - 1)), (30, .bool (decide ((L.getD i default).z - 1 ≥ 0))), (31, .bool (decide ((L.getD i default).z - 1 ≥ 0)))])) (by kernel_rfl) ?_
          cases h6 : (decide ((L.getD i default).z - 1 ≥ 0) : Bool)
          ·
            have h6k := h6
            (try simp only [Bool.not_eq_true', Bool.not_eq_false', decide_eq_true_eq, decide_eq_false_iff_not, beq_iff_eq, bne_iff_ne, beq_eq_false_iff_ne, bne_eq_false_iff_eq, ne_eq, Decidable.not_not, Bool.and_eq_true, Bool.and_eq_false_imp, Bool.or_eq_true, Bool.or_eq_false_iff, Bool.not_eq_true, Int.not_lt, Int.not_le, ge_iff_le, gt_iff_lt] at h6)
            refine segEnd [1, 3, 4, 36] (T1 := (mkT 37 [(1, vP 1 0), (3, vN i), (4, vI 2), (36, .bool false)])) (H1 := [some ⟨a3s L, 74, false, false⟩, rB [vN X, vN Y, vN Z, vS 0 L.length] 40, rB [vI ((L.getD i default).x), vI ((L.getD i default).y), vI ((L.getD i default).z - 1)] 74]) (by kernel_rfl) ?_
            refine kSeq ?_
            refine cFalse (by kernel_rfl) ?_
            refine cSkip ?_
            refine kBlk ?_
            refine kSeq ?_
            refine cReg ?_
            refine segEndH [1, 3, 4] (T1 := (mkT 37 [(1, vP 1 0), (3, vN i), (4, vI 3)])) (by kernel_rfl) ?_
            exact kLoop (3 - 3) (mkT 37 [(1, vP 1 0), (3, vN i), (4, vI 3)]) [some ⟨a3s L, 74, false, false⟩, rB [vN X, vN Y, vN Z, vS 0 L.length] 40] (by omega) (wkDrop [1, 3, 4] _ rfl rfl ((closedL ⟨clF (flatA3 _ _ _ _), ⟨clX rfl, trivial⟩⟩)) (by kernel_rfl) rfl) ⟨3, (by omega), (by refine ⟨fun _ => ?_, fun _ => ?_, fun _ => ?_⟩ <;> first | omega | exact hin.1 (by omega) | exact hin.2.1 (by omega) | exact Or.inl (by omega) | exact Or.inr (by assumption) | exact Or.inr rfl), rfl, rfl, rfl⟩
          ·
            have h6k := h6
            (try simp only [Bool.not_eq_true', Bool.not_eq_false', decide_eq_true_eq, decide_eq_false_iff_not, beq_iff_eq, bne_iff_ne, beq_eq_false_iff_ne, bne_eq_false_iff_eq, ne_eq, Decidable.not_not, Bool.and_eq_true, Bool.and_eq_false_imp, Bool.or_eq_true, Bool.or_eq_false_iff, Bool.not_eq_true, Int.not_lt, Int.not_le, ge_iff_le, gt_iff_lt] at h6)
            refine seg 2 (T1 := (mkT 37 [(1, vP 1 0), (3, vN i), (4, vI 2), (5, vP 2 0), (27, vI 2), (28, vP 2 2), (29, vI ((L.getD i default).z - 1)), (30, .bool true), (31, .bool true), (32, .agg #[vN X, vN Y, vN Z, vS 0 L.length]), (33, .agg #[vI ((L.getD i default).x), vI ((L.getD i default).y), vI ((L.getD i default).z - 1)])])) (H1 := [some ⟨a3s L, 74, false, false⟩, rB [vN X, vN Y, vN Z, vS 0 L.length] 40, rB [vI ((L.getD i default).x), vI ((L.getD i default).y), vI ((L.getD i default).z - 1)] 74]) (by kernel_rfl) ?_
            refine rCall (v := .bool (hasL L ((L.getD i default).x) ((L.getD i default).y) ((L.getD i default).z - 1))) (args := [.agg #[vN X, vN Y, vN Z, vS 0 L.length], .agg #[vI ((L.getD i default).x), vI ((L.getD i default).y), vI ((L.getD i default).z - 1)]]) (by kernel_rfl) rfl (by kernel_rfl) (Sound.lay0 [0] (l2HasB X Y Z L ((L.getD i default).x) ((L.getD i default).y) ((L.getD i default).z - 1) (by first | assumption | omega | rfl | decide | exact HeapL.list _ _ _ _ | exact HeapL.nil _ _ _ | exact HeapL.all _ _ _ | (apply HeapL.lt64 <;> assumption) | (repeat' (first | assumption | apply or_lt64 | apply and_lt64 | apply andn_lt64 | apply pow_lt64 | (apply HeapL.lt64 <;> assumption)))) (by first | assumption | omega | rfl | decide | exact HeapL.list _ _ _ _ | exact HeapL.nil _ _ _ | exact HeapL.all _ _ _ | (apply HeapL.lt64 <;> assumption) | (repeat' (first | assumption | apply or_lt64 | apply and_lt64 | apply andn_lt64 | apply pow_lt64 | (apply HeapL.lt64 <;> assumption))))) ⟨rdF false (flatA3 _ _ _ _) rfl rfl, trivial⟩ rfl ⟨clF (flatA3 _ _ _ _), trivial⟩ rfl (by first | rfl | simp [mpV, mpA, mpS, mpP, renId, shift]) rfl) ?_
            refine segEnd [1, 3, 4, 36] (T1 := (mkT 37 [(1, vP 1 0), (3, vN i), (4, vI 2), (36, .bool (!(hasL L ((L.getD i default).x) ((L.getD i default).y) ((L.getD i default).z - 1))))])) (H1 := [some ⟨a3s L, 74, false, false⟩, rB [vN X, vN Y, vN Z, vS 0 L.length] 40, rB [vI ((L.getD i default).x), vI ((L.getD i default).y), vI ((L.getD i default).z - 1)] 74]) (by kernel_rfl) ?_
            refine kSeq ?_
            cases h7 : (hasL L ((L.getD i default).x) ((L.getD i default).y) ((L.getD i default).z - 1) : Bool)
            ·
              have h7k := h7
              (try simp only [Bool.not_eq_true', Bool.not_eq_false', decide_eq_true_eq, decide_eq_false_iff_not, beq_iff_eq, bne_iff_ne, beq_eq_false_iff_ne, bne_eq_false_iff_eq, ne_eq, Decidable.not_not, Bool.and_eq_true, Bool.and_eq_false_imp, Bool.or_eq_true, Bool.or_eq_false_iff, Bool.not_eq_true, Int.not_lt, Int.not_le, ge_iff_le, gt_iff_lt] at h7)
              refine cTrue (by kernel_rfl) ?_
              refine cSeq ?_
              refine cReg ?_
              refine segEndH [2] (T1 := (mkT 37 [(2, .bool false)])) (by kernel_rfl) ?_
              refine kSeq ?_
              refine cRet ?_
              refine kBlkR ?_
              refine kSeqR ?_
              refine kLoopR ?_
              refine kBlkR ?_
              refine kBlkR ?_
              refine kSeqR ?_
              refine kLoopR ?_
              refine kBlkR ?_
              refine kSeqR ?_
              -- end
              have he0 : (false : Bool) = stairS L := by first | exact stairS_yes (i := i) (by omega) ho | exact stairS_no (i := i) (by omega) (stairQ_no (by first | exact Or.inl ⟨by omega, by assumption⟩ | exact Or.inr (Or.inl ⟨by omega, by assumption⟩) | exact Or.inr (Or.inr ⟨by omega, by assumption⟩)))
              refine endCast (v1 := .bool false) (H1 := [some ⟨a3s L, 74, false, false⟩]) (by first | rfl | ((try rw [← he0]); done) | (simp only [← he0]; done)) (by first | rfl | ((try rw [← he0]); done) | (simp only [← he0]; done)) ?_
              exact endQ (Or.inr rfl) (l := [.bool false]) [rB [vN X, vN Y, vN Z, vS 0 L.length] 40, rB [vI ((L.getD i default).x), vI ((L.getD i default).y), vI ((L.getD i default).z - 1)] 74] (by kernel_rfl) (by first | rfl | kernel_rfl) rfl rfl hcl rfl
            ·
              have h7k := h7
              (try simp only [Bool.not_eq_true', Bool.not_eq_false', decide_eq_true_eq, decide_eq_false_iff_not, beq_iff_eq, bne_iff_ne, beq_eq_false_iff_ne, bne_eq_false_iff_eq, ne_eq, Decidable.not_not, Bool.and_eq_true, Bool.and_eq_false_imp, Bool.or_eq_true, Bool.or_eq_false_iff, Bool.not_eq_true, Int.not_lt, Int.not_le, ge_iff_le, gt_iff_lt] at h7)
              refine cFalse (by kernel_rfl) ?_
              refine cSkip ?_
              refine kBlk ?_
              refine kSeq ?_
              refine cReg ?_
              refine segEndH [1, 3, 4] (T1 := (mkT 37 [(1, vP 1 0), (3, vN i), (4, vI 3)])) (by kernel_rfl) ?_
              exact kLoop (3 - 3) (mkT 37 [(1, vP 1 0), (3, vN i), (4, vI 3)]) [some ⟨a3s L, 74, false, false⟩, rB [vN X, vN Y, vN Z, vS 0 L.length] 40] (by omega) (wkDrop [1, 3, 4] _ rfl rfl ((closedL ⟨clF (flatA3 _ _ _ _), ⟨clX rfl, trivial⟩⟩)) (by kernel_rfl) rfl) ⟨3, (by omega), (by refine ⟨fun _ => ?_, fun _ => ?_, fun _ => ?_⟩ <;> first | omega | exact hin.1 (by omega) | exact hin.2.1 (by omega) | exact Or.inl (by omega) | exact Or.inr (by assumption) | exact Or.inr rfl), rfl, rfl, rfl⟩
        ·
          refine cSeq ?_
          refine cSeq ?_
          refine cReg ?_
          refine segEndH [1, 3, 4, 14] (T1 := (mkT 37 [(1, vP 1 0), (3, vN i), (4, vI 3), (14, .bool false)])) (by kernel_rfl) ?_
          refine kSeq ?_
          refine cFalse (by kernel_rfl) ?_
          refine cExit ?_
          refine kSeqE ?_
          refine kLoopE ?_
          refine kBlkHit ?_
          refine kBlk ?_
          refine kSeq ?_
          refine cReg ?_
          refine segH 1 (T1 := (mkT 37 [(1, vP 1 0), (3, vN i), (4, vI 3), (11, vN i), (14, .bool false)])) (by kernel_rfl) ?_
          refine rOp (v := vN (i + 1)) (by kernel_rfl) (eAdd (k := .i64) (a := ((i : Nat) : Int)) (b := 1) (c := ((i + 1 : Nat) : Int)) (by kernel_rfl) (by kernel_rfl) (wr64 (by omega) (by omega) (by omega))) ?_
          refine segEndH [1, 3] (T1 := (mkT 37 [(1, vP 1 0), (3, vN (i + 1))])) (by kernel_rfl) ?_
          exact kLoop (L.length - (i + 1)) (mkT 37 [(1, vP 1 0), (3, vN (i + 1))]) [some ⟨a3s L, 74, false, false⟩, rB [vN X, vN Y, vN Z, vS 0 L.length] 40] (by omega) (wkSame [1, 3] (by kernel_rfl)) ⟨(i + 1), (by omega), (fun j hj hl => by rcases Nat.lt_or_ge j i with h | h; exact ho j h hl; (have e : j = i := by omega); subst e; exact stairQ_of (hin.1 (by omega)) (hin.2.1 (by omega)) (hin.2.2 (by omega))), rfl, rfl, rfl⟩

set_option maxRecDepth 100000 in
set_option maxHeartbeats 4000000 in
theorem isStairH (X : Nat) (Y : Nat) (Z : Nat) (L : List A3) (hs : Sides X Y Z) (hL : HeapL X Y Z L) : Sound Try.prog 90 [.agg #[vN X, vN Y, vN Z, vS 0 L.length]] [some ⟨a3s L, 74, false, false⟩] (.bool (stairS L)) [some ⟨a3s L, 74, false, false⟩] := by
  refine sound_intro (C := cx) Try.func90 rfl (by kernel_rfl) fun hcl => ?_
  have hz := hs.size
  have hx0 := hs.x0
  have hx4 := hs.x4
  have hy0 := hs.y0
  have hy4 := hs.y4
  have hz0 := hs.z0
  have hz4 := hs.z4
  have hlen := hL.len
  have hlt := hL.lt64 hs
  refine cSeq ?_
  refine cReg ?_
  refine segEnd [1] (T1 := (mkT 12 [(1, vP 1 0)])) (H1 := [some ⟨a3s L, 74, false, false⟩, rB [vN X, vN Y, vN Z, vS 0 L.length] 40]) (by kernel_rfl) ?_
  refine kSeq ?_
  refine cSeq ?_
  refine cRegW (N := 2) [⟨[], [], [1]⟩, ⟨[], [], [0]⟩, ⟨[], [], []⟩, ⟨[], [], [1]⟩, ⟨[], [], [0]⟩, ⟨[], [], [1]⟩, ⟨[], [], [0]⟩, ⟨[], [], []⟩, ⟨[], [], []⟩, ⟨[], [], []⟩] 0 [] (by rfl) (by rfl) (by kernel_rfl) (by kernel_rfl) (by kernel_rfl) ⟨nmsF (flatA3 _ _ _ _), ⟨nmsX (by kernel_rfl), trivial⟩⟩ ?_
  refine segWH 1 (T1 := (mkT 12 [(1, vP 1 0), (3, .agg #[vN X, vN Y, vN Z, vS 0 L.length])])) (by kernel_rfl) ?_
  refine rW (m := ⟨[], [], [0]⟩) (v := .bool true) rfl (by kernel_rfl) (stQ (args := [.agg #[vN X, vN Y, vN Z, vS 0 L.length]]) rfl (by kernel_rfl) (Any.lay0 [0] (isHeapBt X Y Z L (by first | assumption | omega | rfl | decide | exact HeapL.list _ _ _ _ | exact HeapL.nil _ _ _ | exact HeapL.all _ _ _ | (apply HeapL.lt64 <;> assumption) | (repeat' (first | assumption | apply or_lt64 | apply and_lt64 | apply andn_lt64 | apply pow_lt64 | (apply HeapL.lt64 <;> assumption)))) (by first | assumption | omega | rfl | decide | exact HeapL.list _ _ _ _ | exact HeapL.nil _ _ _ | exact HeapL.all _ _ _ | (apply HeapL.lt64 <;> assumption) | (repeat' (first | assumption | apply or_lt64 | apply and_lt64 | apply andn_lt64 | apply pow_lt64 | (apply HeapL.lt64 <;> assumption))))) ⟨rdF false (flatA3 _ _ _ _) rfl rfl, trivial⟩ rfl ⟨clF (flatA3 _ _ _ _), trivial⟩ rfl (by first | rfl | simp [mpV, mpA, mpS, mpP, renId, shift]) rfl) rfl (by kernel_rfl) (by kernel_rfl)) (by kernel_rfl) nr0 ?_
  refine segWH 2 (T1 := (mkT 12 [(1, vP 1 0), (3, .agg #[vN X, vN Y, vN Z, vS 0 L.length]), (4, .bool true), (5, .bool true), (6, .agg #[vN X, vN Y, vN Z, vS 0 L.length])])) (by kernel_rfl) ?_
  refine rW (m := ⟨[], [], [0]⟩) (v := .agg #[vN X, vN Y, vN Z]) rfl (by kernel_rfl) (stQ (args := [.agg #[vN X, vN Y, vN Z, vS 0 L.length]]) rfl (by kernel_rfl) (Any.lay0 [0] (boxB ((X : Nat) : Int) ((Y : Nat) : Int) ((Z : Nat) : Int) L) ⟨rdF false (flatA3 _ _ _ _) rfl rfl, trivial⟩ rfl ⟨clF (flatA3 _ _ _ _), trivial⟩ rfl (by first | rfl | simp [mpV, mpA, mpS, mpP, renId, shift]) (by first | rfl | simp [mpV, mpA, mpS, mpP, renId, shift])) rfl (by kernel_rfl) (by kernel_rfl)) (by kernel_rfl) nr0 ?_
  refine segWH 1 (T1 := (mkT 12 [(1, vP 1 0), (3, .agg #[vN X, vN Y, vN Z, vS 0 L.length]), (4, .bool true), (5, .bool true), (6, .agg #[vN X, vN Y, vN Z, vS 0 L.length]), (7, .agg #[vN X, vN Y, vN Z]), (8, .agg #[vN X, vN Y, vN Z, vS 0 L.length])])) (by kernel_rfl) ?_
  refine rW (m := ⟨[], [], [0]⟩) (v := vU (setOf Y Z L)) rfl (by kernel_rfl) (stQ (args := [.agg #[vN X, vN Y, vN Z, vS 0 L.length]]) rfl (by kernel_rfl) (Any.lay0 [0] (cubesB X Y Z L (by first | assumption | omega | rfl | decide | exact HeapL.list _ _ _ _ | exact HeapL.nil _ _ _ | exact HeapL.all _ _ _ | (apply HeapL.lt64 <;> assumption) | (repeat' (first | assumption | apply or_lt64 | apply and_lt64 | apply andn_lt64 | apply pow_lt64 | (apply HeapL.lt64 <;> assumption)))) (by first | assumption | omega | rfl | decide | exact HeapL.list _ _ _ _ | exact HeapL.nil _ _ _ | exact HeapL.all _ _ _ | (apply HeapL.lt64 <;> assumption) | (repeat' (first | assumption | apply or_lt64 | apply and_lt64 | apply andn_lt64 | apply pow_lt64 | (apply HeapL.lt64 <;> assumption))))) ⟨rdF false (flatA3 _ _ _ _) rfl rfl, trivial⟩ rfl ⟨clF (flatA3 _ _ _ _), trivial⟩ rfl (by first | rfl | simp [mpV, mpA, mpS, mpP, renId, shift]) rfl) rfl (by kernel_rfl) (by kernel_rfl)) (by kernel_rfl) nr0 ?_
  refine rW (m := ⟨[], [], []⟩) (v := .bool (stairI X Y Z (setOf Y Z L))) rfl (by kernel_rfl) (stQ (args := [.agg #[vN X, vN Y, vN Z], vU (setOf Y Z L)]) rfl (by kernel_rfl) (Any.lay0 [] (boxStair X Y Z (setOf Y Z L) (by first | assumption | omega | rfl | decide | exact HeapL.list _ _ _ _ | exact HeapL.nil _ _ _ | exact HeapL.all _ _ _ | (apply HeapL.lt64 <;> assumption) | (repeat' (first | assumption | apply or_lt64 | apply and_lt64 | apply andn_lt64 | apply pow_lt64 | (apply HeapL.lt64 <;> assumption)))) (by first | assumption | omega | rfl | decide | exact HeapL.list _ _ _ _ | exact HeapL.nil _ _ _ | exact HeapL.all _ _ _ | (apply HeapL.lt64 <;> assumption) | (repeat' (first | assumption | apply or_lt64 | apply and_lt64 | apply andn_lt64 | apply pow_lt64 | (apply HeapL.lt64 <;> assumption))))) trivial rfl trivial rfl (by first | rfl | simp [mpV, mpA, mpS, mpP, renId, shift]) rfl) rfl (by kernel_rfl) (by kernel_rfl)) (by kernel_rfl) nr0 ?_
  refine segEndWH [2] (T1 := (mkT 12 [(2, .bool (stairI X Y Z (setOf Y Z L)))])) (by kernel_rfl) ?_
  refine kSeq ?_
  refine cRet ?_
  -- end
  have he0 : (stairI X Y Z (setOf Y Z L) : Bool) = stairS L := by exact stair_same hs hL
  refine endCast (v1 := .bool (stairI X Y Z (setOf Y Z L))) (H1 := [some ⟨a3s L, 74, false, false⟩]) (by first | rfl | ((try rw [← he0]); done) | (simp only [← he0]; done)) (by first | rfl | ((try rw [← he0]); done) | (simp only [← he0]; done)) ?_
  exact endQ (Or.inr rfl) (l := [.bool (stairI X Y Z (setOf Y Z L))]) [rB [vN X, vN Y, vN Z, vS 0 L.length] 40] (by kernel_rfl) (by first | rfl | kernel_rfl) rfl rfl hcl rfl

set_option maxRecDepth 100000 in
set_option maxHeartbeats 4000000 in
theorem specIsStair_no (x : Int) (y : Int) (z : Int) (L : List A3) (hl : L.length ≤ 1048576) (hv : isHeapB x y z L = false) : Sound Try.prog 41 [.agg #[vI x, vI y, vI z, vS 0 L.length]] [some ⟨a3s L, 74, false, false⟩] (.tuple #[.bool false, .bool false]) [some ⟨a3s L, 74, false, false⟩] := by
  refine sound_intro (C := cx) Try.func41 rfl (by kernel_rfl) fun hcl => ?_
  refine cSeq ?_
  refine cReg ?_
  refine segEnd [1] (T1 := (mkT 9 [(1, vP 1 0)])) (H1 := [some ⟨a3s L, 74, false, false⟩, rB [vI x, vI y, vI z, vS 0 L.length] 40]) (by kernel_rfl) ?_
  refine kSeq ?_
  refine cSeq ?_
  refine cSeq ?_
  refine cReg ?_
  refine segH 1 (T1 := (mkT 9 [(1, vP 1 0), (4, .agg #[vI x, vI y, vI z, vS 0 L.length])])) (by kernel_rfl) ?_
  refine rCall (v := .bool false) (args := [.agg #[vI x, vI y, vI z, vS 0 L.length]]) (by kernel_rfl) rfl (by kernel_rfl) (Sound.lay0 [0] (l2HeapB_no x y z L (by first | assumption | omega | rfl | decide | exact HeapL.list _ _ _ _ | exact HeapL.nil _ _ _ | exact HeapL.all _ _ _ | (apply HeapL.lt64 <;> assumption) | (repeat' (first | assumption | apply or_lt64 | apply and_lt64 | apply andn_lt64 | apply pow_lt64 | (apply HeapL.lt64 <;> assumption)))) (by first | assumption | omega | rfl | decide | exact HeapL.list _ _ _ _ | exact HeapL.nil _ _ _ | exact HeapL.all _ _ _ | (apply HeapL.lt64 <;> assumption) | (repeat' (first | assumption | apply or_lt64 | apply and_lt64 | apply andn_lt64 | apply pow_lt64 | (apply HeapL.lt64 <;> assumption))))) ⟨rdF false (flatA3 _ _ _ _) rfl rfl, trivial⟩ rfl ⟨clF (flatA3 _ _ _ _), trivial⟩ rfl (by first | rfl | simp [mpV, mpA, mpS, mpP, renId, shift]) rfl) ?_
  refine segEndH [1, 6] (T1 := (mkT 9 [(1, vP 1 0), (6, .bool true)])) (by kernel_rfl) ?_
  refine kSeq ?_
  refine cTrue (by kernel_rfl) ?_
  refine cSeq ?_
  refine cReg ?_
  refine segEndH [2, 3] (T1 := (mkT 9 [(2, .bool false), (3, .bool false)])) (by kernel_rfl) ?_
  refine kSeq ?_
  refine cRet ?_
  refine kSeqR ?_
  -- end
  exact endQ (Or.inr rfl) (l := [.bool false, .bool false]) [rB [vI x, vI y, vI z, vS 0 L.length] 40] (by kernel_rfl) (by first | rfl | kernel_rfl) rfl rfl hcl rfl

set_option maxRecDepth 100000 in
set_option maxHeartbeats 4000000 in
theorem specIsStair_yes (X : Nat) (Y : Nat) (Z : Nat) (L : List A3) (hs : Sides X Y Z) (hL : HeapL X Y Z L) : Sound Try.prog 41 [.agg #[vN X, vN Y, vN Z, vS 0 L.length]] [some ⟨a3s L, 74, false, false⟩] (.tuple #[.bool (stairS L), .bool true]) [some ⟨a3s L, 74, false, false⟩] := by
  refine sound_intro (C := cx) Try.func41 rfl (by kernel_rfl) fun hcl => ?_
  have hz := hs.size
  have hx0 := hs.x0
  have hx4 := hs.x4
  have hy0 := hs.y0
  have hy4 := hs.y4
  have hz0 := hs.z0
  have hz4 := hs.z4
  have hlen := hL.len
  have hlt := hL.lt64 hs
  refine cSeq ?_
  refine cReg ?_
  refine segEnd [1] (T1 := (mkT 9 [(1, vP 1 0)])) (H1 := [some ⟨a3s L, 74, false, false⟩, rB [vN X, vN Y, vN Z, vS 0 L.length] 40]) (by kernel_rfl) ?_
  refine kSeq ?_
  refine cSeq ?_
  refine cSeq ?_
  refine cReg ?_
  refine segH 1 (T1 := (mkT 9 [(1, vP 1 0), (4, .agg #[vN X, vN Y, vN Z, vS 0 L.length])])) (by kernel_rfl) ?_
  refine rCall (v := .bool true) (args := [.agg #[vN X, vN Y, vN Z, vS 0 L.length]]) (by kernel_rfl) rfl (by kernel_rfl) (Sound.lay0 [0] (l2HeapB X Y Z L (by first | assumption | omega | rfl | decide | exact HeapL.list _ _ _ _ | exact HeapL.nil _ _ _ | exact HeapL.all _ _ _ | (apply HeapL.lt64 <;> assumption) | (repeat' (first | assumption | apply or_lt64 | apply and_lt64 | apply andn_lt64 | apply pow_lt64 | (apply HeapL.lt64 <;> assumption)))) (by first | assumption | omega | rfl | decide | exact HeapL.list _ _ _ _ | exact HeapL.nil _ _ _ | exact HeapL.all _ _ _ | (apply HeapL.lt64 <;> assumption) | (repeat' (first | assumption | apply or_lt64 | apply and_lt64 | apply andn_lt64 | apply pow_lt64 | (apply HeapL.lt64 <;> assumption))))) ⟨rdF false (flatA3 _ _ _ _) rfl rfl, trivial⟩ rfl ⟨clF (flatA3 _ _ _ _), trivial⟩ rfl (by first | rfl | simp [mpV, mpA, mpS, mpP, renId, shift]) rfl) ?_
  refine segEndH [1, 6] (T1 := (mkT 9 [(1, vP 1 0), (6, .bool false)])) (by kernel_rfl) ?_
  refine kSeq ?_
  refine cFalse (by kernel_rfl) ?_
  refine cSkip ?_
  refine kSeq ?_
  refine cSeq ?_
  refine cReg ?_
  refine segH 1 (T1 := (mkT 9 [(1, vP 1 0), (6, .bool false), (7, .agg #[vN X, vN Y, vN Z, vS 0 L.length])])) (by kernel_rfl) ?_
  refine rCall (v := .bool (stairS L)) (args := [.agg #[vN X, vN Y, vN Z, vS 0 L.length]]) (by kernel_rfl) rfl (by kernel_rfl) (Sound.lay0 [0] (l5StairB X Y Z L (by first | assumption | omega | rfl | decide | exact HeapL.list _ _ _ _ | exact HeapL.nil _ _ _ | exact HeapL.all _ _ _ | (apply HeapL.lt64 <;> assumption) | (repeat' (first | assumption | apply or_lt64 | apply and_lt64 | apply andn_lt64 | apply pow_lt64 | (apply HeapL.lt64 <;> assumption)))) (by first | assumption | omega | rfl | decide | exact HeapL.list _ _ _ _ | exact HeapL.nil _ _ _ | exact HeapL.all _ _ _ | (apply HeapL.lt64 <;> assumption) | (repeat' (first | assumption | apply or_lt64 | apply and_lt64 | apply andn_lt64 | apply pow_lt64 | (apply HeapL.lt64 <;> assumption))))) ⟨rdF false (flatA3 _ _ _ _) rfl rfl, trivial⟩ rfl ⟨clF (flatA3 _ _ _ _), trivial⟩ rfl (by first | rfl | simp [mpV, mpA, mpS, mpP, renId, shift]) rfl) ?_
  refine segEndH [2, 3] (T1 := (mkT 9 [(2, .bool (stairS L)), (3, .bool true)])) (by kernel_rfl) ?_
  refine kSeq ?_
  refine cRet ?_
  -- end
  exact endQ (Or.inr rfl) (l := [.bool (stairS L), .bool true]) [rB [vN X, vN Y, vN Z, vS 0 L.length] 40] (by kernel_rfl) (by first | rfl | kernel_rfl) rfl rfl hcl rfl

set_option maxRecDepth 100000 in
set_option maxHeartbeats 4000000 in
theorem implIsStair_no (x : Int) (y : Int) (z : Int) (L : List A3) (hl : L.length ≤ 1048576) (hv : isHeapB x y z L = false) : Sound Try.prog 42 [.agg #[vI x, vI y, vI z, vS 0 L.length]] [some ⟨a3s L, 74, false, false⟩] (.tuple #[.bool false, .bool false]) [some ⟨a3s L, 74, false, false⟩] := by
  refine sound_intro (C := cx) Try.func42 rfl (by kernel_rfl) fun hcl => ?_
  refine cSeq ?_
  refine cReg ?_
  refine segEnd [1] (T1 := (mkT 9 [(1, vP 1 0)])) (H1 := [some ⟨a3s L, 74, false, false⟩, rB [vI x, vI y, vI z, vS 0 L.length] 40]) (by kernel_rfl) ?_
  refine kSeq ?_
  refine cSeq ?_
  refine cSeq ?_
  refine cReg ?_
  refine segH 1 (T1 := (mkT 9 [(1, vP 1 0), (4, .agg #[vI x, vI y, vI z, vS 0 L.length])])) (by kernel_rfl) ?_
  refine rCall (v := .bool false) (args := [.agg #[vI x, vI y, vI z, vS 0 L.length]]) (by kernel_rfl) rfl (by kernel_rfl) (Sound.lay0 [0] (isHeapBt_no x y z L (by first | assumption | omega | rfl | decide | exact HeapL.list _ _ _ _ | exact HeapL.nil _ _ _ | exact HeapL.all _ _ _ | (apply HeapL.lt64 <;> assumption) | (repeat' (first | assumption | apply or_lt64 | apply and_lt64 | apply andn_lt64 | apply pow_lt64 | (apply HeapL.lt64 <;> assumption)))) (by first | assumption | omega | rfl | decide | exact HeapL.list _ _ _ _ | exact HeapL.nil _ _ _ | exact HeapL.all _ _ _ | (apply HeapL.lt64 <;> assumption) | (repeat' (first | assumption | apply or_lt64 | apply and_lt64 | apply andn_lt64 | apply pow_lt64 | (apply HeapL.lt64 <;> assumption))))) ⟨rdF false (flatA3 _ _ _ _) rfl rfl, trivial⟩ rfl ⟨clF (flatA3 _ _ _ _), trivial⟩ rfl (by first | rfl | simp [mpV, mpA, mpS, mpP, renId, shift]) rfl) ?_
  refine segEndH [1, 6] (T1 := (mkT 9 [(1, vP 1 0), (6, .bool true)])) (by kernel_rfl) ?_
  refine kSeq ?_
  refine cTrue (by kernel_rfl) ?_
  refine cSeq ?_
  refine cReg ?_
  refine segEndH [2, 3] (T1 := (mkT 9 [(2, .bool false), (3, .bool false)])) (by kernel_rfl) ?_
  refine kSeq ?_
  refine cRet ?_
  refine kSeqR ?_
  -- end
  exact endQ (Or.inr rfl) (l := [.bool false, .bool false]) [rB [vI x, vI y, vI z, vS 0 L.length] 40] (by kernel_rfl) (by first | rfl | kernel_rfl) rfl rfl hcl rfl

set_option maxRecDepth 100000 in
set_option maxHeartbeats 4000000 in
theorem implIsStair_yes (X : Nat) (Y : Nat) (Z : Nat) (L : List A3) (hs : Sides X Y Z) (hL : HeapL X Y Z L) : Sound Try.prog 42 [.agg #[vN X, vN Y, vN Z, vS 0 L.length]] [some ⟨a3s L, 74, false, false⟩] (.tuple #[.bool (stairS L), .bool true]) [some ⟨a3s L, 74, false, false⟩] := by
  refine sound_intro (C := cx) Try.func42 rfl (by kernel_rfl) fun hcl => ?_
  have hz := hs.size
  have hx0 := hs.x0
  have hx4 := hs.x4
  have hy0 := hs.y0
  have hy4 := hs.y4
  have hz0 := hs.z0
  have hz4 := hs.z4
  have hlen := hL.len
  have hlt := hL.lt64 hs
  refine cSeq ?_
  refine cReg ?_
  refine segEnd [1] (T1 := (mkT 9 [(1, vP 1 0)])) (H1 := [some ⟨a3s L, 74, false, false⟩, rB [vN X, vN Y, vN Z, vS 0 L.length] 40]) (by kernel_rfl) ?_
  refine kSeq ?_
  refine cSeq ?_
  refine cSeq ?_
  refine cReg ?_
  refine segH 1 (T1 := (mkT 9 [(1, vP 1 0), (4, .agg #[vN X, vN Y, vN Z, vS 0 L.length])])) (by kernel_rfl) ?_
  refine rCall (v := .bool true) (args := [.agg #[vN X, vN Y, vN Z, vS 0 L.length]]) (by kernel_rfl) rfl (by kernel_rfl) (Sound.lay0 [0] (isHeapBt X Y Z L (by first | assumption | omega | rfl | decide | exact HeapL.list _ _ _ _ | exact HeapL.nil _ _ _ | exact HeapL.all _ _ _ | (apply HeapL.lt64 <;> assumption) | (repeat' (first | assumption | apply or_lt64 | apply and_lt64 | apply andn_lt64 | apply pow_lt64 | (apply HeapL.lt64 <;> assumption)))) (by first | assumption | omega | rfl | decide | exact HeapL.list _ _ _ _ | exact HeapL.nil _ _ _ | exact HeapL.all _ _ _ | (apply HeapL.lt64 <;> assumption) | (repeat' (first | assumption | apply or_lt64 | apply and_lt64 | apply andn_lt64 | apply pow_lt64 | (apply HeapL.lt64 <;> assumption))))) ⟨rdF false (flatA3 _ _ _ _) rfl rfl, trivial⟩ rfl ⟨clF (flatA3 _ _ _ _), trivial⟩ rfl (by first | rfl | simp [mpV, mpA, mpS, mpP, renId, shift]) rfl) ?_
  refine segEndH [1, 6] (T1 := (mkT 9 [(1, vP 1 0), (6, .bool false)])) (by kernel_rfl) ?_
  refine kSeq ?_
  refine cFalse (by kernel_rfl) ?_
  refine cSkip ?_
  refine kSeq ?_
  refine cSeq ?_
  refine cReg ?_
  refine segH 1 (T1 := (mkT 9 [(1, vP 1 0), (6, .bool false), (7, .agg #[vN X, vN Y, vN Z, vS 0 L.length])])) (by kernel_rfl) ?_
  refine rCall (v := .bool (stairS L)) (args := [.agg #[vN X, vN Y, vN Z, vS 0 L.length]]) (by kernel_rfl) rfl (by kernel_rfl) (Sound.lay0 [0] (isStairH X Y Z L (by first | assumption | omega | rfl | decide | exact HeapL.list _ _ _ _ | exact HeapL.nil _ _ _ | exact HeapL.all _ _ _ | (apply HeapL.lt64 <;> assumption) | (repeat' (first | assumption | apply or_lt64 | apply and_lt64 | apply andn_lt64 | apply pow_lt64 | (apply HeapL.lt64 <;> assumption)))) (by first | assumption | omega | rfl | decide | exact HeapL.list _ _ _ _ | exact HeapL.nil _ _ _ | exact HeapL.all _ _ _ | (apply HeapL.lt64 <;> assumption) | (repeat' (first | assumption | apply or_lt64 | apply and_lt64 | apply andn_lt64 | apply pow_lt64 | (apply HeapL.lt64 <;> assumption))))) ⟨rdF false (flatA3 _ _ _ _) rfl rfl, trivial⟩ rfl ⟨clF (flatA3 _ _ _ _), trivial⟩ rfl (by first | rfl | simp [mpV, mpA, mpS, mpP, renId, shift]) rfl) ?_
  refine segEndH [2, 3] (T1 := (mkT 9 [(2, .bool (stairS L)), (3, .bool true)])) (by kernel_rfl) ?_
  refine kSeq ?_
  refine cRet ?_
  -- end
  exact endQ (Or.inr rfl) (l := [.bool (stairS L), .bool true]) [rB [vN X, vN Y, vN Z, vS 0 L.length] 40] (by kernel_rfl) (by first | rfl | kernel_rfl) rfl rfl hcl rfl
end Go.Proofs.Ytbheeobnghlckaa
