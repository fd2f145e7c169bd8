/- Walks. No condition. -/
import Derived.Test.YtbheeobnghlckaaAmS4G7
import Derived.Test.YtbheeobnghlckaaAmP
set_option linter.unusedVariables false
set_option linter.unusedSimpArgs false
namespace Go.Proofs.Ytbheeobnghlckaa
open Go.Am Go.RowKit
theorem cubesB (X : Nat) (Y : Nat) (Z : Nat) (L : List A3) (hs : Sides X Y Z) (hL : HeapL X Y Z L) : Sound Try.prog 118 [.agg #[vN X, vN Y, vN Z, vS 0 L.length]] [some ⟨a3s L, 74, false, false⟩] (vU (setOf Y Z L)) [some ⟨a3s L, 74, false, false⟩] := by
  obtain ⟨p, rfl⟩ := hL; exact cubes_ok X Y Z hs.x0 hs.x4 hs.y0 hs.y4 hs.z0 hs.z4 p

theorem sizeB (X : Nat) (Y : Nat) (Z : Nat) (hs : Sides X Y Z) : Sound Try.prog 96 [.agg #[vN X, vN Y, vN Z]] [] (vN (X * Y * Z)) [] := by
  exact size_ok X Y Z hs.x4 hs.y4 hs.z4

theorem listB (X : Nat) (Y : Nat) (Z : Nat) (s : Nat) (hs : Sides X Y Z) (hlt : s < 18446744073709551616) : Sound Try.prog 111 [.agg #[vN X, vN Y, vN Z], vU s] [] (vS 0 ((listOf X Y Z s).length)) [some ⟨a3s (listOf X Y Z s), 74, false, true⟩] := by
  exact list_ok X Y Z s hs.x0 hs.x4 hs.y0 hs.y4 hs.z0 hs.z4 hlt

theorem boxB (x : Int) (y : Int) (z : Int) (L : List A3)  : Sound Try.prog 88 [.agg #[vI x, vI y, vI z, vS 0 L.length]] [some ⟨a3s L, 74, false, false⟩] (.agg #[vI x, vI y, vI z]) [some ⟨a3s L, 74, false, false⟩] := by
  exact box_ok x y z L

theorem l2HeapB_no (x : Int) (y : Int) (z : Int) (L : List A3) (hl : L.length ≤ 1048576) (hv : isHeapB x y z L = false) : Sound Try.prog 82 [.agg #[vI x, vI y, vI z, vS 0 L.length]] [some ⟨a3s L, 74, false, false⟩] (.bool false) [some ⟨a3s L, 74, false, false⟩] := by
  have h := l2Heap_ok x y z L hl; rw [hv] at h; exact h

theorem l2HeapB (X : Nat) (Y : Nat) (Z : Nat) (L : List A3) (hs : Sides X Y Z) (hL : HeapL X Y Z L) : Sound Try.prog 82 [.agg #[vN X, vN Y, vN Z, vS 0 L.length]] [some ⟨a3s L, 74, false, false⟩] (.bool true) [some ⟨a3s L, 74, false, false⟩] := by
  have h := l2Heap_ok X Y Z L (by have := hL.len; have := hs.size; omega); rw [isHeapB_of hs hL] at h; exact h

theorem isHeapBt_no (x : Int) (y : Int) (z : Int) (L : List A3) (hl : L.length ≤ 1048576) (hv : isHeapB x y z L = false) : Sound Try.prog 85 [.agg #[vI x, vI y, vI z, vS 0 L.length]] [some ⟨a3s L, 74, false, false⟩] (.bool false) [some ⟨a3s L, 74, false, false⟩] := by
  have h := implIsHeap_ok x y z L hl; rw [hv] at h; exact h

theorem isHeapBt (X : Nat) (Y : Nat) (Z : Nat) (L : List A3) (hs : Sides X Y Z) (hL : HeapL X Y Z L) : Sound Try.prog 85 [.agg #[vN X, vN Y, vN Z, vS 0 L.length]] [some ⟨a3s L, 74, false, false⟩] (.bool true) [some ⟨a3s L, 74, false, false⟩] := by
  have h := implIsHeap_ok X Y Z L (by have := hL.len; have := hs.size; omega); rw [isHeapB_of hs hL] at h; exact h

theorem withinB (n : Int) (lo : Int) (hi : Int)  : Sound Try.prog 68 [vI n, vI lo, vI hi] [] (.bool (inR n lo hi)) [] := by
  exact within_ok n lo hi

theorem l1InB (n : Int) (lo : Int) (hi : Int)  : Sound Try.prog 76 [vI n, vI lo, vI hi] [] (.bool (inR n lo hi)) [] := by
  exact l1In_ok n lo hi

theorem toHeapB (x : Int) (y : Int) (z : Int) (L : List A3) (hl : L.length ≤ 1048576) : Sound Try.prog 39 [.agg #[vI x, vI y, vI z, vS 0 L.length]] [some ⟨a3s L, 74, false, false⟩] (.agg #[vI x, vI y, vI z, vS 1 L.length]) [some ⟨a3s L, 74, false, false⟩, some ⟨a3s L, 74, false, true⟩] := by
  exact toHeap_ok x y z L hl

theorem toHeapN (x : Int) (y : Int) (z : Int)  : Sound Try.prog 39 [.agg #[vI x, vI y, vI z, .slice none 0 0]] [] (.agg #[vI x, vI y, vI z, vS 0 0]) [some ⟨[], 74, false, true⟩] := by
  exact toHeap_ok_nil x y z

theorem eqHeapB (x : Int) (y : Int) (z : Int) (L : List A3) (hl : L.length ≤ 1048576) : Sound Try.prog 32 [.agg #[vI x, vI y, vI z, vS 0 L.length], .agg #[vI x, vI y, vI z, vS 1 L.length]] [some ⟨a3s L, 74, false, false⟩, some ⟨a3s L, 74, false, false⟩] (.bool true) [some ⟨a3s L, 74, false, false⟩, some ⟨a3s L, 74, false, false⟩] := by
  exact eqHeap_same x y z L hl

set_option maxRecDepth 100000 in
set_option maxHeartbeats 4000000 in
theorem szA3S_S (L : List A3) (n : Nat) (hl : L.length ≤ n) (hn : n ≤ 1048576) : Sound Try.prog 20 [vS 0 L.length, vN n] [some ⟨a3s L, 74, false, false⟩] (vN (n - L.length)) [some ⟨a3s L, 74, false, false⟩] := by
  refine sound_intro (C := cx) Try.func20 rfl (by kernel_rfl) fun hcl => ?_
  refine cSeq ?_
  refine cReg ?_
  refine segEndH [0, 1] (T1 := (mkT 12 [(0, vS 0 L.length), (1, vN n)])) (by kernel_rfl) ?_
  refine kSeq ?_
  refine cSeq ?_
  refine cReg ?_
  refine segH 3 (T1 := (mkT 12 [(0, vS 0 L.length), (1, vN n), (5, vN n), (6, vS 0 L.length), (7, vN L.length)])) (by kernel_rfl) ?_
  refine rOp (v := vN (n - L.length)) (by kernel_rfl) (eSub (k := .i64) (a := ((n : Nat) : Int)) (b := ((L.length : Nat) : Int)) (c := ((n - L.length : Nat) : Int)) (by kernel_rfl) (by kernel_rfl)  (wr64 (by omega) (by omega) (by omega))) ?_
  refine segEndH [1] (T1 := (mkT 12 [(1, vN (n - L.length))])) (by kernel_rfl) ?_
  refine kSeq ?_
  refine cSeq ?_
  refine cSeq ?_
  refine cReg ?_
  refine segEndH [1, 10] (T1 := (mkT 12 [(1, vN (n - L.length)), (10, .bool (decide (((n - L.length : Nat) : Int) < 0)))])) (by kernel_rfl) ?_
  refine kSeq ?_
  cases h1 : (decide (((n - L.length : Nat) : Int) < 0) : Bool)
  ·
    (try simp only [Bool.not_eq_true', Bool.not_eq_false', decide_eq_true_eq, decide_eq_false_iff_not, beq_iff_eq, bne_iff_ne, beq_eq_false_iff_ne, bne_eq_false_iff_eq, ne_eq, Decidable.not_not, Bool.and_eq_true, Bool.and_eq_false_imp, Bool.or_eq_true, Bool.or_eq_false_iff, Bool.not_eq_true, Int.not_lt, Int.not_le, ge_iff_le, gt_iff_lt] at h1)
    refine cFalse (by kernel_rfl) ?_
    refine cSkip ?_
    refine kSeq ?_
    refine cSeq ?_
    refine cReg ?_
    refine segEndH [4] (T1 := (mkT 12 [(4, vN (n - L.length))])) (by kernel_rfl) ?_
    refine kSeq ?_
    refine cRet ?_
    -- end
    exact endQ (Or.inr rfl) (l := [vN (n - L.length)]) [] (by kernel_rfl) (by first | rfl | kernel_rfl) rfl rfl hcl rfl
  ·
    (try simp only [Bool.not_eq_true', Bool.not_eq_false', decide_eq_true_eq, decide_eq_false_iff_not, beq_iff_eq, bne_iff_ne, beq_eq_false_iff_ne, bne_eq_false_iff_eq, ne_eq, Decidable.not_not, Bool.and_eq_true, Bool.and_eq_false_imp, Bool.or_eq_true, Bool.or_eq_false_iff, Bool.not_eq_true, Int.not_lt, Int.not_le, ge_iff_le, gt_iff_lt] at h1)
    exfalso; omega

set_option maxRecDepth 100000 in
set_option maxHeartbeats 4000000 in
theorem szA3S_G (L : List A3) (n : Nat) (hl : n < L.length) (hm : L.length ≤ 9223372036854775807) (hn : n ≤ 1048576) : Sound Try.prog 20 [vS 0 L.length, vN n] [some ⟨a3s L, 74, false, false⟩] (vI (-1)) [some ⟨a3s L, 74, false, false⟩] := by
  refine sound_intro (C := cx) Try.func20 rfl (by kernel_rfl) fun hcl => ?_
  refine cSeq ?_
  refine cReg ?_
  refine segEndH [0, 1] (T1 := (mkT 12 [(0, vS 0 L.length), (1, vN n)])) (by kernel_rfl) ?_
  refine kSeq ?_
  refine cSeq ?_
  refine cReg ?_
  refine segH 3 (T1 := (mkT 12 [(0, vS 0 L.length), (1, vN n), (5, vN n), (6, vS 0 L.length), (7, vN L.length)])) (by kernel_rfl) ?_
  refine rOp (v := vI (((n : Nat) : Int) - ((L.length : Nat) : Int))) (by kernel_rfl) (eSub (k := .i64) (a := ((n : Nat) : Int)) (b := ((L.length : Nat) : Int)) (c := (((n : Nat) : Int) - ((L.length : Nat) : Int))) (by kernel_rfl) (by kernel_rfl)  (wr64 (by omega) (by omega) rfl)) ?_
  refine segEndH [1] (T1 := (mkT 12 [(1, vI (((n : Nat) : Int) - ((L.length : Nat) : Int)))])) (by kernel_rfl) ?_
  refine kSeq ?_
  refine cSeq ?_
  refine cSeq ?_
  refine cReg ?_
  refine segEndH [1, 10] (T1 := (mkT 12 [(1, vI (((n : Nat) : Int) - ((L.length : Nat) : Int))), (10, .bool (decide (((n : Nat) : Int) - ((L.length : Nat) : Int) < 0)))])) (by kernel_rfl) ?_
  refine kSeq ?_
  cases h1 : (decide (((n : Nat) : Int) - ((L.length : Nat) : Int) < 0) : Bool)
  ·
    (try simp only [Bool.not_eq_true', Bool.not_eq_false', decide_eq_true_eq, decide_eq_false_iff_not, beq_iff_eq, bne_iff_ne, beq_eq_false_iff_ne, bne_eq_false_iff_eq, ne_eq, Decidable.not_not, Bool.and_eq_true, Bool.and_eq_false_imp, Bool.or_eq_true, Bool.or_eq_false_iff, Bool.not_eq_true, Int.not_lt, Int.not_le, ge_iff_le, gt_iff_lt] at h1)
    exfalso; omega
  ·
    (try simp only [Bool.not_eq_true', Bool.not_eq_false', decide_eq_true_eq, decide_eq_false_iff_not, beq_iff_eq, bne_iff_ne, beq_eq_false_iff_ne, bne_eq_false_iff_eq, ne_eq, Decidable.not_not, Bool.and_eq_true, Bool.and_eq_false_imp, Bool.or_eq_true, Bool.or_eq_false_iff, Bool.not_eq_true, Int.not_lt, Int.not_le, ge_iff_le, gt_iff_lt] at h1)
    refine cTrue (by kernel_rfl) ?_
    refine cSeq ?_
    refine cReg ?_
    refine segEndH [4] (T1 := (mkT 12 [(4, vI (-1))])) (by kernel_rfl) ?_
    refine kSeq ?_
    refine cRet ?_
    refine kSeqR ?_
    -- end
    exact endQ (Or.inr rfl) (l := [vI (-1)]) [] (by kernel_rfl) (by first | rfl | kernel_rfl) rfl rfl hcl rfl

set_option maxRecDepth 100000 in
set_option maxHeartbeats 4000000 in
theorem szA3S_N (n : Nat) (hn : n ≤ 1048576) : Sound Try.prog 20 [.slice none 0 0, vN n] [] (vN n) [] := by
  refine sound_intro (C := cx) Try.func20 rfl (by kernel_rfl) fun hcl => ?_
  refine cSeq ?_
  refine cReg ?_
  refine segEndH [0, 1] (T1 := (mkT 12 [(0, .slice none 0 0), (1, vN n)])) (by kernel_rfl) ?_
  refine kSeq ?_
  refine cSeq ?_
  refine cReg ?_
  refine segH 3 (T1 := (mkT 12 [(0, .slice none 0 0), (1, vN n), (5, vN n), (6, .slice none 0 0), (7, vI 0)])) (by kernel_rfl) ?_
  refine rOp (v := vN n) (by kernel_rfl) (eSub (k := .i64) (a := ((n : Nat) : Int)) (b := 0) (c := ((n : Nat) : Int)) (by kernel_rfl) (by kernel_rfl) (wr64 (by omega) (by omega) (by omega))) ?_
  refine segEndH [1] (T1 := (mkT 12 [(1, vN n)])) (by kernel_rfl) ?_
  refine kSeq ?_
  refine cSeq ?_
  refine cSeq ?_
  refine cReg ?_
  refine segEndH [1, 10] (T1 := (mkT 12 [(1, vN n), (10, .bool (decide (((n : Nat) : Int) < 0)))])) (by kernel_rfl) ?_
  refine kSeq ?_
  cases h1 : (decide (((n : Nat) : Int) < 0) : Bool)
  ·
    (try simp only [Bool.not_eq_true', Bool.not_eq_false', decide_eq_true_eq, decide_eq_false_iff_not, beq_iff_eq, bne_iff_ne, beq_eq_false_iff_ne, bne_eq_false_iff_eq, ne_eq, Decidable.not_not, Bool.and_eq_true, Bool.and_eq_false_imp, Bool.or_eq_true, Bool.or_eq_false_iff, Bool.not_eq_true, Int.not_lt, Int.not_le, ge_iff_le, gt_iff_lt] at h1)
    refine cFalse (by kernel_rfl) ?_
    refine cSkip ?_
    refine kSeq ?_
    refine cSeq ?_
    refine cReg ?_
    refine segEndH [4] (T1 := (mkT 12 [(4, vN n)])) (by kernel_rfl) ?_
    refine kSeq ?_
    refine cRet ?_
    -- end
    exact endQ (Or.inr rfl) (l := [vN n]) [] (by kernel_rfl) (by first | rfl | kernel_rfl) rfl rfl hcl rfl
  ·
    (try simp only [Bool.not_eq_true', Bool.not_eq_false', decide_eq_true_eq, decide_eq_false_iff_not, beq_iff_eq, bne_iff_ne, beq_eq_false_iff_ne, bne_eq_false_iff_eq, ne_eq, Decidable.not_not, Bool.and_eq_true, Bool.and_eq_false_imp, Bool.or_eq_true, Bool.or_eq_false_iff, Bool.not_eq_true, Int.not_lt, Int.not_le, ge_iff_le, gt_iff_lt] at h1)
    exfalso; omega

set_option maxRecDepth 100000 in
set_option maxHeartbeats 4000000 in
theorem szHeapN (x : Int) (y : Int) (z : Int) (n : Nat) (hn : n ≤ 1048576) : Sound Try.prog 37 [.agg #[vI x, vI y, vI z, .slice none 0 0], vN n] [] (vN n) [] := by
  refine sound_intro (C := cx) Try.func37 rfl (by kernel_rfl) fun hcl => ?_
  refine cSeq ?_
  refine cReg ?_
  refine segEnd [1, 2] (T1 := (mkT 12 [(1, vN n), (2, vP 0 0)])) (H1 := [rB [vI x, vI y, vI z, .slice none 0 0] 49]) (by kernel_rfl) ?_
  refine kSeq ?_
  refine cSeq ?_
  refine cReg ?_
  refine segH 3 (T1 := (mkT 12 [(1, vN n), (2, vP 0 0), (5, vP 0 3), (6, .slice none 0 0), (7, vN n)])) (by kernel_rfl) ?_
  refine rCall (v := vN n) (args := [.slice none 0 0, vN n]) (by kernel_rfl) rfl (by kernel_rfl) (Sound.lay0 [] (szA3S_N n (by first | omega | assumption | decide)) trivial rfl trivial rfl (by first | rfl | simp [mpV, mpA, mpS, mpP, renId, shift]) rfl) ?_
  refine segEndH [1] (T1 := (mkT 12 [(1, vN n)])) (by kernel_rfl) ?_
  refine kSeq ?_
  refine cSeq ?_
  refine cSeq ?_
  refine cReg ?_
  refine segEndH [1, 10] (T1 := (mkT 12 [(1, vN n), (10, .bool (decide (((n : Nat) : Int) < 0)))])) (by kernel_rfl) ?_
  refine kSeq ?_
  cases h1 : (decide (((n : Nat) : Int) < 0) : Bool)
  ·
    (try simp only [Bool.not_eq_true', Bool.not_eq_false', decide_eq_true_eq, decide_eq_false_iff_not, beq_iff_eq, bne_iff_ne, beq_eq_false_iff_ne, bne_eq_false_iff_eq, ne_eq, Decidable.not_not, Bool.and_eq_true, Bool.and_eq_false_imp, Bool.or_eq_true, Bool.or_eq_false_iff, Bool.not_eq_true, Int.not_lt, Int.not_le, ge_iff_le, gt_iff_lt] at h1)
    refine cFalse (by kernel_rfl) ?_
    refine cSkip ?_
    refine kSeq ?_
    refine cSeq ?_
    refine cReg ?_
    refine segEndH [4] (T1 := (mkT 12 [(4, vN n)])) (by kernel_rfl) ?_
    refine kSeq ?_
    refine cRet ?_
    -- end
    exact endQ (Or.inr rfl) (l := [vN n]) [rB [vI x, vI y, vI z, .slice none 0 0] 49] (by kernel_rfl) (by first | rfl | kernel_rfl) rfl rfl hcl rfl
  ·
    (try simp only [Bool.not_eq_true', Bool.not_eq_false', decide_eq_true_eq, decide_eq_false_iff_not, beq_iff_eq, bne_iff_ne, beq_eq_false_iff_ne, bne_eq_false_iff_eq, ne_eq, Decidable.not_not, Bool.and_eq_true, Bool.and_eq_false_imp, Bool.or_eq_true, Bool.or_eq_false_iff, Bool.not_eq_true, Int.not_lt, Int.not_le, ge_iff_le, gt_iff_lt] at h1)
    exfalso; omega

set_option maxRecDepth 100000 in
set_option maxHeartbeats 4000000 in
theorem szHeapS (x : Int) (y : Int) (z : Int) (L : List A3) (n : Nat) (hl : L.length ≤ n) (hn : n ≤ 1048576) : Sound Try.prog 37 [.agg #[vI x, vI y, vI z, vS 0 L.length], vN n] [some ⟨a3s L, 74, false, false⟩] (vN (n - L.length)) [some ⟨a3s L, 74, false, false⟩] := by
  refine sound_intro (C := cx) Try.func37 rfl (by kernel_rfl) fun hcl => ?_
  refine cSeq ?_
  refine cReg ?_
  refine segEnd [1, 2] (T1 := (mkT 12 [(1, vN n), (2, vP 1 0)])) (H1 := [some ⟨a3s L, 74, false, false⟩, rB [vI x, vI y, vI z, vS 0 L.length] 49]) (by kernel_rfl) ?_
  refine kSeq ?_
  refine cSeq ?_
  refine cReg ?_
  refine segH 3 (T1 := (mkT 12 [(1, vN n), (2, vP 1 0), (5, vP 1 3), (6, vS 0 L.length), (7, vN n)])) (by kernel_rfl) ?_
  refine rCall (v := vN (n - L.length)) (args := [vS 0 L.length, vN n]) (by kernel_rfl) rfl (by kernel_rfl) (Sound.lay0 [0] (szA3S_S L n (by first | omega | assumption | (simp; done)) (by first | omega | assumption | decide)) ⟨rdF false (flatA3 _ _ _ _) rfl rfl, trivial⟩ rfl ⟨clF (flatA3 _ _ _ _), trivial⟩ rfl (by first | rfl | simp [mpV, mpA, mpS, mpP, renId, shift]) rfl) ?_
  refine segEndH [1] (T1 := (mkT 12 [(1, vN (n - L.length))])) (by kernel_rfl) ?_
  refine kSeq ?_
  refine cSeq ?_
  refine cSeq ?_
  refine cReg ?_
  refine segEndH [1, 10] (T1 := (mkT 12 [(1, vN (n - L.length)), (10, .bool (decide (((n - L.length : Nat) : Int) < 0)))])) (by kernel_rfl) ?_
  refine kSeq ?_
  cases h1 : (decide (((n - L.length : Nat) : Int) < 0) : Bool)
  ·
    (try simp only [Bool.not_eq_true', Bool.not_eq_false', decide_eq_true_eq, decide_eq_false_iff_not, beq_iff_eq, bne_iff_ne, beq_eq_false_iff_ne, bne_eq_false_iff_eq, ne_eq, Decidable.not_not, Bool.and_eq_true, Bool.and_eq_false_imp, Bool.or_eq_true, Bool.or_eq_false_iff, Bool.not_eq_true, Int.not_lt, Int.not_le, ge_iff_le, gt_iff_lt] at h1)
    refine cFalse (by kernel_rfl) ?_
    refine cSkip ?_
    refine kSeq ?_
    refine cSeq ?_
    refine cReg ?_
    refine segEndH [4] (T1 := (mkT 12 [(4, vN (n - L.length))])) (by kernel_rfl) ?_
    refine kSeq ?_
    refine cRet ?_
    -- end
    exact endQ (Or.inr rfl) (l := [vN (n - L.length)]) [rB [vI x, vI y, vI z, vS 0 L.length] 49] (by kernel_rfl) (by first | rfl | kernel_rfl) rfl rfl hcl rfl
  ·
    (try simp only [Bool.not_eq_true', Bool.not_eq_false', decide_eq_true_eq, decide_eq_false_iff_not, beq_iff_eq, bne_iff_ne, beq_eq_false_iff_ne, bne_eq_false_iff_eq, ne_eq, Decidable.not_not, Bool.and_eq_true, Bool.and_eq_false_imp, Bool.or_eq_true, Bool.or_eq_false_iff, Bool.not_eq_true, Int.not_lt, Int.not_le, ge_iff_le, gt_iff_lt] at h1)
    exfalso; omega

set_option maxRecDepth 100000 in
set_option maxHeartbeats 4000000 in
theorem szHeapG (x : Int) (y : Int) (z : Int) (L : List A3) (n : Nat) (hl : n < L.length) (hm : L.length ≤ 9223372036854775807) (hn : n ≤ 1048576) : Sound Try.prog 37 [.agg #[vI x, vI y, vI z, vS 0 L.length], vN n] [some ⟨a3s L, 74, false, false⟩] (vI (-1)) [some ⟨a3s L, 74, false, false⟩] := by
  refine sound_intro (C := cx) Try.func37 rfl (by kernel_rfl) fun hcl => ?_
  refine cSeq ?_
  refine cReg ?_
  refine segEnd [1, 2] (T1 := (mkT 12 [(1, vN n), (2, vP 1 0)])) (H1 := [some ⟨a3s L, 74, false, false⟩, rB [vI x, vI y, vI z, vS 0 L.length] 49]) (by kernel_rfl) ?_
  refine kSeq ?_
  refine cSeq ?_
  refine cReg ?_
  refine segH 3 (T1 := (mkT 12 [(1, vN n), (2, vP 1 0), (5, vP 1 3), (6, vS 0 L.length), (7, vN n)])) (by kernel_rfl) ?_
  refine rCall (v := vI (-1)) (args := [vS 0 L.length, vN n]) (by kernel_rfl) rfl (by kernel_rfl) (Sound.lay0 [0] (szA3S_G L n (by first | omega | assumption | (simp; done)) (by first | assumption | omega | rfl | decide | exact HeapL.list _ _ _ _ | exact HeapL.nil _ _ _ | exact HeapL.all _ _ _ | (apply HeapL.lt64 <;> assumption) | (repeat' (first | assumption | apply or_lt64 | apply and_lt64 | apply andn_lt64 | apply pow_lt64 | (apply HeapL.lt64 <;> assumption)))) (by first | omega | assumption | decide)) ⟨rdF false (flatA3 _ _ _ _) rfl rfl, trivial⟩ rfl ⟨clF (flatA3 _ _ _ _), trivial⟩ rfl (by first | rfl | simp [mpV, mpA, mpS, mpP, renId, shift]) rfl) ?_
  refine segEndH [1] (T1 := (mkT 12 [(1, vI (-1))])) (by kernel_rfl) ?_
  refine kSeq ?_
  refine cSeq ?_
  refine cSeq ?_
  refine cReg ?_
  refine segEndH [1, 10] (T1 := (mkT 12 [(1, vI (-1)), (10, .bool true)])) (by kernel_rfl) ?_
  refine kSeq ?_
  refine cTrue (by kernel_rfl) ?_
  refine cSeq ?_
  refine cReg ?_
  refine segEndH [4] (T1 := (mkT 12 [(4, vI (-1))])) (by kernel_rfl) ?_
  refine kSeq ?_
  refine cRet ?_
  refine kSeqR ?_
  -- end
  exact endQ (Or.inr rfl) (l := [vI (-1)]) [rB [vI x, vI y, vI z, vS 0 L.length] 49] (by kernel_rfl) (by first | rfl | kernel_rfl) rfl rfl hcl rfl
end Go.Proofs.Ytbheeobnghlckaa
