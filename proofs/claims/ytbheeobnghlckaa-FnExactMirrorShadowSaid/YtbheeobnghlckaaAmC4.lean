import Derived.Test.YtbheeobnghlckaaAmC3
set_option linter.unusedVariables false
set_option linter.unusedSimpArgs false
namespace Go.Proofs.Ytbheeobnghlckaa
open Go.Am Go.RowKit
set_option maxRecDepth 100000 in
set_option maxHeartbeats 4000000 in
theorem shListG0 (x : Int) (y : Int) (z : Int) (p : Nat) (q : Nat) (r : Nat) (A : List Int) (B : List Int) (C : List Int)  : Sound Try.prog 63 [.agg #[vI x, vI y, vI z, vS 0 p, vS 1 q, vS 2 r], vI 0] [nR A, nR B, nR C] (vS 2 r) [nR A, nR B, nR C] := by
 refine sound_intro (C := cx) Try.func63 rfl (by kernel_rfl) fun hcl => ?_
 refine cSeq ?_
 refine cReg ?_
 refine segEnd [1, 2] (T1 := (mkT 14 [(1, vI 0), (2, vP 3 0)])) (H1 := [nR A, nR B, nR C, rB [vI x, vI y, vI z, vS 0 p, vS 1 q, vS 2 r] 27]) (by kernel_rfl) ?_
 refine kSeq ?_
 refine cSeq ?_
 refine cReg ?_
 refine segEndH [4] (T1 := (mkT 14 [(4, vS 2 r)])) (by kernel_rfl) ?_
 refine kSeq ?_
 refine cRet ?_
 exact endQ (Or.inr rfl) (l := [vS 2 r]) [rB [vI x, vI y, vI z, vS 0 p, vS 1 q, vS 2 r] 27] (by kernel_rfl) (by first | rfl | kernel_rfl) rfl rfl hcl rfl
set_option maxRecDepth 100000 in
set_option maxHeartbeats 4000000 in
theorem shListG1 (x : Int) (y : Int) (z : Int) (p : Nat) (q : Nat) (r : Nat) (A : List Int) (B : List Int) (C : List Int)  : Sound Try.prog 63 [.agg #[vI x, vI y, vI z, vS 0 p, vS 1 q, vS 2 r], vI 1] [nR A, nR B, nR C] (vS 1 q) [nR A, nR B, nR C] := by
 refine sound_intro (C := cx) Try.func63 rfl (by kernel_rfl) fun hcl => ?_
 refine cSeq ?_
 refine cReg ?_
 refine segEnd [1, 2] (T1 := (mkT 14 [(1, vI 1), (2, vP 3 0)])) (H1 := [nR A, nR B, nR C, rB [vI x, vI y, vI z, vS 0 p, vS 1 q, vS 2 r] 27]) (by kernel_rfl) ?_
 refine kSeq ?_
 refine cSeq ?_
 refine cReg ?_
 refine segEndH [4] (T1 := (mkT 14 [(4, vS 1 q)])) (by kernel_rfl) ?_
 refine kSeq ?_
 refine cRet ?_
 exact endQ (Or.inr rfl) (l := [vS 1 q]) [rB [vI x, vI y, vI z, vS 0 p, vS 1 q, vS 2 r] 27] (by kernel_rfl) (by first | rfl | kernel_rfl) rfl rfl hcl rfl
set_option maxRecDepth 100000 in
set_option maxHeartbeats 4000000 in
theorem shListG2 (x : Int) (y : Int) (z : Int) (p : Nat) (q : Nat) (r : Nat) (A : List Int) (B : List Int) (C : List Int)  : Sound Try.prog 63 [.agg #[vI x, vI y, vI z, vS 0 p, vS 1 q, vS 2 r], vI 2] [nR A, nR B, nR C] (vS 0 p) [nR A, nR B, nR C] := by
 refine sound_intro (C := cx) Try.func63 rfl (by kernel_rfl) fun hcl => ?_
 refine cSeq ?_
 refine cReg ?_
 refine segEnd [1, 2] (T1 := (mkT 14 [(1, vI 2), (2, vP 3 0)])) (H1 := [nR A, nR B, nR C, rB [vI x, vI y, vI z, vS 0 p, vS 1 q, vS 2 r] 27]) (by kernel_rfl) ?_
 refine kSeq ?_
 refine cSeq ?_
 refine cReg ?_
 refine segEndH [4] (T1 := (mkT 14 [(4, vS 0 p)])) (by kernel_rfl) ?_
 refine kSeq ?_
 refine cRet ?_
 exact endQ (Or.inr rfl) (l := [vS 0 p]) [rB [vI x, vI y, vI z, vS 0 p, vS 1 q, vS 2 r] 27] (by kernel_rfl) (by first | rfl | kernel_rfl) rfl rfl hcl rfl
set_option maxRecDepth 100000 in
set_option maxHeartbeats 4000000 in
theorem specMirrorShadow_no (x : Int) (y : Int) (z : Int) (A : List Int) (B : List Int) (C : List Int) (k : Int) (hv : valid3 x y z = false) (hA : A.length ≤ 1048576) (hB : B.length ≤ 1048576) (hC : C.length ≤ 1048576) : Sound Try.prog 48 [.agg #[vI x, vI y, vI z, vS 0 A.length, vS 1 B.length, vS 2 C.length], vI k] [nR A, nR B, nR C] (.tuple #[.agg #[vI 0, vI 0, vI 0, .slice none 0 0, .slice none 0 0, .slice none 0 0], .bool false]) [nR A, nR B, nR C] := by
 refine sound_intro (C := cx) Try.func48 rfl (by kernel_rfl) fun hcl => ?_
 refine cSeq ?_
 refine cReg ?_
 refine segEnd [1, 2, 4] (T1 := (mkT 69 [(1, vI k), (2, vP 3 0), (4, vP 4 0)])) (H1 := [nR A, nR B, nR C, rB [vI x, vI y, vI z, vS 0 A.length, vS 1 B.length, vS 2 C.length] 27, rB [vI 0, vI 0, vI 0, .slice none 0 0, .slice none 0 0, .slice none 0 0] 27]) (by kernel_rfl) ?_
 refine kSeq ?_
 refine cSeq ?_
 refine cSeq ?_
 refine cReg ?_
 refine segH 1 (T1 := (mkT 69 [(1, vI k), (2, vP 3 0), (4, vP 4 0), (7, .agg #[vI x, vI y, vI z, vS 0 A.length, vS 1 B.length, vS 2 C.length])])) (by kernel_rfl) ?_
 refine rCall (v := .bool false) (args := [.agg #[vI x, vI y, vI z, vS 0 A.length, vS 1 B.length, vS 2 C.length]]) (by kernel_rfl) rfl (by kernel_rfl) (Sound.lay0 [0, 1, 2] (l3ShadowB_no x y z A B C (by first | assumption | omega | rfl | decide | exact HeapL.list _ _ _ _ | exact HeapL.nil _ _ _ | exact HeapL.all _ _ _ | (apply HeapL.lt64 <;> assumption) | (repeat' (first | assumption | apply or_lt64 | apply and_lt64 | apply andn_lt64 | apply pow_lt64 | (apply HeapL.lt64 <;> assumption)))) (by first | omega | assumption | (simp; done)) (by first | omega | assumption | (simp; done)) (by first | omega | assumption | (simp; done))) ⟨rdF false (flatNums _ _ _ _) rfl rfl, ⟨rdF false (flatNums _ _ _ _) rfl rfl, ⟨rdF false (flatNums _ _ _ _) rfl rfl, trivial⟩⟩⟩ rfl ⟨clF (flatNums _ _ _ _), ⟨clF (flatNums _ _ _ _), ⟨clF (flatNums _ _ _ _), trivial⟩⟩⟩ rfl (by first | rfl | simp [mpV, mpA, mpS, mpP, renId, shift]) rfl) ?_
 refine segEndH [1, 2, 4, 14] (T1 := (mkT 69 [(1, vI k), (2, vP 3 0), (4, vP 4 0), (14, .bool true)])) (by kernel_rfl) ?_
 refine kSeq ?_
 refine cTrue (by kernel_rfl) ?_
 refine cSeq ?_
 refine cReg ?_
 refine segEnd [4, 5] (T1 := (mkT 69 [(4, vP 4 0), (5, .bool false)])) (H1 := [nR A, nR B, nR C, rB [vI x, vI y, vI z, vS 0 A.length, vS 1 B.length, vS 2 C.length] 27, rB [vI 0, vI 0, vI 0, .slice none 0 0, .slice none 0 0, .slice none 0 0] 27]) (by kernel_rfl) ?_
 refine kSeq ?_
 refine cRet ?_
 refine kSeqR ?_
 exact endQ (Or.inr rfl) (l := [.agg #[vI 0, vI 0, vI 0, .slice none 0 0, .slice none 0 0, .slice none 0 0], .bool false]) [rB [vI x, vI y, vI z, vS 0 A.length, vS 1 B.length, vS 2 C.length] 27, rB [vI 0, vI 0, vI 0, .slice none 0 0, .slice none 0 0, .slice none 0 0] 27] (by kernel_rfl) (by first | rfl | kernel_rfl) rfl rfl hcl rfl
set_option maxRecDepth 100000 in
set_option maxHeartbeats 4000000 in
theorem specMirrorShadow_no2 (X : Nat) (Y : Nat) (Z : Nat) (A : List Int) (B : List Int) (C : List Int) (k : Int) (hs : Sides X Y Z) (hq : shadB X Y Z A B C = false) (hA : A.length ≤ 1048576) (hB : B.length ≤ 1048576) (hC : C.length ≤ 1048576) : Sound Try.prog 48 [.agg #[vN X, vN Y, vN Z, vS 0 A.length, vS 1 B.length, vS 2 C.length], vI k] [nR A, nR B, nR C] (.tuple #[.agg #[vI 0, vI 0, vI 0, .slice none 0 0, .slice none 0 0, .slice none 0 0], .bool false]) [nR A, nR B, nR C] := by
 refine sound_intro (C := cx) Try.func48 rfl (by kernel_rfl) fun hcl => ?_
 refine cSeq ?_
 refine cReg ?_
 refine segEnd [1, 2, 4] (T1 := (mkT 69 [(1, vI k), (2, vP 3 0), (4, vP 4 0)])) (H1 := [nR A, nR B, nR C, rB [vN X, vN Y, vN Z, vS 0 A.length, vS 1 B.length, vS 2 C.length] 27, rB [vI 0, vI 0, vI 0, .slice none 0 0, .slice none 0 0, .slice none 0 0] 27]) (by kernel_rfl) ?_
 refine kSeq ?_
 refine cSeq ?_
 refine cSeq ?_
 refine cReg ?_
 refine segH 1 (T1 := (mkT 69 [(1, vI k), (2, vP 3 0), (4, vP 4 0), (7, .agg #[vN X, vN Y, vN Z, vS 0 A.length, vS 1 B.length, vS 2 C.length])])) (by kernel_rfl) ?_
 refine rCall (v := .bool (shadB X Y Z A B C)) (args := [.agg #[vN X, vN Y, vN Z, vS 0 A.length, vS 1 B.length, vS 2 C.length]]) (by kernel_rfl) rfl (by kernel_rfl) (Sound.lay0 [0, 1, 2] (l3ShadowB_yes X Y Z A B C (by first | assumption | omega | rfl | decide | exact HeapL.list _ _ _ _ | exact HeapL.nil _ _ _ | exact HeapL.all _ _ _ | (apply HeapL.lt64 <;> assumption) | (repeat' (first | assumption | apply or_lt64 | apply and_lt64 | apply andn_lt64 | apply pow_lt64 | (apply HeapL.lt64 <;> assumption)))) (by first | omega | assumption | (simp; done)) (by first | omega | assumption | (simp; done)) (by first | omega | assumption | (simp; done))) ⟨rdF false (flatNums _ _ _ _) rfl rfl, ⟨rdF false (flatNums _ _ _ _) rfl rfl, ⟨rdF false (flatNums _ _ _ _) rfl rfl, trivial⟩⟩⟩ rfl ⟨clF (flatNums _ _ _ _), ⟨clF (flatNums _ _ _ _), ⟨clF (flatNums _ _ _ _), trivial⟩⟩⟩ rfl (by first | rfl | simp [mpV, mpA, mpS, mpP, renId, shift]) rfl) ?_
 refine segH 2 (T1 := (mkT 69 [(1, vI k), (2, vP 3 0), (4, vP 4 0), (7, .agg #[vN X, vN Y, vN Z, vS 0 A.length, vS 1 B.length, vS 2 C.length]), (8, .bool (shadB X Y Z A B C)), (9, .bool (!(shadB X Y Z A B C))), (10, .bool (!(shadB X Y Z A B C)))])) (by kernel_rfl) ?_
 cases h1 : (shadB X Y Z A B C : Bool)
 ·
  have h1k := h1
  (try simp only [bs0, bs1, bs2, bs3, beq_iff_eq, bne_iff_ne, beq_eq_false_iff_ne, bne_eq_false_iff_eq, ne_eq, bs4, bs5, bs6, bs7, bs8, bs9, bs10, bs11, ge_iff_le, gt_iff_lt] at h1)
  refine segEndH [1, 2, 4, 14] (T1 := (mkT 69 [(1, vI k), (2, vP 3 0), (4, vP 4 0), (14, .bool true)])) (by kernel_rfl) ?_
  refine kSeq ?_
  refine cTrue (by kernel_rfl) ?_
  refine cSeq ?_
  refine cReg ?_
  refine segEnd [4, 5] (T1 := (mkT 69 [(4, vP 4 0), (5, .bool false)])) (H1 := [nR A, nR B, nR C, rB [vN X, vN Y, vN Z, vS 0 A.length, vS 1 B.length, vS 2 C.length] 27, rB [vI 0, vI 0, vI 0, .slice none 0 0, .slice none 0 0, .slice none 0 0] 27]) (by kernel_rfl) ?_
  refine kSeq ?_
  refine cRet ?_
  refine kSeqR ?_
  exact endQ (Or.inr rfl) (l := [.agg #[vI 0, vI 0, vI 0, .slice none 0 0, .slice none 0 0, .slice none 0 0], .bool false]) [rB [vN X, vN Y, vN Z, vS 0 A.length, vS 1 B.length, vS 2 C.length] 27, rB [vI 0, vI 0, vI 0, .slice none 0 0, .slice none 0 0, .slice none 0 0] 27] (by kernel_rfl) (by first | rfl | kernel_rfl) rfl rfl hcl rfl
 ·
  have h1k := h1
  (try simp only [bs0, bs1, bs2, bs3, beq_iff_eq, bne_iff_ne, beq_eq_false_iff_ne, bne_eq_false_iff_eq, ne_eq, bs4, bs5, bs6, bs7, bs8, bs9, bs10, bs11, ge_iff_le, gt_iff_lt] at h1)
  exfalso; simp_all
set_option maxRecDepth 100000 in
set_option maxHeartbeats 4000000 in
theorem specMirrorShadow_no3 (X : Nat) (Y : Nat) (Z : Nat) (A : List Int) (B : List Int) (C : List Int) (k : Int) (hs : Sides X Y Z) (hq : shadB X Y Z A B C = true) (hk : inR k 0 2 = false) (hA : A.length ≤ 1048576) (hB : B.length ≤ 1048576) (hC : C.length ≤ 1048576) : Sound Try.prog 48 [.agg #[vN X, vN Y, vN Z, vS 0 A.length, vS 1 B.length, vS 2 C.length], vI k] [nR A, nR B, nR C] (.tuple #[.agg #[vI 0, vI 0, vI 0, .slice none 0 0, .slice none 0 0, .slice none 0 0], .bool false]) [nR A, nR B, nR C] := by
 refine sound_intro (C := cx) Try.func48 rfl (by kernel_rfl) fun hcl => ?_
 refine cSeq ?_
 refine cReg ?_
 refine segEnd [1, 2, 4] (T1 := (mkT 69 [(1, vI k), (2, vP 3 0), (4, vP 4 0)])) (H1 := [nR A, nR B, nR C, rB [vN X, vN Y, vN Z, vS 0 A.length, vS 1 B.length, vS 2 C.length] 27, rB [vI 0, vI 0, vI 0, .slice none 0 0, .slice none 0 0, .slice none 0 0] 27]) (by kernel_rfl) ?_
 refine kSeq ?_
 refine cSeq ?_
 refine cSeq ?_
 refine cReg ?_
 refine segH 1 (T1 := (mkT 69 [(1, vI k), (2, vP 3 0), (4, vP 4 0), (7, .agg #[vN X, vN Y, vN Z, vS 0 A.length, vS 1 B.length, vS 2 C.length])])) (by kernel_rfl) ?_
 refine rCall (v := .bool (shadB X Y Z A B C)) (args := [.agg #[vN X, vN Y, vN Z, vS 0 A.length, vS 1 B.length, vS 2 C.length]]) (by kernel_rfl) rfl (by kernel_rfl) (Sound.lay0 [0, 1, 2] (l3ShadowB_yes X Y Z A B C (by first | assumption | omega | rfl | decide | exact HeapL.list _ _ _ _ | exact HeapL.nil _ _ _ | exact HeapL.all _ _ _ | (apply HeapL.lt64 <;> assumption) | (repeat' (first | assumption | apply or_lt64 | apply and_lt64 | apply andn_lt64 | apply pow_lt64 | (apply HeapL.lt64 <;> assumption)))) (by first | omega | assumption | (simp; done)) (by first | omega | assumption | (simp; done)) (by first | omega | assumption | (simp; done))) ⟨rdF false (flatNums _ _ _ _) rfl rfl, ⟨rdF false (flatNums _ _ _ _) rfl rfl, ⟨rdF false (flatNums _ _ _ _) rfl rfl, trivial⟩⟩⟩ rfl ⟨clF (flatNums _ _ _ _), ⟨clF (flatNums _ _ _ _), ⟨clF (flatNums _ _ _ _), trivial⟩⟩⟩ rfl (by first | rfl | simp [mpV, mpA, mpS, mpP, renId, shift]) rfl) ?_
 refine segH 2 (T1 := (mkT 69 [(1, vI k), (2, vP 3 0), (4, vP 4 0), (7, .agg #[vN X, vN Y, vN Z, vS 0 A.length, vS 1 B.length, vS 2 C.length]), (8, .bool (shadB X Y Z A B C)), (9, .bool (!(shadB X Y Z A B C))), (10, .bool (!(shadB X Y Z A B C)))])) (by kernel_rfl) ?_
 cases h1 : (shadB X Y Z A B C : Bool)
 ·
  have h1k := h1
  (try simp only [bs0, bs1, bs2, bs3, beq_iff_eq, bne_iff_ne, beq_eq_false_iff_ne, bne_eq_false_iff_eq, ne_eq, bs4, bs5, bs6, bs7, bs8, bs9, bs10, bs11, ge_iff_le, gt_iff_lt] at h1)
  exfalso; simp_all
 ·
  have h1k := h1
  (try simp only [bs0, bs1, bs2, bs3, beq_iff_eq, bne_iff_ne, beq_eq_false_iff_ne, bne_eq_false_iff_eq, ne_eq, bs4, bs5, bs6, bs7, bs8, bs9, bs10, bs11, ge_iff_le, gt_iff_lt] at h1)
  refine segH 1 (T1 := (mkT 69 [(1, vI k), (2, vP 3 0), (4, vP 4 0), (7, .agg #[vN X, vN Y, vN Z, vS 0 A.length, vS 1 B.length, vS 2 C.length]), (8, .bool true), (9, .bool false), (10, .bool false), (11, vI k)])) (by kernel_rfl) ?_
  refine rCall (v := .bool (inR k 0 2)) (args := [vI k, vI 0, vI 2]) (by kernel_rfl) rfl (by kernel_rfl) (Sound.lay0 [] (l1InB k 0 2) trivial rfl trivial rfl (by first | rfl | simp [mpV, mpA, mpS, mpP, renId, shift]) rfl) ?_
  refine segEndH [1, 2, 4, 14] (T1 := (mkT 69 [(1, vI k), (2, vP 3 0), (4, vP 4 0), (14, .bool (!(inR k 0 2)))])) (by kernel_rfl) ?_
  refine kSeq ?_
  cases h2 : (inR k 0 2 : Bool)
  ·
   have h2k := h2
   (try simp only [bs0, bs1, bs2, bs3, beq_iff_eq, bne_iff_ne, beq_eq_false_iff_ne, bne_eq_false_iff_eq, ne_eq, bs4, bs5, bs6, bs7, bs8, bs9, bs10, bs11, ge_iff_le, gt_iff_lt] at h2)
   refine cTrue (by kernel_rfl) ?_
   refine cSeq ?_
   refine cReg ?_
   refine segEnd [4, 5] (T1 := (mkT 69 [(4, vP 4 0), (5, .bool false)])) (H1 := [nR A, nR B, nR C, rB [vN X, vN Y, vN Z, vS 0 A.length, vS 1 B.length, vS 2 C.length] 27, rB [vI 0, vI 0, vI 0, .slice none 0 0, .slice none 0 0, .slice none 0 0] 27]) (by kernel_rfl) ?_
   refine kSeq ?_
   refine cRet ?_
   refine kSeqR ?_
   exact endQ (Or.inr rfl) (l := [.agg #[vI 0, vI 0, vI 0, .slice none 0 0, .slice none 0 0, .slice none 0 0], .bool false]) [rB [vN X, vN Y, vN Z, vS 0 A.length, vS 1 B.length, vS 2 C.length] 27, rB [vI 0, vI 0, vI 0, .slice none 0 0, .slice none 0 0, .slice none 0 0] 27] (by kernel_rfl) (by first | rfl | kernel_rfl) rfl rfl hcl rfl
  ·
   have h2k := h2
   (try simp only [bs0, bs1, bs2, bs3, beq_iff_eq, bne_iff_ne, beq_eq_false_iff_ne, bne_eq_false_iff_eq, ne_eq, bs4, bs5, bs6, bs7, bs8, bs9, bs10, bs11, ge_iff_le, gt_iff_lt] at h2)
   exfalso; simp_all
theorem specMirrorShadow_bad (x : Int) (y : Int) (z : Int) (A : List Int) (B : List Int) (C : List Int) (k : Int) (hb : mirB x y z A B C k = false) (hA : A.length ≤ 1048576) (hB : B.length ≤ 1048576) (hC : C.length ≤ 1048576) : Sound Try.prog 48 [.agg #[vI x, vI y, vI z, vS 0 A.length, vS 1 B.length, vS 2 C.length], vI k] [nR A, nR B, nR C] (.tuple #[.agg #[vI 0, vI 0, vI 0, .slice none 0 0, .slice none 0 0, .slice none 0 0], .bool false]) [nR A, nR B, nR C] := by
 exact mirB_cases (fun h => specMirrorShadow_no x y z A B C k h hA hB hC) (fun X Y Z e1 e2 e3 hs hq => by subst e1 e2 e3; exact specMirrorShadow_no2 X Y Z A B C k hs hq hA hB hC) (fun X Y Z e1 e2 e3 hs hq hk => by subst e1 e2 e3; exact specMirrorShadow_no3 X Y Z A B C k hs hq hk hA hB hC) hb
set_option maxRecDepth 100000 in
set_option maxHeartbeats 4000000 in
theorem implMirrorShadow_no (x : Int) (y : Int) (z : Int) (A : List Int) (B : List Int) (C : List Int) (k : Int) (hv : valid3 x y z = false) (hA : A.length ≤ 1048576) (hB : B.length ≤ 1048576) (hC : C.length ≤ 1048576) : Sound Try.prog 49 [.agg #[vI x, vI y, vI z, vS 0 A.length, vS 1 B.length, vS 2 C.length], vI k] [nR A, nR B, nR C] (.tuple #[.agg #[vI 0, vI 0, vI 0, .slice none 0 0, .slice none 0 0, .slice none 0 0], .bool false]) [nR A, nR B, nR C] := by
 refine sound_intro (C := cx) Try.func49 rfl (by kernel_rfl) fun hcl => ?_
 refine cSeq ?_
 refine cReg ?_
 refine segEnd [1, 2, 4] (T1 := (mkT 75 [(1, vI k), (2, vP 3 0), (4, vP 4 0)])) (H1 := [nR A, nR B, nR C, rB [vI x, vI y, vI z, vS 0 A.length, vS 1 B.length, vS 2 C.length] 27, rB [vI 0, vI 0, vI 0, .slice none 0 0, .slice none 0 0, .slice none 0 0] 27]) (by kernel_rfl) ?_
 refine kSeq ?_
 refine cSeq ?_
 refine cSeq ?_
 refine cReg ?_
 refine segH 1 (T1 := (mkT 75 [(1, vI k), (2, vP 3 0), (4, vP 4 0), (11, .agg #[vI x, vI y, vI z, vS 0 A.length, vS 1 B.length, vS 2 C.length])])) (by kernel_rfl) ?_
 refine rCall (v := .bool false) (args := [.agg #[vI x, vI y, vI z, vS 0 A.length, vS 1 B.length, vS 2 C.length]]) (by kernel_rfl) rfl (by kernel_rfl) (Sound.lay0 [0, 1, 2] (isShadowB_no x y z A B C (by first | assumption | omega | rfl | decide | exact HeapL.list _ _ _ _ | exact HeapL.nil _ _ _ | exact HeapL.all _ _ _ | (apply HeapL.lt64 <;> assumption) | (repeat' (first | assumption | apply or_lt64 | apply and_lt64 | apply andn_lt64 | apply pow_lt64 | (apply HeapL.lt64 <;> assumption)))) (by first | omega | assumption | (simp; done)) (by first | omega | assumption | (simp; done)) (by first | omega | assumption | (simp; done))) ⟨rdF false (flatNums _ _ _ _) rfl rfl, ⟨rdF false (flatNums _ _ _ _) rfl rfl, ⟨rdF false (flatNums _ _ _ _) rfl rfl, trivial⟩⟩⟩ rfl ⟨clF (flatNums _ _ _ _), ⟨clF (flatNums _ _ _ _), ⟨clF (flatNums _ _ _ _), trivial⟩⟩⟩ rfl (by first | rfl | simp [mpV, mpA, mpS, mpP, renId, shift]) rfl) ?_
 refine segEndH [1, 2, 4, 18] (T1 := (mkT 75 [(1, vI k), (2, vP 3 0), (4, vP 4 0), (18, .bool true)])) (by kernel_rfl) ?_
 refine kSeq ?_
 refine cTrue (by kernel_rfl) ?_
 refine cSeq ?_
 refine cReg ?_
 refine segEnd [4, 5] (T1 := (mkT 75 [(4, vP 4 0), (5, .bool false)])) (H1 := [nR A, nR B, nR C, rB [vI x, vI y, vI z, vS 0 A.length, vS 1 B.length, vS 2 C.length] 27, rB [vI 0, vI 0, vI 0, .slice none 0 0, .slice none 0 0, .slice none 0 0] 27]) (by kernel_rfl) ?_
 refine kSeq ?_
 refine cRet ?_
 refine kSeqR ?_
 exact endQ (Or.inr rfl) (l := [.agg #[vI 0, vI 0, vI 0, .slice none 0 0, .slice none 0 0, .slice none 0 0], .bool false]) [rB [vI x, vI y, vI z, vS 0 A.length, vS 1 B.length, vS 2 C.length] 27, rB [vI 0, vI 0, vI 0, .slice none 0 0, .slice none 0 0, .slice none 0 0] 27] (by kernel_rfl) (by first | rfl | kernel_rfl) rfl rfl hcl rfl
set_option maxRecDepth 100000 in
set_option maxHeartbeats 4000000 in
theorem implMirrorShadow_no2 (X : Nat) (Y : Nat) (Z : Nat) (A : List Int) (B : List Int) (C : List Int) (k : Int) (hs : Sides X Y Z) (hq : shadB X Y Z A B C = false) (hA : A.length ≤ 1048576) (hB : B.length ≤ 1048576) (hC : C.length ≤ 1048576) : Sound Try.prog 49 [.agg #[vN X, vN Y, vN Z, vS 0 A.length, vS 1 B.length, vS 2 C.length], vI k] [nR A, nR B, nR C] (.tuple #[.agg #[vI 0, vI 0, vI 0, .slice none 0 0, .slice none 0 0, .slice none 0 0], .bool false]) [nR A, nR B, nR C] := by
 refine sound_intro (C := cx) Try.func49 rfl (by kernel_rfl) fun hcl => ?_
 refine cSeq ?_
 refine cReg ?_
 refine segEnd [1, 2, 4] (T1 := (mkT 75 [(1, vI k), (2, vP 3 0), (4, vP 4 0)])) (H1 := [nR A, nR B, nR C, rB [vN X, vN Y, vN Z, vS 0 A.length, vS 1 B.length, vS 2 C.length] 27, rB [vI 0, vI 0, vI 0, .slice none 0 0, .slice none 0 0, .slice none 0 0] 27]) (by kernel_rfl) ?_
 refine kSeq ?_
 refine cSeq ?_
 refine cSeq ?_
 refine cReg ?_
 refine segH 1 (T1 := (mkT 75 [(1, vI k), (2, vP 3 0), (4, vP 4 0), (11, .agg #[vN X, vN Y, vN Z, vS 0 A.length, vS 1 B.length, vS 2 C.length])])) (by kernel_rfl) ?_
 refine rCall (v := .bool (shadB X Y Z A B C)) (args := [.agg #[vN X, vN Y, vN Z, vS 0 A.length, vS 1 B.length, vS 2 C.length]]) (by kernel_rfl) rfl (by kernel_rfl) (Sound.lay0 [0, 1, 2] (isShadowB_yes X Y Z A B C (by first | assumption | omega | rfl | decide | exact HeapL.list _ _ _ _ | exact HeapL.nil _ _ _ | exact HeapL.all _ _ _ | (apply HeapL.lt64 <;> assumption) | (repeat' (first | assumption | apply or_lt64 | apply and_lt64 | apply andn_lt64 | apply pow_lt64 | (apply HeapL.lt64 <;> assumption)))) (by first | omega | assumption | (simp; done)) (by first | omega | assumption | (simp; done)) (by first | omega | assumption | (simp; done))) ⟨rdF false (flatNums _ _ _ _) rfl rfl, ⟨rdF false (flatNums _ _ _ _) rfl rfl, ⟨rdF false (flatNums _ _ _ _) rfl rfl, trivial⟩⟩⟩ rfl ⟨clF (flatNums _ _ _ _), ⟨clF (flatNums _ _ _ _), ⟨clF (flatNums _ _ _ _), trivial⟩⟩⟩ rfl (by first | rfl | simp [mpV, mpA, mpS, mpP, renId, shift]) rfl) ?_
 refine segH 2 (T1 := (mkT 75 [(1, vI k), (2, vP 3 0), (4, vP 4 0), (11, .agg #[vN X, vN Y, vN Z, vS 0 A.length, vS 1 B.length, vS 2 C.length]), (12, .bool (shadB X Y Z A B C)), (13, .bool (!(shadB X Y Z A B C))), (14, .bool (!(shadB X Y Z A B C)))])) (by kernel_rfl) ?_
 cases h1 : (shadB X Y Z A B C : Bool)
 ·
  have h1k := h1
  (try simp only [bs0, bs1, bs2, bs3, beq_iff_eq, bne_iff_ne, beq_eq_false_iff_ne, bne_eq_false_iff_eq, ne_eq, bs4, bs5, bs6, bs7, bs8, bs9, bs10, bs11, ge_iff_le, gt_iff_lt] at h1)
  refine segEndH [1, 2, 4, 18] (T1 := (mkT 75 [(1, vI k), (2, vP 3 0), (4, vP 4 0), (18, .bool true)])) (by kernel_rfl) ?_
  refine kSeq ?_
  refine cTrue (by kernel_rfl) ?_
  refine cSeq ?_
  refine cReg ?_
  refine segEnd [4, 5] (T1 := (mkT 75 [(4, vP 4 0), (5, .bool false)])) (H1 := [nR A, nR B, nR C, rB [vN X, vN Y, vN Z, vS 0 A.length, vS 1 B.length, vS 2 C.length] 27, rB [vI 0, vI 0, vI 0, .slice none 0 0, .slice none 0 0, .slice none 0 0] 27]) (by kernel_rfl) ?_
  refine kSeq ?_
  refine cRet ?_
  refine kSeqR ?_
  exact endQ (Or.inr rfl) (l := [.agg #[vI 0, vI 0, vI 0, .slice none 0 0, .slice none 0 0, .slice none 0 0], .bool false]) [rB [vN X, vN Y, vN Z, vS 0 A.length, vS 1 B.length, vS 2 C.length] 27, rB [vI 0, vI 0, vI 0, .slice none 0 0, .slice none 0 0, .slice none 0 0] 27] (by kernel_rfl) (by first | rfl | kernel_rfl) rfl rfl hcl rfl
 ·
  have h1k := h1
  (try simp only [bs0, bs1, bs2, bs3, beq_iff_eq, bne_iff_ne, beq_eq_false_iff_ne, bne_eq_false_iff_eq, ne_eq, bs4, bs5, bs6, bs7, bs8, bs9, bs10, bs11, ge_iff_le, gt_iff_lt] at h1)
  exfalso; simp_all
set_option maxRecDepth 100000 in
set_option maxHeartbeats 4000000 in
theorem implMirrorShadow_no3 (X : Nat) (Y : Nat) (Z : Nat) (A : List Int) (B : List Int) (C : List Int) (k : Int) (hs : Sides X Y Z) (hq : shadB X Y Z A B C = true) (hk : inR k 0 2 = false) (hA : A.length ≤ 1048576) (hB : B.length ≤ 1048576) (hC : C.length ≤ 1048576) : Sound Try.prog 49 [.agg #[vN X, vN Y, vN Z, vS 0 A.length, vS 1 B.length, vS 2 C.length], vI k] [nR A, nR B, nR C] (.tuple #[.agg #[vI 0, vI 0, vI 0, .slice none 0 0, .slice none 0 0, .slice none 0 0], .bool false]) [nR A, nR B, nR C] := by
 refine sound_intro (C := cx) Try.func49 rfl (by kernel_rfl) fun hcl => ?_
 refine cSeq ?_
 refine cReg ?_
 refine segEnd [1, 2, 4] (T1 := (mkT 75 [(1, vI k), (2, vP 3 0), (4, vP 4 0)])) (H1 := [nR A, nR B, nR C, rB [vN X, vN Y, vN Z, vS 0 A.length, vS 1 B.length, vS 2 C.length] 27, rB [vI 0, vI 0, vI 0, .slice none 0 0, .slice none 0 0, .slice none 0 0] 27]) (by kernel_rfl) ?_
 refine kSeq ?_
 refine cSeq ?_
 refine cSeq ?_
 refine cReg ?_
 refine segH 1 (T1 := (mkT 75 [(1, vI k), (2, vP 3 0), (4, vP 4 0), (11, .agg #[vN X, vN Y, vN Z, vS 0 A.length, vS 1 B.length, vS 2 C.length])])) (by kernel_rfl) ?_
 refine rCall (v := .bool (shadB X Y Z A B C)) (args := [.agg #[vN X, vN Y, vN Z, vS 0 A.length, vS 1 B.length, vS 2 C.length]]) (by kernel_rfl) rfl (by kernel_rfl) (Sound.lay0 [0, 1, 2] (isShadowB_yes X Y Z A B C (by first | assumption | omega | rfl | decide | exact HeapL.list _ _ _ _ | exact HeapL.nil _ _ _ | exact HeapL.all _ _ _ | (apply HeapL.lt64 <;> assumption) | (repeat' (first | assumption | apply or_lt64 | apply and_lt64 | apply andn_lt64 | apply pow_lt64 | (apply HeapL.lt64 <;> assumption)))) (by first | omega | assumption | (simp; done)) (by first | omega | assumption | (simp; done)) (by first | omega | assumption | (simp; done))) ⟨rdF false (flatNums _ _ _ _) rfl rfl, ⟨rdF false (flatNums _ _ _ _) rfl rfl, ⟨rdF false (flatNums _ _ _ _) rfl rfl, trivial⟩⟩⟩ rfl ⟨clF (flatNums _ _ _ _), ⟨clF (flatNums _ _ _ _), ⟨clF (flatNums _ _ _ _), trivial⟩⟩⟩ rfl (by first | rfl | simp [mpV, mpA, mpS, mpP, renId, shift]) rfl) ?_
 refine segH 2 (T1 := (mkT 75 [(1, vI k), (2, vP 3 0), (4, vP 4 0), (11, .agg #[vN X, vN Y, vN Z, vS 0 A.length, vS 1 B.length, vS 2 C.length]), (12, .bool (shadB X Y Z A B C)), (13, .bool (!(shadB X Y Z A B C))), (14, .bool (!(shadB X Y Z A B C)))])) (by kernel_rfl) ?_
 cases h1 : (shadB X Y Z A B C : Bool)
 ·
  have h1k := h1
  (try simp only [bs0, bs1, bs2, bs3, beq_iff_eq, bne_iff_ne, beq_eq_false_iff_ne, bne_eq_false_iff_eq, ne_eq, bs4, bs5, bs6, bs7, bs8, bs9, bs10, bs11, ge_iff_le, gt_iff_lt] at h1)
  exfalso; simp_all
 ·
  have h1k := h1
  (try simp only [bs0, bs1, bs2, bs3, beq_iff_eq, bne_iff_ne, beq_eq_false_iff_ne, bne_eq_false_iff_eq, ne_eq, bs4, bs5, bs6, bs7, bs8, bs9, bs10, bs11, ge_iff_le, gt_iff_lt] at h1)
  refine segH 1 (T1 := (mkT 75 [(1, vI k), (2, vP 3 0), (4, vP 4 0), (11, .agg #[vN X, vN Y, vN Z, vS 0 A.length, vS 1 B.length, vS 2 C.length]), (12, .bool true), (13, .bool false), (14, .bool false), (15, vI k)])) (by kernel_rfl) ?_
  refine rCall (v := .bool (inR k 0 2)) (args := [vI k]) (by kernel_rfl) rfl (by kernel_rfl) (Sound.lay0 [] (isDirB k) trivial rfl trivial rfl (by first | rfl | simp [mpV, mpA, mpS, mpP, renId, shift]) rfl) ?_
  refine segEndH [1, 2, 4, 18] (T1 := (mkT 75 [(1, vI k), (2, vP 3 0), (4, vP 4 0), (18, .bool (!(inR k 0 2)))])) (by kernel_rfl) ?_
  refine kSeq ?_
  cases h2 : (inR k 0 2 : Bool)
  ·
   have h2k := h2
   (try simp only [bs0, bs1, bs2, bs3, beq_iff_eq, bne_iff_ne, beq_eq_false_iff_ne, bne_eq_false_iff_eq, ne_eq, bs4, bs5, bs6, bs7, bs8, bs9, bs10, bs11, ge_iff_le, gt_iff_lt] at h2)
   refine cTrue (by kernel_rfl) ?_
   refine cSeq ?_
   refine cReg ?_
   refine segEnd [4, 5] (T1 := (mkT 75 [(4, vP 4 0), (5, .bool false)])) (H1 := [nR A, nR B, nR C, rB [vN X, vN Y, vN Z, vS 0 A.length, vS 1 B.length, vS 2 C.length] 27, rB [vI 0, vI 0, vI 0, .slice none 0 0, .slice none 0 0, .slice none 0 0] 27]) (by kernel_rfl) ?_
   refine kSeq ?_
   refine cRet ?_
   refine kSeqR ?_
   exact endQ (Or.inr rfl) (l := [.agg #[vI 0, vI 0, vI 0, .slice none 0 0, .slice none 0 0, .slice none 0 0], .bool false]) [rB [vN X, vN Y, vN Z, vS 0 A.length, vS 1 B.length, vS 2 C.length] 27, rB [vI 0, vI 0, vI 0, .slice none 0 0, .slice none 0 0, .slice none 0 0] 27] (by kernel_rfl) (by first | rfl | kernel_rfl) rfl rfl hcl rfl
  ·
   have h2k := h2
   (try simp only [bs0, bs1, bs2, bs3, beq_iff_eq, bne_iff_ne, beq_eq_false_iff_ne, bne_eq_false_iff_eq, ne_eq, bs4, bs5, bs6, bs7, bs8, bs9, bs10, bs11, ge_iff_le, gt_iff_lt] at h2)
   exfalso; simp_all
theorem implMirrorShadow_bad (x : Int) (y : Int) (z : Int) (A : List Int) (B : List Int) (C : List Int) (k : Int) (hb : mirB x y z A B C k = false) (hA : A.length ≤ 1048576) (hB : B.length ≤ 1048576) (hC : C.length ≤ 1048576) : Sound Try.prog 49 [.agg #[vI x, vI y, vI z, vS 0 A.length, vS 1 B.length, vS 2 C.length], vI k] [nR A, nR B, nR C] (.tuple #[.agg #[vI 0, vI 0, vI 0, .slice none 0 0, .slice none 0 0, .slice none 0 0], .bool false]) [nR A, nR B, nR C] := by
 exact mirB_cases (fun h => implMirrorShadow_no x y z A B C k h hA hB hC) (fun X Y Z e1 e2 e3 hs hq => by subst e1 e2 e3; exact implMirrorShadow_no2 X Y Z A B C k hs hq hA hB hC) (fun X Y Z e1 e2 e3 hs hq hk => by subst e1 e2 e3; exact implMirrorShadow_no3 X Y Z A B C k hs hq hk hA hB hC) hb
set_option maxRecDepth 100000 in
set_option maxHeartbeats 4000000 in
theorem specMirrorShadow_0 (X : Nat) (Y : Nat) (Z : Nat) (A : List Int) (B : List Int) (C : List Int) (hs : Sides X Y Z) (hq : shadB X Y Z A B C = true) : Sound Try.prog 48 [.agg #[vN X, vN Y, vN Z, vS 0 A.length, vS 1 B.length, vS 2 C.length], vI 0] [nR A, nR B, nR C] (.tuple #[.agg #[vN X, vN Y, vN Z, vS 3 ((mirE 2 0 X Y Z A).length), vS 4 ((mirE 1 0 X Y Z B).length), vS 5 ((mirE 0 0 X Y Z C).length)], .bool true]) [nR A, nR B, nR C, nW (mirE 2 0 X Y Z A), nW (mirE 1 0 X Y Z B), nW (mirE 0 0 X Y Z C)] := by
 refine sound_intro (C := cx) Try.func48 rfl (by kernel_rfl) fun hcl => ?_
 have hz := hs.size
 have hx0 := hs.x0
 have hx4 := hs.x4
 have hy0 := hs.y0
 have hy4 := hs.y4
 have hz0 := hs.z0
 have hz4 := hs.z4
 have hxy : X * Y ≤ 4 * 4 := Nat.mul_le_mul (by omega) (by omega)
 have hxz : X * Z ≤ 4 * 4 := Nat.mul_le_mul (by omega) (by omega)
 have hyz : Y * Z ≤ 4 * 4 := Nat.mul_le_mul (by omega) (by omega)
 have hw := shad_of hq
 have hwa := hw.1.1
 have hwb := hw.2.1.1
 have hwc := hw.2.2.1
 refine cSeq ?_
 refine cReg ?_
 refine segEnd [1, 2, 4] (T1 := (mkT 69 [(1, vI 0), (2, vP 3 0), (4, vP 4 0)])) (H1 := [nR A, nR B, nR C, rB [vN X, vN Y, vN Z, vS 0 A.length, vS 1 B.length, vS 2 C.length] 27, rB [vI 0, vI 0, vI 0, .slice none 0 0, .slice none 0 0, .slice none 0 0] 27]) (by kernel_rfl) ?_
 refine kSeq ?_
 refine cSeq ?_
 refine cSeq ?_
 refine cReg ?_
 refine segH 1 (T1 := (mkT 69 [(1, vI 0), (2, vP 3 0), (4, vP 4 0), (7, .agg #[vN X, vN Y, vN Z, vS 0 A.length, vS 1 B.length, vS 2 C.length])])) (by kernel_rfl) ?_
 refine rCall (v := .bool (shadB X Y Z A B C)) (args := [.agg #[vN X, vN Y, vN Z, vS 0 A.length, vS 1 B.length, vS 2 C.length]]) (by kernel_rfl) rfl (by kernel_rfl) (Sound.lay0 [0, 1, 2] (l3ShadowB_yes X Y Z A B C (by first | assumption | omega | rfl | decide | exact HeapL.list _ _ _ _ | exact HeapL.nil _ _ _ | exact HeapL.all _ _ _ | (apply HeapL.lt64 <;> assumption) | (repeat' (first | assumption | apply or_lt64 | apply and_lt64 | apply andn_lt64 | apply pow_lt64 | (apply HeapL.lt64 <;> assumption)))) (by first | omega | assumption | (simp; done)) (by first | omega | assumption | (simp; done)) (by first | omega | assumption | (simp; done))) ⟨rdF false (flatNums _ _ _ _) rfl rfl, ⟨rdF false (flatNums _ _ _ _) rfl rfl, ⟨rdF false (flatNums _ _ _ _) rfl rfl, trivial⟩⟩⟩ rfl ⟨clF (flatNums _ _ _ _), ⟨clF (flatNums _ _ _ _), ⟨clF (flatNums _ _ _ _), trivial⟩⟩⟩ rfl (by first | rfl | simp [mpV, mpA, mpS, mpP, renId, shift]) rfl) ?_
 refine segH 2 (T1 := (mkT 69 [(1, vI 0), (2, vP 3 0), (4, vP 4 0), (7, .agg #[vN X, vN Y, vN Z, vS 0 A.length, vS 1 B.length, vS 2 C.length]), (8, .bool (shadB X Y Z A B C)), (9, .bool (!(shadB X Y Z A B C))), (10, .bool (!(shadB X Y Z A B C)))])) (by kernel_rfl) ?_
 cases h1 : (shadB X Y Z A B C : Bool)
 ·
  have h1k := h1
  (try simp only [bs0, bs1, bs2, bs3, beq_iff_eq, bne_iff_ne, beq_eq_false_iff_ne, bne_eq_false_iff_eq, ne_eq, bs4, bs5, bs6, bs7, bs8, bs9, bs10, bs11, ge_iff_le, gt_iff_lt] at h1)
  exfalso; simp_all
 ·
  have h1k := h1
  (try simp only [bs0, bs1, bs2, bs3, beq_iff_eq, bne_iff_ne, beq_eq_false_iff_ne, bne_eq_false_iff_eq, ne_eq, bs4, bs5, bs6, bs7, bs8, bs9, bs10, bs11, ge_iff_le, gt_iff_lt] at h1)
  refine segH 1 (T1 := (mkT 69 [(1, vI 0), (2, vP 3 0), (4, vP 4 0), (7, .agg #[vN X, vN Y, vN Z, vS 0 A.length, vS 1 B.length, vS 2 C.length]), (8, .bool true), (9, .bool false), (10, .bool false), (11, vI 0)])) (by kernel_rfl) ?_
  refine rCall (v := .bool (inR 0 0 2)) (args := [vI 0, vI 0, vI 2]) (by kernel_rfl) rfl (by kernel_rfl) (Sound.lay0 [] (l1InB 0 0 2) trivial rfl trivial rfl (by first | rfl | simp [mpV, mpA, mpS, mpP, renId, shift]) rfl) ?_
  refine segEndH [1, 2, 4, 14] (T1 := (mkT 69 [(1, vI 0), (2, vP 3 0), (4, vP 4 0), (14, .bool (!(inR 0 0 2)))])) (by kernel_rfl) ?_
  refine kSeq ?_
  cases h2 : (inR 0 0 2 : Bool)
  ·
   have h2k := h2
   (try simp only [bs0, bs1, bs2, bs3, beq_iff_eq, bne_iff_ne, beq_eq_false_iff_ne, bne_eq_false_iff_eq, ne_eq, bs4, bs5, bs6, bs7, bs8, bs9, bs10, bs11, ge_iff_le, gt_iff_lt] at h2)
   exfalso; (exact absurd h2 (by decide))
  ·
   have h2k := h2
   (try simp only [bs0, bs1, bs2, bs3, beq_iff_eq, bne_iff_ne, beq_eq_false_iff_ne, bne_eq_false_iff_eq, ne_eq, bs4, bs5, bs6, bs7, bs8, bs9, bs10, bs11, ge_iff_le, gt_iff_lt] at h2)
   refine cFalse (by kernel_rfl) ?_
   refine cSkip ?_
   refine kSeq ?_
   refine cSeq ?_
   refine cRegW (N := 9) [⟨[], [], []⟩, ⟨[], [], [3]⟩, ⟨[], [], []⟩, ⟨[], [], [3]⟩, ⟨[], [], []⟩, ⟨[], [], [3]⟩, ⟨[], [], []⟩, ⟨[], [], [3]⟩, ⟨[5], [], [0]⟩, ⟨[], [], []⟩, ⟨[], [], [3]⟩, ⟨[6], [], [1]⟩, ⟨[], [], []⟩, ⟨[], [], [3]⟩, ⟨[7], [], [2]⟩, ⟨[], [], []⟩, ⟨[8], [], []⟩, ⟨[], [8], []⟩] 4 [5, 6, 7, 8] (by rfl) (by rfl) (by kernel_rfl) (by kernel_rfl) (by kernel_rfl) ⟨nmsF (flatNums _ _ _ _), ⟨nmsF (flatNums _ _ _ _), ⟨nmsF (flatNums _ _ _ _), ⟨nmsX (by kernel_rfl), ⟨nmsX (by kernel_rfl), trivial⟩⟩⟩⟩⟩ ?_
   refine segWH 8 (T1 := (mkT 69 [(1, vI 0), (2, vP 3 0), (4, vP 4 0), (14, .bool false), (16, vP 3 0), (17, vN X), (18, vP 3 1), (19, vN Y), (20, vP 3 2), (21, vN Z), (22, vP 3 3), (23, vS 0 A.length)])) (by kernel_rfl) ?_
   refine rW (m := ⟨[5], [], [0]⟩) (v := vS 5 A.length) rfl (by kernel_rfl) (stN (i := 5) (E := [nW A]) (v1 := vS 9 A.length) (args := [vS 0 A.length]) rfl (by kernel_rfl) (Any.lay (E := [nW A]) (N := 9) [0] (l1OwnI A (by first | omega | assumption | (simp; done) | (simp; omega))) ⟨rdF false (flatNums _ _ _ _) rfl rfl, trivial⟩ rfl ⟨clF (flatNums _ _ _ _), trivial⟩ rfl (by first | rfl | simp [mpV, mpA, mpS, mpP, renId, shift]) rfl ⟨enF (flatNums _ _ _ _) (Or.inl rfl), trivial⟩) rfl (by kernel_rfl) (by kernel_rfl) (by kernel_rfl) (by kernel_rfl) (FlatH.cons (flatNums _ _ _ _) FlatH.nil)) (by kernel_rfl) (NRs.all ⟨nrOf (by rfl) (nmF (flatNums _ _ _ _)), trivial⟩) ?_
   refine segWH 2 (T1 := (mkT 69 [(1, vI 0), (2, vP 3 0), (4, vP 4 0), (14, .bool false), (16, vP 3 0), (17, vN X), (18, vP 3 1), (19, vN Y), (20, vP 3 2), (21, vN Z), (22, vP 3 3), (23, vS 0 A.length), (24, vS 5 A.length), (25, vP 3 4), (26, vS 1 B.length)])) (by kernel_rfl) ?_
   refine rW (m := ⟨[6], [], [1]⟩) (v := vS 6 B.length) rfl (by kernel_rfl) (stN (i := 6) (E := [nW B]) (v1 := vS 9 B.length) (args := [vS 1 B.length]) rfl (by kernel_rfl) (Any.lay (E := [nW B]) (N := 9) [1] (l1OwnI B (by first | omega | assumption | (simp; done) | (simp; omega))) ⟨rdF false (flatNums _ _ _ _) rfl rfl, trivial⟩ rfl ⟨clF (flatNums _ _ _ _), trivial⟩ rfl (by first | rfl | simp [mpV, mpA, mpS, mpP, renId, shift]) rfl ⟨enF (flatNums _ _ _ _) (Or.inl rfl), trivial⟩) rfl (by kernel_rfl) (by kernel_rfl) (by kernel_rfl) (by kernel_rfl) (FlatH.cons (flatNums _ _ _ _) FlatH.nil)) (by kernel_rfl) (NRs.all ⟨nrOf (by rfl) (nmF (flatNums _ _ _ _)), trivial⟩) ?_
   refine segWH 2 (T1 := (mkT 69 [(1, vI 0), (2, vP 3 0), (4, vP 4 0), (14, .bool false), (16, vP 3 0), (17, vN X), (18, vP 3 1), (19, vN Y), (20, vP 3 2), (21, vN Z), (22, vP 3 3), (23, vS 0 A.length), (24, vS 5 A.length), (25, vP 3 4), (26, vS 1 B.length), (27, vS 6 B.length), (28, vP 3 5), (29, vS 2 C.length)])) (by kernel_rfl) ?_
   refine rW (m := ⟨[7], [], [2]⟩) (v := vS 7 C.length) rfl (by kernel_rfl) (stN (i := 7) (E := [nW C]) (v1 := vS 9 C.length) (args := [vS 2 C.length]) rfl (by kernel_rfl) (Any.lay (E := [nW C]) (N := 9) [2] (l1OwnI C (by first | omega | assumption | (simp; done) | (simp; omega))) ⟨rdF false (flatNums _ _ _ _) rfl rfl, trivial⟩ rfl ⟨clF (flatNums _ _ _ _), trivial⟩ rfl (by first | rfl | simp [mpV, mpA, mpS, mpP, renId, shift]) rfl ⟨enF (flatNums _ _ _ _) (Or.inl rfl), trivial⟩) rfl (by kernel_rfl) (by kernel_rfl) (by kernel_rfl) (by kernel_rfl) (FlatH.cons (flatNums _ _ _ _) FlatH.nil)) (by kernel_rfl) (NRs.all ⟨nrOf (by rfl) (nmF (flatNums _ _ _ _)), trivial⟩) ?_
   refine segWH 1 (T1 := (mkT 69 [(1, vI 0), (2, vP 3 0), (4, vP 4 0), (14, .bool false), (16, vP 3 0), (17, vN X), (18, vP 3 1), (19, vN Y), (20, vP 3 2), (21, vN Z), (22, vP 3 3), (23, vS 0 A.length), (24, vS 5 A.length), (25, vP 3 4), (26, vS 1 B.length), (27, vS 6 B.length), (28, vP 3 5), (29, vS 2 C.length), (30, vS 7 C.length), (31, .agg #[vN X, vN Y, vN Z, vS 5 A.length, vS 6 B.length, vS 7 C.length])])) (by kernel_rfl) ?_
   refine rW (m := ⟨[8], [], []⟩) (v := vP 8 0) rfl (by kernel_rfl) (stNew (i := 8) (v1 := vP 9 0) (r := ⟨[vI 0, vI 0, vI 0, .slice none 0 0, .slice none 0 0, .slice none 0 0], 27, true, true⟩) (by kernel_rfl) rfl (by kernel_rfl) (by kernel_rfl) (by kernel_rfl) (by kernel_rfl) (nmX (by kernel_rfl)) (clX (by kernel_rfl))) (by kernel_rfl) (NRs.all ⟨nrOf (by rfl) (nmX (by kernel_rfl)), trivial⟩) ?_
   refine rW (m := ⟨[], [8], []⟩) (v := .tuple #[]) rfl (by kernel_rfl) (stSet (b := 8) (r := ⟨[vN X, vN Y, vN Z, vS 5 A.length, vS 6 B.length, vS 7 C.length], 27, true, true⟩) (by kernel_rfl) rfl (by kernel_rfl) (by kernel_rfl) (by kernel_rfl) (by kernel_rfl) (nmX (by kernel_rfl)) (clX (by kernel_rfl))) (by kernel_rfl) (NRs.all ⟨nrOf (by rfl) (nmX (by kernel_rfl)), trivial⟩) ?_
   refine segEndW [1, 2, 4, 6] (T1 := (mkT 69 [(1, vI 0), (2, vP 3 0), (4, vP 4 0), (6, vP 8 0)])) (H1 := [nR A, nR B, nR C, rB [vN X, vN Y, vN Z, vS 0 A.length, vS 1 B.length, vS 2 C.length] 27, rB [vI 0, vI 0, vI 0, .slice none 0 0, .slice none 0 0, .slice none 0 0] 27, nW A, nW B, nW C, rB [vN X, vN Y, vN Z, vS 5 A.length, vS 6 B.length, vS 7 C.length] 27]) (by kernel_rfl) ?_
   refine kSeq ?_
   refine cSeq ?_
   refine cSeq ?_
   refine cReg ?_
   refine segEndH [1, 2, 4, 6, 33] (T1 := (mkT 69 [(1, vI 0), (2, vP 3 0), (4, vP 4 0), (6, vP 8 0), (33, .bool true)])) (by kernel_rfl) ?_
   refine kSeq ?_
   refine cTrue (by kernel_rfl) ?_
   refine cReg ?_
   refine segH 8 (T1 := (mkT 69 [(1, vI 0), (2, vP 3 0), (4, vP 4 0), (6, vP 8 0), (33, .bool true), (34, vP 3 3), (35, vS 0 A.length), (36, vP 3 0), (37, vN X), (38, vP 3 1), (39, vN Y), (40, vI 0), (41, .bool true)])) (by kernel_rfl) ?_
   refine rCall (v := vS 9 ((turnL true X Y A (X * Y)).length)) (args := [vS 0 A.length, vN X, vN Y, .bool true]) (by kernel_rfl) rfl (by kernel_rfl) (Sound.lay (E := [nW (turnL true X Y A (X * Y))]) [0] (turned_true X Y A (by first | assumption | omega) (by omega) (by omega)) ⟨rdF false (flatNums _ _ _ _) rfl rfl, trivial⟩ rfl ⟨clF (flatNums _ _ _ _), trivial⟩ rfl (by first | rfl | simp [mpV, mpA, mpS, mpP, renId, shift]) rfl ⟨enF (flatNums _ _ _ _) (Or.inl rfl), trivial⟩) ?_
   refine segEnd [1, 2, 4, 6] (T1 := (mkT 69 [(1, vI 0), (2, vP 3 0), (4, vP 4 0), (6, vP 8 0)])) (H1 := [nR A, nR B, nR C, rB [vN X, vN Y, vN Z, vS 0 A.length, vS 1 B.length, vS 2 C.length] 27, rB [vI 0, vI 0, vI 0, .slice none 0 0, .slice none 0 0, .slice none 0 0] 27, nW A, nW B, nW C, rB [vN X, vN Y, vN Z, vS 9 ((turnL true X Y A (X * Y)).length), vS 6 B.length, vS 7 C.length] 27, nW (turnL true X Y A (X * Y))]) (by kernel_rfl) ?_
   refine kSeq ?_
   refine cSeq ?_
   refine cSeq ?_
   refine cReg ?_
   refine segEndH [1, 2, 4, 6, 45] (T1 := (mkT 69 [(1, vI 0), (2, vP 3 0), (4, vP 4 0), (6, vP 8 0), (45, .bool true)])) (by kernel_rfl) ?_
   refine kSeq ?_
   refine cTrue (by kernel_rfl) ?_
   refine cReg ?_
   refine segH 8 (T1 := (mkT 69 [(1, vI 0), (2, vP 3 0), (4, vP 4 0), (6, vP 8 0), (45, .bool true), (46, vP 3 4), (47, vS 1 B.length), (48, vP 3 0), (49, vN X), (50, vP 3 2), (51, vN Z), (52, vI 0), (53, .bool true)])) (by kernel_rfl) ?_
   refine rCall (v := vS 10 ((turnL true X Z B (X * Z)).length)) (args := [vS 1 B.length, vN X, vN Z, .bool true]) (by kernel_rfl) rfl (by kernel_rfl) (Sound.lay (E := [nW (turnL true X Z B (X * Z))]) [1] (turned_true X Z B (by first | assumption | omega) (by omega) (by omega)) ⟨rdF false (flatNums _ _ _ _) rfl rfl, trivial⟩ rfl ⟨clF (flatNums _ _ _ _), trivial⟩ rfl (by first | rfl | simp [mpV, mpA, mpS, mpP, renId, shift]) rfl ⟨enF (flatNums _ _ _ _) (Or.inl rfl), trivial⟩) ?_
   refine segEnd [1, 2, 4, 6] (T1 := (mkT 69 [(1, vI 0), (2, vP 3 0), (4, vP 4 0), (6, vP 8 0)])) (H1 := [nR A, nR B, nR C, rB [vN X, vN Y, vN Z, vS 0 A.length, vS 1 B.length, vS 2 C.length] 27, rB [vI 0, vI 0, vI 0, .slice none 0 0, .slice none 0 0, .slice none 0 0] 27, nW A, nW B, nW C, rB [vN X, vN Y, vN Z, vS 9 ((turnL true X Y A (X * Y)).length), vS 10 ((turnL true X Z B (X * Z)).length), vS 7 C.length] 27, nW (turnL true X Y A (X * Y)), nW (turnL true X Z B (X * Z))]) (by kernel_rfl) ?_
   refine kSeq ?_
   refine cSeq ?_
   refine cSeq ?_
   refine cReg ?_
   refine segEndH [1, 2, 4, 6, 57] (T1 := (mkT 69 [(1, vI 0), (2, vP 3 0), (4, vP 4 0), (6, vP 8 0), (57, .bool false)])) (by kernel_rfl) ?_
   refine kSeq ?_
   refine cFalse (by kernel_rfl) ?_
   refine cSkip ?_
   refine kSeq ?_
   refine cSeq ?_
   refine cReg ?_
   refine segEnd [4, 5] (T1 := (mkT 69 [(4, vP 4 0), (5, .bool true)])) (H1 := [nR A, nR B, nR C, rB [vN X, vN Y, vN Z, vS 0 A.length, vS 1 B.length, vS 2 C.length] 27, rB [vN X, vN Y, vN Z, vS 9 ((turnL true X Y A (X * Y)).length), vS 10 ((turnL true X Z B (X * Z)).length), vS 7 C.length] 27, nW A, nW B, nW C, rB [vN X, vN Y, vN Z, vS 9 ((turnL true X Y A (X * Y)).length), vS 10 ((turnL true X Z B (X * Z)).length), vS 7 C.length] 27, nW (turnL true X Y A (X * Y)), nW (turnL true X Z B (X * Z))]) (by kernel_rfl) ?_
   refine kSeq ?_
   refine cRet ?_
   have he0 : ((turnL true X Y A (X * Y)) : List Int) = (mirE 2 0 X Y Z A) := by first | omega | exact mirE_id (fun p => rfl) (by simp only [nlN]; omega) | exact mirE_turn true (fun p => rfl) rfl | exact mirE_turn false (fun p => rfl) rfl
   have he1 : ((turnL true X Z B (X * Z)) : List Int) = (mirE 1 0 X Y Z B) := by first | omega | exact mirE_id (fun p => rfl) (by simp only [nlN]; omega) | exact mirE_turn true (fun p => rfl) rfl | exact mirE_turn false (fun p => rfl) rfl
   have he2 : (C : List Int) = (mirE 0 0 X Y Z C) := by first | omega | exact mirE_id (fun p => rfl) (by simp only [nlN]; omega) | exact mirE_turn true (fun p => rfl) rfl | exact mirE_turn false (fun p => rfl) rfl
   refine endCast (v1 := .tuple #[.agg #[vN X, vN Y, vN Z, vS 3 ((turnL true X Y A (X * Y)).length), vS 4 ((turnL true X Z B (X * Z)).length), vS 5 C.length], .bool true]) (H1 := [nR A, nR B, nR C, nW (turnL true X Y A (X * Y)), nW (turnL true X Z B (X * Z)), nW C]) (by first | rfl | ((try rw [← he0]); (try rw [← he1]); (try rw [← he2]); done) | (simp only [← he0, ← he1, ← he2]; done)) (by first | rfl | ((try rw [← he0]); (try rw [← he1]); (try rw [← he2]); done) | (simp only [← he0, ← he1, ← he2]; done)) ?_
   exact endF (Or.inr rfl) (l := [.agg #[vN X, vN Y, vN Z, vS 9 ((turnL true X Y A (X * Y)).length), vS 10 ((turnL true X Z B (X * Z)).length), vS 7 C.length], .bool true]) [0, 1, 2, 9, 10, 7] (by kernel_rfl) (by first | rfl | simp [packR, mpV, mpA, mpS, mpP, renId]) ⟨rrF (flatNums _ _ _ _) rfl, ⟨rrF (flatNums _ _ _ _) rfl, ⟨rrF (flatNums _ _ _ _) rfl, ⟨rrF (flatNums _ _ _ _) rfl, ⟨rrF (flatNums _ _ _ _) rfl, ⟨rrF (flatNums _ _ _ _) rfl, trivial⟩⟩⟩⟩⟩⟩ rfl rfl
set_option maxRecDepth 100000 in
set_option maxHeartbeats 4000000 in
theorem implMirrorShadow_0r (X : Nat) (Y : Nat) (Z : Nat) (A : List Int) (B : List Int) (C : List Int) (hs : Sides X Y Z) (hq : shadB X Y Z A B C = true) : Sound Try.prog 49 [.agg #[vN X, vN Y, vN Z, vS 0 A.length, vS 1 B.length, vS 2 C.length], vI 0] [nR A, nR B, nR C] (.tuple #[.agg #[vN X, vN Y, vN Z, vS 3 A.length, vS 4 B.length, vS 5 C.length], .bool true]) [nR A, nR B, nR C, nW (mirE 2 0 X Y Z A), nW (mirE 1 0 X Y Z B), nW (mirE 0 0 X Y Z C)] := by
 refine sound_intro (C := cx) Try.func49 rfl (by kernel_rfl) fun hcl => ?_
 have hz := hs.size
 have hx0 := hs.x0
 have hx4 := hs.x4
 have hy0 := hs.y0
 have hy4 := hs.y4
 have hz0 := hs.z0
 have hz4 := hs.z4
 have hxy : X * Y ≤ 4 * 4 := Nat.mul_le_mul (by omega) (by omega)
 have hxz : X * Z ≤ 4 * 4 := Nat.mul_le_mul (by omega) (by omega)
 have hyz : Y * Z ≤ 4 * 4 := Nat.mul_le_mul (by omega) (by omega)
 have hw := shad_of hq
 have hwa := hw.1.1
 have hwb := hw.2.1.1
 have hwc := hw.2.2.1
 refine cSeq ?_
 refine cReg ?_
 refine segEnd [1, 2, 4] (T1 := (mkT 75 [(1, vI 0), (2, vP 3 0), (4, vP 4 0)])) (H1 := [nR A, nR B, nR C, rB [vN X, vN Y, vN Z, vS 0 A.length, vS 1 B.length, vS 2 C.length] 27, rB [vI 0, vI 0, vI 0, .slice none 0 0, .slice none 0 0, .slice none 0 0] 27]) (by kernel_rfl) ?_
 refine kSeq ?_
 refine cSeq ?_
 refine cSeq ?_
 refine cReg ?_
 refine segH 1 (T1 := (mkT 75 [(1, vI 0), (2, vP 3 0), (4, vP 4 0), (11, .agg #[vN X, vN Y, vN Z, vS 0 A.length, vS 1 B.length, vS 2 C.length])])) (by kernel_rfl) ?_
 refine rCall (v := .bool (shadB X Y Z A B C)) (args := [.agg #[vN X, vN Y, vN Z, vS 0 A.length, vS 1 B.length, vS 2 C.length]]) (by kernel_rfl) rfl (by kernel_rfl) (Sound.lay0 [0, 1, 2] (isShadowB_yes X Y Z A B C (by first | assumption | omega | rfl | decide | exact HeapL.list _ _ _ _ | exact HeapL.nil _ _ _ | exact HeapL.all _ _ _ | (apply HeapL.lt64 <;> assumption) | (repeat' (first | assumption | apply or_lt64 | apply and_lt64 | apply andn_lt64 | apply pow_lt64 | (apply HeapL.lt64 <;> assumption)))) (by first | omega | assumption | (simp; done)) (by first | omega | assumption | (simp; done)) (by first | omega | assumption | (simp; done))) ⟨rdF false (flatNums _ _ _ _) rfl rfl, ⟨rdF false (flatNums _ _ _ _) rfl rfl, ⟨rdF false (flatNums _ _ _ _) rfl rfl, trivial⟩⟩⟩ rfl ⟨clF (flatNums _ _ _ _), ⟨clF (flatNums _ _ _ _), ⟨clF (flatNums _ _ _ _), trivial⟩⟩⟩ rfl (by first | rfl | simp [mpV, mpA, mpS, mpP, renId, shift]) rfl) ?_
 refine segH 2 (T1 := (mkT 75 [(1, vI 0), (2, vP 3 0), (4, vP 4 0), (11, .agg #[vN X, vN Y, vN Z, vS 0 A.length, vS 1 B.length, vS 2 C.length]), (12, .bool (shadB X Y Z A B C)), (13, .bool (!(shadB X Y Z A B C))), (14, .bool (!(shadB X Y Z A B C)))])) (by kernel_rfl) ?_
 cases h1 : (shadB X Y Z A B C : Bool)
 ·
  have h1k := h1
  (try simp only [bs0, bs1, bs2, bs3, beq_iff_eq, bne_iff_ne, beq_eq_false_iff_ne, bne_eq_false_iff_eq, ne_eq, bs4, bs5, bs6, bs7, bs8, bs9, bs10, bs11, ge_iff_le, gt_iff_lt] at h1)
  exfalso; simp_all
 ·
  have h1k := h1
  (try simp only [bs0, bs1, bs2, bs3, beq_iff_eq, bne_iff_ne, beq_eq_false_iff_ne, bne_eq_false_iff_eq, ne_eq, bs4, bs5, bs6, bs7, bs8, bs9, bs10, bs11, ge_iff_le, gt_iff_lt] at h1)
  refine segH 1 (T1 := (mkT 75 [(1, vI 0), (2, vP 3 0), (4, vP 4 0), (11, .agg #[vN X, vN Y, vN Z, vS 0 A.length, vS 1 B.length, vS 2 C.length]), (12, .bool true), (13, .bool false), (14, .bool false), (15, vI 0)])) (by kernel_rfl) ?_
  refine rCall (v := .bool (inR 0 0 2)) (args := [vI 0]) (by kernel_rfl) rfl (by kernel_rfl) (Sound.lay0 [] (isDirB 0) trivial rfl trivial rfl (by first | rfl | simp [mpV, mpA, mpS, mpP, renId, shift]) rfl) ?_
  refine segEndH [1, 2, 4, 18] (T1 := (mkT 75 [(1, vI 0), (2, vP 3 0), (4, vP 4 0), (18, .bool (!(inR 0 0 2)))])) (by kernel_rfl) ?_
  refine kSeq ?_
  cases h2 : (inR 0 0 2 : Bool)
  ·
   have h2k := h2
   (try simp only [bs0, bs1, bs2, bs3, beq_iff_eq, bne_iff_ne, beq_eq_false_iff_ne, bne_eq_false_iff_eq, ne_eq, bs4, bs5, bs6, bs7, bs8, bs9, bs10, bs11, ge_iff_le, gt_iff_lt] at h2)
   exfalso; (exact absurd h2 (by decide))
  ·
   have h2k := h2
   (try simp only [bs0, bs1, bs2, bs3, beq_iff_eq, bne_iff_ne, beq_eq_false_iff_ne, bne_eq_false_iff_eq, ne_eq, bs4, bs5, bs6, bs7, bs8, bs9, bs10, bs11, ge_iff_le, gt_iff_lt] at h2)
   refine cFalse (by kernel_rfl) ?_
   refine cSkip ?_
   refine kSeq ?_
   refine cSeq ?_
   refine cReg ?_
   refine segH 1 (T1 := (mkT 75 [(1, vI 0), (2, vP 3 0), (4, vP 4 0), (18, .bool false), (20, .agg #[vN X, vN Y, vN Z, vS 0 A.length, vS 1 B.length, vS 2 C.length])])) (by kernel_rfl) ?_
   refine rCall (v := .agg #[vN X, vN Y, vN Z]) (args := [.agg #[vN X, vN Y, vN Z, vS 0 A.length, vS 1 B.length, vS 2 C.length]]) (by kernel_rfl) rfl (by kernel_rfl) (Sound.lay0 [0, 1, 2] (shBox ((X : Nat) : Int) ((Y : Nat) : Int) ((Z : Nat) : Int) A B C) ⟨rdF false (flatNums _ _ _ _) rfl rfl, ⟨rdF false (flatNums _ _ _ _) rfl rfl, ⟨rdF false (flatNums _ _ _ _) rfl rfl, trivial⟩⟩⟩ rfl ⟨clF (flatNums _ _ _ _), ⟨clF (flatNums _ _ _ _), ⟨clF (flatNums _ _ _ _), trivial⟩⟩⟩ rfl (by first | rfl | simp [mpV, mpA, mpS, mpP, renId, shift]) (by first | rfl | simp [mpV, mpA, mpS, mpP, renId, shift])) ?_
   refine segEnd [1, 2, 4, 6] (T1 := (mkT 75 [(1, vI 0), (2, vP 3 0), (4, vP 4 0), (6, vP 5 0)])) (H1 := [nR A, nR B, nR C, rB [vN X, vN Y, vN Z, vS 0 A.length, vS 1 B.length, vS 2 C.length] 27, rB [vI 0, vI 0, vI 0, .slice none 0 0, .slice none 0 0, .slice none 0 0] 27, rB [vN X, vN Y, vN Z] 75]) (by kernel_rfl) ?_
   refine kSeq ?_
   refine cSeq ?_
   refine cRegW (N := 10) [⟨[], [], []⟩, ⟨[], [], [3]⟩, ⟨[], [], []⟩, ⟨[], [], [3]⟩, ⟨[], [], []⟩, ⟨[], [], [3]⟩, ⟨[], [], []⟩, ⟨[], [], [3]⟩, ⟨[], [], [0]⟩, ⟨[6], [], []⟩, ⟨[], [], []⟩, ⟨[], [], [3]⟩, ⟨[], [], [1]⟩, ⟨[7], [], []⟩, ⟨[], [], []⟩, ⟨[], [], [3]⟩, ⟨[], [], [2]⟩, ⟨[8], [], []⟩, ⟨[], [], []⟩, ⟨[9], [], []⟩, ⟨[], [9], []⟩] 4 [6, 7, 8, 9] (by rfl) (by rfl) (by kernel_rfl) (by kernel_rfl) (by kernel_rfl) ⟨nmsF (flatNums _ _ _ _), ⟨nmsF (flatNums _ _ _ _), ⟨nmsF (flatNums _ _ _ _), ⟨nmsX (by kernel_rfl), ⟨nmsX (by kernel_rfl), ⟨nmsX (by kernel_rfl), trivial⟩⟩⟩⟩⟩⟩ ?_
   refine segWH 9 (T1 := (mkT 75 [(1, vI 0), (2, vP 3 0), (4, vP 4 0), (6, vP 5 0), (22, vP 3 0), (23, vN X), (24, vP 3 1), (25, vN Y), (26, vP 3 2), (27, vN Z), (28, vP 3 3), (29, vS 0 A.length), (30, vN A.length)])) (by kernel_rfl) ?_
   refine rW (m := ⟨[6], [], []⟩) (v := vS 6 A.length) rfl (by kernel_rfl) (stNew (i := 6) (v1 := vS 10 A.length) (r := ⟨nums (List.replicate A.length 0), 3, false, true⟩) (eMkNum (n := A.length) (k := .i64) (k2 := .i64) (by kernel_rfl) (by kernel_rfl) ti22 ti3 rfl rfl (by decide) (by omega)) rfl (by kernel_rfl) (by kernel_rfl) (by kernel_rfl) (by kernel_rfl) (nmF (flatNums _ _ _ _)) (clF (flatNums _ _ _ _))) (by kernel_rfl) (NRs.all ⟨nrOf (by rfl) (nmF (flatNums _ _ _ _)), trivial⟩) ?_
   refine segWH 3 (T1 := (mkT 75 [(1, vI 0), (2, vP 3 0), (4, vP 4 0), (6, vP 5 0), (22, vP 3 0), (23, vN X), (24, vP 3 1), (25, vN Y), (26, vP 3 2), (27, vN Z), (28, vP 3 3), (29, vS 0 A.length), (30, vN A.length), (31, vS 6 A.length), (32, vP 3 4), (33, vS 1 B.length), (34, vN B.length)])) (by kernel_rfl) ?_
   refine rW (m := ⟨[7], [], []⟩) (v := vS 7 B.length) rfl (by kernel_rfl) (stNew (i := 7) (v1 := vS 10 B.length) (r := ⟨nums (List.replicate B.length 0), 3, false, true⟩) (eMkNum (n := B.length) (k := .i64) (k2 := .i64) (by kernel_rfl) (by kernel_rfl) ti22 ti3 rfl rfl (by decide) (by omega)) rfl (by kernel_rfl) (by kernel_rfl) (by kernel_rfl) (by kernel_rfl) (nmF (flatNums _ _ _ _)) (clF (flatNums _ _ _ _))) (by kernel_rfl) (NRs.all ⟨nrOf (by rfl) (nmF (flatNums _ _ _ _)), trivial⟩) ?_
   refine segWH 3 (T1 := (mkT 75 [(1, vI 0), (2, vP 3 0), (4, vP 4 0), (6, vP 5 0), (22, vP 3 0), (23, vN X), (24, vP 3 1), (25, vN Y), (26, vP 3 2), (27, vN Z), (28, vP 3 3), (29, vS 0 A.length), (30, vN A.length), (31, vS 6 A.length), (32, vP 3 4), (33, vS 1 B.length), (34, vN B.length), (35, vS 7 B.length), (36, vP 3 5), (37, vS 2 C.length), (38, vN C.length)])) (by kernel_rfl) ?_
   refine rW (m := ⟨[8], [], []⟩) (v := vS 8 C.length) rfl (by kernel_rfl) (stNew (i := 8) (v1 := vS 10 C.length) (r := ⟨nums (List.replicate C.length 0), 3, false, true⟩) (eMkNum (n := C.length) (k := .i64) (k2 := .i64) (by kernel_rfl) (by kernel_rfl) ti22 ti3 rfl rfl (by decide) (by omega)) rfl (by kernel_rfl) (by kernel_rfl) (by kernel_rfl) (by kernel_rfl) (nmF (flatNums _ _ _ _)) (clF (flatNums _ _ _ _))) (by kernel_rfl) (NRs.all ⟨nrOf (by rfl) (nmF (flatNums _ _ _ _)), trivial⟩) ?_
   refine segWH 1 (T1 := (mkT 75 [(1, vI 0), (2, vP 3 0), (4, vP 4 0), (6, vP 5 0), (22, vP 3 0), (23, vN X), (24, vP 3 1), (25, vN Y), (26, vP 3 2), (27, vN Z), (28, vP 3 3), (29, vS 0 A.length), (30, vN A.length), (31, vS 6 A.length), (32, vP 3 4), (33, vS 1 B.length), (34, vN B.length), (35, vS 7 B.length), (36, vP 3 5), (37, vS 2 C.length), (38, vN C.length), (39, vS 8 C.length), (40, .agg #[vN X, vN Y, vN Z, vS 6 A.length, vS 7 B.length, vS 8 C.length])])) (by kernel_rfl) ?_
   refine rW (m := ⟨[9], [], []⟩) (v := vP 9 0) rfl (by kernel_rfl) (stNew (i := 9) (v1 := vP 10 0) (r := ⟨[vI 0, vI 0, vI 0, .slice none 0 0, .slice none 0 0, .slice none 0 0], 27, true, true⟩) (by kernel_rfl) rfl (by kernel_rfl) (by kernel_rfl) (by kernel_rfl) (by kernel_rfl) (nmX (by kernel_rfl)) (clX (by kernel_rfl))) (by kernel_rfl) (NRs.all ⟨nrOf (by rfl) (nmX (by kernel_rfl)), trivial⟩) ?_
   refine rW (m := ⟨[], [9], []⟩) (v := .tuple #[]) rfl (by kernel_rfl) (stSet (b := 9) (r := ⟨[vN X, vN Y, vN Z, vS 6 A.length, vS 7 B.length, vS 8 C.length], 27, true, true⟩) (by kernel_rfl) rfl (by kernel_rfl) (by kernel_rfl) (by kernel_rfl) (by kernel_rfl) (nmX (by kernel_rfl)) (clX (by kernel_rfl))) (by kernel_rfl) (NRs.all ⟨nrOf (by rfl) (nmX (by kernel_rfl)), trivial⟩) ?_
   refine segEndW [1, 2, 4, 6, 7] (T1 := (mkT 75 [(1, vI 0), (2, vP 3 0), (4, vP 4 0), (6, vP 5 0), (7, vP 9 0)])) (H1 := [nR A, nR B, nR C, rB [vN X, vN Y, vN Z, vS 0 A.length, vS 1 B.length, vS 2 C.length] 27, rB [vI 0, vI 0, vI 0, .slice none 0 0, .slice none 0 0, .slice none 0 0] 27, rB [vN X, vN Y, vN Z] 75, nW (List.replicate A.length 0), nW (List.replicate B.length 0), nW (List.replicate C.length 0), rB [vN X, vN Y, vN Z, vS 6 A.length, vS 7 B.length, vS 8 C.length] 27]) (by kernel_rfl) ?_
   refine kSeq ?_
   refine cSeq ?_
   refine cSeq ?_
   refine cReg ?_
   refine segH 1 (T1 := (mkT 75 [(1, vI 0), (2, vP 3 0), (4, vP 4 0), (6, vP 5 0), (7, vP 9 0), (41, .agg #[vN X, vN Y, vN Z])])) (by kernel_rfl) ?_
   refine rCall (v := vN (X * Y * Z)) (args := [.agg #[vN X, vN Y, vN Z]]) (by kernel_rfl) rfl (by kernel_rfl) (Sound.lay0 [] (sizeB X Y Z (by first | assumption | omega | rfl | decide | exact HeapL.list _ _ _ _ | exact HeapL.nil _ _ _ | exact HeapL.all _ _ _ | (apply HeapL.lt64 <;> assumption) | (repeat' (first | assumption | apply or_lt64 | apply and_lt64 | apply andn_lt64 | apply pow_lt64 | (apply HeapL.lt64 <;> assumption))))) trivial rfl trivial rfl (by first | rfl | simp [mpV, mpA, mpS, mpP, renId, shift]) rfl) ?_
   refine segEndH [1, 2, 4, 6, 7, 42, 43] (T1 := (mkT 75 [(1, vI 0), (2, vP 3 0), (4, vP 4 0), (6, vP 5 0), (7, vP 9 0), (42, vN (X * Y * Z)), (43, vI 0)])) (by kernel_rfl) ?_
   refine kSeq ?_
   refine cBlk ?_
   refine cLoop (fun mm T H => ∃ i : Nat, ∃ MA : List Int, ∃ MB : List Int, ∃ MC : List Int, (i ≤ X * Y * Z) ∧ (MA = mirT 2 0 X Y Z A (i)) ∧ (MB = mirT 1 0 X Y Z B (i)) ∧ (MC = mirT 0 0 X Y Z C (i)) ∧ mm = X * Y * Z - i ∧ T = (mkT 75 [(1, vI 0), (2, vP 3 0), (4, vP 4 0), (6, vP 5 0), (7, vP 9 0), (42, vN (X * Y * Z)), (43, vN i)]) ∧ H = [nR A, nR B, nR C, rB [vN X, vN Y, vN Z, vS 0 A.length, vS 1 B.length, vS 2 C.length] 27, rB [vI 0, vI 0, vI 0, .slice none 0 0, .slice none 0 0, .slice none 0 0] 27, rB [vN X, vN Y, vN Z] 75, nW MA, nW MB, nW MC, rB [vN X, vN Y, vN Z, vS 6 A.length, vS 7 B.length, vS 8 C.length] 27]) (X * Y * Z - 0) (mkT 75 [(1, vI 0), (2, vP 3 0), (4, vP 4 0), (6, vP 5 0), (7, vP 9 0), (42, vN (X * Y * Z)), (43, vI 0)]) [nR A, nR B, nR C, rB [vN X, vN Y, vN Z, vS 0 A.length, vS 1 B.length, vS 2 C.length] 27, rB [vI 0, vI 0, vI 0, .slice none 0 0, .slice none 0 0, .slice none 0 0] 27, rB [vN X, vN Y, vN Z] 75, nW (List.replicate A.length 0), nW (List.replicate B.length 0), nW (List.replicate C.length 0), rB [vN X, vN Y, vN Z, vS 6 A.length, vS 7 B.length, vS 8 C.length] 27] (wkSame [1, 2, 4, 6, 7, 42, 43] (by kernel_rfl)) ?_ ?_
   ·
    exact ⟨0, (List.replicate A.length 0), (List.replicate B.length 0), (List.replicate C.length 0), (Nat.zero_le _), ((by show _ = List.replicate (X * Y) 0; rw [hwa])), ((by show _ = List.replicate (X * Z) 0; rw [hwb])), ((by show _ = List.replicate (Y * Z) 0; rw [hwc])), rfl, rfl, rfl⟩
   ·
    rintro _ _ _ ⟨i, MA, MB, MC, hi, hMA, hMB, hMC, rfl, rfl, rfl⟩
    have hMlA : MA.length = X * Y := (by rw [hMA]; exact mirT_length 2 0 X Y Z A _); have hMlB : MB.length = X * Z := (by rw [hMB]; exact mirT_length 1 0 X Y Z B _); have hMlC : MC.length = Y * Z := (by rw [hMC]; exact mirT_length 0 0 X Y Z C _)
    refine cSeq ?_
    refine cReg ?_
    refine segEndH [1, 2, 4, 6, 7, 42, 43, 44] (T1 := (mkT 75 [(1, vI 0), (2, vP 3 0), (4, vP 4 0), (6, vP 5 0), (7, vP 9 0), (42, vN (X * Y * Z)), (43, vN i), (44, .bool (decide (((i : Nat) : Int) < ((X * Y * Z : Nat) : Int))))])) (by kernel_rfl) ?_
    refine kSeq ?_
    refine cSeq ?_
    cases h3 : (decide (((i : Nat) : Int) < ((X * Y * Z : Nat) : Int)) : Bool)
    ·
     have h3k := h3
     (try simp only [bs0, bs1, bs2, bs3, beq_iff_eq, bne_iff_ne, beq_eq_false_iff_ne, bne_eq_false_iff_eq, ne_eq, bs4, bs5, bs6, bs7, bs8, bs9, bs10, bs11, ge_iff_le, gt_iff_lt] at h3)
     refine cFalse (by kernel_rfl) ?_
     refine cExit ?_
     refine kSeqE ?_
     refine kLoopE ?_
     refine kBlkHit ?_
     refine kSeq ?_
     refine cSeq ?_
     refine cReg ?_
     refine segEnd [4, 5] (T1 := (mkT 75 [(4, vP 4 0), (5, .bool true)])) (H1 := [nR A, nR B, nR C, rB [vN X, vN Y, vN Z, vS 0 A.length, vS 1 B.length, vS 2 C.length] 27, rB [vN X, vN Y, vN Z, vS 6 A.length, vS 7 B.length, vS 8 C.length] 27, rB [vN X, vN Y, vN Z] 75, nW MA, nW MB, nW MC, rB [vN X, vN Y, vN Z, vS 6 A.length, vS 7 B.length, vS 8 C.length] 27]) (by kernel_rfl) ?_
     refine kSeq ?_
     refine cRet ?_
     have he0 : (MA : List Int) = (mirE 2 0 X Y Z A) := by first | omega | (rw [hMA]; exact mirT_end A (by omega) (by omega) hs (by omega) hi) | (rw [hMB]; exact mirT_end B (by omega) (by omega) hs (by omega) hi) | (rw [hMC]; exact mirT_end C (by omega) (by omega) hs (by omega) hi)
     have he1 : (MB : List Int) = (mirE 1 0 X Y Z B) := by first | omega | (rw [hMA]; exact mirT_end A (by omega) (by omega) hs (by omega) hi) | (rw [hMB]; exact mirT_end B (by omega) (by omega) hs (by omega) hi) | (rw [hMC]; exact mirT_end C (by omega) (by omega) hs (by omega) hi)
     have he2 : (MC : List Int) = (mirE 0 0 X Y Z C) := by first | omega | (rw [hMA]; exact mirT_end A (by omega) (by omega) hs (by omega) hi) | (rw [hMB]; exact mirT_end B (by omega) (by omega) hs (by omega) hi) | (rw [hMC]; exact mirT_end C (by omega) (by omega) hs (by omega) hi)
     refine endCast (v1 := .tuple #[.agg #[vN X, vN Y, vN Z, vS 3 A.length, vS 4 B.length, vS 5 C.length], .bool true]) (H1 := [nR A, nR B, nR C, nW MA, nW MB, nW MC]) (by first | rfl | ((try rw [← he0]); (try rw [← he1]); (try rw [← he2]); done) | (simp only [← he0, ← he1, ← he2]; done)) (by first | rfl | ((try rw [← he0]); (try rw [← he1]); (try rw [← he2]); done) | (simp only [← he0, ← he1, ← he2]; done)) ?_
     exact endF (Or.inr rfl) (l := [.agg #[vN X, vN Y, vN Z, vS 6 A.length, vS 7 B.length, vS 8 C.length], .bool true]) [0, 1, 2, 6, 7, 8] (by kernel_rfl) (by first | rfl | simp [packR, mpV, mpA, mpS, mpP, renId]) ⟨rrF (flatNums _ _ _ _) rfl, ⟨rrF (flatNums _ _ _ _) rfl, ⟨rrF (flatNums _ _ _ _) rfl, ⟨rrF (flatNums _ _ _ _) rfl, ⟨rrF (flatNums _ _ _ _) rfl, ⟨rrF (flatNums _ _ _ _) rfl, trivial⟩⟩⟩⟩⟩⟩ rfl rfl
    ·
     have h3k := h3
     (try simp only [bs0, bs1, bs2, bs3, beq_iff_eq, bne_iff_ne, beq_eq_false_iff_ne, bne_eq_false_iff_eq, ne_eq, bs4, bs5, bs6, bs7, bs8, bs9, bs10, bs11, ge_iff_le, gt_iff_lt] at h3)
     have hhas := has_cellOf hs (i := i) (by omega); have hh3 := (has3_iff (c := cellOf Y Z i)).1 hhas; simp only [cellOf] at hh3; have hmir := mir_has (d := 0) (c := cellOf Y Z i) hhas; have hm3 := has3_iff.1 hmir; simp only [mir, cellOf] at hm3; have q0 := two_lt hh3.2.1 hh3.2.2; have q1 := two_lt hh3.1 hh3.2.2; have q2 := two_lt hh3.1 hh3.2.1; have r0 := two_lt hm3.2.1 hm3.2.2; have r1 := two_lt hm3.1 hm3.2.2; have r2 := two_lt hm3.1 hm3.2.1
     refine cTrue (by kernel_rfl) ?_
     refine cSkip ?_
     refine kSeq ?_
     refine cSeq ?_
     refine cBlk ?_
     refine cSeq ?_
     refine cReg ?_
     refine segEndH [1, 2, 4, 6, 7, 8, 42, 43] (T1 := (mkT 75 [(1, vI 0), (2, vP 3 0), (4, vP 4 0), (6, vP 5 0), (7, vP 9 0), (8, vN i), (42, vN (X * Y * Z)), (43, vN i)])) (by kernel_rfl) ?_
     refine kSeq ?_
     refine cSeq ?_
     refine cReg ?_
     refine segH 2 (T1 := (mkT 75 [(1, vI 0), (2, vP 3 0), (4, vP 4 0), (6, vP 5 0), (7, vP 9 0), (8, vN i), (42, vN (X * Y * Z)), (43, vN i), (46, .agg #[vN X, vN Y, vN Z]), (47, vN i)])) (by kernel_rfl) ?_
     refine rCall (v := .agg #[vN (i / Z / Y), vN (i / Z % Y), vN (i % Z)]) (args := [.agg #[vN X, vN Y, vN Z], vN i]) (by kernel_rfl) rfl (by kernel_rfl) (Sound.lay0 [] (cellB X Y Z i (by first | assumption | omega | rfl | decide | exact HeapL.list _ _ _ _ | exact HeapL.nil _ _ _ | exact HeapL.all _ _ _ | (apply HeapL.lt64 <;> assumption) | (repeat' (first | assumption | apply or_lt64 | apply and_lt64 | apply andn_lt64 | apply pow_lt64 | (apply HeapL.lt64 <;> assumption)))) (by first | assumption | omega | rfl | decide | exact HeapL.list _ _ _ _ | exact HeapL.nil _ _ _ | exact HeapL.all _ _ _ | (apply HeapL.lt64 <;> assumption) | (repeat' (first | assumption | apply or_lt64 | apply and_lt64 | apply andn_lt64 | apply pow_lt64 | (apply HeapL.lt64 <;> assumption))))) trivial rfl trivial rfl (by first | rfl | simp [mpV, mpA, mpS, mpP, renId, shift]) (by first | rfl | simp [mpV, mpA, mpS, mpP, renId, shift])) ?_
     refine segEnd [1, 2, 4, 6, 7, 9, 42, 43] (T1 := (mkT 75 [(1, vI 0), (2, vP 3 0), (4, vP 4 0), (6, vP 5 0), (7, vP 9 0), (9, vP 10 0), (42, vN (X * Y * Z)), (43, vN i)])) (H1 := [nR A, nR B, nR C, rB [vN X, vN Y, vN Z, vS 0 A.length, vS 1 B.length, vS 2 C.length] 27, rB [vI 0, vI 0, vI 0, .slice none 0 0, .slice none 0 0, .slice none 0 0] 27, rB [vN X, vN Y, vN Z] 75, nW MA, nW MB, nW MC, rB [vN X, vN Y, vN Z, vS 6 A.length, vS 7 B.length, vS 8 C.length] 27, rB [vN (i / Z / Y), vN (i / Z % Y), vN (i % Z)] 74]) (by kernel_rfl) ?_
     refine kSeq ?_
     refine cSeq ?_
     refine cReg ?_
     refine segEndH [1, 2, 4, 6, 7, 9, 42, 43, 49] (T1 := (mkT 75 [(1, vI 0), (2, vP 3 0), (4, vP 4 0), (6, vP 5 0), (7, vP 9 0), (9, vP 10 0), (42, vN (X * Y * Z)), (43, vN i), (49, vI 0)])) (by kernel_rfl) ?_
     refine kSeq ?_
     refine cBlk ?_
     refine cLoop (fun mm T H => ∃ d : Nat, ∃ PA : List Int, ∃ PB : List Int, ∃ PC : List Int, (d ≤ 3) ∧ (PA = mirT 2 0 X Y Z A (i + (if 2 < d then 1 else 0))) ∧ (PB = mirT 1 0 X Y Z B (i + (if 1 < d then 1 else 0))) ∧ (PC = mirT 0 0 X Y Z C (i + (if 0 < d then 1 else 0))) ∧ mm = 3 - d ∧ T = (mkT 75 [(1, vI 0), (2, vP 3 0), (4, vP 4 0), (6, vP 5 0), (7, vP 9 0), (9, vP 10 0), (42, vN (X * Y * Z)), (43, vN i), (49, vN d)]) ∧ H = [nR A, nR B, nR C, rB [vN X, vN Y, vN Z, vS 0 A.length, vS 1 B.length, vS 2 C.length] 27, rB [vI 0, vI 0, vI 0, .slice none 0 0, .slice none 0 0, .slice none 0 0] 27, rB [vN X, vN Y, vN Z] 75, nW PA, nW PB, nW PC, rB [vN X, vN Y, vN Z, vS 6 A.length, vS 7 B.length, vS 8 C.length] 27, rB [vN (i / Z / Y), vN (i / Z % Y), vN (i % Z)] 74]) (3 - 0) (mkT 75 [(1, vI 0), (2, vP 3 0), (4, vP 4 0), (6, vP 5 0), (7, vP 9 0), (9, vP 10 0), (42, vN (X * Y * Z)), (43, vN i), (49, vI 0)]) [nR A, nR B, nR C, rB [vN X, vN Y, vN Z, vS 0 A.length, vS 1 B.length, vS 2 C.length] 27, rB [vI 0, vI 0, vI 0, .slice none 0 0, .slice none 0 0, .slice none 0 0] 27, rB [vN X, vN Y, vN Z] 75, nW MA, nW MB, nW MC, rB [vN X, vN Y, vN Z, vS 6 A.length, vS 7 B.length, vS 8 C.length] 27, rB [vN (i / Z / Y), vN (i / Z % Y), vN (i % Z)] 74] (wkSame [1, 2, 4, 6, 7, 9, 42, 43, 49] (by kernel_rfl)) ?_ ?_
     ·
      exact ⟨0, MA, MB, MC, (Nat.zero_le _), (hMA), (hMB), (hMC), rfl, rfl, rfl⟩
     ·
      rintro _ _ _ ⟨d, PA, PB, PC, hd, hPA, hPB, hPC, rfl, rfl, rfl⟩
      have hPlA : PA.length = X * Y := (by rw [hPA]; exact mirT_length 2 0 X Y Z A _); have hPlB : PB.length = X * Z := (by rw [hPB]; exact mirT_length 1 0 X Y Z B _); have hPlC : PC.length = Y * Z := (by rw [hPC]; exact mirT_length 0 0 X Y Z C _)
      have hcase : d = 0 ∨ d = 1 ∨ d = 2 ∨ d = 3 := by omega
      rcases hcase with rfl | rfl | rfl | rfl
      ·
       refine cSeq ?_
       refine cReg ?_
       refine segEndH [1, 2, 4, 6, 7, 9, 42, 43, 49, 50] (T1 := (mkT 75 [(1, vI 0), (2, vP 3 0), (4, vP 4 0), (6, vP 5 0), (7, vP 9 0), (9, vP 10 0), (42, vN (X * Y * Z)), (43, vN i), (49, vI 0), (50, .bool true)])) (by kernel_rfl) ?_
       refine kSeq ?_
       refine cSeq ?_
       refine cTrue (by kernel_rfl) ?_
       refine cSkip ?_
       refine kSeq ?_
       refine cSeq ?_
       refine cBlk ?_
       refine cSeq ?_
       refine cReg ?_
       refine segEndH [1, 2, 4, 6, 7, 9, 10, 42, 43, 49] (T1 := (mkT 75 [(1, vI 0), (2, vP 3 0), (4, vP 4 0), (6, vP 5 0), (7, vP 9 0), (9, vP 10 0), (10, vI 0), (42, vN (X * Y * Z)), (43, vN i), (49, vI 0)])) (by kernel_rfl) ?_
       refine kSeq ?_
       refine cRegW (N := 11) [⟨[], [], [9]⟩, ⟨[], [], []⟩, ⟨[], [], [6, 7, 8]⟩, ⟨[], [], [5]⟩, ⟨[], [], [5]⟩, ⟨[], [], [10]⟩, ⟨[], [], []⟩, ⟨[], [], []⟩, ⟨[], [], []⟩, ⟨[], [], []⟩, ⟨[], [], [3]⟩, ⟨[], [], []⟩, ⟨[], [], [0, 1, 2]⟩, ⟨[], [], [5]⟩, ⟨[], [], [10]⟩, ⟨[], [], []⟩, ⟨[], [], []⟩, ⟨[], [], []⟩, ⟨[], [], [2]⟩, ⟨[], [], []⟩, ⟨[], [8], []⟩] 0 [] (by rfl) (by rfl) (by kernel_rfl) (by kernel_rfl) (by kernel_rfl) ⟨nmsF (flatNums _ _ _ _), ⟨nmsF (flatNums _ _ _ _), ⟨nmsF (flatNums _ _ _ _), ⟨nmsX (by kernel_rfl), ⟨nmsX (by kernel_rfl), ⟨nmsX (by kernel_rfl), ⟨nmsF (flatNums _ _ _ _), ⟨nmsF (flatNums _ _ _ _), ⟨nmsF (flatNums _ _ _ _), ⟨nmsX (by kernel_rfl), ⟨nmsX (by kernel_rfl), trivial⟩⟩⟩⟩⟩⟩⟩⟩⟩⟩⟩ ?_
       refine segWH 2 (T1 := (mkT 75 [(1, vI 0), (2, vP 3 0), (4, vP 4 0), (6, vP 5 0), (7, vP 9 0), (9, vP 10 0), (10, vI 0), (42, vN (X * Y * Z)), (43, vN i), (49, vI 0), (52, .agg #[vN X, vN Y, vN Z, vS 6 A.length, vS 7 B.length, vS 8 C.length]), (53, vI 0)])) (by kernel_rfl) ?_
       refine rW (m := ⟨[], [], [6, 7, 8]⟩) (v := vS 8 C.length) rfl (by kernel_rfl) (stQ (args := [.agg #[vN X, vN Y, vN Z, vS 6 A.length, vS 7 B.length, vS 8 C.length], vI 0]) rfl (by kernel_rfl) (Any.lay0 [6, 7, 8] (shListG0 ((X : Nat) : Int) ((Y : Nat) : Int) ((Z : Nat) : Int) A.length B.length C.length PA PB PC) ⟨rdF true (flatNums _ _ _ _) rfl rfl, ⟨rdF true (flatNums _ _ _ _) rfl rfl, ⟨rdF true (flatNums _ _ _ _) rfl rfl, trivial⟩⟩⟩ rfl ⟨clF (flatNums _ _ _ _), ⟨clF (flatNums _ _ _ _), ⟨clF (flatNums _ _ _ _), trivial⟩⟩⟩ rfl (by first | rfl | simp [mpV, mpA, mpS, mpP, renId, shift]) rfl) rfl (by kernel_rfl) (by kernel_rfl)) (by kernel_rfl) nr0 ?_
       refine segWH 4 (T1 := (mkT 75 [(1, vI 0), (2, vP 3 0), (4, vP 4 0), (6, vP 5 0), (7, vP 9 0), (9, vP 10 0), (10, vI 0), (42, vN (X * Y * Z)), (43, vN i), (49, vI 0), (52, .agg #[vN X, vN Y, vN Z, vS 6 A.length, vS 7 B.length, vS 8 C.length]), (53, vI 0), (54, vS 8 C.length), (55, .agg #[vN X, vN Y, vN Z]), (56, .agg #[vN X, vN Y, vN Z]), (57, .agg #[vN (i / Z / Y), vN (i / Z % Y), vN (i % Z)]), (58, vI 0)])) (by kernel_rfl) ?_
       refine rW (m := ⟨[], [], []⟩) (v := .agg #[vI (((X : Nat) : Int) - 1 - ((i / Z / Y : Nat) : Int)), vN (i / Z % Y), vN (i % Z)]) rfl (by kernel_rfl) (stQ (args := [.agg #[vN X, vN Y, vN Z], .agg #[vN (i / Z / Y), vN (i / Z % Y), vN (i % Z)], vI 0]) rfl (by kernel_rfl) (Any.lay0 [] (mirror0 X Y Z ((i / Z / Y : Nat) : Int) ((i / Z % Y : Nat) : Int) ((i % Z : Nat) : Int) (by first | assumption | omega | rfl | decide | exact HeapL.list _ _ _ _ | exact HeapL.nil _ _ _ | exact HeapL.all _ _ _ | (apply HeapL.lt64 <;> assumption) | (repeat' (first | assumption | apply or_lt64 | apply and_lt64 | apply andn_lt64 | apply pow_lt64 | (apply HeapL.lt64 <;> assumption)))) (by first | assumption | exact hhas | exact hmir)) trivial rfl trivial rfl (by first | rfl | simp [mpV, mpA, mpS, mpP, renId, shift]) (by first | rfl | simp [mpV, mpA, mpS, mpP, renId, shift])) rfl (by kernel_rfl) (by kernel_rfl)) (by kernel_rfl) nr0 ?_
       refine segWH 1 (T1 := (mkT 75 [(1, vI 0), (2, vP 3 0), (4, vP 4 0), (6, vP 5 0), (7, vP 9 0), (9, vP 10 0), (10, vI 0), (42, vN (X * Y * Z)), (43, vN i), (49, vI 0), (52, .agg #[vN X, vN Y, vN Z, vS 6 A.length, vS 7 B.length, vS 8 C.length]), (53, vI 0), (54, vS 8 C.length), (55, .agg #[vN X, vN Y, vN Z]), (56, .agg #[vN X, vN Y, vN Z]), (57, .agg #[vN (i / Z / Y), vN (i / Z % Y), vN (i % Z)]), (58, vI 0), (59, .agg #[vI (((X : Nat) : Int) - 1 - ((i / Z / Y : Nat) : Int)), vN (i / Z % Y), vN (i % Z)]), (60, vI 0)])) (by kernel_rfl) ?_
       refine rW (m := ⟨[], [], []⟩) (v := vI (((i / Z % Y : Nat) : Int) * (Z : Int) + ((i % Z : Nat) : Int))) rfl (by kernel_rfl) (stQ (args := [.agg #[vN X, vN Y, vN Z], .agg #[vI (((X : Nat) : Int) - 1 - ((i / Z / Y : Nat) : Int)), vN (i / Z % Y), vN (i % Z)], vI 0]) rfl (by kernel_rfl) (Any.lay0 [] (line0 X Y Z (((X : Nat) : Int) - 1 - ((i / Z / Y : Nat) : Int)) ((i / Z % Y : Nat) : Int) ((i % Z : Nat) : Int) (by first | assumption | omega | rfl | decide | exact HeapL.list _ _ _ _ | exact HeapL.nil _ _ _ | exact HeapL.all _ _ _ | (apply HeapL.lt64 <;> assumption) | (repeat' (first | assumption | apply or_lt64 | apply and_lt64 | apply andn_lt64 | apply pow_lt64 | (apply HeapL.lt64 <;> assumption)))) (by first | assumption | exact hhas | exact hmir)) trivial rfl trivial rfl (by first | rfl | simp [mpV, mpA, mpS, mpP, renId, shift]) rfl) rfl (by kernel_rfl) (by kernel_rfl)) (by kernel_rfl) nr0 ?_
       refine segWH 2 (T1 := (mkT 75 [(1, vI 0), (2, vP 3 0), (4, vP 4 0), (6, vP 5 0), (7, vP 9 0), (9, vP 10 0), (10, vI 0), (42, vN (X * Y * Z)), (43, vN i), (49, vI 0), (52, .agg #[vN X, vN Y, vN Z, vS 6 A.length, vS 7 B.length, vS 8 C.length]), (53, vI 0), (54, vS 8 C.length), (55, .agg #[vN X, vN Y, vN Z]), (56, .agg #[vN X, vN Y, vN Z]), (57, .agg #[vN (i / Z / Y), vN (i / Z % Y), vN (i % Z)]), (58, vI 0), (59, .agg #[vI (((X : Nat) : Int) - 1 - ((i / Z / Y : Nat) : Int)), vN (i / Z % Y), vN (i % Z)]), (60, vI 0), (61, vI (((i / Z % Y : Nat) : Int) * (Z : Int) + ((i % Z : Nat) : Int))), (62, .agg #[vN X, vN Y, vN Z, vS 0 A.length, vS 1 B.length, vS 2 C.length]), (63, vI 0)])) (by kernel_rfl) ?_
       refine rW (m := ⟨[], [], [0, 1, 2]⟩) (v := vS 2 C.length) rfl (by kernel_rfl) (stQ (args := [.agg #[vN X, vN Y, vN Z, vS 0 A.length, vS 1 B.length, vS 2 C.length], vI 0]) rfl (by kernel_rfl) (Any.lay0 [0, 1, 2] (shListG0 ((X : Nat) : Int) ((Y : Nat) : Int) ((Z : Nat) : Int) A.length B.length C.length A B C) ⟨rdF false (flatNums _ _ _ _) rfl rfl, ⟨rdF false (flatNums _ _ _ _) rfl rfl, ⟨rdF false (flatNums _ _ _ _) rfl rfl, trivial⟩⟩⟩ rfl ⟨clF (flatNums _ _ _ _), ⟨clF (flatNums _ _ _ _), ⟨clF (flatNums _ _ _ _), trivial⟩⟩⟩ rfl (by first | rfl | simp [mpV, mpA, mpS, mpP, renId, shift]) rfl) rfl (by kernel_rfl) (by kernel_rfl)) (by kernel_rfl) nr0 ?_
       refine segWH 3 (T1 := (mkT 75 [(1, vI 0), (2, vP 3 0), (4, vP 4 0), (6, vP 5 0), (7, vP 9 0), (9, vP 10 0), (10, vI 0), (42, vN (X * Y * Z)), (43, vN i), (49, vI 0), (52, .agg #[vN X, vN Y, vN Z, vS 6 A.length, vS 7 B.length, vS 8 C.length]), (53, vI 0), (54, vS 8 C.length), (55, .agg #[vN X, vN Y, vN Z]), (56, .agg #[vN X, vN Y, vN Z]), (57, .agg #[vN (i / Z / Y), vN (i / Z % Y), vN (i % Z)]), (58, vI 0), (59, .agg #[vI (((X : Nat) : Int) - 1 - ((i / Z / Y : Nat) : Int)), vN (i / Z % Y), vN (i % Z)]), (60, vI 0), (61, vI (((i / Z % Y : Nat) : Int) * (Z : Int) + ((i % Z : Nat) : Int))), (62, .agg #[vN X, vN Y, vN Z, vS 0 A.length, vS 1 B.length, vS 2 C.length]), (63, vI 0), (64, vS 2 C.length), (65, .agg #[vN X, vN Y, vN Z]), (66, .agg #[vN (i / Z / Y), vN (i / Z % Y), vN (i % Z)]), (67, vI 0)])) (by kernel_rfl) ?_
       refine rW (m := ⟨[], [], []⟩) (v := vI (((i / Z % Y : Nat) : Int) * (Z : Int) + ((i % Z : Nat) : Int))) rfl (by kernel_rfl) (stQ (args := [.agg #[vN X, vN Y, vN Z], .agg #[vN (i / Z / Y), vN (i / Z % Y), vN (i % Z)], vI 0]) rfl (by kernel_rfl) (Any.lay0 [] (line0 X Y Z ((i / Z / Y : Nat) : Int) ((i / Z % Y : Nat) : Int) ((i % Z : Nat) : Int) (by first | assumption | omega | rfl | decide | exact HeapL.list _ _ _ _ | exact HeapL.nil _ _ _ | exact HeapL.all _ _ _ | (apply HeapL.lt64 <;> assumption) | (repeat' (first | assumption | apply or_lt64 | apply and_lt64 | apply andn_lt64 | apply pow_lt64 | (apply HeapL.lt64 <;> assumption)))) (by first | assumption | exact hhas | exact hmir)) trivial rfl trivial rfl (by first | rfl | simp [mpV, mpA, mpS, mpP, renId, shift]) rfl) rfl (by kernel_rfl) (by kernel_rfl)) (by kernel_rfl) nr0 ?_
       refine rW (m := ⟨[], [], []⟩) (v := vP 2 ((((i / Z % Y : Nat) : Int) * (Z : Int) + ((i % Z : Nat) : Int)).toNat)) rfl (by kernel_rfl) (stId (eIdxS (ad := ⟨2, 0, none⟩) (n := C.length) (m := 0) (k := .i64) (c := (((i / Z % Y : Nat) : Int) * (Z : Int) + ((i % Z : Nat) : Int))) (j := ((((i / Z % Y : Nat) : Int) * (Z : Int) + ((i % Z : Nat) : Int)).toNat)) (o := (((i / Z % Y : Nat) : Int) * (Z : Int) + ((i % Z : Nat) : Int)).toNat) (by kernel_rfl) (by kernel_rfl) ti22 ti3 (by omega) (by omega) (by simp)) rfl (by kernel_rfl) (by kernel_rfl) (by kernel_rfl)) (by kernel_rfl) nr0 ?_
       refine rW (m := ⟨[], [], [2]⟩) (v := vI (C.getD ((((i / Z % Y : Nat) : Int) * (Z : Int) + ((i % Z : Nat) : Int)).toNat) 0)) rfl (by kernel_rfl) (stId (eLdNum (ad := ⟨2, (((i / Z % Y : Nat) : Int) * (Z : Int) + ((i % Z : Nat) : Int)).toNat, none⟩) (r := ⟨nums C, 3, false, false⟩) (L := C) (j := ((((i / Z % Y : Nat) : Int) * (Z : Int) + ((i % Z : Nat) : Int)).toNat)) (by kernel_rfl) (by kernel_rfl) rfl (by first | rfl | omega) (by omega) ti3 rfl) rfl (by kernel_rfl) (by kernel_rfl) (by kernel_rfl)) (by kernel_rfl) nr0 ?_
       refine rW (m := ⟨[], [], []⟩) (v := vP 8 ((((i / Z % Y : Nat) : Int) * (Z : Int) + ((i % Z : Nat) : Int)).toNat)) rfl (by kernel_rfl) (stId (eIdxS (ad := ⟨8, 0, none⟩) (n := C.length) (m := 0) (k := .i64) (c := (((i / Z % Y : Nat) : Int) * (Z : Int) + ((i % Z : Nat) : Int))) (j := ((((i / Z % Y : Nat) : Int) * (Z : Int) + ((i % Z : Nat) : Int)).toNat)) (o := (((i / Z % Y : Nat) : Int) * (Z : Int) + ((i % Z : Nat) : Int)).toNat) (by kernel_rfl) (by kernel_rfl) ti22 ti3 (by omega) (by omega) (by simp)) rfl (by kernel_rfl) (by kernel_rfl) (by kernel_rfl)) (by kernel_rfl) nr0 ?_
       refine rW (m := ⟨[], [8], []⟩) (v := .tuple #[]) rfl (by kernel_rfl) (stSet (b := 8) (r := ⟨nums (PC.set ((((i / Z % Y : Nat) : Int) * (Z : Int) + ((i % Z : Nat) : Int)).toNat) (C.getD ((((i / Z % Y : Nat) : Int) * (Z : Int) + ((i % Z : Nat) : Int)).toNat) 0)), 3, false, true⟩) (eStNum (b := 8) (o := ((((i / Z % Y : Nat) : Int) * (Z : Int) + ((i % Z : Nat) : Int)).toNat)) (L := PC) (n := (C.getD ((((i / Z % Y : Nat) : Int) * (Z : Int) + ((i % Z : Nat) : Int)).toNat) 0)) (e := 3) (bx := false) (by kernel_rfl) (by kernel_rfl) (by kernel_rfl) (by omega) ti3 rfl (by rfl)) rfl (by kernel_rfl) (by kernel_rfl) (by kernel_rfl) (by kernel_rfl) (nmF (flatNums _ _ _ _)) (clF (flatNums _ _ _ _))) (by kernel_rfl) (NRs.all ⟨nrOf (by rfl) (nmF (flatNums _ _ _ _)), trivial⟩) ?_
       refine segEndW [1, 2, 4, 6, 7, 9, 42, 43, 49] (T1 := (mkT 75 [(1, vI 0), (2, vP 3 0), (4, vP 4 0), (6, vP 5 0), (7, vP 9 0), (9, vP 10 0), (42, vN (X * Y * Z)), (43, vN i), (49, vI 0)])) (H1 := [nR A, nR B, nR C, rB [vN X, vN Y, vN Z, vS 0 A.length, vS 1 B.length, vS 2 C.length] 27, rB [vI 0, vI 0, vI 0, .slice none 0 0, .slice none 0 0, .slice none 0 0] 27, rB [vN X, vN Y, vN Z] 75, nW PA, nW PB, some ⟨nums (PC.set ((((i / Z % Y : Nat) : Int) * (Z : Int) + ((i % Z : Nat) : Int)).toNat) (C.getD ((((i / Z % Y : Nat) : Int) * (Z : Int) + ((i % Z : Nat) : Int)).toNat) 0)), 3, false, true⟩, rB [vN X, vN Y, vN Z, vS 6 A.length, vS 7 B.length, vS 8 C.length] 27, rB [vN (i / Z / Y), vN (i / Z % Y), vN (i % Z)] 74]) (by kernel_rfl) ?_
       refine kBlk ?_
       refine kSeq ?_
       refine cReg ?_
       refine segEndH [1, 2, 4, 6, 7, 9, 42, 43, 49] (T1 := (mkT 75 [(1, vI 0), (2, vP 3 0), (4, vP 4 0), (6, vP 5 0), (7, vP 9 0), (9, vP 10 0), (42, vN (X * Y * Z)), (43, vN i), (49, vI 1)])) (by kernel_rfl) ?_
       exact kLoop (3 - 1) (mkT 75 [(1, vI 0), (2, vP 3 0), (4, vP 4 0), (6, vP 5 0), (7, vP 9 0), (9, vP 10 0), (42, vN (X * Y * Z)), (43, vN i), (49, vI 1)]) [nR A, nR B, nR C, rB [vN X, vN Y, vN Z, vS 0 A.length, vS 1 B.length, vS 2 C.length] 27, rB [vI 0, vI 0, vI 0, .slice none 0 0, .slice none 0 0, .slice none 0 0] 27, rB [vN X, vN Y, vN Z] 75, nW PA, nW PB, some ⟨nums (PC.set ((((i / Z % Y : Nat) : Int) * (Z : Int) + ((i % Z : Nat) : Int)).toNat) (C.getD ((((i / Z % Y : Nat) : Int) * (Z : Int) + ((i % Z : Nat) : Int)).toNat) 0)), 3, false, true⟩, rB [vN X, vN Y, vN Z, vS 6 A.length, vS 7 B.length, vS 8 C.length] 27, rB [vN (i / Z / Y), vN (i / Z % Y), vN (i % Z)] 74] (by omega) (wkSame [1, 2, 4, 6, 7, 9, 42, 43, 49] (by kernel_rfl)) ⟨1, PA, PB, (PC.set ((((i / Z % Y : Nat) : Int) * (Z : Int) + ((i % Z : Nat) : Int)).toNat) (C.getD ((((i / Z % Y : Nat) : Int) * (Z : Int) + ((i % Z : Nat) : Int)).toNat) 0)), (by omega), (hPA), (hPB), (mirT_step 0 0 X Y Z C i hPC rfl rfl), rfl, rfl, rfl⟩
      ·
       refine cSeq ?_
       refine cReg ?_
       refine segEndH [1, 2, 4, 6, 7, 9, 42, 43, 49, 50] (T1 := (mkT 75 [(1, vI 0), (2, vP 3 0), (4, vP 4 0), (6, vP 5 0), (7, vP 9 0), (9, vP 10 0), (42, vN (X * Y * Z)), (43, vN i), (49, vI 1), (50, .bool true)])) (by kernel_rfl) ?_
       refine kSeq ?_
       refine cSeq ?_
       refine cTrue (by kernel_rfl) ?_
       refine cSkip ?_
       refine kSeq ?_
       refine cSeq ?_
       refine cBlk ?_
       refine cSeq ?_
       refine cReg ?_
       refine segEndH [1, 2, 4, 6, 7, 9, 10, 42, 43, 49] (T1 := (mkT 75 [(1, vI 0), (2, vP 3 0), (4, vP 4 0), (6, vP 5 0), (7, vP 9 0), (9, vP 10 0), (10, vI 1), (42, vN (X * Y * Z)), (43, vN i), (49, vI 1)])) (by kernel_rfl) ?_
       refine kSeq ?_
       refine cRegW (N := 11) [⟨[], [], [9]⟩, ⟨[], [], []⟩, ⟨[], [], [6, 7, 8]⟩, ⟨[], [], [5]⟩, ⟨[], [], [5]⟩, ⟨[], [], [10]⟩, ⟨[], [], []⟩, ⟨[], [], []⟩, ⟨[], [], []⟩, ⟨[], [], []⟩, ⟨[], [], [3]⟩, ⟨[], [], []⟩, ⟨[], [], [0, 1, 2]⟩, ⟨[], [], [5]⟩, ⟨[], [], [10]⟩, ⟨[], [], []⟩, ⟨[], [], []⟩, ⟨[], [], []⟩, ⟨[], [], [1]⟩, ⟨[], [], []⟩, ⟨[], [7], []⟩] 0 [] (by rfl) (by rfl) (by kernel_rfl) (by kernel_rfl) (by kernel_rfl) ⟨nmsF (flatNums _ _ _ _), ⟨nmsF (flatNums _ _ _ _), ⟨nmsF (flatNums _ _ _ _), ⟨nmsX (by kernel_rfl), ⟨nmsX (by kernel_rfl), ⟨nmsX (by kernel_rfl), ⟨nmsF (flatNums _ _ _ _), ⟨nmsF (flatNums _ _ _ _), ⟨nmsF (flatNums _ _ _ _), ⟨nmsX (by kernel_rfl), ⟨nmsX (by kernel_rfl), trivial⟩⟩⟩⟩⟩⟩⟩⟩⟩⟩⟩ ?_
       refine segWH 2 (T1 := (mkT 75 [(1, vI 0), (2, vP 3 0), (4, vP 4 0), (6, vP 5 0), (7, vP 9 0), (9, vP 10 0), (10, vI 1), (42, vN (X * Y * Z)), (43, vN i), (49, vI 1), (52, .agg #[vN X, vN Y, vN Z, vS 6 A.length, vS 7 B.length, vS 8 C.length]), (53, vI 1)])) (by kernel_rfl) ?_
       refine rW (m := ⟨[], [], [6, 7, 8]⟩) (v := vS 7 B.length) rfl (by kernel_rfl) (stQ (args := [.agg #[vN X, vN Y, vN Z, vS 6 A.length, vS 7 B.length, vS 8 C.length], vI 1]) rfl (by kernel_rfl) (Any.lay0 [6, 7, 8] (shListG1 ((X : Nat) : Int) ((Y : Nat) : Int) ((Z : Nat) : Int) A.length B.length C.length PA PB PC) ⟨rdF true (flatNums _ _ _ _) rfl rfl, ⟨rdF true (flatNums _ _ _ _) rfl rfl, ⟨rdF true (flatNums _ _ _ _) rfl rfl, trivial⟩⟩⟩ rfl ⟨clF (flatNums _ _ _ _), ⟨clF (flatNums _ _ _ _), ⟨clF (flatNums _ _ _ _), trivial⟩⟩⟩ rfl (by first | rfl | simp [mpV, mpA, mpS, mpP, renId, shift]) rfl) rfl (by kernel_rfl) (by kernel_rfl)) (by kernel_rfl) nr0 ?_
       refine segWH 4 (T1 := (mkT 75 [(1, vI 0), (2, vP 3 0), (4, vP 4 0), (6, vP 5 0), (7, vP 9 0), (9, vP 10 0), (10, vI 1), (42, vN (X * Y * Z)), (43, vN i), (49, vI 1), (52, .agg #[vN X, vN Y, vN Z, vS 6 A.length, vS 7 B.length, vS 8 C.length]), (53, vI 1), (54, vS 7 B.length), (55, .agg #[vN X, vN Y, vN Z]), (56, .agg #[vN X, vN Y, vN Z]), (57, .agg #[vN (i / Z / Y), vN (i / Z % Y), vN (i % Z)]), (58, vI 0)])) (by kernel_rfl) ?_
       refine rW (m := ⟨[], [], []⟩) (v := .agg #[vI (((X : Nat) : Int) - 1 - ((i / Z / Y : Nat) : Int)), vN (i / Z % Y), vN (i % Z)]) rfl (by kernel_rfl) (stQ (args := [.agg #[vN X, vN Y, vN Z], .agg #[vN (i / Z / Y), vN (i / Z % Y), vN (i % Z)], vI 0]) rfl (by kernel_rfl) (Any.lay0 [] (mirror0 X Y Z ((i / Z / Y : Nat) : Int) ((i / Z % Y : Nat) : Int) ((i % Z : Nat) : Int) (by first | assumption | omega | rfl | decide | exact HeapL.list _ _ _ _ | exact HeapL.nil _ _ _ | exact HeapL.all _ _ _ | (apply HeapL.lt64 <;> assumption) | (repeat' (first | assumption | apply or_lt64 | apply and_lt64 | apply andn_lt64 | apply pow_lt64 | (apply HeapL.lt64 <;> assumption)))) (by first | assumption | exact hhas | exact hmir)) trivial rfl trivial rfl (by first | rfl | simp [mpV, mpA, mpS, mpP, renId, shift]) (by first | rfl | simp [mpV, mpA, mpS, mpP, renId, shift])) rfl (by kernel_rfl) (by kernel_rfl)) (by kernel_rfl) nr0 ?_
       refine segWH 1 (T1 := (mkT 75 [(1, vI 0), (2, vP 3 0), (4, vP 4 0), (6, vP 5 0), (7, vP 9 0), (9, vP 10 0), (10, vI 1), (42, vN (X * Y * Z)), (43, vN i), (49, vI 1), (52, .agg #[vN X, vN Y, vN Z, vS 6 A.length, vS 7 B.length, vS 8 C.length]), (53, vI 1), (54, vS 7 B.length), (55, .agg #[vN X, vN Y, vN Z]), (56, .agg #[vN X, vN Y, vN Z]), (57, .agg #[vN (i / Z / Y), vN (i / Z % Y), vN (i % Z)]), (58, vI 0), (59, .agg #[vI (((X : Nat) : Int) - 1 - ((i / Z / Y : Nat) : Int)), vN (i / Z % Y), vN (i % Z)]), (60, vI 1)])) (by kernel_rfl) ?_
       refine rW (m := ⟨[], [], []⟩) (v := vI ((((X : Nat) : Int) - 1 - ((i / Z / Y : Nat) : Int)) * (Z : Int) + ((i % Z : Nat) : Int))) rfl (by kernel_rfl) (stQ (args := [.agg #[vN X, vN Y, vN Z], .agg #[vI (((X : Nat) : Int) - 1 - ((i / Z / Y : Nat) : Int)), vN (i / Z % Y), vN (i % Z)], vI 1]) rfl (by kernel_rfl) (Any.lay0 [] (line1 X Y Z (((X : Nat) : Int) - 1 - ((i / Z / Y : Nat) : Int)) ((i / Z % Y : Nat) : Int) ((i % Z : Nat) : Int) (by first | assumption | omega | rfl | decide | exact HeapL.list _ _ _ _ | exact HeapL.nil _ _ _ | exact HeapL.all _ _ _ | (apply HeapL.lt64 <;> assumption) | (repeat' (first | assumption | apply or_lt64 | apply and_lt64 | apply andn_lt64 | apply pow_lt64 | (apply HeapL.lt64 <;> assumption)))) (by first | assumption | exact hhas | exact hmir)) trivial rfl trivial rfl (by first | rfl | simp [mpV, mpA, mpS, mpP, renId, shift]) rfl) rfl (by kernel_rfl) (by kernel_rfl)) (by kernel_rfl) nr0 ?_
       refine segWH 2 (T1 := (mkT 75 [(1, vI 0), (2, vP 3 0), (4, vP 4 0), (6, vP 5 0), (7, vP 9 0), (9, vP 10 0), (10, vI 1), (42, vN (X * Y * Z)), (43, vN i), (49, vI 1), (52, .agg #[vN X, vN Y, vN Z, vS 6 A.length, vS 7 B.length, vS 8 C.length]), (53, vI 1), (54, vS 7 B.length), (55, .agg #[vN X, vN Y, vN Z]), (56, .agg #[vN X, vN Y, vN Z]), (57, .agg #[vN (i / Z / Y), vN (i / Z % Y), vN (i % Z)]), (58, vI 0), (59, .agg #[vI (((X : Nat) : Int) - 1 - ((i / Z / Y : Nat) : Int)), vN (i / Z % Y), vN (i % Z)]), (60, vI 1), (61, vI ((((X : Nat) : Int) - 1 - ((i / Z / Y : Nat) : Int)) * (Z : Int) + ((i % Z : Nat) : Int))), (62, .agg #[vN X, vN Y, vN Z, vS 0 A.length, vS 1 B.length, vS 2 C.length]), (63, vI 1)])) (by kernel_rfl) ?_
       refine rW (m := ⟨[], [], [0, 1, 2]⟩) (v := vS 1 B.length) rfl (by kernel_rfl) (stQ (args := [.agg #[vN X, vN Y, vN Z, vS 0 A.length, vS 1 B.length, vS 2 C.length], vI 1]) rfl (by kernel_rfl) (Any.lay0 [0, 1, 2] (shListG1 ((X : Nat) : Int) ((Y : Nat) : Int) ((Z : Nat) : Int) A.length B.length C.length A B C) ⟨rdF false (flatNums _ _ _ _) rfl rfl, ⟨rdF false (flatNums _ _ _ _) rfl rfl, ⟨rdF false (flatNums _ _ _ _) rfl rfl, trivial⟩⟩⟩ rfl ⟨clF (flatNums _ _ _ _), ⟨clF (flatNums _ _ _ _), ⟨clF (flatNums _ _ _ _), trivial⟩⟩⟩ rfl (by first | rfl | simp [mpV, mpA, mpS, mpP, renId, shift]) rfl) rfl (by kernel_rfl) (by kernel_rfl)) (by kernel_rfl) nr0 ?_
       refine segWH 3 (T1 := (mkT 75 [(1, vI 0), (2, vP 3 0), (4, vP 4 0), (6, vP 5 0), (7, vP 9 0), (9, vP 10 0), (10, vI 1), (42, vN (X * Y * Z)), (43, vN i), (49, vI 1), (52, .agg #[vN X, vN Y, vN Z, vS 6 A.length, vS 7 B.length, vS 8 C.length]), (53, vI 1), (54, vS 7 B.length), (55, .agg #[vN X, vN Y, vN Z]), (56, .agg #[vN X, vN Y, vN Z]), (57, .agg #[vN (i / Z / Y), vN (i / Z % Y), vN (i % Z)]), (58, vI 0), (59, .agg #[vI (((X : Nat) : Int) - 1 - ((i / Z / Y : Nat) : Int)), vN (i / Z % Y), vN (i % Z)]), (60, vI 1), (61, vI ((((X : Nat) : Int) - 1 - ((i / Z / Y : Nat) : Int)) * (Z : Int) + ((i % Z : Nat) : Int))), (62, .agg #[vN X, vN Y, vN Z, vS 0 A.length, vS 1 B.length, vS 2 C.length]), (63, vI 1), (64, vS 1 B.length), (65, .agg #[vN X, vN Y, vN Z]), (66, .agg #[vN (i / Z / Y), vN (i / Z % Y), vN (i % Z)]), (67, vI 1)])) (by kernel_rfl) ?_
       refine rW (m := ⟨[], [], []⟩) (v := vI (((i / Z / Y : Nat) : Int) * (Z : Int) + ((i % Z : Nat) : Int))) rfl (by kernel_rfl) (stQ (args := [.agg #[vN X, vN Y, vN Z], .agg #[vN (i / Z / Y), vN (i / Z % Y), vN (i % Z)], vI 1]) rfl (by kernel_rfl) (Any.lay0 [] (line1 X Y Z ((i / Z / Y : Nat) : Int) ((i / Z % Y : Nat) : Int) ((i % Z : Nat) : Int) (by first | assumption | omega | rfl | decide | exact HeapL.list _ _ _ _ | exact HeapL.nil _ _ _ | exact HeapL.all _ _ _ | (apply HeapL.lt64 <;> assumption) | (repeat' (first | assumption | apply or_lt64 | apply and_lt64 | apply andn_lt64 | apply pow_lt64 | (apply HeapL.lt64 <;> assumption)))) (by first | assumption | exact hhas | exact hmir)) trivial rfl trivial rfl (by first | rfl | simp [mpV, mpA, mpS, mpP, renId, shift]) rfl) rfl (by kernel_rfl) (by kernel_rfl)) (by kernel_rfl) nr0 ?_
       refine rW (m := ⟨[], [], []⟩) (v := vP 1 ((((i / Z / Y : Nat) : Int) * (Z : Int) + ((i % Z : Nat) : Int)).toNat)) rfl (by kernel_rfl) (stId (eIdxS (ad := ⟨1, 0, none⟩) (n := B.length) (m := 0) (k := .i64) (c := (((i / Z / Y : Nat) : Int) * (Z : Int) + ((i % Z : Nat) : Int))) (j := ((((i / Z / Y : Nat) : Int) * (Z : Int) + ((i % Z : Nat) : Int)).toNat)) (o := (((i / Z / Y : Nat) : Int) * (Z : Int) + ((i % Z : Nat) : Int)).toNat) (by kernel_rfl) (by kernel_rfl) ti22 ti3 (by omega) (by omega) (by simp)) rfl (by kernel_rfl) (by kernel_rfl) (by kernel_rfl)) (by kernel_rfl) nr0 ?_
       refine rW (m := ⟨[], [], [1]⟩) (v := vI (B.getD ((((i / Z / Y : Nat) : Int) * (Z : Int) + ((i % Z : Nat) : Int)).toNat) 0)) rfl (by kernel_rfl) (stId (eLdNum (ad := ⟨1, (((i / Z / Y : Nat) : Int) * (Z : Int) + ((i % Z : Nat) : Int)).toNat, none⟩) (r := ⟨nums B, 3, false, false⟩) (L := B) (j := ((((i / Z / Y : Nat) : Int) * (Z : Int) + ((i % Z : Nat) : Int)).toNat)) (by kernel_rfl) (by kernel_rfl) rfl (by first | rfl | omega) (by omega) ti3 rfl) rfl (by kernel_rfl) (by kernel_rfl) (by kernel_rfl)) (by kernel_rfl) nr0 ?_
       refine rW (m := ⟨[], [], []⟩) (v := vP 7 (((((X : Nat) : Int) - 1 - ((i / Z / Y : Nat) : Int)) * (Z : Int) + ((i % Z : Nat) : Int)).toNat)) rfl (by kernel_rfl) (stId (eIdxS (ad := ⟨7, 0, none⟩) (n := B.length) (m := 0) (k := .i64) (c := ((((X : Nat) : Int) - 1 - ((i / Z / Y : Nat) : Int)) * (Z : Int) + ((i % Z : Nat) : Int))) (j := (((((X : Nat) : Int) - 1 - ((i / Z / Y : Nat) : Int)) * (Z : Int) + ((i % Z : Nat) : Int)).toNat)) (o := ((((X : Nat) : Int) - 1 - ((i / Z / Y : Nat) : Int)) * (Z : Int) + ((i % Z : Nat) : Int)).toNat) (by kernel_rfl) (by kernel_rfl) ti22 ti3 (by omega) (by omega) (by simp)) rfl (by kernel_rfl) (by kernel_rfl) (by kernel_rfl)) (by kernel_rfl) nr0 ?_
       refine rW (m := ⟨[], [7], []⟩) (v := .tuple #[]) rfl (by kernel_rfl) (stSet (b := 7) (r := ⟨nums (PB.set (((((X : Nat) : Int) - 1 - ((i / Z / Y : Nat) : Int)) * (Z : Int) + ((i % Z : Nat) : Int)).toNat) (B.getD ((((i / Z / Y : Nat) : Int) * (Z : Int) + ((i % Z : Nat) : Int)).toNat) 0)), 3, false, true⟩) (eStNum (b := 7) (o := (((((X : Nat) : Int) - 1 - ((i / Z / Y : Nat) : Int)) * (Z : Int) + ((i % Z : Nat) : Int)).toNat)) (L := PB) (n := (B.getD ((((i / Z / Y : Nat) : Int) * (Z : Int) + ((i % Z : Nat) : Int)).toNat) 0)) (e := 3) (bx := false) (by kernel_rfl) (by kernel_rfl) (by kernel_rfl) (by omega) ti3 rfl (by rfl)) rfl (by kernel_rfl) (by kernel_rfl) (by kernel_rfl) (by kernel_rfl) (nmF (flatNums _ _ _ _)) (clF (flatNums _ _ _ _))) (by kernel_rfl) (NRs.all ⟨nrOf (by rfl) (nmF (flatNums _ _ _ _)), trivial⟩) ?_
       refine segEndW [1, 2, 4, 6, 7, 9, 42, 43, 49] (T1 := (mkT 75 [(1, vI 0), (2, vP 3 0), (4, vP 4 0), (6, vP 5 0), (7, vP 9 0), (9, vP 10 0), (42, vN (X * Y * Z)), (43, vN i), (49, vI 1)])) (H1 := [nR A, nR B, nR C, rB [vN X, vN Y, vN Z, vS 0 A.length, vS 1 B.length, vS 2 C.length] 27, rB [vI 0, vI 0, vI 0, .slice none 0 0, .slice none 0 0, .slice none 0 0] 27, rB [vN X, vN Y, vN Z] 75, nW PA, some ⟨nums (PB.set (((((X : Nat) : Int) - 1 - ((i / Z / Y : Nat) : Int)) * (Z : Int) + ((i % Z : Nat) : Int)).toNat) (B.getD ((((i / Z / Y : Nat) : Int) * (Z : Int) + ((i % Z : Nat) : Int)).toNat) 0)), 3, false, true⟩, nW PC, rB [vN X, vN Y, vN Z, vS 6 A.length, vS 7 B.length, vS 8 C.length] 27, rB [vN (i / Z / Y), vN (i / Z % Y), vN (i % Z)] 74]) (by kernel_rfl) ?_
       refine kBlk ?_
       refine kSeq ?_
       refine cReg ?_
       refine segEndH [1, 2, 4, 6, 7, 9, 42, 43, 49] (T1 := (mkT 75 [(1, vI 0), (2, vP 3 0), (4, vP 4 0), (6, vP 5 0), (7, vP 9 0), (9, vP 10 0), (42, vN (X * Y * Z)), (43, vN i), (49, vI 2)])) (by kernel_rfl) ?_
       exact kLoop (3 - 2) (mkT 75 [(1, vI 0), (2, vP 3 0), (4, vP 4 0), (6, vP 5 0), (7, vP 9 0), (9, vP 10 0), (42, vN (X * Y * Z)), (43, vN i), (49, vI 2)]) [nR A, nR B, nR C, rB [vN X, vN Y, vN Z, vS 0 A.length, vS 1 B.length, vS 2 C.length] 27, rB [vI 0, vI 0, vI 0, .slice none 0 0, .slice none 0 0, .slice none 0 0] 27, rB [vN X, vN Y, vN Z] 75, nW PA, some ⟨nums (PB.set (((((X : Nat) : Int) - 1 - ((i / Z / Y : Nat) : Int)) * (Z : Int) + ((i % Z : Nat) : Int)).toNat) (B.getD ((((i / Z / Y : Nat) : Int) * (Z : Int) + ((i % Z : Nat) : Int)).toNat) 0)), 3, false, true⟩, nW PC, rB [vN X, vN Y, vN Z, vS 6 A.length, vS 7 B.length, vS 8 C.length] 27, rB [vN (i / Z / Y), vN (i / Z % Y), vN (i % Z)] 74] (by omega) (wkSame [1, 2, 4, 6, 7, 9, 42, 43, 49] (by kernel_rfl)) ⟨2, PA, (PB.set (((((X : Nat) : Int) - 1 - ((i / Z / Y : Nat) : Int)) * (Z : Int) + ((i % Z : Nat) : Int)).toNat) (B.getD ((((i / Z / Y : Nat) : Int) * (Z : Int) + ((i % Z : Nat) : Int)).toNat) 0)), PC, (by omega), (hPA), (mirT_step 1 0 X Y Z B i hPB rfl rfl), (hPC), rfl, rfl, rfl⟩
      ·
       refine cSeq ?_
       refine cReg ?_
       refine segEndH [1, 2, 4, 6, 7, 9, 42, 43, 49, 50] (T1 := (mkT 75 [(1, vI 0), (2, vP 3 0), (4, vP 4 0), (6, vP 5 0), (7, vP 9 0), (9, vP 10 0), (42, vN (X * Y * Z)), (43, vN i), (49, vI 2), (50, .bool true)])) (by kernel_rfl) ?_
       refine kSeq ?_
       refine cSeq ?_
       refine cTrue (by kernel_rfl) ?_
       refine cSkip ?_
       refine kSeq ?_
       refine cSeq ?_
       refine cBlk ?_
       refine cSeq ?_
       refine cReg ?_
       refine segEndH [1, 2, 4, 6, 7, 9, 10, 42, 43, 49] (T1 := (mkT 75 [(1, vI 0), (2, vP 3 0), (4, vP 4 0), (6, vP 5 0), (7, vP 9 0), (9, vP 10 0), (10, vI 2), (42, vN (X * Y * Z)), (43, vN i), (49, vI 2)])) (by kernel_rfl) ?_
       refine kSeq ?_
       refine cRegW (N := 11) [⟨[], [], [9]⟩, ⟨[], [], []⟩, ⟨[], [], [6, 7, 8]⟩, ⟨[], [], [5]⟩, ⟨[], [], [5]⟩, ⟨[], [], [10]⟩, ⟨[], [], []⟩, ⟨[], [], []⟩, ⟨[], [], []⟩, ⟨[], [], []⟩, ⟨[], [], [3]⟩, ⟨[], [], []⟩, ⟨[], [], [0, 1, 2]⟩, ⟨[], [], [5]⟩, ⟨[], [], [10]⟩, ⟨[], [], []⟩, ⟨[], [], []⟩, ⟨[], [], []⟩, ⟨[], [], [0]⟩, ⟨[], [], []⟩, ⟨[], [6], []⟩] 0 [] (by rfl) (by rfl) (by kernel_rfl) (by kernel_rfl) (by kernel_rfl) ⟨nmsF (flatNums _ _ _ _), ⟨nmsF (flatNums _ _ _ _), ⟨nmsF (flatNums _ _ _ _), ⟨nmsX (by kernel_rfl), ⟨nmsX (by kernel_rfl), ⟨nmsX (by kernel_rfl), ⟨nmsF (flatNums _ _ _ _), ⟨nmsF (flatNums _ _ _ _), ⟨nmsF (flatNums _ _ _ _), ⟨nmsX (by kernel_rfl), ⟨nmsX (by kernel_rfl), trivial⟩⟩⟩⟩⟩⟩⟩⟩⟩⟩⟩ ?_
       refine segWH 2 (T1 := (mkT 75 [(1, vI 0), (2, vP 3 0), (4, vP 4 0), (6, vP 5 0), (7, vP 9 0), (9, vP 10 0), (10, vI 2), (42, vN (X * Y * Z)), (43, vN i), (49, vI 2), (52, .agg #[vN X, vN Y, vN Z, vS 6 A.length, vS 7 B.length, vS 8 C.length]), (53, vI 2)])) (by kernel_rfl) ?_
       refine rW (m := ⟨[], [], [6, 7, 8]⟩) (v := vS 6 A.length) rfl (by kernel_rfl) (stQ (args := [.agg #[vN X, vN Y, vN Z, vS 6 A.length, vS 7 B.length, vS 8 C.length], vI 2]) rfl (by kernel_rfl) (Any.lay0 [6, 7, 8] (shListG2 ((X : Nat) : Int) ((Y : Nat) : Int) ((Z : Nat) : Int) A.length B.length C.length PA PB PC) ⟨rdF true (flatNums _ _ _ _) rfl rfl, ⟨rdF true (flatNums _ _ _ _) rfl rfl, ⟨rdF true (flatNums _ _ _ _) rfl rfl, trivial⟩⟩⟩ rfl ⟨clF (flatNums _ _ _ _), ⟨clF (flatNums _ _ _ _), ⟨clF (flatNums _ _ _ _), trivial⟩⟩⟩ rfl (by first | rfl | simp [mpV, mpA, mpS, mpP, renId, shift]) rfl) rfl (by kernel_rfl) (by kernel_rfl)) (by kernel_rfl) nr0 ?_
       refine segWH 4 (T1 := (mkT 75 [(1, vI 0), (2, vP 3 0), (4, vP 4 0), (6, vP 5 0), (7, vP 9 0), (9, vP 10 0), (10, vI 2), (42, vN (X * Y * Z)), (43, vN i), (49, vI 2), (52, .agg #[vN X, vN Y, vN Z, vS 6 A.length, vS 7 B.length, vS 8 C.length]), (53, vI 2), (54, vS 6 A.length), (55, .agg #[vN X, vN Y, vN Z]), (56, .agg #[vN X, vN Y, vN Z]), (57, .agg #[vN (i / Z / Y), vN (i / Z % Y), vN (i % Z)]), (58, vI 0)])) (by kernel_rfl) ?_
       refine rW (m := ⟨[], [], []⟩) (v := .agg #[vI (((X : Nat) : Int) - 1 - ((i / Z / Y : Nat) : Int)), vN (i / Z % Y), vN (i % Z)]) rfl (by kernel_rfl) (stQ (args := [.agg #[vN X, vN Y, vN Z], .agg #[vN (i / Z / Y), vN (i / Z % Y), vN (i % Z)], vI 0]) rfl (by kernel_rfl) (Any.lay0 [] (mirror0 X Y Z ((i / Z / Y : Nat) : Int) ((i / Z % Y : Nat) : Int) ((i % Z : Nat) : Int) (by first | assumption | omega | rfl | decide | exact HeapL.list _ _ _ _ | exact HeapL.nil _ _ _ | exact HeapL.all _ _ _ | (apply HeapL.lt64 <;> assumption) | (repeat' (first | assumption | apply or_lt64 | apply and_lt64 | apply andn_lt64 | apply pow_lt64 | (apply HeapL.lt64 <;> assumption)))) (by first | assumption | exact hhas | exact hmir)) trivial rfl trivial rfl (by first | rfl | simp [mpV, mpA, mpS, mpP, renId, shift]) (by first | rfl | simp [mpV, mpA, mpS, mpP, renId, shift])) rfl (by kernel_rfl) (by kernel_rfl)) (by kernel_rfl) nr0 ?_
       refine segWH 1 (T1 := (mkT 75 [(1, vI 0), (2, vP 3 0), (4, vP 4 0), (6, vP 5 0), (7, vP 9 0), (9, vP 10 0), (10, vI 2), (42, vN (X * Y * Z)), (43, vN i), (49, vI 2), (52, .agg #[vN X, vN Y, vN Z, vS 6 A.length, vS 7 B.length, vS 8 C.length]), (53, vI 2), (54, vS 6 A.length), (55, .agg #[vN X, vN Y, vN Z]), (56, .agg #[vN X, vN Y, vN Z]), (57, .agg #[vN (i / Z / Y), vN (i / Z % Y), vN (i % Z)]), (58, vI 0), (59, .agg #[vI (((X : Nat) : Int) - 1 - ((i / Z / Y : Nat) : Int)), vN (i / Z % Y), vN (i % Z)]), (60, vI 2)])) (by kernel_rfl) ?_
       refine rW (m := ⟨[], [], []⟩) (v := vI ((((X : Nat) : Int) - 1 - ((i / Z / Y : Nat) : Int)) * (Y : Int) + ((i / Z % Y : Nat) : Int))) rfl (by kernel_rfl) (stQ (args := [.agg #[vN X, vN Y, vN Z], .agg #[vI (((X : Nat) : Int) - 1 - ((i / Z / Y : Nat) : Int)), vN (i / Z % Y), vN (i % Z)], vI 2]) rfl (by kernel_rfl) (Any.lay0 [] (line2 X Y Z (((X : Nat) : Int) - 1 - ((i / Z / Y : Nat) : Int)) ((i / Z % Y : Nat) : Int) ((i % Z : Nat) : Int) (by first | assumption | omega | rfl | decide | exact HeapL.list _ _ _ _ | exact HeapL.nil _ _ _ | exact HeapL.all _ _ _ | (apply HeapL.lt64 <;> assumption) | (repeat' (first | assumption | apply or_lt64 | apply and_lt64 | apply andn_lt64 | apply pow_lt64 | (apply HeapL.lt64 <;> assumption)))) (by first | assumption | exact hhas | exact hmir)) trivial rfl trivial rfl (by first | rfl | simp [mpV, mpA, mpS, mpP, renId, shift]) rfl) rfl (by kernel_rfl) (by kernel_rfl)) (by kernel_rfl) nr0 ?_
       refine segWH 2 (T1 := (mkT 75 [(1, vI 0), (2, vP 3 0), (4, vP 4 0), (6, vP 5 0), (7, vP 9 0), (9, vP 10 0), (10, vI 2), (42, vN (X * Y * Z)), (43, vN i), (49, vI 2), (52, .agg #[vN X, vN Y, vN Z, vS 6 A.length, vS 7 B.length, vS 8 C.length]), (53, vI 2), (54, vS 6 A.length), (55, .agg #[vN X, vN Y, vN Z]), (56, .agg #[vN X, vN Y, vN Z]), (57, .agg #[vN (i / Z / Y), vN (i / Z % Y), vN (i % Z)]), (58, vI 0), (59, .agg #[vI (((X : Nat) : Int) - 1 - ((i / Z / Y : Nat) : Int)), vN (i / Z % Y), vN (i % Z)]), (60, vI 2), (61, vI ((((X : Nat) : Int) - 1 - ((i / Z / Y : Nat) : Int)) * (Y : Int) + ((i / Z % Y : Nat) : Int))), (62, .agg #[vN X, vN Y, vN Z, vS 0 A.length, vS 1 B.length, vS 2 C.length]), (63, vI 2)])) (by kernel_rfl) ?_
       refine rW (m := ⟨[], [], [0, 1, 2]⟩) (v := vS 0 A.length) rfl (by kernel_rfl) (stQ (args := [.agg #[vN X, vN Y, vN Z, vS 0 A.length, vS 1 B.length, vS 2 C.length], vI 2]) rfl (by kernel_rfl) (Any.lay0 [0, 1, 2] (shListG2 ((X : Nat) : Int) ((Y : Nat) : Int) ((Z : Nat) : Int) A.length B.length C.length A B C) ⟨rdF false (flatNums _ _ _ _) rfl rfl, ⟨rdF false (flatNums _ _ _ _) rfl rfl, ⟨rdF false (flatNums _ _ _ _) rfl rfl, trivial⟩⟩⟩ rfl ⟨clF (flatNums _ _ _ _), ⟨clF (flatNums _ _ _ _), ⟨clF (flatNums _ _ _ _), trivial⟩⟩⟩ rfl (by first | rfl | simp [mpV, mpA, mpS, mpP, renId, shift]) rfl) rfl (by kernel_rfl) (by kernel_rfl)) (by kernel_rfl) nr0 ?_
       refine segWH 3 (T1 := (mkT 75 [(1, vI 0), (2, vP 3 0), (4, vP 4 0), (6, vP 5 0), (7, vP 9 0), (9, vP 10 0), (10, vI 2), (42, vN (X * Y * Z)), (43, vN i), (49, vI 2), (52, .agg #[vN X, vN Y, vN Z, vS 6 A.length, vS 7 B.length, vS 8 C.length]), (53, vI 2), (54, vS 6 A.length), (55, .agg #[vN X, vN Y, vN Z]), (56, .agg #[vN X, vN Y, vN Z]), (57, .agg #[vN (i / Z / Y), vN (i / Z % Y), vN (i % Z)]), (58, vI 0), (59, .agg #[vI (((X : Nat) : Int) - 1 - ((i / Z / Y : Nat) : Int)), vN (i / Z % Y), vN (i % Z)]), (60, vI 2), (61, vI ((((X : Nat) : Int) - 1 - ((i / Z / Y : Nat) : Int)) * (Y : Int) + ((i / Z % Y : Nat) : Int))), (62, .agg #[vN X, vN Y, vN Z, vS 0 A.length, vS 1 B.length, vS 2 C.length]), (63, vI 2), (64, vS 0 A.length), (65, .agg #[vN X, vN Y, vN Z]), (66, .agg #[vN (i / Z / Y), vN (i / Z % Y), vN (i % Z)]), (67, vI 2)])) (by kernel_rfl) ?_
       refine rW (m := ⟨[], [], []⟩) (v := vI (((i / Z / Y : Nat) : Int) * (Y : Int) + ((i / Z % Y : Nat) : Int))) rfl (by kernel_rfl) (stQ (args := [.agg #[vN X, vN Y, vN Z], .agg #[vN (i / Z / Y), vN (i / Z % Y), vN (i % Z)], vI 2]) rfl (by kernel_rfl) (Any.lay0 [] (line2 X Y Z ((i / Z / Y : Nat) : Int) ((i / Z % Y : Nat) : Int) ((i % Z : Nat) : Int) (by first | assumption | omega | rfl | decide | exact HeapL.list _ _ _ _ | exact HeapL.nil _ _ _ | exact HeapL.all _ _ _ | (apply HeapL.lt64 <;> assumption) | (repeat' (first | assumption | apply or_lt64 | apply and_lt64 | apply andn_lt64 | apply pow_lt64 | (apply HeapL.lt64 <;> assumption)))) (by first | assumption | exact hhas | exact hmir)) trivial rfl trivial rfl (by first | rfl | simp [mpV, mpA, mpS, mpP, renId, shift]) rfl) rfl (by kernel_rfl) (by kernel_rfl)) (by kernel_rfl) nr0 ?_
       refine rW (m := ⟨[], [], []⟩) (v := vP 0 ((((i / Z / Y : Nat) : Int) * (Y : Int) + ((i / Z % Y : Nat) : Int)).toNat)) rfl (by kernel_rfl) (stId (eIdxS (ad := ⟨0, 0, none⟩) (n := A.length) (m := 0) (k := .i64) (c := (((i / Z / Y : Nat) : Int) * (Y : Int) + ((i / Z % Y : Nat) : Int))) (j := ((((i / Z / Y : Nat) : Int) * (Y : Int) + ((i / Z % Y : Nat) : Int)).toNat)) (o := (((i / Z / Y : Nat) : Int) * (Y : Int) + ((i / Z % Y : Nat) : Int)).toNat) (by kernel_rfl) (by kernel_rfl) ti22 ti3 (by omega) (by omega) (by simp)) rfl (by kernel_rfl) (by kernel_rfl) (by kernel_rfl)) (by kernel_rfl) nr0 ?_
       refine rW (m := ⟨[], [], [0]⟩) (v := vI (A.getD ((((i / Z / Y : Nat) : Int) * (Y : Int) + ((i / Z % Y : Nat) : Int)).toNat) 0)) rfl (by kernel_rfl) (stId (eLdNum (ad := ⟨0, (((i / Z / Y : Nat) : Int) * (Y : Int) + ((i / Z % Y : Nat) : Int)).toNat, none⟩) (r := ⟨nums A, 3, false, false⟩) (L := A) (j := ((((i / Z / Y : Nat) : Int) * (Y : Int) + ((i / Z % Y : Nat) : Int)).toNat)) (by kernel_rfl) (by kernel_rfl) rfl (by first | rfl | omega) (by omega) ti3 rfl) rfl (by kernel_rfl) (by kernel_rfl) (by kernel_rfl)) (by kernel_rfl) nr0 ?_
       refine rW (m := ⟨[], [], []⟩) (v := vP 6 (((((X : Nat) : Int) - 1 - ((i / Z / Y : Nat) : Int)) * (Y : Int) + ((i / Z % Y : Nat) : Int)).toNat)) rfl (by kernel_rfl) (stId (eIdxS (ad := ⟨6, 0, none⟩) (n := A.length) (m := 0) (k := .i64) (c := ((((X : Nat) : Int) - 1 - ((i / Z / Y : Nat) : Int)) * (Y : Int) + ((i / Z % Y : Nat) : Int))) (j := (((((X : Nat) : Int) - 1 - ((i / Z / Y : Nat) : Int)) * (Y : Int) + ((i / Z % Y : Nat) : Int)).toNat)) (o := ((((X : Nat) : Int) - 1 - ((i / Z / Y : Nat) : Int)) * (Y : Int) + ((i / Z % Y : Nat) : Int)).toNat) (by kernel_rfl) (by kernel_rfl) ti22 ti3 (by omega) (by omega) (by simp)) rfl (by kernel_rfl) (by kernel_rfl) (by kernel_rfl)) (by kernel_rfl) nr0 ?_
       refine rW (m := ⟨[], [6], []⟩) (v := .tuple #[]) rfl (by kernel_rfl) (stSet (b := 6) (r := ⟨nums (PA.set (((((X : Nat) : Int) - 1 - ((i / Z / Y : Nat) : Int)) * (Y : Int) + ((i / Z % Y : Nat) : Int)).toNat) (A.getD ((((i / Z / Y : Nat) : Int) * (Y : Int) + ((i / Z % Y : Nat) : Int)).toNat) 0)), 3, false, true⟩) (eStNum (b := 6) (o := (((((X : Nat) : Int) - 1 - ((i / Z / Y : Nat) : Int)) * (Y : Int) + ((i / Z % Y : Nat) : Int)).toNat)) (L := PA) (n := (A.getD ((((i / Z / Y : Nat) : Int) * (Y : Int) + ((i / Z % Y : Nat) : Int)).toNat) 0)) (e := 3) (bx := false) (by kernel_rfl) (by kernel_rfl) (by kernel_rfl) (by omega) ti3 rfl (by rfl)) rfl (by kernel_rfl) (by kernel_rfl) (by kernel_rfl) (by kernel_rfl) (nmF (flatNums _ _ _ _)) (clF (flatNums _ _ _ _))) (by kernel_rfl) (NRs.all ⟨nrOf (by rfl) (nmF (flatNums _ _ _ _)), trivial⟩) ?_
       refine segEndW [1, 2, 4, 6, 7, 9, 42, 43, 49] (T1 := (mkT 75 [(1, vI 0), (2, vP 3 0), (4, vP 4 0), (6, vP 5 0), (7, vP 9 0), (9, vP 10 0), (42, vN (X * Y * Z)), (43, vN i), (49, vI 2)])) (H1 := [nR A, nR B, nR C, rB [vN X, vN Y, vN Z, vS 0 A.length, vS 1 B.length, vS 2 C.length] 27, rB [vI 0, vI 0, vI 0, .slice none 0 0, .slice none 0 0, .slice none 0 0] 27, rB [vN X, vN Y, vN Z] 75, some ⟨nums (PA.set (((((X : Nat) : Int) - 1 - ((i / Z / Y : Nat) : Int)) * (Y : Int) + ((i / Z % Y : Nat) : Int)).toNat) (A.getD ((((i / Z / Y : Nat) : Int) * (Y : Int) + ((i / Z % Y : Nat) : Int)).toNat) 0)), 3, false, true⟩, nW PB, nW PC, rB [vN X, vN Y, vN Z, vS 6 A.length, vS 7 B.length, vS 8 C.length] 27, rB [vN (i / Z / Y), vN (i / Z % Y), vN (i % Z)] 74]) (by kernel_rfl) ?_
       refine kBlk ?_
       refine kSeq ?_
       refine cReg ?_
       refine segEndH [1, 2, 4, 6, 7, 9, 42, 43, 49] (T1 := (mkT 75 [(1, vI 0), (2, vP 3 0), (4, vP 4 0), (6, vP 5 0), (7, vP 9 0), (9, vP 10 0), (42, vN (X * Y * Z)), (43, vN i), (49, vI 3)])) (by kernel_rfl) ?_
       exact kLoop (3 - 3) (mkT 75 [(1, vI 0), (2, vP 3 0), (4, vP 4 0), (6, vP 5 0), (7, vP 9 0), (9, vP 10 0), (42, vN (X * Y * Z)), (43, vN i), (49, vI 3)]) [nR A, nR B, nR C, rB [vN X, vN Y, vN Z, vS 0 A.length, vS 1 B.length, vS 2 C.length] 27, rB [vI 0, vI 0, vI 0, .slice none 0 0, .slice none 0 0, .slice none 0 0] 27, rB [vN X, vN Y, vN Z] 75, some ⟨nums (PA.set (((((X : Nat) : Int) - 1 - ((i / Z / Y : Nat) : Int)) * (Y : Int) + ((i / Z % Y : Nat) : Int)).toNat) (A.getD ((((i / Z / Y : Nat) : Int) * (Y : Int) + ((i / Z % Y : Nat) : Int)).toNat) 0)), 3, false, true⟩, nW PB, nW PC, rB [vN X, vN Y, vN Z, vS 6 A.length, vS 7 B.length, vS 8 C.length] 27, rB [vN (i / Z / Y), vN (i / Z % Y), vN (i % Z)] 74] (by omega) (wkSame [1, 2, 4, 6, 7, 9, 42, 43, 49] (by kernel_rfl)) ⟨3, (PA.set (((((X : Nat) : Int) - 1 - ((i / Z / Y : Nat) : Int)) * (Y : Int) + ((i / Z % Y : Nat) : Int)).toNat) (A.getD ((((i / Z / Y : Nat) : Int) * (Y : Int) + ((i / Z % Y : Nat) : Int)).toNat) 0)), PB, PC, (by omega), (mirT_step 2 0 X Y Z A i hPA rfl rfl), (hPB), (hPC), rfl, rfl, rfl⟩
      ·
       refine cSeq ?_
       refine cReg ?_
       refine segEndH [1, 2, 4, 6, 7, 9, 42, 43, 49, 50] (T1 := (mkT 75 [(1, vI 0), (2, vP 3 0), (4, vP 4 0), (6, vP 5 0), (7, vP 9 0), (9, vP 10 0), (42, vN (X * Y * Z)), (43, vN i), (49, vI 3), (50, .bool false)])) (by kernel_rfl) ?_
       refine kSeq ?_
       refine cSeq ?_
       refine cFalse (by kernel_rfl) ?_
       refine cExit ?_
       refine kSeqE ?_
       refine kLoopE ?_
       refine kBlkHit ?_
       refine kBlk ?_
       refine kSeq ?_
       refine cReg ?_
       refine rOp (v := vN (i + 1)) (by kernel_rfl) (eAdd (k := .i64) (a := ((i : Nat) : Int)) (b := 1) (c := ((i + 1 : Nat) : Int)) (by kernel_rfl) (by kernel_rfl) (wr64 (by omega) (by omega) (by omega))) ?_
       refine segEndH [1, 2, 4, 6, 7, 42, 43] (T1 := (mkT 75 [(1, vI 0), (2, vP 3 0), (4, vP 4 0), (6, vP 5 0), (7, vP 9 0), (42, vN (X * Y * Z)), (43, vN (i + 1))])) (by kernel_rfl) ?_
       exact kLoop (X * Y * Z - (i + 1)) (mkT 75 [(1, vI 0), (2, vP 3 0), (4, vP 4 0), (6, vP 5 0), (7, vP 9 0), (42, vN (X * Y * Z)), (43, vN (i + 1))]) [nR A, nR B, nR C, rB [vN X, vN Y, vN Z, vS 0 A.length, vS 1 B.length, vS 2 C.length] 27, rB [vI 0, vI 0, vI 0, .slice none 0 0, .slice none 0 0, .slice none 0 0] 27, rB [vN X, vN Y, vN Z] 75, nW PA, nW PB, nW PC, rB [vN X, vN Y, vN Z, vS 6 A.length, vS 7 B.length, vS 8 C.length] 27] (by omega) (wkDrop [1, 2, 4, 6, 7, 42, 43] _ rfl rfl ((closedL ⟨clF (flatNums _ _ _ _), ⟨clF (flatNums _ _ _ _), ⟨clF (flatNums _ _ _ _), ⟨clX rfl, ⟨clX rfl, ⟨clX rfl, ⟨clF (flatNums _ _ _ _), ⟨clF (flatNums _ _ _ _), ⟨clF (flatNums _ _ _ _), ⟨clX rfl, trivial⟩⟩⟩⟩⟩⟩⟩⟩⟩⟩)) (by kernel_rfl) rfl) ⟨(i + 1), PA, PB, PC, (by omega), (hPA), (hPB), (hPC), rfl, rfl, rfl⟩
theorem implMirrorShadow_0 (X : Nat) (Y : Nat) (Z : Nat) (A : List Int) (B : List Int) (C : List Int) (hs : Sides X Y Z) (hq : shadB X Y Z A B C = true) : Sound Try.prog 49 [.agg #[vN X, vN Y, vN Z, vS 0 A.length, vS 1 B.length, vS 2 C.length], vI 0] [nR A, nR B, nR C] (.tuple #[.agg #[vN X, vN Y, vN Z, vS 3 ((mirE 2 0 X Y Z A).length), vS 4 ((mirE 1 0 X Y Z B).length), vS 5 ((mirE 0 0 X Y Z C).length)], .bool true]) [nR A, nR B, nR C, nW (mirE 2 0 X Y Z A), nW (mirE 1 0 X Y Z B), nW (mirE 0 0 X Y Z C)] := by
 have h := implMirrorShadow_0r X Y Z A B C hs hq; rw [mirE_length, mirE_length, mirE_length]; have hw := shad_of hq; simp only [nlN]; rw [← hw.1.1, ← hw.2.1.1, ← hw.2.2.1]; exact h
set_option maxRecDepth 100000 in
set_option maxHeartbeats 4000000 in
theorem specMirrorShadow_1 (X : Nat) (Y : Nat) (Z : Nat) (A : List Int) (B : List Int) (C : List Int) (hs : Sides X Y Z) (hq : shadB X Y Z A B C = true) : Sound Try.prog 48 [.agg #[vN X, vN Y, vN Z, vS 0 A.length, vS 1 B.length, vS 2 C.length], vI 1] [nR A, nR B, nR C] (.tuple #[.agg #[vN X, vN Y, vN Z, vS 3 ((mirE 2 1 X Y Z A).length), vS 4 ((mirE 1 1 X Y Z B).length), vS 5 ((mirE 0 1 X Y Z C).length)], .bool true]) [nR A, nR B, nR C, nW (mirE 2 1 X Y Z A), nW (mirE 1 1 X Y Z B), nW (mirE 0 1 X Y Z C)] := by
 refine sound_intro (C := cx) Try.func48 rfl (by kernel_rfl) fun hcl => ?_
 have hz := hs.size
 have hx0 := hs.x0
 have hx4 := hs.x4
 have hy0 := hs.y0
 have hy4 := hs.y4
 have hz0 := hs.z0
 have hz4 := hs.z4
 have hxy : X * Y ≤ 4 * 4 := Nat.mul_le_mul (by omega) (by omega)
 have hxz : X * Z ≤ 4 * 4 := Nat.mul_le_mul (by omega) (by omega)
 have hyz : Y * Z ≤ 4 * 4 := Nat.mul_le_mul (by omega) (by omega)
 have hw := shad_of hq
 have hwa := hw.1.1
 have hwb := hw.2.1.1
 have hwc := hw.2.2.1
 refine cSeq ?_
 refine cReg ?_
 refine segEnd [1, 2, 4] (T1 := (mkT 69 [(1, vI 1), (2, vP 3 0), (4, vP 4 0)])) (H1 := [nR A, nR B, nR C, rB [vN X, vN Y, vN Z, vS 0 A.length, vS 1 B.length, vS 2 C.length] 27, rB [vI 0, vI 0, vI 0, .slice none 0 0, .slice none 0 0, .slice none 0 0] 27]) (by kernel_rfl) ?_
 refine kSeq ?_
 refine cSeq ?_
 refine cSeq ?_
 refine cReg ?_
 refine segH 1 (T1 := (mkT 69 [(1, vI 1), (2, vP 3 0), (4, vP 4 0), (7, .agg #[vN X, vN Y, vN Z, vS 0 A.length, vS 1 B.length, vS 2 C.length])])) (by kernel_rfl) ?_
 refine rCall (v := .bool (shadB X Y Z A B C)) (args := [.agg #[vN X, vN Y, vN Z, vS 0 A.length, vS 1 B.length, vS 2 C.length]]) (by kernel_rfl) rfl (by kernel_rfl) (Sound.lay0 [0, 1, 2] (l3ShadowB_yes X Y Z A B C (by first | assumption | omega | rfl | decide | exact HeapL.list _ _ _ _ | exact HeapL.nil _ _ _ | exact HeapL.all _ _ _ | (apply HeapL.lt64 <;> assumption) | (repeat' (first | assumption | apply or_lt64 | apply and_lt64 | apply andn_lt64 | apply pow_lt64 | (apply HeapL.lt64 <;> assumption)))) (by first | omega | assumption | (simp; done)) (by first | omega | assumption | (simp; done)) (by first | omega | assumption | (simp; done))) ⟨rdF false (flatNums _ _ _ _) rfl rfl, ⟨rdF false (flatNums _ _ _ _) rfl rfl, ⟨rdF false (flatNums _ _ _ _) rfl rfl, trivial⟩⟩⟩ rfl ⟨clF (flatNums _ _ _ _), ⟨clF (flatNums _ _ _ _), ⟨clF (flatNums _ _ _ _), trivial⟩⟩⟩ rfl (by first | rfl | simp [mpV, mpA, mpS, mpP, renId, shift]) rfl) ?_
 refine segH 2 (T1 := (mkT 69 [(1, vI 1), (2, vP 3 0), (4, vP 4 0), (7, .agg #[vN X, vN Y, vN Z, vS 0 A.length, vS 1 B.length, vS 2 C.length]), (8, .bool (shadB X Y Z A B C)), (9, .bool (!(shadB X Y Z A B C))), (10, .bool (!(shadB X Y Z A B C)))])) (by kernel_rfl) ?_
 cases h1 : (shadB X Y Z A B C : Bool)
 ·
  have h1k := h1
  (try simp only [bs0, bs1, bs2, bs3, beq_iff_eq, bne_iff_ne, beq_eq_false_iff_ne, bne_eq_false_iff_eq, ne_eq, bs4, bs5, bs6, bs7, bs8, bs9, bs10, bs11, ge_iff_le, gt_iff_lt] at h1)
  exfalso; simp_all
 ·
  have h1k := h1
  (try simp only [bs0, bs1, bs2, bs3, beq_iff_eq, bne_iff_ne, beq_eq_false_iff_ne, bne_eq_false_iff_eq, ne_eq, bs4, bs5, bs6, bs7, bs8, bs9, bs10, bs11, ge_iff_le, gt_iff_lt] at h1)
  refine segH 1 (T1 := (mkT 69 [(1, vI 1), (2, vP 3 0), (4, vP 4 0), (7, .agg #[vN X, vN Y, vN Z, vS 0 A.length, vS 1 B.length, vS 2 C.length]), (8, .bool true), (9, .bool false), (10, .bool false), (11, vI 1)])) (by kernel_rfl) ?_
  refine rCall (v := .bool (inR 1 0 2)) (args := [vI 1, vI 0, vI 2]) (by kernel_rfl) rfl (by kernel_rfl) (Sound.lay0 [] (l1InB 1 0 2) trivial rfl trivial rfl (by first | rfl | simp [mpV, mpA, mpS, mpP, renId, shift]) rfl) ?_
  refine segEndH [1, 2, 4, 14] (T1 := (mkT 69 [(1, vI 1), (2, vP 3 0), (4, vP 4 0), (14, .bool (!(inR 1 0 2)))])) (by kernel_rfl) ?_
  refine kSeq ?_
  cases h2 : (inR 1 0 2 : Bool)
  ·
   have h2k := h2
   (try simp only [bs0, bs1, bs2, bs3, beq_iff_eq, bne_iff_ne, beq_eq_false_iff_ne, bne_eq_false_iff_eq, ne_eq, bs4, bs5, bs6, bs7, bs8, bs9, bs10, bs11, ge_iff_le, gt_iff_lt] at h2)
   exfalso; (exact absurd h2 (by decide))
  ·
   have h2k := h2
   (try simp only [bs0, bs1, bs2, bs3, beq_iff_eq, bne_iff_ne, beq_eq_false_iff_ne, bne_eq_false_iff_eq, ne_eq, bs4, bs5, bs6, bs7, bs8, bs9, bs10, bs11, ge_iff_le, gt_iff_lt] at h2)
   refine cFalse (by kernel_rfl) ?_
   refine cSkip ?_
   refine kSeq ?_
   refine cSeq ?_
   refine cRegW (N := 9) [⟨[], [], []⟩, ⟨[], [], [3]⟩, ⟨[], [], []⟩, ⟨[], [], [3]⟩, ⟨[], [], []⟩, ⟨[], [], [3]⟩, ⟨[], [], []⟩, ⟨[], [], [3]⟩, ⟨[5], [], [0]⟩, ⟨[], [], []⟩, ⟨[], [], [3]⟩, ⟨[6], [], [1]⟩, ⟨[], [], []⟩, ⟨[], [], [3]⟩, ⟨[7], [], [2]⟩, ⟨[], [], []⟩, ⟨[8], [], []⟩, ⟨[], [8], []⟩] 4 [5, 6, 7, 8] (by rfl) (by rfl) (by kernel_rfl) (by kernel_rfl) (by kernel_rfl) ⟨nmsF (flatNums _ _ _ _), ⟨nmsF (flatNums _ _ _ _), ⟨nmsF (flatNums _ _ _ _), ⟨nmsX (by kernel_rfl), ⟨nmsX (by kernel_rfl), trivial⟩⟩⟩⟩⟩ ?_
   refine segWH 8 (T1 := (mkT 69 [(1, vI 1), (2, vP 3 0), (4, vP 4 0), (14, .bool false), (16, vP 3 0), (17, vN X), (18, vP 3 1), (19, vN Y), (20, vP 3 2), (21, vN Z), (22, vP 3 3), (23, vS 0 A.length)])) (by kernel_rfl) ?_
   refine rW (m := ⟨[5], [], [0]⟩) (v := vS 5 A.length) rfl (by kernel_rfl) (stN (i := 5) (E := [nW A]) (v1 := vS 9 A.length) (args := [vS 0 A.length]) rfl (by kernel_rfl) (Any.lay (E := [nW A]) (N := 9) [0] (l1OwnI A (by first | omega | assumption | (simp; done) | (simp; omega))) ⟨rdF false (flatNums _ _ _ _) rfl rfl, trivial⟩ rfl ⟨clF (flatNums _ _ _ _), trivial⟩ rfl (by first | rfl | simp [mpV, mpA, mpS, mpP, renId, shift]) rfl ⟨enF (flatNums _ _ _ _) (Or.inl rfl), trivial⟩) rfl (by kernel_rfl) (by kernel_rfl) (by kernel_rfl) (by kernel_rfl) (FlatH.cons (flatNums _ _ _ _) FlatH.nil)) (by kernel_rfl) (NRs.all ⟨nrOf (by rfl) (nmF (flatNums _ _ _ _)), trivial⟩) ?_
   refine segWH 2 (T1 := (mkT 69 [(1, vI 1), (2, vP 3 0), (4, vP 4 0), (14, .bool false), (16, vP 3 0), (17, vN X), (18, vP 3 1), (19, vN Y), (20, vP 3 2), (21, vN Z), (22, vP 3 3), (23, vS 0 A.length), (24, vS 5 A.length), (25, vP 3 4), (26, vS 1 B.length)])) (by kernel_rfl) ?_
   refine rW (m := ⟨[6], [], [1]⟩) (v := vS 6 B.length) rfl (by kernel_rfl) (stN (i := 6) (E := [nW B]) (v1 := vS 9 B.length) (args := [vS 1 B.length]) rfl (by kernel_rfl) (Any.lay (E := [nW B]) (N := 9) [1] (l1OwnI B (by first | omega | assumption | (simp; done) | (simp; omega))) ⟨rdF false (flatNums _ _ _ _) rfl rfl, trivial⟩ rfl ⟨clF (flatNums _ _ _ _), trivial⟩ rfl (by first | rfl | simp [mpV, mpA, mpS, mpP, renId, shift]) rfl ⟨enF (flatNums _ _ _ _) (Or.inl rfl), trivial⟩) rfl (by kernel_rfl) (by kernel_rfl) (by kernel_rfl) (by kernel_rfl) (FlatH.cons (flatNums _ _ _ _) FlatH.nil)) (by kernel_rfl) (NRs.all ⟨nrOf (by rfl) (nmF (flatNums _ _ _ _)), trivial⟩) ?_
   refine segWH 2 (T1 := (mkT 69 [(1, vI 1), (2, vP 3 0), (4, vP 4 0), (14, .bool false), (16, vP 3 0), (17, vN X), (18, vP 3 1), (19, vN Y), (20, vP 3 2), (21, vN Z), (22, vP 3 3), (23, vS 0 A.length), (24, vS 5 A.length), (25, vP 3 4), (26, vS 1 B.length), (27, vS 6 B.length), (28, vP 3 5), (29, vS 2 C.length)])) (by kernel_rfl) ?_
   refine rW (m := ⟨[7], [], [2]⟩) (v := vS 7 C.length) rfl (by kernel_rfl) (stN (i := 7) (E := [nW C]) (v1 := vS 9 C.length) (args := [vS 2 C.length]) rfl (by kernel_rfl) (Any.lay (E := [nW C]) (N := 9) [2] (l1OwnI C (by first | omega | assumption | (simp; done) | (simp; omega))) ⟨rdF false (flatNums _ _ _ _) rfl rfl, trivial⟩ rfl ⟨clF (flatNums _ _ _ _), trivial⟩ rfl (by first | rfl | simp [mpV, mpA, mpS, mpP, renId, shift]) rfl ⟨enF (flatNums _ _ _ _) (Or.inl rfl), trivial⟩) rfl (by kernel_rfl) (by kernel_rfl) (by kernel_rfl) (by kernel_rfl) (FlatH.cons (flatNums _ _ _ _) FlatH.nil)) (by kernel_rfl) (NRs.all ⟨nrOf (by rfl) (nmF (flatNums _ _ _ _)), trivial⟩) ?_
   refine segWH 1 (T1 := (mkT 69 [(1, vI 1), (2, vP 3 0), (4, vP 4 0), (14, .bool false), (16, vP 3 0), (17, vN X), (18, vP 3 1), (19, vN Y), (20, vP 3 2), (21, vN Z), (22, vP 3 3), (23, vS 0 A.length), (24, vS 5 A.length), (25, vP 3 4), (26, vS 1 B.length), (27, vS 6 B.length), (28, vP 3 5), (29, vS 2 C.length), (30, vS 7 C.length), (31, .agg #[vN X, vN Y, vN Z, vS 5 A.length, vS 6 B.length, vS 7 C.length])])) (by kernel_rfl) ?_
   refine rW (m := ⟨[8], [], []⟩) (v := vP 8 0) rfl (by kernel_rfl) (stNew (i := 8) (v1 := vP 9 0) (r := ⟨[vI 0, vI 0, vI 0, .slice none 0 0, .slice none 0 0, .slice none 0 0], 27, true, true⟩) (by kernel_rfl) rfl (by kernel_rfl) (by kernel_rfl) (by kernel_rfl) (by kernel_rfl) (nmX (by kernel_rfl)) (clX (by kernel_rfl))) (by kernel_rfl) (NRs.all ⟨nrOf (by rfl) (nmX (by kernel_rfl)), trivial⟩) ?_
   refine rW (m := ⟨[], [8], []⟩) (v := .tuple #[]) rfl (by kernel_rfl) (stSet (b := 8) (r := ⟨[vN X, vN Y, vN Z, vS 5 A.length, vS 6 B.length, vS 7 C.length], 27, true, true⟩) (by kernel_rfl) rfl (by kernel_rfl) (by kernel_rfl) (by kernel_rfl) (by kernel_rfl) (nmX (by kernel_rfl)) (clX (by kernel_rfl))) (by kernel_rfl) (NRs.all ⟨nrOf (by rfl) (nmX (by kernel_rfl)), trivial⟩) ?_
   refine segEndW [1, 2, 4, 6] (T1 := (mkT 69 [(1, vI 1), (2, vP 3 0), (4, vP 4 0), (6, vP 8 0)])) (H1 := [nR A, nR B, nR C, rB [vN X, vN Y, vN Z, vS 0 A.length, vS 1 B.length, vS 2 C.length] 27, rB [vI 0, vI 0, vI 0, .slice none 0 0, .slice none 0 0, .slice none 0 0] 27, nW A, nW B, nW C, rB [vN X, vN Y, vN Z, vS 5 A.length, vS 6 B.length, vS 7 C.length] 27]) (by kernel_rfl) ?_
   refine kSeq ?_
   refine cSeq ?_
   refine cSeq ?_
   refine cReg ?_
   refine segEndH [1, 2, 4, 6, 33] (T1 := (mkT 69 [(1, vI 1), (2, vP 3 0), (4, vP 4 0), (6, vP 8 0), (33, .bool true)])) (by kernel_rfl) ?_
   refine kSeq ?_
   refine cTrue (by kernel_rfl) ?_
   refine cReg ?_
   refine segH 8 (T1 := (mkT 69 [(1, vI 1), (2, vP 3 0), (4, vP 4 0), (6, vP 8 0), (33, .bool true), (34, vP 3 3), (35, vS 0 A.length), (36, vP 3 0), (37, vN X), (38, vP 3 1), (39, vN Y), (40, vI 1), (41, .bool false)])) (by kernel_rfl) ?_
   refine rCall (v := vS 9 ((turnL false X Y A (X * Y)).length)) (args := [vS 0 A.length, vN X, vN Y, .bool false]) (by kernel_rfl) rfl (by kernel_rfl) (Sound.lay (E := [nW (turnL false X Y A (X * Y))]) [0] (turned_false X Y A (by first | assumption | omega) (by omega) (by omega)) ⟨rdF false (flatNums _ _ _ _) rfl rfl, trivial⟩ rfl ⟨clF (flatNums _ _ _ _), trivial⟩ rfl (by first | rfl | simp [mpV, mpA, mpS, mpP, renId, shift]) rfl ⟨enF (flatNums _ _ _ _) (Or.inl rfl), trivial⟩) ?_
   refine segEnd [1, 2, 4, 6] (T1 := (mkT 69 [(1, vI 1), (2, vP 3 0), (4, vP 4 0), (6, vP 8 0)])) (H1 := [nR A, nR B, nR C, rB [vN X, vN Y, vN Z, vS 0 A.length, vS 1 B.length, vS 2 C.length] 27, rB [vI 0, vI 0, vI 0, .slice none 0 0, .slice none 0 0, .slice none 0 0] 27, nW A, nW B, nW C, rB [vN X, vN Y, vN Z, vS 9 ((turnL false X Y A (X * Y)).length), vS 6 B.length, vS 7 C.length] 27, nW (turnL false X Y A (X * Y))]) (by kernel_rfl) ?_
   refine kSeq ?_
   refine cSeq ?_
   refine cSeq ?_
   refine cReg ?_
   refine segEndH [1, 2, 4, 6, 45] (T1 := (mkT 69 [(1, vI 1), (2, vP 3 0), (4, vP 4 0), (6, vP 8 0), (45, .bool false)])) (by kernel_rfl) ?_
   refine kSeq ?_
   refine cFalse (by kernel_rfl) ?_
   refine cSkip ?_
   refine kSeq ?_
   refine cSeq ?_
   refine cSeq ?_
   refine cReg ?_
   refine segEndH [1, 2, 4, 6, 57] (T1 := (mkT 69 [(1, vI 1), (2, vP 3 0), (4, vP 4 0), (6, vP 8 0), (57, .bool true)])) (by kernel_rfl) ?_
   refine kSeq ?_
   refine cTrue (by kernel_rfl) ?_
   refine cReg ?_
   refine segH 8 (T1 := (mkT 69 [(1, vI 1), (2, vP 3 0), (4, vP 4 0), (6, vP 8 0), (57, .bool true), (58, vP 3 5), (59, vS 2 C.length), (60, vP 3 1), (61, vN Y), (62, vP 3 2), (63, vN Z), (64, vI 1), (65, .bool true)])) (by kernel_rfl) ?_
   refine rCall (v := vS 10 ((turnL true Y Z C (Y * Z)).length)) (args := [vS 2 C.length, vN Y, vN Z, .bool true]) (by kernel_rfl) rfl (by kernel_rfl) (Sound.lay (E := [nW (turnL true Y Z C (Y * Z))]) [2] (turned_true Y Z C (by first | assumption | omega) (by omega) (by omega)) ⟨rdF false (flatNums _ _ _ _) rfl rfl, trivial⟩ rfl ⟨clF (flatNums _ _ _ _), trivial⟩ rfl (by first | rfl | simp [mpV, mpA, mpS, mpP, renId, shift]) rfl ⟨enF (flatNums _ _ _ _) (Or.inl rfl), trivial⟩) ?_
   refine segEnd [4, 6] (T1 := (mkT 69 [(4, vP 4 0), (6, vP 8 0)])) (H1 := [nR A, nR B, nR C, rB [vN X, vN Y, vN Z, vS 0 A.length, vS 1 B.length, vS 2 C.length] 27, rB [vI 0, vI 0, vI 0, .slice none 0 0, .slice none 0 0, .slice none 0 0] 27, nW A, nW B, nW C, rB [vN X, vN Y, vN Z, vS 9 ((turnL false X Y A (X * Y)).length), vS 6 B.length, vS 10 ((turnL true Y Z C (Y * Z)).length)] 27, nW (turnL false X Y A (X * Y)), nW (turnL true Y Z C (Y * Z))]) (by kernel_rfl) ?_
   refine kSeq ?_
   refine cSeq ?_
   refine cReg ?_
   refine segEnd [4, 5] (T1 := (mkT 69 [(4, vP 4 0), (5, .bool true)])) (H1 := [nR A, nR B, nR C, rB [vN X, vN Y, vN Z, vS 0 A.length, vS 1 B.length, vS 2 C.length] 27, rB [vN X, vN Y, vN Z, vS 9 ((turnL false X Y A (X * Y)).length), vS 6 B.length, vS 10 ((turnL true Y Z C (Y * Z)).length)] 27, nW A, nW B, nW C, rB [vN X, vN Y, vN Z, vS 9 ((turnL false X Y A (X * Y)).length), vS 6 B.length, vS 10 ((turnL true Y Z C (Y * Z)).length)] 27, nW (turnL false X Y A (X * Y)), nW (turnL true Y Z C (Y * Z))]) (by kernel_rfl) ?_
   refine kSeq ?_
   refine cRet ?_
   have he0 : ((turnL false X Y A (X * Y)) : List Int) = (mirE 2 1 X Y Z A) := by first | omega | exact mirE_id (fun p => rfl) (by simp only [nlN]; omega) | exact mirE_turn true (fun p => rfl) rfl | exact mirE_turn false (fun p => rfl) rfl
   have he1 : (B : List Int) = (mirE 1 1 X Y Z B) := by first | omega | exact mirE_id (fun p => rfl) (by simp only [nlN]; omega) | exact mirE_turn true (fun p => rfl) rfl | exact mirE_turn false (fun p => rfl) rfl
   have he2 : ((turnL true Y Z C (Y * Z)) : List Int) = (mirE 0 1 X Y Z C) := by first | omega | exact mirE_id (fun p => rfl) (by simp only [nlN]; omega) | exact mirE_turn true (fun p => rfl) rfl | exact mirE_turn false (fun p => rfl) rfl
   refine endCast (v1 := .tuple #[.agg #[vN X, vN Y, vN Z, vS 3 ((turnL false X Y A (X * Y)).length), vS 4 B.length, vS 5 ((turnL true Y Z C (Y * Z)).length)], .bool true]) (H1 := [nR A, nR B, nR C, nW (turnL false X Y A (X * Y)), nW B, nW (turnL true Y Z C (Y * Z))]) (by first | rfl | ((try rw [← he0]); (try rw [← he1]); (try rw [← he2]); done) | (simp only [← he0, ← he1, ← he2]; done)) (by first | rfl | ((try rw [← he0]); (try rw [← he1]); (try rw [← he2]); done) | (simp only [← he0, ← he1, ← he2]; done)) ?_
   exact endF (Or.inr rfl) (l := [.agg #[vN X, vN Y, vN Z, vS 9 ((turnL false X Y A (X * Y)).length), vS 6 B.length, vS 10 ((turnL true Y Z C (Y * Z)).length)], .bool true]) [0, 1, 2, 9, 6, 10] (by kernel_rfl) (by first | rfl | simp [packR, mpV, mpA, mpS, mpP, renId]) ⟨rrF (flatNums _ _ _ _) rfl, ⟨rrF (flatNums _ _ _ _) rfl, ⟨rrF (flatNums _ _ _ _) rfl, ⟨rrF (flatNums _ _ _ _) rfl, ⟨rrF (flatNums _ _ _ _) rfl, ⟨rrF (flatNums _ _ _ _) rfl, trivial⟩⟩⟩⟩⟩⟩ rfl rfl
set_option maxRecDepth 100000 in
set_option maxHeartbeats 4000000 in
theorem implMirrorShadow_1r (X : Nat) (Y : Nat) (Z : Nat) (A : List Int) (B : List Int) (C : List Int) (hs : Sides X Y Z) (hq : shadB X Y Z A B C = true) : Sound Try.prog 49 [.agg #[vN X, vN Y, vN Z, vS 0 A.length, vS 1 B.length, vS 2 C.length], vI 1] [nR A, nR B, nR C] (.tuple #[.agg #[vN X, vN Y, vN Z, vS 3 A.length, vS 4 B.length, vS 5 C.length], .bool true]) [nR A, nR B, nR C, nW (mirE 2 1 X Y Z A), nW (mirE 1 1 X Y Z B), nW (mirE 0 1 X Y Z C)] := by
 refine sound_intro (C := cx) Try.func49 rfl (by kernel_rfl) fun hcl => ?_
 have hz := hs.size
 have hx0 := hs.x0
 have hx4 := hs.x4
 have hy0 := hs.y0
 have hy4 := hs.y4
 have hz0 := hs.z0
 have hz4 := hs.z4
 have hxy : X * Y ≤ 4 * 4 := Nat.mul_le_mul (by omega) (by omega)
 have hxz : X * Z ≤ 4 * 4 := Nat.mul_le_mul (by omega) (by omega)
 have hyz : Y * Z ≤ 4 * 4 := Nat.mul_le_mul (by omega) (by omega)
 have hw := shad_of hq
 have hwa := hw.1.1
 have hwb := hw.2.1.1
 have hwc := hw.2.2.1
 refine cSeq ?_
 refine cReg ?_
 refine segEnd [1, 2, 4] (T1 := (mkT 75 [(1, vI 1), (2, vP 3 0), (4, vP 4 0)])) (H1 := [nR A, nR B, nR C, rB [vN X, vN Y, vN Z, vS 0 A.length, vS 1 B.length, vS 2 C.length] 27, rB [vI 0, vI 0, vI 0, .slice none 0 0, .slice none 0 0, .slice none 0 0] 27]) (by kernel_rfl) ?_
 refine kSeq ?_
 refine cSeq ?_
 refine cSeq ?_
 refine cReg ?_
 refine segH 1 (T1 := (mkT 75 [(1, vI 1), (2, vP 3 0), (4, vP 4 0), (11, .agg #[vN X, vN Y, vN Z, vS 0 A.length, vS 1 B.length, vS 2 C.length])])) (by kernel_rfl) ?_
 refine rCall (v := .bool (shadB X Y Z A B C)) (args := [.agg #[vN X, vN Y, vN Z, vS 0 A.length, vS 1 B.length, vS 2 C.length]]) (by kernel_rfl) rfl (by kernel_rfl) (Sound.lay0 [0, 1, 2] (isShadowB_yes X Y Z A B C (by first | assumption | omega | rfl | decide | exact HeapL.list _ _ _ _ | exact HeapL.nil _ _ _ | exact HeapL.all _ _ _ | (apply HeapL.lt64 <;> assumption) | (repeat' (first | assumption | apply or_lt64 | apply and_lt64 | apply andn_lt64 | apply pow_lt64 | (apply HeapL.lt64 <;> assumption)))) (by first | omega | assumption | (simp; done)) (by first | omega | assumption | (simp; done)) (by first | omega | assumption | (simp; done))) ⟨rdF false (flatNums _ _ _ _) rfl rfl, ⟨rdF false (flatNums _ _ _ _) rfl rfl, ⟨rdF false (flatNums _ _ _ _) rfl rfl, trivial⟩⟩⟩ rfl ⟨clF (flatNums _ _ _ _), ⟨clF (flatNums _ _ _ _), ⟨clF (flatNums _ _ _ _), trivial⟩⟩⟩ rfl (by first | rfl | simp [mpV, mpA, mpS, mpP, renId, shift]) rfl) ?_
 refine segH 2 (T1 := (mkT 75 [(1, vI 1), (2, vP 3 0), (4, vP 4 0), (11, .agg #[vN X, vN Y, vN Z, vS 0 A.length, vS 1 B.length, vS 2 C.length]), (12, .bool (shadB X Y Z A B C)), (13, .bool (!(shadB X Y Z A B C))), (14, .bool (!(shadB X Y Z A B C)))])) (by kernel_rfl) ?_
 cases h1 : (shadB X Y Z A B C : Bool)
 ·
  have h1k := h1
  (try simp only [bs0, bs1, bs2, bs3, beq_iff_eq, bne_iff_ne, beq_eq_false_iff_ne, bne_eq_false_iff_eq, ne_eq, bs4, bs5, bs6, bs7, bs8, bs9, bs10, bs11, ge_iff_le, gt_iff_lt] at h1)
  exfalso; simp_all
 ·
  have h1k := h1
  (try simp only [bs0, bs1, bs2, bs3, beq_iff_eq, bne_iff_ne, beq_eq_false_iff_ne, bne_eq_false_iff_eq, ne_eq, bs4, bs5, bs6, bs7, bs8, bs9, bs10, bs11, ge_iff_le, gt_iff_lt] at h1)
  refine segH 1 (T1 := (mkT 75 [(1, vI 1), (2, vP 3 0), (4, vP 4 0), (11, .agg #[vN X, vN Y, vN Z, vS 0 A.length, vS 1 B.length, vS 2 C.length]), (12, .bool true), (13, .bool false), (14, .bool false), (15, vI 1)])) (by kernel_rfl) ?_
  refine rCall (v := .bool (inR 1 0 2)) (args := [vI 1]) (by kernel_rfl) rfl (by kernel_rfl) (Sound.lay0 [] (isDirB 1) trivial rfl trivial rfl (by first | rfl | simp [mpV, mpA, mpS, mpP, renId, shift]) rfl) ?_
  refine segEndH [1, 2, 4, 18] (T1 := (mkT 75 [(1, vI 1), (2, vP 3 0), (4, vP 4 0), (18, .bool (!(inR 1 0 2)))])) (by kernel_rfl) ?_
  refine kSeq ?_
  cases h2 : (inR 1 0 2 : Bool)
  ·
   have h2k := h2
   (try simp only [bs0, bs1, bs2, bs3, beq_iff_eq, bne_iff_ne, beq_eq_false_iff_ne, bne_eq_false_iff_eq, ne_eq, bs4, bs5, bs6, bs7, bs8, bs9, bs10, bs11, ge_iff_le, gt_iff_lt] at h2)
   exfalso; (exact absurd h2 (by decide))
  ·
   have h2k := h2
   (try simp only [bs0, bs1, bs2, bs3, beq_iff_eq, bne_iff_ne, beq_eq_false_iff_ne, bne_eq_false_iff_eq, ne_eq, bs4, bs5, bs6, bs7, bs8, bs9, bs10, bs11, ge_iff_le, gt_iff_lt] at h2)
   refine cFalse (by kernel_rfl) ?_
   refine cSkip ?_
   refine kSeq ?_
   refine cSeq ?_
   refine cReg ?_
   refine segH 1 (T1 := (mkT 75 [(1, vI 1), (2, vP 3 0), (4, vP 4 0), (18, .bool false), (20, .agg #[vN X, vN Y, vN Z, vS 0 A.length, vS 1 B.length, vS 2 C.length])])) (by kernel_rfl) ?_
   refine rCall (v := .agg #[vN X, vN Y, vN Z]) (args := [.agg #[vN X, vN Y, vN Z, vS 0 A.length, vS 1 B.length, vS 2 C.length]]) (by kernel_rfl) rfl (by kernel_rfl) (Sound.lay0 [0, 1, 2] (shBox ((X : Nat) : Int) ((Y : Nat) : Int) ((Z : Nat) : Int) A B C) ⟨rdF false (flatNums _ _ _ _) rfl rfl, ⟨rdF false (flatNums _ _ _ _) rfl rfl, ⟨rdF false (flatNums _ _ _ _) rfl rfl, trivial⟩⟩⟩ rfl ⟨clF (flatNums _ _ _ _), ⟨clF (flatNums _ _ _ _), ⟨clF (flatNums _ _ _ _), trivial⟩⟩⟩ rfl (by first | rfl | simp [mpV, mpA, mpS, mpP, renId, shift]) (by first | rfl | simp [mpV, mpA, mpS, mpP, renId, shift])) ?_
   refine segEnd [1, 2, 4, 6] (T1 := (mkT 75 [(1, vI 1), (2, vP 3 0), (4, vP 4 0), (6, vP 5 0)])) (H1 := [nR A, nR B, nR C, rB [vN X, vN Y, vN Z, vS 0 A.length, vS 1 B.length, vS 2 C.length] 27, rB [vI 0, vI 0, vI 0, .slice none 0 0, .slice none 0 0, .slice none 0 0] 27, rB [vN X, vN Y, vN Z] 75]) (by kernel_rfl) ?_
   refine kSeq ?_
   refine cSeq ?_
   refine cRegW (N := 10) [⟨[], [], []⟩, ⟨[], [], [3]⟩, ⟨[], [], []⟩, ⟨[], [], [3]⟩, ⟨[], [], []⟩, ⟨[], [], [3]⟩, ⟨[], [], []⟩, ⟨[], [], [3]⟩, ⟨[], [], [0]⟩, ⟨[6], [], []⟩, ⟨[], [], []⟩, ⟨[], [], [3]⟩, ⟨[], [], [1]⟩, ⟨[7], [], []⟩, ⟨[], [], []⟩, ⟨[], [], [3]⟩, ⟨[], [], [2]⟩, ⟨[8], [], []⟩, ⟨[], [], []⟩, ⟨[9], [], []⟩, ⟨[], [9], []⟩] 4 [6, 7, 8, 9] (by rfl) (by rfl) (by kernel_rfl) (by kernel_rfl) (by kernel_rfl) ⟨nmsF (flatNums _ _ _ _), ⟨nmsF (flatNums _ _ _ _), ⟨nmsF (flatNums _ _ _ _), ⟨nmsX (by kernel_rfl), ⟨nmsX (by kernel_rfl), ⟨nmsX (by kernel_rfl), trivial⟩⟩⟩⟩⟩⟩ ?_
   refine segWH 9 (T1 := (mkT 75 [(1, vI 1), (2, vP 3 0), (4, vP 4 0), (6, vP 5 0), (22, vP 3 0), (23, vN X), (24, vP 3 1), (25, vN Y), (26, vP 3 2), (27, vN Z), (28, vP 3 3), (29, vS 0 A.length), (30, vN A.length)])) (by kernel_rfl) ?_
   refine rW (m := ⟨[6], [], []⟩) (v := vS 6 A.length) rfl (by kernel_rfl) (stNew (i := 6) (v1 := vS 10 A.length) (r := ⟨nums (List.replicate A.length 0), 3, false, true⟩) (eMkNum (n := A.length) (k := .i64) (k2 := .i64) (by kernel_rfl) (by kernel_rfl) ti22 ti3 rfl rfl (by decide) (by omega)) rfl (by kernel_rfl) (by kernel_rfl) (by kernel_rfl) (by kernel_rfl) (nmF (flatNums _ _ _ _)) (clF (flatNums _ _ _ _))) (by kernel_rfl) (NRs.all ⟨nrOf (by rfl) (nmF (flatNums _ _ _ _)), trivial⟩) ?_
   refine segWH 3 (T1 := (mkT 75 [(1, vI 1), (2, vP 3 0), (4, vP 4 0), (6, vP 5 0), (22, vP 3 0), (23, vN X), (24, vP 3 1), (25, vN Y), (26, vP 3 2), (27, vN Z), (28, vP 3 3), (29, vS 0 A.length), (30, vN A.length), (31, vS 6 A.length), (32, vP 3 4), (33, vS 1 B.length), (34, vN B.length)])) (by kernel_rfl) ?_
   refine rW (m := ⟨[7], [], []⟩) (v := vS 7 B.length) rfl (by kernel_rfl) (stNew (i := 7) (v1 := vS 10 B.length) (r := ⟨nums (List.replicate B.length 0), 3, false, true⟩) (eMkNum (n := B.length) (k := .i64) (k2 := .i64) (by kernel_rfl) (by kernel_rfl) ti22 ti3 rfl rfl (by decide) (by omega)) rfl (by kernel_rfl) (by kernel_rfl) (by kernel_rfl) (by kernel_rfl) (nmF (flatNums _ _ _ _)) (clF (flatNums _ _ _ _))) (by kernel_rfl) (NRs.all ⟨nrOf (by rfl) (nmF (flatNums _ _ _ _)), trivial⟩) ?_
   refine segWH 3 (T1 := (mkT 75 [(1, vI 1), (2, vP 3 0), (4, vP 4 0), (6, vP 5 0), (22, vP 3 0), (23, vN X), (24, vP 3 1), (25, vN Y), (26, vP 3 2), (27, vN Z), (28, vP 3 3), (29, vS 0 A.length), (30, vN A.length), (31, vS 6 A.length), (32, vP 3 4), (33, vS 1 B.length), (34, vN B.length), (35, vS 7 B.length), (36, vP 3 5), (37, vS 2 C.length), (38, vN C.length)])) (by kernel_rfl) ?_
   refine rW (m := ⟨[8], [], []⟩) (v := vS 8 C.length) rfl (by kernel_rfl) (stNew (i := 8) (v1 := vS 10 C.length) (r := ⟨nums (List.replicate C.length 0), 3, false, true⟩) (eMkNum (n := C.length) (k := .i64) (k2 := .i64) (by kernel_rfl) (by kernel_rfl) ti22 ti3 rfl rfl (by decide) (by omega)) rfl (by kernel_rfl) (by kernel_rfl) (by kernel_rfl) (by kernel_rfl) (nmF (flatNums _ _ _ _)) (clF (flatNums _ _ _ _))) (by kernel_rfl) (NRs.all ⟨nrOf (by rfl) (nmF (flatNums _ _ _ _)), trivial⟩) ?_
   refine segWH 1 (T1 := (mkT 75 [(1, vI 1), (2, vP 3 0), (4, vP 4 0), (6, vP 5 0), (22, vP 3 0), (23, vN X), (24, vP 3 1), (25, vN Y), (26, vP 3 2), (27, vN Z), (28, vP 3 3), (29, vS 0 A.length), (30, vN A.length), (31, vS 6 A.length), (32, vP 3 4), (33, vS 1 B.length), (34, vN B.length), (35, vS 7 B.length), (36, vP 3 5), (37, vS 2 C.length), (38, vN C.length), (39, vS 8 C.length), (40, .agg #[vN X, vN Y, vN Z, vS 6 A.length, vS 7 B.length, vS 8 C.length])])) (by kernel_rfl) ?_
   refine rW (m := ⟨[9], [], []⟩) (v := vP 9 0) rfl (by kernel_rfl) (stNew (i := 9) (v1 := vP 10 0) (r := ⟨[vI 0, vI 0, vI 0, .slice none 0 0, .slice none 0 0, .slice none 0 0], 27, true, true⟩) (by kernel_rfl) rfl (by kernel_rfl) (by kernel_rfl) (by kernel_rfl) (by kernel_rfl) (nmX (by kernel_rfl)) (clX (by kernel_rfl))) (by kernel_rfl) (NRs.all ⟨nrOf (by rfl) (nmX (by kernel_rfl)), trivial⟩) ?_
   refine rW (m := ⟨[], [9], []⟩) (v := .tuple #[]) rfl (by kernel_rfl) (stSet (b := 9) (r := ⟨[vN X, vN Y, vN Z, vS 6 A.length, vS 7 B.length, vS 8 C.length], 27, true, true⟩) (by kernel_rfl) rfl (by kernel_rfl) (by kernel_rfl) (by kernel_rfl) (by kernel_rfl) (nmX (by kernel_rfl)) (clX (by kernel_rfl))) (by kernel_rfl) (NRs.all ⟨nrOf (by rfl) (nmX (by kernel_rfl)), trivial⟩) ?_
   refine segEndW [1, 2, 4, 6, 7] (T1 := (mkT 75 [(1, vI 1), (2, vP 3 0), (4, vP 4 0), (6, vP 5 0), (7, vP 9 0)])) (H1 := [nR A, nR B, nR C, rB [vN X, vN Y, vN Z, vS 0 A.length, vS 1 B.length, vS 2 C.length] 27, rB [vI 0, vI 0, vI 0, .slice none 0 0, .slice none 0 0, .slice none 0 0] 27, rB [vN X, vN Y, vN Z] 75, nW (List.replicate A.length 0), nW (List.replicate B.length 0), nW (List.replicate C.length 0), rB [vN X, vN Y, vN Z, vS 6 A.length, vS 7 B.length, vS 8 C.length] 27]) (by kernel_rfl) ?_
   refine kSeq ?_
   refine cSeq ?_
   refine cSeq ?_
   refine cReg ?_
   refine segH 1 (T1 := (mkT 75 [(1, vI 1), (2, vP 3 0), (4, vP 4 0), (6, vP 5 0), (7, vP 9 0), (41, .agg #[vN X, vN Y, vN Z])])) (by kernel_rfl) ?_
   refine rCall (v := vN (X * Y * Z)) (args := [.agg #[vN X, vN Y, vN Z]]) (by kernel_rfl) rfl (by kernel_rfl) (Sound.lay0 [] (sizeB X Y Z (by first | assumption | omega | rfl | decide | exact HeapL.list _ _ _ _ | exact HeapL.nil _ _ _ | exact HeapL.all _ _ _ | (apply HeapL.lt64 <;> assumption) | (repeat' (first | assumption | apply or_lt64 | apply and_lt64 | apply andn_lt64 | apply pow_lt64 | (apply HeapL.lt64 <;> assumption))))) trivial rfl trivial rfl (by first | rfl | simp [mpV, mpA, mpS, mpP, renId, shift]) rfl) ?_
   refine segEndH [1, 2, 4, 6, 7, 42, 43] (T1 := (mkT 75 [(1, vI 1), (2, vP 3 0), (4, vP 4 0), (6, vP 5 0), (7, vP 9 0), (42, vN (X * Y * Z)), (43, vI 0)])) (by kernel_rfl) ?_
   refine kSeq ?_
   refine cBlk ?_
   refine cLoop (fun mm T H => ∃ i : Nat, ∃ MA : List Int, ∃ MB : List Int, ∃ MC : List Int, (i ≤ X * Y * Z) ∧ (MA = mirT 2 1 X Y Z A (i)) ∧ (MB = mirT 1 1 X Y Z B (i)) ∧ (MC = mirT 0 1 X Y Z C (i)) ∧ mm = X * Y * Z - i ∧ T = (mkT 75 [(1, vI 1), (2, vP 3 0), (4, vP 4 0), (6, vP 5 0), (7, vP 9 0), (42, vN (X * Y * Z)), (43, vN i)]) ∧ H = [nR A, nR B, nR C, rB [vN X, vN Y, vN Z, vS 0 A.length, vS 1 B.length, vS 2 C.length] 27, rB [vI 0, vI 0, vI 0, .slice none 0 0, .slice none 0 0, .slice none 0 0] 27, rB [vN X, vN Y, vN Z] 75, nW MA, nW MB, nW MC, rB [vN X, vN Y, vN Z, vS 6 A.length, vS 7 B.length, vS 8 C.length] 27]) (X * Y * Z - 0) (mkT 75 [(1, vI 1), (2, vP 3 0), (4, vP 4 0), (6, vP 5 0), (7, vP 9 0), (42, vN (X * Y * Z)), (43, vI 0)]) [nR A, nR B, nR C, rB [vN X, vN Y, vN Z, vS 0 A.length, vS 1 B.length, vS 2 C.length] 27, rB [vI 0, vI 0, vI 0, .slice none 0 0, .slice none 0 0, .slice none 0 0] 27, rB [vN X, vN Y, vN Z] 75, nW (List.replicate A.length 0), nW (List.replicate B.length 0), nW (List.replicate C.length 0), rB [vN X, vN Y, vN Z, vS 6 A.length, vS 7 B.length, vS 8 C.length] 27] (wkSame [1, 2, 4, 6, 7, 42, 43] (by kernel_rfl)) ?_ ?_
   ·
    exact ⟨0, (List.replicate A.length 0), (List.replicate B.length 0), (List.replicate C.length 0), (Nat.zero_le _), ((by show _ = List.replicate (X * Y) 0; rw [hwa])), ((by show _ = List.replicate (X * Z) 0; rw [hwb])), ((by show _ = List.replicate (Y * Z) 0; rw [hwc])), rfl, rfl, rfl⟩
   ·
    rintro _ _ _ ⟨i, MA, MB, MC, hi, hMA, hMB, hMC, rfl, rfl, rfl⟩
    have hMlA : MA.length = X * Y := (by rw [hMA]; exact mirT_length 2 1 X Y Z A _); have hMlB : MB.length = X * Z := (by rw [hMB]; exact mirT_length 1 1 X Y Z B _); have hMlC : MC.length = Y * Z := (by rw [hMC]; exact mirT_length 0 1 X Y Z C _)
    refine cSeq ?_
    refine cReg ?_
    refine segEndH [1, 2, 4, 6, 7, 42, 43, 44] (T1 := (mkT 75 [(1, vI 1), (2, vP 3 0), (4, vP 4 0), (6, vP 5 0), (7, vP 9 0), (42, vN (X * Y * Z)), (43, vN i), (44, .bool (decide (((i : Nat) : Int) < ((X * Y * Z : Nat) : Int))))])) (by kernel_rfl) ?_
    refine kSeq ?_
    refine cSeq ?_
    cases h3 : (decide (((i : Nat) : Int) < ((X * Y * Z : Nat) : Int)) : Bool)
    ·
     have h3k := h3
     (try simp only [bs0, bs1, bs2, bs3, beq_iff_eq, bne_iff_ne, beq_eq_false_iff_ne, bne_eq_false_iff_eq, ne_eq, bs4, bs5, bs6, bs7, bs8, bs9, bs10, bs11, ge_iff_le, gt_iff_lt] at h3)
     refine cFalse (by kernel_rfl) ?_
     refine cExit ?_
     refine kSeqE ?_
     refine kLoopE ?_
     refine kBlkHit ?_
     refine kSeq ?_
     refine cSeq ?_
     refine cReg ?_
     refine segEnd [4, 5] (T1 := (mkT 75 [(4, vP 4 0), (5, .bool true)])) (H1 := [nR A, nR B, nR C, rB [vN X, vN Y, vN Z, vS 0 A.length, vS 1 B.length, vS 2 C.length] 27, rB [vN X, vN Y, vN Z, vS 6 A.length, vS 7 B.length, vS 8 C.length] 27, rB [vN X, vN Y, vN Z] 75, nW MA, nW MB, nW MC, rB [vN X, vN Y, vN Z, vS 6 A.length, vS 7 B.length, vS 8 C.length] 27]) (by kernel_rfl) ?_
     refine kSeq ?_
     refine cRet ?_
     have he0 : (MA : List Int) = (mirE 2 1 X Y Z A) := by first | omega | (rw [hMA]; exact mirT_end A (by omega) (by omega) hs (by omega) hi) | (rw [hMB]; exact mirT_end B (by omega) (by omega) hs (by omega) hi) | (rw [hMC]; exact mirT_end C (by omega) (by omega) hs (by omega) hi)
     have he1 : (MB : List Int) = (mirE 1 1 X Y Z B) := by first | omega | (rw [hMA]; exact mirT_end A (by omega) (by omega) hs (by omega) hi) | (rw [hMB]; exact mirT_end B (by omega) (by omega) hs (by omega) hi) | (rw [hMC]; exact mirT_end C (by omega) (by omega) hs (by omega) hi)
     have he2 : (MC : List Int) = (mirE 0 1 X Y Z C) := by first | omega | (rw [hMA]; exact mirT_end A (by omega) (by omega) hs (by omega) hi) | (rw [hMB]; exact mirT_end B (by omega) (by omega) hs (by omega) hi) | (rw [hMC]; exact mirT_end C (by omega) (by omega) hs (by omega) hi)
     refine endCast (v1 := .tuple #[.agg #[vN X, vN Y, vN Z, vS 3 A.length, vS 4 B.length, vS 5 C.length], .bool true]) (H1 := [nR A, nR B, nR C, nW MA, nW MB, nW MC]) (by first | rfl | ((try rw [← he0]); (try rw [← he1]); (try rw [← he2]); done) | (simp only [← he0, ← he1, ← he2]; done)) (by first | rfl | ((try rw [← he0]); (try rw [← he1]); (try rw [← he2]); done) | (simp only [← he0, ← he1, ← he2]; done)) ?_
     exact endF (Or.inr rfl) (l := [.agg #[vN X, vN Y, vN Z, vS 6 A.length, vS 7 B.length, vS 8 C.length], .bool true]) [0, 1, 2, 6, 7, 8] (by kernel_rfl) (by first | rfl | simp [packR, mpV, mpA, mpS, mpP, renId]) ⟨rrF (flatNums _ _ _ _) rfl, ⟨rrF (flatNums _ _ _ _) rfl, ⟨rrF (flatNums _ _ _ _) rfl, ⟨rrF (flatNums _ _ _ _) rfl, ⟨rrF (flatNums _ _ _ _) rfl, ⟨rrF (flatNums _ _ _ _) rfl, trivial⟩⟩⟩⟩⟩⟩ rfl rfl
    ·
     have h3k := h3
     (try simp only [bs0, bs1, bs2, bs3, beq_iff_eq, bne_iff_ne, beq_eq_false_iff_ne, bne_eq_false_iff_eq, ne_eq, bs4, bs5, bs6, bs7, bs8, bs9, bs10, bs11, ge_iff_le, gt_iff_lt] at h3)
     have hhas := has_cellOf hs (i := i) (by omega); have hh3 := (has3_iff (c := cellOf Y Z i)).1 hhas; simp only [cellOf] at hh3; have hmir := mir_has (d := 1) (c := cellOf Y Z i) hhas; have hm3 := has3_iff.1 hmir; simp only [mir, cellOf] at hm3; have q0 := two_lt hh3.2.1 hh3.2.2; have q1 := two_lt hh3.1 hh3.2.2; have q2 := two_lt hh3.1 hh3.2.1; have r0 := two_lt hm3.2.1 hm3.2.2; have r1 := two_lt hm3.1 hm3.2.2; have r2 := two_lt hm3.1 hm3.2.1
     refine cTrue (by kernel_rfl) ?_
     refine cSkip ?_
     refine kSeq ?_
     refine cSeq ?_
     refine cBlk ?_
     refine cSeq ?_
     refine cReg ?_
     refine segEndH [1, 2, 4, 6, 7, 8, 42, 43] (T1 := (mkT 75 [(1, vI 1), (2, vP 3 0), (4, vP 4 0), (6, vP 5 0), (7, vP 9 0), (8, vN i), (42, vN (X * Y * Z)), (43, vN i)])) (by kernel_rfl) ?_
     refine kSeq ?_
     refine cSeq ?_
     refine cReg ?_
     refine segH 2 (T1 := (mkT 75 [(1, vI 1), (2, vP 3 0), (4, vP 4 0), (6, vP 5 0), (7, vP 9 0), (8, vN i), (42, vN (X * Y * Z)), (43, vN i), (46, .agg #[vN X, vN Y, vN Z]), (47, vN i)])) (by kernel_rfl) ?_
     refine rCall (v := .agg #[vN (i / Z / Y), vN (i / Z % Y), vN (i % Z)]) (args := [.agg #[vN X, vN Y, vN Z], vN i]) (by kernel_rfl) rfl (by kernel_rfl) (Sound.lay0 [] (cellB X Y Z i (by first | assumption | omega | rfl | decide | exact HeapL.list _ _ _ _ | exact HeapL.nil _ _ _ | exact HeapL.all _ _ _ | (apply HeapL.lt64 <;> assumption) | (repeat' (first | assumption | apply or_lt64 | apply and_lt64 | apply andn_lt64 | apply pow_lt64 | (apply HeapL.lt64 <;> assumption)))) (by first | assumption | omega | rfl | decide | exact HeapL.list _ _ _ _ | exact HeapL.nil _ _ _ | exact HeapL.all _ _ _ | (apply HeapL.lt64 <;> assumption) | (repeat' (first | assumption | apply or_lt64 | apply and_lt64 | apply andn_lt64 | apply pow_lt64 | (apply HeapL.lt64 <;> assumption))))) trivial rfl trivial rfl (by first | rfl | simp [mpV, mpA, mpS, mpP, renId, shift]) (by first | rfl | simp [mpV, mpA, mpS, mpP, renId, shift])) ?_
     refine segEnd [1, 2, 4, 6, 7, 9, 42, 43] (T1 := (mkT 75 [(1, vI 1), (2, vP 3 0), (4, vP 4 0), (6, vP 5 0), (7, vP 9 0), (9, vP 10 0), (42, vN (X * Y * Z)), (43, vN i)])) (H1 := [nR A, nR B, nR C, rB [vN X, vN Y, vN Z, vS 0 A.length, vS 1 B.length, vS 2 C.length] 27, rB [vI 0, vI 0, vI 0, .slice none 0 0, .slice none 0 0, .slice none 0 0] 27, rB [vN X, vN Y, vN Z] 75, nW MA, nW MB, nW MC, rB [vN X, vN Y, vN Z, vS 6 A.length, vS 7 B.length, vS 8 C.length] 27, rB [vN (i / Z / Y), vN (i / Z % Y), vN (i % Z)] 74]) (by kernel_rfl) ?_
     refine kSeq ?_
     refine cSeq ?_
     refine cReg ?_
     refine segEndH [1, 2, 4, 6, 7, 9, 42, 43, 49] (T1 := (mkT 75 [(1, vI 1), (2, vP 3 0), (4, vP 4 0), (6, vP 5 0), (7, vP 9 0), (9, vP 10 0), (42, vN (X * Y * Z)), (43, vN i), (49, vI 0)])) (by kernel_rfl) ?_
     refine kSeq ?_
     refine cBlk ?_
     refine cLoop (fun mm T H => ∃ d : Nat, ∃ PA : List Int, ∃ PB : List Int, ∃ PC : List Int, (d ≤ 3) ∧ (PA = mirT 2 1 X Y Z A (i + (if 2 < d then 1 else 0))) ∧ (PB = mirT 1 1 X Y Z B (i + (if 1 < d then 1 else 0))) ∧ (PC = mirT 0 1 X Y Z C (i + (if 0 < d then 1 else 0))) ∧ mm = 3 - d ∧ T = (mkT 75 [(1, vI 1), (2, vP 3 0), (4, vP 4 0), (6, vP 5 0), (7, vP 9 0), (9, vP 10 0), (42, vN (X * Y * Z)), (43, vN i), (49, vN d)]) ∧ H = [nR A, nR B, nR C, rB [vN X, vN Y, vN Z, vS 0 A.length, vS 1 B.length, vS 2 C.length] 27, rB [vI 0, vI 0, vI 0, .slice none 0 0, .slice none 0 0, .slice none 0 0] 27, rB [vN X, vN Y, vN Z] 75, nW PA, nW PB, nW PC, rB [vN X, vN Y, vN Z, vS 6 A.length, vS 7 B.length, vS 8 C.length] 27, rB [vN (i / Z / Y), vN (i / Z % Y), vN (i % Z)] 74]) (3 - 0) (mkT 75 [(1, vI 1), (2, vP 3 0), (4, vP 4 0), (6, vP 5 0), (7, vP 9 0), (9, vP 10 0), (42, vN (X * Y * Z)), (43, vN i), (49, vI 0)]) [nR A, nR B, nR C, rB [vN X, vN Y, vN Z, vS 0 A.length, vS 1 B.length, vS 2 C.length] 27, rB [vI 0, vI 0, vI 0, .slice none 0 0, .slice none 0 0, .slice none 0 0] 27, rB [vN X, vN Y, vN Z] 75, nW MA, nW MB, nW MC, rB [vN X, vN Y, vN Z, vS 6 A.length, vS 7 B.length, vS 8 C.length] 27, rB [vN (i / Z / Y), vN (i / Z % Y), vN (i % Z)] 74] (wkSame [1, 2, 4, 6, 7, 9, 42, 43, 49] (by kernel_rfl)) ?_ ?_
     ·
      exact ⟨0, MA, MB, MC, (Nat.zero_le _), (hMA), (hMB), (hMC), rfl, rfl, rfl⟩
     ·
      rintro _ _ _ ⟨d, PA, PB, PC, hd, hPA, hPB, hPC, rfl, rfl, rfl⟩
      have hPlA : PA.length = X * Y := (by rw [hPA]; exact mirT_length 2 1 X Y Z A _); have hPlB : PB.length = X * Z := (by rw [hPB]; exact mirT_length 1 1 X Y Z B _); have hPlC : PC.length = Y * Z := (by rw [hPC]; exact mirT_length 0 1 X Y Z C _)
      have hcase : d = 0 ∨ d = 1 ∨ d = 2 ∨ d = 3 := by omega
      rcases hcase with rfl | rfl | rfl | rfl
      ·
       refine cSeq ?_
       refine cReg ?_
       refine segEndH [1, 2, 4, 6, 7, 9, 42, 43, 49, 50] (T1 := (mkT 75 [(1, vI 1), (2, vP 3 0), (4, vP 4 0), (6, vP 5 0), (7, vP 9 0), (9, vP 10 0), (42, vN (X * Y * Z)), (43, vN i), (49, vI 0), (50, .bool true)])) (by kernel_rfl) ?_
       refine kSeq ?_
       refine cSeq ?_
       refine cTrue (by kernel_rfl) ?_
       refine cSkip ?_
       refine kSeq ?_
       refine cSeq ?_
       refine cBlk ?_
       refine cSeq ?_
       refine cReg ?_
       refine segEndH [1, 2, 4, 6, 7, 9, 10, 42, 43, 49] (T1 := (mkT 75 [(1, vI 1), (2, vP 3 0), (4, vP 4 0), (6, vP 5 0), (7, vP 9 0), (9, vP 10 0), (10, vI 0), (42, vN (X * Y * Z)), (43, vN i), (49, vI 0)])) (by kernel_rfl) ?_
       refine kSeq ?_
       refine cRegW (N := 11) [⟨[], [], [9]⟩, ⟨[], [], []⟩, ⟨[], [], [6, 7, 8]⟩, ⟨[], [], [5]⟩, ⟨[], [], [5]⟩, ⟨[], [], [10]⟩, ⟨[], [], []⟩, ⟨[], [], []⟩, ⟨[], [], []⟩, ⟨[], [], []⟩, ⟨[], [], [3]⟩, ⟨[], [], []⟩, ⟨[], [], [0, 1, 2]⟩, ⟨[], [], [5]⟩, ⟨[], [], [10]⟩, ⟨[], [], []⟩, ⟨[], [], []⟩, ⟨[], [], []⟩, ⟨[], [], [2]⟩, ⟨[], [], []⟩, ⟨[], [8], []⟩] 0 [] (by rfl) (by rfl) (by kernel_rfl) (by kernel_rfl) (by kernel_rfl) ⟨nmsF (flatNums _ _ _ _), ⟨nmsF (flatNums _ _ _ _), ⟨nmsF (flatNums _ _ _ _), ⟨nmsX (by kernel_rfl), ⟨nmsX (by kernel_rfl), ⟨nmsX (by kernel_rfl), ⟨nmsF (flatNums _ _ _ _), ⟨nmsF (flatNums _ _ _ _), ⟨nmsF (flatNums _ _ _ _), ⟨nmsX (by kernel_rfl), ⟨nmsX (by kernel_rfl), trivial⟩⟩⟩⟩⟩⟩⟩⟩⟩⟩⟩ ?_
       refine segWH 2 (T1 := (mkT 75 [(1, vI 1), (2, vP 3 0), (4, vP 4 0), (6, vP 5 0), (7, vP 9 0), (9, vP 10 0), (10, vI 0), (42, vN (X * Y * Z)), (43, vN i), (49, vI 0), (52, .agg #[vN X, vN Y, vN Z, vS 6 A.length, vS 7 B.length, vS 8 C.length]), (53, vI 0)])) (by kernel_rfl) ?_
       refine rW (m := ⟨[], [], [6, 7, 8]⟩) (v := vS 8 C.length) rfl (by kernel_rfl) (stQ (args := [.agg #[vN X, vN Y, vN Z, vS 6 A.length, vS 7 B.length, vS 8 C.length], vI 0]) rfl (by kernel_rfl) (Any.lay0 [6, 7, 8] (shListG0 ((X : Nat) : Int) ((Y : Nat) : Int) ((Z : Nat) : Int) A.length B.length C.length PA PB PC) ⟨rdF true (flatNums _ _ _ _) rfl rfl, ⟨rdF true (flatNums _ _ _ _) rfl rfl, ⟨rdF true (flatNums _ _ _ _) rfl rfl, trivial⟩⟩⟩ rfl ⟨clF (flatNums _ _ _ _), ⟨clF (flatNums _ _ _ _), ⟨clF (flatNums _ _ _ _), trivial⟩⟩⟩ rfl (by first | rfl | simp [mpV, mpA, mpS, mpP, renId, shift]) rfl) rfl (by kernel_rfl) (by kernel_rfl)) (by kernel_rfl) nr0 ?_
       refine segWH 4 (T1 := (mkT 75 [(1, vI 1), (2, vP 3 0), (4, vP 4 0), (6, vP 5 0), (7, vP 9 0), (9, vP 10 0), (10, vI 0), (42, vN (X * Y * Z)), (43, vN i), (49, vI 0), (52, .agg #[vN X, vN Y, vN Z, vS 6 A.length, vS 7 B.length, vS 8 C.length]), (53, vI 0), (54, vS 8 C.length), (55, .agg #[vN X, vN Y, vN Z]), (56, .agg #[vN X, vN Y, vN Z]), (57, .agg #[vN (i / Z / Y), vN (i / Z % Y), vN (i % Z)]), (58, vI 1)])) (by kernel_rfl) ?_
       refine rW (m := ⟨[], [], []⟩) (v := .agg #[vN (i / Z / Y), vI (((Y : Nat) : Int) - 1 - ((i / Z % Y : Nat) : Int)), vN (i % Z)]) rfl (by kernel_rfl) (stQ (args := [.agg #[vN X, vN Y, vN Z], .agg #[vN (i / Z / Y), vN (i / Z % Y), vN (i % Z)], vI 1]) rfl (by kernel_rfl) (Any.lay0 [] (mirror1 X Y Z ((i / Z / Y : Nat) : Int) ((i / Z % Y : Nat) : Int) ((i % Z : Nat) : Int) (by first | assumption | omega | rfl | decide | exact HeapL.list _ _ _ _ | exact HeapL.nil _ _ _ | exact HeapL.all _ _ _ | (apply HeapL.lt64 <;> assumption) | (repeat' (first | assumption | apply or_lt64 | apply and_lt64 | apply andn_lt64 | apply pow_lt64 | (apply HeapL.lt64 <;> assumption)))) (by first | assumption | exact hhas | exact hmir)) trivial rfl trivial rfl (by first | rfl | simp [mpV, mpA, mpS, mpP, renId, shift]) (by first | rfl | simp [mpV, mpA, mpS, mpP, renId, shift])) rfl (by kernel_rfl) (by kernel_rfl)) (by kernel_rfl) nr0 ?_
       refine segWH 1 (T1 := (mkT 75 [(1, vI 1), (2, vP 3 0), (4, vP 4 0), (6, vP 5 0), (7, vP 9 0), (9, vP 10 0), (10, vI 0), (42, vN (X * Y * Z)), (43, vN i), (49, vI 0), (52, .agg #[vN X, vN Y, vN Z, vS 6 A.length, vS 7 B.length, vS 8 C.length]), (53, vI 0), (54, vS 8 C.length), (55, .agg #[vN X, vN Y, vN Z]), (56, .agg #[vN X, vN Y, vN Z]), (57, .agg #[vN (i / Z / Y), vN (i / Z % Y), vN (i % Z)]), (58, vI 1), (59, .agg #[vN (i / Z / Y), vI (((Y : Nat) : Int) - 1 - ((i / Z % Y : Nat) : Int)), vN (i % Z)]), (60, vI 0)])) (by kernel_rfl) ?_
       refine rW (m := ⟨[], [], []⟩) (v := vI ((((Y : Nat) : Int) - 1 - ((i / Z % Y : Nat) : Int)) * (Z : Int) + ((i % Z : Nat) : Int))) rfl (by kernel_rfl) (stQ (args := [.agg #[vN X, vN Y, vN Z], .agg #[vN (i / Z / Y), vI (((Y : Nat) : Int) - 1 - ((i / Z % Y : Nat) : Int)), vN (i % Z)], vI 0]) rfl (by kernel_rfl) (Any.lay0 [] (line0 X Y Z ((i / Z / Y : Nat) : Int) (((Y : Nat) : Int) - 1 - ((i / Z % Y : Nat) : Int)) ((i % Z : Nat) : Int) (by first | assumption | omega | rfl | decide | exact HeapL.list _ _ _ _ | exact HeapL.nil _ _ _ | exact HeapL.all _ _ _ | (apply HeapL.lt64 <;> assumption) | (repeat' (first | assumption | apply or_lt64 | apply and_lt64 | apply andn_lt64 | apply pow_lt64 | (apply HeapL.lt64 <;> assumption)))) (by first | assumption | exact hhas | exact hmir)) trivial rfl trivial rfl (by first | rfl | simp [mpV, mpA, mpS, mpP, renId, shift]) rfl) rfl (by kernel_rfl) (by kernel_rfl)) (by kernel_rfl) nr0 ?_
       refine segWH 2 (T1 := (mkT 75 [(1, vI 1), (2, vP 3 0), (4, vP 4 0), (6, vP 5 0), (7, vP 9 0), (9, vP 10 0), (10, vI 0), (42, vN (X * Y * Z)), (43, vN i), (49, vI 0), (52, .agg #[vN X, vN Y, vN Z, vS 6 A.length, vS 7 B.length, vS 8 C.length]), (53, vI 0), (54, vS 8 C.length), (55, .agg #[vN X, vN Y, vN Z]), (56, .agg #[vN X, vN Y, vN Z]), (57, .agg #[vN (i / Z / Y), vN (i / Z % Y), vN (i % Z)]), (58, vI 1), (59, .agg #[vN (i / Z / Y), vI (((Y : Nat) : Int) - 1 - ((i / Z % Y : Nat) : Int)), vN (i % Z)]), (60, vI 0), (61, vI ((((Y : Nat) : Int) - 1 - ((i / Z % Y : Nat) : Int)) * (Z : Int) + ((i % Z : Nat) : Int))), (62, .agg #[vN X, vN Y, vN Z, vS 0 A.length, vS 1 B.length, vS 2 C.length]), (63, vI 0)])) (by kernel_rfl) ?_
       refine rW (m := ⟨[], [], [0, 1, 2]⟩) (v := vS 2 C.length) rfl (by kernel_rfl) (stQ (args := [.agg #[vN X, vN Y, vN Z, vS 0 A.length, vS 1 B.length, vS 2 C.length], vI 0]) rfl (by kernel_rfl) (Any.lay0 [0, 1, 2] (shListG0 ((X : Nat) : Int) ((Y : Nat) : Int) ((Z : Nat) : Int) A.length B.length C.length A B C) ⟨rdF false (flatNums _ _ _ _) rfl rfl, ⟨rdF false (flatNums _ _ _ _) rfl rfl, ⟨rdF false (flatNums _ _ _ _) rfl rfl, trivial⟩⟩⟩ rfl ⟨clF (flatNums _ _ _ _), ⟨clF (flatNums _ _ _ _), ⟨clF (flatNums _ _ _ _), trivial⟩⟩⟩ rfl (by first | rfl | simp [mpV, mpA, mpS, mpP, renId, shift]) rfl) rfl (by kernel_rfl) (by kernel_rfl)) (by kernel_rfl) nr0 ?_
       refine segWH 3 (T1 := (mkT 75 [(1, vI 1), (2, vP 3 0), (4, vP 4 0), (6, vP 5 0), (7, vP 9 0), (9, vP 10 0), (10, vI 0), (42, vN (X * Y * Z)), (43, vN i), (49, vI 0), (52, .agg #[vN X, vN Y, vN Z, vS 6 A.length, vS 7 B.length, vS 8 C.length]), (53, vI 0), (54, vS 8 C.length), (55, .agg #[vN X, vN Y, vN Z]), (56, .agg #[vN X, vN Y, vN Z]), (57, .agg #[vN (i / Z / Y), vN (i / Z % Y), vN (i % Z)]), (58, vI 1), (59, .agg #[vN (i / Z / Y), vI (((Y : Nat) : Int) - 1 - ((i / Z % Y : Nat) : Int)), vN (i % Z)]), (60, vI 0), (61, vI ((((Y : Nat) : Int) - 1 - ((i / Z % Y : Nat) : Int)) * (Z : Int) + ((i % Z : Nat) : Int))), (62, .agg #[vN X, vN Y, vN Z, vS 0 A.length, vS 1 B.length, vS 2 C.length]), (63, vI 0), (64, vS 2 C.length), (65, .agg #[vN X, vN Y, vN Z]), (66, .agg #[vN (i / Z / Y), vN (i / Z % Y), vN (i % Z)]), (67, vI 0)])) (by kernel_rfl) ?_
       refine rW (m := ⟨[], [], []⟩) (v := vI (((i / Z % Y : Nat) : Int) * (Z : Int) + ((i % Z : Nat) : Int))) rfl (by kernel_rfl) (stQ (args := [.agg #[vN X, vN Y, vN Z], .agg #[vN (i / Z / Y), vN (i / Z % Y), vN (i % Z)], vI 0]) rfl (by kernel_rfl) (Any.lay0 [] (line0 X Y Z ((i / Z / Y : Nat) : Int) ((i / Z % Y : Nat) : Int) ((i % Z : Nat) : Int) (by first | assumption | omega | rfl | decide | exact HeapL.list _ _ _ _ | exact HeapL.nil _ _ _ | exact HeapL.all _ _ _ | (apply HeapL.lt64 <;> assumption) | (repeat' (first | assumption | apply or_lt64 | apply and_lt64 | apply andn_lt64 | apply pow_lt64 | (apply HeapL.lt64 <;> assumption)))) (by first | assumption | exact hhas | exact hmir)) trivial rfl trivial rfl (by first | rfl | simp [mpV, mpA, mpS, mpP, renId, shift]) rfl) rfl (by kernel_rfl) (by kernel_rfl)) (by kernel_rfl) nr0 ?_
       refine rW (m := ⟨[], [], []⟩) (v := vP 2 ((((i / Z % Y : Nat) : Int) * (Z : Int) + ((i % Z : Nat) : Int)).toNat)) rfl (by kernel_rfl) (stId (eIdxS (ad := ⟨2, 0, none⟩) (n := C.length) (m := 0) (k := .i64) (c := (((i / Z % Y : Nat) : Int) * (Z : Int) + ((i % Z : Nat) : Int))) (j := ((((i / Z % Y : Nat) : Int) * (Z : Int) + ((i % Z : Nat) : Int)).toNat)) (o := (((i / Z % Y : Nat) : Int) * (Z : Int) + ((i % Z : Nat) : Int)).toNat) (by kernel_rfl) (by kernel_rfl) ti22 ti3 (by omega) (by omega) (by simp)) rfl (by kernel_rfl) (by kernel_rfl) (by kernel_rfl)) (by kernel_rfl) nr0 ?_
       refine rW (m := ⟨[], [], [2]⟩) (v := vI (C.getD ((((i / Z % Y : Nat) : Int) * (Z : Int) + ((i % Z : Nat) : Int)).toNat) 0)) rfl (by kernel_rfl) (stId (eLdNum (ad := ⟨2, (((i / Z % Y : Nat) : Int) * (Z : Int) + ((i % Z : Nat) : Int)).toNat, none⟩) (r := ⟨nums C, 3, false, false⟩) (L := C) (j := ((((i / Z % Y : Nat) : Int) * (Z : Int) + ((i % Z : Nat) : Int)).toNat)) (by kernel_rfl) (by kernel_rfl) rfl (by first | rfl | omega) (by omega) ti3 rfl) rfl (by kernel_rfl) (by kernel_rfl) (by kernel_rfl)) (by kernel_rfl) nr0 ?_
       refine rW (m := ⟨[], [], []⟩) (v := vP 8 (((((Y : Nat) : Int) - 1 - ((i / Z % Y : Nat) : Int)) * (Z : Int) + ((i % Z : Nat) : Int)).toNat)) rfl (by kernel_rfl) (stId (eIdxS (ad := ⟨8, 0, none⟩) (n := C.length) (m := 0) (k := .i64) (c := ((((Y : Nat) : Int) - 1 - ((i / Z % Y : Nat) : Int)) * (Z : Int) + ((i % Z : Nat) : Int))) (j := (((((Y : Nat) : Int) - 1 - ((i / Z % Y : Nat) : Int)) * (Z : Int) + ((i % Z : Nat) : Int)).toNat)) (o := ((((Y : Nat) : Int) - 1 - ((i / Z % Y : Nat) : Int)) * (Z : Int) + ((i % Z : Nat) : Int)).toNat) (by kernel_rfl) (by kernel_rfl) ti22 ti3 (by omega) (by omega) (by simp)) rfl (by kernel_rfl) (by kernel_rfl) (by kernel_rfl)) (by kernel_rfl) nr0 ?_
       refine rW (m := ⟨[], [8], []⟩) (v := .tuple #[]) rfl (by kernel_rfl) (stSet (b := 8) (r := ⟨nums (PC.set (((((Y : Nat) : Int) - 1 - ((i / Z % Y : Nat) : Int)) * (Z : Int) + ((i % Z : Nat) : Int)).toNat) (C.getD ((((i / Z % Y : Nat) : Int) * (Z : Int) + ((i % Z : Nat) : Int)).toNat) 0)), 3, false, true⟩) (eStNum (b := 8) (o := (((((Y : Nat) : Int) - 1 - ((i / Z % Y : Nat) : Int)) * (Z : Int) + ((i % Z : Nat) : Int)).toNat)) (L := PC) (n := (C.getD ((((i / Z % Y : Nat) : Int) * (Z : Int) + ((i % Z : Nat) : Int)).toNat) 0)) (e := 3) (bx := false) (by kernel_rfl) (by kernel_rfl) (by kernel_rfl) (by omega) ti3 rfl (by rfl)) rfl (by kernel_rfl) (by kernel_rfl) (by kernel_rfl) (by kernel_rfl) (nmF (flatNums _ _ _ _)) (clF (flatNums _ _ _ _))) (by kernel_rfl) (NRs.all ⟨nrOf (by rfl) (nmF (flatNums _ _ _ _)), trivial⟩) ?_
       refine segEndW [1, 2, 4, 6, 7, 9, 42, 43, 49] (T1 := (mkT 75 [(1, vI 1), (2, vP 3 0), (4, vP 4 0), (6, vP 5 0), (7, vP 9 0), (9, vP 10 0), (42, vN (X * Y * Z)), (43, vN i), (49, vI 0)])) (H1 := [nR A, nR B, nR C, rB [vN X, vN Y, vN Z, vS 0 A.length, vS 1 B.length, vS 2 C.length] 27, rB [vI 0, vI 0, vI 0, .slice none 0 0, .slice none 0 0, .slice none 0 0] 27, rB [vN X, vN Y, vN Z] 75, nW PA, nW PB, some ⟨nums (PC.set (((((Y : Nat) : Int) - 1 - ((i / Z % Y : Nat) : Int)) * (Z : Int) + ((i % Z : Nat) : Int)).toNat) (C.getD ((((i / Z % Y : Nat) : Int) * (Z : Int) + ((i % Z : Nat) : Int)).toNat) 0)), 3, false, true⟩, rB [vN X, vN Y, vN Z, vS 6 A.length, vS 7 B.length, vS 8 C.length] 27, rB [vN (i / Z / Y), vN (i / Z % Y), vN (i % Z)] 74]) (by kernel_rfl) ?_
       refine kBlk ?_
       refine kSeq ?_
       refine cReg ?_
       refine segEndH [1, 2, 4, 6, 7, 9, 42, 43, 49] (T1 := (mkT 75 [(1, vI 1), (2, vP 3 0), (4, vP 4 0), (6, vP 5 0), (7, vP 9 0), (9, vP 10 0), (42, vN (X * Y * Z)), (43, vN i), (49, vI 1)])) (by kernel_rfl) ?_
       exact kLoop (3 - 1) (mkT 75 [(1, vI 1), (2, vP 3 0), (4, vP 4 0), (6, vP 5 0), (7, vP 9 0), (9, vP 10 0), (42, vN (X * Y * Z)), (43, vN i), (49, vI 1)]) [nR A, nR B, nR C, rB [vN X, vN Y, vN Z, vS 0 A.length, vS 1 B.length, vS 2 C.length] 27, rB [vI 0, vI 0, vI 0, .slice none 0 0, .slice none 0 0, .slice none 0 0] 27, rB [vN X, vN Y, vN Z] 75, nW PA, nW PB, some ⟨nums (PC.set (((((Y : Nat) : Int) - 1 - ((i / Z % Y : Nat) : Int)) * (Z : Int) + ((i % Z : Nat) : Int)).toNat) (C.getD ((((i / Z % Y : Nat) : Int) * (Z : Int) + ((i % Z : Nat) : Int)).toNat) 0)), 3, false, true⟩, rB [vN X, vN Y, vN Z, vS 6 A.length, vS 7 B.length, vS 8 C.length] 27, rB [vN (i / Z / Y), vN (i / Z % Y), vN (i % Z)] 74] (by omega) (wkSame [1, 2, 4, 6, 7, 9, 42, 43, 49] (by kernel_rfl)) ⟨1, PA, PB, (PC.set (((((Y : Nat) : Int) - 1 - ((i / Z % Y : Nat) : Int)) * (Z : Int) + ((i % Z : Nat) : Int)).toNat) (C.getD ((((i / Z % Y : Nat) : Int) * (Z : Int) + ((i % Z : Nat) : Int)).toNat) 0)), (by omega), (hPA), (hPB), (mirT_step 0 1 X Y Z C i hPC rfl rfl), rfl, rfl, rfl⟩
      ·
       refine cSeq ?_
       refine cReg ?_
       refine segEndH [1, 2, 4, 6, 7, 9, 42, 43, 49, 50] (T1 := (mkT 75 [(1, vI 1), (2, vP 3 0), (4, vP 4 0), (6, vP 5 0), (7, vP 9 0), (9, vP 10 0), (42, vN (X * Y * Z)), (43, vN i), (49, vI 1), (50, .bool true)])) (by kernel_rfl) ?_
       refine kSeq ?_
       refine cSeq ?_
       refine cTrue (by kernel_rfl) ?_
       refine cSkip ?_
       refine kSeq ?_
       refine cSeq ?_
       refine cBlk ?_
       refine cSeq ?_
       refine cReg ?_
       refine segEndH [1, 2, 4, 6, 7, 9, 10, 42, 43, 49] (T1 := (mkT 75 [(1, vI 1), (2, vP 3 0), (4, vP 4 0), (6, vP 5 0), (7, vP 9 0), (9, vP 10 0), (10, vI 1), (42, vN (X * Y * Z)), (43, vN i), (49, vI 1)])) (by kernel_rfl) ?_
       refine kSeq ?_
       refine cRegW (N := 11) [⟨[], [], [9]⟩, ⟨[], [], []⟩, ⟨[], [], [6, 7, 8]⟩, ⟨[], [], [5]⟩, ⟨[], [], [5]⟩, ⟨[], [], [10]⟩, ⟨[], [], []⟩, ⟨[], [], []⟩, ⟨[], [], []⟩, ⟨[], [], []⟩, ⟨[], [], [3]⟩, ⟨[], [], []⟩, ⟨[], [], [0, 1, 2]⟩, ⟨[], [], [5]⟩, ⟨[], [], [10]⟩, ⟨[], [], []⟩, ⟨[], [], []⟩, ⟨[], [], []⟩, ⟨[], [], [1]⟩, ⟨[], [], []⟩, ⟨[], [7], []⟩] 0 [] (by rfl) (by rfl) (by kernel_rfl) (by kernel_rfl) (by kernel_rfl) ⟨nmsF (flatNums _ _ _ _), ⟨nmsF (flatNums _ _ _ _), ⟨nmsF (flatNums _ _ _ _), ⟨nmsX (by kernel_rfl), ⟨nmsX (by kernel_rfl), ⟨nmsX (by kernel_rfl), ⟨nmsF (flatNums _ _ _ _), ⟨nmsF (flatNums _ _ _ _), ⟨nmsF (flatNums _ _ _ _), ⟨nmsX (by kernel_rfl), ⟨nmsX (by kernel_rfl), trivial⟩⟩⟩⟩⟩⟩⟩⟩⟩⟩⟩ ?_
       refine segWH 2 (T1 := (mkT 75 [(1, vI 1), (2, vP 3 0), (4, vP 4 0), (6, vP 5 0), (7, vP 9 0), (9, vP 10 0), (10, vI 1), (42, vN (X * Y * Z)), (43, vN i), (49, vI 1), (52, .agg #[vN X, vN Y, vN Z, vS 6 A.length, vS 7 B.length, vS 8 C.length]), (53, vI 1)])) (by kernel_rfl) ?_
       refine rW (m := ⟨[], [], [6, 7, 8]⟩) (v := vS 7 B.length) rfl (by kernel_rfl) (stQ (args := [.agg #[vN X, vN Y, vN Z, vS 6 A.length, vS 7 B.length, vS 8 C.length], vI 1]) rfl (by kernel_rfl) (Any.lay0 [6, 7, 8] (shListG1 ((X : Nat) : Int) ((Y : Nat) : Int) ((Z : Nat) : Int) A.length B.length C.length PA PB PC) ⟨rdF true (flatNums _ _ _ _) rfl rfl, ⟨rdF true (flatNums _ _ _ _) rfl rfl, ⟨rdF true (flatNums _ _ _ _) rfl rfl, trivial⟩⟩⟩ rfl ⟨clF (flatNums _ _ _ _), ⟨clF (flatNums _ _ _ _), ⟨clF (flatNums _ _ _ _), trivial⟩⟩⟩ rfl (by first | rfl | simp [mpV, mpA, mpS, mpP, renId, shift]) rfl) rfl (by kernel_rfl) (by kernel_rfl)) (by kernel_rfl) nr0 ?_
       refine segWH 4 (T1 := (mkT 75 [(1, vI 1), (2, vP 3 0), (4, vP 4 0), (6, vP 5 0), (7, vP 9 0), (9, vP 10 0), (10, vI 1), (42, vN (X * Y * Z)), (43, vN i), (49, vI 1), (52, .agg #[vN X, vN Y, vN Z, vS 6 A.length, vS 7 B.length, vS 8 C.length]), (53, vI 1), (54, vS 7 B.length), (55, .agg #[vN X, vN Y, vN Z]), (56, .agg #[vN X, vN Y, vN Z]), (57, .agg #[vN (i / Z / Y), vN (i / Z % Y), vN (i % Z)]), (58, vI 1)])) (by kernel_rfl) ?_
       refine rW (m := ⟨[], [], []⟩) (v := .agg #[vN (i / Z / Y), vI (((Y : Nat) : Int) - 1 - ((i / Z % Y : Nat) : Int)), vN (i % Z)]) rfl (by kernel_rfl) (stQ (args := [.agg #[vN X, vN Y, vN Z], .agg #[vN (i / Z / Y), vN (i / Z % Y), vN (i % Z)], vI 1]) rfl (by kernel_rfl) (Any.lay0 [] (mirror1 X Y Z ((i / Z / Y : Nat) : Int) ((i / Z % Y : Nat) : Int) ((i % Z : Nat) : Int) (by first | assumption | omega | rfl | decide | exact HeapL.list _ _ _ _ | exact HeapL.nil _ _ _ | exact HeapL.all _ _ _ | (apply HeapL.lt64 <;> assumption) | (repeat' (first | assumption | apply or_lt64 | apply and_lt64 | apply andn_lt64 | apply pow_lt64 | (apply HeapL.lt64 <;> assumption)))) (by first | assumption | exact hhas | exact hmir)) trivial rfl trivial rfl (by first | rfl | simp [mpV, mpA, mpS, mpP, renId, shift]) (by first | rfl | simp [mpV, mpA, mpS, mpP, renId, shift])) rfl (by kernel_rfl) (by kernel_rfl)) (by kernel_rfl) nr0 ?_
       refine segWH 1 (T1 := (mkT 75 [(1, vI 1), (2, vP 3 0), (4, vP 4 0), (6, vP 5 0), (7, vP 9 0), (9, vP 10 0), (10, vI 1), (42, vN (X * Y * Z)), (43, vN i), (49, vI 1), (52, .agg #[vN X, vN Y, vN Z, vS 6 A.length, vS 7 B.length, vS 8 C.length]), (53, vI 1), (54, vS 7 B.length), (55, .agg #[vN X, vN Y, vN Z]), (56, .agg #[vN X, vN Y, vN Z]), (57, .agg #[vN (i / Z / Y), vN (i / Z % Y), vN (i % Z)]), (58, vI 1), (59, .agg #[vN (i / Z / Y), vI (((Y : Nat) : Int) - 1 - ((i / Z % Y : Nat) : Int)), vN (i % Z)]), (60, vI 1)])) (by kernel_rfl) ?_
       refine rW (m := ⟨[], [], []⟩) (v := vI (((i / Z / Y : Nat) : Int) * (Z : Int) + ((i % Z : Nat) : Int))) rfl (by kernel_rfl) (stQ (args := [.agg #[vN X, vN Y, vN Z], .agg #[vN (i / Z / Y), vI (((Y : Nat) : Int) - 1 - ((i / Z % Y : Nat) : Int)), vN (i % Z)], vI 1]) rfl (by kernel_rfl) (Any.lay0 [] (line1 X Y Z ((i / Z / Y : Nat) : Int) (((Y : Nat) : Int) - 1 - ((i / Z % Y : Nat) : Int)) ((i % Z : Nat) : Int) (by first | assumption | omega | rfl | decide | exact HeapL.list _ _ _ _ | exact HeapL.nil _ _ _ | exact HeapL.all _ _ _ | (apply HeapL.lt64 <;> assumption) | (repeat' (first | assumption | apply or_lt64 | apply and_lt64 | apply andn_lt64 | apply pow_lt64 | (apply HeapL.lt64 <;> assumption)))) (by first | assumption | exact hhas | exact hmir)) trivial rfl trivial rfl (by first | rfl | simp [mpV, mpA, mpS, mpP, renId, shift]) rfl) rfl (by kernel_rfl) (by kernel_rfl)) (by kernel_rfl) nr0 ?_
       refine segWH 2 (T1 := (mkT 75 [(1, vI 1), (2, vP 3 0), (4, vP 4 0), (6, vP 5 0), (7, vP 9 0), (9, vP 10 0), (10, vI 1), (42, vN (X * Y * Z)), (43, vN i), (49, vI 1), (52, .agg #[vN X, vN Y, vN Z, vS 6 A.length, vS 7 B.length, vS 8 C.length]), (53, vI 1), (54, vS 7 B.length), (55, .agg #[vN X, vN Y, vN Z]), (56, .agg #[vN X, vN Y, vN Z]), (57, .agg #[vN (i / Z / Y), vN (i / Z % Y), vN (i % Z)]), (58, vI 1), (59, .agg #[vN (i / Z / Y), vI (((Y : Nat) : Int) - 1 - ((i / Z % Y : Nat) : Int)), vN (i % Z)]), (60, vI 1), (61, vI (((i / Z / Y : Nat) : Int) * (Z : Int) + ((i % Z : Nat) : Int))), (62, .agg #[vN X, vN Y, vN Z, vS 0 A.length, vS 1 B.length, vS 2 C.length]), (63, vI 1)])) (by kernel_rfl) ?_
       refine rW (m := ⟨[], [], [0, 1, 2]⟩) (v := vS 1 B.length) rfl (by kernel_rfl) (stQ (args := [.agg #[vN X, vN Y, vN Z, vS 0 A.length, vS 1 B.length, vS 2 C.length], vI 1]) rfl (by kernel_rfl) (Any.lay0 [0, 1, 2] (shListG1 ((X : Nat) : Int) ((Y : Nat) : Int) ((Z : Nat) : Int) A.length B.length C.length A B C) ⟨rdF false (flatNums _ _ _ _) rfl rfl, ⟨rdF false (flatNums _ _ _ _) rfl rfl, ⟨rdF false (flatNums _ _ _ _) rfl rfl, trivial⟩⟩⟩ rfl ⟨clF (flatNums _ _ _ _), ⟨clF (flatNums _ _ _ _), ⟨clF (flatNums _ _ _ _), trivial⟩⟩⟩ rfl (by first | rfl | simp [mpV, mpA, mpS, mpP, renId, shift]) rfl) rfl (by kernel_rfl) (by kernel_rfl)) (by kernel_rfl) nr0 ?_
       refine segWH 3 (T1 := (mkT 75 [(1, vI 1), (2, vP 3 0), (4, vP 4 0), (6, vP 5 0), (7, vP 9 0), (9, vP 10 0), (10, vI 1), (42, vN (X * Y * Z)), (43, vN i), (49, vI 1), (52, .agg #[vN X, vN Y, vN Z, vS 6 A.length, vS 7 B.length, vS 8 C.length]), (53, vI 1), (54, vS 7 B.length), (55, .agg #[vN X, vN Y, vN Z]), (56, .agg #[vN X, vN Y, vN Z]), (57, .agg #[vN (i / Z / Y), vN (i / Z % Y), vN (i % Z)]), (58, vI 1), (59, .agg #[vN (i / Z / Y), vI (((Y : Nat) : Int) - 1 - ((i / Z % Y : Nat) : Int)), vN (i % Z)]), (60, vI 1), (61, vI (((i / Z / Y : Nat) : Int) * (Z : Int) + ((i % Z : Nat) : Int))), (62, .agg #[vN X, vN Y, vN Z, vS 0 A.length, vS 1 B.length, vS 2 C.length]), (63, vI 1), (64, vS 1 B.length), (65, .agg #[vN X, vN Y, vN Z]), (66, .agg #[vN (i / Z / Y), vN (i / Z % Y), vN (i % Z)]), (67, vI 1)])) (by kernel_rfl) ?_
       refine rW (m := ⟨[], [], []⟩) (v := vI (((i / Z / Y : Nat) : Int) * (Z : Int) + ((i % Z : Nat) : Int))) rfl (by kernel_rfl) (stQ (args := [.agg #[vN X, vN Y, vN Z], .agg #[vN (i / Z / Y), vN (i / Z % Y), vN (i % Z)], vI 1]) rfl (by kernel_rfl) (Any.lay0 [] (line1 X Y Z ((i / Z / Y : Nat) : Int) ((i / Z % Y : Nat) : Int) ((i % Z : Nat) : Int) (by first | assumption | omega | rfl | decide | exact HeapL.list _ _ _ _ | exact HeapL.nil _ _ _ | exact HeapL.all _ _ _ | (apply HeapL.lt64 <;> assumption) | (repeat' (first | assumption | apply or_lt64 | apply and_lt64 | apply andn_lt64 | apply pow_lt64 | (apply HeapL.lt64 <;> assumption)))) (by first | assumption | exact hhas | exact hmir)) trivial rfl trivial rfl (by first | rfl | simp [mpV, mpA, mpS, mpP, renId, shift]) rfl) rfl (by kernel_rfl) (by kernel_rfl)) (by kernel_rfl) nr0 ?_
       refine rW (m := ⟨[], [], []⟩) (v := vP 1 ((((i / Z / Y : Nat) : Int) * (Z : Int) + ((i % Z : Nat) : Int)).toNat)) rfl (by kernel_rfl) (stId (eIdxS (ad := ⟨1, 0, none⟩) (n := B.length) (m := 0) (k := .i64) (c := (((i / Z / Y : Nat) : Int) * (Z : Int) + ((i % Z : Nat) : Int))) (j := ((((i / Z / Y : Nat) : Int) * (Z : Int) + ((i % Z : Nat) : Int)).toNat)) (o := (((i / Z / Y : Nat) : Int) * (Z : Int) + ((i % Z : Nat) : Int)).toNat) (by kernel_rfl) (by kernel_rfl) ti22 ti3 (by omega) (by omega) (by simp)) rfl (by kernel_rfl) (by kernel_rfl) (by kernel_rfl)) (by kernel_rfl) nr0 ?_
       refine rW (m := ⟨[], [], [1]⟩) (v := vI (B.getD ((((i / Z / Y : Nat) : Int) * (Z : Int) + ((i % Z : Nat) : Int)).toNat) 0)) rfl (by kernel_rfl) (stId (eLdNum (ad := ⟨1, (((i / Z / Y : Nat) : Int) * (Z : Int) + ((i % Z : Nat) : Int)).toNat, none⟩) (r := ⟨nums B, 3, false, false⟩) (L := B) (j := ((((i / Z / Y : Nat) : Int) * (Z : Int) + ((i % Z : Nat) : Int)).toNat)) (by kernel_rfl) (by kernel_rfl) rfl (by first | rfl | omega) (by omega) ti3 rfl) rfl (by kernel_rfl) (by kernel_rfl) (by kernel_rfl)) (by kernel_rfl) nr0 ?_
       refine rW (m := ⟨[], [], []⟩) (v := vP 7 ((((i / Z / Y : Nat) : Int) * (Z : Int) + ((i % Z : Nat) : Int)).toNat)) rfl (by kernel_rfl) (stId (eIdxS (ad := ⟨7, 0, none⟩) (n := B.length) (m := 0) (k := .i64) (c := (((i / Z / Y : Nat) : Int) * (Z : Int) + ((i % Z : Nat) : Int))) (j := ((((i / Z / Y : Nat) : Int) * (Z : Int) + ((i % Z : Nat) : Int)).toNat)) (o := (((i / Z / Y : Nat) : Int) * (Z : Int) + ((i % Z : Nat) : Int)).toNat) (by kernel_rfl) (by kernel_rfl) ti22 ti3 (by omega) (by omega) (by simp)) rfl (by kernel_rfl) (by kernel_rfl) (by kernel_rfl)) (by kernel_rfl) nr0 ?_
       refine rW (m := ⟨[], [7], []⟩) (v := .tuple #[]) rfl (by kernel_rfl) (stSet (b := 7) (r := ⟨nums (PB.set ((((i / Z / Y : Nat) : Int) * (Z : Int) + ((i % Z : Nat) : Int)).toNat) (B.getD ((((i / Z / Y : Nat) : Int) * (Z : Int) + ((i % Z : Nat) : Int)).toNat) 0)), 3, false, true⟩) (eStNum (b := 7) (o := ((((i / Z / Y : Nat) : Int) * (Z : Int) + ((i % Z : Nat) : Int)).toNat)) (L := PB) (n := (B.getD ((((i / Z / Y : Nat) : Int) * (Z : Int) + ((i % Z : Nat) : Int)).toNat) 0)) (e := 3) (bx := false) (by kernel_rfl) (by kernel_rfl) (by kernel_rfl) (by omega) ti3 rfl (by rfl)) rfl (by kernel_rfl) (by kernel_rfl) (by kernel_rfl) (by kernel_rfl) (nmF (flatNums _ _ _ _)) (clF (flatNums _ _ _ _))) (by kernel_rfl) (NRs.all ⟨nrOf (by rfl) (nmF (flatNums _ _ _ _)), trivial⟩) ?_
       refine segEndW [1, 2, 4, 6, 7, 9, 42, 43, 49] (T1 := (mkT 75 [(1, vI 1), (2, vP 3 0), (4, vP 4 0), (6, vP 5 0), (7, vP 9 0), (9, vP 10 0), (42, vN (X * Y * Z)), (43, vN i), (49, vI 1)])) (H1 := [nR A, nR B, nR C, rB [vN X, vN Y, vN Z, vS 0 A.length, vS 1 B.length, vS 2 C.length] 27, rB [vI 0, vI 0, vI 0, .slice none 0 0, .slice none 0 0, .slice none 0 0] 27, rB [vN X, vN Y, vN Z] 75, nW PA, some ⟨nums (PB.set ((((i / Z / Y : Nat) : Int) * (Z : Int) + ((i % Z : Nat) : Int)).toNat) (B.getD ((((i / Z / Y : Nat) : Int) * (Z : Int) + ((i % Z : Nat) : Int)).toNat) 0)), 3, false, true⟩, nW PC, rB [vN X, vN Y, vN Z, vS 6 A.length, vS 7 B.length, vS 8 C.length] 27, rB [vN (i / Z / Y), vN (i / Z % Y), vN (i % Z)] 74]) (by kernel_rfl) ?_
       refine kBlk ?_
       refine kSeq ?_
       refine cReg ?_
       refine segEndH [1, 2, 4, 6, 7, 9, 42, 43, 49] (T1 := (mkT 75 [(1, vI 1), (2, vP 3 0), (4, vP 4 0), (6, vP 5 0), (7, vP 9 0), (9, vP 10 0), (42, vN (X * Y * Z)), (43, vN i), (49, vI 2)])) (by kernel_rfl) ?_
       exact kLoop (3 - 2) (mkT 75 [(1, vI 1), (2, vP 3 0), (4, vP 4 0), (6, vP 5 0), (7, vP 9 0), (9, vP 10 0), (42, vN (X * Y * Z)), (43, vN i), (49, vI 2)]) [nR A, nR B, nR C, rB [vN X, vN Y, vN Z, vS 0 A.length, vS 1 B.length, vS 2 C.length] 27, rB [vI 0, vI 0, vI 0, .slice none 0 0, .slice none 0 0, .slice none 0 0] 27, rB [vN X, vN Y, vN Z] 75, nW PA, some ⟨nums (PB.set ((((i / Z / Y : Nat) : Int) * (Z : Int) + ((i % Z : Nat) : Int)).toNat) (B.getD ((((i / Z / Y : Nat) : Int) * (Z : Int) + ((i % Z : Nat) : Int)).toNat) 0)), 3, false, true⟩, nW PC, rB [vN X, vN Y, vN Z, vS 6 A.length, vS 7 B.length, vS 8 C.length] 27, rB [vN (i / Z / Y), vN (i / Z % Y), vN (i % Z)] 74] (by omega) (wkSame [1, 2, 4, 6, 7, 9, 42, 43, 49] (by kernel_rfl)) ⟨2, PA, (PB.set ((((i / Z / Y : Nat) : Int) * (Z : Int) + ((i % Z : Nat) : Int)).toNat) (B.getD ((((i / Z / Y : Nat) : Int) * (Z : Int) + ((i % Z : Nat) : Int)).toNat) 0)), PC, (by omega), (hPA), (mirT_step 1 1 X Y Z B i hPB rfl rfl), (hPC), rfl, rfl, rfl⟩
      ·
       refine cSeq ?_
       refine cReg ?_
       refine segEndH [1, 2, 4, 6, 7, 9, 42, 43, 49, 50] (T1 := (mkT 75 [(1, vI 1), (2, vP 3 0), (4, vP 4 0), (6, vP 5 0), (7, vP 9 0), (9, vP 10 0), (42, vN (X * Y * Z)), (43, vN i), (49, vI 2), (50, .bool true)])) (by kernel_rfl) ?_
       refine kSeq ?_
       refine cSeq ?_
       refine cTrue (by kernel_rfl) ?_
       refine cSkip ?_
       refine kSeq ?_
       refine cSeq ?_
       refine cBlk ?_
       refine cSeq ?_
       refine cReg ?_
       refine segEndH [1, 2, 4, 6, 7, 9, 10, 42, 43, 49] (T1 := (mkT 75 [(1, vI 1), (2, vP 3 0), (4, vP 4 0), (6, vP 5 0), (7, vP 9 0), (9, vP 10 0), (10, vI 2), (42, vN (X * Y * Z)), (43, vN i), (49, vI 2)])) (by kernel_rfl) ?_
       refine kSeq ?_
       refine cRegW (N := 11) [⟨[], [], [9]⟩, ⟨[], [], []⟩, ⟨[], [], [6, 7, 8]⟩, ⟨[], [], [5]⟩, ⟨[], [], [5]⟩, ⟨[], [], [10]⟩, ⟨[], [], []⟩, ⟨[], [], []⟩, ⟨[], [], []⟩, ⟨[], [], []⟩, ⟨[], [], [3]⟩, ⟨[], [], []⟩, ⟨[], [], [0, 1, 2]⟩, ⟨[], [], [5]⟩, ⟨[], [], [10]⟩, ⟨[], [], []⟩, ⟨[], [], []⟩, ⟨[], [], []⟩, ⟨[], [], [0]⟩, ⟨[], [], []⟩, ⟨[], [6], []⟩] 0 [] (by rfl) (by rfl) (by kernel_rfl) (by kernel_rfl) (by kernel_rfl) ⟨nmsF (flatNums _ _ _ _), ⟨nmsF (flatNums _ _ _ _), ⟨nmsF (flatNums _ _ _ _), ⟨nmsX (by kernel_rfl), ⟨nmsX (by kernel_rfl), ⟨nmsX (by kernel_rfl), ⟨nmsF (flatNums _ _ _ _), ⟨nmsF (flatNums _ _ _ _), ⟨nmsF (flatNums _ _ _ _), ⟨nmsX (by kernel_rfl), ⟨nmsX (by kernel_rfl), trivial⟩⟩⟩⟩⟩⟩⟩⟩⟩⟩⟩ ?_
       refine segWH 2 (T1 := (mkT 75 [(1, vI 1), (2, vP 3 0), (4, vP 4 0), (6, vP 5 0), (7, vP 9 0), (9, vP 10 0), (10, vI 2), (42, vN (X * Y * Z)), (43, vN i), (49, vI 2), (52, .agg #[vN X, vN Y, vN Z, vS 6 A.length, vS 7 B.length, vS 8 C.length]), (53, vI 2)])) (by kernel_rfl) ?_
       refine rW (m := ⟨[], [], [6, 7, 8]⟩) (v := vS 6 A.length) rfl (by kernel_rfl) (stQ (args := [.agg #[vN X, vN Y, vN Z, vS 6 A.length, vS 7 B.length, vS 8 C.length], vI 2]) rfl (by kernel_rfl) (Any.lay0 [6, 7, 8] (shListG2 ((X : Nat) : Int) ((Y : Nat) : Int) ((Z : Nat) : Int) A.length B.length C.length PA PB PC) ⟨rdF true (flatNums _ _ _ _) rfl rfl, ⟨rdF true (flatNums _ _ _ _) rfl rfl, ⟨rdF true (flatNums _ _ _ _) rfl rfl, trivial⟩⟩⟩ rfl ⟨clF (flatNums _ _ _ _), ⟨clF (flatNums _ _ _ _), ⟨clF (flatNums _ _ _ _), trivial⟩⟩⟩ rfl (by first | rfl | simp [mpV, mpA, mpS, mpP, renId, shift]) rfl) rfl (by kernel_rfl) (by kernel_rfl)) (by kernel_rfl) nr0 ?_
       refine segWH 4 (T1 := (mkT 75 [(1, vI 1), (2, vP 3 0), (4, vP 4 0), (6, vP 5 0), (7, vP 9 0), (9, vP 10 0), (10, vI 2), (42, vN (X * Y * Z)), (43, vN i), (49, vI 2), (52, .agg #[vN X, vN Y, vN Z, vS 6 A.length, vS 7 B.length, vS 8 C.length]), (53, vI 2), (54, vS 6 A.length), (55, .agg #[vN X, vN Y, vN Z]), (56, .agg #[vN X, vN Y, vN Z]), (57, .agg #[vN (i / Z / Y), vN (i / Z % Y), vN (i % Z)]), (58, vI 1)])) (by kernel_rfl) ?_
       refine rW (m := ⟨[], [], []⟩) (v := .agg #[vN (i / Z / Y), vI (((Y : Nat) : Int) - 1 - ((i / Z % Y : Nat) : Int)), vN (i % Z)]) rfl (by kernel_rfl) (stQ (args := [.agg #[vN X, vN Y, vN Z], .agg #[vN (i / Z / Y), vN (i / Z % Y), vN (i % Z)], vI 1]) rfl (by kernel_rfl) (Any.lay0 [] (mirror1 X Y Z ((i / Z / Y : Nat) : Int) ((i / Z % Y : Nat) : Int) ((i % Z : Nat) : Int) (by first | assumption | omega | rfl | decide | exact HeapL.list _ _ _ _ | exact HeapL.nil _ _ _ | exact HeapL.all _ _ _ | (apply HeapL.lt64 <;> assumption) | (repeat' (first | assumption | apply or_lt64 | apply and_lt64 | apply andn_lt64 | apply pow_lt64 | (apply HeapL.lt64 <;> assumption)))) (by first | assumption | exact hhas | exact hmir)) trivial rfl trivial rfl (by first | rfl | simp [mpV, mpA, mpS, mpP, renId, shift]) (by first | rfl | simp [mpV, mpA, mpS, mpP, renId, shift])) rfl (by kernel_rfl) (by kernel_rfl)) (by kernel_rfl) nr0 ?_
       refine segWH 1 (T1 := (mkT 75 [(1, vI 1), (2, vP 3 0), (4, vP 4 0), (6, vP 5 0), (7, vP 9 0), (9, vP 10 0), (10, vI 2), (42, vN (X * Y * Z)), (43, vN i), (49, vI 2), (52, .agg #[vN X, vN Y, vN Z, vS 6 A.length, vS 7 B.length, vS 8 C.length]), (53, vI 2), (54, vS 6 A.length), (55, .agg #[vN X, vN Y, vN Z]), (56, .agg #[vN X, vN Y, vN Z]), (57, .agg #[vN (i / Z / Y), vN (i / Z % Y), vN (i % Z)]), (58, vI 1), (59, .agg #[vN (i / Z / Y), vI (((Y : Nat) : Int) - 1 - ((i / Z % Y : Nat) : Int)), vN (i % Z)]), (60, vI 2)])) (by kernel_rfl) ?_
       refine rW (m := ⟨[], [], []⟩) (v := vI (((i / Z / Y : Nat) : Int) * (Y : Int) + (((Y : Nat) : Int) - 1 - ((i / Z % Y : Nat) : Int)))) rfl (by kernel_rfl) (stQ (args := [.agg #[vN X, vN Y, vN Z], .agg #[vN (i / Z / Y), vI (((Y : Nat) : Int) - 1 - ((i / Z % Y : Nat) : Int)), vN (i % Z)], vI 2]) rfl (by kernel_rfl) (Any.lay0 [] (line2 X Y Z ((i / Z / Y : Nat) : Int) (((Y : Nat) : Int) - 1 - ((i / Z % Y : Nat) : Int)) ((i % Z : Nat) : Int) (by first | assumption | omega | rfl | decide | exact HeapL.list _ _ _ _ | exact HeapL.nil _ _ _ | exact HeapL.all _ _ _ | (apply HeapL.lt64 <;> assumption) | (repeat' (first | assumption | apply or_lt64 | apply and_lt64 | apply andn_lt64 | apply pow_lt64 | (apply HeapL.lt64 <;> assumption)))) (by first | assumption | exact hhas | exact hmir)) trivial rfl trivial rfl (by first | rfl | simp [mpV, mpA, mpS, mpP, renId, shift]) rfl) rfl (by kernel_rfl) (by kernel_rfl)) (by kernel_rfl) nr0 ?_
       refine segWH 2 (T1 := (mkT 75 [(1, vI 1), (2, vP 3 0), (4, vP 4 0), (6, vP 5 0), (7, vP 9 0), (9, vP 10 0), (10, vI 2), (42, vN (X * Y * Z)), (43, vN i), (49, vI 2), (52, .agg #[vN X, vN Y, vN Z, vS 6 A.length, vS 7 B.length, vS 8 C.length]), (53, vI 2), (54, vS 6 A.length), (55, .agg #[vN X, vN Y, vN Z]), (56, .agg #[vN X, vN Y, vN Z]), (57, .agg #[vN (i / Z / Y), vN (i / Z % Y), vN (i % Z)]), (58, vI 1), (59, .agg #[vN (i / Z / Y), vI (((Y : Nat) : Int) - 1 - ((i / Z % Y : Nat) : Int)), vN (i % Z)]), (60, vI 2), (61, vI (((i / Z / Y : Nat) : Int) * (Y : Int) + (((Y : Nat) : Int) - 1 - ((i / Z % Y : Nat) : Int)))), (62, .agg #[vN X, vN Y, vN Z, vS 0 A.length, vS 1 B.length, vS 2 C.length]), (63, vI 2)])) (by kernel_rfl) ?_
       refine rW (m := ⟨[], [], [0, 1, 2]⟩) (v := vS 0 A.length) rfl (by kernel_rfl) (stQ (args := [.agg #[vN X, vN Y, vN Z, vS 0 A.length, vS 1 B.length, vS 2 C.length], vI 2]) rfl (by kernel_rfl) (Any.lay0 [0, 1, 2] (shListG2 ((X : Nat) : Int) ((Y : Nat) : Int) ((Z : Nat) : Int) A.length B.length C.length A B C) ⟨rdF false (flatNums _ _ _ _) rfl rfl, ⟨rdF false (flatNums _ _ _ _) rfl rfl, ⟨rdF false (flatNums _ _ _ _) rfl rfl, trivial⟩⟩⟩ rfl ⟨clF (flatNums _ _ _ _), ⟨clF (flatNums _ _ _ _), ⟨clF (flatNums _ _ _ _), trivial⟩⟩⟩ rfl (by first | rfl | simp [mpV, mpA, mpS, mpP, renId, shift]) rfl) rfl (by kernel_rfl) (by kernel_rfl)) (by kernel_rfl) nr0 ?_
       refine segWH 3 (T1 := (mkT 75 [(1, vI 1), (2, vP 3 0), (4, vP 4 0), (6, vP 5 0), (7, vP 9 0), (9, vP 10 0), (10, vI 2), (42, vN (X * Y * Z)), (43, vN i), (49, vI 2), (52, .agg #[vN X, vN Y, vN Z, vS 6 A.length, vS 7 B.length, vS 8 C.length]), (53, vI 2), (54, vS 6 A.length), (55, .agg #[vN X, vN Y, vN Z]), (56, .agg #[vN X, vN Y, vN Z]), (57, .agg #[vN (i / Z / Y), vN (i / Z % Y), vN (i % Z)]), (58, vI 1), (59, .agg #[vN (i / Z / Y), vI (((Y : Nat) : Int) - 1 - ((i / Z % Y : Nat) : Int)), vN (i % Z)]), (60, vI 2), (61, vI (((i / Z / Y : Nat) : Int) * (Y : Int) + (((Y : Nat) : Int) - 1 - ((i / Z % Y : Nat) : Int)))), (62, .agg #[vN X, vN Y, vN Z, vS 0 A.length, vS 1 B.length, vS 2 C.length]), (63, vI 2), (64, vS 0 A.length), (65, .agg #[vN X, vN Y, vN Z]), (66, .agg #[vN (i / Z / Y), vN (i / Z % Y), vN (i % Z)]), (67, vI 2)])) (by kernel_rfl) ?_
       refine rW (m := ⟨[], [], []⟩) (v := vI (((i / Z / Y : Nat) : Int) * (Y : Int) + ((i / Z % Y : Nat) : Int))) rfl (by kernel_rfl) (stQ (args := [.agg #[vN X, vN Y, vN Z], .agg #[vN (i / Z / Y), vN (i / Z % Y), vN (i % Z)], vI 2]) rfl (by kernel_rfl) (Any.lay0 [] (line2 X Y Z ((i / Z / Y : Nat) : Int) ((i / Z % Y : Nat) : Int) ((i % Z : Nat) : Int) (by first | assumption | omega | rfl | decide | exact HeapL.list _ _ _ _ | exact HeapL.nil _ _ _ | exact HeapL.all _ _ _ | (apply HeapL.lt64 <;> assumption) | (repeat' (first | assumption | apply or_lt64 | apply and_lt64 | apply andn_lt64 | apply pow_lt64 | (apply HeapL.lt64 <;> assumption)))) (by first | assumption | exact hhas | exact hmir)) trivial rfl trivial rfl (by first | rfl | simp [mpV, mpA, mpS, mpP, renId, shift]) rfl) rfl (by kernel_rfl) (by kernel_rfl)) (by kernel_rfl) nr0 ?_
       refine rW (m := ⟨[], [], []⟩) (v := vP 0 ((((i / Z / Y : Nat) : Int) * (Y : Int) + ((i / Z % Y : Nat) : Int)).toNat)) rfl (by kernel_rfl) (stId (eIdxS (ad := ⟨0, 0, none⟩) (n := A.length) (m := 0) (k := .i64) (c := (((i / Z / Y : Nat) : Int) * (Y : Int) + ((i / Z % Y : Nat) : Int))) (j := ((((i / Z / Y : Nat) : Int) * (Y : Int) + ((i / Z % Y : Nat) : Int)).toNat)) (o := (((i / Z / Y : Nat) : Int) * (Y : Int) + ((i / Z % Y : Nat) : Int)).toNat) (by kernel_rfl) (by kernel_rfl) ti22 ti3 (by omega) (by omega) (by simp)) rfl (by kernel_rfl) (by kernel_rfl) (by kernel_rfl)) (by kernel_rfl) nr0 ?_
       refine rW (m := ⟨[], [], [0]⟩) (v := vI (A.getD ((((i / Z / Y : Nat) : Int) * (Y : Int) + ((i / Z % Y : Nat) : Int)).toNat) 0)) rfl (by kernel_rfl) (stId (eLdNum (ad := ⟨0, (((i / Z / Y : Nat) : Int) * (Y : Int) + ((i / Z % Y : Nat) : Int)).toNat, none⟩) (r := ⟨nums A, 3, false, false⟩) (L := A) (j := ((((i / Z / Y : Nat) : Int) * (Y : Int) + ((i / Z % Y : Nat) : Int)).toNat)) (by kernel_rfl) (by kernel_rfl) rfl (by first | rfl | omega) (by omega) ti3 rfl) rfl (by kernel_rfl) (by kernel_rfl) (by kernel_rfl)) (by kernel_rfl) nr0 ?_
       refine rW (m := ⟨[], [], []⟩) (v := vP 6 ((((i / Z / Y : Nat) : Int) * (Y : Int) + (((Y : Nat) : Int) - 1 - ((i / Z % Y : Nat) : Int))).toNat)) rfl (by kernel_rfl) (stId (eIdxS (ad := ⟨6, 0, none⟩) (n := A.length) (m := 0) (k := .i64) (c := (((i / Z / Y : Nat) : Int) * (Y : Int) + (((Y : Nat) : Int) - 1 - ((i / Z % Y : Nat) : Int)))) (j := ((((i / Z / Y : Nat) : Int) * (Y : Int) + (((Y : Nat) : Int) - 1 - ((i / Z % Y : Nat) : Int))).toNat)) (o := (((i / Z / Y : Nat) : Int) * (Y : Int) + (((Y : Nat) : Int) - 1 - ((i / Z % Y : Nat) : Int))).toNat) (by kernel_rfl) (by kernel_rfl) ti22 ti3 (by omega) (by omega) (by simp)) rfl (by kernel_rfl) (by kernel_rfl) (by kernel_rfl)) (by kernel_rfl) nr0 ?_
       refine rW (m := ⟨[], [6], []⟩) (v := .tuple #[]) rfl (by kernel_rfl) (stSet (b := 6) (r := ⟨nums (PA.set ((((i / Z / Y : Nat) : Int) * (Y : Int) + (((Y : Nat) : Int) - 1 - ((i / Z % Y : Nat) : Int))).toNat) (A.getD ((((i / Z / Y : Nat) : Int) * (Y : Int) + ((i / Z % Y : Nat) : Int)).toNat) 0)), 3, false, true⟩) (eStNum (b := 6) (o := ((((i / Z / Y : Nat) : Int) * (Y : Int) + (((Y : Nat) : Int) - 1 - ((i / Z % Y : Nat) : Int))).toNat)) (L := PA) (n := (A.getD ((((i / Z / Y : Nat) : Int) * (Y : Int) + ((i / Z % Y : Nat) : Int)).toNat) 0)) (e := 3) (bx := false) (by kernel_rfl) (by kernel_rfl) (by kernel_rfl) (by omega) ti3 rfl (by rfl)) rfl (by kernel_rfl) (by kernel_rfl) (by kernel_rfl) (by kernel_rfl) (nmF (flatNums _ _ _ _)) (clF (flatNums _ _ _ _))) (by kernel_rfl) (NRs.all ⟨nrOf (by rfl) (nmF (flatNums _ _ _ _)), trivial⟩) ?_
       refine segEndW [1, 2, 4, 6, 7, 9, 42, 43, 49] (T1 := (mkT 75 [(1, vI 1), (2, vP 3 0), (4, vP 4 0), (6, vP 5 0), (7, vP 9 0), (9, vP 10 0), (42, vN (X * Y * Z)), (43, vN i), (49, vI 2)])) (H1 := [nR A, nR B, nR C, rB [vN X, vN Y, vN Z, vS 0 A.length, vS 1 B.length, vS 2 C.length] 27, rB [vI 0, vI 0, vI 0, .slice none 0 0, .slice none 0 0, .slice none 0 0] 27, rB [vN X, vN Y, vN Z] 75, some ⟨nums (PA.set ((((i / Z / Y : Nat) : Int) * (Y : Int) + (((Y : Nat) : Int) - 1 - ((i / Z % Y : Nat) : Int))).toNat) (A.getD ((((i / Z / Y : Nat) : Int) * (Y : Int) + ((i / Z % Y : Nat) : Int)).toNat) 0)), 3, false, true⟩, nW PB, nW PC, rB [vN X, vN Y, vN Z, vS 6 A.length, vS 7 B.length, vS 8 C.length] 27, rB [vN (i / Z / Y), vN (i / Z % Y), vN (i % Z)] 74]) (by kernel_rfl) ?_
       refine kBlk ?_
       refine kSeq ?_
       refine cReg ?_
       refine segEndH [1, 2, 4, 6, 7, 9, 42, 43, 49] (T1 := (mkT 75 [(1, vI 1), (2, vP 3 0), (4, vP 4 0), (6, vP 5 0), (7, vP 9 0), (9, vP 10 0), (42, vN (X * Y * Z)), (43, vN i), (49, vI 3)])) (by kernel_rfl) ?_
       exact kLoop (3 - 3) (mkT 75 [(1, vI 1), (2, vP 3 0), (4, vP 4 0), (6, vP 5 0), (7, vP 9 0), (9, vP 10 0), (42, vN (X * Y * Z)), (43, vN i), (49, vI 3)]) [nR A, nR B, nR C, rB [vN X, vN Y, vN Z, vS 0 A.length, vS 1 B.length, vS 2 C.length] 27, rB [vI 0, vI 0, vI 0, .slice none 0 0, .slice none 0 0, .slice none 0 0] 27, rB [vN X, vN Y, vN Z] 75, some ⟨nums (PA.set ((((i / Z / Y : Nat) : Int) * (Y : Int) + (((Y : Nat) : Int) - 1 - ((i / Z % Y : Nat) : Int))).toNat) (A.getD ((((i / Z / Y : Nat) : Int) * (Y : Int) + ((i / Z % Y : Nat) : Int)).toNat) 0)), 3, false, true⟩, nW PB, nW PC, rB [vN X, vN Y, vN Z, vS 6 A.length, vS 7 B.length, vS 8 C.length] 27, rB [vN (i / Z / Y), vN (i / Z % Y), vN (i % Z)] 74] (by omega) (wkSame [1, 2, 4, 6, 7, 9, 42, 43, 49] (by kernel_rfl)) ⟨3, (PA.set ((((i / Z / Y : Nat) : Int) * (Y : Int) + (((Y : Nat) : Int) - 1 - ((i / Z % Y : Nat) : Int))).toNat) (A.getD ((((i / Z / Y : Nat) : Int) * (Y : Int) + ((i / Z % Y : Nat) : Int)).toNat) 0)), PB, PC, (by omega), (mirT_step 2 1 X Y Z A i hPA rfl rfl), (hPB), (hPC), rfl, rfl, rfl⟩
      ·
       refine cSeq ?_
       refine cReg ?_
       refine segEndH [1, 2, 4, 6, 7, 9, 42, 43, 49, 50] (T1 := (mkT 75 [(1, vI 1), (2, vP 3 0), (4, vP 4 0), (6, vP 5 0), (7, vP 9 0), (9, vP 10 0), (42, vN (X * Y * Z)), (43, vN i), (49, vI 3), (50, .bool false)])) (by kernel_rfl) ?_
       refine kSeq ?_
       refine cSeq ?_
       refine cFalse (by kernel_rfl) ?_
       refine cExit ?_
       refine kSeqE ?_
       refine kLoopE ?_
       refine kBlkHit ?_
       refine kBlk ?_
       refine kSeq ?_
       refine cReg ?_
       refine rOp (v := vN (i + 1)) (by kernel_rfl) (eAdd (k := .i64) (a := ((i : Nat) : Int)) (b := 1) (c := ((i + 1 : Nat) : Int)) (by kernel_rfl) (by kernel_rfl) (wr64 (by omega) (by omega) (by omega))) ?_
       refine segEndH [1, 2, 4, 6, 7, 42, 43] (T1 := (mkT 75 [(1, vI 1), (2, vP 3 0), (4, vP 4 0), (6, vP 5 0), (7, vP 9 0), (42, vN (X * Y * Z)), (43, vN (i + 1))])) (by kernel_rfl) ?_
       exact kLoop (X * Y * Z - (i + 1)) (mkT 75 [(1, vI 1), (2, vP 3 0), (4, vP 4 0), (6, vP 5 0), (7, vP 9 0), (42, vN (X * Y * Z)), (43, vN (i + 1))]) [nR A, nR B, nR C, rB [vN X, vN Y, vN Z, vS 0 A.length, vS 1 B.length, vS 2 C.length] 27, rB [vI 0, vI 0, vI 0, .slice none 0 0, .slice none 0 0, .slice none 0 0] 27, rB [vN X, vN Y, vN Z] 75, nW PA, nW PB, nW PC, rB [vN X, vN Y, vN Z, vS 6 A.length, vS 7 B.length, vS 8 C.length] 27] (by omega) (wkDrop [1, 2, 4, 6, 7, 42, 43] _ rfl rfl ((closedL ⟨clF (flatNums _ _ _ _), ⟨clF (flatNums _ _ _ _), ⟨clF (flatNums _ _ _ _), ⟨clX rfl, ⟨clX rfl, ⟨clX rfl, ⟨clF (flatNums _ _ _ _), ⟨clF (flatNums _ _ _ _), ⟨clF (flatNums _ _ _ _), ⟨clX rfl, trivial⟩⟩⟩⟩⟩⟩⟩⟩⟩⟩)) (by kernel_rfl) rfl) ⟨(i + 1), PA, PB, PC, (by omega), (hPA), (hPB), (hPC), rfl, rfl, rfl⟩
theorem implMirrorShadow_1 (X : Nat) (Y : Nat) (Z : Nat) (A : List Int) (B : List Int) (C : List Int) (hs : Sides X Y Z) (hq : shadB X Y Z A B C = true) : Sound Try.prog 49 [.agg #[vN X, vN Y, vN Z, vS 0 A.length, vS 1 B.length, vS 2 C.length], vI 1] [nR A, nR B, nR C] (.tuple #[.agg #[vN X, vN Y, vN Z, vS 3 ((mirE 2 1 X Y Z A).length), vS 4 ((mirE 1 1 X Y Z B).length), vS 5 ((mirE 0 1 X Y Z C).length)], .bool true]) [nR A, nR B, nR C, nW (mirE 2 1 X Y Z A), nW (mirE 1 1 X Y Z B), nW (mirE 0 1 X Y Z C)] := by
 have h := implMirrorShadow_1r X Y Z A B C hs hq; rw [mirE_length, mirE_length, mirE_length]; have hw := shad_of hq; simp only [nlN]; rw [← hw.1.1, ← hw.2.1.1, ← hw.2.2.1]; exact h
set_option maxRecDepth 100000 in
set_option maxHeartbeats 4000000 in
theorem specMirrorShadow_2 (X : Nat) (Y : Nat) (Z : Nat) (A : List Int) (B : List Int) (C : List Int) (hs : Sides X Y Z) (hq : shadB X Y Z A B C = true) : Sound Try.prog 48 [.agg #[vN X, vN Y, vN Z, vS 0 A.length, vS 1 B.length, vS 2 C.length], vI 2] [nR A, nR B, nR C] (.tuple #[.agg #[vN X, vN Y, vN Z, vS 3 ((mirE 2 2 X Y Z A).length), vS 4 ((mirE 1 2 X Y Z B).length), vS 5 ((mirE 0 2 X Y Z C).length)], .bool true]) [nR A, nR B, nR C, nW (mirE 2 2 X Y Z A), nW (mirE 1 2 X Y Z B), nW (mirE 0 2 X Y Z C)] := by
 refine sound_intro (C := cx) Try.func48 rfl (by kernel_rfl) fun hcl => ?_
 have hz := hs.size
 have hx0 := hs.x0
 have hx4 := hs.x4
 have hy0 := hs.y0
 have hy4 := hs.y4
 have hz0 := hs.z0
 have hz4 := hs.z4
 have hxy : X * Y ≤ 4 * 4 := Nat.mul_le_mul (by omega) (by omega)
 have hxz : X * Z ≤ 4 * 4 := Nat.mul_le_mul (by omega) (by omega)
 have hyz : Y * Z ≤ 4 * 4 := Nat.mul_le_mul (by omega) (by omega)
 have hw := shad_of hq
 have hwa := hw.1.1
 have hwb := hw.2.1.1
 have hwc := hw.2.2.1
 refine cSeq ?_
 refine cReg ?_
 refine segEnd [1, 2, 4] (T1 := (mkT 69 [(1, vI 2), (2, vP 3 0), (4, vP 4 0)])) (H1 := [nR A, nR B, nR C, rB [vN X, vN Y, vN Z, vS 0 A.length, vS 1 B.length, vS 2 C.length] 27, rB [vI 0, vI 0, vI 0, .slice none 0 0, .slice none 0 0, .slice none 0 0] 27]) (by kernel_rfl) ?_
 refine kSeq ?_
 refine cSeq ?_
 refine cSeq ?_
 refine cReg ?_
 refine segH 1 (T1 := (mkT 69 [(1, vI 2), (2, vP 3 0), (4, vP 4 0), (7, .agg #[vN X, vN Y, vN Z, vS 0 A.length, vS 1 B.length, vS 2 C.length])])) (by kernel_rfl) ?_
 refine rCall (v := .bool (shadB X Y Z A B C)) (args := [.agg #[vN X, vN Y, vN Z, vS 0 A.length, vS 1 B.length, vS 2 C.length]]) (by kernel_rfl) rfl (by kernel_rfl) (Sound.lay0 [0, 1, 2] (l3ShadowB_yes X Y Z A B C (by first | assumption | omega | rfl | decide | exact HeapL.list _ _ _ _ | exact HeapL.nil _ _ _ | exact HeapL.all _ _ _ | (apply HeapL.lt64 <;> assumption) | (repeat' (first | assumption | apply or_lt64 | apply and_lt64 | apply andn_lt64 | apply pow_lt64 | (apply HeapL.lt64 <;> assumption)))) (by first | omega | assumption | (simp; done)) (by first | omega | assumption | (simp; done)) (by first | omega | assumption | (simp; done))) ⟨rdF false (flatNums _ _ _ _) rfl rfl, ⟨rdF false (flatNums _ _ _ _) rfl rfl, ⟨rdF false (flatNums _ _ _ _) rfl rfl, trivial⟩⟩⟩ rfl ⟨clF (flatNums _ _ _ _), ⟨clF (flatNums _ _ _ _), ⟨clF (flatNums _ _ _ _), trivial⟩⟩⟩ rfl (by first | rfl | simp [mpV, mpA, mpS, mpP, renId, shift]) rfl) ?_
 refine segH 2 (T1 := (mkT 69 [(1, vI 2), (2, vP 3 0), (4, vP 4 0), (7, .agg #[vN X, vN Y, vN Z, vS 0 A.length, vS 1 B.length, vS 2 C.length]), (8, .bool (shadB X Y Z A B C)), (9, .bool (!(shadB X Y Z A B C))), (10, .bool (!(shadB X Y Z A B C)))])) (by kernel_rfl) ?_
 cases h1 : (shadB X Y Z A B C : Bool)
 ·
  have h1k := h1
  (try simp only [bs0, bs1, bs2, bs3, beq_iff_eq, bne_iff_ne, beq_eq_false_iff_ne, bne_eq_false_iff_eq, ne_eq, bs4, bs5, bs6, bs7, bs8, bs9, bs10, bs11, ge_iff_le, gt_iff_lt] at h1)
  exfalso; simp_all
 ·
  have h1k := h1
  (try simp only [bs0, bs1, bs2, bs3, beq_iff_eq, bne_iff_ne, beq_eq_false_iff_ne, bne_eq_false_iff_eq, ne_eq, bs4, bs5, bs6, bs7, bs8, bs9, bs10, bs11, ge_iff_le, gt_iff_lt] at h1)
  refine segH 1 (T1 := (mkT 69 [(1, vI 2), (2, vP 3 0), (4, vP 4 0), (7, .agg #[vN X, vN Y, vN Z, vS 0 A.length, vS 1 B.length, vS 2 C.length]), (8, .bool true), (9, .bool false), (10, .bool false), (11, vI 2)])) (by kernel_rfl) ?_
  refine rCall (v := .bool (inR 2 0 2)) (args := [vI 2, vI 0, vI 2]) (by kernel_rfl) rfl (by kernel_rfl) (Sound.lay0 [] (l1InB 2 0 2) trivial rfl trivial rfl (by first | rfl | simp [mpV, mpA, mpS, mpP, renId, shift]) rfl) ?_
  refine segEndH [1, 2, 4, 14] (T1 := (mkT 69 [(1, vI 2), (2, vP 3 0), (4, vP 4 0), (14, .bool (!(inR 2 0 2)))])) (by kernel_rfl) ?_
  refine kSeq ?_
  cases h2 : (inR 2 0 2 : Bool)
  ·
   have h2k := h2
   (try simp only [bs0, bs1, bs2, bs3, beq_iff_eq, bne_iff_ne, beq_eq_false_iff_ne, bne_eq_false_iff_eq, ne_eq, bs4, bs5, bs6, bs7, bs8, bs9, bs10, bs11, ge_iff_le, gt_iff_lt] at h2)
   exfalso; (exact absurd h2 (by decide))
  ·
   have h2k := h2
   (try simp only [bs0, bs1, bs2, bs3, beq_iff_eq, bne_iff_ne, beq_eq_false_iff_ne, bne_eq_false_iff_eq, ne_eq, bs4, bs5, bs6, bs7, bs8, bs9, bs10, bs11, ge_iff_le, gt_iff_lt] at h2)
   refine cFalse (by kernel_rfl) ?_
   refine cSkip ?_
   refine kSeq ?_
   refine cSeq ?_
   refine cRegW (N := 9) [⟨[], [], []⟩, ⟨[], [], [3]⟩, ⟨[], [], []⟩, ⟨[], [], [3]⟩, ⟨[], [], []⟩, ⟨[], [], [3]⟩, ⟨[], [], []⟩, ⟨[], [], [3]⟩, ⟨[5], [], [0]⟩, ⟨[], [], []⟩, ⟨[], [], [3]⟩, ⟨[6], [], [1]⟩, ⟨[], [], []⟩, ⟨[], [], [3]⟩, ⟨[7], [], [2]⟩, ⟨[], [], []⟩, ⟨[8], [], []⟩, ⟨[], [8], []⟩] 4 [5, 6, 7, 8] (by rfl) (by rfl) (by kernel_rfl) (by kernel_rfl) (by kernel_rfl) ⟨nmsF (flatNums _ _ _ _), ⟨nmsF (flatNums _ _ _ _), ⟨nmsF (flatNums _ _ _ _), ⟨nmsX (by kernel_rfl), ⟨nmsX (by kernel_rfl), trivial⟩⟩⟩⟩⟩ ?_
   refine segWH 8 (T1 := (mkT 69 [(1, vI 2), (2, vP 3 0), (4, vP 4 0), (14, .bool false), (16, vP 3 0), (17, vN X), (18, vP 3 1), (19, vN Y), (20, vP 3 2), (21, vN Z), (22, vP 3 3), (23, vS 0 A.length)])) (by kernel_rfl) ?_
   refine rW (m := ⟨[5], [], [0]⟩) (v := vS 5 A.length) rfl (by kernel_rfl) (stN (i := 5) (E := [nW A]) (v1 := vS 9 A.length) (args := [vS 0 A.length]) rfl (by kernel_rfl) (Any.lay (E := [nW A]) (N := 9) [0] (l1OwnI A (by first | omega | assumption | (simp; done) | (simp; omega))) ⟨rdF false (flatNums _ _ _ _) rfl rfl, trivial⟩ rfl ⟨clF (flatNums _ _ _ _), trivial⟩ rfl (by first | rfl | simp [mpV, mpA, mpS, mpP, renId, shift]) rfl ⟨enF (flatNums _ _ _ _) (Or.inl rfl), trivial⟩) rfl (by kernel_rfl) (by kernel_rfl) (by kernel_rfl) (by kernel_rfl) (FlatH.cons (flatNums _ _ _ _) FlatH.nil)) (by kernel_rfl) (NRs.all ⟨nrOf (by rfl) (nmF (flatNums _ _ _ _)), trivial⟩) ?_
   refine segWH 2 (T1 := (mkT 69 [(1, vI 2), (2, vP 3 0), (4, vP 4 0), (14, .bool false), (16, vP 3 0), (17, vN X), (18, vP 3 1), (19, vN Y), (20, vP 3 2), (21, vN Z), (22, vP 3 3), (23, vS 0 A.length), (24, vS 5 A.length), (25, vP 3 4), (26, vS 1 B.length)])) (by kernel_rfl) ?_
   refine rW (m := ⟨[6], [], [1]⟩) (v := vS 6 B.length) rfl (by kernel_rfl) (stN (i := 6) (E := [nW B]) (v1 := vS 9 B.length) (args := [vS 1 B.length]) rfl (by kernel_rfl) (Any.lay (E := [nW B]) (N := 9) [1] (l1OwnI B (by first | omega | assumption | (simp; done) | (simp; omega))) ⟨rdF false (flatNums _ _ _ _) rfl rfl, trivial⟩ rfl ⟨clF (flatNums _ _ _ _), trivial⟩ rfl (by first | rfl | simp [mpV, mpA, mpS, mpP, renId, shift]) rfl ⟨enF (flatNums _ _ _ _) (Or.inl rfl), trivial⟩) rfl (by kernel_rfl) (by kernel_rfl) (by kernel_rfl) (by kernel_rfl) (FlatH.cons (flatNums _ _ _ _) FlatH.nil)) (by kernel_rfl) (NRs.all ⟨nrOf (by rfl) (nmF (flatNums _ _ _ _)), trivial⟩) ?_
   refine segWH 2 (T1 := (mkT 69 [(1, vI 2), (2, vP 3 0), (4, vP 4 0), (14, .bool false), (16, vP 3 0), (17, vN X), (18, vP 3 1), (19, vN Y), (20, vP 3 2), (21, vN Z), (22, vP 3 3), (23, vS 0 A.length), (24, vS 5 A.length), (25, vP 3 4), (26, vS 1 B.length), (27, vS 6 B.length), (28, vP 3 5), (29, vS 2 C.length)])) (by kernel_rfl) ?_
   refine rW (m := ⟨[7], [], [2]⟩) (v := vS 7 C.length) rfl (by kernel_rfl) (stN (i := 7) (E := [nW C]) (v1 := vS 9 C.length) (args := [vS 2 C.length]) rfl (by kernel_rfl) (Any.lay (E := [nW C]) (N := 9) [2] (l1OwnI C (by first | omega | assumption | (simp; done) | (simp; omega))) ⟨rdF false (flatNums _ _ _ _) rfl rfl, trivial⟩ rfl ⟨clF (flatNums _ _ _ _), trivial⟩ rfl (by first | rfl | simp [mpV, mpA, mpS, mpP, renId, shift]) rfl ⟨enF (flatNums _ _ _ _) (Or.inl rfl), trivial⟩) rfl (by kernel_rfl) (by kernel_rfl) (by kernel_rfl) (by kernel_rfl) (FlatH.cons (flatNums _ _ _ _) FlatH.nil)) (by kernel_rfl) (NRs.all ⟨nrOf (by rfl) (nmF (flatNums _ _ _ _)), trivial⟩) ?_
   refine segWH 1 (T1 := (mkT 69 [(1, vI 2), (2, vP 3 0), (4, vP 4 0), (14, .bool false), (16, vP 3 0), (17, vN X), (18, vP 3 1), (19, vN Y), (20, vP 3 2), (21, vN Z), (22, vP 3 3), (23, vS 0 A.length), (24, vS 5 A.length), (25, vP 3 4), (26, vS 1 B.length), (27, vS 6 B.length), (28, vP 3 5), (29, vS 2 C.length), (30, vS 7 C.length), (31, .agg #[vN X, vN Y, vN Z, vS 5 A.length, vS 6 B.length, vS 7 C.length])])) (by kernel_rfl) ?_
   refine rW (m := ⟨[8], [], []⟩) (v := vP 8 0) rfl (by kernel_rfl) (stNew (i := 8) (v1 := vP 9 0) (r := ⟨[vI 0, vI 0, vI 0, .slice none 0 0, .slice none 0 0, .slice none 0 0], 27, true, true⟩) (by kernel_rfl) rfl (by kernel_rfl) (by kernel_rfl) (by kernel_rfl) (by kernel_rfl) (nmX (by kernel_rfl)) (clX (by kernel_rfl))) (by kernel_rfl) (NRs.all ⟨nrOf (by rfl) (nmX (by kernel_rfl)), trivial⟩) ?_
   refine rW (m := ⟨[], [8], []⟩) (v := .tuple #[]) rfl (by kernel_rfl) (stSet (b := 8) (r := ⟨[vN X, vN Y, vN Z, vS 5 A.length, vS 6 B.length, vS 7 C.length], 27, true, true⟩) (by kernel_rfl) rfl (by kernel_rfl) (by kernel_rfl) (by kernel_rfl) (by kernel_rfl) (nmX (by kernel_rfl)) (clX (by kernel_rfl))) (by kernel_rfl) (NRs.all ⟨nrOf (by rfl) (nmX (by kernel_rfl)), trivial⟩) ?_
   refine segEndW [1, 2, 4, 6] (T1 := (mkT 69 [(1, vI 2), (2, vP 3 0), (4, vP 4 0), (6, vP 8 0)])) (H1 := [nR A, nR B, nR C, rB [vN X, vN Y, vN Z, vS 0 A.length, vS 1 B.length, vS 2 C.length] 27, rB [vI 0, vI 0, vI 0, .slice none 0 0, .slice none 0 0, .slice none 0 0] 27, nW A, nW B, nW C, rB [vN X, vN Y, vN Z, vS 5 A.length, vS 6 B.length, vS 7 C.length] 27]) (by kernel_rfl) ?_
   refine kSeq ?_
   refine cSeq ?_
   refine cSeq ?_
   refine cReg ?_
   refine segEndH [1, 2, 4, 6, 33] (T1 := (mkT 69 [(1, vI 2), (2, vP 3 0), (4, vP 4 0), (6, vP 8 0), (33, .bool false)])) (by kernel_rfl) ?_
   refine kSeq ?_
   refine cFalse (by kernel_rfl) ?_
   refine cSkip ?_
   refine kSeq ?_
   refine cSeq ?_
   refine cSeq ?_
   refine cReg ?_
   refine segEndH [1, 2, 4, 6, 45] (T1 := (mkT 69 [(1, vI 2), (2, vP 3 0), (4, vP 4 0), (6, vP 8 0), (45, .bool true)])) (by kernel_rfl) ?_
   refine kSeq ?_
   refine cTrue (by kernel_rfl) ?_
   refine cReg ?_
   refine segH 8 (T1 := (mkT 69 [(1, vI 2), (2, vP 3 0), (4, vP 4 0), (6, vP 8 0), (45, .bool true), (46, vP 3 4), (47, vS 1 B.length), (48, vP 3 0), (49, vN X), (50, vP 3 2), (51, vN Z), (52, vI 2), (53, .bool false)])) (by kernel_rfl) ?_
   refine rCall (v := vS 9 ((turnL false X Z B (X * Z)).length)) (args := [vS 1 B.length, vN X, vN Z, .bool false]) (by kernel_rfl) rfl (by kernel_rfl) (Sound.lay (E := [nW (turnL false X Z B (X * Z))]) [1] (turned_false X Z B (by first | assumption | omega) (by omega) (by omega)) ⟨rdF false (flatNums _ _ _ _) rfl rfl, trivial⟩ rfl ⟨clF (flatNums _ _ _ _), trivial⟩ rfl (by first | rfl | simp [mpV, mpA, mpS, mpP, renId, shift]) rfl ⟨enF (flatNums _ _ _ _) (Or.inl rfl), trivial⟩) ?_
   refine segEnd [1, 2, 4, 6] (T1 := (mkT 69 [(1, vI 2), (2, vP 3 0), (4, vP 4 0), (6, vP 8 0)])) (H1 := [nR A, nR B, nR C, rB [vN X, vN Y, vN Z, vS 0 A.length, vS 1 B.length, vS 2 C.length] 27, rB [vI 0, vI 0, vI 0, .slice none 0 0, .slice none 0 0, .slice none 0 0] 27, nW A, nW B, nW C, rB [vN X, vN Y, vN Z, vS 5 A.length, vS 9 ((turnL false X Z B (X * Z)).length), vS 7 C.length] 27, nW (turnL false X Z B (X * Z))]) (by kernel_rfl) ?_
   refine kSeq ?_
   refine cSeq ?_
   refine cSeq ?_
   refine cReg ?_
   refine segEndH [1, 2, 4, 6, 57] (T1 := (mkT 69 [(1, vI 2), (2, vP 3 0), (4, vP 4 0), (6, vP 8 0), (57, .bool true)])) (by kernel_rfl) ?_
   refine kSeq ?_
   refine cTrue (by kernel_rfl) ?_
   refine cReg ?_
   refine segH 8 (T1 := (mkT 69 [(1, vI 2), (2, vP 3 0), (4, vP 4 0), (6, vP 8 0), (57, .bool true), (58, vP 3 5), (59, vS 2 C.length), (60, vP 3 1), (61, vN Y), (62, vP 3 2), (63, vN Z), (64, vI 2), (65, .bool false)])) (by kernel_rfl) ?_
   refine rCall (v := vS 10 ((turnL false Y Z C (Y * Z)).length)) (args := [vS 2 C.length, vN Y, vN Z, .bool false]) (by kernel_rfl) rfl (by kernel_rfl) (Sound.lay (E := [nW (turnL false Y Z C (Y * Z))]) [2] (turned_false Y Z C (by first | assumption | omega) (by omega) (by omega)) ⟨rdF false (flatNums _ _ _ _) rfl rfl, trivial⟩ rfl ⟨clF (flatNums _ _ _ _), trivial⟩ rfl (by first | rfl | simp [mpV, mpA, mpS, mpP, renId, shift]) rfl ⟨enF (flatNums _ _ _ _) (Or.inl rfl), trivial⟩) ?_
   refine segEnd [4, 6] (T1 := (mkT 69 [(4, vP 4 0), (6, vP 8 0)])) (H1 := [nR A, nR B, nR C, rB [vN X, vN Y, vN Z, vS 0 A.length, vS 1 B.length, vS 2 C.length] 27, rB [vI 0, vI 0, vI 0, .slice none 0 0, .slice none 0 0, .slice none 0 0] 27, nW A, nW B, nW C, rB [vN X, vN Y, vN Z, vS 5 A.length, vS 9 ((turnL false X Z B (X * Z)).length), vS 10 ((turnL false Y Z C (Y * Z)).length)] 27, nW (turnL false X Z B (X * Z)), nW (turnL false Y Z C (Y * Z))]) (by kernel_rfl) ?_
   refine kSeq ?_
   refine cSeq ?_
   refine cReg ?_
   refine segEnd [4, 5] (T1 := (mkT 69 [(4, vP 4 0), (5, .bool true)])) (H1 := [nR A, nR B, nR C, rB [vN X, vN Y, vN Z, vS 0 A.length, vS 1 B.length, vS 2 C.length] 27, rB [vN X, vN Y, vN Z, vS 5 A.length, vS 9 ((turnL false X Z B (X * Z)).length), vS 10 ((turnL false Y Z C (Y * Z)).length)] 27, nW A, nW B, nW C, rB [vN X, vN Y, vN Z, vS 5 A.length, vS 9 ((turnL false X Z B (X * Z)).length), vS 10 ((turnL false Y Z C (Y * Z)).length)] 27, nW (turnL false X Z B (X * Z)), nW (turnL false Y Z C (Y * Z))]) (by kernel_rfl) ?_
   refine kSeq ?_
   refine cRet ?_
   have he0 : (A : List Int) = (mirE 2 2 X Y Z A) := by first | omega | exact mirE_id (fun p => rfl) (by simp only [nlN]; omega) | exact mirE_turn true (fun p => rfl) rfl | exact mirE_turn false (fun p => rfl) rfl
   have he1 : ((turnL false X Z B (X * Z)) : List Int) = (mirE 1 2 X Y Z B) := by first | omega | exact mirE_id (fun p => rfl) (by simp only [nlN]; omega) | exact mirE_turn true (fun p => rfl) rfl | exact mirE_turn false (fun p => rfl) rfl
   have he2 : ((turnL false Y Z C (Y * Z)) : List Int) = (mirE 0 2 X Y Z C) := by first | omega | exact mirE_id (fun p => rfl) (by simp only [nlN]; omega) | exact mirE_turn true (fun p => rfl) rfl | exact mirE_turn false (fun p => rfl) rfl
   refine endCast (v1 := .tuple #[.agg #[vN X, vN Y, vN Z, vS 3 A.length, vS 4 ((turnL false X Z B (X * Z)).length), vS 5 ((turnL false Y Z C (Y * Z)).length)], .bool true]) (H1 := [nR A, nR B, nR C, nW A, nW (turnL false X Z B (X * Z)), nW (turnL false Y Z C (Y * Z))]) (by first | rfl | ((try rw [← he0]); (try rw [← he1]); (try rw [← he2]); done) | (simp only [← he0, ← he1, ← he2]; done)) (by first | rfl | ((try rw [← he0]); (try rw [← he1]); (try rw [← he2]); done) | (simp only [← he0, ← he1, ← he2]; done)) ?_
   exact endF (Or.inr rfl) (l := [.agg #[vN X, vN Y, vN Z, vS 5 A.length, vS 9 ((turnL false X Z B (X * Z)).length), vS 10 ((turnL false Y Z C (Y * Z)).length)], .bool true]) [0, 1, 2, 5, 9, 10] (by kernel_rfl) (by first | rfl | simp [packR, mpV, mpA, mpS, mpP, renId]) ⟨rrF (flatNums _ _ _ _) rfl, ⟨rrF (flatNums _ _ _ _) rfl, ⟨rrF (flatNums _ _ _ _) rfl, ⟨rrF (flatNums _ _ _ _) rfl, ⟨rrF (flatNums _ _ _ _) rfl, ⟨rrF (flatNums _ _ _ _) rfl, trivial⟩⟩⟩⟩⟩⟩ rfl rfl
set_option maxRecDepth 100000 in
set_option maxHeartbeats 4000000 in
theorem implMirrorShadow_2r (X : Nat) (Y : Nat) (Z : Nat) (A : List Int) (B : List Int) (C : List Int) (hs : Sides X Y Z) (hq : shadB X Y Z A B C = true) : Sound Try.prog 49 [.agg #[vN X, vN Y, vN Z, vS 0 A.length, vS 1 B.length, vS 2 C.length], vI 2] [nR A, nR B, nR C] (.tuple #[.agg #[vN X, vN Y, vN Z, vS 3 A.length, vS 4 B.length, vS 5 C.length], .bool true]) [nR A, nR B, nR C, nW (mirE 2 2 X Y Z A), nW (mirE 1 2 X Y Z B), nW (mirE 0 2 X Y Z C)] := by
 refine sound_intro (C := cx) Try.func49 rfl (by kernel_rfl) fun hcl => ?_
 have hz := hs.size
 have hx0 := hs.x0
 have hx4 := hs.x4
 have hy0 := hs.y0
 have hy4 := hs.y4
 have hz0 := hs.z0
 have hz4 := hs.z4
 have hxy : X * Y ≤ 4 * 4 := Nat.mul_le_mul (by omega) (by omega)
 have hxz : X * Z ≤ 4 * 4 := Nat.mul_le_mul (by omega) (by omega)
 have hyz : Y * Z ≤ 4 * 4 := Nat.mul_le_mul (by omega) (by omega)
 have hw := shad_of hq
 have hwa := hw.1.1
 have hwb := hw.2.1.1
 have hwc := hw.2.2.1
 refine cSeq ?_
 refine cReg ?_
 refine segEnd [1, 2, 4] (T1 := (mkT 75 [(1, vI 2), (2, vP 3 0), (4, vP 4 0)])) (H1 := [nR A, nR B, nR C, rB [vN X, vN Y, vN Z, vS 0 A.length, vS 1 B.length, vS 2 C.length] 27, rB [vI 0, vI 0, vI 0, .slice none 0 0, .slice none 0 0, .slice none 0 0] 27]) (by kernel_rfl) ?_
 refine kSeq ?_
 refine cSeq ?_
 refine cSeq ?_
 refine cReg ?_
 refine segH 1 (T1 := (mkT 75 [(1, vI 2), (2, vP 3 0), (4, vP 4 0), (11, .agg #[vN X, vN Y, vN Z, vS 0 A.length, vS 1 B.length, vS 2 C.length])])) (by kernel_rfl) ?_
 refine rCall (v := .bool (shadB X Y Z A B C)) (args := [.agg #[vN X, vN Y, vN Z, vS 0 A.length, vS 1 B.length, vS 2 C.length]]) (by kernel_rfl) rfl (by kernel_rfl) (Sound.lay0 [0, 1, 2] (isShadowB_yes X Y Z A B C (by first | assumption | omega | rfl | decide | exact HeapL.list _ _ _ _ | exact HeapL.nil _ _ _ | exact HeapL.all _ _ _ | (apply HeapL.lt64 <;> assumption) | (repeat' (first | assumption | apply or_lt64 | apply and_lt64 | apply andn_lt64 | apply pow_lt64 | (apply HeapL.lt64 <;> assumption)))) (by first | omega | assumption | (simp; done)) (by first | omega | assumption | (simp; done)) (by first | omega | assumption | (simp; done))) ⟨rdF false (flatNums _ _ _ _) rfl rfl, ⟨rdF false (flatNums _ _ _ _) rfl rfl, ⟨rdF false (flatNums _ _ _ _) rfl rfl, trivial⟩⟩⟩ rfl ⟨clF (flatNums _ _ _ _), ⟨clF (flatNums _ _ _ _), ⟨clF (flatNums _ _ _ _), trivial⟩⟩⟩ rfl (by first | rfl | simp [mpV, mpA, mpS, mpP, renId, shift]) rfl) ?_
 refine segH 2 (T1 := (mkT 75 [(1, vI 2), (2, vP 3 0), (4, vP 4 0), (11, .agg #[vN X, vN Y, vN Z, vS 0 A.length, vS 1 B.length, vS 2 C.length]), (12, .bool (shadB X Y Z A B C)), (13, .bool (!(shadB X Y Z A B C))), (14, .bool (!(shadB X Y Z A B C)))])) (by kernel_rfl) ?_
 cases h1 : (shadB X Y Z A B C : Bool)
 ·
  have h1k := h1
  (try simp only [bs0, bs1, bs2, bs3, beq_iff_eq, bne_iff_ne, beq_eq_false_iff_ne, bne_eq_false_iff_eq, ne_eq, bs4, bs5, bs6, bs7, bs8, bs9, bs10, bs11, ge_iff_le, gt_iff_lt] at h1)
  exfalso; simp_all
 ·
  have h1k := h1
  (try simp only [bs0, bs1, bs2, bs3, beq_iff_eq, bne_iff_ne, beq_eq_false_iff_ne, bne_eq_false_iff_eq, ne_eq, bs4, bs5, bs6, bs7, bs8, bs9, bs10, bs11, ge_iff_le, gt_iff_lt] at h1)
  refine segH 1 (T1 := (mkT 75 [(1, vI 2), (2, vP 3 0), (4, vP 4 0), (11, .agg #[vN X, vN Y, vN Z, vS 0 A.length, vS 1 B.length, vS 2 C.length]), (12, .bool true), (13, .bool false), (14, .bool false), (15, vI 2)])) (by kernel_rfl) ?_
  refine rCall (v := .bool (inR 2 0 2)) (args := [vI 2]) (by kernel_rfl) rfl (by kernel_rfl) (Sound.lay0 [] (isDirB 2) trivial rfl trivial rfl (by first | rfl | simp [mpV, mpA, mpS, mpP, renId, shift]) rfl) ?_
  refine segEndH [1, 2, 4, 18] (T1 := (mkT 75 [(1, vI 2), (2, vP 3 0), (4, vP 4 0), (18, .bool (!(inR 2 0 2)))])) (by kernel_rfl) ?_
  refine kSeq ?_
  cases h2 : (inR 2 0 2 : Bool)
  ·
   have h2k := h2
   (try simp only [bs0, bs1, bs2, bs3, beq_iff_eq, bne_iff_ne, beq_eq_false_iff_ne, bne_eq_false_iff_eq, ne_eq, bs4, bs5, bs6, bs7, bs8, bs9, bs10, bs11, ge_iff_le, gt_iff_lt] at h2)
   exfalso; (exact absurd h2 (by decide))
  ·
   have h2k := h2
   (try simp only [bs0, bs1, bs2, bs3, beq_iff_eq, bne_iff_ne, beq_eq_false_iff_ne, bne_eq_false_iff_eq, ne_eq, bs4, bs5, bs6, bs7, bs8, bs9, bs10, bs11, ge_iff_le, gt_iff_lt] at h2)
   refine cFalse (by kernel_rfl) ?_
   refine cSkip ?_
   refine kSeq ?_
   refine cSeq ?_
   refine cReg ?_
   refine segH 1 (T1 := (mkT 75 [(1, vI 2), (2, vP 3 0), (4, vP 4 0), (18, .bool false), (20, .agg #[vN X, vN Y, vN Z, vS 0 A.length, vS 1 B.length, vS 2 C.length])])) (by kernel_rfl) ?_
   refine rCall (v := .agg #[vN X, vN Y, vN Z]) (args := [.agg #[vN X, vN Y, vN Z, vS 0 A.length, vS 1 B.length, vS 2 C.length]]) (by kernel_rfl) rfl (by kernel_rfl) (Sound.lay0 [0, 1, 2] (shBox ((X : Nat) : Int) ((Y : Nat) : Int) ((Z : Nat) : Int) A B C) ⟨rdF false (flatNums _ _ _ _) rfl rfl, ⟨rdF false (flatNums _ _ _ _) rfl rfl, ⟨rdF false (flatNums _ _ _ _) rfl rfl, trivial⟩⟩⟩ rfl ⟨clF (flatNums _ _ _ _), ⟨clF (flatNums _ _ _ _), ⟨clF (flatNums _ _ _ _), trivial⟩⟩⟩ rfl (by first | rfl | simp [mpV, mpA, mpS, mpP, renId, shift]) (by first | rfl | simp [mpV, mpA, mpS, mpP, renId, shift])) ?_
   refine segEnd [1, 2, 4, 6] (T1 := (mkT 75 [(1, vI 2), (2, vP 3 0), (4, vP 4 0), (6, vP 5 0)])) (H1 := [nR A, nR B, nR C, rB [vN X, vN Y, vN Z, vS 0 A.length, vS 1 B.length, vS 2 C.length] 27, rB [vI 0, vI 0, vI 0, .slice none 0 0, .slice none 0 0, .slice none 0 0] 27, rB [vN X, vN Y, vN Z] 75]) (by kernel_rfl) ?_
   refine kSeq ?_
   refine cSeq ?_
   refine cRegW (N := 10) [⟨[], [], []⟩, ⟨[], [], [3]⟩, ⟨[], [], []⟩, ⟨[], [], [3]⟩, ⟨[], [], []⟩, ⟨[], [], [3]⟩, ⟨[], [], []⟩, ⟨[], [], [3]⟩, ⟨[], [], [0]⟩, ⟨[6], [], []⟩, ⟨[], [], []⟩, ⟨[], [], [3]⟩, ⟨[], [], [1]⟩, ⟨[7], [], []⟩, ⟨[], [], []⟩, ⟨[], [], [3]⟩, ⟨[], [], [2]⟩, ⟨[8], [], []⟩, ⟨[], [], []⟩, ⟨[9], [], []⟩, ⟨[], [9], []⟩] 4 [6, 7, 8, 9] (by rfl) (by rfl) (by kernel_rfl) (by kernel_rfl) (by kernel_rfl) ⟨nmsF (flatNums _ _ _ _), ⟨nmsF (flatNums _ _ _ _), ⟨nmsF (flatNums _ _ _ _), ⟨nmsX (by kernel_rfl), ⟨nmsX (by kernel_rfl), ⟨nmsX (by kernel_rfl), trivial⟩⟩⟩⟩⟩⟩ ?_
   refine segWH 9 (T1 := (mkT 75 [(1, vI 2), (2, vP 3 0), (4, vP 4 0), (6, vP 5 0), (22, vP 3 0), (23, vN X), (24, vP 3 1), (25, vN Y), (26, vP 3 2), (27, vN Z), (28, vP 3 3), (29, vS 0 A.length), (30, vN A.length)])) (by kernel_rfl) ?_
   refine rW (m := ⟨[6], [], []⟩) (v := vS 6 A.length) rfl (by kernel_rfl) (stNew (i := 6) (v1 := vS 10 A.length) (r := ⟨nums (List.replicate A.length 0), 3, false, true⟩) (eMkNum (n := A.length) (k := .i64) (k2 := .i64) (by kernel_rfl) (by kernel_rfl) ti22 ti3 rfl rfl (by decide) (by omega)) rfl (by kernel_rfl) (by kernel_rfl) (by kernel_rfl) (by kernel_rfl) (nmF (flatNums _ _ _ _)) (clF (flatNums _ _ _ _))) (by kernel_rfl) (NRs.all ⟨nrOf (by rfl) (nmF (flatNums _ _ _ _)), trivial⟩) ?_
   refine segWH 3 (T1 := (mkT 75 [(1, vI 2), (2, vP 3 0), (4, vP 4 0), (6, vP 5 0), (22, vP 3 0), (23, vN X), (24, vP 3 1), (25, vN Y), (26, vP 3 2), (27, vN Z), (28, vP 3 3), (29, vS 0 A.length), (30, vN A.length), (31, vS 6 A.length), (32, vP 3 4), (33, vS 1 B.length), (34, vN B.length)])) (by kernel_rfl) ?_
   refine rW (m := ⟨[7], [], []⟩) (v := vS 7 B.length) rfl (by kernel_rfl) (stNew (i := 7) (v1 := vS 10 B.length) (r := ⟨nums (List.replicate B.length 0), 3, false, true⟩) (eMkNum (n := B.length) (k := .i64) (k2 := .i64) (by kernel_rfl) (by kernel_rfl) ti22 ti3 rfl rfl (by decide) (by omega)) rfl (by kernel_rfl) (by kernel_rfl) (by kernel_rfl) (by kernel_rfl) (nmF (flatNums _ _ _ _)) (clF (flatNums _ _ _ _))) (by kernel_rfl) (NRs.all ⟨nrOf (by rfl) (nmF (flatNums _ _ _ _)), trivial⟩) ?_
   refine segWH 3 (T1 := (mkT 75 [(1, vI 2), (2, vP 3 0), (4, vP 4 0), (6, vP 5 0), (22, vP 3 0), (23, vN X), (24, vP 3 1), (25, vN Y), (26, vP 3 2), (27, vN Z), (28, vP 3 3), (29, vS 0 A.length), (30, vN A.length), (31, vS 6 A.length), (32, vP 3 4), (33, vS 1 B.length), (34, vN B.length), (35, vS 7 B.length), (36, vP 3 5), (37, vS 2 C.length), (38, vN C.length)])) (by kernel_rfl) ?_
   refine rW (m := ⟨[8], [], []⟩) (v := vS 8 C.length) rfl (by kernel_rfl) (stNew (i := 8) (v1 := vS 10 C.length) (r := ⟨nums (List.replicate C.length 0), 3, false, true⟩) (eMkNum (n := C.length) (k := .i64) (k2 := .i64) (by kernel_rfl) (by kernel_rfl) ti22 ti3 rfl rfl (by decide) (by omega)) rfl (by kernel_rfl) (by kernel_rfl) (by kernel_rfl) (by kernel_rfl) (nmF (flatNums _ _ _ _)) (clF (flatNums _ _ _ _))) (by kernel_rfl) (NRs.all ⟨nrOf (by rfl) (nmF (flatNums _ _ _ _)), trivial⟩) ?_
   refine segWH 1 (T1 := (mkT 75 [(1, vI 2), (2, vP 3 0), (4, vP 4 0), (6, vP 5 0), (22, vP 3 0), (23, vN X), (24, vP 3 1), (25, vN Y), (26, vP 3 2), (27, vN Z), (28, vP 3 3), (29, vS 0 A.length), (30, vN A.length), (31, vS 6 A.length), (32, vP 3 4), (33, vS 1 B.length), (34, vN B.length), (35, vS 7 B.length), (36, vP 3 5), (37, vS 2 C.length), (38, vN C.length), (39, vS 8 C.length), (40, .agg #[vN X, vN Y, vN Z, vS 6 A.length, vS 7 B.length, vS 8 C.length])])) (by kernel_rfl) ?_
   refine rW (m := ⟨[9], [], []⟩) (v := vP 9 0) rfl (by kernel_rfl) (stNew (i := 9) (v1 := vP 10 0) (r := ⟨[vI 0, vI 0, vI 0, .slice none 0 0, .slice none 0 0, .slice none 0 0], 27, true, true⟩) (by kernel_rfl) rfl (by kernel_rfl) (by kernel_rfl) (by kernel_rfl) (by kernel_rfl) (nmX (by kernel_rfl)) (clX (by kernel_rfl))) (by kernel_rfl) (NRs.all ⟨nrOf (by rfl) (nmX (by kernel_rfl)), trivial⟩) ?_
   refine rW (m := ⟨[], [9], []⟩) (v := .tuple #[]) rfl (by kernel_rfl) (stSet (b := 9) (r := ⟨[vN X, vN Y, vN Z, vS 6 A.length, vS 7 B.length, vS 8 C.length], 27, true, true⟩) (by kernel_rfl) rfl (by kernel_rfl) (by kernel_rfl) (by kernel_rfl) (by kernel_rfl) (nmX (by kernel_rfl)) (clX (by kernel_rfl))) (by kernel_rfl) (NRs.all ⟨nrOf (by rfl) (nmX (by kernel_rfl)), trivial⟩) ?_
   refine segEndW [1, 2, 4, 6, 7] (T1 := (mkT 75 [(1, vI 2), (2, vP 3 0), (4, vP 4 0), (6, vP 5 0), (7, vP 9 0)])) (H1 := [nR A, nR B, nR C, rB [vN X, vN Y, vN Z, vS 0 A.length, vS 1 B.length, vS 2 C.length] 27, rB [vI 0, vI 0, vI 0, .slice none 0 0, .slice none 0 0, .slice none 0 0] 27, rB [vN X, vN Y, vN Z] 75, nW (List.replicate A.length 0), nW (List.replicate B.length 0), nW (List.replicate C.length 0), rB [vN X, vN Y, vN Z, vS 6 A.length, vS 7 B.length, vS 8 C.length] 27]) (by kernel_rfl) ?_
   refine kSeq ?_
   refine cSeq ?_
   refine cSeq ?_
   refine cReg ?_
   refine segH 1 (T1 := (mkT 75 [(1, vI 2), (2, vP 3 0), (4, vP 4 0), (6, vP 5 0), (7, vP 9 0), (41, .agg #[vN X, vN Y, vN Z])])) (by kernel_rfl) ?_
   refine rCall (v := vN (X * Y * Z)) (args := [.agg #[vN X, vN Y, vN Z]]) (by kernel_rfl) rfl (by kernel_rfl) (Sound.lay0 [] (sizeB X Y Z (by first | assumption | omega | rfl | decide | exact HeapL.list _ _ _ _ | exact HeapL.nil _ _ _ | exact HeapL.all _ _ _ | (apply HeapL.lt64 <;> assumption) | (repeat' (first | assumption | apply or_lt64 | apply and_lt64 | apply andn_lt64 | apply pow_lt64 | (apply HeapL.lt64 <;> assumption))))) trivial rfl trivial rfl (by first | rfl | simp [mpV, mpA, mpS, mpP, renId, shift]) rfl) ?_
   refine segEndH [1, 2, 4, 6, 7, 42, 43] (T1 := (mkT 75 [(1, vI 2), (2, vP 3 0), (4, vP 4 0), (6, vP 5 0), (7, vP 9 0), (42, vN (X * Y * Z)), (43, vI 0)])) (by kernel_rfl) ?_
   refine kSeq ?_
   refine cBlk ?_
   refine cLoop (fun mm T H => ∃ i : Nat, ∃ MA : List Int, ∃ MB : List Int, ∃ MC : List Int, (i ≤ X * Y * Z) ∧ (MA = mirT 2 2 X Y Z A (i)) ∧ (MB = mirT 1 2 X Y Z B (i)) ∧ (MC = mirT 0 2 X Y Z C (i)) ∧ mm = X * Y * Z - i ∧ T = (mkT 75 [(1, vI 2), (2, vP 3 0), (4, vP 4 0), (6, vP 5 0), (7, vP 9 0), (42, vN (X * Y * Z)), (43, vN i)]) ∧ H = [nR A, nR B, nR C, rB [vN X, vN Y, vN Z, vS 0 A.length, vS 1 B.length, vS 2 C.length] 27, rB [vI 0, vI 0, vI 0, .slice none 0 0, .slice none 0 0, .slice none 0 0] 27, rB [vN X, vN Y, vN Z] 75, nW MA, nW MB, nW MC, rB [vN X, vN Y, vN Z, vS 6 A.length, vS 7 B.length, vS 8 C.length] 27]) (X * Y * Z - 0) (mkT 75 [(1, vI 2), (2, vP 3 0), (4, vP 4 0), (6, vP 5 0), (7, vP 9 0), (42, vN (X * Y * Z)), (43, vI 0)]) [nR A, nR B, nR C, rB [vN X, vN Y, vN Z, vS 0 A.length, vS 1 B.length, vS 2 C.length] 27, rB [vI 0, vI 0, vI 0, .slice none 0 0, .slice none 0 0, .slice none 0 0] 27, rB [vN X, vN Y, vN Z] 75, nW (List.replicate A.length 0), nW (List.replicate B.length 0), nW (List.replicate C.length 0), rB [vN X, vN Y, vN Z, vS 6 A.length, vS 7 B.length, vS 8 C.length] 27] (wkSame [1, 2, 4, 6, 7, 42, 43] (by kernel_rfl)) ?_ ?_
   ·
    exact ⟨0, (List.replicate A.length 0), (List.replicate B.length 0), (List.replicate C.length 0), (Nat.zero_le _), ((by show _ = List.replicate (X * Y) 0; rw [hwa])), ((by show _ = List.replicate (X * Z) 0; rw [hwb])), ((by show _ = List.replicate (Y * Z) 0; rw [hwc])), rfl, rfl, rfl⟩
   ·
    rintro _ _ _ ⟨i, MA, MB, MC, hi, hMA, hMB, hMC, rfl, rfl, rfl⟩
    have hMlA : MA.length = X * Y := (by rw [hMA]; exact mirT_length 2 2 X Y Z A _); have hMlB : MB.length = X * Z := (by rw [hMB]; exact mirT_length 1 2 X Y Z B _); have hMlC : MC.length = Y * Z := (by rw [hMC]; exact mirT_length 0 2 X Y Z C _)
    refine cSeq ?_
    refine cReg ?_
    refine segEndH [1, 2, 4, 6, 7, 42, 43, 44] (T1 := (mkT 75 [(1, vI 2), (2, vP 3 0), (4, vP 4 0), (6, vP 5 0), (7, vP 9 0), (42, vN (X * Y * Z)), (43, vN i), (44, .bool (decide (((i : Nat) : Int) < ((X * Y * Z : Nat) : Int))))])) (by kernel_rfl) ?_
    refine kSeq ?_
    refine cSeq ?_
    cases h3 : (decide (((i : Nat) : Int) < ((X * Y * Z : Nat) : Int)) : Bool)
    ·
     have h3k := h3
     (try simp only [bs0, bs1, bs2, bs3, beq_iff_eq, bne_iff_ne, beq_eq_false_iff_ne, bne_eq_false_iff_eq, ne_eq, bs4, bs5, bs6, bs7, bs8, bs9, bs10, bs11, ge_iff_le, gt_iff_lt] at h3)
     refine cFalse (by kernel_rfl) ?_
     refine cExit ?_
     refine kSeqE ?_
     refine kLoopE ?_
     refine kBlkHit ?_
     refine kSeq ?_
     refine cSeq ?_
     refine cReg ?_
     refine segEnd [4, 5] (T1 := (mkT 75 [(4, vP 4 0), (5, .bool true)])) (H1 := [nR A, nR B, nR C, rB [vN X, vN Y, vN Z, vS 0 A.length, vS 1 B.length, vS 2 C.length] 27, rB [vN X, vN Y, vN Z, vS 6 A.length, vS 7 B.length, vS 8 C.length] 27, rB [vN X, vN Y, vN Z] 75, nW MA, nW MB, nW MC, rB [vN X, vN Y, vN Z, vS 6 A.length, vS 7 B.length, vS 8 C.length] 27]) (by kernel_rfl) ?_
     refine kSeq ?_
     refine cRet ?_
     have he0 : (MA : List Int) = (mirE 2 2 X Y Z A) := by first | omega | (rw [hMA]; exact mirT_end A (by omega) (by omega) hs (by omega) hi) | (rw [hMB]; exact mirT_end B (by omega) (by omega) hs (by omega) hi) | (rw [hMC]; exact mirT_end C (by omega) (by omega) hs (by omega) hi)
     have he1 : (MB : List Int) = (mirE 1 2 X Y Z B) := by first | omega | (rw [hMA]; exact mirT_end A (by omega) (by omega) hs (by omega) hi) | (rw [hMB]; exact mirT_end B (by omega) (by omega) hs (by omega) hi) | (rw [hMC]; exact mirT_end C (by omega) (by omega) hs (by omega) hi)
     have he2 : (MC : List Int) = (mirE 0 2 X Y Z C) := by first | omega | (rw [hMA]; exact mirT_end A (by omega) (by omega) hs (by omega) hi) | (rw [hMB]; exact mirT_end B (by omega) (by omega) hs (by omega) hi) | (rw [hMC]; exact mirT_end C (by omega) (by omega) hs (by omega) hi)
     refine endCast (v1 := .tuple #[.agg #[vN X, vN Y, vN Z, vS 3 A.length, vS 4 B.length, vS 5 C.length], .bool true]) (H1 := [nR A, nR B, nR C, nW MA, nW MB, nW MC]) (by first | rfl | ((try rw [← he0]); (try rw [← he1]); (try rw [← he2]); done) | (simp only [← he0, ← he1, ← he2]; done)) (by first | rfl | ((try rw [← he0]); (try rw [← he1]); (try rw [← he2]); done) | (simp only [← he0, ← he1, ← he2]; done)) ?_
     exact endF (Or.inr rfl) (l := [.agg #[vN X, vN Y, vN Z, vS 6 A.length, vS 7 B.length, vS 8 C.length], .bool true]) [0, 1, 2, 6, 7, 8] (by kernel_rfl) (by first | rfl | simp [packR, mpV, mpA, mpS, mpP, renId]) ⟨rrF (flatNums _ _ _ _) rfl, ⟨rrF (flatNums _ _ _ _) rfl, ⟨rrF (flatNums _ _ _ _) rfl, ⟨rrF (flatNums _ _ _ _) rfl, ⟨rrF (flatNums _ _ _ _) rfl, ⟨rrF (flatNums _ _ _ _) rfl, trivial⟩⟩⟩⟩⟩⟩ rfl rfl
    ·
     have h3k := h3
     (try simp only [bs0, bs1, bs2, bs3, beq_iff_eq, bne_iff_ne, beq_eq_false_iff_ne, bne_eq_false_iff_eq, ne_eq, bs4, bs5, bs6, bs7, bs8, bs9, bs10, bs11, ge_iff_le, gt_iff_lt] at h3)
     have hhas := has_cellOf hs (i := i) (by omega); have hh3 := (has3_iff (c := cellOf Y Z i)).1 hhas; simp only [cellOf] at hh3; have hmir := mir_has (d := 2) (c := cellOf Y Z i) hhas; have hm3 := has3_iff.1 hmir; simp only [mir, cellOf] at hm3; have q0 := two_lt hh3.2.1 hh3.2.2; have q1 := two_lt hh3.1 hh3.2.2; have q2 := two_lt hh3.1 hh3.2.1; have r0 := two_lt hm3.2.1 hm3.2.2; have r1 := two_lt hm3.1 hm3.2.2; have r2 := two_lt hm3.1 hm3.2.1
     refine cTrue (by kernel_rfl) ?_
     refine cSkip ?_
     refine kSeq ?_
     refine cSeq ?_
     refine cBlk ?_
     refine cSeq ?_
     refine cReg ?_
     refine segEndH [1, 2, 4, 6, 7, 8, 42, 43] (T1 := (mkT 75 [(1, vI 2), (2, vP 3 0), (4, vP 4 0), (6, vP 5 0), (7, vP 9 0), (8, vN i), (42, vN (X * Y * Z)), (43, vN i)])) (by kernel_rfl) ?_
     refine kSeq ?_
     refine cSeq ?_
     refine cReg ?_
     refine segH 2 (T1 := (mkT 75 [(1, vI 2), (2, vP 3 0), (4, vP 4 0), (6, vP 5 0), (7, vP 9 0), (8, vN i), (42, vN (X * Y * Z)), (43, vN i), (46, .agg #[vN X, vN Y, vN Z]), (47, vN i)])) (by kernel_rfl) ?_
     refine rCall (v := .agg #[vN (i / Z / Y), vN (i / Z % Y), vN (i % Z)]) (args := [.agg #[vN X, vN Y, vN Z], vN i]) (by kernel_rfl) rfl (by kernel_rfl) (Sound.lay0 [] (cellB X Y Z i (by first | assumption | omega | rfl | decide | exact HeapL.list _ _ _ _ | exact HeapL.nil _ _ _ | exact HeapL.all _ _ _ | (apply HeapL.lt64 <;> assumption) | (repeat' (first | assumption | apply or_lt64 | apply and_lt64 | apply andn_lt64 | apply pow_lt64 | (apply HeapL.lt64 <;> assumption)))) (by first | assumption | omega | rfl | decide | exact HeapL.list _ _ _ _ | exact HeapL.nil _ _ _ | exact HeapL.all _ _ _ | (apply HeapL.lt64 <;> assumption) | (repeat' (first | assumption | apply or_lt64 | apply and_lt64 | apply andn_lt64 | apply pow_lt64 | (apply HeapL.lt64 <;> assumption))))) trivial rfl trivial rfl (by first | rfl | simp [mpV, mpA, mpS, mpP, renId, shift]) (by first | rfl | simp [mpV, mpA, mpS, mpP, renId, shift])) ?_
     refine segEnd [1, 2, 4, 6, 7, 9, 42, 43] (T1 := (mkT 75 [(1, vI 2), (2, vP 3 0), (4, vP 4 0), (6, vP 5 0), (7, vP 9 0), (9, vP 10 0), (42, vN (X * Y * Z)), (43, vN i)])) (H1 := [nR A, nR B, nR C, rB [vN X, vN Y, vN Z, vS 0 A.length, vS 1 B.length, vS 2 C.length] 27, rB [vI 0, vI 0, vI 0, .slice none 0 0, .slice none 0 0, .slice none 0 0] 27, rB [vN X, vN Y, vN Z] 75, nW MA, nW MB, nW MC, rB [vN X, vN Y, vN Z, vS 6 A.length, vS 7 B.length, vS 8 C.length] 27, rB [vN (i / Z / Y), vN (i / Z % Y), vN (i % Z)] 74]) (by kernel_rfl) ?_
     refine kSeq ?_
     refine cSeq ?_
     refine cReg ?_
     refine segEndH [1, 2, 4, 6, 7, 9, 42, 43, 49] (T1 := (mkT 75 [(1, vI 2), (2, vP 3 0), (4, vP 4 0), (6, vP 5 0), (7, vP 9 0), (9, vP 10 0), (42, vN (X * Y * Z)), (43, vN i), (49, vI 0)])) (by kernel_rfl) ?_
     refine kSeq ?_
     refine cBlk ?_
     refine cLoop (fun mm T H => ∃ d : Nat, ∃ PA : List Int, ∃ PB : List Int, ∃ PC : List Int, (d ≤ 3) ∧ (PA = mirT 2 2 X Y Z A (i + (if 2 < d then 1 else 0))) ∧ (PB = mirT 1 2 X Y Z B (i + (if 1 < d then 1 else 0))) ∧ (PC = mirT 0 2 X Y Z C (i + (if 0 < d then 1 else 0))) ∧ mm = 3 - d ∧ T = (mkT 75 [(1, vI 2), (2, vP 3 0), (4, vP 4 0), (6, vP 5 0), (7, vP 9 0), (9, vP 10 0), (42, vN (X * Y * Z)), (43, vN i), (49, vN d)]) ∧ H = [nR A, nR B, nR C, rB [vN X, vN Y, vN Z, vS 0 A.length, vS 1 B.length, vS 2 C.length] 27, rB [vI 0, vI 0, vI 0, .slice none 0 0, .slice none 0 0, .slice none 0 0] 27, rB [vN X, vN Y, vN Z] 75, nW PA, nW PB, nW PC, rB [vN X, vN Y, vN Z, vS 6 A.length, vS 7 B.length, vS 8 C.length] 27, rB [vN (i / Z / Y), vN (i / Z % Y), vN (i % Z)] 74]) (3 - 0) (mkT 75 [(1, vI 2), (2, vP 3 0), (4, vP 4 0), (6, vP 5 0), (7, vP 9 0), (9, vP 10 0), (42, vN (X * Y * Z)), (43, vN i), (49, vI 0)]) [nR A, nR B, nR C, rB [vN X, vN Y, vN Z, vS 0 A.length, vS 1 B.length, vS 2 C.length] 27, rB [vI 0, vI 0, vI 0, .slice none 0 0, .slice none 0 0, .slice none 0 0] 27, rB [vN X, vN Y, vN Z] 75, nW MA, nW MB, nW MC, rB [vN X, vN Y, vN Z, vS 6 A.length, vS 7 B.length, vS 8 C.length] 27, rB [vN (i / Z / Y), vN (i / Z % Y), vN (i % Z)] 74] (wkSame [1, 2, 4, 6, 7, 9, 42, 43, 49] (by kernel_rfl)) ?_ ?_
     ·
      exact ⟨0, MA, MB, MC, (Nat.zero_le _), (hMA), (hMB), (hMC), rfl, rfl, rfl⟩
     ·
      rintro _ _ _ ⟨d, PA, PB, PC, hd, hPA, hPB, hPC, rfl, rfl, rfl⟩
      have hPlA : PA.length = X * Y := (by rw [hPA]; exact mirT_length 2 2 X Y Z A _); have hPlB : PB.length = X * Z := (by rw [hPB]; exact mirT_length 1 2 X Y Z B _); have hPlC : PC.length = Y * Z := (by rw [hPC]; exact mirT_length 0 2 X Y Z C _)
      have hcase : d = 0 ∨ d = 1 ∨ d = 2 ∨ d = 3 := by omega
      rcases hcase with rfl | rfl | rfl | rfl
      ·
       refine cSeq ?_
       refine cReg ?_
       refine segEndH [1, 2, 4, 6, 7, 9, 42, 43, 49, 50] (T1 := (mkT 75 [(1, vI 2), (2, vP 3 0), (4, vP 4 0), (6, vP 5 0), (7, vP 9 0), (9, vP 10 0), (42, vN (X * Y * Z)), (43, vN i), (49, vI 0), (50, .bool true)])) (by kernel_rfl) ?_
       refine kSeq ?_
       refine cSeq ?_
       refine cTrue (by kernel_rfl) ?_
       refine cSkip ?_
       refine kSeq ?_
       refine cSeq ?_
       refine cBlk ?_
       refine cSeq ?_
       refine cReg ?_
       refine segEndH [1, 2, 4, 6, 7, 9, 10, 42, 43, 49] (T1 := (mkT 75 [(1, vI 2), (2, vP 3 0), (4, vP 4 0), (6, vP 5 0), (7, vP 9 0), (9, vP 10 0), (10, vI 0), (42, vN (X * Y * Z)), (43, vN i), (49, vI 0)])) (by kernel_rfl) ?_
       refine kSeq ?_
       refine cRegW (N := 11) [⟨[], [], [9]⟩, ⟨[], [], []⟩, ⟨[], [], [6, 7, 8]⟩, ⟨[], [], [5]⟩, ⟨[], [], [5]⟩, ⟨[], [], [10]⟩, ⟨[], [], []⟩, ⟨[], [], []⟩, ⟨[], [], []⟩, ⟨[], [], []⟩, ⟨[], [], [3]⟩, ⟨[], [], []⟩, ⟨[], [], [0, 1, 2]⟩, ⟨[], [], [5]⟩, ⟨[], [], [10]⟩, ⟨[], [], []⟩, ⟨[], [], []⟩, ⟨[], [], []⟩, ⟨[], [], [2]⟩, ⟨[], [], []⟩, ⟨[], [8], []⟩] 0 [] (by rfl) (by rfl) (by kernel_rfl) (by kernel_rfl) (by kernel_rfl) ⟨nmsF (flatNums _ _ _ _), ⟨nmsF (flatNums _ _ _ _), ⟨nmsF (flatNums _ _ _ _), ⟨nmsX (by kernel_rfl), ⟨nmsX (by kernel_rfl), ⟨nmsX (by kernel_rfl), ⟨nmsF (flatNums _ _ _ _), ⟨nmsF (flatNums _ _ _ _), ⟨nmsF (flatNums _ _ _ _), ⟨nmsX (by kernel_rfl), ⟨nmsX (by kernel_rfl), trivial⟩⟩⟩⟩⟩⟩⟩⟩⟩⟩⟩ ?_
       refine segWH 2 (T1 := (mkT 75 [(1, vI 2), (2, vP 3 0), (4, vP 4 0), (6, vP 5 0), (7, vP 9 0), (9, vP 10 0), (10, vI 0), (42, vN (X * Y * Z)), (43, vN i), (49, vI 0), (52, .agg #[vN X, vN Y, vN Z, vS 6 A.length, vS 7 B.length, vS 8 C.length]), (53, vI 0)])) (by kernel_rfl) ?_
       refine rW (m := ⟨[], [], [6, 7, 8]⟩) (v := vS 8 C.length) rfl (by kernel_rfl) (stQ (args := [.agg #[vN X, vN Y, vN Z, vS 6 A.length, vS 7 B.length, vS 8 C.length], vI 0]) rfl (by kernel_rfl) (Any.lay0 [6, 7, 8] (shListG0 ((X : Nat) : Int) ((Y : Nat) : Int) ((Z : Nat) : Int) A.length B.length C.length PA PB PC) ⟨rdF true (flatNums _ _ _ _) rfl rfl, ⟨rdF true (flatNums _ _ _ _) rfl rfl, ⟨rdF true (flatNums _ _ _ _) rfl rfl, trivial⟩⟩⟩ rfl ⟨clF (flatNums _ _ _ _), ⟨clF (flatNums _ _ _ _), ⟨clF (flatNums _ _ _ _), trivial⟩⟩⟩ rfl (by first | rfl | simp [mpV, mpA, mpS, mpP, renId, shift]) rfl) rfl (by kernel_rfl) (by kernel_rfl)) (by kernel_rfl) nr0 ?_
       refine segWH 4 (T1 := (mkT 75 [(1, vI 2), (2, vP 3 0), (4, vP 4 0), (6, vP 5 0), (7, vP 9 0), (9, vP 10 0), (10, vI 0), (42, vN (X * Y * Z)), (43, vN i), (49, vI 0), (52, .agg #[vN X, vN Y, vN Z, vS 6 A.length, vS 7 B.length, vS 8 C.length]), (53, vI 0), (54, vS 8 C.length), (55, .agg #[vN X, vN Y, vN Z]), (56, .agg #[vN X, vN Y, vN Z]), (57, .agg #[vN (i / Z / Y), vN (i / Z % Y), vN (i % Z)]), (58, vI 2)])) (by kernel_rfl) ?_
       refine rW (m := ⟨[], [], []⟩) (v := .agg #[vN (i / Z / Y), vN (i / Z % Y), vI (((Z : Nat) : Int) - 1 - ((i % Z : Nat) : Int))]) rfl (by kernel_rfl) (stQ (args := [.agg #[vN X, vN Y, vN Z], .agg #[vN (i / Z / Y), vN (i / Z % Y), vN (i % Z)], vI 2]) rfl (by kernel_rfl) (Any.lay0 [] (mirror2 X Y Z ((i / Z / Y : Nat) : Int) ((i / Z % Y : Nat) : Int) ((i % Z : Nat) : Int) (by first | assumption | omega | rfl | decide | exact HeapL.list _ _ _ _ | exact HeapL.nil _ _ _ | exact HeapL.all _ _ _ | (apply HeapL.lt64 <;> assumption) | (repeat' (first | assumption | apply or_lt64 | apply and_lt64 | apply andn_lt64 | apply pow_lt64 | (apply HeapL.lt64 <;> assumption)))) (by first | assumption | exact hhas | exact hmir)) trivial rfl trivial rfl (by first | rfl | simp [mpV, mpA, mpS, mpP, renId, shift]) (by first | rfl | simp [mpV, mpA, mpS, mpP, renId, shift])) rfl (by kernel_rfl) (by kernel_rfl)) (by kernel_rfl) nr0 ?_
       refine segWH 1 (T1 := (mkT 75 [(1, vI 2), (2, vP 3 0), (4, vP 4 0), (6, vP 5 0), (7, vP 9 0), (9, vP 10 0), (10, vI 0), (42, vN (X * Y * Z)), (43, vN i), (49, vI 0), (52, .agg #[vN X, vN Y, vN Z, vS 6 A.length, vS 7 B.length, vS 8 C.length]), (53, vI 0), (54, vS 8 C.length), (55, .agg #[vN X, vN Y, vN Z]), (56, .agg #[vN X, vN Y, vN Z]), (57, .agg #[vN (i / Z / Y), vN (i / Z % Y), vN (i % Z)]), (58, vI 2), (59, .agg #[vN (i / Z / Y), vN (i / Z % Y), vI (((Z : Nat) : Int) - 1 - ((i % Z : Nat) : Int))]), (60, vI 0)])) (by kernel_rfl) ?_
       refine rW (m := ⟨[], [], []⟩) (v := vI (((i / Z % Y : Nat) : Int) * (Z : Int) + (((Z : Nat) : Int) - 1 - ((i % Z : Nat) : Int)))) rfl (by kernel_rfl) (stQ (args := [.agg #[vN X, vN Y, vN Z], .agg #[vN (i / Z / Y), vN (i / Z % Y), vI (((Z : Nat) : Int) - 1 - ((i % Z : Nat) : Int))], vI 0]) rfl (by kernel_rfl) (Any.lay0 [] (line0 X Y Z ((i / Z / Y : Nat) : Int) ((i / Z % Y : Nat) : Int) (((Z : Nat) : Int) - 1 - ((i % Z : Nat) : Int)) (by first | assumption | omega | rfl | decide | exact HeapL.list _ _ _ _ | exact HeapL.nil _ _ _ | exact HeapL.all _ _ _ | (apply HeapL.lt64 <;> assumption) | (repeat' (first | assumption | apply or_lt64 | apply and_lt64 | apply andn_lt64 | apply pow_lt64 | (apply HeapL.lt64 <;> assumption)))) (by first | assumption | exact hhas | exact hmir)) trivial rfl trivial rfl (by first | rfl | simp [mpV, mpA, mpS, mpP, renId, shift]) rfl) rfl (by kernel_rfl) (by kernel_rfl)) (by kernel_rfl) nr0 ?_
       refine segWH 2 (T1 := (mkT 75 [(1, vI 2), (2, vP 3 0), (4, vP 4 0), (6, vP 5 0), (7, vP 9 0), (9, vP 10 0), (10, vI 0), (42, vN (X * Y * Z)), (43, vN i), (49, vI 0), (52, .agg #[vN X, vN Y, vN Z, vS 6 A.length, vS 7 B.length, vS 8 C.length]), (53, vI 0), (54, vS 8 C.length), (55, .agg #[vN X, vN Y, vN Z]), (56, .agg #[vN X, vN Y, vN Z]), (57, .agg #[vN (i / Z / Y), vN (i / Z % Y), vN (i % Z)]), (58, vI 2), (59, .agg #[vN (i / Z / Y), vN (i / Z % Y), vI (((Z : Nat) : Int) - 1 - ((i % Z : Nat) : Int))]), (60, vI 0), (61, vI (((i / Z % Y : Nat) : Int) * (Z : Int) + (((Z : Nat) : Int) - 1 - ((i % Z : Nat) : Int)))), (62, .agg #[vN X, vN Y, vN Z, vS 0 A.length, vS 1 B.length, vS 2 C.length]), (63, vI 0)])) (by kernel_rfl) ?_
       refine rW (m := ⟨[], [], [0, 1, 2]⟩) (v := vS 2 C.length) rfl (by kernel_rfl) (stQ (args := [.agg #[vN X, vN Y, vN Z, vS 0 A.length, vS 1 B.length, vS 2 C.length], vI 0]) rfl (by kernel_rfl) (Any.lay0 [0, 1, 2] (shListG0 ((X : Nat) : Int) ((Y : Nat) : Int) ((Z : Nat) : Int) A.length B.length C.length A B C) ⟨rdF false (flatNums _ _ _ _) rfl rfl, ⟨rdF false (flatNums _ _ _ _) rfl rfl, ⟨rdF false (flatNums _ _ _ _) rfl rfl, trivial⟩⟩⟩ rfl ⟨clF (flatNums _ _ _ _), ⟨clF (flatNums _ _ _ _), ⟨clF (flatNums _ _ _ _), trivial⟩⟩⟩ rfl (by first | rfl | simp [mpV, mpA, mpS, mpP, renId, shift]) rfl) rfl (by kernel_rfl) (by kernel_rfl)) (by kernel_rfl) nr0 ?_
       refine segWH 3 (T1 := (mkT 75 [(1, vI 2), (2, vP 3 0), (4, vP 4 0), (6, vP 5 0), (7, vP 9 0), (9, vP 10 0), (10, vI 0), (42, vN (X * Y * Z)), (43, vN i), (49, vI 0), (52, .agg #[vN X, vN Y, vN Z, vS 6 A.length, vS 7 B.length, vS 8 C.length]), (53, vI 0), (54, vS 8 C.length), (55, .agg #[vN X, vN Y, vN Z]), (56, .agg #[vN X, vN Y, vN Z]), (57, .agg #[vN (i / Z / Y), vN (i / Z % Y), vN (i % Z)]), (58, vI 2), (59, .agg #[vN (i / Z / Y), vN (i / Z % Y), vI (((Z : Nat) : Int) - 1 - ((i % Z : Nat) : Int))]), (60, vI 0), (61, vI (((i / Z % Y : Nat) : Int) * (Z : Int) + (((Z : Nat) : Int) - 1 - ((i % Z : Nat) : Int)))), (62, .agg #[vN X, vN Y, vN Z, vS 0 A.length, vS 1 B.length, vS 2 C.length]), (63, vI 0), (64, vS 2 C.length), (65, .agg #[vN X, vN Y, vN Z]), (66, .agg #[vN (i / Z / Y), vN (i / Z % Y), vN (i % Z)]), (67, vI 0)])) (by kernel_rfl) ?_
       refine rW (m := ⟨[], [], []⟩) (v := vI (((i / Z % Y : Nat) : Int) * (Z : Int) + ((i % Z : Nat) : Int))) rfl (by kernel_rfl) (stQ (args := [.agg #[vN X, vN Y, vN Z], .agg #[vN (i / Z / Y), vN (i / Z % Y), vN (i % Z)], vI 0]) rfl (by kernel_rfl) (Any.lay0 [] (line0 X Y Z ((i / Z / Y : Nat) : Int) ((i / Z % Y : Nat) : Int) ((i % Z : Nat) : Int) (by first | assumption | omega | rfl | decide | exact HeapL.list _ _ _ _ | exact HeapL.nil _ _ _ | exact HeapL.all _ _ _ | (apply HeapL.lt64 <;> assumption) | (repeat' (first | assumption | apply or_lt64 | apply and_lt64 | apply andn_lt64 | apply pow_lt64 | (apply HeapL.lt64 <;> assumption)))) (by first | assumption | exact hhas | exact hmir)) trivial rfl trivial rfl (by first | rfl | simp [mpV, mpA, mpS, mpP, renId, shift]) rfl) rfl (by kernel_rfl) (by kernel_rfl)) (by kernel_rfl) nr0 ?_
       refine rW (m := ⟨[], [], []⟩) (v := vP 2 ((((i / Z % Y : Nat) : Int) * (Z : Int) + ((i % Z : Nat) : Int)).toNat)) rfl (by kernel_rfl) (stId (eIdxS (ad := ⟨2, 0, none⟩) (n := C.length) (m := 0) (k := .i64) (c := (((i / Z % Y : Nat) : Int) * (Z : Int) + ((i % Z : Nat) : Int))) (j := ((((i / Z % Y : Nat) : Int) * (Z : Int) + ((i % Z : Nat) : Int)).toNat)) (o := (((i / Z % Y : Nat) : Int) * (Z : Int) + ((i % Z : Nat) : Int)).toNat) (by kernel_rfl) (by kernel_rfl) ti22 ti3 (by omega) (by omega) (by simp)) rfl (by kernel_rfl) (by kernel_rfl) (by kernel_rfl)) (by kernel_rfl) nr0 ?_
       refine rW (m := ⟨[], [], [2]⟩) (v := vI (C.getD ((((i / Z % Y : Nat) : Int) * (Z : Int) + ((i % Z : Nat) : Int)).toNat) 0)) rfl (by kernel_rfl) (stId (eLdNum (ad := ⟨2, (((i / Z % Y : Nat) : Int) * (Z : Int) + ((i % Z : Nat) : Int)).toNat, none⟩) (r := ⟨nums C, 3, false, false⟩) (L := C) (j := ((((i / Z % Y : Nat) : Int) * (Z : Int) + ((i % Z : Nat) : Int)).toNat)) (by kernel_rfl) (by kernel_rfl) rfl (by first | rfl | omega) (by omega) ti3 rfl) rfl (by kernel_rfl) (by kernel_rfl) (by kernel_rfl)) (by kernel_rfl) nr0 ?_
       refine rW (m := ⟨[], [], []⟩) (v := vP 8 ((((i / Z % Y : Nat) : Int) * (Z : Int) + (((Z : Nat) : Int) - 1 - ((i % Z : Nat) : Int))).toNat)) rfl (by kernel_rfl) (stId (eIdxS (ad := ⟨8, 0, none⟩) (n := C.length) (m := 0) (k := .i64) (c := (((i / Z % Y : Nat) : Int) * (Z : Int) + (((Z : Nat) : Int) - 1 - ((i % Z : Nat) : Int)))) (j := ((((i / Z % Y : Nat) : Int) * (Z : Int) + (((Z : Nat) : Int) - 1 - ((i % Z : Nat) : Int))).toNat)) (o := (((i / Z % Y : Nat) : Int) * (Z : Int) + (((Z : Nat) : Int) - 1 - ((i % Z : Nat) : Int))).toNat) (by kernel_rfl) (by kernel_rfl) ti22 ti3 (by omega) (by omega) (by simp)) rfl (by kernel_rfl) (by kernel_rfl) (by kernel_rfl)) (by kernel_rfl) nr0 ?_
       refine rW (m := ⟨[], [8], []⟩) (v := .tuple #[]) rfl (by kernel_rfl) (stSet (b := 8) (r := ⟨nums (PC.set ((((i / Z % Y : Nat) : Int) * (Z : Int) + (((Z : Nat) : Int) - 1 - ((i % Z : Nat) : Int))).toNat) (C.getD ((((i / Z % Y : Nat) : Int) * (Z : Int) + ((i % Z : Nat) : Int)).toNat) 0)), 3, false, true⟩) (eStNum (b := 8) (o := ((((i / Z % Y : Nat) : Int) * (Z : Int) + (((Z : Nat) : Int) - 1 - ((i % Z : Nat) : Int))).toNat)) (L := PC) (n := (C.getD ((((i / Z % Y : Nat) : Int) * (Z : Int) + ((i % Z : Nat) : Int)).toNat) 0)) (e := 3) (bx := false) (by kernel_rfl) (by kernel_rfl) (by kernel_rfl) (by omega) ti3 rfl (by rfl)) rfl (by kernel_rfl) (by kernel_rfl) (by kernel_rfl) (by kernel_rfl) (nmF (flatNums _ _ _ _)) (clF (flatNums _ _ _ _))) (by kernel_rfl) (NRs.all ⟨nrOf (by rfl) (nmF (flatNums _ _ _ _)), trivial⟩) ?_
       refine segEndW [1, 2, 4, 6, 7, 9, 42, 43, 49] (T1 := (mkT 75 [(1, vI 2), (2, vP 3 0), (4, vP 4 0), (6, vP 5 0), (7, vP 9 0), (9, vP 10 0), (42, vN (X * Y * Z)), (43, vN i), (49, vI 0)])) (H1 := [nR A, nR B, nR C, rB [vN X, vN Y, vN Z, vS 0 A.length, vS 1 B.length, vS 2 C.length] 27, rB [vI 0, vI 0, vI 0, .slice none 0 0, .slice none 0 0, .slice none 0 0] 27, rB [vN X, vN Y, vN Z] 75, nW PA, nW PB, some ⟨nums (PC.set ((((i / Z % Y : Nat) : Int) * (Z : Int) + (((Z : Nat) : Int) - 1 - ((i % Z : Nat) : Int))).toNat) (C.getD ((((i / Z % Y : Nat) : Int) * (Z : Int) + ((i % Z : Nat) : Int)).toNat) 0)), 3, false, true⟩, rB [vN X, vN Y, vN Z, vS 6 A.length, vS 7 B.length, vS 8 C.length] 27, rB [vN (i / Z / Y), vN (i / Z % Y), vN (i % Z)] 74]) (by kernel_rfl) ?_
       refine kBlk ?_
       refine kSeq ?_
       refine cReg ?_
       refine segEndH [1, 2, 4, 6, 7, 9, 42, 43, 49] (T1 := (mkT 75 [(1, vI 2), (2, vP 3 0), (4, vP 4 0), (6, vP 5 0), (7, vP 9 0), (9, vP 10 0), (42, vN (X * Y * Z)), (43, vN i), (49, vI 1)])) (by kernel_rfl) ?_
       exact kLoop (3 - 1) (mkT 75 [(1, vI 2), (2, vP 3 0), (4, vP 4 0), (6, vP 5 0), (7, vP 9 0), (9, vP 10 0), (42, vN (X * Y * Z)), (43, vN i), (49, vI 1)]) [nR A, nR B, nR C, rB [vN X, vN Y, vN Z, vS 0 A.length, vS 1 B.length, vS 2 C.length] 27, rB [vI 0, vI 0, vI 0, .slice none 0 0, .slice none 0 0, .slice none 0 0] 27, rB [vN X, vN Y, vN Z] 75, nW PA, nW PB, some ⟨nums (PC.set ((((i / Z % Y : Nat) : Int) * (Z : Int) + (((Z : Nat) : Int) - 1 - ((i % Z : Nat) : Int))).toNat) (C.getD ((((i / Z % Y : Nat) : Int) * (Z : Int) + ((i % Z : Nat) : Int)).toNat) 0)), 3, false, true⟩, rB [vN X, vN Y, vN Z, vS 6 A.length, vS 7 B.length, vS 8 C.length] 27, rB [vN (i / Z / Y), vN (i / Z % Y), vN (i % Z)] 74] (by omega) (wkSame [1, 2, 4, 6, 7, 9, 42, 43, 49] (by kernel_rfl)) ⟨1, PA, PB, (PC.set ((((i / Z % Y : Nat) : Int) * (Z : Int) + (((Z : Nat) : Int) - 1 - ((i % Z : Nat) : Int))).toNat) (C.getD ((((i / Z % Y : Nat) : Int) * (Z : Int) + ((i % Z : Nat) : Int)).toNat) 0)), (by omega), (hPA), (hPB), (mirT_step 0 2 X Y Z C i hPC rfl rfl), rfl, rfl, rfl⟩
      ·
       refine cSeq ?_
       refine cReg ?_
       refine segEndH [1, 2, 4, 6, 7, 9, 42, 43, 49, 50] (T1 := (mkT 75 [(1, vI 2), (2, vP 3 0), (4, vP 4 0), (6, vP 5 0), (7, vP 9 0), (9, vP 10 0), (42, vN (X * Y * Z)), (43, vN i), (49, vI 1), (50, .bool true)])) (by kernel_rfl) ?_
       refine kSeq ?_
       refine cSeq ?_
       refine cTrue (by kernel_rfl) ?_
       refine cSkip ?_
       refine kSeq ?_
       refine cSeq ?_
       refine cBlk ?_
       refine cSeq ?_
       refine cReg ?_
       refine segEndH [1, 2, 4, 6, 7, 9, 10, 42, 43, 49] (T1 := (mkT 75 [(1, vI 2), (2, vP 3 0), (4, vP 4 0), (6, vP 5 0), (7, vP 9 0), (9, vP 10 0), (10, vI 1), (42, vN (X * Y * Z)), (43, vN i), (49, vI 1)])) (by kernel_rfl) ?_
       refine kSeq ?_
       refine cRegW (N := 11) [⟨[], [], [9]⟩, ⟨[], [], []⟩, ⟨[], [], [6, 7, 8]⟩, ⟨[], [], [5]⟩, ⟨[], [], [5]⟩, ⟨[], [], [10]⟩, ⟨[], [], []⟩, ⟨[], [], []⟩, ⟨[], [], []⟩, ⟨[], [], []⟩, ⟨[], [], [3]⟩, ⟨[], [], []⟩, ⟨[], [], [0, 1, 2]⟩, ⟨[], [], [5]⟩, ⟨[], [], [10]⟩, ⟨[], [], []⟩, ⟨[], [], []⟩, ⟨[], [], []⟩, ⟨[], [], [1]⟩, ⟨[], [], []⟩, ⟨[], [7], []⟩] 0 [] (by rfl) (by rfl) (by kernel_rfl) (by kernel_rfl) (by kernel_rfl) ⟨nmsF (flatNums _ _ _ _), ⟨nmsF (flatNums _ _ _ _), ⟨nmsF (flatNums _ _ _ _), ⟨nmsX (by kernel_rfl), ⟨nmsX (by kernel_rfl), ⟨nmsX (by kernel_rfl), ⟨nmsF (flatNums _ _ _ _), ⟨nmsF (flatNums _ _ _ _), ⟨nmsF (flatNums _ _ _ _), ⟨nmsX (by kernel_rfl), ⟨nmsX (by kernel_rfl), trivial⟩⟩⟩⟩⟩⟩⟩⟩⟩⟩⟩ ?_
       refine segWH 2 (T1 := (mkT 75 [(1, vI 2), (2, vP 3 0), (4, vP 4 0), (6, vP 5 0), (7, vP 9 0), (9, vP 10 0), (10, vI 1), (42, vN (X * Y * Z)), (43, vN i), (49, vI 1), (52, .agg #[vN X, vN Y, vN Z, vS 6 A.length, vS 7 B.length, vS 8 C.length]), (53, vI 1)])) (by kernel_rfl) ?_
       refine rW (m := ⟨[], [], [6, 7, 8]⟩) (v := vS 7 B.length) rfl (by kernel_rfl) (stQ (args := [.agg #[vN X, vN Y, vN Z, vS 6 A.length, vS 7 B.length, vS 8 C.length], vI 1]) rfl (by kernel_rfl) (Any.lay0 [6, 7, 8] (shListG1 ((X : Nat) : Int) ((Y : Nat) : Int) ((Z : Nat) : Int) A.length B.length C.length PA PB PC) ⟨rdF true (flatNums _ _ _ _) rfl rfl, ⟨rdF true (flatNums _ _ _ _) rfl rfl, ⟨rdF true (flatNums _ _ _ _) rfl rfl, trivial⟩⟩⟩ rfl ⟨clF (flatNums _ _ _ _), ⟨clF (flatNums _ _ _ _), ⟨clF (flatNums _ _ _ _), trivial⟩⟩⟩ rfl (by first | rfl | simp [mpV, mpA, mpS, mpP, renId, shift]) rfl) rfl (by kernel_rfl) (by kernel_rfl)) (by kernel_rfl) nr0 ?_
       refine segWH 4 (T1 := (mkT 75 [(1, vI 2), (2, vP 3 0), (4, vP 4 0), (6, vP 5 0), (7, vP 9 0), (9, vP 10 0), (10, vI 1), (42, vN (X * Y * Z)), (43, vN i), (49, vI 1), (52, .agg #[vN X, vN Y, vN Z, vS 6 A.length, vS 7 B.length, vS 8 C.length]), (53, vI 1), (54, vS 7 B.length), (55, .agg #[vN X, vN Y, vN Z]), (56, .agg #[vN X, vN Y, vN Z]), (57, .agg #[vN (i / Z / Y), vN (i / Z % Y), vN (i % Z)]), (58, vI 2)])) (by kernel_rfl) ?_
       refine rW (m := ⟨[], [], []⟩) (v := .agg #[vN (i / Z / Y), vN (i / Z % Y), vI (((Z : Nat) : Int) - 1 - ((i % Z : Nat) : Int))]) rfl (by kernel_rfl) (stQ (args := [.agg #[vN X, vN Y, vN Z], .agg #[vN (i / Z / Y), vN (i / Z % Y), vN (i % Z)], vI 2]) rfl (by kernel_rfl) (Any.lay0 [] (mirror2 X Y Z ((i / Z / Y : Nat) : Int) ((i / Z % Y : Nat) : Int) ((i % Z : Nat) : Int) (by first | assumption | omega | rfl | decide | exact HeapL.list _ _ _ _ | exact HeapL.nil _ _ _ | exact HeapL.all _ _ _ | (apply HeapL.lt64 <;> assumption) | (repeat' (first | assumption | apply or_lt64 | apply and_lt64 | apply andn_lt64 | apply pow_lt64 | (apply HeapL.lt64 <;> assumption)))) (by first | assumption | exact hhas | exact hmir)) trivial rfl trivial rfl (by first | rfl | simp [mpV, mpA, mpS, mpP, renId, shift]) (by first | rfl | simp [mpV, mpA, mpS, mpP, renId, shift])) rfl (by kernel_rfl) (by kernel_rfl)) (by kernel_rfl) nr0 ?_
       refine segWH 1 (T1 := (mkT 75 [(1, vI 2), (2, vP 3 0), (4, vP 4 0), (6, vP 5 0), (7, vP 9 0), (9, vP 10 0), (10, vI 1), (42, vN (X * Y * Z)), (43, vN i), (49, vI 1), (52, .agg #[vN X, vN Y, vN Z, vS 6 A.length, vS 7 B.length, vS 8 C.length]), (53, vI 1), (54, vS 7 B.length), (55, .agg #[vN X, vN Y, vN Z]), (56, .agg #[vN X, vN Y, vN Z]), (57, .agg #[vN (i / Z / Y), vN (i / Z % Y), vN (i % Z)]), (58, vI 2), (59, .agg #[vN (i / Z / Y), vN (i / Z % Y), vI (((Z : Nat) : Int) - 1 - ((i % Z : Nat) : Int))]), (60, vI 1)])) (by kernel_rfl) ?_
       refine rW (m := ⟨[], [], []⟩) (v := vI (((i / Z / Y : Nat) : Int) * (Z : Int) + (((Z : Nat) : Int) - 1 - ((i % Z : Nat) : Int)))) rfl (by kernel_rfl) (stQ (args := [.agg #[vN X, vN Y, vN Z], .agg #[vN (i / Z / Y), vN (i / Z % Y), vI (((Z : Nat) : Int) - 1 - ((i % Z : Nat) : Int))], vI 1]) rfl (by kernel_rfl) (Any.lay0 [] (line1 X Y Z ((i / Z / Y : Nat) : Int) ((i / Z % Y : Nat) : Int) (((Z : Nat) : Int) - 1 - ((i % Z : Nat) : Int)) (by first | assumption | omega | rfl | decide | exact HeapL.list _ _ _ _ | exact HeapL.nil _ _ _ | exact HeapL.all _ _ _ | (apply HeapL.lt64 <;> assumption) | (repeat' (first | assumption | apply or_lt64 | apply and_lt64 | apply andn_lt64 | apply pow_lt64 | (apply HeapL.lt64 <;> assumption)))) (by first | assumption | exact hhas | exact hmir)) trivial rfl trivial rfl (by first | rfl | simp [mpV, mpA, mpS, mpP, renId, shift]) rfl) rfl (by kernel_rfl) (by kernel_rfl)) (by kernel_rfl) nr0 ?_
       refine segWH 2 (T1 := (mkT 75 [(1, vI 2), (2, vP 3 0), (4, vP 4 0), (6, vP 5 0), (7, vP 9 0), (9, vP 10 0), (10, vI 1), (42, vN (X * Y * Z)), (43, vN i), (49, vI 1), (52, .agg #[vN X, vN Y, vN Z, vS 6 A.length, vS 7 B.length, vS 8 C.length]), (53, vI 1), (54, vS 7 B.length), (55, .agg #[vN X, vN Y, vN Z]), (56, .agg #[vN X, vN Y, vN Z]), (57, .agg #[vN (i / Z / Y), vN (i / Z % Y), vN (i % Z)]), (58, vI 2), (59, .agg #[vN (i / Z / Y), vN (i / Z % Y), vI (((Z : Nat) : Int) - 1 - ((i % Z : Nat) : Int))]), (60, vI 1), (61, vI (((i / Z / Y : Nat) : Int) * (Z : Int) + (((Z : Nat) : Int) - 1 - ((i % Z : Nat) : Int)))), (62, .agg #[vN X, vN Y, vN Z, vS 0 A.length, vS 1 B.length, vS 2 C.length]), (63, vI 1)])) (by kernel_rfl) ?_
       refine rW (m := ⟨[], [], [0, 1, 2]⟩) (v := vS 1 B.length) rfl (by kernel_rfl) (stQ (args := [.agg #[vN X, vN Y, vN Z, vS 0 A.length, vS 1 B.length, vS 2 C.length], vI 1]) rfl (by kernel_rfl) (Any.lay0 [0, 1, 2] (shListG1 ((X : Nat) : Int) ((Y : Nat) : Int) ((Z : Nat) : Int) A.length B.length C.length A B C) ⟨rdF false (flatNums _ _ _ _) rfl rfl, ⟨rdF false (flatNums _ _ _ _) rfl rfl, ⟨rdF false (flatNums _ _ _ _) rfl rfl, trivial⟩⟩⟩ rfl ⟨clF (flatNums _ _ _ _), ⟨clF (flatNums _ _ _ _), ⟨clF (flatNums _ _ _ _), trivial⟩⟩⟩ rfl (by first | rfl | simp [mpV, mpA, mpS, mpP, renId, shift]) rfl) rfl (by kernel_rfl) (by kernel_rfl)) (by kernel_rfl) nr0 ?_
       refine segWH 3 (T1 := (mkT 75 [(1, vI 2), (2, vP 3 0), (4, vP 4 0), (6, vP 5 0), (7, vP 9 0), (9, vP 10 0), (10, vI 1), (42, vN (X * Y * Z)), (43, vN i), (49, vI 1), (52, .agg #[vN X, vN Y, vN Z, vS 6 A.length, vS 7 B.length, vS 8 C.length]), (53, vI 1), (54, vS 7 B.length), (55, .agg #[vN X, vN Y, vN Z]), (56, .agg #[vN X, vN Y, vN Z]), (57, .agg #[vN (i / Z / Y), vN (i / Z % Y), vN (i % Z)]), (58, vI 2), (59, .agg #[vN (i / Z / Y), vN (i / Z % Y), vI (((Z : Nat) : Int) - 1 - ((i % Z : Nat) : Int))]), (60, vI 1), (61, vI (((i / Z / Y : Nat) : Int) * (Z : Int) + (((Z : Nat) : Int) - 1 - ((i % Z : Nat) : Int)))), (62, .agg #[vN X, vN Y, vN Z, vS 0 A.length, vS 1 B.length, vS 2 C.length]), (63, vI 1), (64, vS 1 B.length), (65, .agg #[vN X, vN Y, vN Z]), (66, .agg #[vN (i / Z / Y), vN (i / Z % Y), vN (i % Z)]), (67, vI 1)])) (by kernel_rfl) ?_
       refine rW (m := ⟨[], [], []⟩) (v := vI (((i / Z / Y : Nat) : Int) * (Z : Int) + ((i % Z : Nat) : Int))) rfl (by kernel_rfl) (stQ (args := [.agg #[vN X, vN Y, vN Z], .agg #[vN (i / Z / Y), vN (i / Z % Y), vN (i % Z)], vI 1]) rfl (by kernel_rfl) (Any.lay0 [] (line1 X Y Z ((i / Z / Y : Nat) : Int) ((i / Z % Y : Nat) : Int) ((i % Z : Nat) : Int) (by first | assumption | omega | rfl | decide | exact HeapL.list _ _ _ _ | exact HeapL.nil _ _ _ | exact HeapL.all _ _ _ | (apply HeapL.lt64 <;> assumption) | (repeat' (first | assumption | apply or_lt64 | apply and_lt64 | apply andn_lt64 | apply pow_lt64 | (apply HeapL.lt64 <;> assumption)))) (by first | assumption | exact hhas | exact hmir)) trivial rfl trivial rfl (by first | rfl | simp [mpV, mpA, mpS, mpP, renId, shift]) rfl) rfl (by kernel_rfl) (by kernel_rfl)) (by kernel_rfl) nr0 ?_
       refine rW (m := ⟨[], [], []⟩) (v := vP 1 ((((i / Z / Y : Nat) : Int) * (Z : Int) + ((i % Z : Nat) : Int)).toNat)) rfl (by kernel_rfl) (stId (eIdxS (ad := ⟨1, 0, none⟩) (n := B.length) (m := 0) (k := .i64) (c := (((i / Z / Y : Nat) : Int) * (Z : Int) + ((i % Z : Nat) : Int))) (j := ((((i / Z / Y : Nat) : Int) * (Z : Int) + ((i % Z : Nat) : Int)).toNat)) (o := (((i / Z / Y : Nat) : Int) * (Z : Int) + ((i % Z : Nat) : Int)).toNat) (by kernel_rfl) (by kernel_rfl) ti22 ti3 (by omega) (by omega) (by simp)) rfl (by kernel_rfl) (by kernel_rfl) (by kernel_rfl)) (by kernel_rfl) nr0 ?_
       refine rW (m := ⟨[], [], [1]⟩) (v := vI (B.getD ((((i / Z / Y : Nat) : Int) * (Z : Int) + ((i % Z : Nat) : Int)).toNat) 0)) rfl (by kernel_rfl) (stId (eLdNum (ad := ⟨1, (((i / Z / Y : Nat) : Int) * (Z : Int) + ((i % Z : Nat) : Int)).toNat, none⟩) (r := ⟨nums B, 3, false, false⟩) (L := B) (j := ((((i / Z / Y : Nat) : Int) * (Z : Int) + ((i % Z : Nat) : Int)).toNat)) (by kernel_rfl) (by kernel_rfl) rfl (by first | rfl | omega) (by omega) ti3 rfl) rfl (by kernel_rfl) (by kernel_rfl) (by kernel_rfl)) (by kernel_rfl) nr0 ?_
       refine rW (m := ⟨[], [], []⟩) (v := vP 7 ((((i / Z / Y : Nat) : Int) * (Z : Int) + (((Z : Nat) : Int) - 1 - ((i % Z : Nat) : Int))).toNat)) rfl (by kernel_rfl) (stId (eIdxS (ad := ⟨7, 0, none⟩) (n := B.length) (m := 0) (k := .i64) (c := (((i / Z / Y : Nat) : Int) * (Z : Int) + (((Z : Nat) : Int) - 1 - ((i % Z : Nat) : Int)))) (j := ((((i / Z / Y : Nat) : Int) * (Z : Int) + (((Z : Nat) : Int) - 1 - ((i % Z : Nat) : Int))).toNat)) (o := (((i / Z / Y : Nat) : Int) * (Z : Int) + (((Z : Nat) : Int) - 1 - ((i % Z : Nat) : Int))).toNat) (by kernel_rfl) (by kernel_rfl) ti22 ti3 (by omega) (by omega) (by simp)) rfl (by kernel_rfl) (by kernel_rfl) (by kernel_rfl)) (by kernel_rfl) nr0 ?_
       refine rW (m := ⟨[], [7], []⟩) (v := .tuple #[]) rfl (by kernel_rfl) (stSet (b := 7) (r := ⟨nums (PB.set ((((i / Z / Y : Nat) : Int) * (Z : Int) + (((Z : Nat) : Int) - 1 - ((i % Z : Nat) : Int))).toNat) (B.getD ((((i / Z / Y : Nat) : Int) * (Z : Int) + ((i % Z : Nat) : Int)).toNat) 0)), 3, false, true⟩) (eStNum (b := 7) (o := ((((i / Z / Y : Nat) : Int) * (Z : Int) + (((Z : Nat) : Int) - 1 - ((i % Z : Nat) : Int))).toNat)) (L := PB) (n := (B.getD ((((i / Z / Y : Nat) : Int) * (Z : Int) + ((i % Z : Nat) : Int)).toNat) 0)) (e := 3) (bx := false) (by kernel_rfl) (by kernel_rfl) (by kernel_rfl) (by omega) ti3 rfl (by rfl)) rfl (by kernel_rfl) (by kernel_rfl) (by kernel_rfl) (by kernel_rfl) (nmF (flatNums _ _ _ _)) (clF (flatNums _ _ _ _))) (by kernel_rfl) (NRs.all ⟨nrOf (by rfl) (nmF (flatNums _ _ _ _)), trivial⟩) ?_
       refine segEndW [1, 2, 4, 6, 7, 9, 42, 43, 49] (T1 := (mkT 75 [(1, vI 2), (2, vP 3 0), (4, vP 4 0), (6, vP 5 0), (7, vP 9 0), (9, vP 10 0), (42, vN (X * Y * Z)), (43, vN i), (49, vI 1)])) (H1 := [nR A, nR B, nR C, rB [vN X, vN Y, vN Z, vS 0 A.length, vS 1 B.length, vS 2 C.length] 27, rB [vI 0, vI 0, vI 0, .slice none 0 0, .slice none 0 0, .slice none 0 0] 27, rB [vN X, vN Y, vN Z] 75, nW PA, some ⟨nums (PB.set ((((i / Z / Y : Nat) : Int) * (Z : Int) + (((Z : Nat) : Int) - 1 - ((i % Z : Nat) : Int))).toNat) (B.getD ((((i / Z / Y : Nat) : Int) * (Z : Int) + ((i % Z : Nat) : Int)).toNat) 0)), 3, false, true⟩, nW PC, rB [vN X, vN Y, vN Z, vS 6 A.length, vS 7 B.length, vS 8 C.length] 27, rB [vN (i / Z / Y), vN (i / Z % Y), vN (i % Z)] 74]) (by kernel_rfl) ?_
       refine kBlk ?_
       refine kSeq ?_
       refine cReg ?_
       refine segEndH [1, 2, 4, 6, 7, 9, 42, 43, 49] (T1 := (mkT 75 [(1, vI 2), (2, vP 3 0), (4, vP 4 0), (6, vP 5 0), (7, vP 9 0), (9, vP 10 0), (42, vN (X * Y * Z)), (43, vN i), (49, vI 2)])) (by kernel_rfl) ?_
       exact kLoop (3 - 2) (mkT 75 [(1, vI 2), (2, vP 3 0), (4, vP 4 0), (6, vP 5 0), (7, vP 9 0), (9, vP 10 0), (42, vN (X * Y * Z)), (43, vN i), (49, vI 2)]) [nR A, nR B, nR C, rB [vN X, vN Y, vN Z, vS 0 A.length, vS 1 B.length, vS 2 C.length] 27, rB [vI 0, vI 0, vI 0, .slice none 0 0, .slice none 0 0, .slice none 0 0] 27, rB [vN X, vN Y, vN Z] 75, nW PA, some ⟨nums (PB.set ((((i / Z / Y : Nat) : Int) * (Z : Int) + (((Z : Nat) : Int) - 1 - ((i % Z : Nat) : Int))).toNat) (B.getD ((((i / Z / Y : Nat) : Int) * (Z : Int) + ((i % Z : Nat) : Int)).toNat) 0)), 3, false, true⟩, nW PC, rB [vN X, vN Y, vN Z, vS 6 A.length, vS 7 B.length, vS 8 C.length] 27, rB [vN (i / Z / Y), vN (i / Z % Y), vN (i % Z)] 74] (by omega) (wkSame [1, 2, 4, 6, 7, 9, 42, 43, 49] (by kernel_rfl)) ⟨2, PA, (PB.set ((((i / Z / Y : Nat) : Int) * (Z : Int) + (((Z : Nat) : Int) - 1 - ((i % Z : Nat) : Int))).toNat) (B.getD ((((i / Z / Y : Nat) : Int) * (Z : Int) + ((i % Z : Nat) : Int)).toNat) 0)), PC, (by omega), (hPA), (mirT_step 1 2 X Y Z B i hPB rfl rfl), (hPC), rfl, rfl, rfl⟩
      ·
       refine cSeq ?_
       refine cReg ?_
       refine segEndH [1, 2, 4, 6, 7, 9, 42, 43, 49, 50] (T1 := (mkT 75 [(1, vI 2), (2, vP 3 0), (4, vP 4 0), (6, vP 5 0), (7, vP 9 0), (9, vP 10 0), (42, vN (X * Y * Z)), (43, vN i), (49, vI 2), (50, .bool true)])) (by kernel_rfl) ?_
       refine kSeq ?_
       refine cSeq ?_
       refine cTrue (by kernel_rfl) ?_
       refine cSkip ?_
       refine kSeq ?_
       refine cSeq ?_
       refine cBlk ?_
       refine cSeq ?_
       refine cReg ?_
       refine segEndH [1, 2, 4, 6, 7, 9, 10, 42, 43, 49] (T1 := (mkT 75 [(1, vI 2), (2, vP 3 0), (4, vP 4 0), (6, vP 5 0), (7, vP 9 0), (9, vP 10 0), (10, vI 2), (42, vN (X * Y * Z)), (43, vN i), (49, vI 2)])) (by kernel_rfl) ?_
       refine kSeq ?_
       refine cRegW (N := 11) [⟨[], [], [9]⟩, ⟨[], [], []⟩, ⟨[], [], [6, 7, 8]⟩, ⟨[], [], [5]⟩, ⟨[], [], [5]⟩, ⟨[], [], [10]⟩, ⟨[], [], []⟩, ⟨[], [], []⟩, ⟨[], [], []⟩, ⟨[], [], []⟩, ⟨[], [], [3]⟩, ⟨[], [], []⟩, ⟨[], [], [0, 1, 2]⟩, ⟨[], [], [5]⟩, ⟨[], [], [10]⟩, ⟨[], [], []⟩, ⟨[], [], []⟩, ⟨[], [], []⟩, ⟨[], [], [0]⟩, ⟨[], [], []⟩, ⟨[], [6], []⟩] 0 [] (by rfl) (by rfl) (by kernel_rfl) (by kernel_rfl) (by kernel_rfl) ⟨nmsF (flatNums _ _ _ _), ⟨nmsF (flatNums _ _ _ _), ⟨nmsF (flatNums _ _ _ _), ⟨nmsX (by kernel_rfl), ⟨nmsX (by kernel_rfl), ⟨nmsX (by kernel_rfl), ⟨nmsF (flatNums _ _ _ _), ⟨nmsF (flatNums _ _ _ _), ⟨nmsF (flatNums _ _ _ _), ⟨nmsX (by kernel_rfl), ⟨nmsX (by kernel_rfl), trivial⟩⟩⟩⟩⟩⟩⟩⟩⟩⟩⟩ ?_
       refine segWH 2 (T1 := (mkT 75 [(1, vI 2), (2, vP 3 0), (4, vP 4 0), (6, vP 5 0), (7, vP 9 0), (9, vP 10 0), (10, vI 2), (42, vN (X * Y * Z)), (43, vN i), (49, vI 2), (52, .agg #[vN X, vN Y, vN Z, vS 6 A.length, vS 7 B.length, vS 8 C.length]), (53, vI 2)])) (by kernel_rfl) ?_
       refine rW (m := ⟨[], [], [6, 7, 8]⟩) (v := vS 6 A.length) rfl (by kernel_rfl) (stQ (args := [.agg #[vN X, vN Y, vN Z, vS 6 A.length, vS 7 B.length, vS 8 C.length], vI 2]) rfl (by kernel_rfl) (Any.lay0 [6, 7, 8] (shListG2 ((X : Nat) : Int) ((Y : Nat) : Int) ((Z : Nat) : Int) A.length B.length C.length PA PB PC) ⟨rdF true (flatNums _ _ _ _) rfl rfl, ⟨rdF true (flatNums _ _ _ _) rfl rfl, ⟨rdF true (flatNums _ _ _ _) rfl rfl, trivial⟩⟩⟩ rfl ⟨clF (flatNums _ _ _ _), ⟨clF (flatNums _ _ _ _), ⟨clF (flatNums _ _ _ _), trivial⟩⟩⟩ rfl (by first | rfl | simp [mpV, mpA, mpS, mpP, renId, shift]) rfl) rfl (by kernel_rfl) (by kernel_rfl)) (by kernel_rfl) nr0 ?_
       refine segWH 4 (T1 := (mkT 75 [(1, vI 2), (2, vP 3 0), (4, vP 4 0), (6, vP 5 0), (7, vP 9 0), (9, vP 10 0), (10, vI 2), (42, vN (X * Y * Z)), (43, vN i), (49, vI 2), (52, .agg #[vN X, vN Y, vN Z, vS 6 A.length, vS 7 B.length, vS 8 C.length]), (53, vI 2), (54, vS 6 A.length), (55, .agg #[vN X, vN Y, vN Z]), (56, .agg #[vN X, vN Y, vN Z]), (57, .agg #[vN (i / Z / Y), vN (i / Z % Y), vN (i % Z)]), (58, vI 2)])) (by kernel_rfl) ?_
       refine rW (m := ⟨[], [], []⟩) (v := .agg #[vN (i / Z / Y), vN (i / Z % Y), vI (((Z : Nat) : Int) - 1 - ((i % Z : Nat) : Int))]) rfl (by kernel_rfl) (stQ (args := [.agg #[vN X, vN Y, vN Z], .agg #[vN (i / Z / Y), vN (i / Z % Y), vN (i % Z)], vI 2]) rfl (by kernel_rfl) (Any.lay0 [] (mirror2 X Y Z ((i / Z / Y : Nat) : Int) ((i / Z % Y : Nat) : Int) ((i % Z : Nat) : Int) (by first | assumption | omega | rfl | decide | exact HeapL.list _ _ _ _ | exact HeapL.nil _ _ _ | exact HeapL.all _ _ _ | (apply HeapL.lt64 <;> assumption) | (repeat' (first | assumption | apply or_lt64 | apply and_lt64 | apply andn_lt64 | apply pow_lt64 | (apply HeapL.lt64 <;> assumption)))) (by first | assumption | exact hhas | exact hmir)) trivial rfl trivial rfl (by first | rfl | simp [mpV, mpA, mpS, mpP, renId, shift]) (by first | rfl | simp [mpV, mpA, mpS, mpP, renId, shift])) rfl (by kernel_rfl) (by kernel_rfl)) (by kernel_rfl) nr0 ?_
       refine segWH 1 (T1 := (mkT 75 [(1, vI 2), (2, vP 3 0), (4, vP 4 0), (6, vP 5 0), (7, vP 9 0), (9, vP 10 0), (10, vI 2), (42, vN (X * Y * Z)), (43, vN i), (49, vI 2), (52, .agg #[vN X, vN Y, vN Z, vS 6 A.length, vS 7 B.length, vS 8 C.length]), (53, vI 2), (54, vS 6 A.length), (55, .agg #[vN X, vN Y, vN Z]), (56, .agg #[vN X, vN Y, vN Z]), (57, .agg #[vN (i / Z / Y), vN (i / Z % Y), vN (i % Z)]), (58, vI 2), (59, .agg #[vN (i / Z / Y), vN (i / Z % Y), vI (((Z : Nat) : Int) - 1 - ((i % Z : Nat) : Int))]), (60, vI 2)])) (by kernel_rfl) ?_
       refine rW (m := ⟨[], [], []⟩) (v := vI (((i / Z / Y : Nat) : Int) * (Y : Int) + ((i / Z % Y : Nat) : Int))) rfl (by kernel_rfl) (stQ (args := [.agg #[vN X, vN Y, vN Z], .agg #[vN (i / Z / Y), vN (i / Z % Y), vI (((Z : Nat) : Int) - 1 - ((i % Z : Nat) : Int))], vI 2]) rfl (by kernel_rfl) (Any.lay0 [] (line2 X Y Z ((i / Z / Y : Nat) : Int) ((i / Z % Y : Nat) : Int) (((Z : Nat) : Int) - 1 - ((i % Z : Nat) : Int)) (by first | assumption | omega | rfl | decide | exact HeapL.list _ _ _ _ | exact HeapL.nil _ _ _ | exact HeapL.all _ _ _ | (apply HeapL.lt64 <;> assumption) | (repeat' (first | assumption | apply or_lt64 | apply and_lt64 | apply andn_lt64 | apply pow_lt64 | (apply HeapL.lt64 <;> assumption)))) (by first | assumption | exact hhas | exact hmir)) trivial rfl trivial rfl (by first | rfl | simp [mpV, mpA, mpS, mpP, renId, shift]) rfl) rfl (by kernel_rfl) (by kernel_rfl)) (by kernel_rfl) nr0 ?_
       refine segWH 2 (T1 := (mkT 75 [(1, vI 2), (2, vP 3 0), (4, vP 4 0), (6, vP 5 0), (7, vP 9 0), (9, vP 10 0), (10, vI 2), (42, vN (X * Y * Z)), (43, vN i), (49, vI 2), (52, .agg #[vN X, vN Y, vN Z, vS 6 A.length, vS 7 B.length, vS 8 C.length]), (53, vI 2), (54, vS 6 A.length), (55, .agg #[vN X, vN Y, vN Z]), (56, .agg #[vN X, vN Y, vN Z]), (57, .agg #[vN (i / Z / Y), vN (i / Z % Y), vN (i % Z)]), (58, vI 2), (59, .agg #[vN (i / Z / Y), vN (i / Z % Y), vI (((Z : Nat) : Int) - 1 - ((i % Z : Nat) : Int))]), (60, vI 2), (61, vI (((i / Z / Y : Nat) : Int) * (Y : Int) + ((i / Z % Y : Nat) : Int))), (62, .agg #[vN X, vN Y, vN Z, vS 0 A.length, vS 1 B.length, vS 2 C.length]), (63, vI 2)])) (by kernel_rfl) ?_
       refine rW (m := ⟨[], [], [0, 1, 2]⟩) (v := vS 0 A.length) rfl (by kernel_rfl) (stQ (args := [.agg #[vN X, vN Y, vN Z, vS 0 A.length, vS 1 B.length, vS 2 C.length], vI 2]) rfl (by kernel_rfl) (Any.lay0 [0, 1, 2] (shListG2 ((X : Nat) : Int) ((Y : Nat) : Int) ((Z : Nat) : Int) A.length B.length C.length A B C) ⟨rdF false (flatNums _ _ _ _) rfl rfl, ⟨rdF false (flatNums _ _ _ _) rfl rfl, ⟨rdF false (flatNums _ _ _ _) rfl rfl, trivial⟩⟩⟩ rfl ⟨clF (flatNums _ _ _ _), ⟨clF (flatNums _ _ _ _), ⟨clF (flatNums _ _ _ _), trivial⟩⟩⟩ rfl (by first | rfl | simp [mpV, mpA, mpS, mpP, renId, shift]) rfl) rfl (by kernel_rfl) (by kernel_rfl)) (by kernel_rfl) nr0 ?_
       refine segWH 3 (T1 := (mkT 75 [(1, vI 2), (2, vP 3 0), (4, vP 4 0), (6, vP 5 0), (7, vP 9 0), (9, vP 10 0), (10, vI 2), (42, vN (X * Y * Z)), (43, vN i), (49, vI 2), (52, .agg #[vN X, vN Y, vN Z, vS 6 A.length, vS 7 B.length, vS 8 C.length]), (53, vI 2), (54, vS 6 A.length), (55, .agg #[vN X, vN Y, vN Z]), (56, .agg #[vN X, vN Y, vN Z]), (57, .agg #[vN (i / Z / Y), vN (i / Z % Y), vN (i % Z)]), (58, vI 2), (59, .agg #[vN (i / Z / Y), vN (i / Z % Y), vI (((Z : Nat) : Int) - 1 - ((i % Z : Nat) : Int))]), (60, vI 2), (61, vI (((i / Z / Y : Nat) : Int) * (Y : Int) + ((i / Z % Y : Nat) : Int))), (62, .agg #[vN X, vN Y, vN Z, vS 0 A.length, vS 1 B.length, vS 2 C.length]), (63, vI 2), (64, vS 0 A.length), (65, .agg #[vN X, vN Y, vN Z]), (66, .agg #[vN (i / Z / Y), vN (i / Z % Y), vN (i % Z)]), (67, vI 2)])) (by kernel_rfl) ?_
       refine rW (m := ⟨[], [], []⟩) (v := vI (((i / Z / Y : Nat) : Int) * (Y : Int) + ((i / Z % Y : Nat) : Int))) rfl (by kernel_rfl) (stQ (args := [.agg #[vN X, vN Y, vN Z], .agg #[vN (i / Z / Y), vN (i / Z % Y), vN (i % Z)], vI 2]) rfl (by kernel_rfl) (Any.lay0 [] (line2 X Y Z ((i / Z / Y : Nat) : Int) ((i / Z % Y : Nat) : Int) ((i % Z : Nat) : Int) (by first | assumption | omega | rfl | decide | exact HeapL.list _ _ _ _ | exact HeapL.nil _ _ _ | exact HeapL.all _ _ _ | (apply HeapL.lt64 <;> assumption) | (repeat' (first | assumption | apply or_lt64 | apply and_lt64 | apply andn_lt64 | apply pow_lt64 | (apply HeapL.lt64 <;> assumption)))) (by first | assumption | exact hhas | exact hmir)) trivial rfl trivial rfl (by first | rfl | simp [mpV, mpA, mpS, mpP, renId, shift]) rfl) rfl (by kernel_rfl) (by kernel_rfl)) (by kernel_rfl) nr0 ?_
       refine rW (m := ⟨[], [], []⟩) (v := vP 0 ((((i / Z / Y : Nat) : Int) * (Y : Int) + ((i / Z % Y : Nat) : Int)).toNat)) rfl (by kernel_rfl) (stId (eIdxS (ad := ⟨0, 0, none⟩) (n := A.length) (m := 0) (k := .i64) (c := (((i / Z / Y : Nat) : Int) * (Y : Int) + ((i / Z % Y : Nat) : Int))) (j := ((((i / Z / Y : Nat) : Int) * (Y : Int) + ((i / Z % Y : Nat) : Int)).toNat)) (o := (((i / Z / Y : Nat) : Int) * (Y : Int) + ((i / Z % Y : Nat) : Int)).toNat) (by kernel_rfl) (by kernel_rfl) ti22 ti3 (by omega) (by omega) (by simp)) rfl (by kernel_rfl) (by kernel_rfl) (by kernel_rfl)) (by kernel_rfl) nr0 ?_
       refine rW (m := ⟨[], [], [0]⟩) (v := vI (A.getD ((((i / Z / Y : Nat) : Int) * (Y : Int) + ((i / Z % Y : Nat) : Int)).toNat) 0)) rfl (by kernel_rfl) (stId (eLdNum (ad := ⟨0, (((i / Z / Y : Nat) : Int) * (Y : Int) + ((i / Z % Y : Nat) : Int)).toNat, none⟩) (r := ⟨nums A, 3, false, false⟩) (L := A) (j := ((((i / Z / Y : Nat) : Int) * (Y : Int) + ((i / Z % Y : Nat) : Int)).toNat)) (by kernel_rfl) (by kernel_rfl) rfl (by first | rfl | omega) (by omega) ti3 rfl) rfl (by kernel_rfl) (by kernel_rfl) (by kernel_rfl)) (by kernel_rfl) nr0 ?_
       refine rW (m := ⟨[], [], []⟩) (v := vP 6 ((((i / Z / Y : Nat) : Int) * (Y : Int) + ((i / Z % Y : Nat) : Int)).toNat)) rfl (by kernel_rfl) (stId (eIdxS (ad := ⟨6, 0, none⟩) (n := A.length) (m := 0) (k := .i64) (c := (((i / Z / Y : Nat) : Int) * (Y : Int) + ((i / Z % Y : Nat) : Int))) (j := ((((i / Z / Y : Nat) : Int) * (Y : Int) + ((i / Z % Y : Nat) : Int)).toNat)) (o := (((i / Z / Y : Nat) : Int) * (Y : Int) + ((i / Z % Y : Nat) : Int)).toNat) (by kernel_rfl) (by kernel_rfl) ti22 ti3 (by omega) (by omega) (by simp)) rfl (by kernel_rfl) (by kernel_rfl) (by kernel_rfl)) (by kernel_rfl) nr0 ?_
       refine rW (m := ⟨[], [6], []⟩) (v := .tuple #[]) rfl (by kernel_rfl) (stSet (b := 6) (r := ⟨nums (PA.set ((((i / Z / Y : Nat) : Int) * (Y : Int) + ((i / Z % Y : Nat) : Int)).toNat) (A.getD ((((i / Z / Y : Nat) : Int) * (Y : Int) + ((i / Z % Y : Nat) : Int)).toNat) 0)), 3, false, true⟩) (eStNum (b := 6) (o := ((((i / Z / Y : Nat) : Int) * (Y : Int) + ((i / Z % Y : Nat) : Int)).toNat)) (L := PA) (n := (A.getD ((((i / Z / Y : Nat) : Int) * (Y : Int) + ((i / Z % Y : Nat) : Int)).toNat) 0)) (e := 3) (bx := false) (by kernel_rfl) (by kernel_rfl) (by kernel_rfl) (by omega) ti3 rfl (by rfl)) rfl (by kernel_rfl) (by kernel_rfl) (by kernel_rfl) (by kernel_rfl) (nmF (flatNums _ _ _ _)) (clF (flatNums _ _ _ _))) (by kernel_rfl) (NRs.all ⟨nrOf (by rfl) (nmF (flatNums _ _ _ _)), trivial⟩) ?_
       refine segEndW [1, 2, 4, 6, 7, 9, 42, 43, 49] (T1 := (mkT 75 [(1, vI 2), (2, vP 3 0), (4, vP 4 0), (6, vP 5 0), (7, vP 9 0), (9, vP 10 0), (42, vN (X * Y * Z)), (43, vN i), (49, vI 2)])) (H1 := [nR A, nR B, nR C, rB [vN X, vN Y, vN Z, vS 0 A.length, vS 1 B.length, vS 2 C.length] 27, rB [vI 0, vI 0, vI 0, .slice none 0 0, .slice none 0 0, .slice none 0 0] 27, rB [vN X, vN Y, vN Z] 75, some ⟨nums (PA.set ((((i / Z / Y : Nat) : Int) * (Y : Int) + ((i / Z % Y : Nat) : Int)).toNat) (A.getD ((((i / Z / Y : Nat) : Int) * (Y : Int) + ((i / Z % Y : Nat) : Int)).toNat) 0)), 3, false, true⟩, nW PB, nW PC, rB [vN X, vN Y, vN Z, vS 6 A.length, vS 7 B.length, vS 8 C.length] 27, rB [vN (i / Z / Y), vN (i / Z % Y), vN (i % Z)] 74]) (by kernel_rfl) ?_
       refine kBlk ?_
       refine kSeq ?_
       refine cReg ?_
       refine segEndH [1, 2, 4, 6, 7, 9, 42, 43, 49] (T1 := (mkT 75 [(1, vI 2), (2, vP 3 0), (4, vP 4 0), (6, vP 5 0), (7, vP 9 0), (9, vP 10 0), (42, vN (X * Y * Z)), (43, vN i), (49, vI 3)])) (by kernel_rfl) ?_
       exact kLoop (3 - 3) (mkT 75 [(1, vI 2), (2, vP 3 0), (4, vP 4 0), (6, vP 5 0), (7, vP 9 0), (9, vP 10 0), (42, vN (X * Y * Z)), (43, vN i), (49, vI 3)]) [nR A, nR B, nR C, rB [vN X, vN Y, vN Z, vS 0 A.length, vS 1 B.length, vS 2 C.length] 27, rB [vI 0, vI 0, vI 0, .slice none 0 0, .slice none 0 0, .slice none 0 0] 27, rB [vN X, vN Y, vN Z] 75, some ⟨nums (PA.set ((((i / Z / Y : Nat) : Int) * (Y : Int) + ((i / Z % Y : Nat) : Int)).toNat) (A.getD ((((i / Z / Y : Nat) : Int) * (Y : Int) + ((i / Z % Y : Nat) : Int)).toNat) 0)), 3, false, true⟩, nW PB, nW PC, rB [vN X, vN Y, vN Z, vS 6 A.length, vS 7 B.length, vS 8 C.length] 27, rB [vN (i / Z / Y), vN (i / Z % Y), vN (i % Z)] 74] (by omega) (wkSame [1, 2, 4, 6, 7, 9, 42, 43, 49] (by kernel_rfl)) ⟨3, (PA.set ((((i / Z / Y : Nat) : Int) * (Y : Int) + ((i / Z % Y : Nat) : Int)).toNat) (A.getD ((((i / Z / Y : Nat) : Int) * (Y : Int) + ((i / Z % Y : Nat) : Int)).toNat) 0)), PB, PC, (by omega), (mirT_step 2 2 X Y Z A i hPA rfl rfl), (hPB), (hPC), rfl, rfl, rfl⟩
      ·
       refine cSeq ?_
       refine cReg ?_
       refine segEndH [1, 2, 4, 6, 7, 9, 42, 43, 49, 50] (T1 := (mkT 75 [(1, vI 2), (2, vP 3 0), (4, vP 4 0), (6, vP 5 0), (7, vP 9 0), (9, vP 10 0), (42, vN (X * Y * Z)), (43, vN i), (49, vI 3), (50, .bool false)])) (by kernel_rfl) ?_
       refine kSeq ?_
       refine cSeq ?_
       refine cFalse (by kernel_rfl) ?_
       refine cExit ?_
       refine kSeqE ?_
       refine kLoopE ?_
       refine kBlkHit ?_
       refine kBlk ?_
       refine kSeq ?_
       refine cReg ?_
       refine rOp (v := vN (i + 1)) (by kernel_rfl) (eAdd (k := .i64) (a := ((i : Nat) : Int)) (b := 1) (c := ((i + 1 : Nat) : Int)) (by kernel_rfl) (by kernel_rfl) (wr64 (by omega) (by omega) (by omega))) ?_
       refine segEndH [1, 2, 4, 6, 7, 42, 43] (T1 := (mkT 75 [(1, vI 2), (2, vP 3 0), (4, vP 4 0), (6, vP 5 0), (7, vP 9 0), (42, vN (X * Y * Z)), (43, vN (i + 1))])) (by kernel_rfl) ?_
       exact kLoop (X * Y * Z - (i + 1)) (mkT 75 [(1, vI 2), (2, vP 3 0), (4, vP 4 0), (6, vP 5 0), (7, vP 9 0), (42, vN (X * Y * Z)), (43, vN (i + 1))]) [nR A, nR B, nR C, rB [vN X, vN Y, vN Z, vS 0 A.length, vS 1 B.length, vS 2 C.length] 27, rB [vI 0, vI 0, vI 0, .slice none 0 0, .slice none 0 0, .slice none 0 0] 27, rB [vN X, vN Y, vN Z] 75, nW PA, nW PB, nW PC, rB [vN X, vN Y, vN Z, vS 6 A.length, vS 7 B.length, vS 8 C.length] 27] (by omega) (wkDrop [1, 2, 4, 6, 7, 42, 43] _ rfl rfl ((closedL ⟨clF (flatNums _ _ _ _), ⟨clF (flatNums _ _ _ _), ⟨clF (flatNums _ _ _ _), ⟨clX rfl, ⟨clX rfl, ⟨clX rfl, ⟨clF (flatNums _ _ _ _), ⟨clF (flatNums _ _ _ _), ⟨clF (flatNums _ _ _ _), ⟨clX rfl, trivial⟩⟩⟩⟩⟩⟩⟩⟩⟩⟩)) (by kernel_rfl) rfl) ⟨(i + 1), PA, PB, PC, (by omega), (hPA), (hPB), (hPC), rfl, rfl, rfl⟩
theorem implMirrorShadow_2 (X : Nat) (Y : Nat) (Z : Nat) (A : List Int) (B : List Int) (C : List Int) (hs : Sides X Y Z) (hq : shadB X Y Z A B C = true) : Sound Try.prog 49 [.agg #[vN X, vN Y, vN Z, vS 0 A.length, vS 1 B.length, vS 2 C.length], vI 2] [nR A, nR B, nR C] (.tuple #[.agg #[vN X, vN Y, vN Z, vS 3 ((mirE 2 2 X Y Z A).length), vS 4 ((mirE 1 2 X Y Z B).length), vS 5 ((mirE 0 2 X Y Z C).length)], .bool true]) [nR A, nR B, nR C, nW (mirE 2 2 X Y Z A), nW (mirE 1 2 X Y Z B), nW (mirE 0 2 X Y Z C)] := by
 have h := implMirrorShadow_2r X Y Z A B C hs hq; rw [mirE_length, mirE_length, mirE_length]; have hw := shad_of hq; simp only [nlN]; rw [← hw.1.1, ← hw.2.1.1, ← hw.2.2.1]; exact h
end Go.Proofs.Ytbheeobnghlckaa
