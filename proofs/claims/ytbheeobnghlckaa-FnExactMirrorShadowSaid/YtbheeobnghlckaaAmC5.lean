import Derived.Test.YtbheeobnghlckaaAmC4
set_option linter.unusedVariables false
set_option linter.unusedSimpArgs false
namespace Go.Proofs.Ytbheeobnghlckaa
open Go.Am Go.RowKit
set_option maxRecDepth 100000 in
set_option maxHeartbeats 4000000 in
theorem markSh (x : Int) (y : Int) (z : Int) (A : List Int) (B : List Int) (C : List Int) (m : Nat) (hA : A.length ≤ 1048576) (hB : B.length ≤ 1048576) (hC : C.length ≤ 1048576) (hm : m ≤ 1048576) : Sound Try.prog 50 [.agg #[vI x, vI y, vI z, vS 0 A.length, vS 1 B.length, vS 2 C.length], vN m] [nW A, nW B, nW C] (vN (m + A.length + B.length + C.length)) [nW (mkI m A.length), nW (mkI (m + A.length) B.length), nW (mkI (m + A.length + B.length) C.length)] := by
 refine sound_intro (C := cx) Try.func50 rfl (by kernel_rfl) fun hcl => ?_
 refine cSeq ?_
 refine cReg ?_
 refine segEnd [1, 2] (T1 := (mkT 18 [(1, vN m), (2, vP 3 0)])) (H1 := [nW A, nW B, nW C, rB [vI x, vI y, vI z, vS 0 A.length, vS 1 B.length, vS 2 C.length] 27]) (by kernel_rfl) ?_
 refine kSeq ?_
 refine cSeq ?_
 refine cReg ?_
 refine segH 3 (T1 := (mkT 18 [(1, vN m), (2, vP 3 0), (5, vP 3 3), (6, vS 0 A.length), (7, vN m)])) (by kernel_rfl) ?_
 refine rCall (v := vN (m + A.length)) (args := [vS 0 A.length, vN m]) (by kernel_rfl) rfl (by kernel_rfl) (Sound.emb_set (r := ⟨nums A, 3, false, true⟩) (r' := ⟨nums (mkI m A.length), 3, false, true⟩) 0 (markI_S A m (by first | omega | assumption | (simp; done) | (simp; omega)) (by first | assumption | omega | rfl | decide | exact HeapL.list _ _ _ _ | exact HeapL.nil _ _ _ | exact HeapL.all _ _ _ | (apply HeapL.lt64 <;> assumption) | (repeat' (first | assumption | apply or_lt64 | apply and_lt64 | apply andn_lt64 | apply pow_lt64 | (apply HeapL.lt64 <;> assumption))))) (flatNums _ _ _ _) rfl (flatNums _ _ _ _) rfl rfl rfl (by first | rfl | simp [mpV, mpA, mpS, mpP, renId, shift]) rfl) ?_
 refine segEnd [1, 2] (T1 := (mkT 18 [(1, vN (m + A.length)), (2, vP 3 0)])) (H1 := [nW (mkI m A.length), nW B, nW C, rB [vI x, vI y, vI z, vS 0 A.length, vS 1 B.length, vS 2 C.length] 27]) (by kernel_rfl) ?_
 refine kSeq ?_
 refine cSeq ?_
 refine cReg ?_
 refine segH 3 (T1 := (mkT 18 [(1, vN (m + A.length)), (2, vP 3 0), (9, vP 3 4), (10, vS 1 B.length), (11, vN (m + A.length))])) (by kernel_rfl) ?_
 refine rCall (v := vN ((m + A.length) + B.length)) (args := [vS 1 B.length, vN (m + A.length)]) (by kernel_rfl) rfl (by kernel_rfl) (Sound.emb_set (r := ⟨nums B, 3, false, true⟩) (r' := ⟨nums (mkI (m + A.length) B.length), 3, false, true⟩) 1 (markI_S B (m + A.length) (by first | omega | assumption | (simp; done) | (simp; omega)) (by first | assumption | omega | rfl | decide | exact HeapL.list _ _ _ _ | exact HeapL.nil _ _ _ | exact HeapL.all _ _ _ | (apply HeapL.lt64 <;> assumption) | (repeat' (first | assumption | apply or_lt64 | apply and_lt64 | apply andn_lt64 | apply pow_lt64 | (apply HeapL.lt64 <;> assumption))))) (flatNums _ _ _ _) rfl (flatNums _ _ _ _) rfl rfl rfl (by first | rfl | simp [mpV, mpA, mpS, mpP, renId, shift]) rfl) ?_
 refine segEnd [1, 2] (T1 := (mkT 18 [(1, vN ((m + A.length) + B.length)), (2, vP 3 0)])) (H1 := [nW (mkI m A.length), nW (mkI (m + A.length) B.length), nW C, rB [vI x, vI y, vI z, vS 0 A.length, vS 1 B.length, vS 2 C.length] 27]) (by kernel_rfl) ?_
 refine kSeq ?_
 refine cSeq ?_
 refine cReg ?_
 refine segH 3 (T1 := (mkT 18 [(1, vN ((m + A.length) + B.length)), (2, vP 3 0), (13, vP 3 5), (14, vS 2 C.length), (15, vN ((m + A.length) + B.length))])) (by kernel_rfl) ?_
 refine rCall (v := vN (((m + A.length) + B.length) + C.length)) (args := [vS 2 C.length, vN ((m + A.length) + B.length)]) (by kernel_rfl) rfl (by kernel_rfl) (Sound.emb_set (r := ⟨nums C, 3, false, true⟩) (r' := ⟨nums (mkI ((m + A.length) + B.length) C.length), 3, false, true⟩) 2 (markI_S C ((m + A.length) + B.length) (by first | omega | assumption | (simp; done) | (simp; omega)) (by first | assumption | omega | rfl | decide | exact HeapL.list _ _ _ _ | exact HeapL.nil _ _ _ | exact HeapL.all _ _ _ | (apply HeapL.lt64 <;> assumption) | (repeat' (first | assumption | apply or_lt64 | apply and_lt64 | apply andn_lt64 | apply pow_lt64 | (apply HeapL.lt64 <;> assumption))))) (flatNums _ _ _ _) rfl (flatNums _ _ _ _) rfl rfl rfl (by first | rfl | simp [mpV, mpA, mpS, mpP, renId, shift]) rfl) ?_
 refine segEnd [1] (T1 := (mkT 18 [(1, vN (((m + A.length) + B.length) + C.length))])) (H1 := [nW (mkI m A.length), nW (mkI (m + A.length) B.length), nW (mkI ((m + A.length) + B.length) C.length), rB [vI x, vI y, vI z, vS 0 A.length, vS 1 B.length, vS 2 C.length] 27]) (by kernel_rfl) ?_
 refine kSeq ?_
 refine cSeq ?_
 refine cReg ?_
 refine segEndH [4] (T1 := (mkT 18 [(4, vN (((m + A.length) + B.length) + C.length))])) (by kernel_rfl) ?_
 refine kSeq ?_
 refine cRet ?_
 have he0 : (((m + A.length) + B.length) + C.length : Nat) = m + A.length + B.length + C.length := by first | omega | assumption | rfl | (symm; assumption) | (simp_all; done)
 have he1 : ((mkI ((m + A.length) + B.length) C.length) : List Int) = (mkI (m + A.length + B.length) C.length) := by first | omega | assumption | rfl | (symm; assumption) | (simp_all; done)
 refine endCast (v1 := vN (((m + A.length) + B.length) + C.length)) (H1 := [nW (mkI m A.length), nW (mkI (m + A.length) B.length), nW (mkI ((m + A.length) + B.length) C.length)]) (by first | rfl | ((try rw [← he0]); (try rw [← he1]); done) | (simp only [← he0, ← he1]; done)) (by first | rfl | ((try rw [← he0]); (try rw [← he1]); done) | (simp only [← he0, ← he1]; done)) ?_
 exact endQ (Or.inr rfl) (l := [vN (((m + A.length) + B.length) + C.length)]) [rB [vI x, vI y, vI z, vS 0 A.length, vS 1 B.length, vS 2 C.length] 27] (by kernel_rfl) (by first | rfl | kernel_rfl) rfl rfl (closedL ⟨clF (flatNums _ _ _ _), ⟨clF (flatNums _ _ _ _), ⟨clF (flatNums _ _ _ _), trivial⟩⟩⟩) rfl
set_option maxRecDepth 100000 in
set_option maxHeartbeats 4000000 in
theorem heldSh (x : Int) (y : Int) (z : Int) (p : Nat) (q : Nat) (r : Nat) (m : Nat) (hp : p ≤ 1048576) (hq : q ≤ 1048576) (hr : r ≤ 1048576) (hm : m ≤ 1048576) : Sound Try.prog 51 [.agg #[vI x, vI y, vI z, vS 0 p, vS 1 q, vS 2 r], vN m] [nR (mkI m p), nR (mkI (m + p) q), nR (mkI (m + p + q) r)] (vN (m + p + q + r)) [nR (mkI m p), nR (mkI (m + p) q), nR (mkI (m + p + q) r)] := by
 refine sound_intro (C := cx) Try.func51 rfl (by kernel_rfl) fun hcl => ?_
 refine cSeq ?_
 refine cReg ?_
 refine segEnd [1, 2] (T1 := (mkT 24 [(1, vN m), (2, vP 3 0)])) (H1 := [nR (mkI m p), nR (mkI (m + p) q), nR (mkI (m + p + q) r), rB [vI x, vI y, vI z, vS 0 p, vS 1 q, vS 2 r] 27]) (by kernel_rfl) ?_
 refine kSeq ?_
 refine cSeq ?_
 refine cReg ?_
 refine segH 3 (T1 := (mkT 24 [(1, vN m), (2, vP 3 0), (5, vP 3 3), (6, vS 0 p), (7, vN m)])) (by kernel_rfl) ?_
 refine rCall (v := vN (m + p)) (args := [vS 0 p, vN m]) (by kernel_rfl) rfl (by kernel_rfl) (Sound.lay0 [0] (heldI_S m p (by first | omega | assumption | decide) (by first | assumption | omega | rfl | decide | exact HeapL.list _ _ _ _ | exact HeapL.nil _ _ _ | exact HeapL.all _ _ _ | (apply HeapL.lt64 <;> assumption) | (repeat' (first | assumption | apply or_lt64 | apply and_lt64 | apply andn_lt64 | apply pow_lt64 | (apply HeapL.lt64 <;> assumption))))) ⟨rdF false (flatNums _ _ _ _) rfl rfl, trivial⟩ rfl ⟨clF (flatNums _ _ _ _), trivial⟩ rfl (by first | rfl | simp [mpV, mpA, mpS, mpP, renId, shift]) rfl) ?_
 refine segEndH [1, 2] (T1 := (mkT 24 [(1, vN (m + p)), (2, vP 3 0)])) (by kernel_rfl) ?_
 refine kSeq ?_
 refine cSeq ?_
 refine cSeq ?_
 refine cReg ?_
 refine segEndH [1, 2, 10] (T1 := (mkT 24 [(1, vN (m + p)), (2, vP 3 0), (10, .bool (decide (((m + p : Nat) : Int) < 0)))])) (by kernel_rfl) ?_
 refine kSeq ?_
 cases h1 : (decide (((m + p : Nat) : Int) < 0) : Bool)
 ·
  (try simp only [bs0, bs1, bs2, bs3, beq_iff_eq, bne_iff_ne, beq_eq_false_iff_ne, bne_eq_false_iff_eq, ne_eq, bs4, bs5, bs6, bs7, bs8, bs9, bs10, bs11, ge_iff_le, gt_iff_lt] at h1)
  refine cFalse (by kernel_rfl) ?_
  refine cSkip ?_
  refine kSeq ?_
  refine cSeq ?_
  refine cReg ?_
  refine segH 3 (T1 := (mkT 24 [(1, vN (m + p)), (2, vP 3 0), (10, .bool false), (11, vP 3 4), (12, vS 1 q), (13, vN (m + p))])) (by kernel_rfl) ?_
  refine rCall (v := vN ((m + p) + q)) (args := [vS 1 q, vN (m + p)]) (by kernel_rfl) rfl (by kernel_rfl) (Sound.lay0 [1] (heldI_S (m + p) q (by first | omega | assumption | decide) (by first | assumption | omega | rfl | decide | exact HeapL.list _ _ _ _ | exact HeapL.nil _ _ _ | exact HeapL.all _ _ _ | (apply HeapL.lt64 <;> assumption) | (repeat' (first | assumption | apply or_lt64 | apply and_lt64 | apply andn_lt64 | apply pow_lt64 | (apply HeapL.lt64 <;> assumption))))) ⟨rdF false (flatNums _ _ _ _) rfl rfl, trivial⟩ rfl ⟨clF (flatNums _ _ _ _), trivial⟩ rfl (by first | rfl | simp [mpV, mpA, mpS, mpP, renId, shift]) rfl) ?_
  refine segEndH [1, 2] (T1 := (mkT 24 [(1, vN ((m + p) + q)), (2, vP 3 0)])) (by kernel_rfl) ?_
  refine kSeq ?_
  refine cSeq ?_
  refine cSeq ?_
  refine cReg ?_
  refine segEndH [1, 2, 16] (T1 := (mkT 24 [(1, vN ((m + p) + q)), (2, vP 3 0), (16, .bool (decide ((((m + p) + q : Nat) : Int) < 0)))])) (by kernel_rfl) ?_
  refine kSeq ?_
  cases h2 : (decide ((((m + p) + q : Nat) : Int) < 0) : Bool)
  ·
   (try simp only [bs0, bs1, bs2, bs3, beq_iff_eq, bne_iff_ne, beq_eq_false_iff_ne, bne_eq_false_iff_eq, ne_eq, bs4, bs5, bs6, bs7, bs8, bs9, bs10, bs11, ge_iff_le, gt_iff_lt] at h2)
   refine cFalse (by kernel_rfl) ?_
   refine cSkip ?_
   refine kSeq ?_
   refine cSeq ?_
   refine cReg ?_
   refine segH 3 (T1 := (mkT 24 [(1, vN ((m + p) + q)), (2, vP 3 0), (16, .bool false), (17, vP 3 5), (18, vS 2 r), (19, vN ((m + p) + q))])) (by kernel_rfl) ?_
   refine rCall (v := vN (((m + p) + q) + r)) (args := [vS 2 r, vN ((m + p) + q)]) (by kernel_rfl) rfl (by kernel_rfl) (Sound.lay0 [2] (heldI_S ((m + p) + q) r (by first | omega | assumption | decide) (by first | assumption | omega | rfl | decide | exact HeapL.list _ _ _ _ | exact HeapL.nil _ _ _ | exact HeapL.all _ _ _ | (apply HeapL.lt64 <;> assumption) | (repeat' (first | assumption | apply or_lt64 | apply and_lt64 | apply andn_lt64 | apply pow_lt64 | (apply HeapL.lt64 <;> assumption))))) ⟨rdF false (flatNums _ _ _ _) rfl rfl, trivial⟩ rfl ⟨clF (flatNums _ _ _ _), trivial⟩ rfl (by first | rfl | simp [mpV, mpA, mpS, mpP, renId, shift]) rfl) ?_
   refine segEndH [1] (T1 := (mkT 24 [(1, vN (((m + p) + q) + r))])) (by kernel_rfl) ?_
   refine kSeq ?_
   refine cSeq ?_
   refine cSeq ?_
   refine cReg ?_
   refine segEndH [1, 22] (T1 := (mkT 24 [(1, vN (((m + p) + q) + r)), (22, .bool (decide (((((m + p) + q) + r : Nat) : Int) < 0)))])) (by kernel_rfl) ?_
   refine kSeq ?_
   cases h3 : (decide (((((m + p) + q) + r : Nat) : Int) < 0) : Bool)
   ·
    (try simp only [bs0, bs1, bs2, bs3, beq_iff_eq, bne_iff_ne, beq_eq_false_iff_ne, bne_eq_false_iff_eq, ne_eq, bs4, bs5, bs6, bs7, bs8, bs9, bs10, bs11, ge_iff_le, gt_iff_lt] at h3)
    refine cFalse (by kernel_rfl) ?_
    refine cSkip ?_
    refine kSeq ?_
    refine cSeq ?_
    refine cReg ?_
    refine segEndH [4] (T1 := (mkT 24 [(4, vN (((m + p) + q) + r))])) (by kernel_rfl) ?_
    refine kSeq ?_
    refine cRet ?_
    have he0 : (((m + p) + q) + r : Nat) = m + p + q + r := by first | omega | assumption | rfl | (symm; assumption) | (simp_all; done)
    refine endCast (v1 := vN (((m + p) + q) + r)) (H1 := [nR (mkI m p), nR (mkI (m + p) q), nR (mkI (m + p + q) r)]) (by first | rfl | ((try rw [← he0]); done) | (simp only [← he0]; done)) (by first | rfl | ((try rw [← he0]); done) | (simp only [← he0]; done)) ?_
    exact endQ (Or.inr rfl) (l := [vN (((m + p) + q) + r)]) [rB [vI x, vI y, vI z, vS 0 p, vS 1 q, vS 2 r] 27] (by kernel_rfl) (by first | rfl | kernel_rfl) rfl rfl hcl rfl
   ·
    (try simp only [bs0, bs1, bs2, bs3, beq_iff_eq, bne_iff_ne, beq_eq_false_iff_ne, bne_eq_false_iff_eq, ne_eq, bs4, bs5, bs6, bs7, bs8, bs9, bs10, bs11, ge_iff_le, gt_iff_lt] at h3)
    exfalso; omega
  ·
   (try simp only [bs0, bs1, bs2, bs3, beq_iff_eq, bne_iff_ne, beq_eq_false_iff_ne, bne_eq_false_iff_eq, ne_eq, bs4, bs5, bs6, bs7, bs8, bs9, bs10, bs11, ge_iff_le, gt_iff_lt] at h2)
   exfalso; omega
 ·
  (try simp only [bs0, bs1, bs2, bs3, beq_iff_eq, bne_iff_ne, beq_eq_false_iff_ne, bne_eq_false_iff_eq, ne_eq, bs4, bs5, bs6, bs7, bs8, bs9, bs10, bs11, ge_iff_le, gt_iff_lt] at h1)
  exfalso; omega
set_option maxRecDepth 100000 in
set_option maxHeartbeats 4000000 in
theorem eqI_NN   : Sound Try.prog 33 [.slice none 0 0, .slice none 0 0] [] (.bool true) [] := by
 refine sound_intro (C := cx) Try.func33 rfl (by kernel_rfl) fun hcl => ?_
 refine cSeq ?_
 refine cReg ?_
 refine segEndH [0, 1] (T1 := (mkT 26 [(0, .slice none 0 0), (1, .slice none 0 0)])) (by kernel_rfl) ?_
 refine kSeq ?_
 refine cSeq ?_
 refine cSeq ?_
 refine cReg ?_
 refine segEndH [0, 1, 10] (T1 := (mkT 26 [(0, .slice none 0 0), (1, .slice none 0 0), (10, .bool false)])) (by kernel_rfl) ?_
 refine kSeq ?_
 refine cFalse (by kernel_rfl) ?_
 refine cSkip ?_
 refine kSeq ?_
 refine cSeq ?_
 refine cSeq ?_
 refine cReg ?_
 refine segEndH [0, 1, 5] (T1 := (mkT 26 [(0, .slice none 0 0), (1, .slice none 0 0), (5, vI 0)])) (by kernel_rfl) ?_
 refine kSeq ?_
 refine cBlk ?_
 refine cLoop (fun mm T H => mm = 0 ∧ T = (mkT 26 [(0, .slice none 0 0), (1, .slice none 0 0), (5, vI 0)]) ∧ H = []) (0) (mkT 26 [(0, .slice none 0 0), (1, .slice none 0 0), (5, vI 0)]) [] (wkSame [0, 1, 5] (by kernel_rfl)) ?_ ?_
 ·
  exact ⟨rfl, rfl, rfl⟩
 ·
  rintro _ _ _ ⟨rfl, rfl, rfl⟩
  refine cSeq ?_
  refine cSeq ?_
  refine cReg ?_
  refine segEndH [0, 1, 5, 14] (T1 := (mkT 26 [(0, .slice none 0 0), (1, .slice none 0 0), (5, vI 0), (14, .bool false)])) (by kernel_rfl) ?_
  refine kSeq ?_
  refine cFalse (by kernel_rfl) ?_
  refine cExit ?_
  refine kSeqE ?_
  refine kLoopE ?_
  refine kBlkHit ?_
  refine kSeq ?_
  refine cSeq ?_
  refine cReg ?_
  refine segEndH [4] (T1 := (mkT 26 [(4, .bool true)])) (by kernel_rfl) ?_
  refine kSeq ?_
  refine cRet ?_
  exact endQ (Or.inr rfl) (l := [.bool true]) [] (by kernel_rfl) (by first | rfl | kernel_rfl) rfl rfl hcl rfl
set_option maxRecDepth 100000 in
set_option maxHeartbeats 4000000 in
theorem eqSh_N   : Sound Try.prog 19 [.agg #[vI 0, vI 0, vI 0, .slice none 0 0, .slice none 0 0, .slice none 0 0], .agg #[vI 0, vI 0, vI 0, .slice none 0 0, .slice none 0 0, .slice none 0 0]] [] (.bool true) [] := by
 refine sound_intro (C := cx) Try.func19 rfl (by kernel_rfl) fun hcl => ?_
 refine cSeq ?_
 refine cReg ?_
 refine segEnd [2, 3] (T1 := (mkT 38 [(2, vP 0 0), (3, vP 1 0)])) (H1 := [rB [vI 0, vI 0, vI 0, .slice none 0 0, .slice none 0 0, .slice none 0 0] 27, rB [vI 0, vI 0, vI 0, .slice none 0 0, .slice none 0 0, .slice none 0 0] 27]) (by kernel_rfl) ?_
 refine kSeq ?_
 refine cSeq ?_
 refine cSeq ?_
 refine cReg ?_
 refine segEndH [2, 3, 9] (T1 := (mkT 38 [(2, vP 0 0), (3, vP 1 0), (9, .bool false)])) (by kernel_rfl) ?_
 refine kSeq ?_
 refine cFalse (by kernel_rfl) ?_
 refine cSkip ?_
 refine kSeq ?_
 refine cSeq ?_
 refine cSeq ?_
 refine cReg ?_
 refine segEndH [2, 3, 14] (T1 := (mkT 38 [(2, vP 0 0), (3, vP 1 0), (14, .bool false)])) (by kernel_rfl) ?_
 refine kSeq ?_
 refine cFalse (by kernel_rfl) ?_
 refine cSkip ?_
 refine kSeq ?_
 refine cSeq ?_
 refine cSeq ?_
 refine cReg ?_
 refine segEndH [2, 3, 19] (T1 := (mkT 38 [(2, vP 0 0), (3, vP 1 0), (19, .bool false)])) (by kernel_rfl) ?_
 refine kSeq ?_
 refine cFalse (by kernel_rfl) ?_
 refine cSkip ?_
 refine kSeq ?_
 refine cSeq ?_
 refine cSeq ?_
 refine cReg ?_
 refine segH 4 (T1 := (mkT 38 [(2, vP 0 0), (3, vP 1 0), (19, .bool false), (20, vP 0 3), (21, .slice none 0 0), (22, vP 1 3), (23, .slice none 0 0)])) (by kernel_rfl) ?_
 refine rCall (v := .bool true) (args := [.slice none 0 0, .slice none 0 0]) (by kernel_rfl) rfl (by kernel_rfl) (Sound.lay0 [] (eqI_NN) trivial rfl trivial rfl (by first | rfl | simp [mpV, mpA, mpS, mpP, renId, shift]) rfl) ?_
 refine segEndH [2, 3, 25] (T1 := (mkT 38 [(2, vP 0 0), (3, vP 1 0), (25, .bool false)])) (by kernel_rfl) ?_
 refine kSeq ?_
 refine cFalse (by kernel_rfl) ?_
 refine cSkip ?_
 refine kSeq ?_
 refine cSeq ?_
 refine cSeq ?_
 refine cReg ?_
 refine segH 4 (T1 := (mkT 38 [(2, vP 0 0), (3, vP 1 0), (25, .bool false), (26, vP 0 4), (27, .slice none 0 0), (28, vP 1 4), (29, .slice none 0 0)])) (by kernel_rfl) ?_
 refine rCall (v := .bool true) (args := [.slice none 0 0, .slice none 0 0]) (by kernel_rfl) rfl (by kernel_rfl) (Sound.lay0 [] (eqI_NN) trivial rfl trivial rfl (by first | rfl | simp [mpV, mpA, mpS, mpP, renId, shift]) rfl) ?_
 refine segEndH [2, 3, 31] (T1 := (mkT 38 [(2, vP 0 0), (3, vP 1 0), (31, .bool false)])) (by kernel_rfl) ?_
 refine kSeq ?_
 refine cFalse (by kernel_rfl) ?_
 refine cSkip ?_
 refine kSeq ?_
 refine cSeq ?_
 refine cSeq ?_
 refine cReg ?_
 refine segH 4 (T1 := (mkT 38 [(2, vP 0 0), (3, vP 1 0), (31, .bool false), (32, vP 0 5), (33, .slice none 0 0), (34, vP 1 5), (35, .slice none 0 0)])) (by kernel_rfl) ?_
 refine rCall (v := .bool true) (args := [.slice none 0 0, .slice none 0 0]) (by kernel_rfl) rfl (by kernel_rfl) (Sound.lay0 [] (eqI_NN) trivial rfl trivial rfl (by first | rfl | simp [mpV, mpA, mpS, mpP, renId, shift]) rfl) ?_
 refine segEndH [37] (T1 := (mkT 38 [(37, .bool false)])) (by kernel_rfl) ?_
 refine kSeq ?_
 refine cFalse (by kernel_rfl) ?_
 refine cSkip ?_
 refine kSeq ?_
 refine cSeq ?_
 refine cReg ?_
 refine segEndH [4] (T1 := (mkT 38 [(4, .bool true)])) (by kernel_rfl) ?_
 refine kSeq ?_
 refine cRet ?_
 exact endQ (Or.inr rfl) (l := [.bool true]) [rB [vI 0, vI 0, vI 0, .slice none 0 0, .slice none 0 0, .slice none 0 0] 27, rB [vI 0, vI 0, vI 0, .slice none 0 0, .slice none 0 0, .slice none 0 0] 27] (by kernel_rfl) (by first | rfl | kernel_rfl) rfl rfl hcl rfl
set_option maxRecDepth 100000 in
set_option maxHeartbeats 4000000 in
theorem markSh_N (m : Nat) (hm : m ≤ 1048576) : Sound Try.prog 50 [.agg #[vI 0, vI 0, vI 0, .slice none 0 0, .slice none 0 0, .slice none 0 0], vN m] [] (vN m) [] := by
 refine sound_intro (C := cx) Try.func50 rfl (by kernel_rfl) fun hcl => ?_
 refine cSeq ?_
 refine cReg ?_
 refine segEnd [1, 2] (T1 := (mkT 18 [(1, vN m), (2, vP 0 0)])) (H1 := [rB [vI 0, vI 0, vI 0, .slice none 0 0, .slice none 0 0, .slice none 0 0] 27]) (by kernel_rfl) ?_
 refine kSeq ?_
 refine cSeq ?_
 refine cReg ?_
 refine segH 3 (T1 := (mkT 18 [(1, vN m), (2, vP 0 0), (5, vP 0 3), (6, .slice none 0 0), (7, vN m)])) (by kernel_rfl) ?_
 refine rCall (v := vN m) (args := [.slice none 0 0, vN m]) (by kernel_rfl) rfl (by kernel_rfl) (Sound.lay0 [] (markI_N m) trivial rfl trivial rfl (by first | rfl | simp [mpV, mpA, mpS, mpP, renId, shift]) rfl) ?_
 refine segEndH [1, 2] (T1 := (mkT 18 [(1, vN m), (2, vP 0 0)])) (by kernel_rfl) ?_
 refine kSeq ?_
 refine cSeq ?_
 refine cReg ?_
 refine segH 3 (T1 := (mkT 18 [(1, vN m), (2, vP 0 0), (9, vP 0 4), (10, .slice none 0 0), (11, vN m)])) (by kernel_rfl) ?_
 refine rCall (v := vN m) (args := [.slice none 0 0, vN m]) (by kernel_rfl) rfl (by kernel_rfl) (Sound.lay0 [] (markI_N m) trivial rfl trivial rfl (by first | rfl | simp [mpV, mpA, mpS, mpP, renId, shift]) rfl) ?_
 refine segEndH [1, 2] (T1 := (mkT 18 [(1, vN m), (2, vP 0 0)])) (by kernel_rfl) ?_
 refine kSeq ?_
 refine cSeq ?_
 refine cReg ?_
 refine segH 3 (T1 := (mkT 18 [(1, vN m), (2, vP 0 0), (13, vP 0 5), (14, .slice none 0 0), (15, vN m)])) (by kernel_rfl) ?_
 refine rCall (v := vN m) (args := [.slice none 0 0, vN m]) (by kernel_rfl) rfl (by kernel_rfl) (Sound.lay0 [] (markI_N m) trivial rfl trivial rfl (by first | rfl | simp [mpV, mpA, mpS, mpP, renId, shift]) rfl) ?_
 refine segEndH [1] (T1 := (mkT 18 [(1, vN m)])) (by kernel_rfl) ?_
 refine kSeq ?_
 refine cSeq ?_
 refine cReg ?_
 refine segEndH [4] (T1 := (mkT 18 [(4, vN m)])) (by kernel_rfl) ?_
 refine kSeq ?_
 refine cRet ?_
 exact endQ (Or.inr rfl) (l := [vN m]) [rB [vI 0, vI 0, vI 0, .slice none 0 0, .slice none 0 0, .slice none 0 0] 27] (by kernel_rfl) (by first | rfl | kernel_rfl) rfl rfl hcl rfl
set_option maxRecDepth 100000 in
set_option maxHeartbeats 4000000 in
theorem heldSh_N (m : Nat) (hm : m ≤ 1048576) : Sound Try.prog 51 [.agg #[vI 0, vI 0, vI 0, .slice none 0 0, .slice none 0 0, .slice none 0 0], vN m] [] (vN m) [] := by
 refine sound_intro (C := cx) Try.func51 rfl (by kernel_rfl) fun hcl => ?_
 refine cSeq ?_
 refine cReg ?_
 refine segEnd [1, 2] (T1 := (mkT 24 [(1, vN m), (2, vP 0 0)])) (H1 := [rB [vI 0, vI 0, vI 0, .slice none 0 0, .slice none 0 0, .slice none 0 0] 27]) (by kernel_rfl) ?_
 refine kSeq ?_
 refine cSeq ?_
 refine cReg ?_
 refine segH 3 (T1 := (mkT 24 [(1, vN m), (2, vP 0 0), (5, vP 0 3), (6, .slice none 0 0), (7, vN m)])) (by kernel_rfl) ?_
 refine rCall (v := vN m) (args := [.slice none 0 0, vN m]) (by kernel_rfl) rfl (by kernel_rfl) (Sound.lay0 [] (heldI_N m) trivial rfl trivial rfl (by first | rfl | simp [mpV, mpA, mpS, mpP, renId, shift]) rfl) ?_
 refine segEndH [1, 2] (T1 := (mkT 24 [(1, vN m), (2, vP 0 0)])) (by kernel_rfl) ?_
 refine kSeq ?_
 refine cSeq ?_
 refine cSeq ?_
 refine cReg ?_
 refine segEndH [1, 2, 10] (T1 := (mkT 24 [(1, vN m), (2, vP 0 0), (10, .bool (decide (((m : Nat) : Int) < 0)))])) (by kernel_rfl) ?_
 refine kSeq ?_
 cases h1 : (decide (((m : Nat) : Int) < 0) : Bool)
 ·
  (try simp only [bs0, bs1, bs2, bs3, beq_iff_eq, bne_iff_ne, beq_eq_false_iff_ne, bne_eq_false_iff_eq, ne_eq, bs4, bs5, bs6, bs7, bs8, bs9, bs10, bs11, ge_iff_le, gt_iff_lt] at h1)
  refine cFalse (by kernel_rfl) ?_
  refine cSkip ?_
  refine kSeq ?_
  refine cSeq ?_
  refine cReg ?_
  refine segH 3 (T1 := (mkT 24 [(1, vN m), (2, vP 0 0), (10, .bool false), (11, vP 0 4), (12, .slice none 0 0), (13, vN m)])) (by kernel_rfl) ?_
  refine rCall (v := vN m) (args := [.slice none 0 0, vN m]) (by kernel_rfl) rfl (by kernel_rfl) (Sound.lay0 [] (heldI_N m) trivial rfl trivial rfl (by first | rfl | simp [mpV, mpA, mpS, mpP, renId, shift]) rfl) ?_
  refine segEndH [1, 2] (T1 := (mkT 24 [(1, vN m), (2, vP 0 0)])) (by kernel_rfl) ?_
  refine kSeq ?_
  refine cSeq ?_
  refine cSeq ?_
  refine cReg ?_
  refine segEndH [1, 2, 16] (T1 := (mkT 24 [(1, vN m), (2, vP 0 0), (16, .bool (decide (((m : Nat) : Int) < 0)))])) (by kernel_rfl) ?_
  refine kSeq ?_
  cases h2 : (decide (((m : Nat) : Int) < 0) : Bool)
  ·
   (try simp only [bs0, bs1, bs2, bs3, beq_iff_eq, bne_iff_ne, beq_eq_false_iff_ne, bne_eq_false_iff_eq, ne_eq, bs4, bs5, bs6, bs7, bs8, bs9, bs10, bs11, ge_iff_le, gt_iff_lt] at h2)
   refine cFalse (by kernel_rfl) ?_
   refine cSkip ?_
   refine kSeq ?_
   refine cSeq ?_
   refine cReg ?_
   refine segH 3 (T1 := (mkT 24 [(1, vN m), (2, vP 0 0), (16, .bool false), (17, vP 0 5), (18, .slice none 0 0), (19, vN m)])) (by kernel_rfl) ?_
   refine rCall (v := vN m) (args := [.slice none 0 0, vN m]) (by kernel_rfl) rfl (by kernel_rfl) (Sound.lay0 [] (heldI_N m) trivial rfl trivial rfl (by first | rfl | simp [mpV, mpA, mpS, mpP, renId, shift]) rfl) ?_
   refine segEndH [1] (T1 := (mkT 24 [(1, vN m)])) (by kernel_rfl) ?_
   refine kSeq ?_
   refine cSeq ?_
   refine cSeq ?_
   refine cReg ?_
   refine segEndH [1, 22] (T1 := (mkT 24 [(1, vN m), (22, .bool (decide (((m : Nat) : Int) < 0)))])) (by kernel_rfl) ?_
   refine kSeq ?_
   cases h3 : (decide (((m : Nat) : Int) < 0) : Bool)
   ·
    (try simp only [bs0, bs1, bs2, bs3, beq_iff_eq, bne_iff_ne, beq_eq_false_iff_ne, bne_eq_false_iff_eq, ne_eq, bs4, bs5, bs6, bs7, bs8, bs9, bs10, bs11, ge_iff_le, gt_iff_lt] at h3)
    refine cFalse (by kernel_rfl) ?_
    refine cSkip ?_
    refine kSeq ?_
    refine cSeq ?_
    refine cReg ?_
    refine segEndH [4] (T1 := (mkT 24 [(4, vN m)])) (by kernel_rfl) ?_
    refine kSeq ?_
    refine cRet ?_
    exact endQ (Or.inr rfl) (l := [vN m]) [rB [vI 0, vI 0, vI 0, .slice none 0 0, .slice none 0 0, .slice none 0 0] 27] (by kernel_rfl) (by first | rfl | kernel_rfl) rfl rfl hcl rfl
   ·
    (try simp only [bs0, bs1, bs2, bs3, beq_iff_eq, bne_iff_ne, beq_eq_false_iff_ne, bne_eq_false_iff_eq, ne_eq, bs4, bs5, bs6, bs7, bs8, bs9, bs10, bs11, ge_iff_le, gt_iff_lt] at h3)
    exfalso; omega
  ·
   (try simp only [bs0, bs1, bs2, bs3, beq_iff_eq, bne_iff_ne, beq_eq_false_iff_ne, bne_eq_false_iff_eq, ne_eq, bs4, bs5, bs6, bs7, bs8, bs9, bs10, bs11, ge_iff_le, gt_iff_lt] at h2)
   exfalso; omega
 ·
  (try simp only [bs0, bs1, bs2, bs3, beq_iff_eq, bne_iff_ne, beq_eq_false_iff_ne, bne_eq_false_iff_eq, ne_eq, bs4, bs5, bs6, bs7, bs8, bs9, bs10, bs11, ge_iff_le, gt_iff_lt] at h1)
  exfalso; omega
end Go.Proofs.Ytbheeobnghlckaa
set_option linter.unusedVariables false
set_option linter.unusedSimpArgs false
namespace Go.Proofs.Ytbheeobnghlckaa
open Go.Am Go.RowKit
theorem specMirrorShadow_0R (X : Nat) (Y : Nat) (Z : Nat) (A : List Int) (B : List Int) (C : List Int) (RA : List Int) (hs : Sides X Y Z) (hq : shadB X Y Z A B C = true) (hRRA : RA = mirE 2 0 X Y Z A) : Sound Try.prog 48 [.agg #[vN X, vN Y, vN Z, vS 0 A.length, vS 1 B.length, vS 2 C.length], vI 0] [nR A, nR B, nR C] (.tuple #[.agg #[vN X, vN Y, vN Z, vS 3 RA.length, vS 4 ((mirE 1 0 X Y Z B).length), vS 5 ((mirE 0 0 X Y Z C).length)], .bool true]) [nR A, nR B, nR C, nW RA, nW (mirE 1 0 X Y Z B), nW (mirE 0 0 X Y Z C)] := by
 subst hRRA; exact specMirrorShadow_0 X Y Z A B C hs hq
theorem specMirrorShadow_0RR (X : Nat) (Y : Nat) (Z : Nat) (A : List Int) (B : List Int) (C : List Int) (RA : List Int) (RB : List Int) (hs : Sides X Y Z) (hq : shadB X Y Z A B C = true) (hRRA : RA = mirE 2 0 X Y Z A) (hRRB : RB = mirE 1 0 X Y Z B) : Sound Try.prog 48 [.agg #[vN X, vN Y, vN Z, vS 0 A.length, vS 1 B.length, vS 2 C.length], vI 0] [nR A, nR B, nR C] (.tuple #[.agg #[vN X, vN Y, vN Z, vS 3 RA.length, vS 4 RB.length, vS 5 ((mirE 0 0 X Y Z C).length)], .bool true]) [nR A, nR B, nR C, nW RA, nW RB, nW (mirE 0 0 X Y Z C)] := by
 subst hRRB; exact specMirrorShadow_0R X Y Z A B C RA hs hq hRRA
theorem specMirrorShadow_0RRR (X : Nat) (Y : Nat) (Z : Nat) (A : List Int) (B : List Int) (C : List Int) (RA : List Int) (RB : List Int) (RC : List Int) (hs : Sides X Y Z) (hq : shadB X Y Z A B C = true) (hRRA : RA = mirE 2 0 X Y Z A) (hRRB : RB = mirE 1 0 X Y Z B) (hRRC : RC = mirE 0 0 X Y Z C) : Sound Try.prog 48 [.agg #[vN X, vN Y, vN Z, vS 0 A.length, vS 1 B.length, vS 2 C.length], vI 0] [nR A, nR B, nR C] (.tuple #[.agg #[vN X, vN Y, vN Z, vS 3 RA.length, vS 4 RB.length, vS 5 RC.length], .bool true]) [nR A, nR B, nR C, nW RA, nW RB, nW RC] := by
 subst hRRC; exact specMirrorShadow_0RR X Y Z A B C RA RB hs hq hRRA hRRB
theorem implMirrorShadow_0R (X : Nat) (Y : Nat) (Z : Nat) (A : List Int) (B : List Int) (C : List Int) (RA : List Int) (hs : Sides X Y Z) (hq : shadB X Y Z A B C = true) (hRRA : RA = mirE 2 0 X Y Z A) : Sound Try.prog 49 [.agg #[vN X, vN Y, vN Z, vS 0 A.length, vS 1 B.length, vS 2 C.length], vI 0] [nR A, nR B, nR C] (.tuple #[.agg #[vN X, vN Y, vN Z, vS 3 RA.length, vS 4 ((mirE 1 0 X Y Z B).length), vS 5 ((mirE 0 0 X Y Z C).length)], .bool true]) [nR A, nR B, nR C, nW RA, nW (mirE 1 0 X Y Z B), nW (mirE 0 0 X Y Z C)] := by
 subst hRRA; exact implMirrorShadow_0 X Y Z A B C hs hq
theorem implMirrorShadow_0RR (X : Nat) (Y : Nat) (Z : Nat) (A : List Int) (B : List Int) (C : List Int) (RA : List Int) (RB : List Int) (hs : Sides X Y Z) (hq : shadB X Y Z A B C = true) (hRRA : RA = mirE 2 0 X Y Z A) (hRRB : RB = mirE 1 0 X Y Z B) : Sound Try.prog 49 [.agg #[vN X, vN Y, vN Z, vS 0 A.length, vS 1 B.length, vS 2 C.length], vI 0] [nR A, nR B, nR C] (.tuple #[.agg #[vN X, vN Y, vN Z, vS 3 RA.length, vS 4 RB.length, vS 5 ((mirE 0 0 X Y Z C).length)], .bool true]) [nR A, nR B, nR C, nW RA, nW RB, nW (mirE 0 0 X Y Z C)] := by
 subst hRRB; exact implMirrorShadow_0R X Y Z A B C RA hs hq hRRA
theorem implMirrorShadow_0RRR (X : Nat) (Y : Nat) (Z : Nat) (A : List Int) (B : List Int) (C : List Int) (RA : List Int) (RB : List Int) (RC : List Int) (hs : Sides X Y Z) (hq : shadB X Y Z A B C = true) (hRRA : RA = mirE 2 0 X Y Z A) (hRRB : RB = mirE 1 0 X Y Z B) (hRRC : RC = mirE 0 0 X Y Z C) : Sound Try.prog 49 [.agg #[vN X, vN Y, vN Z, vS 0 A.length, vS 1 B.length, vS 2 C.length], vI 0] [nR A, nR B, nR C] (.tuple #[.agg #[vN X, vN Y, vN Z, vS 3 RA.length, vS 4 RB.length, vS 5 RC.length], .bool true]) [nR A, nR B, nR C, nW RA, nW RB, nW RC] := by
 subst hRRC; exact implMirrorShadow_0RR X Y Z A B C RA RB hs hq hRRA hRRB
theorem specMirrorShadow_1R (X : Nat) (Y : Nat) (Z : Nat) (A : List Int) (B : List Int) (C : List Int) (RA : List Int) (hs : Sides X Y Z) (hq : shadB X Y Z A B C = true) (hRRA : RA = mirE 2 1 X Y Z A) : Sound Try.prog 48 [.agg #[vN X, vN Y, vN Z, vS 0 A.length, vS 1 B.length, vS 2 C.length], vI 1] [nR A, nR B, nR C] (.tuple #[.agg #[vN X, vN Y, vN Z, vS 3 RA.length, vS 4 ((mirE 1 1 X Y Z B).length), vS 5 ((mirE 0 1 X Y Z C).length)], .bool true]) [nR A, nR B, nR C, nW RA, nW (mirE 1 1 X Y Z B), nW (mirE 0 1 X Y Z C)] := by
 subst hRRA; exact specMirrorShadow_1 X Y Z A B C hs hq
theorem specMirrorShadow_1RR (X : Nat) (Y : Nat) (Z : Nat) (A : List Int) (B : List Int) (C : List Int) (RA : List Int) (RB : List Int) (hs : Sides X Y Z) (hq : shadB X Y Z A B C = true) (hRRA : RA = mirE 2 1 X Y Z A) (hRRB : RB = mirE 1 1 X Y Z B) : Sound Try.prog 48 [.agg #[vN X, vN Y, vN Z, vS 0 A.length, vS 1 B.length, vS 2 C.length], vI 1] [nR A, nR B, nR C] (.tuple #[.agg #[vN X, vN Y, vN Z, vS 3 RA.length, vS 4 RB.length, vS 5 ((mirE 0 1 X Y Z C).length)], .bool true]) [nR A, nR B, nR C, nW RA, nW RB, nW (mirE 0 1 X Y Z C)] := by
 subst hRRB; exact specMirrorShadow_1R X Y Z A B C RA hs hq hRRA
theorem specMirrorShadow_1RRR (X : Nat) (Y : Nat) (Z : Nat) (A : List Int) (B : List Int) (C : List Int) (RA : List Int) (RB : List Int) (RC : List Int) (hs : Sides X Y Z) (hq : shadB X Y Z A B C = true) (hRRA : RA = mirE 2 1 X Y Z A) (hRRB : RB = mirE 1 1 X Y Z B) (hRRC : RC = mirE 0 1 X Y Z C) : Sound Try.prog 48 [.agg #[vN X, vN Y, vN Z, vS 0 A.length, vS 1 B.length, vS 2 C.length], vI 1] [nR A, nR B, nR C] (.tuple #[.agg #[vN X, vN Y, vN Z, vS 3 RA.length, vS 4 RB.length, vS 5 RC.length], .bool true]) [nR A, nR B, nR C, nW RA, nW RB, nW RC] := by
 subst hRRC; exact specMirrorShadow_1RR X Y Z A B C RA RB hs hq hRRA hRRB
theorem implMirrorShadow_1R (X : Nat) (Y : Nat) (Z : Nat) (A : List Int) (B : List Int) (C : List Int) (RA : List Int) (hs : Sides X Y Z) (hq : shadB X Y Z A B C = true) (hRRA : RA = mirE 2 1 X Y Z A) : Sound Try.prog 49 [.agg #[vN X, vN Y, vN Z, vS 0 A.length, vS 1 B.length, vS 2 C.length], vI 1] [nR A, nR B, nR C] (.tuple #[.agg #[vN X, vN Y, vN Z, vS 3 RA.length, vS 4 ((mirE 1 1 X Y Z B).length), vS 5 ((mirE 0 1 X Y Z C).length)], .bool true]) [nR A, nR B, nR C, nW RA, nW (mirE 1 1 X Y Z B), nW (mirE 0 1 X Y Z C)] := by
 subst hRRA; exact implMirrorShadow_1 X Y Z A B C hs hq
theorem implMirrorShadow_1RR (X : Nat) (Y : Nat) (Z : Nat) (A : List Int) (B : List Int) (C : List Int) (RA : List Int) (RB : List Int) (hs : Sides X Y Z) (hq : shadB X Y Z A B C = true) (hRRA : RA = mirE 2 1 X Y Z A) (hRRB : RB = mirE 1 1 X Y Z B) : Sound Try.prog 49 [.agg #[vN X, vN Y, vN Z, vS 0 A.length, vS 1 B.length, vS 2 C.length], vI 1] [nR A, nR B, nR C] (.tuple #[.agg #[vN X, vN Y, vN Z, vS 3 RA.length, vS 4 RB.length, vS 5 ((mirE 0 1 X Y Z C).length)], .bool true]) [nR A, nR B, nR C, nW RA, nW RB, nW (mirE 0 1 X Y Z C)] := by
 subst hRRB; exact implMirrorShadow_1R X Y Z A B C RA hs hq hRRA
theorem implMirrorShadow_1RRR (X : Nat) (Y : Nat) (Z : Nat) (A : List Int) (B : List Int) (C : List Int) (RA : List Int) (RB : List Int) (RC : List Int) (hs : Sides X Y Z) (hq : shadB X Y Z A B C = true) (hRRA : RA = mirE 2 1 X Y Z A) (hRRB : RB = mirE 1 1 X Y Z B) (hRRC : RC = mirE 0 1 X Y Z C) : Sound Try.prog 49 [.agg #[vN X, vN Y, vN Z, vS 0 A.length, vS 1 B.length, vS 2 C.length], vI 1] [nR A, nR B, nR C] (.tuple #[.agg #[vN X, vN Y, vN Z, vS 3 RA.length, vS 4 RB.length, vS 5 RC.length], .bool true]) [nR A, nR B, nR C, nW RA, nW RB, nW RC] := by
 subst hRRC; exact implMirrorShadow_1RR X Y Z A B C RA RB hs hq hRRA hRRB
theorem specMirrorShadow_2R (X : Nat) (Y : Nat) (Z : Nat) (A : List Int) (B : List Int) (C : List Int) (RA : List Int) (hs : Sides X Y Z) (hq : shadB X Y Z A B C = true) (hRRA : RA = mirE 2 2 X Y Z A) : Sound Try.prog 48 [.agg #[vN X, vN Y, vN Z, vS 0 A.length, vS 1 B.length, vS 2 C.length], vI 2] [nR A, nR B, nR C] (.tuple #[.agg #[vN X, vN Y, vN Z, vS 3 RA.length, vS 4 ((mirE 1 2 X Y Z B).length), vS 5 ((mirE 0 2 X Y Z C).length)], .bool true]) [nR A, nR B, nR C, nW RA, nW (mirE 1 2 X Y Z B), nW (mirE 0 2 X Y Z C)] := by
 subst hRRA; exact specMirrorShadow_2 X Y Z A B C hs hq
theorem specMirrorShadow_2RR (X : Nat) (Y : Nat) (Z : Nat) (A : List Int) (B : List Int) (C : List Int) (RA : List Int) (RB : List Int) (hs : Sides X Y Z) (hq : shadB X Y Z A B C = true) (hRRA : RA = mirE 2 2 X Y Z A) (hRRB : RB = mirE 1 2 X Y Z B) : Sound Try.prog 48 [.agg #[vN X, vN Y, vN Z, vS 0 A.length, vS 1 B.length, vS 2 C.length], vI 2] [nR A, nR B, nR C] (.tuple #[.agg #[vN X, vN Y, vN Z, vS 3 RA.length, vS 4 RB.length, vS 5 ((mirE 0 2 X Y Z C).length)], .bool true]) [nR A, nR B, nR C, nW RA, nW RB, nW (mirE 0 2 X Y Z C)] := by
 subst hRRB; exact specMirrorShadow_2R X Y Z A B C RA hs hq hRRA
theorem specMirrorShadow_2RRR (X : Nat) (Y : Nat) (Z : Nat) (A : List Int) (B : List Int) (C : List Int) (RA : List Int) (RB : List Int) (RC : List Int) (hs : Sides X Y Z) (hq : shadB X Y Z A B C = true) (hRRA : RA = mirE 2 2 X Y Z A) (hRRB : RB = mirE 1 2 X Y Z B) (hRRC : RC = mirE 0 2 X Y Z C) : Sound Try.prog 48 [.agg #[vN X, vN Y, vN Z, vS 0 A.length, vS 1 B.length, vS 2 C.length], vI 2] [nR A, nR B, nR C] (.tuple #[.agg #[vN X, vN Y, vN Z, vS 3 RA.length, vS 4 RB.length, vS 5 RC.length], .bool true]) [nR A, nR B, nR C, nW RA, nW RB, nW RC] := by
 subst hRRC; exact specMirrorShadow_2RR X Y Z A B C RA RB hs hq hRRA hRRB
theorem implMirrorShadow_2R (X : Nat) (Y : Nat) (Z : Nat) (A : List Int) (B : List Int) (C : List Int) (RA : List Int) (hs : Sides X Y Z) (hq : shadB X Y Z A B C = true) (hRRA : RA = mirE 2 2 X Y Z A) : Sound Try.prog 49 [.agg #[vN X, vN Y, vN Z, vS 0 A.length, vS 1 B.length, vS 2 C.length], vI 2] [nR A, nR B, nR C] (.tuple #[.agg #[vN X, vN Y, vN Z, vS 3 RA.length, vS 4 ((mirE 1 2 X Y Z B).length), vS 5 ((mirE 0 2 X Y Z C).length)], .bool true]) [nR A, nR B, nR C, nW RA, nW (mirE 1 2 X Y Z B), nW (mirE 0 2 X Y Z C)] := by
 subst hRRA; exact implMirrorShadow_2 X Y Z A B C hs hq
theorem implMirrorShadow_2RR (X : Nat) (Y : Nat) (Z : Nat) (A : List Int) (B : List Int) (C : List Int) (RA : List Int) (RB : List Int) (hs : Sides X Y Z) (hq : shadB X Y Z A B C = true) (hRRA : RA = mirE 2 2 X Y Z A) (hRRB : RB = mirE 1 2 X Y Z B) : Sound Try.prog 49 [.agg #[vN X, vN Y, vN Z, vS 0 A.length, vS 1 B.length, vS 2 C.length], vI 2] [nR A, nR B, nR C] (.tuple #[.agg #[vN X, vN Y, vN Z, vS 3 RA.length, vS 4 RB.length, vS 5 ((mirE 0 2 X Y Z C).length)], .bool true]) [nR A, nR B, nR C, nW RA, nW RB, nW (mirE 0 2 X Y Z C)] := by
 subst hRRB; exact implMirrorShadow_2R X Y Z A B C RA hs hq hRRA
theorem implMirrorShadow_2RRR (X : Nat) (Y : Nat) (Z : Nat) (A : List Int) (B : List Int) (C : List Int) (RA : List Int) (RB : List Int) (RC : List Int) (hs : Sides X Y Z) (hq : shadB X Y Z A B C = true) (hRRA : RA = mirE 2 2 X Y Z A) (hRRB : RB = mirE 1 2 X Y Z B) (hRRC : RC = mirE 0 2 X Y Z C) : Sound Try.prog 49 [.agg #[vN X, vN Y, vN Z, vS 0 A.length, vS 1 B.length, vS 2 C.length], vI 2] [nR A, nR B, nR C] (.tuple #[.agg #[vN X, vN Y, vN Z, vS 3 RA.length, vS 4 RB.length, vS 5 RC.length], .bool true]) [nR A, nR B, nR C, nW RA, nW RB, nW RC] := by
 subst hRRC; exact implMirrorShadow_2RR X Y Z A B C RA RB hs hq hRRA hRRB
end Go.Proofs.Ytbheeobnghlckaa
set_option linter.unusedVariables false
set_option linter.unusedSimpArgs false
namespace Go.Proofs.Ytbheeobnghlckaa
open Go.Am Go.RowKit
set_option maxRecDepth 100000 in
set_option maxHeartbeats 4000000 in
theorem lawMirrorShadow_bigA_sss (x : Int) (y : Int) (z : Int) (A : List Int) (B : List Int) (C : List Int) (k : Int) (hl : 1048576 < A.length) (hm : A.length ≤ 9223372036854775807) : Sound Try.prog 12 [.agg #[vI x, vI y, vI z, vS 0 A.length, vS 1 B.length, vS 2 C.length], vI k] [nR A, nR B, nR C] (.bool true) [nR A, nR B, nR C] := by
 refine sound_intro (C := cx) Try.func12 rfl (by kernel_rfl) fun hcl => ?_
 refine cSeq ?_
 refine cReg ?_
 refine segEnd [1, 2] (T1 := (mkT 101 [(1, vI k), (2, vP 3 0)])) (H1 := [nR A, nR B, nR C, rB [vI x, vI y, vI z, vS 0 A.length, vS 1 B.length, vS 2 C.length] 24]) (by kernel_rfl) ?_
 refine kSeq ?_
 refine cSeq ?_
 refine cReg ?_
 refine segEndH [1, 2, 5] (T1 := (mkT 101 [(1, vI k), (2, vP 3 0), (5, vI 1048576)])) (by kernel_rfl) ?_
 refine kSeq ?_
 refine cSeq ?_
 refine cReg ?_
 refine segH 2 (T1 := (mkT 101 [(1, vI k), (2, vP 3 0), (5, vI 1048576), (16, .agg #[vI x, vI y, vI z, vS 0 A.length, vS 1 B.length, vS 2 C.length]), (17, vI 1048576)])) (by kernel_rfl) ?_
 refine rCall (v := vI (-1)) (args := [.agg #[vI x, vI y, vI z, vS 0 A.length, vS 1 B.length, vS 2 C.length], vI 1048576]) (by kernel_rfl) rfl (by kernel_rfl) (Sound.lay0 [0, 1, 2] (szSh_sss_A x y z A B C 1048576 (by first | omega | assumption | (simp; done) | (simp; omega)) (by first | assumption | omega | rfl | decide | exact HeapL.list _ _ _ _ | exact HeapL.nil _ _ _ | exact HeapL.all _ _ _ | (apply HeapL.lt64 <;> assumption) | (repeat' (first | assumption | apply or_lt64 | apply and_lt64 | apply andn_lt64 | apply pow_lt64 | (apply HeapL.lt64 <;> assumption)))) (by first | omega | assumption | decide)) ⟨rdF false (flatNums _ _ _ _) rfl rfl, ⟨rdF false (flatNums _ _ _ _) rfl rfl, ⟨rdF false (flatNums _ _ _ _) rfl rfl, trivial⟩⟩⟩ rfl ⟨clF (flatNums _ _ _ _), ⟨clF (flatNums _ _ _ _), ⟨clF (flatNums _ _ _ _), trivial⟩⟩⟩ rfl (by first | rfl | simp [mpV, mpA, mpS, mpP, renId, shift]) rfl) ?_
 refine segEndH [1, 2, 5] (T1 := (mkT 101 [(1, vI k), (2, vP 3 0), (5, vI (-1))])) (by kernel_rfl) ?_
 refine kSeq ?_
 refine cSeq ?_
 refine cSeq ?_
 refine cReg ?_
 refine segEndH [1, 2, 20] (T1 := (mkT 101 [(1, vI k), (2, vP 3 0), (20, .bool true)])) (by kernel_rfl) ?_
 refine kSeq ?_
 refine cTrue (by kernel_rfl) ?_
 refine cSeq ?_
 refine cReg ?_
 refine segEndH [4] (T1 := (mkT 101 [(4, .bool true)])) (by kernel_rfl) ?_
 refine kSeq ?_
 refine cRet ?_
 refine kSeqR ?_
 exact endQ (Or.inr rfl) (l := [.bool true]) [rB [vI x, vI y, vI z, vS 0 A.length, vS 1 B.length, vS 2 C.length] 24] (by kernel_rfl) (by first | rfl | kernel_rfl) rfl rfl hcl rfl
set_option maxRecDepth 100000 in
set_option maxHeartbeats 4000000 in
theorem lawMirrorShadow_bigB_sss (x : Int) (y : Int) (z : Int) (A : List Int) (B : List Int) (C : List Int) (k : Int) (h0 : A.length ≤ 1048576) (hl : 1048576 - A.length < B.length) (hm : B.length ≤ 9223372036854775807) : Sound Try.prog 12 [.agg #[vI x, vI y, vI z, vS 0 A.length, vS 1 B.length, vS 2 C.length], vI k] [nR A, nR B, nR C] (.bool true) [nR A, nR B, nR C] := by
 refine sound_intro (C := cx) Try.func12 rfl (by kernel_rfl) fun hcl => ?_
 refine cSeq ?_
 refine cReg ?_
 refine segEnd [1, 2] (T1 := (mkT 101 [(1, vI k), (2, vP 3 0)])) (H1 := [nR A, nR B, nR C, rB [vI x, vI y, vI z, vS 0 A.length, vS 1 B.length, vS 2 C.length] 24]) (by kernel_rfl) ?_
 refine kSeq ?_
 refine cSeq ?_
 refine cReg ?_
 refine segEndH [1, 2, 5] (T1 := (mkT 101 [(1, vI k), (2, vP 3 0), (5, vI 1048576)])) (by kernel_rfl) ?_
 refine kSeq ?_
 refine cSeq ?_
 refine cReg ?_
 refine segH 2 (T1 := (mkT 101 [(1, vI k), (2, vP 3 0), (5, vI 1048576), (16, .agg #[vI x, vI y, vI z, vS 0 A.length, vS 1 B.length, vS 2 C.length]), (17, vI 1048576)])) (by kernel_rfl) ?_
 refine rCall (v := vI (-1)) (args := [.agg #[vI x, vI y, vI z, vS 0 A.length, vS 1 B.length, vS 2 C.length], vI 1048576]) (by kernel_rfl) rfl (by kernel_rfl) (Sound.lay0 [0, 1, 2] (szSh_sss_B x y z A B C 1048576 (by first | assumption | omega) (by first | omega | assumption | (simp; done) | (simp; omega)) (by first | assumption | omega | rfl | decide | exact HeapL.list _ _ _ _ | exact HeapL.nil _ _ _ | exact HeapL.all _ _ _ | (apply HeapL.lt64 <;> assumption) | (repeat' (first | assumption | apply or_lt64 | apply and_lt64 | apply andn_lt64 | apply pow_lt64 | (apply HeapL.lt64 <;> assumption)))) (by first | omega | assumption | decide)) ⟨rdF false (flatNums _ _ _ _) rfl rfl, ⟨rdF false (flatNums _ _ _ _) rfl rfl, ⟨rdF false (flatNums _ _ _ _) rfl rfl, trivial⟩⟩⟩ rfl ⟨clF (flatNums _ _ _ _), ⟨clF (flatNums _ _ _ _), ⟨clF (flatNums _ _ _ _), trivial⟩⟩⟩ rfl (by first | rfl | simp [mpV, mpA, mpS, mpP, renId, shift]) rfl) ?_
 refine segEndH [1, 2, 5] (T1 := (mkT 101 [(1, vI k), (2, vP 3 0), (5, vI (-1))])) (by kernel_rfl) ?_
 refine kSeq ?_
 refine cSeq ?_
 refine cSeq ?_
 refine cReg ?_
 refine segEndH [1, 2, 20] (T1 := (mkT 101 [(1, vI k), (2, vP 3 0), (20, .bool true)])) (by kernel_rfl) ?_
 refine kSeq ?_
 refine cTrue (by kernel_rfl) ?_
 refine cSeq ?_
 refine cReg ?_
 refine segEndH [4] (T1 := (mkT 101 [(4, .bool true)])) (by kernel_rfl) ?_
 refine kSeq ?_
 refine cRet ?_
 refine kSeqR ?_
 exact endQ (Or.inr rfl) (l := [.bool true]) [rB [vI x, vI y, vI z, vS 0 A.length, vS 1 B.length, vS 2 C.length] 24] (by kernel_rfl) (by first | rfl | kernel_rfl) rfl rfl hcl rfl
set_option maxRecDepth 100000 in
set_option maxHeartbeats 4000000 in
theorem lawMirrorShadow_bigC_sss (x : Int) (y : Int) (z : Int) (A : List Int) (B : List Int) (C : List Int) (k : Int) (h0 : A.length + B.length ≤ 1048576) (hl : 1048576 - A.length - B.length < C.length) (hm : C.length ≤ 9223372036854775807) : Sound Try.prog 12 [.agg #[vI x, vI y, vI z, vS 0 A.length, vS 1 B.length, vS 2 C.length], vI k] [nR A, nR B, nR C] (.bool true) [nR A, nR B, nR C] := by
 refine sound_intro (C := cx) Try.func12 rfl (by kernel_rfl) fun hcl => ?_
 refine cSeq ?_
 refine cReg ?_
 refine segEnd [1, 2] (T1 := (mkT 101 [(1, vI k), (2, vP 3 0)])) (H1 := [nR A, nR B, nR C, rB [vI x, vI y, vI z, vS 0 A.length, vS 1 B.length, vS 2 C.length] 24]) (by kernel_rfl) ?_
 refine kSeq ?_
 refine cSeq ?_
 refine cReg ?_
 refine segEndH [1, 2, 5] (T1 := (mkT 101 [(1, vI k), (2, vP 3 0), (5, vI 1048576)])) (by kernel_rfl) ?_
 refine kSeq ?_
 refine cSeq ?_
 refine cReg ?_
 refine segH 2 (T1 := (mkT 101 [(1, vI k), (2, vP 3 0), (5, vI 1048576), (16, .agg #[vI x, vI y, vI z, vS 0 A.length, vS 1 B.length, vS 2 C.length]), (17, vI 1048576)])) (by kernel_rfl) ?_
 refine rCall (v := vI (-1)) (args := [.agg #[vI x, vI y, vI z, vS 0 A.length, vS 1 B.length, vS 2 C.length], vI 1048576]) (by kernel_rfl) rfl (by kernel_rfl) (Sound.lay0 [0, 1, 2] (szSh_sss_C x y z A B C 1048576 (by first | assumption | omega) (by first | omega | assumption | (simp; done) | (simp; omega)) (by first | assumption | omega | rfl | decide | exact HeapL.list _ _ _ _ | exact HeapL.nil _ _ _ | exact HeapL.all _ _ _ | (apply HeapL.lt64 <;> assumption) | (repeat' (first | assumption | apply or_lt64 | apply and_lt64 | apply andn_lt64 | apply pow_lt64 | (apply HeapL.lt64 <;> assumption)))) (by first | omega | assumption | decide)) ⟨rdF false (flatNums _ _ _ _) rfl rfl, ⟨rdF false (flatNums _ _ _ _) rfl rfl, ⟨rdF false (flatNums _ _ _ _) rfl rfl, trivial⟩⟩⟩ rfl ⟨clF (flatNums _ _ _ _), ⟨clF (flatNums _ _ _ _), ⟨clF (flatNums _ _ _ _), trivial⟩⟩⟩ rfl (by first | rfl | simp [mpV, mpA, mpS, mpP, renId, shift]) rfl) ?_
 refine segEndH [1, 2, 5] (T1 := (mkT 101 [(1, vI k), (2, vP 3 0), (5, vI (-1))])) (by kernel_rfl) ?_
 refine kSeq ?_
 refine cSeq ?_
 refine cSeq ?_
 refine cReg ?_
 refine segEndH [1, 2, 20] (T1 := (mkT 101 [(1, vI k), (2, vP 3 0), (20, .bool true)])) (by kernel_rfl) ?_
 refine kSeq ?_
 refine cTrue (by kernel_rfl) ?_
 refine cSeq ?_
 refine cReg ?_
 refine segEndH [4] (T1 := (mkT 101 [(4, .bool true)])) (by kernel_rfl) ?_
 refine kSeq ?_
 refine cRet ?_
 refine kSeqR ?_
 exact endQ (Or.inr rfl) (l := [.bool true]) [rB [vI x, vI y, vI z, vS 0 A.length, vS 1 B.length, vS 2 C.length] 24] (by kernel_rfl) (by first | rfl | kernel_rfl) rfl rfl hcl rfl
set_option maxRecDepth 100000 in
set_option maxHeartbeats 4000000 in
theorem lawMirrorShadow_no_sss (x : Int) (y : Int) (z : Int) (A : List Int) (B : List Int) (C : List Int) (k : Int) (hl : A.length + B.length + C.length ≤ 1048576) (hb : mirB x y z A B C k = false) : Sound Try.prog 12 [.agg #[vI x, vI y, vI z, vS 0 A.length, vS 1 B.length, vS 2 C.length], vI k] [nR A, nR B, nR C] (.bool true) [nR A, nR B, nR C] := by
 refine sound_intro (C := cx) Try.func12 rfl (by kernel_rfl) fun hcl => ?_
 refine cSeq ?_
 refine cReg ?_
 refine segEnd [1, 2] (T1 := (mkT 101 [(1, vI k), (2, vP 3 0)])) (H1 := [nR A, nR B, nR C, rB [vI x, vI y, vI z, vS 0 A.length, vS 1 B.length, vS 2 C.length] 24]) (by kernel_rfl) ?_
 refine kSeq ?_
 refine cSeq ?_
 refine cReg ?_
 refine segEndH [1, 2, 5] (T1 := (mkT 101 [(1, vI k), (2, vP 3 0), (5, vI 1048576)])) (by kernel_rfl) ?_
 refine kSeq ?_
 refine cSeq ?_
 refine cReg ?_
 refine segH 2 (T1 := (mkT 101 [(1, vI k), (2, vP 3 0), (5, vI 1048576), (16, .agg #[vI x, vI y, vI z, vS 0 A.length, vS 1 B.length, vS 2 C.length]), (17, vI 1048576)])) (by kernel_rfl) ?_
 refine rCall (v := vN (1048576 - A.length - B.length - C.length)) (args := [.agg #[vI x, vI y, vI z, vS 0 A.length, vS 1 B.length, vS 2 C.length], vI 1048576]) (by kernel_rfl) rfl (by kernel_rfl) (Sound.lay0 [0, 1, 2] (szSh_sss x y z A B C 1048576 (by first | omega | assumption | (simp; done) | (simp; omega)) (by first | omega | assumption | decide)) ⟨rdF false (flatNums _ _ _ _) rfl rfl, ⟨rdF false (flatNums _ _ _ _) rfl rfl, ⟨rdF false (flatNums _ _ _ _) rfl rfl, trivial⟩⟩⟩ rfl ⟨clF (flatNums _ _ _ _), ⟨clF (flatNums _ _ _ _), ⟨clF (flatNums _ _ _ _), trivial⟩⟩⟩ rfl (by first | rfl | simp [mpV, mpA, mpS, mpP, renId, shift]) rfl) ?_
 refine segEndH [1, 2, 5] (T1 := (mkT 101 [(1, vI k), (2, vP 3 0), (5, vN (1048576 - A.length - B.length - C.length))])) (by kernel_rfl) ?_
 refine kSeq ?_
 refine cSeq ?_
 refine cSeq ?_
 refine cReg ?_
 refine segEndH [1, 2, 20] (T1 := (mkT 101 [(1, vI k), (2, vP 3 0), (20, .bool (decide (((1048576 - A.length - B.length - C.length : Nat) : Int) < 0)))])) (by kernel_rfl) ?_
 refine kSeq ?_
 cases h1 : (decide (((1048576 - A.length - B.length - C.length : Nat) : Int) < 0) : Bool)
 ·
  (try simp only [bs0, bs1, bs2, bs3, beq_iff_eq, bne_iff_ne, beq_eq_false_iff_ne, bne_eq_false_iff_eq, ne_eq, bs4, bs5, bs6, bs7, bs8, bs9, bs10, bs11, ge_iff_le, gt_iff_lt] at h1)
  refine cFalse (by kernel_rfl) ?_
  refine cSkip ?_
  refine kSeq ?_
  refine cSeq ?_
  refine cReg ?_
  refine segH 1 (T1 := (mkT 101 [(1, vI k), (2, vP 3 0), (20, .bool false), (22, .agg #[vI x, vI y, vI z, vS 0 A.length, vS 1 B.length, vS 2 C.length])])) (by kernel_rfl) ?_
  refine rCall (v := .agg #[vI x, vI y, vI z, vS 4 A.length, vS 5 B.length, vS 6 C.length]) (args := [.agg #[vI x, vI y, vI z, vS 0 A.length, vS 1 B.length, vS 2 C.length]]) (by kernel_rfl) rfl (by kernel_rfl) (Sound.lay (E := [nW A, nW B, nW C]) [0, 1, 2] (toSh_sss x y z A B C (by first | omega | assumption) (by first | omega | assumption) (by first | omega | assumption)) ⟨rdF false (flatNums _ _ _ _) rfl rfl, ⟨rdF false (flatNums _ _ _ _) rfl rfl, ⟨rdF false (flatNums _ _ _ _) rfl rfl, trivial⟩⟩⟩ rfl ⟨clF (flatNums _ _ _ _), ⟨clF (flatNums _ _ _ _), ⟨clF (flatNums _ _ _ _), trivial⟩⟩⟩ rfl (by first | rfl | simp [mpV, mpA, mpS, mpP, renId, shift]) (by first | rfl | simp [mpV, mpA, mpS, mpP, renId, shift]) ⟨enF (flatNums _ _ _ _) (Or.inl rfl), ⟨enF (flatNums _ _ _ _) (Or.inl rfl), ⟨enF (flatNums _ _ _ _) (Or.inl rfl), trivial⟩⟩⟩) ?_
  refine seg 1 (T1 := (mkT 101 [(1, vI k), (2, vP 3 0), (20, .bool false), (22, .agg #[vI x, vI y, vI z, vS 0 A.length, vS 1 B.length, vS 2 C.length]), (23, .agg #[vI x, vI y, vI z, vS 4 A.length, vS 5 B.length, vS 6 C.length]), (24, vI k)])) (H1 := [nR A, nR B, nR C, rB [vI x, vI y, vI z, vS 0 A.length, vS 1 B.length, vS 2 C.length] 24, nW A, nW B, nW C]) (by kernel_rfl) ?_
  refine rCall (v := .tuple #[.agg #[vI 0, vI 0, vI 0, .slice none 0 0, .slice none 0 0, .slice none 0 0], .bool false]) (args := [.agg #[vI x, vI y, vI z, vS 4 A.length, vS 5 B.length, vS 6 C.length], vI k]) (by kernel_rfl) rfl (by kernel_rfl) (Sound.lay0 [4, 5, 6] (specMirrorShadow_bad x y z A B C k (by first | assumption | omega | rfl | decide | exact HeapL.list _ _ _ _ | exact HeapL.nil _ _ _ | exact HeapL.all _ _ _ | (apply HeapL.lt64 <;> assumption) | (repeat' (first | assumption | apply or_lt64 | apply and_lt64 | apply andn_lt64 | apply pow_lt64 | (apply HeapL.lt64 <;> assumption)))) (by first | omega | assumption | (simp; done)) (by first | omega | assumption | (simp; done)) (by first | omega | assumption | (simp; done))) ⟨rdF true (flatNums _ _ _ _) rfl rfl, ⟨rdF true (flatNums _ _ _ _) rfl rfl, ⟨rdF true (flatNums _ _ _ _) rfl rfl, trivial⟩⟩⟩ rfl ⟨clF (flatNums _ _ _ _), ⟨clF (flatNums _ _ _ _), ⟨clF (flatNums _ _ _ _), trivial⟩⟩⟩ rfl (by first | rfl | simp [mpV, mpA, mpS, mpP, renId, shift]) (by first | rfl | simp [mpV, mpA, mpS, mpP, renId, shift])) ?_
  refine segEnd [1, 2, 6, 7] (T1 := (mkT 101 [(1, vI k), (2, vP 3 0), (6, vP 7 0), (7, .bool false)])) (H1 := [nR A, nR B, nR C, rB [vI x, vI y, vI z, vS 0 A.length, vS 1 B.length, vS 2 C.length] 24, nW A, nW B, nW C, rB [vI 0, vI 0, vI 0, .slice none 0 0, .slice none 0 0, .slice none 0 0] 27]) (by kernel_rfl) ?_
  refine kSeq ?_
  refine cSeq ?_
  refine cReg ?_
  refine segH 1 (T1 := (mkT 101 [(1, vI k), (2, vP 3 0), (6, vP 7 0), (7, .bool false), (28, .agg #[vI x, vI y, vI z, vS 0 A.length, vS 1 B.length, vS 2 C.length])])) (by kernel_rfl) ?_
  refine rCall (v := .agg #[vI x, vI y, vI z, vS 8 A.length, vS 9 B.length, vS 10 C.length]) (args := [.agg #[vI x, vI y, vI z, vS 0 A.length, vS 1 B.length, vS 2 C.length]]) (by kernel_rfl) rfl (by kernel_rfl) (Sound.lay (E := [nW A, nW B, nW C]) [0, 1, 2] (toSh_sss x y z A B C (by first | omega | assumption) (by first | omega | assumption) (by first | omega | assumption)) ⟨rdF false (flatNums _ _ _ _) rfl rfl, ⟨rdF false (flatNums _ _ _ _) rfl rfl, ⟨rdF false (flatNums _ _ _ _) rfl rfl, trivial⟩⟩⟩ rfl ⟨clF (flatNums _ _ _ _), ⟨clF (flatNums _ _ _ _), ⟨clF (flatNums _ _ _ _), trivial⟩⟩⟩ rfl (by first | rfl | simp [mpV, mpA, mpS, mpP, renId, shift]) (by first | rfl | simp [mpV, mpA, mpS, mpP, renId, shift]) ⟨enF (flatNums _ _ _ _) (Or.inl rfl), ⟨enF (flatNums _ _ _ _) (Or.inl rfl), ⟨enF (flatNums _ _ _ _) (Or.inl rfl), trivial⟩⟩⟩) ?_
  refine segEnd [1, 2, 6, 7, 8] (T1 := (mkT 101 [(1, vI k), (2, vP 3 0), (6, vP 7 0), (7, .bool false), (8, vP 11 0)])) (H1 := [nR A, nR B, nR C, rB [vI x, vI y, vI z, vS 0 A.length, vS 1 B.length, vS 2 C.length] 24, nW A, nW B, nW C, rB [vI 0, vI 0, vI 0, .slice none 0 0, .slice none 0 0, .slice none 0 0] 27, nW A, nW B, nW C, rB [vI x, vI y, vI z, vS 8 A.length, vS 9 B.length, vS 10 C.length] 27]) (by kernel_rfl) ?_
  refine kSeq ?_
  refine cSeq ?_
  refine cReg ?_
  refine segH 2 (T1 := (mkT 101 [(1, vI k), (2, vP 3 0), (6, vP 7 0), (7, .bool false), (8, vP 11 0), (31, .agg #[vI x, vI y, vI z, vS 8 A.length, vS 9 B.length, vS 10 C.length]), (32, vI k)])) (by kernel_rfl) ?_
  refine rCall (v := .tuple #[.agg #[vI 0, vI 0, vI 0, .slice none 0 0, .slice none 0 0, .slice none 0 0], .bool false]) (args := [.agg #[vI x, vI y, vI z, vS 8 A.length, vS 9 B.length, vS 10 C.length], vI k]) (by kernel_rfl) rfl (by kernel_rfl) (Sound.lay0 [8, 9, 10] (implMirrorShadow_bad x y z A B C k (by first | assumption | omega | rfl | decide | exact HeapL.list _ _ _ _ | exact HeapL.nil _ _ _ | exact HeapL.all _ _ _ | (apply HeapL.lt64 <;> assumption) | (repeat' (first | assumption | apply or_lt64 | apply and_lt64 | apply andn_lt64 | apply pow_lt64 | (apply HeapL.lt64 <;> assumption)))) (by first | omega | assumption | (simp; done)) (by first | omega | assumption | (simp; done)) (by first | omega | assumption | (simp; done))) ⟨rdF true (flatNums _ _ _ _) rfl rfl, ⟨rdF true (flatNums _ _ _ _) rfl rfl, ⟨rdF true (flatNums _ _ _ _) rfl rfl, trivial⟩⟩⟩ rfl ⟨clF (flatNums _ _ _ _), ⟨clF (flatNums _ _ _ _), ⟨clF (flatNums _ _ _ _), trivial⟩⟩⟩ rfl (by first | rfl | simp [mpV, mpA, mpS, mpP, renId, shift]) (by first | rfl | simp [mpV, mpA, mpS, mpP, renId, shift])) ?_
  refine segEnd [1, 2, 6, 7, 8, 9, 10] (T1 := (mkT 101 [(1, vI k), (2, vP 3 0), (6, vP 7 0), (7, .bool false), (8, vP 11 0), (9, vP 12 0), (10, .bool false)])) (H1 := [nR A, nR B, nR C, rB [vI x, vI y, vI z, vS 0 A.length, vS 1 B.length, vS 2 C.length] 24, nW A, nW B, nW C, rB [vI 0, vI 0, vI 0, .slice none 0 0, .slice none 0 0, .slice none 0 0] 27, nW A, nW B, nW C, rB [vI x, vI y, vI z, vS 8 A.length, vS 9 B.length, vS 10 C.length] 27, rB [vI 0, vI 0, vI 0, .slice none 0 0, .slice none 0 0, .slice none 0 0] 27]) (by kernel_rfl) ?_
  refine kSeq ?_
  refine cSeq ?_
  refine cSeq ?_
  refine cReg ?_
  refine segH 2 (T1 := (mkT 101 [(1, vI k), (2, vP 3 0), (6, vP 7 0), (7, .bool false), (8, vP 11 0), (9, vP 12 0), (10, .bool false), (36, .agg #[vI 0, vI 0, vI 0, .slice none 0 0, .slice none 0 0, .slice none 0 0]), (37, .agg #[vI 0, vI 0, vI 0, .slice none 0 0, .slice none 0 0, .slice none 0 0])])) (by kernel_rfl) ?_
  refine rCall (v := .bool true) (args := [.agg #[vI 0, vI 0, vI 0, .slice none 0 0, .slice none 0 0, .slice none 0 0], .agg #[vI 0, vI 0, vI 0, .slice none 0 0, .slice none 0 0, .slice none 0 0]]) (by kernel_rfl) rfl (by kernel_rfl) (Sound.lay0 [] (eqSh_N) trivial rfl trivial rfl (by first | rfl | simp [mpV, mpA, mpS, mpP, renId, shift]) rfl) ?_
  refine segEndH [1, 2, 6, 7, 8, 9, 10, 44] (T1 := (mkT 101 [(1, vI k), (2, vP 3 0), (6, vP 7 0), (7, .bool false), (8, vP 11 0), (9, vP 12 0), (10, .bool false), (44, .bool false)])) (by kernel_rfl) ?_
  refine kSeq ?_
  refine cFalse (by kernel_rfl) ?_
  refine cSkip ?_
  refine kSeq ?_
  refine cSeq ?_
  refine cSeq ?_
  refine cRegW (N := 16) [⟨[], [], [11]⟩, ⟨[], [], [3]⟩, ⟨[13, 14, 15], [], [0, 1, 2]⟩, ⟨[], [], [8, 9, 10, 13, 14, 15]⟩, ⟨[], [], []⟩] 3 [13, 14, 15] (by rfl) (by rfl) (by kernel_rfl) (by kernel_rfl) (by kernel_rfl) ⟨nmsF (flatNums _ _ _ _), ⟨nmsF (flatNums _ _ _ _), ⟨nmsF (flatNums _ _ _ _), ⟨nmsX (by kernel_rfl), ⟨nmsF (flatNums _ _ _ _), ⟨nmsF (flatNums _ _ _ _), ⟨nmsF (flatNums _ _ _ _), ⟨nmsX (by kernel_rfl), ⟨nmsF (flatNums _ _ _ _), ⟨nmsF (flatNums _ _ _ _), ⟨nmsF (flatNums _ _ _ _), ⟨nmsX (by kernel_rfl), ⟨nmsX (by kernel_rfl), trivial⟩⟩⟩⟩⟩⟩⟩⟩⟩⟩⟩⟩⟩ ?_
  refine segWH 2 (T1 := (mkT 101 [(1, vI k), (2, vP 3 0), (6, vP 7 0), (7, .bool false), (8, vP 11 0), (9, vP 12 0), (10, .bool false), (44, .bool false), (45, .agg #[vI x, vI y, vI z, vS 8 A.length, vS 9 B.length, vS 10 C.length]), (46, .agg #[vI x, vI y, vI z, vS 0 A.length, vS 1 B.length, vS 2 C.length])])) (by kernel_rfl) ?_
  refine rW (m := ⟨[13, 14, 15], [], [0, 1, 2]⟩) (v := .agg #[vI x, vI y, vI z, vS 13 A.length, vS 14 B.length, vS 15 C.length]) rfl (by kernel_rfl) (stN (i := 13) (E := [nW A, nW B, nW C]) (v1 := .agg #[vI x, vI y, vI z, vS 16 A.length, vS 17 B.length, vS 18 C.length]) (args := [.agg #[vI x, vI y, vI z, vS 0 A.length, vS 1 B.length, vS 2 C.length]]) rfl (by kernel_rfl) (Any.lay (E := [nW A, nW B, nW C]) (N := 16) [0, 1, 2] (toSh_sss x y z A B C (by first | omega | assumption) (by first | omega | assumption) (by first | omega | assumption)) ⟨rdF false (flatNums _ _ _ _) rfl rfl, ⟨rdF false (flatNums _ _ _ _) rfl rfl, ⟨rdF false (flatNums _ _ _ _) rfl rfl, trivial⟩⟩⟩ rfl ⟨clF (flatNums _ _ _ _), ⟨clF (flatNums _ _ _ _), ⟨clF (flatNums _ _ _ _), trivial⟩⟩⟩ rfl (by first | rfl | simp [mpV, mpA, mpS, mpP, renId, shift]) (by first | rfl | simp [mpV, mpA, mpS, mpP, renId, shift]) ⟨enF (flatNums _ _ _ _) (Or.inl rfl), ⟨enF (flatNums _ _ _ _) (Or.inl rfl), ⟨enF (flatNums _ _ _ _) (Or.inl rfl), trivial⟩⟩⟩) rfl (by kernel_rfl) (by kernel_rfl) (by kernel_rfl) (by kernel_rfl) (FlatH.cons (flatNums _ _ _ _) (FlatH.cons (flatNums _ _ _ _) (FlatH.cons (flatNums _ _ _ _) FlatH.nil)))) (by kernel_rfl) (NRs.all ⟨nrOf (by rfl) (nmF (flatNums _ _ _ _)), ⟨nrOf (by rfl) (nmF (flatNums _ _ _ _)), ⟨nrOf (by rfl) (nmF (flatNums _ _ _ _)), trivial⟩⟩⟩) ?_
  refine rW (m := ⟨[], [], [8, 9, 10, 13, 14, 15]⟩) (v := .bool true) rfl (by kernel_rfl) (stQ (args := [.agg #[vI x, vI y, vI z, vS 8 A.length, vS 9 B.length, vS 10 C.length], .agg #[vI x, vI y, vI z, vS 13 A.length, vS 14 B.length, vS 15 C.length]]) rfl (by kernel_rfl) (Any.lay0 [8, 9, 10, 13, 14, 15] (eqSh x y z A B C (by first | omega | assumption | (simp; done)) (by first | omega | assumption | (simp; done)) (by first | omega | assumption | (simp; done))) ⟨rdF true (flatNums _ _ _ _) rfl rfl, ⟨rdF true (flatNums _ _ _ _) rfl rfl, ⟨rdF true (flatNums _ _ _ _) rfl rfl, ⟨rdF true (flatNums _ _ _ _) rfl rfl, ⟨rdF true (flatNums _ _ _ _) rfl rfl, ⟨rdF true (flatNums _ _ _ _) rfl rfl, trivial⟩⟩⟩⟩⟩⟩ rfl ⟨clF (flatNums _ _ _ _), ⟨clF (flatNums _ _ _ _), ⟨clF (flatNums _ _ _ _), ⟨clF (flatNums _ _ _ _), ⟨clF (flatNums _ _ _ _), ⟨clF (flatNums _ _ _ _), trivial⟩⟩⟩⟩⟩⟩ rfl (by first | rfl | simp [mpV, mpA, mpS, mpP, renId, shift]) rfl) rfl (by kernel_rfl) (by kernel_rfl)) (by kernel_rfl) nr0 ?_
  refine segEndW [1, 2, 6, 7, 8, 9, 10, 49] (T1 := (mkT 101 [(1, vI k), (2, vP 3 0), (6, vP 7 0), (7, .bool false), (8, vP 11 0), (9, vP 12 0), (10, .bool false), (49, .bool false)])) (H1 := [nR A, nR B, nR C, rB [vI x, vI y, vI z, vS 0 A.length, vS 1 B.length, vS 2 C.length] 24, nW A, nW B, nW C, rB [vI 0, vI 0, vI 0, .slice none 0 0, .slice none 0 0, .slice none 0 0] 27, nW A, nW B, nW C, rB [vI x, vI y, vI z, vS 8 A.length, vS 9 B.length, vS 10 C.length] 27, rB [vI 0, vI 0, vI 0, .slice none 0 0, .slice none 0 0, .slice none 0 0] 27, nW A, nW B, nW C]) (by kernel_rfl) ?_
  refine kSeq ?_
  refine cFalse (by kernel_rfl) ?_
  refine cSkip ?_
  refine kSeq ?_
  refine cSeq ?_
  refine cReg ?_
  refine segEndH [1, 2, 6, 7, 8, 9, 10, 11] (T1 := (mkT 101 [(1, vI k), (2, vP 3 0), (6, vP 7 0), (7, .bool false), (8, vP 11 0), (9, vP 12 0), (10, .bool false), (11, vI 1)])) (by kernel_rfl) ?_
  refine kSeq ?_
  refine cSeq ?_
  refine cReg ?_
  refine segH 2 (T1 := (mkT 101 [(1, vI k), (2, vP 3 0), (6, vP 7 0), (7, .bool false), (8, vP 11 0), (9, vP 12 0), (10, .bool false), (11, vI 1), (50, .agg #[vI x, vI y, vI z, vS 8 A.length, vS 9 B.length, vS 10 C.length]), (51, vI 1)])) (by kernel_rfl) ?_
  refine rCall (v := vN (1 + A.length + B.length + C.length)) (args := [.agg #[vI x, vI y, vI z, vS 8 A.length, vS 9 B.length, vS 10 C.length], vI 1]) (by kernel_rfl) rfl (by kernel_rfl) (Sound.emb_set3 (r0 := ⟨nums A, 3, false, true⟩) (r1 := ⟨nums B, 3, false, true⟩) (r2 := ⟨nums C, 3, false, true⟩) (q0 := ⟨nums (mkI 1 A.length), 3, false, true⟩) (q1 := ⟨nums (mkI (1 + A.length) B.length), 3, false, true⟩) (q2 := ⟨nums (mkI (1 + A.length + B.length) C.length), 3, false, true⟩) 8 9 10 (markSh x y z A B C 1 (by first | omega | assumption | (simp; done)) (by first | omega | assumption | (simp; done)) (by first | omega | assumption | (simp; done)) (by first | assumption | omega | rfl | decide | exact HeapL.list _ _ _ _ | exact HeapL.nil _ _ _ | exact HeapL.all _ _ _ | (apply HeapL.lt64 <;> assumption) | (repeat' (first | assumption | apply or_lt64 | apply and_lt64 | apply andn_lt64 | apply pow_lt64 | (apply HeapL.lt64 <;> assumption))))) ⟨⟨(flatNums _ _ _ _), rfl⟩, ⟨(flatNums _ _ _ _), rfl⟩, ⟨(flatNums _ _ _ _), rfl⟩⟩ ⟨⟨(flatNums _ _ _ _), rfl⟩, ⟨(flatNums _ _ _ _), rfl⟩, ⟨(flatNums _ _ _ _), rfl⟩⟩ rfl rfl rfl rfl rfl (by first | rfl | simp [mpV, mpA, mpS, mpP, renId, shift]) rfl) ?_
  refine segEnd [1, 2, 6, 7, 9, 10, 11] (T1 := (mkT 101 [(1, vI k), (2, vP 3 0), (6, vP 7 0), (7, .bool false), (9, vP 12 0), (10, .bool false), (11, vN (1 + A.length + B.length + C.length))])) (H1 := [nR A, nR B, nR C, rB [vI x, vI y, vI z, vS 0 A.length, vS 1 B.length, vS 2 C.length] 24, nW A, nW B, nW C, rB [vI 0, vI 0, vI 0, .slice none 0 0, .slice none 0 0, .slice none 0 0] 27, nW (mkI 1 A.length), nW (mkI (1 + A.length) B.length), nW (mkI (1 + A.length + B.length) C.length), rB [vI x, vI y, vI z, vS 8 A.length, vS 9 B.length, vS 10 C.length] 27, rB [vI 0, vI 0, vI 0, .slice none 0 0, .slice none 0 0, .slice none 0 0] 27, nW A, nW B, nW C]) (by kernel_rfl) ?_
  refine kSeq ?_
  refine cSeq ?_
  refine cSeq ?_
  refine cReg ?_
  refine segH 3 (T1 := (mkT 101 [(1, vI k), (2, vP 3 0), (6, vP 7 0), (7, .bool false), (9, vP 12 0), (10, .bool false), (11, vN (1 + A.length + B.length + C.length)), (53, vN (1 + A.length + B.length + C.length)), (54, .bool (decide (((1 + A.length + B.length + C.length : Nat) : Int) < 0))), (55, .bool (decide (((1 + A.length + B.length + C.length : Nat) : Int) < 0)))])) (by kernel_rfl) ?_
  cases h2 : (decide (((1 + A.length + B.length + C.length : Nat) : Int) < 0) : Bool)
  ·
   (try simp only [bs0, bs1, bs2, bs3, beq_iff_eq, bne_iff_ne, beq_eq_false_iff_ne, bne_eq_false_iff_eq, ne_eq, bs4, bs5, bs6, bs7, bs8, bs9, bs10, bs11, ge_iff_le, gt_iff_lt] at h2)
   refine seg 2 (T1 := (mkT 101 [(1, vI k), (2, vP 3 0), (6, vP 7 0), (7, .bool false), (9, vP 12 0), (10, .bool false), (11, vN (1 + A.length + B.length + C.length)), (53, vN (1 + A.length + B.length + C.length)), (54, .bool false), (55, .bool false), (56, .agg #[vI 0, vI 0, vI 0, .slice none 0 0, .slice none 0 0, .slice none 0 0]), (57, .agg #[vI 0, vI 0, vI 0, .slice none 0 0, .slice none 0 0, .slice none 0 0])])) (H1 := [nR A, nR B, nR C, rB [vI x, vI y, vI z, vS 0 A.length, vS 1 B.length, vS 2 C.length] 24, nW A, nW B, nW C, rB [vI 0, vI 0, vI 0, .slice none 0 0, .slice none 0 0, .slice none 0 0] 27, nW (mkI 1 A.length), nW (mkI (1 + A.length) B.length), nW (mkI (1 + A.length + B.length) C.length), rB [vI x, vI y, vI z, vS 8 A.length, vS 9 B.length, vS 10 C.length] 27, rB [vI 0, vI 0, vI 0, .slice none 0 0, .slice none 0 0, .slice none 0 0] 27, nW A, nW B, nW C]) (by kernel_rfl) ?_
   refine rCall (v := .bool true) (args := [.agg #[vI 0, vI 0, vI 0, .slice none 0 0, .slice none 0 0, .slice none 0 0], .agg #[vI 0, vI 0, vI 0, .slice none 0 0, .slice none 0 0, .slice none 0 0]]) (by kernel_rfl) rfl (by kernel_rfl) (Sound.lay0 [] (eqSh_N) trivial rfl trivial rfl (by first | rfl | simp [mpV, mpA, mpS, mpP, renId, shift]) rfl) ?_
   refine segEnd [1, 2, 6, 7, 9, 65] (T1 := (mkT 101 [(1, vI k), (2, vP 3 0), (6, vP 7 0), (7, .bool false), (9, vP 12 0), (65, .bool false)])) (H1 := [nR A, nR B, nR C, rB [vI x, vI y, vI z, vS 0 A.length, vS 1 B.length, vS 2 C.length] 24, nW A, nW B, nW C, rB [vI 0, vI 0, vI 0, .slice none 0 0, .slice none 0 0, .slice none 0 0] 27, nW (mkI 1 A.length), nW (mkI (1 + A.length) B.length), nW (mkI (1 + A.length + B.length) C.length), rB [vI x, vI y, vI z, vS 8 A.length, vS 9 B.length, vS 10 C.length] 27, rB [vI 0, vI 0, vI 0, .slice none 0 0, .slice none 0 0, .slice none 0 0] 27, nW A, nW B, nW C]) (by kernel_rfl) ?_
   refine kSeq ?_
   refine cFalse (by kernel_rfl) ?_
   refine cSkip ?_
   refine kSeq ?_
   refine cSeq ?_
   refine cReg ?_
   refine segEndH [1, 2, 6, 7, 9, 12] (T1 := (mkT 101 [(1, vI k), (2, vP 3 0), (6, vP 7 0), (7, .bool false), (9, vP 12 0), (12, vI 1)])) (by kernel_rfl) ?_
   refine kSeq ?_
   refine cSeq ?_
   refine cReg ?_
   refine segH 2 (T1 := (mkT 101 [(1, vI k), (2, vP 3 0), (6, vP 7 0), (7, .bool false), (9, vP 12 0), (12, vI 1), (66, .agg #[vI 0, vI 0, vI 0, .slice none 0 0, .slice none 0 0, .slice none 0 0]), (67, vI 1)])) (by kernel_rfl) ?_
   refine rCall (v := vI 1) (args := [.agg #[vI 0, vI 0, vI 0, .slice none 0 0, .slice none 0 0, .slice none 0 0], vI 1]) (by kernel_rfl) rfl (by kernel_rfl) (Sound.lay0 [] (markSh_N 1 (by first | assumption | omega | rfl | decide | exact HeapL.list _ _ _ _ | exact HeapL.nil _ _ _ | exact HeapL.all _ _ _ | (apply HeapL.lt64 <;> assumption) | (repeat' (first | assumption | apply or_lt64 | apply and_lt64 | apply andn_lt64 | apply pow_lt64 | (apply HeapL.lt64 <;> assumption))))) trivial rfl trivial rfl (by first | rfl | simp [mpV, mpA, mpS, mpP, renId, shift]) rfl) ?_
   refine segEndH [1, 2, 6, 7, 9, 12] (T1 := (mkT 101 [(1, vI k), (2, vP 3 0), (6, vP 7 0), (7, .bool false), (9, vP 12 0), (12, vI 1)])) (by kernel_rfl) ?_
   refine kSeq ?_
   refine cSeq ?_
   refine cReg ?_
   refine segEndH [1, 2, 6, 7, 9, 12, 13] (T1 := (mkT 101 [(1, vI k), (2, vP 3 0), (6, vP 7 0), (7, .bool false), (9, vP 12 0), (12, vI 1), (13, vI 1)])) (by kernel_rfl) ?_
   refine kSeq ?_
   refine cSeq ?_
   refine cReg ?_
   refine segH 2 (T1 := (mkT 101 [(1, vI k), (2, vP 3 0), (6, vP 7 0), (7, .bool false), (9, vP 12 0), (12, vI 1), (13, vI 1), (69, .agg #[vI 0, vI 0, vI 0, .slice none 0 0, .slice none 0 0, .slice none 0 0]), (70, vI 1)])) (by kernel_rfl) ?_
   refine rCall (v := vI 1) (args := [.agg #[vI 0, vI 0, vI 0, .slice none 0 0, .slice none 0 0, .slice none 0 0], vI 1]) (by kernel_rfl) rfl (by kernel_rfl) (Sound.lay0 [] (heldSh_N 1 (by first | assumption | omega | rfl | decide | exact HeapL.list _ _ _ _ | exact HeapL.nil _ _ _ | exact HeapL.all _ _ _ | (apply HeapL.lt64 <;> assumption) | (repeat' (first | assumption | apply or_lt64 | apply and_lt64 | apply andn_lt64 | apply pow_lt64 | (apply HeapL.lt64 <;> assumption))))) trivial rfl trivial rfl (by first | rfl | simp [mpV, mpA, mpS, mpP, renId, shift]) rfl) ?_
   refine segEndH [1, 2, 6, 7, 9, 12, 13] (T1 := (mkT 101 [(1, vI k), (2, vP 3 0), (6, vP 7 0), (7, .bool false), (9, vP 12 0), (12, vI 1), (13, vI 1)])) (by kernel_rfl) ?_
   refine kSeq ?_
   refine cSeq ?_
   refine cSeq ?_
   refine cReg ?_
   refine segEndH [1, 2, 6, 7, 9, 12, 13, 73] (T1 := (mkT 101 [(1, vI k), (2, vP 3 0), (6, vP 7 0), (7, .bool false), (9, vP 12 0), (12, vI 1), (13, vI 1), (73, .bool false)])) (by kernel_rfl) ?_
   refine kSeq ?_
   refine cFalse (by kernel_rfl) ?_
   refine cSkip ?_
   refine kSeq ?_
   refine cSeq ?_
   refine cSeq ?_
   refine cReg ?_
   refine segEndH [1, 2, 6, 7, 9, 12, 76] (T1 := (mkT 101 [(1, vI k), (2, vP 3 0), (6, vP 7 0), (7, .bool false), (9, vP 12 0), (12, vI 1), (76, .bool false)])) (by kernel_rfl) ?_
   refine kSeq ?_
   refine cFalse (by kernel_rfl) ?_
   refine cSkip ?_
   refine kSeq ?_
   refine cSeq ?_
   refine cReg ?_
   refine segH 1 (T1 := (mkT 101 [(1, vI k), (2, vP 3 0), (6, vP 7 0), (7, .bool false), (9, vP 12 0), (12, vI 1), (76, .bool false), (78, .agg #[vI x, vI y, vI z, vS 0 A.length, vS 1 B.length, vS 2 C.length])])) (by kernel_rfl) ?_
   refine rCall (v := .agg #[vI x, vI y, vI z, vS 16 A.length, vS 17 B.length, vS 18 C.length]) (args := [.agg #[vI x, vI y, vI z, vS 0 A.length, vS 1 B.length, vS 2 C.length]]) (by kernel_rfl) rfl (by kernel_rfl) (Sound.lay (E := [nW A, nW B, nW C]) [0, 1, 2] (toSh_sss x y z A B C (by first | omega | assumption) (by first | omega | assumption) (by first | omega | assumption)) ⟨rdF false (flatNums _ _ _ _) rfl rfl, ⟨rdF false (flatNums _ _ _ _) rfl rfl, ⟨rdF false (flatNums _ _ _ _) rfl rfl, trivial⟩⟩⟩ rfl ⟨clF (flatNums _ _ _ _), ⟨clF (flatNums _ _ _ _), ⟨clF (flatNums _ _ _ _), trivial⟩⟩⟩ rfl (by first | rfl | simp [mpV, mpA, mpS, mpP, renId, shift]) (by first | rfl | simp [mpV, mpA, mpS, mpP, renId, shift]) ⟨enF (flatNums _ _ _ _) (Or.inl rfl), ⟨enF (flatNums _ _ _ _) (Or.inl rfl), ⟨enF (flatNums _ _ _ _) (Or.inl rfl), trivial⟩⟩⟩) ?_
   refine seg 1 (T1 := (mkT 101 [(1, vI k), (2, vP 3 0), (6, vP 7 0), (7, .bool false), (9, vP 12 0), (12, vI 1), (76, .bool false), (78, .agg #[vI x, vI y, vI z, vS 0 A.length, vS 1 B.length, vS 2 C.length]), (79, .agg #[vI x, vI y, vI z, vS 16 A.length, vS 17 B.length, vS 18 C.length]), (80, vI k)])) (H1 := [nR A, nR B, nR C, rB [vI x, vI y, vI z, vS 0 A.length, vS 1 B.length, vS 2 C.length] 24, nW A, nW B, nW C, rB [vI 0, vI 0, vI 0, .slice none 0 0, .slice none 0 0, .slice none 0 0] 27, nW (mkI 1 A.length), nW (mkI (1 + A.length) B.length), nW (mkI (1 + A.length + B.length) C.length), rB [vI x, vI y, vI z, vS 8 A.length, vS 9 B.length, vS 10 C.length] 27, rB [vI 0, vI 0, vI 0, .slice none 0 0, .slice none 0 0, .slice none 0 0] 27, nW A, nW B, nW C, nW A, nW B, nW C]) (by kernel_rfl) ?_
   refine rCall (v := .tuple #[.agg #[vI 0, vI 0, vI 0, .slice none 0 0, .slice none 0 0, .slice none 0 0], .bool false]) (args := [.agg #[vI x, vI y, vI z, vS 16 A.length, vS 17 B.length, vS 18 C.length], vI k]) (by kernel_rfl) rfl (by kernel_rfl) (Sound.lay0 [16, 17, 18] (implMirrorShadow_bad x y z A B C k (by first | assumption | omega | rfl | decide | exact HeapL.list _ _ _ _ | exact HeapL.nil _ _ _ | exact HeapL.all _ _ _ | (apply HeapL.lt64 <;> assumption) | (repeat' (first | assumption | apply or_lt64 | apply and_lt64 | apply andn_lt64 | apply pow_lt64 | (apply HeapL.lt64 <;> assumption)))) (by first | omega | assumption | (simp; done)) (by first | omega | assumption | (simp; done)) (by first | omega | assumption | (simp; done))) ⟨rdF true (flatNums _ _ _ _) rfl rfl, ⟨rdF true (flatNums _ _ _ _) rfl rfl, ⟨rdF true (flatNums _ _ _ _) rfl rfl, trivial⟩⟩⟩ rfl ⟨clF (flatNums _ _ _ _), ⟨clF (flatNums _ _ _ _), ⟨clF (flatNums _ _ _ _), trivial⟩⟩⟩ rfl (by first | rfl | simp [mpV, mpA, mpS, mpP, renId, shift]) (by first | rfl | simp [mpV, mpA, mpS, mpP, renId, shift])) ?_
   refine segEnd [6, 7, 9, 12, 14, 15] (T1 := (mkT 101 [(6, vP 7 0), (7, .bool false), (9, vP 12 0), (12, vI 1), (14, vP 19 0), (15, .bool false)])) (H1 := [nR A, nR B, nR C, rB [vI x, vI y, vI z, vS 0 A.length, vS 1 B.length, vS 2 C.length] 24, nW A, nW B, nW C, rB [vI 0, vI 0, vI 0, .slice none 0 0, .slice none 0 0, .slice none 0 0] 27, nW (mkI 1 A.length), nW (mkI (1 + A.length) B.length), nW (mkI (1 + A.length + B.length) C.length), rB [vI x, vI y, vI z, vS 8 A.length, vS 9 B.length, vS 10 C.length] 27, rB [vI 0, vI 0, vI 0, .slice none 0 0, .slice none 0 0, .slice none 0 0] 27, nW A, nW B, nW C, nW A, nW B, nW C, rB [vI 0, vI 0, vI 0, .slice none 0 0, .slice none 0 0, .slice none 0 0] 27]) (by kernel_rfl) ?_
   refine kSeq ?_
   refine cSeq ?_
   refine cSeq ?_
   refine cReg ?_
   refine segH 2 (T1 := (mkT 101 [(6, vP 7 0), (7, .bool false), (9, vP 12 0), (12, vI 1), (14, vP 19 0), (15, .bool false), (84, .agg #[vI 0, vI 0, vI 0, .slice none 0 0, .slice none 0 0, .slice none 0 0]), (85, .agg #[vI 0, vI 0, vI 0, .slice none 0 0, .slice none 0 0, .slice none 0 0])])) (by kernel_rfl) ?_
   refine rCall (v := .bool true) (args := [.agg #[vI 0, vI 0, vI 0, .slice none 0 0, .slice none 0 0, .slice none 0 0], .agg #[vI 0, vI 0, vI 0, .slice none 0 0, .slice none 0 0, .slice none 0 0]]) (by kernel_rfl) rfl (by kernel_rfl) (Sound.lay0 [] (eqSh_N) trivial rfl trivial rfl (by first | rfl | simp [mpV, mpA, mpS, mpP, renId, shift]) rfl) ?_
   refine segEndH [9, 12, 92] (T1 := (mkT 101 [(9, vP 12 0), (12, vI 1), (92, .bool false)])) (by kernel_rfl) ?_
   refine kSeq ?_
   refine cFalse (by kernel_rfl) ?_
   refine cSkip ?_
   refine kSeq ?_
   refine cSeq ?_
   refine cReg ?_
   refine segEndH [9, 12, 13] (T1 := (mkT 101 [(9, vP 12 0), (12, vI 1), (13, vI 1)])) (by kernel_rfl) ?_
   refine kSeq ?_
   refine cSeq ?_
   refine cReg ?_
   refine segH 2 (T1 := (mkT 101 [(9, vP 12 0), (12, vI 1), (13, vI 1), (93, .agg #[vI 0, vI 0, vI 0, .slice none 0 0, .slice none 0 0, .slice none 0 0]), (94, vI 1)])) (by kernel_rfl) ?_
   refine rCall (v := vI 1) (args := [.agg #[vI 0, vI 0, vI 0, .slice none 0 0, .slice none 0 0, .slice none 0 0], vI 1]) (by kernel_rfl) rfl (by kernel_rfl) (Sound.lay0 [] (heldSh_N 1 (by first | assumption | omega | rfl | decide | exact HeapL.list _ _ _ _ | exact HeapL.nil _ _ _ | exact HeapL.all _ _ _ | (apply HeapL.lt64 <;> assumption) | (repeat' (first | assumption | apply or_lt64 | apply and_lt64 | apply andn_lt64 | apply pow_lt64 | (apply HeapL.lt64 <;> assumption))))) trivial rfl trivial rfl (by first | rfl | simp [mpV, mpA, mpS, mpP, renId, shift]) rfl) ?_
   refine segEndH [12, 13] (T1 := (mkT 101 [(12, vI 1), (13, vI 1)])) (by kernel_rfl) ?_
   refine kSeq ?_
   refine cSeq ?_
   refine cSeq ?_
   refine cReg ?_
   refine segEndH [12, 13, 97] (T1 := (mkT 101 [(12, vI 1), (13, vI 1), (97, .bool false)])) (by kernel_rfl) ?_
   refine kSeq ?_
   refine cFalse (by kernel_rfl) ?_
   refine cSkip ?_
   refine kSeq ?_
   refine cSeq ?_
   refine cSeq ?_
   refine cReg ?_
   refine segEndH [100] (T1 := (mkT 101 [(100, .bool false)])) (by kernel_rfl) ?_
   refine kSeq ?_
   refine cFalse (by kernel_rfl) ?_
   refine cSkip ?_
   refine kSeq ?_
   refine cSeq ?_
   refine cReg ?_
   refine segEndH [4] (T1 := (mkT 101 [(4, .bool true)])) (by kernel_rfl) ?_
   refine kSeq ?_
   refine cRet ?_
   exact endQ (Or.inr rfl) (l := [.bool true]) [rB [vI x, vI y, vI z, vS 0 A.length, vS 1 B.length, vS 2 C.length] 24, nW A, nW B, nW C, rB [vI 0, vI 0, vI 0, .slice none 0 0, .slice none 0 0, .slice none 0 0] 27, nW (mkI 1 A.length), nW (mkI (1 + A.length) B.length), nW (mkI (1 + A.length + B.length) C.length), rB [vI x, vI y, vI z, vS 8 A.length, vS 9 B.length, vS 10 C.length] 27, rB [vI 0, vI 0, vI 0, .slice none 0 0, .slice none 0 0, .slice none 0 0] 27, nW A, nW B, nW C, nW A, nW B, nW C, rB [vI 0, vI 0, vI 0, .slice none 0 0, .slice none 0 0, .slice none 0 0] 27] (by kernel_rfl) (by first | rfl | kernel_rfl) rfl rfl hcl rfl
  ·
   (try simp only [bs0, bs1, bs2, bs3, beq_iff_eq, bne_iff_ne, beq_eq_false_iff_ne, bne_eq_false_iff_eq, ne_eq, bs4, bs5, bs6, bs7, bs8, bs9, bs10, bs11, ge_iff_le, gt_iff_lt] at h2)
   exfalso; omega
 ·
  (try simp only [bs0, bs1, bs2, bs3, beq_iff_eq, bne_iff_ne, beq_eq_false_iff_ne, bne_eq_false_iff_eq, ne_eq, bs4, bs5, bs6, bs7, bs8, bs9, bs10, bs11, ge_iff_le, gt_iff_lt] at h1)
  exfalso; omega
end Go.Proofs.Ytbheeobnghlckaa
set_option linter.unusedVariables false
set_option linter.unusedSimpArgs false
namespace Go.Proofs.Ytbheeobnghlckaa
open Go.Am Go.RowKit
set_option maxRecDepth 100000 in
set_option maxHeartbeats 4000000 in
theorem lawMirrorShadow_bigA_ssn (x : Int) (y : Int) (z : Int) (A : List Int) (B : List Int) (k : Int) (hl : 1048576 < A.length) (hm : A.length ≤ 9223372036854775807) : Sound Try.prog 12 [.agg #[vI x, vI y, vI z, vS 0 A.length, vS 1 B.length, .slice none 0 0], vI k] [nR A, nR B] (.bool true) [nR A, nR B] := by
 refine sound_intro (C := cx) Try.func12 rfl (by kernel_rfl) fun hcl => ?_
 refine cSeq ?_
 refine cReg ?_
 refine segEnd [1, 2] (T1 := (mkT 101 [(1, vI k), (2, vP 2 0)])) (H1 := [nR A, nR B, rB [vI x, vI y, vI z, vS 0 A.length, vS 1 B.length, .slice none 0 0] 24]) (by kernel_rfl) ?_
 refine kSeq ?_
 refine cSeq ?_
 refine cReg ?_
 refine segEndH [1, 2, 5] (T1 := (mkT 101 [(1, vI k), (2, vP 2 0), (5, vI 1048576)])) (by kernel_rfl) ?_
 refine kSeq ?_
 refine cSeq ?_
 refine cReg ?_
 refine segH 2 (T1 := (mkT 101 [(1, vI k), (2, vP 2 0), (5, vI 1048576), (16, .agg #[vI x, vI y, vI z, vS 0 A.length, vS 1 B.length, .slice none 0 0]), (17, vI 1048576)])) (by kernel_rfl) ?_
 refine rCall (v := vI (-1)) (args := [.agg #[vI x, vI y, vI z, vS 0 A.length, vS 1 B.length, .slice none 0 0], vI 1048576]) (by kernel_rfl) rfl (by kernel_rfl) (Sound.lay0 [0, 1] (szSh_ssn_A x y z A B 1048576 (by first | omega | assumption | (simp; done) | (simp; omega)) (by first | assumption | omega | rfl | decide | exact HeapL.list _ _ _ _ | exact HeapL.nil _ _ _ | exact HeapL.all _ _ _ | (apply HeapL.lt64 <;> assumption) | (repeat' (first | assumption | apply or_lt64 | apply and_lt64 | apply andn_lt64 | apply pow_lt64 | (apply HeapL.lt64 <;> assumption)))) (by first | omega | assumption | decide)) ⟨rdF false (flatNums _ _ _ _) rfl rfl, ⟨rdF false (flatNums _ _ _ _) rfl rfl, trivial⟩⟩ rfl ⟨clF (flatNums _ _ _ _), ⟨clF (flatNums _ _ _ _), trivial⟩⟩ rfl (by first | rfl | simp [mpV, mpA, mpS, mpP, renId, shift]) rfl) ?_
 refine segEndH [1, 2, 5] (T1 := (mkT 101 [(1, vI k), (2, vP 2 0), (5, vI (-1))])) (by kernel_rfl) ?_
 refine kSeq ?_
 refine cSeq ?_
 refine cSeq ?_
 refine cReg ?_
 refine segEndH [1, 2, 20] (T1 := (mkT 101 [(1, vI k), (2, vP 2 0), (20, .bool true)])) (by kernel_rfl) ?_
 refine kSeq ?_
 refine cTrue (by kernel_rfl) ?_
 refine cSeq ?_
 refine cReg ?_
 refine segEndH [4] (T1 := (mkT 101 [(4, .bool true)])) (by kernel_rfl) ?_
 refine kSeq ?_
 refine cRet ?_
 refine kSeqR ?_
 exact endQ (Or.inr rfl) (l := [.bool true]) [rB [vI x, vI y, vI z, vS 0 A.length, vS 1 B.length, .slice none 0 0] 24] (by kernel_rfl) (by first | rfl | kernel_rfl) rfl rfl hcl rfl
set_option maxRecDepth 100000 in
set_option maxHeartbeats 4000000 in
theorem lawMirrorShadow_bigB_ssn (x : Int) (y : Int) (z : Int) (A : List Int) (B : List Int) (k : Int) (h0 : A.length ≤ 1048576) (hl : 1048576 - A.length < B.length) (hm : B.length ≤ 9223372036854775807) : Sound Try.prog 12 [.agg #[vI x, vI y, vI z, vS 0 A.length, vS 1 B.length, .slice none 0 0], vI k] [nR A, nR B] (.bool true) [nR A, nR B] := by
 refine sound_intro (C := cx) Try.func12 rfl (by kernel_rfl) fun hcl => ?_
 refine cSeq ?_
 refine cReg ?_
 refine segEnd [1, 2] (T1 := (mkT 101 [(1, vI k), (2, vP 2 0)])) (H1 := [nR A, nR B, rB [vI x, vI y, vI z, vS 0 A.length, vS 1 B.length, .slice none 0 0] 24]) (by kernel_rfl) ?_
 refine kSeq ?_
 refine cSeq ?_
 refine cReg ?_
 refine segEndH [1, 2, 5] (T1 := (mkT 101 [(1, vI k), (2, vP 2 0), (5, vI 1048576)])) (by kernel_rfl) ?_
 refine kSeq ?_
 refine cSeq ?_
 refine cReg ?_
 refine segH 2 (T1 := (mkT 101 [(1, vI k), (2, vP 2 0), (5, vI 1048576), (16, .agg #[vI x, vI y, vI z, vS 0 A.length, vS 1 B.length, .slice none 0 0]), (17, vI 1048576)])) (by kernel_rfl) ?_
 refine rCall (v := vI (-1)) (args := [.agg #[vI x, vI y, vI z, vS 0 A.length, vS 1 B.length, .slice none 0 0], vI 1048576]) (by kernel_rfl) rfl (by kernel_rfl) (Sound.lay0 [0, 1] (szSh_ssn_B x y z A B 1048576 (by first | assumption | omega) (by first | omega | assumption | (simp; done) | (simp; omega)) (by first | assumption | omega | rfl | decide | exact HeapL.list _ _ _ _ | exact HeapL.nil _ _ _ | exact HeapL.all _ _ _ | (apply HeapL.lt64 <;> assumption) | (repeat' (first | assumption | apply or_lt64 | apply and_lt64 | apply andn_lt64 | apply pow_lt64 | (apply HeapL.lt64 <;> assumption)))) (by first | omega | assumption | decide)) ⟨rdF false (flatNums _ _ _ _) rfl rfl, ⟨rdF false (flatNums _ _ _ _) rfl rfl, trivial⟩⟩ rfl ⟨clF (flatNums _ _ _ _), ⟨clF (flatNums _ _ _ _), trivial⟩⟩ rfl (by first | rfl | simp [mpV, mpA, mpS, mpP, renId, shift]) rfl) ?_
 refine segEndH [1, 2, 5] (T1 := (mkT 101 [(1, vI k), (2, vP 2 0), (5, vI (-1))])) (by kernel_rfl) ?_
 refine kSeq ?_
 refine cSeq ?_
 refine cSeq ?_
 refine cReg ?_
 refine segEndH [1, 2, 20] (T1 := (mkT 101 [(1, vI k), (2, vP 2 0), (20, .bool true)])) (by kernel_rfl) ?_
 refine kSeq ?_
 refine cTrue (by kernel_rfl) ?_
 refine cSeq ?_
 refine cReg ?_
 refine segEndH [4] (T1 := (mkT 101 [(4, .bool true)])) (by kernel_rfl) ?_
 refine kSeq ?_
 refine cRet ?_
 refine kSeqR ?_
 exact endQ (Or.inr rfl) (l := [.bool true]) [rB [vI x, vI y, vI z, vS 0 A.length, vS 1 B.length, .slice none 0 0] 24] (by kernel_rfl) (by first | rfl | kernel_rfl) rfl rfl hcl rfl
set_option maxRecDepth 100000 in
set_option maxHeartbeats 4000000 in
theorem lawMirrorShadow_no_ssn (x : Int) (y : Int) (z : Int) (A : List Int) (B : List Int) (k : Int) (hl : A.length + B.length ≤ 1048576) (hb : mirB x y z A B ([] : List Int) k = false) : Sound Try.prog 12 [.agg #[vI x, vI y, vI z, vS 0 A.length, vS 1 B.length, .slice none 0 0], vI k] [nR A, nR B] (.bool true) [nR A, nR B] := by
 refine sound_intro (C := cx) Try.func12 rfl (by kernel_rfl) fun hcl => ?_
 refine cSeq ?_
 refine cReg ?_
 refine segEnd [1, 2] (T1 := (mkT 101 [(1, vI k), (2, vP 2 0)])) (H1 := [nR A, nR B, rB [vI x, vI y, vI z, vS 0 A.length, vS 1 B.length, .slice none 0 0] 24]) (by kernel_rfl) ?_
 refine kSeq ?_
 refine cSeq ?_
 refine cReg ?_
 refine segEndH [1, 2, 5] (T1 := (mkT 101 [(1, vI k), (2, vP 2 0), (5, vI 1048576)])) (by kernel_rfl) ?_
 refine kSeq ?_
 refine cSeq ?_
 refine cReg ?_
 refine segH 2 (T1 := (mkT 101 [(1, vI k), (2, vP 2 0), (5, vI 1048576), (16, .agg #[vI x, vI y, vI z, vS 0 A.length, vS 1 B.length, .slice none 0 0]), (17, vI 1048576)])) (by kernel_rfl) ?_
 refine rCall (v := vN (1048576 - A.length - B.length)) (args := [.agg #[vI x, vI y, vI z, vS 0 A.length, vS 1 B.length, .slice none 0 0], vI 1048576]) (by kernel_rfl) rfl (by kernel_rfl) (Sound.lay0 [0, 1] (szSh_ssn x y z A B 1048576 (by first | omega | assumption | (simp; done) | (simp; omega)) (by first | omega | assumption | decide)) ⟨rdF false (flatNums _ _ _ _) rfl rfl, ⟨rdF false (flatNums _ _ _ _) rfl rfl, trivial⟩⟩ rfl ⟨clF (flatNums _ _ _ _), ⟨clF (flatNums _ _ _ _), trivial⟩⟩ rfl (by first | rfl | simp [mpV, mpA, mpS, mpP, renId, shift]) rfl) ?_
 refine segEndH [1, 2, 5] (T1 := (mkT 101 [(1, vI k), (2, vP 2 0), (5, vN (1048576 - A.length - B.length))])) (by kernel_rfl) ?_
 refine kSeq ?_
 refine cSeq ?_
 refine cSeq ?_
 refine cReg ?_
 refine segEndH [1, 2, 20] (T1 := (mkT 101 [(1, vI k), (2, vP 2 0), (20, .bool (decide (((1048576 - A.length - B.length : Nat) : Int) < 0)))])) (by kernel_rfl) ?_
 refine kSeq ?_
 cases h1 : (decide (((1048576 - A.length - B.length : Nat) : Int) < 0) : Bool)
 ·
  (try simp only [bs0, bs1, bs2, bs3, beq_iff_eq, bne_iff_ne, beq_eq_false_iff_ne, bne_eq_false_iff_eq, ne_eq, bs4, bs5, bs6, bs7, bs8, bs9, bs10, bs11, ge_iff_le, gt_iff_lt] at h1)
  refine cFalse (by kernel_rfl) ?_
  refine cSkip ?_
  refine kSeq ?_
  refine cSeq ?_
  refine cReg ?_
  refine segH 1 (T1 := (mkT 101 [(1, vI k), (2, vP 2 0), (20, .bool false), (22, .agg #[vI x, vI y, vI z, vS 0 A.length, vS 1 B.length, .slice none 0 0])])) (by kernel_rfl) ?_
  refine rCall (v := .agg #[vI x, vI y, vI z, vS 3 A.length, vS 4 B.length, vS 5 0]) (args := [.agg #[vI x, vI y, vI z, vS 0 A.length, vS 1 B.length, .slice none 0 0]]) (by kernel_rfl) rfl (by kernel_rfl) (Sound.lay (E := [nW A, nW B, nW ([] : List Int)]) [0, 1] (toSh_ssn x y z A B (by first | omega | assumption) (by first | omega | assumption)) ⟨rdF false (flatNums _ _ _ _) rfl rfl, ⟨rdF false (flatNums _ _ _ _) rfl rfl, trivial⟩⟩ rfl ⟨clF (flatNums _ _ _ _), ⟨clF (flatNums _ _ _ _), trivial⟩⟩ rfl (by first | rfl | simp [mpV, mpA, mpS, mpP, renId, shift]) (by first | rfl | simp [mpV, mpA, mpS, mpP, renId, shift]) ⟨enF (flatNums _ _ _ _) (Or.inl rfl), ⟨enF (flatNums _ _ _ _) (Or.inl rfl), ⟨enF (flatNums _ _ _ _) (Or.inl rfl), trivial⟩⟩⟩) ?_
  refine seg 1 (T1 := (mkT 101 [(1, vI k), (2, vP 2 0), (20, .bool false), (22, .agg #[vI x, vI y, vI z, vS 0 A.length, vS 1 B.length, .slice none 0 0]), (23, .agg #[vI x, vI y, vI z, vS 3 A.length, vS 4 B.length, vS 5 0]), (24, vI k)])) (H1 := [nR A, nR B, rB [vI x, vI y, vI z, vS 0 A.length, vS 1 B.length, .slice none 0 0] 24, nW A, nW B, nW ([] : List Int)]) (by kernel_rfl) ?_
  refine rCall (v := .tuple #[.agg #[vI 0, vI 0, vI 0, .slice none 0 0, .slice none 0 0, .slice none 0 0], .bool false]) (args := [.agg #[vI x, vI y, vI z, vS 3 A.length, vS 4 B.length, vS 5 0], vI k]) (by kernel_rfl) rfl (by kernel_rfl) (Sound.lay0 [3, 4, 5] (specMirrorShadow_bad x y z A B ([] : List Int) k (by first | assumption | omega | rfl | decide | exact HeapL.list _ _ _ _ | exact HeapL.nil _ _ _ | exact HeapL.all _ _ _ | (apply HeapL.lt64 <;> assumption) | (repeat' (first | assumption | apply or_lt64 | apply and_lt64 | apply andn_lt64 | apply pow_lt64 | (apply HeapL.lt64 <;> assumption)))) (by first | omega | assumption | (simp; done)) (by first | omega | assumption | (simp; done)) (by first | omega | assumption | (simp; done))) ⟨rdF true (flatNums _ _ _ _) rfl rfl, ⟨rdF true (flatNums _ _ _ _) rfl rfl, ⟨rdF true (flatNums _ _ _ _) rfl rfl, trivial⟩⟩⟩ rfl ⟨clF (flatNums _ _ _ _), ⟨clF (flatNums _ _ _ _), ⟨clF (flatNums _ _ _ _), trivial⟩⟩⟩ rfl (by first | rfl | simp [mpV, mpA, mpS, mpP, renId, shift]) (by first | rfl | simp [mpV, mpA, mpS, mpP, renId, shift])) ?_
  refine segEnd [1, 2, 6, 7] (T1 := (mkT 101 [(1, vI k), (2, vP 2 0), (6, vP 6 0), (7, .bool false)])) (H1 := [nR A, nR B, rB [vI x, vI y, vI z, vS 0 A.length, vS 1 B.length, .slice none 0 0] 24, nW A, nW B, nW ([] : List Int), rB [vI 0, vI 0, vI 0, .slice none 0 0, .slice none 0 0, .slice none 0 0] 27]) (by kernel_rfl) ?_
  refine kSeq ?_
  refine cSeq ?_
  refine cReg ?_
  refine segH 1 (T1 := (mkT 101 [(1, vI k), (2, vP 2 0), (6, vP 6 0), (7, .bool false), (28, .agg #[vI x, vI y, vI z, vS 0 A.length, vS 1 B.length, .slice none 0 0])])) (by kernel_rfl) ?_
  refine rCall (v := .agg #[vI x, vI y, vI z, vS 7 A.length, vS 8 B.length, vS 9 0]) (args := [.agg #[vI x, vI y, vI z, vS 0 A.length, vS 1 B.length, .slice none 0 0]]) (by kernel_rfl) rfl (by kernel_rfl) (Sound.lay (E := [nW A, nW B, nW ([] : List Int)]) [0, 1] (toSh_ssn x y z A B (by first | omega | assumption) (by first | omega | assumption)) ⟨rdF false (flatNums _ _ _ _) rfl rfl, ⟨rdF false (flatNums _ _ _ _) rfl rfl, trivial⟩⟩ rfl ⟨clF (flatNums _ _ _ _), ⟨clF (flatNums _ _ _ _), trivial⟩⟩ rfl (by first | rfl | simp [mpV, mpA, mpS, mpP, renId, shift]) (by first | rfl | simp [mpV, mpA, mpS, mpP, renId, shift]) ⟨enF (flatNums _ _ _ _) (Or.inl rfl), ⟨enF (flatNums _ _ _ _) (Or.inl rfl), ⟨enF (flatNums _ _ _ _) (Or.inl rfl), trivial⟩⟩⟩) ?_
  refine segEnd [1, 2, 6, 7, 8] (T1 := (mkT 101 [(1, vI k), (2, vP 2 0), (6, vP 6 0), (7, .bool false), (8, vP 10 0)])) (H1 := [nR A, nR B, rB [vI x, vI y, vI z, vS 0 A.length, vS 1 B.length, .slice none 0 0] 24, nW A, nW B, nW ([] : List Int), rB [vI 0, vI 0, vI 0, .slice none 0 0, .slice none 0 0, .slice none 0 0] 27, nW A, nW B, nW ([] : List Int), rB [vI x, vI y, vI z, vS 7 A.length, vS 8 B.length, vS 9 0] 27]) (by kernel_rfl) ?_
  refine kSeq ?_
  refine cSeq ?_
  refine cReg ?_
  refine segH 2 (T1 := (mkT 101 [(1, vI k), (2, vP 2 0), (6, vP 6 0), (7, .bool false), (8, vP 10 0), (31, .agg #[vI x, vI y, vI z, vS 7 A.length, vS 8 B.length, vS 9 0]), (32, vI k)])) (by kernel_rfl) ?_
  refine rCall (v := .tuple #[.agg #[vI 0, vI 0, vI 0, .slice none 0 0, .slice none 0 0, .slice none 0 0], .bool false]) (args := [.agg #[vI x, vI y, vI z, vS 7 A.length, vS 8 B.length, vS 9 0], vI k]) (by kernel_rfl) rfl (by kernel_rfl) (Sound.lay0 [7, 8, 9] (implMirrorShadow_bad x y z A B ([] : List Int) k (by first | assumption | omega | rfl | decide | exact HeapL.list _ _ _ _ | exact HeapL.nil _ _ _ | exact HeapL.all _ _ _ | (apply HeapL.lt64 <;> assumption) | (repeat' (first | assumption | apply or_lt64 | apply and_lt64 | apply andn_lt64 | apply pow_lt64 | (apply HeapL.lt64 <;> assumption)))) (by first | omega | assumption | (simp; done)) (by first | omega | assumption | (simp; done)) (by first | omega | assumption | (simp; done))) ⟨rdF true (flatNums _ _ _ _) rfl rfl, ⟨rdF true (flatNums _ _ _ _) rfl rfl, ⟨rdF true (flatNums _ _ _ _) rfl rfl, trivial⟩⟩⟩ rfl ⟨clF (flatNums _ _ _ _), ⟨clF (flatNums _ _ _ _), ⟨clF (flatNums _ _ _ _), trivial⟩⟩⟩ rfl (by first | rfl | simp [mpV, mpA, mpS, mpP, renId, shift]) (by first | rfl | simp [mpV, mpA, mpS, mpP, renId, shift])) ?_
  refine segEnd [1, 2, 6, 7, 8, 9, 10] (T1 := (mkT 101 [(1, vI k), (2, vP 2 0), (6, vP 6 0), (7, .bool false), (8, vP 10 0), (9, vP 11 0), (10, .bool false)])) (H1 := [nR A, nR B, rB [vI x, vI y, vI z, vS 0 A.length, vS 1 B.length, .slice none 0 0] 24, nW A, nW B, nW ([] : List Int), rB [vI 0, vI 0, vI 0, .slice none 0 0, .slice none 0 0, .slice none 0 0] 27, nW A, nW B, nW ([] : List Int), rB [vI x, vI y, vI z, vS 7 A.length, vS 8 B.length, vS 9 0] 27, rB [vI 0, vI 0, vI 0, .slice none 0 0, .slice none 0 0, .slice none 0 0] 27]) (by kernel_rfl) ?_
  refine kSeq ?_
  refine cSeq ?_
  refine cSeq ?_
  refine cReg ?_
  refine segH 2 (T1 := (mkT 101 [(1, vI k), (2, vP 2 0), (6, vP 6 0), (7, .bool false), (8, vP 10 0), (9, vP 11 0), (10, .bool false), (36, .agg #[vI 0, vI 0, vI 0, .slice none 0 0, .slice none 0 0, .slice none 0 0]), (37, .agg #[vI 0, vI 0, vI 0, .slice none 0 0, .slice none 0 0, .slice none 0 0])])) (by kernel_rfl) ?_
  refine rCall (v := .bool true) (args := [.agg #[vI 0, vI 0, vI 0, .slice none 0 0, .slice none 0 0, .slice none 0 0], .agg #[vI 0, vI 0, vI 0, .slice none 0 0, .slice none 0 0, .slice none 0 0]]) (by kernel_rfl) rfl (by kernel_rfl) (Sound.lay0 [] (eqSh_N) trivial rfl trivial rfl (by first | rfl | simp [mpV, mpA, mpS, mpP, renId, shift]) rfl) ?_
  refine segEndH [1, 2, 6, 7, 8, 9, 10, 44] (T1 := (mkT 101 [(1, vI k), (2, vP 2 0), (6, vP 6 0), (7, .bool false), (8, vP 10 0), (9, vP 11 0), (10, .bool false), (44, .bool false)])) (by kernel_rfl) ?_
  refine kSeq ?_
  refine cFalse (by kernel_rfl) ?_
  refine cSkip ?_
  refine kSeq ?_
  refine cSeq ?_
  refine cSeq ?_
  refine cRegW (N := 15) [⟨[], [], [10]⟩, ⟨[], [], [2]⟩, ⟨[12, 13, 14], [], [0, 1]⟩, ⟨[], [], [7, 8, 9, 12, 13, 14]⟩, ⟨[], [], []⟩] 3 [12, 13, 14] (by rfl) (by rfl) (by kernel_rfl) (by kernel_rfl) (by kernel_rfl) ⟨nmsF (flatNums _ _ _ _), ⟨nmsF (flatNums _ _ _ _), ⟨nmsX (by kernel_rfl), ⟨nmsF (flatNums _ _ _ _), ⟨nmsF (flatNums _ _ _ _), ⟨nmsF (flatNums _ _ _ _), ⟨nmsX (by kernel_rfl), ⟨nmsF (flatNums _ _ _ _), ⟨nmsF (flatNums _ _ _ _), ⟨nmsF (flatNums _ _ _ _), ⟨nmsX (by kernel_rfl), ⟨nmsX (by kernel_rfl), trivial⟩⟩⟩⟩⟩⟩⟩⟩⟩⟩⟩⟩ ?_
  refine segWH 2 (T1 := (mkT 101 [(1, vI k), (2, vP 2 0), (6, vP 6 0), (7, .bool false), (8, vP 10 0), (9, vP 11 0), (10, .bool false), (44, .bool false), (45, .agg #[vI x, vI y, vI z, vS 7 A.length, vS 8 B.length, vS 9 0]), (46, .agg #[vI x, vI y, vI z, vS 0 A.length, vS 1 B.length, .slice none 0 0])])) (by kernel_rfl) ?_
  refine rW (m := ⟨[12, 13, 14], [], [0, 1]⟩) (v := .agg #[vI x, vI y, vI z, vS 12 A.length, vS 13 B.length, vS 14 0]) rfl (by kernel_rfl) (stN (i := 12) (E := [nW A, nW B, nW ([] : List Int)]) (v1 := .agg #[vI x, vI y, vI z, vS 15 A.length, vS 16 B.length, vS 17 0]) (args := [.agg #[vI x, vI y, vI z, vS 0 A.length, vS 1 B.length, .slice none 0 0]]) rfl (by kernel_rfl) (Any.lay (E := [nW A, nW B, nW ([] : List Int)]) (N := 15) [0, 1] (toSh_ssn x y z A B (by first | omega | assumption) (by first | omega | assumption)) ⟨rdF false (flatNums _ _ _ _) rfl rfl, ⟨rdF false (flatNums _ _ _ _) rfl rfl, trivial⟩⟩ rfl ⟨clF (flatNums _ _ _ _), ⟨clF (flatNums _ _ _ _), trivial⟩⟩ rfl (by first | rfl | simp [mpV, mpA, mpS, mpP, renId, shift]) (by first | rfl | simp [mpV, mpA, mpS, mpP, renId, shift]) ⟨enF (flatNums _ _ _ _) (Or.inl rfl), ⟨enF (flatNums _ _ _ _) (Or.inl rfl), ⟨enF (flatNums _ _ _ _) (Or.inl rfl), trivial⟩⟩⟩) rfl (by kernel_rfl) (by kernel_rfl) (by kernel_rfl) (by kernel_rfl) (FlatH.cons (flatNums _ _ _ _) (FlatH.cons (flatNums _ _ _ _) (FlatH.cons (flatNums _ _ _ _) FlatH.nil)))) (by kernel_rfl) (NRs.all ⟨nrOf (by rfl) (nmF (flatNums _ _ _ _)), ⟨nrOf (by rfl) (nmF (flatNums _ _ _ _)), ⟨nrOf (by rfl) (nmF (flatNums _ _ _ _)), trivial⟩⟩⟩) ?_
  refine rW (m := ⟨[], [], [7, 8, 9, 12, 13, 14]⟩) (v := .bool true) rfl (by kernel_rfl) (stQ (args := [.agg #[vI x, vI y, vI z, vS 7 A.length, vS 8 B.length, vS 9 0], .agg #[vI x, vI y, vI z, vS 12 A.length, vS 13 B.length, vS 14 0]]) rfl (by kernel_rfl) (Any.lay0 [7, 8, 9, 12, 13, 14] (eqSh x y z A B ([] : List Int) (by first | omega | assumption | (simp; done)) (by first | omega | assumption | (simp; done)) (by first | omega | assumption | (simp; done))) ⟨rdF true (flatNums _ _ _ _) rfl rfl, ⟨rdF true (flatNums _ _ _ _) rfl rfl, ⟨rdF true (flatNums _ _ _ _) rfl rfl, ⟨rdF true (flatNums _ _ _ _) rfl rfl, ⟨rdF true (flatNums _ _ _ _) rfl rfl, ⟨rdF true (flatNums _ _ _ _) rfl rfl, trivial⟩⟩⟩⟩⟩⟩ rfl ⟨clF (flatNums _ _ _ _), ⟨clF (flatNums _ _ _ _), ⟨clF (flatNums _ _ _ _), ⟨clF (flatNums _ _ _ _), ⟨clF (flatNums _ _ _ _), ⟨clF (flatNums _ _ _ _), trivial⟩⟩⟩⟩⟩⟩ rfl (by first | rfl | simp [mpV, mpA, mpS, mpP, renId, shift]) rfl) rfl (by kernel_rfl) (by kernel_rfl)) (by kernel_rfl) nr0 ?_
  refine segEndW [1, 2, 6, 7, 8, 9, 10, 49] (T1 := (mkT 101 [(1, vI k), (2, vP 2 0), (6, vP 6 0), (7, .bool false), (8, vP 10 0), (9, vP 11 0), (10, .bool false), (49, .bool false)])) (H1 := [nR A, nR B, rB [vI x, vI y, vI z, vS 0 A.length, vS 1 B.length, .slice none 0 0] 24, nW A, nW B, nW ([] : List Int), rB [vI 0, vI 0, vI 0, .slice none 0 0, .slice none 0 0, .slice none 0 0] 27, nW A, nW B, nW ([] : List Int), rB [vI x, vI y, vI z, vS 7 A.length, vS 8 B.length, vS 9 0] 27, rB [vI 0, vI 0, vI 0, .slice none 0 0, .slice none 0 0, .slice none 0 0] 27, nW A, nW B, nW ([] : List Int)]) (by kernel_rfl) ?_
  refine kSeq ?_
  refine cFalse (by kernel_rfl) ?_
  refine cSkip ?_
  refine kSeq ?_
  refine cSeq ?_
  refine cReg ?_
  refine segEndH [1, 2, 6, 7, 8, 9, 10, 11] (T1 := (mkT 101 [(1, vI k), (2, vP 2 0), (6, vP 6 0), (7, .bool false), (8, vP 10 0), (9, vP 11 0), (10, .bool false), (11, vI 1)])) (by kernel_rfl) ?_
  refine kSeq ?_
  refine cSeq ?_
  refine cReg ?_
  refine segH 2 (T1 := (mkT 101 [(1, vI k), (2, vP 2 0), (6, vP 6 0), (7, .bool false), (8, vP 10 0), (9, vP 11 0), (10, .bool false), (11, vI 1), (50, .agg #[vI x, vI y, vI z, vS 7 A.length, vS 8 B.length, vS 9 0]), (51, vI 1)])) (by kernel_rfl) ?_
  refine rCall (v := vN (1 + A.length + B.length + ([] : List Int).length)) (args := [.agg #[vI x, vI y, vI z, vS 7 A.length, vS 8 B.length, vS 9 0], vI 1]) (by kernel_rfl) rfl (by kernel_rfl) (Sound.emb_set3 (r0 := ⟨nums A, 3, false, true⟩) (r1 := ⟨nums B, 3, false, true⟩) (r2 := ⟨nums ([] : List Int), 3, false, true⟩) (q0 := ⟨nums (mkI 1 A.length), 3, false, true⟩) (q1 := ⟨nums (mkI (1 + A.length) B.length), 3, false, true⟩) (q2 := ⟨nums (mkI (1 + A.length + B.length) ([] : List Int).length), 3, false, true⟩) 7 8 9 (markSh x y z A B ([] : List Int) 1 (by first | omega | assumption | (simp; done)) (by first | omega | assumption | (simp; done)) (by first | omega | assumption | (simp; done)) (by first | assumption | omega | rfl | decide | exact HeapL.list _ _ _ _ | exact HeapL.nil _ _ _ | exact HeapL.all _ _ _ | (apply HeapL.lt64 <;> assumption) | (repeat' (first | assumption | apply or_lt64 | apply and_lt64 | apply andn_lt64 | apply pow_lt64 | (apply HeapL.lt64 <;> assumption))))) ⟨⟨(flatNums _ _ _ _), rfl⟩, ⟨(flatNums _ _ _ _), rfl⟩, ⟨(flatNums _ _ _ _), rfl⟩⟩ ⟨⟨(flatNums _ _ _ _), rfl⟩, ⟨(flatNums _ _ _ _), rfl⟩, ⟨(flatNums _ _ _ _), rfl⟩⟩ rfl rfl rfl rfl rfl (by first | rfl | simp [mpV, mpA, mpS, mpP, renId, shift]) rfl) ?_
  refine segEnd [1, 2, 6, 7, 9, 10, 11] (T1 := (mkT 101 [(1, vI k), (2, vP 2 0), (6, vP 6 0), (7, .bool false), (9, vP 11 0), (10, .bool false), (11, vN (1 + A.length + B.length + ([] : List Int).length))])) (H1 := [nR A, nR B, rB [vI x, vI y, vI z, vS 0 A.length, vS 1 B.length, .slice none 0 0] 24, nW A, nW B, nW ([] : List Int), rB [vI 0, vI 0, vI 0, .slice none 0 0, .slice none 0 0, .slice none 0 0] 27, nW (mkI 1 A.length), nW (mkI (1 + A.length) B.length), nW (mkI (1 + A.length + B.length) ([] : List Int).length), rB [vI x, vI y, vI z, vS 7 A.length, vS 8 B.length, vS 9 0] 27, rB [vI 0, vI 0, vI 0, .slice none 0 0, .slice none 0 0, .slice none 0 0] 27, nW A, nW B, nW ([] : List Int)]) (by kernel_rfl) ?_
  refine kSeq ?_
  refine cSeq ?_
  refine cSeq ?_
  refine cReg ?_
  refine segH 3 (T1 := (mkT 101 [(1, vI k), (2, vP 2 0), (6, vP 6 0), (7, .bool false), (9, vP 11 0), (10, .bool false), (11, vN (1 + A.length + B.length + ([] : List Int).length)), (53, vN (1 + A.length + B.length + ([] : List Int).length)), (54, .bool (decide (((1 + A.length + B.length + ([] : List Int).length : Nat) : Int) < 0))), (55, .bool (decide (((1 + A.length + B.length + ([] : List Int).length : Nat) : Int) < 0)))])) (by kernel_rfl) ?_
  cases h2 : (decide (((1 + A.length + B.length + ([] : List Int).length : Nat) : Int) < 0) : Bool)
  ·
   (try simp only [bs0, bs1, bs2, bs3, beq_iff_eq, bne_iff_ne, beq_eq_false_iff_ne, bne_eq_false_iff_eq, ne_eq, bs4, bs5, bs6, bs7, bs8, bs9, bs10, bs11, ge_iff_le, gt_iff_lt] at h2)
   refine seg 2 (T1 := (mkT 101 [(1, vI k), (2, vP 2 0), (6, vP 6 0), (7, .bool false), (9, vP 11 0), (10, .bool false), (11, vN (1 + A.length + B.length + ([] : List Int).length)), (53, vN (1 + A.length + B.length + ([] : List Int).length)), (54, .bool false), (55, .bool false), (56, .agg #[vI 0, vI 0, vI 0, .slice none 0 0, .slice none 0 0, .slice none 0 0]), (57, .agg #[vI 0, vI 0, vI 0, .slice none 0 0, .slice none 0 0, .slice none 0 0])])) (H1 := [nR A, nR B, rB [vI x, vI y, vI z, vS 0 A.length, vS 1 B.length, .slice none 0 0] 24, nW A, nW B, nW ([] : List Int), rB [vI 0, vI 0, vI 0, .slice none 0 0, .slice none 0 0, .slice none 0 0] 27, nW (mkI 1 A.length), nW (mkI (1 + A.length) B.length), nW (mkI (1 + A.length + B.length) ([] : List Int).length), rB [vI x, vI y, vI z, vS 7 A.length, vS 8 B.length, vS 9 0] 27, rB [vI 0, vI 0, vI 0, .slice none 0 0, .slice none 0 0, .slice none 0 0] 27, nW A, nW B, nW ([] : List Int)]) (by kernel_rfl) ?_
   refine rCall (v := .bool true) (args := [.agg #[vI 0, vI 0, vI 0, .slice none 0 0, .slice none 0 0, .slice none 0 0], .agg #[vI 0, vI 0, vI 0, .slice none 0 0, .slice none 0 0, .slice none 0 0]]) (by kernel_rfl) rfl (by kernel_rfl) (Sound.lay0 [] (eqSh_N) trivial rfl trivial rfl (by first | rfl | simp [mpV, mpA, mpS, mpP, renId, shift]) rfl) ?_
   refine segEnd [1, 2, 6, 7, 9, 65] (T1 := (mkT 101 [(1, vI k), (2, vP 2 0), (6, vP 6 0), (7, .bool false), (9, vP 11 0), (65, .bool false)])) (H1 := [nR A, nR B, rB [vI x, vI y, vI z, vS 0 A.length, vS 1 B.length, .slice none 0 0] 24, nW A, nW B, nW ([] : List Int), rB [vI 0, vI 0, vI 0, .slice none 0 0, .slice none 0 0, .slice none 0 0] 27, nW (mkI 1 A.length), nW (mkI (1 + A.length) B.length), nW (mkI (1 + A.length + B.length) ([] : List Int).length), rB [vI x, vI y, vI z, vS 7 A.length, vS 8 B.length, vS 9 0] 27, rB [vI 0, vI 0, vI 0, .slice none 0 0, .slice none 0 0, .slice none 0 0] 27, nW A, nW B, nW ([] : List Int)]) (by kernel_rfl) ?_
   refine kSeq ?_
   refine cFalse (by kernel_rfl) ?_
   refine cSkip ?_
   refine kSeq ?_
   refine cSeq ?_
   refine cReg ?_
   refine segEndH [1, 2, 6, 7, 9, 12] (T1 := (mkT 101 [(1, vI k), (2, vP 2 0), (6, vP 6 0), (7, .bool false), (9, vP 11 0), (12, vI 1)])) (by kernel_rfl) ?_
   refine kSeq ?_
   refine cSeq ?_
   refine cReg ?_
   refine segH 2 (T1 := (mkT 101 [(1, vI k), (2, vP 2 0), (6, vP 6 0), (7, .bool false), (9, vP 11 0), (12, vI 1), (66, .agg #[vI 0, vI 0, vI 0, .slice none 0 0, .slice none 0 0, .slice none 0 0]), (67, vI 1)])) (by kernel_rfl) ?_
   refine rCall (v := vI 1) (args := [.agg #[vI 0, vI 0, vI 0, .slice none 0 0, .slice none 0 0, .slice none 0 0], vI 1]) (by kernel_rfl) rfl (by kernel_rfl) (Sound.lay0 [] (markSh_N 1 (by first | assumption | omega | rfl | decide | exact HeapL.list _ _ _ _ | exact HeapL.nil _ _ _ | exact HeapL.all _ _ _ | (apply HeapL.lt64 <;> assumption) | (repeat' (first | assumption | apply or_lt64 | apply and_lt64 | apply andn_lt64 | apply pow_lt64 | (apply HeapL.lt64 <;> assumption))))) trivial rfl trivial rfl (by first | rfl | simp [mpV, mpA, mpS, mpP, renId, shift]) rfl) ?_
   refine segEndH [1, 2, 6, 7, 9, 12] (T1 := (mkT 101 [(1, vI k), (2, vP 2 0), (6, vP 6 0), (7, .bool false), (9, vP 11 0), (12, vI 1)])) (by kernel_rfl) ?_
   refine kSeq ?_
   refine cSeq ?_
   refine cReg ?_
   refine segEndH [1, 2, 6, 7, 9, 12, 13] (T1 := (mkT 101 [(1, vI k), (2, vP 2 0), (6, vP 6 0), (7, .bool false), (9, vP 11 0), (12, vI 1), (13, vI 1)])) (by kernel_rfl) ?_
   refine kSeq ?_
   refine cSeq ?_
   refine cReg ?_
   refine segH 2 (T1 := (mkT 101 [(1, vI k), (2, vP 2 0), (6, vP 6 0), (7, .bool false), (9, vP 11 0), (12, vI 1), (13, vI 1), (69, .agg #[vI 0, vI 0, vI 0, .slice none 0 0, .slice none 0 0, .slice none 0 0]), (70, vI 1)])) (by kernel_rfl) ?_
   refine rCall (v := vI 1) (args := [.agg #[vI 0, vI 0, vI 0, .slice none 0 0, .slice none 0 0, .slice none 0 0], vI 1]) (by kernel_rfl) rfl (by kernel_rfl) (Sound.lay0 [] (heldSh_N 1 (by first | assumption | omega | rfl | decide | exact HeapL.list _ _ _ _ | exact HeapL.nil _ _ _ | exact HeapL.all _ _ _ | (apply HeapL.lt64 <;> assumption) | (repeat' (first | assumption | apply or_lt64 | apply and_lt64 | apply andn_lt64 | apply pow_lt64 | (apply HeapL.lt64 <;> assumption))))) trivial rfl trivial rfl (by first | rfl | simp [mpV, mpA, mpS, mpP, renId, shift]) rfl) ?_
   refine segEndH [1, 2, 6, 7, 9, 12, 13] (T1 := (mkT 101 [(1, vI k), (2, vP 2 0), (6, vP 6 0), (7, .bool false), (9, vP 11 0), (12, vI 1), (13, vI 1)])) (by kernel_rfl) ?_
   refine kSeq ?_
   refine cSeq ?_
   refine cSeq ?_
   refine cReg ?_
   refine segEndH [1, 2, 6, 7, 9, 12, 13, 73] (T1 := (mkT 101 [(1, vI k), (2, vP 2 0), (6, vP 6 0), (7, .bool false), (9, vP 11 0), (12, vI 1), (13, vI 1), (73, .bool false)])) (by kernel_rfl) ?_
   refine kSeq ?_
   refine cFalse (by kernel_rfl) ?_
   refine cSkip ?_
   refine kSeq ?_
   refine cSeq ?_
   refine cSeq ?_
   refine cReg ?_
   refine segEndH [1, 2, 6, 7, 9, 12, 76] (T1 := (mkT 101 [(1, vI k), (2, vP 2 0), (6, vP 6 0), (7, .bool false), (9, vP 11 0), (12, vI 1), (76, .bool false)])) (by kernel_rfl) ?_
   refine kSeq ?_
   refine cFalse (by kernel_rfl) ?_
   refine cSkip ?_
   refine kSeq ?_
   refine cSeq ?_
   refine cReg ?_
   refine segH 1 (T1 := (mkT 101 [(1, vI k), (2, vP 2 0), (6, vP 6 0), (7, .bool false), (9, vP 11 0), (12, vI 1), (76, .bool false), (78, .agg #[vI x, vI y, vI z, vS 0 A.length, vS 1 B.length, .slice none 0 0])])) (by kernel_rfl) ?_
   refine rCall (v := .agg #[vI x, vI y, vI z, vS 15 A.length, vS 16 B.length, vS 17 0]) (args := [.agg #[vI x, vI y, vI z, vS 0 A.length, vS 1 B.length, .slice none 0 0]]) (by kernel_rfl) rfl (by kernel_rfl) (Sound.lay (E := [nW A, nW B, nW ([] : List Int)]) [0, 1] (toSh_ssn x y z A B (by first | omega | assumption) (by first | omega | assumption)) ⟨rdF false (flatNums _ _ _ _) rfl rfl, ⟨rdF false (flatNums _ _ _ _) rfl rfl, trivial⟩⟩ rfl ⟨clF (flatNums _ _ _ _), ⟨clF (flatNums _ _ _ _), trivial⟩⟩ rfl (by first | rfl | simp [mpV, mpA, mpS, mpP, renId, shift]) (by first | rfl | simp [mpV, mpA, mpS, mpP, renId, shift]) ⟨enF (flatNums _ _ _ _) (Or.inl rfl), ⟨enF (flatNums _ _ _ _) (Or.inl rfl), ⟨enF (flatNums _ _ _ _) (Or.inl rfl), trivial⟩⟩⟩) ?_
   refine seg 1 (T1 := (mkT 101 [(1, vI k), (2, vP 2 0), (6, vP 6 0), (7, .bool false), (9, vP 11 0), (12, vI 1), (76, .bool false), (78, .agg #[vI x, vI y, vI z, vS 0 A.length, vS 1 B.length, .slice none 0 0]), (79, .agg #[vI x, vI y, vI z, vS 15 A.length, vS 16 B.length, vS 17 0]), (80, vI k)])) (H1 := [nR A, nR B, rB [vI x, vI y, vI z, vS 0 A.length, vS 1 B.length, .slice none 0 0] 24, nW A, nW B, nW ([] : List Int), rB [vI 0, vI 0, vI 0, .slice none 0 0, .slice none 0 0, .slice none 0 0] 27, nW (mkI 1 A.length), nW (mkI (1 + A.length) B.length), nW (mkI (1 + A.length + B.length) ([] : List Int).length), rB [vI x, vI y, vI z, vS 7 A.length, vS 8 B.length, vS 9 0] 27, rB [vI 0, vI 0, vI 0, .slice none 0 0, .slice none 0 0, .slice none 0 0] 27, nW A, nW B, nW ([] : List Int), nW A, nW B, nW ([] : List Int)]) (by kernel_rfl) ?_
   refine rCall (v := .tuple #[.agg #[vI 0, vI 0, vI 0, .slice none 0 0, .slice none 0 0, .slice none 0 0], .bool false]) (args := [.agg #[vI x, vI y, vI z, vS 15 A.length, vS 16 B.length, vS 17 0], vI k]) (by kernel_rfl) rfl (by kernel_rfl) (Sound.lay0 [15, 16, 17] (implMirrorShadow_bad x y z A B ([] : List Int) k (by first | assumption | omega | rfl | decide | exact HeapL.list _ _ _ _ | exact HeapL.nil _ _ _ | exact HeapL.all _ _ _ | (apply HeapL.lt64 <;> assumption) | (repeat' (first | assumption | apply or_lt64 | apply and_lt64 | apply andn_lt64 | apply pow_lt64 | (apply HeapL.lt64 <;> assumption)))) (by first | omega | assumption | (simp; done)) (by first | omega | assumption | (simp; done)) (by first | omega | assumption | (simp; done))) ⟨rdF true (flatNums _ _ _ _) rfl rfl, ⟨rdF true (flatNums _ _ _ _) rfl rfl, ⟨rdF true (flatNums _ _ _ _) rfl rfl, trivial⟩⟩⟩ rfl ⟨clF (flatNums _ _ _ _), ⟨clF (flatNums _ _ _ _), ⟨clF (flatNums _ _ _ _), trivial⟩⟩⟩ rfl (by first | rfl | simp [mpV, mpA, mpS, mpP, renId, shift]) (by first | rfl | simp [mpV, mpA, mpS, mpP, renId, shift])) ?_
   refine segEnd [6, 7, 9, 12, 14, 15] (T1 := (mkT 101 [(6, vP 6 0), (7, .bool false), (9, vP 11 0), (12, vI 1), (14, vP 18 0), (15, .bool false)])) (H1 := [nR A, nR B, rB [vI x, vI y, vI z, vS 0 A.length, vS 1 B.length, .slice none 0 0] 24, nW A, nW B, nW ([] : List Int), rB [vI 0, vI 0, vI 0, .slice none 0 0, .slice none 0 0, .slice none 0 0] 27, nW (mkI 1 A.length), nW (mkI (1 + A.length) B.length), nW (mkI (1 + A.length + B.length) ([] : List Int).length), rB [vI x, vI y, vI z, vS 7 A.length, vS 8 B.length, vS 9 0] 27, rB [vI 0, vI 0, vI 0, .slice none 0 0, .slice none 0 0, .slice none 0 0] 27, nW A, nW B, nW ([] : List Int), nW A, nW B, nW ([] : List Int), rB [vI 0, vI 0, vI 0, .slice none 0 0, .slice none 0 0, .slice none 0 0] 27]) (by kernel_rfl) ?_
   refine kSeq ?_
   refine cSeq ?_
   refine cSeq ?_
   refine cReg ?_
   refine segH 2 (T1 := (mkT 101 [(6, vP 6 0), (7, .bool false), (9, vP 11 0), (12, vI 1), (14, vP 18 0), (15, .bool false), (84, .agg #[vI 0, vI 0, vI 0, .slice none 0 0, .slice none 0 0, .slice none 0 0]), (85, .agg #[vI 0, vI 0, vI 0, .slice none 0 0, .slice none 0 0, .slice none 0 0])])) (by kernel_rfl) ?_
   refine rCall (v := .bool true) (args := [.agg #[vI 0, vI 0, vI 0, .slice none 0 0, .slice none 0 0, .slice none 0 0], .agg #[vI 0, vI 0, vI 0, .slice none 0 0, .slice none 0 0, .slice none 0 0]]) (by kernel_rfl) rfl (by kernel_rfl) (Sound.lay0 [] (eqSh_N) trivial rfl trivial rfl (by first | rfl | simp [mpV, mpA, mpS, mpP, renId, shift]) rfl) ?_
   refine segEndH [9, 12, 92] (T1 := (mkT 101 [(9, vP 11 0), (12, vI 1), (92, .bool false)])) (by kernel_rfl) ?_
   refine kSeq ?_
   refine cFalse (by kernel_rfl) ?_
   refine cSkip ?_
   refine kSeq ?_
   refine cSeq ?_
   refine cReg ?_
   refine segEndH [9, 12, 13] (T1 := (mkT 101 [(9, vP 11 0), (12, vI 1), (13, vI 1)])) (by kernel_rfl) ?_
   refine kSeq ?_
   refine cSeq ?_
   refine cReg ?_
   refine segH 2 (T1 := (mkT 101 [(9, vP 11 0), (12, vI 1), (13, vI 1), (93, .agg #[vI 0, vI 0, vI 0, .slice none 0 0, .slice none 0 0, .slice none 0 0]), (94, vI 1)])) (by kernel_rfl) ?_
   refine rCall (v := vI 1) (args := [.agg #[vI 0, vI 0, vI 0, .slice none 0 0, .slice none 0 0, .slice none 0 0], vI 1]) (by kernel_rfl) rfl (by kernel_rfl) (Sound.lay0 [] (heldSh_N 1 (by first | assumption | omega | rfl | decide | exact HeapL.list _ _ _ _ | exact HeapL.nil _ _ _ | exact HeapL.all _ _ _ | (apply HeapL.lt64 <;> assumption) | (repeat' (first | assumption | apply or_lt64 | apply and_lt64 | apply andn_lt64 | apply pow_lt64 | (apply HeapL.lt64 <;> assumption))))) trivial rfl trivial rfl (by first | rfl | simp [mpV, mpA, mpS, mpP, renId, shift]) rfl) ?_
   refine segEndH [12, 13] (T1 := (mkT 101 [(12, vI 1), (13, vI 1)])) (by kernel_rfl) ?_
   refine kSeq ?_
   refine cSeq ?_
   refine cSeq ?_
   refine cReg ?_
   refine segEndH [12, 13, 97] (T1 := (mkT 101 [(12, vI 1), (13, vI 1), (97, .bool false)])) (by kernel_rfl) ?_
   refine kSeq ?_
   refine cFalse (by kernel_rfl) ?_
   refine cSkip ?_
   refine kSeq ?_
   refine cSeq ?_
   refine cSeq ?_
   refine cReg ?_
   refine segEndH [100] (T1 := (mkT 101 [(100, .bool false)])) (by kernel_rfl) ?_
   refine kSeq ?_
   refine cFalse (by kernel_rfl) ?_
   refine cSkip ?_
   refine kSeq ?_
   refine cSeq ?_
   refine cReg ?_
   refine segEndH [4] (T1 := (mkT 101 [(4, .bool true)])) (by kernel_rfl) ?_
   refine kSeq ?_
   refine cRet ?_
   exact endQ (Or.inr rfl) (l := [.bool true]) [rB [vI x, vI y, vI z, vS 0 A.length, vS 1 B.length, .slice none 0 0] 24, nW A, nW B, nW ([] : List Int), rB [vI 0, vI 0, vI 0, .slice none 0 0, .slice none 0 0, .slice none 0 0] 27, nW (mkI 1 A.length), nW (mkI (1 + A.length) B.length), nW (mkI (1 + A.length + B.length) ([] : List Int).length), rB [vI x, vI y, vI z, vS 7 A.length, vS 8 B.length, vS 9 0] 27, rB [vI 0, vI 0, vI 0, .slice none 0 0, .slice none 0 0, .slice none 0 0] 27, nW A, nW B, nW ([] : List Int), nW A, nW B, nW ([] : List Int), rB [vI 0, vI 0, vI 0, .slice none 0 0, .slice none 0 0, .slice none 0 0] 27] (by kernel_rfl) (by first | rfl | kernel_rfl) rfl rfl hcl rfl
  ·
   (try simp only [bs0, bs1, bs2, bs3, beq_iff_eq, bne_iff_ne, beq_eq_false_iff_ne, bne_eq_false_iff_eq, ne_eq, bs4, bs5, bs6, bs7, bs8, bs9, bs10, bs11, ge_iff_le, gt_iff_lt] at h2)
   exfalso; omega
 ·
  (try simp only [bs0, bs1, bs2, bs3, beq_iff_eq, bne_iff_ne, beq_eq_false_iff_ne, bne_eq_false_iff_eq, ne_eq, bs4, bs5, bs6, bs7, bs8, bs9, bs10, bs11, ge_iff_le, gt_iff_lt] at h1)
  exfalso; omega
end Go.Proofs.Ytbheeobnghlckaa
set_option linter.unusedVariables false
set_option linter.unusedSimpArgs false
namespace Go.Proofs.Ytbheeobnghlckaa
open Go.Am Go.RowKit
set_option maxRecDepth 100000 in
set_option maxHeartbeats 4000000 in
theorem lawMirrorShadow_bigA_sns (x : Int) (y : Int) (z : Int) (A : List Int) (C : List Int) (k : Int) (hl : 1048576 < A.length) (hm : A.length ≤ 9223372036854775807) : Sound Try.prog 12 [.agg #[vI x, vI y, vI z, vS 0 A.length, .slice none 0 0, vS 1 C.length], vI k] [nR A, nR C] (.bool true) [nR A, nR C] := by
 refine sound_intro (C := cx) Try.func12 rfl (by kernel_rfl) fun hcl => ?_
 refine cSeq ?_
 refine cReg ?_
 refine segEnd [1, 2] (T1 := (mkT 101 [(1, vI k), (2, vP 2 0)])) (H1 := [nR A, nR C, rB [vI x, vI y, vI z, vS 0 A.length, .slice none 0 0, vS 1 C.length] 24]) (by kernel_rfl) ?_
 refine kSeq ?_
 refine cSeq ?_
 refine cReg ?_
 refine segEndH [1, 2, 5] (T1 := (mkT 101 [(1, vI k), (2, vP 2 0), (5, vI 1048576)])) (by kernel_rfl) ?_
 refine kSeq ?_
 refine cSeq ?_
 refine cReg ?_
 refine segH 2 (T1 := (mkT 101 [(1, vI k), (2, vP 2 0), (5, vI 1048576), (16, .agg #[vI x, vI y, vI z, vS 0 A.length, .slice none 0 0, vS 1 C.length]), (17, vI 1048576)])) (by kernel_rfl) ?_
 refine rCall (v := vI (-1)) (args := [.agg #[vI x, vI y, vI z, vS 0 A.length, .slice none 0 0, vS 1 C.length], vI 1048576]) (by kernel_rfl) rfl (by kernel_rfl) (Sound.lay0 [0, 1] (szSh_sns_A x y z A C 1048576 (by first | omega | assumption | (simp; done) | (simp; omega)) (by first | assumption | omega | rfl | decide | exact HeapL.list _ _ _ _ | exact HeapL.nil _ _ _ | exact HeapL.all _ _ _ | (apply HeapL.lt64 <;> assumption) | (repeat' (first | assumption | apply or_lt64 | apply and_lt64 | apply andn_lt64 | apply pow_lt64 | (apply HeapL.lt64 <;> assumption)))) (by first | omega | assumption | decide)) ⟨rdF false (flatNums _ _ _ _) rfl rfl, ⟨rdF false (flatNums _ _ _ _) rfl rfl, trivial⟩⟩ rfl ⟨clF (flatNums _ _ _ _), ⟨clF (flatNums _ _ _ _), trivial⟩⟩ rfl (by first | rfl | simp [mpV, mpA, mpS, mpP, renId, shift]) rfl) ?_
 refine segEndH [1, 2, 5] (T1 := (mkT 101 [(1, vI k), (2, vP 2 0), (5, vI (-1))])) (by kernel_rfl) ?_
 refine kSeq ?_
 refine cSeq ?_
 refine cSeq ?_
 refine cReg ?_
 refine segEndH [1, 2, 20] (T1 := (mkT 101 [(1, vI k), (2, vP 2 0), (20, .bool true)])) (by kernel_rfl) ?_
 refine kSeq ?_
 refine cTrue (by kernel_rfl) ?_
 refine cSeq ?_
 refine cReg ?_
 refine segEndH [4] (T1 := (mkT 101 [(4, .bool true)])) (by kernel_rfl) ?_
 refine kSeq ?_
 refine cRet ?_
 refine kSeqR ?_
 exact endQ (Or.inr rfl) (l := [.bool true]) [rB [vI x, vI y, vI z, vS 0 A.length, .slice none 0 0, vS 1 C.length] 24] (by kernel_rfl) (by first | rfl | kernel_rfl) rfl rfl hcl rfl
set_option maxRecDepth 100000 in
set_option maxHeartbeats 4000000 in
theorem lawMirrorShadow_bigC_sns (x : Int) (y : Int) (z : Int) (A : List Int) (C : List Int) (k : Int) (h0 : A.length ≤ 1048576) (hl : 1048576 - A.length < C.length) (hm : C.length ≤ 9223372036854775807) : Sound Try.prog 12 [.agg #[vI x, vI y, vI z, vS 0 A.length, .slice none 0 0, vS 1 C.length], vI k] [nR A, nR C] (.bool true) [nR A, nR C] := by
 refine sound_intro (C := cx) Try.func12 rfl (by kernel_rfl) fun hcl => ?_
 refine cSeq ?_
 refine cReg ?_
 refine segEnd [1, 2] (T1 := (mkT 101 [(1, vI k), (2, vP 2 0)])) (H1 := [nR A, nR C, rB [vI x, vI y, vI z, vS 0 A.length, .slice none 0 0, vS 1 C.length] 24]) (by kernel_rfl) ?_
 refine kSeq ?_
 refine cSeq ?_
 refine cReg ?_
 refine segEndH [1, 2, 5] (T1 := (mkT 101 [(1, vI k), (2, vP 2 0), (5, vI 1048576)])) (by kernel_rfl) ?_
 refine kSeq ?_
 refine cSeq ?_
 refine cReg ?_
 refine segH 2 (T1 := (mkT 101 [(1, vI k), (2, vP 2 0), (5, vI 1048576), (16, .agg #[vI x, vI y, vI z, vS 0 A.length, .slice none 0 0, vS 1 C.length]), (17, vI 1048576)])) (by kernel_rfl) ?_
 refine rCall (v := vI (-1)) (args := [.agg #[vI x, vI y, vI z, vS 0 A.length, .slice none 0 0, vS 1 C.length], vI 1048576]) (by kernel_rfl) rfl (by kernel_rfl) (Sound.lay0 [0, 1] (szSh_sns_C x y z A C 1048576 (by first | assumption | omega) (by first | omega | assumption | (simp; done) | (simp; omega)) (by first | assumption | omega | rfl | decide | exact HeapL.list _ _ _ _ | exact HeapL.nil _ _ _ | exact HeapL.all _ _ _ | (apply HeapL.lt64 <;> assumption) | (repeat' (first | assumption | apply or_lt64 | apply and_lt64 | apply andn_lt64 | apply pow_lt64 | (apply HeapL.lt64 <;> assumption)))) (by first | omega | assumption | decide)) ⟨rdF false (flatNums _ _ _ _) rfl rfl, ⟨rdF false (flatNums _ _ _ _) rfl rfl, trivial⟩⟩ rfl ⟨clF (flatNums _ _ _ _), ⟨clF (flatNums _ _ _ _), trivial⟩⟩ rfl (by first | rfl | simp [mpV, mpA, mpS, mpP, renId, shift]) rfl) ?_
 refine segEndH [1, 2, 5] (T1 := (mkT 101 [(1, vI k), (2, vP 2 0), (5, vI (-1))])) (by kernel_rfl) ?_
 refine kSeq ?_
 refine cSeq ?_
 refine cSeq ?_
 refine cReg ?_
 refine segEndH [1, 2, 20] (T1 := (mkT 101 [(1, vI k), (2, vP 2 0), (20, .bool true)])) (by kernel_rfl) ?_
 refine kSeq ?_
 refine cTrue (by kernel_rfl) ?_
 refine cSeq ?_
 refine cReg ?_
 refine segEndH [4] (T1 := (mkT 101 [(4, .bool true)])) (by kernel_rfl) ?_
 refine kSeq ?_
 refine cRet ?_
 refine kSeqR ?_
 exact endQ (Or.inr rfl) (l := [.bool true]) [rB [vI x, vI y, vI z, vS 0 A.length, .slice none 0 0, vS 1 C.length] 24] (by kernel_rfl) (by first | rfl | kernel_rfl) rfl rfl hcl rfl
set_option maxRecDepth 100000 in
set_option maxHeartbeats 4000000 in
theorem lawMirrorShadow_no_sns (x : Int) (y : Int) (z : Int) (A : List Int) (C : List Int) (k : Int) (hl : A.length + C.length ≤ 1048576) (hb : mirB x y z A ([] : List Int) C k = false) : Sound Try.prog 12 [.agg #[vI x, vI y, vI z, vS 0 A.length, .slice none 0 0, vS 1 C.length], vI k] [nR A, nR C] (.bool true) [nR A, nR C] := by
 refine sound_intro (C := cx) Try.func12 rfl (by kernel_rfl) fun hcl => ?_
 refine cSeq ?_
 refine cReg ?_
 refine segEnd [1, 2] (T1 := (mkT 101 [(1, vI k), (2, vP 2 0)])) (H1 := [nR A, nR C, rB [vI x, vI y, vI z, vS 0 A.length, .slice none 0 0, vS 1 C.length] 24]) (by kernel_rfl) ?_
 refine kSeq ?_
 refine cSeq ?_
 refine cReg ?_
 refine segEndH [1, 2, 5] (T1 := (mkT 101 [(1, vI k), (2, vP 2 0), (5, vI 1048576)])) (by kernel_rfl) ?_
 refine kSeq ?_
 refine cSeq ?_
 refine cReg ?_
 refine segH 2 (T1 := (mkT 101 [(1, vI k), (2, vP 2 0), (5, vI 1048576), (16, .agg #[vI x, vI y, vI z, vS 0 A.length, .slice none 0 0, vS 1 C.length]), (17, vI 1048576)])) (by kernel_rfl) ?_
 refine rCall (v := vN (1048576 - A.length - C.length)) (args := [.agg #[vI x, vI y, vI z, vS 0 A.length, .slice none 0 0, vS 1 C.length], vI 1048576]) (by kernel_rfl) rfl (by kernel_rfl) (Sound.lay0 [0, 1] (szSh_sns x y z A C 1048576 (by first | omega | assumption | (simp; done) | (simp; omega)) (by first | omega | assumption | decide)) ⟨rdF false (flatNums _ _ _ _) rfl rfl, ⟨rdF false (flatNums _ _ _ _) rfl rfl, trivial⟩⟩ rfl ⟨clF (flatNums _ _ _ _), ⟨clF (flatNums _ _ _ _), trivial⟩⟩ rfl (by first | rfl | simp [mpV, mpA, mpS, mpP, renId, shift]) rfl) ?_
 refine segEndH [1, 2, 5] (T1 := (mkT 101 [(1, vI k), (2, vP 2 0), (5, vN (1048576 - A.length - C.length))])) (by kernel_rfl) ?_
 refine kSeq ?_
 refine cSeq ?_
 refine cSeq ?_
 refine cReg ?_
 refine segEndH [1, 2, 20] (T1 := (mkT 101 [(1, vI k), (2, vP 2 0), (20, .bool (decide (((1048576 - A.length - C.length : Nat) : Int) < 0)))])) (by kernel_rfl) ?_
 refine kSeq ?_
 cases h1 : (decide (((1048576 - A.length - C.length : Nat) : Int) < 0) : Bool)
 ·
  (try simp only [bs0, bs1, bs2, bs3, beq_iff_eq, bne_iff_ne, beq_eq_false_iff_ne, bne_eq_false_iff_eq, ne_eq, bs4, bs5, bs6, bs7, bs8, bs9, bs10, bs11, ge_iff_le, gt_iff_lt] at h1)
  refine cFalse (by kernel_rfl) ?_
  refine cSkip ?_
  refine kSeq ?_
  refine cSeq ?_
  refine cReg ?_
  refine segH 1 (T1 := (mkT 101 [(1, vI k), (2, vP 2 0), (20, .bool false), (22, .agg #[vI x, vI y, vI z, vS 0 A.length, .slice none 0 0, vS 1 C.length])])) (by kernel_rfl) ?_
  refine rCall (v := .agg #[vI x, vI y, vI z, vS 3 A.length, vS 4 0, vS 5 C.length]) (args := [.agg #[vI x, vI y, vI z, vS 0 A.length, .slice none 0 0, vS 1 C.length]]) (by kernel_rfl) rfl (by kernel_rfl) (Sound.lay (E := [nW A, nW ([] : List Int), nW C]) [0, 1] (toSh_sns x y z A C (by first | omega | assumption) (by first | omega | assumption)) ⟨rdF false (flatNums _ _ _ _) rfl rfl, ⟨rdF false (flatNums _ _ _ _) rfl rfl, trivial⟩⟩ rfl ⟨clF (flatNums _ _ _ _), ⟨clF (flatNums _ _ _ _), trivial⟩⟩ rfl (by first | rfl | simp [mpV, mpA, mpS, mpP, renId, shift]) (by first | rfl | simp [mpV, mpA, mpS, mpP, renId, shift]) ⟨enF (flatNums _ _ _ _) (Or.inl rfl), ⟨enF (flatNums _ _ _ _) (Or.inl rfl), ⟨enF (flatNums _ _ _ _) (Or.inl rfl), trivial⟩⟩⟩) ?_
  refine seg 1 (T1 := (mkT 101 [(1, vI k), (2, vP 2 0), (20, .bool false), (22, .agg #[vI x, vI y, vI z, vS 0 A.length, .slice none 0 0, vS 1 C.length]), (23, .agg #[vI x, vI y, vI z, vS 3 A.length, vS 4 0, vS 5 C.length]), (24, vI k)])) (H1 := [nR A, nR C, rB [vI x, vI y, vI z, vS 0 A.length, .slice none 0 0, vS 1 C.length] 24, nW A, nW ([] : List Int), nW C]) (by kernel_rfl) ?_
  refine rCall (v := .tuple #[.agg #[vI 0, vI 0, vI 0, .slice none 0 0, .slice none 0 0, .slice none 0 0], .bool false]) (args := [.agg #[vI x, vI y, vI z, vS 3 A.length, vS 4 0, vS 5 C.length], vI k]) (by kernel_rfl) rfl (by kernel_rfl) (Sound.lay0 [3, 4, 5] (specMirrorShadow_bad x y z A ([] : List Int) C k (by first | assumption | omega | rfl | decide | exact HeapL.list _ _ _ _ | exact HeapL.nil _ _ _ | exact HeapL.all _ _ _ | (apply HeapL.lt64 <;> assumption) | (repeat' (first | assumption | apply or_lt64 | apply and_lt64 | apply andn_lt64 | apply pow_lt64 | (apply HeapL.lt64 <;> assumption)))) (by first | omega | assumption | (simp; done)) (by first | omega | assumption | (simp; done)) (by first | omega | assumption | (simp; done))) ⟨rdF true (flatNums _ _ _ _) rfl rfl, ⟨rdF true (flatNums _ _ _ _) rfl rfl, ⟨rdF true (flatNums _ _ _ _) rfl rfl, trivial⟩⟩⟩ rfl ⟨clF (flatNums _ _ _ _), ⟨clF (flatNums _ _ _ _), ⟨clF (flatNums _ _ _ _), trivial⟩⟩⟩ rfl (by first | rfl | simp [mpV, mpA, mpS, mpP, renId, shift]) (by first | rfl | simp [mpV, mpA, mpS, mpP, renId, shift])) ?_
  refine segEnd [1, 2, 6, 7] (T1 := (mkT 101 [(1, vI k), (2, vP 2 0), (6, vP 6 0), (7, .bool false)])) (H1 := [nR A, nR C, rB [vI x, vI y, vI z, vS 0 A.length, .slice none 0 0, vS 1 C.length] 24, nW A, nW ([] : List Int), nW C, rB [vI 0, vI 0, vI 0, .slice none 0 0, .slice none 0 0, .slice none 0 0] 27]) (by kernel_rfl) ?_
  refine kSeq ?_
  refine cSeq ?_
  refine cReg ?_
  refine segH 1 (T1 := (mkT 101 [(1, vI k), (2, vP 2 0), (6, vP 6 0), (7, .bool false), (28, .agg #[vI x, vI y, vI z, vS 0 A.length, .slice none 0 0, vS 1 C.length])])) (by kernel_rfl) ?_
  refine rCall (v := .agg #[vI x, vI y, vI z, vS 7 A.length, vS 8 0, vS 9 C.length]) (args := [.agg #[vI x, vI y, vI z, vS 0 A.length, .slice none 0 0, vS 1 C.length]]) (by kernel_rfl) rfl (by kernel_rfl) (Sound.lay (E := [nW A, nW ([] : List Int), nW C]) [0, 1] (toSh_sns x y z A C (by first | omega | assumption) (by first | omega | assumption)) ⟨rdF false (flatNums _ _ _ _) rfl rfl, ⟨rdF false (flatNums _ _ _ _) rfl rfl, trivial⟩⟩ rfl ⟨clF (flatNums _ _ _ _), ⟨clF (flatNums _ _ _ _), trivial⟩⟩ rfl (by first | rfl | simp [mpV, mpA, mpS, mpP, renId, shift]) (by first | rfl | simp [mpV, mpA, mpS, mpP, renId, shift]) ⟨enF (flatNums _ _ _ _) (Or.inl rfl), ⟨enF (flatNums _ _ _ _) (Or.inl rfl), ⟨enF (flatNums _ _ _ _) (Or.inl rfl), trivial⟩⟩⟩) ?_
  refine segEnd [1, 2, 6, 7, 8] (T1 := (mkT 101 [(1, vI k), (2, vP 2 0), (6, vP 6 0), (7, .bool false), (8, vP 10 0)])) (H1 := [nR A, nR C, rB [vI x, vI y, vI z, vS 0 A.length, .slice none 0 0, vS 1 C.length] 24, nW A, nW ([] : List Int), nW C, rB [vI 0, vI 0, vI 0, .slice none 0 0, .slice none 0 0, .slice none 0 0] 27, nW A, nW ([] : List Int), nW C, rB [vI x, vI y, vI z, vS 7 A.length, vS 8 0, vS 9 C.length] 27]) (by kernel_rfl) ?_
  refine kSeq ?_
  refine cSeq ?_
  refine cReg ?_
  refine segH 2 (T1 := (mkT 101 [(1, vI k), (2, vP 2 0), (6, vP 6 0), (7, .bool false), (8, vP 10 0), (31, .agg #[vI x, vI y, vI z, vS 7 A.length, vS 8 0, vS 9 C.length]), (32, vI k)])) (by kernel_rfl) ?_
  refine rCall (v := .tuple #[.agg #[vI 0, vI 0, vI 0, .slice none 0 0, .slice none 0 0, .slice none 0 0], .bool false]) (args := [.agg #[vI x, vI y, vI z, vS 7 A.length, vS 8 0, vS 9 C.length], vI k]) (by kernel_rfl) rfl (by kernel_rfl) (Sound.lay0 [7, 8, 9] (implMirrorShadow_bad x y z A ([] : List Int) C k (by first | assumption | omega | rfl | decide | exact HeapL.list _ _ _ _ | exact HeapL.nil _ _ _ | exact HeapL.all _ _ _ | (apply HeapL.lt64 <;> assumption) | (repeat' (first | assumption | apply or_lt64 | apply and_lt64 | apply andn_lt64 | apply pow_lt64 | (apply HeapL.lt64 <;> assumption)))) (by first | omega | assumption | (simp; done)) (by first | omega | assumption | (simp; done)) (by first | omega | assumption | (simp; done))) ⟨rdF true (flatNums _ _ _ _) rfl rfl, ⟨rdF true (flatNums _ _ _ _) rfl rfl, ⟨rdF true (flatNums _ _ _ _) rfl rfl, trivial⟩⟩⟩ rfl ⟨clF (flatNums _ _ _ _), ⟨clF (flatNums _ _ _ _), ⟨clF (flatNums _ _ _ _), trivial⟩⟩⟩ rfl (by first | rfl | simp [mpV, mpA, mpS, mpP, renId, shift]) (by first | rfl | simp [mpV, mpA, mpS, mpP, renId, shift])) ?_
  refine segEnd [1, 2, 6, 7, 8, 9, 10] (T1 := (mkT 101 [(1, vI k), (2, vP 2 0), (6, vP 6 0), (7, .bool false), (8, vP 10 0), (9, vP 11 0), (10, .bool false)])) (H1 := [nR A, nR C, rB [vI x, vI y, vI z, vS 0 A.length, .slice none 0 0, vS 1 C.length] 24, nW A, nW ([] : List Int), nW C, rB [vI 0, vI 0, vI 0, .slice none 0 0, .slice none 0 0, .slice none 0 0] 27, nW A, nW ([] : List Int), nW C, rB [vI x, vI y, vI z, vS 7 A.length, vS 8 0, vS 9 C.length] 27, rB [vI 0, vI 0, vI 0, .slice none 0 0, .slice none 0 0, .slice none 0 0] 27]) (by kernel_rfl) ?_
  refine kSeq ?_
  refine cSeq ?_
  refine cSeq ?_
  refine cReg ?_
  refine segH 2 (T1 := (mkT 101 [(1, vI k), (2, vP 2 0), (6, vP 6 0), (7, .bool false), (8, vP 10 0), (9, vP 11 0), (10, .bool false), (36, .agg #[vI 0, vI 0, vI 0, .slice none 0 0, .slice none 0 0, .slice none 0 0]), (37, .agg #[vI 0, vI 0, vI 0, .slice none 0 0, .slice none 0 0, .slice none 0 0])])) (by kernel_rfl) ?_
  refine rCall (v := .bool true) (args := [.agg #[vI 0, vI 0, vI 0, .slice none 0 0, .slice none 0 0, .slice none 0 0], .agg #[vI 0, vI 0, vI 0, .slice none 0 0, .slice none 0 0, .slice none 0 0]]) (by kernel_rfl) rfl (by kernel_rfl) (Sound.lay0 [] (eqSh_N) trivial rfl trivial rfl (by first | rfl | simp [mpV, mpA, mpS, mpP, renId, shift]) rfl) ?_
  refine segEndH [1, 2, 6, 7, 8, 9, 10, 44] (T1 := (mkT 101 [(1, vI k), (2, vP 2 0), (6, vP 6 0), (7, .bool false), (8, vP 10 0), (9, vP 11 0), (10, .bool false), (44, .bool false)])) (by kernel_rfl) ?_
  refine kSeq ?_
  refine cFalse (by kernel_rfl) ?_
  refine cSkip ?_
  refine kSeq ?_
  refine cSeq ?_
  refine cSeq ?_
  refine cRegW (N := 15) [⟨[], [], [10]⟩, ⟨[], [], [2]⟩, ⟨[12, 13, 14], [], [0, 1]⟩, ⟨[], [], [7, 8, 9, 12, 13, 14]⟩, ⟨[], [], []⟩] 3 [12, 13, 14] (by rfl) (by rfl) (by kernel_rfl) (by kernel_rfl) (by kernel_rfl) ⟨nmsF (flatNums _ _ _ _), ⟨nmsF (flatNums _ _ _ _), ⟨nmsX (by kernel_rfl), ⟨nmsF (flatNums _ _ _ _), ⟨nmsF (flatNums _ _ _ _), ⟨nmsF (flatNums _ _ _ _), ⟨nmsX (by kernel_rfl), ⟨nmsF (flatNums _ _ _ _), ⟨nmsF (flatNums _ _ _ _), ⟨nmsF (flatNums _ _ _ _), ⟨nmsX (by kernel_rfl), ⟨nmsX (by kernel_rfl), trivial⟩⟩⟩⟩⟩⟩⟩⟩⟩⟩⟩⟩ ?_
  refine segWH 2 (T1 := (mkT 101 [(1, vI k), (2, vP 2 0), (6, vP 6 0), (7, .bool false), (8, vP 10 0), (9, vP 11 0), (10, .bool false), (44, .bool false), (45, .agg #[vI x, vI y, vI z, vS 7 A.length, vS 8 0, vS 9 C.length]), (46, .agg #[vI x, vI y, vI z, vS 0 A.length, .slice none 0 0, vS 1 C.length])])) (by kernel_rfl) ?_
  refine rW (m := ⟨[12, 13, 14], [], [0, 1]⟩) (v := .agg #[vI x, vI y, vI z, vS 12 A.length, vS 13 0, vS 14 C.length]) rfl (by kernel_rfl) (stN (i := 12) (E := [nW A, nW ([] : List Int), nW C]) (v1 := .agg #[vI x, vI y, vI z, vS 15 A.length, vS 16 0, vS 17 C.length]) (args := [.agg #[vI x, vI y, vI z, vS 0 A.length, .slice none 0 0, vS 1 C.length]]) rfl (by kernel_rfl) (Any.lay (E := [nW A, nW ([] : List Int), nW C]) (N := 15) [0, 1] (toSh_sns x y z A C (by first | omega | assumption) (by first | omega | assumption)) ⟨rdF false (flatNums _ _ _ _) rfl rfl, ⟨rdF false (flatNums _ _ _ _) rfl rfl, trivial⟩⟩ rfl ⟨clF (flatNums _ _ _ _), ⟨clF (flatNums _ _ _ _), trivial⟩⟩ rfl (by first | rfl | simp [mpV, mpA, mpS, mpP, renId, shift]) (by first | rfl | simp [mpV, mpA, mpS, mpP, renId, shift]) ⟨enF (flatNums _ _ _ _) (Or.inl rfl), ⟨enF (flatNums _ _ _ _) (Or.inl rfl), ⟨enF (flatNums _ _ _ _) (Or.inl rfl), trivial⟩⟩⟩) rfl (by kernel_rfl) (by kernel_rfl) (by kernel_rfl) (by kernel_rfl) (FlatH.cons (flatNums _ _ _ _) (FlatH.cons (flatNums _ _ _ _) (FlatH.cons (flatNums _ _ _ _) FlatH.nil)))) (by kernel_rfl) (NRs.all ⟨nrOf (by rfl) (nmF (flatNums _ _ _ _)), ⟨nrOf (by rfl) (nmF (flatNums _ _ _ _)), ⟨nrOf (by rfl) (nmF (flatNums _ _ _ _)), trivial⟩⟩⟩) ?_
  refine rW (m := ⟨[], [], [7, 8, 9, 12, 13, 14]⟩) (v := .bool true) rfl (by kernel_rfl) (stQ (args := [.agg #[vI x, vI y, vI z, vS 7 A.length, vS 8 0, vS 9 C.length], .agg #[vI x, vI y, vI z, vS 12 A.length, vS 13 0, vS 14 C.length]]) rfl (by kernel_rfl) (Any.lay0 [7, 8, 9, 12, 13, 14] (eqSh x y z A ([] : List Int) C (by first | omega | assumption | (simp; done)) (by first | omega | assumption | (simp; done)) (by first | omega | assumption | (simp; done))) ⟨rdF true (flatNums _ _ _ _) rfl rfl, ⟨rdF true (flatNums _ _ _ _) rfl rfl, ⟨rdF true (flatNums _ _ _ _) rfl rfl, ⟨rdF true (flatNums _ _ _ _) rfl rfl, ⟨rdF true (flatNums _ _ _ _) rfl rfl, ⟨rdF true (flatNums _ _ _ _) rfl rfl, trivial⟩⟩⟩⟩⟩⟩ rfl ⟨clF (flatNums _ _ _ _), ⟨clF (flatNums _ _ _ _), ⟨clF (flatNums _ _ _ _), ⟨clF (flatNums _ _ _ _), ⟨clF (flatNums _ _ _ _), ⟨clF (flatNums _ _ _ _), trivial⟩⟩⟩⟩⟩⟩ rfl (by first | rfl | simp [mpV, mpA, mpS, mpP, renId, shift]) rfl) rfl (by kernel_rfl) (by kernel_rfl)) (by kernel_rfl) nr0 ?_
  refine segEndW [1, 2, 6, 7, 8, 9, 10, 49] (T1 := (mkT 101 [(1, vI k), (2, vP 2 0), (6, vP 6 0), (7, .bool false), (8, vP 10 0), (9, vP 11 0), (10, .bool false), (49, .bool false)])) (H1 := [nR A, nR C, rB [vI x, vI y, vI z, vS 0 A.length, .slice none 0 0, vS 1 C.length] 24, nW A, nW ([] : List Int), nW C, rB [vI 0, vI 0, vI 0, .slice none 0 0, .slice none 0 0, .slice none 0 0] 27, nW A, nW ([] : List Int), nW C, rB [vI x, vI y, vI z, vS 7 A.length, vS 8 0, vS 9 C.length] 27, rB [vI 0, vI 0, vI 0, .slice none 0 0, .slice none 0 0, .slice none 0 0] 27, nW A, nW ([] : List Int), nW C]) (by kernel_rfl) ?_
  refine kSeq ?_
  refine cFalse (by kernel_rfl) ?_
  refine cSkip ?_
  refine kSeq ?_
  refine cSeq ?_
  refine cReg ?_
  refine segEndH [1, 2, 6, 7, 8, 9, 10, 11] (T1 := (mkT 101 [(1, vI k), (2, vP 2 0), (6, vP 6 0), (7, .bool false), (8, vP 10 0), (9, vP 11 0), (10, .bool false), (11, vI 1)])) (by kernel_rfl) ?_
  refine kSeq ?_
  refine cSeq ?_
  refine cReg ?_
  refine segH 2 (T1 := (mkT 101 [(1, vI k), (2, vP 2 0), (6, vP 6 0), (7, .bool false), (8, vP 10 0), (9, vP 11 0), (10, .bool false), (11, vI 1), (50, .agg #[vI x, vI y, vI z, vS 7 A.length, vS 8 0, vS 9 C.length]), (51, vI 1)])) (by kernel_rfl) ?_
  refine rCall (v := vN (1 + A.length + ([] : List Int).length + C.length)) (args := [.agg #[vI x, vI y, vI z, vS 7 A.length, vS 8 0, vS 9 C.length], vI 1]) (by kernel_rfl) rfl (by kernel_rfl) (Sound.emb_set3 (r0 := ⟨nums A, 3, false, true⟩) (r1 := ⟨nums ([] : List Int), 3, false, true⟩) (r2 := ⟨nums C, 3, false, true⟩) (q0 := ⟨nums (mkI 1 A.length), 3, false, true⟩) (q1 := ⟨nums (mkI (1 + A.length) ([] : List Int).length), 3, false, true⟩) (q2 := ⟨nums (mkI (1 + A.length + ([] : List Int).length) C.length), 3, false, true⟩) 7 8 9 (markSh x y z A ([] : List Int) C 1 (by first | omega | assumption | (simp; done)) (by first | omega | assumption | (simp; done)) (by first | omega | assumption | (simp; done)) (by first | assumption | omega | rfl | decide | exact HeapL.list _ _ _ _ | exact HeapL.nil _ _ _ | exact HeapL.all _ _ _ | (apply HeapL.lt64 <;> assumption) | (repeat' (first | assumption | apply or_lt64 | apply and_lt64 | apply andn_lt64 | apply pow_lt64 | (apply HeapL.lt64 <;> assumption))))) ⟨⟨(flatNums _ _ _ _), rfl⟩, ⟨(flatNums _ _ _ _), rfl⟩, ⟨(flatNums _ _ _ _), rfl⟩⟩ ⟨⟨(flatNums _ _ _ _), rfl⟩, ⟨(flatNums _ _ _ _), rfl⟩, ⟨(flatNums _ _ _ _), rfl⟩⟩ rfl rfl rfl rfl rfl (by first | rfl | simp [mpV, mpA, mpS, mpP, renId, shift]) rfl) ?_
  refine segEnd [1, 2, 6, 7, 9, 10, 11] (T1 := (mkT 101 [(1, vI k), (2, vP 2 0), (6, vP 6 0), (7, .bool false), (9, vP 11 0), (10, .bool false), (11, vN (1 + A.length + ([] : List Int).length + C.length))])) (H1 := [nR A, nR C, rB [vI x, vI y, vI z, vS 0 A.length, .slice none 0 0, vS 1 C.length] 24, nW A, nW ([] : List Int), nW C, rB [vI 0, vI 0, vI 0, .slice none 0 0, .slice none 0 0, .slice none 0 0] 27, nW (mkI 1 A.length), nW (mkI (1 + A.length) ([] : List Int).length), nW (mkI (1 + A.length + ([] : List Int).length) C.length), rB [vI x, vI y, vI z, vS 7 A.length, vS 8 0, vS 9 C.length] 27, rB [vI 0, vI 0, vI 0, .slice none 0 0, .slice none 0 0, .slice none 0 0] 27, nW A, nW ([] : List Int), nW C]) (by kernel_rfl) ?_
  refine kSeq ?_
  refine cSeq ?_
  refine cSeq ?_
  refine cReg ?_
  refine segH 3 (T1 := (mkT 101 [(1, vI k), (2, vP 2 0), (6, vP 6 0), (7, .bool false), (9, vP 11 0), (10, .bool false), (11, vN (1 + A.length + ([] : List Int).length + C.length)), (53, vN (1 + A.length + ([] : List Int).length + C.length)), (54, .bool (decide (((1 + A.length + ([] : List Int).length + C.length : Nat) : Int) < 0))), (55, .bool (decide (((1 + A.length + ([] : List Int).length + C.length : Nat) : Int) < 0)))])) (by kernel_rfl) ?_
  cases h2 : (decide (((1 + A.length + ([] : List Int).length + C.length : Nat) : Int) < 0) : Bool)
  ·
   (try simp only [bs0, bs1, bs2, bs3, beq_iff_eq, bne_iff_ne, beq_eq_false_iff_ne, bne_eq_false_iff_eq, ne_eq, bs4, bs5, bs6, bs7, bs8, bs9, bs10, bs11, ge_iff_le, gt_iff_lt] at h2)
   refine seg 2 (T1 := (mkT 101 [(1, vI k), (2, vP 2 0), (6, vP 6 0), (7, .bool false), (9, vP 11 0), (10, .bool false), (11, vN (1 + A.length + ([] : List Int).length + C.length)), (53, vN (1 + A.length + ([] : List Int).length + C.length)), (54, .bool false), (55, .bool false), (56, .agg #[vI 0, vI 0, vI 0, .slice none 0 0, .slice none 0 0, .slice none 0 0]), (57, .agg #[vI 0, vI 0, vI 0, .slice none 0 0, .slice none 0 0, .slice none 0 0])])) (H1 := [nR A, nR C, rB [vI x, vI y, vI z, vS 0 A.length, .slice none 0 0, vS 1 C.length] 24, nW A, nW ([] : List Int), nW C, rB [vI 0, vI 0, vI 0, .slice none 0 0, .slice none 0 0, .slice none 0 0] 27, nW (mkI 1 A.length), nW (mkI (1 + A.length) ([] : List Int).length), nW (mkI (1 + A.length + ([] : List Int).length) C.length), rB [vI x, vI y, vI z, vS 7 A.length, vS 8 0, vS 9 C.length] 27, rB [vI 0, vI 0, vI 0, .slice none 0 0, .slice none 0 0, .slice none 0 0] 27, nW A, nW ([] : List Int), nW C]) (by kernel_rfl) ?_
   refine rCall (v := .bool true) (args := [.agg #[vI 0, vI 0, vI 0, .slice none 0 0, .slice none 0 0, .slice none 0 0], .agg #[vI 0, vI 0, vI 0, .slice none 0 0, .slice none 0 0, .slice none 0 0]]) (by kernel_rfl) rfl (by kernel_rfl) (Sound.lay0 [] (eqSh_N) trivial rfl trivial rfl (by first | rfl | simp [mpV, mpA, mpS, mpP, renId, shift]) rfl) ?_
   refine segEnd [1, 2, 6, 7, 9, 65] (T1 := (mkT 101 [(1, vI k), (2, vP 2 0), (6, vP 6 0), (7, .bool false), (9, vP 11 0), (65, .bool false)])) (H1 := [nR A, nR C, rB [vI x, vI y, vI z, vS 0 A.length, .slice none 0 0, vS 1 C.length] 24, nW A, nW ([] : List Int), nW C, rB [vI 0, vI 0, vI 0, .slice none 0 0, .slice none 0 0, .slice none 0 0] 27, nW (mkI 1 A.length), nW (mkI (1 + A.length) ([] : List Int).length), nW (mkI (1 + A.length + ([] : List Int).length) C.length), rB [vI x, vI y, vI z, vS 7 A.length, vS 8 0, vS 9 C.length] 27, rB [vI 0, vI 0, vI 0, .slice none 0 0, .slice none 0 0, .slice none 0 0] 27, nW A, nW ([] : List Int), nW C]) (by kernel_rfl) ?_
   refine kSeq ?_
   refine cFalse (by kernel_rfl) ?_
   refine cSkip ?_
   refine kSeq ?_
   refine cSeq ?_
   refine cReg ?_
   refine segEndH [1, 2, 6, 7, 9, 12] (T1 := (mkT 101 [(1, vI k), (2, vP 2 0), (6, vP 6 0), (7, .bool false), (9, vP 11 0), (12, vI 1)])) (by kernel_rfl) ?_
   refine kSeq ?_
   refine cSeq ?_
   refine cReg ?_
   refine segH 2 (T1 := (mkT 101 [(1, vI k), (2, vP 2 0), (6, vP 6 0), (7, .bool false), (9, vP 11 0), (12, vI 1), (66, .agg #[vI 0, vI 0, vI 0, .slice none 0 0, .slice none 0 0, .slice none 0 0]), (67, vI 1)])) (by kernel_rfl) ?_
   refine rCall (v := vI 1) (args := [.agg #[vI 0, vI 0, vI 0, .slice none 0 0, .slice none 0 0, .slice none 0 0], vI 1]) (by kernel_rfl) rfl (by kernel_rfl) (Sound.lay0 [] (markSh_N 1 (by first | assumption | omega | rfl | decide | exact HeapL.list _ _ _ _ | exact HeapL.nil _ _ _ | exact HeapL.all _ _ _ | (apply HeapL.lt64 <;> assumption) | (repeat' (first | assumption | apply or_lt64 | apply and_lt64 | apply andn_lt64 | apply pow_lt64 | (apply HeapL.lt64 <;> assumption))))) trivial rfl trivial rfl (by first | rfl | simp [mpV, mpA, mpS, mpP, renId, shift]) rfl) ?_
   refine segEndH [1, 2, 6, 7, 9, 12] (T1 := (mkT 101 [(1, vI k), (2, vP 2 0), (6, vP 6 0), (7, .bool false), (9, vP 11 0), (12, vI 1)])) (by kernel_rfl) ?_
   refine kSeq ?_
   refine cSeq ?_
   refine cReg ?_
   refine segEndH [1, 2, 6, 7, 9, 12, 13] (T1 := (mkT 101 [(1, vI k), (2, vP 2 0), (6, vP 6 0), (7, .bool false), (9, vP 11 0), (12, vI 1), (13, vI 1)])) (by kernel_rfl) ?_
   refine kSeq ?_
   refine cSeq ?_
   refine cReg ?_
   refine segH 2 (T1 := (mkT 101 [(1, vI k), (2, vP 2 0), (6, vP 6 0), (7, .bool false), (9, vP 11 0), (12, vI 1), (13, vI 1), (69, .agg #[vI 0, vI 0, vI 0, .slice none 0 0, .slice none 0 0, .slice none 0 0]), (70, vI 1)])) (by kernel_rfl) ?_
   refine rCall (v := vI 1) (args := [.agg #[vI 0, vI 0, vI 0, .slice none 0 0, .slice none 0 0, .slice none 0 0], vI 1]) (by kernel_rfl) rfl (by kernel_rfl) (Sound.lay0 [] (heldSh_N 1 (by first | assumption | omega | rfl | decide | exact HeapL.list _ _ _ _ | exact HeapL.nil _ _ _ | exact HeapL.all _ _ _ | (apply HeapL.lt64 <;> assumption) | (repeat' (first | assumption | apply or_lt64 | apply and_lt64 | apply andn_lt64 | apply pow_lt64 | (apply HeapL.lt64 <;> assumption))))) trivial rfl trivial rfl (by first | rfl | simp [mpV, mpA, mpS, mpP, renId, shift]) rfl) ?_
   refine segEndH [1, 2, 6, 7, 9, 12, 13] (T1 := (mkT 101 [(1, vI k), (2, vP 2 0), (6, vP 6 0), (7, .bool false), (9, vP 11 0), (12, vI 1), (13, vI 1)])) (by kernel_rfl) ?_
   refine kSeq ?_
   refine cSeq ?_
   refine cSeq ?_
   refine cReg ?_
   refine segEndH [1, 2, 6, 7, 9, 12, 13, 73] (T1 := (mkT 101 [(1, vI k), (2, vP 2 0), (6, vP 6 0), (7, .bool false), (9, vP 11 0), (12, vI 1), (13, vI 1), (73, .bool false)])) (by kernel_rfl) ?_
   refine kSeq ?_
   refine cFalse (by kernel_rfl) ?_
   refine cSkip ?_
   refine kSeq ?_
   refine cSeq ?_
   refine cSeq ?_
   refine cReg ?_
   refine segEndH [1, 2, 6, 7, 9, 12, 76] (T1 := (mkT 101 [(1, vI k), (2, vP 2 0), (6, vP 6 0), (7, .bool false), (9, vP 11 0), (12, vI 1), (76, .bool false)])) (by kernel_rfl) ?_
   refine kSeq ?_
   refine cFalse (by kernel_rfl) ?_
   refine cSkip ?_
   refine kSeq ?_
   refine cSeq ?_
   refine cReg ?_
   refine segH 1 (T1 := (mkT 101 [(1, vI k), (2, vP 2 0), (6, vP 6 0), (7, .bool false), (9, vP 11 0), (12, vI 1), (76, .bool false), (78, .agg #[vI x, vI y, vI z, vS 0 A.length, .slice none 0 0, vS 1 C.length])])) (by kernel_rfl) ?_
   refine rCall (v := .agg #[vI x, vI y, vI z, vS 15 A.length, vS 16 0, vS 17 C.length]) (args := [.agg #[vI x, vI y, vI z, vS 0 A.length, .slice none 0 0, vS 1 C.length]]) (by kernel_rfl) rfl (by kernel_rfl) (Sound.lay (E := [nW A, nW ([] : List Int), nW C]) [0, 1] (toSh_sns x y z A C (by first | omega | assumption) (by first | omega | assumption)) ⟨rdF false (flatNums _ _ _ _) rfl rfl, ⟨rdF false (flatNums _ _ _ _) rfl rfl, trivial⟩⟩ rfl ⟨clF (flatNums _ _ _ _), ⟨clF (flatNums _ _ _ _), trivial⟩⟩ rfl (by first | rfl | simp [mpV, mpA, mpS, mpP, renId, shift]) (by first | rfl | simp [mpV, mpA, mpS, mpP, renId, shift]) ⟨enF (flatNums _ _ _ _) (Or.inl rfl), ⟨enF (flatNums _ _ _ _) (Or.inl rfl), ⟨enF (flatNums _ _ _ _) (Or.inl rfl), trivial⟩⟩⟩) ?_
   refine seg 1 (T1 := (mkT 101 [(1, vI k), (2, vP 2 0), (6, vP 6 0), (7, .bool false), (9, vP 11 0), (12, vI 1), (76, .bool false), (78, .agg #[vI x, vI y, vI z, vS 0 A.length, .slice none 0 0, vS 1 C.length]), (79, .agg #[vI x, vI y, vI z, vS 15 A.length, vS 16 0, vS 17 C.length]), (80, vI k)])) (H1 := [nR A, nR C, rB [vI x, vI y, vI z, vS 0 A.length, .slice none 0 0, vS 1 C.length] 24, nW A, nW ([] : List Int), nW C, rB [vI 0, vI 0, vI 0, .slice none 0 0, .slice none 0 0, .slice none 0 0] 27, nW (mkI 1 A.length), nW (mkI (1 + A.length) ([] : List Int).length), nW (mkI (1 + A.length + ([] : List Int).length) C.length), rB [vI x, vI y, vI z, vS 7 A.length, vS 8 0, vS 9 C.length] 27, rB [vI 0, vI 0, vI 0, .slice none 0 0, .slice none 0 0, .slice none 0 0] 27, nW A, nW ([] : List Int), nW C, nW A, nW ([] : List Int), nW C]) (by kernel_rfl) ?_
   refine rCall (v := .tuple #[.agg #[vI 0, vI 0, vI 0, .slice none 0 0, .slice none 0 0, .slice none 0 0], .bool false]) (args := [.agg #[vI x, vI y, vI z, vS 15 A.length, vS 16 0, vS 17 C.length], vI k]) (by kernel_rfl) rfl (by kernel_rfl) (Sound.lay0 [15, 16, 17] (implMirrorShadow_bad x y z A ([] : List Int) C k (by first | assumption | omega | rfl | decide | exact HeapL.list _ _ _ _ | exact HeapL.nil _ _ _ | exact HeapL.all _ _ _ | (apply HeapL.lt64 <;> assumption) | (repeat' (first | assumption | apply or_lt64 | apply and_lt64 | apply andn_lt64 | apply pow_lt64 | (apply HeapL.lt64 <;> assumption)))) (by first | omega | assumption | (simp; done)) (by first | omega | assumption | (simp; done)) (by first | omega | assumption | (simp; done))) ⟨rdF true (flatNums _ _ _ _) rfl rfl, ⟨rdF true (flatNums _ _ _ _) rfl rfl, ⟨rdF true (flatNums _ _ _ _) rfl rfl, trivial⟩⟩⟩ rfl ⟨clF (flatNums _ _ _ _), ⟨clF (flatNums _ _ _ _), ⟨clF (flatNums _ _ _ _), trivial⟩⟩⟩ rfl (by first | rfl | simp [mpV, mpA, mpS, mpP, renId, shift]) (by first | rfl | simp [mpV, mpA, mpS, mpP, renId, shift])) ?_
   refine segEnd [6, 7, 9, 12, 14, 15] (T1 := (mkT 101 [(6, vP 6 0), (7, .bool false), (9, vP 11 0), (12, vI 1), (14, vP 18 0), (15, .bool false)])) (H1 := [nR A, nR C, rB [vI x, vI y, vI z, vS 0 A.length, .slice none 0 0, vS 1 C.length] 24, nW A, nW ([] : List Int), nW C, rB [vI 0, vI 0, vI 0, .slice none 0 0, .slice none 0 0, .slice none 0 0] 27, nW (mkI 1 A.length), nW (mkI (1 + A.length) ([] : List Int).length), nW (mkI (1 + A.length + ([] : List Int).length) C.length), rB [vI x, vI y, vI z, vS 7 A.length, vS 8 0, vS 9 C.length] 27, rB [vI 0, vI 0, vI 0, .slice none 0 0, .slice none 0 0, .slice none 0 0] 27, nW A, nW ([] : List Int), nW C, nW A, nW ([] : List Int), nW C, rB [vI 0, vI 0, vI 0, .slice none 0 0, .slice none 0 0, .slice none 0 0] 27]) (by kernel_rfl) ?_
   refine kSeq ?_
   refine cSeq ?_
   refine cSeq ?_
   refine cReg ?_
   refine segH 2 (T1 := (mkT 101 [(6, vP 6 0), (7, .bool false), (9, vP 11 0), (12, vI 1), (14, vP 18 0), (15, .bool false), (84, .agg #[vI 0, vI 0, vI 0, .slice none 0 0, .slice none 0 0, .slice none 0 0]), (85, .agg #[vI 0, vI 0, vI 0, .slice none 0 0, .slice none 0 0, .slice none 0 0])])) (by kernel_rfl) ?_
   refine rCall (v := .bool true) (args := [.agg #[vI 0, vI 0, vI 0, .slice none 0 0, .slice none 0 0, .slice none 0 0], .agg #[vI 0, vI 0, vI 0, .slice none 0 0, .slice none 0 0, .slice none 0 0]]) (by kernel_rfl) rfl (by kernel_rfl) (Sound.lay0 [] (eqSh_N) trivial rfl trivial rfl (by first | rfl | simp [mpV, mpA, mpS, mpP, renId, shift]) rfl) ?_
   refine segEndH [9, 12, 92] (T1 := (mkT 101 [(9, vP 11 0), (12, vI 1), (92, .bool false)])) (by kernel_rfl) ?_
   refine kSeq ?_
   refine cFalse (by kernel_rfl) ?_
   refine cSkip ?_
   refine kSeq ?_
   refine cSeq ?_
   refine cReg ?_
   refine segEndH [9, 12, 13] (T1 := (mkT 101 [(9, vP 11 0), (12, vI 1), (13, vI 1)])) (by kernel_rfl) ?_
   refine kSeq ?_
   refine cSeq ?_
   refine cReg ?_
   refine segH 2 (T1 := (mkT 101 [(9, vP 11 0), (12, vI 1), (13, vI 1), (93, .agg #[vI 0, vI 0, vI 0, .slice none 0 0, .slice none 0 0, .slice none 0 0]), (94, vI 1)])) (by kernel_rfl) ?_
   refine rCall (v := vI 1) (args := [.agg #[vI 0, vI 0, vI 0, .slice none 0 0, .slice none 0 0, .slice none 0 0], vI 1]) (by kernel_rfl) rfl (by kernel_rfl) (Sound.lay0 [] (heldSh_N 1 (by first | assumption | omega | rfl | decide | exact HeapL.list _ _ _ _ | exact HeapL.nil _ _ _ | exact HeapL.all _ _ _ | (apply HeapL.lt64 <;> assumption) | (repeat' (first | assumption | apply or_lt64 | apply and_lt64 | apply andn_lt64 | apply pow_lt64 | (apply HeapL.lt64 <;> assumption))))) trivial rfl trivial rfl (by first | rfl | simp [mpV, mpA, mpS, mpP, renId, shift]) rfl) ?_
   refine segEndH [12, 13] (T1 := (mkT 101 [(12, vI 1), (13, vI 1)])) (by kernel_rfl) ?_
   refine kSeq ?_
   refine cSeq ?_
   refine cSeq ?_
   refine cReg ?_
   refine segEndH [12, 13, 97] (T1 := (mkT 101 [(12, vI 1), (13, vI 1), (97, .bool false)])) (by kernel_rfl) ?_
   refine kSeq ?_
   refine cFalse (by kernel_rfl) ?_
   refine cSkip ?_
   refine kSeq ?_
   refine cSeq ?_
   refine cSeq ?_
   refine cReg ?_
   refine segEndH [100] (T1 := (mkT 101 [(100, .bool false)])) (by kernel_rfl) ?_
   refine kSeq ?_
   refine cFalse (by kernel_rfl) ?_
   refine cSkip ?_
   refine kSeq ?_
   refine cSeq ?_
   refine cReg ?_
   refine segEndH [4] (T1 := (mkT 101 [(4, .bool true)])) (by kernel_rfl) ?_
   refine kSeq ?_
   refine cRet ?_
   exact endQ (Or.inr rfl) (l := [.bool true]) [rB [vI x, vI y, vI z, vS 0 A.length, .slice none 0 0, vS 1 C.length] 24, nW A, nW ([] : List Int), nW C, rB [vI 0, vI 0, vI 0, .slice none 0 0, .slice none 0 0, .slice none 0 0] 27, nW (mkI 1 A.length), nW (mkI (1 + A.length) ([] : List Int).length), nW (mkI (1 + A.length + ([] : List Int).length) C.length), rB [vI x, vI y, vI z, vS 7 A.length, vS 8 0, vS 9 C.length] 27, rB [vI 0, vI 0, vI 0, .slice none 0 0, .slice none 0 0, .slice none 0 0] 27, nW A, nW ([] : List Int), nW C, nW A, nW ([] : List Int), nW C, rB [vI 0, vI 0, vI 0, .slice none 0 0, .slice none 0 0, .slice none 0 0] 27] (by kernel_rfl) (by first | rfl | kernel_rfl) rfl rfl hcl rfl
  ·
   (try simp only [bs0, bs1, bs2, bs3, beq_iff_eq, bne_iff_ne, beq_eq_false_iff_ne, bne_eq_false_iff_eq, ne_eq, bs4, bs5, bs6, bs7, bs8, bs9, bs10, bs11, ge_iff_le, gt_iff_lt] at h2)
   exfalso; omega
 ·
  (try simp only [bs0, bs1, bs2, bs3, beq_iff_eq, bne_iff_ne, beq_eq_false_iff_ne, bne_eq_false_iff_eq, ne_eq, bs4, bs5, bs6, bs7, bs8, bs9, bs10, bs11, ge_iff_le, gt_iff_lt] at h1)
  exfalso; omega
end Go.Proofs.Ytbheeobnghlckaa
set_option linter.unusedVariables false
set_option linter.unusedSimpArgs false
namespace Go.Proofs.Ytbheeobnghlckaa
open Go.Am Go.RowKit
set_option maxRecDepth 100000 in
set_option maxHeartbeats 4000000 in
theorem lawMirrorShadow_bigA_snn (x : Int) (y : Int) (z : Int) (A : List Int) (k : Int) (hl : 1048576 < A.length) (hm : A.length ≤ 9223372036854775807) : Sound Try.prog 12 [.agg #[vI x, vI y, vI z, vS 0 A.length, .slice none 0 0, .slice none 0 0], vI k] [nR A] (.bool true) [nR A] := by
 refine sound_intro (C := cx) Try.func12 rfl (by kernel_rfl) fun hcl => ?_
 refine cSeq ?_
 refine cReg ?_
 refine segEnd [1, 2] (T1 := (mkT 101 [(1, vI k), (2, vP 1 0)])) (H1 := [nR A, rB [vI x, vI y, vI z, vS 0 A.length, .slice none 0 0, .slice none 0 0] 24]) (by kernel_rfl) ?_
 refine kSeq ?_
 refine cSeq ?_
 refine cReg ?_
 refine segEndH [1, 2, 5] (T1 := (mkT 101 [(1, vI k), (2, vP 1 0), (5, vI 1048576)])) (by kernel_rfl) ?_
 refine kSeq ?_
 refine cSeq ?_
 refine cReg ?_
 refine segH 2 (T1 := (mkT 101 [(1, vI k), (2, vP 1 0), (5, vI 1048576), (16, .agg #[vI x, vI y, vI z, vS 0 A.length, .slice none 0 0, .slice none 0 0]), (17, vI 1048576)])) (by kernel_rfl) ?_
 refine rCall (v := vI (-1)) (args := [.agg #[vI x, vI y, vI z, vS 0 A.length, .slice none 0 0, .slice none 0 0], vI 1048576]) (by kernel_rfl) rfl (by kernel_rfl) (Sound.lay0 [0] (szSh_snn_A x y z A 1048576 (by first | omega | assumption | (simp; done) | (simp; omega)) (by first | assumption | omega | rfl | decide | exact HeapL.list _ _ _ _ | exact HeapL.nil _ _ _ | exact HeapL.all _ _ _ | (apply HeapL.lt64 <;> assumption) | (repeat' (first | assumption | apply or_lt64 | apply and_lt64 | apply andn_lt64 | apply pow_lt64 | (apply HeapL.lt64 <;> assumption)))) (by first | omega | assumption | decide)) ⟨rdF false (flatNums _ _ _ _) rfl rfl, trivial⟩ rfl ⟨clF (flatNums _ _ _ _), trivial⟩ rfl (by first | rfl | simp [mpV, mpA, mpS, mpP, renId, shift]) rfl) ?_
 refine segEndH [1, 2, 5] (T1 := (mkT 101 [(1, vI k), (2, vP 1 0), (5, vI (-1))])) (by kernel_rfl) ?_
 refine kSeq ?_
 refine cSeq ?_
 refine cSeq ?_
 refine cReg ?_
 refine segEndH [1, 2, 20] (T1 := (mkT 101 [(1, vI k), (2, vP 1 0), (20, .bool true)])) (by kernel_rfl) ?_
 refine kSeq ?_
 refine cTrue (by kernel_rfl) ?_
 refine cSeq ?_
 refine cReg ?_
 refine segEndH [4] (T1 := (mkT 101 [(4, .bool true)])) (by kernel_rfl) ?_
 refine kSeq ?_
 refine cRet ?_
 refine kSeqR ?_
 exact endQ (Or.inr rfl) (l := [.bool true]) [rB [vI x, vI y, vI z, vS 0 A.length, .slice none 0 0, .slice none 0 0] 24] (by kernel_rfl) (by first | rfl | kernel_rfl) rfl rfl hcl rfl
set_option maxRecDepth 100000 in
set_option maxHeartbeats 4000000 in
theorem lawMirrorShadow_no_snn (x : Int) (y : Int) (z : Int) (A : List Int) (k : Int) (hl : A.length ≤ 1048576) (hb : mirB x y z A ([] : List Int) ([] : List Int) k = false) : Sound Try.prog 12 [.agg #[vI x, vI y, vI z, vS 0 A.length, .slice none 0 0, .slice none 0 0], vI k] [nR A] (.bool true) [nR A] := by
 refine sound_intro (C := cx) Try.func12 rfl (by kernel_rfl) fun hcl => ?_
 refine cSeq ?_
 refine cReg ?_
 refine segEnd [1, 2] (T1 := (mkT 101 [(1, vI k), (2, vP 1 0)])) (H1 := [nR A, rB [vI x, vI y, vI z, vS 0 A.length, .slice none 0 0, .slice none 0 0] 24]) (by kernel_rfl) ?_
 refine kSeq ?_
 refine cSeq ?_
 refine cReg ?_
 refine segEndH [1, 2, 5] (T1 := (mkT 101 [(1, vI k), (2, vP 1 0), (5, vI 1048576)])) (by kernel_rfl) ?_
 refine kSeq ?_
 refine cSeq ?_
 refine cReg ?_
 refine segH 2 (T1 := (mkT 101 [(1, vI k), (2, vP 1 0), (5, vI 1048576), (16, .agg #[vI x, vI y, vI z, vS 0 A.length, .slice none 0 0, .slice none 0 0]), (17, vI 1048576)])) (by kernel_rfl) ?_
 refine rCall (v := vN (1048576 - A.length)) (args := [.agg #[vI x, vI y, vI z, vS 0 A.length, .slice none 0 0, .slice none 0 0], vI 1048576]) (by kernel_rfl) rfl (by kernel_rfl) (Sound.lay0 [0] (szSh_snn x y z A 1048576 (by first | omega | assumption | (simp; done) | (simp; omega)) (by first | omega | assumption | decide)) ⟨rdF false (flatNums _ _ _ _) rfl rfl, trivial⟩ rfl ⟨clF (flatNums _ _ _ _), trivial⟩ rfl (by first | rfl | simp [mpV, mpA, mpS, mpP, renId, shift]) rfl) ?_
 refine segEndH [1, 2, 5] (T1 := (mkT 101 [(1, vI k), (2, vP 1 0), (5, vN (1048576 - A.length))])) (by kernel_rfl) ?_
 refine kSeq ?_
 refine cSeq ?_
 refine cSeq ?_
 refine cReg ?_
 refine segEndH [1, 2, 20] (T1 := (mkT 101 [(1, vI k), (2, vP 1 0), (20, .bool (decide (((1048576 - A.length : Nat) : Int) < 0)))])) (by kernel_rfl) ?_
 refine kSeq ?_
 cases h1 : (decide (((1048576 - A.length : Nat) : Int) < 0) : Bool)
 ·
  (try simp only [bs0, bs1, bs2, bs3, beq_iff_eq, bne_iff_ne, beq_eq_false_iff_ne, bne_eq_false_iff_eq, ne_eq, bs4, bs5, bs6, bs7, bs8, bs9, bs10, bs11, ge_iff_le, gt_iff_lt] at h1)
  refine cFalse (by kernel_rfl) ?_
  refine cSkip ?_
  refine kSeq ?_
  refine cSeq ?_
  refine cReg ?_
  refine segH 1 (T1 := (mkT 101 [(1, vI k), (2, vP 1 0), (20, .bool false), (22, .agg #[vI x, vI y, vI z, vS 0 A.length, .slice none 0 0, .slice none 0 0])])) (by kernel_rfl) ?_
  refine rCall (v := .agg #[vI x, vI y, vI z, vS 2 A.length, vS 3 0, vS 4 0]) (args := [.agg #[vI x, vI y, vI z, vS 0 A.length, .slice none 0 0, .slice none 0 0]]) (by kernel_rfl) rfl (by kernel_rfl) (Sound.lay (E := [nW A, nW ([] : List Int), nW ([] : List Int)]) [0] (toSh_snn x y z A (by first | omega | assumption)) ⟨rdF false (flatNums _ _ _ _) rfl rfl, trivial⟩ rfl ⟨clF (flatNums _ _ _ _), trivial⟩ rfl (by first | rfl | simp [mpV, mpA, mpS, mpP, renId, shift]) (by first | rfl | simp [mpV, mpA, mpS, mpP, renId, shift]) ⟨enF (flatNums _ _ _ _) (Or.inl rfl), ⟨enF (flatNums _ _ _ _) (Or.inl rfl), ⟨enF (flatNums _ _ _ _) (Or.inl rfl), trivial⟩⟩⟩) ?_
  refine seg 1 (T1 := (mkT 101 [(1, vI k), (2, vP 1 0), (20, .bool false), (22, .agg #[vI x, vI y, vI z, vS 0 A.length, .slice none 0 0, .slice none 0 0]), (23, .agg #[vI x, vI y, vI z, vS 2 A.length, vS 3 0, vS 4 0]), (24, vI k)])) (H1 := [nR A, rB [vI x, vI y, vI z, vS 0 A.length, .slice none 0 0, .slice none 0 0] 24, nW A, nW ([] : List Int), nW ([] : List Int)]) (by kernel_rfl) ?_
  refine rCall (v := .tuple #[.agg #[vI 0, vI 0, vI 0, .slice none 0 0, .slice none 0 0, .slice none 0 0], .bool false]) (args := [.agg #[vI x, vI y, vI z, vS 2 A.length, vS 3 0, vS 4 0], vI k]) (by kernel_rfl) rfl (by kernel_rfl) (Sound.lay0 [2, 3, 4] (specMirrorShadow_bad x y z A ([] : List Int) ([] : List Int) k (by first | assumption | omega | rfl | decide | exact HeapL.list _ _ _ _ | exact HeapL.nil _ _ _ | exact HeapL.all _ _ _ | (apply HeapL.lt64 <;> assumption) | (repeat' (first | assumption | apply or_lt64 | apply and_lt64 | apply andn_lt64 | apply pow_lt64 | (apply HeapL.lt64 <;> assumption)))) (by first | omega | assumption | (simp; done)) (by first | omega | assumption | (simp; done)) (by first | omega | assumption | (simp; done))) ⟨rdF true (flatNums _ _ _ _) rfl rfl, ⟨rdF true (flatNums _ _ _ _) rfl rfl, ⟨rdF true (flatNums _ _ _ _) rfl rfl, trivial⟩⟩⟩ rfl ⟨clF (flatNums _ _ _ _), ⟨clF (flatNums _ _ _ _), ⟨clF (flatNums _ _ _ _), trivial⟩⟩⟩ rfl (by first | rfl | simp [mpV, mpA, mpS, mpP, renId, shift]) (by first | rfl | simp [mpV, mpA, mpS, mpP, renId, shift])) ?_
  refine segEnd [1, 2, 6, 7] (T1 := (mkT 101 [(1, vI k), (2, vP 1 0), (6, vP 5 0), (7, .bool false)])) (H1 := [nR A, rB [vI x, vI y, vI z, vS 0 A.length, .slice none 0 0, .slice none 0 0] 24, nW A, nW ([] : List Int), nW ([] : List Int), rB [vI 0, vI 0, vI 0, .slice none 0 0, .slice none 0 0, .slice none 0 0] 27]) (by kernel_rfl) ?_
  refine kSeq ?_
  refine cSeq ?_
  refine cReg ?_
  refine segH 1 (T1 := (mkT 101 [(1, vI k), (2, vP 1 0), (6, vP 5 0), (7, .bool false), (28, .agg #[vI x, vI y, vI z, vS 0 A.length, .slice none 0 0, .slice none 0 0])])) (by kernel_rfl) ?_
  refine rCall (v := .agg #[vI x, vI y, vI z, vS 6 A.length, vS 7 0, vS 8 0]) (args := [.agg #[vI x, vI y, vI z, vS 0 A.length, .slice none 0 0, .slice none 0 0]]) (by kernel_rfl) rfl (by kernel_rfl) (Sound.lay (E := [nW A, nW ([] : List Int), nW ([] : List Int)]) [0] (toSh_snn x y z A (by first | omega | assumption)) ⟨rdF false (flatNums _ _ _ _) rfl rfl, trivial⟩ rfl ⟨clF (flatNums _ _ _ _), trivial⟩ rfl (by first | rfl | simp [mpV, mpA, mpS, mpP, renId, shift]) (by first | rfl | simp [mpV, mpA, mpS, mpP, renId, shift]) ⟨enF (flatNums _ _ _ _) (Or.inl rfl), ⟨enF (flatNums _ _ _ _) (Or.inl rfl), ⟨enF (flatNums _ _ _ _) (Or.inl rfl), trivial⟩⟩⟩) ?_
  refine segEnd [1, 2, 6, 7, 8] (T1 := (mkT 101 [(1, vI k), (2, vP 1 0), (6, vP 5 0), (7, .bool false), (8, vP 9 0)])) (H1 := [nR A, rB [vI x, vI y, vI z, vS 0 A.length, .slice none 0 0, .slice none 0 0] 24, nW A, nW ([] : List Int), nW ([] : List Int), rB [vI 0, vI 0, vI 0, .slice none 0 0, .slice none 0 0, .slice none 0 0] 27, nW A, nW ([] : List Int), nW ([] : List Int), rB [vI x, vI y, vI z, vS 6 A.length, vS 7 0, vS 8 0] 27]) (by kernel_rfl) ?_
  refine kSeq ?_
  refine cSeq ?_
  refine cReg ?_
  refine segH 2 (T1 := (mkT 101 [(1, vI k), (2, vP 1 0), (6, vP 5 0), (7, .bool false), (8, vP 9 0), (31, .agg #[vI x, vI y, vI z, vS 6 A.length, vS 7 0, vS 8 0]), (32, vI k)])) (by kernel_rfl) ?_
  refine rCall (v := .tuple #[.agg #[vI 0, vI 0, vI 0, .slice none 0 0, .slice none 0 0, .slice none 0 0], .bool false]) (args := [.agg #[vI x, vI y, vI z, vS 6 A.length, vS 7 0, vS 8 0], vI k]) (by kernel_rfl) rfl (by kernel_rfl) (Sound.lay0 [6, 7, 8] (implMirrorShadow_bad x y z A ([] : List Int) ([] : List Int) k (by first | assumption | omega | rfl | decide | exact HeapL.list _ _ _ _ | exact HeapL.nil _ _ _ | exact HeapL.all _ _ _ | (apply HeapL.lt64 <;> assumption) | (repeat' (first | assumption | apply or_lt64 | apply and_lt64 | apply andn_lt64 | apply pow_lt64 | (apply HeapL.lt64 <;> assumption)))) (by first | omega | assumption | (simp; done)) (by first | omega | assumption | (simp; done)) (by first | omega | assumption | (simp; done))) ⟨rdF true (flatNums _ _ _ _) rfl rfl, ⟨rdF true (flatNums _ _ _ _) rfl rfl, ⟨rdF true (flatNums _ _ _ _) rfl rfl, trivial⟩⟩⟩ rfl ⟨clF (flatNums _ _ _ _), ⟨clF (flatNums _ _ _ _), ⟨clF (flatNums _ _ _ _), trivial⟩⟩⟩ rfl (by first | rfl | simp [mpV, mpA, mpS, mpP, renId, shift]) (by first | rfl | simp [mpV, mpA, mpS, mpP, renId, shift])) ?_
  refine segEnd [1, 2, 6, 7, 8, 9, 10] (T1 := (mkT 101 [(1, vI k), (2, vP 1 0), (6, vP 5 0), (7, .bool false), (8, vP 9 0), (9, vP 10 0), (10, .bool false)])) (H1 := [nR A, rB [vI x, vI y, vI z, vS 0 A.length, .slice none 0 0, .slice none 0 0] 24, nW A, nW ([] : List Int), nW ([] : List Int), rB [vI 0, vI 0, vI 0, .slice none 0 0, .slice none 0 0, .slice none 0 0] 27, nW A, nW ([] : List Int), nW ([] : List Int), rB [vI x, vI y, vI z, vS 6 A.length, vS 7 0, vS 8 0] 27, rB [vI 0, vI 0, vI 0, .slice none 0 0, .slice none 0 0, .slice none 0 0] 27]) (by kernel_rfl) ?_
  refine kSeq ?_
  refine cSeq ?_
  refine cSeq ?_
  refine cReg ?_
  refine segH 2 (T1 := (mkT 101 [(1, vI k), (2, vP 1 0), (6, vP 5 0), (7, .bool false), (8, vP 9 0), (9, vP 10 0), (10, .bool false), (36, .agg #[vI 0, vI 0, vI 0, .slice none 0 0, .slice none 0 0, .slice none 0 0]), (37, .agg #[vI 0, vI 0, vI 0, .slice none 0 0, .slice none 0 0, .slice none 0 0])])) (by kernel_rfl) ?_
  refine rCall (v := .bool true) (args := [.agg #[vI 0, vI 0, vI 0, .slice none 0 0, .slice none 0 0, .slice none 0 0], .agg #[vI 0, vI 0, vI 0, .slice none 0 0, .slice none 0 0, .slice none 0 0]]) (by kernel_rfl) rfl (by kernel_rfl) (Sound.lay0 [] (eqSh_N) trivial rfl trivial rfl (by first | rfl | simp [mpV, mpA, mpS, mpP, renId, shift]) rfl) ?_
  refine segEndH [1, 2, 6, 7, 8, 9, 10, 44] (T1 := (mkT 101 [(1, vI k), (2, vP 1 0), (6, vP 5 0), (7, .bool false), (8, vP 9 0), (9, vP 10 0), (10, .bool false), (44, .bool false)])) (by kernel_rfl) ?_
  refine kSeq ?_
  refine cFalse (by kernel_rfl) ?_
  refine cSkip ?_
  refine kSeq ?_
  refine cSeq ?_
  refine cSeq ?_
  refine cRegW (N := 14) [⟨[], [], [9]⟩, ⟨[], [], [1]⟩, ⟨[11, 12, 13], [], [0]⟩, ⟨[], [], [6, 7, 8, 11, 12, 13]⟩, ⟨[], [], []⟩] 3 [11, 12, 13] (by rfl) (by rfl) (by kernel_rfl) (by kernel_rfl) (by kernel_rfl) ⟨nmsF (flatNums _ _ _ _), ⟨nmsX (by kernel_rfl), ⟨nmsF (flatNums _ _ _ _), ⟨nmsF (flatNums _ _ _ _), ⟨nmsF (flatNums _ _ _ _), ⟨nmsX (by kernel_rfl), ⟨nmsF (flatNums _ _ _ _), ⟨nmsF (flatNums _ _ _ _), ⟨nmsF (flatNums _ _ _ _), ⟨nmsX (by kernel_rfl), ⟨nmsX (by kernel_rfl), trivial⟩⟩⟩⟩⟩⟩⟩⟩⟩⟩⟩ ?_
  refine segWH 2 (T1 := (mkT 101 [(1, vI k), (2, vP 1 0), (6, vP 5 0), (7, .bool false), (8, vP 9 0), (9, vP 10 0), (10, .bool false), (44, .bool false), (45, .agg #[vI x, vI y, vI z, vS 6 A.length, vS 7 0, vS 8 0]), (46, .agg #[vI x, vI y, vI z, vS 0 A.length, .slice none 0 0, .slice none 0 0])])) (by kernel_rfl) ?_
  refine rW (m := ⟨[11, 12, 13], [], [0]⟩) (v := .agg #[vI x, vI y, vI z, vS 11 A.length, vS 12 0, vS 13 0]) rfl (by kernel_rfl) (stN (i := 11) (E := [nW A, nW ([] : List Int), nW ([] : List Int)]) (v1 := .agg #[vI x, vI y, vI z, vS 14 A.length, vS 15 0, vS 16 0]) (args := [.agg #[vI x, vI y, vI z, vS 0 A.length, .slice none 0 0, .slice none 0 0]]) rfl (by kernel_rfl) (Any.lay (E := [nW A, nW ([] : List Int), nW ([] : List Int)]) (N := 14) [0] (toSh_snn x y z A (by first | omega | assumption)) ⟨rdF false (flatNums _ _ _ _) rfl rfl, trivial⟩ rfl ⟨clF (flatNums _ _ _ _), trivial⟩ rfl (by first | rfl | simp [mpV, mpA, mpS, mpP, renId, shift]) (by first | rfl | simp [mpV, mpA, mpS, mpP, renId, shift]) ⟨enF (flatNums _ _ _ _) (Or.inl rfl), ⟨enF (flatNums _ _ _ _) (Or.inl rfl), ⟨enF (flatNums _ _ _ _) (Or.inl rfl), trivial⟩⟩⟩) rfl (by kernel_rfl) (by kernel_rfl) (by kernel_rfl) (by kernel_rfl) (FlatH.cons (flatNums _ _ _ _) (FlatH.cons (flatNums _ _ _ _) (FlatH.cons (flatNums _ _ _ _) FlatH.nil)))) (by kernel_rfl) (NRs.all ⟨nrOf (by rfl) (nmF (flatNums _ _ _ _)), ⟨nrOf (by rfl) (nmF (flatNums _ _ _ _)), ⟨nrOf (by rfl) (nmF (flatNums _ _ _ _)), trivial⟩⟩⟩) ?_
  refine rW (m := ⟨[], [], [6, 7, 8, 11, 12, 13]⟩) (v := .bool true) rfl (by kernel_rfl) (stQ (args := [.agg #[vI x, vI y, vI z, vS 6 A.length, vS 7 0, vS 8 0], .agg #[vI x, vI y, vI z, vS 11 A.length, vS 12 0, vS 13 0]]) rfl (by kernel_rfl) (Any.lay0 [6, 7, 8, 11, 12, 13] (eqSh x y z A ([] : List Int) ([] : List Int) (by first | omega | assumption | (simp; done)) (by first | omega | assumption | (simp; done)) (by first | omega | assumption | (simp; done))) ⟨rdF true (flatNums _ _ _ _) rfl rfl, ⟨rdF true (flatNums _ _ _ _) rfl rfl, ⟨rdF true (flatNums _ _ _ _) rfl rfl, ⟨rdF true (flatNums _ _ _ _) rfl rfl, ⟨rdF true (flatNums _ _ _ _) rfl rfl, ⟨rdF true (flatNums _ _ _ _) rfl rfl, trivial⟩⟩⟩⟩⟩⟩ rfl ⟨clF (flatNums _ _ _ _), ⟨clF (flatNums _ _ _ _), ⟨clF (flatNums _ _ _ _), ⟨clF (flatNums _ _ _ _), ⟨clF (flatNums _ _ _ _), ⟨clF (flatNums _ _ _ _), trivial⟩⟩⟩⟩⟩⟩ rfl (by first | rfl | simp [mpV, mpA, mpS, mpP, renId, shift]) rfl) rfl (by kernel_rfl) (by kernel_rfl)) (by kernel_rfl) nr0 ?_
  refine segEndW [1, 2, 6, 7, 8, 9, 10, 49] (T1 := (mkT 101 [(1, vI k), (2, vP 1 0), (6, vP 5 0), (7, .bool false), (8, vP 9 0), (9, vP 10 0), (10, .bool false), (49, .bool false)])) (H1 := [nR A, rB [vI x, vI y, vI z, vS 0 A.length, .slice none 0 0, .slice none 0 0] 24, nW A, nW ([] : List Int), nW ([] : List Int), rB [vI 0, vI 0, vI 0, .slice none 0 0, .slice none 0 0, .slice none 0 0] 27, nW A, nW ([] : List Int), nW ([] : List Int), rB [vI x, vI y, vI z, vS 6 A.length, vS 7 0, vS 8 0] 27, rB [vI 0, vI 0, vI 0, .slice none 0 0, .slice none 0 0, .slice none 0 0] 27, nW A, nW ([] : List Int), nW ([] : List Int)]) (by kernel_rfl) ?_
  refine kSeq ?_
  refine cFalse (by kernel_rfl) ?_
  refine cSkip ?_
  refine kSeq ?_
  refine cSeq ?_
  refine cReg ?_
  refine segEndH [1, 2, 6, 7, 8, 9, 10, 11] (T1 := (mkT 101 [(1, vI k), (2, vP 1 0), (6, vP 5 0), (7, .bool false), (8, vP 9 0), (9, vP 10 0), (10, .bool false), (11, vI 1)])) (by kernel_rfl) ?_
  refine kSeq ?_
  refine cSeq ?_
  refine cReg ?_
  refine segH 2 (T1 := (mkT 101 [(1, vI k), (2, vP 1 0), (6, vP 5 0), (7, .bool false), (8, vP 9 0), (9, vP 10 0), (10, .bool false), (11, vI 1), (50, .agg #[vI x, vI y, vI z, vS 6 A.length, vS 7 0, vS 8 0]), (51, vI 1)])) (by kernel_rfl) ?_
  refine rCall (v := vN (1 + A.length + ([] : List Int).length + ([] : List Int).length)) (args := [.agg #[vI x, vI y, vI z, vS 6 A.length, vS 7 0, vS 8 0], vI 1]) (by kernel_rfl) rfl (by kernel_rfl) (Sound.emb_set3 (r0 := ⟨nums A, 3, false, true⟩) (r1 := ⟨nums ([] : List Int), 3, false, true⟩) (r2 := ⟨nums ([] : List Int), 3, false, true⟩) (q0 := ⟨nums (mkI 1 A.length), 3, false, true⟩) (q1 := ⟨nums (mkI (1 + A.length) ([] : List Int).length), 3, false, true⟩) (q2 := ⟨nums (mkI (1 + A.length + ([] : List Int).length) ([] : List Int).length), 3, false, true⟩) 6 7 8 (markSh x y z A ([] : List Int) ([] : List Int) 1 (by first | omega | assumption | (simp; done)) (by first | omega | assumption | (simp; done)) (by first | omega | assumption | (simp; done)) (by first | assumption | omega | rfl | decide | exact HeapL.list _ _ _ _ | exact HeapL.nil _ _ _ | exact HeapL.all _ _ _ | (apply HeapL.lt64 <;> assumption) | (repeat' (first | assumption | apply or_lt64 | apply and_lt64 | apply andn_lt64 | apply pow_lt64 | (apply HeapL.lt64 <;> assumption))))) ⟨⟨(flatNums _ _ _ _), rfl⟩, ⟨(flatNums _ _ _ _), rfl⟩, ⟨(flatNums _ _ _ _), rfl⟩⟩ ⟨⟨(flatNums _ _ _ _), rfl⟩, ⟨(flatNums _ _ _ _), rfl⟩, ⟨(flatNums _ _ _ _), rfl⟩⟩ rfl rfl rfl rfl rfl (by first | rfl | simp [mpV, mpA, mpS, mpP, renId, shift]) rfl) ?_
  refine segEnd [1, 2, 6, 7, 9, 10, 11] (T1 := (mkT 101 [(1, vI k), (2, vP 1 0), (6, vP 5 0), (7, .bool false), (9, vP 10 0), (10, .bool false), (11, vN (1 + A.length + ([] : List Int).length + ([] : List Int).length))])) (H1 := [nR A, rB [vI x, vI y, vI z, vS 0 A.length, .slice none 0 0, .slice none 0 0] 24, nW A, nW ([] : List Int), nW ([] : List Int), rB [vI 0, vI 0, vI 0, .slice none 0 0, .slice none 0 0, .slice none 0 0] 27, nW (mkI 1 A.length), nW (mkI (1 + A.length) ([] : List Int).length), nW (mkI (1 + A.length + ([] : List Int).length) ([] : List Int).length), rB [vI x, vI y, vI z, vS 6 A.length, vS 7 0, vS 8 0] 27, rB [vI 0, vI 0, vI 0, .slice none 0 0, .slice none 0 0, .slice none 0 0] 27, nW A, nW ([] : List Int), nW ([] : List Int)]) (by kernel_rfl) ?_
  refine kSeq ?_
  refine cSeq ?_
  refine cSeq ?_
  refine cReg ?_
  refine segH 3 (T1 := (mkT 101 [(1, vI k), (2, vP 1 0), (6, vP 5 0), (7, .bool false), (9, vP 10 0), (10, .bool false), (11, vN (1 + A.length + ([] : List Int).length + ([] : List Int).length)), (53, vN (1 + A.length + ([] : List Int).length + ([] : List Int).length)), (54, .bool (decide (((1 + A.length + ([] : List Int).length + ([] : List Int).length : Nat) : Int) < 0))), (55, .bool (decide (((1 + A.length + ([] : List Int).length + ([] : List Int).length : Nat) : Int) < 0)))])) (by kernel_rfl) ?_
  cases h2 : (decide (((1 + A.length + ([] : List Int).length + ([] : List Int).length : Nat) : Int) < 0) : Bool)
  ·
   (try simp only [bs0, bs1, bs2, bs3, beq_iff_eq, bne_iff_ne, beq_eq_false_iff_ne, bne_eq_false_iff_eq, ne_eq, bs4, bs5, bs6, bs7, bs8, bs9, bs10, bs11, ge_iff_le, gt_iff_lt] at h2)
   refine seg 2 (T1 := (mkT 101 [(1, vI k), (2, vP 1 0), (6, vP 5 0), (7, .bool false), (9, vP 10 0), (10, .bool false), (11, vN (1 + A.length + ([] : List Int).length + ([] : List Int).length)), (53, vN (1 + A.length + ([] : List Int).length + ([] : List Int).length)), (54, .bool false), (55, .bool false), (56, .agg #[vI 0, vI 0, vI 0, .slice none 0 0, .slice none 0 0, .slice none 0 0]), (57, .agg #[vI 0, vI 0, vI 0, .slice none 0 0, .slice none 0 0, .slice none 0 0])])) (H1 := [nR A, rB [vI x, vI y, vI z, vS 0 A.length, .slice none 0 0, .slice none 0 0] 24, nW A, nW ([] : List Int), nW ([] : List Int), rB [vI 0, vI 0, vI 0, .slice none 0 0, .slice none 0 0, .slice none 0 0] 27, nW (mkI 1 A.length), nW (mkI (1 + A.length) ([] : List Int).length), nW (mkI (1 + A.length + ([] : List Int).length) ([] : List Int).length), rB [vI x, vI y, vI z, vS 6 A.length, vS 7 0, vS 8 0] 27, rB [vI 0, vI 0, vI 0, .slice none 0 0, .slice none 0 0, .slice none 0 0] 27, nW A, nW ([] : List Int), nW ([] : List Int)]) (by kernel_rfl) ?_
   refine rCall (v := .bool true) (args := [.agg #[vI 0, vI 0, vI 0, .slice none 0 0, .slice none 0 0, .slice none 0 0], .agg #[vI 0, vI 0, vI 0, .slice none 0 0, .slice none 0 0, .slice none 0 0]]) (by kernel_rfl) rfl (by kernel_rfl) (Sound.lay0 [] (eqSh_N) trivial rfl trivial rfl (by first | rfl | simp [mpV, mpA, mpS, mpP, renId, shift]) rfl) ?_
   refine segEnd [1, 2, 6, 7, 9, 65] (T1 := (mkT 101 [(1, vI k), (2, vP 1 0), (6, vP 5 0), (7, .bool false), (9, vP 10 0), (65, .bool false)])) (H1 := [nR A, rB [vI x, vI y, vI z, vS 0 A.length, .slice none 0 0, .slice none 0 0] 24, nW A, nW ([] : List Int), nW ([] : List Int), rB [vI 0, vI 0, vI 0, .slice none 0 0, .slice none 0 0, .slice none 0 0] 27, nW (mkI 1 A.length), nW (mkI (1 + A.length) ([] : List Int).length), nW (mkI (1 + A.length + ([] : List Int).length) ([] : List Int).length), rB [vI x, vI y, vI z, vS 6 A.length, vS 7 0, vS 8 0] 27, rB [vI 0, vI 0, vI 0, .slice none 0 0, .slice none 0 0, .slice none 0 0] 27, nW A, nW ([] : List Int), nW ([] : List Int)]) (by kernel_rfl) ?_
   refine kSeq ?_
   refine cFalse (by kernel_rfl) ?_
   refine cSkip ?_
   refine kSeq ?_
   refine cSeq ?_
   refine cReg ?_
   refine segEndH [1, 2, 6, 7, 9, 12] (T1 := (mkT 101 [(1, vI k), (2, vP 1 0), (6, vP 5 0), (7, .bool false), (9, vP 10 0), (12, vI 1)])) (by kernel_rfl) ?_
   refine kSeq ?_
   refine cSeq ?_
   refine cReg ?_
   refine segH 2 (T1 := (mkT 101 [(1, vI k), (2, vP 1 0), (6, vP 5 0), (7, .bool false), (9, vP 10 0), (12, vI 1), (66, .agg #[vI 0, vI 0, vI 0, .slice none 0 0, .slice none 0 0, .slice none 0 0]), (67, vI 1)])) (by kernel_rfl) ?_
   refine rCall (v := vI 1) (args := [.agg #[vI 0, vI 0, vI 0, .slice none 0 0, .slice none 0 0, .slice none 0 0], vI 1]) (by kernel_rfl) rfl (by kernel_rfl) (Sound.lay0 [] (markSh_N 1 (by first | assumption | omega | rfl | decide | exact HeapL.list _ _ _ _ | exact HeapL.nil _ _ _ | exact HeapL.all _ _ _ | (apply HeapL.lt64 <;> assumption) | (repeat' (first | assumption | apply or_lt64 | apply and_lt64 | apply andn_lt64 | apply pow_lt64 | (apply HeapL.lt64 <;> assumption))))) trivial rfl trivial rfl (by first | rfl | simp [mpV, mpA, mpS, mpP, renId, shift]) rfl) ?_
   refine segEndH [1, 2, 6, 7, 9, 12] (T1 := (mkT 101 [(1, vI k), (2, vP 1 0), (6, vP 5 0), (7, .bool false), (9, vP 10 0), (12, vI 1)])) (by kernel_rfl) ?_
   refine kSeq ?_
   refine cSeq ?_
   refine cReg ?_
   refine segEndH [1, 2, 6, 7, 9, 12, 13] (T1 := (mkT 101 [(1, vI k), (2, vP 1 0), (6, vP 5 0), (7, .bool false), (9, vP 10 0), (12, vI 1), (13, vI 1)])) (by kernel_rfl) ?_
   refine kSeq ?_
   refine cSeq ?_
   refine cReg ?_
   refine segH 2 (T1 := (mkT 101 [(1, vI k), (2, vP 1 0), (6, vP 5 0), (7, .bool false), (9, vP 10 0), (12, vI 1), (13, vI 1), (69, .agg #[vI 0, vI 0, vI 0, .slice none 0 0, .slice none 0 0, .slice none 0 0]), (70, vI 1)])) (by kernel_rfl) ?_
   refine rCall (v := vI 1) (args := [.agg #[vI 0, vI 0, vI 0, .slice none 0 0, .slice none 0 0, .slice none 0 0], vI 1]) (by kernel_rfl) rfl (by kernel_rfl) (Sound.lay0 [] (heldSh_N 1 (by first | assumption | omega | rfl | decide | exact HeapL.list _ _ _ _ | exact HeapL.nil _ _ _ | exact HeapL.all _ _ _ | (apply HeapL.lt64 <;> assumption) | (repeat' (first | assumption | apply or_lt64 | apply and_lt64 | apply andn_lt64 | apply pow_lt64 | (apply HeapL.lt64 <;> assumption))))) trivial rfl trivial rfl (by first | rfl | simp [mpV, mpA, mpS, mpP, renId, shift]) rfl) ?_
   refine segEndH [1, 2, 6, 7, 9, 12, 13] (T1 := (mkT 101 [(1, vI k), (2, vP 1 0), (6, vP 5 0), (7, .bool false), (9, vP 10 0), (12, vI 1), (13, vI 1)])) (by kernel_rfl) ?_
   refine kSeq ?_
   refine cSeq ?_
   refine cSeq ?_
   refine cReg ?_
   refine segEndH [1, 2, 6, 7, 9, 12, 13, 73] (T1 := (mkT 101 [(1, vI k), (2, vP 1 0), (6, vP 5 0), (7, .bool false), (9, vP 10 0), (12, vI 1), (13, vI 1), (73, .bool false)])) (by kernel_rfl) ?_
   refine kSeq ?_
   refine cFalse (by kernel_rfl) ?_
   refine cSkip ?_
   refine kSeq ?_
   refine cSeq ?_
   refine cSeq ?_
   refine cReg ?_
   refine segEndH [1, 2, 6, 7, 9, 12, 76] (T1 := (mkT 101 [(1, vI k), (2, vP 1 0), (6, vP 5 0), (7, .bool false), (9, vP 10 0), (12, vI 1), (76, .bool false)])) (by kernel_rfl) ?_
   refine kSeq ?_
   refine cFalse (by kernel_rfl) ?_
   refine cSkip ?_
   refine kSeq ?_
   refine cSeq ?_
   refine cReg ?_
   refine segH 1 (T1 := (mkT 101 [(1, vI k), (2, vP 1 0), (6, vP 5 0), (7, .bool false), (9, vP 10 0), (12, vI 1), (76, .bool false), (78, .agg #[vI x, vI y, vI z, vS 0 A.length, .slice none 0 0, .slice none 0 0])])) (by kernel_rfl) ?_
   refine rCall (v := .agg #[vI x, vI y, vI z, vS 14 A.length, vS 15 0, vS 16 0]) (args := [.agg #[vI x, vI y, vI z, vS 0 A.length, .slice none 0 0, .slice none 0 0]]) (by kernel_rfl) rfl (by kernel_rfl) (Sound.lay (E := [nW A, nW ([] : List Int), nW ([] : List Int)]) [0] (toSh_snn x y z A (by first | omega | assumption)) ⟨rdF false (flatNums _ _ _ _) rfl rfl, trivial⟩ rfl ⟨clF (flatNums _ _ _ _), trivial⟩ rfl (by first | rfl | simp [mpV, mpA, mpS, mpP, renId, shift]) (by first | rfl | simp [mpV, mpA, mpS, mpP, renId, shift]) ⟨enF (flatNums _ _ _ _) (Or.inl rfl), ⟨enF (flatNums _ _ _ _) (Or.inl rfl), ⟨enF (flatNums _ _ _ _) (Or.inl rfl), trivial⟩⟩⟩) ?_
   refine seg 1 (T1 := (mkT 101 [(1, vI k), (2, vP 1 0), (6, vP 5 0), (7, .bool false), (9, vP 10 0), (12, vI 1), (76, .bool false), (78, .agg #[vI x, vI y, vI z, vS 0 A.length, .slice none 0 0, .slice none 0 0]), (79, .agg #[vI x, vI y, vI z, vS 14 A.length, vS 15 0, vS 16 0]), (80, vI k)])) (H1 := [nR A, rB [vI x, vI y, vI z, vS 0 A.length, .slice none 0 0, .slice none 0 0] 24, nW A, nW ([] : List Int), nW ([] : List Int), rB [vI 0, vI 0, vI 0, .slice none 0 0, .slice none 0 0, .slice none 0 0] 27, nW (mkI 1 A.length), nW (mkI (1 + A.length) ([] : List Int).length), nW (mkI (1 + A.length + ([] : List Int).length) ([] : List Int).length), rB [vI x, vI y, vI z, vS 6 A.length, vS 7 0, vS 8 0] 27, rB [vI 0, vI 0, vI 0, .slice none 0 0, .slice none 0 0, .slice none 0 0] 27, nW A, nW ([] : List Int), nW ([] : List Int), nW A, nW ([] : List Int), nW ([] : List Int)]) (by kernel_rfl) ?_
   refine rCall (v := .tuple #[.agg #[vI 0, vI 0, vI 0, .slice none 0 0, .slice none 0 0, .slice none 0 0], .bool false]) (args := [.agg #[vI x, vI y, vI z, vS 14 A.length, vS 15 0, vS 16 0], vI k]) (by kernel_rfl) rfl (by kernel_rfl) (Sound.lay0 [14, 15, 16] (implMirrorShadow_bad x y z A ([] : List Int) ([] : List Int) k (by first | assumption | omega | rfl | decide | exact HeapL.list _ _ _ _ | exact HeapL.nil _ _ _ | exact HeapL.all _ _ _ | (apply HeapL.lt64 <;> assumption) | (repeat' (first | assumption | apply or_lt64 | apply and_lt64 | apply andn_lt64 | apply pow_lt64 | (apply HeapL.lt64 <;> assumption)))) (by first | omega | assumption | (simp; done)) (by first | omega | assumption | (simp; done)) (by first | omega | assumption | (simp; done))) ⟨rdF true (flatNums _ _ _ _) rfl rfl, ⟨rdF true (flatNums _ _ _ _) rfl rfl, ⟨rdF true (flatNums _ _ _ _) rfl rfl, trivial⟩⟩⟩ rfl ⟨clF (flatNums _ _ _ _), ⟨clF (flatNums _ _ _ _), ⟨clF (flatNums _ _ _ _), trivial⟩⟩⟩ rfl (by first | rfl | simp [mpV, mpA, mpS, mpP, renId, shift]) (by first | rfl | simp [mpV, mpA, mpS, mpP, renId, shift])) ?_
   refine segEnd [6, 7, 9, 12, 14, 15] (T1 := (mkT 101 [(6, vP 5 0), (7, .bool false), (9, vP 10 0), (12, vI 1), (14, vP 17 0), (15, .bool false)])) (H1 := [nR A, rB [vI x, vI y, vI z, vS 0 A.length, .slice none 0 0, .slice none 0 0] 24, nW A, nW ([] : List Int), nW ([] : List Int), rB [vI 0, vI 0, vI 0, .slice none 0 0, .slice none 0 0, .slice none 0 0] 27, nW (mkI 1 A.length), nW (mkI (1 + A.length) ([] : List Int).length), nW (mkI (1 + A.length + ([] : List Int).length) ([] : List Int).length), rB [vI x, vI y, vI z, vS 6 A.length, vS 7 0, vS 8 0] 27, rB [vI 0, vI 0, vI 0, .slice none 0 0, .slice none 0 0, .slice none 0 0] 27, nW A, nW ([] : List Int), nW ([] : List Int), nW A, nW ([] : List Int), nW ([] : List Int), rB [vI 0, vI 0, vI 0, .slice none 0 0, .slice none 0 0, .slice none 0 0] 27]) (by kernel_rfl) ?_
   refine kSeq ?_
   refine cSeq ?_
   refine cSeq ?_
   refine cReg ?_
   refine segH 2 (T1 := (mkT 101 [(6, vP 5 0), (7, .bool false), (9, vP 10 0), (12, vI 1), (14, vP 17 0), (15, .bool false), (84, .agg #[vI 0, vI 0, vI 0, .slice none 0 0, .slice none 0 0, .slice none 0 0]), (85, .agg #[vI 0, vI 0, vI 0, .slice none 0 0, .slice none 0 0, .slice none 0 0])])) (by kernel_rfl) ?_
   refine rCall (v := .bool true) (args := [.agg #[vI 0, vI 0, vI 0, .slice none 0 0, .slice none 0 0, .slice none 0 0], .agg #[vI 0, vI 0, vI 0, .slice none 0 0, .slice none 0 0, .slice none 0 0]]) (by kernel_rfl) rfl (by kernel_rfl) (Sound.lay0 [] (eqSh_N) trivial rfl trivial rfl (by first | rfl | simp [mpV, mpA, mpS, mpP, renId, shift]) rfl) ?_
   refine segEndH [9, 12, 92] (T1 := (mkT 101 [(9, vP 10 0), (12, vI 1), (92, .bool false)])) (by kernel_rfl) ?_
   refine kSeq ?_
   refine cFalse (by kernel_rfl) ?_
   refine cSkip ?_
   refine kSeq ?_
   refine cSeq ?_
   refine cReg ?_
   refine segEndH [9, 12, 13] (T1 := (mkT 101 [(9, vP 10 0), (12, vI 1), (13, vI 1)])) (by kernel_rfl) ?_
   refine kSeq ?_
   refine cSeq ?_
   refine cReg ?_
   refine segH 2 (T1 := (mkT 101 [(9, vP 10 0), (12, vI 1), (13, vI 1), (93, .agg #[vI 0, vI 0, vI 0, .slice none 0 0, .slice none 0 0, .slice none 0 0]), (94, vI 1)])) (by kernel_rfl) ?_
   refine rCall (v := vI 1) (args := [.agg #[vI 0, vI 0, vI 0, .slice none 0 0, .slice none 0 0, .slice none 0 0], vI 1]) (by kernel_rfl) rfl (by kernel_rfl) (Sound.lay0 [] (heldSh_N 1 (by first | assumption | omega | rfl | decide | exact HeapL.list _ _ _ _ | exact HeapL.nil _ _ _ | exact HeapL.all _ _ _ | (apply HeapL.lt64 <;> assumption) | (repeat' (first | assumption | apply or_lt64 | apply and_lt64 | apply andn_lt64 | apply pow_lt64 | (apply HeapL.lt64 <;> assumption))))) trivial rfl trivial rfl (by first | rfl | simp [mpV, mpA, mpS, mpP, renId, shift]) rfl) ?_
   refine segEndH [12, 13] (T1 := (mkT 101 [(12, vI 1), (13, vI 1)])) (by kernel_rfl) ?_
   refine kSeq ?_
   refine cSeq ?_
   refine cSeq ?_
   refine cReg ?_
   refine segEndH [12, 13, 97] (T1 := (mkT 101 [(12, vI 1), (13, vI 1), (97, .bool false)])) (by kernel_rfl) ?_
   refine kSeq ?_
   refine cFalse (by kernel_rfl) ?_
   refine cSkip ?_
   refine kSeq ?_
   refine cSeq ?_
   refine cSeq ?_
   refine cReg ?_
   refine segEndH [100] (T1 := (mkT 101 [(100, .bool false)])) (by kernel_rfl) ?_
   refine kSeq ?_
   refine cFalse (by kernel_rfl) ?_
   refine cSkip ?_
   refine kSeq ?_
   refine cSeq ?_
   refine cReg ?_
   refine segEndH [4] (T1 := (mkT 101 [(4, .bool true)])) (by kernel_rfl) ?_
   refine kSeq ?_
   refine cRet ?_
   exact endQ (Or.inr rfl) (l := [.bool true]) [rB [vI x, vI y, vI z, vS 0 A.length, .slice none 0 0, .slice none 0 0] 24, nW A, nW ([] : List Int), nW ([] : List Int), rB [vI 0, vI 0, vI 0, .slice none 0 0, .slice none 0 0, .slice none 0 0] 27, nW (mkI 1 A.length), nW (mkI (1 + A.length) ([] : List Int).length), nW (mkI (1 + A.length + ([] : List Int).length) ([] : List Int).length), rB [vI x, vI y, vI z, vS 6 A.length, vS 7 0, vS 8 0] 27, rB [vI 0, vI 0, vI 0, .slice none 0 0, .slice none 0 0, .slice none 0 0] 27, nW A, nW ([] : List Int), nW ([] : List Int), nW A, nW ([] : List Int), nW ([] : List Int), rB [vI 0, vI 0, vI 0, .slice none 0 0, .slice none 0 0, .slice none 0 0] 27] (by kernel_rfl) (by first | rfl | kernel_rfl) rfl rfl hcl rfl
  ·
   (try simp only [bs0, bs1, bs2, bs3, beq_iff_eq, bne_iff_ne, beq_eq_false_iff_ne, bne_eq_false_iff_eq, ne_eq, bs4, bs5, bs6, bs7, bs8, bs9, bs10, bs11, ge_iff_le, gt_iff_lt] at h2)
   exfalso; omega
 ·
  (try simp only [bs0, bs1, bs2, bs3, beq_iff_eq, bne_iff_ne, beq_eq_false_iff_ne, bne_eq_false_iff_eq, ne_eq, bs4, bs5, bs6, bs7, bs8, bs9, bs10, bs11, ge_iff_le, gt_iff_lt] at h1)
  exfalso; omega
end Go.Proofs.Ytbheeobnghlckaa
set_option linter.unusedVariables false
set_option linter.unusedSimpArgs false
namespace Go.Proofs.Ytbheeobnghlckaa
open Go.Am Go.RowKit
set_option maxRecDepth 100000 in
set_option maxHeartbeats 4000000 in
theorem lawMirrorShadow_bigB_nss (x : Int) (y : Int) (z : Int) (B : List Int) (C : List Int) (k : Int) (hl : 1048576 < B.length) (hm : B.length ≤ 9223372036854775807) : Sound Try.prog 12 [.agg #[vI x, vI y, vI z, .slice none 0 0, vS 0 B.length, vS 1 C.length], vI k] [nR B, nR C] (.bool true) [nR B, nR C] := by
 refine sound_intro (C := cx) Try.func12 rfl (by kernel_rfl) fun hcl => ?_
 refine cSeq ?_
 refine cReg ?_
 refine segEnd [1, 2] (T1 := (mkT 101 [(1, vI k), (2, vP 2 0)])) (H1 := [nR B, nR C, rB [vI x, vI y, vI z, .slice none 0 0, vS 0 B.length, vS 1 C.length] 24]) (by kernel_rfl) ?_
 refine kSeq ?_
 refine cSeq ?_
 refine cReg ?_
 refine segEndH [1, 2, 5] (T1 := (mkT 101 [(1, vI k), (2, vP 2 0), (5, vI 1048576)])) (by kernel_rfl) ?_
 refine kSeq ?_
 refine cSeq ?_
 refine cReg ?_
 refine segH 2 (T1 := (mkT 101 [(1, vI k), (2, vP 2 0), (5, vI 1048576), (16, .agg #[vI x, vI y, vI z, .slice none 0 0, vS 0 B.length, vS 1 C.length]), (17, vI 1048576)])) (by kernel_rfl) ?_
 refine rCall (v := vI (-1)) (args := [.agg #[vI x, vI y, vI z, .slice none 0 0, vS 0 B.length, vS 1 C.length], vI 1048576]) (by kernel_rfl) rfl (by kernel_rfl) (Sound.lay0 [0, 1] (szSh_nss_B x y z B C 1048576 (by first | omega | assumption | (simp; done) | (simp; omega)) (by first | assumption | omega | rfl | decide | exact HeapL.list _ _ _ _ | exact HeapL.nil _ _ _ | exact HeapL.all _ _ _ | (apply HeapL.lt64 <;> assumption) | (repeat' (first | assumption | apply or_lt64 | apply and_lt64 | apply andn_lt64 | apply pow_lt64 | (apply HeapL.lt64 <;> assumption)))) (by first | omega | assumption | decide)) ⟨rdF false (flatNums _ _ _ _) rfl rfl, ⟨rdF false (flatNums _ _ _ _) rfl rfl, trivial⟩⟩ rfl ⟨clF (flatNums _ _ _ _), ⟨clF (flatNums _ _ _ _), trivial⟩⟩ rfl (by first | rfl | simp [mpV, mpA, mpS, mpP, renId, shift]) rfl) ?_
 refine segEndH [1, 2, 5] (T1 := (mkT 101 [(1, vI k), (2, vP 2 0), (5, vI (-1))])) (by kernel_rfl) ?_
 refine kSeq ?_
 refine cSeq ?_
 refine cSeq ?_
 refine cReg ?_
 refine segEndH [1, 2, 20] (T1 := (mkT 101 [(1, vI k), (2, vP 2 0), (20, .bool true)])) (by kernel_rfl) ?_
 refine kSeq ?_
 refine cTrue (by kernel_rfl) ?_
 refine cSeq ?_
 refine cReg ?_
 refine segEndH [4] (T1 := (mkT 101 [(4, .bool true)])) (by kernel_rfl) ?_
 refine kSeq ?_
 refine cRet ?_
 refine kSeqR ?_
 exact endQ (Or.inr rfl) (l := [.bool true]) [rB [vI x, vI y, vI z, .slice none 0 0, vS 0 B.length, vS 1 C.length] 24] (by kernel_rfl) (by first | rfl | kernel_rfl) rfl rfl hcl rfl
set_option maxRecDepth 100000 in
set_option maxHeartbeats 4000000 in
theorem lawMirrorShadow_bigC_nss (x : Int) (y : Int) (z : Int) (B : List Int) (C : List Int) (k : Int) (h0 : B.length ≤ 1048576) (hl : 1048576 - B.length < C.length) (hm : C.length ≤ 9223372036854775807) : Sound Try.prog 12 [.agg #[vI x, vI y, vI z, .slice none 0 0, vS 0 B.length, vS 1 C.length], vI k] [nR B, nR C] (.bool true) [nR B, nR C] := by
 refine sound_intro (C := cx) Try.func12 rfl (by kernel_rfl) fun hcl => ?_
 refine cSeq ?_
 refine cReg ?_
 refine segEnd [1, 2] (T1 := (mkT 101 [(1, vI k), (2, vP 2 0)])) (H1 := [nR B, nR C, rB [vI x, vI y, vI z, .slice none 0 0, vS 0 B.length, vS 1 C.length] 24]) (by kernel_rfl) ?_
 refine kSeq ?_
 refine cSeq ?_
 refine cReg ?_
 refine segEndH [1, 2, 5] (T1 := (mkT 101 [(1, vI k), (2, vP 2 0), (5, vI 1048576)])) (by kernel_rfl) ?_
 refine kSeq ?_
 refine cSeq ?_
 refine cReg ?_
 refine segH 2 (T1 := (mkT 101 [(1, vI k), (2, vP 2 0), (5, vI 1048576), (16, .agg #[vI x, vI y, vI z, .slice none 0 0, vS 0 B.length, vS 1 C.length]), (17, vI 1048576)])) (by kernel_rfl) ?_
 refine rCall (v := vI (-1)) (args := [.agg #[vI x, vI y, vI z, .slice none 0 0, vS 0 B.length, vS 1 C.length], vI 1048576]) (by kernel_rfl) rfl (by kernel_rfl) (Sound.lay0 [0, 1] (szSh_nss_C x y z B C 1048576 (by first | assumption | omega) (by first | omega | assumption | (simp; done) | (simp; omega)) (by first | assumption | omega | rfl | decide | exact HeapL.list _ _ _ _ | exact HeapL.nil _ _ _ | exact HeapL.all _ _ _ | (apply HeapL.lt64 <;> assumption) | (repeat' (first | assumption | apply or_lt64 | apply and_lt64 | apply andn_lt64 | apply pow_lt64 | (apply HeapL.lt64 <;> assumption)))) (by first | omega | assumption | decide)) ⟨rdF false (flatNums _ _ _ _) rfl rfl, ⟨rdF false (flatNums _ _ _ _) rfl rfl, trivial⟩⟩ rfl ⟨clF (flatNums _ _ _ _), ⟨clF (flatNums _ _ _ _), trivial⟩⟩ rfl (by first | rfl | simp [mpV, mpA, mpS, mpP, renId, shift]) rfl) ?_
 refine segEndH [1, 2, 5] (T1 := (mkT 101 [(1, vI k), (2, vP 2 0), (5, vI (-1))])) (by kernel_rfl) ?_
 refine kSeq ?_
 refine cSeq ?_
 refine cSeq ?_
 refine cReg ?_
 refine segEndH [1, 2, 20] (T1 := (mkT 101 [(1, vI k), (2, vP 2 0), (20, .bool true)])) (by kernel_rfl) ?_
 refine kSeq ?_
 refine cTrue (by kernel_rfl) ?_
 refine cSeq ?_
 refine cReg ?_
 refine segEndH [4] (T1 := (mkT 101 [(4, .bool true)])) (by kernel_rfl) ?_
 refine kSeq ?_
 refine cRet ?_
 refine kSeqR ?_
 exact endQ (Or.inr rfl) (l := [.bool true]) [rB [vI x, vI y, vI z, .slice none 0 0, vS 0 B.length, vS 1 C.length] 24] (by kernel_rfl) (by first | rfl | kernel_rfl) rfl rfl hcl rfl
set_option maxRecDepth 100000 in
set_option maxHeartbeats 4000000 in
theorem lawMirrorShadow_no_nss (x : Int) (y : Int) (z : Int) (B : List Int) (C : List Int) (k : Int) (hl : B.length + C.length ≤ 1048576) (hb : mirB x y z ([] : List Int) B C k = false) : Sound Try.prog 12 [.agg #[vI x, vI y, vI z, .slice none 0 0, vS 0 B.length, vS 1 C.length], vI k] [nR B, nR C] (.bool true) [nR B, nR C] := by
 refine sound_intro (C := cx) Try.func12 rfl (by kernel_rfl) fun hcl => ?_
 refine cSeq ?_
 refine cReg ?_
 refine segEnd [1, 2] (T1 := (mkT 101 [(1, vI k), (2, vP 2 0)])) (H1 := [nR B, nR C, rB [vI x, vI y, vI z, .slice none 0 0, vS 0 B.length, vS 1 C.length] 24]) (by kernel_rfl) ?_
 refine kSeq ?_
 refine cSeq ?_
 refine cReg ?_
 refine segEndH [1, 2, 5] (T1 := (mkT 101 [(1, vI k), (2, vP 2 0), (5, vI 1048576)])) (by kernel_rfl) ?_
 refine kSeq ?_
 refine cSeq ?_
 refine cReg ?_
 refine segH 2 (T1 := (mkT 101 [(1, vI k), (2, vP 2 0), (5, vI 1048576), (16, .agg #[vI x, vI y, vI z, .slice none 0 0, vS 0 B.length, vS 1 C.length]), (17, vI 1048576)])) (by kernel_rfl) ?_
 refine rCall (v := vN (1048576 - B.length - C.length)) (args := [.agg #[vI x, vI y, vI z, .slice none 0 0, vS 0 B.length, vS 1 C.length], vI 1048576]) (by kernel_rfl) rfl (by kernel_rfl) (Sound.lay0 [0, 1] (szSh_nss x y z B C 1048576 (by first | omega | assumption | (simp; done) | (simp; omega)) (by first | omega | assumption | decide)) ⟨rdF false (flatNums _ _ _ _) rfl rfl, ⟨rdF false (flatNums _ _ _ _) rfl rfl, trivial⟩⟩ rfl ⟨clF (flatNums _ _ _ _), ⟨clF (flatNums _ _ _ _), trivial⟩⟩ rfl (by first | rfl | simp [mpV, mpA, mpS, mpP, renId, shift]) rfl) ?_
 refine segEndH [1, 2, 5] (T1 := (mkT 101 [(1, vI k), (2, vP 2 0), (5, vN (1048576 - B.length - C.length))])) (by kernel_rfl) ?_
 refine kSeq ?_
 refine cSeq ?_
 refine cSeq ?_
 refine cReg ?_
 refine segEndH [1, 2, 20] (T1 := (mkT 101 [(1, vI k), (2, vP 2 0), (20, .bool (decide (((1048576 - B.length - C.length : Nat) : Int) < 0)))])) (by kernel_rfl) ?_
 refine kSeq ?_
 cases h1 : (decide (((1048576 - B.length - C.length : Nat) : Int) < 0) : Bool)
 ·
  (try simp only [bs0, bs1, bs2, bs3, beq_iff_eq, bne_iff_ne, beq_eq_false_iff_ne, bne_eq_false_iff_eq, ne_eq, bs4, bs5, bs6, bs7, bs8, bs9, bs10, bs11, ge_iff_le, gt_iff_lt] at h1)
  refine cFalse (by kernel_rfl) ?_
  refine cSkip ?_
  refine kSeq ?_
  refine cSeq ?_
  refine cReg ?_
  refine segH 1 (T1 := (mkT 101 [(1, vI k), (2, vP 2 0), (20, .bool false), (22, .agg #[vI x, vI y, vI z, .slice none 0 0, vS 0 B.length, vS 1 C.length])])) (by kernel_rfl) ?_
  refine rCall (v := .agg #[vI x, vI y, vI z, vS 3 0, vS 4 B.length, vS 5 C.length]) (args := [.agg #[vI x, vI y, vI z, .slice none 0 0, vS 0 B.length, vS 1 C.length]]) (by kernel_rfl) rfl (by kernel_rfl) (Sound.lay (E := [nW ([] : List Int), nW B, nW C]) [0, 1] (toSh_nss x y z B C (by first | omega | assumption) (by first | omega | assumption)) ⟨rdF false (flatNums _ _ _ _) rfl rfl, ⟨rdF false (flatNums _ _ _ _) rfl rfl, trivial⟩⟩ rfl ⟨clF (flatNums _ _ _ _), ⟨clF (flatNums _ _ _ _), trivial⟩⟩ rfl (by first | rfl | simp [mpV, mpA, mpS, mpP, renId, shift]) (by first | rfl | simp [mpV, mpA, mpS, mpP, renId, shift]) ⟨enF (flatNums _ _ _ _) (Or.inl rfl), ⟨enF (flatNums _ _ _ _) (Or.inl rfl), ⟨enF (flatNums _ _ _ _) (Or.inl rfl), trivial⟩⟩⟩) ?_
  refine seg 1 (T1 := (mkT 101 [(1, vI k), (2, vP 2 0), (20, .bool false), (22, .agg #[vI x, vI y, vI z, .slice none 0 0, vS 0 B.length, vS 1 C.length]), (23, .agg #[vI x, vI y, vI z, vS 3 0, vS 4 B.length, vS 5 C.length]), (24, vI k)])) (H1 := [nR B, nR C, rB [vI x, vI y, vI z, .slice none 0 0, vS 0 B.length, vS 1 C.length] 24, nW ([] : List Int), nW B, nW C]) (by kernel_rfl) ?_
  refine rCall (v := .tuple #[.agg #[vI 0, vI 0, vI 0, .slice none 0 0, .slice none 0 0, .slice none 0 0], .bool false]) (args := [.agg #[vI x, vI y, vI z, vS 3 0, vS 4 B.length, vS 5 C.length], vI k]) (by kernel_rfl) rfl (by kernel_rfl) (Sound.lay0 [3, 4, 5] (specMirrorShadow_bad x y z ([] : List Int) B C k (by first | assumption | omega | rfl | decide | exact HeapL.list _ _ _ _ | exact HeapL.nil _ _ _ | exact HeapL.all _ _ _ | (apply HeapL.lt64 <;> assumption) | (repeat' (first | assumption | apply or_lt64 | apply and_lt64 | apply andn_lt64 | apply pow_lt64 | (apply HeapL.lt64 <;> assumption)))) (by first | omega | assumption | (simp; done)) (by first | omega | assumption | (simp; done)) (by first | omega | assumption | (simp; done))) ⟨rdF true (flatNums _ _ _ _) rfl rfl, ⟨rdF true (flatNums _ _ _ _) rfl rfl, ⟨rdF true (flatNums _ _ _ _) rfl rfl, trivial⟩⟩⟩ rfl ⟨clF (flatNums _ _ _ _), ⟨clF (flatNums _ _ _ _), ⟨clF (flatNums _ _ _ _), trivial⟩⟩⟩ rfl (by first | rfl | simp [mpV, mpA, mpS, mpP, renId, shift]) (by first | rfl | simp [mpV, mpA, mpS, mpP, renId, shift])) ?_
  refine segEnd [1, 2, 6, 7] (T1 := (mkT 101 [(1, vI k), (2, vP 2 0), (6, vP 6 0), (7, .bool false)])) (H1 := [nR B, nR C, rB [vI x, vI y, vI z, .slice none 0 0, vS 0 B.length, vS 1 C.length] 24, nW ([] : List Int), nW B, nW C, rB [vI 0, vI 0, vI 0, .slice none 0 0, .slice none 0 0, .slice none 0 0] 27]) (by kernel_rfl) ?_
  refine kSeq ?_
  refine cSeq ?_
  refine cReg ?_
  refine segH 1 (T1 := (mkT 101 [(1, vI k), (2, vP 2 0), (6, vP 6 0), (7, .bool false), (28, .agg #[vI x, vI y, vI z, .slice none 0 0, vS 0 B.length, vS 1 C.length])])) (by kernel_rfl) ?_
  refine rCall (v := .agg #[vI x, vI y, vI z, vS 7 0, vS 8 B.length, vS 9 C.length]) (args := [.agg #[vI x, vI y, vI z, .slice none 0 0, vS 0 B.length, vS 1 C.length]]) (by kernel_rfl) rfl (by kernel_rfl) (Sound.lay (E := [nW ([] : List Int), nW B, nW C]) [0, 1] (toSh_nss x y z B C (by first | omega | assumption) (by first | omega | assumption)) ⟨rdF false (flatNums _ _ _ _) rfl rfl, ⟨rdF false (flatNums _ _ _ _) rfl rfl, trivial⟩⟩ rfl ⟨clF (flatNums _ _ _ _), ⟨clF (flatNums _ _ _ _), trivial⟩⟩ rfl (by first | rfl | simp [mpV, mpA, mpS, mpP, renId, shift]) (by first | rfl | simp [mpV, mpA, mpS, mpP, renId, shift]) ⟨enF (flatNums _ _ _ _) (Or.inl rfl), ⟨enF (flatNums _ _ _ _) (Or.inl rfl), ⟨enF (flatNums _ _ _ _) (Or.inl rfl), trivial⟩⟩⟩) ?_
  refine segEnd [1, 2, 6, 7, 8] (T1 := (mkT 101 [(1, vI k), (2, vP 2 0), (6, vP 6 0), (7, .bool false), (8, vP 10 0)])) (H1 := [nR B, nR C, rB [vI x, vI y, vI z, .slice none 0 0, vS 0 B.length, vS 1 C.length] 24, nW ([] : List Int), nW B, nW C, rB [vI 0, vI 0, vI 0, .slice none 0 0, .slice none 0 0, .slice none 0 0] 27, nW ([] : List Int), nW B, nW C, rB [vI x, vI y, vI z, vS 7 0, vS 8 B.length, vS 9 C.length] 27]) (by kernel_rfl) ?_
  refine kSeq ?_
  refine cSeq ?_
  refine cReg ?_
  refine segH 2 (T1 := (mkT 101 [(1, vI k), (2, vP 2 0), (6, vP 6 0), (7, .bool false), (8, vP 10 0), (31, .agg #[vI x, vI y, vI z, vS 7 0, vS 8 B.length, vS 9 C.length]), (32, vI k)])) (by kernel_rfl) ?_
  refine rCall (v := .tuple #[.agg #[vI 0, vI 0, vI 0, .slice none 0 0, .slice none 0 0, .slice none 0 0], .bool false]) (args := [.agg #[vI x, vI y, vI z, vS 7 0, vS 8 B.length, vS 9 C.length], vI k]) (by kernel_rfl) rfl (by kernel_rfl) (Sound.lay0 [7, 8, 9] (implMirrorShadow_bad x y z ([] : List Int) B C k (by first | assumption | omega | rfl | decide | exact HeapL.list _ _ _ _ | exact HeapL.nil _ _ _ | exact HeapL.all _ _ _ | (apply HeapL.lt64 <;> assumption) | (repeat' (first | assumption | apply or_lt64 | apply and_lt64 | apply andn_lt64 | apply pow_lt64 | (apply HeapL.lt64 <;> assumption)))) (by first | omega | assumption | (simp; done)) (by first | omega | assumption | (simp; done)) (by first | omega | assumption | (simp; done))) ⟨rdF true (flatNums _ _ _ _) rfl rfl, ⟨rdF true (flatNums _ _ _ _) rfl rfl, ⟨rdF true (flatNums _ _ _ _) rfl rfl, trivial⟩⟩⟩ rfl ⟨clF (flatNums _ _ _ _), ⟨clF (flatNums _ _ _ _), ⟨clF (flatNums _ _ _ _), trivial⟩⟩⟩ rfl (by first | rfl | simp [mpV, mpA, mpS, mpP, renId, shift]) (by first | rfl | simp [mpV, mpA, mpS, mpP, renId, shift])) ?_
  refine segEnd [1, 2, 6, 7, 8, 9, 10] (T1 := (mkT 101 [(1, vI k), (2, vP 2 0), (6, vP 6 0), (7, .bool false), (8, vP 10 0), (9, vP 11 0), (10, .bool false)])) (H1 := [nR B, nR C, rB [vI x, vI y, vI z, .slice none 0 0, vS 0 B.length, vS 1 C.length] 24, nW ([] : List Int), nW B, nW C, rB [vI 0, vI 0, vI 0, .slice none 0 0, .slice none 0 0, .slice none 0 0] 27, nW ([] : List Int), nW B, nW C, rB [vI x, vI y, vI z, vS 7 0, vS 8 B.length, vS 9 C.length] 27, rB [vI 0, vI 0, vI 0, .slice none 0 0, .slice none 0 0, .slice none 0 0] 27]) (by kernel_rfl) ?_
  refine kSeq ?_
  refine cSeq ?_
  refine cSeq ?_
  refine cReg ?_
  refine segH 2 (T1 := (mkT 101 [(1, vI k), (2, vP 2 0), (6, vP 6 0), (7, .bool false), (8, vP 10 0), (9, vP 11 0), (10, .bool false), (36, .agg #[vI 0, vI 0, vI 0, .slice none 0 0, .slice none 0 0, .slice none 0 0]), (37, .agg #[vI 0, vI 0, vI 0, .slice none 0 0, .slice none 0 0, .slice none 0 0])])) (by kernel_rfl) ?_
  refine rCall (v := .bool true) (args := [.agg #[vI 0, vI 0, vI 0, .slice none 0 0, .slice none 0 0, .slice none 0 0], .agg #[vI 0, vI 0, vI 0, .slice none 0 0, .slice none 0 0, .slice none 0 0]]) (by kernel_rfl) rfl (by kernel_rfl) (Sound.lay0 [] (eqSh_N) trivial rfl trivial rfl (by first | rfl | simp [mpV, mpA, mpS, mpP, renId, shift]) rfl) ?_
  refine segEndH [1, 2, 6, 7, 8, 9, 10, 44] (T1 := (mkT 101 [(1, vI k), (2, vP 2 0), (6, vP 6 0), (7, .bool false), (8, vP 10 0), (9, vP 11 0), (10, .bool false), (44, .bool false)])) (by kernel_rfl) ?_
  refine kSeq ?_
  refine cFalse (by kernel_rfl) ?_
  refine cSkip ?_
  refine kSeq ?_
  refine cSeq ?_
  refine cSeq ?_
  refine cRegW (N := 15) [⟨[], [], [10]⟩, ⟨[], [], [2]⟩, ⟨[12, 13, 14], [], [0, 1]⟩, ⟨[], [], [7, 8, 9, 12, 13, 14]⟩, ⟨[], [], []⟩] 3 [12, 13, 14] (by rfl) (by rfl) (by kernel_rfl) (by kernel_rfl) (by kernel_rfl) ⟨nmsF (flatNums _ _ _ _), ⟨nmsF (flatNums _ _ _ _), ⟨nmsX (by kernel_rfl), ⟨nmsF (flatNums _ _ _ _), ⟨nmsF (flatNums _ _ _ _), ⟨nmsF (flatNums _ _ _ _), ⟨nmsX (by kernel_rfl), ⟨nmsF (flatNums _ _ _ _), ⟨nmsF (flatNums _ _ _ _), ⟨nmsF (flatNums _ _ _ _), ⟨nmsX (by kernel_rfl), ⟨nmsX (by kernel_rfl), trivial⟩⟩⟩⟩⟩⟩⟩⟩⟩⟩⟩⟩ ?_
  refine segWH 2 (T1 := (mkT 101 [(1, vI k), (2, vP 2 0), (6, vP 6 0), (7, .bool false), (8, vP 10 0), (9, vP 11 0), (10, .bool false), (44, .bool false), (45, .agg #[vI x, vI y, vI z, vS 7 0, vS 8 B.length, vS 9 C.length]), (46, .agg #[vI x, vI y, vI z, .slice none 0 0, vS 0 B.length, vS 1 C.length])])) (by kernel_rfl) ?_
  refine rW (m := ⟨[12, 13, 14], [], [0, 1]⟩) (v := .agg #[vI x, vI y, vI z, vS 12 0, vS 13 B.length, vS 14 C.length]) rfl (by kernel_rfl) (stN (i := 12) (E := [nW ([] : List Int), nW B, nW C]) (v1 := .agg #[vI x, vI y, vI z, vS 15 0, vS 16 B.length, vS 17 C.length]) (args := [.agg #[vI x, vI y, vI z, .slice none 0 0, vS 0 B.length, vS 1 C.length]]) rfl (by kernel_rfl) (Any.lay (E := [nW ([] : List Int), nW B, nW C]) (N := 15) [0, 1] (toSh_nss x y z B C (by first | omega | assumption) (by first | omega | assumption)) ⟨rdF false (flatNums _ _ _ _) rfl rfl, ⟨rdF false (flatNums _ _ _ _) rfl rfl, trivial⟩⟩ rfl ⟨clF (flatNums _ _ _ _), ⟨clF (flatNums _ _ _ _), trivial⟩⟩ rfl (by first | rfl | simp [mpV, mpA, mpS, mpP, renId, shift]) (by first | rfl | simp [mpV, mpA, mpS, mpP, renId, shift]) ⟨enF (flatNums _ _ _ _) (Or.inl rfl), ⟨enF (flatNums _ _ _ _) (Or.inl rfl), ⟨enF (flatNums _ _ _ _) (Or.inl rfl), trivial⟩⟩⟩) rfl (by kernel_rfl) (by kernel_rfl) (by kernel_rfl) (by kernel_rfl) (FlatH.cons (flatNums _ _ _ _) (FlatH.cons (flatNums _ _ _ _) (FlatH.cons (flatNums _ _ _ _) FlatH.nil)))) (by kernel_rfl) (NRs.all ⟨nrOf (by rfl) (nmF (flatNums _ _ _ _)), ⟨nrOf (by rfl) (nmF (flatNums _ _ _ _)), ⟨nrOf (by rfl) (nmF (flatNums _ _ _ _)), trivial⟩⟩⟩) ?_
  refine rW (m := ⟨[], [], [7, 8, 9, 12, 13, 14]⟩) (v := .bool true) rfl (by kernel_rfl) (stQ (args := [.agg #[vI x, vI y, vI z, vS 7 0, vS 8 B.length, vS 9 C.length], .agg #[vI x, vI y, vI z, vS 12 0, vS 13 B.length, vS 14 C.length]]) rfl (by kernel_rfl) (Any.lay0 [7, 8, 9, 12, 13, 14] (eqSh x y z ([] : List Int) B C (by first | omega | assumption | (simp; done)) (by first | omega | assumption | (simp; done)) (by first | omega | assumption | (simp; done))) ⟨rdF true (flatNums _ _ _ _) rfl rfl, ⟨rdF true (flatNums _ _ _ _) rfl rfl, ⟨rdF true (flatNums _ _ _ _) rfl rfl, ⟨rdF true (flatNums _ _ _ _) rfl rfl, ⟨rdF true (flatNums _ _ _ _) rfl rfl, ⟨rdF true (flatNums _ _ _ _) rfl rfl, trivial⟩⟩⟩⟩⟩⟩ rfl ⟨clF (flatNums _ _ _ _), ⟨clF (flatNums _ _ _ _), ⟨clF (flatNums _ _ _ _), ⟨clF (flatNums _ _ _ _), ⟨clF (flatNums _ _ _ _), ⟨clF (flatNums _ _ _ _), trivial⟩⟩⟩⟩⟩⟩ rfl (by first | rfl | simp [mpV, mpA, mpS, mpP, renId, shift]) rfl) rfl (by kernel_rfl) (by kernel_rfl)) (by kernel_rfl) nr0 ?_
  refine segEndW [1, 2, 6, 7, 8, 9, 10, 49] (T1 := (mkT 101 [(1, vI k), (2, vP 2 0), (6, vP 6 0), (7, .bool false), (8, vP 10 0), (9, vP 11 0), (10, .bool false), (49, .bool false)])) (H1 := [nR B, nR C, rB [vI x, vI y, vI z, .slice none 0 0, vS 0 B.length, vS 1 C.length] 24, nW ([] : List Int), nW B, nW C, rB [vI 0, vI 0, vI 0, .slice none 0 0, .slice none 0 0, .slice none 0 0] 27, nW ([] : List Int), nW B, nW C, rB [vI x, vI y, vI z, vS 7 0, vS 8 B.length, vS 9 C.length] 27, rB [vI 0, vI 0, vI 0, .slice none 0 0, .slice none 0 0, .slice none 0 0] 27, nW ([] : List Int), nW B, nW C]) (by kernel_rfl) ?_
  refine kSeq ?_
  refine cFalse (by kernel_rfl) ?_
  refine cSkip ?_
  refine kSeq ?_
  refine cSeq ?_
  refine cReg ?_
  refine segEndH [1, 2, 6, 7, 8, 9, 10, 11] (T1 := (mkT 101 [(1, vI k), (2, vP 2 0), (6, vP 6 0), (7, .bool false), (8, vP 10 0), (9, vP 11 0), (10, .bool false), (11, vI 1)])) (by kernel_rfl) ?_
  refine kSeq ?_
  refine cSeq ?_
  refine cReg ?_
  refine segH 2 (T1 := (mkT 101 [(1, vI k), (2, vP 2 0), (6, vP 6 0), (7, .bool false), (8, vP 10 0), (9, vP 11 0), (10, .bool false), (11, vI 1), (50, .agg #[vI x, vI y, vI z, vS 7 0, vS 8 B.length, vS 9 C.length]), (51, vI 1)])) (by kernel_rfl) ?_
  refine rCall (v := vN (1 + ([] : List Int).length + B.length + C.length)) (args := [.agg #[vI x, vI y, vI z, vS 7 0, vS 8 B.length, vS 9 C.length], vI 1]) (by kernel_rfl) rfl (by kernel_rfl) (Sound.emb_set3 (r0 := ⟨nums ([] : List Int), 3, false, true⟩) (r1 := ⟨nums B, 3, false, true⟩) (r2 := ⟨nums C, 3, false, true⟩) (q0 := ⟨nums (mkI 1 ([] : List Int).length), 3, false, true⟩) (q1 := ⟨nums (mkI (1 + ([] : List Int).length) B.length), 3, false, true⟩) (q2 := ⟨nums (mkI (1 + ([] : List Int).length + B.length) C.length), 3, false, true⟩) 7 8 9 (markSh x y z ([] : List Int) B C 1 (by first | omega | assumption | (simp; done)) (by first | omega | assumption | (simp; done)) (by first | omega | assumption | (simp; done)) (by first | assumption | omega | rfl | decide | exact HeapL.list _ _ _ _ | exact HeapL.nil _ _ _ | exact HeapL.all _ _ _ | (apply HeapL.lt64 <;> assumption) | (repeat' (first | assumption | apply or_lt64 | apply and_lt64 | apply andn_lt64 | apply pow_lt64 | (apply HeapL.lt64 <;> assumption))))) ⟨⟨(flatNums _ _ _ _), rfl⟩, ⟨(flatNums _ _ _ _), rfl⟩, ⟨(flatNums _ _ _ _), rfl⟩⟩ ⟨⟨(flatNums _ _ _ _), rfl⟩, ⟨(flatNums _ _ _ _), rfl⟩, ⟨(flatNums _ _ _ _), rfl⟩⟩ rfl rfl rfl rfl rfl (by first | rfl | simp [mpV, mpA, mpS, mpP, renId, shift]) rfl) ?_
  refine segEnd [1, 2, 6, 7, 9, 10, 11] (T1 := (mkT 101 [(1, vI k), (2, vP 2 0), (6, vP 6 0), (7, .bool false), (9, vP 11 0), (10, .bool false), (11, vN (1 + ([] : List Int).length + B.length + C.length))])) (H1 := [nR B, nR C, rB [vI x, vI y, vI z, .slice none 0 0, vS 0 B.length, vS 1 C.length] 24, nW ([] : List Int), nW B, nW C, rB [vI 0, vI 0, vI 0, .slice none 0 0, .slice none 0 0, .slice none 0 0] 27, nW (mkI 1 ([] : List Int).length), nW (mkI (1 + ([] : List Int).length) B.length), nW (mkI (1 + ([] : List Int).length + B.length) C.length), rB [vI x, vI y, vI z, vS 7 0, vS 8 B.length, vS 9 C.length] 27, rB [vI 0, vI 0, vI 0, .slice none 0 0, .slice none 0 0, .slice none 0 0] 27, nW ([] : List Int), nW B, nW C]) (by kernel_rfl) ?_
  refine kSeq ?_
  refine cSeq ?_
  refine cSeq ?_
  refine cReg ?_
  refine segH 3 (T1 := (mkT 101 [(1, vI k), (2, vP 2 0), (6, vP 6 0), (7, .bool false), (9, vP 11 0), (10, .bool false), (11, vN (1 + ([] : List Int).length + B.length + C.length)), (53, vN (1 + ([] : List Int).length + B.length + C.length)), (54, .bool (decide (((1 + ([] : List Int).length + B.length + C.length : Nat) : Int) < 0))), (55, .bool (decide (((1 + ([] : List Int).length + B.length + C.length : Nat) : Int) < 0)))])) (by kernel_rfl) ?_
  cases h2 : (decide (((1 + ([] : List Int).length + B.length + C.length : Nat) : Int) < 0) : Bool)
  ·
   (try simp only [bs0, bs1, bs2, bs3, beq_iff_eq, bne_iff_ne, beq_eq_false_iff_ne, bne_eq_false_iff_eq, ne_eq, bs4, bs5, bs6, bs7, bs8, bs9, bs10, bs11, ge_iff_le, gt_iff_lt] at h2)
   refine seg 2 (T1 := (mkT 101 [(1, vI k), (2, vP 2 0), (6, vP 6 0), (7, .bool false), (9, vP 11 0), (10, .bool false), (11, vN (1 + ([] : List Int).length + B.length + C.length)), (53, vN (1 + ([] : List Int).length + B.length + C.length)), (54, .bool false), (55, .bool false), (56, .agg #[vI 0, vI 0, vI 0, .slice none 0 0, .slice none 0 0, .slice none 0 0]), (57, .agg #[vI 0, vI 0, vI 0, .slice none 0 0, .slice none 0 0, .slice none 0 0])])) (H1 := [nR B, nR C, rB [vI x, vI y, vI z, .slice none 0 0, vS 0 B.length, vS 1 C.length] 24, nW ([] : List Int), nW B, nW C, rB [vI 0, vI 0, vI 0, .slice none 0 0, .slice none 0 0, .slice none 0 0] 27, nW (mkI 1 ([] : List Int).length), nW (mkI (1 + ([] : List Int).length) B.length), nW (mkI (1 + ([] : List Int).length + B.length) C.length), rB [vI x, vI y, vI z, vS 7 0, vS 8 B.length, vS 9 C.length] 27, rB [vI 0, vI 0, vI 0, .slice none 0 0, .slice none 0 0, .slice none 0 0] 27, nW ([] : List Int), nW B, nW C]) (by kernel_rfl) ?_
   refine rCall (v := .bool true) (args := [.agg #[vI 0, vI 0, vI 0, .slice none 0 0, .slice none 0 0, .slice none 0 0], .agg #[vI 0, vI 0, vI 0, .slice none 0 0, .slice none 0 0, .slice none 0 0]]) (by kernel_rfl) rfl (by kernel_rfl) (Sound.lay0 [] (eqSh_N) trivial rfl trivial rfl (by first | rfl | simp [mpV, mpA, mpS, mpP, renId, shift]) rfl) ?_
   refine segEnd [1, 2, 6, 7, 9, 65] (T1 := (mkT 101 [(1, vI k), (2, vP 2 0), (6, vP 6 0), (7, .bool false), (9, vP 11 0), (65, .bool false)])) (H1 := [nR B, nR C, rB [vI x, vI y, vI z, .slice none 0 0, vS 0 B.length, vS 1 C.length] 24, nW ([] : List Int), nW B, nW C, rB [vI 0, vI 0, vI 0, .slice none 0 0, .slice none 0 0, .slice none 0 0] 27, nW (mkI 1 ([] : List Int).length), nW (mkI (1 + ([] : List Int).length) B.length), nW (mkI (1 + ([] : List Int).length + B.length) C.length), rB [vI x, vI y, vI z, vS 7 0, vS 8 B.length, vS 9 C.length] 27, rB [vI 0, vI 0, vI 0, .slice none 0 0, .slice none 0 0, .slice none 0 0] 27, nW ([] : List Int), nW B, nW C]) (by kernel_rfl) ?_
   refine kSeq ?_
   refine cFalse (by kernel_rfl) ?_
   refine cSkip ?_
   refine kSeq ?_
   refine cSeq ?_
   refine cReg ?_
   refine segEndH [1, 2, 6, 7, 9, 12] (T1 := (mkT 101 [(1, vI k), (2, vP 2 0), (6, vP 6 0), (7, .bool false), (9, vP 11 0), (12, vI 1)])) (by kernel_rfl) ?_
   refine kSeq ?_
   refine cSeq ?_
   refine cReg ?_
   refine segH 2 (T1 := (mkT 101 [(1, vI k), (2, vP 2 0), (6, vP 6 0), (7, .bool false), (9, vP 11 0), (12, vI 1), (66, .agg #[vI 0, vI 0, vI 0, .slice none 0 0, .slice none 0 0, .slice none 0 0]), (67, vI 1)])) (by kernel_rfl) ?_
   refine rCall (v := vI 1) (args := [.agg #[vI 0, vI 0, vI 0, .slice none 0 0, .slice none 0 0, .slice none 0 0], vI 1]) (by kernel_rfl) rfl (by kernel_rfl) (Sound.lay0 [] (markSh_N 1 (by first | assumption | omega | rfl | decide | exact HeapL.list _ _ _ _ | exact HeapL.nil _ _ _ | exact HeapL.all _ _ _ | (apply HeapL.lt64 <;> assumption) | (repeat' (first | assumption | apply or_lt64 | apply and_lt64 | apply andn_lt64 | apply pow_lt64 | (apply HeapL.lt64 <;> assumption))))) trivial rfl trivial rfl (by first | rfl | simp [mpV, mpA, mpS, mpP, renId, shift]) rfl) ?_
   refine segEndH [1, 2, 6, 7, 9, 12] (T1 := (mkT 101 [(1, vI k), (2, vP 2 0), (6, vP 6 0), (7, .bool false), (9, vP 11 0), (12, vI 1)])) (by kernel_rfl) ?_
   refine kSeq ?_
   refine cSeq ?_
   refine cReg ?_
   refine segEndH [1, 2, 6, 7, 9, 12, 13] (T1 := (mkT 101 [(1, vI k), (2, vP 2 0), (6, vP 6 0), (7, .bool false), (9, vP 11 0), (12, vI 1), (13, vI 1)])) (by kernel_rfl) ?_
   refine kSeq ?_
   refine cSeq ?_
   refine cReg ?_
   refine segH 2 (T1 := (mkT 101 [(1, vI k), (2, vP 2 0), (6, vP 6 0), (7, .bool false), (9, vP 11 0), (12, vI 1), (13, vI 1), (69, .agg #[vI 0, vI 0, vI 0, .slice none 0 0, .slice none 0 0, .slice none 0 0]), (70, vI 1)])) (by kernel_rfl) ?_
   refine rCall (v := vI 1) (args := [.agg #[vI 0, vI 0, vI 0, .slice none 0 0, .slice none 0 0, .slice none 0 0], vI 1]) (by kernel_rfl) rfl (by kernel_rfl) (Sound.lay0 [] (heldSh_N 1 (by first | assumption | omega | rfl | decide | exact HeapL.list _ _ _ _ | exact HeapL.nil _ _ _ | exact HeapL.all _ _ _ | (apply HeapL.lt64 <;> assumption) | (repeat' (first | assumption | apply or_lt64 | apply and_lt64 | apply andn_lt64 | apply pow_lt64 | (apply HeapL.lt64 <;> assumption))))) trivial rfl trivial rfl (by first | rfl | simp [mpV, mpA, mpS, mpP, renId, shift]) rfl) ?_
   refine segEndH [1, 2, 6, 7, 9, 12, 13] (T1 := (mkT 101 [(1, vI k), (2, vP 2 0), (6, vP 6 0), (7, .bool false), (9, vP 11 0), (12, vI 1), (13, vI 1)])) (by kernel_rfl) ?_
   refine kSeq ?_
   refine cSeq ?_
   refine cSeq ?_
   refine cReg ?_
   refine segEndH [1, 2, 6, 7, 9, 12, 13, 73] (T1 := (mkT 101 [(1, vI k), (2, vP 2 0), (6, vP 6 0), (7, .bool false), (9, vP 11 0), (12, vI 1), (13, vI 1), (73, .bool false)])) (by kernel_rfl) ?_
   refine kSeq ?_
   refine cFalse (by kernel_rfl) ?_
   refine cSkip ?_
   refine kSeq ?_
   refine cSeq ?_
   refine cSeq ?_
   refine cReg ?_
   refine segEndH [1, 2, 6, 7, 9, 12, 76] (T1 := (mkT 101 [(1, vI k), (2, vP 2 0), (6, vP 6 0), (7, .bool false), (9, vP 11 0), (12, vI 1), (76, .bool false)])) (by kernel_rfl) ?_
   refine kSeq ?_
   refine cFalse (by kernel_rfl) ?_
   refine cSkip ?_
   refine kSeq ?_
   refine cSeq ?_
   refine cReg ?_
   refine segH 1 (T1 := (mkT 101 [(1, vI k), (2, vP 2 0), (6, vP 6 0), (7, .bool false), (9, vP 11 0), (12, vI 1), (76, .bool false), (78, .agg #[vI x, vI y, vI z, .slice none 0 0, vS 0 B.length, vS 1 C.length])])) (by kernel_rfl) ?_
   refine rCall (v := .agg #[vI x, vI y, vI z, vS 15 0, vS 16 B.length, vS 17 C.length]) (args := [.agg #[vI x, vI y, vI z, .slice none 0 0, vS 0 B.length, vS 1 C.length]]) (by kernel_rfl) rfl (by kernel_rfl) (Sound.lay (E := [nW ([] : List Int), nW B, nW C]) [0, 1] (toSh_nss x y z B C (by first | omega | assumption) (by first | omega | assumption)) ⟨rdF false (flatNums _ _ _ _) rfl rfl, ⟨rdF false (flatNums _ _ _ _) rfl rfl, trivial⟩⟩ rfl ⟨clF (flatNums _ _ _ _), ⟨clF (flatNums _ _ _ _), trivial⟩⟩ rfl (by first | rfl | simp [mpV, mpA, mpS, mpP, renId, shift]) (by first | rfl | simp [mpV, mpA, mpS, mpP, renId, shift]) ⟨enF (flatNums _ _ _ _) (Or.inl rfl), ⟨enF (flatNums _ _ _ _) (Or.inl rfl), ⟨enF (flatNums _ _ _ _) (Or.inl rfl), trivial⟩⟩⟩) ?_
   refine seg 1 (T1 := (mkT 101 [(1, vI k), (2, vP 2 0), (6, vP 6 0), (7, .bool false), (9, vP 11 0), (12, vI 1), (76, .bool false), (78, .agg #[vI x, vI y, vI z, .slice none 0 0, vS 0 B.length, vS 1 C.length]), (79, .agg #[vI x, vI y, vI z, vS 15 0, vS 16 B.length, vS 17 C.length]), (80, vI k)])) (H1 := [nR B, nR C, rB [vI x, vI y, vI z, .slice none 0 0, vS 0 B.length, vS 1 C.length] 24, nW ([] : List Int), nW B, nW C, rB [vI 0, vI 0, vI 0, .slice none 0 0, .slice none 0 0, .slice none 0 0] 27, nW (mkI 1 ([] : List Int).length), nW (mkI (1 + ([] : List Int).length) B.length), nW (mkI (1 + ([] : List Int).length + B.length) C.length), rB [vI x, vI y, vI z, vS 7 0, vS 8 B.length, vS 9 C.length] 27, rB [vI 0, vI 0, vI 0, .slice none 0 0, .slice none 0 0, .slice none 0 0] 27, nW ([] : List Int), nW B, nW C, nW ([] : List Int), nW B, nW C]) (by kernel_rfl) ?_
   refine rCall (v := .tuple #[.agg #[vI 0, vI 0, vI 0, .slice none 0 0, .slice none 0 0, .slice none 0 0], .bool false]) (args := [.agg #[vI x, vI y, vI z, vS 15 0, vS 16 B.length, vS 17 C.length], vI k]) (by kernel_rfl) rfl (by kernel_rfl) (Sound.lay0 [15, 16, 17] (implMirrorShadow_bad x y z ([] : List Int) B C k (by first | assumption | omega | rfl | decide | exact HeapL.list _ _ _ _ | exact HeapL.nil _ _ _ | exact HeapL.all _ _ _ | (apply HeapL.lt64 <;> assumption) | (repeat' (first | assumption | apply or_lt64 | apply and_lt64 | apply andn_lt64 | apply pow_lt64 | (apply HeapL.lt64 <;> assumption)))) (by first | omega | assumption | (simp; done)) (by first | omega | assumption | (simp; done)) (by first | omega | assumption | (simp; done))) ⟨rdF true (flatNums _ _ _ _) rfl rfl, ⟨rdF true (flatNums _ _ _ _) rfl rfl, ⟨rdF true (flatNums _ _ _ _) rfl rfl, trivial⟩⟩⟩ rfl ⟨clF (flatNums _ _ _ _), ⟨clF (flatNums _ _ _ _), ⟨clF (flatNums _ _ _ _), trivial⟩⟩⟩ rfl (by first | rfl | simp [mpV, mpA, mpS, mpP, renId, shift]) (by first | rfl | simp [mpV, mpA, mpS, mpP, renId, shift])) ?_
   refine segEnd [6, 7, 9, 12, 14, 15] (T1 := (mkT 101 [(6, vP 6 0), (7, .bool false), (9, vP 11 0), (12, vI 1), (14, vP 18 0), (15, .bool false)])) (H1 := [nR B, nR C, rB [vI x, vI y, vI z, .slice none 0 0, vS 0 B.length, vS 1 C.length] 24, nW ([] : List Int), nW B, nW C, rB [vI 0, vI 0, vI 0, .slice none 0 0, .slice none 0 0, .slice none 0 0] 27, nW (mkI 1 ([] : List Int).length), nW (mkI (1 + ([] : List Int).length) B.length), nW (mkI (1 + ([] : List Int).length + B.length) C.length), rB [vI x, vI y, vI z, vS 7 0, vS 8 B.length, vS 9 C.length] 27, rB [vI 0, vI 0, vI 0, .slice none 0 0, .slice none 0 0, .slice none 0 0] 27, nW ([] : List Int), nW B, nW C, nW ([] : List Int), nW B, nW C, rB [vI 0, vI 0, vI 0, .slice none 0 0, .slice none 0 0, .slice none 0 0] 27]) (by kernel_rfl) ?_
   refine kSeq ?_
   refine cSeq ?_
   refine cSeq ?_
   refine cReg ?_
   refine segH 2 (T1 := (mkT 101 [(6, vP 6 0), (7, .bool false), (9, vP 11 0), (12, vI 1), (14, vP 18 0), (15, .bool false), (84, .agg #[vI 0, vI 0, vI 0, .slice none 0 0, .slice none 0 0, .slice none 0 0]), (85, .agg #[vI 0, vI 0, vI 0, .slice none 0 0, .slice none 0 0, .slice none 0 0])])) (by kernel_rfl) ?_
   refine rCall (v := .bool true) (args := [.agg #[vI 0, vI 0, vI 0, .slice none 0 0, .slice none 0 0, .slice none 0 0], .agg #[vI 0, vI 0, vI 0, .slice none 0 0, .slice none 0 0, .slice none 0 0]]) (by kernel_rfl) rfl (by kernel_rfl) (Sound.lay0 [] (eqSh_N) trivial rfl trivial rfl (by first | rfl | simp [mpV, mpA, mpS, mpP, renId, shift]) rfl) ?_
   refine segEndH [9, 12, 92] (T1 := (mkT 101 [(9, vP 11 0), (12, vI 1), (92, .bool false)])) (by kernel_rfl) ?_
   refine kSeq ?_
   refine cFalse (by kernel_rfl) ?_
   refine cSkip ?_
   refine kSeq ?_
   refine cSeq ?_
   refine cReg ?_
   refine segEndH [9, 12, 13] (T1 := (mkT 101 [(9, vP 11 0), (12, vI 1), (13, vI 1)])) (by kernel_rfl) ?_
   refine kSeq ?_
   refine cSeq ?_
   refine cReg ?_
   refine segH 2 (T1 := (mkT 101 [(9, vP 11 0), (12, vI 1), (13, vI 1), (93, .agg #[vI 0, vI 0, vI 0, .slice none 0 0, .slice none 0 0, .slice none 0 0]), (94, vI 1)])) (by kernel_rfl) ?_
   refine rCall (v := vI 1) (args := [.agg #[vI 0, vI 0, vI 0, .slice none 0 0, .slice none 0 0, .slice none 0 0], vI 1]) (by kernel_rfl) rfl (by kernel_rfl) (Sound.lay0 [] (heldSh_N 1 (by first | assumption | omega | rfl | decide | exact HeapL.list _ _ _ _ | exact HeapL.nil _ _ _ | exact HeapL.all _ _ _ | (apply HeapL.lt64 <;> assumption) | (repeat' (first | assumption | apply or_lt64 | apply and_lt64 | apply andn_lt64 | apply pow_lt64 | (apply HeapL.lt64 <;> assumption))))) trivial rfl trivial rfl (by first | rfl | simp [mpV, mpA, mpS, mpP, renId, shift]) rfl) ?_
   refine segEndH [12, 13] (T1 := (mkT 101 [(12, vI 1), (13, vI 1)])) (by kernel_rfl) ?_
   refine kSeq ?_
   refine cSeq ?_
   refine cSeq ?_
   refine cReg ?_
   refine segEndH [12, 13, 97] (T1 := (mkT 101 [(12, vI 1), (13, vI 1), (97, .bool false)])) (by kernel_rfl) ?_
   refine kSeq ?_
   refine cFalse (by kernel_rfl) ?_
   refine cSkip ?_
   refine kSeq ?_
   refine cSeq ?_
   refine cSeq ?_
   refine cReg ?_
   refine segEndH [100] (T1 := (mkT 101 [(100, .bool false)])) (by kernel_rfl) ?_
   refine kSeq ?_
   refine cFalse (by kernel_rfl) ?_
   refine cSkip ?_
   refine kSeq ?_
   refine cSeq ?_
   refine cReg ?_
   refine segEndH [4] (T1 := (mkT 101 [(4, .bool true)])) (by kernel_rfl) ?_
   refine kSeq ?_
   refine cRet ?_
   exact endQ (Or.inr rfl) (l := [.bool true]) [rB [vI x, vI y, vI z, .slice none 0 0, vS 0 B.length, vS 1 C.length] 24, nW ([] : List Int), nW B, nW C, rB [vI 0, vI 0, vI 0, .slice none 0 0, .slice none 0 0, .slice none 0 0] 27, nW (mkI 1 ([] : List Int).length), nW (mkI (1 + ([] : List Int).length) B.length), nW (mkI (1 + ([] : List Int).length + B.length) C.length), rB [vI x, vI y, vI z, vS 7 0, vS 8 B.length, vS 9 C.length] 27, rB [vI 0, vI 0, vI 0, .slice none 0 0, .slice none 0 0, .slice none 0 0] 27, nW ([] : List Int), nW B, nW C, nW ([] : List Int), nW B, nW C, rB [vI 0, vI 0, vI 0, .slice none 0 0, .slice none 0 0, .slice none 0 0] 27] (by kernel_rfl) (by first | rfl | kernel_rfl) rfl rfl hcl rfl
  ·
   (try simp only [bs0, bs1, bs2, bs3, beq_iff_eq, bne_iff_ne, beq_eq_false_iff_ne, bne_eq_false_iff_eq, ne_eq, bs4, bs5, bs6, bs7, bs8, bs9, bs10, bs11, ge_iff_le, gt_iff_lt] at h2)
   exfalso; omega
 ·
  (try simp only [bs0, bs1, bs2, bs3, beq_iff_eq, bne_iff_ne, beq_eq_false_iff_ne, bne_eq_false_iff_eq, ne_eq, bs4, bs5, bs6, bs7, bs8, bs9, bs10, bs11, ge_iff_le, gt_iff_lt] at h1)
  exfalso; omega
end Go.Proofs.Ytbheeobnghlckaa
