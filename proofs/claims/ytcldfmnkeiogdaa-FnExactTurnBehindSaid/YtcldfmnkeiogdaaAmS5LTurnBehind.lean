import Derived.Test.YtcldfmnkeiogdaaAmC1
import Derived.Test.YtcldfmnkeiogdaaAmC2
import Derived.WalkKit
import Derived.ProofKit
import Derived.OpenShut
import Derived.ShutString
import Derived.ChangeOld
import Derived.Below
import Derived.SizedLaws
set_option linter.unusedVariables false
set_option linter.unusedSimpArgs false
namespace Go.Proofs.Ytcldfmnkeiogdaa
open Go.Am Go.RowKit
set_option maxRecDepth 100000 in
set_option maxHeartbeats 4000000 in
theorem within5 (n : Int) (lo : Int) (hi : Int)  : Sound Try.prog 61 [vI n, vI lo, vI hi] [] (.bool (inR n lo hi)) [] := by
 refine sound_intro (C := cx) Try.func61 rfl (by kernel_rfl) fun hcl => ?_
 refine cSeq ?_
 refine cReg ?_
 refine segEndH [0, 1, 2] (T1 := (mkT 15 [(0, vI n), (1, vI lo), (2, vI hi)])) (by kernel_rfl) ?_
 refine kSeq ?_
 refine cSeq ?_
 refine cReg ?_
 refine segH 4 (T1 := (mkT 15 [(0, vI n), (1, vI lo), (2, vI hi), (7, vI n), (8, vI lo), (9, .bool (decide (n ≥ lo))), (10, .bool (decide (n ≥ lo)))])) (by kernel_rfl) ?_
 cases h1 : (decide (n ≥ lo) : Bool)
 ·
  have h1k := h1
  (try simp only [bs0, bs1, bs2, bs3, beq_iff_eq, bne_iff_ne, beq_eq_false_iff_ne, bne_eq_false_iff_eq, ne_eq, bs4, bs5, bs6, bs7, bs8, bs9, bs10, bs11, ge_iff_le, gt_iff_lt] at h1)
  refine segEndH [6] (T1 := (mkT 15 [(6, .bool false)])) (by kernel_rfl) ?_
  refine kSeq ?_
  refine cRet ?_
  have he0 : (false : Bool) = inR n lo hi := by first | (simp only [inR, *]; rfl) | (simp_all [inR]; done)
  refine endCast (v1 := .bool false) (H1 := []) (by first | rfl | ((try rw [← he0]); done) | (simp only [← he0]; done)) (by first | rfl | ((try rw [← he0]); done) | (simp only [← he0]; done)) ?_
  exact endQ (Or.inr rfl) (l := [.bool false]) [] (by kernel_rfl) (by first | rfl | kernel_rfl) rfl rfl hcl rfl
 ·
  have h1k := h1
  (try simp only [bs0, bs1, bs2, bs3, beq_iff_eq, bne_iff_ne, beq_eq_false_iff_ne, bne_eq_false_iff_eq, ne_eq, bs4, bs5, bs6, bs7, bs8, bs9, bs10, bs11, ge_iff_le, gt_iff_lt] at h1)
  refine segEndH [6] (T1 := (mkT 15 [(6, .bool (decide (n ≤ hi)))])) (by kernel_rfl) ?_
  refine kSeq ?_
  refine cRet ?_
  have he0 : (decide (n ≤ hi) : Bool) = inR n lo hi := by first | (simp only [inR, *]; rfl) | (simp_all [inR]; done)
  refine endCast (v1 := .bool (decide (n ≤ hi))) (H1 := []) (by first | rfl | ((try rw [← he0]); done) | (simp only [← he0]; done)) (by first | rfl | ((try rw [← he0]); done) | (simp only [← he0]; done)) ?_
  exact endQ (Or.inr rfl) (l := [.bool (decide (n ≤ hi))]) [] (by kernel_rfl) (by first | rfl | kernel_rfl) rfl rfl hcl rfl
set_option maxRecDepth 100000 in
set_option maxHeartbeats 4000000 in
theorem l1In5 (n : Int) (lo : Int) (hi : Int)  : Sound Try.prog 59 [vI n, vI lo, vI hi] [] (.bool (inR n lo hi)) [] := by
 refine sound_intro (C := cx) Try.func59 rfl (by kernel_rfl) fun hcl => ?_
 refine cSeq ?_
 refine cReg ?_
 refine segEndH [0, 1, 2] (T1 := (mkT 15 [(0, vI n), (1, vI lo), (2, vI hi)])) (by kernel_rfl) ?_
 refine kSeq ?_
 refine cSeq ?_
 refine cReg ?_
 refine segH 4 (T1 := (mkT 15 [(0, vI n), (1, vI lo), (2, vI hi), (7, vI n), (8, vI lo), (9, .bool (decide (n ≥ lo))), (10, .bool (decide (n ≥ lo)))])) (by kernel_rfl) ?_
 cases h1 : (decide (n ≥ lo) : Bool)
 ·
  have h1k := h1
  (try simp only [bs0, bs1, bs2, bs3, beq_iff_eq, bne_iff_ne, beq_eq_false_iff_ne, bne_eq_false_iff_eq, ne_eq, bs4, bs5, bs6, bs7, bs8, bs9, bs10, bs11, ge_iff_le, gt_iff_lt] at h1)
  refine segEndH [6] (T1 := (mkT 15 [(6, .bool false)])) (by kernel_rfl) ?_
  refine kSeq ?_
  refine cRet ?_
  have he0 : (false : Bool) = inR n lo hi := by first | (simp only [inR, *]; rfl) | (simp_all [inR]; done)
  refine endCast (v1 := .bool false) (H1 := []) (by first | rfl | ((try rw [← he0]); done) | (simp only [← he0]; done)) (by first | rfl | ((try rw [← he0]); done) | (simp only [← he0]; done)) ?_
  exact endQ (Or.inr rfl) (l := [.bool false]) [] (by kernel_rfl) (by first | rfl | kernel_rfl) rfl rfl hcl rfl
 ·
  have h1k := h1
  (try simp only [bs0, bs1, bs2, bs3, beq_iff_eq, bne_iff_ne, beq_eq_false_iff_ne, bne_eq_false_iff_eq, ne_eq, bs4, bs5, bs6, bs7, bs8, bs9, bs10, bs11, ge_iff_le, gt_iff_lt] at h1)
  refine segEndH [6] (T1 := (mkT 15 [(6, .bool (decide (n ≤ hi)))])) (by kernel_rfl) ?_
  refine kSeq ?_
  refine cRet ?_
  have he0 : (decide (n ≤ hi) : Bool) = inR n lo hi := by first | (simp only [inR, *]; rfl) | (simp_all [inR]; done)
  refine endCast (v1 := .bool (decide (n ≤ hi))) (H1 := []) (by first | rfl | ((try rw [← he0]); done) | (simp only [← he0]; done)) (by first | rfl | ((try rw [← he0]); done) | (simp only [← he0]; done)) ?_
  exact endQ (Or.inr rfl) (l := [.bool (decide (n ≤ hi))]) [] (by kernel_rfl) (by first | rfl | kernel_rfl) rfl rfl hcl rfl
set_option maxRecDepth 100000 in
set_option maxHeartbeats 4000000 in
theorem isTurn5 (k : Int)  : Sound Try.prog 40 [vI k] [] (.bool (inR k 0 23)) [] := by
 refine sound_intro (C := cx) Try.func40 rfl (by kernel_rfl) fun hcl => ?_
 refine cSeq ?_
 refine cReg ?_
 refine segEndH [0] (T1 := (mkT 5 [(0, vI k)])) (by kernel_rfl) ?_
 refine kSeq ?_
 refine cSeq ?_
 refine cReg ?_
 refine segH 1 (T1 := (mkT 5 [(0, vI k), (3, vI k)])) (by kernel_rfl) ?_
 refine rCall (v := .bool (inR k 0 23)) (args := [vI k, vI 0, vI 23]) (by kernel_rfl) rfl (by kernel_rfl) (Sound.lay0 [] (within5 k 0 23) trivial rfl trivial rfl (by first | rfl | simp [mpV, mpA, mpS, mpP, renId, shift]) rfl) ?_
 refine segEndH [2] (T1 := (mkT 5 [(2, .bool (inR k 0 23))])) (by kernel_rfl) ?_
 refine kSeq ?_
 refine cRet ?_
 exact endQ (Or.inr rfl) (l := [.bool (inR k 0 23)]) [] (by kernel_rfl) (by first | rfl | kernel_rfl) rfl rfl hcl rfl
set_option maxRecDepth 100000 in
set_option maxHeartbeats 4000000 in
theorem l8Number5 (k : Int)  : Sound Try.prog 37 [vI k] [] (.bool (inR k 0 23)) [] := by
 refine sound_intro (C := cx) Try.func37 rfl (by kernel_rfl) fun hcl => ?_
 refine cSeq ?_
 refine cReg ?_
 refine segEndH [0] (T1 := (mkT 5 [(0, vI k)])) (by kernel_rfl) ?_
 refine kSeq ?_
 refine cSeq ?_
 refine cReg ?_
 refine segH 1 (T1 := (mkT 5 [(0, vI k), (3, vI k)])) (by kernel_rfl) ?_
 refine rCall (v := .bool (inR k 0 23)) (args := [vI k, vI 0, vI 23]) (by kernel_rfl) rfl (by kernel_rfl) (Sound.lay0 [] (l1In5 k 0 23) trivial rfl trivial rfl (by first | rfl | simp [mpV, mpA, mpS, mpP, renId, shift]) rfl) ?_
 refine segEndH [2] (T1 := (mkT 5 [(2, .bool (inR k 0 23))])) (by kernel_rfl) ?_
 refine kSeq ?_
 refine cRet ?_
 exact endQ (Or.inr rfl) (l := [.bool (inR k 0 23)]) [] (by kernel_rfl) (by first | rfl | kernel_rfl) rfl rfl hcl rfl
set_option maxRecDepth 100000 in
set_option maxHeartbeats 4000000 in
theorem specTurnBehind_no1 (k : Int) (m : Int) (hk : inR k 0 23 = false) : Sound Try.prog 13 [vI k, vI m] [] (.tuple #[vI 0, .bool false]) [] := by
 refine sound_intro (C := cx) Try.func13 rfl (by kernel_rfl) fun hcl => ?_
 refine cSeq ?_
 refine cReg ?_
 refine segEndH [0, 1] (T1 := (mkT 26 [(0, vI k), (1, vI m)])) (by kernel_rfl) ?_
 refine kSeq ?_
 refine cSeq ?_
 refine cSeq ?_
 refine cReg ?_
 refine segH 1 (T1 := (mkT 26 [(0, vI k), (1, vI m), (7, vI k)])) (by kernel_rfl) ?_
 refine rCall (v := .bool (inR k 0 23)) (args := [vI k]) (by kernel_rfl) rfl (by kernel_rfl) (Sound.lay0 [] (l8Number5 k) trivial rfl trivial rfl (by first | rfl | simp [mpV, mpA, mpS, mpP, renId, shift]) rfl) ?_
 refine segH 2 (T1 := (mkT 26 [(0, vI k), (1, vI m), (7, vI k), (8, .bool (inR k 0 23)), (9, .bool (!(inR k 0 23))), (10, .bool (!(inR k 0 23)))])) (by kernel_rfl) ?_
 cases h1 : (inR k 0 23 : Bool)
 ·
  have h1k := h1
  (try simp only [bs0, bs1, bs2, bs3, beq_iff_eq, bne_iff_ne, beq_eq_false_iff_ne, bne_eq_false_iff_eq, ne_eq, bs4, bs5, bs6, bs7, bs8, bs9, bs10, bs11, ge_iff_le, gt_iff_lt] at h1)
  refine segEndH [0, 1, 14] (T1 := (mkT 26 [(0, vI k), (1, vI m), (14, .bool true)])) (by kernel_rfl) ?_
  refine kSeq ?_
  refine cTrue (by kernel_rfl) ?_
  refine cSeq ?_
  refine cReg ?_
  refine segEndH [4, 5] (T1 := (mkT 26 [(4, vI 0), (5, .bool false)])) (by kernel_rfl) ?_
  refine kSeq ?_
  refine cRet ?_
  refine kSeqR ?_
  exact endQ (Or.inr rfl) (l := [vI 0, .bool false]) [] (by kernel_rfl) (by first | rfl | kernel_rfl) rfl rfl hcl rfl
 ·
  have h1k := h1
  (try simp only [bs0, bs1, bs2, bs3, beq_iff_eq, bne_iff_ne, beq_eq_false_iff_ne, bne_eq_false_iff_eq, ne_eq, bs4, bs5, bs6, bs7, bs8, bs9, bs10, bs11, ge_iff_le, gt_iff_lt] at h1)
  exfalso; simp_all
set_option maxRecDepth 100000 in
set_option maxHeartbeats 4000000 in
theorem specTurnBehind_no2 (k : Int) (m : Int) (hk : inR k 0 23 = true) (hm : inR m 0 23 = false) : Sound Try.prog 13 [vI k, vI m] [] (.tuple #[vI 0, .bool false]) [] := by
 refine sound_intro (C := cx) Try.func13 rfl (by kernel_rfl) fun hcl => ?_
 refine cSeq ?_
 refine cReg ?_
 refine segEndH [0, 1] (T1 := (mkT 26 [(0, vI k), (1, vI m)])) (by kernel_rfl) ?_
 refine kSeq ?_
 refine cSeq ?_
 refine cSeq ?_
 refine cReg ?_
 refine segH 1 (T1 := (mkT 26 [(0, vI k), (1, vI m), (7, vI k)])) (by kernel_rfl) ?_
 refine rCall (v := .bool (inR k 0 23)) (args := [vI k]) (by kernel_rfl) rfl (by kernel_rfl) (Sound.lay0 [] (l8Number5 k) trivial rfl trivial rfl (by first | rfl | simp [mpV, mpA, mpS, mpP, renId, shift]) rfl) ?_
 refine segH 2 (T1 := (mkT 26 [(0, vI k), (1, vI m), (7, vI k), (8, .bool (inR k 0 23)), (9, .bool (!(inR k 0 23))), (10, .bool (!(inR k 0 23)))])) (by kernel_rfl) ?_
 cases h1 : (inR k 0 23 : Bool)
 ·
  have h1k := h1
  (try simp only [bs0, bs1, bs2, bs3, beq_iff_eq, bne_iff_ne, beq_eq_false_iff_ne, bne_eq_false_iff_eq, ne_eq, bs4, bs5, bs6, bs7, bs8, bs9, bs10, bs11, ge_iff_le, gt_iff_lt] at h1)
  exfalso; simp_all
 ·
  have h1k := h1
  (try simp only [bs0, bs1, bs2, bs3, beq_iff_eq, bne_iff_ne, beq_eq_false_iff_ne, bne_eq_false_iff_eq, ne_eq, bs4, bs5, bs6, bs7, bs8, bs9, bs10, bs11, ge_iff_le, gt_iff_lt] at h1)
  refine segH 1 (T1 := (mkT 26 [(0, vI k), (1, vI m), (7, vI k), (8, .bool true), (9, .bool false), (10, .bool false), (11, vI m)])) (by kernel_rfl) ?_
  refine rCall (v := .bool (inR m 0 23)) (args := [vI m]) (by kernel_rfl) rfl (by kernel_rfl) (Sound.lay0 [] (l8Number5 m) trivial rfl trivial rfl (by first | rfl | simp [mpV, mpA, mpS, mpP, renId, shift]) rfl) ?_
  refine segEndH [0, 1, 14] (T1 := (mkT 26 [(0, vI k), (1, vI m), (14, .bool (!(inR m 0 23)))])) (by kernel_rfl) ?_
  refine kSeq ?_
  cases h2 : (inR m 0 23 : Bool)
  ·
   have h2k := h2
   (try simp only [bs0, bs1, bs2, bs3, beq_iff_eq, bne_iff_ne, beq_eq_false_iff_ne, bne_eq_false_iff_eq, ne_eq, bs4, bs5, bs6, bs7, bs8, bs9, bs10, bs11, ge_iff_le, gt_iff_lt] at h2)
   refine cTrue (by kernel_rfl) ?_
   refine cSeq ?_
   refine cReg ?_
   refine segEndH [4, 5] (T1 := (mkT 26 [(4, vI 0), (5, .bool false)])) (by kernel_rfl) ?_
   refine kSeq ?_
   refine cRet ?_
   refine kSeqR ?_
   exact endQ (Or.inr rfl) (l := [vI 0, .bool false]) [] (by kernel_rfl) (by first | rfl | kernel_rfl) rfl rfl hcl rfl
  ·
   have h2k := h2
   (try simp only [bs0, bs1, bs2, bs3, beq_iff_eq, bne_iff_ne, beq_eq_false_iff_ne, bne_eq_false_iff_eq, ne_eq, bs4, bs5, bs6, bs7, bs8, bs9, bs10, bs11, ge_iff_le, gt_iff_lt] at h2)
   exfalso; simp_all
set_option maxRecDepth 100000 in
set_option maxHeartbeats 4000000 in
theorem implTurnBehind_no1 (k : Int) (m : Int) (hk : inR k 0 23 = false) : Sound Try.prog 14 [vI k, vI m] [] (.tuple #[vI 0, .bool false]) [] := by
 refine sound_intro (C := cx) Try.func14 rfl (by kernel_rfl) fun hcl => ?_
 refine cSeq ?_
 refine cReg ?_
 refine segEndH [0, 1] (T1 := (mkT 17 [(0, vI k), (1, vI m)])) (by kernel_rfl) ?_
 refine kSeq ?_
 refine cSeq ?_
 refine cSeq ?_
 refine cReg ?_
 refine segH 1 (T1 := (mkT 17 [(0, vI k), (1, vI m), (6, vI k)])) (by kernel_rfl) ?_
 refine rCall (v := .bool (inR k 0 23)) (args := [vI k]) (by kernel_rfl) rfl (by kernel_rfl) (Sound.lay0 [] (isTurn5 k) trivial rfl trivial rfl (by first | rfl | simp [mpV, mpA, mpS, mpP, renId, shift]) rfl) ?_
 refine segH 2 (T1 := (mkT 17 [(0, vI k), (1, vI m), (6, vI k), (7, .bool (inR k 0 23)), (8, .bool (!(inR k 0 23))), (9, .bool (!(inR k 0 23)))])) (by kernel_rfl) ?_
 cases h1 : (inR k 0 23 : Bool)
 ·
  have h1k := h1
  (try simp only [bs0, bs1, bs2, bs3, beq_iff_eq, bne_iff_ne, beq_eq_false_iff_ne, bne_eq_false_iff_eq, ne_eq, bs4, bs5, bs6, bs7, bs8, bs9, bs10, bs11, ge_iff_le, gt_iff_lt] at h1)
  refine segEndH [0, 1, 13] (T1 := (mkT 17 [(0, vI k), (1, vI m), (13, .bool true)])) (by kernel_rfl) ?_
  refine kSeq ?_
  refine cTrue (by kernel_rfl) ?_
  refine cSeq ?_
  refine cReg ?_
  refine segEndH [4, 5] (T1 := (mkT 17 [(4, vI 0), (5, .bool false)])) (by kernel_rfl) ?_
  refine kSeq ?_
  refine cRet ?_
  refine kSeqR ?_
  exact endQ (Or.inr rfl) (l := [vI 0, .bool false]) [] (by kernel_rfl) (by first | rfl | kernel_rfl) rfl rfl hcl rfl
 ·
  have h1k := h1
  (try simp only [bs0, bs1, bs2, bs3, beq_iff_eq, bne_iff_ne, beq_eq_false_iff_ne, bne_eq_false_iff_eq, ne_eq, bs4, bs5, bs6, bs7, bs8, bs9, bs10, bs11, ge_iff_le, gt_iff_lt] at h1)
  exfalso; simp_all
set_option maxRecDepth 100000 in
set_option maxHeartbeats 4000000 in
theorem implTurnBehind_no2 (k : Int) (m : Int) (hk : inR k 0 23 = true) (hm : inR m 0 23 = false) : Sound Try.prog 14 [vI k, vI m] [] (.tuple #[vI 0, .bool false]) [] := by
 refine sound_intro (C := cx) Try.func14 rfl (by kernel_rfl) fun hcl => ?_
 refine cSeq ?_
 refine cReg ?_
 refine segEndH [0, 1] (T1 := (mkT 17 [(0, vI k), (1, vI m)])) (by kernel_rfl) ?_
 refine kSeq ?_
 refine cSeq ?_
 refine cSeq ?_
 refine cReg ?_
 refine segH 1 (T1 := (mkT 17 [(0, vI k), (1, vI m), (6, vI k)])) (by kernel_rfl) ?_
 refine rCall (v := .bool (inR k 0 23)) (args := [vI k]) (by kernel_rfl) rfl (by kernel_rfl) (Sound.lay0 [] (isTurn5 k) trivial rfl trivial rfl (by first | rfl | simp [mpV, mpA, mpS, mpP, renId, shift]) rfl) ?_
 refine segH 2 (T1 := (mkT 17 [(0, vI k), (1, vI m), (6, vI k), (7, .bool (inR k 0 23)), (8, .bool (!(inR k 0 23))), (9, .bool (!(inR k 0 23)))])) (by kernel_rfl) ?_
 cases h1 : (inR k 0 23 : Bool)
 ·
  have h1k := h1
  (try simp only [bs0, bs1, bs2, bs3, beq_iff_eq, bne_iff_ne, beq_eq_false_iff_ne, bne_eq_false_iff_eq, ne_eq, bs4, bs5, bs6, bs7, bs8, bs9, bs10, bs11, ge_iff_le, gt_iff_lt] at h1)
  exfalso; simp_all
 ·
  have h1k := h1
  (try simp only [bs0, bs1, bs2, bs3, beq_iff_eq, bne_iff_ne, beq_eq_false_iff_ne, bne_eq_false_iff_eq, ne_eq, bs4, bs5, bs6, bs7, bs8, bs9, bs10, bs11, ge_iff_le, gt_iff_lt] at h1)
  refine segH 1 (T1 := (mkT 17 [(0, vI k), (1, vI m), (6, vI k), (7, .bool true), (8, .bool false), (9, .bool false), (10, vI m)])) (by kernel_rfl) ?_
  refine rCall (v := .bool (inR m 0 23)) (args := [vI m]) (by kernel_rfl) rfl (by kernel_rfl) (Sound.lay0 [] (isTurn5 m) trivial rfl trivial rfl (by first | rfl | simp [mpV, mpA, mpS, mpP, renId, shift]) rfl) ?_
  refine segEndH [0, 1, 13] (T1 := (mkT 17 [(0, vI k), (1, vI m), (13, .bool (!(inR m 0 23)))])) (by kernel_rfl) ?_
  refine kSeq ?_
  cases h2 : (inR m 0 23 : Bool)
  ·
   have h2k := h2
   (try simp only [bs0, bs1, bs2, bs3, beq_iff_eq, bne_iff_ne, beq_eq_false_iff_ne, bne_eq_false_iff_eq, ne_eq, bs4, bs5, bs6, bs7, bs8, bs9, bs10, bs11, ge_iff_le, gt_iff_lt] at h2)
   refine cTrue (by kernel_rfl) ?_
   refine cSeq ?_
   refine cReg ?_
   refine segEndH [4, 5] (T1 := (mkT 17 [(4, vI 0), (5, .bool false)])) (by kernel_rfl) ?_
   refine kSeq ?_
   refine cRet ?_
   refine kSeqR ?_
   exact endQ (Or.inr rfl) (l := [vI 0, .bool false]) [] (by kernel_rfl) (by first | rfl | kernel_rfl) rfl rfl hcl rfl
  ·
   have h2k := h2
   (try simp only [bs0, bs1, bs2, bs3, beq_iff_eq, bne_iff_ne, beq_eq_false_iff_ne, bne_eq_false_iff_eq, ne_eq, bs4, bs5, bs6, bs7, bs8, bs9, bs10, bs11, ge_iff_le, gt_iff_lt] at h2)
   exfalso; simp_all
set_option maxRecDepth 100000 in
set_option maxHeartbeats 4000000 in
theorem lawTurnBehind_no1_ (k : Int) (l : Int) (hk : inR k 0 23 = false) : Sound Try.prog 4 [vI k, vI l] [] (.bool true) [] := by
 refine sound_intro (C := cx) Try.func4 rfl (by kernel_rfl) fun hcl => ?_
 refine cSeq ?_
 refine cReg ?_
 refine segEndH [0, 1] (T1 := (mkT 29 [(0, vI k), (1, vI l)])) (by kernel_rfl) ?_
 refine kSeq ?_
 refine cSeq ?_
 refine cReg ?_
 refine segH 2 (T1 := (mkT 29 [(0, vI k), (1, vI l), (10, vI k), (11, vI l)])) (by kernel_rfl) ?_
 refine rCall (v := .tuple #[vI 0, .bool false]) (args := [vI k, vI l]) (by kernel_rfl) rfl (by kernel_rfl) (Sound.lay0 [] (specTurnBehind_no1 k l (by first | assumption | omega | rfl | decide | exact HeapL.list _ _ _ _ | exact HeapL.nil _ _ _ | exact HeapL.all _ _ _ | (apply HeapL.lt64 <;> assumption) | (repeat' (first | assumption | apply or_lt64 | apply and_lt64 | apply andn_lt64 | apply pow_lt64 | (apply HeapL.lt64 <;> assumption))))) trivial rfl trivial rfl (by first | rfl | simp [mpV, mpA, mpS, mpP, renId, shift]) (by first | rfl | simp [mpV, mpA, mpS, mpP, renId, shift])) ?_
 refine segEndH [0, 1, 5, 6] (T1 := (mkT 29 [(0, vI k), (1, vI l), (5, vI 0), (6, .bool false)])) (by kernel_rfl) ?_
 refine kSeq ?_
 refine cSeq ?_
 refine cReg ?_
 refine segH 2 (T1 := (mkT 29 [(0, vI k), (1, vI l), (5, vI 0), (6, .bool false), (16, vI k), (17, vI l)])) (by kernel_rfl) ?_
 refine rCall (v := .tuple #[vI 0, .bool false]) (args := [vI k, vI l]) (by kernel_rfl) rfl (by kernel_rfl) (Sound.lay0 [] (implTurnBehind_no1 k l (by first | assumption | omega | rfl | decide | exact HeapL.list _ _ _ _ | exact HeapL.nil _ _ _ | exact HeapL.all _ _ _ | (apply HeapL.lt64 <;> assumption) | (repeat' (first | assumption | apply or_lt64 | apply and_lt64 | apply andn_lt64 | apply pow_lt64 | (apply HeapL.lt64 <;> assumption))))) trivial rfl trivial rfl (by first | rfl | simp [mpV, mpA, mpS, mpP, renId, shift]) (by first | rfl | simp [mpV, mpA, mpS, mpP, renId, shift])) ?_
 refine segEndH [5, 6, 7, 8] (T1 := (mkT 29 [(5, vI 0), (6, .bool false), (7, vI 0), (8, .bool false)])) (by kernel_rfl) ?_
 refine kSeq ?_
 refine cSeq ?_
 refine cSeq ?_
 refine cReg ?_
 refine segEndH [28] (T1 := (mkT 29 [(28, .bool false)])) (by kernel_rfl) ?_
 refine kSeq ?_
 refine cFalse (by kernel_rfl) ?_
 refine cSkip ?_
 refine kSeq ?_
 refine cSeq ?_
 refine cReg ?_
 refine segEndH [4] (T1 := (mkT 29 [(4, .bool true)])) (by kernel_rfl) ?_
 refine kSeq ?_
 refine cRet ?_
 exact endQ (Or.inr rfl) (l := [.bool true]) [] (by kernel_rfl) (by first | rfl | kernel_rfl) rfl rfl hcl rfl
set_option maxRecDepth 100000 in
set_option maxHeartbeats 4000000 in
theorem lawTurnBehind_no2_ (k : Int) (l : Int) (hk : inR k 0 23 = true) (hm : inR l 0 23 = false) : Sound Try.prog 4 [vI k, vI l] [] (.bool true) [] := by
 refine sound_intro (C := cx) Try.func4 rfl (by kernel_rfl) fun hcl => ?_
 refine cSeq ?_
 refine cReg ?_
 refine segEndH [0, 1] (T1 := (mkT 29 [(0, vI k), (1, vI l)])) (by kernel_rfl) ?_
 refine kSeq ?_
 refine cSeq ?_
 refine cReg ?_
 refine segH 2 (T1 := (mkT 29 [(0, vI k), (1, vI l), (10, vI k), (11, vI l)])) (by kernel_rfl) ?_
 refine rCall (v := .tuple #[vI 0, .bool false]) (args := [vI k, vI l]) (by kernel_rfl) rfl (by kernel_rfl) (Sound.lay0 [] (specTurnBehind_no2 k l (by first | assumption | omega | rfl | decide | exact HeapL.list _ _ _ _ | exact HeapL.nil _ _ _ | exact HeapL.all _ _ _ | (apply HeapL.lt64 <;> assumption) | (repeat' (first | assumption | apply or_lt64 | apply and_lt64 | apply andn_lt64 | apply pow_lt64 | (apply HeapL.lt64 <;> assumption)))) (by first | assumption | omega | rfl | decide | exact HeapL.list _ _ _ _ | exact HeapL.nil _ _ _ | exact HeapL.all _ _ _ | (apply HeapL.lt64 <;> assumption) | (repeat' (first | assumption | apply or_lt64 | apply and_lt64 | apply andn_lt64 | apply pow_lt64 | (apply HeapL.lt64 <;> assumption))))) trivial rfl trivial rfl (by first | rfl | simp [mpV, mpA, mpS, mpP, renId, shift]) (by first | rfl | simp [mpV, mpA, mpS, mpP, renId, shift])) ?_
 refine segEndH [0, 1, 5, 6] (T1 := (mkT 29 [(0, vI k), (1, vI l), (5, vI 0), (6, .bool false)])) (by kernel_rfl) ?_
 refine kSeq ?_
 refine cSeq ?_
 refine cReg ?_
 refine segH 2 (T1 := (mkT 29 [(0, vI k), (1, vI l), (5, vI 0), (6, .bool false), (16, vI k), (17, vI l)])) (by kernel_rfl) ?_
 refine rCall (v := .tuple #[vI 0, .bool false]) (args := [vI k, vI l]) (by kernel_rfl) rfl (by kernel_rfl) (Sound.lay0 [] (implTurnBehind_no2 k l (by first | assumption | omega | rfl | decide | exact HeapL.list _ _ _ _ | exact HeapL.nil _ _ _ | exact HeapL.all _ _ _ | (apply HeapL.lt64 <;> assumption) | (repeat' (first | assumption | apply or_lt64 | apply and_lt64 | apply andn_lt64 | apply pow_lt64 | (apply HeapL.lt64 <;> assumption)))) (by first | assumption | omega | rfl | decide | exact HeapL.list _ _ _ _ | exact HeapL.nil _ _ _ | exact HeapL.all _ _ _ | (apply HeapL.lt64 <;> assumption) | (repeat' (first | assumption | apply or_lt64 | apply and_lt64 | apply andn_lt64 | apply pow_lt64 | (apply HeapL.lt64 <;> assumption))))) trivial rfl trivial rfl (by first | rfl | simp [mpV, mpA, mpS, mpP, renId, shift]) (by first | rfl | simp [mpV, mpA, mpS, mpP, renId, shift])) ?_
 refine segEndH [5, 6, 7, 8] (T1 := (mkT 29 [(5, vI 0), (6, .bool false), (7, vI 0), (8, .bool false)])) (by kernel_rfl) ?_
 refine kSeq ?_
 refine cSeq ?_
 refine cSeq ?_
 refine cReg ?_
 refine segEndH [28] (T1 := (mkT 29 [(28, .bool false)])) (by kernel_rfl) ?_
 refine kSeq ?_
 refine cFalse (by kernel_rfl) ?_
 refine cSkip ?_
 refine kSeq ?_
 refine cSeq ?_
 refine cReg ?_
 refine segEndH [4] (T1 := (mkT 29 [(4, .bool true)])) (by kernel_rfl) ?_
 refine kSeq ?_
 refine cRet ?_
 exact endQ (Or.inr rfl) (l := [.bool true]) [] (by kernel_rfl) (by first | rfl | kernel_rfl) rfl rfl hcl rfl
theorem lawTurnBehind_ (k : Int) (l : Int)  : Sound Try.prog 4 [vI k, vI l] [] (.bool true) [] := by
 cases hk : inR k 0 23
 ·
  exact lawTurnBehind_no1_ k l hk
 ·
  cases hm : inR l 0 23
  ·
   exact lawTurnBehind_no2_ k l hk hm
  ·
   have hb := inR_le hk
   have hb2 := inR_le hm
   have e : k = ((k.toNat : Nat) : Int) := by omega
   have e2 : l = ((l.toNat : Nat) : Int) := by omega
   have hn : k.toNat < 24 := by omega
   have hn2 : l.toNat < 24 := by omega
   rw [e, e2]
   generalize k.toNat = n at hn
   generalize l.toNat = q at hn2
   have h : behindC n q = true := by
    match n, hn with
    | 0, _ => exact behindC_0 q hn2
    | 1, _ => exact behindC_1 q hn2
    | 2, _ => exact behindC_2 q hn2
    | 3, _ => exact behindC_3 q hn2
    | 4, _ => exact behindC_4 q hn2
    | 5, _ => exact behindC_5 q hn2
    | 6, _ => exact behindC_6 q hn2
    | 7, _ => exact behindC_7 q hn2
    | 8, _ => exact behindC_8 q hn2
    | 9, _ => exact behindC_9 q hn2
    | 10, _ => exact behindC_10 q hn2
    | 11, _ => exact behindC_11 q hn2
    | 12, _ => exact behindC_12 q hn2
    | 13, _ => exact behindC_13 q hn2
    | 14, _ => exact behindC_14 q hn2
    | 15, _ => exact behindC_15 q hn2
    | 16, _ => exact behindC_16 q hn2
    | 17, _ => exact behindC_17 q hn2
    | 18, _ => exact behindC_18 q hn2
    | 19, _ => exact behindC_19 q hn2
    | 20, _ => exact behindC_20 q hn2
    | 21, _ => exact behindC_21 q hn2
    | 22, _ => exact behindC_22 q hn2
    | 23, _ => exact behindC_23 q hn2
    | n + 24, h => omega
   exact exF2_sound told2_ok 8 _ _ _ _ _ (okB_eq h)
end Go.Proofs.Ytcldfmnkeiogdaa
namespace Go.Proofs.Ytcldfmnkeiogdaa.fnExactTurnBehind
open Go.Am Go.ChangeShapes Go.WideShapes Go.ChangeAt Go.RowKit
theorem own : ownKnob Try.prog.godebug = none := by kernel_rfl
theorem laidOut : laidOutB Try.prog = true := by kernel_rfl
set_option maxRecDepth 100000 in
theorem lifted (os : Os) (started : os.Started) (H : Type) (enc : TypeId × Value → H) :
  ReturnsInHanded {} Try.checked os 4 .any (Rows.fnExactTurnBehindSpec.pre6 enc Try.prog Try.f4 Rows.fnExactTurnBehindRow.domain false) (Rows.fnExactTurnBehindSpec.post enc Try.prog Try.f4 false true false false) := by
 refine returnsInHanded_of_change_sized (C := Try.checked) own started (by kernel_rfl) Try.func4
  (ChangeSpec.witness6 (enc := enc) (C := Try.checked) false ⟨#[], #[.int .i64 0, .int .i64 0], []⟩ 8 (by kernel_rfl) (by kernel_rfl) (by kernel_rfl) (by kernel_rfl)) ?_
 intro W base args ds gs before hval0 hW hcnd hsz0 _
 have hval : ∀ (j : Nat) t v, Try.f4.params[j]? = some t → args[j]? = some v → Value.okWide Try.prog W .any base t v := hval0
 have hW' := hW
 obtain ⟨p, q, hA0, hV, rfl, hfz, hnd⟩ := hW
 have hA : DataW.TrodAll enc Try.prog W 0 (fun _ => true) true Try.f4.params.toList args.toList ds p := hA0
 rw [Try.params4] at hA hval
 obtain ⟨v0, vs0, d0, ds0, p0, q0, hargs, rfl, rfl, h0, r0⟩ := trodAll_cons hA
 obtain ⟨v1, vs1, d1, ds1, p1, q1, rfl, rfl, rfl, h1, r1⟩ := trodAll_cons r0
 obtain ⟨rfl, rfl, rfl⟩ := trodAll_nil r1
 obtain rfl : args = #[v0, v1] := by cases args; simp_all
 obtain ⟨rfl, rfl⟩ := trodVars_none hV
 have hlt0 : ∀ x ∈ p0, x.block < W.heap.size := fun x hx => by simpa using hW'.lt x (by simp [hx])
 have hlt1 : ∀ x ∈ p1, x.block < W.heap.size := fun x hx => by simpa using hW'.lt x (by simp [hx])
 have fin : (∃ Q : Prop, Q) ∧ Calls Try.prog 4 #[v0, v1] W (fun e W' => e = .returned (.bool true) ∧ Below W.heap.size W W') := by
  refine ⟨⟨True, trivial⟩, ?_⟩
  obtain ⟨k, rfl, _, _, wk⟩ := open_int Try.underlying3 (hval 0 3 v0 rfl rfl) h0
  obtain ⟨l, rfl, _, _, wl⟩ := open_int Try.underlying3 (hval 1 3 v1 rfl rfl) h1
  have hS : Sound Try.prog 4 [vI k, vI l] [] (.bool true) [] := lawTurnBehind_ k l
  exact hS.top0 rfl rfl W
 clear hA0 hval0 hsz0
 refine fin.2.mono fun e W' ⟨he, bel⟩ => ?_
 subst he
 exact ⟨_, rfl, _, _, _, [], _, [], hW', trodAll_mk1 (shut_bool Try.underlying4 _), (trodAll_cons_mk (Below.trod laidOut (by kernel_rfl) (of_decide_eq_true (by kernel_rfl)) h0 bel hlt0) (trodAll_cons_mk (Below.trod laidOut (by kernel_rfl) (of_decide_eq_true (by kernel_rfl)) h1 bel hlt1) trodAll_mk0)), rfl, bel.frame _, fun h => by cases h⟩
theorem over : Rows.fnExactTurnBehindRow.holds Try.pinned (OpenSpec.ofChange Rows.fnExactTurnBehindSpec) :=
 OpenClaim.holds_of_wide 4 Try.f4 rfl rfl rfl rfl rfl rfl rfl ⟨rfl, rfl, rfl, rfl, rfl⟩ rfl rfl rfl rfl rfl (by kernel_rfl) Try.func4 (by kernel_rfl)
  (of_decide_eq_true (by kernel_rfl)) (by unfold Func.isWrapper; first | (rw [if_pos (by decide +kernel)]; kernel_rfl) | (rw [if_neg (by decide +kernel)]; exact ⟨rfl, rfl⟩))
  (fun os started H enc _ => lifted os started H enc)
end Go.Proofs.Ytcldfmnkeiogdaa.fnExactTurnBehind
namespace Go.Proofs.Ytcldfmnkeiogdaa
theorem fnExactTurnBehind_holds : Rows.FnExactTurnBehindSaid := fnExactTurnBehind.over
#print axioms fnExactTurnBehind_holds
end Go.Proofs.Ytcldfmnkeiogdaa
