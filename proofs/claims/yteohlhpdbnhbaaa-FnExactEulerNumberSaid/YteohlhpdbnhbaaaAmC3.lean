/- Part of the proof, merged out of smaller texts. No condition. -/
import Derived.Test.YteohlhpdbnhbaaaAmC2
import Derived.Test.YteohlhpdbnhbaaaAmC1
import Derived.WalkKit
import Derived.ProofKit
import Derived.OpenShut
import Derived.ChangeOld
import Derived.Below
import Derived.SizedLaws
set_option linter.unusedVariables false
set_option linter.unusedSimpArgs false
namespace Go.Proofs.Yteohlhpdbnhbaaa.F
open Go.Am Go.RowKit
set_option maxRecDepth 100000 in
set_option maxHeartbeats 4000000 in
theorem l6InB (X : Nat) (Y : Nat) (Z : Nat) (L : List A3) (a : Int) (b : Int) (c : Int) (hs : Sides X Y Z) (hL : HeapL X Y Z L) (hb : (0 ≤ a ∧ a ≤ 8) ∧ (0 ≤ b ∧ b ≤ 8) ∧ (0 ≤ c ∧ c ≤ 8)) : Sound Try.prog 25 [.agg #[vN X, vN Y, vN Z, vS 0 L.length], .agg #[vI a, vI b, vI c]] [some ⟨a3s L, 46, false, false⟩] (.bool (inC L a b c)) [some ⟨a3s L, 46, false, false⟩] := by
 refine sound_intro (C := cx) Try.func25 rfl (by kernel_rfl) fun hcl => ?_
 have hz := hs.size
 have hx0 := hs.x0
 have hx4 := hs.x4
 have hy0 := hs.y0
 have hy4 := hs.y4
 have hz0 := hs.z0
 have hz4 := hs.z4
 have hlen := hL.len
 have hlt := hL.lt64 hs
 have hsm := hL.small hs
 refine cSeq ?_
 refine cReg ?_
 refine segEnd [2, 3] (T1 := (mkT 36 [(2, vP 1 0), (3, vP 2 0)])) (H1 := [some ⟨a3s L, 46, false, false⟩, rB [vN X, vN Y, vN Z, vS 0 L.length] 29, rB [vI a, vI b, vI c] 46]) (by kernel_rfl) ?_
 refine kSeq ?_
 refine cSeq ?_
 refine cSeq ?_
 refine cReg ?_
 refine segEndH [2, 3, 5] (T1 := (mkT 36 [(2, vP 1 0), (3, vP 2 0), (5, vI 0)])) (by kernel_rfl) ?_
 refine kSeq ?_
 refine cBlk ?_
 refine cLoop (fun mm T H => ∃ i : Nat, (i ≤ L.length) ∧ (∀ j, j < i → inK (L.getD j default) a b c = false) ∧ mm = L.length - i ∧ T = (mkT 36 [(2, vP 1 0), (3, vP 2 0), (5, vN i)]) ∧ H = [some ⟨a3s L, 46, false, false⟩, rB [vN X, vN Y, vN Z, vS 0 L.length] 29, rB [vI a, vI b, vI c] 46]) (L.length - 0) (mkT 36 [(2, vP 1 0), (3, vP 2 0), (5, vI 0)]) [some ⟨a3s L, 46, false, false⟩, rB [vN X, vN Y, vN Z, vS 0 L.length] 29, rB [vI a, vI b, vI c] 46] (wkSame [2, 3, 5] (by kernel_rfl)) ?_ ?_
 ·
  exact ⟨0, (Nat.zero_le _), (fun j hj => absurd hj (Nat.not_lt_zero j)), rfl, rfl, rfl⟩
 ·
  rintro _ _ _ ⟨i, hi, ho, rfl, rfl, rfl⟩
  refine cSeq ?_
  refine cSeq ?_
  refine cReg ?_
  refine segEndH [2, 3, 5, 12] (T1 := (mkT 36 [(2, vP 1 0), (3, vP 2 0), (5, vN i), (12, .bool (decide (((i : Nat) : Int) < ((L.length : Nat) : Int))))])) (by kernel_rfl) ?_
  refine kSeq ?_
  cases h1 : (decide (((i : Nat) : Int) < ((L.length : Nat) : Int)) : Bool)
  ·
   have h1k := h1
   (try simp only [bs0, bs1, bs2, bs3, beq_iff_eq, bne_iff_ne, beq_eq_false_iff_ne, bne_eq_false_iff_eq, ne_eq, bs4, bs5, bs6, bs7, bs8, bs9, bs10, bs11, ge_iff_le, gt_iff_lt] at h1)
   refine cFalse (by kernel_rfl) ?_
   refine cExit ?_
   refine kSeqE ?_
   refine kLoopE ?_
   refine kBlkHit ?_
   refine kSeq ?_
   refine cSeq ?_
   refine cReg ?_
   refine segEndH [4] (T1 := (mkT 36 [(4, .bool false)])) (by kernel_rfl) ?_
   refine kSeq ?_
   refine cRet ?_
   have he0 : (false : Bool) = inC L a b c := by first | exact (inC_yes (i := i) (by omega) (by rw [← inF_three, ← ht]; assumption)).symm | exact (inC_no (fun j hj => ho j (by omega))).symm
   refine endCast (v1 := .bool false) (H1 := [some ⟨a3s L, 46, false, false⟩]) (by first | rfl | ((try rw [← he0]); done) | (simp only [← he0]; done)) (by first | rfl | ((try rw [← he0]); done) | (simp only [← he0]; done)) ?_
   exact endQ (Or.inr rfl) (l := [.bool false]) [rB [vN X, vN Y, vN Z, vS 0 L.length] 29, rB [vI a, vI b, vI c] 46] (by kernel_rfl) (by first | rfl | kernel_rfl) rfl rfl hcl rfl
  ·
   have h1k := h1
   (try simp only [bs0, bs1, bs2, bs3, beq_iff_eq, bne_iff_ne, beq_eq_false_iff_ne, bne_eq_false_iff_eq, ne_eq, bs4, bs5, bs6, bs7, bs8, bs9, bs10, bs11, ge_iff_le, gt_iff_lt] at h1)
   have hc0 := hsm.at (i := i) (by omega)
   refine cTrue (by kernel_rfl) ?_
   refine cSkip ?_
   refine kSeq ?_
   refine cSeq ?_
   refine cBlk ?_
   refine cSeq ?_
   refine cReg ?_
   refine segEndH [2, 3, 5, 6] (T1 := (mkT 36 [(2, vP 1 0), (3, vP 2 0), (5, vN i), (6, .bool true)])) (by kernel_rfl) ?_
   refine kSeq ?_
   refine cSeq ?_
   refine cSeq ?_
   refine cReg ?_
   refine segEndH [2, 3, 5, 6, 7] (T1 := (mkT 36 [(2, vP 1 0), (3, vP 2 0), (5, vN i), (6, .bool true), (7, vI 0)])) (by kernel_rfl) ?_
   refine kSeq ?_
   refine cBlk ?_
   refine cLoop (fun mm T H => ∃ k : Nat, ∃ t : Bool, (k ≤ 3) ∧ (t = inF (L.getD i default) a b c k) ∧ mm = 3 - k ∧ T = (mkT 36 [(2, vP 1 0), (3, vP 2 0), (5, vN i), (6, .bool t), (7, vN k)]) ∧ H = [some ⟨a3s L, 46, false, false⟩, rB [vN X, vN Y, vN Z, vS 0 L.length] 29, rB [vI a, vI b, vI c] 46]) (3 - 0) (mkT 36 [(2, vP 1 0), (3, vP 2 0), (5, vN i), (6, .bool true), (7, vI 0)]) [some ⟨a3s L, 46, false, false⟩, rB [vN X, vN Y, vN Z, vS 0 L.length] 29, rB [vI a, vI b, vI c] 46] (wkSame [2, 3, 5, 6, 7] (by kernel_rfl)) ?_ ?_
   ·
    exact ⟨0, true, (Nat.zero_le _), (rfl), rfl, rfl, rfl⟩
   ·
    rintro _ _ _ ⟨k, t, hk, ht, rfl, rfl, rfl⟩
    have hcase : k = 0 ∨ k = 1 ∨ k = 2 ∨ k = 3 := by omega
    rcases hcase with rfl | rfl | rfl | rfl
    ·
     refine cSeq ?_
     refine cSeq ?_
     refine cReg ?_
     refine segEndH [2, 3, 5, 6, 7, 16] (T1 := (mkT 36 [(2, vP 1 0), (3, vP 2 0), (5, vN i), (6, .bool t), (7, vI 0), (16, .bool true)])) (by kernel_rfl) ?_
     refine kSeq ?_
     refine cTrue (by kernel_rfl) ?_
     refine cSkip ?_
     refine kSeq ?_
     refine cSeq ?_
     refine cBlk ?_
     refine cRegW (N := 3) [⟨[], [], []⟩, ⟨[], [], []⟩, ⟨[], [], []⟩, ⟨[], [], []⟩, ⟨[], [], [2]⟩, ⟨[], [], []⟩, ⟨[], [], [1]⟩, ⟨[], [], []⟩, ⟨[], [], []⟩, ⟨[], [], []⟩, ⟨[], [], []⟩, ⟨[], [], [0]⟩, ⟨[], [], []⟩, ⟨[], [], []⟩, ⟨[], [], []⟩, ⟨[], [], []⟩, ⟨[], [], []⟩] 0 [] (by rfl) (by rfl) (by kernel_rfl) (by kernel_rfl) (by kernel_rfl) ⟨nmsF (flatA3 _ _ _ _), ⟨nmsX (by kernel_rfl), ⟨nmsX (by kernel_rfl), trivial⟩⟩⟩ ?_
     refine segWH 2 (T1 := (mkT 36 [(2, vP 1 0), (3, vP 2 0), (5, vN i), (6, .bool t), (7, vI 0), (16, .bool true), (19, .bool t), (20, .bool t)])) (by kernel_rfl) ?_
     cases h2 : (t : Bool)
     ·
      have h2k := h2
      (try simp only [bs0, bs1, bs2, bs3, beq_iff_eq, bne_iff_ne, beq_eq_false_iff_ne, bne_eq_false_iff_eq, ne_eq, bs4, bs5, bs6, bs7, bs8, bs9, bs10, bs11, ge_iff_le, gt_iff_lt] at h2)
      refine segEndW [2, 3, 5, 6, 7] (T1 := (mkT 36 [(2, vP 1 0), (3, vP 2 0), (5, vN i), (6, .bool false), (7, vI 0)])) (H1 := [some ⟨a3s L, 46, false, false⟩, rB [vN X, vN Y, vN Z, vS 0 L.length] 29, rB [vI a, vI b, vI c] 46]) (by kernel_rfl) ?_
      refine kBlk ?_
      refine kSeq ?_
      refine cReg ?_
      refine segEndH [2, 3, 5, 6, 7] (T1 := (mkT 36 [(2, vP 1 0), (3, vP 2 0), (5, vN i), (6, .bool false), (7, vI 1)])) (by kernel_rfl) ?_
      exact kLoop (3 - 1) (mkT 36 [(2, vP 1 0), (3, vP 2 0), (5, vN i), (6, .bool false), (7, vI 1)]) [some ⟨a3s L, 46, false, false⟩, rB [vN X, vN Y, vN Z, vS 0 L.length] 29, rB [vI a, vI b, vI c] 46] (by omega) (wkSame [2, 3, 5, 6, 7] (by kernel_rfl)) ⟨1, false, (by omega), (by cases t <;> first | contradiction | (rw [inF, ← ht]; simp [n3]; done) | (rw [inF, ← ht]; simp_all [n3]; done)), rfl, rfl, rfl⟩
     ·
      have h2k := h2
      (try simp only [bs0, bs1, bs2, bs3, beq_iff_eq, bne_iff_ne, beq_eq_false_iff_ne, bne_eq_false_iff_eq, ne_eq, bs4, bs5, bs6, bs7, bs8, bs9, bs10, bs11, ge_iff_le, gt_iff_lt] at h2)
      refine segWH 7 (T1 := (mkT 36 [(2, vP 1 0), (3, vP 2 0), (5, vN i), (6, .bool true), (7, vI 0), (16, .bool true), (19, .bool true), (20, .bool true), (21, vI 0), (22, vP 2 0), (23, vI a), (24, vP 1 3), (25, vS 0 L.length), (26, vN i), (27, vI 0)])) (by kernel_rfl) ?_
      refine rW (m := ⟨[], [], []⟩) (v := vP 0 (i * 3)) rfl (by kernel_rfl) (stId (eIdxS (ad := ⟨0, 0, none⟩) (n := L.length) (m := 0) (k := .i64) (c := ((i : Nat) : Int)) (j := i) (o := i * 3) (by kernel_rfl) (by kernel_rfl) ti22 ti46 (rfl) (by omega) (by exact Nat.zero_add _)) rfl (by kernel_rfl) (by kernel_rfl) (by kernel_rfl)) (by kernel_rfl) nr0 ?_
      refine segWH 1 (T1 := (mkT 36 [(2, vP 1 0), (3, vP 2 0), (5, vN i), (6, .bool true), (7, vI 0), (16, .bool true), (19, .bool true), (20, .bool true), (21, vI 0), (22, vP 2 0), (23, vI a), (24, vP 1 3), (25, vS 0 L.length), (26, vN i), (27, vI 0), (28, vP 0 (i * 3)), (29, vP 0 (i * 3 + 0))])) (by kernel_rfl) ?_
      refine rW (m := ⟨[], [], [0]⟩) (v := vI ((L.getD i default).x)) rfl (by kernel_rfl) (stId (eLdA3i (ad := ⟨0, i * 3 + 0, none⟩) (r := ⟨a3s L, 46, false, false⟩) (L := L) (j := i) (i := 0) (by kernel_rfl) (by kernel_rfl) rfl (by first | rfl | omega) (by omega) ti3 rfl rfl) rfl (by kernel_rfl) (by kernel_rfl) (by kernel_rfl)) (by kernel_rfl) nr0 ?_
      refine rW (m := ⟨[], [], []⟩) (v := vI (2 * ((L.getD i default).x))) rfl (by kernel_rfl) (stId (eMul (k := .i64) (a := 2) (b := ((L.getD i default).x)) (c := (2 * ((L.getD i default).x))) (by kernel_rfl) (by kernel_rfl) (wr64 (by omega) (by omega) (by omega))) rfl (by kernel_rfl) (by kernel_rfl) (by kernel_rfl)) (by kernel_rfl) nr0 ?_
      refine rW (m := ⟨[], [], []⟩) (v := vI (a - (2 * ((L.getD i default).x)))) rfl (by kernel_rfl) (stId (eSub (k := .i64) (a := a) (b := (2 * ((L.getD i default).x))) (c := (a - (2 * ((L.getD i default).x)))) (by kernel_rfl) (by kernel_rfl) (wr64 (by omega) (by omega) (by omega))) rfl (by kernel_rfl) (by kernel_rfl) (by kernel_rfl)) (by kernel_rfl) nr0 ?_
      refine rW (m := ⟨[], [], []⟩) (v := .bool (inR (a - (2 * ((L.getD i default).x))) 0 2)) rfl (by kernel_rfl) (stQ (args := [vI (a - (2 * ((L.getD i default).x))), vI 0, vI 2]) rfl (by kernel_rfl) (Any.lay0 [] (l1InB (a - (2 * ((L.getD i default).x))) 0 2) trivial rfl trivial rfl (by first | rfl | simp [mpV, mpA, mpS, mpP, renId, shift]) rfl) rfl (by kernel_rfl) (by kernel_rfl)) (by kernel_rfl) nr0 ?_
      refine segEndW [2, 3, 5, 6, 7] (T1 := (mkT 36 [(2, vP 1 0), (3, vP 2 0), (5, vN i), (6, .bool (inR (a - (2 * ((L.getD i default).x))) 0 2)), (7, vI 0)])) (H1 := [some ⟨a3s L, 46, false, false⟩, rB [vN X, vN Y, vN Z, vS 0 L.length] 29, rB [vI a, vI b, vI c] 46]) (by kernel_rfl) ?_
      refine kBlk ?_
      refine kSeq ?_
      refine cReg ?_
      refine segEndH [2, 3, 5, 6, 7] (T1 := (mkT 36 [(2, vP 1 0), (3, vP 2 0), (5, vN i), (6, .bool (inR (a - (2 * ((L.getD i default).x))) 0 2)), (7, vI 1)])) (by kernel_rfl) ?_
      exact kLoop (3 - 1) (mkT 36 [(2, vP 1 0), (3, vP 2 0), (5, vN i), (6, .bool (inR (a - (2 * ((L.getD i default).x))) 0 2)), (7, vI 1)]) [some ⟨a3s L, 46, false, false⟩, rB [vN X, vN Y, vN Z, vS 0 L.length] 29, rB [vI a, vI b, vI c] 46] (by omega) (wkSame [2, 3, 5, 6, 7] (by kernel_rfl)) ⟨1, (inR (a - (2 * ((L.getD i default).x))) 0 2), (by omega), (by cases t <;> first | contradiction | (rw [inF, ← ht]; simp [n3]; done) | (rw [inF, ← ht]; simp_all [n3]; done)), rfl, rfl, rfl⟩
    ·
     refine cSeq ?_
     refine cSeq ?_
     refine cReg ?_
     refine segEndH [2, 3, 5, 6, 7, 16] (T1 := (mkT 36 [(2, vP 1 0), (3, vP 2 0), (5, vN i), (6, .bool t), (7, vI 1), (16, .bool true)])) (by kernel_rfl) ?_
     refine kSeq ?_
     refine cTrue (by kernel_rfl) ?_
     refine cSkip ?_
     refine kSeq ?_
     refine cSeq ?_
     refine cBlk ?_
     refine cRegW (N := 3) [⟨[], [], []⟩, ⟨[], [], []⟩, ⟨[], [], []⟩, ⟨[], [], []⟩, ⟨[], [], [2]⟩, ⟨[], [], []⟩, ⟨[], [], [1]⟩, ⟨[], [], []⟩, ⟨[], [], []⟩, ⟨[], [], []⟩, ⟨[], [], []⟩, ⟨[], [], [0]⟩, ⟨[], [], []⟩, ⟨[], [], []⟩, ⟨[], [], []⟩, ⟨[], [], []⟩, ⟨[], [], []⟩] 0 [] (by rfl) (by rfl) (by kernel_rfl) (by kernel_rfl) (by kernel_rfl) ⟨nmsF (flatA3 _ _ _ _), ⟨nmsX (by kernel_rfl), ⟨nmsX (by kernel_rfl), trivial⟩⟩⟩ ?_
     refine segWH 2 (T1 := (mkT 36 [(2, vP 1 0), (3, vP 2 0), (5, vN i), (6, .bool t), (7, vI 1), (16, .bool true), (19, .bool t), (20, .bool t)])) (by kernel_rfl) ?_
     cases h3 : (t : Bool)
     ·
      have h3k := h3
      (try simp only [bs0, bs1, bs2, bs3, beq_iff_eq, bne_iff_ne, beq_eq_false_iff_ne, bne_eq_false_iff_eq, ne_eq, bs4, bs5, bs6, bs7, bs8, bs9, bs10, bs11, ge_iff_le, gt_iff_lt] at h3)
      refine segEndW [2, 3, 5, 6, 7] (T1 := (mkT 36 [(2, vP 1 0), (3, vP 2 0), (5, vN i), (6, .bool false), (7, vI 1)])) (H1 := [some ⟨a3s L, 46, false, false⟩, rB [vN X, vN Y, vN Z, vS 0 L.length] 29, rB [vI a, vI b, vI c] 46]) (by kernel_rfl) ?_
      refine kBlk ?_
      refine kSeq ?_
      refine cReg ?_
      refine segEndH [2, 3, 5, 6, 7] (T1 := (mkT 36 [(2, vP 1 0), (3, vP 2 0), (5, vN i), (6, .bool false), (7, vI 2)])) (by kernel_rfl) ?_
      exact kLoop (3 - 2) (mkT 36 [(2, vP 1 0), (3, vP 2 0), (5, vN i), (6, .bool false), (7, vI 2)]) [some ⟨a3s L, 46, false, false⟩, rB [vN X, vN Y, vN Z, vS 0 L.length] 29, rB [vI a, vI b, vI c] 46] (by omega) (wkSame [2, 3, 5, 6, 7] (by kernel_rfl)) ⟨2, false, (by omega), (by cases t <;> first | contradiction | (rw [inF, ← ht]; simp [n3]; done) | (rw [inF, ← ht]; simp_all [n3]; done)), rfl, rfl, rfl⟩
     ·
      have h3k := h3
      (try simp only [bs0, bs1, bs2, bs3, beq_iff_eq, bne_iff_ne, beq_eq_false_iff_ne, bne_eq_false_iff_eq, ne_eq, bs4, bs5, bs6, bs7, bs8, bs9, bs10, bs11, ge_iff_le, gt_iff_lt] at h3)
      refine segWH 7 (T1 := (mkT 36 [(2, vP 1 0), (3, vP 2 0), (5, vN i), (6, .bool true), (7, vI 1), (16, .bool true), (19, .bool true), (20, .bool true), (21, vI 1), (22, vP 2 1), (23, vI b), (24, vP 1 3), (25, vS 0 L.length), (26, vN i), (27, vI 1)])) (by kernel_rfl) ?_
      refine rW (m := ⟨[], [], []⟩) (v := vP 0 (i * 3)) rfl (by kernel_rfl) (stId (eIdxS (ad := ⟨0, 0, none⟩) (n := L.length) (m := 0) (k := .i64) (c := ((i : Nat) : Int)) (j := i) (o := i * 3) (by kernel_rfl) (by kernel_rfl) ti22 ti46 (rfl) (by omega) (by exact Nat.zero_add _)) rfl (by kernel_rfl) (by kernel_rfl) (by kernel_rfl)) (by kernel_rfl) nr0 ?_
      refine segWH 1 (T1 := (mkT 36 [(2, vP 1 0), (3, vP 2 0), (5, vN i), (6, .bool true), (7, vI 1), (16, .bool true), (19, .bool true), (20, .bool true), (21, vI 1), (22, vP 2 1), (23, vI b), (24, vP 1 3), (25, vS 0 L.length), (26, vN i), (27, vI 1), (28, vP 0 (i * 3)), (29, vP 0 (i * 3 + 1))])) (by kernel_rfl) ?_
      refine rW (m := ⟨[], [], [0]⟩) (v := vI ((L.getD i default).y)) rfl (by kernel_rfl) (stId (eLdA3i (ad := ⟨0, i * 3 + 1, none⟩) (r := ⟨a3s L, 46, false, false⟩) (L := L) (j := i) (i := 1) (by kernel_rfl) (by kernel_rfl) rfl (by first | rfl | omega) (by omega) ti3 rfl rfl) rfl (by kernel_rfl) (by kernel_rfl) (by kernel_rfl)) (by kernel_rfl) nr0 ?_
      refine rW (m := ⟨[], [], []⟩) (v := vI (2 * ((L.getD i default).y))) rfl (by kernel_rfl) (stId (eMul (k := .i64) (a := 2) (b := ((L.getD i default).y)) (c := (2 * ((L.getD i default).y))) (by kernel_rfl) (by kernel_rfl) (wr64 (by omega) (by omega) (by omega))) rfl (by kernel_rfl) (by kernel_rfl) (by kernel_rfl)) (by kernel_rfl) nr0 ?_
      refine rW (m := ⟨[], [], []⟩) (v := vI (b - (2 * ((L.getD i default).y)))) rfl (by kernel_rfl) (stId (eSub (k := .i64) (a := b) (b := (2 * ((L.getD i default).y))) (c := (b - (2 * ((L.getD i default).y)))) (by kernel_rfl) (by kernel_rfl) (wr64 (by omega) (by omega) (by omega))) rfl (by kernel_rfl) (by kernel_rfl) (by kernel_rfl)) (by kernel_rfl) nr0 ?_
      refine rW (m := ⟨[], [], []⟩) (v := .bool (inR (b - (2 * ((L.getD i default).y))) 0 2)) rfl (by kernel_rfl) (stQ (args := [vI (b - (2 * ((L.getD i default).y))), vI 0, vI 2]) rfl (by kernel_rfl) (Any.lay0 [] (l1InB (b - (2 * ((L.getD i default).y))) 0 2) trivial rfl trivial rfl (by first | rfl | simp [mpV, mpA, mpS, mpP, renId, shift]) rfl) rfl (by kernel_rfl) (by kernel_rfl)) (by kernel_rfl) nr0 ?_
      refine segEndW [2, 3, 5, 6, 7] (T1 := (mkT 36 [(2, vP 1 0), (3, vP 2 0), (5, vN i), (6, .bool (inR (b - (2 * ((L.getD i default).y))) 0 2)), (7, vI 1)])) (H1 := [some ⟨a3s L, 46, false, false⟩, rB [vN X, vN Y, vN Z, vS 0 L.length] 29, rB [vI a, vI b, vI c] 46]) (by kernel_rfl) ?_
      refine kBlk ?_
      refine kSeq ?_
      refine cReg ?_
      refine segEndH [2, 3, 5, 6, 7] (T1 := (mkT 36 [(2, vP 1 0), (3, vP 2 0), (5, vN i), (6, .bool (inR (b - (2 * ((L.getD i default).y))) 0 2)), (7, vI 2)])) (by kernel_rfl) ?_
      exact kLoop (3 - 2) (mkT 36 [(2, vP 1 0), (3, vP 2 0), (5, vN i), (6, .bool (inR (b - (2 * ((L.getD i default).y))) 0 2)), (7, vI 2)]) [some ⟨a3s L, 46, false, false⟩, rB [vN X, vN Y, vN Z, vS 0 L.length] 29, rB [vI a, vI b, vI c] 46] (by omega) (wkSame [2, 3, 5, 6, 7] (by kernel_rfl)) ⟨2, (inR (b - (2 * ((L.getD i default).y))) 0 2), (by omega), (by cases t <;> first | contradiction | (rw [inF, ← ht]; simp [n3]; done) | (rw [inF, ← ht]; simp_all [n3]; done)), rfl, rfl, rfl⟩
    ·
     refine cSeq ?_
     refine cSeq ?_
     refine cReg ?_
     refine segEndH [2, 3, 5, 6, 7, 16] (T1 := (mkT 36 [(2, vP 1 0), (3, vP 2 0), (5, vN i), (6, .bool t), (7, vI 2), (16, .bool true)])) (by kernel_rfl) ?_
     refine kSeq ?_
     refine cTrue (by kernel_rfl) ?_
     refine cSkip ?_
     refine kSeq ?_
     refine cSeq ?_
     refine cBlk ?_
     refine cRegW (N := 3) [⟨[], [], []⟩, ⟨[], [], []⟩, ⟨[], [], []⟩, ⟨[], [], []⟩, ⟨[], [], [2]⟩, ⟨[], [], []⟩, ⟨[], [], [1]⟩, ⟨[], [], []⟩, ⟨[], [], []⟩, ⟨[], [], []⟩, ⟨[], [], []⟩, ⟨[], [], [0]⟩, ⟨[], [], []⟩, ⟨[], [], []⟩, ⟨[], [], []⟩, ⟨[], [], []⟩, ⟨[], [], []⟩] 0 [] (by rfl) (by rfl) (by kernel_rfl) (by kernel_rfl) (by kernel_rfl) ⟨nmsF (flatA3 _ _ _ _), ⟨nmsX (by kernel_rfl), ⟨nmsX (by kernel_rfl), trivial⟩⟩⟩ ?_
     refine segWH 2 (T1 := (mkT 36 [(2, vP 1 0), (3, vP 2 0), (5, vN i), (6, .bool t), (7, vI 2), (16, .bool true), (19, .bool t), (20, .bool t)])) (by kernel_rfl) ?_
     cases h4 : (t : Bool)
     ·
      have h4k := h4
      (try simp only [bs0, bs1, bs2, bs3, beq_iff_eq, bne_iff_ne, beq_eq_false_iff_ne, bne_eq_false_iff_eq, ne_eq, bs4, bs5, bs6, bs7, bs8, bs9, bs10, bs11, ge_iff_le, gt_iff_lt] at h4)
      refine segEndW [2, 3, 5, 6, 7] (T1 := (mkT 36 [(2, vP 1 0), (3, vP 2 0), (5, vN i), (6, .bool false), (7, vI 2)])) (H1 := [some ⟨a3s L, 46, false, false⟩, rB [vN X, vN Y, vN Z, vS 0 L.length] 29, rB [vI a, vI b, vI c] 46]) (by kernel_rfl) ?_
      refine kBlk ?_
      refine kSeq ?_
      refine cReg ?_
      refine segEndH [2, 3, 5, 6, 7] (T1 := (mkT 36 [(2, vP 1 0), (3, vP 2 0), (5, vN i), (6, .bool false), (7, vI 3)])) (by kernel_rfl) ?_
      exact kLoop (3 - 3) (mkT 36 [(2, vP 1 0), (3, vP 2 0), (5, vN i), (6, .bool false), (7, vI 3)]) [some ⟨a3s L, 46, false, false⟩, rB [vN X, vN Y, vN Z, vS 0 L.length] 29, rB [vI a, vI b, vI c] 46] (by omega) (wkSame [2, 3, 5, 6, 7] (by kernel_rfl)) ⟨3, false, (by omega), (by cases t <;> first | contradiction | (rw [inF, ← ht]; simp [n3]; done) | (rw [inF, ← ht]; simp_all [n3]; done)), rfl, rfl, rfl⟩
     ·
      have h4k := h4
      (try simp only [bs0, bs1, bs2, bs3, beq_iff_eq, bne_iff_ne, beq_eq_false_iff_ne, bne_eq_false_iff_eq, ne_eq, bs4, bs5, bs6, bs7, bs8, bs9, bs10, bs11, ge_iff_le, gt_iff_lt] at h4)
      refine segWH 7 (T1 := (mkT 36 [(2, vP 1 0), (3, vP 2 0), (5, vN i), (6, .bool true), (7, vI 2), (16, .bool true), (19, .bool true), (20, .bool true), (21, vI 2), (22, vP 2 2), (23, vI c), (24, vP 1 3), (25, vS 0 L.length), (26, vN i), (27, vI 2)])) (by kernel_rfl) ?_
      refine rW (m := ⟨[], [], []⟩) (v := vP 0 (i * 3)) rfl (by kernel_rfl) (stId (eIdxS (ad := ⟨0, 0, none⟩) (n := L.length) (m := 0) (k := .i64) (c := ((i : Nat) : Int)) (j := i) (o := i * 3) (by kernel_rfl) (by kernel_rfl) ti22 ti46 (rfl) (by omega) (by exact Nat.zero_add _)) rfl (by kernel_rfl) (by kernel_rfl) (by kernel_rfl)) (by kernel_rfl) nr0 ?_
      refine segWH 1 (T1 := (mkT 36 [(2, vP 1 0), (3, vP 2 0), (5, vN i), (6, .bool true), (7, vI 2), (16, .bool true), (19, .bool true), (20, .bool true), (21, vI 2), (22, vP 2 2), (23, vI c), (24, vP 1 3), (25, vS 0 L.length), (26, vN i), (27, vI 2), (28, vP 0 (i * 3)), (29, vP 0 (i * 3 + 2))])) (by kernel_rfl) ?_
      refine rW (m := ⟨[], [], [0]⟩) (v := vI ((L.getD i default).z)) rfl (by kernel_rfl) (stId (eLdA3i (ad := ⟨0, i * 3 + 2, none⟩) (r := ⟨a3s L, 46, false, false⟩) (L := L) (j := i) (i := 2) (by kernel_rfl) (by kernel_rfl) rfl (by first | rfl | omega) (by omega) ti3 rfl rfl) rfl (by kernel_rfl) (by kernel_rfl) (by kernel_rfl)) (by kernel_rfl) nr0 ?_
      refine rW (m := ⟨[], [], []⟩) (v := vI (2 * ((L.getD i default).z))) rfl (by kernel_rfl) (stId (eMul (k := .i64) (a := 2) (b := ((L.getD i default).z)) (c := (2 * ((L.getD i default).z))) (by kernel_rfl) (by kernel_rfl) (wr64 (by omega) (by omega) (by omega))) rfl (by kernel_rfl) (by kernel_rfl) (by kernel_rfl)) (by kernel_rfl) nr0 ?_
      refine rW (m := ⟨[], [], []⟩) (v := vI (c - (2 * ((L.getD i default).z)))) rfl (by kernel_rfl) (stId (eSub (k := .i64) (a := c) (b := (2 * ((L.getD i default).z))) (c := (c - (2 * ((L.getD i default).z)))) (by kernel_rfl) (by kernel_rfl) (wr64 (by omega) (by omega) (by omega))) rfl (by kernel_rfl) (by kernel_rfl) (by kernel_rfl)) (by kernel_rfl) nr0 ?_
      refine rW (m := ⟨[], [], []⟩) (v := .bool (inR (c - (2 * ((L.getD i default).z))) 0 2)) rfl (by kernel_rfl) (stQ (args := [vI (c - (2 * ((L.getD i default).z))), vI 0, vI 2]) rfl (by kernel_rfl) (Any.lay0 [] (l1InB (c - (2 * ((L.getD i default).z))) 0 2) trivial rfl trivial rfl (by first | rfl | simp [mpV, mpA, mpS, mpP, renId, shift]) rfl) rfl (by kernel_rfl) (by kernel_rfl)) (by kernel_rfl) nr0 ?_
      refine segEndW [2, 3, 5, 6, 7] (T1 := (mkT 36 [(2, vP 1 0), (3, vP 2 0), (5, vN i), (6, .bool (inR (c - (2 * ((L.getD i default).z))) 0 2)), (7, vI 2)])) (H1 := [some ⟨a3s L, 46, false, false⟩, rB [vN X, vN Y, vN Z, vS 0 L.length] 29, rB [vI a, vI b, vI c] 46]) (by kernel_rfl) ?_
      refine kBlk ?_
      refine kSeq ?_
      refine cReg ?_
      refine segEndH [2, 3, 5, 6, 7] (T1 := (mkT 36 [(2, vP 1 0), (3, vP 2 0), (5, vN i), (6, .bool (inR (c - (2 * ((L.getD i default).z))) 0 2)), (7, vI 3)])) (by kernel_rfl) ?_
      exact kLoop (3 - 3) (mkT 36 [(2, vP 1 0), (3, vP 2 0), (5, vN i), (6, .bool (inR (c - (2 * ((L.getD i default).z))) 0 2)), (7, vI 3)]) [some ⟨a3s L, 46, false, false⟩, rB [vN X, vN Y, vN Z, vS 0 L.length] 29, rB [vI a, vI b, vI c] 46] (by omega) (wkSame [2, 3, 5, 6, 7] (by kernel_rfl)) ⟨3, (inR (c - (2 * ((L.getD i default).z))) 0 2), (by omega), (by cases t <;> first | contradiction | (rw [inF, ← ht]; simp [n3]; done) | (rw [inF, ← ht]; simp_all [n3]; done)), rfl, rfl, rfl⟩
    ·
     refine cSeq ?_
     refine cSeq ?_
     refine cReg ?_
     refine segEndH [2, 3, 5, 6, 7, 16] (T1 := (mkT 36 [(2, vP 1 0), (3, vP 2 0), (5, vN i), (6, .bool t), (7, vI 3), (16, .bool false)])) (by kernel_rfl) ?_
     refine kSeq ?_
     refine cFalse (by kernel_rfl) ?_
     refine cExit ?_
     refine kSeqE ?_
     refine kLoopE ?_
     refine kBlkHit ?_
     refine kSeq ?_
     refine cSeq ?_
     refine cReg ?_
     refine segEndH [2, 3, 5, 35] (T1 := (mkT 36 [(2, vP 1 0), (3, vP 2 0), (5, vN i), (35, .bool t)])) (by kernel_rfl) ?_
     refine kSeq ?_
     cases h5 : (t : Bool)
     ·
      have h5k := h5
      (try simp only [bs0, bs1, bs2, bs3, beq_iff_eq, bne_iff_ne, beq_eq_false_iff_ne, bne_eq_false_iff_eq, ne_eq, bs4, bs5, bs6, bs7, bs8, bs9, bs10, bs11, ge_iff_le, gt_iff_lt] at h5)
      refine cFalse (by kernel_rfl) ?_
      refine cSkip ?_
      refine kBlk ?_
      refine kSeq ?_
      refine cReg ?_
      refine segH 1 (T1 := (mkT 36 [(2, vP 1 0), (3, vP 2 0), (5, vN i), (13, vN i), (35, .bool false)])) (by kernel_rfl) ?_
      refine rOp (v := vN (i + 1)) (by kernel_rfl) (eAdd (k := .i64) (a := ((i : Nat) : Int)) (b := 1) (c := ((i + 1 : Nat) : Int)) (by kernel_rfl) (by kernel_rfl) (wr64 (by omega) (by omega) (by omega))) ?_
      refine segEndH [2, 3, 5] (T1 := (mkT 36 [(2, vP 1 0), (3, vP 2 0), (5, vN (i + 1))])) (by kernel_rfl) ?_
      exact kLoop (L.length - (i + 1)) (mkT 36 [(2, vP 1 0), (3, vP 2 0), (5, vN (i + 1))]) [some ⟨a3s L, 46, false, false⟩, rB [vN X, vN Y, vN Z, vS 0 L.length] 29, rB [vI a, vI b, vI c] 46] (by omega) (wkSame [2, 3, 5] (by kernel_rfl)) ⟨(i + 1), (by omega), (fun j hj => by rcases Nat.lt_or_ge j i with h | h; exact ho j h; (have e : j = i := by omega); subst e; rw [← inF_three, ← ht]; assumption), rfl, rfl, rfl⟩
     ·
      have h5k := h5
      (try simp only [bs0, bs1, bs2, bs3, beq_iff_eq, bne_iff_ne, beq_eq_false_iff_ne, bne_eq_false_iff_eq, ne_eq, bs4, bs5, bs6, bs7, bs8, bs9, bs10, bs11, ge_iff_le, gt_iff_lt] at h5)
      refine cTrue (by kernel_rfl) ?_
      refine cSeq ?_
      refine cReg ?_
      refine segEndH [4] (T1 := (mkT 36 [(4, .bool true)])) (by kernel_rfl) ?_
      refine kSeq ?_
      refine cRet ?_
      refine kBlkR ?_
      refine kSeqR ?_
      refine kLoopR ?_
      refine kBlkR ?_
      refine kSeqR ?_
      have he0 : (true : Bool) = inC L a b c := by first | exact (inC_yes (i := i) (by omega) (by rw [← inF_three, ← ht]; assumption)).symm | exact (inC_no (fun j hj => ho j (by omega))).symm
      refine endCast (v1 := .bool true) (H1 := [some ⟨a3s L, 46, false, false⟩]) (by first | rfl | ((try rw [← he0]); done) | (simp only [← he0]; done)) (by first | rfl | ((try rw [← he0]); done) | (simp only [← he0]; done)) ?_
      exact endQ (Or.inr rfl) (l := [.bool true]) [rB [vN X, vN Y, vN Z, vS 0 L.length] 29, rB [vI a, vI b, vI c] 46] (by kernel_rfl) (by first | rfl | kernel_rfl) rfl rfl hcl rfl
end Go.Proofs.Yteohlhpdbnhbaaa.F
set_option linter.unusedVariables false
set_option linter.unusedSimpArgs false
namespace Go.Am
open Go.RowKit Go.ChangeShapes Go.WideShapes Go.ChangeAt
section
variable {H : Type} {enc : TypeId × Value → H} {P : Program} {W : World} {base : Nat} {spare : Nat → Bool} {held : Bool}
theorem a3_of_trod {ta ti : TypeId} {fuel : Nat} {cs : List Value} {x : DataW H × List MemPlace} (hta : P.underlying ta = some (.array 3 ti)) (hti : P.underlying ti = some (.int .i64)) (hci : P.cellsOf ti = 1) (hca : P.cellsOf ta = 3)
    (h : DataW.trod enc P W base spare held fuel ta cs = some x) : ∃ c : A3, cs = c.cs := by
  obtain ⟨xs, m, _, _, hl, hx, hel⟩ := DataW.trod_array hta h
  rw [hca] at hl
  have one : ∀ i, i < 3 → ∃ n : Int, cs[i]? = some (.int .i64 n) := by
    intro i hi
    have hi' := hel i hi
    rw [hci, Nat.mul_one] at hi'
    rw [List.getElem?_eq_getElem (by omega)] at hi'
    obtain ⟨n, hn, _⟩ := DataW.trod_int hti hi'
    refine ⟨n, ?_⟩
    have h2 : ((cs.drop i).take 1)[0]? = some (.int .i64 n) := by rw [hn]; rfl
    rw [List.getElem?_take_of_lt (by omega), List.getElem?_drop, Nat.add_zero] at h2
    exact h2
  obtain ⟨a, ha⟩ := one 0 (by omega)
  obtain ⟨b, hb⟩ := one 1 (by omega)
  obtain ⟨c, hc⟩ := one 2 (by omega)
  have e : ∃ u v w, cs = [u, v, w] := by
    clear ha hb hc one hel h
    match cs, hl with
    | [u, v, w], _ => exact ⟨u, v, w, rfl⟩
  obtain ⟨u, v, w, rfl⟩ := e
  simp only [List.getElem?_cons_zero, List.getElem?_cons_succ, Option.some.injEq] at ha hb hc
  subst ha hb hc
  exact ⟨⟨a, b, c⟩, rfl⟩
theorem open_a3s {ts ta ti : TypeId} {fuel : Nat} {cs : List Value} {x : DataW H × List MemPlace} (hts : P.underlying ts = some (.slice ta)) (hta : P.underlying ta = some (.array 3 ti)) (hti : P.underlying ti = some (.int .i64)) (hci : P.cellsOf ti = 1) (hca : P.cellsOf ta = 3)
    (h : DataW.trod enc P W base spare held fuel ts cs = some x) :
    cs = [.slice none 0 0] ∨ ∃ (a : Addr) (cap : Nat) (L : List A3), cs = [.slice (some a) L.length cap] ∧ L.length ≤ cap ∧ cap ≤ maxLen ∧ ∀ (j : Nat) (v : Value), (a3s L)[j]? = some v → W.cell? (a.add j) = some v := by
  rcases DataW.trod_slice hts h with h0 | ⟨a, len, cap, elems, rest, n, _, rfl, rfl, hb, hl, hm, hlen, hel, _, _⟩
  · exact Or.inl h0.1
  right
  have each : ∀ i, i < len → ∃ c : A3, W.cells? base (a.add (i * 3)) 3 = some c.cs := by
    intro i hi
    have := hel i hi
    rw [hca, List.getElem?_eq_getElem (by omega), Option.bind_eq_some_iff] at this
    obtain ⟨cs', h1, h2⟩ := this
    obtain ⟨c, rfl⟩ := a3_of_trod hta hti hci hca h2
    exact ⟨c, h1⟩
  have key : ∀ k, k ≤ len → ∃ L : List A3, L.length = k ∧ ∀ (i : Nat) (c : A3), L[i]? = some c → W.cells? base (a.add (i * 3)) 3 = some c.cs := by
    intro k
    induction k with
    | zero => exact fun _ => ⟨[], rfl, fun i c hc => by simp at hc⟩
    | succ k ih =>
      intro hk
      obtain ⟨L, hL, hall⟩ := ih (by omega)
      obtain ⟨c, hc⟩ := each k (by omega)
      refine ⟨L ++ [c], by simp [hL], fun i d hd => ?_⟩
      rcases Nat.lt_or_ge i L.length with h | h
      · rw [List.getElem?_append_left h] at hd; exact hall i d hd
      · rw [List.getElem?_append_right h] at hd
        have : i = k := by
          have := lt_of_some hd
          simp at this
          omega
        subst this
        rw [hL, Nat.sub_self] at hd
        simp at hd
        subst hd
        exact hc
  obtain ⟨L, hL, hall⟩ := key len (Nat.le_refl _)
  refine ⟨a, cap, L, by rw [hL], by omega, hm, fun j v hv => ?_⟩
  have hj := lt_of_some hv
  rw [a3s_length] at hj
  have hi : j / 3 < L.length := by omega
  have hcell := a3s_cell L (j / 3) hi (j % 3) (Nat.mod_lt _ (by omega))
  rw [show j / 3 * 3 + j % 3 = j by omega, hv] at hcell
  have hc := hall (j / 3) (L.getD (j / 3) default) (by rw [List.getD_eq_getElem?_getD, List.getElem?_eq_getElem hi]; rfl)
  have h3 := (World.cells?_some hc)
  have hget := h3.2.2
  have := hget (j % 3) (Nat.mod_lt _ (by omega))
  rw [← hcell] at this
  have e : (a.add (j / 3 * 3)).add (j % 3) = a.add j := by
    unfold Addr.add
    by_cases h1 : j / 3 * 3 = 0
    · rw [if_pos h1]
      have : j % 3 = j := by omega
      rw [this]
    · rw [if_neg h1]
      by_cases h2 : j % 3 = 0
      · rw [if_pos h2, if_neg (by omega)]
        have : j / 3 * 3 = j := by omega
        rw [this]
      · rw [if_neg h2, if_neg (by omega)]
        simp only [Addr.mk.injEq, and_true, true_and]
        omega
  rw [e] at this
  exact this
end
theorem repRow_a3s {P : Program} {ρ : Ren} {W : World} {a : Addr} {cap : Nat} {L : List A3} {ta : TypeId} {n : Nat} (hca : P.cellsOf ta = 3) (hs : P.underlying ta ≠ none → W.has P .any n a ta cap) (hu : P.underlying ta ≠ none)
    (hcell : ∀ (j : Nat) (v : Value), (a3s L)[j]? = some v → W.cell? (a.add j) = some v) (hlen : L.length ≤ cap) : RepRow P ρ W ⟨a.block, a.off, cap⟩ ⟨a3s L, ta, false, false⟩ := by
  obtain ⟨_, hspot, row, cells, hsh, _⟩ := hs hu
  unfold World.shape? at hsh
  split at hsh
  · rename_i cur e fz hb
    refine ⟨⟨cur, e, fz, hb, fun j v hv => ?_, fun h => (by cases h), fun _ => ?_⟩, fun v hv => ?_⟩
    · have h := hcell j v hv
      have hfl := flatA3 L ta false false v (List.mem_of_getElem? hv)
      rw [mapS, hfl.2]
      unfold World.cell? at h
      have hab : (a.add j).block = a.block := by unfold Addr.add; split <;> rfl
      have hao : (a.add j).off = a.off + j := by
        unfold Addr.add
        split
        · rename_i h0; rw [h0, Nat.add_zero]
        · rfl
      rw [hab, hb] at h
      simp only at h
      split at h
      · cases h
      · rw [hao] at h; exact h
    · simp only [a3s_length, hca]; omega
    · exact scal_flat ((List.all_eq_true.1 (a3s_all L)) v hv)
  · cases hsh
theorem rep_ro {P : Program} {ρ : Ren} {W : World} {H : Heap} (hf : FlatH H) (h : ∀ (i : Nat) (r : Row), H[i]? = some (some r) → r.wr = false ∧ RepRow P ρ W (ρ i) r) : Rep P ρ H W :=
  ⟨fun i r hi => (h i r hi).2, (fun i j r s hi hj hw => by rw [(h i r hi).1] at hw; cases hw), hf.closed⟩
theorem open_heap {HT : Type} {enc : TypeId × Value → HT} {P : Program} {W : World} {base b0 : Nat} {spare : Nat → Bool} {held : Bool} {t ti ts ta : TypeId} {f0 f1 f2 f3 : Field} {v : Value} {d : DataW HT} {ps : List MemPlace}
    (hu : P.underlying t = some (.struct #[f0, f1, f2, f3])) (h0 : f0.type = ti ∧ f0.offset = 0) (h1 : f1.type = ti ∧ f1.offset = 1) (h2 : f2.type = ti ∧ f2.offset = 2) (h3 : f3.type = ts ∧ f3.offset = 3)
    (hts : P.underlying ts = some (.slice ta)) (hta : P.underlying ta = some (.array 3 ti)) (hti : P.underlying ti = some (.int .i64)) (hci : P.cellsOf ti = 1) (hca : P.cellsOf ta = 3) (hcs : P.cellsOf ts = 1) (hct : P.cellsOf t = 4)
    (htys : P.cellTypes P.depth t = some [ti, ti, ti, ts]) (hval : Value.okWide P W .any b0 t v) (hd : DataW.Trod enc P W base spare held t v d ps) :
    ∃ x y z : Int, (Lit.int .i64 x).wf = true ∧ (Lit.int .i64 y).wf = true ∧ (Lit.int .i64 z).wf = true ∧ (v = .agg #[.int .i64 x, .int .i64 y, .int .i64 z, .slice none 0 0] ∨
      ∃ (a : Addr) (cap : Nat) (L : List A3), v = .agg #[.int .i64 x, .int .i64 y, .int .i64 z, .slice (some a) L.length cap] ∧ L.length ≤ cap ∧ cap ≤ maxLen ∧ a.spot = none ∧ W.has P .any b0 a ta cap ∧ ∀ (j : Nat) (u : Value), (a3s L)[j]? = some u → W.cell? (a.add j) = some u) := by
  unfold Value.okWide at hval
  rw [hu] at hval
  simp only at hval
  obtain ⟨cs, rfl, hsz, ts', hty, _, hok⟩ := hval
  obtain ⟨fuel, hd⟩ := hd
  obtain ⟨xs, m, _, _, hlen, hxs, hel⟩ := DataW.trod_struct hu hd
  rw [hct] at hsz
  obtain ⟨l, rfl⟩ : ∃ l, cs = List.toArray l := ⟨cs.toList, by simp⟩
  match l, hsz with
  | [c0, c1, c2, c3], _ =>
    have el : ∀ (i : Nat) (f : Field), #[f0, f1, f2, f3][i]? = some f → ∃ y, DataW.trod enc P W base spare held m f.type (([c0, c1, c2, c3].drop f.offset).take (P.cellsOf f.type)) = some y := by
      intro i f hf
      have h := hel i f hf
      have hi : i < xs.length := by rw [hxs]; exact (Array.getElem?_eq_some_iff.1 hf).1
      rw [List.getElem?_eq_getElem hi] at h
      exact ⟨_, h⟩
    obtain ⟨y0, e0⟩ := el 0 f0 rfl
    obtain ⟨y1, e1⟩ := el 1 f1 rfl
    obtain ⟨y2, e2⟩ := el 2 f2 rfl
    obtain ⟨y3, e3⟩ := el 3 f3 rfl
    rw [h0.1, h0.2, hci] at e0
    rw [h1.1, h1.2, hci] at e1
    rw [h2.1, h2.2, hci] at e2
    rw [h3.1, h3.2, hcs] at e3
    simp only [List.drop_zero, List.drop_succ_cons, List.take_succ_cons, List.take_zero] at e0 e1 e2 e3
    obtain ⟨x, hx, _, wx⟩ := DataW.trod_int hti e0
    obtain ⟨y, hy, _, wy⟩ := DataW.trod_int hti e1
    obtain ⟨z, hz, _, wz⟩ := DataW.trod_int hti e2
    simp at hx hy hz
    subst hx hy hz
    refine ⟨x, y, z, wx, wy, wz, ?_⟩
    rcases open_a3s hts hta hti hci hca e3 with h | ⟨a, cap, L, h, hl, hm, hcell⟩
    · simp at h; subst h; exact Or.inl rfl
    · simp at h
      subst h
      right
      rw [hty] at htys
      simp only [Option.some.injEq] at htys
      subst htys
      obtain ⟨u, hu3, hc⟩ := hok 3 (.slice (some a) L.length cap) rfl
      simp at hu3
      subst hu3
      have hc2 : Cell.ok P W .any b0 ts (.slice (some a) L.length cap) := by
        unfold Cell.okWide at hc
        rw [hts] at hc
        exact hc
      unfold Cell.ok at hc2
      rw [hts] at hc2
      exact ⟨a, cap, L, rfl, hl, hm, hc2.2.2.2.1, hc2.2.2, hcell⟩
theorem rep_one {P : Program} {W : World} {a : Addr} {cap b0 : Nat} {L : List A3} {ta : TypeId} (hca : P.cellsOf ta = 3) (hs : W.has P .any b0 a ta cap) (hu : P.underlying ta ≠ none)
    (hcell : ∀ (j : Nat) (v : Value), (a3s L)[j]? = some v → W.cell? (a.add j) = some v) (hlen : L.length ≤ cap) : Rep P (fun _ => ⟨a.block, a.off, cap⟩) [some ⟨a3s L, ta, false, false⟩] W :=
  rep_ro (FlatH.nil.cons (flatA3 _ _ _ _)) fun i r hi => by
    cases i with
    | zero => simp at hi; subst hi; exact ⟨rfl, repRow_a3s hca (fun _ => hs) hu hcell hlen⟩
    | succ i => simp at hi
end Go.Am
namespace Go.Am
open Go.RowKit Go.ChangeShapes Go.WideShapes Go.ChangeAt
end Go.Am
namespace Go.Am
open Go.RowKit Go.ChangeShapes Go.WideShapes Go.ChangeAt
end Go.Am
set_option linter.unusedVariables false
set_option linter.unusedSimpArgs false
namespace Go.Am
open Go.RowKit Go.ChangeShapes Go.WideShapes Go.ChangeAt
end Go.Am
set_option linter.unusedVariables false
set_option linter.unusedSimpArgs false
namespace Go.Am
open Go.RowKit Go.ChangeShapes Go.WideShapes Go.ChangeAt
end Go.Am
set_option linter.unusedVariables false
set_option linter.unusedSimpArgs false
namespace Go.Am
open Go.RowKit
theorem repRow_flat {P : Program} {ρ ρ' : Ren} {W : World} {l : Loc} {r : Row} (hf : FlatRow r) (h : RepRow P ρ W l r) : RepRow P ρ' W l r := by
  obtain ⟨⟨cur, e, fz, hb, hc, hw, hn⟩, hs⟩ := h
  refine ⟨⟨cur, e, fz, hb, fun j v hv => ?_, hw, hn⟩, hs⟩
  have h1 := hc j v hv
  have h2 := (hf v (List.mem_of_getElem? hv)).2
  rw [mapS, h2] at h1
  rw [mapS, h2]; exact h1
theorem Sound.of1 {P : Program} {f : FuncId} {args : List Value} {v : Value} {r : Row} (hcan : Callable P f) (hf : FlatRow r) (hw : r.wr = false) (hv : fixV v = true)
    (h : ∀ (l : Loc) W, (∀ ρ, RepRow P ρ W l r) → Calls P f (args.map (mapV fun _ => l)).toArray W fun e W' => e = .returned v ∧ Below W.heap.size W W') (ha : ∀ x ∈ args, ∀ i ∈ idsV x, i < 1) : Sound P f args [some r] v [some r] := by
  refine ⟨hcan, fun ρ W hr _ => ?_⟩
  have hrow := hr.row 0 r rfl
  have e : args.map (mapV ρ) = args.map (mapV fun _ => ρ 0) := List.map_congr_left fun x hx => mapV_agree fun i hi => by
    have := ha x hx i hi
    rw [show i = 0 by omega]
  rw [e]
  refine (h (ρ 0) W fun ρ'' => repRow_flat hf hrow).mono fun e W' hh => ?_
  obtain ⟨rfl, bel⟩ := hh
  have hlt := hrow.lt
  refine ⟨ρ, by rw [mapV, (fixV_spec hv).2], ⟨fun i hi => rfl, Nat.le_refl _, ⟨fun i s hi => ?_, hr.sep, hr.cl⟩, bel.os, bel.tape, bel.output, bel.size, fun k hk _ => bel.block k hk, fun i s hi hs => ?_⟩, fun i hi => ?_⟩
  · cases i with
    | zero =>
      simp at hi; subst hi
      obtain ⟨⟨cur, e, fz, hb, hc, hwr, hn⟩, hs⟩ := hrow
      exact ⟨⟨cur, e, fz, (bel.block _ hlt).trans hb, hc, hwr, hn⟩, hs⟩
    | succ i => simp at hi
  · exact Or.inr ⟨i, s, hi, hs, rfl⟩
  · rw [(fixV_spec hv).1] at hi
    cases hi
end Go.Am
