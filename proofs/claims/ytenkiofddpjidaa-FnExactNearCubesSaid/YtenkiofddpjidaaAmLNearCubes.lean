/- A law, whole: the walks, and the row. No condition. -/
import Derived.Test.YtenkiofddpjidaaAmJ7
import Derived.Test.YtenkiofddpjidaaAmR
import Derived.WalkKit
import Derived.ProofKit
import Derived.OpenShut
import Derived.ShutString
import Derived.ChangeOld
import Derived.Below
import Derived.SizedLaws
set_option linter.unusedVariables false
set_option linter.unusedSimpArgs false
namespace Go.Proofs.Ytenkiofddpjidaa
open Go.Am Go.RowKit
theorem specNearCubes_yesR (X : Nat) (Y : Nat) (Z : Nat) (L : List A3) (a : Int) (b : Int) (c : Int) (R : List A3) (hs : Sides X Y Z) (hL : HeapL X Y Z L) (hh : has3 (X : Int) (Y : Int) (Z : Int) a b c = true) (hR : R = listOf X Y Z (nearTo X Y Z a b c 6 &&& setOf Y Z L)) : Sound Try.prog 27 [.agg #[vN X, vN Y, vN Z, vS 0 L.length], .agg #[vI a, vI b, vI c]] [some ⟨a3s L, 25, false, false⟩] (.tuple #[vS 1 R.length, .bool true]) [some ⟨a3s L, 25, false, false⟩, some ⟨a3s R, 25, false, true⟩] := by
  subst hR; exact specNearCubes_yes X Y Z L a b c hs hL hh

theorem implNearCubes_yesR (X : Nat) (Y : Nat) (Z : Nat) (L : List A3) (a : Int) (b : Int) (c : Int) (R : List A3) (hs : Sides X Y Z) (hL : HeapL X Y Z L) (hh : has3 (X : Int) (Y : Int) (Z : Int) a b c = true) (hR : R = listOf X Y Z (nearTo X Y Z a b c 6 &&& setOf Y Z L)) : Sound Try.prog 28 [.agg #[vN X, vN Y, vN Z, vS 0 L.length], .agg #[vI a, vI b, vI c]] [some ⟨a3s L, 25, false, false⟩] (.tuple #[vS 1 R.length, .bool true]) [some ⟨a3s L, 25, false, false⟩, some ⟨a3s R, 25, false, true⟩] := by
  subst hR; exact implNearCubes_yes X Y Z L a b c hs hL hh

set_option maxRecDepth 100000 in
set_option maxHeartbeats 4000000 in
theorem lawNearCubes_big_s (x : Int) (y : Int) (z : Int) (L : List A3) (a : Int) (b : Int) (c : Int) (hl : 1048576 < L.length) (hm : L.length ≤ 9223372036854775807) : Sound Try.prog 6 [.agg #[vI x, vI y, vI z, vS 0 L.length], .agg #[vI a, vI b, vI c]] [some ⟨a3s L, 25, false, false⟩] (.bool true) [some ⟨a3s L, 25, false, false⟩] := by
  refine sound_intro (C := cx) Try.func6 rfl (by kernel_rfl) fun hcl => ?_
  refine cSeq ?_
  refine cReg ?_
  refine segEnd [2, 3] (T1 := (mkT 104 [(2, vP 1 0), (3, vP 2 0)])) (H1 := [some ⟨a3s L, 25, false, false⟩, rB [vI x, vI y, vI z, vS 0 L.length] 24, rB [vI a, vI b, vI c] 25]) (by kernel_rfl) ?_
  refine kSeq ?_
  refine cSeq ?_
  refine cReg ?_
  refine segEndH [2, 3, 5] (T1 := (mkT 104 [(2, vP 1 0), (3, vP 2 0), (5, vI 1048576)])) (by kernel_rfl) ?_
  refine kSeq ?_
  refine cSeq ?_
  refine cReg ?_
  refine segH 2 (T1 := (mkT 104 [(2, vP 1 0), (3, vP 2 0), (5, vI 1048576), (16, .agg #[vI x, vI y, vI z, vS 0 L.length]), (17, vI 1048576)])) (by kernel_rfl) ?_
  refine rCall (v := vI (-1)) (args := [.agg #[vI x, vI y, vI z, vS 0 L.length], vI 1048576]) (by kernel_rfl) rfl (by kernel_rfl) (Sound.lay0 [0] (szHeapG x y z L 1048576 (by first | omega | assumption | (simp; done)) (by first | assumption | omega | rfl | decide | exact HeapL.list _ _ _ _ | exact HeapL.nil _ _ _ | exact HeapL.all _ _ _ | (apply HeapL.lt64 <;> assumption) | (repeat' (first | assumption | apply or_lt64 | apply and_lt64 | apply andn_lt64 | apply pow_lt64 | (apply HeapL.lt64 <;> assumption)))) (by first | omega | assumption | decide)) ⟨rdF false (flatA3 _ _ _ _) rfl rfl, trivial⟩ rfl ⟨clF (flatA3 _ _ _ _), trivial⟩ rfl (by first | rfl | simp [mpV, mpA, mpS, mpP, renId, shift]) rfl) ?_
  refine segEndH [2, 3, 5] (T1 := (mkT 104 [(2, vP 1 0), (3, vP 2 0), (5, vI (-1))])) (by kernel_rfl) ?_
  refine kSeq ?_
  refine cSeq ?_
  refine cSeq ?_
  refine cReg ?_
  refine segEndH [2, 3, 20] (T1 := (mkT 104 [(2, vP 1 0), (3, vP 2 0), (20, .bool true)])) (by kernel_rfl) ?_
  refine kSeq ?_
  refine cTrue (by kernel_rfl) ?_
  refine cSeq ?_
  refine cReg ?_
  refine segEndH [4] (T1 := (mkT 104 [(4, .bool true)])) (by kernel_rfl) ?_
  refine kSeq ?_
  refine cRet ?_
  refine kSeqR ?_
  -- end
  exact endQ (Or.inr rfl) (l := [.bool true]) [rB [vI x, vI y, vI z, vS 0 L.length] 24, rB [vI a, vI b, vI c] 25] (by kernel_rfl) (by first | rfl | kernel_rfl) rfl rfl hcl rfl

set_option maxRecDepth 100000 in
set_option maxHeartbeats 4000000 in
theorem lawNearCubes_no_s (x : Int) (y : Int) (z : Int) (L : List A3) (a : Int) (b : Int) (c : Int) (hl : L.length ≤ 1048576) (hv : (isHeapB x y z L && has3 x y z a b c) = false) : Sound Try.prog 6 [.agg #[vI x, vI y, vI z, vS 0 L.length], .agg #[vI a, vI b, vI c]] [some ⟨a3s L, 25, false, false⟩] (.bool true) [some ⟨a3s L, 25, false, false⟩] := by
  refine sound_intro (C := cx) Try.func6 rfl (by kernel_rfl) fun hcl => ?_
  refine cSeq ?_
  refine cReg ?_
  refine segEnd [2, 3] (T1 := (mkT 104 [(2, vP 1 0), (3, vP 2 0)])) (H1 := [some ⟨a3s L, 25, false, false⟩, rB [vI x, vI y, vI z, vS 0 L.length] 24, rB [vI a, vI b, vI c] 25]) (by kernel_rfl) ?_
  refine kSeq ?_
  refine cSeq ?_
  refine cReg ?_
  refine segEndH [2, 3, 5] (T1 := (mkT 104 [(2, vP 1 0), (3, vP 2 0), (5, vI 1048576)])) (by kernel_rfl) ?_
  refine kSeq ?_
  refine cSeq ?_
  refine cReg ?_
  refine segH 2 (T1 := (mkT 104 [(2, vP 1 0), (3, vP 2 0), (5, vI 1048576), (16, .agg #[vI x, vI y, vI z, vS 0 L.length]), (17, vI 1048576)])) (by kernel_rfl) ?_
  refine rCall (v := vN (1048576 - L.length)) (args := [.agg #[vI x, vI y, vI z, vS 0 L.length], vI 1048576]) (by kernel_rfl) rfl (by kernel_rfl) (Sound.lay0 [0] (szHeapS x y z L 1048576 (by first | omega | assumption | (simp; done)) (by first | omega | assumption | decide)) ⟨rdF false (flatA3 _ _ _ _) rfl rfl, trivial⟩ rfl ⟨clF (flatA3 _ _ _ _), trivial⟩ rfl (by first | rfl | simp [mpV, mpA, mpS, mpP, renId, shift]) rfl) ?_
  refine segEndH [2, 3, 5] (T1 := (mkT 104 [(2, vP 1 0), (3, vP 2 0), (5, vN (1048576 - L.length))])) (by kernel_rfl) ?_
  refine kSeq ?_
  refine cSeq ?_
  refine cSeq ?_
  refine cReg ?_
  refine segEndH [2, 3, 20] (T1 := (mkT 104 [(2, vP 1 0), (3, vP 2 0), (20, .bool (decide (((1048576 - L.length : Nat) : Int) < 0)))])) (by kernel_rfl) ?_
  refine kSeq ?_
  cases h1 : (decide (((1048576 - L.length : Nat) : Int) < 0) : Bool)
  ·
    (try simp only [Bool.not_eq_true', Bool.not_eq_false', decide_eq_true_eq, decide_eq_false_iff_not, beq_iff_eq, bne_iff_ne, beq_eq_false_iff_ne, bne_eq_false_iff_eq, ne_eq, Decidable.not_not, Bool.and_eq_true, Bool.and_eq_false_imp, Bool.or_eq_true, Bool.or_eq_false_iff, Bool.not_eq_true, Int.not_lt, Int.not_le, ge_iff_le, gt_iff_lt] at h1)
    refine cFalse (by kernel_rfl) ?_
    refine cSkip ?_
    refine kSeq ?_
    refine cSeq ?_
    refine cRegW (N := 5) [⟨[], [], [1]⟩, ⟨[3], [], [0]⟩, ⟨[], [], [2]⟩, ⟨[], [], []⟩, ⟨[4], [], [3]⟩, ⟨[], [], []⟩, ⟨[], [], []⟩, ⟨[], [], []⟩, ⟨[], [], []⟩, ⟨[], [], []⟩] 2 [3, 4] (by rfl) (by rfl) (by kernel_rfl) (by kernel_rfl) (by kernel_rfl) ⟨nmsF (flatA3 _ _ _ _), ⟨nmsX (by kernel_rfl), ⟨nmsX (by kernel_rfl), trivial⟩⟩⟩ ?_
    refine segWH 1 (T1 := (mkT 104 [(2, vP 1 0), (3, vP 2 0), (20, .bool false), (22, .agg #[vI x, vI y, vI z, vS 0 L.length])])) (by kernel_rfl) ?_
    refine rW (m := ⟨[3], [], [0]⟩) (v := .agg #[vI x, vI y, vI z, vS 3 L.length]) rfl (by kernel_rfl) (stN (i := 3) (E := [some ⟨a3s L, 25, false, true⟩]) (v1 := .agg #[vI x, vI y, vI z, vS 5 L.length]) (args := [.agg #[vI x, vI y, vI z, vS 0 L.length]]) rfl (by kernel_rfl) (Any.lay (E := [some ⟨a3s L, 25, false, true⟩]) (N := 5) [0] (toHeapB x y z L (by first | omega | assumption | (simp; done))) ⟨rdF false (flatA3 _ _ _ _) rfl rfl, trivial⟩ rfl ⟨clF (flatA3 _ _ _ _), trivial⟩ rfl (by first | rfl | simp [mpV, mpA, mpS, mpP, renId, shift]) (by first | rfl | simp [mpV, mpA, mpS, mpP, renId, shift]) ⟨enF (flatA3 _ _ _ _) (Or.inl rfl), trivial⟩) rfl (by kernel_rfl) (by kernel_rfl) (by kernel_rfl) (by kernel_rfl) (FlatH.cons (flatA3 _ _ _ _) FlatH.nil)) (by kernel_rfl) (NRs.all ⟨nrOf (by rfl) (nmF (flatA3 _ _ _ _)), trivial⟩) ?_
    refine segWH 1 (T1 := (mkT 104 [(2, vP 1 0), (3, vP 2 0), (20, .bool false), (22, .agg #[vI x, vI y, vI z, vS 0 L.length]), (23, .agg #[vI x, vI y, vI z, vS 3 L.length]), (24, .agg #[vI a, vI b, vI c])])) (by kernel_rfl) ?_
    refine rW (m := ⟨[], [], []⟩) (v := .agg #[vI a, vI b, vI c]) rfl (by kernel_rfl) (stQ (args := [.agg #[vI a, vI b, vI c]]) rfl (by kernel_rfl) (Any.lay0 [] (toA3B a b c) trivial rfl trivial rfl (by first | rfl | simp [mpV, mpA, mpS, mpP, renId, shift]) (by first | rfl | simp [mpV, mpA, mpS, mpP, renId, shift])) rfl (by kernel_rfl) (by kernel_rfl)) (by kernel_rfl) nr0 ?_
    refine rW (m := ⟨[4], [], [3]⟩) (v := .tuple #[vS 4 0, .bool false]) rfl (by kernel_rfl) (stN (i := 4) (E := [some ⟨[], 25, false, true⟩]) (v1 := .tuple #[vS 5 0, .bool false]) (args := [.agg #[vI x, vI y, vI z, vS 3 L.length], .agg #[vI a, vI b, vI c]]) rfl (by kernel_rfl) (Any.lay (E := [some ⟨[], 25, false, true⟩]) (N := 5) [3] (specNearCubes_no x y z L a b c (by first | assumption | omega | rfl | decide | exact HeapL.list _ _ _ _ | exact HeapL.nil _ _ _ | exact HeapL.all _ _ _ | (apply HeapL.lt64 <;> assumption) | (repeat' (first | assumption | apply or_lt64 | apply and_lt64 | apply andn_lt64 | apply pow_lt64 | (apply HeapL.lt64 <;> assumption)))) (by first | assumption | omega | rfl | decide | exact HeapL.list _ _ _ _ | exact HeapL.nil _ _ _ | exact HeapL.all _ _ _ | (apply HeapL.lt64 <;> assumption) | (repeat' (first | assumption | apply or_lt64 | apply and_lt64 | apply andn_lt64 | apply pow_lt64 | (apply HeapL.lt64 <;> assumption))))) ⟨rdF true (flatA3 _ _ _ _) rfl rfl, trivial⟩ rfl ⟨clF (flatA3 _ _ _ _), trivial⟩ rfl (by first | rfl | simp [mpV, mpA, mpS, mpP, renId, shift]) (by first | rfl | simp [mpV, mpA, mpS, mpP, renId, shift]) ⟨enX rfl (Or.inl rfl), trivial⟩) rfl (by kernel_rfl) (by kernel_rfl) (by kernel_rfl) (by kernel_rfl) (FlatH.cons (flatRow_of rfl) FlatH.nil)) (by kernel_rfl) (NRs.all ⟨nrOf (by rfl) (nmX (by kernel_rfl)), trivial⟩) ?_
    refine segEndW [2, 3, 6, 7] (T1 := (mkT 104 [(2, vP 1 0), (3, vP 2 0), (6, vS 4 0), (7, .bool false)])) (H1 := [some ⟨a3s L, 25, false, false⟩, rB [vI x, vI y, vI z, vS 0 L.length] 24, rB [vI a, vI b, vI c] 25, some ⟨a3s L, 25, false, true⟩, some ⟨[], 25, false, true⟩]) (by kernel_rfl) ?_
    refine kSeq ?_
    refine cSeq ?_
    refine cReg ?_
    refine segH 1 (T1 := (mkT 104 [(2, vP 1 0), (3, vP 2 0), (6, vS 4 0), (7, .bool false), (29, .agg #[vI x, vI y, vI z, vS 0 L.length])])) (by kernel_rfl) ?_
    refine rCall (v := .agg #[vI x, vI y, vI z, vS 5 L.length]) (args := [.agg #[vI x, vI y, vI z, vS 0 L.length]]) (by kernel_rfl) rfl (by kernel_rfl) (Sound.lay (E := [some ⟨a3s L, 25, false, true⟩]) [0] (toHeapB x y z L (by first | omega | assumption | (simp; done))) ⟨rdF false (flatA3 _ _ _ _) rfl rfl, trivial⟩ rfl ⟨clF (flatA3 _ _ _ _), trivial⟩ rfl (by first | rfl | simp [mpV, mpA, mpS, mpP, renId, shift]) (by first | rfl | simp [mpV, mpA, mpS, mpP, renId, shift]) ⟨enF (flatA3 _ _ _ _) (Or.inl rfl), trivial⟩) ?_
    refine segEnd [2, 3, 6, 7, 8] (T1 := (mkT 104 [(2, vP 1 0), (3, vP 2 0), (6, vS 4 0), (7, .bool false), (8, vP 6 0)])) (H1 := [some ⟨a3s L, 25, false, false⟩, rB [vI x, vI y, vI z, vS 0 L.length] 24, rB [vI a, vI b, vI c] 25, some ⟨a3s L, 25, false, true⟩, some ⟨[], 25, false, true⟩, some ⟨a3s L, 25, false, true⟩, rB [vI x, vI y, vI z, vS 5 L.length] 29]) (by kernel_rfl) ?_
    refine kSeq ?_
    refine cSeq ?_
    refine cRegW (N := 7) [⟨[], [], [6]⟩, ⟨[], [], [2]⟩, ⟨[], [], []⟩, ⟨[], [], [5]⟩, ⟨[], [], []⟩, ⟨[], [], []⟩, ⟨[], [], []⟩, ⟨[], [], []⟩, ⟨[], [], []⟩] 0 [] (by rfl) (by rfl) (by kernel_rfl) (by kernel_rfl) (by kernel_rfl) ⟨nmsF (flatA3 _ _ _ _), ⟨nmsX (by kernel_rfl), ⟨nmsX (by kernel_rfl), ⟨nmsF (flatA3 _ _ _ _), ⟨nmsX (by kernel_rfl), ⟨nmsF (flatA3 _ _ _ _), ⟨nmsX (by kernel_rfl), trivial⟩⟩⟩⟩⟩⟩⟩ ?_
    refine segWH 2 (T1 := (mkT 104 [(2, vP 1 0), (3, vP 2 0), (6, vS 4 0), (7, .bool false), (8, vP 6 0), (32, .agg #[vI x, vI y, vI z, vS 5 L.length]), (33, .agg #[vI a, vI b, vI c])])) (by kernel_rfl) ?_
    refine rW (m := ⟨[], [], []⟩) (v := .agg #[vI a, vI b, vI c]) rfl (by kernel_rfl) (stQ (args := [.agg #[vI a, vI b, vI c]]) rfl (by kernel_rfl) (Any.lay0 [] (toA3B a b c) trivial rfl trivial rfl (by first | rfl | simp [mpV, mpA, mpS, mpP, renId, shift]) (by first | rfl | simp [mpV, mpA, mpS, mpP, renId, shift])) rfl (by kernel_rfl) (by kernel_rfl)) (by kernel_rfl) nr0 ?_
    refine rW (m := ⟨[], [], [5]⟩) (v := .tuple #[.slice none 0 0, .bool false]) rfl (by kernel_rfl) (stQ (args := [.agg #[vI x, vI y, vI z, vS 5 L.length], .agg #[vI a, vI b, vI c]]) rfl (by kernel_rfl) (Any.lay0 [5] (implNearCubes_no x y z L a b c (by first | assumption | omega | rfl | decide | exact HeapL.list _ _ _ _ | exact HeapL.nil _ _ _ | exact HeapL.all _ _ _ | (apply HeapL.lt64 <;> assumption) | (repeat' (first | assumption | apply or_lt64 | apply and_lt64 | apply andn_lt64 | apply pow_lt64 | (apply HeapL.lt64 <;> assumption)))) (by first | assumption | omega | rfl | decide | exact HeapL.list _ _ _ _ | exact HeapL.nil _ _ _ | exact HeapL.all _ _ _ | (apply HeapL.lt64 <;> assumption) | (repeat' (first | assumption | apply or_lt64 | apply and_lt64 | apply andn_lt64 | apply pow_lt64 | (apply HeapL.lt64 <;> assumption))))) ⟨rdF true (flatA3 _ _ _ _) rfl rfl, trivial⟩ rfl ⟨clF (flatA3 _ _ _ _), trivial⟩ rfl (by first | rfl | simp [mpV, mpA, mpS, mpP, renId, shift]) (by first | rfl | simp [mpV, mpA, mpS, mpP, renId, shift])) rfl (by kernel_rfl) (by kernel_rfl)) (by kernel_rfl) nr0 ?_
    refine segEndWH [2, 3, 6, 7, 8, 9, 10] (T1 := (mkT 104 [(2, vP 1 0), (3, vP 2 0), (6, vS 4 0), (7, .bool false), (8, vP 6 0), (9, .slice none 0 0), (10, .bool false)])) (by kernel_rfl) ?_
    refine kSeq ?_
    refine cSeq ?_
    refine cSeq ?_
    refine cReg ?_
    refine segH 2 (T1 := (mkT 104 [(2, vP 1 0), (3, vP 2 0), (6, vS 4 0), (7, .bool false), (8, vP 6 0), (9, .slice none 0 0), (10, .bool false), (38, .slice none 0 0), (39, vS 4 0)])) (by kernel_rfl) ?_
    refine rCall (v := .bool true) (args := [.slice none 0 0, vS 4 0]) (by kernel_rfl) rfl (by kernel_rfl) (Sound.lay0 [4] (eqA3SNE) ⟨rdX true rfl rfl, trivial⟩ rfl ⟨clX rfl, trivial⟩ rfl (by first | rfl | simp [mpV, mpA, mpS, mpP, renId, shift]) rfl) ?_
    refine segEndH [2, 3, 6, 7, 8, 9, 10, 46] (T1 := (mkT 104 [(2, vP 1 0), (3, vP 2 0), (6, vS 4 0), (7, .bool false), (8, vP 6 0), (9, .slice none 0 0), (10, .bool false), (46, .bool false)])) (by kernel_rfl) ?_
    refine kSeq ?_
    refine cFalse (by kernel_rfl) ?_
    refine cSkip ?_
    refine kSeq ?_
    refine cSeq ?_
    refine cSeq ?_
    refine cRegW (N := 8) [⟨[], [], [6]⟩, ⟨[], [], [1]⟩, ⟨[7], [], [0]⟩, ⟨[], [], [5, 7]⟩, ⟨[], [], []⟩] 1 [7] (by rfl) (by rfl) (by kernel_rfl) (by kernel_rfl) (by kernel_rfl) ⟨nmsF (flatA3 _ _ _ _), ⟨nmsX (by kernel_rfl), ⟨nmsX (by kernel_rfl), ⟨nmsF (flatA3 _ _ _ _), ⟨nmsX (by kernel_rfl), ⟨nmsF (flatA3 _ _ _ _), ⟨nmsX (by kernel_rfl), trivial⟩⟩⟩⟩⟩⟩⟩ ?_
    refine segWH 2 (T1 := (mkT 104 [(2, vP 1 0), (3, vP 2 0), (6, vS 4 0), (7, .bool false), (8, vP 6 0), (9, .slice none 0 0), (10, .bool false), (46, .bool false), (47, .agg #[vI x, vI y, vI z, vS 5 L.length]), (48, .agg #[vI x, vI y, vI z, vS 0 L.length])])) (by kernel_rfl) ?_
    refine rW (m := ⟨[7], [], [0]⟩) (v := .agg #[vI x, vI y, vI z, vS 7 L.length]) rfl (by kernel_rfl) (stN (i := 7) (E := [some ⟨a3s L, 25, false, true⟩]) (v1 := .agg #[vI x, vI y, vI z, vS 8 L.length]) (args := [.agg #[vI x, vI y, vI z, vS 0 L.length]]) rfl (by kernel_rfl) (Any.lay (E := [some ⟨a3s L, 25, false, true⟩]) (N := 8) [0] (toHeapB x y z L (by first | omega | assumption | (simp; done))) ⟨rdF false (flatA3 _ _ _ _) rfl rfl, trivial⟩ rfl ⟨clF (flatA3 _ _ _ _), trivial⟩ rfl (by first | rfl | simp [mpV, mpA, mpS, mpP, renId, shift]) (by first | rfl | simp [mpV, mpA, mpS, mpP, renId, shift]) ⟨enF (flatA3 _ _ _ _) (Or.inl rfl), trivial⟩) rfl (by kernel_rfl) (by kernel_rfl) (by kernel_rfl) (by kernel_rfl) (FlatH.cons (flatA3 _ _ _ _) FlatH.nil)) (by kernel_rfl) (NRs.all ⟨nrOf (by rfl) (nmF (flatA3 _ _ _ _)), trivial⟩) ?_
    refine rW (m := ⟨[], [], [5, 7]⟩) (v := .bool true) rfl (by kernel_rfl) (stQ (args := [.agg #[vI x, vI y, vI z, vS 5 L.length], .agg #[vI x, vI y, vI z, vS 7 L.length]]) rfl (by kernel_rfl) (Any.lay0 [5, 7] (eqHeapB x y z L (by first | omega | assumption | (simp; done))) ⟨rdF true (flatA3 _ _ _ _) rfl rfl, ⟨rdF true (flatA3 _ _ _ _) rfl rfl, trivial⟩⟩ rfl ⟨clF (flatA3 _ _ _ _), ⟨clF (flatA3 _ _ _ _), trivial⟩⟩ rfl (by first | rfl | simp [mpV, mpA, mpS, mpP, renId, shift]) rfl) rfl (by kernel_rfl) (by kernel_rfl)) (by kernel_rfl) nr0 ?_
    refine segEndW [2, 3, 6, 7, 8, 9, 10, 51] (T1 := (mkT 104 [(2, vP 1 0), (3, vP 2 0), (6, vS 4 0), (7, .bool false), (8, vP 6 0), (9, .slice none 0 0), (10, .bool false), (51, .bool false)])) (H1 := [some ⟨a3s L, 25, false, false⟩, rB [vI x, vI y, vI z, vS 0 L.length] 24, rB [vI a, vI b, vI c] 25, some ⟨a3s L, 25, false, true⟩, some ⟨[], 25, false, true⟩, some ⟨a3s L, 25, false, true⟩, rB [vI x, vI y, vI z, vS 5 L.length] 29, some ⟨a3s L, 25, false, true⟩]) (by kernel_rfl) ?_
    refine kSeq ?_
    refine cFalse (by kernel_rfl) ?_
    refine cSkip ?_
    refine kSeq ?_
    refine cSeq ?_
    refine cReg ?_
    refine segEndH [2, 3, 6, 7, 8, 9, 10, 11] (T1 := (mkT 104 [(2, vP 1 0), (3, vP 2 0), (6, vS 4 0), (7, .bool false), (8, vP 6 0), (9, .slice none 0 0), (10, .bool false), (11, vI 1)])) (by kernel_rfl) ?_
    refine kSeq ?_
    refine cSeq ?_
    refine cReg ?_
    refine segH 2 (T1 := (mkT 104 [(2, vP 1 0), (3, vP 2 0), (6, vS 4 0), (7, .bool false), (8, vP 6 0), (9, .slice none 0 0), (10, .bool false), (11, vI 1), (52, .agg #[vI x, vI y, vI z, vS 5 L.length]), (53, vI 1)])) (by kernel_rfl) ?_
    refine rCall (v := vN (1 + 3 * L.length)) (args := [.agg #[vI x, vI y, vI z, vS 5 L.length], vI 1]) (by kernel_rfl) rfl (by kernel_rfl) (Sound.emb_set (r := ⟨a3s L, 25, false, true⟩) (r' := ⟨a3s (mk3 1 L.length), 25, false, true⟩) 5 (markHeapB x y z L 1 (by first | omega | assumption | (simp; done)) (by first | assumption | omega | rfl | decide | exact HeapL.list _ _ _ _ | exact HeapL.nil _ _ _ | exact HeapL.all _ _ _ | (apply HeapL.lt64 <;> assumption) | (repeat' (first | assumption | apply or_lt64 | apply and_lt64 | apply andn_lt64 | apply pow_lt64 | (apply HeapL.lt64 <;> assumption))))) (flatA3 _ _ _ _) rfl (flatA3 _ _ _ _) rfl rfl rfl (by first | rfl | simp [mpV, mpA, mpS, mpP, renId, shift]) rfl) ?_
    refine segEnd [2, 3, 6, 7, 9, 10, 11] (T1 := (mkT 104 [(2, vP 1 0), (3, vP 2 0), (6, vS 4 0), (7, .bool false), (9, .slice none 0 0), (10, .bool false), (11, vN (1 + 3 * L.length))])) (H1 := [some ⟨a3s L, 25, false, false⟩, rB [vI x, vI y, vI z, vS 0 L.length] 24, rB [vI a, vI b, vI c] 25, some ⟨a3s L, 25, false, true⟩, some ⟨[], 25, false, true⟩, some ⟨a3s (mk3 1 L.length), 25, false, true⟩, rB [vI x, vI y, vI z, vS 5 L.length] 29, some ⟨a3s L, 25, false, true⟩]) (by kernel_rfl) ?_
    refine kSeq ?_
    refine cSeq ?_
    refine cSeq ?_
    refine cReg ?_
    refine segH 3 (T1 := (mkT 104 [(2, vP 1 0), (3, vP 2 0), (6, vS 4 0), (7, .bool false), (9, .slice none 0 0), (10, .bool false), (11, vN (1 + 3 * L.length)), (55, vN (1 + 3 * L.length)), (56, .bool (decide (((1 + 3 * L.length : Nat) : Int) < 0))), (57, .bool (decide (((1 + 3 * L.length : Nat) : Int) < 0)))])) (by kernel_rfl) ?_
    cases h2 : (decide (((1 + 3 * L.length : Nat) : Int) < 0) : Bool)
    ·
      (try simp only [Bool.not_eq_true', Bool.not_eq_false', decide_eq_true_eq, decide_eq_false_iff_not, beq_iff_eq, bne_iff_ne, beq_eq_false_iff_ne, bne_eq_false_iff_eq, ne_eq, Decidable.not_not, Bool.and_eq_true, Bool.and_eq_false_imp, Bool.or_eq_true, Bool.or_eq_false_iff, Bool.not_eq_true, Int.not_lt, Int.not_le, ge_iff_le, gt_iff_lt] at h2)
      refine seg 2 (T1 := (mkT 104 [(2, vP 1 0), (3, vP 2 0), (6, vS 4 0), (7, .bool false), (9, .slice none 0 0), (10, .bool false), (11, vN (1 + 3 * L.length)), (55, vN (1 + 3 * L.length)), (56, .bool false), (57, .bool false), (58, .slice none 0 0), (59, vS 4 0)])) (H1 := [some ⟨a3s L, 25, false, false⟩, rB [vI x, vI y, vI z, vS 0 L.length] 24, rB [vI a, vI b, vI c] 25, some ⟨a3s L, 25, false, true⟩, some ⟨[], 25, false, true⟩, some ⟨a3s (mk3 1 L.length), 25, false, true⟩, rB [vI x, vI y, vI z, vS 5 L.length] 29, some ⟨a3s L, 25, false, true⟩]) (by kernel_rfl) ?_
      refine rCall (v := .bool true) (args := [.slice none 0 0, vS 4 0]) (by kernel_rfl) rfl (by kernel_rfl) (Sound.lay0 [4] (eqA3SNE) ⟨rdX true rfl rfl, trivial⟩ rfl ⟨clX rfl, trivial⟩ rfl (by first | rfl | simp [mpV, mpA, mpS, mpP, renId, shift]) rfl) ?_
      refine segEnd [2, 3, 6, 7, 9, 67] (T1 := (mkT 104 [(2, vP 1 0), (3, vP 2 0), (6, vS 4 0), (7, .bool false), (9, .slice none 0 0), (67, .bool false)])) (H1 := [some ⟨a3s L, 25, false, false⟩, rB [vI x, vI y, vI z, vS 0 L.length] 24, rB [vI a, vI b, vI c] 25, some ⟨a3s L, 25, false, true⟩, some ⟨[], 25, false, true⟩, some ⟨a3s (mk3 1 L.length), 25, false, true⟩, rB [vI x, vI y, vI z, vS 5 L.length] 29, some ⟨a3s L, 25, false, true⟩]) (by kernel_rfl) ?_
      refine kSeq ?_
      refine cFalse (by kernel_rfl) ?_
      refine cSkip ?_
      refine kSeq ?_
      refine cSeq ?_
      refine cReg ?_
      refine segEndH [2, 3, 6, 7, 9, 12] (T1 := (mkT 104 [(2, vP 1 0), (3, vP 2 0), (6, vS 4 0), (7, .bool false), (9, .slice none 0 0), (12, vI 1)])) (by kernel_rfl) ?_
      refine kSeq ?_
      refine cSeq ?_
      refine cReg ?_
      refine segH 2 (T1 := (mkT 104 [(2, vP 1 0), (3, vP 2 0), (6, vS 4 0), (7, .bool false), (9, .slice none 0 0), (12, vI 1), (68, .slice none 0 0), (69, vI 1)])) (by kernel_rfl) ?_
      refine rCall (v := vI 1) (args := [.slice none 0 0, vI 1]) (by kernel_rfl) rfl (by kernel_rfl) (Sound.lay0 [] (markA3SN 1) trivial rfl trivial rfl (by first | rfl | simp [mpV, mpA, mpS, mpP, renId, shift]) rfl) ?_
      refine segEndH [2, 3, 6, 7, 9, 12] (T1 := (mkT 104 [(2, vP 1 0), (3, vP 2 0), (6, vS 4 0), (7, .bool false), (9, .slice none 0 0), (12, vI 1)])) (by kernel_rfl) ?_
      refine kSeq ?_
      refine cSeq ?_
      refine cReg ?_
      refine segEndH [2, 3, 6, 7, 9, 12, 13] (T1 := (mkT 104 [(2, vP 1 0), (3, vP 2 0), (6, vS 4 0), (7, .bool false), (9, .slice none 0 0), (12, vI 1), (13, vI 1)])) (by kernel_rfl) ?_
      refine kSeq ?_
      refine cSeq ?_
      refine cReg ?_
      refine segH 2 (T1 := (mkT 104 [(2, vP 1 0), (3, vP 2 0), (6, vS 4 0), (7, .bool false), (9, .slice none 0 0), (12, vI 1), (13, vI 1), (71, .slice none 0 0), (72, vI 1)])) (by kernel_rfl) ?_
      refine rCall (v := vI 1) (args := [.slice none 0 0, vI 1]) (by kernel_rfl) rfl (by kernel_rfl) (Sound.lay0 [] (heldA3SN) trivial rfl trivial rfl (by first | rfl | simp [mpV, mpA, mpS, mpP, renId, shift]) rfl) ?_
      refine segEndH [2, 3, 6, 7, 9, 12, 13] (T1 := (mkT 104 [(2, vP 1 0), (3, vP 2 0), (6, vS 4 0), (7, .bool false), (9, .slice none 0 0), (12, vI 1), (13, vI 1)])) (by kernel_rfl) ?_
      refine kSeq ?_
      refine cSeq ?_
      refine cSeq ?_
      refine cReg ?_
      refine segEndH [2, 3, 6, 7, 9, 12, 13, 75] (T1 := (mkT 104 [(2, vP 1 0), (3, vP 2 0), (6, vS 4 0), (7, .bool false), (9, .slice none 0 0), (12, vI 1), (13, vI 1), (75, .bool false)])) (by kernel_rfl) ?_
      refine kSeq ?_
      refine cFalse (by kernel_rfl) ?_
      refine cSkip ?_
      refine kSeq ?_
      refine cSeq ?_
      refine cSeq ?_
      refine cReg ?_
      refine segEndH [2, 3, 6, 7, 9, 12, 78] (T1 := (mkT 104 [(2, vP 1 0), (3, vP 2 0), (6, vS 4 0), (7, .bool false), (9, .slice none 0 0), (12, vI 1), (78, .bool false)])) (by kernel_rfl) ?_
      refine kSeq ?_
      refine cFalse (by kernel_rfl) ?_
      refine cSkip ?_
      refine kSeq ?_
      refine cSeq ?_
      refine cRegW (N := 9) [⟨[], [], [1]⟩, ⟨[8], [], [0]⟩, ⟨[], [], [2]⟩, ⟨[], [], []⟩, ⟨[], [], [8]⟩, ⟨[], [], []⟩, ⟨[], [], []⟩, ⟨[], [], []⟩, ⟨[], [], []⟩, ⟨[], [], []⟩] 1 [8] (by rfl) (by rfl) (by kernel_rfl) (by kernel_rfl) (by kernel_rfl) ⟨nmsF (flatA3 _ _ _ _), ⟨nmsX (by kernel_rfl), ⟨nmsX (by kernel_rfl), ⟨nmsF (flatA3 _ _ _ _), ⟨nmsX (by kernel_rfl), ⟨nmsF (flatA3 _ _ _ _), ⟨nmsX (by kernel_rfl), ⟨nmsF (flatA3 _ _ _ _), trivial⟩⟩⟩⟩⟩⟩⟩⟩ ?_
      refine segWH 1 (T1 := (mkT 104 [(2, vP 1 0), (3, vP 2 0), (6, vS 4 0), (7, .bool false), (9, .slice none 0 0), (12, vI 1), (78, .bool false), (80, .agg #[vI x, vI y, vI z, vS 0 L.length])])) (by kernel_rfl) ?_
      refine rW (m := ⟨[8], [], [0]⟩) (v := .agg #[vI x, vI y, vI z, vS 8 L.length]) rfl (by kernel_rfl) (stN (i := 8) (E := [some ⟨a3s L, 25, false, true⟩]) (v1 := .agg #[vI x, vI y, vI z, vS 9 L.length]) (args := [.agg #[vI x, vI y, vI z, vS 0 L.length]]) rfl (by kernel_rfl) (Any.lay (E := [some ⟨a3s L, 25, false, true⟩]) (N := 9) [0] (toHeapB x y z L (by first | omega | assumption | (simp; done))) ⟨rdF false (flatA3 _ _ _ _) rfl rfl, trivial⟩ rfl ⟨clF (flatA3 _ _ _ _), trivial⟩ rfl (by first | rfl | simp [mpV, mpA, mpS, mpP, renId, shift]) (by first | rfl | simp [mpV, mpA, mpS, mpP, renId, shift]) ⟨enF (flatA3 _ _ _ _) (Or.inl rfl), trivial⟩) rfl (by kernel_rfl) (by kernel_rfl) (by kernel_rfl) (by kernel_rfl) (FlatH.cons (flatA3 _ _ _ _) FlatH.nil)) (by kernel_rfl) (NRs.all ⟨nrOf (by rfl) (nmF (flatA3 _ _ _ _)), trivial⟩) ?_
      refine segWH 1 (T1 := (mkT 104 [(2, vP 1 0), (3, vP 2 0), (6, vS 4 0), (7, .bool false), (9, .slice none 0 0), (12, vI 1), (78, .bool false), (80, .agg #[vI x, vI y, vI z, vS 0 L.length]), (81, .agg #[vI x, vI y, vI z, vS 8 L.length]), (82, .agg #[vI a, vI b, vI c])])) (by kernel_rfl) ?_
      refine rW (m := ⟨[], [], []⟩) (v := .agg #[vI a, vI b, vI c]) rfl (by kernel_rfl) (stQ (args := [.agg #[vI a, vI b, vI c]]) rfl (by kernel_rfl) (Any.lay0 [] (toA3B a b c) trivial rfl trivial rfl (by first | rfl | simp [mpV, mpA, mpS, mpP, renId, shift]) (by first | rfl | simp [mpV, mpA, mpS, mpP, renId, shift])) rfl (by kernel_rfl) (by kernel_rfl)) (by kernel_rfl) nr0 ?_
      refine rW (m := ⟨[], [], [8]⟩) (v := .tuple #[.slice none 0 0, .bool false]) rfl (by kernel_rfl) (stQ (args := [.agg #[vI x, vI y, vI z, vS 8 L.length], .agg #[vI a, vI b, vI c]]) rfl (by kernel_rfl) (Any.lay0 [8] (implNearCubes_no x y z L a b c (by first | assumption | omega | rfl | decide | exact HeapL.list _ _ _ _ | exact HeapL.nil _ _ _ | exact HeapL.all _ _ _ | (apply HeapL.lt64 <;> assumption) | (repeat' (first | assumption | apply or_lt64 | apply and_lt64 | apply andn_lt64 | apply pow_lt64 | (apply HeapL.lt64 <;> assumption)))) (by first | assumption | omega | rfl | decide | exact HeapL.list _ _ _ _ | exact HeapL.nil _ _ _ | exact HeapL.all _ _ _ | (apply HeapL.lt64 <;> assumption) | (repeat' (first | assumption | apply or_lt64 | apply and_lt64 | apply andn_lt64 | apply pow_lt64 | (apply HeapL.lt64 <;> assumption))))) ⟨rdF true (flatA3 _ _ _ _) rfl rfl, trivial⟩ rfl ⟨clF (flatA3 _ _ _ _), trivial⟩ rfl (by first | rfl | simp [mpV, mpA, mpS, mpP, renId, shift]) (by first | rfl | simp [mpV, mpA, mpS, mpP, renId, shift])) rfl (by kernel_rfl) (by kernel_rfl)) (by kernel_rfl) nr0 ?_
      refine segEndW [6, 7, 9, 12, 14, 15] (T1 := (mkT 104 [(6, vS 4 0), (7, .bool false), (9, .slice none 0 0), (12, vI 1), (14, .slice none 0 0), (15, .bool false)])) (H1 := [some ⟨a3s L, 25, false, false⟩, rB [vI x, vI y, vI z, vS 0 L.length] 24, rB [vI a, vI b, vI c] 25, some ⟨a3s L, 25, false, true⟩, some ⟨[], 25, false, true⟩, some ⟨a3s (mk3 1 L.length), 25, false, true⟩, rB [vI x, vI y, vI z, vS 5 L.length] 29, some ⟨a3s L, 25, false, true⟩, some ⟨a3s L, 25, false, true⟩]) (by kernel_rfl) ?_
      refine kSeq ?_
      refine cSeq ?_
      refine cSeq ?_
      refine cReg ?_
      refine segH 2 (T1 := (mkT 104 [(6, vS 4 0), (7, .bool false), (9, .slice none 0 0), (12, vI 1), (14, .slice none 0 0), (15, .bool false), (87, .slice none 0 0), (88, vS 4 0)])) (by kernel_rfl) ?_
      refine rCall (v := .bool true) (args := [.slice none 0 0, vS 4 0]) (by kernel_rfl) rfl (by kernel_rfl) (Sound.lay0 [4] (eqA3SNE) ⟨rdX true rfl rfl, trivial⟩ rfl ⟨clX rfl, trivial⟩ rfl (by first | rfl | simp [mpV, mpA, mpS, mpP, renId, shift]) rfl) ?_
      refine segEndH [9, 12, 95] (T1 := (mkT 104 [(9, .slice none 0 0), (12, vI 1), (95, .bool false)])) (by kernel_rfl) ?_
      refine kSeq ?_
      refine cFalse (by kernel_rfl) ?_
      refine cSkip ?_
      refine kSeq ?_
      refine cSeq ?_
      refine cReg ?_
      refine segEndH [9, 12, 13] (T1 := (mkT 104 [(9, .slice none 0 0), (12, vI 1), (13, vI 1)])) (by kernel_rfl) ?_
      refine kSeq ?_
      refine cSeq ?_
      refine cReg ?_
      refine segH 2 (T1 := (mkT 104 [(9, .slice none 0 0), (12, vI 1), (13, vI 1), (96, .slice none 0 0), (97, vI 1)])) (by kernel_rfl) ?_
      refine rCall (v := vI 1) (args := [.slice none 0 0, vI 1]) (by kernel_rfl) rfl (by kernel_rfl) (Sound.lay0 [] (heldA3SN) trivial rfl trivial rfl (by first | rfl | simp [mpV, mpA, mpS, mpP, renId, shift]) rfl) ?_
      refine segEndH [12, 13] (T1 := (mkT 104 [(12, vI 1), (13, vI 1)])) (by kernel_rfl) ?_
      refine kSeq ?_
      refine cSeq ?_
      refine cSeq ?_
      refine cReg ?_
      refine segEndH [12, 13, 100] (T1 := (mkT 104 [(12, vI 1), (13, vI 1), (100, .bool false)])) (by kernel_rfl) ?_
      refine kSeq ?_
      refine cFalse (by kernel_rfl) ?_
      refine cSkip ?_
      refine kSeq ?_
      refine cSeq ?_
      refine cSeq ?_
      refine cReg ?_
      refine segEndH [103] (T1 := (mkT 104 [(103, .bool false)])) (by kernel_rfl) ?_
      refine kSeq ?_
      refine cFalse (by kernel_rfl) ?_
      refine cSkip ?_
      refine kSeq ?_
      refine cSeq ?_
      refine cReg ?_
      refine segEndH [4] (T1 := (mkT 104 [(4, .bool true)])) (by kernel_rfl) ?_
      refine kSeq ?_
      refine cRet ?_
      -- end
      exact endQ (Or.inr rfl) (l := [.bool true]) [rB [vI x, vI y, vI z, vS 0 L.length] 24, rB [vI a, vI b, vI c] 25, some ⟨a3s L, 25, false, true⟩, some ⟨[], 25, false, true⟩, some ⟨a3s (mk3 1 L.length), 25, false, true⟩, rB [vI x, vI y, vI z, vS 5 L.length] 29, some ⟨a3s L, 25, false, true⟩, some ⟨a3s L, 25, false, true⟩] (by kernel_rfl) (by first | rfl | kernel_rfl) rfl rfl hcl rfl
    ·
      (try simp only [Bool.not_eq_true', Bool.not_eq_false', decide_eq_true_eq, decide_eq_false_iff_not, beq_iff_eq, bne_iff_ne, beq_eq_false_iff_ne, bne_eq_false_iff_eq, ne_eq, Decidable.not_not, Bool.and_eq_true, Bool.and_eq_false_imp, Bool.or_eq_true, Bool.or_eq_false_iff, Bool.not_eq_true, Int.not_lt, Int.not_le, ge_iff_le, gt_iff_lt] at h2)
      exfalso; omega
  ·
    (try simp only [Bool.not_eq_true', Bool.not_eq_false', decide_eq_true_eq, decide_eq_false_iff_not, beq_iff_eq, bne_iff_ne, beq_eq_false_iff_ne, bne_eq_false_iff_eq, ne_eq, Decidable.not_not, Bool.and_eq_true, Bool.and_eq_false_imp, Bool.or_eq_true, Bool.or_eq_false_iff, Bool.not_eq_true, Int.not_lt, Int.not_le, ge_iff_le, gt_iff_lt] at h1)
    exfalso; omega

set_option maxRecDepth 100000 in
set_option maxHeartbeats 4000000 in
theorem lawNearCubes_no_n (x : Int) (y : Int) (z : Int) (a : Int) (b : Int) (c : Int) (hv : (isHeapB x y z ([] : List A3) && has3 x y z a b c) = false) : Sound Try.prog 6 [.agg #[vI x, vI y, vI z, .slice none 0 0], .agg #[vI a, vI b, vI c]] [] (.bool true) [] := by
  refine sound_intro (C := cx) Try.func6 rfl (by kernel_rfl) fun hcl => ?_
  refine cSeq ?_
  refine cReg ?_
  refine segEnd [2, 3] (T1 := (mkT 104 [(2, vP 0 0), (3, vP 1 0)])) (H1 := [rB [vI x, vI y, vI z, .slice none 0 0] 24, rB [vI a, vI b, vI c] 25]) (by kernel_rfl) ?_
  refine kSeq ?_
  refine cSeq ?_
  refine cReg ?_
  refine segEndH [2, 3, 5] (T1 := (mkT 104 [(2, vP 0 0), (3, vP 1 0), (5, vI 1048576)])) (by kernel_rfl) ?_
  refine kSeq ?_
  refine cSeq ?_
  refine cReg ?_
  refine segH 2 (T1 := (mkT 104 [(2, vP 0 0), (3, vP 1 0), (5, vI 1048576), (16, .agg #[vI x, vI y, vI z, .slice none 0 0]), (17, vI 1048576)])) (by kernel_rfl) ?_
  refine rCall (v := vI 1048576) (args := [.agg #[vI x, vI y, vI z, .slice none 0 0], vI 1048576]) (by kernel_rfl) rfl (by kernel_rfl) (Sound.lay0 [] (szHeapN x y z 1048576 (by first | omega | assumption | decide)) trivial rfl trivial rfl (by first | rfl | simp [mpV, mpA, mpS, mpP, renId, shift]) rfl) ?_
  refine segEndH [2, 3, 5] (T1 := (mkT 104 [(2, vP 0 0), (3, vP 1 0), (5, vI 1048576)])) (by kernel_rfl) ?_
  refine kSeq ?_
  refine cSeq ?_
  refine cSeq ?_
  refine cReg ?_
  refine segEndH [2, 3, 20] (T1 := (mkT 104 [(2, vP 0 0), (3, vP 1 0), (20, .bool false)])) (by kernel_rfl) ?_
  refine kSeq ?_
  refine cFalse (by kernel_rfl) ?_
  refine cSkip ?_
  refine kSeq ?_
  refine cSeq ?_
  refine cRegW (N := 4) [⟨[], [], [0]⟩, ⟨[2], [], []⟩, ⟨[], [], [1]⟩, ⟨[], [], []⟩, ⟨[3], [], [2]⟩, ⟨[], [], []⟩, ⟨[], [], []⟩, ⟨[], [], []⟩, ⟨[], [], []⟩, ⟨[], [], []⟩] 2 [2, 3] (by rfl) (by rfl) (by kernel_rfl) (by kernel_rfl) (by kernel_rfl) ⟨nmsX (by kernel_rfl), ⟨nmsX (by kernel_rfl), trivial⟩⟩ ?_
  refine segWH 1 (T1 := (mkT 104 [(2, vP 0 0), (3, vP 1 0), (20, .bool false), (22, .agg #[vI x, vI y, vI z, .slice none 0 0])])) (by kernel_rfl) ?_
  refine rW (m := ⟨[2], [], []⟩) (v := .agg #[vI x, vI y, vI z, vS 2 0]) rfl (by kernel_rfl) (stN (i := 2) (E := [some ⟨[], 25, false, true⟩]) (v1 := .agg #[vI x, vI y, vI z, vS 4 0]) (args := [.agg #[vI x, vI y, vI z, .slice none 0 0]]) rfl (by kernel_rfl) (Any.lay (E := [some ⟨[], 25, false, true⟩]) (N := 4) [] (toHeapN x y z) trivial rfl trivial rfl (by first | rfl | simp [mpV, mpA, mpS, mpP, renId, shift]) (by first | rfl | simp [mpV, mpA, mpS, mpP, renId, shift]) ⟨enX rfl (Or.inl rfl), trivial⟩) rfl (by kernel_rfl) (by kernel_rfl) (by kernel_rfl) (by kernel_rfl) (FlatH.cons (flatRow_of rfl) FlatH.nil)) (by kernel_rfl) (NRs.all ⟨nrOf (by rfl) (nmX (by kernel_rfl)), trivial⟩) ?_
  refine segWH 1 (T1 := (mkT 104 [(2, vP 0 0), (3, vP 1 0), (20, .bool false), (22, .agg #[vI x, vI y, vI z, .slice none 0 0]), (23, .agg #[vI x, vI y, vI z, vS 2 0]), (24, .agg #[vI a, vI b, vI c])])) (by kernel_rfl) ?_
  refine rW (m := ⟨[], [], []⟩) (v := .agg #[vI a, vI b, vI c]) rfl (by kernel_rfl) (stQ (args := [.agg #[vI a, vI b, vI c]]) rfl (by kernel_rfl) (Any.lay0 [] (toA3B a b c) trivial rfl trivial rfl (by first | rfl | simp [mpV, mpA, mpS, mpP, renId, shift]) (by first | rfl | simp [mpV, mpA, mpS, mpP, renId, shift])) rfl (by kernel_rfl) (by kernel_rfl)) (by kernel_rfl) nr0 ?_
  refine rW (m := ⟨[3], [], [2]⟩) (v := .tuple #[vS 3 0, .bool false]) rfl (by kernel_rfl) (stN (i := 3) (E := [some ⟨[], 25, false, true⟩]) (v1 := .tuple #[vS 4 0, .bool false]) (args := [.agg #[vI x, vI y, vI z, vS 2 0], .agg #[vI a, vI b, vI c]]) rfl (by kernel_rfl) (Any.lay (E := [some ⟨[], 25, false, true⟩]) (N := 4) [2] (specNearCubes_no x y z ([] : List A3) a b c (by first | assumption | omega | rfl | decide | exact HeapL.list _ _ _ _ | exact HeapL.nil _ _ _ | exact HeapL.all _ _ _ | (apply HeapL.lt64 <;> assumption) | (repeat' (first | assumption | apply or_lt64 | apply and_lt64 | apply andn_lt64 | apply pow_lt64 | (apply HeapL.lt64 <;> assumption)))) (by first | assumption | omega | rfl | decide | exact HeapL.list _ _ _ _ | exact HeapL.nil _ _ _ | exact HeapL.all _ _ _ | (apply HeapL.lt64 <;> assumption) | (repeat' (first | assumption | apply or_lt64 | apply and_lt64 | apply andn_lt64 | apply pow_lt64 | (apply HeapL.lt64 <;> assumption))))) ⟨rdF true (flatA3 _ _ _ _) rfl rfl, trivial⟩ rfl ⟨clF (flatA3 _ _ _ _), trivial⟩ rfl (by first | rfl | simp [mpV, mpA, mpS, mpP, renId, shift]) (by first | rfl | simp [mpV, mpA, mpS, mpP, renId, shift]) ⟨enX rfl (Or.inl rfl), trivial⟩) rfl (by kernel_rfl) (by kernel_rfl) (by kernel_rfl) (by kernel_rfl) (FlatH.cons (flatRow_of rfl) FlatH.nil)) (by kernel_rfl) (NRs.all ⟨nrOf (by rfl) (nmX (by kernel_rfl)), trivial⟩) ?_
  refine segEndW [2, 3, 6, 7] (T1 := (mkT 104 [(2, vP 0 0), (3, vP 1 0), (6, vS 3 0), (7, .bool false)])) (H1 := [rB [vI x, vI y, vI z, .slice none 0 0] 24, rB [vI a, vI b, vI c] 25, some ⟨[], 25, false, true⟩, some ⟨[], 25, false, true⟩]) (by kernel_rfl) ?_
  refine kSeq ?_
  refine cSeq ?_
  refine cReg ?_
  refine segH 1 (T1 := (mkT 104 [(2, vP 0 0), (3, vP 1 0), (6, vS 3 0), (7, .bool false), (29, .agg #[vI x, vI y, vI z, .slice none 0 0])])) (by kernel_rfl) ?_
  refine rCall (v := .agg #[vI x, vI y, vI z, vS 4 0]) (args := [.agg #[vI x, vI y, vI z, .slice none 0 0]]) (by kernel_rfl) rfl (by kernel_rfl) (Sound.lay (E := [some ⟨[], 25, false, true⟩]) [] (toHeapN x y z) trivial rfl trivial rfl (by first | rfl | simp [mpV, mpA, mpS, mpP, renId, shift]) (by first | rfl | simp [mpV, mpA, mpS, mpP, renId, shift]) ⟨enX rfl (Or.inl rfl), trivial⟩) ?_
  refine segEnd [2, 3, 6, 7, 8] (T1 := (mkT 104 [(2, vP 0 0), (3, vP 1 0), (6, vS 3 0), (7, .bool false), (8, vP 5 0)])) (H1 := [rB [vI x, vI y, vI z, .slice none 0 0] 24, rB [vI a, vI b, vI c] 25, some ⟨[], 25, false, true⟩, some ⟨[], 25, false, true⟩, some ⟨[], 25, false, true⟩, rB [vI x, vI y, vI z, vS 4 0] 29]) (by kernel_rfl) ?_
  refine kSeq ?_
  refine cSeq ?_
  refine cRegW (N := 6) [⟨[], [], [5]⟩, ⟨[], [], [1]⟩, ⟨[], [], []⟩, ⟨[], [], [4]⟩, ⟨[], [], []⟩, ⟨[], [], []⟩, ⟨[], [], []⟩, ⟨[], [], []⟩, ⟨[], [], []⟩] 0 [] (by rfl) (by rfl) (by kernel_rfl) (by kernel_rfl) (by kernel_rfl) ⟨nmsX (by kernel_rfl), ⟨nmsX (by kernel_rfl), ⟨nmsX (by kernel_rfl), ⟨nmsX (by kernel_rfl), ⟨nmsX (by kernel_rfl), ⟨nmsX (by kernel_rfl), trivial⟩⟩⟩⟩⟩⟩ ?_
  refine segWH 2 (T1 := (mkT 104 [(2, vP 0 0), (3, vP 1 0), (6, vS 3 0), (7, .bool false), (8, vP 5 0), (32, .agg #[vI x, vI y, vI z, vS 4 0]), (33, .agg #[vI a, vI b, vI c])])) (by kernel_rfl) ?_
  refine rW (m := ⟨[], [], []⟩) (v := .agg #[vI a, vI b, vI c]) rfl (by kernel_rfl) (stQ (args := [.agg #[vI a, vI b, vI c]]) rfl (by kernel_rfl) (Any.lay0 [] (toA3B a b c) trivial rfl trivial rfl (by first | rfl | simp [mpV, mpA, mpS, mpP, renId, shift]) (by first | rfl | simp [mpV, mpA, mpS, mpP, renId, shift])) rfl (by kernel_rfl) (by kernel_rfl)) (by kernel_rfl) nr0 ?_
  refine rW (m := ⟨[], [], [4]⟩) (v := .tuple #[.slice none 0 0, .bool false]) rfl (by kernel_rfl) (stQ (args := [.agg #[vI x, vI y, vI z, vS 4 0], .agg #[vI a, vI b, vI c]]) rfl (by kernel_rfl) (Any.lay0 [4] (implNearCubes_no x y z ([] : List A3) a b c (by first | assumption | omega | rfl | decide | exact HeapL.list _ _ _ _ | exact HeapL.nil _ _ _ | exact HeapL.all _ _ _ | (apply HeapL.lt64 <;> assumption) | (repeat' (first | assumption | apply or_lt64 | apply and_lt64 | apply andn_lt64 | apply pow_lt64 | (apply HeapL.lt64 <;> assumption)))) (by first | assumption | omega | rfl | decide | exact HeapL.list _ _ _ _ | exact HeapL.nil _ _ _ | exact HeapL.all _ _ _ | (apply HeapL.lt64 <;> assumption) | (repeat' (first | assumption | apply or_lt64 | apply and_lt64 | apply andn_lt64 | apply pow_lt64 | (apply HeapL.lt64 <;> assumption))))) ⟨rdF true (flatA3 _ _ _ _) rfl rfl, trivial⟩ rfl ⟨clF (flatA3 _ _ _ _), trivial⟩ rfl (by first | rfl | simp [mpV, mpA, mpS, mpP, renId, shift]) (by first | rfl | simp [mpV, mpA, mpS, mpP, renId, shift])) rfl (by kernel_rfl) (by kernel_rfl)) (by kernel_rfl) nr0 ?_
  refine segEndWH [2, 3, 6, 7, 8, 9, 10] (T1 := (mkT 104 [(2, vP 0 0), (3, vP 1 0), (6, vS 3 0), (7, .bool false), (8, vP 5 0), (9, .slice none 0 0), (10, .bool false)])) (by kernel_rfl) ?_
  refine kSeq ?_
  refine cSeq ?_
  refine cSeq ?_
  refine cReg ?_
  refine segH 2 (T1 := (mkT 104 [(2, vP 0 0), (3, vP 1 0), (6, vS 3 0), (7, .bool false), (8, vP 5 0), (9, .slice none 0 0), (10, .bool false), (38, .slice none 0 0), (39, vS 3 0)])) (by kernel_rfl) ?_
  refine rCall (v := .bool true) (args := [.slice none 0 0, vS 3 0]) (by kernel_rfl) rfl (by kernel_rfl) (Sound.lay0 [3] (eqA3SNE) ⟨rdX true rfl rfl, trivial⟩ rfl ⟨clX rfl, trivial⟩ rfl (by first | rfl | simp [mpV, mpA, mpS, mpP, renId, shift]) rfl) ?_
  refine segEndH [2, 3, 6, 7, 8, 9, 10, 46] (T1 := (mkT 104 [(2, vP 0 0), (3, vP 1 0), (6, vS 3 0), (7, .bool false), (8, vP 5 0), (9, .slice none 0 0), (10, .bool false), (46, .bool false)])) (by kernel_rfl) ?_
  refine kSeq ?_
  refine cFalse (by kernel_rfl) ?_
  refine cSkip ?_
  refine kSeq ?_
  refine cSeq ?_
  refine cSeq ?_
  refine cRegW (N := 7) [⟨[], [], [5]⟩, ⟨[], [], [0]⟩, ⟨[6], [], []⟩, ⟨[], [], [4, 6]⟩, ⟨[], [], []⟩] 1 [6] (by rfl) (by rfl) (by kernel_rfl) (by kernel_rfl) (by kernel_rfl) ⟨nmsX (by kernel_rfl), ⟨nmsX (by kernel_rfl), ⟨nmsX (by kernel_rfl), ⟨nmsX (by kernel_rfl), ⟨nmsX (by kernel_rfl), ⟨nmsX (by kernel_rfl), trivial⟩⟩⟩⟩⟩⟩ ?_
  refine segWH 2 (T1 := (mkT 104 [(2, vP 0 0), (3, vP 1 0), (6, vS 3 0), (7, .bool false), (8, vP 5 0), (9, .slice none 0 0), (10, .bool false), (46, .bool false), (47, .agg #[vI x, vI y, vI z, vS 4 0]), (48, .agg #[vI x, vI y, vI z, .slice none 0 0])])) (by kernel_rfl) ?_
  refine rW (m := ⟨[6], [], []⟩) (v := .agg #[vI x, vI y, vI z, vS 6 0]) rfl (by kernel_rfl) (stN (i := 6) (E := [some ⟨[], 25, false, true⟩]) (v1 := .agg #[vI x, vI y, vI z, vS 7 0]) (args := [.agg #[vI x, vI y, vI z, .slice none 0 0]]) rfl (by kernel_rfl) (Any.lay (E := [some ⟨[], 25, false, true⟩]) (N := 7) [] (toHeapN x y z) trivial rfl trivial rfl (by first | rfl | simp [mpV, mpA, mpS, mpP, renId, shift]) (by first | rfl | simp [mpV, mpA, mpS, mpP, renId, shift]) ⟨enX rfl (Or.inl rfl), trivial⟩) rfl (by kernel_rfl) (by kernel_rfl) (by kernel_rfl) (by kernel_rfl) (FlatH.cons (flatRow_of rfl) FlatH.nil)) (by kernel_rfl) (NRs.all ⟨nrOf (by rfl) (nmX (by kernel_rfl)), trivial⟩) ?_
  refine rW (m := ⟨[], [], [4, 6]⟩) (v := .bool true) rfl (by kernel_rfl) (stQ (args := [.agg #[vI x, vI y, vI z, vS 4 0], .agg #[vI x, vI y, vI z, vS 6 0]]) rfl (by kernel_rfl) (Any.lay0 [4, 6] (eqHeapB x y z ([] : List A3) (by first | omega | assumption | (simp; done))) ⟨rdF true (flatA3 _ _ _ _) rfl rfl, ⟨rdF true (flatA3 _ _ _ _) rfl rfl, trivial⟩⟩ rfl ⟨clF (flatA3 _ _ _ _), ⟨clF (flatA3 _ _ _ _), trivial⟩⟩ rfl (by first | rfl | simp [mpV, mpA, mpS, mpP, renId, shift]) rfl) rfl (by kernel_rfl) (by kernel_rfl)) (by kernel_rfl) nr0 ?_
  refine segEndW [2, 3, 6, 7, 8, 9, 10, 51] (T1 := (mkT 104 [(2, vP 0 0), (3, vP 1 0), (6, vS 3 0), (7, .bool false), (8, vP 5 0), (9, .slice none 0 0), (10, .bool false), (51, .bool false)])) (H1 := [rB [vI x, vI y, vI z, .slice none 0 0] 24, rB [vI a, vI b, vI c] 25, some ⟨[], 25, false, true⟩, some ⟨[], 25, false, true⟩, some ⟨[], 25, false, true⟩, rB [vI x, vI y, vI z, vS 4 0] 29, some ⟨[], 25, false, true⟩]) (by kernel_rfl) ?_
  refine kSeq ?_
  refine cFalse (by kernel_rfl) ?_
  refine cSkip ?_
  refine kSeq ?_
  refine cSeq ?_
  refine cReg ?_
  refine segEndH [2, 3, 6, 7, 8, 9, 10, 11] (T1 := (mkT 104 [(2, vP 0 0), (3, vP 1 0), (6, vS 3 0), (7, .bool false), (8, vP 5 0), (9, .slice none 0 0), (10, .bool false), (11, vI 1)])) (by kernel_rfl) ?_
  refine kSeq ?_
  refine cSeq ?_
  refine cReg ?_
  refine segH 2 (T1 := (mkT 104 [(2, vP 0 0), (3, vP 1 0), (6, vS 3 0), (7, .bool false), (8, vP 5 0), (9, .slice none 0 0), (10, .bool false), (11, vI 1), (52, .agg #[vI x, vI y, vI z, vS 4 0]), (53, vI 1)])) (by kernel_rfl) ?_
  refine rCall (v := vN (1 + 3 * ([] : List A3).length)) (args := [.agg #[vI x, vI y, vI z, vS 4 0], vI 1]) (by kernel_rfl) rfl (by kernel_rfl) (Sound.emb_set (r := ⟨a3s ([] : List A3), 25, false, true⟩) (r' := ⟨a3s (mk3 1 ([] : List A3).length), 25, false, true⟩) 4 (markHeapB x y z ([] : List A3) 1 (by first | omega | assumption | (simp; done)) (by first | assumption | omega | rfl | decide | exact HeapL.list _ _ _ _ | exact HeapL.nil _ _ _ | exact HeapL.all _ _ _ | (apply HeapL.lt64 <;> assumption) | (repeat' (first | assumption | apply or_lt64 | apply and_lt64 | apply andn_lt64 | apply pow_lt64 | (apply HeapL.lt64 <;> assumption))))) (flatA3 _ _ _ _) rfl (flatA3 _ _ _ _) rfl rfl rfl (by first | rfl | simp [mpV, mpA, mpS, mpP, renId, shift]) rfl) ?_
  refine segEnd [2, 3, 6, 7, 9, 10, 11] (T1 := (mkT 104 [(2, vP 0 0), (3, vP 1 0), (6, vS 3 0), (7, .bool false), (9, .slice none 0 0), (10, .bool false), (11, vN (1 + 3 * ([] : List A3).length))])) (H1 := [rB [vI x, vI y, vI z, .slice none 0 0] 24, rB [vI a, vI b, vI c] 25, some ⟨[], 25, false, true⟩, some ⟨[], 25, false, true⟩, some ⟨a3s (mk3 1 ([] : List A3).length), 25, false, true⟩, rB [vI x, vI y, vI z, vS 4 0] 29, some ⟨[], 25, false, true⟩]) (by kernel_rfl) ?_
  refine kSeq ?_
  refine cSeq ?_
  refine cSeq ?_
  refine cReg ?_
  refine segH 3 (T1 := (mkT 104 [(2, vP 0 0), (3, vP 1 0), (6, vS 3 0), (7, .bool false), (9, .slice none 0 0), (10, .bool false), (11, vN (1 + 3 * ([] : List A3).length)), (55, vN (1 + 3 * ([] : List A3).length)), (56, .bool (decide (((1 + 3 * ([] : List A3).length : Nat) : Int) < 0))), (57, .bool (decide (((1 + 3 * ([] : List A3).length : Nat) : Int) < 0)))])) (by kernel_rfl) ?_
  cases h1 : (decide (((1 + 3 * ([] : List A3).length : Nat) : Int) < 0) : Bool)
  ·
    (try simp only [Bool.not_eq_true', Bool.not_eq_false', decide_eq_true_eq, decide_eq_false_iff_not, beq_iff_eq, bne_iff_ne, beq_eq_false_iff_ne, bne_eq_false_iff_eq, ne_eq, Decidable.not_not, Bool.and_eq_true, Bool.and_eq_false_imp, Bool.or_eq_true, Bool.or_eq_false_iff, Bool.not_eq_true, Int.not_lt, Int.not_le, ge_iff_le, gt_iff_lt] at h1)
    refine seg 2 (T1 := (mkT 104 [(2, vP 0 0), (3, vP 1 0), (6, vS 3 0), (7, .bool false), (9, .slice none 0 0), (10, .bool false), (11, vN (1 + 3 * ([] : List A3).length)), (55, vN (1 + 3 * ([] : List A3).length)), (56, .bool false), (57, .bool false), (58, .slice none 0 0), (59, vS 3 0)])) (H1 := [rB [vI x, vI y, vI z, .slice none 0 0] 24, rB [vI a, vI b, vI c] 25, some ⟨[], 25, false, true⟩, some ⟨[], 25, false, true⟩, some ⟨a3s (mk3 1 ([] : List A3).length), 25, false, true⟩, rB [vI x, vI y, vI z, vS 4 0] 29, some ⟨[], 25, false, true⟩]) (by kernel_rfl) ?_
    refine rCall (v := .bool true) (args := [.slice none 0 0, vS 3 0]) (by kernel_rfl) rfl (by kernel_rfl) (Sound.lay0 [3] (eqA3SNE) ⟨rdX true rfl rfl, trivial⟩ rfl ⟨clX rfl, trivial⟩ rfl (by first | rfl | simp [mpV, mpA, mpS, mpP, renId, shift]) rfl) ?_
    refine segEnd [2, 3, 6, 7, 9, 67] (T1 := (mkT 104 [(2, vP 0 0), (3, vP 1 0), (6, vS 3 0), (7, .bool false), (9, .slice none 0 0), (67, .bool false)])) (H1 := [rB [vI x, vI y, vI z, .slice none 0 0] 24, rB [vI a, vI b, vI c] 25, some ⟨[], 25, false, true⟩, some ⟨[], 25, false, true⟩, some ⟨a3s (mk3 1 ([] : List A3).length), 25, false, true⟩, rB [vI x, vI y, vI z, vS 4 0] 29, some ⟨[], 25, false, true⟩]) (by kernel_rfl) ?_
    refine kSeq ?_
    refine cFalse (by kernel_rfl) ?_
    refine cSkip ?_
    refine kSeq ?_
    refine cSeq ?_
    refine cReg ?_
    refine segEndH [2, 3, 6, 7, 9, 12] (T1 := (mkT 104 [(2, vP 0 0), (3, vP 1 0), (6, vS 3 0), (7, .bool false), (9, .slice none 0 0), (12, vI 1)])) (by kernel_rfl) ?_
    refine kSeq ?_
    refine cSeq ?_
    refine cReg ?_
    refine segH 2 (T1 := (mkT 104 [(2, vP 0 0), (3, vP 1 0), (6, vS 3 0), (7, .bool false), (9, .slice none 0 0), (12, vI 1), (68, .slice none 0 0), (69, vI 1)])) (by kernel_rfl) ?_
    refine rCall (v := vI 1) (args := [.slice none 0 0, vI 1]) (by kernel_rfl) rfl (by kernel_rfl) (Sound.lay0 [] (markA3SN 1) trivial rfl trivial rfl (by first | rfl | simp [mpV, mpA, mpS, mpP, renId, shift]) rfl) ?_
    refine segEndH [2, 3, 6, 7, 9, 12] (T1 := (mkT 104 [(2, vP 0 0), (3, vP 1 0), (6, vS 3 0), (7, .bool false), (9, .slice none 0 0), (12, vI 1)])) (by kernel_rfl) ?_
    refine kSeq ?_
    refine cSeq ?_
    refine cReg ?_
    refine segEndH [2, 3, 6, 7, 9, 12, 13] (T1 := (mkT 104 [(2, vP 0 0), (3, vP 1 0), (6, vS 3 0), (7, .bool false), (9, .slice none 0 0), (12, vI 1), (13, vI 1)])) (by kernel_rfl) ?_
    refine kSeq ?_
    refine cSeq ?_
    refine cReg ?_
    refine segH 2 (T1 := (mkT 104 [(2, vP 0 0), (3, vP 1 0), (6, vS 3 0), (7, .bool false), (9, .slice none 0 0), (12, vI 1), (13, vI 1), (71, .slice none 0 0), (72, vI 1)])) (by kernel_rfl) ?_
    refine rCall (v := vI 1) (args := [.slice none 0 0, vI 1]) (by kernel_rfl) rfl (by kernel_rfl) (Sound.lay0 [] (heldA3SN) trivial rfl trivial rfl (by first | rfl | simp [mpV, mpA, mpS, mpP, renId, shift]) rfl) ?_
    refine segEndH [2, 3, 6, 7, 9, 12, 13] (T1 := (mkT 104 [(2, vP 0 0), (3, vP 1 0), (6, vS 3 0), (7, .bool false), (9, .slice none 0 0), (12, vI 1), (13, vI 1)])) (by kernel_rfl) ?_
    refine kSeq ?_
    refine cSeq ?_
    refine cSeq ?_
    refine cReg ?_
    refine segEndH [2, 3, 6, 7, 9, 12, 13, 75] (T1 := (mkT 104 [(2, vP 0 0), (3, vP 1 0), (6, vS 3 0), (7, .bool false), (9, .slice none 0 0), (12, vI 1), (13, vI 1), (75, .bool false)])) (by kernel_rfl) ?_
    refine kSeq ?_
    refine cFalse (by kernel_rfl) ?_
    refine cSkip ?_
    refine kSeq ?_
    refine cSeq ?_
    refine cSeq ?_
    refine cReg ?_
    refine segEndH [2, 3, 6, 7, 9, 12, 78] (T1 := (mkT 104 [(2, vP 0 0), (3, vP 1 0), (6, vS 3 0), (7, .bool false), (9, .slice none 0 0), (12, vI 1), (78, .bool false)])) (by kernel_rfl) ?_
    refine kSeq ?_
    refine cFalse (by kernel_rfl) ?_
    refine cSkip ?_
    refine kSeq ?_
    refine cSeq ?_
    refine cRegW (N := 8) [⟨[], [], [0]⟩, ⟨[7], [], []⟩, ⟨[], [], [1]⟩, ⟨[], [], []⟩, ⟨[], [], [7]⟩, ⟨[], [], []⟩, ⟨[], [], []⟩, ⟨[], [], []⟩, ⟨[], [], []⟩, ⟨[], [], []⟩] 1 [7] (by rfl) (by rfl) (by kernel_rfl) (by kernel_rfl) (by kernel_rfl) ⟨nmsX (by kernel_rfl), ⟨nmsX (by kernel_rfl), ⟨nmsX (by kernel_rfl), ⟨nmsX (by kernel_rfl), ⟨nmsF (flatA3 _ _ _ _), ⟨nmsX (by kernel_rfl), ⟨nmsX (by kernel_rfl), trivial⟩⟩⟩⟩⟩⟩⟩ ?_
    refine segWH 1 (T1 := (mkT 104 [(2, vP 0 0), (3, vP 1 0), (6, vS 3 0), (7, .bool false), (9, .slice none 0 0), (12, vI 1), (78, .bool false), (80, .agg #[vI x, vI y, vI z, .slice none 0 0])])) (by kernel_rfl) ?_
    refine rW (m := ⟨[7], [], []⟩) (v := .agg #[vI x, vI y, vI z, vS 7 0]) rfl (by kernel_rfl) (stN (i := 7) (E := [some ⟨[], 25, false, true⟩]) (v1 := .agg #[vI x, vI y, vI z, vS 8 0]) (args := [.agg #[vI x, vI y, vI z, .slice none 0 0]]) rfl (by kernel_rfl) (Any.lay (E := [some ⟨[], 25, false, true⟩]) (N := 8) [] (toHeapN x y z) trivial rfl trivial rfl (by first | rfl | simp [mpV, mpA, mpS, mpP, renId, shift]) (by first | rfl | simp [mpV, mpA, mpS, mpP, renId, shift]) ⟨enX rfl (Or.inl rfl), trivial⟩) rfl (by kernel_rfl) (by kernel_rfl) (by kernel_rfl) (by kernel_rfl) (FlatH.cons (flatRow_of rfl) FlatH.nil)) (by kernel_rfl) (NRs.all ⟨nrOf (by rfl) (nmX (by kernel_rfl)), trivial⟩) ?_
    refine segWH 1 (T1 := (mkT 104 [(2, vP 0 0), (3, vP 1 0), (6, vS 3 0), (7, .bool false), (9, .slice none 0 0), (12, vI 1), (78, .bool false), (80, .agg #[vI x, vI y, vI z, .slice none 0 0]), (81, .agg #[vI x, vI y, vI z, vS 7 0]), (82, .agg #[vI a, vI b, vI c])])) (by kernel_rfl) ?_
    refine rW (m := ⟨[], [], []⟩) (v := .agg #[vI a, vI b, vI c]) rfl (by kernel_rfl) (stQ (args := [.agg #[vI a, vI b, vI c]]) rfl (by kernel_rfl) (Any.lay0 [] (toA3B a b c) trivial rfl trivial rfl (by first | rfl | simp [mpV, mpA, mpS, mpP, renId, shift]) (by first | rfl | simp [mpV, mpA, mpS, mpP, renId, shift])) rfl (by kernel_rfl) (by kernel_rfl)) (by kernel_rfl) nr0 ?_
    refine rW (m := ⟨[], [], [7]⟩) (v := .tuple #[.slice none 0 0, .bool false]) rfl (by kernel_rfl) (stQ (args := [.agg #[vI x, vI y, vI z, vS 7 0], .agg #[vI a, vI b, vI c]]) rfl (by kernel_rfl) (Any.lay0 [7] (implNearCubes_no x y z ([] : List A3) a b c (by first | assumption | omega | rfl | decide | exact HeapL.list _ _ _ _ | exact HeapL.nil _ _ _ | exact HeapL.all _ _ _ | (apply HeapL.lt64 <;> assumption) | (repeat' (first | assumption | apply or_lt64 | apply and_lt64 | apply andn_lt64 | apply pow_lt64 | (apply HeapL.lt64 <;> assumption)))) (by first | assumption | omega | rfl | decide | exact HeapL.list _ _ _ _ | exact HeapL.nil _ _ _ | exact HeapL.all _ _ _ | (apply HeapL.lt64 <;> assumption) | (repeat' (first | assumption | apply or_lt64 | apply and_lt64 | apply andn_lt64 | apply pow_lt64 | (apply HeapL.lt64 <;> assumption))))) ⟨rdF true (flatA3 _ _ _ _) rfl rfl, trivial⟩ rfl ⟨clF (flatA3 _ _ _ _), trivial⟩ rfl (by first | rfl | simp [mpV, mpA, mpS, mpP, renId, shift]) (by first | rfl | simp [mpV, mpA, mpS, mpP, renId, shift])) rfl (by kernel_rfl) (by kernel_rfl)) (by kernel_rfl) nr0 ?_
    refine segEndW [6, 7, 9, 12, 14, 15] (T1 := (mkT 104 [(6, vS 3 0), (7, .bool false), (9, .slice none 0 0), (12, vI 1), (14, .slice none 0 0), (15, .bool false)])) (H1 := [rB [vI x, vI y, vI z, .slice none 0 0] 24, rB [vI a, vI b, vI c] 25, some ⟨[], 25, false, true⟩, some ⟨[], 25, false, true⟩, some ⟨a3s (mk3 1 ([] : List A3).length), 25, false, true⟩, rB [vI x, vI y, vI z, vS 4 0] 29, some ⟨[], 25, false, true⟩, some ⟨[], 25, false, true⟩]) (by kernel_rfl) ?_
    refine kSeq ?_
    refine cSeq ?_
    refine cSeq ?_
    refine cReg ?_
    refine segH 2 (T1 := (mkT 104 [(6, vS 3 0), (7, .bool false), (9, .slice none 0 0), (12, vI 1), (14, .slice none 0 0), (15, .bool false), (87, .slice none 0 0), (88, vS 3 0)])) (by kernel_rfl) ?_
    refine rCall (v := .bool true) (args := [.slice none 0 0, vS 3 0]) (by kernel_rfl) rfl (by kernel_rfl) (Sound.lay0 [3] (eqA3SNE) ⟨rdX true rfl rfl, trivial⟩ rfl ⟨clX rfl, trivial⟩ rfl (by first | rfl | simp [mpV, mpA, mpS, mpP, renId, shift]) rfl) ?_
    refine segEndH [9, 12, 95] (T1 := (mkT 104 [(9, .slice none 0 0), (12, vI 1), (95, .bool false)])) (by kernel_rfl) ?_
    refine kSeq ?_
    refine cFalse (by kernel_rfl) ?_
    refine cSkip ?_
    refine kSeq ?_
    refine cSeq ?_
    refine cReg ?_
    refine segEndH [9, 12, 13] (T1 := (mkT 104 [(9, .slice none 0 0), (12, vI 1), (13, vI 1)])) (by kernel_rfl) ?_
    refine kSeq ?_
    refine cSeq ?_
    refine cReg ?_
    refine segH 2 (T1 := (mkT 104 [(9, .slice none 0 0), (12, vI 1), (13, vI 1), (96, .slice none 0 0), (97, vI 1)])) (by kernel_rfl) ?_
    refine rCall (v := vI 1) (args := [.slice none 0 0, vI 1]) (by kernel_rfl) rfl (by kernel_rfl) (Sound.lay0 [] (heldA3SN) trivial rfl trivial rfl (by first | rfl | simp [mpV, mpA, mpS, mpP, renId, shift]) rfl) ?_
    refine segEndH [12, 13] (T1 := (mkT 104 [(12, vI 1), (13, vI 1)])) (by kernel_rfl) ?_
    refine kSeq ?_
    refine cSeq ?_
    refine cSeq ?_
    refine cReg ?_
    refine segEndH [12, 13, 100] (T1 := (mkT 104 [(12, vI 1), (13, vI 1), (100, .bool false)])) (by kernel_rfl) ?_
    refine kSeq ?_
    refine cFalse (by kernel_rfl) ?_
    refine cSkip ?_
    refine kSeq ?_
    refine cSeq ?_
    refine cSeq ?_
    refine cReg ?_
    refine segEndH [103] (T1 := (mkT 104 [(103, .bool false)])) (by kernel_rfl) ?_
    refine kSeq ?_
    refine cFalse (by kernel_rfl) ?_
    refine cSkip ?_
    refine kSeq ?_
    refine cSeq ?_
    refine cReg ?_
    refine segEndH [4] (T1 := (mkT 104 [(4, .bool true)])) (by kernel_rfl) ?_
    refine kSeq ?_
    refine cRet ?_
    -- end
    exact endQ (Or.inr rfl) (l := [.bool true]) [rB [vI x, vI y, vI z, .slice none 0 0] 24, rB [vI a, vI b, vI c] 25, some ⟨[], 25, false, true⟩, some ⟨[], 25, false, true⟩, some ⟨a3s (mk3 1 ([] : List A3).length), 25, false, true⟩, rB [vI x, vI y, vI z, vS 4 0] 29, some ⟨[], 25, false, true⟩, some ⟨[], 25, false, true⟩] (by kernel_rfl) (by first | rfl | kernel_rfl) rfl rfl hcl rfl
  ·
    (try simp only [Bool.not_eq_true', Bool.not_eq_false', decide_eq_true_eq, decide_eq_false_iff_not, beq_iff_eq, bne_iff_ne, beq_eq_false_iff_ne, bne_eq_false_iff_eq, ne_eq, Decidable.not_not, Bool.and_eq_true, Bool.and_eq_false_imp, Bool.or_eq_true, Bool.or_eq_false_iff, Bool.not_eq_true, Int.not_lt, Int.not_le, ge_iff_le, gt_iff_lt] at h1)
    exfalso; omega

set_option maxRecDepth 100000 in
set_option maxHeartbeats 4000000 in
theorem lawNearCubes_yes_s (X : Nat) (Y : Nat) (Z : Nat) (L : List A3) (a : Int) (b : Int) (c : Int) (R : List A3) (hs : Sides X Y Z) (hL : HeapL X Y Z L) (hh : has3 (X : Int) (Y : Int) (Z : Int) a b c = true) (hR : R = listOf X Y Z (nearTo X Y Z a b c 6 &&& setOf Y Z L)) : Sound Try.prog 6 [.agg #[vN X, vN Y, vN Z, vS 0 L.length], .agg #[vI a, vI b, vI c]] [some ⟨a3s L, 25, false, false⟩] (.bool true) [some ⟨a3s L, 25, false, false⟩] := by
  refine sound_intro (C := cx) Try.func6 rfl (by kernel_rfl) fun hcl => ?_
  have hz := hs.size
  have hx0 := hs.x0
  have hx4 := hs.x4
  have hy0 := hs.y0
  have hy4 := hs.y4
  have hz0 := hs.z0
  have hz4 := hs.z4
  have hlen : L.length ≤ 64 := by first | (have := hL.len; have := hs.size; omega) | simp
  have hr : R.length ≤ 64 := by (rw [hR]; have := (HeapL.list X Y Z (nearTo X Y Z a b c 6 &&& setOf Y Z L)).len; omega)
  refine cSeq ?_
  refine cReg ?_
  refine segEnd [2, 3] (T1 := (mkT 104 [(2, vP 1 0), (3, vP 2 0)])) (H1 := [some ⟨a3s L, 25, false, false⟩, rB [vN X, vN Y, vN Z, vS 0 L.length] 24, rB [vI a, vI b, vI c] 25]) (by kernel_rfl) ?_
  refine kSeq ?_
  refine cSeq ?_
  refine cReg ?_
  refine segEndH [2, 3, 5] (T1 := (mkT 104 [(2, vP 1 0), (3, vP 2 0), (5, vI 1048576)])) (by kernel_rfl) ?_
  refine kSeq ?_
  refine cSeq ?_
  refine cReg ?_
  refine segH 2 (T1 := (mkT 104 [(2, vP 1 0), (3, vP 2 0), (5, vI 1048576), (16, .agg #[vN X, vN Y, vN Z, vS 0 L.length]), (17, vI 1048576)])) (by kernel_rfl) ?_
  refine rCall (v := vN (1048576 - L.length)) (args := [.agg #[vN X, vN Y, vN Z, vS 0 L.length], vI 1048576]) (by kernel_rfl) rfl (by kernel_rfl) (Sound.lay0 [0] (szHeapS ((X : Nat) : Int) ((Y : Nat) : Int) ((Z : Nat) : Int) L 1048576 (by first | omega | assumption | (simp; done)) (by first | omega | assumption | decide)) ⟨rdF false (flatA3 _ _ _ _) rfl rfl, trivial⟩ rfl ⟨clF (flatA3 _ _ _ _), trivial⟩ rfl (by first | rfl | simp [mpV, mpA, mpS, mpP, renId, shift]) rfl) ?_
  refine segEndH [2, 3, 5] (T1 := (mkT 104 [(2, vP 1 0), (3, vP 2 0), (5, vN (1048576 - L.length))])) (by kernel_rfl) ?_
  refine kSeq ?_
  refine cSeq ?_
  refine cSeq ?_
  refine cReg ?_
  refine segEndH [2, 3, 20] (T1 := (mkT 104 [(2, vP 1 0), (3, vP 2 0), (20, .bool (decide (((1048576 - L.length : Nat) : Int) < 0)))])) (by kernel_rfl) ?_
  refine kSeq ?_
  cases h1 : (decide (((1048576 - L.length : Nat) : Int) < 0) : Bool)
  ·
    (try simp only [Bool.not_eq_true', Bool.not_eq_false', decide_eq_true_eq, decide_eq_false_iff_not, beq_iff_eq, bne_iff_ne, beq_eq_false_iff_ne, bne_eq_false_iff_eq, ne_eq, Decidable.not_not, Bool.and_eq_true, Bool.and_eq_false_imp, Bool.or_eq_true, Bool.or_eq_false_iff, Bool.not_eq_true, Int.not_lt, Int.not_le, ge_iff_le, gt_iff_lt] at h1)
    refine cFalse (by kernel_rfl) ?_
    refine cSkip ?_
    refine kSeq ?_
    refine cSeq ?_
    refine cRegW (N := 5) [⟨[], [], [1]⟩, ⟨[3], [], [0]⟩, ⟨[], [], [2]⟩, ⟨[], [], []⟩, ⟨[4], [], [3]⟩, ⟨[], [], []⟩, ⟨[], [], []⟩, ⟨[], [], []⟩, ⟨[], [], []⟩, ⟨[], [], []⟩] 2 [3, 4] (by rfl) (by rfl) (by kernel_rfl) (by kernel_rfl) (by kernel_rfl) ⟨nmsF (flatA3 _ _ _ _), ⟨nmsX (by kernel_rfl), ⟨nmsX (by kernel_rfl), trivial⟩⟩⟩ ?_
    refine segWH 1 (T1 := (mkT 104 [(2, vP 1 0), (3, vP 2 0), (20, .bool false), (22, .agg #[vN X, vN Y, vN Z, vS 0 L.length])])) (by kernel_rfl) ?_
    refine rW (m := ⟨[3], [], [0]⟩) (v := .agg #[vN X, vN Y, vN Z, vS 3 L.length]) rfl (by kernel_rfl) (stN (i := 3) (E := [some ⟨a3s L, 25, false, true⟩]) (v1 := .agg #[vN X, vN Y, vN Z, vS 5 L.length]) (args := [.agg #[vN X, vN Y, vN Z, vS 0 L.length]]) rfl (by kernel_rfl) (Any.lay (E := [some ⟨a3s L, 25, false, true⟩]) (N := 5) [0] (toHeapB ((X : Nat) : Int) ((Y : Nat) : Int) ((Z : Nat) : Int) L (by first | omega | assumption | (simp; done))) ⟨rdF false (flatA3 _ _ _ _) rfl rfl, trivial⟩ rfl ⟨clF (flatA3 _ _ _ _), trivial⟩ rfl (by first | rfl | simp [mpV, mpA, mpS, mpP, renId, shift]) (by first | rfl | simp [mpV, mpA, mpS, mpP, renId, shift]) ⟨enF (flatA3 _ _ _ _) (Or.inl rfl), trivial⟩) rfl (by kernel_rfl) (by kernel_rfl) (by kernel_rfl) (by kernel_rfl) (FlatH.cons (flatA3 _ _ _ _) FlatH.nil)) (by kernel_rfl) (NRs.all ⟨nrOf (by rfl) (nmF (flatA3 _ _ _ _)), trivial⟩) ?_
    refine segWH 1 (T1 := (mkT 104 [(2, vP 1 0), (3, vP 2 0), (20, .bool false), (22, .agg #[vN X, vN Y, vN Z, vS 0 L.length]), (23, .agg #[vN X, vN Y, vN Z, vS 3 L.length]), (24, .agg #[vI a, vI b, vI c])])) (by kernel_rfl) ?_
    refine rW (m := ⟨[], [], []⟩) (v := .agg #[vI a, vI b, vI c]) rfl (by kernel_rfl) (stQ (args := [.agg #[vI a, vI b, vI c]]) rfl (by kernel_rfl) (Any.lay0 [] (toA3B a b c) trivial rfl trivial rfl (by first | rfl | simp [mpV, mpA, mpS, mpP, renId, shift]) (by first | rfl | simp [mpV, mpA, mpS, mpP, renId, shift])) rfl (by kernel_rfl) (by kernel_rfl)) (by kernel_rfl) nr0 ?_
    refine rW (m := ⟨[4], [], [3]⟩) (v := .tuple #[vS 4 R.length, .bool true]) rfl (by kernel_rfl) (stN (i := 4) (E := [some ⟨a3s R, 25, false, true⟩]) (v1 := .tuple #[vS 5 R.length, .bool true]) (args := [.agg #[vN X, vN Y, vN Z, vS 3 L.length], .agg #[vI a, vI b, vI c]]) rfl (by kernel_rfl) (Any.lay (E := [some ⟨a3s R, 25, false, true⟩]) (N := 5) [3] (specNearCubes_yesR X Y Z L a b c R (by first | assumption | omega | rfl | decide | exact HeapL.list _ _ _ _ | exact HeapL.nil _ _ _ | exact HeapL.all _ _ _ | (apply HeapL.lt64 <;> assumption) | (repeat' (first | assumption | apply or_lt64 | apply and_lt64 | apply andn_lt64 | apply pow_lt64 | (apply HeapL.lt64 <;> assumption)))) (by first | assumption | omega | rfl | decide | exact HeapL.list _ _ _ _ | exact HeapL.nil _ _ _ | exact HeapL.all _ _ _ | (apply HeapL.lt64 <;> assumption) | (repeat' (first | assumption | apply or_lt64 | apply and_lt64 | apply andn_lt64 | apply pow_lt64 | (apply HeapL.lt64 <;> assumption)))) (by first | assumption | omega | rfl | decide | exact HeapL.list _ _ _ _ | exact HeapL.nil _ _ _ | exact HeapL.all _ _ _ | (apply HeapL.lt64 <;> assumption) | (repeat' (first | assumption | apply or_lt64 | apply and_lt64 | apply andn_lt64 | apply pow_lt64 | (apply HeapL.lt64 <;> assumption)))) (by first | assumption | omega | rfl | decide | exact HeapL.list _ _ _ _ | exact HeapL.nil _ _ _ | exact HeapL.all _ _ _ | (apply HeapL.lt64 <;> assumption) | (repeat' (first | assumption | apply or_lt64 | apply and_lt64 | apply andn_lt64 | apply pow_lt64 | (apply HeapL.lt64 <;> assumption))))) ⟨rdF true (flatA3 _ _ _ _) rfl rfl, trivial⟩ rfl ⟨clF (flatA3 _ _ _ _), trivial⟩ rfl (by first | rfl | simp [mpV, mpA, mpS, mpP, renId, shift]) (by first | rfl | simp [mpV, mpA, mpS, mpP, renId, shift]) ⟨enF (flatA3 _ _ _ _) (Or.inl rfl), trivial⟩) rfl (by kernel_rfl) (by kernel_rfl) (by kernel_rfl) (by kernel_rfl) (FlatH.cons (flatA3 _ _ _ _) FlatH.nil)) (by kernel_rfl) (NRs.all ⟨nrOf (by rfl) (nmF (flatA3 _ _ _ _)), trivial⟩) ?_
    refine segEndW [2, 3, 6, 7] (T1 := (mkT 104 [(2, vP 1 0), (3, vP 2 0), (6, vS 4 R.length), (7, .bool true)])) (H1 := [some ⟨a3s L, 25, false, false⟩, rB [vN X, vN Y, vN Z, vS 0 L.length] 24, rB [vI a, vI b, vI c] 25, some ⟨a3s L, 25, false, true⟩, some ⟨a3s R, 25, false, true⟩]) (by kernel_rfl) ?_
    refine kSeq ?_
    refine cSeq ?_
    refine cReg ?_
    refine segH 1 (T1 := (mkT 104 [(2, vP 1 0), (3, vP 2 0), (6, vS 4 R.length), (7, .bool true), (29, .agg #[vN X, vN Y, vN Z, vS 0 L.length])])) (by kernel_rfl) ?_
    refine rCall (v := .agg #[vN X, vN Y, vN Z, vS 5 L.length]) (args := [.agg #[vN X, vN Y, vN Z, vS 0 L.length]]) (by kernel_rfl) rfl (by kernel_rfl) (Sound.lay (E := [some ⟨a3s L, 25, false, true⟩]) [0] (toHeapB ((X : Nat) : Int) ((Y : Nat) : Int) ((Z : Nat) : Int) L (by first | omega | assumption | (simp; done))) ⟨rdF false (flatA3 _ _ _ _) rfl rfl, trivial⟩ rfl ⟨clF (flatA3 _ _ _ _), trivial⟩ rfl (by first | rfl | simp [mpV, mpA, mpS, mpP, renId, shift]) (by first | rfl | simp [mpV, mpA, mpS, mpP, renId, shift]) ⟨enF (flatA3 _ _ _ _) (Or.inl rfl), trivial⟩) ?_
    refine segEnd [2, 3, 6, 7, 8] (T1 := (mkT 104 [(2, vP 1 0), (3, vP 2 0), (6, vS 4 R.length), (7, .bool true), (8, vP 6 0)])) (H1 := [some ⟨a3s L, 25, false, false⟩, rB [vN X, vN Y, vN Z, vS 0 L.length] 24, rB [vI a, vI b, vI c] 25, some ⟨a3s L, 25, false, true⟩, some ⟨a3s R, 25, false, true⟩, some ⟨a3s L, 25, false, true⟩, rB [vN X, vN Y, vN Z, vS 5 L.length] 29]) (by kernel_rfl) ?_
    refine kSeq ?_
    refine cSeq ?_
    refine cRegW (N := 8) [⟨[], [], [6]⟩, ⟨[], [], [2]⟩, ⟨[], [], []⟩, ⟨[7], [], [5]⟩, ⟨[], [], []⟩, ⟨[], [], []⟩, ⟨[], [], []⟩, ⟨[], [], []⟩, ⟨[], [], []⟩] 1 [7] (by rfl) (by rfl) (by kernel_rfl) (by kernel_rfl) (by kernel_rfl) ⟨nmsF (flatA3 _ _ _ _), ⟨nmsX (by kernel_rfl), ⟨nmsX (by kernel_rfl), ⟨nmsF (flatA3 _ _ _ _), ⟨nmsF (flatA3 _ _ _ _), ⟨nmsF (flatA3 _ _ _ _), ⟨nmsX (by kernel_rfl), trivial⟩⟩⟩⟩⟩⟩⟩ ?_
    refine segWH 2 (T1 := (mkT 104 [(2, vP 1 0), (3, vP 2 0), (6, vS 4 R.length), (7, .bool true), (8, vP 6 0), (32, .agg #[vN X, vN Y, vN Z, vS 5 L.length]), (33, .agg #[vI a, vI b, vI c])])) (by kernel_rfl) ?_
    refine rW (m := ⟨[], [], []⟩) (v := .agg #[vI a, vI b, vI c]) rfl (by kernel_rfl) (stQ (args := [.agg #[vI a, vI b, vI c]]) rfl (by kernel_rfl) (Any.lay0 [] (toA3B a b c) trivial rfl trivial rfl (by first | rfl | simp [mpV, mpA, mpS, mpP, renId, shift]) (by first | rfl | simp [mpV, mpA, mpS, mpP, renId, shift])) rfl (by kernel_rfl) (by kernel_rfl)) (by kernel_rfl) nr0 ?_
    refine rW (m := ⟨[7], [], [5]⟩) (v := .tuple #[vS 7 R.length, .bool true]) rfl (by kernel_rfl) (stN (i := 7) (E := [some ⟨a3s R, 25, false, true⟩]) (v1 := .tuple #[vS 8 R.length, .bool true]) (args := [.agg #[vN X, vN Y, vN Z, vS 5 L.length], .agg #[vI a, vI b, vI c]]) rfl (by kernel_rfl) (Any.lay (E := [some ⟨a3s R, 25, false, true⟩]) (N := 8) [5] (implNearCubes_yesR X Y Z L a b c R (by first | assumption | omega | rfl | decide | exact HeapL.list _ _ _ _ | exact HeapL.nil _ _ _ | exact HeapL.all _ _ _ | (apply HeapL.lt64 <;> assumption) | (repeat' (first | assumption | apply or_lt64 | apply and_lt64 | apply andn_lt64 | apply pow_lt64 | (apply HeapL.lt64 <;> assumption)))) (by first | assumption | omega | rfl | decide | exact HeapL.list _ _ _ _ | exact HeapL.nil _ _ _ | exact HeapL.all _ _ _ | (apply HeapL.lt64 <;> assumption) | (repeat' (first | assumption | apply or_lt64 | apply and_lt64 | apply andn_lt64 | apply pow_lt64 | (apply HeapL.lt64 <;> assumption)))) (by first | assumption | omega | rfl | decide | exact HeapL.list _ _ _ _ | exact HeapL.nil _ _ _ | exact HeapL.all _ _ _ | (apply HeapL.lt64 <;> assumption) | (repeat' (first | assumption | apply or_lt64 | apply and_lt64 | apply andn_lt64 | apply pow_lt64 | (apply HeapL.lt64 <;> assumption)))) (by first | assumption | omega | rfl | decide | exact HeapL.list _ _ _ _ | exact HeapL.nil _ _ _ | exact HeapL.all _ _ _ | (apply HeapL.lt64 <;> assumption) | (repeat' (first | assumption | apply or_lt64 | apply and_lt64 | apply andn_lt64 | apply pow_lt64 | (apply HeapL.lt64 <;> assumption))))) ⟨rdF true (flatA3 _ _ _ _) rfl rfl, trivial⟩ rfl ⟨clF (flatA3 _ _ _ _), trivial⟩ rfl (by first | rfl | simp [mpV, mpA, mpS, mpP, renId, shift]) (by first | rfl | simp [mpV, mpA, mpS, mpP, renId, shift]) ⟨enF (flatA3 _ _ _ _) (Or.inl rfl), trivial⟩) rfl (by kernel_rfl) (by kernel_rfl) (by kernel_rfl) (by kernel_rfl) (FlatH.cons (flatA3 _ _ _ _) FlatH.nil)) (by kernel_rfl) (NRs.all ⟨nrOf (by rfl) (nmF (flatA3 _ _ _ _)), trivial⟩) ?_
    refine segEndW [2, 3, 6, 7, 8, 9, 10] (T1 := (mkT 104 [(2, vP 1 0), (3, vP 2 0), (6, vS 4 R.length), (7, .bool true), (8, vP 6 0), (9, vS 7 R.length), (10, .bool true)])) (H1 := [some ⟨a3s L, 25, false, false⟩, rB [vN X, vN Y, vN Z, vS 0 L.length] 24, rB [vI a, vI b, vI c] 25, some ⟨a3s L, 25, false, true⟩, some ⟨a3s R, 25, false, true⟩, some ⟨a3s L, 25, false, true⟩, rB [vN X, vN Y, vN Z, vS 5 L.length] 29, some ⟨a3s R, 25, false, true⟩]) (by kernel_rfl) ?_
    refine kSeq ?_
    refine cSeq ?_
    refine cSeq ?_
    refine cReg ?_
    refine segH 2 (T1 := (mkT 104 [(2, vP 1 0), (3, vP 2 0), (6, vS 4 R.length), (7, .bool true), (8, vP 6 0), (9, vS 7 R.length), (10, .bool true), (38, vS 7 R.length), (39, vS 4 R.length)])) (by kernel_rfl) ?_
    refine rCall (v := .bool true) (args := [vS 7 R.length, vS 4 R.length]) (by kernel_rfl) rfl (by kernel_rfl) (Sound.lay0 [7, 4] (eqA3SB R (by first | omega | assumption | (simp; done))) ⟨rdF true (flatA3 _ _ _ _) rfl rfl, ⟨rdF true (flatA3 _ _ _ _) rfl rfl, trivial⟩⟩ rfl ⟨clF (flatA3 _ _ _ _), ⟨clF (flatA3 _ _ _ _), trivial⟩⟩ rfl (by first | rfl | simp [mpV, mpA, mpS, mpP, renId, shift]) rfl) ?_
    refine segEndH [2, 3, 6, 7, 8, 9, 10, 46] (T1 := (mkT 104 [(2, vP 1 0), (3, vP 2 0), (6, vS 4 R.length), (7, .bool true), (8, vP 6 0), (9, vS 7 R.length), (10, .bool true), (46, .bool false)])) (by kernel_rfl) ?_
    refine kSeq ?_
    refine cFalse (by kernel_rfl) ?_
    refine cSkip ?_
    refine kSeq ?_
    refine cSeq ?_
    refine cSeq ?_
    refine cRegW (N := 9) [⟨[], [], [6]⟩, ⟨[], [], [1]⟩, ⟨[8], [], [0]⟩, ⟨[], [], [5, 8]⟩, ⟨[], [], []⟩] 1 [8] (by rfl) (by rfl) (by kernel_rfl) (by kernel_rfl) (by kernel_rfl) ⟨nmsF (flatA3 _ _ _ _), ⟨nmsX (by kernel_rfl), ⟨nmsX (by kernel_rfl), ⟨nmsF (flatA3 _ _ _ _), ⟨nmsF (flatA3 _ _ _ _), ⟨nmsF (flatA3 _ _ _ _), ⟨nmsX (by kernel_rfl), ⟨nmsF (flatA3 _ _ _ _), trivial⟩⟩⟩⟩⟩⟩⟩⟩ ?_
    refine segWH 2 (T1 := (mkT 104 [(2, vP 1 0), (3, vP 2 0), (6, vS 4 R.length), (7, .bool true), (8, vP 6 0), (9, vS 7 R.length), (10, .bool true), (46, .bool false), (47, .agg #[vN X, vN Y, vN Z, vS 5 L.length]), (48, .agg #[vN X, vN Y, vN Z, vS 0 L.length])])) (by kernel_rfl) ?_
    refine rW (m := ⟨[8], [], [0]⟩) (v := .agg #[vN X, vN Y, vN Z, vS 8 L.length]) rfl (by kernel_rfl) (stN (i := 8) (E := [some ⟨a3s L, 25, false, true⟩]) (v1 := .agg #[vN X, vN Y, vN Z, vS 9 L.length]) (args := [.agg #[vN X, vN Y, vN Z, vS 0 L.length]]) rfl (by kernel_rfl) (Any.lay (E := [some ⟨a3s L, 25, false, true⟩]) (N := 9) [0] (toHeapB ((X : Nat) : Int) ((Y : Nat) : Int) ((Z : Nat) : Int) L (by first | omega | assumption | (simp; done))) ⟨rdF false (flatA3 _ _ _ _) rfl rfl, trivial⟩ rfl ⟨clF (flatA3 _ _ _ _), trivial⟩ rfl (by first | rfl | simp [mpV, mpA, mpS, mpP, renId, shift]) (by first | rfl | simp [mpV, mpA, mpS, mpP, renId, shift]) ⟨enF (flatA3 _ _ _ _) (Or.inl rfl), trivial⟩) rfl (by kernel_rfl) (by kernel_rfl) (by kernel_rfl) (by kernel_rfl) (FlatH.cons (flatA3 _ _ _ _) FlatH.nil)) (by kernel_rfl) (NRs.all ⟨nrOf (by rfl) (nmF (flatA3 _ _ _ _)), trivial⟩) ?_
    refine rW (m := ⟨[], [], [5, 8]⟩) (v := .bool true) rfl (by kernel_rfl) (stQ (args := [.agg #[vN X, vN Y, vN Z, vS 5 L.length], .agg #[vN X, vN Y, vN Z, vS 8 L.length]]) rfl (by kernel_rfl) (Any.lay0 [5, 8] (eqHeapB ((X : Nat) : Int) ((Y : Nat) : Int) ((Z : Nat) : Int) L (by first | omega | assumption | (simp; done))) ⟨rdF true (flatA3 _ _ _ _) rfl rfl, ⟨rdF true (flatA3 _ _ _ _) rfl rfl, trivial⟩⟩ rfl ⟨clF (flatA3 _ _ _ _), ⟨clF (flatA3 _ _ _ _), trivial⟩⟩ rfl (by first | rfl | simp [mpV, mpA, mpS, mpP, renId, shift]) rfl) rfl (by kernel_rfl) (by kernel_rfl)) (by kernel_rfl) nr0 ?_
    refine segEndW [2, 3, 6, 7, 8, 9, 10, 51] (T1 := (mkT 104 [(2, vP 1 0), (3, vP 2 0), (6, vS 4 R.length), (7, .bool true), (8, vP 6 0), (9, vS 7 R.length), (10, .bool true), (51, .bool false)])) (H1 := [some ⟨a3s L, 25, false, false⟩, rB [vN X, vN Y, vN Z, vS 0 L.length] 24, rB [vI a, vI b, vI c] 25, some ⟨a3s L, 25, false, true⟩, some ⟨a3s R, 25, false, true⟩, some ⟨a3s L, 25, false, true⟩, rB [vN X, vN Y, vN Z, vS 5 L.length] 29, some ⟨a3s R, 25, false, true⟩, some ⟨a3s L, 25, false, true⟩]) (by kernel_rfl) ?_
    refine kSeq ?_
    refine cFalse (by kernel_rfl) ?_
    refine cSkip ?_
    refine kSeq ?_
    refine cSeq ?_
    refine cReg ?_
    refine segEndH [2, 3, 6, 7, 8, 9, 10, 11] (T1 := (mkT 104 [(2, vP 1 0), (3, vP 2 0), (6, vS 4 R.length), (7, .bool true), (8, vP 6 0), (9, vS 7 R.length), (10, .bool true), (11, vI 1)])) (by kernel_rfl) ?_
    refine kSeq ?_
    refine cSeq ?_
    refine cReg ?_
    refine segH 2 (T1 := (mkT 104 [(2, vP 1 0), (3, vP 2 0), (6, vS 4 R.length), (7, .bool true), (8, vP 6 0), (9, vS 7 R.length), (10, .bool true), (11, vI 1), (52, .agg #[vN X, vN Y, vN Z, vS 5 L.length]), (53, vI 1)])) (by kernel_rfl) ?_
    refine rCall (v := vN (1 + 3 * L.length)) (args := [.agg #[vN X, vN Y, vN Z, vS 5 L.length], vI 1]) (by kernel_rfl) rfl (by kernel_rfl) (Sound.emb_set (r := ⟨a3s L, 25, false, true⟩) (r' := ⟨a3s (mk3 1 L.length), 25, false, true⟩) 5 (markHeapB ((X : Nat) : Int) ((Y : Nat) : Int) ((Z : Nat) : Int) L 1 (by first | omega | assumption | (simp; done)) (by first | assumption | omega | rfl | decide | exact HeapL.list _ _ _ _ | exact HeapL.nil _ _ _ | exact HeapL.all _ _ _ | (apply HeapL.lt64 <;> assumption) | (repeat' (first | assumption | apply or_lt64 | apply and_lt64 | apply andn_lt64 | apply pow_lt64 | (apply HeapL.lt64 <;> assumption))))) (flatA3 _ _ _ _) rfl (flatA3 _ _ _ _) rfl rfl rfl (by first | rfl | simp [mpV, mpA, mpS, mpP, renId, shift]) rfl) ?_
    refine segEnd [2, 3, 6, 7, 9, 10, 11] (T1 := (mkT 104 [(2, vP 1 0), (3, vP 2 0), (6, vS 4 R.length), (7, .bool true), (9, vS 7 R.length), (10, .bool true), (11, vN (1 + 3 * L.length))])) (H1 := [some ⟨a3s L, 25, false, false⟩, rB [vN X, vN Y, vN Z, vS 0 L.length] 24, rB [vI a, vI b, vI c] 25, some ⟨a3s L, 25, false, true⟩, some ⟨a3s R, 25, false, true⟩, some ⟨a3s (mk3 1 L.length), 25, false, true⟩, rB [vN X, vN Y, vN Z, vS 5 L.length] 29, some ⟨a3s R, 25, false, true⟩, some ⟨a3s L, 25, false, true⟩]) (by kernel_rfl) ?_
    refine kSeq ?_
    refine cSeq ?_
    refine cSeq ?_
    refine cReg ?_
    refine segH 3 (T1 := (mkT 104 [(2, vP 1 0), (3, vP 2 0), (6, vS 4 R.length), (7, .bool true), (9, vS 7 R.length), (10, .bool true), (11, vN (1 + 3 * L.length)), (55, vN (1 + 3 * L.length)), (56, .bool (decide (((1 + 3 * L.length : Nat) : Int) < 0))), (57, .bool (decide (((1 + 3 * L.length : Nat) : Int) < 0)))])) (by kernel_rfl) ?_
    cases h2 : (decide (((1 + 3 * L.length : Nat) : Int) < 0) : Bool)
    ·
      (try simp only [Bool.not_eq_true', Bool.not_eq_false', decide_eq_true_eq, decide_eq_false_iff_not, beq_iff_eq, bne_iff_ne, beq_eq_false_iff_ne, bne_eq_false_iff_eq, ne_eq, Decidable.not_not, Bool.and_eq_true, Bool.and_eq_false_imp, Bool.or_eq_true, Bool.or_eq_false_iff, Bool.not_eq_true, Int.not_lt, Int.not_le, ge_iff_le, gt_iff_lt] at h2)
      refine seg 2 (T1 := (mkT 104 [(2, vP 1 0), (3, vP 2 0), (6, vS 4 R.length), (7, .bool true), (9, vS 7 R.length), (10, .bool true), (11, vN (1 + 3 * L.length)), (55, vN (1 + 3 * L.length)), (56, .bool false), (57, .bool false), (58, vS 7 R.length), (59, vS 4 R.length)])) (H1 := [some ⟨a3s L, 25, false, false⟩, rB [vN X, vN Y, vN Z, vS 0 L.length] 24, rB [vI a, vI b, vI c] 25, some ⟨a3s L, 25, false, true⟩, some ⟨a3s R, 25, false, true⟩, some ⟨a3s (mk3 1 L.length), 25, false, true⟩, rB [vN X, vN Y, vN Z, vS 5 L.length] 29, some ⟨a3s R, 25, false, true⟩, some ⟨a3s L, 25, false, true⟩]) (by kernel_rfl) ?_
      refine rCall (v := .bool true) (args := [vS 7 R.length, vS 4 R.length]) (by kernel_rfl) rfl (by kernel_rfl) (Sound.lay0 [7, 4] (eqA3SB R (by first | omega | assumption | (simp; done))) ⟨rdF true (flatA3 _ _ _ _) rfl rfl, ⟨rdF true (flatA3 _ _ _ _) rfl rfl, trivial⟩⟩ rfl ⟨clF (flatA3 _ _ _ _), ⟨clF (flatA3 _ _ _ _), trivial⟩⟩ rfl (by first | rfl | simp [mpV, mpA, mpS, mpP, renId, shift]) rfl) ?_
      refine segEnd [2, 3, 6, 7, 9, 67] (T1 := (mkT 104 [(2, vP 1 0), (3, vP 2 0), (6, vS 4 R.length), (7, .bool true), (9, vS 7 R.length), (67, .bool false)])) (H1 := [some ⟨a3s L, 25, false, false⟩, rB [vN X, vN Y, vN Z, vS 0 L.length] 24, rB [vI a, vI b, vI c] 25, some ⟨a3s L, 25, false, true⟩, some ⟨a3s R, 25, false, true⟩, some ⟨a3s (mk3 1 L.length), 25, false, true⟩, rB [vN X, vN Y, vN Z, vS 5 L.length] 29, some ⟨a3s R, 25, false, true⟩, some ⟨a3s L, 25, false, true⟩]) (by kernel_rfl) ?_
      refine kSeq ?_
      refine cFalse (by kernel_rfl) ?_
      refine cSkip ?_
      refine kSeq ?_
      refine cSeq ?_
      refine cReg ?_
      refine segEndH [2, 3, 6, 7, 9, 12] (T1 := (mkT 104 [(2, vP 1 0), (3, vP 2 0), (6, vS 4 R.length), (7, .bool true), (9, vS 7 R.length), (12, vI 1)])) (by kernel_rfl) ?_
      refine kSeq ?_
      refine cSeq ?_
      refine cReg ?_
      refine segH 2 (T1 := (mkT 104 [(2, vP 1 0), (3, vP 2 0), (6, vS 4 R.length), (7, .bool true), (9, vS 7 R.length), (12, vI 1), (68, vS 7 R.length), (69, vI 1)])) (by kernel_rfl) ?_
      refine rCall (v := vN (1 + 3 * R.length)) (args := [vS 7 R.length, vI 1]) (by kernel_rfl) rfl (by kernel_rfl) (Sound.emb_set (r := ⟨a3s R, 25, false, true⟩) (r' := ⟨a3s (mk3 1 R.length), 25, false, true⟩) 7 (markA3SB R 1 (by first | omega | assumption | (simp; done)) (by first | assumption | omega | rfl | decide | exact HeapL.list _ _ _ _ | exact HeapL.nil _ _ _ | exact HeapL.all _ _ _ | (apply HeapL.lt64 <;> assumption) | (repeat' (first | assumption | apply or_lt64 | apply and_lt64 | apply andn_lt64 | apply pow_lt64 | (apply HeapL.lt64 <;> assumption))))) (flatA3 _ _ _ _) rfl (flatA3 _ _ _ _) rfl rfl rfl (by first | rfl | simp [mpV, mpA, mpS, mpP, renId, shift]) rfl) ?_
      refine segEnd [2, 3, 6, 7, 9, 12] (T1 := (mkT 104 [(2, vP 1 0), (3, vP 2 0), (6, vS 4 R.length), (7, .bool true), (9, vS 7 R.length), (12, vN (1 + 3 * R.length))])) (H1 := [some ⟨a3s L, 25, false, false⟩, rB [vN X, vN Y, vN Z, vS 0 L.length] 24, rB [vI a, vI b, vI c] 25, some ⟨a3s L, 25, false, true⟩, some ⟨a3s R, 25, false, true⟩, some ⟨a3s (mk3 1 L.length), 25, false, true⟩, rB [vN X, vN Y, vN Z, vS 5 L.length] 29, some ⟨a3s (mk3 1 R.length), 25, false, true⟩, some ⟨a3s L, 25, false, true⟩]) (by kernel_rfl) ?_
      refine kSeq ?_
      refine cSeq ?_
      refine cReg ?_
      refine segEndH [2, 3, 6, 7, 9, 12, 13] (T1 := (mkT 104 [(2, vP 1 0), (3, vP 2 0), (6, vS 4 R.length), (7, .bool true), (9, vS 7 R.length), (12, vN (1 + 3 * R.length)), (13, vI 1)])) (by kernel_rfl) ?_
      refine kSeq ?_
      refine cSeq ?_
      refine cReg ?_
      refine segH 2 (T1 := (mkT 104 [(2, vP 1 0), (3, vP 2 0), (6, vS 4 R.length), (7, .bool true), (9, vS 7 R.length), (12, vN (1 + 3 * R.length)), (13, vI 1), (71, vS 7 R.length), (72, vI 1)])) (by kernel_rfl) ?_
      refine rCall (v := vN (1 + 3 * R.length)) (args := [vS 7 R.length, vI 1]) (by kernel_rfl) rfl (by kernel_rfl) (Sound.lay0 [7] (heldA3SB 1 R.length (by first | omega | assumption | (simp; done)) (by first | assumption | omega | rfl | decide | exact HeapL.list _ _ _ _ | exact HeapL.nil _ _ _ | exact HeapL.all _ _ _ | (apply HeapL.lt64 <;> assumption) | (repeat' (first | assumption | apply or_lt64 | apply and_lt64 | apply andn_lt64 | apply pow_lt64 | (apply HeapL.lt64 <;> assumption))))) ⟨rdF true (flatA3 _ _ _ _) rfl rfl, trivial⟩ rfl ⟨clF (flatA3 _ _ _ _), trivial⟩ rfl (by first | rfl | simp [mpV, mpA, mpS, mpP, renId, shift]) rfl) ?_
      refine segEndH [2, 3, 6, 7, 9, 12, 13] (T1 := (mkT 104 [(2, vP 1 0), (3, vP 2 0), (6, vS 4 R.length), (7, .bool true), (9, vS 7 R.length), (12, vN (1 + 3 * R.length)), (13, vN (1 + 3 * R.length))])) (by kernel_rfl) ?_
      refine kSeq ?_
      refine cSeq ?_
      refine cSeq ?_
      refine cReg ?_
      refine segEndH [2, 3, 6, 7, 9, 12, 13, 75] (T1 := (mkT 104 [(2, vP 1 0), (3, vP 2 0), (6, vS 4 R.length), (7, .bool true), (9, vS 7 R.length), (12, vN (1 + 3 * R.length)), (13, vN (1 + 3 * R.length)), (75, .bool (decide (((1 + 3 * R.length : Nat) : Int) < 0)))])) (by kernel_rfl) ?_
      refine kSeq ?_
      cases h3 : (decide (((1 + 3 * R.length : Nat) : Int) < 0) : Bool)
      ·
        (try simp only [Bool.not_eq_true', Bool.not_eq_false', decide_eq_true_eq, decide_eq_false_iff_not, beq_iff_eq, bne_iff_ne, beq_eq_false_iff_ne, bne_eq_false_iff_eq, ne_eq, Decidable.not_not, Bool.and_eq_true, Bool.and_eq_false_imp, Bool.or_eq_true, Bool.or_eq_false_iff, Bool.not_eq_true, Int.not_lt, Int.not_le, ge_iff_le, gt_iff_lt] at h3)
        refine cFalse (by kernel_rfl) ?_
        refine cSkip ?_
        refine kSeq ?_
        refine cSeq ?_
        refine cSeq ?_
        refine cReg ?_
        refine segH 2 (T1 := (mkT 104 [(2, vP 1 0), (3, vP 2 0), (6, vS 4 R.length), (7, .bool true), (9, vS 7 R.length), (12, vN (1 + 3 * R.length)), (13, vN (1 + 3 * R.length)), (75, .bool false), (76, vN (1 + 3 * R.length)), (77, vN (1 + 3 * R.length))])) (by kernel_rfl) ?_
        refine rOp (v := .bool false) (by kernel_rfl) (eNeS (k := .i64) (a := ((1 + 3 * R.length : Nat) : Int)) (by kernel_rfl) (by kernel_rfl)) ?_
        refine segEndH [2, 3, 6, 7, 9, 12, 78] (T1 := (mkT 104 [(2, vP 1 0), (3, vP 2 0), (6, vS 4 R.length), (7, .bool true), (9, vS 7 R.length), (12, vN (1 + 3 * R.length)), (78, .bool false)])) (by kernel_rfl) ?_
        refine kSeq ?_
        refine cFalse (by kernel_rfl) ?_
        refine cSkip ?_
        refine kSeq ?_
        refine cSeq ?_
        refine cRegW (N := 11) [⟨[], [], [1]⟩, ⟨[9], [], [0]⟩, ⟨[], [], [2]⟩, ⟨[], [], []⟩, ⟨[10], [], [9]⟩, ⟨[], [], []⟩, ⟨[], [], []⟩, ⟨[], [], []⟩, ⟨[], [], []⟩, ⟨[], [], []⟩] 2 [9, 10] (by rfl) (by rfl) (by kernel_rfl) (by kernel_rfl) (by kernel_rfl) ⟨nmsF (flatA3 _ _ _ _), ⟨nmsX (by kernel_rfl), ⟨nmsX (by kernel_rfl), ⟨nmsF (flatA3 _ _ _ _), ⟨nmsF (flatA3 _ _ _ _), ⟨nmsF (flatA3 _ _ _ _), ⟨nmsX (by kernel_rfl), ⟨nmsF (flatA3 _ _ _ _), ⟨nmsF (flatA3 _ _ _ _), trivial⟩⟩⟩⟩⟩⟩⟩⟩⟩ ?_
        refine segWH 1 (T1 := (mkT 104 [(2, vP 1 0), (3, vP 2 0), (6, vS 4 R.length), (7, .bool true), (9, vS 7 R.length), (12, vN (1 + 3 * R.length)), (78, .bool false), (80, .agg #[vN X, vN Y, vN Z, vS 0 L.length])])) (by kernel_rfl) ?_
        refine rW (m := ⟨[9], [], [0]⟩) (v := .agg #[vN X, vN Y, vN Z, vS 9 L.length]) rfl (by kernel_rfl) (stN (i := 9) (E := [some ⟨a3s L, 25, false, true⟩]) (v1 := .agg #[vN X, vN Y, vN Z, vS 11 L.length]) (args := [.agg #[vN X, vN Y, vN Z, vS 0 L.length]]) rfl (by kernel_rfl) (Any.lay (E := [some ⟨a3s L, 25, false, true⟩]) (N := 11) [0] (toHeapB ((X : Nat) : Int) ((Y : Nat) : Int) ((Z : Nat) : Int) L (by first | omega | assumption | (simp; done))) ⟨rdF false (flatA3 _ _ _ _) rfl rfl, trivial⟩ rfl ⟨clF (flatA3 _ _ _ _), trivial⟩ rfl (by first | rfl | simp [mpV, mpA, mpS, mpP, renId, shift]) (by first | rfl | simp [mpV, mpA, mpS, mpP, renId, shift]) ⟨enF (flatA3 _ _ _ _) (Or.inl rfl), trivial⟩) rfl (by kernel_rfl) (by kernel_rfl) (by kernel_rfl) (by kernel_rfl) (FlatH.cons (flatA3 _ _ _ _) FlatH.nil)) (by kernel_rfl) (NRs.all ⟨nrOf (by rfl) (nmF (flatA3 _ _ _ _)), trivial⟩) ?_
        refine segWH 1 (T1 := (mkT 104 [(2, vP 1 0), (3, vP 2 0), (6, vS 4 R.length), (7, .bool true), (9, vS 7 R.length), (12, vN (1 + 3 * R.length)), (78, .bool false), (80, .agg #[vN X, vN Y, vN Z, vS 0 L.length]), (81, .agg #[vN X, vN Y, vN Z, vS 9 L.length]), (82, .agg #[vI a, vI b, vI c])])) (by kernel_rfl) ?_
        refine rW (m := ⟨[], [], []⟩) (v := .agg #[vI a, vI b, vI c]) rfl (by kernel_rfl) (stQ (args := [.agg #[vI a, vI b, vI c]]) rfl (by kernel_rfl) (Any.lay0 [] (toA3B a b c) trivial rfl trivial rfl (by first | rfl | simp [mpV, mpA, mpS, mpP, renId, shift]) (by first | rfl | simp [mpV, mpA, mpS, mpP, renId, shift])) rfl (by kernel_rfl) (by kernel_rfl)) (by kernel_rfl) nr0 ?_
        refine rW (m := ⟨[10], [], [9]⟩) (v := .tuple #[vS 10 R.length, .bool true]) rfl (by kernel_rfl) (stN (i := 10) (E := [some ⟨a3s R, 25, false, true⟩]) (v1 := .tuple #[vS 11 R.length, .bool true]) (args := [.agg #[vN X, vN Y, vN Z, vS 9 L.length], .agg #[vI a, vI b, vI c]]) rfl (by kernel_rfl) (Any.lay (E := [some ⟨a3s R, 25, false, true⟩]) (N := 11) [9] (implNearCubes_yesR X Y Z L a b c R (by first | assumption | omega | rfl | decide | exact HeapL.list _ _ _ _ | exact HeapL.nil _ _ _ | exact HeapL.all _ _ _ | (apply HeapL.lt64 <;> assumption) | (repeat' (first | assumption | apply or_lt64 | apply and_lt64 | apply andn_lt64 | apply pow_lt64 | (apply HeapL.lt64 <;> assumption)))) (by first | assumption | omega | rfl | decide | exact HeapL.list _ _ _ _ | exact HeapL.nil _ _ _ | exact HeapL.all _ _ _ | (apply HeapL.lt64 <;> assumption) | (repeat' (first | assumption | apply or_lt64 | apply and_lt64 | apply andn_lt64 | apply pow_lt64 | (apply HeapL.lt64 <;> assumption)))) (by first | assumption | omega | rfl | decide | exact HeapL.list _ _ _ _ | exact HeapL.nil _ _ _ | exact HeapL.all _ _ _ | (apply HeapL.lt64 <;> assumption) | (repeat' (first | assumption | apply or_lt64 | apply and_lt64 | apply andn_lt64 | apply pow_lt64 | (apply HeapL.lt64 <;> assumption)))) (by first | assumption | omega | rfl | decide | exact HeapL.list _ _ _ _ | exact HeapL.nil _ _ _ | exact HeapL.all _ _ _ | (apply HeapL.lt64 <;> assumption) | (repeat' (first | assumption | apply or_lt64 | apply and_lt64 | apply andn_lt64 | apply pow_lt64 | (apply HeapL.lt64 <;> assumption))))) ⟨rdF true (flatA3 _ _ _ _) rfl rfl, trivial⟩ rfl ⟨clF (flatA3 _ _ _ _), trivial⟩ rfl (by first | rfl | simp [mpV, mpA, mpS, mpP, renId, shift]) (by first | rfl | simp [mpV, mpA, mpS, mpP, renId, shift]) ⟨enF (flatA3 _ _ _ _) (Or.inl rfl), trivial⟩) rfl (by kernel_rfl) (by kernel_rfl) (by kernel_rfl) (by kernel_rfl) (FlatH.cons (flatA3 _ _ _ _) FlatH.nil)) (by kernel_rfl) (NRs.all ⟨nrOf (by rfl) (nmF (flatA3 _ _ _ _)), trivial⟩) ?_
        refine segEndW [6, 7, 9, 12, 14, 15] (T1 := (mkT 104 [(6, vS 4 R.length), (7, .bool true), (9, vS 7 R.length), (12, vN (1 + 3 * R.length)), (14, vS 10 R.length), (15, .bool true)])) (H1 := [some ⟨a3s L, 25, false, false⟩, rB [vN X, vN Y, vN Z, vS 0 L.length] 24, rB [vI a, vI b, vI c] 25, some ⟨a3s L, 25, false, true⟩, some ⟨a3s R, 25, false, true⟩, some ⟨a3s (mk3 1 L.length), 25, false, true⟩, rB [vN X, vN Y, vN Z, vS 5 L.length] 29, some ⟨a3s (mk3 1 R.length), 25, false, true⟩, some ⟨a3s L, 25, false, true⟩, some ⟨a3s L, 25, false, true⟩, some ⟨a3s R, 25, false, true⟩]) (by kernel_rfl) ?_
        refine kSeq ?_
        refine cSeq ?_
        refine cSeq ?_
        refine cReg ?_
        refine segH 2 (T1 := (mkT 104 [(6, vS 4 R.length), (7, .bool true), (9, vS 7 R.length), (12, vN (1 + 3 * R.length)), (14, vS 10 R.length), (15, .bool true), (87, vS 10 R.length), (88, vS 4 R.length)])) (by kernel_rfl) ?_
        refine rCall (v := .bool true) (args := [vS 10 R.length, vS 4 R.length]) (by kernel_rfl) rfl (by kernel_rfl) (Sound.lay0 [10, 4] (eqA3SB R (by first | omega | assumption | (simp; done))) ⟨rdF true (flatA3 _ _ _ _) rfl rfl, ⟨rdF true (flatA3 _ _ _ _) rfl rfl, trivial⟩⟩ rfl ⟨clF (flatA3 _ _ _ _), ⟨clF (flatA3 _ _ _ _), trivial⟩⟩ rfl (by first | rfl | simp [mpV, mpA, mpS, mpP, renId, shift]) rfl) ?_
        refine segEndH [9, 12, 95] (T1 := (mkT 104 [(9, vS 7 R.length), (12, vN (1 + 3 * R.length)), (95, .bool false)])) (by kernel_rfl) ?_
        refine kSeq ?_
        refine cFalse (by kernel_rfl) ?_
        refine cSkip ?_
        refine kSeq ?_
        refine cSeq ?_
        refine cReg ?_
        refine segEndH [9, 12, 13] (T1 := (mkT 104 [(9, vS 7 R.length), (12, vN (1 + 3 * R.length)), (13, vI 1)])) (by kernel_rfl) ?_
        refine kSeq ?_
        refine cSeq ?_
        refine cReg ?_
        refine segH 2 (T1 := (mkT 104 [(9, vS 7 R.length), (12, vN (1 + 3 * R.length)), (13, vI 1), (96, vS 7 R.length), (97, vI 1)])) (by kernel_rfl) ?_
        refine rCall (v := vN (1 + 3 * R.length)) (args := [vS 7 R.length, vI 1]) (by kernel_rfl) rfl (by kernel_rfl) (Sound.lay0 [7] (heldA3SB 1 R.length (by first | omega | assumption | (simp; done)) (by first | assumption | omega | rfl | decide | exact HeapL.list _ _ _ _ | exact HeapL.nil _ _ _ | exact HeapL.all _ _ _ | (apply HeapL.lt64 <;> assumption) | (repeat' (first | assumption | apply or_lt64 | apply and_lt64 | apply andn_lt64 | apply pow_lt64 | (apply HeapL.lt64 <;> assumption))))) ⟨rdF true (flatA3 _ _ _ _) rfl rfl, trivial⟩ rfl ⟨clF (flatA3 _ _ _ _), trivial⟩ rfl (by first | rfl | simp [mpV, mpA, mpS, mpP, renId, shift]) rfl) ?_
        refine segEndH [12, 13] (T1 := (mkT 104 [(12, vN (1 + 3 * R.length)), (13, vN (1 + 3 * R.length))])) (by kernel_rfl) ?_
        refine kSeq ?_
        refine cSeq ?_
        refine cSeq ?_
        refine cReg ?_
        refine segEndH [12, 13, 100] (T1 := (mkT 104 [(12, vN (1 + 3 * R.length)), (13, vN (1 + 3 * R.length)), (100, .bool (decide (((1 + 3 * R.length : Nat) : Int) < 0)))])) (by kernel_rfl) ?_
        refine kSeq ?_
        cases h4 : (decide (((1 + 3 * R.length : Nat) : Int) < 0) : Bool)
        ·
          (try simp only [Bool.not_eq_true', Bool.not_eq_false', decide_eq_true_eq, decide_eq_false_iff_not, beq_iff_eq, bne_iff_ne, beq_eq_false_iff_ne, bne_eq_false_iff_eq, ne_eq, Decidable.not_not, Bool.and_eq_true, Bool.and_eq_false_imp, Bool.or_eq_true, Bool.or_eq_false_iff, Bool.not_eq_true, Int.not_lt, Int.not_le, ge_iff_le, gt_iff_lt] at h4)
          refine cFalse (by kernel_rfl) ?_
          refine cSkip ?_
          refine kSeq ?_
          refine cSeq ?_
          refine cSeq ?_
          refine cReg ?_
          refine segH 2 (T1 := (mkT 104 [(12, vN (1 + 3 * R.length)), (13, vN (1 + 3 * R.length)), (100, .bool false), (101, vN (1 + 3 * R.length)), (102, vN (1 + 3 * R.length))])) (by kernel_rfl) ?_
          refine rOp (v := .bool false) (by kernel_rfl) (eNeS (k := .i64) (a := ((1 + 3 * R.length : Nat) : Int)) (by kernel_rfl) (by kernel_rfl)) ?_
          refine segEndH [103] (T1 := (mkT 104 [(103, .bool false)])) (by kernel_rfl) ?_
          refine kSeq ?_
          refine cFalse (by kernel_rfl) ?_
          refine cSkip ?_
          refine kSeq ?_
          refine cSeq ?_
          refine cReg ?_
          refine segEndH [4] (T1 := (mkT 104 [(4, .bool true)])) (by kernel_rfl) ?_
          refine kSeq ?_
          refine cRet ?_
          -- end
          exact endQ (Or.inr rfl) (l := [.bool true]) [rB [vN X, vN Y, vN Z, vS 0 L.length] 24, rB [vI a, vI b, vI c] 25, some ⟨a3s L, 25, false, true⟩, some ⟨a3s R, 25, false, true⟩, some ⟨a3s (mk3 1 L.length), 25, false, true⟩, rB [vN X, vN Y, vN Z, vS 5 L.length] 29, some ⟨a3s (mk3 1 R.length), 25, false, true⟩, some ⟨a3s L, 25, false, true⟩, some ⟨a3s L, 25, false, true⟩, some ⟨a3s R, 25, false, true⟩] (by kernel_rfl) (by first | rfl | kernel_rfl) rfl rfl hcl rfl
        ·
          (try simp only [Bool.not_eq_true', Bool.not_eq_false', decide_eq_true_eq, decide_eq_false_iff_not, beq_iff_eq, bne_iff_ne, beq_eq_false_iff_ne, bne_eq_false_iff_eq, ne_eq, Decidable.not_not, Bool.and_eq_true, Bool.and_eq_false_imp, Bool.or_eq_true, Bool.or_eq_false_iff, Bool.not_eq_true, Int.not_lt, Int.not_le, ge_iff_le, gt_iff_lt] at h4)
          exfalso; omega
      ·
        (try simp only [Bool.not_eq_true', Bool.not_eq_false', decide_eq_true_eq, decide_eq_false_iff_not, beq_iff_eq, bne_iff_ne, beq_eq_false_iff_ne, bne_eq_false_iff_eq, ne_eq, Decidable.not_not, Bool.and_eq_true, Bool.and_eq_false_imp, Bool.or_eq_true, Bool.or_eq_false_iff, Bool.not_eq_true, Int.not_lt, Int.not_le, ge_iff_le, gt_iff_lt] at h3)
        exfalso; omega
    ·
      (try simp only [Bool.not_eq_true', Bool.not_eq_false', decide_eq_true_eq, decide_eq_false_iff_not, beq_iff_eq, bne_iff_ne, beq_eq_false_iff_ne, bne_eq_false_iff_eq, ne_eq, Decidable.not_not, Bool.and_eq_true, Bool.and_eq_false_imp, Bool.or_eq_true, Bool.or_eq_false_iff, Bool.not_eq_true, Int.not_lt, Int.not_le, ge_iff_le, gt_iff_lt] at h2)
      exfalso; omega
  ·
    (try simp only [Bool.not_eq_true', Bool.not_eq_false', decide_eq_true_eq, decide_eq_false_iff_not, beq_iff_eq, bne_iff_ne, beq_eq_false_iff_ne, bne_eq_false_iff_eq, ne_eq, Decidable.not_not, Bool.and_eq_true, Bool.and_eq_false_imp, Bool.or_eq_true, Bool.or_eq_false_iff, Bool.not_eq_true, Int.not_lt, Int.not_le, ge_iff_le, gt_iff_lt] at h1)
    exfalso; omega

set_option maxRecDepth 100000 in
set_option maxHeartbeats 4000000 in
theorem lawNearCubes_yes_n (X : Nat) (Y : Nat) (Z : Nat) (a : Int) (b : Int) (c : Int) (R : List A3) (hs : Sides X Y Z) (hh : has3 (X : Int) (Y : Int) (Z : Int) a b c = true) (hR : R = listOf X Y Z (nearTo X Y Z a b c 6 &&& setOf Y Z ([] : List A3))) : Sound Try.prog 6 [.agg #[vN X, vN Y, vN Z, .slice none 0 0], .agg #[vI a, vI b, vI c]] [] (.bool true) [] := by
  refine sound_intro (C := cx) Try.func6 rfl (by kernel_rfl) fun hcl => ?_
  have hz := hs.size
  have hx0 := hs.x0
  have hx4 := hs.x4
  have hy0 := hs.y0
  have hy4 := hs.y4
  have hz0 := hs.z0
  have hz4 := hs.z4
  have hlen : ([] : List A3).length ≤ 64 := by first | (have := hL.len; have := hs.size; omega) | simp
  have hr : R.length ≤ 64 := by (rw [hR]; have := (HeapL.list X Y Z (nearTo X Y Z a b c 6 &&& setOf Y Z ([] : List A3))).len; omega)
  refine cSeq ?_
  refine cReg ?_
  refine segEnd [2, 3] (T1 := (mkT 104 [(2, vP 0 0), (3, vP 1 0)])) (H1 := [rB [vN X, vN Y, vN Z, .slice none 0 0] 24, rB [vI a, vI b, vI c] 25]) (by kernel_rfl) ?_
  refine kSeq ?_
  refine cSeq ?_
  refine cReg ?_
  refine segEndH [2, 3, 5] (T1 := (mkT 104 [(2, vP 0 0), (3, vP 1 0), (5, vI 1048576)])) (by kernel_rfl) ?_
  refine kSeq ?_
  refine cSeq ?_
  refine cReg ?_
  refine segH 2 (T1 := (mkT 104 [(2, vP 0 0), (3, vP 1 0), (5, vI 1048576), (16, .agg #[vN X, vN Y, vN Z, .slice none 0 0]), (17, vI 1048576)])) (by kernel_rfl) ?_
  refine rCall (v := vI 1048576) (args := [.agg #[vN X, vN Y, vN Z, .slice none 0 0], vI 1048576]) (by kernel_rfl) rfl (by kernel_rfl) (Sound.lay0 [] (szHeapN ((X : Nat) : Int) ((Y : Nat) : Int) ((Z : Nat) : Int) 1048576 (by first | omega | assumption | decide)) trivial rfl trivial rfl (by first | rfl | simp [mpV, mpA, mpS, mpP, renId, shift]) rfl) ?_
  refine segEndH [2, 3, 5] (T1 := (mkT 104 [(2, vP 0 0), (3, vP 1 0), (5, vI 1048576)])) (by kernel_rfl) ?_
  refine kSeq ?_
  refine cSeq ?_
  refine cSeq ?_
  refine cReg ?_
  refine segEndH [2, 3, 20] (T1 := (mkT 104 [(2, vP 0 0), (3, vP 1 0), (20, .bool false)])) (by kernel_rfl) ?_
  refine kSeq ?_
  refine cFalse (by kernel_rfl) ?_
  refine cSkip ?_
  refine kSeq ?_
  refine cSeq ?_
  refine cRegW (N := 4) [⟨[], [], [0]⟩, ⟨[2], [], []⟩, ⟨[], [], [1]⟩, ⟨[], [], []⟩, ⟨[3], [], [2]⟩, ⟨[], [], []⟩, ⟨[], [], []⟩, ⟨[], [], []⟩, ⟨[], [], []⟩, ⟨[], [], []⟩] 2 [2, 3] (by rfl) (by rfl) (by kernel_rfl) (by kernel_rfl) (by kernel_rfl) ⟨nmsX (by kernel_rfl), ⟨nmsX (by kernel_rfl), trivial⟩⟩ ?_
  refine segWH 1 (T1 := (mkT 104 [(2, vP 0 0), (3, vP 1 0), (20, .bool false), (22, .agg #[vN X, vN Y, vN Z, .slice none 0 0])])) (by kernel_rfl) ?_
  refine rW (m := ⟨[2], [], []⟩) (v := .agg #[vN X, vN Y, vN Z, vS 2 0]) rfl (by kernel_rfl) (stN (i := 2) (E := [some ⟨[], 25, false, true⟩]) (v1 := .agg #[vN X, vN Y, vN Z, vS 4 0]) (args := [.agg #[vN X, vN Y, vN Z, .slice none 0 0]]) rfl (by kernel_rfl) (Any.lay (E := [some ⟨[], 25, false, true⟩]) (N := 4) [] (toHeapN ((X : Nat) : Int) ((Y : Nat) : Int) ((Z : Nat) : Int)) trivial rfl trivial rfl (by first | rfl | simp [mpV, mpA, mpS, mpP, renId, shift]) (by first | rfl | simp [mpV, mpA, mpS, mpP, renId, shift]) ⟨enX rfl (Or.inl rfl), trivial⟩) rfl (by kernel_rfl) (by kernel_rfl) (by kernel_rfl) (by kernel_rfl) (FlatH.cons (flatRow_of rfl) FlatH.nil)) (by kernel_rfl) (NRs.all ⟨nrOf (by rfl) (nmX (by kernel_rfl)), trivial⟩) ?_
  refine segWH 1 (T1 := (mkT 104 [(2, vP 0 0), (3, vP 1 0), (20, .bool false), (22, .agg #[vN X, vN Y, vN Z, .slice none 0 0]), (23, .agg #[vN X, vN Y, vN Z, vS 2 0]), (24, .agg #[vI a, vI b, vI c])])) (by kernel_rfl) ?_
  refine rW (m := ⟨[], [], []⟩) (v := .agg #[vI a, vI b, vI c]) rfl (by kernel_rfl) (stQ (args := [.agg #[vI a, vI b, vI c]]) rfl (by kernel_rfl) (Any.lay0 [] (toA3B a b c) trivial rfl trivial rfl (by first | rfl | simp [mpV, mpA, mpS, mpP, renId, shift]) (by first | rfl | simp [mpV, mpA, mpS, mpP, renId, shift])) rfl (by kernel_rfl) (by kernel_rfl)) (by kernel_rfl) nr0 ?_
  refine rW (m := ⟨[3], [], [2]⟩) (v := .tuple #[vS 3 R.length, .bool true]) rfl (by kernel_rfl) (stN (i := 3) (E := [some ⟨a3s R, 25, false, true⟩]) (v1 := .tuple #[vS 4 R.length, .bool true]) (args := [.agg #[vN X, vN Y, vN Z, vS 2 0], .agg #[vI a, vI b, vI c]]) rfl (by kernel_rfl) (Any.lay (E := [some ⟨a3s R, 25, false, true⟩]) (N := 4) [2] (specNearCubes_yesR X Y Z ([] : List A3) a b c R (by first | assumption | omega | rfl | decide | exact HeapL.list _ _ _ _ | exact HeapL.nil _ _ _ | exact HeapL.all _ _ _ | (apply HeapL.lt64 <;> assumption) | (repeat' (first | assumption | apply or_lt64 | apply and_lt64 | apply andn_lt64 | apply pow_lt64 | (apply HeapL.lt64 <;> assumption)))) (by first | assumption | omega | rfl | decide | exact HeapL.list _ _ _ _ | exact HeapL.nil _ _ _ | exact HeapL.all _ _ _ | (apply HeapL.lt64 <;> assumption) | (repeat' (first | assumption | apply or_lt64 | apply and_lt64 | apply andn_lt64 | apply pow_lt64 | (apply HeapL.lt64 <;> assumption)))) (by first | assumption | omega | rfl | decide | exact HeapL.list _ _ _ _ | exact HeapL.nil _ _ _ | exact HeapL.all _ _ _ | (apply HeapL.lt64 <;> assumption) | (repeat' (first | assumption | apply or_lt64 | apply and_lt64 | apply andn_lt64 | apply pow_lt64 | (apply HeapL.lt64 <;> assumption)))) (by first | assumption | omega | rfl | decide | exact HeapL.list _ _ _ _ | exact HeapL.nil _ _ _ | exact HeapL.all _ _ _ | (apply HeapL.lt64 <;> assumption) | (repeat' (first | assumption | apply or_lt64 | apply and_lt64 | apply andn_lt64 | apply pow_lt64 | (apply HeapL.lt64 <;> assumption))))) ⟨rdF true (flatA3 _ _ _ _) rfl rfl, trivial⟩ rfl ⟨clF (flatA3 _ _ _ _), trivial⟩ rfl (by first | rfl | simp [mpV, mpA, mpS, mpP, renId, shift]) (by first | rfl | simp [mpV, mpA, mpS, mpP, renId, shift]) ⟨enF (flatA3 _ _ _ _) (Or.inl rfl), trivial⟩) rfl (by kernel_rfl) (by kernel_rfl) (by kernel_rfl) (by kernel_rfl) (FlatH.cons (flatA3 _ _ _ _) FlatH.nil)) (by kernel_rfl) (NRs.all ⟨nrOf (by rfl) (nmF (flatA3 _ _ _ _)), trivial⟩) ?_
  refine segEndW [2, 3, 6, 7] (T1 := (mkT 104 [(2, vP 0 0), (3, vP 1 0), (6, vS 3 R.length), (7, .bool true)])) (H1 := [rB [vN X, vN Y, vN Z, .slice none 0 0] 24, rB [vI a, vI b, vI c] 25, some ⟨[], 25, false, true⟩, some ⟨a3s R, 25, false, true⟩]) (by kernel_rfl) ?_
  refine kSeq ?_
  refine cSeq ?_
  refine cReg ?_
  refine segH 1 (T1 := (mkT 104 [(2, vP 0 0), (3, vP 1 0), (6, vS 3 R.length), (7, .bool true), (29, .agg #[vN X, vN Y, vN Z, .slice none 0 0])])) (by kernel_rfl) ?_
  refine rCall (v := .agg #[vN X, vN Y, vN Z, vS 4 0]) (args := [.agg #[vN X, vN Y, vN Z, .slice none 0 0]]) (by kernel_rfl) rfl (by kernel_rfl) (Sound.lay (E := [some ⟨[], 25, false, true⟩]) [] (toHeapN ((X : Nat) : Int) ((Y : Nat) : Int) ((Z : Nat) : Int)) trivial rfl trivial rfl (by first | rfl | simp [mpV, mpA, mpS, mpP, renId, shift]) (by first | rfl | simp [mpV, mpA, mpS, mpP, renId, shift]) ⟨enX rfl (Or.inl rfl), trivial⟩) ?_
  refine segEnd [2, 3, 6, 7, 8] (T1 := (mkT 104 [(2, vP 0 0), (3, vP 1 0), (6, vS 3 R.length), (7, .bool true), (8, vP 5 0)])) (H1 := [rB [vN X, vN Y, vN Z, .slice none 0 0] 24, rB [vI a, vI b, vI c] 25, some ⟨[], 25, false, true⟩, some ⟨a3s R, 25, false, true⟩, some ⟨[], 25, false, true⟩, rB [vN X, vN Y, vN Z, vS 4 0] 29]) (by kernel_rfl) ?_
  refine kSeq ?_
  refine cSeq ?_
  refine cRegW (N := 7) [⟨[], [], [5]⟩, ⟨[], [], [1]⟩, ⟨[], [], []⟩, ⟨[6], [], [4]⟩, ⟨[], [], []⟩, ⟨[], [], []⟩, ⟨[], [], []⟩, ⟨[], [], []⟩, ⟨[], [], []⟩] 1 [6] (by rfl) (by rfl) (by kernel_rfl) (by kernel_rfl) (by kernel_rfl) ⟨nmsX (by kernel_rfl), ⟨nmsX (by kernel_rfl), ⟨nmsX (by kernel_rfl), ⟨nmsF (flatA3 _ _ _ _), ⟨nmsX (by kernel_rfl), ⟨nmsX (by kernel_rfl), trivial⟩⟩⟩⟩⟩⟩ ?_
  refine segWH 2 (T1 := (mkT 104 [(2, vP 0 0), (3, vP 1 0), (6, vS 3 R.length), (7, .bool true), (8, vP 5 0), (32, .agg #[vN X, vN Y, vN Z, vS 4 0]), (33, .agg #[vI a, vI b, vI c])])) (by kernel_rfl) ?_
  refine rW (m := ⟨[], [], []⟩) (v := .agg #[vI a, vI b, vI c]) rfl (by kernel_rfl) (stQ (args := [.agg #[vI a, vI b, vI c]]) rfl (by kernel_rfl) (Any.lay0 [] (toA3B a b c) trivial rfl trivial rfl (by first | rfl | simp [mpV, mpA, mpS, mpP, renId, shift]) (by first | rfl | simp [mpV, mpA, mpS, mpP, renId, shift])) rfl (by kernel_rfl) (by kernel_rfl)) (by kernel_rfl) nr0 ?_
  refine rW (m := ⟨[6], [], [4]⟩) (v := .tuple #[vS 6 R.length, .bool true]) rfl (by kernel_rfl) (stN (i := 6) (E := [some ⟨a3s R, 25, false, true⟩]) (v1 := .tuple #[vS 7 R.length, .bool true]) (args := [.agg #[vN X, vN Y, vN Z, vS 4 0], .agg #[vI a, vI b, vI c]]) rfl (by kernel_rfl) (Any.lay (E := [some ⟨a3s R, 25, false, true⟩]) (N := 7) [4] (implNearCubes_yesR X Y Z ([] : List A3) a b c R (by first | assumption | omega | rfl | decide | exact HeapL.list _ _ _ _ | exact HeapL.nil _ _ _ | exact HeapL.all _ _ _ | (apply HeapL.lt64 <;> assumption) | (repeat' (first | assumption | apply or_lt64 | apply and_lt64 | apply andn_lt64 | apply pow_lt64 | (apply HeapL.lt64 <;> assumption)))) (by first | assumption | omega | rfl | decide | exact HeapL.list _ _ _ _ | exact HeapL.nil _ _ _ | exact HeapL.all _ _ _ | (apply HeapL.lt64 <;> assumption) | (repeat' (first | assumption | apply or_lt64 | apply and_lt64 | apply andn_lt64 | apply pow_lt64 | (apply HeapL.lt64 <;> assumption)))) (by first | assumption | omega | rfl | decide | exact HeapL.list _ _ _ _ | exact HeapL.nil _ _ _ | exact HeapL.all _ _ _ | (apply HeapL.lt64 <;> assumption) | (repeat' (first | assumption | apply or_lt64 | apply and_lt64 | apply andn_lt64 | apply pow_lt64 | (apply HeapL.lt64 <;> assumption)))) (by first | assumption | omega | rfl | decide | exact HeapL.list _ _ _ _ | exact HeapL.nil _ _ _ | exact HeapL.all _ _ _ | (apply HeapL.lt64 <;> assumption) | (repeat' (first | assumption | apply or_lt64 | apply and_lt64 | apply andn_lt64 | apply pow_lt64 | (apply HeapL.lt64 <;> assumption))))) ⟨rdF true (flatA3 _ _ _ _) rfl rfl, trivial⟩ rfl ⟨clF (flatA3 _ _ _ _), trivial⟩ rfl (by first | rfl | simp [mpV, mpA, mpS, mpP, renId, shift]) (by first | rfl | simp [mpV, mpA, mpS, mpP, renId, shift]) ⟨enF (flatA3 _ _ _ _) (Or.inl rfl), trivial⟩) rfl (by kernel_rfl) (by kernel_rfl) (by kernel_rfl) (by kernel_rfl) (FlatH.cons (flatA3 _ _ _ _) FlatH.nil)) (by kernel_rfl) (NRs.all ⟨nrOf (by rfl) (nmF (flatA3 _ _ _ _)), trivial⟩) ?_
  refine segEndW [2, 3, 6, 7, 8, 9, 10] (T1 := (mkT 104 [(2, vP 0 0), (3, vP 1 0), (6, vS 3 R.length), (7, .bool true), (8, vP 5 0), (9, vS 6 R.length), (10, .bool true)])) (H1 := [rB [vN X, vN Y, vN Z, .slice none 0 0] 24, rB [vI a, vI b, vI c] 25, some ⟨[], 25, false, true⟩, some ⟨a3s R, 25, false, true⟩, some ⟨[], 25, false, true⟩, rB [vN X, vN Y, vN Z, vS 4 0] 29, some ⟨a3s R, 25, false, true⟩]) (by kernel_rfl) ?_
  refine kSeq ?_
  refine cSeq ?_
  refine cSeq ?_
  refine cReg ?_
  refine segH 2 (T1 := (mkT 104 [(2, vP 0 0), (3, vP 1 0), (6, vS 3 R.length), (7, .bool true), (8, vP 5 0), (9, vS 6 R.length), (10, .bool true), (38, vS 6 R.length), (39, vS 3 R.length)])) (by kernel_rfl) ?_
  refine rCall (v := .bool true) (args := [vS 6 R.length, vS 3 R.length]) (by kernel_rfl) rfl (by kernel_rfl) (Sound.lay0 [6, 3] (eqA3SB R (by first | omega | assumption | (simp; done))) ⟨rdF true (flatA3 _ _ _ _) rfl rfl, ⟨rdF true (flatA3 _ _ _ _) rfl rfl, trivial⟩⟩ rfl ⟨clF (flatA3 _ _ _ _), ⟨clF (flatA3 _ _ _ _), trivial⟩⟩ rfl (by first | rfl | simp [mpV, mpA, mpS, mpP, renId, shift]) rfl) ?_
  refine segEndH [2, 3, 6, 7, 8, 9, 10, 46] (T1 := (mkT 104 [(2, vP 0 0), (3, vP 1 0), (6, vS 3 R.length), (7, .bool true), (8, vP 5 0), (9, vS 6 R.length), (10, .bool true), (46, .bool false)])) (by kernel_rfl) ?_
  refine kSeq ?_
  refine cFalse (by kernel_rfl) ?_
  refine cSkip ?_
  refine kSeq ?_
  refine cSeq ?_
  refine cSeq ?_
  refine cRegW (N := 8) [⟨[], [], [5]⟩, ⟨[], [], [0]⟩, ⟨[7], [], []⟩, ⟨[], [], [4, 7]⟩, ⟨[], [], []⟩] 1 [7] (by rfl) (by rfl) (by kernel_rfl) (by kernel_rfl) (by kernel_rfl) ⟨nmsX (by kernel_rfl), ⟨nmsX (by kernel_rfl), ⟨nmsX (by kernel_rfl), ⟨nmsF (flatA3 _ _ _ _), ⟨nmsX (by kernel_rfl), ⟨nmsX (by kernel_rfl), ⟨nmsF (flatA3 _ _ _ _), trivial⟩⟩⟩⟩⟩⟩⟩ ?_
  refine segWH 2 (T1 := (mkT 104 [(2, vP 0 0), (3, vP 1 0), (6, vS 3 R.length), (7, .bool true), (8, vP 5 0), (9, vS 6 R.length), (10, .bool true), (46, .bool false), (47, .agg #[vN X, vN Y, vN Z, vS 4 0]), (48, .agg #[vN X, vN Y, vN Z, .slice none 0 0])])) (by kernel_rfl) ?_
  refine rW (m := ⟨[7], [], []⟩) (v := .agg #[vN X, vN Y, vN Z, vS 7 0]) rfl (by kernel_rfl) (stN (i := 7) (E := [some ⟨[], 25, false, true⟩]) (v1 := .agg #[vN X, vN Y, vN Z, vS 8 0]) (args := [.agg #[vN X, vN Y, vN Z, .slice none 0 0]]) rfl (by kernel_rfl) (Any.lay (E := [some ⟨[], 25, false, true⟩]) (N := 8) [] (toHeapN ((X : Nat) : Int) ((Y : Nat) : Int) ((Z : Nat) : Int)) trivial rfl trivial rfl (by first | rfl | simp [mpV, mpA, mpS, mpP, renId, shift]) (by first | rfl | simp [mpV, mpA, mpS, mpP, renId, shift]) ⟨enX rfl (Or.inl rfl), trivial⟩) rfl (by kernel_rfl) (by kernel_rfl) (by kernel_rfl) (by kernel_rfl) (FlatH.cons (flatRow_of rfl) FlatH.nil)) (by kernel_rfl) (NRs.all ⟨nrOf (by rfl) (nmX (by kernel_rfl)), trivial⟩) ?_
  refine rW (m := ⟨[], [], [4, 7]⟩) (v := .bool true) rfl (by kernel_rfl) (stQ (args := [.agg #[vN X, vN Y, vN Z, vS 4 0], .agg #[vN X, vN Y, vN Z, vS 7 0]]) rfl (by kernel_rfl) (Any.lay0 [4, 7] (eqHeapB ((X : Nat) : Int) ((Y : Nat) : Int) ((Z : Nat) : Int) ([] : List A3) (by first | omega | assumption | (simp; done))) ⟨rdF true (flatA3 _ _ _ _) rfl rfl, ⟨rdF true (flatA3 _ _ _ _) rfl rfl, trivial⟩⟩ rfl ⟨clF (flatA3 _ _ _ _), ⟨clF (flatA3 _ _ _ _), trivial⟩⟩ rfl (by first | rfl | simp [mpV, mpA, mpS, mpP, renId, shift]) rfl) rfl (by kernel_rfl) (by kernel_rfl)) (by kernel_rfl) nr0 ?_
  refine segEndW [2, 3, 6, 7, 8, 9, 10, 51] (T1 := (mkT 104 [(2, vP 0 0), (3, vP 1 0), (6, vS 3 R.length), (7, .bool true), (8, vP 5 0), (9, vS 6 R.length), (10, .bool true), (51, .bool false)])) (H1 := [rB [vN X, vN Y, vN Z, .slice none 0 0] 24, rB [vI a, vI b, vI c] 25, some ⟨[], 25, false, true⟩, some ⟨a3s R, 25, false, true⟩, some ⟨[], 25, false, true⟩, rB [vN X, vN Y, vN Z, vS 4 0] 29, some ⟨a3s R, 25, false, true⟩, some ⟨[], 25, false, true⟩]) (by kernel_rfl) ?_
  refine kSeq ?_
  refine cFalse (by kernel_rfl) ?_
  refine cSkip ?_
  refine kSeq ?_
  refine cSeq ?_
  refine cReg ?_
  refine segEndH [2, 3, 6, 7, 8, 9, 10, 11] (T1 := (mkT 104 [(2, vP 0 0), (3, vP 1 0), (6, vS 3 R.length), (7, .bool true), (8, vP 5 0), (9, vS 6 R.length), (10, .bool true), (11, vI 1)])) (by kernel_rfl) ?_
  refine kSeq ?_
  refine cSeq ?_
  refine cReg ?_
  refine segH 2 (T1 := (mkT 104 [(2, vP 0 0), (3, vP 1 0), (6, vS 3 R.length), (7, .bool true), (8, vP 5 0), (9, vS 6 R.length), (10, .bool true), (11, vI 1), (52, .agg #[vN X, vN Y, vN Z, vS 4 0]), (53, vI 1)])) (by kernel_rfl) ?_
  refine rCall (v := vN (1 + 3 * ([] : List A3).length)) (args := [.agg #[vN X, vN Y, vN Z, vS 4 0], vI 1]) (by kernel_rfl) rfl (by kernel_rfl) (Sound.emb_set (r := ⟨a3s ([] : List A3), 25, false, true⟩) (r' := ⟨a3s (mk3 1 ([] : List A3).length), 25, false, true⟩) 4 (markHeapB ((X : Nat) : Int) ((Y : Nat) : Int) ((Z : Nat) : Int) ([] : List A3) 1 (by first | omega | assumption | (simp; done)) (by first | assumption | omega | rfl | decide | exact HeapL.list _ _ _ _ | exact HeapL.nil _ _ _ | exact HeapL.all _ _ _ | (apply HeapL.lt64 <;> assumption) | (repeat' (first | assumption | apply or_lt64 | apply and_lt64 | apply andn_lt64 | apply pow_lt64 | (apply HeapL.lt64 <;> assumption))))) (flatA3 _ _ _ _) rfl (flatA3 _ _ _ _) rfl rfl rfl (by first | rfl | simp [mpV, mpA, mpS, mpP, renId, shift]) rfl) ?_
  refine segEnd [2, 3, 6, 7, 9, 10, 11] (T1 := (mkT 104 [(2, vP 0 0), (3, vP 1 0), (6, vS 3 R.length), (7, .bool true), (9, vS 6 R.length), (10, .bool true), (11, vN (1 + 3 * ([] : List A3).length))])) (H1 := [rB [vN X, vN Y, vN Z, .slice none 0 0] 24, rB [vI a, vI b, vI c] 25, some ⟨[], 25, false, true⟩, some ⟨a3s R, 25, false, true⟩, some ⟨a3s (mk3 1 ([] : List A3).length), 25, false, true⟩, rB [vN X, vN Y, vN Z, vS 4 0] 29, some ⟨a3s R, 25, false, true⟩, some ⟨[], 25, false, true⟩]) (by kernel_rfl) ?_
  refine kSeq ?_
  refine cSeq ?_
  refine cSeq ?_
  refine cReg ?_
  refine segH 3 (T1 := (mkT 104 [(2, vP 0 0), (3, vP 1 0), (6, vS 3 R.length), (7, .bool true), (9, vS 6 R.length), (10, .bool true), (11, vN (1 + 3 * ([] : List A3).length)), (55, vN (1 + 3 * ([] : List A3).length)), (56, .bool (decide (((1 + 3 * ([] : List A3).length : Nat) : Int) < 0))), (57, .bool (decide (((1 + 3 * ([] : List A3).length : Nat) : Int) < 0)))])) (by kernel_rfl) ?_
  cases h1 : (decide (((1 + 3 * ([] : List A3).length : Nat) : Int) < 0) : Bool)
  ·
    (try simp only [Bool.not_eq_true', Bool.not_eq_false', decide_eq_true_eq, decide_eq_false_iff_not, beq_iff_eq, bne_iff_ne, beq_eq_false_iff_ne, bne_eq_false_iff_eq, ne_eq, Decidable.not_not, Bool.and_eq_true, Bool.and_eq_false_imp, Bool.or_eq_true, Bool.or_eq_false_iff, Bool.not_eq_true, Int.not_lt, Int.not_le, ge_iff_le, gt_iff_lt] at h1)
    refine seg 2 (T1 := (mkT 104 [(2, vP 0 0), (3, vP 1 0), (6, vS 3 R.length), (7, .bool true), (9, vS 6 R.length), (10, .bool true), (11, vN (1 + 3 * ([] : List A3).length)), (55, vN (1 + 3 * ([] : List A3).length)), (56, .bool false), (57, .bool false), (58, vS 6 R.length), (59, vS 3 R.length)])) (H1 := [rB [vN X, vN Y, vN Z, .slice none 0 0] 24, rB [vI a, vI b, vI c] 25, some ⟨[], 25, false, true⟩, some ⟨a3s R, 25, false, true⟩, some ⟨a3s (mk3 1 ([] : List A3).length), 25, false, true⟩, rB [vN X, vN Y, vN Z, vS 4 0] 29, some ⟨a3s R, 25, false, true⟩, some ⟨[], 25, false, true⟩]) (by kernel_rfl) ?_
    refine rCall (v := .bool true) (args := [vS 6 R.length, vS 3 R.length]) (by kernel_rfl) rfl (by kernel_rfl) (Sound.lay0 [6, 3] (eqA3SB R (by first | omega | assumption | (simp; done))) ⟨rdF true (flatA3 _ _ _ _) rfl rfl, ⟨rdF true (flatA3 _ _ _ _) rfl rfl, trivial⟩⟩ rfl ⟨clF (flatA3 _ _ _ _), ⟨clF (flatA3 _ _ _ _), trivial⟩⟩ rfl (by first | rfl | simp [mpV, mpA, mpS, mpP, renId, shift]) rfl) ?_
    refine segEnd [2, 3, 6, 7, 9, 67] (T1 := (mkT 104 [(2, vP 0 0), (3, vP 1 0), (6, vS 3 R.length), (7, .bool true), (9, vS 6 R.length), (67, .bool false)])) (H1 := [rB [vN X, vN Y, vN Z, .slice none 0 0] 24, rB [vI a, vI b, vI c] 25, some ⟨[], 25, false, true⟩, some ⟨a3s R, 25, false, true⟩, some ⟨a3s (mk3 1 ([] : List A3).length), 25, false, true⟩, rB [vN X, vN Y, vN Z, vS 4 0] 29, some ⟨a3s R, 25, false, true⟩, some ⟨[], 25, false, true⟩]) (by kernel_rfl) ?_
    refine kSeq ?_
    refine cFalse (by kernel_rfl) ?_
    refine cSkip ?_
    refine kSeq ?_
    refine cSeq ?_
    refine cReg ?_
    refine segEndH [2, 3, 6, 7, 9, 12] (T1 := (mkT 104 [(2, vP 0 0), (3, vP 1 0), (6, vS 3 R.length), (7, .bool true), (9, vS 6 R.length), (12, vI 1)])) (by kernel_rfl) ?_
    refine kSeq ?_
    refine cSeq ?_
    refine cReg ?_
    refine segH 2 (T1 := (mkT 104 [(2, vP 0 0), (3, vP 1 0), (6, vS 3 R.length), (7, .bool true), (9, vS 6 R.length), (12, vI 1), (68, vS 6 R.length), (69, vI 1)])) (by kernel_rfl) ?_
    refine rCall (v := vN (1 + 3 * R.length)) (args := [vS 6 R.length, vI 1]) (by kernel_rfl) rfl (by kernel_rfl) (Sound.emb_set (r := ⟨a3s R, 25, false, true⟩) (r' := ⟨a3s (mk3 1 R.length), 25, false, true⟩) 6 (markA3SB R 1 (by first | omega | assumption | (simp; done)) (by first | assumption | omega | rfl | decide | exact HeapL.list _ _ _ _ | exact HeapL.nil _ _ _ | exact HeapL.all _ _ _ | (apply HeapL.lt64 <;> assumption) | (repeat' (first | assumption | apply or_lt64 | apply and_lt64 | apply andn_lt64 | apply pow_lt64 | (apply HeapL.lt64 <;> assumption))))) (flatA3 _ _ _ _) rfl (flatA3 _ _ _ _) rfl rfl rfl (by first | rfl | simp [mpV, mpA, mpS, mpP, renId, shift]) rfl) ?_
    refine segEnd [2, 3, 6, 7, 9, 12] (T1 := (mkT 104 [(2, vP 0 0), (3, vP 1 0), (6, vS 3 R.length), (7, .bool true), (9, vS 6 R.length), (12, vN (1 + 3 * R.length))])) (H1 := [rB [vN X, vN Y, vN Z, .slice none 0 0] 24, rB [vI a, vI b, vI c] 25, some ⟨[], 25, false, true⟩, some ⟨a3s R, 25, false, true⟩, some ⟨a3s (mk3 1 ([] : List A3).length), 25, false, true⟩, rB [vN X, vN Y, vN Z, vS 4 0] 29, some ⟨a3s (mk3 1 R.length), 25, false, true⟩, some ⟨[], 25, false, true⟩]) (by kernel_rfl) ?_
    refine kSeq ?_
    refine cSeq ?_
    refine cReg ?_
    refine segEndH [2, 3, 6, 7, 9, 12, 13] (T1 := (mkT 104 [(2, vP 0 0), (3, vP 1 0), (6, vS 3 R.length), (7, .bool true), (9, vS 6 R.length), (12, vN (1 + 3 * R.length)), (13, vI 1)])) (by kernel_rfl) ?_
    refine kSeq ?_
    refine cSeq ?_
    refine cReg ?_
    refine segH 2 (T1 := (mkT 104 [(2, vP 0 0), (3, vP 1 0), (6, vS 3 R.length), (7, .bool true), (9, vS 6 R.length), (12, vN (1 + 3 * R.length)), (13, vI 1), (71, vS 6 R.length), (72, vI 1)])) (by kernel_rfl) ?_
    refine rCall (v := vN (1 + 3 * R.length)) (args := [vS 6 R.length, vI 1]) (by kernel_rfl) rfl (by kernel_rfl) (Sound.lay0 [6] (heldA3SB 1 R.length (by first | omega | assumption | (simp; done)) (by first | assumption | omega | rfl | decide | exact HeapL.list _ _ _ _ | exact HeapL.nil _ _ _ | exact HeapL.all _ _ _ | (apply HeapL.lt64 <;> assumption) | (repeat' (first | assumption | apply or_lt64 | apply and_lt64 | apply andn_lt64 | apply pow_lt64 | (apply HeapL.lt64 <;> assumption))))) ⟨rdF true (flatA3 _ _ _ _) rfl rfl, trivial⟩ rfl ⟨clF (flatA3 _ _ _ _), trivial⟩ rfl (by first | rfl | simp [mpV, mpA, mpS, mpP, renId, shift]) rfl) ?_
    refine segEndH [2, 3, 6, 7, 9, 12, 13] (T1 := (mkT 104 [(2, vP 0 0), (3, vP 1 0), (6, vS 3 R.length), (7, .bool true), (9, vS 6 R.length), (12, vN (1 + 3 * R.length)), (13, vN (1 + 3 * R.length))])) (by kernel_rfl) ?_
    refine kSeq ?_
    refine cSeq ?_
    refine cSeq ?_
    refine cReg ?_
    refine segEndH [2, 3, 6, 7, 9, 12, 13, 75] (T1 := (mkT 104 [(2, vP 0 0), (3, vP 1 0), (6, vS 3 R.length), (7, .bool true), (9, vS 6 R.length), (12, vN (1 + 3 * R.length)), (13, vN (1 + 3 * R.length)), (75, .bool (decide (((1 + 3 * R.length : Nat) : Int) < 0)))])) (by kernel_rfl) ?_
    refine kSeq ?_
    cases h2 : (decide (((1 + 3 * R.length : Nat) : Int) < 0) : Bool)
    ·
      (try simp only [Bool.not_eq_true', Bool.not_eq_false', decide_eq_true_eq, decide_eq_false_iff_not, beq_iff_eq, bne_iff_ne, beq_eq_false_iff_ne, bne_eq_false_iff_eq, ne_eq, Decidable.not_not, Bool.and_eq_true, Bool.and_eq_false_imp, Bool.or_eq_true, Bool.or_eq_false_iff, Bool.not_eq_true, Int.not_lt, Int.not_le, ge_iff_le, gt_iff_lt] at h2)
      refine cFalse (by kernel_rfl) ?_
      refine cSkip ?_
      refine kSeq ?_
      refine cSeq ?_
      refine cSeq ?_
      refine cReg ?_
      refine segH 2 (T1 := (mkT 104 [(2, vP 0 0), (3, vP 1 0), (6, vS 3 R.length), (7, .bool true), (9, vS 6 R.length), (12, vN (1 + 3 * R.length)), (13, vN (1 + 3 * R.length)), (75, .bool false), (76, vN (1 + 3 * R.length)), (77, vN (1 + 3 * R.length))])) (by kernel_rfl) ?_
      refine rOp (v := .bool false) (by kernel_rfl) (eNeS (k := .i64) (a := ((1 + 3 * R.length : Nat) : Int)) (by kernel_rfl) (by kernel_rfl)) ?_
      refine segEndH [2, 3, 6, 7, 9, 12, 78] (T1 := (mkT 104 [(2, vP 0 0), (3, vP 1 0), (6, vS 3 R.length), (7, .bool true), (9, vS 6 R.length), (12, vN (1 + 3 * R.length)), (78, .bool false)])) (by kernel_rfl) ?_
      refine kSeq ?_
      refine cFalse (by kernel_rfl) ?_
      refine cSkip ?_
      refine kSeq ?_
      refine cSeq ?_
      refine cRegW (N := 10) [⟨[], [], [0]⟩, ⟨[8], [], []⟩, ⟨[], [], [1]⟩, ⟨[], [], []⟩, ⟨[9], [], [8]⟩, ⟨[], [], []⟩, ⟨[], [], []⟩, ⟨[], [], []⟩, ⟨[], [], []⟩, ⟨[], [], []⟩] 2 [8, 9] (by rfl) (by rfl) (by kernel_rfl) (by kernel_rfl) (by kernel_rfl) ⟨nmsX (by kernel_rfl), ⟨nmsX (by kernel_rfl), ⟨nmsX (by kernel_rfl), ⟨nmsF (flatA3 _ _ _ _), ⟨nmsF (flatA3 _ _ _ _), ⟨nmsX (by kernel_rfl), ⟨nmsF (flatA3 _ _ _ _), ⟨nmsX (by kernel_rfl), trivial⟩⟩⟩⟩⟩⟩⟩⟩ ?_
      refine segWH 1 (T1 := (mkT 104 [(2, vP 0 0), (3, vP 1 0), (6, vS 3 R.length), (7, .bool true), (9, vS 6 R.length), (12, vN (1 + 3 * R.length)), (78, .bool false), (80, .agg #[vN X, vN Y, vN Z, .slice none 0 0])])) (by kernel_rfl) ?_
      refine rW (m := ⟨[8], [], []⟩) (v := .agg #[vN X, vN Y, vN Z, vS 8 0]) rfl (by kernel_rfl) (stN (i := 8) (E := [some ⟨[], 25, false, true⟩]) (v1 := .agg #[vN X, vN Y, vN Z, vS 10 0]) (args := [.agg #[vN X, vN Y, vN Z, .slice none 0 0]]) rfl (by kernel_rfl) (Any.lay (E := [some ⟨[], 25, false, true⟩]) (N := 10) [] (toHeapN ((X : Nat) : Int) ((Y : Nat) : Int) ((Z : Nat) : Int)) trivial rfl trivial rfl (by first | rfl | simp [mpV, mpA, mpS, mpP, renId, shift]) (by first | rfl | simp [mpV, mpA, mpS, mpP, renId, shift]) ⟨enX rfl (Or.inl rfl), trivial⟩) rfl (by kernel_rfl) (by kernel_rfl) (by kernel_rfl) (by kernel_rfl) (FlatH.cons (flatRow_of rfl) FlatH.nil)) (by kernel_rfl) (NRs.all ⟨nrOf (by rfl) (nmX (by kernel_rfl)), trivial⟩) ?_
      refine segWH 1 (T1 := (mkT 104 [(2, vP 0 0), (3, vP 1 0), (6, vS 3 R.length), (7, .bool true), (9, vS 6 R.length), (12, vN (1 + 3 * R.length)), (78, .bool false), (80, .agg #[vN X, vN Y, vN Z, .slice none 0 0]), (81, .agg #[vN X, vN Y, vN Z, vS 8 0]), (82, .agg #[vI a, vI b, vI c])])) (by kernel_rfl) ?_
      refine rW (m := ⟨[], [], []⟩) (v := .agg #[vI a, vI b, vI c]) rfl (by kernel_rfl) (stQ (args := [.agg #[vI a, vI b, vI c]]) rfl (by kernel_rfl) (Any.lay0 [] (toA3B a b c) trivial rfl trivial rfl (by first | rfl | simp [mpV, mpA, mpS, mpP, renId, shift]) (by first | rfl | simp [mpV, mpA, mpS, mpP, renId, shift])) rfl (by kernel_rfl) (by kernel_rfl)) (by kernel_rfl) nr0 ?_
      refine rW (m := ⟨[9], [], [8]⟩) (v := .tuple #[vS 9 R.length, .bool true]) rfl (by kernel_rfl) (stN (i := 9) (E := [some ⟨a3s R, 25, false, true⟩]) (v1 := .tuple #[vS 10 R.length, .bool true]) (args := [.agg #[vN X, vN Y, vN Z, vS 8 0], .agg #[vI a, vI b, vI c]]) rfl (by kernel_rfl) (Any.lay (E := [some ⟨a3s R, 25, false, true⟩]) (N := 10) [8] (implNearCubes_yesR X Y Z ([] : List A3) a b c R (by first | assumption | omega | rfl | decide | exact HeapL.list _ _ _ _ | exact HeapL.nil _ _ _ | exact HeapL.all _ _ _ | (apply HeapL.lt64 <;> assumption) | (repeat' (first | assumption | apply or_lt64 | apply and_lt64 | apply andn_lt64 | apply pow_lt64 | (apply HeapL.lt64 <;> assumption)))) (by first | assumption | omega | rfl | decide | exact HeapL.list _ _ _ _ | exact HeapL.nil _ _ _ | exact HeapL.all _ _ _ | (apply HeapL.lt64 <;> assumption) | (repeat' (first | assumption | apply or_lt64 | apply and_lt64 | apply andn_lt64 | apply pow_lt64 | (apply HeapL.lt64 <;> assumption)))) (by first | assumption | omega | rfl | decide | exact HeapL.list _ _ _ _ | exact HeapL.nil _ _ _ | exact HeapL.all _ _ _ | (apply HeapL.lt64 <;> assumption) | (repeat' (first | assumption | apply or_lt64 | apply and_lt64 | apply andn_lt64 | apply pow_lt64 | (apply HeapL.lt64 <;> assumption)))) (by first | assumption | omega | rfl | decide | exact HeapL.list _ _ _ _ | exact HeapL.nil _ _ _ | exact HeapL.all _ _ _ | (apply HeapL.lt64 <;> assumption) | (repeat' (first | assumption | apply or_lt64 | apply and_lt64 | apply andn_lt64 | apply pow_lt64 | (apply HeapL.lt64 <;> assumption))))) ⟨rdF true (flatA3 _ _ _ _) rfl rfl, trivial⟩ rfl ⟨clF (flatA3 _ _ _ _), trivial⟩ rfl (by first | rfl | simp [mpV, mpA, mpS, mpP, renId, shift]) (by first | rfl | simp [mpV, mpA, mpS, mpP, renId, shift]) ⟨enF (flatA3 _ _ _ _) (Or.inl rfl), trivial⟩) rfl (by kernel_rfl) (by kernel_rfl) (by kernel_rfl) (by kernel_rfl) (FlatH.cons (flatA3 _ _ _ _) FlatH.nil)) (by kernel_rfl) (NRs.all ⟨nrOf (by rfl) (nmF (flatA3 _ _ _ _)), trivial⟩) ?_
      refine segEndW [6, 7, 9, 12, 14, 15] (T1 := (mkT 104 [(6, vS 3 R.length), (7, .bool true), (9, vS 6 R.length), (12, vN (1 + 3 * R.length)), (14, vS 9 R.length), (15, .bool true)])) (H1 := [rB [vN X, vN Y, vN Z, .slice none 0 0] 24, rB [vI a, vI b, vI c] 25, some ⟨[], 25, false, true⟩, some ⟨a3s R, 25, false, true⟩, some ⟨a3s (mk3 1 ([] : List A3).length), 25, false, true⟩, rB [vN X, vN Y, vN Z, vS 4 0] 29, some ⟨a3s (mk3 1 R.length), 25, false, true⟩, some ⟨[], 25, false, true⟩, some ⟨[], 25, false, true⟩, some ⟨a3s R, 25, false, true⟩]) (by kernel_rfl) ?_
      refine kSeq ?_
      refine cSeq ?_
      refine cSeq ?_
      refine cReg ?_
      refine segH 2 (T1 := (mkT 104 [(6, vS 3 R.length), (7, .bool true), (9, vS 6 R.length), (12, vN (1 + 3 * R.length)), (14, vS 9 R.length), (15, .bool true), (87, vS 9 R.length), (88, vS 3 R.length)])) (by kernel_rfl) ?_
      refine rCall (v := .bool true) (args := [vS 9 R.length, vS 3 R.length]) (by kernel_rfl) rfl (by kernel_rfl) (Sound.lay0 [9, 3] (eqA3SB R (by first | omega | assumption | (simp; done))) ⟨rdF true (flatA3 _ _ _ _) rfl rfl, ⟨rdF true (flatA3 _ _ _ _) rfl rfl, trivial⟩⟩ rfl ⟨clF (flatA3 _ _ _ _), ⟨clF (flatA3 _ _ _ _), trivial⟩⟩ rfl (by first | rfl | simp [mpV, mpA, mpS, mpP, renId, shift]) rfl) ?_
      refine segEndH [9, 12, 95] (T1 := (mkT 104 [(9, vS 6 R.length), (12, vN (1 + 3 * R.length)), (95, .bool false)])) (by kernel_rfl) ?_
      refine kSeq ?_
      refine cFalse (by kernel_rfl) ?_
      refine cSkip ?_
      refine kSeq ?_
      refine cSeq ?_
      refine cReg ?_
      refine segEndH [9, 12, 13] (T1 := (mkT 104 [(9, vS 6 R.length), (12, vN (1 + 3 * R.length)), (13, vI 1)])) (by kernel_rfl) ?_
      refine kSeq ?_
      refine cSeq ?_
      refine cReg ?_
      refine segH 2 (T1 := (mkT 104 [(9, vS 6 R.length), (12, vN (1 + 3 * R.length)), (13, vI 1), (96, vS 6 R.length), (97, vI 1)])) (by kernel_rfl) ?_
      refine rCall (v := vN (1 + 3 * R.length)) (args := [vS 6 R.length, vI 1]) (by kernel_rfl) rfl (by kernel_rfl) (Sound.lay0 [6] (heldA3SB 1 R.length (by first | omega | assumption | (simp; done)) (by first | assumption | omega | rfl | decide | exact HeapL.list _ _ _ _ | exact HeapL.nil _ _ _ | exact HeapL.all _ _ _ | (apply HeapL.lt64 <;> assumption) | (repeat' (first | assumption | apply or_lt64 | apply and_lt64 | apply andn_lt64 | apply pow_lt64 | (apply HeapL.lt64 <;> assumption))))) ⟨rdF true (flatA3 _ _ _ _) rfl rfl, trivial⟩ rfl ⟨clF (flatA3 _ _ _ _), trivial⟩ rfl (by first | rfl | simp [mpV, mpA, mpS, mpP, renId, shift]) rfl) ?_
      refine segEndH [12, 13] (T1 := (mkT 104 [(12, vN (1 + 3 * R.length)), (13, vN (1 + 3 * R.length))])) (by kernel_rfl) ?_
      refine kSeq ?_
      refine cSeq ?_
      refine cSeq ?_
      refine cReg ?_
      refine segEndH [12, 13, 100] (T1 := (mkT 104 [(12, vN (1 + 3 * R.length)), (13, vN (1 + 3 * R.length)), (100, .bool (decide (((1 + 3 * R.length : Nat) : Int) < 0)))])) (by kernel_rfl) ?_
      refine kSeq ?_
      cases h3 : (decide (((1 + 3 * R.length : Nat) : Int) < 0) : Bool)
      ·
        (try simp only [Bool.not_eq_true', Bool.not_eq_false', decide_eq_true_eq, decide_eq_false_iff_not, beq_iff_eq, bne_iff_ne, beq_eq_false_iff_ne, bne_eq_false_iff_eq, ne_eq, Decidable.not_not, Bool.and_eq_true, Bool.and_eq_false_imp, Bool.or_eq_true, Bool.or_eq_false_iff, Bool.not_eq_true, Int.not_lt, Int.not_le, ge_iff_le, gt_iff_lt] at h3)
        refine cFalse (by kernel_rfl) ?_
        refine cSkip ?_
        refine kSeq ?_
        refine cSeq ?_
        refine cSeq ?_
        refine cReg ?_
        refine segH 2 (T1 := (mkT 104 [(12, vN (1 + 3 * R.length)), (13, vN (1 + 3 * R.length)), (100, .bool false), (101, vN (1 + 3 * R.length)), (102, vN (1 + 3 * R.length))])) (by kernel_rfl) ?_
        refine rOp (v := .bool false) (by kernel_rfl) (eNeS (k := .i64) (a := ((1 + 3 * R.length : Nat) : Int)) (by kernel_rfl) (by kernel_rfl)) ?_
        refine segEndH [103] (T1 := (mkT 104 [(103, .bool false)])) (by kernel_rfl) ?_
        refine kSeq ?_
        refine cFalse (by kernel_rfl) ?_
        refine cSkip ?_
        refine kSeq ?_
        refine cSeq ?_
        refine cReg ?_
        refine segEndH [4] (T1 := (mkT 104 [(4, .bool true)])) (by kernel_rfl) ?_
        refine kSeq ?_
        refine cRet ?_
        -- end
        exact endQ (Or.inr rfl) (l := [.bool true]) [rB [vN X, vN Y, vN Z, .slice none 0 0] 24, rB [vI a, vI b, vI c] 25, some ⟨[], 25, false, true⟩, some ⟨a3s R, 25, false, true⟩, some ⟨a3s (mk3 1 ([] : List A3).length), 25, false, true⟩, rB [vN X, vN Y, vN Z, vS 4 0] 29, some ⟨a3s (mk3 1 R.length), 25, false, true⟩, some ⟨[], 25, false, true⟩, some ⟨[], 25, false, true⟩, some ⟨a3s R, 25, false, true⟩] (by kernel_rfl) (by first | rfl | kernel_rfl) rfl rfl hcl rfl
      ·
        (try simp only [Bool.not_eq_true', Bool.not_eq_false', decide_eq_true_eq, decide_eq_false_iff_not, beq_iff_eq, bne_iff_ne, beq_eq_false_iff_ne, bne_eq_false_iff_eq, ne_eq, Decidable.not_not, Bool.and_eq_true, Bool.and_eq_false_imp, Bool.or_eq_true, Bool.or_eq_false_iff, Bool.not_eq_true, Int.not_lt, Int.not_le, ge_iff_le, gt_iff_lt] at h3)
        exfalso; omega
    ·
      (try simp only [Bool.not_eq_true', Bool.not_eq_false', decide_eq_true_eq, decide_eq_false_iff_not, beq_iff_eq, bne_iff_ne, beq_eq_false_iff_ne, bne_eq_false_iff_eq, ne_eq, Decidable.not_not, Bool.and_eq_true, Bool.and_eq_false_imp, Bool.or_eq_true, Bool.or_eq_false_iff, Bool.not_eq_true, Int.not_lt, Int.not_le, ge_iff_le, gt_iff_lt] at h2)
      exfalso; omega
  ·
    (try simp only [Bool.not_eq_true', Bool.not_eq_false', decide_eq_true_eq, decide_eq_false_iff_not, beq_iff_eq, bne_iff_ne, beq_eq_false_iff_ne, bne_eq_false_iff_eq, ne_eq, Decidable.not_not, Bool.and_eq_true, Bool.and_eq_false_imp, Bool.or_eq_true, Bool.or_eq_false_iff, Bool.not_eq_true, Int.not_lt, Int.not_le, ge_iff_le, gt_iff_lt] at h1)
    exfalso; omega

theorem lawNearCubes_s (x y z : Int) (L : List A3) (a b c : Int) (hm : L.length ≤ 9223372036854775807) : Sound Try.prog 6 [.agg #[vI x, vI y, vI z, vS 0 L.length], .agg #[vI a, vI b, vI c]] [some ⟨a3s L, 25, false, false⟩] (.bool true) [some ⟨a3s L, 25, false, false⟩] := by
  by_cases hl : L.length ≤ 1048576
  · cases hv : (isHeapB x y z L && has3 x y z a b c)
    · exact lawNearCubes_no_s x y z L a b c hl hv
    · rw [Bool.and_eq_true] at hv
      obtain ⟨X, Y, Z, rfl, rfl, rfl, hs, hL⟩ := heapL_of hv.1
      have hh := hv.2
      exact lawNearCubes_yes_s X Y Z L a b c _ hs hL hh rfl
  · exact lawNearCubes_big_s x y z L a b c (by omega) hm

theorem lawNearCubes_n (x y z : Int) (a b c : Int)  : Sound Try.prog 6 [.agg #[vI x, vI y, vI z, .slice none 0 0], .agg #[vI a, vI b, vI c]] [] (.bool true) [] := by
  cases hv : (isHeapB x y z ([] : List A3) && has3 x y z a b c)
  · exact lawNearCubes_no_n x y z a b c hv
  · rw [Bool.and_eq_true] at hv
    obtain ⟨X, Y, Z, rfl, rfl, rfl, hs, hL⟩ := heapL_of hv.1
    have hh := hv.2
    exact lawNearCubes_yes_n X Y Z a b c _ hs hh rfl
end Go.Proofs.Ytenkiofddpjidaa
namespace Go.Proofs.Ytenkiofddpjidaa.fnExactNearCubes
open Go.Am Go.ChangeShapes Go.WideShapes Go.ChangeAt Go.RowKit
theorem own : ownKnob Try.prog.godebug = none := by kernel_rfl
theorem laidOut : laidOutB Try.prog = true := by kernel_rfl
set_option maxRecDepth 100000 in
theorem lifted (os : Os) (started : os.Started) (H : Type) (enc : TypeId × Value → H) :
    ReturnsInHanded {} Try.checked os 6 .any (Rows.fnExactNearCubesSpec.pre6 enc Try.prog Try.f6 Rows.fnExactNearCubesRow.domain false) (Rows.fnExactNearCubesSpec.post enc Try.prog Try.f6 false true false false) := by
  refine returnsInHanded_of_change_sized (C := Try.checked) own started (by kernel_rfl) Try.func6
    (ChangeSpec.witness6 (enc := enc) (C := Try.checked) false ⟨#[], #[.agg #[.int .i64 0, .int .i64 0, .int .i64 0, .slice none 0 0], .agg #[.int .i64 0, .int .i64 0, .int .i64 0]], []⟩ 8 (by kernel_rfl) (by kernel_rfl) (by kernel_rfl) (by kernel_rfl)) ?_
  intro W base args ds gs before hval0 hW hcnd hsz0 _
  have hval : ∀ (j : Nat) t v, Try.f6.params[j]? = some t → args[j]? = some v → Value.okWide Try.prog W .any base t v := hval0
  have hW' := hW
  obtain ⟨p, q, hA0, hV, rfl, hfz, hnd⟩ := hW
  have hA : DataW.TrodAll enc Try.prog W 0 (fun _ => true) true Try.f6.params.toList args.toList ds p := hA0
  rw [Try.params6] at hA hval
  obtain ⟨v0, vs0, d0, ds0, p0, q0, hargs, rfl, rfl, h0, r0⟩ := trodAll_cons hA
  obtain ⟨v1, vs1, d1, ds1, p1, q1, rfl, rfl, rfl, h1, r1⟩ := trodAll_cons r0
  obtain ⟨rfl, rfl, rfl⟩ := trodAll_nil r1
  obtain rfl : args = #[v0, v1] := by cases args; simp_all
  obtain ⟨rfl, rfl⟩ := trodVars_none hV
  have hlt0 : ∀ x ∈ p0, x.block < W.heap.size := fun x hx => by simpa using hW'.lt x (by simp [hx])
  have hlt1 : ∀ x ∈ p1, x.block < W.heap.size := fun x hx => by simpa using hW'.lt x (by simp [hx])
  have fin : (∃ Q : Prop, Q) ∧ Calls Try.prog 6 #[v0, v1] W (fun e W' => e = .returned (.bool true) ∧ Below W.heap.size W W') := by
    refine ⟨⟨True, trivial⟩, ?_⟩
    obtain ⟨x0, y0, z0, wx0, wy0, wz0, hor0⟩ := open_heap (b0 := base) Try.underlying24 ⟨rfl, rfl⟩ ⟨rfl, rfl⟩ ⟨rfl, rfl⟩ ⟨rfl, rfl⟩ Try.underlying22 Try.underlying25 Try.underlying3 (by kernel_rfl) (by kernel_rfl) (by kernel_rfl) (by kernel_rfl) (by kernel_rfl) (hval 0 24 v0 rfl rfl) h0
    obtain ⟨a1, b1, c1, rfl⟩ := open_a3 (b0 := base) Try.underlying25 Try.underlying3 (by kernel_rfl) (by kernel_rfl) (hval 1 25 v1 rfl rfl) h1
    rcases hor0 with rfl | ⟨ad0, cap0, L0, rfl, hl0, hm0, hsp0, hhas0, hcell0⟩
    · have hS : Sound Try.prog 6 [.agg #[.int .i64 x0, .int .i64 y0, .int .i64 z0, .slice none 0 0], .agg #[.int .i64 a1, .int .i64 b1, .int .i64 c1]] [] (.bool true) [] := lawNearCubes_n x0 y0 z0 a1 b1 c1
      exact hS.top0 rfl rfl W
    · have hS : Sound Try.prog 6 [.agg #[.int .i64 x0, .int .i64 y0, .int .i64 z0, .slice (some ⟨0, 0, none⟩) L0.length 0], .agg #[.int .i64 a1, .int .i64 b1, .int .i64 c1]] [some ⟨a3s L0, 25, false, false⟩] (.bool true) [some ⟨a3s L0, 25, false, false⟩] := lawNearCubes_s x0 y0 z0 L0 a1 b1 c1 (by have : maxLen = 9223372036854775807 := rfl; omega)
      have hrep := rep_one (P := Try.prog) (b0 := base) (ta := 25) (by kernel_rfl) hhas0 (by rw [Try.underlying25]; simp) hcell0 hl0
      have h := hS.top (fun i r hi => by cases i with
        | zero => simp at hi; subst hi; rfl
        | succ i => simp at hi) hrep (fun x hx i hi => by
        simp at hx
        rcases hx with rfl | rfl <;> simp [idsV, idsA, idsS, idsP] at hi
        simp [hi]) rfl
      obtain ⟨blk0, off0, spot0⟩ := ad0
      simp only at hsp0
      subst hsp0
      simpa [mapV, mpV, mpA, mpS, mpP, toReal] using h
  clear hA0 hval0 hsz0
  refine fin.2.mono fun e W' ⟨he, bel⟩ => ?_
  subst he
  exact ⟨_, rfl, _, _, _, [], _, [], hW', trodAll_mk1 (shut_bool Try.underlying4 _), (trodAll_cons_mk (Below.trod laidOut (by kernel_rfl) (of_decide_eq_true (by kernel_rfl)) h0 bel hlt0) (trodAll_cons_mk (Below.trod laidOut (by kernel_rfl) (of_decide_eq_true (by kernel_rfl)) h1 bel hlt1) trodAll_mk0)), rfl, bel.frame _, fun h => by cases h⟩
theorem over : Rows.fnExactNearCubesRow.holds Try.pinned (OpenSpec.ofChange Rows.fnExactNearCubesSpec) :=
  OpenClaim.holds_of_wide 6 Try.f6 rfl rfl rfl rfl rfl rfl rfl ⟨rfl, rfl, rfl, rfl, rfl⟩ rfl rfl rfl rfl rfl (by kernel_rfl) Try.func6 (by kernel_rfl)
    (of_decide_eq_true (by kernel_rfl)) (by unfold Func.isWrapper; first | (rw [if_pos (by decide +kernel)]; kernel_rfl) | (rw [if_neg (by decide +kernel)]; exact ⟨rfl, rfl⟩))
    (fun os started H enc _ => lifted os started H enc)
end Go.Proofs.Ytenkiofddpjidaa.fnExactNearCubes
namespace Go.Proofs.Ytenkiofddpjidaa
/-- The row, under a short name, for the claim. -/
theorem fnExactNearCubes_holds : Rows.FnExactNearCubesSaid := fnExactNearCubes.over
#print axioms fnExactNearCubes_holds
end Go.Proofs.Ytenkiofddpjidaa
