/- Walks. No condition. -/
import Derived.Test.YtenkiofddpjidaaAmJ5
set_option linter.unusedVariables false
set_option linter.unusedSimpArgs false
namespace Go.Proofs.Ytenkiofddpjidaa
open Go.Am Go.RowKit
theorem valid_no (x : Int) (y : Int) (z : Int) (hv2 : valid3 x y z = false) : Sound Try.prog 82 [.agg #[vI x, vI y, vI z]] [] (.bool false) [] := by
  have h := valid_ok x y z; rw [hv2] at h; exact h

theorem sides_no (x : Int) (y : Int) (z : Int) (hv2 : valid3 x y z = false) : Sound Try.prog 80 [vI x, vI y, vI z] [] (.bool false) [] := by
  have h := sides_ok x y z; rw [hv2] at h; exact h

set_option maxRecDepth 100000 in
set_option maxHeartbeats 4000000 in
theorem l2Kept_no (x : Int) (y : Int) (z : Int) (L : List A3) (hl : L.length ≤ 1048576) (hk : isHeapB x y z L = false) : Sound Try.prog 81 [.agg #[vI x, vI y, vI z, vS 0 L.length]] [some ⟨a3s L, 25, false, false⟩] (.tuple #[.agg #[vI 0, vI 0, vI 0, .slice none 0 0], .bool false]) [some ⟨a3s L, 25, false, false⟩] := by
  refine sound_intro (C := cx) Try.func81 rfl (by kernel_rfl) fun hcl => ?_
  refine cSeq ?_
  refine cReg ?_
  refine segEnd [1, 2] (T1 := (mkT 9 [(1, vP 1 0), (2, vP 2 0)])) (H1 := [some ⟨a3s L, 25, false, false⟩, rB [vI x, vI y, vI z, vS 0 L.length] 29, rB [vI 0, vI 0, vI 0, .slice none 0 0] 29]) (by kernel_rfl) ?_
  refine kSeq ?_
  refine cSeq ?_
  refine cSeq ?_
  refine cReg ?_
  refine segH 1 (T1 := (mkT 9 [(1, vP 1 0), (2, vP 2 0), (4, .agg #[vI x, vI y, vI z, vS 0 L.length])])) (by kernel_rfl) ?_
  refine rCall (v := .bool false) (args := [.agg #[vI x, vI y, vI z, vS 0 L.length]]) (by kernel_rfl) rfl (by kernel_rfl) (Sound.lay0 [0] (l2HeapB_no x y z L (by first | assumption | omega | rfl | decide | exact HeapL.list _ _ _ _ | exact HeapL.nil _ _ _ | exact HeapL.all _ _ _ | (apply HeapL.lt64 <;> assumption) | (repeat' (first | assumption | apply or_lt64 | apply and_lt64 | apply andn_lt64 | apply pow_lt64 | (apply HeapL.lt64 <;> assumption)))) (by assumption)) ⟨rdF false (flatA3 _ _ _ _) rfl rfl, trivial⟩ rfl ⟨clF (flatA3 _ _ _ _), trivial⟩ rfl (by first | rfl | simp [mpV, mpA, mpS, mpP, renId, shift]) rfl) ?_
  refine segEndH [1, 2, 6] (T1 := (mkT 9 [(1, vP 1 0), (2, vP 2 0), (6, .bool true)])) (by kernel_rfl) ?_
  refine kSeq ?_
  refine cTrue (by kernel_rfl) ?_
  refine cSeq ?_
  refine cReg ?_
  refine segEnd [2, 3] (T1 := (mkT 9 [(2, vP 2 0), (3, .bool false)])) (H1 := [some ⟨a3s L, 25, false, false⟩, rB [vI x, vI y, vI z, vS 0 L.length] 29, rB [vI 0, vI 0, vI 0, .slice none 0 0] 29]) (by kernel_rfl) ?_
  refine kSeq ?_
  refine cRet ?_
  refine kSeqR ?_
  -- end
  exact endQ (Or.inr rfl) (l := [.agg #[vI 0, vI 0, vI 0, .slice none 0 0], .bool false]) [rB [vI x, vI y, vI z, vS 0 L.length] 29, rB [vI 0, vI 0, vI 0, .slice none 0 0] 29] (by kernel_rfl) (by first | rfl | kernel_rfl) rfl rfl hcl rfl

set_option maxRecDepth 100000 in
set_option maxHeartbeats 4000000 in
theorem l2Kept_yes (X : Nat) (Y : Nat) (Z : Nat) (L : List A3) (hs : Sides X Y Z) (hL : HeapL X Y Z L) : Sound Try.prog 81 [.agg #[vN X, vN Y, vN Z, vS 0 L.length]] [some ⟨a3s L, 25, false, false⟩] (.tuple #[.agg #[vN X, vN Y, vN Z, vS 0 L.length], .bool true]) [some ⟨a3s L, 25, false, false⟩] := by
  refine sound_intro (C := cx) Try.func81 rfl (by kernel_rfl) fun hcl => ?_
  refine cSeq ?_
  refine cReg ?_
  refine segEnd [1, 2] (T1 := (mkT 9 [(1, vP 1 0), (2, vP 2 0)])) (H1 := [some ⟨a3s L, 25, false, false⟩, rB [vN X, vN Y, vN Z, vS 0 L.length] 29, rB [vI 0, vI 0, vI 0, .slice none 0 0] 29]) (by kernel_rfl) ?_
  refine kSeq ?_
  refine cSeq ?_
  refine cSeq ?_
  refine cReg ?_
  refine segH 1 (T1 := (mkT 9 [(1, vP 1 0), (2, vP 2 0), (4, .agg #[vN X, vN Y, vN Z, vS 0 L.length])])) (by kernel_rfl) ?_
  refine rCall (v := .bool true) (args := [.agg #[vN X, vN Y, vN Z, vS 0 L.length]]) (by kernel_rfl) rfl (by kernel_rfl) (Sound.lay0 [0] (l2HeapB X Y Z L (by first | assumption | omega | rfl | decide | exact HeapL.list _ _ _ _ | exact HeapL.nil _ _ _ | exact HeapL.all _ _ _ | (apply HeapL.lt64 <;> assumption) | (repeat' (first | assumption | apply or_lt64 | apply and_lt64 | apply andn_lt64 | apply pow_lt64 | (apply HeapL.lt64 <;> assumption)))) (by first | assumption | omega | rfl | decide | exact HeapL.list _ _ _ _ | exact HeapL.nil _ _ _ | exact HeapL.all _ _ _ | (apply HeapL.lt64 <;> assumption) | (repeat' (first | assumption | apply or_lt64 | apply and_lt64 | apply andn_lt64 | apply pow_lt64 | (apply HeapL.lt64 <;> assumption))))) ⟨rdF false (flatA3 _ _ _ _) rfl rfl, trivial⟩ rfl ⟨clF (flatA3 _ _ _ _), trivial⟩ rfl (by first | rfl | simp [mpV, mpA, mpS, mpP, renId, shift]) rfl) ?_
  refine segEndH [1, 2, 6] (T1 := (mkT 9 [(1, vP 1 0), (2, vP 2 0), (6, .bool false)])) (by kernel_rfl) ?_
  refine kSeq ?_
  refine cFalse (by kernel_rfl) ?_
  refine cSkip ?_
  refine kSeq ?_
  refine cSeq ?_
  refine cReg ?_
  refine segEnd [2, 3] (T1 := (mkT 9 [(2, vP 2 0), (3, .bool true)])) (H1 := [some ⟨a3s L, 25, false, false⟩, rB [vN X, vN Y, vN Z, vS 0 L.length] 29, rB [vN X, vN Y, vN Z, vS 0 L.length] 29]) (by kernel_rfl) ?_
  refine kSeq ?_
  refine cRet ?_
  -- end
  exact endQ (Or.inr rfl) (l := [.agg #[vN X, vN Y, vN Z, vS 0 L.length], .bool true]) [rB [vN X, vN Y, vN Z, vS 0 L.length] 29, rB [vN X, vN Y, vN Z, vS 0 L.length] 29] (by kernel_rfl) (by first | rfl | kernel_rfl) rfl rfl hcl rfl

set_option maxRecDepth 100000 in
set_option maxHeartbeats 4000000 in
theorem specWidenHeap_no1 (x : Int) (y : Int) (z : Int) (L : List A3) (k : Int) (m : Int) (n : Int) (hl : L.length ≤ 1048576) (hv : isHeapB x y z L = false) : Sound Try.prog 42 [.agg #[vI x, vI y, vI z, vS 0 L.length], vI k, vI m, vI n] [some ⟨a3s L, 25, false, false⟩] (.tuple #[.agg #[vI 0, vI 0, vI 0, .slice none 0 0], .bool false]) [some ⟨a3s L, 25, false, false⟩] := by
  refine sound_intro (C := cx) Try.func42 rfl (by kernel_rfl) fun hcl => ?_
  refine cSeq ?_
  refine cReg ?_
  refine segEnd [1, 2, 3, 4, 8] (T1 := (mkT 36 [(1, vI k), (2, vI m), (3, vI n), (4, vP 1 0), (8, vP 2 0)])) (H1 := [some ⟨a3s L, 25, false, false⟩, rB [vI x, vI y, vI z, vS 0 L.length] 29, rB [vI 0, vI 0, vI 0, .slice none 0 0] 29]) (by kernel_rfl) ?_
  refine kSeq ?_
  refine cSeq ?_
  refine cSeq ?_
  refine cReg ?_
  refine segH 1 (T1 := (mkT 36 [(1, vI k), (2, vI m), (3, vI n), (4, vP 1 0), (8, vP 2 0), (11, .agg #[vI x, vI y, vI z, vS 0 L.length])])) (by kernel_rfl) ?_
  refine rCall (v := .bool false) (args := [.agg #[vI x, vI y, vI z, vS 0 L.length]]) (by kernel_rfl) rfl (by kernel_rfl) (Sound.lay0 [0] (l2HeapB_no x y z L (by first | assumption | omega | rfl | decide | exact HeapL.list _ _ _ _ | exact HeapL.nil _ _ _ | exact HeapL.all _ _ _ | (apply HeapL.lt64 <;> assumption) | (repeat' (first | assumption | apply or_lt64 | apply and_lt64 | apply andn_lt64 | apply pow_lt64 | (apply HeapL.lt64 <;> assumption)))) (by first | assumption | omega | rfl | decide | exact HeapL.list _ _ _ _ | exact HeapL.nil _ _ _ | exact HeapL.all _ _ _ | (apply HeapL.lt64 <;> assumption) | (repeat' (first | assumption | apply or_lt64 | apply and_lt64 | apply andn_lt64 | apply pow_lt64 | (apply HeapL.lt64 <;> assumption))))) ⟨rdF false (flatA3 _ _ _ _) rfl rfl, trivial⟩ rfl ⟨clF (flatA3 _ _ _ _), trivial⟩ rfl (by first | rfl | simp [mpV, mpA, mpS, mpP, renId, shift]) rfl) ?_
  refine segEndH [1, 2, 3, 4, 8, 20] (T1 := (mkT 36 [(1, vI k), (2, vI m), (3, vI n), (4, vP 1 0), (8, vP 2 0), (20, .bool true)])) (by kernel_rfl) ?_
  refine kSeq ?_
  refine cTrue (by kernel_rfl) ?_
  refine cSeq ?_
  refine cReg ?_
  refine segEnd [8, 9] (T1 := (mkT 36 [(8, vP 2 0), (9, .bool false)])) (H1 := [some ⟨a3s L, 25, false, false⟩, rB [vI x, vI y, vI z, vS 0 L.length] 29, rB [vI 0, vI 0, vI 0, .slice none 0 0] 29]) (by kernel_rfl) ?_
  refine kSeq ?_
  refine cRet ?_
  refine kSeqR ?_
  -- end
  exact endQ (Or.inr rfl) (l := [.agg #[vI 0, vI 0, vI 0, .slice none 0 0], .bool false]) [rB [vI x, vI y, vI z, vS 0 L.length] 29, rB [vI 0, vI 0, vI 0, .slice none 0 0] 29] (by kernel_rfl) (by first | rfl | kernel_rfl) rfl rfl hcl rfl

set_option maxRecDepth 100000 in
set_option maxHeartbeats 4000000 in
theorem specWidenHeap_no2 (X : Nat) (Y : Nat) (Z : Nat) (L : List A3) (k : Int) (m : Int) (n : Int) (hs : Sides X Y Z) (hL : HeapL X Y Z L) (hv2 : valid3 k m n = false) : Sound Try.prog 42 [.agg #[vN X, vN Y, vN Z, vS 0 L.length], vI k, vI m, vI n] [some ⟨a3s L, 25, false, false⟩] (.tuple #[.agg #[vI 0, vI 0, vI 0, .slice none 0 0], .bool false]) [some ⟨a3s L, 25, false, false⟩] := by
  refine sound_intro (C := cx) Try.func42 rfl (by kernel_rfl) fun hcl => ?_
  have hz := hs.size
  have hx0 := hs.x0
  have hx4 := hs.x4
  have hy0 := hs.y0
  have hy4 := hs.y4
  have hz0 := hs.z0
  have hz4 := hs.z4
  have hlen := hL.len
  have hlt := hL.lt64 hs
  refine cSeq ?_
  refine cReg ?_
  refine segEnd [1, 2, 3, 4, 8] (T1 := (mkT 36 [(1, vI k), (2, vI m), (3, vI n), (4, vP 1 0), (8, vP 2 0)])) (H1 := [some ⟨a3s L, 25, false, false⟩, rB [vN X, vN Y, vN Z, vS 0 L.length] 29, rB [vI 0, vI 0, vI 0, .slice none 0 0] 29]) (by kernel_rfl) ?_
  refine kSeq ?_
  refine cSeq ?_
  refine cSeq ?_
  refine cReg ?_
  refine segH 1 (T1 := (mkT 36 [(1, vI k), (2, vI m), (3, vI n), (4, vP 1 0), (8, vP 2 0), (11, .agg #[vN X, vN Y, vN Z, vS 0 L.length])])) (by kernel_rfl) ?_
  refine rCall (v := .bool true) (args := [.agg #[vN X, vN Y, vN Z, vS 0 L.length]]) (by kernel_rfl) rfl (by kernel_rfl) (Sound.lay0 [0] (l2HeapB X Y Z L (by first | assumption | omega | rfl | decide | exact HeapL.list _ _ _ _ | exact HeapL.nil _ _ _ | exact HeapL.all _ _ _ | (apply HeapL.lt64 <;> assumption) | (repeat' (first | assumption | apply or_lt64 | apply and_lt64 | apply andn_lt64 | apply pow_lt64 | (apply HeapL.lt64 <;> assumption)))) (by first | assumption | omega | rfl | decide | exact HeapL.list _ _ _ _ | exact HeapL.nil _ _ _ | exact HeapL.all _ _ _ | (apply HeapL.lt64 <;> assumption) | (repeat' (first | assumption | apply or_lt64 | apply and_lt64 | apply andn_lt64 | apply pow_lt64 | (apply HeapL.lt64 <;> assumption))))) ⟨rdF false (flatA3 _ _ _ _) rfl rfl, trivial⟩ rfl ⟨clF (flatA3 _ _ _ _), trivial⟩ rfl (by first | rfl | simp [mpV, mpA, mpS, mpP, renId, shift]) rfl) ?_
  refine segH 5 (T1 := (mkT 36 [(1, vI k), (2, vI m), (3, vI n), (4, vP 1 0), (8, vP 2 0), (11, .agg #[vN X, vN Y, vN Z, vS 0 L.length]), (12, .bool true), (13, .bool false), (14, .bool false), (15, vI k), (16, vI m), (17, vI n)])) (by kernel_rfl) ?_
  refine rCall (v := .bool false) (args := [vI k, vI m, vI n]) (by kernel_rfl) rfl (by kernel_rfl) (Sound.lay0 [] (sides_no k m n (by first | assumption | omega | rfl | decide | exact HeapL.list _ _ _ _ | exact HeapL.nil _ _ _ | exact HeapL.all _ _ _ | (apply HeapL.lt64 <;> assumption) | (repeat' (first | assumption | apply or_lt64 | apply and_lt64 | apply andn_lt64 | apply pow_lt64 | (apply HeapL.lt64 <;> assumption))))) trivial rfl trivial rfl (by first | rfl | simp [mpV, mpA, mpS, mpP, renId, shift]) rfl) ?_
  refine segEndH [1, 2, 3, 4, 8, 20] (T1 := (mkT 36 [(1, vI k), (2, vI m), (3, vI n), (4, vP 1 0), (8, vP 2 0), (20, .bool true)])) (by kernel_rfl) ?_
  refine kSeq ?_
  refine cTrue (by kernel_rfl) ?_
  refine cSeq ?_
  refine cReg ?_
  refine segEnd [8, 9] (T1 := (mkT 36 [(8, vP 2 0), (9, .bool false)])) (H1 := [some ⟨a3s L, 25, false, false⟩, rB [vN X, vN Y, vN Z, vS 0 L.length] 29, rB [vI 0, vI 0, vI 0, .slice none 0 0] 29]) (by kernel_rfl) ?_
  refine kSeq ?_
  refine cRet ?_
  refine kSeqR ?_
  -- end
  exact endQ (Or.inr rfl) (l := [.agg #[vI 0, vI 0, vI 0, .slice none 0 0], .bool false]) [rB [vN X, vN Y, vN Z, vS 0 L.length] 29, rB [vI 0, vI 0, vI 0, .slice none 0 0] 29] (by kernel_rfl) (by first | rfl | kernel_rfl) rfl rfl hcl rfl

set_option maxRecDepth 100000 in
set_option maxHeartbeats 4000000 in
theorem specWidenHeap_in (X : Nat) (Y : Nat) (Z : Nat) (X2 : Nat) (Y2 : Nat) (Z2 : Nat) (L : List A3) (hs : Sides X Y Z) (hL : HeapL X Y Z L) (hs2 : Sides X2 Y2 Z2) (hL2 : HeapL X2 Y2 Z2 L) : Sound Try.prog 42 [.agg #[vN X, vN Y, vN Z, vS 0 L.length], vN X2, vN Y2, vN Z2] [some ⟨a3s L, 25, false, false⟩] (.tuple #[.agg #[vN X2, vN Y2, vN Z2, vS 1 L.length], .bool true]) [some ⟨a3s L, 25, false, false⟩, some ⟨a3s (L), 25, false, true⟩] := by
  refine sound_intro (C := cx) Try.func42 rfl (by kernel_rfl) fun hcl => ?_
  have hz := hs.size
  have hx0 := hs.x0
  have hx4 := hs.x4
  have hy0 := hs.y0
  have hy4 := hs.y4
  have hz0 := hs.z0
  have hz4 := hs.z4
  have hlen := hL.len
  have hlt := hL.lt64 hs
  have hz2 := hs2.size
  refine cSeq ?_
  refine cReg ?_
  refine segEnd [1, 2, 3, 4, 8] (T1 := (mkT 36 [(1, vN X2), (2, vN Y2), (3, vN Z2), (4, vP 1 0), (8, vP 2 0)])) (H1 := [some ⟨a3s L, 25, false, false⟩, rB [vN X, vN Y, vN Z, vS 0 L.length] 29, rB [vI 0, vI 0, vI 0, .slice none 0 0] 29]) (by kernel_rfl) ?_
  refine kSeq ?_
  refine cSeq ?_
  refine cSeq ?_
  refine cReg ?_
  refine segH 1 (T1 := (mkT 36 [(1, vN X2), (2, vN Y2), (3, vN Z2), (4, vP 1 0), (8, vP 2 0), (11, .agg #[vN X, vN Y, vN Z, vS 0 L.length])])) (by kernel_rfl) ?_
  refine rCall (v := .bool true) (args := [.agg #[vN X, vN Y, vN Z, vS 0 L.length]]) (by kernel_rfl) rfl (by kernel_rfl) (Sound.lay0 [0] (l2HeapB X Y Z L (by first | assumption | omega | rfl | decide | exact HeapL.list _ _ _ _ | exact HeapL.nil _ _ _ | exact HeapL.all _ _ _ | (apply HeapL.lt64 <;> assumption) | (repeat' (first | assumption | apply or_lt64 | apply and_lt64 | apply andn_lt64 | apply pow_lt64 | (apply HeapL.lt64 <;> assumption)))) (by first | assumption | omega | rfl | decide | exact HeapL.list _ _ _ _ | exact HeapL.nil _ _ _ | exact HeapL.all _ _ _ | (apply HeapL.lt64 <;> assumption) | (repeat' (first | assumption | apply or_lt64 | apply and_lt64 | apply andn_lt64 | apply pow_lt64 | (apply HeapL.lt64 <;> assumption))))) ⟨rdF false (flatA3 _ _ _ _) rfl rfl, trivial⟩ rfl ⟨clF (flatA3 _ _ _ _), trivial⟩ rfl (by first | rfl | simp [mpV, mpA, mpS, mpP, renId, shift]) rfl) ?_
  refine segH 5 (T1 := (mkT 36 [(1, vN X2), (2, vN Y2), (3, vN Z2), (4, vP 1 0), (8, vP 2 0), (11, .agg #[vN X, vN Y, vN Z, vS 0 L.length]), (12, .bool true), (13, .bool false), (14, .bool false), (15, vN X2), (16, vN Y2), (17, vN Z2)])) (by kernel_rfl) ?_
  refine rCall (v := .bool true) (args := [vN X2, vN Y2, vN Z2]) (by kernel_rfl) rfl (by kernel_rfl) (Sound.lay0 [] (sidesB X2 Y2 Z2 (by first | assumption | omega | rfl | decide | exact HeapL.list _ _ _ _ | exact HeapL.nil _ _ _ | exact HeapL.all _ _ _ | (apply HeapL.lt64 <;> assumption) | (repeat' (first | assumption | apply or_lt64 | apply and_lt64 | apply andn_lt64 | apply pow_lt64 | (apply HeapL.lt64 <;> assumption))))) trivial rfl trivial rfl (by first | rfl | simp [mpV, mpA, mpS, mpP, renId, shift]) rfl) ?_
  refine segEndH [1, 2, 3, 4, 8, 20] (T1 := (mkT 36 [(1, vN X2), (2, vN Y2), (3, vN Z2), (4, vP 1 0), (8, vP 2 0), (20, .bool false)])) (by kernel_rfl) ?_
  refine kSeq ?_
  refine cFalse (by kernel_rfl) ?_
  refine cSkip ?_
  refine kSeq ?_
  refine cSeq ?_
  refine cReg ?_
  refine segH 3 (T1 := (mkT 36 [(1, vN X2), (2, vN Y2), (3, vN Z2), (4, vP 1 0), (8, vP 2 0), (20, .bool false), (22, vN X2), (23, vN Y2), (24, vN Z2)])) (by kernel_rfl) ?_
  refine rCall (v := .agg #[vN X2, vN Y2, vN Z2, vS 3 0]) (args := [vN X2, vN Y2, vN Z2]) (by kernel_rfl) rfl (by kernel_rfl) (Sound.lay (E := [some ⟨[], 25, false, true⟩]) [] (l2EmptyB ((X2 : Nat) : Int) ((Y2 : Nat) : Int) ((Z2 : Nat) : Int)) trivial rfl trivial rfl (by first | rfl | simp [mpV, mpA, mpS, mpP, renId, shift]) (by first | rfl | simp [mpV, mpA, mpS, mpP, renId, shift]) ⟨enX rfl (Or.inl rfl), trivial⟩) ?_
  refine segEnd [4, 8, 10] (T1 := (mkT 36 [(4, vP 1 0), (8, vP 2 0), (10, vP 4 0)])) (H1 := [some ⟨a3s L, 25, false, false⟩, rB [vN X, vN Y, vN Z, vS 0 L.length] 29, rB [vI 0, vI 0, vI 0, .slice none 0 0] 29, some ⟨[], 25, false, true⟩, rB [vN X2, vN Y2, vN Z2, vS 3 0] 29]) (by kernel_rfl) ?_
  refine kSeq ?_
  refine cSeq ?_
  refine cReg ?_
  refine segH 4 (T1 := (mkT 36 [(4, vP 1 0), (8, vP 2 0), (10, vP 4 0), (26, vP 4 3), (27, vS 3 0), (28, vP 1 3), (29, vS 0 L.length)])) (by kernel_rfl) ?_
  refine rOp (v := vS 5 L.length) (H' := [some ⟨a3s L, 25, false, false⟩, rB [vN X, vN Y, vN Z, vS 0 L.length] 29, rB [vI 0, vI 0, vI 0, .slice none 0 0] 29, none, rB [vN X2, vN Y2, vN Z2, vS 3 0] 29, some ⟨a3s L, 25, false, true⟩]) (by kernel_rfl) (eAppA3s (b := 3) (a := 0) (o := 0) (l := 0) (m := L.length) (c := 0) (L := ([] : List A3)) (M := L) (R := L) (e2 := 25) (bx := false) (w := false) (by kernel_rfl) (by kernel_rfl) ti22 ti25 rfl rfl (by decide) (by kernel_rfl) (by kernel_rfl) (by first | rfl | omega) (by first | omega | (simp; done) | (simp; omega)) (by first | omega | (simp <;> omega)) (by simp) rfl) ?_
  refine segEnd [8, 10] (T1 := (mkT 36 [(8, vP 2 0), (10, vP 4 0)])) (H1 := [some ⟨a3s L, 25, false, false⟩, rB [vN X, vN Y, vN Z, vS 0 L.length] 29, rB [vI 0, vI 0, vI 0, .slice none 0 0] 29, none, rB [vN X2, vN Y2, vN Z2, vS 5 L.length] 29, some ⟨a3s L, 25, false, true⟩]) (by kernel_rfl) ?_
  refine kSeq ?_
  refine cSeq ?_
  refine cReg ?_
  refine segH 1 (T1 := (mkT 36 [(8, vP 2 0), (10, vP 4 0), (32, .agg #[vN X2, vN Y2, vN Z2, vS 5 L.length])])) (by kernel_rfl) ?_
  refine rCall (v := .tuple #[.agg #[vN X2, vN Y2, vN Z2, vS 5 L.length], .bool true]) (args := [.agg #[vN X2, vN Y2, vN Z2, vS 5 L.length]]) (by kernel_rfl) rfl (by kernel_rfl) (Sound.lay0 [5] (l2Kept_yes X2 Y2 Z2 L (by first | assumption | omega | rfl | decide | exact HeapL.list _ _ _ _ | exact HeapL.nil _ _ _ | exact HeapL.all _ _ _ | (apply HeapL.lt64 <;> assumption) | (repeat' (first | assumption | apply or_lt64 | apply and_lt64 | apply andn_lt64 | apply pow_lt64 | (apply HeapL.lt64 <;> assumption)))) (by first | assumption | omega | rfl | decide | exact HeapL.list _ _ _ _ | exact HeapL.nil _ _ _ | exact HeapL.all _ _ _ | (apply HeapL.lt64 <;> assumption) | (repeat' (first | assumption | apply or_lt64 | apply and_lt64 | apply andn_lt64 | apply pow_lt64 | (apply HeapL.lt64 <;> assumption))))) ⟨rdF true (flatA3 _ _ _ _) rfl rfl, trivial⟩ rfl ⟨clF (flatA3 _ _ _ _), trivial⟩ rfl (by first | rfl | simp [mpV, mpA, mpS, mpP, renId, shift]) (by first | rfl | simp [mpV, mpA, mpS, mpP, renId, shift])) ?_
  refine segEnd [8, 9] (T1 := (mkT 36 [(8, vP 2 0), (9, .bool true)])) (H1 := [some ⟨a3s L, 25, false, false⟩, rB [vN X, vN Y, vN Z, vS 0 L.length] 29, rB [vN X2, vN Y2, vN Z2, vS 5 L.length] 29, none, rB [vN X2, vN Y2, vN Z2, vS 5 L.length] 29, some ⟨a3s L, 25, false, true⟩]) (by kernel_rfl) ?_
  refine kSeq ?_
  refine cRet ?_
  -- end
  exact endF (Or.inr rfl) (l := [.agg #[vN X2, vN Y2, vN Z2, vS 5 L.length], .bool true]) [0, 5] (by kernel_rfl) (by first | rfl | simp [packR, mpV, mpA, mpS, mpP, renId]) ⟨rrF (flatA3 _ _ _ _) rfl, ⟨rrF (flatA3 _ _ _ _) rfl, trivial⟩⟩ rfl rfl

set_option maxRecDepth 100000 in
set_option maxHeartbeats 4000000 in
theorem specWidenHeap_out (X : Nat) (Y : Nat) (Z : Nat) (X2 : Nat) (Y2 : Nat) (Z2 : Nat) (L : List A3) (hs : Sides X Y Z) (hL : HeapL X Y Z L) (hs2 : Sides X2 Y2 Z2) (hv : isHeapB (X2 : Int) (Y2 : Int) (Z2 : Int) L = false) : Sound Try.prog 42 [.agg #[vN X, vN Y, vN Z, vS 0 L.length], vN X2, vN Y2, vN Z2] [some ⟨a3s L, 25, false, false⟩] (.tuple #[.agg #[vI 0, vI 0, vI 0, .slice none 0 0], .bool false]) [some ⟨a3s L, 25, false, false⟩] := by
  refine sound_intro (C := cx) Try.func42 rfl (by kernel_rfl) fun hcl => ?_
  have hz := hs.size
  have hx0 := hs.x0
  have hx4 := hs.x4
  have hy0 := hs.y0
  have hy4 := hs.y4
  have hz0 := hs.z0
  have hz4 := hs.z4
  have hlen := hL.len
  have hlt := hL.lt64 hs
  have hz2 := hs2.size
  refine cSeq ?_
  refine cReg ?_
  refine segEnd [1, 2, 3, 4, 8] (T1 := (mkT 36 [(1, vN X2), (2, vN Y2), (3, vN Z2), (4, vP 1 0), (8, vP 2 0)])) (H1 := [some ⟨a3s L, 25, false, false⟩, rB [vN X, vN Y, vN Z, vS 0 L.length] 29, rB [vI 0, vI 0, vI 0, .slice none 0 0] 29]) (by kernel_rfl) ?_
  refine kSeq ?_
  refine cSeq ?_
  refine cSeq ?_
  refine cReg ?_
  refine segH 1 (T1 := (mkT 36 [(1, vN X2), (2, vN Y2), (3, vN Z2), (4, vP 1 0), (8, vP 2 0), (11, .agg #[vN X, vN Y, vN Z, vS 0 L.length])])) (by kernel_rfl) ?_
  refine rCall (v := .bool true) (args := [.agg #[vN X, vN Y, vN Z, vS 0 L.length]]) (by kernel_rfl) rfl (by kernel_rfl) (Sound.lay0 [0] (l2HeapB X Y Z L (by first | assumption | omega | rfl | decide | exact HeapL.list _ _ _ _ | exact HeapL.nil _ _ _ | exact HeapL.all _ _ _ | (apply HeapL.lt64 <;> assumption) | (repeat' (first | assumption | apply or_lt64 | apply and_lt64 | apply andn_lt64 | apply pow_lt64 | (apply HeapL.lt64 <;> assumption)))) (by first | assumption | omega | rfl | decide | exact HeapL.list _ _ _ _ | exact HeapL.nil _ _ _ | exact HeapL.all _ _ _ | (apply HeapL.lt64 <;> assumption) | (repeat' (first | assumption | apply or_lt64 | apply and_lt64 | apply andn_lt64 | apply pow_lt64 | (apply HeapL.lt64 <;> assumption))))) ⟨rdF false (flatA3 _ _ _ _) rfl rfl, trivial⟩ rfl ⟨clF (flatA3 _ _ _ _), trivial⟩ rfl (by first | rfl | simp [mpV, mpA, mpS, mpP, renId, shift]) rfl) ?_
  refine segH 5 (T1 := (mkT 36 [(1, vN X2), (2, vN Y2), (3, vN Z2), (4, vP 1 0), (8, vP 2 0), (11, .agg #[vN X, vN Y, vN Z, vS 0 L.length]), (12, .bool true), (13, .bool false), (14, .bool false), (15, vN X2), (16, vN Y2), (17, vN Z2)])) (by kernel_rfl) ?_
  refine rCall (v := .bool true) (args := [vN X2, vN Y2, vN Z2]) (by kernel_rfl) rfl (by kernel_rfl) (Sound.lay0 [] (sidesB X2 Y2 Z2 (by first | assumption | omega | rfl | decide | exact HeapL.list _ _ _ _ | exact HeapL.nil _ _ _ | exact HeapL.all _ _ _ | (apply HeapL.lt64 <;> assumption) | (repeat' (first | assumption | apply or_lt64 | apply and_lt64 | apply andn_lt64 | apply pow_lt64 | (apply HeapL.lt64 <;> assumption))))) trivial rfl trivial rfl (by first | rfl | simp [mpV, mpA, mpS, mpP, renId, shift]) rfl) ?_
  refine segEndH [1, 2, 3, 4, 8, 20] (T1 := (mkT 36 [(1, vN X2), (2, vN Y2), (3, vN Z2), (4, vP 1 0), (8, vP 2 0), (20, .bool false)])) (by kernel_rfl) ?_
  refine kSeq ?_
  refine cFalse (by kernel_rfl) ?_
  refine cSkip ?_
  refine kSeq ?_
  refine cSeq ?_
  refine cReg ?_
  refine segH 3 (T1 := (mkT 36 [(1, vN X2), (2, vN Y2), (3, vN Z2), (4, vP 1 0), (8, vP 2 0), (20, .bool false), (22, vN X2), (23, vN Y2), (24, vN Z2)])) (by kernel_rfl) ?_
  refine rCall (v := .agg #[vN X2, vN Y2, vN Z2, vS 3 0]) (args := [vN X2, vN Y2, vN Z2]) (by kernel_rfl) rfl (by kernel_rfl) (Sound.lay (E := [some ⟨[], 25, false, true⟩]) [] (l2EmptyB ((X2 : Nat) : Int) ((Y2 : Nat) : Int) ((Z2 : Nat) : Int)) trivial rfl trivial rfl (by first | rfl | simp [mpV, mpA, mpS, mpP, renId, shift]) (by first | rfl | simp [mpV, mpA, mpS, mpP, renId, shift]) ⟨enX rfl (Or.inl rfl), trivial⟩) ?_
  refine segEnd [4, 8, 10] (T1 := (mkT 36 [(4, vP 1 0), (8, vP 2 0), (10, vP 4 0)])) (H1 := [some ⟨a3s L, 25, false, false⟩, rB [vN X, vN Y, vN Z, vS 0 L.length] 29, rB [vI 0, vI 0, vI 0, .slice none 0 0] 29, some ⟨[], 25, false, true⟩, rB [vN X2, vN Y2, vN Z2, vS 3 0] 29]) (by kernel_rfl) ?_
  refine kSeq ?_
  refine cSeq ?_
  refine cReg ?_
  refine segH 4 (T1 := (mkT 36 [(4, vP 1 0), (8, vP 2 0), (10, vP 4 0), (26, vP 4 3), (27, vS 3 0), (28, vP 1 3), (29, vS 0 L.length)])) (by kernel_rfl) ?_
  refine rOp (v := vS 5 L.length) (H' := [some ⟨a3s L, 25, false, false⟩, rB [vN X, vN Y, vN Z, vS 0 L.length] 29, rB [vI 0, vI 0, vI 0, .slice none 0 0] 29, none, rB [vN X2, vN Y2, vN Z2, vS 3 0] 29, some ⟨a3s L, 25, false, true⟩]) (by kernel_rfl) (eAppA3s (b := 3) (a := 0) (o := 0) (l := 0) (m := L.length) (c := 0) (L := ([] : List A3)) (M := L) (R := L) (e2 := 25) (bx := false) (w := false) (by kernel_rfl) (by kernel_rfl) ti22 ti25 rfl rfl (by decide) (by kernel_rfl) (by kernel_rfl) (by first | rfl | omega) (by first | omega | (simp; done) | (simp; omega)) (by first | omega | (simp <;> omega)) (by simp) rfl) ?_
  refine segEnd [8, 10] (T1 := (mkT 36 [(8, vP 2 0), (10, vP 4 0)])) (H1 := [some ⟨a3s L, 25, false, false⟩, rB [vN X, vN Y, vN Z, vS 0 L.length] 29, rB [vI 0, vI 0, vI 0, .slice none 0 0] 29, none, rB [vN X2, vN Y2, vN Z2, vS 5 L.length] 29, some ⟨a3s L, 25, false, true⟩]) (by kernel_rfl) ?_
  refine kSeq ?_
  refine cSeq ?_
  refine cReg ?_
  refine segH 1 (T1 := (mkT 36 [(8, vP 2 0), (10, vP 4 0), (32, .agg #[vN X2, vN Y2, vN Z2, vS 5 L.length])])) (by kernel_rfl) ?_
  refine rCall (v := .tuple #[.agg #[vI 0, vI 0, vI 0, .slice none 0 0], .bool false]) (args := [.agg #[vN X2, vN Y2, vN Z2, vS 5 L.length]]) (by kernel_rfl) rfl (by kernel_rfl) (Sound.lay0 [5] (l2Kept_no ((X2 : Nat) : Int) ((Y2 : Nat) : Int) ((Z2 : Nat) : Int) L (by first | assumption | omega | rfl | decide | exact HeapL.list _ _ _ _ | exact HeapL.nil _ _ _ | exact HeapL.all _ _ _ | (apply HeapL.lt64 <;> assumption) | (repeat' (first | assumption | apply or_lt64 | apply and_lt64 | apply andn_lt64 | apply pow_lt64 | (apply HeapL.lt64 <;> assumption)))) (by first | assumption | omega | rfl | decide | exact HeapL.list _ _ _ _ | exact HeapL.nil _ _ _ | exact HeapL.all _ _ _ | (apply HeapL.lt64 <;> assumption) | (repeat' (first | assumption | apply or_lt64 | apply and_lt64 | apply andn_lt64 | apply pow_lt64 | (apply HeapL.lt64 <;> assumption))))) ⟨rdF true (flatA3 _ _ _ _) rfl rfl, trivial⟩ rfl ⟨clF (flatA3 _ _ _ _), trivial⟩ rfl (by first | rfl | simp [mpV, mpA, mpS, mpP, renId, shift]) (by first | rfl | simp [mpV, mpA, mpS, mpP, renId, shift])) ?_
  refine segEnd [8, 9] (T1 := (mkT 36 [(8, vP 2 0), (9, .bool false)])) (H1 := [some ⟨a3s L, 25, false, false⟩, rB [vN X, vN Y, vN Z, vS 0 L.length] 29, rB [vI 0, vI 0, vI 0, .slice none 0 0] 29, none, rB [vN X2, vN Y2, vN Z2, vS 5 L.length] 29, some ⟨a3s L, 25, false, true⟩]) (by kernel_rfl) ?_
  refine kSeq ?_
  refine cRet ?_
  -- end
  exact endQ (Or.inr rfl) (l := [.agg #[vI 0, vI 0, vI 0, .slice none 0 0], .bool false]) [rB [vN X, vN Y, vN Z, vS 0 L.length] 29, rB [vI 0, vI 0, vI 0, .slice none 0 0] 29, none, rB [vN X2, vN Y2, vN Z2, vS 5 L.length] 29, some ⟨a3s L, 25, false, true⟩] (by kernel_rfl) (by first | rfl | kernel_rfl) rfl rfl hcl rfl

set_option maxRecDepth 100000 in
set_option maxHeartbeats 4000000 in
theorem implWidenHeap_no1 (x : Int) (y : Int) (z : Int) (L : List A3) (k : Int) (m : Int) (n : Int) (hl : L.length ≤ 1048576) (hv : isHeapB x y z L = false) : Sound Try.prog 43 [.agg #[vI x, vI y, vI z, vS 0 L.length], vI k, vI m, vI n] [some ⟨a3s L, 25, false, false⟩] (.tuple #[.agg #[vI 0, vI 0, vI 0, .slice none 0 0], .bool false]) [some ⟨a3s L, 25, false, false⟩] := by
  refine sound_intro (C := cx) Try.func43 rfl (by kernel_rfl) fun hcl => ?_
  refine cSeq ?_
  refine cReg ?_
  refine segEnd [1, 2, 3, 4, 8] (T1 := (mkT 42 [(1, vI k), (2, vI m), (3, vI n), (4, vP 1 0), (8, vP 2 0)])) (H1 := [some ⟨a3s L, 25, false, false⟩, rB [vI x, vI y, vI z, vS 0 L.length] 29, rB [vI 0, vI 0, vI 0, .slice none 0 0] 29]) (by kernel_rfl) ?_
  refine kSeq ?_
  refine cSeq ?_
  refine cReg ?_
  refine segEnd [4, 8, 10] (T1 := (mkT 42 [(4, vP 1 0), (8, vP 2 0), (10, vP 3 0)])) (H1 := [some ⟨a3s L, 25, false, false⟩, rB [vI x, vI y, vI z, vS 0 L.length] 29, rB [vI 0, vI 0, vI 0, .slice none 0 0] 29, rB [vI k, vI m, vI n] 60]) (by kernel_rfl) ?_
  refine kSeq ?_
  refine cSeq ?_
  refine cSeq ?_
  refine cReg ?_
  refine segH 1 (T1 := (mkT 42 [(4, vP 1 0), (8, vP 2 0), (10, vP 3 0), (17, .agg #[vI x, vI y, vI z, vS 0 L.length])])) (by kernel_rfl) ?_
  refine rCall (v := .bool false) (args := [.agg #[vI x, vI y, vI z, vS 0 L.length]]) (by kernel_rfl) rfl (by kernel_rfl) (Sound.lay0 [0] (isHeapBt_no x y z L (by first | assumption | omega | rfl | decide | exact HeapL.list _ _ _ _ | exact HeapL.nil _ _ _ | exact HeapL.all _ _ _ | (apply HeapL.lt64 <;> assumption) | (repeat' (first | assumption | apply or_lt64 | apply and_lt64 | apply andn_lt64 | apply pow_lt64 | (apply HeapL.lt64 <;> assumption)))) (by first | assumption | omega | rfl | decide | exact HeapL.list _ _ _ _ | exact HeapL.nil _ _ _ | exact HeapL.all _ _ _ | (apply HeapL.lt64 <;> assumption) | (repeat' (first | assumption | apply or_lt64 | apply and_lt64 | apply andn_lt64 | apply pow_lt64 | (apply HeapL.lt64 <;> assumption))))) ⟨rdF false (flatA3 _ _ _ _) rfl rfl, trivial⟩ rfl ⟨clF (flatA3 _ _ _ _), trivial⟩ rfl (by first | rfl | simp [mpV, mpA, mpS, mpP, renId, shift]) rfl) ?_
  refine segEndH [4, 8, 10, 24] (T1 := (mkT 42 [(4, vP 1 0), (8, vP 2 0), (10, vP 3 0), (24, .bool true)])) (by kernel_rfl) ?_
  refine kSeq ?_
  refine cTrue (by kernel_rfl) ?_
  refine cSeq ?_
  refine cReg ?_
  refine segEnd [8, 9] (T1 := (mkT 42 [(8, vP 2 0), (9, .bool false)])) (H1 := [some ⟨a3s L, 25, false, false⟩, rB [vI x, vI y, vI z, vS 0 L.length] 29, rB [vI 0, vI 0, vI 0, .slice none 0 0] 29, rB [vI k, vI m, vI n] 60]) (by kernel_rfl) ?_
  refine kSeq ?_
  refine cRet ?_
  refine kSeqR ?_
  -- end
  exact endQ (Or.inr rfl) (l := [.agg #[vI 0, vI 0, vI 0, .slice none 0 0], .bool false]) [rB [vI x, vI y, vI z, vS 0 L.length] 29, rB [vI 0, vI 0, vI 0, .slice none 0 0] 29, rB [vI k, vI m, vI n] 60] (by kernel_rfl) (by first | rfl | kernel_rfl) rfl rfl hcl rfl

set_option maxRecDepth 100000 in
set_option maxHeartbeats 4000000 in
theorem implWidenHeap_no2 (X : Nat) (Y : Nat) (Z : Nat) (L : List A3) (k : Int) (m : Int) (n : Int) (hs : Sides X Y Z) (hL : HeapL X Y Z L) (hv2 : valid3 k m n = false) : Sound Try.prog 43 [.agg #[vN X, vN Y, vN Z, vS 0 L.length], vI k, vI m, vI n] [some ⟨a3s L, 25, false, false⟩] (.tuple #[.agg #[vI 0, vI 0, vI 0, .slice none 0 0], .bool false]) [some ⟨a3s L, 25, false, false⟩] := by
  refine sound_intro (C := cx) Try.func43 rfl (by kernel_rfl) fun hcl => ?_
  have hz := hs.size
  have hx0 := hs.x0
  have hx4 := hs.x4
  have hy0 := hs.y0
  have hy4 := hs.y4
  have hz0 := hs.z0
  have hz4 := hs.z4
  have hlen := hL.len
  have hlt := hL.lt64 hs
  refine cSeq ?_
  refine cReg ?_
  refine segEnd [1, 2, 3, 4, 8] (T1 := (mkT 42 [(1, vI k), (2, vI m), (3, vI n), (4, vP 1 0), (8, vP 2 0)])) (H1 := [some ⟨a3s L, 25, false, false⟩, rB [vN X, vN Y, vN Z, vS 0 L.length] 29, rB [vI 0, vI 0, vI 0, .slice none 0 0] 29]) (by kernel_rfl) ?_
  refine kSeq ?_
  refine cSeq ?_
  refine cReg ?_
  refine segEnd [4, 8, 10] (T1 := (mkT 42 [(4, vP 1 0), (8, vP 2 0), (10, vP 3 0)])) (H1 := [some ⟨a3s L, 25, false, false⟩, rB [vN X, vN Y, vN Z, vS 0 L.length] 29, rB [vI 0, vI 0, vI 0, .slice none 0 0] 29, rB [vI k, vI m, vI n] 60]) (by kernel_rfl) ?_
  refine kSeq ?_
  refine cSeq ?_
  refine cSeq ?_
  refine cReg ?_
  refine segH 1 (T1 := (mkT 42 [(4, vP 1 0), (8, vP 2 0), (10, vP 3 0), (17, .agg #[vN X, vN Y, vN Z, vS 0 L.length])])) (by kernel_rfl) ?_
  refine rCall (v := .bool true) (args := [.agg #[vN X, vN Y, vN Z, vS 0 L.length]]) (by kernel_rfl) rfl (by kernel_rfl) (Sound.lay0 [0] (isHeapBt X Y Z L (by first | assumption | omega | rfl | decide | exact HeapL.list _ _ _ _ | exact HeapL.nil _ _ _ | exact HeapL.all _ _ _ | (apply HeapL.lt64 <;> assumption) | (repeat' (first | assumption | apply or_lt64 | apply and_lt64 | apply andn_lt64 | apply pow_lt64 | (apply HeapL.lt64 <;> assumption)))) (by first | assumption | omega | rfl | decide | exact HeapL.list _ _ _ _ | exact HeapL.nil _ _ _ | exact HeapL.all _ _ _ | (apply HeapL.lt64 <;> assumption) | (repeat' (first | assumption | apply or_lt64 | apply and_lt64 | apply andn_lt64 | apply pow_lt64 | (apply HeapL.lt64 <;> assumption))))) ⟨rdF false (flatA3 _ _ _ _) rfl rfl, trivial⟩ rfl ⟨clF (flatA3 _ _ _ _), trivial⟩ rfl (by first | rfl | simp [mpV, mpA, mpS, mpP, renId, shift]) rfl) ?_
  refine segH 3 (T1 := (mkT 42 [(4, vP 1 0), (8, vP 2 0), (10, vP 3 0), (17, .agg #[vN X, vN Y, vN Z, vS 0 L.length]), (18, .bool true), (19, .bool false), (20, .bool false), (21, .agg #[vI k, vI m, vI n])])) (by kernel_rfl) ?_
  refine rCall (v := .bool false) (args := [.agg #[vI k, vI m, vI n]]) (by kernel_rfl) rfl (by kernel_rfl) (Sound.lay0 [] (valid_no k m n (by first | assumption | omega | rfl | decide | exact HeapL.list _ _ _ _ | exact HeapL.nil _ _ _ | exact HeapL.all _ _ _ | (apply HeapL.lt64 <;> assumption) | (repeat' (first | assumption | apply or_lt64 | apply and_lt64 | apply andn_lt64 | apply pow_lt64 | (apply HeapL.lt64 <;> assumption))))) trivial rfl trivial rfl (by first | rfl | simp [mpV, mpA, mpS, mpP, renId, shift]) rfl) ?_
  refine segEndH [4, 8, 10, 24] (T1 := (mkT 42 [(4, vP 1 0), (8, vP 2 0), (10, vP 3 0), (24, .bool true)])) (by kernel_rfl) ?_
  refine kSeq ?_
  refine cTrue (by kernel_rfl) ?_
  refine cSeq ?_
  refine cReg ?_
  refine segEnd [8, 9] (T1 := (mkT 42 [(8, vP 2 0), (9, .bool false)])) (H1 := [some ⟨a3s L, 25, false, false⟩, rB [vN X, vN Y, vN Z, vS 0 L.length] 29, rB [vI 0, vI 0, vI 0, .slice none 0 0] 29, rB [vI k, vI m, vI n] 60]) (by kernel_rfl) ?_
  refine kSeq ?_
  refine cRet ?_
  refine kSeqR ?_
  -- end
  exact endQ (Or.inr rfl) (l := [.agg #[vI 0, vI 0, vI 0, .slice none 0 0], .bool false]) [rB [vN X, vN Y, vN Z, vS 0 L.length] 29, rB [vI 0, vI 0, vI 0, .slice none 0 0] 29, rB [vI k, vI m, vI n] 60] (by kernel_rfl) (by first | rfl | kernel_rfl) rfl rfl hcl rfl

set_option maxRecDepth 100000 in
set_option maxHeartbeats 4000000 in
theorem implWidenHeap_in (X : Nat) (Y : Nat) (Z : Nat) (X2 : Nat) (Y2 : Nat) (Z2 : Nat) (L : List A3) (hs : Sides X Y Z) (hL : HeapL X Y Z L) (hs2 : Sides X2 Y2 Z2) (hL2 : HeapL X2 Y2 Z2 L) : Sound Try.prog 43 [.agg #[vN X, vN Y, vN Z, vS 0 L.length], vN X2, vN Y2, vN Z2] [some ⟨a3s L, 25, false, false⟩] (.tuple #[.agg #[vN X2, vN Y2, vN Z2, vS 1 L.length], .bool true]) [some ⟨a3s L, 25, false, false⟩, some ⟨a3s (L), 25, false, true⟩] := by
  refine sound_intro (C := cx) Try.func43 rfl (by kernel_rfl) fun hcl => ?_
  have hz := hs.size
  have hx0 := hs.x0
  have hx4 := hs.x4
  have hy0 := hs.y0
  have hy4 := hs.y4
  have hz0 := hs.z0
  have hz4 := hs.z4
  have hlen := hL.len
  have hlt := hL.lt64 hs
  have hz2 := hs2.size
  refine cSeq ?_
  refine cReg ?_
  refine segEnd [1, 2, 3, 4, 8] (T1 := (mkT 42 [(1, vN X2), (2, vN Y2), (3, vN Z2), (4, vP 1 0), (8, vP 2 0)])) (H1 := [some ⟨a3s L, 25, false, false⟩, rB [vN X, vN Y, vN Z, vS 0 L.length] 29, rB [vI 0, vI 0, vI 0, .slice none 0 0] 29]) (by kernel_rfl) ?_
  refine kSeq ?_
  refine cSeq ?_
  refine cReg ?_
  refine segEnd [4, 8, 10] (T1 := (mkT 42 [(4, vP 1 0), (8, vP 2 0), (10, vP 3 0)])) (H1 := [some ⟨a3s L, 25, false, false⟩, rB [vN X, vN Y, vN Z, vS 0 L.length] 29, rB [vI 0, vI 0, vI 0, .slice none 0 0] 29, rB [vN X2, vN Y2, vN Z2] 60]) (by kernel_rfl) ?_
  refine kSeq ?_
  refine cSeq ?_
  refine cSeq ?_
  refine cReg ?_
  refine segH 1 (T1 := (mkT 42 [(4, vP 1 0), (8, vP 2 0), (10, vP 3 0), (17, .agg #[vN X, vN Y, vN Z, vS 0 L.length])])) (by kernel_rfl) ?_
  refine rCall (v := .bool true) (args := [.agg #[vN X, vN Y, vN Z, vS 0 L.length]]) (by kernel_rfl) rfl (by kernel_rfl) (Sound.lay0 [0] (isHeapBt X Y Z L (by first | assumption | omega | rfl | decide | exact HeapL.list _ _ _ _ | exact HeapL.nil _ _ _ | exact HeapL.all _ _ _ | (apply HeapL.lt64 <;> assumption) | (repeat' (first | assumption | apply or_lt64 | apply and_lt64 | apply andn_lt64 | apply pow_lt64 | (apply HeapL.lt64 <;> assumption)))) (by first | assumption | omega | rfl | decide | exact HeapL.list _ _ _ _ | exact HeapL.nil _ _ _ | exact HeapL.all _ _ _ | (apply HeapL.lt64 <;> assumption) | (repeat' (first | assumption | apply or_lt64 | apply and_lt64 | apply andn_lt64 | apply pow_lt64 | (apply HeapL.lt64 <;> assumption))))) ⟨rdF false (flatA3 _ _ _ _) rfl rfl, trivial⟩ rfl ⟨clF (flatA3 _ _ _ _), trivial⟩ rfl (by first | rfl | simp [mpV, mpA, mpS, mpP, renId, shift]) rfl) ?_
  refine segH 3 (T1 := (mkT 42 [(4, vP 1 0), (8, vP 2 0), (10, vP 3 0), (17, .agg #[vN X, vN Y, vN Z, vS 0 L.length]), (18, .bool true), (19, .bool false), (20, .bool false), (21, .agg #[vN X2, vN Y2, vN Z2])])) (by kernel_rfl) ?_
  refine rCall (v := .bool true) (args := [.agg #[vN X2, vN Y2, vN Z2]]) (by kernel_rfl) rfl (by kernel_rfl) (Sound.lay0 [] (validB X2 Y2 Z2 (by first | assumption | omega | rfl | decide | exact HeapL.list _ _ _ _ | exact HeapL.nil _ _ _ | exact HeapL.all _ _ _ | (apply HeapL.lt64 <;> assumption) | (repeat' (first | assumption | apply or_lt64 | apply and_lt64 | apply andn_lt64 | apply pow_lt64 | (apply HeapL.lt64 <;> assumption))))) trivial rfl trivial rfl (by first | rfl | simp [mpV, mpA, mpS, mpP, renId, shift]) rfl) ?_
  refine segEndH [4, 8, 10, 24] (T1 := (mkT 42 [(4, vP 1 0), (8, vP 2 0), (10, vP 3 0), (24, .bool false)])) (by kernel_rfl) ?_
  refine kSeq ?_
  refine cFalse (by kernel_rfl) ?_
  refine cSkip ?_
  refine kSeq ?_
  refine cSeq ?_
  refine cSeq ?_
  refine cReg ?_
  refine segEndH [4, 8, 10, 27, 28, 29] (T1 := (mkT 42 [(4, vP 1 0), (8, vP 2 0), (10, vP 3 0), (27, vS 0 L.length), (28, vN L.length), (29, vI 0)])) (by kernel_rfl) ?_
  refine kSeq ?_
  refine cBlk ?_
  -- loop
  refine cLoop (fun mm T H => ∃ i : Nat, (i ≤ L.length) ∧ (∀ j, j < i → has3 (X2 : Int) (Y2 : Int) (Z2 : Int) (L.getD j default).x (L.getD j default).y (L.getD j default).z = true) ∧ mm = L.length - i ∧ T = (mkT 42 [(4, vP 1 0), (8, vP 2 0), (10, vP 3 0), (27, vS 0 L.length), (28, vN L.length), (29, vN i)]) ∧ H = [some ⟨a3s L, 25, false, false⟩, rB [vN X, vN Y, vN Z, vS 0 L.length] 29, rB [vI 0, vI 0, vI 0, .slice none 0 0] 29, rB [vN X2, vN Y2, vN Z2] 60]) (L.length - 0) (mkT 42 [(4, vP 1 0), (8, vP 2 0), (10, vP 3 0), (27, vS 0 L.length), (28, vN L.length), (29, vI 0)]) [some ⟨a3s L, 25, false, false⟩, rB [vN X, vN Y, vN Z, vS 0 L.length] 29, rB [vI 0, vI 0, vI 0, .slice none 0 0] 29, rB [vN X2, vN Y2, vN Z2] 60] (wkSame [4, 8, 10, 27, 28, 29] (by kernel_rfl)) ?_ ?_
  · exact ⟨0, (Nat.zero_le _), (fun j hj => absurd hj (Nat.not_lt_zero j)), rfl, rfl, rfl⟩
  · rintro _ _ _ ⟨i, hi, ho, rfl, rfl, rfl⟩
    refine cSeq ?_
    refine cReg ?_
    refine segEndH [4, 8, 10, 27, 28, 29, 30] (T1 := (mkT 42 [(4, vP 1 0), (8, vP 2 0), (10, vP 3 0), (27, vS 0 L.length), (28, vN L.length), (29, vN i), (30, .bool (decide (((i : Nat) : Int) < ((L.length : Nat) : Int))))])) (by kernel_rfl) ?_
    refine kSeq ?_
    refine cSeq ?_
    cases h1 : (decide (((i : Nat) : Int) < ((L.length : Nat) : Int)) : Bool)
    ·
      (try simp only [Bool.not_eq_true', Bool.not_eq_false', decide_eq_true_eq, decide_eq_false_iff_not, beq_iff_eq, bne_iff_ne, beq_eq_false_iff_ne, bne_eq_false_iff_eq, ne_eq, Decidable.not_not, Bool.and_eq_true, Bool.and_eq_false_imp, Bool.or_eq_true, Bool.or_eq_false_iff, Bool.not_eq_true, Int.not_lt, Int.not_le, ge_iff_le, gt_iff_lt] at h1)
      refine cFalse (by kernel_rfl) ?_
      refine cExit ?_
      refine kSeqE ?_
      refine kLoopE ?_
      refine kBlkHit ?_
      refine kSeq ?_
      refine cSeq ?_
      refine cReg ?_
      refine segH 2 (T1 := (mkT 42 [(4, vP 1 0), (8, vP 2 0), (10, vP 3 0), (27, vS 0 L.length), (28, vN L.length), (29, vN i), (30, .bool false), (39, .agg #[vN X, vN Y, vN Z, vS 0 L.length]), (40, .agg #[vN X2, vN Y2, vN Z2])])) (by kernel_rfl) ?_
      refine rCall (v := .agg #[vN X2, vN Y2, vN Z2, vS 4 ((listOf X2 Y2 Z2 (setOf Y2 Z2 L)).length)]) (args := [.agg #[vN X, vN Y, vN Z, vS 0 L.length], .agg #[vN X2, vN Y2, vN Z2], .func (.func 85) #[] #[]]) (by kernel_rfl) rfl (by kernel_rfl) (Sound.lay (E := [some ⟨a3s (listOf X2 Y2 Z2 (setOf Y2 Z2 L)), 25, false, true⟩]) [0] (movedW X Y Z X2 Y2 Z2 L (by first | assumption | omega | rfl | decide | exact HeapL.list _ _ _ _ | exact HeapL.nil _ _ _ | exact HeapL.all _ _ _ | (apply HeapL.lt64 <;> assumption) | (repeat' (first | assumption | apply or_lt64 | apply and_lt64 | apply andn_lt64 | apply pow_lt64 | (apply HeapL.lt64 <;> assumption)))) (by first | assumption | omega | rfl | decide | exact HeapL.list _ _ _ _ | exact HeapL.nil _ _ _ | exact HeapL.all _ _ _ | (apply HeapL.lt64 <;> assumption) | (repeat' (first | assumption | apply or_lt64 | apply and_lt64 | apply andn_lt64 | apply pow_lt64 | (apply HeapL.lt64 <;> assumption))))) ⟨rdF false (flatA3 _ _ _ _) rfl rfl, trivial⟩ rfl ⟨clF (flatA3 _ _ _ _), trivial⟩ rfl (by first | rfl | simp [mpV, mpA, mpS, mpP, renId, shift]) (by first | rfl | simp [mpV, mpA, mpS, mpP, renId, shift]) ⟨enF (flatA3 _ _ _ _) (Or.inl rfl), trivial⟩) ?_
      refine segEnd [8, 9] (T1 := (mkT 42 [(8, vP 2 0), (9, .bool true)])) (H1 := [some ⟨a3s L, 25, false, false⟩, rB [vN X, vN Y, vN Z, vS 0 L.length] 29, rB [vN X2, vN Y2, vN Z2, vS 4 ((listOf X2 Y2 Z2 (setOf Y2 Z2 L)).length)] 29, rB [vN X2, vN Y2, vN Z2] 60, some ⟨a3s (listOf X2 Y2 Z2 (setOf Y2 Z2 L)), 25, false, true⟩]) (by kernel_rfl) ?_
      refine kSeq ?_
      refine cRet ?_
      -- end
      have he0 : ((listOf X2 Y2 Z2 (setOf Y2 Z2 L)) : List A3) = (L) := by exact hL2.eq hs2
      refine endCast (v1 := .tuple #[.agg #[vN X2, vN Y2, vN Z2, vS 1 ((listOf X2 Y2 Z2 (setOf Y2 Z2 L)).length)], .bool true]) (H1 := [some ⟨a3s L, 25, false, false⟩, some ⟨a3s (listOf X2 Y2 Z2 (setOf Y2 Z2 L)), 25, false, true⟩]) (by first | rfl | ((try rw [he0]); done) | (simp only [he0]; done)) (by first | rfl | ((try rw [he0]); done) | (simp only [he0]; done)) ?_
      exact endF (Or.inr rfl) (l := [.agg #[vN X2, vN Y2, vN Z2, vS 4 ((listOf X2 Y2 Z2 (setOf Y2 Z2 L)).length)], .bool true]) [0, 4] (by kernel_rfl) (by first | rfl | simp [packR, mpV, mpA, mpS, mpP, renId]) ⟨rrF (flatA3 _ _ _ _) rfl, ⟨rrF (flatA3 _ _ _ _) rfl, trivial⟩⟩ rfl rfl
    ·
      (try simp only [Bool.not_eq_true', Bool.not_eq_false', decide_eq_true_eq, decide_eq_false_iff_not, beq_iff_eq, bne_iff_ne, beq_eq_false_iff_ne, bne_eq_false_iff_eq, ne_eq, Decidable.not_not, Bool.and_eq_true, Bool.and_eq_false_imp, Bool.or_eq_true, Bool.or_eq_false_iff, Bool.not_eq_true, Int.not_lt, Int.not_le, ge_iff_le, gt_iff_lt] at h1)
      refine cTrue (by kernel_rfl) ?_
      refine cSkip ?_
      refine kSeq ?_
      refine cSeq ?_
      refine cBlk ?_
      refine cSeq ?_
      refine cReg ?_
      refine rOp (v := vP 0 (i * 3)) (by kernel_rfl) (eIdxS (ad := ⟨0, 0, none⟩) (n := L.length) (m := 0) (k := .i64) (c := ((i : Nat) : Int)) (j := i) (o := i * 3) (by kernel_rfl) (by kernel_rfl) ti22 ti25 (rfl) (by omega) (by exact Nat.zero_add _)) ?_
      refine rOp (v := .agg #[vI ((L.getD i default).x), vI ((L.getD i default).y), vI ((L.getD i default).z)]) (by kernel_rfl) (eLdA3 (ad := ⟨0, i * 3, none⟩) (r := ⟨a3s L, 25, false, false⟩) (L := L) (j := i) (by kernel_rfl) (by kernel_rfl) rfl (by first | rfl | omega) (by omega) ti25) ?_
      refine segEnd [4, 8, 10, 12, 27, 28, 29] (T1 := (mkT 42 [(4, vP 1 0), (8, vP 2 0), (10, vP 3 0), (12, vP 4 0), (27, vS 0 L.length), (28, vN L.length), (29, vN i)])) (H1 := [some ⟨a3s L, 25, false, false⟩, rB [vN X, vN Y, vN Z, vS 0 L.length] 29, rB [vI 0, vI 0, vI 0, .slice none 0 0] 29, rB [vN X2, vN Y2, vN Z2] 60, rB [vI ((L.getD i default).x), vI ((L.getD i default).y), vI ((L.getD i default).z)] 25]) (by kernel_rfl) ?_
      refine kSeq ?_
      refine cSeq ?_
      refine cReg ?_
      refine segH 2 (T1 := (mkT 42 [(4, vP 1 0), (8, vP 2 0), (10, vP 3 0), (12, vP 4 0), (27, vS 0 L.length), (28, vN L.length), (29, vN i), (33, .agg #[vN X2, vN Y2, vN Z2]), (34, .agg #[vI ((L.getD i default).x), vI ((L.getD i default).y), vI ((L.getD i default).z)])])) (by kernel_rfl) ?_
      refine rCall (v := .bool (has3 (X2 : Int) (Y2 : Int) (Z2 : Int) ((L.getD i default).x) ((L.getD i default).y) ((L.getD i default).z))) (args := [.agg #[vN X2, vN Y2, vN Z2], .agg #[vI ((L.getD i default).x), vI ((L.getD i default).y), vI ((L.getD i default).z)]]) (by kernel_rfl) rfl (by kernel_rfl) (Sound.lay0 [] (hasB X2 Y2 Z2 ((L.getD i default).x) ((L.getD i default).y) ((L.getD i default).z) (by first | assumption | omega | rfl | decide | exact HeapL.list _ _ _ _ | exact HeapL.nil _ _ _ | exact HeapL.all _ _ _ | (apply HeapL.lt64 <;> assumption) | (repeat' (first | assumption | apply or_lt64 | apply and_lt64 | apply andn_lt64 | apply pow_lt64 | (apply HeapL.lt64 <;> assumption))))) trivial rfl trivial rfl (by first | rfl | simp [mpV, mpA, mpS, mpP, renId, shift]) rfl) ?_
      refine segEndH [4, 8, 10, 27, 28, 29, 36] (T1 := (mkT 42 [(4, vP 1 0), (8, vP 2 0), (10, vP 3 0), (27, vS 0 L.length), (28, vN L.length), (29, vN i), (36, .bool (!(has3 (X2 : Int) (Y2 : Int) (Z2 : Int) ((L.getD i default).x) ((L.getD i default).y) ((L.getD i default).z))))])) (by kernel_rfl) ?_
      refine kSeq ?_
      cases h2 : (has3 (X2 : Int) (Y2 : Int) (Z2 : Int) ((L.getD i default).x) ((L.getD i default).y) ((L.getD i default).z) : Bool)
      ·
        (try simp only [Bool.not_eq_true', Bool.not_eq_false', decide_eq_true_eq, decide_eq_false_iff_not, beq_iff_eq, bne_iff_ne, beq_eq_false_iff_ne, bne_eq_false_iff_eq, ne_eq, Decidable.not_not, Bool.and_eq_true, Bool.and_eq_false_imp, Bool.or_eq_true, Bool.or_eq_false_iff, Bool.not_eq_true, Int.not_lt, Int.not_le, ge_iff_le, gt_iff_lt] at h2)
        exfalso; (have hq := hL2.has hs2 (i := i) (by omega); simp_all)
      ·
        (try simp only [Bool.not_eq_true', Bool.not_eq_false', decide_eq_true_eq, decide_eq_false_iff_not, beq_iff_eq, bne_iff_ne, beq_eq_false_iff_ne, bne_eq_false_iff_eq, ne_eq, Decidable.not_not, Bool.and_eq_true, Bool.and_eq_false_imp, Bool.or_eq_true, Bool.or_eq_false_iff, Bool.not_eq_true, Int.not_lt, Int.not_le, ge_iff_le, gt_iff_lt] at h2)
        refine cFalse (by kernel_rfl) ?_
        refine cSkip ?_
        refine kBlk ?_
        refine kSeq ?_
        refine cReg ?_
        refine rOp (v := vN (i + 1)) (by kernel_rfl) (eAdd (k := .i64) (a := ((i : Nat) : Int)) (b := 1) (c := ((i + 1 : Nat) : Int)) (by kernel_rfl) (by kernel_rfl) (wr64 (by omega) (by omega) (by omega))) ?_
        refine segEndH [4, 8, 10, 27, 28, 29] (T1 := (mkT 42 [(4, vP 1 0), (8, vP 2 0), (10, vP 3 0), (27, vS 0 L.length), (28, vN L.length), (29, vN (i + 1))])) (by kernel_rfl) ?_
        exact kLoop (L.length - (i + 1)) (mkT 42 [(4, vP 1 0), (8, vP 2 0), (10, vP 3 0), (27, vS 0 L.length), (28, vN L.length), (29, vN (i + 1))]) [some ⟨a3s L, 25, false, false⟩, rB [vN X, vN Y, vN Z, vS 0 L.length] 29, rB [vI 0, vI 0, vI 0, .slice none 0 0] 29, rB [vN X2, vN Y2, vN Z2] 60] (by omega) (wkDrop [4, 8, 10, 27, 28, 29] _ rfl rfl ((closedL ⟨clF (flatA3 _ _ _ _), ⟨clX rfl, ⟨clX rfl, ⟨clX rfl, trivial⟩⟩⟩⟩)) (by kernel_rfl) rfl) ⟨(i + 1), (by omega), (fun j hj => by rcases Nat.lt_or_ge j i with h | h; exact ho j h; (have e : j = i := by omega); subst e; assumption), rfl, rfl, rfl⟩

set_option maxRecDepth 100000 in
set_option maxHeartbeats 4000000 in
theorem implWidenHeap_out (X : Nat) (Y : Nat) (Z : Nat) (X2 : Nat) (Y2 : Nat) (Z2 : Nat) (L : List A3) (hs : Sides X Y Z) (hL : HeapL X Y Z L) (hs2 : Sides X2 Y2 Z2) (hv : isHeapB (X2 : Int) (Y2 : Int) (Z2 : Int) L = false) : Sound Try.prog 43 [.agg #[vN X, vN Y, vN Z, vS 0 L.length], vN X2, vN Y2, vN Z2] [some ⟨a3s L, 25, false, false⟩] (.tuple #[.agg #[vI 0, vI 0, vI 0, .slice none 0 0], .bool false]) [some ⟨a3s L, 25, false, false⟩] := by
  refine sound_intro (C := cx) Try.func43 rfl (by kernel_rfl) fun hcl => ?_
  have hz := hs.size
  have hx0 := hs.x0
  have hx4 := hs.x4
  have hy0 := hs.y0
  have hy4 := hs.y4
  have hz0 := hs.z0
  have hz4 := hs.z4
  have hlen := hL.len
  have hlt := hL.lt64 hs
  have hz2 := hs2.size
  refine cSeq ?_
  refine cReg ?_
  refine segEnd [1, 2, 3, 4, 8] (T1 := (mkT 42 [(1, vN X2), (2, vN Y2), (3, vN Z2), (4, vP 1 0), (8, vP 2 0)])) (H1 := [some ⟨a3s L, 25, false, false⟩, rB [vN X, vN Y, vN Z, vS 0 L.length] 29, rB [vI 0, vI 0, vI 0, .slice none 0 0] 29]) (by kernel_rfl) ?_
  refine kSeq ?_
  refine cSeq ?_
  refine cReg ?_
  refine segEnd [4, 8, 10] (T1 := (mkT 42 [(4, vP 1 0), (8, vP 2 0), (10, vP 3 0)])) (H1 := [some ⟨a3s L, 25, false, false⟩, rB [vN X, vN Y, vN Z, vS 0 L.length] 29, rB [vI 0, vI 0, vI 0, .slice none 0 0] 29, rB [vN X2, vN Y2, vN Z2] 60]) (by kernel_rfl) ?_
  refine kSeq ?_
  refine cSeq ?_
  refine cSeq ?_
  refine cReg ?_
  refine segH 1 (T1 := (mkT 42 [(4, vP 1 0), (8, vP 2 0), (10, vP 3 0), (17, .agg #[vN X, vN Y, vN Z, vS 0 L.length])])) (by kernel_rfl) ?_
  refine rCall (v := .bool true) (args := [.agg #[vN X, vN Y, vN Z, vS 0 L.length]]) (by kernel_rfl) rfl (by kernel_rfl) (Sound.lay0 [0] (isHeapBt X Y Z L (by first | assumption | omega | rfl | decide | exact HeapL.list _ _ _ _ | exact HeapL.nil _ _ _ | exact HeapL.all _ _ _ | (apply HeapL.lt64 <;> assumption) | (repeat' (first | assumption | apply or_lt64 | apply and_lt64 | apply andn_lt64 | apply pow_lt64 | (apply HeapL.lt64 <;> assumption)))) (by first | assumption | omega | rfl | decide | exact HeapL.list _ _ _ _ | exact HeapL.nil _ _ _ | exact HeapL.all _ _ _ | (apply HeapL.lt64 <;> assumption) | (repeat' (first | assumption | apply or_lt64 | apply and_lt64 | apply andn_lt64 | apply pow_lt64 | (apply HeapL.lt64 <;> assumption))))) ⟨rdF false (flatA3 _ _ _ _) rfl rfl, trivial⟩ rfl ⟨clF (flatA3 _ _ _ _), trivial⟩ rfl (by first | rfl | simp [mpV, mpA, mpS, mpP, renId, shift]) rfl) ?_
  refine segH 3 (T1 := (mkT 42 [(4, vP 1 0), (8, vP 2 0), (10, vP 3 0), (17, .agg #[vN X, vN Y, vN Z, vS 0 L.length]), (18, .bool true), (19, .bool false), (20, .bool false), (21, .agg #[vN X2, vN Y2, vN Z2])])) (by kernel_rfl) ?_
  refine rCall (v := .bool true) (args := [.agg #[vN X2, vN Y2, vN Z2]]) (by kernel_rfl) rfl (by kernel_rfl) (Sound.lay0 [] (validB X2 Y2 Z2 (by first | assumption | omega | rfl | decide | exact HeapL.list _ _ _ _ | exact HeapL.nil _ _ _ | exact HeapL.all _ _ _ | (apply HeapL.lt64 <;> assumption) | (repeat' (first | assumption | apply or_lt64 | apply and_lt64 | apply andn_lt64 | apply pow_lt64 | (apply HeapL.lt64 <;> assumption))))) trivial rfl trivial rfl (by first | rfl | simp [mpV, mpA, mpS, mpP, renId, shift]) rfl) ?_
  refine segEndH [4, 8, 10, 24] (T1 := (mkT 42 [(4, vP 1 0), (8, vP 2 0), (10, vP 3 0), (24, .bool false)])) (by kernel_rfl) ?_
  refine kSeq ?_
  refine cFalse (by kernel_rfl) ?_
  refine cSkip ?_
  refine kSeq ?_
  refine cSeq ?_
  refine cSeq ?_
  refine cReg ?_
  refine segEndH [4, 8, 10, 27, 28, 29] (T1 := (mkT 42 [(4, vP 1 0), (8, vP 2 0), (10, vP 3 0), (27, vS 0 L.length), (28, vN L.length), (29, vI 0)])) (by kernel_rfl) ?_
  refine kSeq ?_
  refine cBlk ?_
  -- loop
  refine cLoop (fun mm T H => ∃ i : Nat, (i ≤ L.length) ∧ (∀ j, j < i → has3 (X2 : Int) (Y2 : Int) (Z2 : Int) (L.getD j default).x (L.getD j default).y (L.getD j default).z = true) ∧ mm = L.length - i ∧ T = (mkT 42 [(4, vP 1 0), (8, vP 2 0), (10, vP 3 0), (27, vS 0 L.length), (28, vN L.length), (29, vN i)]) ∧ H = [some ⟨a3s L, 25, false, false⟩, rB [vN X, vN Y, vN Z, vS 0 L.length] 29, rB [vI 0, vI 0, vI 0, .slice none 0 0] 29, rB [vN X2, vN Y2, vN Z2] 60]) (L.length - 0) (mkT 42 [(4, vP 1 0), (8, vP 2 0), (10, vP 3 0), (27, vS 0 L.length), (28, vN L.length), (29, vI 0)]) [some ⟨a3s L, 25, false, false⟩, rB [vN X, vN Y, vN Z, vS 0 L.length] 29, rB [vI 0, vI 0, vI 0, .slice none 0 0] 29, rB [vN X2, vN Y2, vN Z2] 60] (wkSame [4, 8, 10, 27, 28, 29] (by kernel_rfl)) ?_ ?_
  · exact ⟨0, (Nat.zero_le _), (fun j hj => absurd hj (Nat.not_lt_zero j)), rfl, rfl, rfl⟩
  · rintro _ _ _ ⟨i, hi, ho, rfl, rfl, rfl⟩
    refine cSeq ?_
    refine cReg ?_
    refine segEndH [4, 8, 10, 27, 28, 29, 30] (T1 := (mkT 42 [(4, vP 1 0), (8, vP 2 0), (10, vP 3 0), (27, vS 0 L.length), (28, vN L.length), (29, vN i), (30, .bool (decide (((i : Nat) : Int) < ((L.length : Nat) : Int))))])) (by kernel_rfl) ?_
    refine kSeq ?_
    refine cSeq ?_
    cases h1 : (decide (((i : Nat) : Int) < ((L.length : Nat) : Int)) : Bool)
    ·
      (try simp only [Bool.not_eq_true', Bool.not_eq_false', decide_eq_true_eq, decide_eq_false_iff_not, beq_iff_eq, bne_iff_ne, beq_eq_false_iff_ne, bne_eq_false_iff_eq, ne_eq, Decidable.not_not, Bool.and_eq_true, Bool.and_eq_false_imp, Bool.or_eq_true, Bool.or_eq_false_iff, Bool.not_eq_true, Int.not_lt, Int.not_le, ge_iff_le, gt_iff_lt] at h1)
      exfalso; (have hq := widen_heap hs hL hs2 (fun j hj => ho j (by omega)); rw [hv] at hq; cases hq)
    ·
      (try simp only [Bool.not_eq_true', Bool.not_eq_false', decide_eq_true_eq, decide_eq_false_iff_not, beq_iff_eq, bne_iff_ne, beq_eq_false_iff_ne, bne_eq_false_iff_eq, ne_eq, Decidable.not_not, Bool.and_eq_true, Bool.and_eq_false_imp, Bool.or_eq_true, Bool.or_eq_false_iff, Bool.not_eq_true, Int.not_lt, Int.not_le, ge_iff_le, gt_iff_lt] at h1)
      refine cTrue (by kernel_rfl) ?_
      refine cSkip ?_
      refine kSeq ?_
      refine cSeq ?_
      refine cBlk ?_
      refine cSeq ?_
      refine cReg ?_
      refine rOp (v := vP 0 (i * 3)) (by kernel_rfl) (eIdxS (ad := ⟨0, 0, none⟩) (n := L.length) (m := 0) (k := .i64) (c := ((i : Nat) : Int)) (j := i) (o := i * 3) (by kernel_rfl) (by kernel_rfl) ti22 ti25 (rfl) (by omega) (by exact Nat.zero_add _)) ?_
      refine rOp (v := .agg #[vI ((L.getD i default).x), vI ((L.getD i default).y), vI ((L.getD i default).z)]) (by kernel_rfl) (eLdA3 (ad := ⟨0, i * 3, none⟩) (r := ⟨a3s L, 25, false, false⟩) (L := L) (j := i) (by kernel_rfl) (by kernel_rfl) rfl (by first | rfl | omega) (by omega) ti25) ?_
      refine segEnd [4, 8, 10, 12, 27, 28, 29] (T1 := (mkT 42 [(4, vP 1 0), (8, vP 2 0), (10, vP 3 0), (12, vP 4 0), (27, vS 0 L.length), (28, vN L.length), (29, vN i)])) (H1 := [some ⟨a3s L, 25, false, false⟩, rB [vN X, vN Y, vN Z, vS 0 L.length] 29, rB [vI 0, vI 0, vI 0, .slice none 0 0] 29, rB [vN X2, vN Y2, vN Z2] 60, rB [vI ((L.getD i default).x), vI ((L.getD i default).y), vI ((L.getD i default).z)] 25]) (by kernel_rfl) ?_
      refine kSeq ?_
      refine cSeq ?_
      refine cReg ?_
      refine segH 2 (T1 := (mkT 42 [(4, vP 1 0), (8, vP 2 0), (10, vP 3 0), (12, vP 4 0), (27, vS 0 L.length), (28, vN L.length), (29, vN i), (33, .agg #[vN X2, vN Y2, vN Z2]), (34, .agg #[vI ((L.getD i default).x), vI ((L.getD i default).y), vI ((L.getD i default).z)])])) (by kernel_rfl) ?_
      refine rCall (v := .bool (has3 (X2 : Int) (Y2 : Int) (Z2 : Int) ((L.getD i default).x) ((L.getD i default).y) ((L.getD i default).z))) (args := [.agg #[vN X2, vN Y2, vN Z2], .agg #[vI ((L.getD i default).x), vI ((L.getD i default).y), vI ((L.getD i default).z)]]) (by kernel_rfl) rfl (by kernel_rfl) (Sound.lay0 [] (hasB X2 Y2 Z2 ((L.getD i default).x) ((L.getD i default).y) ((L.getD i default).z) (by first | assumption | omega | rfl | decide | exact HeapL.list _ _ _ _ | exact HeapL.nil _ _ _ | exact HeapL.all _ _ _ | (apply HeapL.lt64 <;> assumption) | (repeat' (first | assumption | apply or_lt64 | apply and_lt64 | apply andn_lt64 | apply pow_lt64 | (apply HeapL.lt64 <;> assumption))))) trivial rfl trivial rfl (by first | rfl | simp [mpV, mpA, mpS, mpP, renId, shift]) rfl) ?_
      refine segEndH [4, 8, 10, 27, 28, 29, 36] (T1 := (mkT 42 [(4, vP 1 0), (8, vP 2 0), (10, vP 3 0), (27, vS 0 L.length), (28, vN L.length), (29, vN i), (36, .bool (!(has3 (X2 : Int) (Y2 : Int) (Z2 : Int) ((L.getD i default).x) ((L.getD i default).y) ((L.getD i default).z))))])) (by kernel_rfl) ?_
      refine kSeq ?_
      cases h2 : (has3 (X2 : Int) (Y2 : Int) (Z2 : Int) ((L.getD i default).x) ((L.getD i default).y) ((L.getD i default).z) : Bool)
      ·
        (try simp only [Bool.not_eq_true', Bool.not_eq_false', decide_eq_true_eq, decide_eq_false_iff_not, beq_iff_eq, bne_iff_ne, beq_eq_false_iff_ne, bne_eq_false_iff_eq, ne_eq, Decidable.not_not, Bool.and_eq_true, Bool.and_eq_false_imp, Bool.or_eq_true, Bool.or_eq_false_iff, Bool.not_eq_true, Int.not_lt, Int.not_le, ge_iff_le, gt_iff_lt] at h2)
        refine cTrue (by kernel_rfl) ?_
        refine cSeq ?_
        refine cReg ?_
        refine segEnd [8, 9] (T1 := (mkT 42 [(8, vP 2 0), (9, .bool false)])) (H1 := [some ⟨a3s L, 25, false, false⟩, rB [vN X, vN Y, vN Z, vS 0 L.length] 29, rB [vI 0, vI 0, vI 0, .slice none 0 0] 29, rB [vN X2, vN Y2, vN Z2] 60, rB [vI ((L.getD i default).x), vI ((L.getD i default).y), vI ((L.getD i default).z)] 25]) (by kernel_rfl) ?_
        refine kSeq ?_
        refine cRet ?_
        refine kBlkR ?_
        refine kSeqR ?_
        refine kLoopR ?_
        refine kBlkR ?_
        refine kSeqR ?_
        -- end
        exact endQ (Or.inr rfl) (l := [.agg #[vI 0, vI 0, vI 0, .slice none 0 0], .bool false]) [rB [vN X, vN Y, vN Z, vS 0 L.length] 29, rB [vI 0, vI 0, vI 0, .slice none 0 0] 29, rB [vN X2, vN Y2, vN Z2] 60, rB [vI ((L.getD i default).x), vI ((L.getD i default).y), vI ((L.getD i default).z)] 25] (by kernel_rfl) (by first | rfl | kernel_rfl) rfl rfl hcl rfl
      ·
        (try simp only [Bool.not_eq_true', Bool.not_eq_false', decide_eq_true_eq, decide_eq_false_iff_not, beq_iff_eq, bne_iff_ne, beq_eq_false_iff_ne, bne_eq_false_iff_eq, ne_eq, Decidable.not_not, Bool.and_eq_true, Bool.and_eq_false_imp, Bool.or_eq_true, Bool.or_eq_false_iff, Bool.not_eq_true, Int.not_lt, Int.not_le, ge_iff_le, gt_iff_lt] at h2)
        refine cFalse (by kernel_rfl) ?_
        refine cSkip ?_
        refine kBlk ?_
        refine kSeq ?_
        refine cReg ?_
        refine rOp (v := vN (i + 1)) (by kernel_rfl) (eAdd (k := .i64) (a := ((i : Nat) : Int)) (b := 1) (c := ((i + 1 : Nat) : Int)) (by kernel_rfl) (by kernel_rfl) (wr64 (by omega) (by omega) (by omega))) ?_
        refine segEndH [4, 8, 10, 27, 28, 29] (T1 := (mkT 42 [(4, vP 1 0), (8, vP 2 0), (10, vP 3 0), (27, vS 0 L.length), (28, vN L.length), (29, vN (i + 1))])) (by kernel_rfl) ?_
        exact kLoop (L.length - (i + 1)) (mkT 42 [(4, vP 1 0), (8, vP 2 0), (10, vP 3 0), (27, vS 0 L.length), (28, vN L.length), (29, vN (i + 1))]) [some ⟨a3s L, 25, false, false⟩, rB [vN X, vN Y, vN Z, vS 0 L.length] 29, rB [vI 0, vI 0, vI 0, .slice none 0 0] 29, rB [vN X2, vN Y2, vN Z2] 60] (by omega) (wkDrop [4, 8, 10, 27, 28, 29] _ rfl rfl ((closedL ⟨clF (flatA3 _ _ _ _), ⟨clX rfl, ⟨clX rfl, ⟨clX rfl, trivial⟩⟩⟩⟩)) (by kernel_rfl) rfl) ⟨(i + 1), (by omega), (fun j hj => by rcases Nat.lt_or_ge j i with h | h; exact ho j h; (have e : j = i := by omega); subst e; assumption), rfl, rfl, rfl⟩

end Go.Proofs.Ytenkiofddpjidaa
