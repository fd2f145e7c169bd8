/- Walks. No condition. -/
import Derived.Test.YtbheeobnghlckaaAmS4J7
import Derived.Test.YtbheeobnghlckaaAmQ6
set_option linter.unusedVariables false
set_option linter.unusedSimpArgs false
namespace Go.Proofs.Ytbheeobnghlckaa
open Go.Am Go.RowKit
set_option maxRecDepth 100000 in
set_option maxHeartbeats 4000000 in
theorem others0   : Sound Try.prog 126 [vI 0] [] (.tuple #[vI 1, vI 2]) [] := by
  refine sound_intro (C := cx) Try.func126 rfl (by kernel_rfl) fun hcl => ?_
  refine cSeq ?_
  refine cReg ?_
  refine segEndH [0] (T1 := (mkT 9 [(0, vI 0)])) (by kernel_rfl) ?_
  refine kSeq ?_
  refine cSeq ?_
  refine cSeq ?_
  refine cReg ?_
  refine segEndH [4] (T1 := (mkT 9 [(4, vI 0)])) (by kernel_rfl) ?_
  refine kSeq ?_
  refine cBlk ?_
  refine cSeq ?_
  refine cReg ?_
  refine segEndH [4, 5] (T1 := (mkT 9 [(4, vI 0), (5, .bool true)])) (by kernel_rfl) ?_
  refine kSeq ?_
  refine cTrue (by kernel_rfl) ?_
  refine cSeq ?_
  refine cReg ?_
  refine segEndH [2, 3] (T1 := (mkT 9 [(2, vI 1), (3, vI 2)])) (by kernel_rfl) ?_
  refine kSeq ?_
  refine cRet ?_
  refine kBlkR ?_
  refine kSeqR ?_
  -- end
  exact endQ (Or.inr rfl) (l := [vI 1, vI 2]) [] (by kernel_rfl) (by first | rfl | kernel_rfl) rfl rfl hcl rfl

set_option maxRecDepth 100000 in
set_option maxHeartbeats 4000000 in
theorem l2Others0   : Sound Try.prog 133 [vI 0] [] (.tuple #[vI 1, vI 2]) [] := by
  refine sound_intro (C := cx) Try.func133 rfl (by kernel_rfl) fun hcl => ?_
  refine cSeq ?_
  refine cReg ?_
  refine segEndH [0] (T1 := (mkT 9 [(0, vI 0)])) (by kernel_rfl) ?_
  refine kSeq ?_
  refine cSeq ?_
  refine cSeq ?_
  refine cReg ?_
  refine segEndH [4] (T1 := (mkT 9 [(4, vI 0)])) (by kernel_rfl) ?_
  refine kSeq ?_
  refine cBlk ?_
  refine cSeq ?_
  refine cReg ?_
  refine segEndH [4, 5] (T1 := (mkT 9 [(4, vI 0), (5, .bool true)])) (by kernel_rfl) ?_
  refine kSeq ?_
  refine cTrue (by kernel_rfl) ?_
  refine cSeq ?_
  refine cReg ?_
  refine segEndH [2, 3] (T1 := (mkT 9 [(2, vI 1), (3, vI 2)])) (by kernel_rfl) ?_
  refine kSeq ?_
  refine cRet ?_
  refine kBlkR ?_
  refine kSeqR ?_
  -- end
  exact endQ (Or.inr rfl) (l := [vI 1, vI 2]) [] (by kernel_rfl) (by first | rfl | kernel_rfl) rfl rfl hcl rfl

set_option maxRecDepth 100000 in
set_option maxHeartbeats 4000000 in
theorem l2Long0 (x : Int) (y : Int) (z : Int) (L : List A3)  : Sound Try.prog 84 [.agg #[vI x, vI y, vI z, vS 0 L.length], vI 0] [some ⟨a3s L, 74, false, false⟩] (vI x) [some ⟨a3s L, 74, false, false⟩] := by
  refine sound_intro (C := cx) Try.func84 rfl (by kernel_rfl) fun hcl => ?_
  refine cSeq ?_
  refine cReg ?_
  refine segEnd [1, 2] (T1 := (mkT 14 [(1, vI 0), (2, vP 1 0)])) (H1 := [some ⟨a3s L, 74, false, false⟩, rB [vI x, vI y, vI z, vS 0 L.length] 40]) (by kernel_rfl) ?_
  refine kSeq ?_
  refine cSeq ?_
  refine cReg ?_
  refine segEndH [4] (T1 := (mkT 14 [(4, vI x)])) (by kernel_rfl) ?_
  refine kSeq ?_
  refine cRet ?_
  -- end
  exact endQ (Or.inr rfl) (l := [vI x]) [rB [vI x, vI y, vI z, vS 0 L.length] 40] (by kernel_rfl) (by first | rfl | kernel_rfl) rfl rfl hcl rfl

set_option maxRecDepth 100000 in
set_option maxHeartbeats 4000000 in
theorem line0 (X : Nat) (Y : Nat) (Z : Nat) (a : Int) (b : Int) (c : Int) (hs : Sides X Y Z) (hh : has3 (X : Int) (Y : Int) (Z : Int) a b c = true) : Sound Try.prog 98 [.agg #[vN X, vN Y, vN Z], .agg #[vI a, vI b, vI c], vI 0] [] (vI (b * (Z : Int) + c)) [] := by
  refine sound_intro (C := cx) Try.func98 rfl (by kernel_rfl) fun hcl => ?_
  have hz := hs.size
  have hx0 := hs.x0
  have hx4 := hs.x4
  have hy0 := hs.y0
  have hy4 := hs.y4
  have hz0 := hs.z0
  have hz4 := hs.z4
  have hxy : X * Y ≤ 4 * 4 := Nat.mul_le_mul (by omega) (by omega)
  have hxz : X * Z ≤ 4 * 4 := Nat.mul_le_mul (by omega) (by omega)
  have hyz : Y * Z ≤ 4 * 4 := Nat.mul_le_mul (by omega) (by omega)
  have hh3 := (has3_iff (c := A3.mk a b c)).1 hh
  simp only at hh3
  have hfl := two_lt hh3.2.1 hh3.2.2
  refine cSeq ?_
  refine cReg ?_
  refine segEnd [2, 3, 4] (T1 := (mkT 25 [(2, vI 0), (3, vP 0 0), (4, vP 1 0)])) (H1 := [rB [vN X, vN Y, vN Z] 75, rB [vI a, vI b, vI c] 74]) (by kernel_rfl) ?_
  refine kSeq ?_
  refine cSeq ?_
  refine cReg ?_
  refine segH 1 (T1 := (mkT 25 [(2, vI 0), (3, vP 0 0), (4, vP 1 0), (10, vI 0)])) (by kernel_rfl) ?_
  refine rCall (v := .tuple #[vI 1, vI 2]) (args := [vI 0]) (by kernel_rfl) rfl (by kernel_rfl) (Sound.lay0 [] (others0) trivial rfl trivial rfl (by first | rfl | simp [mpV, mpA, mpS, mpP, renId, shift]) (by first | rfl | simp [mpV, mpA, mpS, mpP, renId, shift])) ?_
  refine segEndH [3, 4, 7, 8] (T1 := (mkT 25 [(3, vP 0 0), (4, vP 1 0), (7, vI 1), (8, vI 2)])) (by kernel_rfl) ?_
  refine kSeq ?_
  refine cSeq ?_
  refine cRegW (N := 2) [⟨[], [], []⟩, ⟨[], [], []⟩, ⟨[], [], [1]⟩, ⟨[], [], []⟩, ⟨[], [], []⟩, ⟨[], [], [0]⟩, ⟨[], [], []⟩, ⟨[], [], []⟩, ⟨[], [], []⟩, ⟨[], [], [1]⟩, ⟨[], [], []⟩, ⟨[], [], []⟩] 0 [] (by rfl) (by rfl) (by kernel_rfl) (by kernel_rfl) (by kernel_rfl) ⟨nmsX (by kernel_rfl), ⟨nmsX (by kernel_rfl), trivial⟩⟩ ?_
  refine segWH 6 (T1 := (mkT 25 [(3, vP 0 0), (4, vP 1 0), (7, vI 1), (8, vI 2), (14, vI 1), (15, vP 1 1), (16, vI b), (17, vI 2), (18, vP 0 2), (19, vN Z)])) (by kernel_rfl) ?_
  refine rW (m := ⟨[], [], []⟩) (v := vI (b * ((Z : Nat) : Int))) rfl (by kernel_rfl) (stId (eMul (k := .i64) (a := b) (b := ((Z : Nat) : Int)) (c := (b * ((Z : Nat) : Int))) (by kernel_rfl) (by kernel_rfl) (wr64 (by omega) (by omega) (by omega))) rfl (by kernel_rfl) (by kernel_rfl) (by kernel_rfl)) (by kernel_rfl) nr0 ?_
  refine segWH 3 (T1 := (mkT 25 [(3, vP 0 0), (4, vP 1 0), (7, vI 1), (8, vI 2), (14, vI 1), (15, vP 1 1), (16, vI b), (17, vI 2), (18, vP 0 2), (19, vN Z), (20, vI (b * ((Z : Nat) : Int))), (21, vI 2), (22, vP 1 2), (23, vI c)])) (by kernel_rfl) ?_
  refine rW (m := ⟨[], [], []⟩) (v := vI (b * ((Z : Nat) : Int) + c)) rfl (by kernel_rfl) (stId (eAdd (k := .i64) (a := (b * ((Z : Nat) : Int))) (b := c) (c := (b * ((Z : Nat) : Int) + c)) (by kernel_rfl) (by kernel_rfl) (wr64 (by omega) (by omega) (by omega))) rfl (by kernel_rfl) (by kernel_rfl) (by kernel_rfl)) (by kernel_rfl) nr0 ?_
  refine segEndWH [6] (T1 := (mkT 25 [(6, vI (b * ((Z : Nat) : Int) + c))])) (by kernel_rfl) ?_
  refine kSeq ?_
  refine cRet ?_
  -- end
  have he0 : (b * ((Z : Nat) : Int) + c : Int) = b * (Z : Int) + c := by first | omega | assumption | rfl | (symm; assumption) | (simp_all; done)
  refine endCast (v1 := vI (b * ((Z : Nat) : Int) + c)) (H1 := []) (by first | rfl | ((try rw [← he0]); done) | (simp only [← he0]; done)) (by first | rfl | ((try rw [← he0]); done) | (simp only [← he0]; done)) ?_
  exact endQ (Or.inr rfl) (l := [vI (b * ((Z : Nat) : Int) + c)]) [rB [vN X, vN Y, vN Z] 75, rB [vI a, vI b, vI c] 74] (by kernel_rfl) (by first | rfl | kernel_rfl) rfl rfl hcl rfl

set_option maxRecDepth 100000 in
set_option maxHeartbeats 4000000 in
theorem others1   : Sound Try.prog 126 [vI 1] [] (.tuple #[vI 0, vI 2]) [] := by
  refine sound_intro (C := cx) Try.func126 rfl (by kernel_rfl) fun hcl => ?_
  refine cSeq ?_
  refine cReg ?_
  refine segEndH [0] (T1 := (mkT 9 [(0, vI 1)])) (by kernel_rfl) ?_
  refine kSeq ?_
  refine cSeq ?_
  refine cSeq ?_
  refine cReg ?_
  refine segEndH [4] (T1 := (mkT 9 [(4, vI 1)])) (by kernel_rfl) ?_
  refine kSeq ?_
  refine cBlk ?_
  refine cSeq ?_
  refine cReg ?_
  refine segEndH [4, 5] (T1 := (mkT 9 [(4, vI 1), (5, .bool false)])) (by kernel_rfl) ?_
  refine kSeq ?_
  refine cFalse (by kernel_rfl) ?_
  refine cSeq ?_
  refine cReg ?_
  refine segEndH [7] (T1 := (mkT 9 [(7, .bool true)])) (by kernel_rfl) ?_
  refine kSeq ?_
  refine cTrue (by kernel_rfl) ?_
  refine cSeq ?_
  refine cReg ?_
  refine segEndH [2, 3] (T1 := (mkT 9 [(2, vI 0), (3, vI 2)])) (by kernel_rfl) ?_
  refine kSeq ?_
  refine cRet ?_
  refine kBlkR ?_
  refine kSeqR ?_
  -- end
  exact endQ (Or.inr rfl) (l := [vI 0, vI 2]) [] (by kernel_rfl) (by first | rfl | kernel_rfl) rfl rfl hcl rfl

set_option maxRecDepth 100000 in
set_option maxHeartbeats 4000000 in
theorem l2Others1   : Sound Try.prog 133 [vI 1] [] (.tuple #[vI 0, vI 2]) [] := by
  refine sound_intro (C := cx) Try.func133 rfl (by kernel_rfl) fun hcl => ?_
  refine cSeq ?_
  refine cReg ?_
  refine segEndH [0] (T1 := (mkT 9 [(0, vI 1)])) (by kernel_rfl) ?_
  refine kSeq ?_
  refine cSeq ?_
  refine cSeq ?_
  refine cReg ?_
  refine segEndH [4] (T1 := (mkT 9 [(4, vI 1)])) (by kernel_rfl) ?_
  refine kSeq ?_
  refine cBlk ?_
  refine cSeq ?_
  refine cReg ?_
  refine segEndH [4, 5] (T1 := (mkT 9 [(4, vI 1), (5, .bool false)])) (by kernel_rfl) ?_
  refine kSeq ?_
  refine cFalse (by kernel_rfl) ?_
  refine cSeq ?_
  refine cReg ?_
  refine segEndH [7] (T1 := (mkT 9 [(7, .bool true)])) (by kernel_rfl) ?_
  refine kSeq ?_
  refine cTrue (by kernel_rfl) ?_
  refine cSeq ?_
  refine cReg ?_
  refine segEndH [2, 3] (T1 := (mkT 9 [(2, vI 0), (3, vI 2)])) (by kernel_rfl) ?_
  refine kSeq ?_
  refine cRet ?_
  refine kBlkR ?_
  refine kSeqR ?_
  -- end
  exact endQ (Or.inr rfl) (l := [vI 0, vI 2]) [] (by kernel_rfl) (by first | rfl | kernel_rfl) rfl rfl hcl rfl

set_option maxRecDepth 100000 in
set_option maxHeartbeats 4000000 in
theorem l2Long1 (x : Int) (y : Int) (z : Int) (L : List A3)  : Sound Try.prog 84 [.agg #[vI x, vI y, vI z, vS 0 L.length], vI 1] [some ⟨a3s L, 74, false, false⟩] (vI y) [some ⟨a3s L, 74, false, false⟩] := by
  refine sound_intro (C := cx) Try.func84 rfl (by kernel_rfl) fun hcl => ?_
  refine cSeq ?_
  refine cReg ?_
  refine segEnd [1, 2] (T1 := (mkT 14 [(1, vI 1), (2, vP 1 0)])) (H1 := [some ⟨a3s L, 74, false, false⟩, rB [vI x, vI y, vI z, vS 0 L.length] 40]) (by kernel_rfl) ?_
  refine kSeq ?_
  refine cSeq ?_
  refine cReg ?_
  refine segEndH [4] (T1 := (mkT 14 [(4, vI y)])) (by kernel_rfl) ?_
  refine kSeq ?_
  refine cRet ?_
  -- end
  exact endQ (Or.inr rfl) (l := [vI y]) [rB [vI x, vI y, vI z, vS 0 L.length] 40] (by kernel_rfl) (by first | rfl | kernel_rfl) rfl rfl hcl rfl

set_option maxRecDepth 100000 in
set_option maxHeartbeats 4000000 in
theorem line1 (X : Nat) (Y : Nat) (Z : Nat) (a : Int) (b : Int) (c : Int) (hs : Sides X Y Z) (hh : has3 (X : Int) (Y : Int) (Z : Int) a b c = true) : Sound Try.prog 98 [.agg #[vN X, vN Y, vN Z], .agg #[vI a, vI b, vI c], vI 1] [] (vI (a * (Z : Int) + c)) [] := by
  refine sound_intro (C := cx) Try.func98 rfl (by kernel_rfl) fun hcl => ?_
  have hz := hs.size
  have hx0 := hs.x0
  have hx4 := hs.x4
  have hy0 := hs.y0
  have hy4 := hs.y4
  have hz0 := hs.z0
  have hz4 := hs.z4
  have hxy : X * Y ≤ 4 * 4 := Nat.mul_le_mul (by omega) (by omega)
  have hxz : X * Z ≤ 4 * 4 := Nat.mul_le_mul (by omega) (by omega)
  have hyz : Y * Z ≤ 4 * 4 := Nat.mul_le_mul (by omega) (by omega)
  have hh3 := (has3_iff (c := A3.mk a b c)).1 hh
  simp only at hh3
  have hfl := two_lt hh3.1 hh3.2.2
  refine cSeq ?_
  refine cReg ?_
  refine segEnd [2, 3, 4] (T1 := (mkT 25 [(2, vI 1), (3, vP 0 0), (4, vP 1 0)])) (H1 := [rB [vN X, vN Y, vN Z] 75, rB [vI a, vI b, vI c] 74]) (by kernel_rfl) ?_
  refine kSeq ?_
  refine cSeq ?_
  refine cReg ?_
  refine segH 1 (T1 := (mkT 25 [(2, vI 1), (3, vP 0 0), (4, vP 1 0), (10, vI 1)])) (by kernel_rfl) ?_
  refine rCall (v := .tuple #[vI 0, vI 2]) (args := [vI 1]) (by kernel_rfl) rfl (by kernel_rfl) (Sound.lay0 [] (others1) trivial rfl trivial rfl (by first | rfl | simp [mpV, mpA, mpS, mpP, renId, shift]) (by first | rfl | simp [mpV, mpA, mpS, mpP, renId, shift])) ?_
  refine segEndH [3, 4, 7, 8] (T1 := (mkT 25 [(3, vP 0 0), (4, vP 1 0), (7, vI 0), (8, vI 2)])) (by kernel_rfl) ?_
  refine kSeq ?_
  refine cSeq ?_
  refine cRegW (N := 2) [⟨[], [], []⟩, ⟨[], [], []⟩, ⟨[], [], [1]⟩, ⟨[], [], []⟩, ⟨[], [], []⟩, ⟨[], [], [0]⟩, ⟨[], [], []⟩, ⟨[], [], []⟩, ⟨[], [], []⟩, ⟨[], [], [1]⟩, ⟨[], [], []⟩, ⟨[], [], []⟩] 0 [] (by rfl) (by rfl) (by kernel_rfl) (by kernel_rfl) (by kernel_rfl) ⟨nmsX (by kernel_rfl), ⟨nmsX (by kernel_rfl), trivial⟩⟩ ?_
  refine segWH 6 (T1 := (mkT 25 [(3, vP 0 0), (4, vP 1 0), (7, vI 0), (8, vI 2), (14, vI 0), (15, vP 1 0), (16, vI a), (17, vI 2), (18, vP 0 2), (19, vN Z)])) (by kernel_rfl) ?_
  refine rW (m := ⟨[], [], []⟩) (v := vI (a * ((Z : Nat) : Int))) rfl (by kernel_rfl) (stId (eMul (k := .i64) (a := a) (b := ((Z : Nat) : Int)) (c := (a * ((Z : Nat) : Int))) (by kernel_rfl) (by kernel_rfl) (wr64 (by omega) (by omega) (by omega))) rfl (by kernel_rfl) (by kernel_rfl) (by kernel_rfl)) (by kernel_rfl) nr0 ?_
  refine segWH 3 (T1 := (mkT 25 [(3, vP 0 0), (4, vP 1 0), (7, vI 0), (8, vI 2), (14, vI 0), (15, vP 1 0), (16, vI a), (17, vI 2), (18, vP 0 2), (19, vN Z), (20, vI (a * ((Z : Nat) : Int))), (21, vI 2), (22, vP 1 2), (23, vI c)])) (by kernel_rfl) ?_
  refine rW (m := ⟨[], [], []⟩) (v := vI (a * ((Z : Nat) : Int) + c)) rfl (by kernel_rfl) (stId (eAdd (k := .i64) (a := (a * ((Z : Nat) : Int))) (b := c) (c := (a * ((Z : Nat) : Int) + c)) (by kernel_rfl) (by kernel_rfl) (wr64 (by omega) (by omega) (by omega))) rfl (by kernel_rfl) (by kernel_rfl) (by kernel_rfl)) (by kernel_rfl) nr0 ?_
  refine segEndWH [6] (T1 := (mkT 25 [(6, vI (a * ((Z : Nat) : Int) + c))])) (by kernel_rfl) ?_
  refine kSeq ?_
  refine cRet ?_
  -- end
  have he0 : (a * ((Z : Nat) : Int) + c : Int) = a * (Z : Int) + c := by first | omega | assumption | rfl | (symm; assumption) | (simp_all; done)
  refine endCast (v1 := vI (a * ((Z : Nat) : Int) + c)) (H1 := []) (by first | rfl | ((try rw [← he0]); done) | (simp only [← he0]; done)) (by first | rfl | ((try rw [← he0]); done) | (simp only [← he0]; done)) ?_
  exact endQ (Or.inr rfl) (l := [vI (a * ((Z : Nat) : Int) + c)]) [rB [vN X, vN Y, vN Z] 75, rB [vI a, vI b, vI c] 74] (by kernel_rfl) (by first | rfl | kernel_rfl) rfl rfl hcl rfl

set_option maxRecDepth 100000 in
set_option maxHeartbeats 4000000 in
theorem others2   : Sound Try.prog 126 [vI 2] [] (.tuple #[vI 0, vI 1]) [] := by
  refine sound_intro (C := cx) Try.func126 rfl (by kernel_rfl) fun hcl => ?_
  refine cSeq ?_
  refine cReg ?_
  refine segEndH [0] (T1 := (mkT 9 [(0, vI 2)])) (by kernel_rfl) ?_
  refine kSeq ?_
  refine cSeq ?_
  refine cSeq ?_
  refine cReg ?_
  refine segEndH [4] (T1 := (mkT 9 [(4, vI 2)])) (by kernel_rfl) ?_
  refine kSeq ?_
  refine cBlk ?_
  refine cSeq ?_
  refine cReg ?_
  refine segEndH [4, 5] (T1 := (mkT 9 [(4, vI 2), (5, .bool false)])) (by kernel_rfl) ?_
  refine kSeq ?_
  refine cFalse (by kernel_rfl) ?_
  refine cSeq ?_
  refine cReg ?_
  refine segEndH [7] (T1 := (mkT 9 [(7, .bool false)])) (by kernel_rfl) ?_
  refine kSeq ?_
  refine cFalse (by kernel_rfl) ?_
  refine cSkip ?_
  refine kBlk ?_
  refine kSeq ?_
  refine cSeq ?_
  refine cReg ?_
  refine segEndH [2, 3] (T1 := (mkT 9 [(2, vI 0), (3, vI 1)])) (by kernel_rfl) ?_
  refine kSeq ?_
  refine cRet ?_
  -- end
  exact endQ (Or.inr rfl) (l := [vI 0, vI 1]) [] (by kernel_rfl) (by first | rfl | kernel_rfl) rfl rfl hcl rfl

set_option maxRecDepth 100000 in
set_option maxHeartbeats 4000000 in
theorem l2Others2   : Sound Try.prog 133 [vI 2] [] (.tuple #[vI 0, vI 1]) [] := by
  refine sound_intro (C := cx) Try.func133 rfl (by kernel_rfl) fun hcl => ?_
  refine cSeq ?_
  refine cReg ?_
  refine segEndH [0] (T1 := (mkT 9 [(0, vI 2)])) (by kernel_rfl) ?_
  refine kSeq ?_
  refine cSeq ?_
  refine cSeq ?_
  refine cReg ?_
  refine segEndH [4] (T1 := (mkT 9 [(4, vI 2)])) (by kernel_rfl) ?_
  refine kSeq ?_
  refine cBlk ?_
  refine cSeq ?_
  refine cReg ?_
  refine segEndH [4, 5] (T1 := (mkT 9 [(4, vI 2), (5, .bool false)])) (by kernel_rfl) ?_
  refine kSeq ?_
  refine cFalse (by kernel_rfl) ?_
  refine cSeq ?_
  refine cReg ?_
  refine segEndH [7] (T1 := (mkT 9 [(7, .bool false)])) (by kernel_rfl) ?_
  refine kSeq ?_
  refine cFalse (by kernel_rfl) ?_
  refine cSkip ?_
  refine kBlk ?_
  refine kSeq ?_
  refine cSeq ?_
  refine cReg ?_
  refine segEndH [2, 3] (T1 := (mkT 9 [(2, vI 0), (3, vI 1)])) (by kernel_rfl) ?_
  refine kSeq ?_
  refine cRet ?_
  -- end
  exact endQ (Or.inr rfl) (l := [vI 0, vI 1]) [] (by kernel_rfl) (by first | rfl | kernel_rfl) rfl rfl hcl rfl

set_option maxRecDepth 100000 in
set_option maxHeartbeats 4000000 in
theorem l2Long2 (x : Int) (y : Int) (z : Int) (L : List A3)  : Sound Try.prog 84 [.agg #[vI x, vI y, vI z, vS 0 L.length], vI 2] [some ⟨a3s L, 74, false, false⟩] (vI z) [some ⟨a3s L, 74, false, false⟩] := by
  refine sound_intro (C := cx) Try.func84 rfl (by kernel_rfl) fun hcl => ?_
  refine cSeq ?_
  refine cReg ?_
  refine segEnd [1, 2] (T1 := (mkT 14 [(1, vI 2), (2, vP 1 0)])) (H1 := [some ⟨a3s L, 74, false, false⟩, rB [vI x, vI y, vI z, vS 0 L.length] 40]) (by kernel_rfl) ?_
  refine kSeq ?_
  refine cSeq ?_
  refine cReg ?_
  refine segEndH [4] (T1 := (mkT 14 [(4, vI z)])) (by kernel_rfl) ?_
  refine kSeq ?_
  refine cRet ?_
  -- end
  exact endQ (Or.inr rfl) (l := [vI z]) [rB [vI x, vI y, vI z, vS 0 L.length] 40] (by kernel_rfl) (by first | rfl | kernel_rfl) rfl rfl hcl rfl

set_option maxRecDepth 100000 in
set_option maxHeartbeats 4000000 in
theorem line2 (X : Nat) (Y : Nat) (Z : Nat) (a : Int) (b : Int) (c : Int) (hs : Sides X Y Z) (hh : has3 (X : Int) (Y : Int) (Z : Int) a b c = true) : Sound Try.prog 98 [.agg #[vN X, vN Y, vN Z], .agg #[vI a, vI b, vI c], vI 2] [] (vI (a * (Y : Int) + b)) [] := by
  refine sound_intro (C := cx) Try.func98 rfl (by kernel_rfl) fun hcl => ?_
  have hz := hs.size
  have hx0 := hs.x0
  have hx4 := hs.x4
  have hy0 := hs.y0
  have hy4 := hs.y4
  have hz0 := hs.z0
  have hz4 := hs.z4
  have hxy : X * Y ≤ 4 * 4 := Nat.mul_le_mul (by omega) (by omega)
  have hxz : X * Z ≤ 4 * 4 := Nat.mul_le_mul (by omega) (by omega)
  have hyz : Y * Z ≤ 4 * 4 := Nat.mul_le_mul (by omega) (by omega)
  have hh3 := (has3_iff (c := A3.mk a b c)).1 hh
  simp only at hh3
  have hfl := two_lt hh3.1 hh3.2.1
  refine cSeq ?_
  refine cReg ?_
  refine segEnd [2, 3, 4] (T1 := (mkT 25 [(2, vI 2), (3, vP 0 0), (4, vP 1 0)])) (H1 := [rB [vN X, vN Y, vN Z] 75, rB [vI a, vI b, vI c] 74]) (by kernel_rfl) ?_
  refine kSeq ?_
  refine cSeq ?_
  refine cReg ?_
  refine segH 1 (T1 := (mkT 25 [(2, vI 2), (3, vP 0 0), (4, vP 1 0), (10, vI 2)])) (by kernel_rfl) ?_
  refine rCall (v := .tuple #[vI 0, vI 1]) (args := [vI 2]) (by kernel_rfl) rfl (by kernel_rfl) (Sound.lay0 [] (others2) trivial rfl trivial rfl (by first | rfl | simp [mpV, mpA, mpS, mpP, renId, shift]) (by first | rfl | simp [mpV, mpA, mpS, mpP, renId, shift])) ?_
  refine segEndH [3, 4, 7, 8] (T1 := (mkT 25 [(3, vP 0 0), (4, vP 1 0), (7, vI 0), (8, vI 1)])) (by kernel_rfl) ?_
  refine kSeq ?_
  refine cSeq ?_
  refine cRegW (N := 2) [⟨[], [], []⟩, ⟨[], [], []⟩, ⟨[], [], [1]⟩, ⟨[], [], []⟩, ⟨[], [], []⟩, ⟨[], [], [0]⟩, ⟨[], [], []⟩, ⟨[], [], []⟩, ⟨[], [], []⟩, ⟨[], [], [1]⟩, ⟨[], [], []⟩, ⟨[], [], []⟩] 0 [] (by rfl) (by rfl) (by kernel_rfl) (by kernel_rfl) (by kernel_rfl) ⟨nmsX (by kernel_rfl), ⟨nmsX (by kernel_rfl), trivial⟩⟩ ?_
  refine segWH 6 (T1 := (mkT 25 [(3, vP 0 0), (4, vP 1 0), (7, vI 0), (8, vI 1), (14, vI 0), (15, vP 1 0), (16, vI a), (17, vI 1), (18, vP 0 1), (19, vN Y)])) (by kernel_rfl) ?_
  refine rW (m := ⟨[], [], []⟩) (v := vI (a * ((Y : Nat) : Int))) rfl (by kernel_rfl) (stId (eMul (k := .i64) (a := a) (b := ((Y : Nat) : Int)) (c := (a * ((Y : Nat) : Int))) (by kernel_rfl) (by kernel_rfl) (wr64 (by omega) (by omega) (by omega))) rfl (by kernel_rfl) (by kernel_rfl) (by kernel_rfl)) (by kernel_rfl) nr0 ?_
  refine segWH 3 (T1 := (mkT 25 [(3, vP 0 0), (4, vP 1 0), (7, vI 0), (8, vI 1), (14, vI 0), (15, vP 1 0), (16, vI a), (17, vI 1), (18, vP 0 1), (19, vN Y), (20, vI (a * ((Y : Nat) : Int))), (21, vI 1), (22, vP 1 1), (23, vI b)])) (by kernel_rfl) ?_
  refine rW (m := ⟨[], [], []⟩) (v := vI (a * ((Y : Nat) : Int) + b)) rfl (by kernel_rfl) (stId (eAdd (k := .i64) (a := (a * ((Y : Nat) : Int))) (b := b) (c := (a * ((Y : Nat) : Int) + b)) (by kernel_rfl) (by kernel_rfl) (wr64 (by omega) (by omega) (by omega))) rfl (by kernel_rfl) (by kernel_rfl) (by kernel_rfl)) (by kernel_rfl) nr0 ?_
  refine segEndWH [6] (T1 := (mkT 25 [(6, vI (a * ((Y : Nat) : Int) + b))])) (by kernel_rfl) ?_
  refine kSeq ?_
  refine cRet ?_
  -- end
  have he0 : (a * ((Y : Nat) : Int) + b : Int) = a * (Y : Int) + b := by first | omega | assumption | rfl | (symm; assumption) | (simp_all; done)
  refine endCast (v1 := vI (a * ((Y : Nat) : Int) + b)) (H1 := []) (by first | rfl | ((try rw [← he0]); done) | (simp only [← he0]; done)) (by first | rfl | ((try rw [← he0]); done) | (simp only [← he0]; done)) ?_
  exact endQ (Or.inr rfl) (l := [vI (a * ((Y : Nat) : Int) + b)]) [rB [vN X, vN Y, vN Z] 75, rB [vI a, vI b, vI c] 74] (by kernel_rfl) (by first | rfl | kernel_rfl) rfl rfl hcl rfl

set_option maxRecDepth 100000 in
set_option maxHeartbeats 4000000 in
theorem l2View0 (X : Nat) (Y : Nat) (Z : Nat) (L : List A3) (hs : Sides X Y Z) (hL : HeapL X Y Z L) : Sound Try.prog 115 [.agg #[vN X, vN Y, vN Z, vS 0 L.length], vI 0] [some ⟨a3s L, 74, false, false⟩] (vS 1 (Y * Z)) [some ⟨a3s L, 74, false, false⟩, some ⟨nums (viewT 0 X Y Z L L.length), 3, false, true⟩] := by
  refine sound_intro (C := cx) Try.func115 rfl (by kernel_rfl) fun hcl => ?_
  have hz := hs.size
  have hx0 := hs.x0
  have hx4 := hs.x4
  have hy0 := hs.y0
  have hy4 := hs.y4
  have hz0 := hs.z0
  have hz4 := hs.z4
  have hlen := hL.len
  have hlt := hL.lt64 hs
  have hxy : X * Y ≤ 4 * 4 := Nat.mul_le_mul (by omega) (by omega)
  have hxz : X * Z ≤ 4 * 4 := Nat.mul_le_mul (by omega) (by omega)
  have hyz : Y * Z ≤ 4 * 4 := Nat.mul_le_mul (by omega) (by omega)
  refine cSeq ?_
  refine cReg ?_
  refine segEnd [1, 2] (T1 := (mkT 54 [(1, vI 0), (2, vP 1 0)])) (H1 := [some ⟨a3s L, 74, false, false⟩, rB [vN X, vN Y, vN Z, vS 0 L.length] 40]) (by kernel_rfl) ?_
  refine kSeq ?_
  refine cSeq ?_
  refine cReg ?_
  refine segH 1 (T1 := (mkT 54 [(1, vI 0), (2, vP 1 0), (10, vI 0)])) (by kernel_rfl) ?_
  refine rCall (v := .tuple #[vI 1, vI 2]) (args := [vI 0]) (by kernel_rfl) rfl (by kernel_rfl) (Sound.lay0 [] (l2Others0) trivial rfl trivial rfl (by first | rfl | simp [mpV, mpA, mpS, mpP, renId, shift]) (by first | rfl | simp [mpV, mpA, mpS, mpP, renId, shift])) ?_
  refine segEndH [2, 5, 6] (T1 := (mkT 54 [(2, vP 1 0), (5, vI 1), (6, vI 2)])) (by kernel_rfl) ?_
  refine kSeq ?_
  refine cSeq ?_
  refine cRegW (N := 3) [⟨[], [], [1]⟩, ⟨[], [], []⟩, ⟨[], [], [0]⟩, ⟨[], [], [1]⟩, ⟨[], [], []⟩, ⟨[], [], [0]⟩, ⟨[], [], []⟩, ⟨[2], [], []⟩, ⟨[], [], []⟩] 1 [2] (by rfl) (by rfl) (by kernel_rfl) (by kernel_rfl) (by kernel_rfl) ⟨nmsF (flatA3 _ _ _ _), ⟨nmsX (by kernel_rfl), trivial⟩⟩ ?_
  refine segWH 2 (T1 := (mkT 54 [(2, vP 1 0), (5, vI 1), (6, vI 2), (14, .agg #[vN X, vN Y, vN Z, vS 0 L.length]), (15, vI 1)])) (by kernel_rfl) ?_
  refine rW (m := ⟨[], [], [0]⟩) (v := vN Y) rfl (by kernel_rfl) (stQ (args := [.agg #[vN X, vN Y, vN Z, vS 0 L.length], vI 1]) rfl (by kernel_rfl) (Any.lay0 [0] (l2Long1 ((X : Nat) : Int) ((Y : Nat) : Int) ((Z : Nat) : Int) L) ⟨rdF false (flatA3 _ _ _ _) rfl rfl, trivial⟩ rfl ⟨clF (flatA3 _ _ _ _), trivial⟩ rfl (by first | rfl | simp [mpV, mpA, mpS, mpP, renId, shift]) rfl) rfl (by kernel_rfl) (by kernel_rfl)) (by kernel_rfl) nr0 ?_
  refine segWH 2 (T1 := (mkT 54 [(2, vP 1 0), (5, vI 1), (6, vI 2), (14, .agg #[vN X, vN Y, vN Z, vS 0 L.length]), (15, vI 1), (16, vN Y), (17, .agg #[vN X, vN Y, vN Z, vS 0 L.length]), (18, vI 2)])) (by kernel_rfl) ?_
  refine rW (m := ⟨[], [], [0]⟩) (v := vN Z) rfl (by kernel_rfl) (stQ (args := [.agg #[vN X, vN Y, vN Z, vS 0 L.length], vI 2]) rfl (by kernel_rfl) (Any.lay0 [0] (l2Long2 ((X : Nat) : Int) ((Y : Nat) : Int) ((Z : Nat) : Int) L) ⟨rdF false (flatA3 _ _ _ _) rfl rfl, trivial⟩ rfl ⟨clF (flatA3 _ _ _ _), trivial⟩ rfl (by first | rfl | simp [mpV, mpA, mpS, mpP, renId, shift]) rfl) rfl (by kernel_rfl) (by kernel_rfl)) (by kernel_rfl) nr0 ?_
  refine rW (m := ⟨[], [], []⟩) (v := vN (Y * Z)) rfl (by kernel_rfl) (stId (eMul (k := .i64) (a := ((Y : Nat) : Int)) (b := ((Z : Nat) : Int)) (c := ((Y * Z : Nat) : Int)) (by kernel_rfl) (by kernel_rfl) (nMul (by omega))) rfl (by kernel_rfl) (by kernel_rfl) (by kernel_rfl)) (by kernel_rfl) nr0 ?_
  refine rW (m := ⟨[2], [], []⟩) (v := vS 2 (Y * Z)) rfl (by kernel_rfl) (stNew (i := 2) (v1 := vS 3 (Y * Z)) (r := ⟨nums (List.replicate (Y * Z) 0), 3, false, true⟩) (eMkNum (n := (Y * Z)) (k := .i64) (k2 := .i64) (by kernel_rfl) (by kernel_rfl) ti22 ti3 rfl rfl (by decide) (by omega)) rfl (by kernel_rfl) (by kernel_rfl) (by kernel_rfl) (by kernel_rfl) (nmF (flatNums _ _ _ _)) (clF (flatNums _ _ _ _))) (by kernel_rfl) (NRs.all ⟨nrOf (by rfl) (nmF (flatNums _ _ _ _)), trivial⟩) ?_
  refine segEndW [2, 5, 6, 7] (T1 := (mkT 54 [(2, vP 1 0), (5, vI 1), (6, vI 2), (7, vS 2 (Y * Z))])) (H1 := [some ⟨a3s L, 74, false, false⟩, rB [vN X, vN Y, vN Z, vS 0 L.length] 40, some ⟨nums (List.replicate (Y * Z) 0), 3, false, true⟩]) (by kernel_rfl) ?_
  refine kSeq ?_
  refine cSeq ?_
  refine cSeq ?_
  refine cReg ?_
  refine segEndH [2, 5, 6, 7, 8] (T1 := (mkT 54 [(2, vP 1 0), (5, vI 1), (6, vI 2), (7, vS 2 (Y * Z)), (8, vI 0)])) (by kernel_rfl) ?_
  refine kSeq ?_
  refine cBlk ?_
  -- loop
  refine cLoop (fun mm T H => ∃ i : Nat, ∃ M : List Int, (i ≤ L.length) ∧ (M = viewT 0 X Y Z L i) ∧ mm = L.length - i ∧ T = (mkT 54 [(2, vP 1 0), (5, vI 1), (6, vI 2), (7, vS 2 (Y * Z)), (8, vN i)]) ∧ H = [some ⟨a3s L, 74, false, false⟩, rB [vN X, vN Y, vN Z, vS 0 L.length] 40, some ⟨nums M, 3, false, true⟩]) (L.length - 0) (mkT 54 [(2, vP 1 0), (5, vI 1), (6, vI 2), (7, vS 2 (Y * Z)), (8, vI 0)]) [some ⟨a3s L, 74, false, false⟩, rB [vN X, vN Y, vN Z, vS 0 L.length] 40, some ⟨nums (List.replicate (Y * Z) 0), 3, false, true⟩] (wkSame [2, 5, 6, 7, 8] (by kernel_rfl)) ?_ ?_
  · exact ⟨0, (List.replicate (Y * Z) 0), (Nat.zero_le _), (rfl), rfl, rfl, rfl⟩
  · rintro _ _ _ ⟨i, M, hi, hM, rfl, rfl, rfl⟩
    have hml : M.length = Y * Z := (by rw [hM]; exact viewT_length 0 X Y Z L i)
    refine cSeq ?_
    refine cSeq ?_
    refine cReg ?_
    refine segEndH [2, 5, 6, 7, 8, 26] (T1 := (mkT 54 [(2, vP 1 0), (5, vI 1), (6, vI 2), (7, vS 2 (Y * Z)), (8, vN i), (26, .bool (decide (((i : Nat) : Int) < ((L.length : Nat) : Int))))])) (by kernel_rfl) ?_
    refine kSeq ?_
    cases h1 : (decide (((i : Nat) : Int) < ((L.length : Nat) : Int)) : Bool)
    ·
      (try simp only [Bool.not_eq_true', Bool.not_eq_false', decide_eq_true_eq, decide_eq_false_iff_not, beq_iff_eq, bne_iff_ne, beq_eq_false_iff_ne, bne_eq_false_iff_eq, ne_eq, Decidable.not_not, Bool.and_eq_true, Bool.and_eq_false_imp, Bool.or_eq_true, Bool.or_eq_false_iff, Bool.not_eq_true, Int.not_lt, Int.not_le, ge_iff_le, gt_iff_lt] at h1)
      refine cFalse (by kernel_rfl) ?_
      refine cExit ?_
      refine kSeqE ?_
      refine kLoopE ?_
      refine kBlkHit ?_
      refine kSeq ?_
      refine cSeq ?_
      refine cReg ?_
      refine segEndH [4] (T1 := (mkT 54 [(4, vS 2 (Y * Z))])) (by kernel_rfl) ?_
      refine kSeq ?_
      refine cRet ?_
      -- end
      have he0 : (M : List Int) = (viewT 0 X Y Z L L.length) := by first | omega | (rw [hM, show i = L.length by omega])
      refine endCast (v1 := vS 1 (Y * Z)) (H1 := [some ⟨a3s L, 74, false, false⟩, some ⟨nums M, 3, false, true⟩]) (by first | rfl | ((try rw [← he0]); done) | (simp only [← he0]; done)) (by first | rfl | ((try rw [← he0]); done) | (simp only [← he0]; done)) ?_
      exact endF (Or.inr rfl) (l := [vS 2 (Y * Z)]) [0, 2] (by kernel_rfl) (by first | rfl | simp [packR, mpV, mpA, mpS, mpP, renId]) ⟨rrF (flatA3 _ _ _ _) rfl, ⟨rrF (flatNums _ _ _ _) rfl, trivial⟩⟩ rfl rfl
    ·
      (try simp only [Bool.not_eq_true', Bool.not_eq_false', decide_eq_true_eq, decide_eq_false_iff_not, beq_iff_eq, bne_iff_ne, beq_eq_false_iff_ne, bne_eq_false_iff_eq, ne_eq, Decidable.not_not, Bool.and_eq_true, Bool.and_eq_false_imp, Bool.or_eq_true, Bool.or_eq_false_iff, Bool.not_eq_true, Int.not_lt, Int.not_le, ge_iff_le, gt_iff_lt] at h1)
      have hh3 := has3_iff.1 ((hL).has hs (i := i) (by omega))
      have hhas := (hL).has hs (i := i) (by omega)
      have hfl := two_lt hh3.2.1 hh3.2.2
      have hvr := viewT_rng 0 X Y Z L i (lnI 0 Y Z (L.getD i default)).toNat
      simp only [lnI] at hvr
      rw [← hM] at hvr
      refine cTrue (by kernel_rfl) ?_
      refine cSkip ?_
      refine kSeq ?_
      refine cSeq ?_
      refine cBlk ?_
      refine cRegW (N := 3) [⟨[], [], []⟩, ⟨[], [], []⟩, ⟨[], [], [1]⟩, ⟨[], [], []⟩, ⟨[], [], []⟩, ⟨[], [], []⟩, ⟨[], [], []⟩, ⟨[], [], [0]⟩, ⟨[], [], [1]⟩, ⟨[], [], []⟩, ⟨[], [], [0]⟩, ⟨[], [], []⟩, ⟨[], [], []⟩, ⟨[], [], [1]⟩, ⟨[], [], []⟩, ⟨[], [], []⟩, ⟨[], [], []⟩, ⟨[], [], []⟩, ⟨[], [], [0]⟩, ⟨[], [], []⟩, ⟨[], [], []⟩, ⟨[], [], [2]⟩, ⟨[], [], []⟩, ⟨[], [], []⟩, ⟨[], [2], []⟩] 0 [] (by rfl) (by rfl) (by kernel_rfl) (by kernel_rfl) (by kernel_rfl) ⟨nmsF (flatA3 _ _ _ _), ⟨nmsX (by kernel_rfl), ⟨nmsF (flatNums _ _ _ _), trivial⟩⟩⟩ ?_
      refine segWH 5 (T1 := (mkT 54 [(2, vP 1 0), (5, vI 1), (6, vI 2), (7, vS 2 (Y * Z)), (8, vN i), (26, .bool true), (29, vS 2 (Y * Z)), (30, vP 1 3), (31, vS 0 L.length), (32, vN i), (33, vI 1)])) (by kernel_rfl) ?_
      refine rW (m := ⟨[], [], []⟩) (v := vP 0 (i * 3)) rfl (by kernel_rfl) (stId (eIdxS (ad := ⟨0, 0, none⟩) (n := L.length) (m := 0) (k := .i64) (c := ((i : Nat) : Int)) (j := i) (o := i * 3) (by kernel_rfl) (by kernel_rfl) ti31 ti74 (rfl) (by omega) (by exact Nat.zero_add _)) rfl (by kernel_rfl) (by kernel_rfl) (by kernel_rfl)) (by kernel_rfl) nr0 ?_
      refine segWH 1 (T1 := (mkT 54 [(2, vP 1 0), (5, vI 1), (6, vI 2), (7, vS 2 (Y * Z)), (8, vN i), (26, .bool true), (29, vS 2 (Y * Z)), (30, vP 1 3), (31, vS 0 L.length), (32, vN i), (33, vI 1), (34, vP 0 (i * 3)), (35, vP 0 (i * 3 + 1))])) (by kernel_rfl) ?_
      refine rW (m := ⟨[], [], [0]⟩) (v := vI ((L.getD i default).y)) rfl (by kernel_rfl) (stId (eLdA3i (ad := ⟨0, i * 3 + 1, none⟩) (r := ⟨a3s L, 74, false, false⟩) (L := L) (j := i) (i := 1) (by kernel_rfl) (by kernel_rfl) rfl (by first | rfl | omega) (by omega) ti3 rfl rfl) rfl (by kernel_rfl) (by kernel_rfl) (by kernel_rfl)) (by kernel_rfl) nr0 ?_
      refine segWH 2 (T1 := (mkT 54 [(2, vP 1 0), (5, vI 1), (6, vI 2), (7, vS 2 (Y * Z)), (8, vN i), (26, .bool true), (29, vS 2 (Y * Z)), (30, vP 1 3), (31, vS 0 L.length), (32, vN i), (33, vI 1), (34, vP 0 (i * 3)), (35, vP 0 (i * 3 + 1)), (36, vI ((L.getD i default).y)), (37, .agg #[vN X, vN Y, vN Z, vS 0 L.length]), (38, vI 2)])) (by kernel_rfl) ?_
      refine rW (m := ⟨[], [], [0]⟩) (v := vN Z) rfl (by kernel_rfl) (stQ (args := [.agg #[vN X, vN Y, vN Z, vS 0 L.length], vI 2]) rfl (by kernel_rfl) (Any.lay0 [0] (l2Long2 ((X : Nat) : Int) ((Y : Nat) : Int) ((Z : Nat) : Int) L) ⟨rdF false (flatA3 _ _ _ _) rfl rfl, trivial⟩ rfl ⟨clF (flatA3 _ _ _ _), trivial⟩ rfl (by first | rfl | simp [mpV, mpA, mpS, mpP, renId, shift]) rfl) rfl (by kernel_rfl) (by kernel_rfl)) (by kernel_rfl) nr0 ?_
      refine rW (m := ⟨[], [], []⟩) (v := vI (((L.getD i default).y) * ((Z : Nat) : Int))) rfl (by kernel_rfl) (stId (eMul (k := .i64) (a := ((L.getD i default).y)) (b := ((Z : Nat) : Int)) (c := (((L.getD i default).y) * ((Z : Nat) : Int))) (by kernel_rfl) (by kernel_rfl) (wr64 (by omega) (by omega) (by omega))) rfl (by kernel_rfl) (by kernel_rfl) (by kernel_rfl)) (by kernel_rfl) nr0 ?_
      refine segWH 4 (T1 := (mkT 54 [(2, vP 1 0), (5, vI 1), (6, vI 2), (7, vS 2 (Y * Z)), (8, vN i), (26, .bool true), (29, vS 2 (Y * Z)), (30, vP 1 3), (31, vS 0 L.length), (32, vN i), (33, vI 1), (34, vP 0 (i * 3)), (35, vP 0 (i * 3 + 1)), (36, vI ((L.getD i default).y)), (37, .agg #[vN X, vN Y, vN Z, vS 0 L.length]), (38, vI 2), (39, vN Z), (40, vI (((L.getD i default).y) * ((Z : Nat) : Int))), (41, vP 1 3), (42, vS 0 L.length), (43, vN i), (44, vI 2)])) (by kernel_rfl) ?_
      refine rW (m := ⟨[], [], []⟩) (v := vP 0 (i * 3)) rfl (by kernel_rfl) (stId (eIdxS (ad := ⟨0, 0, none⟩) (n := L.length) (m := 0) (k := .i64) (c := ((i : Nat) : Int)) (j := i) (o := i * 3) (by kernel_rfl) (by kernel_rfl) ti31 ti74 (rfl) (by omega) (by exact Nat.zero_add _)) rfl (by kernel_rfl) (by kernel_rfl) (by kernel_rfl)) (by kernel_rfl) nr0 ?_
      refine segWH 1 (T1 := (mkT 54 [(2, vP 1 0), (5, vI 1), (6, vI 2), (7, vS 2 (Y * Z)), (8, vN i), (26, .bool true), (29, vS 2 (Y * Z)), (30, vP 1 3), (31, vS 0 L.length), (32, vN i), (33, vI 1), (34, vP 0 (i * 3)), (35, vP 0 (i * 3 + 1)), (36, vI ((L.getD i default).y)), (37, .agg #[vN X, vN Y, vN Z, vS 0 L.length]), (38, vI 2), (39, vN Z), (40, vI (((L.getD i default).y) * ((Z : Nat) : Int))), (41, vP 1 3), (42, vS 0 L.length), (43, vN i), (44, vI 2), (45, vP 0 (i * 3)), (46, vP 0 (i * 3 + 2))])) (by kernel_rfl) ?_
      refine rW (m := ⟨[], [], [0]⟩) (v := vI ((L.getD i default).z)) rfl (by kernel_rfl) (stId (eLdA3i (ad := ⟨0, i * 3 + 2, none⟩) (r := ⟨a3s L, 74, false, false⟩) (L := L) (j := i) (i := 2) (by kernel_rfl) (by kernel_rfl) rfl (by first | rfl | omega) (by omega) ti3 rfl rfl) rfl (by kernel_rfl) (by kernel_rfl) (by kernel_rfl)) (by kernel_rfl) nr0 ?_
      refine rW (m := ⟨[], [], []⟩) (v := vI (((L.getD i default).y) * ((Z : Nat) : Int) + ((L.getD i default).z))) rfl (by kernel_rfl) (stId (eAdd (k := .i64) (a := (((L.getD i default).y) * ((Z : Nat) : Int))) (b := ((L.getD i default).z)) (c := (((L.getD i default).y) * ((Z : Nat) : Int) + ((L.getD i default).z))) (by kernel_rfl) (by kernel_rfl) (wr64 (by omega) (by omega) (by omega))) rfl (by kernel_rfl) (by kernel_rfl) (by kernel_rfl)) (by kernel_rfl) nr0 ?_
      refine rW (m := ⟨[], [], []⟩) (v := vP 2 ((((L.getD i default).y) * ((Z : Nat) : Int) + ((L.getD i default).z)).toNat)) rfl (by kernel_rfl) (stId (eIdxS (ad := ⟨2, 0, none⟩) (n := (Y * Z)) (m := 0) (k := .i64) (c := (((L.getD i default).y) * ((Z : Nat) : Int) + ((L.getD i default).z))) (j := ((((L.getD i default).y) * ((Z : Nat) : Int) + ((L.getD i default).z)).toNat)) (o := (((L.getD i default).y) * ((Z : Nat) : Int) + ((L.getD i default).z)).toNat) (by kernel_rfl) (by kernel_rfl) ti22 ti3 (by omega) (by omega) (by simp)) rfl (by kernel_rfl) (by kernel_rfl) (by kernel_rfl)) (by kernel_rfl) nr0 ?_
      refine rW (m := ⟨[], [], [2]⟩) (v := vI (M.getD ((((L.getD i default).y) * ((Z : Nat) : Int) + ((L.getD i default).z)).toNat) 0)) rfl (by kernel_rfl) (stId (eLdNum (ad := ⟨2, (((L.getD i default).y) * ((Z : Nat) : Int) + ((L.getD i default).z)).toNat, none⟩) (r := ⟨nums M, 3, false, true⟩) (L := M) (j := ((((L.getD i default).y) * ((Z : Nat) : Int) + ((L.getD i default).z)).toNat)) (by kernel_rfl) (by kernel_rfl) rfl (by first | rfl | omega) (by omega) ti3 rfl) rfl (by kernel_rfl) (by kernel_rfl) (by kernel_rfl)) (by kernel_rfl) nr0 ?_
      refine rW (m := ⟨[], [], []⟩) (v := vI ((M.getD ((((L.getD i default).y) * ((Z : Nat) : Int) + ((L.getD i default).z)).toNat) 0) + 1)) rfl (by kernel_rfl) (stId (eAdd (k := .i64) (a := (M.getD ((((L.getD i default).y) * ((Z : Nat) : Int) + ((L.getD i default).z)).toNat) 0)) (b := 1) (c := ((M.getD ((((L.getD i default).y) * ((Z : Nat) : Int) + ((L.getD i default).z)).toNat) 0) + 1)) (by kernel_rfl) (by kernel_rfl) (wr64 (by omega) (by omega) (by omega))) rfl (by kernel_rfl) (by kernel_rfl) (by kernel_rfl)) (by kernel_rfl) nr0 ?_
      refine rW (m := ⟨[], [], []⟩) (v := vP 2 ((((L.getD i default).y) * ((Z : Nat) : Int) + ((L.getD i default).z)).toNat)) rfl (by kernel_rfl) (stId (eIdxS (ad := ⟨2, 0, none⟩) (n := (Y * Z)) (m := 0) (k := .i64) (c := (((L.getD i default).y) * ((Z : Nat) : Int) + ((L.getD i default).z))) (j := ((((L.getD i default).y) * ((Z : Nat) : Int) + ((L.getD i default).z)).toNat)) (o := (((L.getD i default).y) * ((Z : Nat) : Int) + ((L.getD i default).z)).toNat) (by kernel_rfl) (by kernel_rfl) ti22 ti3 (by omega) (by omega) (by simp)) rfl (by kernel_rfl) (by kernel_rfl) (by kernel_rfl)) (by kernel_rfl) nr0 ?_
      refine rW (m := ⟨[], [2], []⟩) (v := .tuple #[]) rfl (by kernel_rfl) (stSet (b := 2) (r := ⟨nums (M.set ((((L.getD i default).y) * ((Z : Nat) : Int) + ((L.getD i default).z)).toNat) ((M.getD ((((L.getD i default).y) * ((Z : Nat) : Int) + ((L.getD i default).z)).toNat) 0) + 1)), 3, false, true⟩) (eStNum (b := 2) (o := ((((L.getD i default).y) * ((Z : Nat) : Int) + ((L.getD i default).z)).toNat)) (L := M) (n := ((M.getD ((((L.getD i default).y) * ((Z : Nat) : Int) + ((L.getD i default).z)).toNat) 0) + 1)) (e := 3) (bx := false) (by kernel_rfl) (by kernel_rfl) (by kernel_rfl) (by omega) ti3 rfl (by rfl)) rfl (by kernel_rfl) (by kernel_rfl) (by kernel_rfl) (by kernel_rfl) (nmF (flatNums _ _ _ _)) (clF (flatNums _ _ _ _))) (by kernel_rfl) (NRs.all ⟨nrOf (by rfl) (nmF (flatNums _ _ _ _)), trivial⟩) ?_
      refine segEndW [2, 5, 6, 7, 8] (T1 := (mkT 54 [(2, vP 1 0), (5, vI 1), (6, vI 2), (7, vS 2 (Y * Z)), (8, vN i)])) (H1 := [some ⟨a3s L, 74, false, false⟩, rB [vN X, vN Y, vN Z, vS 0 L.length] 40, some ⟨nums (M.set ((((L.getD i default).y) * ((Z : Nat) : Int) + ((L.getD i default).z)).toNat) ((M.getD ((((L.getD i default).y) * ((Z : Nat) : Int) + ((L.getD i default).z)).toNat) 0) + 1)), 3, false, true⟩]) (by kernel_rfl) ?_
      refine kBlk ?_
      refine kSeq ?_
      refine cReg ?_
      refine segH 1 (T1 := (mkT 54 [(2, vP 1 0), (5, vI 1), (6, vI 2), (7, vS 2 (Y * Z)), (8, vN i), (27, vN i)])) (by kernel_rfl) ?_
      refine rOp (v := vN (i + 1)) (by kernel_rfl) (eAdd (k := .i64) (a := ((i : Nat) : Int)) (b := 1) (c := ((i + 1 : Nat) : Int)) (by kernel_rfl) (by kernel_rfl) (wr64 (by omega) (by omega) (by omega))) ?_
      refine segEndH [2, 5, 6, 7, 8] (T1 := (mkT 54 [(2, vP 1 0), (5, vI 1), (6, vI 2), (7, vS 2 (Y * Z)), (8, vN (i + 1))])) (by kernel_rfl) ?_
      exact kLoop (L.length - (i + 1)) (mkT 54 [(2, vP 1 0), (5, vI 1), (6, vI 2), (7, vS 2 (Y * Z)), (8, vN (i + 1))]) [some ⟨a3s L, 74, false, false⟩, rB [vN X, vN Y, vN Z, vS 0 L.length] 40, some ⟨nums (M.set ((((L.getD i default).y) * ((Z : Nat) : Int) + ((L.getD i default).z)).toNat) ((M.getD ((((L.getD i default).y) * ((Z : Nat) : Int) + ((L.getD i default).z)).toNat) 0) + 1)), 3, false, true⟩] (by omega) (wkSame [2, 5, 6, 7, 8] (by kernel_rfl)) ⟨(i + 1), (M.set ((((L.getD i default).y) * ((Z : Nat) : Int) + ((L.getD i default).z)).toNat) ((M.getD ((((L.getD i default).y) * ((Z : Nat) : Int) + ((L.getD i default).z)).toNat) 0) + 1)), (by omega), (viewT_step 0 X Y Z L i hM rfl), rfl, rfl, rfl⟩

set_option maxRecDepth 100000 in
set_option maxHeartbeats 4000000 in
theorem viewS0 (X : Nat) (Y : Nat) (Z : Nat) (s : Nat) (hs : Sides X Y Z) (hlt : s < 18446744073709551616) : Sound Try.prog 117 [.agg #[vN X, vN Y, vN Z], vU s, vI 0] [] (vS 0 (Y * Z)) [some ⟨nums (viewT 0 X Y Z (listOf X Y Z s) (listOf X Y Z s).length), 3, false, true⟩] := by
  refine sound_intro (C := cx) Try.func117 rfl (by kernel_rfl) fun hcl => ?_
  have hz := hs.size
  have hx0 := hs.x0
  have hx4 := hs.x4
  have hy0 := hs.y0
  have hy4 := hs.y4
  have hz0 := hs.z0
  have hz4 := hs.z4
  have hxy : X * Y ≤ 4 * 4 := Nat.mul_le_mul (by omega) (by omega)
  have hxz : X * Z ≤ 4 * 4 := Nat.mul_le_mul (by omega) (by omega)
  have hyz : Y * Z ≤ 4 * 4 := Nat.mul_le_mul (by omega) (by omega)
  have hll := (HeapL.list X Y Z s).len
  refine cSeq ?_
  refine cReg ?_
  refine segEnd [1, 2, 3] (T1 := (mkT 33 [(1, vU s), (2, vI 0), (3, vP 0 0)])) (H1 := [rB [vN X, vN Y, vN Z] 75]) (by kernel_rfl) ?_
  refine kSeq ?_
  refine cSeq ?_
  refine cReg ?_
  refine segH 2 (T1 := (mkT 33 [(1, vU s), (2, vI 0), (3, vP 0 0), (10, .agg #[vN X, vN Y, vN Z]), (11, vI 0)])) (by kernel_rfl) ?_
  refine rCall (v := vN (Y * Z)) (args := [.agg #[vN X, vN Y, vN Z], vI 0]) (by kernel_rfl) rfl (by kernel_rfl) (Sound.lay0 [] (lines0 X Y Z (by first | assumption | omega | rfl | decide | exact HeapL.list _ _ _ _ | exact HeapL.nil _ _ _ | exact HeapL.all _ _ _ | (apply HeapL.lt64 <;> assumption) | (repeat' (first | assumption | apply or_lt64 | apply and_lt64 | apply andn_lt64 | apply pow_lt64 | (apply HeapL.lt64 <;> assumption))))) trivial rfl trivial rfl (by first | rfl | simp [mpV, mpA, mpS, mpP, renId, shift]) rfl) ?_
  refine rOp (v := vS 1 (Y * Z)) (H' := [rB [vN X, vN Y, vN Z] 75, some ⟨nums (List.replicate (Y * Z) 0), 3, false, true⟩]) (by kernel_rfl) (eMkNum (n := (Y * Z)) (k := .i64) (k2 := .i64) (by kernel_rfl) (by kernel_rfl) ti22 ti3 rfl rfl (by decide) (by omega)) ?_
  refine segEnd [1, 2, 3, 7] (T1 := (mkT 33 [(1, vU s), (2, vI 0), (3, vP 0 0), (7, vS 1 (Y * Z))])) (H1 := [rB [vN X, vN Y, vN Z] 75, some ⟨nums (List.replicate (Y * Z) 0), 3, false, true⟩]) (by kernel_rfl) ?_
  refine kSeq ?_
  refine cSeq ?_
  refine cSeq ?_
  refine cReg ?_
  refine segH 2 (T1 := (mkT 33 [(1, vU s), (2, vI 0), (3, vP 0 0), (7, vS 1 (Y * Z)), (14, .agg #[vN X, vN Y, vN Z]), (15, vU s)])) (by kernel_rfl) ?_
  refine rCall (v := vS 2 ((listOf X Y Z s).length)) (args := [.agg #[vN X, vN Y, vN Z], vU s]) (by kernel_rfl) rfl (by kernel_rfl) (Sound.lay (E := [some ⟨a3s (listOf X Y Z s), 74, false, true⟩]) [] (listB X Y Z s (by first | assumption | omega | rfl | decide | exact HeapL.list _ _ _ _ | exact HeapL.nil _ _ _ | exact HeapL.all _ _ _ | (apply HeapL.lt64 <;> assumption) | (repeat' (first | assumption | apply or_lt64 | apply and_lt64 | apply andn_lt64 | apply pow_lt64 | (apply HeapL.lt64 <;> assumption)))) (by first | assumption | omega | rfl | decide | exact HeapL.list _ _ _ _ | exact HeapL.nil _ _ _ | exact HeapL.all _ _ _ | (apply HeapL.lt64 <;> assumption) | (repeat' (first | assumption | apply or_lt64 | apply and_lt64 | apply andn_lt64 | apply pow_lt64 | (apply HeapL.lt64 <;> assumption))))) trivial rfl trivial rfl (by first | rfl | simp [mpV, mpA, mpS, mpP, renId, shift]) rfl ⟨enF (flatA3 _ _ _ _) (Or.inl rfl), trivial⟩) ?_
  refine segEnd [2, 3, 7, 16, 17, 18] (T1 := (mkT 33 [(2, vI 0), (3, vP 0 0), (7, vS 1 (Y * Z)), (16, vS 2 ((listOf X Y Z s).length)), (17, vN ((listOf X Y Z s).length)), (18, vI 0)])) (H1 := [rB [vN X, vN Y, vN Z] 75, some ⟨nums (List.replicate (Y * Z) 0), 3, false, true⟩, some ⟨a3s (listOf X Y Z s), 74, false, true⟩]) (by kernel_rfl) ?_
  refine kSeq ?_
  refine cBlk ?_
  -- loop
  refine cLoop (fun mm T H => ∃ i : Nat, ∃ M : List Int, (i ≤ (listOf X Y Z s).length) ∧ (M = viewT 0 X Y Z (listOf X Y Z s) i) ∧ mm = (listOf X Y Z s).length - i ∧ T = (mkT 33 [(2, vI 0), (3, vP 0 0), (7, vS 1 (Y * Z)), (16, vS 2 ((listOf X Y Z s).length)), (17, vN ((listOf X Y Z s).length)), (18, vN i)]) ∧ H = [rB [vN X, vN Y, vN Z] 75, some ⟨nums M, 3, false, true⟩, some ⟨a3s (listOf X Y Z s), 74, false, true⟩]) ((listOf X Y Z s).length - 0) (mkT 33 [(2, vI 0), (3, vP 0 0), (7, vS 1 (Y * Z)), (16, vS 2 ((listOf X Y Z s).length)), (17, vN ((listOf X Y Z s).length)), (18, vI 0)]) [rB [vN X, vN Y, vN Z] 75, some ⟨nums (List.replicate (Y * Z) 0), 3, false, true⟩, some ⟨a3s (listOf X Y Z s), 74, false, true⟩] (wkSame [2, 3, 7, 16, 17, 18] (by kernel_rfl)) ?_ ?_
  · exact ⟨0, (List.replicate (Y * Z) 0), (Nat.zero_le _), (rfl), rfl, rfl, rfl⟩
  · rintro _ _ _ ⟨i, M, hi, hM, rfl, rfl, rfl⟩
    have hml : M.length = Y * Z := (by rw [hM]; exact viewT_length 0 X Y Z (listOf X Y Z s) i)
    refine cSeq ?_
    refine cReg ?_
    refine segEndH [2, 3, 7, 16, 17, 18, 19] (T1 := (mkT 33 [(2, vI 0), (3, vP 0 0), (7, vS 1 (Y * Z)), (16, vS 2 ((listOf X Y Z s).length)), (17, vN ((listOf X Y Z s).length)), (18, vN i), (19, .bool (decide (((i : Nat) : Int) < (((listOf X Y Z s).length : Nat) : Int))))])) (by kernel_rfl) ?_
    refine kSeq ?_
    refine cSeq ?_
    cases h1 : (decide (((i : Nat) : Int) < (((listOf X Y Z s).length : Nat) : Int)) : Bool)
    ·
      (try simp only [Bool.not_eq_true', Bool.not_eq_false', decide_eq_true_eq, decide_eq_false_iff_not, beq_iff_eq, bne_iff_ne, beq_eq_false_iff_ne, bne_eq_false_iff_eq, ne_eq, Decidable.not_not, Bool.and_eq_true, Bool.and_eq_false_imp, Bool.or_eq_true, Bool.or_eq_false_iff, Bool.not_eq_true, Int.not_lt, Int.not_le, ge_iff_le, gt_iff_lt] at h1)
      refine cFalse (by kernel_rfl) ?_
      refine cExit ?_
      refine kSeqE ?_
      refine kLoopE ?_
      refine kBlkHit ?_
      refine kSeq ?_
      refine cSeq ?_
      refine cReg ?_
      refine segEndH [6] (T1 := (mkT 33 [(6, vS 1 (Y * Z))])) (by kernel_rfl) ?_
      refine kSeq ?_
      refine cRet ?_
      -- end
      have he0 : (M : List Int) = (viewT 0 X Y Z (listOf X Y Z s) (listOf X Y Z s).length) := by first | omega | (rw [hM, show i = (listOf X Y Z s).length by omega])
      refine endCast (v1 := vS 0 (Y * Z)) (H1 := [some ⟨nums M, 3, false, true⟩]) (by first | rfl | ((try rw [← he0]); done) | (simp only [← he0]; done)) (by first | rfl | ((try rw [← he0]); done) | (simp only [← he0]; done)) ?_
      exact endF (Or.inr rfl) (l := [vS 1 (Y * Z)]) [1] (by kernel_rfl) (by first | rfl | simp [packR, mpV, mpA, mpS, mpP, renId]) ⟨rrF (flatNums _ _ _ _) rfl, trivial⟩ rfl rfl
    ·
      (try simp only [Bool.not_eq_true', Bool.not_eq_false', decide_eq_true_eq, decide_eq_false_iff_not, beq_iff_eq, bne_iff_ne, beq_eq_false_iff_ne, bne_eq_false_iff_eq, ne_eq, Decidable.not_not, Bool.and_eq_true, Bool.and_eq_false_imp, Bool.or_eq_true, Bool.or_eq_false_iff, Bool.not_eq_true, Int.not_lt, Int.not_le, ge_iff_le, gt_iff_lt] at h1)
      have hh3 := has3_iff.1 ((HeapL.list X Y Z s).has hs (i := i) (by omega))
      have hhas := (HeapL.list X Y Z s).has hs (i := i) (by omega)
      have hfl := two_lt hh3.2.1 hh3.2.2
      have hvr := viewT_rng 0 X Y Z (listOf X Y Z s) i (lnI 0 Y Z ((listOf X Y Z s).getD i default)).toNat
      simp only [lnI] at hvr
      rw [← hM] at hvr
      refine cTrue (by kernel_rfl) ?_
      refine cSkip ?_
      refine kSeq ?_
      refine cSeq ?_
      refine cBlk ?_
      refine cSeq ?_
      refine cReg ?_
      refine rOp (v := vP 2 (i * 3)) (by kernel_rfl) (eIdxS (ad := ⟨2, 0, none⟩) (n := ((listOf X Y Z s).length)) (m := 0) (k := .i64) (c := ((i : Nat) : Int)) (j := i) (o := i * 3) (by kernel_rfl) (by kernel_rfl) ti31 ti74 (rfl) (by omega) (by exact Nat.zero_add _)) ?_
      refine rOp (v := .agg #[vI (((listOf X Y Z s).getD i default).x), vI (((listOf X Y Z s).getD i default).y), vI (((listOf X Y Z s).getD i default).z)]) (by kernel_rfl) (eLdA3 (ad := ⟨2, i * 3, none⟩) (r := ⟨a3s (listOf X Y Z s), 74, false, true⟩) (L := (listOf X Y Z s)) (j := i) (by kernel_rfl) (by kernel_rfl) rfl (by first | rfl | omega) (by omega) ti74) ?_
      refine segEnd [2, 3, 7, 9, 16, 17, 18] (T1 := (mkT 33 [(2, vI 0), (3, vP 0 0), (7, vS 1 (Y * Z)), (9, vP 3 0), (16, vS 2 ((listOf X Y Z s).length)), (17, vN ((listOf X Y Z s).length)), (18, vN i)])) (H1 := [rB [vN X, vN Y, vN Z] 75, some ⟨nums M, 3, false, true⟩, some ⟨a3s (listOf X Y Z s), 74, false, true⟩, rB [vI (((listOf X Y Z s).getD i default).x), vI (((listOf X Y Z s).getD i default).y), vI (((listOf X Y Z s).getD i default).z)] 74]) (by kernel_rfl) ?_
      refine kSeq ?_
      refine cReg ?_
      refine segH 4 (T1 := (mkT 33 [(2, vI 0), (3, vP 0 0), (7, vS 1 (Y * Z)), (9, vP 3 0), (16, vS 2 ((listOf X Y Z s).length)), (17, vN ((listOf X Y Z s).length)), (18, vN i), (22, vS 1 (Y * Z)), (23, .agg #[vN X, vN Y, vN Z]), (24, .agg #[vI (((listOf X Y Z s).getD i default).x), vI (((listOf X Y Z s).getD i default).y), vI (((listOf X Y Z s).getD i default).z)]), (25, vI 0)])) (by kernel_rfl) ?_
      refine rCall (v := vI ((((listOf X Y Z s).getD i default).y) * (Z : Int) + (((listOf X Y Z s).getD i default).z))) (args := [.agg #[vN X, vN Y, vN Z], .agg #[vI (((listOf X Y Z s).getD i default).x), vI (((listOf X Y Z s).getD i default).y), vI (((listOf X Y Z s).getD i default).z)], vI 0]) (by kernel_rfl) rfl (by kernel_rfl) (Sound.lay0 [] (line0 X Y Z (((listOf X Y Z s).getD i default).x) (((listOf X Y Z s).getD i default).y) (((listOf X Y Z s).getD i default).z) (by first | assumption | omega | rfl | decide | exact HeapL.list _ _ _ _ | exact HeapL.nil _ _ _ | exact HeapL.all _ _ _ | (apply HeapL.lt64 <;> assumption) | (repeat' (first | assumption | apply or_lt64 | apply and_lt64 | apply andn_lt64 | apply pow_lt64 | (apply HeapL.lt64 <;> assumption)))) (by first | assumption | exact hhas)) trivial rfl trivial rfl (by first | rfl | simp [mpV, mpA, mpS, mpP, renId, shift]) rfl) ?_
      refine rOp (v := vP 1 (((((listOf X Y Z s).getD i default).y) * (Z : Int) + (((listOf X Y Z s).getD i default).z)).toNat)) (by kernel_rfl) (eIdxS (ad := ⟨1, 0, none⟩) (n := (Y * Z)) (m := 0) (k := .i64) (c := ((((listOf X Y Z s).getD i default).y) * (Z : Int) + (((listOf X Y Z s).getD i default).z))) (j := (((((listOf X Y Z s).getD i default).y) * (Z : Int) + (((listOf X Y Z s).getD i default).z)).toNat)) (o := ((((listOf X Y Z s).getD i default).y) * (Z : Int) + (((listOf X Y Z s).getD i default).z)).toNat) (by kernel_rfl) (by kernel_rfl) ti22 ti3 (by omega) (by omega) (by simp)) ?_
      refine rOp (v := vI (M.getD (((((listOf X Y Z s).getD i default).y) * (Z : Int) + (((listOf X Y Z s).getD i default).z)).toNat) 0)) (by kernel_rfl) (eLdNum (ad := ⟨1, ((((listOf X Y Z s).getD i default).y) * (Z : Int) + (((listOf X Y Z s).getD i default).z)).toNat, none⟩) (r := ⟨nums M, 3, false, true⟩) (L := M) (j := (((((listOf X Y Z s).getD i default).y) * (Z : Int) + (((listOf X Y Z s).getD i default).z)).toNat)) (by kernel_rfl) (by kernel_rfl) rfl (by first | rfl | omega) (by omega) ti3 rfl) ?_
      refine rOp (v := vI ((M.getD (((((listOf X Y Z s).getD i default).y) * (Z : Int) + (((listOf X Y Z s).getD i default).z)).toNat) 0) + 1)) (by kernel_rfl) (eAdd (k := .i64) (a := (M.getD (((((listOf X Y Z s).getD i default).y) * (Z : Int) + (((listOf X Y Z s).getD i default).z)).toNat) 0)) (b := 1) (c := ((M.getD (((((listOf X Y Z s).getD i default).y) * (Z : Int) + (((listOf X Y Z s).getD i default).z)).toNat) 0) + 1)) (by kernel_rfl) (by kernel_rfl) (wr64 (by omega) (by omega) (by omega))) ?_
      refine rOp (v := vP 1 (((((listOf X Y Z s).getD i default).y) * (Z : Int) + (((listOf X Y Z s).getD i default).z)).toNat)) (by kernel_rfl) (eIdxS (ad := ⟨1, 0, none⟩) (n := (Y * Z)) (m := 0) (k := .i64) (c := ((((listOf X Y Z s).getD i default).y) * (Z : Int) + (((listOf X Y Z s).getD i default).z))) (j := (((((listOf X Y Z s).getD i default).y) * (Z : Int) + (((listOf X Y Z s).getD i default).z)).toNat)) (o := ((((listOf X Y Z s).getD i default).y) * (Z : Int) + (((listOf X Y Z s).getD i default).z)).toNat) (by kernel_rfl) (by kernel_rfl) ti22 ti3 (by omega) (by omega) (by simp)) ?_
      refine rOp (v := .tuple #[]) (H' := [rB [vN X, vN Y, vN Z] 75, some ⟨nums (M.set (((((listOf X Y Z s).getD i default).y) * (Z : Int) + (((listOf X Y Z s).getD i default).z)).toNat) ((M.getD (((((listOf X Y Z s).getD i default).y) * (Z : Int) + (((listOf X Y Z s).getD i default).z)).toNat) 0) + 1)), 3, false, true⟩, some ⟨a3s (listOf X Y Z s), 74, false, true⟩, rB [vI (((listOf X Y Z s).getD i default).x), vI (((listOf X Y Z s).getD i default).y), vI (((listOf X Y Z s).getD i default).z)] 74]) (by kernel_rfl) (eStNum (b := 1) (o := (((((listOf X Y Z s).getD i default).y) * (Z : Int) + (((listOf X Y Z s).getD i default).z)).toNat)) (L := M) (n := ((M.getD (((((listOf X Y Z s).getD i default).y) * (Z : Int) + (((listOf X Y Z s).getD i default).z)).toNat) 0) + 1)) (e := 3) (bx := false) (by kernel_rfl) (by kernel_rfl) (by kernel_rfl) (by omega) ti3 rfl (by rfl)) ?_
      refine segEnd [2, 3, 7, 16, 17, 18] (T1 := (mkT 33 [(2, vI 0), (3, vP 0 0), (7, vS 1 (Y * Z)), (16, vS 2 ((listOf X Y Z s).length)), (17, vN ((listOf X Y Z s).length)), (18, vN i)])) (H1 := [rB [vN X, vN Y, vN Z] 75, some ⟨nums (M.set (((((listOf X Y Z s).getD i default).y) * (Z : Int) + (((listOf X Y Z s).getD i default).z)).toNat) ((M.getD (((((listOf X Y Z s).getD i default).y) * (Z : Int) + (((listOf X Y Z s).getD i default).z)).toNat) 0) + 1)), 3, false, true⟩, some ⟨a3s (listOf X Y Z s), 74, false, true⟩, rB [vI (((listOf X Y Z s).getD i default).x), vI (((listOf X Y Z s).getD i default).y), vI (((listOf X Y Z s).getD i default).z)] 74]) (by kernel_rfl) ?_
      refine kBlk ?_
      refine kSeq ?_
      refine cReg ?_
      refine rOp (v := vN (i + 1)) (by kernel_rfl) (eAdd (k := .i64) (a := ((i : Nat) : Int)) (b := 1) (c := ((i + 1 : Nat) : Int)) (by kernel_rfl) (by kernel_rfl) (wr64 (by omega) (by omega) (by omega))) ?_
      refine segEndH [2, 3, 7, 16, 17, 18] (T1 := (mkT 33 [(2, vI 0), (3, vP 0 0), (7, vS 1 (Y * Z)), (16, vS 2 ((listOf X Y Z s).length)), (17, vN ((listOf X Y Z s).length)), (18, vN (i + 1))])) (by kernel_rfl) ?_
      exact kLoop ((listOf X Y Z s).length - (i + 1)) (mkT 33 [(2, vI 0), (3, vP 0 0), (7, vS 1 (Y * Z)), (16, vS 2 ((listOf X Y Z s).length)), (17, vN ((listOf X Y Z s).length)), (18, vN (i + 1))]) [rB [vN X, vN Y, vN Z] 75, some ⟨nums (M.set (((((listOf X Y Z s).getD i default).y) * (Z : Int) + (((listOf X Y Z s).getD i default).z)).toNat) ((M.getD (((((listOf X Y Z s).getD i default).y) * (Z : Int) + (((listOf X Y Z s).getD i default).z)).toNat) 0) + 1)), 3, false, true⟩, some ⟨a3s (listOf X Y Z s), 74, false, true⟩] (by omega) (wkDrop [2, 3, 7, 16, 17, 18] _ rfl rfl ((closedL ⟨clX rfl, ⟨clF (flatNums _ _ _ _), ⟨clF (flatA3 _ _ _ _), trivial⟩⟩⟩)) (by kernel_rfl) rfl) ⟨(i + 1), (M.set (((((listOf X Y Z s).getD i default).y) * (Z : Int) + (((listOf X Y Z s).getD i default).z)).toNat) ((M.getD (((((listOf X Y Z s).getD i default).y) * (Z : Int) + (((listOf X Y Z s).getD i default).z)).toNat) 0) + 1)), (by omega), (viewT_step 0 X Y Z (listOf X Y Z s) i hM rfl), rfl, rfl, rfl⟩

theorem view0 (X : Nat) (Y : Nat) (Z : Nat) (L : List A3) (hs : Sides X Y Z) (hL : HeapL X Y Z L) : Sound Try.prog 117 [.agg #[vN X, vN Y, vN Z], vU (setOf Y Z L), vI 0] [] (vS 0 (Y * Z)) [some ⟨nums (viewT 0 X Y Z L L.length), 3, false, true⟩] := by
  have h := viewS0 X Y Z (setOf Y Z L) hs (hL.lt64 hs); rw [hL.eq hs] at h; exact h

set_option maxRecDepth 100000 in
set_option maxHeartbeats 4000000 in
theorem l4With0 (X : Nat) (Y : Nat) (Z : Nat) (L : List A3) (hs : Sides X Y Z) (hL : HeapL X Y Z L) : Sound Try.prog 83 [.agg #[vN X, vN Y, vN Z, vS 0 L.length], vI 0] [some ⟨a3s L, 74, false, false⟩] (vS 1 (X + 1)) [some ⟨a3s L, 74, false, false⟩, some ⟨nums (withT 0 X Y Z L (Y * Z)), 3, false, true⟩] := by
  refine sound_intro (C := cx) Try.func83 rfl (by kernel_rfl) fun hcl => ?_
  have hz := hs.size
  have hx0 := hs.x0
  have hx4 := hs.x4
  have hy0 := hs.y0
  have hy4 := hs.y4
  have hz0 := hs.z0
  have hz4 := hs.z4
  have hlen := hL.len
  have hlt := hL.lt64 hs
  have hxy : X * Y ≤ 4 * 4 := Nat.mul_le_mul (by omega) (by omega)
  have hxz : X * Z ≤ 4 * 4 := Nat.mul_le_mul (by omega) (by omega)
  have hyz : Y * Z ≤ 4 * 4 := Nat.mul_le_mul (by omega) (by omega)
  have hvl : (viewT 0 X Y Z L L.length).length = Y * Z := viewT_length 0 X Y Z L L.length
  refine cSeq ?_
  refine cReg ?_
  refine segEnd [1, 2] (T1 := (mkT 32 [(1, vI 0), (2, vP 1 0)])) (H1 := [some ⟨a3s L, 74, false, false⟩, rB [vN X, vN Y, vN Z, vS 0 L.length] 40]) (by kernel_rfl) ?_
  refine kSeq ?_
  refine cSeq ?_
  refine cRegW (N := 4) [⟨[], [], [1]⟩, ⟨[], [], []⟩, ⟨[], [], [0]⟩, ⟨[], [], []⟩, ⟨[2], [], []⟩, ⟨[], [], [1]⟩, ⟨[], [], []⟩, ⟨[3], [], [0]⟩, ⟨[], [], []⟩, ⟨[], [], []⟩] 2 [2, 3] (by rfl) (by rfl) (by kernel_rfl) (by kernel_rfl) (by kernel_rfl) ⟨nmsF (flatA3 _ _ _ _), ⟨nmsX (by kernel_rfl), trivial⟩⟩ ?_
  refine segWH 2 (T1 := (mkT 32 [(1, vI 0), (2, vP 1 0), (8, .agg #[vN X, vN Y, vN Z, vS 0 L.length]), (9, vI 0)])) (by kernel_rfl) ?_
  refine rW (m := ⟨[], [], [0]⟩) (v := vN X) rfl (by kernel_rfl) (stQ (args := [.agg #[vN X, vN Y, vN Z, vS 0 L.length], vI 0]) rfl (by kernel_rfl) (Any.lay0 [0] (l2Long0 ((X : Nat) : Int) ((Y : Nat) : Int) ((Z : Nat) : Int) L) ⟨rdF false (flatA3 _ _ _ _) rfl rfl, trivial⟩ rfl ⟨clF (flatA3 _ _ _ _), trivial⟩ rfl (by first | rfl | simp [mpV, mpA, mpS, mpP, renId, shift]) rfl) rfl (by kernel_rfl) (by kernel_rfl)) (by kernel_rfl) nr0 ?_
  refine rW (m := ⟨[], [], []⟩) (v := vN (X + 1)) rfl (by kernel_rfl) (stId (eAdd (k := .i64) (a := ((X : Nat) : Int)) (b := 1) (c := ((X + 1 : Nat) : Int)) (by kernel_rfl) (by kernel_rfl) (wr64 (by omega) (by omega) (by omega))) rfl (by kernel_rfl) (by kernel_rfl) (by kernel_rfl)) (by kernel_rfl) nr0 ?_
  refine rW (m := ⟨[2], [], []⟩) (v := vS 2 (X + 1)) rfl (by kernel_rfl) (stNew (i := 2) (v1 := vS 4 (X + 1)) (r := ⟨nums (List.replicate (X + 1) 0), 3, false, true⟩) (eMkNum (n := (X + 1)) (k := .i64) (k2 := .i64) (by kernel_rfl) (by kernel_rfl) ti22 ti3 rfl rfl (by decide) (by omega)) rfl (by kernel_rfl) (by kernel_rfl) (by kernel_rfl) (by kernel_rfl) (nmF (flatNums _ _ _ _)) (clF (flatNums _ _ _ _))) (by kernel_rfl) (NRs.all ⟨nrOf (by rfl) (nmF (flatNums _ _ _ _)), trivial⟩) ?_
  refine segWH 2 (T1 := (mkT 32 [(1, vI 0), (2, vP 1 0), (8, .agg #[vN X, vN Y, vN Z, vS 0 L.length]), (9, vI 0), (10, vN X), (11, vN (X + 1)), (12, vS 2 (X + 1)), (13, .agg #[vN X, vN Y, vN Z, vS 0 L.length]), (14, vI 0)])) (by kernel_rfl) ?_
  refine rW (m := ⟨[3], [], [0]⟩) (v := vS 3 (Y * Z)) rfl (by kernel_rfl) (stN (i := 3) (E := [some ⟨nums (viewT 0 X Y Z L L.length), 3, false, true⟩]) (v1 := vS 4 (Y * Z)) (args := [.agg #[vN X, vN Y, vN Z, vS 0 L.length], vI 0]) rfl (by kernel_rfl) (Any.lay (E := [some ⟨nums (viewT 0 X Y Z L L.length), 3, false, true⟩]) (N := 4) [0] (l2View0 X Y Z L (by first | assumption | omega | rfl | decide | exact HeapL.list _ _ _ _ | exact HeapL.nil _ _ _ | exact HeapL.all _ _ _ | (apply HeapL.lt64 <;> assumption) | (repeat' (first | assumption | apply or_lt64 | apply and_lt64 | apply andn_lt64 | apply pow_lt64 | (apply HeapL.lt64 <;> assumption)))) (by first | assumption | omega | rfl | decide | exact HeapL.list _ _ _ _ | exact HeapL.nil _ _ _ | exact HeapL.all _ _ _ | (apply HeapL.lt64 <;> assumption) | (repeat' (first | assumption | apply or_lt64 | apply and_lt64 | apply andn_lt64 | apply pow_lt64 | (apply HeapL.lt64 <;> assumption))))) ⟨rdF false (flatA3 _ _ _ _) rfl rfl, trivial⟩ rfl ⟨clF (flatA3 _ _ _ _), trivial⟩ rfl (by first | rfl | simp [mpV, mpA, mpS, mpP, renId, shift]) rfl ⟨enF (flatNums _ _ _ _) (Or.inl rfl), trivial⟩) rfl (by kernel_rfl) (by kernel_rfl) (by kernel_rfl) (by kernel_rfl) (FlatH.cons (flatNums _ _ _ _) FlatH.nil)) (by kernel_rfl) (NRs.all ⟨nrOf (by rfl) (nmF (flatNums _ _ _ _)), trivial⟩) ?_
  refine segEndW [5, 6] (T1 := (mkT 32 [(5, vS 2 (X + 1)), (6, vS 3 (Y * Z))])) (H1 := [some ⟨a3s L, 74, false, false⟩, rB [vN X, vN Y, vN Z, vS 0 L.length] 40, some ⟨nums (List.replicate (X + 1) 0), 3, false, true⟩, some ⟨nums (viewT 0 X Y Z L L.length), 3, false, true⟩]) (by kernel_rfl) ?_
  refine kSeq ?_
  refine cSeq ?_
  refine cSeq ?_
  refine cReg ?_
  refine segEndH [5, 6, 7] (T1 := (mkT 32 [(5, vS 2 (X + 1)), (6, vS 3 (Y * Z)), (7, vI 0)])) (by kernel_rfl) ?_
  refine kSeq ?_
  refine cBlk ?_
  -- loop
  refine cLoop (fun mm T H => ∃ i : Nat, ∃ M : List Int, (i ≤ Y * Z) ∧ (M = withT 0 X Y Z L i) ∧ mm = Y * Z - i ∧ T = (mkT 32 [(5, vS 2 (X + 1)), (6, vS 3 (Y * Z)), (7, vN i)]) ∧ H = [some ⟨a3s L, 74, false, false⟩, rB [vN X, vN Y, vN Z, vS 0 L.length] 40, some ⟨nums M, 3, false, true⟩, some ⟨nums (viewT 0 X Y Z L L.length), 3, false, true⟩]) (Y * Z - 0) (mkT 32 [(5, vS 2 (X + 1)), (6, vS 3 (Y * Z)), (7, vI 0)]) [some ⟨a3s L, 74, false, false⟩, rB [vN X, vN Y, vN Z, vS 0 L.length] 40, some ⟨nums (List.replicate (X + 1) 0), 3, false, true⟩, some ⟨nums (viewT 0 X Y Z L L.length), 3, false, true⟩] (wkSame [5, 6, 7] (by kernel_rfl)) ?_ ?_
  · exact ⟨0, (List.replicate (X + 1) 0), (Nat.zero_le _), (rfl), rfl, rfl, rfl⟩
  · rintro _ _ _ ⟨i, M, hi, hM, rfl, rfl, rfl⟩
    have hml : M.length = X + 1 := (by rw [hM]; exact withT_length 0 X Y Z L i)
    refine cSeq ?_
    refine cSeq ?_
    refine cReg ?_
    refine segEndH [5, 6, 7, 19] (T1 := (mkT 32 [(5, vS 2 (X + 1)), (6, vS 3 (Y * Z)), (7, vN i), (19, .bool (decide (((i : Nat) : Int) < ((Y * Z : Nat) : Int))))])) (by kernel_rfl) ?_
    refine kSeq ?_
    cases h1 : (decide (((i : Nat) : Int) < ((Y * Z : Nat) : Int)) : Bool)
    ·
      (try simp only [Bool.not_eq_true', Bool.not_eq_false', decide_eq_true_eq, decide_eq_false_iff_not, beq_iff_eq, bne_iff_ne, beq_eq_false_iff_ne, bne_eq_false_iff_eq, ne_eq, Decidable.not_not, Bool.and_eq_true, Bool.and_eq_false_imp, Bool.or_eq_true, Bool.or_eq_false_iff, Bool.not_eq_true, Int.not_lt, Int.not_le, ge_iff_le, gt_iff_lt] at h1)
      refine cFalse (by kernel_rfl) ?_
      refine cExit ?_
      refine kSeqE ?_
      refine kLoopE ?_
      refine kBlkHit ?_
      refine kSeq ?_
      refine cSeq ?_
      refine cReg ?_
      refine segEndH [4] (T1 := (mkT 32 [(4, vS 2 (X + 1))])) (by kernel_rfl) ?_
      refine kSeq ?_
      refine cRet ?_
      -- end
      have he0 : (M : List Int) = (withT 0 X Y Z L (Y * Z)) := by first | omega | (rw [hM, show i = Y * Z by omega])
      refine endCast (v1 := vS 1 (X + 1)) (H1 := [some ⟨a3s L, 74, false, false⟩, some ⟨nums M, 3, false, true⟩]) (by first | rfl | ((try rw [← he0]); done) | (simp only [← he0]; done)) (by first | rfl | ((try rw [← he0]); done) | (simp only [← he0]; done)) ?_
      exact endF (Or.inr rfl) (l := [vS 2 (X + 1)]) [0, 2] (by kernel_rfl) (by first | rfl | simp [packR, mpV, mpA, mpS, mpP, renId]) ⟨rrF (flatA3 _ _ _ _) rfl, ⟨rrF (flatNums _ _ _ _) rfl, trivial⟩⟩ rfl rfl
    ·
      (try simp only [Bool.not_eq_true', Bool.not_eq_false', decide_eq_true_eq, decide_eq_false_iff_not, beq_iff_eq, bne_iff_ne, beq_eq_false_iff_ne, bne_eq_false_iff_eq, ne_eq, Decidable.not_not, Bool.and_eq_true, Bool.and_eq_false_imp, Bool.or_eq_true, Bool.or_eq_false_iff, Bool.not_eq_true, Int.not_lt, Int.not_le, ge_iff_le, gt_iff_lt] at h1)
      have hv := view_le (d := 0) (k := i) (by omega) hs hL (by omega)
      simp only [sdN] at hv
      have hwr := withT_rng 0 X Y Z L i ((viewT 0 X Y Z L L.length).getD i 0).toNat
      rw [← hM] at hwr
      refine cTrue (by kernel_rfl) ?_
      refine cSkip ?_
      refine kSeq ?_
      refine cSeq ?_
      refine cBlk ?_
      refine cReg ?_
      refine segH 3 (T1 := (mkT 32 [(5, vS 2 (X + 1)), (6, vS 3 (Y * Z)), (7, vN i), (19, .bool true), (22, vS 2 (X + 1)), (23, vS 3 (Y * Z)), (24, vN i)])) (by kernel_rfl) ?_
      refine rOp (v := vP 3 i) (by kernel_rfl) (eIdxS (ad := ⟨3, 0, none⟩) (n := (Y * Z)) (m := 0) (k := .i64) (c := ((i : Nat) : Int)) (j := i) (o := i) (by kernel_rfl) (by kernel_rfl) ti22 ti3 (rfl) (by omega) (by simp)) ?_
      refine rOp (v := vI ((viewT 0 X Y Z L L.length).getD i 0)) (by kernel_rfl) (eLdNum (ad := ⟨3, i, none⟩) (r := ⟨nums (viewT 0 X Y Z L L.length), 3, false, true⟩) (L := (viewT 0 X Y Z L L.length)) (j := i) (by kernel_rfl) (by kernel_rfl) rfl (by first | rfl | omega) (by omega) ti3 rfl) ?_
      refine rOp (v := vP 2 ((((viewT 0 X Y Z L L.length).getD i 0)).toNat)) (by kernel_rfl) (eIdxS (ad := ⟨2, 0, none⟩) (n := (X + 1)) (m := 0) (k := .i64) (c := ((viewT 0 X Y Z L L.length).getD i 0)) (j := ((((viewT 0 X Y Z L L.length).getD i 0)).toNat)) (o := (((viewT 0 X Y Z L L.length).getD i 0)).toNat) (by kernel_rfl) (by kernel_rfl) ti22 ti3 (by omega) (by omega) (by simp)) ?_
      refine rOp (v := vI (M.getD ((((viewT 0 X Y Z L L.length).getD i 0)).toNat) 0)) (by kernel_rfl) (eLdNum (ad := ⟨2, (((viewT 0 X Y Z L L.length).getD i 0)).toNat, none⟩) (r := ⟨nums M, 3, false, true⟩) (L := M) (j := ((((viewT 0 X Y Z L L.length).getD i 0)).toNat)) (by kernel_rfl) (by kernel_rfl) rfl (by first | rfl | omega) (by omega) ti3 rfl) ?_
      refine rOp (v := vI ((M.getD ((((viewT 0 X Y Z L L.length).getD i 0)).toNat) 0) + 1)) (by kernel_rfl) (eAdd (k := .i64) (a := (M.getD ((((viewT 0 X Y Z L L.length).getD i 0)).toNat) 0)) (b := 1) (c := ((M.getD ((((viewT 0 X Y Z L L.length).getD i 0)).toNat) 0) + 1)) (by kernel_rfl) (by kernel_rfl) (wr64 (by omega) (by omega) (by omega))) ?_
      refine rOp (v := vP 2 ((((viewT 0 X Y Z L L.length).getD i 0)).toNat)) (by kernel_rfl) (eIdxS (ad := ⟨2, 0, none⟩) (n := (X + 1)) (m := 0) (k := .i64) (c := ((viewT 0 X Y Z L L.length).getD i 0)) (j := ((((viewT 0 X Y Z L L.length).getD i 0)).toNat)) (o := (((viewT 0 X Y Z L L.length).getD i 0)).toNat) (by kernel_rfl) (by kernel_rfl) ti22 ti3 (by omega) (by omega) (by simp)) ?_
      refine rOp (v := .tuple #[]) (H' := [some ⟨a3s L, 74, false, false⟩, rB [vN X, vN Y, vN Z, vS 0 L.length] 40, some ⟨nums (M.set ((((viewT 0 X Y Z L L.length).getD i 0)).toNat) ((M.getD ((((viewT 0 X Y Z L L.length).getD i 0)).toNat) 0) + 1)), 3, false, true⟩, some ⟨nums (viewT 0 X Y Z L L.length), 3, false, true⟩]) (by kernel_rfl) (eStNum (b := 2) (o := ((((viewT 0 X Y Z L L.length).getD i 0)).toNat)) (L := M) (n := ((M.getD ((((viewT 0 X Y Z L L.length).getD i 0)).toNat) 0) + 1)) (e := 3) (bx := false) (by kernel_rfl) (by kernel_rfl) (by kernel_rfl) (by omega) ti3 rfl (by rfl)) ?_
      refine segEnd [5, 6, 7] (T1 := (mkT 32 [(5, vS 2 (X + 1)), (6, vS 3 (Y * Z)), (7, vN i)])) (H1 := [some ⟨a3s L, 74, false, false⟩, rB [vN X, vN Y, vN Z, vS 0 L.length] 40, some ⟨nums (M.set ((((viewT 0 X Y Z L L.length).getD i 0)).toNat) ((M.getD ((((viewT 0 X Y Z L L.length).getD i 0)).toNat) 0) + 1)), 3, false, true⟩, some ⟨nums (viewT 0 X Y Z L L.length), 3, false, true⟩]) (by kernel_rfl) ?_
      refine kBlk ?_
      refine kSeq ?_
      refine cReg ?_
      refine segH 1 (T1 := (mkT 32 [(5, vS 2 (X + 1)), (6, vS 3 (Y * Z)), (7, vN i), (20, vN i)])) (by kernel_rfl) ?_
      refine rOp (v := vN (i + 1)) (by kernel_rfl) (eAdd (k := .i64) (a := ((i : Nat) : Int)) (b := 1) (c := ((i + 1 : Nat) : Int)) (by kernel_rfl) (by kernel_rfl) (wr64 (by omega) (by omega) (by omega))) ?_
      refine segEndH [5, 6, 7] (T1 := (mkT 32 [(5, vS 2 (X + 1)), (6, vS 3 (Y * Z)), (7, vN (i + 1))])) (by kernel_rfl) ?_
      exact kLoop (Y * Z - (i + 1)) (mkT 32 [(5, vS 2 (X + 1)), (6, vS 3 (Y * Z)), (7, vN (i + 1))]) [some ⟨a3s L, 74, false, false⟩, rB [vN X, vN Y, vN Z, vS 0 L.length] 40, some ⟨nums (M.set ((((viewT 0 X Y Z L L.length).getD i 0)).toNat) ((M.getD ((((viewT 0 X Y Z L L.length).getD i 0)).toNat) 0) + 1)), 3, false, true⟩, some ⟨nums (viewT 0 X Y Z L L.length), 3, false, true⟩] (by omega) (wkSame [5, 6, 7] (by kernel_rfl)) ⟨(i + 1), (M.set ((((viewT 0 X Y Z L L.length).getD i 0)).toNat) ((M.getD ((((viewT 0 X Y Z L L.length).getD i 0)).toNat) 0) + 1)), (by omega), (withT_step 0 X Y Z L i hM), rfl, rfl, rfl⟩

set_option maxRecDepth 100000 in
set_option maxHeartbeats 4000000 in
theorem linesWith0 (X : Nat) (Y : Nat) (Z : Nat) (L : List A3) (hs : Sides X Y Z) (hL : HeapL X Y Z L) : Sound Try.prog 87 [.agg #[vN X, vN Y, vN Z, vS 0 L.length], vI 0] [some ⟨a3s L, 74, false, false⟩] (vS 1 (X + 1)) [some ⟨a3s L, 74, false, false⟩, some ⟨nums (withT 0 X Y Z L (Y * Z)), 3, false, true⟩] := by
  refine sound_intro (C := cx) Try.func87 rfl (by kernel_rfl) fun hcl => ?_
  have hz := hs.size
  have hx0 := hs.x0
  have hx4 := hs.x4
  have hy0 := hs.y0
  have hy4 := hs.y4
  have hz0 := hs.z0
  have hz4 := hs.z4
  have hlen := hL.len
  have hlt := hL.lt64 hs
  have hxy : X * Y ≤ 4 * 4 := Nat.mul_le_mul (by omega) (by omega)
  have hxz : X * Z ≤ 4 * 4 := Nat.mul_le_mul (by omega) (by omega)
  have hyz : Y * Z ≤ 4 * 4 := Nat.mul_le_mul (by omega) (by omega)
  have hvl : (viewT 0 X Y Z L L.length).length = Y * Z := viewT_length 0 X Y Z L L.length
  refine cSeq ?_
  refine cReg ?_
  refine segEnd [1, 2] (T1 := (mkT 33 [(1, vI 0), (2, vP 1 0)])) (H1 := [some ⟨a3s L, 74, false, false⟩, rB [vN X, vN Y, vN Z, vS 0 L.length] 40]) (by kernel_rfl) ?_
  refine kSeq ?_
  refine cSeq ?_
  refine cReg ?_
  refine segH 1 (T1 := (mkT 33 [(1, vI 0), (2, vP 1 0), (8, .agg #[vN X, vN Y, vN Z, vS 0 L.length])])) (by kernel_rfl) ?_
  refine rCall (v := .agg #[vN X, vN Y, vN Z]) (args := [.agg #[vN X, vN Y, vN Z, vS 0 L.length]]) (by kernel_rfl) rfl (by kernel_rfl) (Sound.lay0 [0] (boxB ((X : Nat) : Int) ((Y : Nat) : Int) ((Z : Nat) : Int) L) ⟨rdF false (flatA3 _ _ _ _) rfl rfl, trivial⟩ rfl ⟨clF (flatA3 _ _ _ _), trivial⟩ rfl (by first | rfl | simp [mpV, mpA, mpS, mpP, renId, shift]) (by first | rfl | simp [mpV, mpA, mpS, mpP, renId, shift])) ?_
  refine segH 2 (T1 := (mkT 33 [(1, vI 0), (2, vP 1 0), (8, .agg #[vN X, vN Y, vN Z, vS 0 L.length]), (9, .agg #[vN X, vN Y, vN Z]), (10, vI 0), (11, vN X)])) (by kernel_rfl) ?_
  refine rOp (v := vN (X + 1)) (by kernel_rfl) (eAdd (k := .i64) (a := ((X : Nat) : Int)) (b := 1) (c := ((X + 1 : Nat) : Int)) (by kernel_rfl) (by kernel_rfl) (wr64 (by omega) (by omega) (by omega))) ?_
  refine rOp (v := vS 2 (X + 1)) (H' := [some ⟨a3s L, 74, false, false⟩, rB [vN X, vN Y, vN Z, vS 0 L.length] 40, some ⟨nums (List.replicate (X + 1) 0), 3, false, true⟩]) (by kernel_rfl) (eMkNum (n := (X + 1)) (k := .i64) (k2 := .i64) (by kernel_rfl) (by kernel_rfl) ti22 ti3 rfl rfl (by decide) (by omega)) ?_
  refine segEnd [1, 2, 5] (T1 := (mkT 33 [(1, vI 0), (2, vP 1 0), (5, vS 2 (X + 1))])) (H1 := [some ⟨a3s L, 74, false, false⟩, rB [vN X, vN Y, vN Z, vS 0 L.length] 40, some ⟨nums (List.replicate (X + 1) 0), 3, false, true⟩]) (by kernel_rfl) ?_
  refine kSeq ?_
  refine cSeq ?_
  refine cSeq ?_
  refine cRegW (N := 4) [⟨[], [], [1]⟩, ⟨[], [], [0]⟩, ⟨[], [], [1]⟩, ⟨[], [], [0]⟩, ⟨[], [], []⟩, ⟨[3], [], []⟩, ⟨[], [], [3]⟩, ⟨[], [], []⟩] 1 [3] (by rfl) (by rfl) (by kernel_rfl) (by kernel_rfl) (by kernel_rfl) ⟨nmsF (flatA3 _ _ _ _), ⟨nmsX (by kernel_rfl), ⟨nmsF (flatNums _ _ _ _), trivial⟩⟩⟩ ?_
  refine segWH 1 (T1 := (mkT 33 [(1, vI 0), (2, vP 1 0), (5, vS 2 (X + 1)), (14, .agg #[vN X, vN Y, vN Z, vS 0 L.length])])) (by kernel_rfl) ?_
  refine rW (m := ⟨[], [], [0]⟩) (v := .agg #[vN X, vN Y, vN Z]) rfl (by kernel_rfl) (stQ (args := [.agg #[vN X, vN Y, vN Z, vS 0 L.length]]) rfl (by kernel_rfl) (Any.lay0 [0] (boxB ((X : Nat) : Int) ((Y : Nat) : Int) ((Z : Nat) : Int) L) ⟨rdF false (flatA3 _ _ _ _) rfl rfl, trivial⟩ rfl ⟨clF (flatA3 _ _ _ _), trivial⟩ rfl (by first | rfl | simp [mpV, mpA, mpS, mpP, renId, shift]) (by first | rfl | simp [mpV, mpA, mpS, mpP, renId, shift])) rfl (by kernel_rfl) (by kernel_rfl)) (by kernel_rfl) nr0 ?_
  refine segWH 1 (T1 := (mkT 33 [(1, vI 0), (2, vP 1 0), (5, vS 2 (X + 1)), (14, .agg #[vN X, vN Y, vN Z, vS 0 L.length]), (15, .agg #[vN X, vN Y, vN Z]), (16, .agg #[vN X, vN Y, vN Z, vS 0 L.length])])) (by kernel_rfl) ?_
  refine rW (m := ⟨[], [], [0]⟩) (v := vU (setOf Y Z L)) rfl (by kernel_rfl) (stQ (args := [.agg #[vN X, vN Y, vN Z, vS 0 L.length]]) rfl (by kernel_rfl) (Any.lay0 [0] (cubesB X Y Z L (by first | assumption | omega | rfl | decide | exact HeapL.list _ _ _ _ | exact HeapL.nil _ _ _ | exact HeapL.all _ _ _ | (apply HeapL.lt64 <;> assumption) | (repeat' (first | assumption | apply or_lt64 | apply and_lt64 | apply andn_lt64 | apply pow_lt64 | (apply HeapL.lt64 <;> assumption)))) (by first | assumption | omega | rfl | decide | exact HeapL.list _ _ _ _ | exact HeapL.nil _ _ _ | exact HeapL.all _ _ _ | (apply HeapL.lt64 <;> assumption) | (repeat' (first | assumption | apply or_lt64 | apply and_lt64 | apply andn_lt64 | apply pow_lt64 | (apply HeapL.lt64 <;> assumption))))) ⟨rdF false (flatA3 _ _ _ _) rfl rfl, trivial⟩ rfl ⟨clF (flatA3 _ _ _ _), trivial⟩ rfl (by first | rfl | simp [mpV, mpA, mpS, mpP, renId, shift]) rfl) rfl (by kernel_rfl) (by kernel_rfl)) (by kernel_rfl) nr0 ?_
  refine segWH 1 (T1 := (mkT 33 [(1, vI 0), (2, vP 1 0), (5, vS 2 (X + 1)), (14, .agg #[vN X, vN Y, vN Z, vS 0 L.length]), (15, .agg #[vN X, vN Y, vN Z]), (16, .agg #[vN X, vN Y, vN Z, vS 0 L.length]), (17, vU (setOf Y Z L)), (18, vI 0)])) (by kernel_rfl) ?_
  refine rW (m := ⟨[3], [], []⟩) (v := vS 3 (Y * Z)) rfl (by kernel_rfl) (stN (i := 3) (E := [some ⟨nums (viewT 0 X Y Z L L.length), 3, false, true⟩]) (v1 := vS 4 (Y * Z)) (args := [.agg #[vN X, vN Y, vN Z], vU (setOf Y Z L), vI 0]) rfl (by kernel_rfl) (Any.lay (E := [some ⟨nums (viewT 0 X Y Z L L.length), 3, false, true⟩]) (N := 4) [] (view0 X Y Z L (by first | assumption | omega | rfl | decide | exact HeapL.list _ _ _ _ | exact HeapL.nil _ _ _ | exact HeapL.all _ _ _ | (apply HeapL.lt64 <;> assumption) | (repeat' (first | assumption | apply or_lt64 | apply and_lt64 | apply andn_lt64 | apply pow_lt64 | (apply HeapL.lt64 <;> assumption)))) (by first | assumption | omega | rfl | decide | exact HeapL.list _ _ _ _ | exact HeapL.nil _ _ _ | exact HeapL.all _ _ _ | (apply HeapL.lt64 <;> assumption) | (repeat' (first | assumption | apply or_lt64 | apply and_lt64 | apply andn_lt64 | apply pow_lt64 | (apply HeapL.lt64 <;> assumption))))) trivial rfl trivial rfl (by first | rfl | simp [mpV, mpA, mpS, mpP, renId, shift]) rfl ⟨enF (flatNums _ _ _ _) (Or.inl rfl), trivial⟩) rfl (by kernel_rfl) (by kernel_rfl) (by kernel_rfl) (by kernel_rfl) (FlatH.cons (flatNums _ _ _ _) FlatH.nil)) (by kernel_rfl) (NRs.all ⟨nrOf (by rfl) (nmF (flatNums _ _ _ _)), trivial⟩) ?_
  refine segEndW [5, 19, 20, 21] (T1 := (mkT 33 [(5, vS 2 (X + 1)), (19, vS 3 (Y * Z)), (20, vN (Y * Z)), (21, vI 0)])) (H1 := [some ⟨a3s L, 74, false, false⟩, rB [vN X, vN Y, vN Z, vS 0 L.length] 40, some ⟨nums (List.replicate (X + 1) 0), 3, false, true⟩, some ⟨nums (viewT 0 X Y Z L L.length), 3, false, true⟩]) (by kernel_rfl) ?_
  refine kSeq ?_
  refine cBlk ?_
  -- loop
  refine cLoop (fun mm T H => ∃ i : Nat, ∃ M : List Int, (i ≤ Y * Z) ∧ (M = withT 0 X Y Z L i) ∧ mm = Y * Z - i ∧ T = (mkT 33 [(5, vS 2 (X + 1)), (19, vS 3 (Y * Z)), (20, vN (Y * Z)), (21, vN i)]) ∧ H = [some ⟨a3s L, 74, false, false⟩, rB [vN X, vN Y, vN Z, vS 0 L.length] 40, some ⟨nums M, 3, false, true⟩, some ⟨nums (viewT 0 X Y Z L L.length), 3, false, true⟩]) (Y * Z - 0) (mkT 33 [(5, vS 2 (X + 1)), (19, vS 3 (Y * Z)), (20, vN (Y * Z)), (21, vI 0)]) [some ⟨a3s L, 74, false, false⟩, rB [vN X, vN Y, vN Z, vS 0 L.length] 40, some ⟨nums (List.replicate (X + 1) 0), 3, false, true⟩, some ⟨nums (viewT 0 X Y Z L L.length), 3, false, true⟩] (wkSame [5, 19, 20, 21] (by kernel_rfl)) ?_ ?_
  · exact ⟨0, (List.replicate (X + 1) 0), (Nat.zero_le _), (rfl), rfl, rfl, rfl⟩
  · rintro _ _ _ ⟨i, M, hi, hM, rfl, rfl, rfl⟩
    have hml : M.length = X + 1 := (by rw [hM]; exact withT_length 0 X Y Z L i)
    refine cSeq ?_
    refine cReg ?_
    refine segEndH [5, 19, 20, 21, 22] (T1 := (mkT 33 [(5, vS 2 (X + 1)), (19, vS 3 (Y * Z)), (20, vN (Y * Z)), (21, vN i), (22, .bool (decide (((i : Nat) : Int) < ((Y * Z : Nat) : Int))))])) (by kernel_rfl) ?_
    refine kSeq ?_
    refine cSeq ?_
    cases h1 : (decide (((i : Nat) : Int) < ((Y * Z : Nat) : Int)) : Bool)
    ·
      (try simp only [Bool.not_eq_true', Bool.not_eq_false', decide_eq_true_eq, decide_eq_false_iff_not, beq_iff_eq, bne_iff_ne, beq_eq_false_iff_ne, bne_eq_false_iff_eq, ne_eq, Decidable.not_not, Bool.and_eq_true, Bool.and_eq_false_imp, Bool.or_eq_true, Bool.or_eq_false_iff, Bool.not_eq_true, Int.not_lt, Int.not_le, ge_iff_le, gt_iff_lt] at h1)
      refine cFalse (by kernel_rfl) ?_
      refine cExit ?_
      refine kSeqE ?_
      refine kLoopE ?_
      refine kBlkHit ?_
      refine kSeq ?_
      refine cSeq ?_
      refine cReg ?_
      refine segEndH [4] (T1 := (mkT 33 [(4, vS 2 (X + 1))])) (by kernel_rfl) ?_
      refine kSeq ?_
      refine cRet ?_
      -- end
      have he0 : (M : List Int) = (withT 0 X Y Z L (Y * Z)) := by first | omega | (rw [hM, show i = Y * Z by omega])
      refine endCast (v1 := vS 1 (X + 1)) (H1 := [some ⟨a3s L, 74, false, false⟩, some ⟨nums M, 3, false, true⟩]) (by first | rfl | ((try rw [← he0]); done) | (simp only [← he0]; done)) (by first | rfl | ((try rw [← he0]); done) | (simp only [← he0]; done)) ?_
      exact endF (Or.inr rfl) (l := [vS 2 (X + 1)]) [0, 2] (by kernel_rfl) (by first | rfl | simp [packR, mpV, mpA, mpS, mpP, renId]) ⟨rrF (flatA3 _ _ _ _) rfl, ⟨rrF (flatNums _ _ _ _) rfl, trivial⟩⟩ rfl rfl
    ·
      (try simp only [Bool.not_eq_true', Bool.not_eq_false', decide_eq_true_eq, decide_eq_false_iff_not, beq_iff_eq, bne_iff_ne, beq_eq_false_iff_ne, bne_eq_false_iff_eq, ne_eq, Decidable.not_not, Bool.and_eq_true, Bool.and_eq_false_imp, Bool.or_eq_true, Bool.or_eq_false_iff, Bool.not_eq_true, Int.not_lt, Int.not_le, ge_iff_le, gt_iff_lt] at h1)
      have hv := view_le (d := 0) (k := i) (by omega) hs hL (by omega)
      simp only [sdN] at hv
      have hwr := withT_rng 0 X Y Z L i ((viewT 0 X Y Z L L.length).getD i 0).toNat
      rw [← hM] at hwr
      refine cTrue (by kernel_rfl) ?_
      refine cSkip ?_
      refine kSeq ?_
      refine cSeq ?_
      refine cBlk ?_
      refine cSeq ?_
      refine cReg ?_
      refine rOp (v := vP 3 i) (by kernel_rfl) (eIdxS (ad := ⟨3, 0, none⟩) (n := (Y * Z)) (m := 0) (k := .i64) (c := ((i : Nat) : Int)) (j := i) (o := i) (by kernel_rfl) (by kernel_rfl) ti22 ti3 (rfl) (by omega) (by simp)) ?_
      refine rOp (v := vI ((viewT 0 X Y Z L L.length).getD i 0)) (by kernel_rfl) (eLdNum (ad := ⟨3, i, none⟩) (r := ⟨nums (viewT 0 X Y Z L L.length), 3, false, true⟩) (L := (viewT 0 X Y Z L L.length)) (j := i) (by kernel_rfl) (by kernel_rfl) rfl (by first | rfl | omega) (by omega) ti3 rfl) ?_
      refine segEndH [5, 7, 19, 20, 21] (T1 := (mkT 33 [(5, vS 2 (X + 1)), (7, vI ((viewT 0 X Y Z L L.length).getD i 0)), (19, vS 3 (Y * Z)), (20, vN (Y * Z)), (21, vN i)])) (by kernel_rfl) ?_
      refine kSeq ?_
      refine cReg ?_
      refine segH 2 (T1 := (mkT 33 [(5, vS 2 (X + 1)), (7, vI ((viewT 0 X Y Z L L.length).getD i 0)), (19, vS 3 (Y * Z)), (20, vN (Y * Z)), (21, vN i), (25, vS 2 (X + 1)), (26, vI ((viewT 0 X Y Z L L.length).getD i 0))])) (by kernel_rfl) ?_
      refine rOp (v := vP 2 ((((viewT 0 X Y Z L L.length).getD i 0)).toNat)) (by kernel_rfl) (eIdxS (ad := ⟨2, 0, none⟩) (n := (X + 1)) (m := 0) (k := .i64) (c := ((viewT 0 X Y Z L L.length).getD i 0)) (j := ((((viewT 0 X Y Z L L.length).getD i 0)).toNat)) (o := (((viewT 0 X Y Z L L.length).getD i 0)).toNat) (by kernel_rfl) (by kernel_rfl) ti22 ti3 (by omega) (by omega) (by simp)) ?_
      refine rOp (v := vI (M.getD ((((viewT 0 X Y Z L L.length).getD i 0)).toNat) 0)) (by kernel_rfl) (eLdNum (ad := ⟨2, (((viewT 0 X Y Z L L.length).getD i 0)).toNat, none⟩) (r := ⟨nums M, 3, false, true⟩) (L := M) (j := ((((viewT 0 X Y Z L L.length).getD i 0)).toNat)) (by kernel_rfl) (by kernel_rfl) rfl (by first | rfl | omega) (by omega) ti3 rfl) ?_
      refine rOp (v := vI ((M.getD ((((viewT 0 X Y Z L L.length).getD i 0)).toNat) 0) + 1)) (by kernel_rfl) (eAdd (k := .i64) (a := (M.getD ((((viewT 0 X Y Z L L.length).getD i 0)).toNat) 0)) (b := 1) (c := ((M.getD ((((viewT 0 X Y Z L L.length).getD i 0)).toNat) 0) + 1)) (by kernel_rfl) (by kernel_rfl) (wr64 (by omega) (by omega) (by omega))) ?_
      refine rOp (v := vP 2 ((((viewT 0 X Y Z L L.length).getD i 0)).toNat)) (by kernel_rfl) (eIdxS (ad := ⟨2, 0, none⟩) (n := (X + 1)) (m := 0) (k := .i64) (c := ((viewT 0 X Y Z L L.length).getD i 0)) (j := ((((viewT 0 X Y Z L L.length).getD i 0)).toNat)) (o := (((viewT 0 X Y Z L L.length).getD i 0)).toNat) (by kernel_rfl) (by kernel_rfl) ti22 ti3 (by omega) (by omega) (by simp)) ?_
      refine rOp (v := .tuple #[]) (H' := [some ⟨a3s L, 74, false, false⟩, rB [vN X, vN Y, vN Z, vS 0 L.length] 40, some ⟨nums (M.set ((((viewT 0 X Y Z L L.length).getD i 0)).toNat) ((M.getD ((((viewT 0 X Y Z L L.length).getD i 0)).toNat) 0) + 1)), 3, false, true⟩, some ⟨nums (viewT 0 X Y Z L L.length), 3, false, true⟩]) (by kernel_rfl) (eStNum (b := 2) (o := ((((viewT 0 X Y Z L L.length).getD i 0)).toNat)) (L := M) (n := ((M.getD ((((viewT 0 X Y Z L L.length).getD i 0)).toNat) 0) + 1)) (e := 3) (bx := false) (by kernel_rfl) (by kernel_rfl) (by kernel_rfl) (by omega) ti3 rfl (by rfl)) ?_
      refine segEnd [5, 19, 20, 21] (T1 := (mkT 33 [(5, vS 2 (X + 1)), (19, vS 3 (Y * Z)), (20, vN (Y * Z)), (21, vN i)])) (H1 := [some ⟨a3s L, 74, false, false⟩, rB [vN X, vN Y, vN Z, vS 0 L.length] 40, some ⟨nums (M.set ((((viewT 0 X Y Z L L.length).getD i 0)).toNat) ((M.getD ((((viewT 0 X Y Z L L.length).getD i 0)).toNat) 0) + 1)), 3, false, true⟩, some ⟨nums (viewT 0 X Y Z L L.length), 3, false, true⟩]) (by kernel_rfl) ?_
      refine kBlk ?_
      refine kSeq ?_
      refine cReg ?_
      refine rOp (v := vN (i + 1)) (by kernel_rfl) (eAdd (k := .i64) (a := ((i : Nat) : Int)) (b := 1) (c := ((i + 1 : Nat) : Int)) (by kernel_rfl) (by kernel_rfl) (wr64 (by omega) (by omega) (by omega))) ?_
      refine segEndH [5, 19, 20, 21] (T1 := (mkT 33 [(5, vS 2 (X + 1)), (19, vS 3 (Y * Z)), (20, vN (Y * Z)), (21, vN (i + 1))])) (by kernel_rfl) ?_
      exact kLoop (Y * Z - (i + 1)) (mkT 33 [(5, vS 2 (X + 1)), (19, vS 3 (Y * Z)), (20, vN (Y * Z)), (21, vN (i + 1))]) [some ⟨a3s L, 74, false, false⟩, rB [vN X, vN Y, vN Z, vS 0 L.length] 40, some ⟨nums (M.set ((((viewT 0 X Y Z L L.length).getD i 0)).toNat) ((M.getD ((((viewT 0 X Y Z L L.length).getD i 0)).toNat) 0) + 1)), 3, false, true⟩, some ⟨nums (viewT 0 X Y Z L L.length), 3, false, true⟩] (by omega) (wkSame [5, 19, 20, 21] (by kernel_rfl)) ⟨(i + 1), (M.set ((((viewT 0 X Y Z L L.length).getD i 0)).toNat) ((M.getD ((((viewT 0 X Y Z L L.length).getD i 0)).toNat) 0) + 1)), (by omega), (withT_step 0 X Y Z L i hM), rfl, rfl, rfl⟩

set_option maxRecDepth 100000 in
set_option maxHeartbeats 4000000 in
theorem l2View1 (X : Nat) (Y : Nat) (Z : Nat) (L : List A3) (hs : Sides X Y Z) (hL : HeapL X Y Z L) : Sound Try.prog 115 [.agg #[vN X, vN Y, vN Z, vS 0 L.length], vI 1] [some ⟨a3s L, 74, false, false⟩] (vS 1 (X * Z)) [some ⟨a3s L, 74, false, false⟩, some ⟨nums (viewT 1 X Y Z L L.length), 3, false, true⟩] := by
  refine sound_intro (C := cx) Try.func115 rfl (by kernel_rfl) fun hcl => ?_
  have hz := hs.size
  have hx0 := hs.x0
  have hx4 := hs.x4
  have hy0 := hs.y0
  have hy4 := hs.y4
  have hz0 := hs.z0
  have hz4 := hs.z4
  have hlen := hL.len
  have hlt := hL.lt64 hs
  have hxy : X * Y ≤ 4 * 4 := Nat.mul_le_mul (by omega) (by omega)
  have hxz : X * Z ≤ 4 * 4 := Nat.mul_le_mul (by omega) (by omega)
  have hyz : Y * Z ≤ 4 * 4 := Nat.mul_le_mul (by omega) (by omega)
  refine cSeq ?_
  refine cReg ?_
  refine segEnd [1, 2] (T1 := (mkT 54 [(1, vI 1), (2, vP 1 0)])) (H1 := [some ⟨a3s L, 74, false, false⟩, rB [vN X, vN Y, vN Z, vS 0 L.length] 40]) (by kernel_rfl) ?_
  refine kSeq ?_
  refine cSeq ?_
  refine cReg ?_
  refine segH 1 (T1 := (mkT 54 [(1, vI 1), (2, vP 1 0), (10, vI 1)])) (by kernel_rfl) ?_
  refine rCall (v := .tuple #[vI 0, vI 2]) (args := [vI 1]) (by kernel_rfl) rfl (by kernel_rfl) (Sound.lay0 [] (l2Others1) trivial rfl trivial rfl (by first | rfl | simp [mpV, mpA, mpS, mpP, renId, shift]) (by first | rfl | simp [mpV, mpA, mpS, mpP, renId, shift])) ?_
  refine segEndH [2, 5, 6] (T1 := (mkT 54 [(2, vP 1 0), (5, vI 0), (6, vI 2)])) (by kernel_rfl) ?_
  refine kSeq ?_
  refine cSeq ?_
  refine cRegW (N := 3) [⟨[], [], [1]⟩, ⟨[], [], []⟩, ⟨[], [], [0]⟩, ⟨[], [], [1]⟩, ⟨[], [], []⟩, ⟨[], [], [0]⟩, ⟨[], [], []⟩, ⟨[2], [], []⟩, ⟨[], [], []⟩] 1 [2] (by rfl) (by rfl) (by kernel_rfl) (by kernel_rfl) (by kernel_rfl) ⟨nmsF (flatA3 _ _ _ _), ⟨nmsX (by kernel_rfl), trivial⟩⟩ ?_
  refine segWH 2 (T1 := (mkT 54 [(2, vP 1 0), (5, vI 0), (6, vI 2), (14, .agg #[vN X, vN Y, vN Z, vS 0 L.length]), (15, vI 0)])) (by kernel_rfl) ?_
  refine rW (m := ⟨[], [], [0]⟩) (v := vN X) rfl (by kernel_rfl) (stQ (args := [.agg #[vN X, vN Y, vN Z, vS 0 L.length], vI 0]) rfl (by kernel_rfl) (Any.lay0 [0] (l2Long0 ((X : Nat) : Int) ((Y : Nat) : Int) ((Z : Nat) : Int) L) ⟨rdF false (flatA3 _ _ _ _) rfl rfl, trivial⟩ rfl ⟨clF (flatA3 _ _ _ _), trivial⟩ rfl (by first | rfl | simp [mpV, mpA, mpS, mpP, renId, shift]) rfl) rfl (by kernel_rfl) (by kernel_rfl)) (by kernel_rfl) nr0 ?_
  refine segWH 2 (T1 := (mkT 54 [(2, vP 1 0), (5, vI 0), (6, vI 2), (14, .agg #[vN X, vN Y, vN Z, vS 0 L.length]), (15, vI 0), (16, vN X), (17, .agg #[vN X, vN Y, vN Z, vS 0 L.length]), (18, vI 2)])) (by kernel_rfl) ?_
  refine rW (m := ⟨[], [], [0]⟩) (v := vN Z) rfl (by kernel_rfl) (stQ (args := [.agg #[vN X, vN Y, vN Z, vS 0 L.length], vI 2]) rfl (by kernel_rfl) (Any.lay0 [0] (l2Long2 ((X : Nat) : Int) ((Y : Nat) : Int) ((Z : Nat) : Int) L) ⟨rdF false (flatA3 _ _ _ _) rfl rfl, trivial⟩ rfl ⟨clF (flatA3 _ _ _ _), trivial⟩ rfl (by first | rfl | simp [mpV, mpA, mpS, mpP, renId, shift]) rfl) rfl (by kernel_rfl) (by kernel_rfl)) (by kernel_rfl) nr0 ?_
  refine rW (m := ⟨[], [], []⟩) (v := vN (X * Z)) rfl (by kernel_rfl) (stId (eMul (k := .i64) (a := ((X : Nat) : Int)) (b := ((Z : Nat) : Int)) (c := ((X * Z : Nat) : Int)) (by kernel_rfl) (by kernel_rfl) (nMul (by omega))) rfl (by kernel_rfl) (by kernel_rfl) (by kernel_rfl)) (by kernel_rfl) nr0 ?_
  refine rW (m := ⟨[2], [], []⟩) (v := vS 2 (X * Z)) rfl (by kernel_rfl) (stNew (i := 2) (v1 := vS 3 (X * Z)) (r := ⟨nums (List.replicate (X * Z) 0), 3, false, true⟩) (eMkNum (n := (X * Z)) (k := .i64) (k2 := .i64) (by kernel_rfl) (by kernel_rfl) ti22 ti3 rfl rfl (by decide) (by omega)) rfl (by kernel_rfl) (by kernel_rfl) (by kernel_rfl) (by kernel_rfl) (nmF (flatNums _ _ _ _)) (clF (flatNums _ _ _ _))) (by kernel_rfl) (NRs.all ⟨nrOf (by rfl) (nmF (flatNums _ _ _ _)), trivial⟩) ?_
  refine segEndW [2, 5, 6, 7] (T1 := (mkT 54 [(2, vP 1 0), (5, vI 0), (6, vI 2), (7, vS 2 (X * Z))])) (H1 := [some ⟨a3s L, 74, false, false⟩, rB [vN X, vN Y, vN Z, vS 0 L.length] 40, some ⟨nums (List.replicate (X * Z) 0), 3, false, true⟩]) (by kernel_rfl) ?_
  refine kSeq ?_
  refine cSeq ?_
  refine cSeq ?_
  refine cReg ?_
  refine segEndH [2, 5, 6, 7, 8] (T1 := (mkT 54 [(2, vP 1 0), (5, vI 0), (6, vI 2), (7, vS 2 (X * Z)), (8, vI 0)])) (by kernel_rfl) ?_
  refine kSeq ?_
  refine cBlk ?_
  -- loop
  refine cLoop (fun mm T H => ∃ i : Nat, ∃ M : List Int, (i ≤ L.length) ∧ (M = viewT 1 X Y Z L i) ∧ mm = L.length - i ∧ T = (mkT 54 [(2, vP 1 0), (5, vI 0), (6, vI 2), (7, vS 2 (X * Z)), (8, vN i)]) ∧ H = [some ⟨a3s L, 74, false, false⟩, rB [vN X, vN Y, vN Z, vS 0 L.length] 40, some ⟨nums M, 3, false, true⟩]) (L.length - 0) (mkT 54 [(2, vP 1 0), (5, vI 0), (6, vI 2), (7, vS 2 (X * Z)), (8, vI 0)]) [some ⟨a3s L, 74, false, false⟩, rB [vN X, vN Y, vN Z, vS 0 L.length] 40, some ⟨nums (List.replicate (X * Z) 0), 3, false, true⟩] (wkSame [2, 5, 6, 7, 8] (by kernel_rfl)) ?_ ?_
  · exact ⟨0, (List.replicate (X * Z) 0), (Nat.zero_le _), (rfl), rfl, rfl, rfl⟩
  · rintro _ _ _ ⟨i, M, hi, hM, rfl, rfl, rfl⟩
    have hml : M.length = X * Z := (by rw [hM]; exact viewT_length 1 X Y Z L i)
    refine cSeq ?_
    refine cSeq ?_
    refine cReg ?_
    refine segEndH [2, 5, 6, 7, 8, 26] (T1 := (mkT 54 [(2, vP 1 0), (5, vI 0), (6, vI 2), (7, vS 2 (X * Z)), (8, vN i), (26, .bool (decide (((i : Nat) : Int) < ((L.length : Nat) : Int))))])) (by kernel_rfl) ?_
    refine kSeq ?_
    cases h1 : (decide (((i : Nat) : Int) < ((L.length : Nat) : Int)) : Bool)
    ·
      (try simp only [Bool.not_eq_true', Bool.not_eq_false', decide_eq_true_eq, decide_eq_false_iff_not, beq_iff_eq, bne_iff_ne, beq_eq_false_iff_ne, bne_eq_false_iff_eq, ne_eq, Decidable.not_not, Bool.and_eq_true, Bool.and_eq_false_imp, Bool.or_eq_true, Bool.or_eq_false_iff, Bool.not_eq_true, Int.not_lt, Int.not_le, ge_iff_le, gt_iff_lt] at h1)
      refine cFalse (by kernel_rfl) ?_
      refine cExit ?_
      refine kSeqE ?_
      refine kLoopE ?_
      refine kBlkHit ?_
      refine kSeq ?_
      refine cSeq ?_
      refine cReg ?_
      refine segEndH [4] (T1 := (mkT 54 [(4, vS 2 (X * Z))])) (by kernel_rfl) ?_
      refine kSeq ?_
      refine cRet ?_
      -- end
      have he0 : (M : List Int) = (viewT 1 X Y Z L L.length) := by first | omega | (rw [hM, show i = L.length by omega])
      refine endCast (v1 := vS 1 (X * Z)) (H1 := [some ⟨a3s L, 74, false, false⟩, some ⟨nums M, 3, false, true⟩]) (by first | rfl | ((try rw [← he0]); done) | (simp only [← he0]; done)) (by first | rfl | ((try rw [← he0]); done) | (simp only [← he0]; done)) ?_
      exact endF (Or.inr rfl) (l := [vS 2 (X * Z)]) [0, 2] (by kernel_rfl) (by first | rfl | simp [packR, mpV, mpA, mpS, mpP, renId]) ⟨rrF (flatA3 _ _ _ _) rfl, ⟨rrF (flatNums _ _ _ _) rfl, trivial⟩⟩ rfl rfl
    ·
      (try simp only [Bool.not_eq_true', Bool.not_eq_false', decide_eq_true_eq, decide_eq_false_iff_not, beq_iff_eq, bne_iff_ne, beq_eq_false_iff_ne, bne_eq_false_iff_eq, ne_eq, Decidable.not_not, Bool.and_eq_true, Bool.and_eq_false_imp, Bool.or_eq_true, Bool.or_eq_false_iff, Bool.not_eq_true, Int.not_lt, Int.not_le, ge_iff_le, gt_iff_lt] at h1)
      have hh3 := has3_iff.1 ((hL).has hs (i := i) (by omega))
      have hhas := (hL).has hs (i := i) (by omega)
      have hfl := two_lt hh3.1 hh3.2.2
      have hvr := viewT_rng 1 X Y Z L i (lnI 1 Y Z (L.getD i default)).toNat
      simp only [lnI] at hvr
      rw [← hM] at hvr
      refine cTrue (by kernel_rfl) ?_
      refine cSkip ?_
      refine kSeq ?_
      refine cSeq ?_
      refine cBlk ?_
      refine cRegW (N := 3) [⟨[], [], []⟩, ⟨[], [], []⟩, ⟨[], [], [1]⟩, ⟨[], [], []⟩, ⟨[], [], []⟩, ⟨[], [], []⟩, ⟨[], [], []⟩, ⟨[], [], [0]⟩, ⟨[], [], [1]⟩, ⟨[], [], []⟩, ⟨[], [], [0]⟩, ⟨[], [], []⟩, ⟨[], [], []⟩, ⟨[], [], [1]⟩, ⟨[], [], []⟩, ⟨[], [], []⟩, ⟨[], [], []⟩, ⟨[], [], []⟩, ⟨[], [], [0]⟩, ⟨[], [], []⟩, ⟨[], [], []⟩, ⟨[], [], [2]⟩, ⟨[], [], []⟩, ⟨[], [], []⟩, ⟨[], [2], []⟩] 0 [] (by rfl) (by rfl) (by kernel_rfl) (by kernel_rfl) (by kernel_rfl) ⟨nmsF (flatA3 _ _ _ _), ⟨nmsX (by kernel_rfl), ⟨nmsF (flatNums _ _ _ _), trivial⟩⟩⟩ ?_
      refine segWH 5 (T1 := (mkT 54 [(2, vP 1 0), (5, vI 0), (6, vI 2), (7, vS 2 (X * Z)), (8, vN i), (26, .bool true), (29, vS 2 (X * Z)), (30, vP 1 3), (31, vS 0 L.length), (32, vN i), (33, vI 0)])) (by kernel_rfl) ?_
      refine rW (m := ⟨[], [], []⟩) (v := vP 0 (i * 3)) rfl (by kernel_rfl) (stId (eIdxS (ad := ⟨0, 0, none⟩) (n := L.length) (m := 0) (k := .i64) (c := ((i : Nat) : Int)) (j := i) (o := i * 3) (by kernel_rfl) (by kernel_rfl) ti31 ti74 (rfl) (by omega) (by exact Nat.zero_add _)) rfl (by kernel_rfl) (by kernel_rfl) (by kernel_rfl)) (by kernel_rfl) nr0 ?_
      refine segWH 1 (T1 := (mkT 54 [(2, vP 1 0), (5, vI 0), (6, vI 2), (7, vS 2 (X * Z)), (8, vN i), (26, .bool true), (29, vS 2 (X * Z)), (30, vP 1 3), (31, vS 0 L.length), (32, vN i), (33, vI 0), (34, vP 0 (i * 3)), (35, vP 0 (i * 3 + 0))])) (by kernel_rfl) ?_
      refine rW (m := ⟨[], [], [0]⟩) (v := vI ((L.getD i default).x)) rfl (by kernel_rfl) (stId (eLdA3i (ad := ⟨0, i * 3 + 0, none⟩) (r := ⟨a3s L, 74, false, false⟩) (L := L) (j := i) (i := 0) (by kernel_rfl) (by kernel_rfl) rfl (by first | rfl | omega) (by omega) ti3 rfl rfl) rfl (by kernel_rfl) (by kernel_rfl) (by kernel_rfl)) (by kernel_rfl) nr0 ?_
      refine segWH 2 (T1 := (mkT 54 [(2, vP 1 0), (5, vI 0), (6, vI 2), (7, vS 2 (X * Z)), (8, vN i), (26, .bool true), (29, vS 2 (X * Z)), (30, vP 1 3), (31, vS 0 L.length), (32, vN i), (33, vI 0), (34, vP 0 (i * 3)), (35, vP 0 (i * 3 + 0)), (36, vI ((L.getD i default).x)), (37, .agg #[vN X, vN Y, vN Z, vS 0 L.length]), (38, vI 2)])) (by kernel_rfl) ?_
      refine rW (m := ⟨[], [], [0]⟩) (v := vN Z) rfl (by kernel_rfl) (stQ (args := [.agg #[vN X, vN Y, vN Z, vS 0 L.length], vI 2]) rfl (by kernel_rfl) (Any.lay0 [0] (l2Long2 ((X : Nat) : Int) ((Y : Nat) : Int) ((Z : Nat) : Int) L) ⟨rdF false (flatA3 _ _ _ _) rfl rfl, trivial⟩ rfl ⟨clF (flatA3 _ _ _ _), trivial⟩ rfl (by first | rfl | simp [mpV, mpA, mpS, mpP, renId, shift]) rfl) rfl (by kernel_rfl) (by kernel_rfl)) (by kernel_rfl) nr0 ?_
      refine rW (m := ⟨[], [], []⟩) (v := vI (((L.getD i default).x) * ((Z : Nat) : Int))) rfl (by kernel_rfl) (stId (eMul (k := .i64) (a := ((L.getD i default).x)) (b := ((Z : Nat) : Int)) (c := (((L.getD i default).x) * ((Z : Nat) : Int))) (by kernel_rfl) (by kernel_rfl) (wr64 (by omega) (by omega) (by omega))) rfl (by kernel_rfl) (by kernel_rfl) (by kernel_rfl)) (by kernel_rfl) nr0 ?_
      refine segWH 4 (T1 := (mkT 54 [(2, vP 1 0), (5, vI 0), (6, vI 2), (7, vS 2 (X * Z)), (8, vN i), (26, .bool true), (29, vS 2 (X * Z)), (30, vP 1 3), (31, vS 0 L.length), (32, vN i), (33, vI 0), (34, vP 0 (i * 3)), (35, vP 0 (i * 3 + 0)), (36, vI ((L.getD i default).x)), (37, .agg #[vN X, vN Y, vN Z, vS 0 L.length]), (38, vI 2), (39, vN Z), (40, vI (((L.getD i default).x) * ((Z : Nat) : Int))), (41, vP 1 3), (42, vS 0 L.length), (43, vN i), (44, vI 2)])) (by kernel_rfl) ?_
      refine rW (m := ⟨[], [], []⟩) (v := vP 0 (i * 3)) rfl (by kernel_rfl) (stId (eIdxS (ad := ⟨0, 0, none⟩) (n := L.length) (m := 0) (k := .i64) (c := ((i : Nat) : Int)) (j := i) (o := i * 3) (by kernel_rfl) (by kernel_rfl) ti31 ti74 (rfl) (by omega) (by exact Nat.zero_add _)) rfl (by kernel_rfl) (by kernel_rfl) (by kernel_rfl)) (by kernel_rfl) nr0 ?_
      refine segWH 1 (T1 := (mkT 54 [(2, vP 1 0), (5, vI 0), (6, vI 2), (7, vS 2 (X * Z)), (8, vN i), (26, .bool true), (29, vS 2 (X * Z)), (30, vP 1 3), (31, vS 0 L.length), (32, vN i), (33, vI 0), (34, vP 0 (i * 3)), (35, vP 0 (i * 3 + 0)), (36, vI ((L.getD i default).x)), (37, .agg #[vN X, vN Y, vN Z, vS 0 L.length]), (38, vI 2), (39, vN Z), (40, vI (((L.getD i default).x) * ((Z : Nat) : Int))), (41, vP 1 3), (42, vS 0 L.length), (43, vN i), (44, vI 2), (45, vP 0 (i * 3)), (46, vP 0 (i * 3 + 2))])) (by kernel_rfl) ?_
      refine rW (m := ⟨[], [], [0]⟩) (v := vI ((L.getD i default).z)) rfl (by kernel_rfl) (stId (eLdA3i (ad := ⟨0, i * 3 + 2, none⟩) (r := ⟨a3s L, 74, false, false⟩) (L := L) (j := i) (i := 2) (by kernel_rfl) (by kernel_rfl) rfl (by first | rfl | omega) (by omega) ti3 rfl rfl) rfl (by kernel_rfl) (by kernel_rfl) (by kernel_rfl)) (by kernel_rfl) nr0 ?_
      refine rW (m := ⟨[], [], []⟩) (v := vI (((L.getD i default).x) * ((Z : Nat) : Int) + ((L.getD i default).z))) rfl (by kernel_rfl) (stId (eAdd (k := .i64) (a := (((L.getD i default).x) * ((Z : Nat) : Int))) (b := ((L.getD i default).z)) (c := (((L.getD i default).x) * ((Z : Nat) : Int) + ((L.getD i default).z))) (by kernel_rfl) (by kernel_rfl) (wr64 (by omega) (by omega) (by omega))) rfl (by kernel_rfl) (by kernel_rfl) (by kernel_rfl)) (by kernel_rfl) nr0 ?_
      refine rW (m := ⟨[], [], []⟩) (v := vP 2 ((((L.getD i default).x) * ((Z : Nat) : Int) + ((L.getD i default).z)).toNat)) rfl (by kernel_rfl) (stId (eIdxS (ad := ⟨2, 0, none⟩) (n := (X * Z)) (m := 0) (k := .i64) (c := (((L.getD i default).x) * ((Z : Nat) : Int) + ((L.getD i default).z))) (j := ((((L.getD i default).x) * ((Z : Nat) : Int) + ((L.getD i default).z)).toNat)) (o := (((L.getD i default).x) * ((Z : Nat) : Int) + ((L.getD i default).z)).toNat) (by kernel_rfl) (by kernel_rfl) ti22 ti3 (by omega) (by omega) (by simp)) rfl (by kernel_rfl) (by kernel_rfl) (by kernel_rfl)) (by kernel_rfl) nr0 ?_
      refine rW (m := ⟨[], [], [2]⟩) (v := vI (M.getD ((((L.getD i default).x) * ((Z : Nat) : Int) + ((L.getD i default).z)).toNat) 0)) rfl (by kernel_rfl) (stId (eLdNum (ad := ⟨2, (((L.getD i default).x) * ((Z : Nat) : Int) + ((L.getD i default).z)).toNat, none⟩) (r := ⟨nums M, 3, false, true⟩) (L := M) (j := ((((L.getD i default).x) * ((Z : Nat) : Int) + ((L.getD i default).z)).toNat)) (by kernel_rfl) (by kernel_rfl) rfl (by first | rfl | omega) (by omega) ti3 rfl) rfl (by kernel_rfl) (by kernel_rfl) (by kernel_rfl)) (by kernel_rfl) nr0 ?_
      refine rW (m := ⟨[], [], []⟩) (v := vI ((M.getD ((((L.getD i default).x) * ((Z : Nat) : Int) + ((L.getD i default).z)).toNat) 0) + 1)) rfl (by kernel_rfl) (stId (eAdd (k := .i64) (a := (M.getD ((((L.getD i default).x) * ((Z : Nat) : Int) + ((L.getD i default).z)).toNat) 0)) (b := 1) (c := ((M.getD ((((L.getD i default).x) * ((Z : Nat) : Int) + ((L.getD i default).z)).toNat) 0) + 1)) (by kernel_rfl) (by kernel_rfl) (wr64 (by omega) (by omega) (by omega))) rfl (by kernel_rfl) (by kernel_rfl) (by kernel_rfl)) (by kernel_rfl) nr0 ?_
      refine rW (m := ⟨[], [], []⟩) (v := vP 2 ((((L.getD i default).x) * ((Z : Nat) : Int) + ((L.getD i default).z)).toNat)) rfl (by kernel_rfl) (stId (eIdxS (ad := ⟨2, 0, none⟩) (n := (X * Z)) (m := 0) (k := .i64) (c := (((L.getD i default).x) * ((Z : Nat) : Int) + ((L.getD i default).z))) (j := ((((L.getD i default).x) * ((Z : Nat) : Int) + ((L.getD i default).z)).toNat)) (o := (((L.getD i default).x) * ((Z : Nat) : Int) + ((L.getD i default).z)).toNat) (by kernel_rfl) (by kernel_rfl) ti22 ti3 (by omega) (by omega) (by simp)) rfl (by kernel_rfl) (by kernel_rfl) (by kernel_rfl)) (by kernel_rfl) nr0 ?_
      refine rW (m := ⟨[], [2], []⟩) (v := .tuple #[]) rfl (by kernel_rfl) (stSet (b := 2) (r := ⟨nums (M.set ((((L.getD i default).x) * ((Z : Nat) : Int) + ((L.getD i default).z)).toNat) ((M.getD ((((L.getD i default).x) * ((Z : Nat) : Int) + ((L.getD i default).z)).toNat) 0) + 1)), 3, false, true⟩) (eStNum (b := 2) (o := ((((L.getD i default).x) * ((Z : Nat) : Int) + ((L.getD i default).z)).toNat)) (L := M) (n := ((M.getD ((((L.getD i default).x) * ((Z : Nat) : Int) + ((L.getD i default).z)).toNat) 0) + 1)) (e := 3) (bx := false) (by kernel_rfl) (by kernel_rfl) (by kernel_rfl) (by omega) ti3 rfl (by rfl)) rfl (by kernel_rfl) (by kernel_rfl) (by kernel_rfl) (by kernel_rfl) (nmF (flatNums _ _ _ _)) (clF (flatNums _ _ _ _))) (by kernel_rfl) (NRs.all ⟨nrOf (by rfl) (nmF (flatNums _ _ _ _)), trivial⟩) ?_
      refine segEndW [2, 5, 6, 7, 8] (T1 := (mkT 54 [(2, vP 1 0), (5, vI 0), (6, vI 2), (7, vS 2 (X * Z)), (8, vN i)])) (H1 := [some ⟨a3s L, 74, false, false⟩, rB [vN X, vN Y, vN Z, vS 0 L.length] 40, some ⟨nums (M.set ((((L.getD i default).x) * ((Z : Nat) : Int) + ((L.getD i default).z)).toNat) ((M.getD ((((L.getD i default).x) * ((Z : Nat) : Int) + ((L.getD i default).z)).toNat) 0) + 1)), 3, false, true⟩]) (by kernel_rfl) ?_
      refine kBlk ?_
      refine kSeq ?_
      refine cReg ?_
      refine segH 1 (T1 := (mkT 54 [(2, vP 1 0), (5, vI 0), (6, vI 2), (7, vS 2 (X * Z)), (8, vN i), (27, vN i)])) (by kernel_rfl) ?_
      refine rOp (v := vN (i + 1)) (by kernel_rfl) (eAdd (k := .i64) (a := ((i : Nat) : Int)) (b := 1) (c := ((i + 1 : Nat) : Int)) (by kernel_rfl) (by kernel_rfl) (wr64 (by omega) (by omega) (by omega))) ?_
      refine segEndH [2, 5, 6, 7, 8] (T1 := (mkT 54 [(2, vP 1 0), (5, vI 0), (6, vI 2), (7, vS 2 (X * Z)), (8, vN (i + 1))])) (by kernel_rfl) ?_
      exact kLoop (L.length - (i + 1)) (mkT 54 [(2, vP 1 0), (5, vI 0), (6, vI 2), (7, vS 2 (X * Z)), (8, vN (i + 1))]) [some ⟨a3s L, 74, false, false⟩, rB [vN X, vN Y, vN Z, vS 0 L.length] 40, some ⟨nums (M.set ((((L.getD i default).x) * ((Z : Nat) : Int) + ((L.getD i default).z)).toNat) ((M.getD ((((L.getD i default).x) * ((Z : Nat) : Int) + ((L.getD i default).z)).toNat) 0) + 1)), 3, false, true⟩] (by omega) (wkSame [2, 5, 6, 7, 8] (by kernel_rfl)) ⟨(i + 1), (M.set ((((L.getD i default).x) * ((Z : Nat) : Int) + ((L.getD i default).z)).toNat) ((M.getD ((((L.getD i default).x) * ((Z : Nat) : Int) + ((L.getD i default).z)).toNat) 0) + 1)), (by omega), (viewT_step 1 X Y Z L i hM rfl), rfl, rfl, rfl⟩

set_option maxRecDepth 100000 in
set_option maxHeartbeats 4000000 in
theorem viewS1 (X : Nat) (Y : Nat) (Z : Nat) (s : Nat) (hs : Sides X Y Z) (hlt : s < 18446744073709551616) : Sound Try.prog 117 [.agg #[vN X, vN Y, vN Z], vU s, vI 1] [] (vS 0 (X * Z)) [some ⟨nums (viewT 1 X Y Z (listOf X Y Z s) (listOf X Y Z s).length), 3, false, true⟩] := by
  refine sound_intro (C := cx) Try.func117 rfl (by kernel_rfl) fun hcl => ?_
  have hz := hs.size
  have hx0 := hs.x0
  have hx4 := hs.x4
  have hy0 := hs.y0
  have hy4 := hs.y4
  have hz0 := hs.z0
  have hz4 := hs.z4
  have hxy : X * Y ≤ 4 * 4 := Nat.mul_le_mul (by omega) (by omega)
  have hxz : X * Z ≤ 4 * 4 := Nat.mul_le_mul (by omega) (by omega)
  have hyz : Y * Z ≤ 4 * 4 := Nat.mul_le_mul (by omega) (by omega)
  have hll := (HeapL.list X Y Z s).len
  refine cSeq ?_
  refine cReg ?_
  refine segEnd [1, 2, 3] (T1 := (mkT 33 [(1, vU s), (2, vI 1), (3, vP 0 0)])) (H1 := [rB [vN X, vN Y, vN Z] 75]) (by kernel_rfl) ?_
  refine kSeq ?_
  refine cSeq ?_
  refine cReg ?_
  refine segH 2 (T1 := (mkT 33 [(1, vU s), (2, vI 1), (3, vP 0 0), (10, .agg #[vN X, vN Y, vN Z]), (11, vI 1)])) (by kernel_rfl) ?_
  refine rCall (v := vN (X * Z)) (args := [.agg #[vN X, vN Y, vN Z], vI 1]) (by kernel_rfl) rfl (by kernel_rfl) (Sound.lay0 [] (lines1 X Y Z (by first | assumption | omega | rfl | decide | exact HeapL.list _ _ _ _ | exact HeapL.nil _ _ _ | exact HeapL.all _ _ _ | (apply HeapL.lt64 <;> assumption) | (repeat' (first | assumption | apply or_lt64 | apply and_lt64 | apply andn_lt64 | apply pow_lt64 | (apply HeapL.lt64 <;> assumption))))) trivial rfl trivial rfl (by first | rfl | simp [mpV, mpA, mpS, mpP, renId, shift]) rfl) ?_
  refine rOp (v := vS 1 (X * Z)) (H' := [rB [vN X, vN Y, vN Z] 75, some ⟨nums (List.replicate (X * Z) 0), 3, false, true⟩]) (by kernel_rfl) (eMkNum (n := (X * Z)) (k := .i64) (k2 := .i64) (by kernel_rfl) (by kernel_rfl) ti22 ti3 rfl rfl (by decide) (by omega)) ?_
  refine segEnd [1, 2, 3, 7] (T1 := (mkT 33 [(1, vU s), (2, vI 1), (3, vP 0 0), (7, vS 1 (X * Z))])) (H1 := [rB [vN X, vN Y, vN Z] 75, some ⟨nums (List.replicate (X * Z) 0), 3, false, true⟩]) (by kernel_rfl) ?_
  refine kSeq ?_
  refine cSeq ?_
  refine cSeq ?_
  refine cReg ?_
  refine segH 2 (T1 := (mkT 33 [(1, vU s), (2, vI 1), (3, vP 0 0), (7, vS 1 (X * Z)), (14, .agg #[vN X, vN Y, vN Z]), (15, vU s)])) (by kernel_rfl) ?_
  refine rCall (v := vS 2 ((listOf X Y Z s).length)) (args := [.agg #[vN X, vN Y, vN Z], vU s]) (by kernel_rfl) rfl (by kernel_rfl) (Sound.lay (E := [some ⟨a3s (listOf X Y Z s), 74, false, true⟩]) [] (listB X Y Z s (by first | assumption | omega | rfl | decide | exact HeapL.list _ _ _ _ | exact HeapL.nil _ _ _ | exact HeapL.all _ _ _ | (apply HeapL.lt64 <;> assumption) | (repeat' (first | assumption | apply or_lt64 | apply and_lt64 | apply andn_lt64 | apply pow_lt64 | (apply HeapL.lt64 <;> assumption)))) (by first | assumption | omega | rfl | decide | exact HeapL.list _ _ _ _ | exact HeapL.nil _ _ _ | exact HeapL.all _ _ _ | (apply HeapL.lt64 <;> assumption) | (repeat' (first | assumption | apply or_lt64 | apply and_lt64 | apply andn_lt64 | apply pow_lt64 | (apply HeapL.lt64 <;> assumption))))) trivial rfl trivial rfl (by first | rfl | simp [mpV, mpA, mpS, mpP, renId, shift]) rfl ⟨enF (flatA3 _ _ _ _) (Or.inl rfl), trivial⟩) ?_
  refine segEnd [2, 3, 7, 16, 17, 18] (T1 := (mkT 33 [(2, vI 1), (3, vP 0 0), (7, vS 1 (X * Z)), (16, vS 2 ((listOf X Y Z s).length)), (17, vN ((listOf X Y Z s).length)), (18, vI 0)])) (H1 := [rB [vN X, vN Y, vN Z] 75, some ⟨nums (List.replicate (X * Z) 0), 3, false, true⟩, some ⟨a3s (listOf X Y Z s), 74, false, true⟩]) (by kernel_rfl) ?_
  refine kSeq ?_
  refine cBlk ?_
  -- loop
  refine cLoop (fun mm T H => ∃ i : Nat, ∃ M : List Int, (i ≤ (listOf X Y Z s).length) ∧ (M = viewT 1 X Y Z (listOf X Y Z s) i) ∧ mm = (listOf X Y Z s).length - i ∧ T = (mkT 33 [(2, vI 1), (3, vP 0 0), (7, vS 1 (X * Z)), (16, vS 2 ((listOf X Y Z s).length)), (17, vN ((listOf X Y Z s).length)), (18, vN i)]) ∧ H = [rB [vN X, vN Y, vN Z] 75, some ⟨nums M, 3, false, true⟩, some ⟨a3s (listOf X Y Z s), 74, false, true⟩]) ((listOf X Y Z s).length - 0) (mkT 33 [(2, vI 1), (3, vP 0 0), (7, vS 1 (X * Z)), (16, vS 2 ((listOf X Y Z s).length)), (17, vN ((listOf X Y Z s).length)), (18, vI 0)]) [rB [vN X, vN Y, vN Z] 75, some ⟨nums (List.replicate (X * Z) 0), 3, false, true⟩, some ⟨a3s (listOf X Y Z s), 74, false, true⟩] (wkSame [2, 3, 7, 16, 17, 18] (by kernel_rfl)) ?_ ?_
  · exact ⟨0, (List.replicate (X * Z) 0), (Nat.zero_le _), (rfl), rfl, rfl, rfl⟩
  · rintro _ _ _ ⟨i, M, hi, hM, rfl, rfl, rfl⟩
    have hml : M.length = X * Z := (by rw [hM]; exact viewT_length 1 X Y Z (listOf X Y Z s) i)
    refine cSeq ?_
    refine cReg ?_
    refine segEndH [2, 3, 7, 16, 17, 18, 19] (T1 := (mkT 33 [(2, vI 1), (3, vP 0 0), (7, vS 1 (X * Z)), (16, vS 2 ((listOf X Y Z s).length)), (17, vN ((listOf X Y Z s).length)), (18, vN i), (19, .bool (decide (((i : Nat) : Int) < (((listOf X Y Z s).length : Nat) : Int))))])) (by kernel_rfl) ?_
    refine kSeq ?_
    refine cSeq ?_
    cases h1 : (decide (((i : Nat) : Int) < (((listOf X Y Z s).length : Nat) : Int)) : Bool)
    ·
      (try simp only [Bool.not_eq_true', Bool.not_eq_false', decide_eq_true_eq, decide_eq_false_iff_not, beq_iff_eq, bne_iff_ne, beq_eq_false_iff_ne, bne_eq_false_iff_eq, ne_eq, Decidable.not_not, Bool.and_eq_true, Bool.and_eq_false_imp, Bool.or_eq_true, Bool.or_eq_false_iff, Bool.not_eq_true, Int.not_lt, Int.not_le, ge_iff_le, gt_iff_lt] at h1)
      refine cFalse (by kernel_rfl) ?_
      refine cExit ?_
      refine kSeqE ?_
      refine kLoopE ?_
      refine kBlkHit ?_
      refine kSeq ?_
      refine cSeq ?_
      refine cReg ?_
      refine segEndH [6] (T1 := (mkT 33 [(6, vS 1 (X * Z))])) (by kernel_rfl) ?_
      refine kSeq ?_
      refine cRet ?_
      -- end
      have he0 : (M : List Int) = (viewT 1 X Y Z (listOf X Y Z s) (listOf X Y Z s).length) := by first | omega | (rw [hM, show i = (listOf X Y Z s).length by omega])
      refine endCast (v1 := vS 0 (X * Z)) (H1 := [some ⟨nums M, 3, false, true⟩]) (by first | rfl | ((try rw [← he0]); done) | (simp only [← he0]; done)) (by first | rfl | ((try rw [← he0]); done) | (simp only [← he0]; done)) ?_
      exact endF (Or.inr rfl) (l := [vS 1 (X * Z)]) [1] (by kernel_rfl) (by first | rfl | simp [packR, mpV, mpA, mpS, mpP, renId]) ⟨rrF (flatNums _ _ _ _) rfl, trivial⟩ rfl rfl
    ·
      (try simp only [Bool.not_eq_true', Bool.not_eq_false', decide_eq_true_eq, decide_eq_false_iff_not, beq_iff_eq, bne_iff_ne, beq_eq_false_iff_ne, bne_eq_false_iff_eq, ne_eq, Decidable.not_not, Bool.and_eq_true, Bool.and_eq_false_imp, Bool.or_eq_true, Bool.or_eq_false_iff, Bool.not_eq_true, Int.not_lt, Int.not_le, ge_iff_le, gt_iff_lt] at h1)
      have hh3 := has3_iff.1 ((HeapL.list X Y Z s).has hs (i := i) (by omega))
      have hhas := (HeapL.list X Y Z s).has hs (i := i) (by omega)
      have hfl := two_lt hh3.1 hh3.2.2
      have hvr := viewT_rng 1 X Y Z (listOf X Y Z s) i (lnI 1 Y Z ((listOf X Y Z s).getD i default)).toNat
      simp only [lnI] at hvr
      rw [← hM] at hvr
      refine cTrue (by kernel_rfl) ?_
      refine cSkip ?_
      refine kSeq ?_
      refine cSeq ?_
      refine cBlk ?_
      refine cSeq ?_
      refine cReg ?_
      refine rOp (v := vP 2 (i * 3)) (by kernel_rfl) (eIdxS (ad := ⟨2, 0, none⟩) (n := ((listOf X Y Z s).length)) (m := 0) (k := .i64) (c := ((i : Nat) : Int)) (j := i) (o := i * 3) (by kernel_rfl) (by kernel_rfl) ti31 ti74 (rfl) (by omega) (by exact Nat.zero_add _)) ?_
      refine rOp (v := .agg #[vI (((listOf X Y Z s).getD i default).x), vI (((listOf X Y Z s).getD i default).y), vI (((listOf X Y Z s).getD i default).z)]) (by kernel_rfl) (eLdA3 (ad := ⟨2, i * 3, none⟩) (r := ⟨a3s (listOf X Y Z s), 74, false, true⟩) (L := (listOf X Y Z s)) (j := i) (by kernel_rfl) (by kernel_rfl) rfl (by first | rfl | omega) (by omega) ti74) ?_
      refine segEnd [2, 3, 7, 9, 16, 17, 18] (T1 := (mkT 33 [(2, vI 1), (3, vP 0 0), (7, vS 1 (X * Z)), (9, vP 3 0), (16, vS 2 ((listOf X Y Z s).length)), (17, vN ((listOf X Y Z s).length)), (18, vN i)])) (H1 := [rB [vN X, vN Y, vN Z] 75, some ⟨nums M, 3, false, true⟩, some ⟨a3s (listOf X Y Z s), 74, false, true⟩, rB [vI (((listOf X Y Z s).getD i default).x), vI (((listOf X Y Z s).getD i default).y), vI (((listOf X Y Z s).getD i default).z)] 74]) (by kernel_rfl) ?_
      refine kSeq ?_
      refine cReg ?_
      refine segH 4 (T1 := (mkT 33 [(2, vI 1), (3, vP 0 0), (7, vS 1 (X * Z)), (9, vP 3 0), (16, vS 2 ((listOf X Y Z s).length)), (17, vN ((listOf X Y Z s).length)), (18, vN i), (22, vS 1 (X * Z)), (23, .agg #[vN X, vN Y, vN Z]), (24, .agg #[vI (((listOf X Y Z s).getD i default).x), vI (((listOf X Y Z s).getD i default).y), vI (((listOf X Y Z s).getD i default).z)]), (25, vI 1)])) (by kernel_rfl) ?_
      refine rCall (v := vI ((((listOf X Y Z s).getD i default).x) * (Z : Int) + (((listOf X Y Z s).getD i default).z))) (args := [.agg #[vN X, vN Y, vN Z], .agg #[vI (((listOf X Y Z s).getD i default).x), vI (((listOf X Y Z s).getD i default).y), vI (((listOf X Y Z s).getD i default).z)], vI 1]) (by kernel_rfl) rfl (by kernel_rfl) (Sound.lay0 [] (line1 X Y Z (((listOf X Y Z s).getD i default).x) (((listOf X Y Z s).getD i default).y) (((listOf X Y Z s).getD i default).z) (by first | assumption | omega | rfl | decide | exact HeapL.list _ _ _ _ | exact HeapL.nil _ _ _ | exact HeapL.all _ _ _ | (apply HeapL.lt64 <;> assumption) | (repeat' (first | assumption | apply or_lt64 | apply and_lt64 | apply andn_lt64 | apply pow_lt64 | (apply HeapL.lt64 <;> assumption)))) (by first | assumption | exact hhas)) trivial rfl trivial rfl (by first | rfl | simp [mpV, mpA, mpS, mpP, renId, shift]) rfl) ?_
      refine rOp (v := vP 1 (((((listOf X Y Z s).getD i default).x) * (Z : Int) + (((listOf X Y Z s).getD i default).z)).toNat)) (by kernel_rfl) (eIdxS (ad := ⟨1, 0, none⟩) (n := (X * Z)) (m := 0) (k := .i64) (c := ((((listOf X Y Z s).getD i default).x) * (Z : Int) + (((listOf X Y Z s).getD i default).z))) (j := (((((listOf X Y Z s).getD i default).x) * (Z : Int) + (((listOf X Y Z s).getD i default).z)).toNat)) (o := ((((listOf X Y Z s).getD i default).x) * (Z : Int) + (((listOf X Y Z s).getD i default).z)).toNat) (by kernel_rfl) (by kernel_rfl) ti22 ti3 (by omega) (by omega) (by simp)) ?_
      refine rOp (v := vI (M.getD (((((listOf X Y Z s).getD i default).x) * (Z : Int) + (((listOf X Y Z s).getD i default).z)).toNat) 0)) (by kernel_rfl) (eLdNum (ad := ⟨1, ((((listOf X Y Z s).getD i default).x) * (Z : Int) + (((listOf X Y Z s).getD i default).z)).toNat, none⟩) (r := ⟨nums M, 3, false, true⟩) (L := M) (j := (((((listOf X Y Z s).getD i default).x) * (Z : Int) + (((listOf X Y Z s).getD i default).z)).toNat)) (by kernel_rfl) (by kernel_rfl) rfl (by first | rfl | omega) (by omega) ti3 rfl) ?_
      refine rOp (v := vI ((M.getD (((((listOf X Y Z s).getD i default).x) * (Z : Int) + (((listOf X Y Z s).getD i default).z)).toNat) 0) + 1)) (by kernel_rfl) (eAdd (k := .i64) (a := (M.getD (((((listOf X Y Z s).getD i default).x) * (Z : Int) + (((listOf X Y Z s).getD i default).z)).toNat) 0)) (b := 1) (c := ((M.getD (((((listOf X Y Z s).getD i default).x) * (Z : Int) + (((listOf X Y Z s).getD i default).z)).toNat) 0) + 1)) (by kernel_rfl) (by kernel_rfl) (wr64 (by omega) (by omega) (by omega))) ?_
      refine rOp (v := vP 1 (((((listOf X Y Z s).getD i default).x) * (Z : Int) + (((listOf X Y Z s).getD i default).z)).toNat)) (by kernel_rfl) (eIdxS (ad := ⟨1, 0, none⟩) (n := (X * Z)) (m := 0) (k := .i64) (c := ((((listOf X Y Z s).getD i default).x) * (Z : Int) + (((listOf X Y Z s).getD i default).z))) (j := (((((listOf X Y Z s).getD i default).x) * (Z : Int) + (((listOf X Y Z s).getD i default).z)).toNat)) (o := ((((listOf X Y Z s).getD i default).x) * (Z : Int) + (((listOf X Y Z s).getD i default).z)).toNat) (by kernel_rfl) (by kernel_rfl) ti22 ti3 (by omega) (by omega) (by simp)) ?_
      refine rOp (v := .tuple #[]) (H' := [rB [vN X, vN Y, vN Z] 75, some ⟨nums (M.set (((((listOf X Y Z s).getD i default).x) * (Z : Int) + (((listOf X Y Z s).getD i default).z)).toNat) ((M.getD (((((listOf X Y Z s).getD i default).x) * (Z : Int) + (((listOf X Y Z s).getD i default).z)).toNat) 0) + 1)), 3, false, true⟩, some ⟨a3s (listOf X Y Z s), 74, false, true⟩, rB [vI (((listOf X Y Z s).getD i default).x), vI (((listOf X Y Z s).getD i default).y), vI (((listOf X Y Z s).getD i default).z)] 74]) (by kernel_rfl) (eStNum (b := 1) (o := (((((listOf X Y Z s).getD i default).x) * (Z : Int) + (((listOf X Y Z s).getD i default).z)).toNat)) (L := M) (n := ((M.getD (((((listOf X Y Z s).getD i default).x) * (Z : Int) + (((listOf X Y Z s).getD i default).z)).toNat) 0) + 1)) (e := 3) (bx := false) (by kernel_rfl) (by kernel_rfl) (by kernel_rfl) (by omega) ti3 rfl (by rfl)) ?_
      refine segEnd [2, 3, 7, 16, 17, 18] (T1 := (mkT 33 [(2, vI 1), (3, vP 0 0), (7, vS 1 (X * Z)), (16, vS 2 ((listOf X Y Z s).length)), (17, vN ((listOf X Y Z s).length)), (18, vN i)])) (H1 := [rB [vN X, vN Y, vN Z] 75, some ⟨nums (M.set (((((listOf X Y Z s).getD i default).x) * (Z : Int) + (((listOf X Y Z s).getD i default).z)).toNat) ((M.getD (((((listOf X Y Z s).getD i default).x) * (Z : Int) + (((listOf X Y Z s).getD i default).z)).toNat) 0) + 1)), 3, false, true⟩, some ⟨a3s (listOf X Y Z s), 74, false, true⟩, rB [vI (((listOf X Y Z s).getD i default).x), vI (((listOf X Y Z s).getD i default).y), vI (((listOf X Y Z s).getD i default).z)] 74]) (by kernel_rfl) ?_
      refine kBlk ?_
      refine kSeq ?_
      refine cReg ?_
      refine rOp (v := vN (i + 1)) (by kernel_rfl) (eAdd (k := .i64) (a := ((i : Nat) : Int)) (b := 1) (c := ((i + 1 : Nat) : Int)) (by kernel_rfl) (by kernel_rfl) (wr64 (by omega) (by omega) (by omega))) ?_
      refine segEndH [2, 3, 7, 16, 17, 18] (T1 := (mkT 33 [(2, vI 1), (3, vP 0 0), (7, vS 1 (X * Z)), (16, vS 2 ((listOf X Y Z s).length)), (17, vN ((listOf X Y Z s).length)), (18, vN (i + 1))])) (by kernel_rfl) ?_
      exact kLoop ((listOf X Y Z s).length - (i + 1)) (mkT 33 [(2, vI 1), (3, vP 0 0), (7, vS 1 (X * Z)), (16, vS 2 ((listOf X Y Z s).length)), (17, vN ((listOf X Y Z s).length)), (18, vN (i + 1))]) [rB [vN X, vN Y, vN Z] 75, some ⟨nums (M.set (((((listOf X Y Z s).getD i default).x) * (Z : Int) + (((listOf X Y Z s).getD i default).z)).toNat) ((M.getD (((((listOf X Y Z s).getD i default).x) * (Z : Int) + (((listOf X Y Z s).getD i default).z)).toNat) 0) + 1)), 3, false, true⟩, some ⟨a3s (listOf X Y Z s), 74, false, true⟩] (by omega) (wkDrop [2, 3, 7, 16, 17, 18] _ rfl rfl ((closedL ⟨clX rfl, ⟨clF (flatNums _ _ _ _), ⟨clF (flatA3 _ _ _ _), trivial⟩⟩⟩)) (by kernel_rfl) rfl) ⟨(i + 1), (M.set (((((listOf X Y Z s).getD i default).x) * (Z : Int) + (((listOf X Y Z s).getD i default).z)).toNat) ((M.getD (((((listOf X Y Z s).getD i default).x) * (Z : Int) + (((listOf X Y Z s).getD i default).z)).toNat) 0) + 1)), (by omega), (viewT_step 1 X Y Z (listOf X Y Z s) i hM rfl), rfl, rfl, rfl⟩

theorem view1 (X : Nat) (Y : Nat) (Z : Nat) (L : List A3) (hs : Sides X Y Z) (hL : HeapL X Y Z L) : Sound Try.prog 117 [.agg #[vN X, vN Y, vN Z], vU (setOf Y Z L), vI 1] [] (vS 0 (X * Z)) [some ⟨nums (viewT 1 X Y Z L L.length), 3, false, true⟩] := by
  have h := viewS1 X Y Z (setOf Y Z L) hs (hL.lt64 hs); rw [hL.eq hs] at h; exact h

set_option maxRecDepth 100000 in
set_option maxHeartbeats 4000000 in
theorem l4With1 (X : Nat) (Y : Nat) (Z : Nat) (L : List A3) (hs : Sides X Y Z) (hL : HeapL X Y Z L) : Sound Try.prog 83 [.agg #[vN X, vN Y, vN Z, vS 0 L.length], vI 1] [some ⟨a3s L, 74, false, false⟩] (vS 1 (Y + 1)) [some ⟨a3s L, 74, false, false⟩, some ⟨nums (withT 1 X Y Z L (X * Z)), 3, false, true⟩] := by
  refine sound_intro (C := cx) Try.func83 rfl (by kernel_rfl) fun hcl => ?_
  have hz := hs.size
  have hx0 := hs.x0
  have hx4 := hs.x4
  have hy0 := hs.y0
  have hy4 := hs.y4
  have hz0 := hs.z0
  have hz4 := hs.z4
  have hlen := hL.len
  have hlt := hL.lt64 hs
  have hxy : X * Y ≤ 4 * 4 := Nat.mul_le_mul (by omega) (by omega)
  have hxz : X * Z ≤ 4 * 4 := Nat.mul_le_mul (by omega) (by omega)
  have hyz : Y * Z ≤ 4 * 4 := Nat.mul_le_mul (by omega) (by omega)
  have hvl : (viewT 1 X Y Z L L.length).length = X * Z := viewT_length 1 X Y Z L L.length
  refine cSeq ?_
  refine cReg ?_
  refine segEnd [1, 2] (T1 := (mkT 32 [(1, vI 1), (2, vP 1 0)])) (H1 := [some ⟨a3s L, 74, false, false⟩, rB [vN X, vN Y, vN Z, vS 0 L.length] 40]) (by kernel_rfl) ?_
  refine kSeq ?_
  refine cSeq ?_
  refine cRegW (N := 4) [⟨[], [], [1]⟩, ⟨[], [], []⟩, ⟨[], [], [0]⟩, ⟨[], [], []⟩, ⟨[2], [], []⟩, ⟨[], [], [1]⟩, ⟨[], [], []⟩, ⟨[3], [], [0]⟩, ⟨[], [], []⟩, ⟨[], [], []⟩] 2 [2, 3] (by rfl) (by rfl) (by kernel_rfl) (by kernel_rfl) (by kernel_rfl) ⟨nmsF (flatA3 _ _ _ _), ⟨nmsX (by kernel_rfl), trivial⟩⟩ ?_
  refine segWH 2 (T1 := (mkT 32 [(1, vI 1), (2, vP 1 0), (8, .agg #[vN X, vN Y, vN Z, vS 0 L.length]), (9, vI 1)])) (by kernel_rfl) ?_
  refine rW (m := ⟨[], [], [0]⟩) (v := vN Y) rfl (by kernel_rfl) (stQ (args := [.agg #[vN X, vN Y, vN Z, vS 0 L.length], vI 1]) rfl (by kernel_rfl) (Any.lay0 [0] (l2Long1 ((X : Nat) : Int) ((Y : Nat) : Int) ((Z : Nat) : Int) L) ⟨rdF false (flatA3 _ _ _ _) rfl rfl, trivial⟩ rfl ⟨clF (flatA3 _ _ _ _), trivial⟩ rfl (by first | rfl | simp [mpV, mpA, mpS, mpP, renId, shift]) rfl) rfl (by kernel_rfl) (by kernel_rfl)) (by kernel_rfl) nr0 ?_
  refine rW (m := ⟨[], [], []⟩) (v := vN (Y + 1)) rfl (by kernel_rfl) (stId (eAdd (k := .i64) (a := ((Y : Nat) : Int)) (b := 1) (c := ((Y + 1 : Nat) : Int)) (by kernel_rfl) (by kernel_rfl) (wr64 (by omega) (by omega) (by omega))) rfl (by kernel_rfl) (by kernel_rfl) (by kernel_rfl)) (by kernel_rfl) nr0 ?_
  refine rW (m := ⟨[2], [], []⟩) (v := vS 2 (Y + 1)) rfl (by kernel_rfl) (stNew (i := 2) (v1 := vS 4 (Y + 1)) (r := ⟨nums (List.replicate (Y + 1) 0), 3, false, true⟩) (eMkNum (n := (Y + 1)) (k := .i64) (k2 := .i64) (by kernel_rfl) (by kernel_rfl) ti22 ti3 rfl rfl (by decide) (by omega)) rfl (by kernel_rfl) (by kernel_rfl) (by kernel_rfl) (by kernel_rfl) (nmF (flatNums _ _ _ _)) (clF (flatNums _ _ _ _))) (by kernel_rfl) (NRs.all ⟨nrOf (by rfl) (nmF (flatNums _ _ _ _)), trivial⟩) ?_
  refine segWH 2 (T1 := (mkT 32 [(1, vI 1), (2, vP 1 0), (8, .agg #[vN X, vN Y, vN Z, vS 0 L.length]), (9, vI 1), (10, vN Y), (11, vN (Y + 1)), (12, vS 2 (Y + 1)), (13, .agg #[vN X, vN Y, vN Z, vS 0 L.length]), (14, vI 1)])) (by kernel_rfl) ?_
  refine rW (m := ⟨[3], [], [0]⟩) (v := vS 3 (X * Z)) rfl (by kernel_rfl) (stN (i := 3) (E := [some ⟨nums (viewT 1 X Y Z L L.length), 3, false, true⟩]) (v1 := vS 4 (X * Z)) (args := [.agg #[vN X, vN Y, vN Z, vS 0 L.length], vI 1]) rfl (by kernel_rfl) (Any.lay (E := [some ⟨nums (viewT 1 X Y Z L L.length), 3, false, true⟩]) (N := 4) [0] (l2View1 X Y Z L (by first | assumption | omega | rfl | decide | exact HeapL.list _ _ _ _ | exact HeapL.nil _ _ _ | exact HeapL.all _ _ _ | (apply HeapL.lt64 <;> assumption) | (repeat' (first | assumption | apply or_lt64 | apply and_lt64 | apply andn_lt64 | apply pow_lt64 | (apply HeapL.lt64 <;> assumption)))) (by first | assumption | omega | rfl | decide | exact HeapL.list _ _ _ _ | exact HeapL.nil _ _ _ | exact HeapL.all _ _ _ | (apply HeapL.lt64 <;> assumption) | (repeat' (first | assumption | apply or_lt64 | apply and_lt64 | apply andn_lt64 | apply pow_lt64 | (apply HeapL.lt64 <;> assumption))))) ⟨rdF false (flatA3 _ _ _ _) rfl rfl, trivial⟩ rfl ⟨clF (flatA3 _ _ _ _), trivial⟩ rfl (by first | rfl | simp [mpV, mpA, mpS, mpP, renId, shift]) rfl ⟨enF (flatNums _ _ _ _) (Or.inl rfl), trivial⟩) rfl (by kernel_rfl) (by kernel_rfl) (by kernel_rfl) (by kernel_rfl) (FlatH.cons (flatNums _ _ _ _) FlatH.nil)) (by kernel_rfl) (NRs.all ⟨nrOf (by rfl) (nmF (flatNums _ _ _ _)), trivial⟩) ?_
  refine segEndW [5, 6] (T1 := (mkT 32 [(5, vS 2 (Y + 1)), (6, vS 3 (X * Z))])) (H1 := [some ⟨a3s L, 74, false, false⟩, rB [vN X, vN Y, vN Z, vS 0 L.length] 40, some ⟨nums (List.replicate (Y + 1) 0), 3, false, true⟩, some ⟨nums (viewT 1 X Y Z L L.length), 3, false, true⟩]) (by kernel_rfl) ?_
  refine kSeq ?_
  refine cSeq ?_
  refine cSeq ?_
  refine cReg ?_
  refine segEndH [5, 6, 7] (T1 := (mkT 32 [(5, vS 2 (Y + 1)), (6, vS 3 (X * Z)), (7, vI 0)])) (by kernel_rfl) ?_
  refine kSeq ?_
  refine cBlk ?_
  -- loop
  refine cLoop (fun mm T H => ∃ i : Nat, ∃ M : List Int, (i ≤ X * Z) ∧ (M = withT 1 X Y Z L i) ∧ mm = X * Z - i ∧ T = (mkT 32 [(5, vS 2 (Y + 1)), (6, vS 3 (X * Z)), (7, vN i)]) ∧ H = [some ⟨a3s L, 74, false, false⟩, rB [vN X, vN Y, vN Z, vS 0 L.length] 40, some ⟨nums M, 3, false, true⟩, some ⟨nums (viewT 1 X Y Z L L.length), 3, false, true⟩]) (X * Z - 0) (mkT 32 [(5, vS 2 (Y + 1)), (6, vS 3 (X * Z)), (7, vI 0)]) [some ⟨a3s L, 74, false, false⟩, rB [vN X, vN Y, vN Z, vS 0 L.length] 40, some ⟨nums (List.replicate (Y + 1) 0), 3, false, true⟩, some ⟨nums (viewT 1 X Y Z L L.length), 3, false, true⟩] (wkSame [5, 6, 7] (by kernel_rfl)) ?_ ?_
  · exact ⟨0, (List.replicate (Y + 1) 0), (Nat.zero_le _), (rfl), rfl, rfl, rfl⟩
  · rintro _ _ _ ⟨i, M, hi, hM, rfl, rfl, rfl⟩
    have hml : M.length = Y + 1 := (by rw [hM]; exact withT_length 1 X Y Z L i)
    refine cSeq ?_
    refine cSeq ?_
    refine cReg ?_
    refine segEndH [5, 6, 7, 19] (T1 := (mkT 32 [(5, vS 2 (Y + 1)), (6, vS 3 (X * Z)), (7, vN i), (19, .bool (decide (((i : Nat) : Int) < ((X * Z : Nat) : Int))))])) (by kernel_rfl) ?_
    refine kSeq ?_
    cases h1 : (decide (((i : Nat) : Int) < ((X * Z : Nat) : Int)) : Bool)
    ·
      (try simp only [Bool.not_eq_true', Bool.not_eq_false', decide_eq_true_eq, decide_eq_false_iff_not, beq_iff_eq, bne_iff_ne, beq_eq_false_iff_ne, bne_eq_false_iff_eq, ne_eq, Decidable.not_not, Bool.and_eq_true, Bool.and_eq_false_imp, Bool.or_eq_true, Bool.or_eq_false_iff, Bool.not_eq_true, Int.not_lt, Int.not_le, ge_iff_le, gt_iff_lt] at h1)
      refine cFalse (by kernel_rfl) ?_
      refine cExit ?_
      refine kSeqE ?_
      refine kLoopE ?_
      refine kBlkHit ?_
      refine kSeq ?_
      refine cSeq ?_
      refine cReg ?_
      refine segEndH [4] (T1 := (mkT 32 [(4, vS 2 (Y + 1))])) (by kernel_rfl) ?_
      refine kSeq ?_
      refine cRet ?_
      -- end
      have he0 : (M : List Int) = (withT 1 X Y Z L (X * Z)) := by first | omega | (rw [hM, show i = X * Z by omega])
      refine endCast (v1 := vS 1 (Y + 1)) (H1 := [some ⟨a3s L, 74, false, false⟩, some ⟨nums M, 3, false, true⟩]) (by first | rfl | ((try rw [← he0]); done) | (simp only [← he0]; done)) (by first | rfl | ((try rw [← he0]); done) | (simp only [← he0]; done)) ?_
      exact endF (Or.inr rfl) (l := [vS 2 (Y + 1)]) [0, 2] (by kernel_rfl) (by first | rfl | simp [packR, mpV, mpA, mpS, mpP, renId]) ⟨rrF (flatA3 _ _ _ _) rfl, ⟨rrF (flatNums _ _ _ _) rfl, trivial⟩⟩ rfl rfl
    ·
      (try simp only [Bool.not_eq_true', Bool.not_eq_false', decide_eq_true_eq, decide_eq_false_iff_not, beq_iff_eq, bne_iff_ne, beq_eq_false_iff_ne, bne_eq_false_iff_eq, ne_eq, Decidable.not_not, Bool.and_eq_true, Bool.and_eq_false_imp, Bool.or_eq_true, Bool.or_eq_false_iff, Bool.not_eq_true, Int.not_lt, Int.not_le, ge_iff_le, gt_iff_lt] at h1)
      have hv := view_le (d := 1) (k := i) (by omega) hs hL (by omega)
      simp only [sdN] at hv
      have hwr := withT_rng 1 X Y Z L i ((viewT 1 X Y Z L L.length).getD i 0).toNat
      rw [← hM] at hwr
      refine cTrue (by kernel_rfl) ?_
      refine cSkip ?_
      refine kSeq ?_
      refine cSeq ?_
      refine cBlk ?_
      refine cReg ?_
      refine segH 3 (T1 := (mkT 32 [(5, vS 2 (Y + 1)), (6, vS 3 (X * Z)), (7, vN i), (19, .bool true), (22, vS 2 (Y + 1)), (23, vS 3 (X * Z)), (24, vN i)])) (by kernel_rfl) ?_
      refine rOp (v := vP 3 i) (by kernel_rfl) (eIdxS (ad := ⟨3, 0, none⟩) (n := (X * Z)) (m := 0) (k := .i64) (c := ((i : Nat) : Int)) (j := i) (o := i) (by kernel_rfl) (by kernel_rfl) ti22 ti3 (rfl) (by omega) (by simp)) ?_
      refine rOp (v := vI ((viewT 1 X Y Z L L.length).getD i 0)) (by kernel_rfl) (eLdNum (ad := ⟨3, i, none⟩) (r := ⟨nums (viewT 1 X Y Z L L.length), 3, false, true⟩) (L := (viewT 1 X Y Z L L.length)) (j := i) (by kernel_rfl) (by kernel_rfl) rfl (by first | rfl | omega) (by omega) ti3 rfl) ?_
      refine rOp (v := vP 2 ((((viewT 1 X Y Z L L.length).getD i 0)).toNat)) (by kernel_rfl) (eIdxS (ad := ⟨2, 0, none⟩) (n := (Y + 1)) (m := 0) (k := .i64) (c := ((viewT 1 X Y Z L L.length).getD i 0)) (j := ((((viewT 1 X Y Z L L.length).getD i 0)).toNat)) (o := (((viewT 1 X Y Z L L.length).getD i 0)).toNat) (by kernel_rfl) (by kernel_rfl) ti22 ti3 (by omega) (by omega) (by simp)) ?_
      refine rOp (v := vI (M.getD ((((viewT 1 X Y Z L L.length).getD i 0)).toNat) 0)) (by kernel_rfl) (eLdNum (ad := ⟨2, (((viewT 1 X Y Z L L.length).getD i 0)).toNat, none⟩) (r := ⟨nums M, 3, false, true⟩) (L := M) (j := ((((viewT 1 X Y Z L L.length).getD i 0)).toNat)) (by kernel_rfl) (by kernel_rfl) rfl (by first | rfl | omega) (by omega) ti3 rfl) ?_
      refine rOp (v := vI ((M.getD ((((viewT 1 X Y Z L L.length).getD i 0)).toNat) 0) + 1)) (by kernel_rfl) (eAdd (k := .i64) (a := (M.getD ((((viewT 1 X Y Z L L.length).getD i 0)).toNat) 0)) (b := 1) (c := ((M.getD ((((viewT 1 X Y Z L L.length).getD i 0)).toNat) 0) + 1)) (by kernel_rfl) (by kernel_rfl) (wr64 (by omega) (by omega) (by omega))) ?_
      refine rOp (v := vP 2 ((((viewT 1 X Y Z L L.length).getD i 0)).toNat)) (by kernel_rfl) (eIdxS (ad := ⟨2, 0, none⟩) (n := (Y + 1)) (m := 0) (k := .i64) (c := ((viewT 1 X Y Z L L.length).getD i 0)) (j := ((((viewT 1 X Y Z L L.length).getD i 0)).toNat)) (o := (((viewT 1 X Y Z L L.length).getD i 0)).toNat) (by kernel_rfl) (by kernel_rfl) ti22 ti3 (by omega) (by omega) (by simp)) ?_
      refine rOp (v := .tuple #[]) (H' := [some ⟨a3s L, 74, false, false⟩, rB [vN X, vN Y, vN Z, vS 0 L.length] 40, some ⟨nums (M.set ((((viewT 1 X Y Z L L.length).getD i 0)).toNat) ((M.getD ((((viewT 1 X Y Z L L.length).getD i 0)).toNat) 0) + 1)), 3, false, true⟩, some ⟨nums (viewT 1 X Y Z L L.length), 3, false, true⟩]) (by kernel_rfl) (eStNum (b := 2) (o := ((((viewT 1 X Y Z L L.length).getD i 0)).toNat)) (L := M) (n := ((M.getD ((((viewT 1 X Y Z L L.length).getD i 0)).toNat) 0) + 1)) (e := 3) (bx := false) (by kernel_rfl) (by kernel_rfl) (by kernel_rfl) (by omega) ti3 rfl (by rfl)) ?_
      refine segEnd [5, 6, 7] (T1 := (mkT 32 [(5, vS 2 (Y + 1)), (6, vS 3 (X * Z)), (7, vN i)])) (H1 := [some ⟨a3s L, 74, false, false⟩, rB [vN X, vN Y, vN Z, vS 0 L.length] 40, some ⟨nums (M.set ((((viewT 1 X Y Z L L.length).getD i 0)).toNat) ((M.getD ((((viewT 1 X Y Z L L.length).getD i 0)).toNat) 0) + 1)), 3, false, true⟩, some ⟨nums (viewT 1 X Y Z L L.length), 3, false, true⟩]) (by kernel_rfl) ?_
      refine kBlk ?_
      refine kSeq ?_
      refine cReg ?_
      refine segH 1 (T1 := (mkT 32 [(5, vS 2 (Y + 1)), (6, vS 3 (X * Z)), (7, vN i), (20, vN i)])) (by kernel_rfl) ?_
      refine rOp (v := vN (i + 1)) (by kernel_rfl) (eAdd (k := .i64) (a := ((i : Nat) : Int)) (b := 1) (c := ((i + 1 : Nat) : Int)) (by kernel_rfl) (by kernel_rfl) (wr64 (by omega) (by omega) (by omega))) ?_
      refine segEndH [5, 6, 7] (T1 := (mkT 32 [(5, vS 2 (Y + 1)), (6, vS 3 (X * Z)), (7, vN (i + 1))])) (by kernel_rfl) ?_
      exact kLoop (X * Z - (i + 1)) (mkT 32 [(5, vS 2 (Y + 1)), (6, vS 3 (X * Z)), (7, vN (i + 1))]) [some ⟨a3s L, 74, false, false⟩, rB [vN X, vN Y, vN Z, vS 0 L.length] 40, some ⟨nums (M.set ((((viewT 1 X Y Z L L.length).getD i 0)).toNat) ((M.getD ((((viewT 1 X Y Z L L.length).getD i 0)).toNat) 0) + 1)), 3, false, true⟩, some ⟨nums (viewT 1 X Y Z L L.length), 3, false, true⟩] (by omega) (wkSame [5, 6, 7] (by kernel_rfl)) ⟨(i + 1), (M.set ((((viewT 1 X Y Z L L.length).getD i 0)).toNat) ((M.getD ((((viewT 1 X Y Z L L.length).getD i 0)).toNat) 0) + 1)), (by omega), (withT_step 1 X Y Z L i hM), rfl, rfl, rfl⟩

set_option maxRecDepth 100000 in
set_option maxHeartbeats 4000000 in
theorem linesWith1 (X : Nat) (Y : Nat) (Z : Nat) (L : List A3) (hs : Sides X Y Z) (hL : HeapL X Y Z L) : Sound Try.prog 87 [.agg #[vN X, vN Y, vN Z, vS 0 L.length], vI 1] [some ⟨a3s L, 74, false, false⟩] (vS 1 (Y + 1)) [some ⟨a3s L, 74, false, false⟩, some ⟨nums (withT 1 X Y Z L (X * Z)), 3, false, true⟩] := by
  refine sound_intro (C := cx) Try.func87 rfl (by kernel_rfl) fun hcl => ?_
  have hz := hs.size
  have hx0 := hs.x0
  have hx4 := hs.x4
  have hy0 := hs.y0
  have hy4 := hs.y4
  have hz0 := hs.z0
  have hz4 := hs.z4
  have hlen := hL.len
  have hlt := hL.lt64 hs
  have hxy : X * Y ≤ 4 * 4 := Nat.mul_le_mul (by omega) (by omega)
  have hxz : X * Z ≤ 4 * 4 := Nat.mul_le_mul (by omega) (by omega)
  have hyz : Y * Z ≤ 4 * 4 := Nat.mul_le_mul (by omega) (by omega)
  have hvl : (viewT 1 X Y Z L L.length).length = X * Z := viewT_length 1 X Y Z L L.length
  refine cSeq ?_
  refine cReg ?_
  refine segEnd [1, 2] (T1 := (mkT 33 [(1, vI 1), (2, vP 1 0)])) (H1 := [some ⟨a3s L, 74, false, false⟩, rB [vN X, vN Y, vN Z, vS 0 L.length] 40]) (by kernel_rfl) ?_
  refine kSeq ?_
  refine cSeq ?_
  refine cReg ?_
  refine segH 1 (T1 := (mkT 33 [(1, vI 1), (2, vP 1 0), (8, .agg #[vN X, vN Y, vN Z, vS 0 L.length])])) (by kernel_rfl) ?_
  refine rCall (v := .agg #[vN X, vN Y, vN Z]) (args := [.agg #[vN X, vN Y, vN Z, vS 0 L.length]]) (by kernel_rfl) rfl (by kernel_rfl) (Sound.lay0 [0] (boxB ((X : Nat) : Int) ((Y : Nat) : Int) ((Z : Nat) : Int) L) ⟨rdF false (flatA3 _ _ _ _) rfl rfl, trivial⟩ rfl ⟨clF (flatA3 _ _ _ _), trivial⟩ rfl (by first | rfl | simp [mpV, mpA, mpS, mpP, renId, shift]) (by first | rfl | simp [mpV, mpA, mpS, mpP, renId, shift])) ?_
  refine segH 2 (T1 := (mkT 33 [(1, vI 1), (2, vP 1 0), (8, .agg #[vN X, vN Y, vN Z, vS 0 L.length]), (9, .agg #[vN X, vN Y, vN Z]), (10, vI 1), (11, vN Y)])) (by kernel_rfl) ?_
  refine rOp (v := vN (Y + 1)) (by kernel_rfl) (eAdd (k := .i64) (a := ((Y : Nat) : Int)) (b := 1) (c := ((Y + 1 : Nat) : Int)) (by kernel_rfl) (by kernel_rfl) (wr64 (by omega) (by omega) (by omega))) ?_
  refine rOp (v := vS 2 (Y + 1)) (H' := [some ⟨a3s L, 74, false, false⟩, rB [vN X, vN Y, vN Z, vS 0 L.length] 40, some ⟨nums (List.replicate (Y + 1) 0), 3, false, true⟩]) (by kernel_rfl) (eMkNum (n := (Y + 1)) (k := .i64) (k2 := .i64) (by kernel_rfl) (by kernel_rfl) ti22 ti3 rfl rfl (by decide) (by omega)) ?_
  refine segEnd [1, 2, 5] (T1 := (mkT 33 [(1, vI 1), (2, vP 1 0), (5, vS 2 (Y + 1))])) (H1 := [some ⟨a3s L, 74, false, false⟩, rB [vN X, vN Y, vN Z, vS 0 L.length] 40, some ⟨nums (List.replicate (Y + 1) 0), 3, false, true⟩]) (by kernel_rfl) ?_
  refine kSeq ?_
  refine cSeq ?_
  refine cSeq ?_
  refine cRegW (N := 4) [⟨[], [], [1]⟩, ⟨[], [], [0]⟩, ⟨[], [], [1]⟩, ⟨[], [], [0]⟩, ⟨[], [], []⟩, ⟨[3], [], []⟩, ⟨[], [], [3]⟩, ⟨[], [], []⟩] 1 [3] (by rfl) (by rfl) (by kernel_rfl) (by kernel_rfl) (by kernel_rfl) ⟨nmsF (flatA3 _ _ _ _), ⟨nmsX (by kernel_rfl), ⟨nmsF (flatNums _ _ _ _), trivial⟩⟩⟩ ?_
  refine segWH 1 (T1 := (mkT 33 [(1, vI 1), (2, vP 1 0), (5, vS 2 (Y + 1)), (14, .agg #[vN X, vN Y, vN Z, vS 0 L.length])])) (by kernel_rfl) ?_
  refine rW (m := ⟨[], [], [0]⟩) (v := .agg #[vN X, vN Y, vN Z]) rfl (by kernel_rfl) (stQ (args := [.agg #[vN X, vN Y, vN Z, vS 0 L.length]]) rfl (by kernel_rfl) (Any.lay0 [0] (boxB ((X : Nat) : Int) ((Y : Nat) : Int) ((Z : Nat) : Int) L) ⟨rdF false (flatA3 _ _ _ _) rfl rfl, trivial⟩ rfl ⟨clF (flatA3 _ _ _ _), trivial⟩ rfl (by first | rfl | simp [mpV, mpA, mpS, mpP, renId, shift]) (by first | rfl | simp [mpV, mpA, mpS, mpP, renId, shift])) rfl (by kernel_rfl) (by kernel_rfl)) (by kernel_rfl) nr0 ?_
  refine segWH 1 (T1 := (mkT 33 [(1, vI 1), (2, vP 1 0), (5, vS 2 (Y + 1)), (14, .agg #[vN X, vN Y, vN Z, vS 0 L.length]), (15, .agg #[vN X, vN Y, vN Z]), (16, .agg #[vN X, vN Y, vN Z, vS 0 L.length])])) (by kernel_rfl) ?_
  refine rW (m := ⟨[], [], [0]⟩) (v := vU (setOf Y Z L)) rfl (by kernel_rfl) (stQ (args := [.agg #[vN X, vN Y, vN Z, vS 0 L.length]]) rfl (by kernel_rfl) (Any.lay0 [0] (cubesB X Y Z L (by first | assumption | omega | rfl | decide | exact HeapL.list _ _ _ _ | exact HeapL.nil _ _ _ | exact HeapL.all _ _ _ | (apply HeapL.lt64 <;> assumption) | (repeat' (first | assumption | apply or_lt64 | apply and_lt64 | apply andn_lt64 | apply pow_lt64 | (apply HeapL.lt64 <;> assumption)))) (by first | assumption | omega | rfl | decide | exact HeapL.list _ _ _ _ | exact HeapL.nil _ _ _ | exact HeapL.all _ _ _ | (apply HeapL.lt64 <;> assumption) | (repeat' (first | assumption | apply or_lt64 | apply and_lt64 | apply andn_lt64 | apply pow_lt64 | (apply HeapL.lt64 <;> assumption))))) ⟨rdF false (flatA3 _ _ _ _) rfl rfl, trivial⟩ rfl ⟨clF (flatA3 _ _ _ _), trivial⟩ rfl (by first | rfl | simp [mpV, mpA, mpS, mpP, renId, shift]) rfl) rfl (by kernel_rfl) (by kernel_rfl)) (by kernel_rfl) nr0 ?_
  refine segWH 1 (T1 := (mkT 33 [(1, vI 1), (2, vP 1 0), (5, vS 2 (Y + 1)), (14, .agg #[vN X, vN Y, vN Z, vS 0 L.length]), (15, .agg #[vN X, vN Y, vN Z]), (16, .agg #[vN X, vN Y, vN Z, vS 0 L.length]), (17, vU (setOf Y Z L)), (18, vI 1)])) (by kernel_rfl) ?_
  refine rW (m := ⟨[3], [], []⟩) (v := vS 3 (X * Z)) rfl (by kernel_rfl) (stN (i := 3) (E := [some ⟨nums (viewT 1 X Y Z L L.length), 3, false, true⟩]) (v1 := vS 4 (X * Z)) (args := [.agg #[vN X, vN Y, vN Z], vU (setOf Y Z L), vI 1]) rfl (by kernel_rfl) (Any.lay (E := [some ⟨nums (viewT 1 X Y Z L L.length), 3, false, true⟩]) (N := 4) [] (view1 X Y Z L (by first | assumption | omega | rfl | decide | exact HeapL.list _ _ _ _ | exact HeapL.nil _ _ _ | exact HeapL.all _ _ _ | (apply HeapL.lt64 <;> assumption) | (repeat' (first | assumption | apply or_lt64 | apply and_lt64 | apply andn_lt64 | apply pow_lt64 | (apply HeapL.lt64 <;> assumption)))) (by first | assumption | omega | rfl | decide | exact HeapL.list _ _ _ _ | exact HeapL.nil _ _ _ | exact HeapL.all _ _ _ | (apply HeapL.lt64 <;> assumption) | (repeat' (first | assumption | apply or_lt64 | apply and_lt64 | apply andn_lt64 | apply pow_lt64 | (apply HeapL.lt64 <;> assumption))))) trivial rfl trivial rfl (by first | rfl | simp [mpV, mpA, mpS, mpP, renId, shift]) rfl ⟨enF (flatNums _ _ _ _) (Or.inl rfl), trivial⟩) rfl (by kernel_rfl) (by kernel_rfl) (by kernel_rfl) (by kernel_rfl) (FlatH.cons (flatNums _ _ _ _) FlatH.nil)) (by kernel_rfl) (NRs.all ⟨nrOf (by rfl) (nmF (flatNums _ _ _ _)), trivial⟩) ?_
  refine segEndW [5, 19, 20, 21] (T1 := (mkT 33 [(5, vS 2 (Y + 1)), (19, vS 3 (X * Z)), (20, vN (X * Z)), (21, vI 0)])) (H1 := [some ⟨a3s L, 74, false, false⟩, rB [vN X, vN Y, vN Z, vS 0 L.length] 40, some ⟨nums (List.replicate (Y + 1) 0), 3, false, true⟩, some ⟨nums (viewT 1 X Y Z L L.length), 3, false, true⟩]) (by kernel_rfl) ?_
  refine kSeq ?_
  refine cBlk ?_
  -- loop
  refine cLoop (fun mm T H => ∃ i : Nat, ∃ M : List Int, (i ≤ X * Z) ∧ (M = withT 1 X Y Z L i) ∧ mm = X * Z - i ∧ T = (mkT 33 [(5, vS 2 (Y + 1)), (19, vS 3 (X * Z)), (20, vN (X * Z)), (21, vN i)]) ∧ H = [some ⟨a3s L, 74, false, false⟩, rB [vN X, vN Y, vN Z, vS 0 L.length] 40, some ⟨nums M, 3, false, true⟩, some ⟨nums (viewT 1 X Y Z L L.length), 3, false, true⟩]) (X * Z - 0) (mkT 33 [(5, vS 2 (Y + 1)), (19, vS 3 (X * Z)), (20, vN (X * Z)), (21, vI 0)]) [some ⟨a3s L, 74, false, false⟩, rB [vN X, vN Y, vN Z, vS 0 L.length] 40, some ⟨nums (List.replicate (Y + 1) 0), 3, false, true⟩, some ⟨nums (viewT 1 X Y Z L L.length), 3, false, true⟩] (wkSame [5, 19, 20, 21] (by kernel_rfl)) ?_ ?_
  · exact ⟨0, (List.replicate (Y + 1) 0), (Nat.zero_le _), (rfl), rfl, rfl, rfl⟩
  · rintro _ _ _ ⟨i, M, hi, hM, rfl, rfl, rfl⟩
    have hml : M.length = Y + 1 := (by rw [hM]; exact withT_length 1 X Y Z L i)
    refine cSeq ?_
    refine cReg ?_
    refine segEndH [5, 19, 20, 21, 22] (T1 := (mkT 33 [(5, vS 2 (Y + 1)), (19, vS 3 (X * Z)), (20, vN (X * Z)), (21, vN i), (22, .bool (decide (((i : Nat) : Int) < ((X * Z : Nat) : Int))))])) (by kernel_rfl) ?_
    refine kSeq ?_
    refine cSeq ?_
    cases h1 : (decide (((i : Nat) : Int) < ((X * Z : Nat) : Int)) : Bool)
    ·
      (try simp only [Bool.not_eq_true', Bool.not_eq_false', decide_eq_true_eq, decide_eq_false_iff_not, beq_iff_eq, bne_iff_ne, beq_eq_false_iff_ne, bne_eq_false_iff_eq, ne_eq, Decidable.not_not, Bool.and_eq_true, Bool.and_eq_false_imp, Bool.or_eq_true, Bool.or_eq_false_iff, Bool.not_eq_true, Int.not_lt, Int.not_le, ge_iff_le, gt_iff_lt] at h1)
      refine cFalse (by kernel_rfl) ?_
      refine cExit ?_
      refine kSeqE ?_
      refine kLoopE ?_
      refine kBlkHit ?_
      refine kSeq ?_
      refine cSeq ?_
      refine cReg ?_
      refine segEndH [4] (T1 := (mkT 33 [(4, vS 2 (Y + 1))])) (by kernel_rfl) ?_
      refine kSeq ?_
      refine cRet ?_
      -- end
      have he0 : (M : List Int) = (withT 1 X Y Z L (X * Z)) := by first | omega | (rw [hM, show i = X * Z by omega])
      refine endCast (v1 := vS 1 (Y + 1)) (H1 := [some ⟨a3s L, 74, false, false⟩, some ⟨nums M, 3, false, true⟩]) (by first | rfl | ((try rw [← he0]); done) | (simp only [← he0]; done)) (by first | rfl | ((try rw [← he0]); done) | (simp only [← he0]; done)) ?_
      exact endF (Or.inr rfl) (l := [vS 2 (Y + 1)]) [0, 2] (by kernel_rfl) (by first | rfl | simp [packR, mpV, mpA, mpS, mpP, renId]) ⟨rrF (flatA3 _ _ _ _) rfl, ⟨rrF (flatNums _ _ _ _) rfl, trivial⟩⟩ rfl rfl
    ·
      (try simp only [Bool.not_eq_true', Bool.not_eq_false', decide_eq_true_eq, decide_eq_false_iff_not, beq_iff_eq, bne_iff_ne, beq_eq_false_iff_ne, bne_eq_false_iff_eq, ne_eq, Decidable.not_not, Bool.and_eq_true, Bool.and_eq_false_imp, Bool.or_eq_true, Bool.or_eq_false_iff, Bool.not_eq_true, Int.not_lt, Int.not_le, ge_iff_le, gt_iff_lt] at h1)
      have hv := view_le (d := 1) (k := i) (by omega) hs hL (by omega)
      simp only [sdN] at hv
      have hwr := withT_rng 1 X Y Z L i ((viewT 1 X Y Z L L.length).getD i 0).toNat
      rw [← hM] at hwr
      refine cTrue (by kernel_rfl) ?_
      refine cSkip ?_
      refine kSeq ?_
      refine cSeq ?_
      refine cBlk ?_
      refine cSeq ?_
      refine cReg ?_
      refine rOp (v := vP 3 i) (by kernel_rfl) (eIdxS (ad := ⟨3, 0, none⟩) (n := (X * Z)) (m := 0) (k := .i64) (c := ((i : Nat) : Int)) (j := i) (o := i) (by kernel_rfl) (by kernel_rfl) ti22 ti3 (rfl) (by omega) (by simp)) ?_
      refine rOp (v := vI ((viewT 1 X Y Z L L.length).getD i 0)) (by kernel_rfl) (eLdNum (ad := ⟨3, i, none⟩) (r := ⟨nums (viewT 1 X Y Z L L.length), 3, false, true⟩) (L := (viewT 1 X Y Z L L.length)) (j := i) (by kernel_rfl) (by kernel_rfl) rfl (by first | rfl | omega) (by omega) ti3 rfl) ?_
      refine segEndH [5, 7, 19, 20, 21] (T1 := (mkT 33 [(5, vS 2 (Y + 1)), (7, vI ((viewT 1 X Y Z L L.length).getD i 0)), (19, vS 3 (X * Z)), (20, vN (X * Z)), (21, vN i)])) (by kernel_rfl) ?_
      refine kSeq ?_
      refine cReg ?_
      refine segH 2 (T1 := (mkT 33 [(5, vS 2 (Y + 1)), (7, vI ((viewT 1 X Y Z L L.length).getD i 0)), (19, vS 3 (X * Z)), (20, vN (X * Z)), (21, vN i), (25, vS 2 (Y + 1)), (26, vI ((viewT 1 X Y Z L L.length).getD i 0))])) (by kernel_rfl) ?_
      refine rOp (v := vP 2 ((((viewT 1 X Y Z L L.length).getD i 0)).toNat)) (by kernel_rfl) (eIdxS (ad := ⟨2, 0, none⟩) (n := (Y + 1)) (m := 0) (k := .i64) (c := ((viewT 1 X Y Z L L.length).getD i 0)) (j := ((((viewT 1 X Y Z L L.length).getD i 0)).toNat)) (o := (((viewT 1 X Y Z L L.length).getD i 0)).toNat) (by kernel_rfl) (by kernel_rfl) ti22 ti3 (by omega) (by omega) (by simp)) ?_
      refine rOp (v := vI (M.getD ((((viewT 1 X Y Z L L.length).getD i 0)).toNat) 0)) (by kernel_rfl) (eLdNum (ad := ⟨2, (((viewT 1 X Y Z L L.length).getD i 0)).toNat, none⟩) (r := ⟨nums M, 3, false, true⟩) (L := M) (j := ((((viewT 1 X Y Z L L.length).getD i 0)).toNat)) (by kernel_rfl) (by kernel_rfl) rfl (by first | rfl | omega) (by omega) ti3 rfl) ?_
      refine rOp (v := vI ((M.getD ((((viewT 1 X Y Z L L.length).getD i 0)).toNat) 0) + 1)) (by kernel_rfl) (eAdd (k := .i64) (a := (M.getD ((((viewT 1 X Y Z L L.length).getD i 0)).toNat) 0)) (b := 1) (c := ((M.getD ((((viewT 1 X Y Z L L.length).getD i 0)).toNat) 0) + 1)) (by kernel_rfl) (by kernel_rfl) (wr64 (by omega) (by omega) (by omega))) ?_
      refine rOp (v := vP 2 ((((viewT 1 X Y Z L L.length).getD i 0)).toNat)) (by kernel_rfl) (eIdxS (ad := ⟨2, 0, none⟩) (n := (Y + 1)) (m := 0) (k := .i64) (c := ((viewT 1 X Y Z L L.length).getD i 0)) (j := ((((viewT 1 X Y Z L L.length).getD i 0)).toNat)) (o := (((viewT 1 X Y Z L L.length).getD i 0)).toNat) (by kernel_rfl) (by kernel_rfl) ti22 ti3 (by omega) (by omega) (by simp)) ?_
      refine rOp (v := .tuple #[]) (H' := [some ⟨a3s L, 74, false, false⟩, rB [vN X, vN Y, vN Z, vS 0 L.length] 40, some ⟨nums (M.set ((((viewT 1 X Y Z L L.length).getD i 0)).toNat) ((M.getD ((((viewT 1 X Y Z L L.length).getD i 0)).toNat) 0) + 1)), 3, false, true⟩, some ⟨nums (viewT 1 X Y Z L L.length), 3, false, true⟩]) (by kernel_rfl) (eStNum (b := 2) (o := ((((viewT 1 X Y Z L L.length).getD i 0)).toNat)) (L := M) (n := ((M.getD ((((viewT 1 X Y Z L L.length).getD i 0)).toNat) 0) + 1)) (e := 3) (bx := false) (by kernel_rfl) (by kernel_rfl) (by kernel_rfl) (by omega) ti3 rfl (by rfl)) ?_
      refine segEnd [5, 19, 20, 21] (T1 := (mkT 33 [(5, vS 2 (Y + 1)), (19, vS 3 (X * Z)), (20, vN (X * Z)), (21, vN i)])) (H1 := [some ⟨a3s L, 74, false, false⟩, rB [vN X, vN Y, vN Z, vS 0 L.length] 40, some ⟨nums (M.set ((((viewT 1 X Y Z L L.length).getD i 0)).toNat) ((M.getD ((((viewT 1 X Y Z L L.length).getD i 0)).toNat) 0) + 1)), 3, false, true⟩, some ⟨nums (viewT 1 X Y Z L L.length), 3, false, true⟩]) (by kernel_rfl) ?_
      refine kBlk ?_
      refine kSeq ?_
      refine cReg ?_
      refine rOp (v := vN (i + 1)) (by kernel_rfl) (eAdd (k := .i64) (a := ((i : Nat) : Int)) (b := 1) (c := ((i + 1 : Nat) : Int)) (by kernel_rfl) (by kernel_rfl) (wr64 (by omega) (by omega) (by omega))) ?_
      refine segEndH [5, 19, 20, 21] (T1 := (mkT 33 [(5, vS 2 (Y + 1)), (19, vS 3 (X * Z)), (20, vN (X * Z)), (21, vN (i + 1))])) (by kernel_rfl) ?_
      exact kLoop (X * Z - (i + 1)) (mkT 33 [(5, vS 2 (Y + 1)), (19, vS 3 (X * Z)), (20, vN (X * Z)), (21, vN (i + 1))]) [some ⟨a3s L, 74, false, false⟩, rB [vN X, vN Y, vN Z, vS 0 L.length] 40, some ⟨nums (M.set ((((viewT 1 X Y Z L L.length).getD i 0)).toNat) ((M.getD ((((viewT 1 X Y Z L L.length).getD i 0)).toNat) 0) + 1)), 3, false, true⟩, some ⟨nums (viewT 1 X Y Z L L.length), 3, false, true⟩] (by omega) (wkSame [5, 19, 20, 21] (by kernel_rfl)) ⟨(i + 1), (M.set ((((viewT 1 X Y Z L L.length).getD i 0)).toNat) ((M.getD ((((viewT 1 X Y Z L L.length).getD i 0)).toNat) 0) + 1)), (by omega), (withT_step 1 X Y Z L i hM), rfl, rfl, rfl⟩

set_option maxRecDepth 100000 in
set_option maxHeartbeats 4000000 in
theorem l2View2 (X : Nat) (Y : Nat) (Z : Nat) (L : List A3) (hs : Sides X Y Z) (hL : HeapL X Y Z L) : Sound Try.prog 115 [.agg #[vN X, vN Y, vN Z, vS 0 L.length], vI 2] [some ⟨a3s L, 74, false, false⟩] (vS 1 (X * Y)) [some ⟨a3s L, 74, false, false⟩, some ⟨nums (viewT 2 X Y Z L L.length), 3, false, true⟩] := by
  refine sound_intro (C := cx) Try.func115 rfl (by kernel_rfl) fun hcl => ?_
  have hz := hs.size
  have hx0 := hs.x0
  have hx4 := hs.x4
  have hy0 := hs.y0
  have hy4 := hs.y4
  have hz0 := hs.z0
  have hz4 := hs.z4
  have hlen := hL.len
  have hlt := hL.lt64 hs
  have hxy : X * Y ≤ 4 * 4 := Nat.mul_le_mul (by omega) (by omega)
  have hxz : X * Z ≤ 4 * 4 := Nat.mul_le_mul (by omega) (by omega)
  have hyz : Y * Z ≤ 4 * 4 := Nat.mul_le_mul (by omega) (by omega)
  refine cSeq ?_
  refine cReg ?_
  refine segEnd [1, 2] (T1 := (mkT 54 [(1, vI 2), (2, vP 1 0)])) (H1 := [some ⟨a3s L, 74, false, false⟩, rB [vN X, vN Y, vN Z, vS 0 L.length] 40]) (by kernel_rfl) ?_
  refine kSeq ?_
  refine cSeq ?_
  refine cReg ?_
  refine segH 1 (T1 := (mkT 54 [(1, vI 2), (2, vP 1 0), (10, vI 2)])) (by kernel_rfl) ?_
  refine rCall (v := .tuple #[vI 0, vI 1]) (args := [vI 2]) (by kernel_rfl) rfl (by kernel_rfl) (Sound.lay0 [] (l2Others2) trivial rfl trivial rfl (by first | rfl | simp [mpV, mpA, mpS, mpP, renId, shift]) (by first | rfl | simp [mpV, mpA, mpS, mpP, renId, shift])) ?_
  refine segEndH [2, 5, 6] (T1 := (mkT 54 [(2, vP 1 0), (5, vI 0), (6, vI 1)])) (by kernel_rfl) ?_
  refine kSeq ?_
  refine cSeq ?_
  refine cRegW (N := 3) [⟨[], [], [1]⟩, ⟨[], [], []⟩, ⟨[], [], [0]⟩, ⟨[], [], [1]⟩, ⟨[], [], []⟩, ⟨[], [], [0]⟩, ⟨[], [], []⟩, ⟨[2], [], []⟩, ⟨[], [], []⟩] 1 [2] (by rfl) (by rfl) (by kernel_rfl) (by kernel_rfl) (by kernel_rfl) ⟨nmsF (flatA3 _ _ _ _), ⟨nmsX (by kernel_rfl), trivial⟩⟩ ?_
  refine segWH 2 (T1 := (mkT 54 [(2, vP 1 0), (5, vI 0), (6, vI 1), (14, .agg #[vN X, vN Y, vN Z, vS 0 L.length]), (15, vI 0)])) (by kernel_rfl) ?_
  refine rW (m := ⟨[], [], [0]⟩) (v := vN X) rfl (by kernel_rfl) (stQ (args := [.agg #[vN X, vN Y, vN Z, vS 0 L.length], vI 0]) rfl (by kernel_rfl) (Any.lay0 [0] (l2Long0 ((X : Nat) : Int) ((Y : Nat) : Int) ((Z : Nat) : Int) L) ⟨rdF false (flatA3 _ _ _ _) rfl rfl, trivial⟩ rfl ⟨clF (flatA3 _ _ _ _), trivial⟩ rfl (by first | rfl | simp [mpV, mpA, mpS, mpP, renId, shift]) rfl) rfl (by kernel_rfl) (by kernel_rfl)) (by kernel_rfl) nr0 ?_
  refine segWH 2 (T1 := (mkT 54 [(2, vP 1 0), (5, vI 0), (6, vI 1), (14, .agg #[vN X, vN Y, vN Z, vS 0 L.length]), (15, vI 0), (16, vN X), (17, .agg #[vN X, vN Y, vN Z, vS 0 L.length]), (18, vI 1)])) (by kernel_rfl) ?_
  refine rW (m := ⟨[], [], [0]⟩) (v := vN Y) rfl (by kernel_rfl) (stQ (args := [.agg #[vN X, vN Y, vN Z, vS 0 L.length], vI 1]) rfl (by kernel_rfl) (Any.lay0 [0] (l2Long1 ((X : Nat) : Int) ((Y : Nat) : Int) ((Z : Nat) : Int) L) ⟨rdF false (flatA3 _ _ _ _) rfl rfl, trivial⟩ rfl ⟨clF (flatA3 _ _ _ _), trivial⟩ rfl (by first | rfl | simp [mpV, mpA, mpS, mpP, renId, shift]) rfl) rfl (by kernel_rfl) (by kernel_rfl)) (by kernel_rfl) nr0 ?_
  refine rW (m := ⟨[], [], []⟩) (v := vN (X * Y)) rfl (by kernel_rfl) (stId (eMul (k := .i64) (a := ((X : Nat) : Int)) (b := ((Y : Nat) : Int)) (c := ((X * Y : Nat) : Int)) (by kernel_rfl) (by kernel_rfl) (nMul (by omega))) rfl (by kernel_rfl) (by kernel_rfl) (by kernel_rfl)) (by kernel_rfl) nr0 ?_
  refine rW (m := ⟨[2], [], []⟩) (v := vS 2 (X * Y)) rfl (by kernel_rfl) (stNew (i := 2) (v1 := vS 3 (X * Y)) (r := ⟨nums (List.replicate (X * Y) 0), 3, false, true⟩) (eMkNum (n := (X * Y)) (k := .i64) (k2 := .i64) (by kernel_rfl) (by kernel_rfl) ti22 ti3 rfl rfl (by decide) (by omega)) rfl (by kernel_rfl) (by kernel_rfl) (by kernel_rfl) (by kernel_rfl) (nmF (flatNums _ _ _ _)) (clF (flatNums _ _ _ _))) (by kernel_rfl) (NRs.all ⟨nrOf (by rfl) (nmF (flatNums _ _ _ _)), trivial⟩) ?_
  refine segEndW [2, 5, 6, 7] (T1 := (mkT 54 [(2, vP 1 0), (5, vI 0), (6, vI 1), (7, vS 2 (X * Y))])) (H1 := [some ⟨a3s L, 74, false, false⟩, rB [vN X, vN Y, vN Z, vS 0 L.length] 40, some ⟨nums (List.replicate (X * Y) 0), 3, false, true⟩]) (by kernel_rfl) ?_
  refine kSeq ?_
  refine cSeq ?_
  refine cSeq ?_
  refine cReg ?_
  refine segEndH [2, 5, 6, 7, 8] (T1 := (mkT 54 [(2, vP 1 0), (5, vI 0), (6, vI 1), (7, vS 2 (X * Y)), (8, vI 0)])) (by kernel_rfl) ?_
  refine kSeq ?_
  refine cBlk ?_
  -- loop
  refine cLoop (fun mm T H => ∃ i : Nat, ∃ M : List Int, (i ≤ L.length) ∧ (M = viewT 2 X Y Z L i) ∧ mm = L.length - i ∧ T = (mkT 54 [(2, vP 1 0), (5, vI 0), (6, vI 1), (7, vS 2 (X * Y)), (8, vN i)]) ∧ H = [some ⟨a3s L, 74, false, false⟩, rB [vN X, vN Y, vN Z, vS 0 L.length] 40, some ⟨nums M, 3, false, true⟩]) (L.length - 0) (mkT 54 [(2, vP 1 0), (5, vI 0), (6, vI 1), (7, vS 2 (X * Y)), (8, vI 0)]) [some ⟨a3s L, 74, false, false⟩, rB [vN X, vN Y, vN Z, vS 0 L.length] 40, some ⟨nums (List.replicate (X * Y) 0), 3, false, true⟩] (wkSame [2, 5, 6, 7, 8] (by kernel_rfl)) ?_ ?_
  · exact ⟨0, (List.replicate (X * Y) 0), (Nat.zero_le _), (rfl), rfl, rfl, rfl⟩
  · rintro _ _ _ ⟨i, M, hi, hM, rfl, rfl, rfl⟩
    have hml : M.length = X * Y := (by rw [hM]; exact viewT_length 2 X Y Z L i)
    refine cSeq ?_
    refine cSeq ?_
    refine cReg ?_
    refine segEndH [2, 5, 6, 7, 8, 26] (T1 := (mkT 54 [(2, vP 1 0), (5, vI 0), (6, vI 1), (7, vS 2 (X * Y)), (8, vN i), (26, .bool (decide (((i : Nat) : Int) < ((L.length : Nat) : Int))))])) (by kernel_rfl) ?_
    refine kSeq ?_
    cases h1 : (decide (((i : Nat) : Int) < ((L.length : Nat) : Int)) : Bool)
    ·
      (try simp only [Bool.not_eq_true', Bool.not_eq_false', decide_eq_true_eq, decide_eq_false_iff_not, beq_iff_eq, bne_iff_ne, beq_eq_false_iff_ne, bne_eq_false_iff_eq, ne_eq, Decidable.not_not, Bool.and_eq_true, Bool.and_eq_false_imp, Bool.or_eq_true, Bool.or_eq_false_iff, Bool.not_eq_true, Int.not_lt, Int.not_le, ge_iff_le, gt_iff_lt] at h1)
      refine cFalse (by kernel_rfl) ?_
      refine cExit ?_
      refine kSeqE ?_
      refine kLoopE ?_
      refine kBlkHit ?_
      refine kSeq ?_
      refine cSeq ?_
      refine cReg ?_
      refine segEndH [4] (T1 := (mkT 54 [(4, vS 2 (X * Y))])) (by kernel_rfl) ?_
      refine kSeq ?_
      refine cRet ?_
      -- end
      have he0 : (M : List Int) = (viewT 2 X Y Z L L.length) := by first | omega | (rw [hM, show i = L.length by omega])
      refine endCast (v1 := vS 1 (X * Y)) (H1 := [some ⟨a3s L, 74, false, false⟩, some ⟨nums M, 3, false, true⟩]) (by first | rfl | ((try rw [← he0]); done) | (simp only [← he0]; done)) (by first | rfl | ((try rw [← he0]); done) | (simp only [← he0]; done)) ?_
      exact endF (Or.inr rfl) (l := [vS 2 (X * Y)]) [0, 2] (by kernel_rfl) (by first | rfl | simp [packR, mpV, mpA, mpS, mpP, renId]) ⟨rrF (flatA3 _ _ _ _) rfl, ⟨rrF (flatNums _ _ _ _) rfl, trivial⟩⟩ rfl rfl
    ·
      (try simp only [Bool.not_eq_true', Bool.not_eq_false', decide_eq_true_eq, decide_eq_false_iff_not, beq_iff_eq, bne_iff_ne, beq_eq_false_iff_ne, bne_eq_false_iff_eq, ne_eq, Decidable.not_not, Bool.and_eq_true, Bool.and_eq_false_imp, Bool.or_eq_true, Bool.or_eq_false_iff, Bool.not_eq_true, Int.not_lt, Int.not_le, ge_iff_le, gt_iff_lt] at h1)
      have hh3 := has3_iff.1 ((hL).has hs (i := i) (by omega))
      have hhas := (hL).has hs (i := i) (by omega)
      have hfl := two_lt hh3.1 hh3.2.1
      have hvr := viewT_rng 2 X Y Z L i (lnI 2 Y Z (L.getD i default)).toNat
      simp only [lnI] at hvr
      rw [← hM] at hvr
      refine cTrue (by kernel_rfl) ?_
      refine cSkip ?_
      refine kSeq ?_
      refine cSeq ?_
      refine cBlk ?_
      refine cRegW (N := 3) [⟨[], [], []⟩, ⟨[], [], []⟩, ⟨[], [], [1]⟩, ⟨[], [], []⟩, ⟨[], [], []⟩, ⟨[], [], []⟩, ⟨[], [], []⟩, ⟨[], [], [0]⟩, ⟨[], [], [1]⟩, ⟨[], [], []⟩, ⟨[], [], [0]⟩, ⟨[], [], []⟩, ⟨[], [], []⟩, ⟨[], [], [1]⟩, ⟨[], [], []⟩, ⟨[], [], []⟩, ⟨[], [], []⟩, ⟨[], [], []⟩, ⟨[], [], [0]⟩, ⟨[], [], []⟩, ⟨[], [], []⟩, ⟨[], [], [2]⟩, ⟨[], [], []⟩, ⟨[], [], []⟩, ⟨[], [2], []⟩] 0 [] (by rfl) (by rfl) (by kernel_rfl) (by kernel_rfl) (by kernel_rfl) ⟨nmsF (flatA3 _ _ _ _), ⟨nmsX (by kernel_rfl), ⟨nmsF (flatNums _ _ _ _), trivial⟩⟩⟩ ?_
      refine segWH 5 (T1 := (mkT 54 [(2, vP 1 0), (5, vI 0), (6, vI 1), (7, vS 2 (X * Y)), (8, vN i), (26, .bool true), (29, vS 2 (X * Y)), (30, vP 1 3), (31, vS 0 L.length), (32, vN i), (33, vI 0)])) (by kernel_rfl) ?_
      refine rW (m := ⟨[], [], []⟩) (v := vP 0 (i * 3)) rfl (by kernel_rfl) (stId (eIdxS (ad := ⟨0, 0, none⟩) (n := L.length) (m := 0) (k := .i64) (c := ((i : Nat) : Int)) (j := i) (o := i * 3) (by kernel_rfl) (by kernel_rfl) ti31 ti74 (rfl) (by omega) (by exact Nat.zero_add _)) rfl (by kernel_rfl) (by kernel_rfl) (by kernel_rfl)) (by kernel_rfl) nr0 ?_
      refine segWH 1 (T1 := (mkT 54 [(2, vP 1 0), (5, vI 0), (6, vI 1), (7, vS 2 (X * Y)), (8, vN i), (26, .bool true), (29, vS 2 (X * Y)), (30, vP 1 3), (31, vS 0 L.length), (32, vN i), (33, vI 0), (34, vP 0 (i * 3)), (35, vP 0 (i * 3 + 0))])) (by kernel_rfl) ?_
      refine rW (m := ⟨[], [], [0]⟩) (v := vI ((L.getD i default).x)) rfl (by kernel_rfl) (stId (eLdA3i (ad := ⟨0, i * 3 + 0, none⟩) (r := ⟨a3s L, 74, false, false⟩) (L := L) (j := i) (i := 0) (by kernel_rfl) (by kernel_rfl) rfl (by first | rfl | omega) (by omega) ti3 rfl rfl) rfl (by kernel_rfl) (by kernel_rfl) (by kernel_rfl)) (by kernel_rfl) nr0 ?_
      refine segWH 2 (T1 := (mkT 54 [(2, vP 1 0), (5, vI 0), (6, vI 1), (7, vS 2 (X * Y)), (8, vN i), (26, .bool true), (29, vS 2 (X * Y)), (30, vP 1 3), (31, vS 0 L.length), (32, vN i), (33, vI 0), (34, vP 0 (i * 3)), (35, vP 0 (i * 3 + 0)), (36, vI ((L.getD i default).x)), (37, .agg #[vN X, vN Y, vN Z, vS 0 L.length]), (38, vI 1)])) (by kernel_rfl) ?_
      refine rW (m := ⟨[], [], [0]⟩) (v := vN Y) rfl (by kernel_rfl) (stQ (args := [.agg #[vN X, vN Y, vN Z, vS 0 L.length], vI 1]) rfl (by kernel_rfl) (Any.lay0 [0] (l2Long1 ((X : Nat) : Int) ((Y : Nat) : Int) ((Z : Nat) : Int) L) ⟨rdF false (flatA3 _ _ _ _) rfl rfl, trivial⟩ rfl ⟨clF (flatA3 _ _ _ _), trivial⟩ rfl (by first | rfl | simp [mpV, mpA, mpS, mpP, renId, shift]) rfl) rfl (by kernel_rfl) (by kernel_rfl)) (by kernel_rfl) nr0 ?_
      refine rW (m := ⟨[], [], []⟩) (v := vI (((L.getD i default).x) * ((Y : Nat) : Int))) rfl (by kernel_rfl) (stId (eMul (k := .i64) (a := ((L.getD i default).x)) (b := ((Y : Nat) : Int)) (c := (((L.getD i default).x) * ((Y : Nat) : Int))) (by kernel_rfl) (by kernel_rfl) (wr64 (by omega) (by omega) (by omega))) rfl (by kernel_rfl) (by kernel_rfl) (by kernel_rfl)) (by kernel_rfl) nr0 ?_
      refine segWH 4 (T1 := (mkT 54 [(2, vP 1 0), (5, vI 0), (6, vI 1), (7, vS 2 (X * Y)), (8, vN i), (26, .bool true), (29, vS 2 (X * Y)), (30, vP 1 3), (31, vS 0 L.length), (32, vN i), (33, vI 0), (34, vP 0 (i * 3)), (35, vP 0 (i * 3 + 0)), (36, vI ((L.getD i default).x)), (37, .agg #[vN X, vN Y, vN Z, vS 0 L.length]), (38, vI 1), (39, vN Y), (40, vI (((L.getD i default).x) * ((Y : Nat) : Int))), (41, vP 1 3), (42, vS 0 L.length), (43, vN i), (44, vI 1)])) (by kernel_rfl) ?_
      refine rW (m := ⟨[], [], []⟩) (v := vP 0 (i * 3)) rfl (by kernel_rfl) (stId (eIdxS (ad := ⟨0, 0, none⟩) (n := L.length) (m := 0) (k := .i64) (c := ((i : Nat) : Int)) (j := i) (o := i * 3) (by kernel_rfl) (by kernel_rfl) ti31 ti74 (rfl) (by omega) (by exact Nat.zero_add _)) rfl (by kernel_rfl) (by kernel_rfl) (by kernel_rfl)) (by kernel_rfl) nr0 ?_
      refine segWH 1 (T1 := (mkT 54 [(2, vP 1 0), (5, vI 0), (6, vI 1), (7, vS 2 (X * Y)), (8, vN i), (26, .bool true), (29, vS 2 (X * Y)), (30, vP 1 3), (31, vS 0 L.length), (32, vN i), (33, vI 0), (34, vP 0 (i * 3)), (35, vP 0 (i * 3 + 0)), (36, vI ((L.getD i default).x)), (37, .agg #[vN X, vN Y, vN Z, vS 0 L.length]), (38, vI 1), (39, vN Y), (40, vI (((L.getD i default).x) * ((Y : Nat) : Int))), (41, vP 1 3), (42, vS 0 L.length), (43, vN i), (44, vI 1), (45, vP 0 (i * 3)), (46, vP 0 (i * 3 + 1))])) (by kernel_rfl) ?_
      refine rW (m := ⟨[], [], [0]⟩) (v := vI ((L.getD i default).y)) rfl (by kernel_rfl) (stId (eLdA3i (ad := ⟨0, i * 3 + 1, none⟩) (r := ⟨a3s L, 74, false, false⟩) (L := L) (j := i) (i := 1) (by kernel_rfl) (by kernel_rfl) rfl (by first | rfl | omega) (by omega) ti3 rfl rfl) rfl (by kernel_rfl) (by kernel_rfl) (by kernel_rfl)) (by kernel_rfl) nr0 ?_
      refine rW (m := ⟨[], [], []⟩) (v := vI (((L.getD i default).x) * ((Y : Nat) : Int) + ((L.getD i default).y))) rfl (by kernel_rfl) (stId (eAdd (k := .i64) (a := (((L.getD i default).x) * ((Y : Nat) : Int))) (b := ((L.getD i default).y)) (c := (((L.getD i default).x) * ((Y : Nat) : Int) + ((L.getD i default).y))) (by kernel_rfl) (by kernel_rfl) (wr64 (by omega) (by omega) (by omega))) rfl (by kernel_rfl) (by kernel_rfl) (by kernel_rfl)) (by kernel_rfl) nr0 ?_
      refine rW (m := ⟨[], [], []⟩) (v := vP 2 ((((L.getD i default).x) * ((Y : Nat) : Int) + ((L.getD i default).y)).toNat)) rfl (by kernel_rfl) (stId (eIdxS (ad := ⟨2, 0, none⟩) (n := (X * Y)) (m := 0) (k := .i64) (c := (((L.getD i default).x) * ((Y : Nat) : Int) + ((L.getD i default).y))) (j := ((((L.getD i default).x) * ((Y : Nat) : Int) + ((L.getD i default).y)).toNat)) (o := (((L.getD i default).x) * ((Y : Nat) : Int) + ((L.getD i default).y)).toNat) (by kernel_rfl) (by kernel_rfl) ti22 ti3 (by omega) (by omega) (by simp)) rfl (by kernel_rfl) (by kernel_rfl) (by kernel_rfl)) (by kernel_rfl) nr0 ?_
      refine rW (m := ⟨[], [], [2]⟩) (v := vI (M.getD ((((L.getD i default).x) * ((Y : Nat) : Int) + ((L.getD i default).y)).toNat) 0)) rfl (by kernel_rfl) (stId (eLdNum (ad := ⟨2, (((L.getD i default).x) * ((Y : Nat) : Int) + ((L.getD i default).y)).toNat, none⟩) (r := ⟨nums M, 3, false, true⟩) (L := M) (j := ((((L.getD i default).x) * ((Y : Nat) : Int) + ((L.getD i default).y)).toNat)) (by kernel_rfl) (by kernel_rfl) rfl (by first | rfl | omega) (by omega) ti3 rfl) rfl (by kernel_rfl) (by kernel_rfl) (by kernel_rfl)) (by kernel_rfl) nr0 ?_
      refine rW (m := ⟨[], [], []⟩) (v := vI ((M.getD ((((L.getD i default).x) * ((Y : Nat) : Int) + ((L.getD i default).y)).toNat) 0) + 1)) rfl (by kernel_rfl) (stId (eAdd (k := .i64) (a := (M.getD ((((L.getD i default).x) * ((Y : Nat) : Int) + ((L.getD i default).y)).toNat) 0)) (b := 1) (c := ((M.getD ((((L.getD i default).x) * ((Y : Nat) : Int) + ((L.getD i default).y)).toNat) 0) + 1)) (by kernel_rfl) (by kernel_rfl) (wr64 (by omega) (by omega) (by omega))) rfl (by kernel_rfl) (by kernel_rfl) (by kernel_rfl)) (by kernel_rfl) nr0 ?_
      refine rW (m := ⟨[], [], []⟩) (v := vP 2 ((((L.getD i default).x) * ((Y : Nat) : Int) + ((L.getD i default).y)).toNat)) rfl (by kernel_rfl) (stId (eIdxS (ad := ⟨2, 0, none⟩) (n := (X * Y)) (m := 0) (k := .i64) (c := (((L.getD i default).x) * ((Y : Nat) : Int) + ((L.getD i default).y))) (j := ((((L.getD i default).x) * ((Y : Nat) : Int) + ((L.getD i default).y)).toNat)) (o := (((L.getD i default).x) * ((Y : Nat) : Int) + ((L.getD i default).y)).toNat) (by kernel_rfl) (by kernel_rfl) ti22 ti3 (by omega) (by omega) (by simp)) rfl (by kernel_rfl) (by kernel_rfl) (by kernel_rfl)) (by kernel_rfl) nr0 ?_
      refine rW (m := ⟨[], [2], []⟩) (v := .tuple #[]) rfl (by kernel_rfl) (stSet (b := 2) (r := ⟨nums (M.set ((((L.getD i default).x) * ((Y : Nat) : Int) + ((L.getD i default).y)).toNat) ((M.getD ((((L.getD i default).x) * ((Y : Nat) : Int) + ((L.getD i default).y)).toNat) 0) + 1)), 3, false, true⟩) (eStNum (b := 2) (o := ((((L.getD i default).x) * ((Y : Nat) : Int) + ((L.getD i default).y)).toNat)) (L := M) (n := ((M.getD ((((L.getD i default).x) * ((Y : Nat) : Int) + ((L.getD i default).y)).toNat) 0) + 1)) (e := 3) (bx := false) (by kernel_rfl) (by kernel_rfl) (by kernel_rfl) (by omega) ti3 rfl (by rfl)) rfl (by kernel_rfl) (by kernel_rfl) (by kernel_rfl) (by kernel_rfl) (nmF (flatNums _ _ _ _)) (clF (flatNums _ _ _ _))) (by kernel_rfl) (NRs.all ⟨nrOf (by rfl) (nmF (flatNums _ _ _ _)), trivial⟩) ?_
      refine segEndW [2, 5, 6, 7, 8] (T1 := (mkT 54 [(2, vP 1 0), (5, vI 0), (6, vI 1), (7, vS 2 (X * Y)), (8, vN i)])) (H1 := [some ⟨a3s L, 74, false, false⟩, rB [vN X, vN Y, vN Z, vS 0 L.length] 40, some ⟨nums (M.set ((((L.getD i default).x) * ((Y : Nat) : Int) + ((L.getD i default).y)).toNat) ((M.getD ((((L.getD i default).x) * ((Y : Nat) : Int) + ((L.getD i default).y)).toNat) 0) + 1)), 3, false, true⟩]) (by kernel_rfl) ?_
      refine kBlk ?_
      refine kSeq ?_
      refine cReg ?_
      refine segH 1 (T1 := (mkT 54 [(2, vP 1 0), (5, vI 0), (6, vI 1), (7, vS 2 (X * Y)), (8, vN i), (27, vN i)])) (by kernel_rfl) ?_
      refine rOp (v := vN (i + 1)) (by kernel_rfl) (eAdd (k := .i64) (a := ((i : Nat) : Int)) (b := 1) (c := ((i + 1 : Nat) : Int)) (by kernel_rfl) (by kernel_rfl) (wr64 (by omega) (by omega) (by omega))) ?_
      refine segEndH [2, 5, 6, 7, 8] (T1 := (mkT 54 [(2, vP 1 0), (5, vI 0), (6, vI 1), (7, vS 2 (X * Y)), (8, vN (i + 1))])) (by kernel_rfl) ?_
      exact kLoop (L.length - (i + 1)) (mkT 54 [(2, vP 1 0), (5, vI 0), (6, vI 1), (7, vS 2 (X * Y)), (8, vN (i + 1))]) [some ⟨a3s L, 74, false, false⟩, rB [vN X, vN Y, vN Z, vS 0 L.length] 40, some ⟨nums (M.set ((((L.getD i default).x) * ((Y : Nat) : Int) + ((L.getD i default).y)).toNat) ((M.getD ((((L.getD i default).x) * ((Y : Nat) : Int) + ((L.getD i default).y)).toNat) 0) + 1)), 3, false, true⟩] (by omega) (wkSame [2, 5, 6, 7, 8] (by kernel_rfl)) ⟨(i + 1), (M.set ((((L.getD i default).x) * ((Y : Nat) : Int) + ((L.getD i default).y)).toNat) ((M.getD ((((L.getD i default).x) * ((Y : Nat) : Int) + ((L.getD i default).y)).toNat) 0) + 1)), (by omega), (viewT_step 2 X Y Z L i hM rfl), rfl, rfl, rfl⟩

set_option maxRecDepth 100000 in
set_option maxHeartbeats 4000000 in
theorem viewS2 (X : Nat) (Y : Nat) (Z : Nat) (s : Nat) (hs : Sides X Y Z) (hlt : s < 18446744073709551616) : Sound Try.prog 117 [.agg #[vN X, vN Y, vN Z], vU s, vI 2] [] (vS 0 (X * Y)) [some ⟨nums (viewT 2 X Y Z (listOf X Y Z s) (listOf X Y Z s).length), 3, false, true⟩] := by
  refine sound_intro (C := cx) Try.func117 rfl (by kernel_rfl) fun hcl => ?_
  have hz := hs.size
  have hx0 := hs.x0
  have hx4 := hs.x4
  have hy0 := hs.y0
  have hy4 := hs.y4
  have hz0 := hs.z0
  have hz4 := hs.z4
  have hxy : X * Y ≤ 4 * 4 := Nat.mul_le_mul (by omega) (by omega)
  have hxz : X * Z ≤ 4 * 4 := Nat.mul_le_mul (by omega) (by omega)
  have hyz : Y * Z ≤ 4 * 4 := Nat.mul_le_mul (by omega) (by omega)
  have hll := (HeapL.list X Y Z s).len
  refine cSeq ?_
  refine cReg ?_
  refine segEnd [1, 2, 3] (T1 := (mkT 33 [(1, vU s), (2, vI 2), (3, vP 0 0)])) (H1 := [rB [vN X, vN Y, vN Z] 75]) (by kernel_rfl) ?_
  refine kSeq ?_
  refine cSeq ?_
  refine cReg ?_
  refine segH 2 (T1 := (mkT 33 [(1, vU s), (2, vI 2), (3, vP 0 0), (10, .agg #[vN X, vN Y, vN Z]), (11, vI 2)])) (by kernel_rfl) ?_
  refine rCall (v := vN (X * Y)) (args := [.agg #[vN X, vN Y, vN Z], vI 2]) (by kernel_rfl) rfl (by kernel_rfl) (Sound.lay0 [] (lines2 X Y Z (by first | assumption | omega | rfl | decide | exact HeapL.list _ _ _ _ | exact HeapL.nil _ _ _ | exact HeapL.all _ _ _ | (apply HeapL.lt64 <;> assumption) | (repeat' (first | assumption | apply or_lt64 | apply and_lt64 | apply andn_lt64 | apply pow_lt64 | (apply HeapL.lt64 <;> assumption))))) trivial rfl trivial rfl (by first | rfl | simp [mpV, mpA, mpS, mpP, renId, shift]) rfl) ?_
  refine rOp (v := vS 1 (X * Y)) (H' := [rB [vN X, vN Y, vN Z] 75, some ⟨nums (List.replicate (X * Y) 0), 3, false, true⟩]) (by kernel_rfl) (eMkNum (n := (X * Y)) (k := .i64) (k2 := .i64) (by kernel_rfl) (by kernel_rfl) ti22 ti3 rfl rfl (by decide) (by omega)) ?_
  refine segEnd [1, 2, 3, 7] (T1 := (mkT 33 [(1, vU s), (2, vI 2), (3, vP 0 0), (7, vS 1 (X * Y))])) (H1 := [rB [vN X, vN Y, vN Z] 75, some ⟨nums (List.replicate (X * Y) 0), 3, false, true⟩]) (by kernel_rfl) ?_
  refine kSeq ?_
  refine cSeq ?_
  refine cSeq ?_
  refine cReg ?_
  refine segH 2 (T1 := (mkT 33 [(1, vU s), (2, vI 2), (3, vP 0 0), (7, vS 1 (X * Y)), (14, .agg #[vN X, vN Y, vN Z]), (15, vU s)])) (by kernel_rfl) ?_
  refine rCall (v := vS 2 ((listOf X Y Z s).length)) (args := [.agg #[vN X, vN Y, vN Z], vU s]) (by kernel_rfl) rfl (by kernel_rfl) (Sound.lay (E := [some ⟨a3s (listOf X Y Z s), 74, false, true⟩]) [] (listB X Y Z s (by first | assumption | omega | rfl | decide | exact HeapL.list _ _ _ _ | exact HeapL.nil _ _ _ | exact HeapL.all _ _ _ | (apply HeapL.lt64 <;> assumption) | (repeat' (first | assumption | apply or_lt64 | apply and_lt64 | apply andn_lt64 | apply pow_lt64 | (apply HeapL.lt64 <;> assumption)))) (by first | assumption | omega | rfl | decide | exact HeapL.list _ _ _ _ | exact HeapL.nil _ _ _ | exact HeapL.all _ _ _ | (apply HeapL.lt64 <;> assumption) | (repeat' (first | assumption | apply or_lt64 | apply and_lt64 | apply andn_lt64 | apply pow_lt64 | (apply HeapL.lt64 <;> assumption))))) trivial rfl trivial rfl (by first | rfl | simp [mpV, mpA, mpS, mpP, renId, shift]) rfl ⟨enF (flatA3 _ _ _ _) (Or.inl rfl), trivial⟩) ?_
  refine segEnd [2, 3, 7, 16, 17, 18] (T1 := (mkT 33 [(2, vI 2), (3, vP 0 0), (7, vS 1 (X * Y)), (16, vS 2 ((listOf X Y Z s).length)), (17, vN ((listOf X Y Z s).length)), (18, vI 0)])) (H1 := [rB [vN X, vN Y, vN Z] 75, some ⟨nums (List.replicate (X * Y) 0), 3, false, true⟩, some ⟨a3s (listOf X Y Z s), 74, false, true⟩]) (by kernel_rfl) ?_
  refine kSeq ?_
  refine cBlk ?_
  -- loop
  refine cLoop (fun mm T H => ∃ i : Nat, ∃ M : List Int, (i ≤ (listOf X Y Z s).length) ∧ (M = viewT 2 X Y Z (listOf X Y Z s) i) ∧ mm = (listOf X Y Z s).length - i ∧ T = (mkT 33 [(2, vI 2), (3, vP 0 0), (7, vS 1 (X * Y)), (16, vS 2 ((listOf X Y Z s).length)), (17, vN ((listOf X Y Z s).length)), (18, vN i)]) ∧ H = [rB [vN X, vN Y, vN Z] 75, some ⟨nums M, 3, false, true⟩, some ⟨a3s (listOf X Y Z s), 74, false, true⟩]) ((listOf X Y Z s).length - 0) (mkT 33 [(2, vI 2), (3, vP 0 0), (7, vS 1 (X * Y)), (16, vS 2 ((listOf X Y Z s).length)), (17, vN ((listOf X Y Z s).length)), (18, vI 0)]) [rB [vN X, vN Y, vN Z] 75, some ⟨nums (List.replicate (X * Y) 0), 3, false, true⟩, some ⟨a3s (listOf X Y Z s), 74, false, true⟩] (wkSame [2, 3, 7, 16, 17, 18] (by kernel_rfl)) ?_ ?_
  · exact ⟨0, (List.replicate (X * Y) 0), (Nat.zero_le _), (rfl), rfl, rfl, rfl⟩
  · rintro _ _ _ ⟨i, M, hi, hM, rfl, rfl, rfl⟩
    have hml : M.length = X * Y := (by rw [hM]; exact viewT_length 2 X Y Z (listOf X Y Z s) i)
    refine cSeq ?_
    refine cReg ?_
    refine segEndH [2, 3, 7, 16, 17, 18, 19] (T1 := (mkT 33 [(2, vI 2), (3, vP 0 0), (7, vS 1 (X * Y)), (16, vS 2 ((listOf X Y Z s).length)), (17, vN ((listOf X Y Z s).length)), (18, vN i), (19, .bool (decide (((i : Nat) : Int) < (((listOf X Y Z s).length : Nat) : Int))))])) (by kernel_rfl) ?_
    refine kSeq ?_
    refine cSeq ?_
    cases h1 : (decide (((i : Nat) : Int) < (((listOf X Y Z s).length : Nat) : Int)) : Bool)
    ·
      (try simp only [Bool.not_eq_true', Bool.not_eq_false', decide_eq_true_eq, decide_eq_false_iff_not, beq_iff_eq, bne_iff_ne, beq_eq_false_iff_ne, bne_eq_false_iff_eq, ne_eq, Decidable.not_not, Bool.and_eq_true, Bool.and_eq_false_imp, Bool.or_eq_true, Bool.or_eq_false_iff, Bool.not_eq_true, Int.not_lt, Int.not_le, ge_iff_le, gt_iff_lt] at h1)
      refine cFalse (by kernel_rfl) ?_
      refine cExit ?_
      refine kSeqE ?_
      refine kLoopE ?_
      refine kBlkHit ?_
      refine kSeq ?_
      refine cSeq ?_
      refine cReg ?_
      refine segEndH [6] (T1 := (mkT 33 [(6, vS 1 (X * Y))])) (by kernel_rfl) ?_
      refine kSeq ?_
      refine cRet ?_
      -- end
      have he0 : (M : List Int) = (viewT 2 X Y Z (listOf X Y Z s) (listOf X Y Z s).length) := by first | omega | (rw [hM, show i = (listOf X Y Z s).length by omega])
      refine endCast (v1 := vS 0 (X * Y)) (H1 := [some ⟨nums M, 3, false, true⟩]) (by first | rfl | ((try rw [← he0]); done) | (simp only [← he0]; done)) (by first | rfl | ((try rw [← he0]); done) | (simp only [← he0]; done)) ?_
      exact endF (Or.inr rfl) (l := [vS 1 (X * Y)]) [1] (by kernel_rfl) (by first | rfl | simp [packR, mpV, mpA, mpS, mpP, renId]) ⟨rrF (flatNums _ _ _ _) rfl, trivial⟩ rfl rfl
    ·
      (try simp only [Bool.not_eq_true', Bool.not_eq_false', decide_eq_true_eq, decide_eq_false_iff_not, beq_iff_eq, bne_iff_ne, beq_eq_false_iff_ne, bne_eq_false_iff_eq, ne_eq, Decidable.not_not, Bool.and_eq_true, Bool.and_eq_false_imp, Bool.or_eq_true, Bool.or_eq_false_iff, Bool.not_eq_true, Int.not_lt, Int.not_le, ge_iff_le, gt_iff_lt] at h1)
      have hh3 := has3_iff.1 ((HeapL.list X Y Z s).has hs (i := i) (by omega))
      have hhas := (HeapL.list X Y Z s).has hs (i := i) (by omega)
      have hfl := two_lt hh3.1 hh3.2.1
      have hvr := viewT_rng 2 X Y Z (listOf X Y Z s) i (lnI 2 Y Z ((listOf X Y Z s).getD i default)).toNat
      simp only [lnI] at hvr
      rw [← hM] at hvr
      refine cTrue (by kernel_rfl) ?_
      refine cSkip ?_
      refine kSeq ?_
      refine cSeq ?_
      refine cBlk ?_
      refine cSeq ?_
      refine cReg ?_
      refine rOp (v := vP 2 (i * 3)) (by kernel_rfl) (eIdxS (ad := ⟨2, 0, none⟩) (n := ((listOf X Y Z s).length)) (m := 0) (k := .i64) (c := ((i : Nat) : Int)) (j := i) (o := i * 3) (by kernel_rfl) (by kernel_rfl) ti31 ti74 (rfl) (by omega) (by exact Nat.zero_add _)) ?_
      refine rOp (v := .agg #[vI (((listOf X Y Z s).getD i default).x), vI (((listOf X Y Z s).getD i default).y), vI (((listOf X Y Z s).getD i default).z)]) (by kernel_rfl) (eLdA3 (ad := ⟨2, i * 3, none⟩) (r := ⟨a3s (listOf X Y Z s), 74, false, true⟩) (L := (listOf X Y Z s)) (j := i) (by kernel_rfl) (by kernel_rfl) rfl (by first | rfl | omega) (by omega) ti74) ?_
      refine segEnd [2, 3, 7, 9, 16, 17, 18] (T1 := (mkT 33 [(2, vI 2), (3, vP 0 0), (7, vS 1 (X * Y)), (9, vP 3 0), (16, vS 2 ((listOf X Y Z s).length)), (17, vN ((listOf X Y Z s).length)), (18, vN i)])) (H1 := [rB [vN X, vN Y, vN Z] 75, some ⟨nums M, 3, false, true⟩, some ⟨a3s (listOf X Y Z s), 74, false, true⟩, rB [vI (((listOf X Y Z s).getD i default).x), vI (((listOf X Y Z s).getD i default).y), vI (((listOf X Y Z s).getD i default).z)] 74]) (by kernel_rfl) ?_
      refine kSeq ?_
      refine cReg ?_
      refine segH 4 (T1 := (mkT 33 [(2, vI 2), (3, vP 0 0), (7, vS 1 (X * Y)), (9, vP 3 0), (16, vS 2 ((listOf X Y Z s).length)), (17, vN ((listOf X Y Z s).length)), (18, vN i), (22, vS 1 (X * Y)), (23, .agg #[vN X, vN Y, vN Z]), (24, .agg #[vI (((listOf X Y Z s).getD i default).x), vI (((listOf X Y Z s).getD i default).y), vI (((listOf X Y Z s).getD i default).z)]), (25, vI 2)])) (by kernel_rfl) ?_
      refine rCall (v := vI ((((listOf X Y Z s).getD i default).x) * (Y : Int) + (((listOf X Y Z s).getD i default).y))) (args := [.agg #[vN X, vN Y, vN Z], .agg #[vI (((listOf X Y Z s).getD i default).x), vI (((listOf X Y Z s).getD i default).y), vI (((listOf X Y Z s).getD i default).z)], vI 2]) (by kernel_rfl) rfl (by kernel_rfl) (Sound.lay0 [] (line2 X Y Z (((listOf X Y Z s).getD i default).x) (((listOf X Y Z s).getD i default).y) (((listOf X Y Z s).getD i default).z) (by first | assumption | omega | rfl | decide | exact HeapL.list _ _ _ _ | exact HeapL.nil _ _ _ | exact HeapL.all _ _ _ | (apply HeapL.lt64 <;> assumption) | (repeat' (first | assumption | apply or_lt64 | apply and_lt64 | apply andn_lt64 | apply pow_lt64 | (apply HeapL.lt64 <;> assumption)))) (by first | assumption | exact hhas)) trivial rfl trivial rfl (by first | rfl | simp [mpV, mpA, mpS, mpP, renId, shift]) rfl) ?_
      refine rOp (v := vP 1 (((((listOf X Y Z s).getD i default).x) * (Y : Int) + (((listOf X Y Z s).getD i default).y)).toNat)) (by kernel_rfl) (eIdxS (ad := ⟨1, 0, none⟩) (n := (X * Y)) (m := 0) (k := .i64) (c := ((((listOf X Y Z s).getD i default).x) * (Y : Int) + (((listOf X Y Z s).getD i default).y))) (j := (((((listOf X Y Z s).getD i default).x) * (Y : Int) + (((listOf X Y Z s).getD i default).y)).toNat)) (o := ((((listOf X Y Z s).getD i default).x) * (Y : Int) + (((listOf X Y Z s).getD i default).y)).toNat) (by kernel_rfl) (by kernel_rfl) ti22 ti3 (by omega) (by omega) (by simp)) ?_
      refine rOp (v := vI (M.getD (((((listOf X Y Z s).getD i default).x) * (Y : Int) + (((listOf X Y Z s).getD i default).y)).toNat) 0)) (by kernel_rfl) (eLdNum (ad := ⟨1, ((((listOf X Y Z s).getD i default).x) * (Y : Int) + (((listOf X Y Z s).getD i default).y)).toNat, none⟩) (r := ⟨nums M, 3, false, true⟩) (L := M) (j := (((((listOf X Y Z s).getD i default).x) * (Y : Int) + (((listOf X Y Z s).getD i default).y)).toNat)) (by kernel_rfl) (by kernel_rfl) rfl (by first | rfl | omega) (by omega) ti3 rfl) ?_
      refine rOp (v := vI ((M.getD (((((listOf X Y Z s).getD i default).x) * (Y : Int) + (((listOf X Y Z s).getD i default).y)).toNat) 0) + 1)) (by kernel_rfl) (eAdd (k := .i64) (a := (M.getD (((((listOf X Y Z s).getD i default).x) * (Y : Int) + (((listOf X Y Z s).getD i default).y)).toNat) 0)) (b := 1) (c := ((M.getD (((((listOf X Y Z s).getD i default).x) * (Y : Int) + (((listOf X Y Z s).getD i default).y)).toNat) 0) + 1)) (by kernel_rfl) (by kernel_rfl) (wr64 (by omega) (by omega) (by omega))) ?_
      refine rOp (v := vP 1 (((((listOf X Y Z s).getD i default).x) * (Y : Int) + (((listOf X Y Z s).getD i default).y)).toNat)) (by kernel_rfl) (eIdxS (ad := ⟨1, 0, none⟩) (n := (X * Y)) (m := 0) (k := .i64) (c := ((((listOf X Y Z s).getD i default).x) * (Y : Int) + (((listOf X Y Z s).getD i default).y))) (j := (((((listOf X Y Z s).getD i default).x) * (Y : Int) + (((listOf X Y Z s).getD i default).y)).toNat)) (o := ((((listOf X Y Z s).getD i default).x) * (Y : Int) + (((listOf X Y Z s).getD i default).y)).toNat) (by kernel_rfl) (by kernel_rfl) ti22 ti3 (by omega) (by omega) (by simp)) ?_
      refine rOp (v := .tuple #[]) (H' := [rB [vN X, vN Y, vN Z] 75, some ⟨nums (M.set (((((listOf X Y Z s).getD i default).x) * (Y : Int) + (((listOf X Y Z s).getD i default).y)).toNat) ((M.getD (((((listOf X Y Z s).getD i default).x) * (Y : Int) + (((listOf X Y Z s).getD i default).y)).toNat) 0) + 1)), 3, false, true⟩, some ⟨a3s (listOf X Y Z s), 74, false, true⟩, rB [vI (((listOf X Y Z s).getD i default).x), vI (((listOf X Y Z s).getD i default).y), vI (((listOf X Y Z s).getD i default).z)] 74]) (by kernel_rfl) (eStNum (b := 1) (o := (((((listOf X Y Z s).getD i default).x) * (Y : Int) + (((listOf X Y Z s).getD i default).y)).toNat)) (L := M) (n := ((M.getD (((((listOf X Y Z s).getD i default).x) * (Y : Int) + (((listOf X Y Z s).getD i default).y)).toNat) 0) + 1)) (e := 3) (bx := false) (by kernel_rfl) (by kernel_rfl) (by kernel_rfl) (by omega) ti3 rfl (by rfl)) ?_
      refine segEnd [2, 3, 7, 16, 17, 18] (T1 := (mkT 33 [(2, vI 2), (3, vP 0 0), (7, vS 1 (X * Y)), (16, vS 2 ((listOf X Y Z s).length)), (17, vN ((listOf X Y Z s).length)), (18, vN i)])) (H1 := [rB [vN X, vN Y, vN Z] 75, some ⟨nums (M.set (((((listOf X Y Z s).getD i default).x) * (Y : Int) + (((listOf X Y Z s).getD i default).y)).toNat) ((M.getD (((((listOf X Y Z s).getD i default).x) * (Y : Int) + (((listOf X Y Z s).getD i default).y)).toNat) 0) + 1)), 3, false, true⟩, some ⟨a3s (listOf X Y Z s), 74, false, true⟩, rB [vI (((listOf X Y Z s).getD i default).x), vI (((listOf X Y Z s).getD i default).y), vI (((listOf X Y Z s).getD i default).z)] 74]) (by kernel_rfl) ?_
      refine kBlk ?_
      refine kSeq ?_
      refine cReg ?_
      refine rOp (v := vN (i + 1)) (by kernel_rfl) (eAdd (k := .i64) (a := ((i : Nat) : Int)) (b := 1) (c := ((i + 1 : Nat) : Int)) (by kernel_rfl) (by kernel_rfl) (wr64 (by omega) (by omega) (by omega))) ?_
      refine segEndH [2, 3, 7, 16, 17, 18] (T1 := (mkT 33 [(2, vI 2), (3, vP 0 0), (7, vS 1 (X * Y)), (16, vS 2 ((listOf X Y Z s).length)), (17, vN ((listOf X Y Z s).length)), (18, vN (i + 1))])) (by kernel_rfl) ?_
      exact kLoop ((listOf X Y Z s).length - (i + 1)) (mkT 33 [(2, vI 2), (3, vP 0 0), (7, vS 1 (X * Y)), (16, vS 2 ((listOf X Y Z s).length)), (17, vN ((listOf X Y Z s).length)), (18, vN (i + 1))]) [rB [vN X, vN Y, vN Z] 75, some ⟨nums (M.set (((((listOf X Y Z s).getD i default).x) * (Y : Int) + (((listOf X Y Z s).getD i default).y)).toNat) ((M.getD (((((listOf X Y Z s).getD i default).x) * (Y : Int) + (((listOf X Y Z s).getD i default).y)).toNat) 0) + 1)), 3, false, true⟩, some ⟨a3s (listOf X Y Z s), 74, false, true⟩] (by omega) (wkDrop [2, 3, 7, 16, 17, 18] _ rfl rfl ((closedL ⟨clX rfl, ⟨clF (flatNums _ _ _ _), ⟨clF (flatA3 _ _ _ _), trivial⟩⟩⟩)) (by kernel_rfl) rfl) ⟨(i + 1), (M.set (((((listOf X Y Z s).getD i default).x) * (Y : Int) + (((listOf X Y Z s).getD i default).y)).toNat) ((M.getD (((((listOf X Y Z s).getD i default).x) * (Y : Int) + (((listOf X Y Z s).getD i default).y)).toNat) 0) + 1)), (by omega), (viewT_step 2 X Y Z (listOf X Y Z s) i hM rfl), rfl, rfl, rfl⟩

theorem view2 (X : Nat) (Y : Nat) (Z : Nat) (L : List A3) (hs : Sides X Y Z) (hL : HeapL X Y Z L) : Sound Try.prog 117 [.agg #[vN X, vN Y, vN Z], vU (setOf Y Z L), vI 2] [] (vS 0 (X * Y)) [some ⟨nums (viewT 2 X Y Z L L.length), 3, false, true⟩] := by
  have h := viewS2 X Y Z (setOf Y Z L) hs (hL.lt64 hs); rw [hL.eq hs] at h; exact h

set_option maxRecDepth 100000 in
set_option maxHeartbeats 4000000 in
theorem l4With2 (X : Nat) (Y : Nat) (Z : Nat) (L : List A3) (hs : Sides X Y Z) (hL : HeapL X Y Z L) : Sound Try.prog 83 [.agg #[vN X, vN Y, vN Z, vS 0 L.length], vI 2] [some ⟨a3s L, 74, false, false⟩] (vS 1 (Z + 1)) [some ⟨a3s L, 74, false, false⟩, some ⟨nums (withT 2 X Y Z L (X * Y)), 3, false, true⟩] := by
  refine sound_intro (C := cx) Try.func83 rfl (by kernel_rfl) fun hcl => ?_
  have hz := hs.size
  have hx0 := hs.x0
  have hx4 := hs.x4
  have hy0 := hs.y0
  have hy4 := hs.y4
  have hz0 := hs.z0
  have hz4 := hs.z4
  have hlen := hL.len
  have hlt := hL.lt64 hs
  have hxy : X * Y ≤ 4 * 4 := Nat.mul_le_mul (by omega) (by omega)
  have hxz : X * Z ≤ 4 * 4 := Nat.mul_le_mul (by omega) (by omega)
  have hyz : Y * Z ≤ 4 * 4 := Nat.mul_le_mul (by omega) (by omega)
  have hvl : (viewT 2 X Y Z L L.length).length = X * Y := viewT_length 2 X Y Z L L.length
  refine cSeq ?_
  refine cReg ?_
  refine segEnd [1, 2] (T1 := (mkT 32 [(1, vI 2), (2, vP 1 0)])) (H1 := [some ⟨a3s L, 74, false, false⟩, rB [vN X, vN Y, vN Z, vS 0 L.length] 40]) (by kernel_rfl) ?_
  refine kSeq ?_
  refine cSeq ?_
  refine cRegW (N := 4) [⟨[], [], [1]⟩, ⟨[], [], []⟩, ⟨[], [], [0]⟩, ⟨[], [], []⟩, ⟨[2], [], []⟩, ⟨[], [], [1]⟩, ⟨[], [], []⟩, ⟨[3], [], [0]⟩, ⟨[], [], []⟩, ⟨[], [], []⟩] 2 [2, 3] (by rfl) (by rfl) (by kernel_rfl) (by kernel_rfl) (by kernel_rfl) ⟨nmsF (flatA3 _ _ _ _), ⟨nmsX (by kernel_rfl), trivial⟩⟩ ?_
  refine segWH 2 (T1 := (mkT 32 [(1, vI 2), (2, vP 1 0), (8, .agg #[vN X, vN Y, vN Z, vS 0 L.length]), (9, vI 2)])) (by kernel_rfl) ?_
  refine rW (m := ⟨[], [], [0]⟩) (v := vN Z) rfl (by kernel_rfl) (stQ (args := [.agg #[vN X, vN Y, vN Z, vS 0 L.length], vI 2]) rfl (by kernel_rfl) (Any.lay0 [0] (l2Long2 ((X : Nat) : Int) ((Y : Nat) : Int) ((Z : Nat) : Int) L) ⟨rdF false (flatA3 _ _ _ _) rfl rfl, trivial⟩ rfl ⟨clF (flatA3 _ _ _ _), trivial⟩ rfl (by first | rfl | simp [mpV, mpA, mpS, mpP, renId, shift]) rfl) rfl (by kernel_rfl) (by kernel_rfl)) (by kernel_rfl) nr0 ?_
  refine rW (m := ⟨[], [], []⟩) (v := vN (Z + 1)) rfl (by kernel_rfl) (stId (eAdd (k := .i64) (a := ((Z : Nat) : Int)) (b := 1) (c := ((Z + 1 : Nat) : Int)) (by kernel_rfl) (by kernel_rfl) (wr64 (by omega) (by omega) (by omega))) rfl (by kernel_rfl) (by kernel_rfl) (by kernel_rfl)) (by kernel_rfl) nr0 ?_
  refine rW (m := ⟨[2], [], []⟩) (v := vS 2 (Z + 1)) rfl (by kernel_rfl) (stNew (i := 2) (v1 := vS 4 (Z + 1)) (r := ⟨nums (List.replicate (Z + 1) 0), 3, false, true⟩) (eMkNum (n := (Z + 1)) (k := .i64) (k2 := .i64) (by kernel_rfl) (by kernel_rfl) ti22 ti3 rfl rfl (by decide) (by omega)) rfl (by kernel_rfl) (by kernel_rfl) (by kernel_rfl) (by kernel_rfl) (nmF (flatNums _ _ _ _)) (clF (flatNums _ _ _ _))) (by kernel_rfl) (NRs.all ⟨nrOf (by rfl) (nmF (flatNums _ _ _ _)), trivial⟩) ?_
  refine segWH 2 (T1 := (mkT 32 [(1, vI 2), (2, vP 1 0), (8, .agg #[vN X, vN Y, vN Z, vS 0 L.length]), (9, vI 2), (10, vN Z), (11, vN (Z + 1)), (12, vS 2 (Z + 1)), (13, .agg #[vN X, vN Y, vN Z, vS 0 L.length]), (14, vI 2)])) (by kernel_rfl) ?_
  refine rW (m := ⟨[3], [], [0]⟩) (v := vS 3 (X * Y)) rfl (by kernel_rfl) (stN (i := 3) (E := [some ⟨nums (viewT 2 X Y Z L L.length), 3, false, true⟩]) (v1 := vS 4 (X * Y)) (args := [.agg #[vN X, vN Y, vN Z, vS 0 L.length], vI 2]) rfl (by kernel_rfl) (Any.lay (E := [some ⟨nums (viewT 2 X Y Z L L.length), 3, false, true⟩]) (N := 4) [0] (l2View2 X Y Z L (by first | assumption | omega | rfl | decide | exact HeapL.list _ _ _ _ | exact HeapL.nil _ _ _ | exact HeapL.all _ _ _ | (apply HeapL.lt64 <;> assumption) | (repeat' (first | assumption | apply or_lt64 | apply and_lt64 | apply andn_lt64 | apply pow_lt64 | (apply HeapL.lt64 <;> assumption)))) (by first | assumption | omega | rfl | decide | exact HeapL.list _ _ _ _ | exact HeapL.nil _ _ _ | exact HeapL.all _ _ _ | (apply HeapL.lt64 <;> assumption) | (repeat' (first | assumption | apply or_lt64 | apply and_lt64 | apply andn_lt64 | apply pow_lt64 | (apply HeapL.lt64 <;> assumption))))) ⟨rdF false (flatA3 _ _ _ _) rfl rfl, trivial⟩ rfl ⟨clF (flatA3 _ _ _ _), trivial⟩ rfl (by first | rfl | simp [mpV, mpA, mpS, mpP, renId, shift]) rfl ⟨enF (flatNums _ _ _ _) (Or.inl rfl), trivial⟩) rfl (by kernel_rfl) (by kernel_rfl) (by kernel_rfl) (by kernel_rfl) (FlatH.cons (flatNums _ _ _ _) FlatH.nil)) (by kernel_rfl) (NRs.all ⟨nrOf (by rfl) (nmF (flatNums _ _ _ _)), trivial⟩) ?_
  refine segEndW [5, 6] (T1 := (mkT 32 [(5, vS 2 (Z + 1)), (6, vS 3 (X * Y))])) (H1 := [some ⟨a3s L, 74, false, false⟩, rB [vN X, vN Y, vN Z, vS 0 L.length] 40, some ⟨nums (List.replicate (Z + 1) 0), 3, false, true⟩, some ⟨nums (viewT 2 X Y Z L L.length), 3, false, true⟩]) (by kernel_rfl) ?_
  refine kSeq ?_
  refine cSeq ?_
  refine cSeq ?_
  refine cReg ?_
  refine segEndH [5, 6, 7] (T1 := (mkT 32 [(5, vS 2 (Z + 1)), (6, vS 3 (X * Y)), (7, vI 0)])) (by kernel_rfl) ?_
  refine kSeq ?_
  refine cBlk ?_
  -- loop
  refine cLoop (fun mm T H => ∃ i : Nat, ∃ M : List Int, (i ≤ X * Y) ∧ (M = withT 2 X Y Z L i) ∧ mm = X * Y - i ∧ T = (mkT 32 [(5, vS 2 (Z + 1)), (6, vS 3 (X * Y)), (7, vN i)]) ∧ H = [some ⟨a3s L, 74, false, false⟩, rB [vN X, vN Y, vN Z, vS 0 L.length] 40, some ⟨nums M, 3, false, true⟩, some ⟨nums (viewT 2 X Y Z L L.length), 3, false, true⟩]) (X * Y - 0) (mkT 32 [(5, vS 2 (Z + 1)), (6, vS 3 (X * Y)), (7, vI 0)]) [some ⟨a3s L, 74, false, false⟩, rB [vN X, vN Y, vN Z, vS 0 L.length] 40, some ⟨nums (List.replicate (Z + 1) 0), 3, false, true⟩, some ⟨nums (viewT 2 X Y Z L L.length), 3, false, true⟩] (wkSame [5, 6, 7] (by kernel_rfl)) ?_ ?_
  · exact ⟨0, (List.replicate (Z + 1) 0), (Nat.zero_le _), (rfl), rfl, rfl, rfl⟩
  · rintro _ _ _ ⟨i, M, hi, hM, rfl, rfl, rfl⟩
    have hml : M.length = Z + 1 := (by rw [hM]; exact withT_length 2 X Y Z L i)
    refine cSeq ?_
    refine cSeq ?_
    refine cReg ?_
    refine segEndH [5, 6, 7, 19] (T1 := (mkT 32 [(5, vS 2 (Z + 1)), (6, vS 3 (X * Y)), (7, vN i), (19, .bool (decide (((i : Nat) : Int) < ((X * Y : Nat) : Int))))])) (by kernel_rfl) ?_
    refine kSeq ?_
    cases h1 : (decide (((i : Nat) : Int) < ((X * Y : Nat) : Int)) : Bool)
    ·
      (try simp only [Bool.not_eq_true', Bool.not_eq_false', decide_eq_true_eq, decide_eq_false_iff_not, beq_iff_eq, bne_iff_ne, beq_eq_false_iff_ne, bne_eq_false_iff_eq, ne_eq, Decidable.not_not, Bool.and_eq_true, Bool.and_eq_false_imp, Bool.or_eq_true, Bool.or_eq_false_iff, Bool.not_eq_true, Int.not_lt, Int.not_le, ge_iff_le, gt_iff_lt] at h1)
      refine cFalse (by kernel_rfl) ?_
      refine cExit ?_
      refine kSeqE ?_
      refine kLoopE ?_
      refine kBlkHit ?_
      refine kSeq ?_
      refine cSeq ?_
      refine cReg ?_
      refine segEndH [4] (T1 := (mkT 32 [(4, vS 2 (Z + 1))])) (by kernel_rfl) ?_
      refine kSeq ?_
      refine cRet ?_
      -- end
      have he0 : (M : List Int) = (withT 2 X Y Z L (X * Y)) := by first | omega | (rw [hM, show i = X * Y by omega])
      refine endCast (v1 := vS 1 (Z + 1)) (H1 := [some ⟨a3s L, 74, false, false⟩, some ⟨nums M, 3, false, true⟩]) (by first | rfl | ((try rw [← he0]); done) | (simp only [← he0]; done)) (by first | rfl | ((try rw [← he0]); done) | (simp only [← he0]; done)) ?_
      exact endF (Or.inr rfl) (l := [vS 2 (Z + 1)]) [0, 2] (by kernel_rfl) (by first | rfl | simp [packR, mpV, mpA, mpS, mpP, renId]) ⟨rrF (flatA3 _ _ _ _) rfl, ⟨rrF (flatNums _ _ _ _) rfl, trivial⟩⟩ rfl rfl
    ·
      (try simp only [Bool.not_eq_true', Bool.not_eq_false', decide_eq_true_eq, decide_eq_false_iff_not, beq_iff_eq, bne_iff_ne, beq_eq_false_iff_ne, bne_eq_false_iff_eq, ne_eq, Decidable.not_not, Bool.and_eq_true, Bool.and_eq_false_imp, Bool.or_eq_true, Bool.or_eq_false_iff, Bool.not_eq_true, Int.not_lt, Int.not_le, ge_iff_le, gt_iff_lt] at h1)
      have hv := view_le (d := 2) (k := i) (by omega) hs hL (by omega)
      simp only [sdN] at hv
      have hwr := withT_rng 2 X Y Z L i ((viewT 2 X Y Z L L.length).getD i 0).toNat
      rw [← hM] at hwr
      refine cTrue (by kernel_rfl) ?_
      refine cSkip ?_
      refine kSeq ?_
      refine cSeq ?_
      refine cBlk ?_
      refine cReg ?_
      refine segH 3 (T1 := (mkT 32 [(5, vS 2 (Z + 1)), (6, vS 3 (X * Y)), (7, vN i), (19, .bool true), (22, vS 2 (Z + 1)), (23, vS 3 (X * Y)), (24, vN i)])) (by kernel_rfl) ?_
      refine rOp (v := vP 3 i) (by kernel_rfl) (eIdxS (ad := ⟨3, 0, none⟩) (n := (X * Y)) (m := 0) (k := .i64) (c := ((i : Nat) : Int)) (j := i) (o := i) (by kernel_rfl) (by kernel_rfl) ti22 ti3 (rfl) (by omega) (by simp)) ?_
      refine rOp (v := vI ((viewT 2 X Y Z L L.length).getD i 0)) (by kernel_rfl) (eLdNum (ad := ⟨3, i, none⟩) (r := ⟨nums (viewT 2 X Y Z L L.length), 3, false, true⟩) (L := (viewT 2 X Y Z L L.length)) (j := i) (by kernel_rfl) (by kernel_rfl) rfl (by first | rfl | omega) (by omega) ti3 rfl) ?_
      refine rOp (v := vP 2 ((((viewT 2 X Y Z L L.length).getD i 0)).toNat)) (by kernel_rfl) (eIdxS (ad := ⟨2, 0, none⟩) (n := (Z + 1)) (m := 0) (k := .i64) (c := ((viewT 2 X Y Z L L.length).getD i 0)) (j := ((((viewT 2 X Y Z L L.length).getD i 0)).toNat)) (o := (((viewT 2 X Y Z L L.length).getD i 0)).toNat) (by kernel_rfl) (by kernel_rfl) ti22 ti3 (by omega) (by omega) (by simp)) ?_
      refine rOp (v := vI (M.getD ((((viewT 2 X Y Z L L.length).getD i 0)).toNat) 0)) (by kernel_rfl) (eLdNum (ad := ⟨2, (((viewT 2 X Y Z L L.length).getD i 0)).toNat, none⟩) (r := ⟨nums M, 3, false, true⟩) (L := M) (j := ((((viewT 2 X Y Z L L.length).getD i 0)).toNat)) (by kernel_rfl) (by kernel_rfl) rfl (by first | rfl | omega) (by omega) ti3 rfl) ?_
      refine rOp (v := vI ((M.getD ((((viewT 2 X Y Z L L.length).getD i 0)).toNat) 0) + 1)) (by kernel_rfl) (eAdd (k := .i64) (a := (M.getD ((((viewT 2 X Y Z L L.length).getD i 0)).toNat) 0)) (b := 1) (c := ((M.getD ((((viewT 2 X Y Z L L.length).getD i 0)).toNat) 0) + 1)) (by kernel_rfl) (by kernel_rfl) (wr64 (by omega) (by omega) (by omega))) ?_
      refine rOp (v := vP 2 ((((viewT 2 X Y Z L L.length).getD i 0)).toNat)) (by kernel_rfl) (eIdxS (ad := ⟨2, 0, none⟩) (n := (Z + 1)) (m := 0) (k := .i64) (c := ((viewT 2 X Y Z L L.length).getD i 0)) (j := ((((viewT 2 X Y Z L L.length).getD i 0)).toNat)) (o := (((viewT 2 X Y Z L L.length).getD i 0)).toNat) (by kernel_rfl) (by kernel_rfl) ti22 ti3 (by omega) (by omega) (by simp)) ?_
      refine rOp (v := .tuple #[]) (H' := [some ⟨a3s L, 74, false, false⟩, rB [vN X, vN Y, vN Z, vS 0 L.length] 40, some ⟨nums (M.set ((((viewT 2 X Y Z L L.length).getD i 0)).toNat) ((M.getD ((((viewT 2 X Y Z L L.length).getD i 0)).toNat) 0) + 1)), 3, false, true⟩, some ⟨nums (viewT 2 X Y Z L L.length), 3, false, true⟩]) (by kernel_rfl) (eStNum (b := 2) (o := ((((viewT 2 X Y Z L L.length).getD i 0)).toNat)) (L := M) (n := ((M.getD ((((viewT 2 X Y Z L L.length).getD i 0)).toNat) 0) + 1)) (e := 3) (bx := false) (by kernel_rfl) (by kernel_rfl) (by kernel_rfl) (by omega) ti3 rfl (by rfl)) ?_
      refine segEnd [5, 6, 7] (T1 := (mkT 32 [(5, vS 2 (Z + 1)), (6, vS 3 (X * Y)), (7, vN i)])) (H1 := [some ⟨a3s L, 74, false, false⟩, rB [vN X, vN Y, vN Z, vS 0 L.length] 40, some ⟨nums (M.set ((((viewT 2 X Y Z L L.length).getD i 0)).toNat) ((M.getD ((((viewT 2 X Y Z L L.length).getD i 0)).toNat) 0) + 1)), 3, false, true⟩, some ⟨nums (viewT 2 X Y Z L L.length), 3, false, true⟩]) (by kernel_rfl) ?_
      refine kBlk ?_
      refine kSeq ?_
      refine cReg ?_
      refine segH 1 (T1 := (mkT 32 [(5, vS 2 (Z + 1)), (6, vS 3 (X * Y)), (7, vN i), (20, vN i)])) (by kernel_rfl) ?_
      refine rOp (v := vN (i + 1)) (by kernel_rfl) (eAdd (k := .i64) (a := ((i : Nat) : Int)) (b := 1) (c := ((i + 1 : Nat) : Int)) (by kernel_rfl) (by kernel_rfl) (wr64 (by omega) (by omega) (by omega))) ?_
      refine segEndH [5, 6, 7] (T1 := (mkT 32 [(5, vS 2 (Z + 1)), (6, vS 3 (X * Y)), (7, vN (i + 1))])) (by kernel_rfl) ?_
      exact kLoop (X * Y - (i + 1)) (mkT 32 [(5, vS 2 (Z + 1)), (6, vS 3 (X * Y)), (7, vN (i + 1))]) [some ⟨a3s L, 74, false, false⟩, rB [vN X, vN Y, vN Z, vS 0 L.length] 40, some ⟨nums (M.set ((((viewT 2 X Y Z L L.length).getD i 0)).toNat) ((M.getD ((((viewT 2 X Y Z L L.length).getD i 0)).toNat) 0) + 1)), 3, false, true⟩, some ⟨nums (viewT 2 X Y Z L L.length), 3, false, true⟩] (by omega) (wkSame [5, 6, 7] (by kernel_rfl)) ⟨(i + 1), (M.set ((((viewT 2 X Y Z L L.length).getD i 0)).toNat) ((M.getD ((((viewT 2 X Y Z L L.length).getD i 0)).toNat) 0) + 1)), (by omega), (withT_step 2 X Y Z L i hM), rfl, rfl, rfl⟩

set_option maxRecDepth 100000 in
set_option maxHeartbeats 4000000 in
theorem linesWith2 (X : Nat) (Y : Nat) (Z : Nat) (L : List A3) (hs : Sides X Y Z) (hL : HeapL X Y Z L) : Sound Try.prog 87 [.agg #[vN X, vN Y, vN Z, vS 0 L.length], vI 2] [some ⟨a3s L, 74, false, false⟩] (vS 1 (Z + 1)) [some ⟨a3s L, 74, false, false⟩, some ⟨nums (withT 2 X Y Z L (X * Y)), 3, false, true⟩] := by
  refine sound_intro (C := cx) Try.func87 rfl (by kernel_rfl) fun hcl => ?_
  have hz := hs.size
  have hx0 := hs.x0
  have hx4 := hs.x4
  have hy0 := hs.y0
  have hy4 := hs.y4
  have hz0 := hs.z0
  have hz4 := hs.z4
  have hlen := hL.len
  have hlt := hL.lt64 hs
  have hxy : X * Y ≤ 4 * 4 := Nat.mul_le_mul (by omega) (by omega)
  have hxz : X * Z ≤ 4 * 4 := Nat.mul_le_mul (by omega) (by omega)
  have hyz : Y * Z ≤ 4 * 4 := Nat.mul_le_mul (by omega) (by omega)
  have hvl : (viewT 2 X Y Z L L.length).length = X * Y := viewT_length 2 X Y Z L L.length
  refine cSeq ?_
  refine cReg ?_
  refine segEnd [1, 2] (T1 := (mkT 33 [(1, vI 2), (2, vP 1 0)])) (H1 := [some ⟨a3s L, 74, false, false⟩, rB [vN X, vN Y, vN Z, vS 0 L.length] 40]) (by kernel_rfl) ?_
  refine kSeq ?_
  refine cSeq ?_
  refine cReg ?_
  refine segH 1 (T1 := (mkT 33 [(1, vI 2), (2, vP 1 0), (8, .agg #[vN X, vN Y, vN Z, vS 0 L.length])])) (by kernel_rfl) ?_
  refine rCall (v := .agg #[vN X, vN Y, vN Z]) (args := [.agg #[vN X, vN Y, vN Z, vS 0 L.length]]) (by kernel_rfl) rfl (by kernel_rfl) (Sound.lay0 [0] (boxB ((X : Nat) : Int) ((Y : Nat) : Int) ((Z : Nat) : Int) L) ⟨rdF false (flatA3 _ _ _ _) rfl rfl, trivial⟩ rfl ⟨clF (flatA3 _ _ _ _), trivial⟩ rfl (by first | rfl | simp [mpV, mpA, mpS, mpP, renId, shift]) (by first | rfl | simp [mpV, mpA, mpS, mpP, renId, shift])) ?_
  refine segH 2 (T1 := (mkT 33 [(1, vI 2), (2, vP 1 0), (8, .agg #[vN X, vN Y, vN Z, vS 0 L.length]), (9, .agg #[vN X, vN Y, vN Z]), (10, vI 2), (11, vN Z)])) (by kernel_rfl) ?_
  refine rOp (v := vN (Z + 1)) (by kernel_rfl) (eAdd (k := .i64) (a := ((Z : Nat) : Int)) (b := 1) (c := ((Z + 1 : Nat) : Int)) (by kernel_rfl) (by kernel_rfl) (wr64 (by omega) (by omega) (by omega))) ?_
  refine rOp (v := vS 2 (Z + 1)) (H' := [some ⟨a3s L, 74, false, false⟩, rB [vN X, vN Y, vN Z, vS 0 L.length] 40, some ⟨nums (List.replicate (Z + 1) 0), 3, false, true⟩]) (by kernel_rfl) (eMkNum (n := (Z + 1)) (k := .i64) (k2 := .i64) (by kernel_rfl) (by kernel_rfl) ti22 ti3 rfl rfl (by decide) (by omega)) ?_
  refine segEnd [1, 2, 5] (T1 := (mkT 33 [(1, vI 2), (2, vP 1 0), (5, vS 2 (Z + 1))])) (H1 := [some ⟨a3s L, 74, false, false⟩, rB [vN X, vN Y, vN Z, vS 0 L.length] 40, some ⟨nums (List.replicate (Z + 1) 0), 3, false, true⟩]) (by kernel_rfl) ?_
  refine kSeq ?_
  refine cSeq ?_
  refine cSeq ?_
  refine cRegW (N := 4) [⟨[], [], [1]⟩, ⟨[], [], [0]⟩, ⟨[], [], [1]⟩, ⟨[], [], [0]⟩, ⟨[], [], []⟩, ⟨[3], [], []⟩, ⟨[], [], [3]⟩, ⟨[], [], []⟩] 1 [3] (by rfl) (by rfl) (by kernel_rfl) (by kernel_rfl) (by kernel_rfl) ⟨nmsF (flatA3 _ _ _ _), ⟨nmsX (by kernel_rfl), ⟨nmsF (flatNums _ _ _ _), trivial⟩⟩⟩ ?_
  refine segWH 1 (T1 := (mkT 33 [(1, vI 2), (2, vP 1 0), (5, vS 2 (Z + 1)), (14, .agg #[vN X, vN Y, vN Z, vS 0 L.length])])) (by kernel_rfl) ?_
  refine rW (m := ⟨[], [], [0]⟩) (v := .agg #[vN X, vN Y, vN Z]) rfl (by kernel_rfl) (stQ (args := [.agg #[vN X, vN Y, vN Z, vS 0 L.length]]) rfl (by kernel_rfl) (Any.lay0 [0] (boxB ((X : Nat) : Int) ((Y : Nat) : Int) ((Z : Nat) : Int) L) ⟨rdF false (flatA3 _ _ _ _) rfl rfl, trivial⟩ rfl ⟨clF (flatA3 _ _ _ _), trivial⟩ rfl (by first | rfl | simp [mpV, mpA, mpS, mpP, renId, shift]) (by first | rfl | simp [mpV, mpA, mpS, mpP, renId, shift])) rfl (by kernel_rfl) (by kernel_rfl)) (by kernel_rfl) nr0 ?_
  refine segWH 1 (T1 := (mkT 33 [(1, vI 2), (2, vP 1 0), (5, vS 2 (Z + 1)), (14, .agg #[vN X, vN Y, vN Z, vS 0 L.length]), (15, .agg #[vN X, vN Y, vN Z]), (16, .agg #[vN X, vN Y, vN Z, vS 0 L.length])])) (by kernel_rfl) ?_
  refine rW (m := ⟨[], [], [0]⟩) (v := vU (setOf Y Z L)) rfl (by kernel_rfl) (stQ (args := [.agg #[vN X, vN Y, vN Z, vS 0 L.length]]) rfl (by kernel_rfl) (Any.lay0 [0] (cubesB X Y Z L (by first | assumption | omega | rfl | decide | exact HeapL.list _ _ _ _ | exact HeapL.nil _ _ _ | exact HeapL.all _ _ _ | (apply HeapL.lt64 <;> assumption) | (repeat' (first | assumption | apply or_lt64 | apply and_lt64 | apply andn_lt64 | apply pow_lt64 | (apply HeapL.lt64 <;> assumption)))) (by first | assumption | omega | rfl | decide | exact HeapL.list _ _ _ _ | exact HeapL.nil _ _ _ | exact HeapL.all _ _ _ | (apply HeapL.lt64 <;> assumption) | (repeat' (first | assumption | apply or_lt64 | apply and_lt64 | apply andn_lt64 | apply pow_lt64 | (apply HeapL.lt64 <;> assumption))))) ⟨rdF false (flatA3 _ _ _ _) rfl rfl, trivial⟩ rfl ⟨clF (flatA3 _ _ _ _), trivial⟩ rfl (by first | rfl | simp [mpV, mpA, mpS, mpP, renId, shift]) rfl) rfl (by kernel_rfl) (by kernel_rfl)) (by kernel_rfl) nr0 ?_
  refine segWH 1 (T1 := (mkT 33 [(1, vI 2), (2, vP 1 0), (5, vS 2 (Z + 1)), (14, .agg #[vN X, vN Y, vN Z, vS 0 L.length]), (15, .agg #[vN X, vN Y, vN Z]), (16, .agg #[vN X, vN Y, vN Z, vS 0 L.length]), (17, vU (setOf Y Z L)), (18, vI 2)])) (by kernel_rfl) ?_
  refine rW (m := ⟨[3], [], []⟩) (v := vS 3 (X * Y)) rfl (by kernel_rfl) (stN (i := 3) (E := [some ⟨nums (viewT 2 X Y Z L L.length), 3, false, true⟩]) (v1 := vS 4 (X * Y)) (args := [.agg #[vN X, vN Y, vN Z], vU (setOf Y Z L), vI 2]) rfl (by kernel_rfl) (Any.lay (E := [some ⟨nums (viewT 2 X Y Z L L.length), 3, false, true⟩]) (N := 4) [] (view2 X Y Z L (by first | assumption | omega | rfl | decide | exact HeapL.list _ _ _ _ | exact HeapL.nil _ _ _ | exact HeapL.all _ _ _ | (apply HeapL.lt64 <;> assumption) | (repeat' (first | assumption | apply or_lt64 | apply and_lt64 | apply andn_lt64 | apply pow_lt64 | (apply HeapL.lt64 <;> assumption)))) (by first | assumption | omega | rfl | decide | exact HeapL.list _ _ _ _ | exact HeapL.nil _ _ _ | exact HeapL.all _ _ _ | (apply HeapL.lt64 <;> assumption) | (repeat' (first | assumption | apply or_lt64 | apply and_lt64 | apply andn_lt64 | apply pow_lt64 | (apply HeapL.lt64 <;> assumption))))) trivial rfl trivial rfl (by first | rfl | simp [mpV, mpA, mpS, mpP, renId, shift]) rfl ⟨enF (flatNums _ _ _ _) (Or.inl rfl), trivial⟩) rfl (by kernel_rfl) (by kernel_rfl) (by kernel_rfl) (by kernel_rfl) (FlatH.cons (flatNums _ _ _ _) FlatH.nil)) (by kernel_rfl) (NRs.all ⟨nrOf (by rfl) (nmF (flatNums _ _ _ _)), trivial⟩) ?_
  refine segEndW [5, 19, 20, 21] (T1 := (mkT 33 [(5, vS 2 (Z + 1)), (19, vS 3 (X * Y)), (20, vN (X * Y)), (21, vI 0)])) (H1 := [some ⟨a3s L, 74, false, false⟩, rB [vN X, vN Y, vN Z, vS 0 L.length] 40, some ⟨nums (List.replicate (Z + 1) 0), 3, false, true⟩, some ⟨nums (viewT 2 X Y Z L L.length), 3, false, true⟩]) (by kernel_rfl) ?_
  refine kSeq ?_
  refine cBlk ?_
  -- loop
  refine cLoop (fun mm T H => ∃ i : Nat, ∃ M : List Int, (i ≤ X * Y) ∧ (M = withT 2 X Y Z L i) ∧ mm = X * Y - i ∧ T = (mkT 33 [(5, vS 2 (Z + 1)), (19, vS 3 (X * Y)), (20, vN (X * Y)), (21, vN i)]) ∧ H = [some ⟨a3s L, 74, false, false⟩, rB [vN X, vN Y, vN Z, vS 0 L.length] 40, some ⟨nums M, 3, false, true⟩, some ⟨nums (viewT 2 X Y Z L L.length), 3, false, true⟩]) (X * Y - 0) (mkT 33 [(5, vS 2 (Z + 1)), (19, vS 3 (X * Y)), (20, vN (X * Y)), (21, vI 0)]) [some ⟨a3s L, 74, false, false⟩, rB [vN X, vN Y, vN Z, vS 0 L.length] 40, some ⟨nums (List.replicate (Z + 1) 0), 3, false, true⟩, some ⟨nums (viewT 2 X Y Z L L.length), 3, false, true⟩] (wkSame [5, 19, 20, 21] (by kernel_rfl)) ?_ ?_
  · exact ⟨0, (List.replicate (Z + 1) 0), (Nat.zero_le _), (rfl), rfl, rfl, rfl⟩
  · rintro _ _ _ ⟨i, M, hi, hM, rfl, rfl, rfl⟩
    have hml : M.length = Z + 1 := (by rw [hM]; exact withT_length 2 X Y Z L i)
    refine cSeq ?_
    refine cReg ?_
    refine segEndH [5, 19, 20, 21, 22] (T1 := (mkT 33 [(5, vS 2 (Z + 1)), (19, vS 3 (X * Y)), (20, vN (X * Y)), (21, vN i), (22, .bool (decide (((i : Nat) : Int) < ((X * Y : Nat) : Int))))])) (by kernel_rfl) ?_
    refine kSeq ?_
    refine cSeq ?_
    cases h1 : (decide (((i : Nat) : Int) < ((X * Y : Nat) : Int)) : Bool)
    ·
      (try simp only [Bool.not_eq_true', Bool.not_eq_false', decide_eq_true_eq, decide_eq_false_iff_not, beq_iff_eq, bne_iff_ne, beq_eq_false_iff_ne, bne_eq_false_iff_eq, ne_eq, Decidable.not_not, Bool.and_eq_true, Bool.and_eq_false_imp, Bool.or_eq_true, Bool.or_eq_false_iff, Bool.not_eq_true, Int.not_lt, Int.not_le, ge_iff_le, gt_iff_lt] at h1)
      refine cFalse (by kernel_rfl) ?_
      refine cExit ?_
      refine kSeqE ?_
      refine kLoopE ?_
      refine kBlkHit ?_
      refine kSeq ?_
      refine cSeq ?_
      refine cReg ?_
      refine segEndH [4] (T1 := (mkT 33 [(4, vS 2 (Z + 1))])) (by kernel_rfl) ?_
      refine kSeq ?_
      refine cRet ?_
      -- end
      have he0 : (M : List Int) = (withT 2 X Y Z L (X * Y)) := by first | omega | (rw [hM, show i = X * Y by omega])
      refine endCast (v1 := vS 1 (Z + 1)) (H1 := [some ⟨a3s L, 74, false, false⟩, some ⟨nums M, 3, false, true⟩]) (by first | rfl | ((try rw [← he0]); done) | (simp only [← he0]; done)) (by first | rfl | ((try rw [← he0]); done) | (simp only [← he0]; done)) ?_
      exact endF (Or.inr rfl) (l := [vS 2 (Z + 1)]) [0, 2] (by kernel_rfl) (by first | rfl | simp [packR, mpV, mpA, mpS, mpP, renId]) ⟨rrF (flatA3 _ _ _ _) rfl, ⟨rrF (flatNums _ _ _ _) rfl, trivial⟩⟩ rfl rfl
    ·
      (try simp only [Bool.not_eq_true', Bool.not_eq_false', decide_eq_true_eq, decide_eq_false_iff_not, beq_iff_eq, bne_iff_ne, beq_eq_false_iff_ne, bne_eq_false_iff_eq, ne_eq, Decidable.not_not, Bool.and_eq_true, Bool.and_eq_false_imp, Bool.or_eq_true, Bool.or_eq_false_iff, Bool.not_eq_true, Int.not_lt, Int.not_le, ge_iff_le, gt_iff_lt] at h1)
      have hv := view_le (d := 2) (k := i) (by omega) hs hL (by omega)
      simp only [sdN] at hv
      have hwr := withT_rng 2 X Y Z L i ((viewT 2 X Y Z L L.length).getD i 0).toNat
      rw [← hM] at hwr
      refine cTrue (by kernel_rfl) ?_
      refine cSkip ?_
      refine kSeq ?_
      refine cSeq ?_
      refine cBlk ?_
      refine cSeq ?_
      refine cReg ?_
      refine rOp (v := vP 3 i) (by kernel_rfl) (eIdxS (ad := ⟨3, 0, none⟩) (n := (X * Y)) (m := 0) (k := .i64) (c := ((i : Nat) : Int)) (j := i) (o := i) (by kernel_rfl) (by kernel_rfl) ti22 ti3 (rfl) (by omega) (by simp)) ?_
      refine rOp (v := vI ((viewT 2 X Y Z L L.length).getD i 0)) (by kernel_rfl) (eLdNum (ad := ⟨3, i, none⟩) (r := ⟨nums (viewT 2 X Y Z L L.length), 3, false, true⟩) (L := (viewT 2 X Y Z L L.length)) (j := i) (by kernel_rfl) (by kernel_rfl) rfl (by first | rfl | omega) (by omega) ti3 rfl) ?_
      refine segEndH [5, 7, 19, 20, 21] (T1 := (mkT 33 [(5, vS 2 (Z + 1)), (7, vI ((viewT 2 X Y Z L L.length).getD i 0)), (19, vS 3 (X * Y)), (20, vN (X * Y)), (21, vN i)])) (by kernel_rfl) ?_
      refine kSeq ?_
      refine cReg ?_
      refine segH 2 (T1 := (mkT 33 [(5, vS 2 (Z + 1)), (7, vI ((viewT 2 X Y Z L L.length).getD i 0)), (19, vS 3 (X * Y)), (20, vN (X * Y)), (21, vN i), (25, vS 2 (Z + 1)), (26, vI ((viewT 2 X Y Z L L.length).getD i 0))])) (by kernel_rfl) ?_
      refine rOp (v := vP 2 ((((viewT 2 X Y Z L L.length).getD i 0)).toNat)) (by kernel_rfl) (eIdxS (ad := ⟨2, 0, none⟩) (n := (Z + 1)) (m := 0) (k := .i64) (c := ((viewT 2 X Y Z L L.length).getD i 0)) (j := ((((viewT 2 X Y Z L L.length).getD i 0)).toNat)) (o := (((viewT 2 X Y Z L L.length).getD i 0)).toNat) (by kernel_rfl) (by kernel_rfl) ti22 ti3 (by omega) (by omega) (by simp)) ?_
      refine rOp (v := vI (M.getD ((((viewT 2 X Y Z L L.length).getD i 0)).toNat) 0)) (by kernel_rfl) (eLdNum (ad := ⟨2, (((viewT 2 X Y Z L L.length).getD i 0)).toNat, none⟩) (r := ⟨nums M, 3, false, true⟩) (L := M) (j := ((((viewT 2 X Y Z L L.length).getD i 0)).toNat)) (by kernel_rfl) (by kernel_rfl) rfl (by first | rfl | omega) (by omega) ti3 rfl) ?_
      refine rOp (v := vI ((M.getD ((((viewT 2 X Y Z L L.length).getD i 0)).toNat) 0) + 1)) (by kernel_rfl) (eAdd (k := .i64) (a := (M.getD ((((viewT 2 X Y Z L L.length).getD i 0)).toNat) 0)) (b := 1) (c := ((M.getD ((((viewT 2 X Y Z L L.length).getD i 0)).toNat) 0) + 1)) (by kernel_rfl) (by kernel_rfl) (wr64 (by omega) (by omega) (by omega))) ?_
      refine rOp (v := vP 2 ((((viewT 2 X Y Z L L.length).getD i 0)).toNat)) (by kernel_rfl) (eIdxS (ad := ⟨2, 0, none⟩) (n := (Z + 1)) (m := 0) (k := .i64) (c := ((viewT 2 X Y Z L L.length).getD i 0)) (j := ((((viewT 2 X Y Z L L.length).getD i 0)).toNat)) (o := (((viewT 2 X Y Z L L.length).getD i 0)).toNat) (by kernel_rfl) (by kernel_rfl) ti22 ti3 (by omega) (by omega) (by simp)) ?_
      refine rOp (v := .tuple #[]) (H' := [some ⟨a3s L, 74, false, false⟩, rB [vN X, vN Y, vN Z, vS 0 L.length] 40, some ⟨nums (M.set ((((viewT 2 X Y Z L L.length).getD i 0)).toNat) ((M.getD ((((viewT 2 X Y Z L L.length).getD i 0)).toNat) 0) + 1)), 3, false, true⟩, some ⟨nums (viewT 2 X Y Z L L.length), 3, false, true⟩]) (by kernel_rfl) (eStNum (b := 2) (o := ((((viewT 2 X Y Z L L.length).getD i 0)).toNat)) (L := M) (n := ((M.getD ((((viewT 2 X Y Z L L.length).getD i 0)).toNat) 0) + 1)) (e := 3) (bx := false) (by kernel_rfl) (by kernel_rfl) (by kernel_rfl) (by omega) ti3 rfl (by rfl)) ?_
      refine segEnd [5, 19, 20, 21] (T1 := (mkT 33 [(5, vS 2 (Z + 1)), (19, vS 3 (X * Y)), (20, vN (X * Y)), (21, vN i)])) (H1 := [some ⟨a3s L, 74, false, false⟩, rB [vN X, vN Y, vN Z, vS 0 L.length] 40, some ⟨nums (M.set ((((viewT 2 X Y Z L L.length).getD i 0)).toNat) ((M.getD ((((viewT 2 X Y Z L L.length).getD i 0)).toNat) 0) + 1)), 3, false, true⟩, some ⟨nums (viewT 2 X Y Z L L.length), 3, false, true⟩]) (by kernel_rfl) ?_
      refine kBlk ?_
      refine kSeq ?_
      refine cReg ?_
      refine rOp (v := vN (i + 1)) (by kernel_rfl) (eAdd (k := .i64) (a := ((i : Nat) : Int)) (b := 1) (c := ((i + 1 : Nat) : Int)) (by kernel_rfl) (by kernel_rfl) (wr64 (by omega) (by omega) (by omega))) ?_
      refine segEndH [5, 19, 20, 21] (T1 := (mkT 33 [(5, vS 2 (Z + 1)), (19, vS 3 (X * Y)), (20, vN (X * Y)), (21, vN (i + 1))])) (by kernel_rfl) ?_
      exact kLoop (X * Y - (i + 1)) (mkT 33 [(5, vS 2 (Z + 1)), (19, vS 3 (X * Y)), (20, vN (X * Y)), (21, vN (i + 1))]) [some ⟨a3s L, 74, false, false⟩, rB [vN X, vN Y, vN Z, vS 0 L.length] 40, some ⟨nums (M.set ((((viewT 2 X Y Z L L.length).getD i 0)).toNat) ((M.getD ((((viewT 2 X Y Z L L.length).getD i 0)).toNat) 0) + 1)), 3, false, true⟩, some ⟨nums (viewT 2 X Y Z L L.length), 3, false, true⟩] (by omega) (wkSame [5, 19, 20, 21] (by kernel_rfl)) ⟨(i + 1), (M.set ((((viewT 2 X Y Z L L.length).getD i 0)).toNat) ((M.getD ((((viewT 2 X Y Z L L.length).getD i 0)).toNat) 0) + 1)), (by omega), (withT_step 2 X Y Z L i hM), rfl, rfl, rfl⟩

set_option maxRecDepth 100000 in
set_option maxHeartbeats 4000000 in
theorem isDirB (k : Int)  : Sound Try.prog 86 [vI k] [] (.bool (inR k 0 2)) [] := by
  refine sound_intro (C := cx) Try.func86 rfl (by kernel_rfl) fun hcl => ?_
  refine cSeq ?_
  refine cReg ?_
  refine segEndH [0] (T1 := (mkT 5 [(0, vI k)])) (by kernel_rfl) ?_
  refine kSeq ?_
  refine cSeq ?_
  refine cReg ?_
  refine segH 1 (T1 := (mkT 5 [(0, vI k), (3, vI k)])) (by kernel_rfl) ?_
  refine rCall (v := .bool (inR k 0 2)) (args := [vI k, vI 0, vI 2]) (by kernel_rfl) rfl (by kernel_rfl) (Sound.lay0 [] (withinB k 0 2) trivial rfl trivial rfl (by first | rfl | simp [mpV, mpA, mpS, mpP, renId, shift]) rfl) ?_
  refine segEndH [2] (T1 := (mkT 5 [(2, .bool (inR k 0 2))])) (by kernel_rfl) ?_
  refine kSeq ?_
  refine cRet ?_
  -- end
  exact endQ (Or.inr rfl) (l := [.bool (inR k 0 2)]) [] (by kernel_rfl) (by first | rfl | kernel_rfl) rfl rfl hcl rfl

set_option maxRecDepth 100000 in
set_option maxHeartbeats 4000000 in
theorem specFullLines_no1 (x : Int) (y : Int) (z : Int) (k : Int) (L : List A3) (hl : L.length ≤ 1048576) (hv : isHeapB x y z L = false) : Sound Try.prog 38 [.agg #[vI x, vI y, vI z, vS 0 L.length], vI k] [some ⟨a3s L, 74, false, false⟩] (.tuple #[vI 0, .bool false]) [some ⟨a3s L, 74, false, false⟩] := by
  refine sound_intro (C := cx) Try.func38 rfl (by kernel_rfl) fun hcl => ?_
  refine cSeq ?_
  refine cReg ?_
  refine segEnd [1, 2] (T1 := (mkT 22 [(1, vI k), (2, vP 1 0)])) (H1 := [some ⟨a3s L, 74, false, false⟩, rB [vI x, vI y, vI z, vS 0 L.length] 40]) (by kernel_rfl) ?_
  refine kSeq ?_
  refine cSeq ?_
  refine cSeq ?_
  refine cReg ?_
  refine segH 1 (T1 := (mkT 22 [(1, vI k), (2, vP 1 0), (6, .agg #[vI x, vI y, vI z, vS 0 L.length])])) (by kernel_rfl) ?_
  refine rCall (v := .bool false) (args := [.agg #[vI x, vI y, vI z, vS 0 L.length]]) (by kernel_rfl) rfl (by kernel_rfl) (Sound.lay0 [0] (l2HeapB_no x y z L (by first | assumption | omega | rfl | decide | exact HeapL.list _ _ _ _ | exact HeapL.nil _ _ _ | exact HeapL.all _ _ _ | (apply HeapL.lt64 <;> assumption) | (repeat' (first | assumption | apply or_lt64 | apply and_lt64 | apply andn_lt64 | apply pow_lt64 | (apply HeapL.lt64 <;> assumption)))) (by first | assumption | omega | rfl | decide | exact HeapL.list _ _ _ _ | exact HeapL.nil _ _ _ | exact HeapL.all _ _ _ | (apply HeapL.lt64 <;> assumption) | (repeat' (first | assumption | apply or_lt64 | apply and_lt64 | apply andn_lt64 | apply pow_lt64 | (apply HeapL.lt64 <;> assumption))))) ⟨rdF false (flatA3 _ _ _ _) rfl rfl, trivial⟩ rfl ⟨clF (flatA3 _ _ _ _), trivial⟩ rfl (by first | rfl | simp [mpV, mpA, mpS, mpP, renId, shift]) rfl) ?_
  refine segEndH [1, 2, 13] (T1 := (mkT 22 [(1, vI k), (2, vP 1 0), (13, .bool true)])) (by kernel_rfl) ?_
  refine kSeq ?_
  refine cTrue (by kernel_rfl) ?_
  refine cSeq ?_
  refine cReg ?_
  refine segEndH [4, 5] (T1 := (mkT 22 [(4, vI 0), (5, .bool false)])) (by kernel_rfl) ?_
  refine kSeq ?_
  refine cRet ?_
  refine kSeqR ?_
  -- end
  exact endQ (Or.inr rfl) (l := [vI 0, .bool false]) [rB [vI x, vI y, vI z, vS 0 L.length] 40] (by kernel_rfl) (by first | rfl | kernel_rfl) rfl rfl hcl rfl

set_option maxRecDepth 100000 in
set_option maxHeartbeats 4000000 in
theorem specFullLines_no2 (X : Nat) (Y : Nat) (Z : Nat) (L : List A3) (k : Int) (hs : Sides X Y Z) (hL : HeapL X Y Z L) (hk : inR k 0 2 = false) : Sound Try.prog 38 [.agg #[vN X, vN Y, vN Z, vS 0 L.length], vI k] [some ⟨a3s L, 74, false, false⟩] (.tuple #[vI 0, .bool false]) [some ⟨a3s L, 74, false, false⟩] := by
  refine sound_intro (C := cx) Try.func38 rfl (by kernel_rfl) fun hcl => ?_
  have hz := hs.size
  have hx0 := hs.x0
  have hx4 := hs.x4
  have hy0 := hs.y0
  have hy4 := hs.y4
  have hz0 := hs.z0
  have hz4 := hs.z4
  have hlen := hL.len
  have hlt := hL.lt64 hs
  refine cSeq ?_
  refine cReg ?_
  refine segEnd [1, 2] (T1 := (mkT 22 [(1, vI k), (2, vP 1 0)])) (H1 := [some ⟨a3s L, 74, false, false⟩, rB [vN X, vN Y, vN Z, vS 0 L.length] 40]) (by kernel_rfl) ?_
  refine kSeq ?_
  refine cSeq ?_
  refine cSeq ?_
  refine cReg ?_
  refine segH 1 (T1 := (mkT 22 [(1, vI k), (2, vP 1 0), (6, .agg #[vN X, vN Y, vN Z, vS 0 L.length])])) (by kernel_rfl) ?_
  refine rCall (v := .bool true) (args := [.agg #[vN X, vN Y, vN Z, vS 0 L.length]]) (by kernel_rfl) rfl (by kernel_rfl) (Sound.lay0 [0] (l2HeapB X Y Z L (by first | assumption | omega | rfl | decide | exact HeapL.list _ _ _ _ | exact HeapL.nil _ _ _ | exact HeapL.all _ _ _ | (apply HeapL.lt64 <;> assumption) | (repeat' (first | assumption | apply or_lt64 | apply and_lt64 | apply andn_lt64 | apply pow_lt64 | (apply HeapL.lt64 <;> assumption)))) (by first | assumption | omega | rfl | decide | exact HeapL.list _ _ _ _ | exact HeapL.nil _ _ _ | exact HeapL.all _ _ _ | (apply HeapL.lt64 <;> assumption) | (repeat' (first | assumption | apply or_lt64 | apply and_lt64 | apply andn_lt64 | apply pow_lt64 | (apply HeapL.lt64 <;> assumption))))) ⟨rdF false (flatA3 _ _ _ _) rfl rfl, trivial⟩ rfl ⟨clF (flatA3 _ _ _ _), trivial⟩ rfl (by first | rfl | simp [mpV, mpA, mpS, mpP, renId, shift]) rfl) ?_
  refine segH 3 (T1 := (mkT 22 [(1, vI k), (2, vP 1 0), (6, .agg #[vN X, vN Y, vN Z, vS 0 L.length]), (7, .bool true), (8, .bool false), (9, .bool false), (10, vI k)])) (by kernel_rfl) ?_
  refine rCall (v := .bool (inR k 0 2)) (args := [vI k, vI 0, vI 2]) (by kernel_rfl) rfl (by kernel_rfl) (Sound.lay0 [] (l1InB k 0 2) trivial rfl trivial rfl (by first | rfl | simp [mpV, mpA, mpS, mpP, renId, shift]) rfl) ?_
  refine segEndH [1, 2, 13] (T1 := (mkT 22 [(1, vI k), (2, vP 1 0), (13, .bool (!(inR k 0 2)))])) (by kernel_rfl) ?_
  refine kSeq ?_
  cases h1 : (inR k 0 2 : Bool)
  ·
    have h1k := h1
    (try simp only [Bool.not_eq_true', Bool.not_eq_false', decide_eq_true_eq, decide_eq_false_iff_not, beq_iff_eq, bne_iff_ne, beq_eq_false_iff_ne, bne_eq_false_iff_eq, ne_eq, Decidable.not_not, Bool.and_eq_true, Bool.and_eq_false_imp, Bool.or_eq_true, Bool.or_eq_false_iff, Bool.not_eq_true, Int.not_lt, Int.not_le, ge_iff_le, gt_iff_lt] at h1)
    refine cTrue (by kernel_rfl) ?_
    refine cSeq ?_
    refine cReg ?_
    refine segEndH [4, 5] (T1 := (mkT 22 [(4, vI 0), (5, .bool false)])) (by kernel_rfl) ?_
    refine kSeq ?_
    refine cRet ?_
    refine kSeqR ?_
    -- end
    exact endQ (Or.inr rfl) (l := [vI 0, .bool false]) [rB [vN X, vN Y, vN Z, vS 0 L.length] 40] (by kernel_rfl) (by first | rfl | kernel_rfl) rfl rfl hcl rfl
  ·
    have h1k := h1
    (try simp only [Bool.not_eq_true', Bool.not_eq_false', decide_eq_true_eq, decide_eq_false_iff_not, beq_iff_eq, bne_iff_ne, beq_eq_false_iff_ne, bne_eq_false_iff_eq, ne_eq, Decidable.not_not, Bool.and_eq_true, Bool.and_eq_false_imp, Bool.or_eq_true, Bool.or_eq_false_iff, Bool.not_eq_true, Int.not_lt, Int.not_le, ge_iff_le, gt_iff_lt] at h1)
    exfalso; simp_all

set_option maxRecDepth 100000 in
set_option maxHeartbeats 4000000 in
theorem specFullLines_0 (X : Nat) (Y : Nat) (Z : Nat) (L : List A3) (hs : Sides X Y Z) (hL : HeapL X Y Z L) : Sound Try.prog 38 [.agg #[vN X, vN Y, vN Z, vS 0 L.length], vI 0] [some ⟨a3s L, 74, false, false⟩] (.tuple #[vI ((withT 0 X Y Z L (Y * Z)).getD X 0), .bool true]) [some ⟨a3s L, 74, false, false⟩] := by
  refine sound_intro (C := cx) Try.func38 rfl (by kernel_rfl) fun hcl => ?_
  have hz := hs.size
  have hx0 := hs.x0
  have hx4 := hs.x4
  have hy0 := hs.y0
  have hy4 := hs.y4
  have hz0 := hs.z0
  have hz4 := hs.z4
  have hlen := hL.len
  have hlt := hL.lt64 hs
  have hxy : X * Y ≤ 4 * 4 := Nat.mul_le_mul (by omega) (by omega)
  have hxz : X * Z ≤ 4 * 4 := Nat.mul_le_mul (by omega) (by omega)
  have hyz : Y * Z ≤ 4 * 4 := Nat.mul_le_mul (by omega) (by omega)
  have hwl : (withT 0 X Y Z L (Y * Z)).length = X + 1 := withT_length 0 X Y Z L _
  refine cSeq ?_
  refine cReg ?_
  refine segEnd [1, 2] (T1 := (mkT 22 [(1, vI 0), (2, vP 1 0)])) (H1 := [some ⟨a3s L, 74, false, false⟩, rB [vN X, vN Y, vN Z, vS 0 L.length] 40]) (by kernel_rfl) ?_
  refine kSeq ?_
  refine cSeq ?_
  refine cSeq ?_
  refine cReg ?_
  refine segH 1 (T1 := (mkT 22 [(1, vI 0), (2, vP 1 0), (6, .agg #[vN X, vN Y, vN Z, vS 0 L.length])])) (by kernel_rfl) ?_
  refine rCall (v := .bool true) (args := [.agg #[vN X, vN Y, vN Z, vS 0 L.length]]) (by kernel_rfl) rfl (by kernel_rfl) (Sound.lay0 [0] (l2HeapB X Y Z L (by first | assumption | omega | rfl | decide | exact HeapL.list _ _ _ _ | exact HeapL.nil _ _ _ | exact HeapL.all _ _ _ | (apply HeapL.lt64 <;> assumption) | (repeat' (first | assumption | apply or_lt64 | apply and_lt64 | apply andn_lt64 | apply pow_lt64 | (apply HeapL.lt64 <;> assumption)))) (by first | assumption | omega | rfl | decide | exact HeapL.list _ _ _ _ | exact HeapL.nil _ _ _ | exact HeapL.all _ _ _ | (apply HeapL.lt64 <;> assumption) | (repeat' (first | assumption | apply or_lt64 | apply and_lt64 | apply andn_lt64 | apply pow_lt64 | (apply HeapL.lt64 <;> assumption))))) ⟨rdF false (flatA3 _ _ _ _) rfl rfl, trivial⟩ rfl ⟨clF (flatA3 _ _ _ _), trivial⟩ rfl (by first | rfl | simp [mpV, mpA, mpS, mpP, renId, shift]) rfl) ?_
  refine segH 3 (T1 := (mkT 22 [(1, vI 0), (2, vP 1 0), (6, .agg #[vN X, vN Y, vN Z, vS 0 L.length]), (7, .bool true), (8, .bool false), (9, .bool false), (10, vI 0)])) (by kernel_rfl) ?_
  refine rCall (v := .bool (inR 0 0 2)) (args := [vI 0, vI 0, vI 2]) (by kernel_rfl) rfl (by kernel_rfl) (Sound.lay0 [] (l1InB 0 0 2) trivial rfl trivial rfl (by first | rfl | simp [mpV, mpA, mpS, mpP, renId, shift]) rfl) ?_
  refine segEndH [1, 2, 13] (T1 := (mkT 22 [(1, vI 0), (2, vP 1 0), (13, .bool (!(inR 0 0 2)))])) (by kernel_rfl) ?_
  refine kSeq ?_
  cases h1 : (inR 0 0 2 : Bool)
  ·
    (try simp only [Bool.not_eq_true', Bool.not_eq_false', decide_eq_true_eq, decide_eq_false_iff_not, beq_iff_eq, bne_iff_ne, beq_eq_false_iff_ne, bne_eq_false_iff_eq, ne_eq, Decidable.not_not, Bool.and_eq_true, Bool.and_eq_false_imp, Bool.or_eq_true, Bool.or_eq_false_iff, Bool.not_eq_true, Int.not_lt, Int.not_le, ge_iff_le, gt_iff_lt] at h1)
    exfalso; (exact absurd h1 (by decide))
  ·
    (try simp only [Bool.not_eq_true', Bool.not_eq_false', decide_eq_true_eq, decide_eq_false_iff_not, beq_iff_eq, bne_iff_ne, beq_eq_false_iff_ne, bne_eq_false_iff_eq, ne_eq, Decidable.not_not, Bool.and_eq_true, Bool.and_eq_false_imp, Bool.or_eq_true, Bool.or_eq_false_iff, Bool.not_eq_true, Int.not_lt, Int.not_le, ge_iff_le, gt_iff_lt] at h1)
    refine cFalse (by kernel_rfl) ?_
    refine cSkip ?_
    refine kSeq ?_
    refine cSeq ?_
    refine cRegW (N := 3) [⟨[], [], [1]⟩, ⟨[], [], []⟩, ⟨[2], [], [0]⟩, ⟨[], [], [1]⟩, ⟨[], [], []⟩, ⟨[], [], [0]⟩, ⟨[], [], []⟩, ⟨[], [], [2]⟩, ⟨[], [], []⟩, ⟨[], [], []⟩] 1 [2] (by rfl) (by rfl) (by kernel_rfl) (by kernel_rfl) (by kernel_rfl) ⟨nmsF (flatA3 _ _ _ _), ⟨nmsX (by kernel_rfl), trivial⟩⟩ ?_
    refine segWH 2 (T1 := (mkT 22 [(1, vI 0), (2, vP 1 0), (13, .bool false), (14, .agg #[vN X, vN Y, vN Z, vS 0 L.length]), (15, vI 0)])) (by kernel_rfl) ?_
    refine rW (m := ⟨[2], [], [0]⟩) (v := vS 2 (X + 1)) rfl (by kernel_rfl) (stN (i := 2) (E := [some ⟨nums (withT 0 X Y Z L (Y * Z)), 3, false, true⟩]) (v1 := vS 3 (X + 1)) (args := [.agg #[vN X, vN Y, vN Z, vS 0 L.length], vI 0]) rfl (by kernel_rfl) (Any.lay (E := [some ⟨nums (withT 0 X Y Z L (Y * Z)), 3, false, true⟩]) (N := 3) [0] (l4With0 X Y Z L (by first | assumption | omega | rfl | decide | exact HeapL.list _ _ _ _ | exact HeapL.nil _ _ _ | exact HeapL.all _ _ _ | (apply HeapL.lt64 <;> assumption) | (repeat' (first | assumption | apply or_lt64 | apply and_lt64 | apply andn_lt64 | apply pow_lt64 | (apply HeapL.lt64 <;> assumption)))) (by first | assumption | omega | rfl | decide | exact HeapL.list _ _ _ _ | exact HeapL.nil _ _ _ | exact HeapL.all _ _ _ | (apply HeapL.lt64 <;> assumption) | (repeat' (first | assumption | apply or_lt64 | apply and_lt64 | apply andn_lt64 | apply pow_lt64 | (apply HeapL.lt64 <;> assumption))))) ⟨rdF false (flatA3 _ _ _ _) rfl rfl, trivial⟩ rfl ⟨clF (flatA3 _ _ _ _), trivial⟩ rfl (by first | rfl | simp [mpV, mpA, mpS, mpP, renId, shift]) rfl ⟨enF (flatNums _ _ _ _) (Or.inl rfl), trivial⟩) rfl (by kernel_rfl) (by kernel_rfl) (by kernel_rfl) (by kernel_rfl) (FlatH.cons (flatNums _ _ _ _) FlatH.nil)) (by kernel_rfl) (NRs.all ⟨nrOf (by rfl) (nmF (flatNums _ _ _ _)), trivial⟩) ?_
    refine segWH 2 (T1 := (mkT 22 [(1, vI 0), (2, vP 1 0), (13, .bool false), (14, .agg #[vN X, vN Y, vN Z, vS 0 L.length]), (15, vI 0), (16, vS 2 (X + 1)), (17, .agg #[vN X, vN Y, vN Z, vS 0 L.length]), (18, vI 0)])) (by kernel_rfl) ?_
    refine rW (m := ⟨[], [], [0]⟩) (v := vN X) rfl (by kernel_rfl) (stQ (args := [.agg #[vN X, vN Y, vN Z, vS 0 L.length], vI 0]) rfl (by kernel_rfl) (Any.lay0 [0] (l2Long0 ((X : Nat) : Int) ((Y : Nat) : Int) ((Z : Nat) : Int) L) ⟨rdF false (flatA3 _ _ _ _) rfl rfl, trivial⟩ rfl ⟨clF (flatA3 _ _ _ _), trivial⟩ rfl (by first | rfl | simp [mpV, mpA, mpS, mpP, renId, shift]) rfl) rfl (by kernel_rfl) (by kernel_rfl)) (by kernel_rfl) nr0 ?_
    refine rW (m := ⟨[], [], []⟩) (v := vP 2 X) rfl (by kernel_rfl) (stId (eIdxS (ad := ⟨2, 0, none⟩) (n := (X + 1)) (m := 0) (k := .i64) (c := ((X : Nat) : Int)) (j := X) (o := X) (by kernel_rfl) (by kernel_rfl) ti22 ti3 (rfl) (by omega) (by simp)) rfl (by kernel_rfl) (by kernel_rfl) (by kernel_rfl)) (by kernel_rfl) nr0 ?_
    refine rW (m := ⟨[], [], [2]⟩) (v := vI ((withT 0 X Y Z L (Y * Z)).getD X 0)) rfl (by kernel_rfl) (stId (eLdNum (ad := ⟨2, X, none⟩) (r := ⟨nums (withT 0 X Y Z L (Y * Z)), 3, false, true⟩) (L := (withT 0 X Y Z L (Y * Z))) (j := X) (by kernel_rfl) (by kernel_rfl) rfl (by first | rfl | omega) (by omega) ti3 rfl) rfl (by kernel_rfl) (by kernel_rfl) (by kernel_rfl)) (by kernel_rfl) nr0 ?_
    refine segEndW [4, 5] (T1 := (mkT 22 [(4, vI ((withT 0 X Y Z L (Y * Z)).getD X 0)), (5, .bool true)])) (H1 := [some ⟨a3s L, 74, false, false⟩, rB [vN X, vN Y, vN Z, vS 0 L.length] 40, some ⟨nums (withT 0 X Y Z L (Y * Z)), 3, false, true⟩]) (by kernel_rfl) ?_
    refine kSeq ?_
    refine cRet ?_
    -- end
    have he0 : (((withT 0 X Y Z L (Y * Z)).getD X 0) : Int) = (withT 0 X Y Z L (Y * Z)).getD X 0 := by first | omega | assumption | rfl | (symm; assumption) | (simp_all; done)
    refine endCast (v1 := .tuple #[vI ((withT 0 X Y Z L (Y * Z)).getD X 0), .bool true]) (H1 := [some ⟨a3s L, 74, false, false⟩]) (by first | rfl | ((try rw [← he0]); done) | (simp only [← he0]; done)) (by first | rfl | ((try rw [← he0]); done) | (simp only [← he0]; done)) ?_
    exact endQ (Or.inr rfl) (l := [vI ((withT 0 X Y Z L (Y * Z)).getD X 0), .bool true]) [rB [vN X, vN Y, vN Z, vS 0 L.length] 40, some ⟨nums (withT 0 X Y Z L (Y * Z)), 3, false, true⟩] (by kernel_rfl) (by first | rfl | kernel_rfl) rfl rfl hcl rfl

set_option maxRecDepth 100000 in
set_option maxHeartbeats 4000000 in
theorem specFullLines_1 (X : Nat) (Y : Nat) (Z : Nat) (L : List A3) (hs : Sides X Y Z) (hL : HeapL X Y Z L) : Sound Try.prog 38 [.agg #[vN X, vN Y, vN Z, vS 0 L.length], vI 1] [some ⟨a3s L, 74, false, false⟩] (.tuple #[vI ((withT 1 X Y Z L (X * Z)).getD Y 0), .bool true]) [some ⟨a3s L, 74, false, false⟩] := by
  refine sound_intro (C := cx) Try.func38 rfl (by kernel_rfl) fun hcl => ?_
  have hz := hs.size
  have hx0 := hs.x0
  have hx4 := hs.x4
  have hy0 := hs.y0
  have hy4 := hs.y4
  have hz0 := hs.z0
  have hz4 := hs.z4
  have hlen := hL.len
  have hlt := hL.lt64 hs
  have hxy : X * Y ≤ 4 * 4 := Nat.mul_le_mul (by omega) (by omega)
  have hxz : X * Z ≤ 4 * 4 := Nat.mul_le_mul (by omega) (by omega)
  have hyz : Y * Z ≤ 4 * 4 := Nat.mul_le_mul (by omega) (by omega)
  have hwl : (withT 1 X Y Z L (X * Z)).length = Y + 1 := withT_length 1 X Y Z L _
  refine cSeq ?_
  refine cReg ?_
  refine segEnd [1, 2] (T1 := (mkT 22 [(1, vI 1), (2, vP 1 0)])) (H1 := [some ⟨a3s L, 74, false, false⟩, rB [vN X, vN Y, vN Z, vS 0 L.length] 40]) (by kernel_rfl) ?_
  refine kSeq ?_
  refine cSeq ?_
  refine cSeq ?_
  refine cReg ?_
  refine segH 1 (T1 := (mkT 22 [(1, vI 1), (2, vP 1 0), (6, .agg #[vN X, vN Y, vN Z, vS 0 L.length])])) (by kernel_rfl) ?_
  refine rCall (v := .bool true) (args := [.agg #[vN X, vN Y, vN Z, vS 0 L.length]]) (by kernel_rfl) rfl (by kernel_rfl) (Sound.lay0 [0] (l2HeapB X Y Z L (by first | assumption | omega | rfl | decide | exact HeapL.list _ _ _ _ | exact HeapL.nil _ _ _ | exact HeapL.all _ _ _ | (apply HeapL.lt64 <;> assumption) | (repeat' (first | assumption | apply or_lt64 | apply and_lt64 | apply andn_lt64 | apply pow_lt64 | (apply HeapL.lt64 <;> assumption)))) (by first | assumption | omega | rfl | decide | exact HeapL.list _ _ _ _ | exact HeapL.nil _ _ _ | exact HeapL.all _ _ _ | (apply HeapL.lt64 <;> assumption) | (repeat' (first | assumption | apply or_lt64 | apply and_lt64 | apply andn_lt64 | apply pow_lt64 | (apply HeapL.lt64 <;> assumption))))) ⟨rdF false (flatA3 _ _ _ _) rfl rfl, trivial⟩ rfl ⟨clF (flatA3 _ _ _ _), trivial⟩ rfl (by first | rfl | simp [mpV, mpA, mpS, mpP, renId, shift]) rfl) ?_
  refine segH 3 (T1 := (mkT 22 [(1, vI 1), (2, vP 1 0), (6, .agg #[vN X, vN Y, vN Z, vS 0 L.length]), (7, .bool true), (8, .bool false), (9, .bool false), (10, vI 1)])) (by kernel_rfl) ?_
  refine rCall (v := .bool (inR 1 0 2)) (args := [vI 1, vI 0, vI 2]) (by kernel_rfl) rfl (by kernel_rfl) (Sound.lay0 [] (l1InB 1 0 2) trivial rfl trivial rfl (by first | rfl | simp [mpV, mpA, mpS, mpP, renId, shift]) rfl) ?_
  refine segEndH [1, 2, 13] (T1 := (mkT 22 [(1, vI 1), (2, vP 1 0), (13, .bool (!(inR 1 0 2)))])) (by kernel_rfl) ?_
  refine kSeq ?_
  cases h1 : (inR 1 0 2 : Bool)
  ·
    (try simp only [Bool.not_eq_true', Bool.not_eq_false', decide_eq_true_eq, decide_eq_false_iff_not, beq_iff_eq, bne_iff_ne, beq_eq_false_iff_ne, bne_eq_false_iff_eq, ne_eq, Decidable.not_not, Bool.and_eq_true, Bool.and_eq_false_imp, Bool.or_eq_true, Bool.or_eq_false_iff, Bool.not_eq_true, Int.not_lt, Int.not_le, ge_iff_le, gt_iff_lt] at h1)
    exfalso; (exact absurd h1 (by decide))
  ·
    (try simp only [Bool.not_eq_true', Bool.not_eq_false', decide_eq_true_eq, decide_eq_false_iff_not, beq_iff_eq, bne_iff_ne, beq_eq_false_iff_ne, bne_eq_false_iff_eq, ne_eq, Decidable.not_not, Bool.and_eq_true, Bool.and_eq_false_imp, Bool.or_eq_true, Bool.or_eq_false_iff, Bool.not_eq_true, Int.not_lt, Int.not_le, ge_iff_le, gt_iff_lt] at h1)
    refine cFalse (by kernel_rfl) ?_
    refine cSkip ?_
    refine kSeq ?_
    refine cSeq ?_
    refine cRegW (N := 3) [⟨[], [], [1]⟩, ⟨[], [], []⟩, ⟨[2], [], [0]⟩, ⟨[], [], [1]⟩, ⟨[], [], []⟩, ⟨[], [], [0]⟩, ⟨[], [], []⟩, ⟨[], [], [2]⟩, ⟨[], [], []⟩, ⟨[], [], []⟩] 1 [2] (by rfl) (by rfl) (by kernel_rfl) (by kernel_rfl) (by kernel_rfl) ⟨nmsF (flatA3 _ _ _ _), ⟨nmsX (by kernel_rfl), trivial⟩⟩ ?_
    refine segWH 2 (T1 := (mkT 22 [(1, vI 1), (2, vP 1 0), (13, .bool false), (14, .agg #[vN X, vN Y, vN Z, vS 0 L.length]), (15, vI 1)])) (by kernel_rfl) ?_
    refine rW (m := ⟨[2], [], [0]⟩) (v := vS 2 (Y + 1)) rfl (by kernel_rfl) (stN (i := 2) (E := [some ⟨nums (withT 1 X Y Z L (X * Z)), 3, false, true⟩]) (v1 := vS 3 (Y + 1)) (args := [.agg #[vN X, vN Y, vN Z, vS 0 L.length], vI 1]) rfl (by kernel_rfl) (Any.lay (E := [some ⟨nums (withT 1 X Y Z L (X * Z)), 3, false, true⟩]) (N := 3) [0] (l4With1 X Y Z L (by first | assumption | omega | rfl | decide | exact HeapL.list _ _ _ _ | exact HeapL.nil _ _ _ | exact HeapL.all _ _ _ | (apply HeapL.lt64 <;> assumption) | (repeat' (first | assumption | apply or_lt64 | apply and_lt64 | apply andn_lt64 | apply pow_lt64 | (apply HeapL.lt64 <;> assumption)))) (by first | assumption | omega | rfl | decide | exact HeapL.list _ _ _ _ | exact HeapL.nil _ _ _ | exact HeapL.all _ _ _ | (apply HeapL.lt64 <;> assumption) | (repeat' (first | assumption | apply or_lt64 | apply and_lt64 | apply andn_lt64 | apply pow_lt64 | (apply HeapL.lt64 <;> assumption))))) ⟨rdF false (flatA3 _ _ _ _) rfl rfl, trivial⟩ rfl ⟨clF (flatA3 _ _ _ _), trivial⟩ rfl (by first | rfl | simp [mpV, mpA, mpS, mpP, renId, shift]) rfl ⟨enF (flatNums _ _ _ _) (Or.inl rfl), trivial⟩) rfl (by kernel_rfl) (by kernel_rfl) (by kernel_rfl) (by kernel_rfl) (FlatH.cons (flatNums _ _ _ _) FlatH.nil)) (by kernel_rfl) (NRs.all ⟨nrOf (by rfl) (nmF (flatNums _ _ _ _)), trivial⟩) ?_
    refine segWH 2 (T1 := (mkT 22 [(1, vI 1), (2, vP 1 0), (13, .bool false), (14, .agg #[vN X, vN Y, vN Z, vS 0 L.length]), (15, vI 1), (16, vS 2 (Y + 1)), (17, .agg #[vN X, vN Y, vN Z, vS 0 L.length]), (18, vI 1)])) (by kernel_rfl) ?_
    refine rW (m := ⟨[], [], [0]⟩) (v := vN Y) rfl (by kernel_rfl) (stQ (args := [.agg #[vN X, vN Y, vN Z, vS 0 L.length], vI 1]) rfl (by kernel_rfl) (Any.lay0 [0] (l2Long1 ((X : Nat) : Int) ((Y : Nat) : Int) ((Z : Nat) : Int) L) ⟨rdF false (flatA3 _ _ _ _) rfl rfl, trivial⟩ rfl ⟨clF (flatA3 _ _ _ _), trivial⟩ rfl (by first | rfl | simp [mpV, mpA, mpS, mpP, renId, shift]) rfl) rfl (by kernel_rfl) (by kernel_rfl)) (by kernel_rfl) nr0 ?_
    refine rW (m := ⟨[], [], []⟩) (v := vP 2 Y) rfl (by kernel_rfl) (stId (eIdxS (ad := ⟨2, 0, none⟩) (n := (Y + 1)) (m := 0) (k := .i64) (c := ((Y : Nat) : Int)) (j := Y) (o := Y) (by kernel_rfl) (by kernel_rfl) ti22 ti3 (rfl) (by omega) (by simp)) rfl (by kernel_rfl) (by kernel_rfl) (by kernel_rfl)) (by kernel_rfl) nr0 ?_
    refine rW (m := ⟨[], [], [2]⟩) (v := vI ((withT 1 X Y Z L (X * Z)).getD Y 0)) rfl (by kernel_rfl) (stId (eLdNum (ad := ⟨2, Y, none⟩) (r := ⟨nums (withT 1 X Y Z L (X * Z)), 3, false, true⟩) (L := (withT 1 X Y Z L (X * Z))) (j := Y) (by kernel_rfl) (by kernel_rfl) rfl (by first | rfl | omega) (by omega) ti3 rfl) rfl (by kernel_rfl) (by kernel_rfl) (by kernel_rfl)) (by kernel_rfl) nr0 ?_
    refine segEndW [4, 5] (T1 := (mkT 22 [(4, vI ((withT 1 X Y Z L (X * Z)).getD Y 0)), (5, .bool true)])) (H1 := [some ⟨a3s L, 74, false, false⟩, rB [vN X, vN Y, vN Z, vS 0 L.length] 40, some ⟨nums (withT 1 X Y Z L (X * Z)), 3, false, true⟩]) (by kernel_rfl) ?_
    refine kSeq ?_
    refine cRet ?_
    -- end
    have he0 : (((withT 1 X Y Z L (X * Z)).getD Y 0) : Int) = (withT 1 X Y Z L (X * Z)).getD Y 0 := by first | omega | assumption | rfl | (symm; assumption) | (simp_all; done)
    refine endCast (v1 := .tuple #[vI ((withT 1 X Y Z L (X * Z)).getD Y 0), .bool true]) (H1 := [some ⟨a3s L, 74, false, false⟩]) (by first | rfl | ((try rw [← he0]); done) | (simp only [← he0]; done)) (by first | rfl | ((try rw [← he0]); done) | (simp only [← he0]; done)) ?_
    exact endQ (Or.inr rfl) (l := [vI ((withT 1 X Y Z L (X * Z)).getD Y 0), .bool true]) [rB [vN X, vN Y, vN Z, vS 0 L.length] 40, some ⟨nums (withT 1 X Y Z L (X * Z)), 3, false, true⟩] (by kernel_rfl) (by first | rfl | kernel_rfl) rfl rfl hcl rfl

set_option maxRecDepth 100000 in
set_option maxHeartbeats 4000000 in
theorem specFullLines_2 (X : Nat) (Y : Nat) (Z : Nat) (L : List A3) (hs : Sides X Y Z) (hL : HeapL X Y Z L) : Sound Try.prog 38 [.agg #[vN X, vN Y, vN Z, vS 0 L.length], vI 2] [some ⟨a3s L, 74, false, false⟩] (.tuple #[vI ((withT 2 X Y Z L (X * Y)).getD Z 0), .bool true]) [some ⟨a3s L, 74, false, false⟩] := by
  refine sound_intro (C := cx) Try.func38 rfl (by kernel_rfl) fun hcl => ?_
  have hz := hs.size
  have hx0 := hs.x0
  have hx4 := hs.x4
  have hy0 := hs.y0
  have hy4 := hs.y4
  have hz0 := hs.z0
  have hz4 := hs.z4
  have hlen := hL.len
  have hlt := hL.lt64 hs
  have hxy : X * Y ≤ 4 * 4 := Nat.mul_le_mul (by omega) (by omega)
  have hxz : X * Z ≤ 4 * 4 := Nat.mul_le_mul (by omega) (by omega)
  have hyz : Y * Z ≤ 4 * 4 := Nat.mul_le_mul (by omega) (by omega)
  have hwl : (withT 2 X Y Z L (X * Y)).length = Z + 1 := withT_length 2 X Y Z L _
  refine cSeq ?_
  refine cReg ?_
  refine segEnd [1, 2] (T1 := (mkT 22 [(1, vI 2), (2, vP 1 0)])) (H1 := [some ⟨a3s L, 74, false, false⟩, rB [vN X, vN Y, vN Z, vS 0 L.length] 40]) (by kernel_rfl) ?_
  refine kSeq ?_
  refine cSeq ?_
  refine cSeq ?_
  refine cReg ?_
  refine segH 1 (T1 := (mkT 22 [(1, vI 2), (2, vP 1 0), (6, .agg #[vN X, vN Y, vN Z, vS 0 L.length])])) (by kernel_rfl) ?_
  refine rCall (v := .bool true) (args := [.agg #[vN X, vN Y, vN Z, vS 0 L.length]]) (by kernel_rfl) rfl (by kernel_rfl) (Sound.lay0 [0] (l2HeapB X Y Z L (by first | assumption | omega | rfl | decide | exact HeapL.list _ _ _ _ | exact HeapL.nil _ _ _ | exact HeapL.all _ _ _ | (apply HeapL.lt64 <;> assumption) | (repeat' (first | assumption | apply or_lt64 | apply and_lt64 | apply andn_lt64 | apply pow_lt64 | (apply HeapL.lt64 <;> assumption)))) (by first | assumption | omega | rfl | decide | exact HeapL.list _ _ _ _ | exact HeapL.nil _ _ _ | exact HeapL.all _ _ _ | (apply HeapL.lt64 <;> assumption) | (repeat' (first | assumption | apply or_lt64 | apply and_lt64 | apply andn_lt64 | apply pow_lt64 | (apply HeapL.lt64 <;> assumption))))) ⟨rdF false (flatA3 _ _ _ _) rfl rfl, trivial⟩ rfl ⟨clF (flatA3 _ _ _ _), trivial⟩ rfl (by first | rfl | simp [mpV, mpA, mpS, mpP, renId, shift]) rfl) ?_
  refine segH 3 (T1 := (mkT 22 [(1, vI 2), (2, vP 1 0), (6, .agg #[vN X, vN Y, vN Z, vS 0 L.length]), (7, .bool true), (8, .bool false), (9, .bool false), (10, vI 2)])) (by kernel_rfl) ?_
  refine rCall (v := .bool (inR 2 0 2)) (args := [vI 2, vI 0, vI 2]) (by kernel_rfl) rfl (by kernel_rfl) (Sound.lay0 [] (l1InB 2 0 2) trivial rfl trivial rfl (by first | rfl | simp [mpV, mpA, mpS, mpP, renId, shift]) rfl) ?_
  refine segEndH [1, 2, 13] (T1 := (mkT 22 [(1, vI 2), (2, vP 1 0), (13, .bool (!(inR 2 0 2)))])) (by kernel_rfl) ?_
  refine kSeq ?_
  cases h1 : (inR 2 0 2 : Bool)
  ·
    (try simp only [Bool.not_eq_true', Bool.not_eq_false', decide_eq_true_eq, decide_eq_false_iff_not, beq_iff_eq, bne_iff_ne, beq_eq_false_iff_ne, bne_eq_false_iff_eq, ne_eq, Decidable.not_not, Bool.and_eq_true, Bool.and_eq_false_imp, Bool.or_eq_true, Bool.or_eq_false_iff, Bool.not_eq_true, Int.not_lt, Int.not_le, ge_iff_le, gt_iff_lt] at h1)
    exfalso; (exact absurd h1 (by decide))
  ·
    (try simp only [Bool.not_eq_true', Bool.not_eq_false', decide_eq_true_eq, decide_eq_false_iff_not, beq_iff_eq, bne_iff_ne, beq_eq_false_iff_ne, bne_eq_false_iff_eq, ne_eq, Decidable.not_not, Bool.and_eq_true, Bool.and_eq_false_imp, Bool.or_eq_true, Bool.or_eq_false_iff, Bool.not_eq_true, Int.not_lt, Int.not_le, ge_iff_le, gt_iff_lt] at h1)
    refine cFalse (by kernel_rfl) ?_
    refine cSkip ?_
    refine kSeq ?_
    refine cSeq ?_
    refine cRegW (N := 3) [⟨[], [], [1]⟩, ⟨[], [], []⟩, ⟨[2], [], [0]⟩, ⟨[], [], [1]⟩, ⟨[], [], []⟩, ⟨[], [], [0]⟩, ⟨[], [], []⟩, ⟨[], [], [2]⟩, ⟨[], [], []⟩, ⟨[], [], []⟩] 1 [2] (by rfl) (by rfl) (by kernel_rfl) (by kernel_rfl) (by kernel_rfl) ⟨nmsF (flatA3 _ _ _ _), ⟨nmsX (by kernel_rfl), trivial⟩⟩ ?_
    refine segWH 2 (T1 := (mkT 22 [(1, vI 2), (2, vP 1 0), (13, .bool false), (14, .agg #[vN X, vN Y, vN Z, vS 0 L.length]), (15, vI 2)])) (by kernel_rfl) ?_
    refine rW (m := ⟨[2], [], [0]⟩) (v := vS 2 (Z + 1)) rfl (by kernel_rfl) (stN (i := 2) (E := [some ⟨nums (withT 2 X Y Z L (X * Y)), 3, false, true⟩]) (v1 := vS 3 (Z + 1)) (args := [.agg #[vN X, vN Y, vN Z, vS 0 L.length], vI 2]) rfl (by kernel_rfl) (Any.lay (E := [some ⟨nums (withT 2 X Y Z L (X * Y)), 3, false, true⟩]) (N := 3) [0] (l4With2 X Y Z L (by first | assumption | omega | rfl | decide | exact HeapL.list _ _ _ _ | exact HeapL.nil _ _ _ | exact HeapL.all _ _ _ | (apply HeapL.lt64 <;> assumption) | (repeat' (first | assumption | apply or_lt64 | apply and_lt64 | apply andn_lt64 | apply pow_lt64 | (apply HeapL.lt64 <;> assumption)))) (by first | assumption | omega | rfl | decide | exact HeapL.list _ _ _ _ | exact HeapL.nil _ _ _ | exact HeapL.all _ _ _ | (apply HeapL.lt64 <;> assumption) | (repeat' (first | assumption | apply or_lt64 | apply and_lt64 | apply andn_lt64 | apply pow_lt64 | (apply HeapL.lt64 <;> assumption))))) ⟨rdF false (flatA3 _ _ _ _) rfl rfl, trivial⟩ rfl ⟨clF (flatA3 _ _ _ _), trivial⟩ rfl (by first | rfl | simp [mpV, mpA, mpS, mpP, renId, shift]) rfl ⟨enF (flatNums _ _ _ _) (Or.inl rfl), trivial⟩) rfl (by kernel_rfl) (by kernel_rfl) (by kernel_rfl) (by kernel_rfl) (FlatH.cons (flatNums _ _ _ _) FlatH.nil)) (by kernel_rfl) (NRs.all ⟨nrOf (by rfl) (nmF (flatNums _ _ _ _)), trivial⟩) ?_
    refine segWH 2 (T1 := (mkT 22 [(1, vI 2), (2, vP 1 0), (13, .bool false), (14, .agg #[vN X, vN Y, vN Z, vS 0 L.length]), (15, vI 2), (16, vS 2 (Z + 1)), (17, .agg #[vN X, vN Y, vN Z, vS 0 L.length]), (18, vI 2)])) (by kernel_rfl) ?_
    refine rW (m := ⟨[], [], [0]⟩) (v := vN Z) rfl (by kernel_rfl) (stQ (args := [.agg #[vN X, vN Y, vN Z, vS 0 L.length], vI 2]) rfl (by kernel_rfl) (Any.lay0 [0] (l2Long2 ((X : Nat) : Int) ((Y : Nat) : Int) ((Z : Nat) : Int) L) ⟨rdF false (flatA3 _ _ _ _) rfl rfl, trivial⟩ rfl ⟨clF (flatA3 _ _ _ _), trivial⟩ rfl (by first | rfl | simp [mpV, mpA, mpS, mpP, renId, shift]) rfl) rfl (by kernel_rfl) (by kernel_rfl)) (by kernel_rfl) nr0 ?_
    refine rW (m := ⟨[], [], []⟩) (v := vP 2 Z) rfl (by kernel_rfl) (stId (eIdxS (ad := ⟨2, 0, none⟩) (n := (Z + 1)) (m := 0) (k := .i64) (c := ((Z : Nat) : Int)) (j := Z) (o := Z) (by kernel_rfl) (by kernel_rfl) ti22 ti3 (rfl) (by omega) (by simp)) rfl (by kernel_rfl) (by kernel_rfl) (by kernel_rfl)) (by kernel_rfl) nr0 ?_
    refine rW (m := ⟨[], [], [2]⟩) (v := vI ((withT 2 X Y Z L (X * Y)).getD Z 0)) rfl (by kernel_rfl) (stId (eLdNum (ad := ⟨2, Z, none⟩) (r := ⟨nums (withT 2 X Y Z L (X * Y)), 3, false, true⟩) (L := (withT 2 X Y Z L (X * Y))) (j := Z) (by kernel_rfl) (by kernel_rfl) rfl (by first | rfl | omega) (by omega) ti3 rfl) rfl (by kernel_rfl) (by kernel_rfl) (by kernel_rfl)) (by kernel_rfl) nr0 ?_
    refine segEndW [4, 5] (T1 := (mkT 22 [(4, vI ((withT 2 X Y Z L (X * Y)).getD Z 0)), (5, .bool true)])) (H1 := [some ⟨a3s L, 74, false, false⟩, rB [vN X, vN Y, vN Z, vS 0 L.length] 40, some ⟨nums (withT 2 X Y Z L (X * Y)), 3, false, true⟩]) (by kernel_rfl) ?_
    refine kSeq ?_
    refine cRet ?_
    -- end
    have he0 : (((withT 2 X Y Z L (X * Y)).getD Z 0) : Int) = (withT 2 X Y Z L (X * Y)).getD Z 0 := by first | omega | assumption | rfl | (symm; assumption) | (simp_all; done)
    refine endCast (v1 := .tuple #[vI ((withT 2 X Y Z L (X * Y)).getD Z 0), .bool true]) (H1 := [some ⟨a3s L, 74, false, false⟩]) (by first | rfl | ((try rw [← he0]); done) | (simp only [← he0]; done)) (by first | rfl | ((try rw [← he0]); done) | (simp only [← he0]; done)) ?_
    exact endQ (Or.inr rfl) (l := [vI ((withT 2 X Y Z L (X * Y)).getD Z 0), .bool true]) [rB [vN X, vN Y, vN Z, vS 0 L.length] 40, some ⟨nums (withT 2 X Y Z L (X * Y)), 3, false, true⟩] (by kernel_rfl) (by first | rfl | kernel_rfl) rfl rfl hcl rfl

set_option maxRecDepth 100000 in
set_option maxHeartbeats 4000000 in
theorem implFullLines_no1 (x : Int) (y : Int) (z : Int) (k : Int) (L : List A3) (hl : L.length ≤ 1048576) (hv : isHeapB x y z L = false) : Sound Try.prog 40 [.agg #[vI x, vI y, vI z, vS 0 L.length], vI k] [some ⟨a3s L, 74, false, false⟩] (.tuple #[vI 0, .bool false]) [some ⟨a3s L, 74, false, false⟩] := by
  refine sound_intro (C := cx) Try.func40 rfl (by kernel_rfl) fun hcl => ?_
  refine cSeq ?_
  refine cReg ?_
  refine segEnd [1, 2] (T1 := (mkT 23 [(1, vI k), (2, vP 1 0)])) (H1 := [some ⟨a3s L, 74, false, false⟩, rB [vI x, vI y, vI z, vS 0 L.length] 40]) (by kernel_rfl) ?_
  refine kSeq ?_
  refine cSeq ?_
  refine cSeq ?_
  refine cReg ?_
  refine segH 1 (T1 := (mkT 23 [(1, vI k), (2, vP 1 0), (6, .agg #[vI x, vI y, vI z, vS 0 L.length])])) (by kernel_rfl) ?_
  refine rCall (v := .bool false) (args := [.agg #[vI x, vI y, vI z, vS 0 L.length]]) (by kernel_rfl) rfl (by kernel_rfl) (Sound.lay0 [0] (isHeapBt_no x y z L (by first | assumption | omega | rfl | decide | exact HeapL.list _ _ _ _ | exact HeapL.nil _ _ _ | exact HeapL.all _ _ _ | (apply HeapL.lt64 <;> assumption) | (repeat' (first | assumption | apply or_lt64 | apply and_lt64 | apply andn_lt64 | apply pow_lt64 | (apply HeapL.lt64 <;> assumption)))) (by first | assumption | omega | rfl | decide | exact HeapL.list _ _ _ _ | exact HeapL.nil _ _ _ | exact HeapL.all _ _ _ | (apply HeapL.lt64 <;> assumption) | (repeat' (first | assumption | apply or_lt64 | apply and_lt64 | apply andn_lt64 | apply pow_lt64 | (apply HeapL.lt64 <;> assumption))))) ⟨rdF false (flatA3 _ _ _ _) rfl rfl, trivial⟩ rfl ⟨clF (flatA3 _ _ _ _), trivial⟩ rfl (by first | rfl | simp [mpV, mpA, mpS, mpP, renId, shift]) rfl) ?_
  refine segEndH [1, 2, 13] (T1 := (mkT 23 [(1, vI k), (2, vP 1 0), (13, .bool true)])) (by kernel_rfl) ?_
  refine kSeq ?_
  refine cTrue (by kernel_rfl) ?_
  refine cSeq ?_
  refine cReg ?_
  refine segEndH [4, 5] (T1 := (mkT 23 [(4, vI 0), (5, .bool false)])) (by kernel_rfl) ?_
  refine kSeq ?_
  refine cRet ?_
  refine kSeqR ?_
  -- end
  exact endQ (Or.inr rfl) (l := [vI 0, .bool false]) [rB [vI x, vI y, vI z, vS 0 L.length] 40] (by kernel_rfl) (by first | rfl | kernel_rfl) rfl rfl hcl rfl

set_option maxRecDepth 100000 in
set_option maxHeartbeats 4000000 in
theorem implFullLines_no2 (X : Nat) (Y : Nat) (Z : Nat) (L : List A3) (k : Int) (hs : Sides X Y Z) (hL : HeapL X Y Z L) (hk : inR k 0 2 = false) : Sound Try.prog 40 [.agg #[vN X, vN Y, vN Z, vS 0 L.length], vI k] [some ⟨a3s L, 74, false, false⟩] (.tuple #[vI 0, .bool false]) [some ⟨a3s L, 74, false, false⟩] := by
  refine sound_intro (C := cx) Try.func40 rfl (by kernel_rfl) fun hcl => ?_
  have hz := hs.size
  have hx0 := hs.x0
  have hx4 := hs.x4
  have hy0 := hs.y0
  have hy4 := hs.y4
  have hz0 := hs.z0
  have hz4 := hs.z4
  have hlen := hL.len
  have hlt := hL.lt64 hs
  refine cSeq ?_
  refine cReg ?_
  refine segEnd [1, 2] (T1 := (mkT 23 [(1, vI k), (2, vP 1 0)])) (H1 := [some ⟨a3s L, 74, false, false⟩, rB [vN X, vN Y, vN Z, vS 0 L.length] 40]) (by kernel_rfl) ?_
  refine kSeq ?_
  refine cSeq ?_
  refine cSeq ?_
  refine cReg ?_
  refine segH 1 (T1 := (mkT 23 [(1, vI k), (2, vP 1 0), (6, .agg #[vN X, vN Y, vN Z, vS 0 L.length])])) (by kernel_rfl) ?_
  refine rCall (v := .bool true) (args := [.agg #[vN X, vN Y, vN Z, vS 0 L.length]]) (by kernel_rfl) rfl (by kernel_rfl) (Sound.lay0 [0] (isHeapBt X Y Z L (by first | assumption | omega | rfl | decide | exact HeapL.list _ _ _ _ | exact HeapL.nil _ _ _ | exact HeapL.all _ _ _ | (apply HeapL.lt64 <;> assumption) | (repeat' (first | assumption | apply or_lt64 | apply and_lt64 | apply andn_lt64 | apply pow_lt64 | (apply HeapL.lt64 <;> assumption)))) (by first | assumption | omega | rfl | decide | exact HeapL.list _ _ _ _ | exact HeapL.nil _ _ _ | exact HeapL.all _ _ _ | (apply HeapL.lt64 <;> assumption) | (repeat' (first | assumption | apply or_lt64 | apply and_lt64 | apply andn_lt64 | apply pow_lt64 | (apply HeapL.lt64 <;> assumption))))) ⟨rdF false (flatA3 _ _ _ _) rfl rfl, trivial⟩ rfl ⟨clF (flatA3 _ _ _ _), trivial⟩ rfl (by first | rfl | simp [mpV, mpA, mpS, mpP, renId, shift]) rfl) ?_
  refine segH 3 (T1 := (mkT 23 [(1, vI k), (2, vP 1 0), (6, .agg #[vN X, vN Y, vN Z, vS 0 L.length]), (7, .bool true), (8, .bool false), (9, .bool false), (10, vI k)])) (by kernel_rfl) ?_
  refine rCall (v := .bool (inR k 0 2)) (args := [vI k]) (by kernel_rfl) rfl (by kernel_rfl) (Sound.lay0 [] (isDirB k) trivial rfl trivial rfl (by first | rfl | simp [mpV, mpA, mpS, mpP, renId, shift]) rfl) ?_
  refine segEndH [1, 2, 13] (T1 := (mkT 23 [(1, vI k), (2, vP 1 0), (13, .bool (!(inR k 0 2)))])) (by kernel_rfl) ?_
  refine kSeq ?_
  cases h1 : (inR k 0 2 : Bool)
  ·
    have h1k := h1
    (try simp only [Bool.not_eq_true', Bool.not_eq_false', decide_eq_true_eq, decide_eq_false_iff_not, beq_iff_eq, bne_iff_ne, beq_eq_false_iff_ne, bne_eq_false_iff_eq, ne_eq, Decidable.not_not, Bool.and_eq_true, Bool.and_eq_false_imp, Bool.or_eq_true, Bool.or_eq_false_iff, Bool.not_eq_true, Int.not_lt, Int.not_le, ge_iff_le, gt_iff_lt] at h1)
    refine cTrue (by kernel_rfl) ?_
    refine cSeq ?_
    refine cReg ?_
    refine segEndH [4, 5] (T1 := (mkT 23 [(4, vI 0), (5, .bool false)])) (by kernel_rfl) ?_
    refine kSeq ?_
    refine cRet ?_
    refine kSeqR ?_
    -- end
    exact endQ (Or.inr rfl) (l := [vI 0, .bool false]) [rB [vN X, vN Y, vN Z, vS 0 L.length] 40] (by kernel_rfl) (by first | rfl | kernel_rfl) rfl rfl hcl rfl
  ·
    have h1k := h1
    (try simp only [Bool.not_eq_true', Bool.not_eq_false', decide_eq_true_eq, decide_eq_false_iff_not, beq_iff_eq, bne_iff_ne, beq_eq_false_iff_ne, bne_eq_false_iff_eq, ne_eq, Decidable.not_not, Bool.and_eq_true, Bool.and_eq_false_imp, Bool.or_eq_true, Bool.or_eq_false_iff, Bool.not_eq_true, Int.not_lt, Int.not_le, ge_iff_le, gt_iff_lt] at h1)
    exfalso; simp_all

set_option maxRecDepth 100000 in
set_option maxHeartbeats 4000000 in
theorem implFullLines_0 (X : Nat) (Y : Nat) (Z : Nat) (L : List A3) (hs : Sides X Y Z) (hL : HeapL X Y Z L) : Sound Try.prog 40 [.agg #[vN X, vN Y, vN Z, vS 0 L.length], vI 0] [some ⟨a3s L, 74, false, false⟩] (.tuple #[vI ((withT 0 X Y Z L (Y * Z)).getD X 0), .bool true]) [some ⟨a3s L, 74, false, false⟩] := by
  refine sound_intro (C := cx) Try.func40 rfl (by kernel_rfl) fun hcl => ?_
  have hz := hs.size
  have hx0 := hs.x0
  have hx4 := hs.x4
  have hy0 := hs.y0
  have hy4 := hs.y4
  have hz0 := hs.z0
  have hz4 := hs.z4
  have hlen := hL.len
  have hlt := hL.lt64 hs
  have hxy : X * Y ≤ 4 * 4 := Nat.mul_le_mul (by omega) (by omega)
  have hxz : X * Z ≤ 4 * 4 := Nat.mul_le_mul (by omega) (by omega)
  have hyz : Y * Z ≤ 4 * 4 := Nat.mul_le_mul (by omega) (by omega)
  have hwl : (withT 0 X Y Z L (Y * Z)).length = X + 1 := withT_length 0 X Y Z L _
  refine cSeq ?_
  refine cReg ?_
  refine segEnd [1, 2] (T1 := (mkT 23 [(1, vI 0), (2, vP 1 0)])) (H1 := [some ⟨a3s L, 74, false, false⟩, rB [vN X, vN Y, vN Z, vS 0 L.length] 40]) (by kernel_rfl) ?_
  refine kSeq ?_
  refine cSeq ?_
  refine cSeq ?_
  refine cReg ?_
  refine segH 1 (T1 := (mkT 23 [(1, vI 0), (2, vP 1 0), (6, .agg #[vN X, vN Y, vN Z, vS 0 L.length])])) (by kernel_rfl) ?_
  refine rCall (v := .bool true) (args := [.agg #[vN X, vN Y, vN Z, vS 0 L.length]]) (by kernel_rfl) rfl (by kernel_rfl) (Sound.lay0 [0] (isHeapBt X Y Z L (by first | assumption | omega | rfl | decide | exact HeapL.list _ _ _ _ | exact HeapL.nil _ _ _ | exact HeapL.all _ _ _ | (apply HeapL.lt64 <;> assumption) | (repeat' (first | assumption | apply or_lt64 | apply and_lt64 | apply andn_lt64 | apply pow_lt64 | (apply HeapL.lt64 <;> assumption)))) (by first | assumption | omega | rfl | decide | exact HeapL.list _ _ _ _ | exact HeapL.nil _ _ _ | exact HeapL.all _ _ _ | (apply HeapL.lt64 <;> assumption) | (repeat' (first | assumption | apply or_lt64 | apply and_lt64 | apply andn_lt64 | apply pow_lt64 | (apply HeapL.lt64 <;> assumption))))) ⟨rdF false (flatA3 _ _ _ _) rfl rfl, trivial⟩ rfl ⟨clF (flatA3 _ _ _ _), trivial⟩ rfl (by first | rfl | simp [mpV, mpA, mpS, mpP, renId, shift]) rfl) ?_
  refine segH 3 (T1 := (mkT 23 [(1, vI 0), (2, vP 1 0), (6, .agg #[vN X, vN Y, vN Z, vS 0 L.length]), (7, .bool true), (8, .bool false), (9, .bool false), (10, vI 0)])) (by kernel_rfl) ?_
  refine rCall (v := .bool (inR 0 0 2)) (args := [vI 0]) (by kernel_rfl) rfl (by kernel_rfl) (Sound.lay0 [] (isDirB 0) trivial rfl trivial rfl (by first | rfl | simp [mpV, mpA, mpS, mpP, renId, shift]) rfl) ?_
  refine segEndH [1, 2, 13] (T1 := (mkT 23 [(1, vI 0), (2, vP 1 0), (13, .bool (!(inR 0 0 2)))])) (by kernel_rfl) ?_
  refine kSeq ?_
  cases h1 : (inR 0 0 2 : Bool)
  ·
    (try simp only [Bool.not_eq_true', Bool.not_eq_false', decide_eq_true_eq, decide_eq_false_iff_not, beq_iff_eq, bne_iff_ne, beq_eq_false_iff_ne, bne_eq_false_iff_eq, ne_eq, Decidable.not_not, Bool.and_eq_true, Bool.and_eq_false_imp, Bool.or_eq_true, Bool.or_eq_false_iff, Bool.not_eq_true, Int.not_lt, Int.not_le, ge_iff_le, gt_iff_lt] at h1)
    exfalso; (exact absurd h1 (by decide))
  ·
    (try simp only [Bool.not_eq_true', Bool.not_eq_false', decide_eq_true_eq, decide_eq_false_iff_not, beq_iff_eq, bne_iff_ne, beq_eq_false_iff_ne, bne_eq_false_iff_eq, ne_eq, Decidable.not_not, Bool.and_eq_true, Bool.and_eq_false_imp, Bool.or_eq_true, Bool.or_eq_false_iff, Bool.not_eq_true, Int.not_lt, Int.not_le, ge_iff_le, gt_iff_lt] at h1)
    refine cFalse (by kernel_rfl) ?_
    refine cSkip ?_
    refine kSeq ?_
    refine cSeq ?_
    refine cRegW (N := 3) [⟨[], [], [1]⟩, ⟨[], [], []⟩, ⟨[2], [], [0]⟩, ⟨[], [], [1]⟩, ⟨[], [], [0]⟩, ⟨[], [], []⟩, ⟨[], [], []⟩, ⟨[], [], []⟩, ⟨[], [], [2]⟩, ⟨[], [], []⟩, ⟨[], [], []⟩] 1 [2] (by rfl) (by rfl) (by kernel_rfl) (by kernel_rfl) (by kernel_rfl) ⟨nmsF (flatA3 _ _ _ _), ⟨nmsX (by kernel_rfl), trivial⟩⟩ ?_
    refine segWH 2 (T1 := (mkT 23 [(1, vI 0), (2, vP 1 0), (13, .bool false), (14, .agg #[vN X, vN Y, vN Z, vS 0 L.length]), (15, vI 0)])) (by kernel_rfl) ?_
    refine rW (m := ⟨[2], [], [0]⟩) (v := vS 2 (X + 1)) rfl (by kernel_rfl) (stN (i := 2) (E := [some ⟨nums (withT 0 X Y Z L (Y * Z)), 3, false, true⟩]) (v1 := vS 3 (X + 1)) (args := [.agg #[vN X, vN Y, vN Z, vS 0 L.length], vI 0]) rfl (by kernel_rfl) (Any.lay (E := [some ⟨nums (withT 0 X Y Z L (Y * Z)), 3, false, true⟩]) (N := 3) [0] (linesWith0 X Y Z L (by first | assumption | omega | rfl | decide | exact HeapL.list _ _ _ _ | exact HeapL.nil _ _ _ | exact HeapL.all _ _ _ | (apply HeapL.lt64 <;> assumption) | (repeat' (first | assumption | apply or_lt64 | apply and_lt64 | apply andn_lt64 | apply pow_lt64 | (apply HeapL.lt64 <;> assumption)))) (by first | assumption | omega | rfl | decide | exact HeapL.list _ _ _ _ | exact HeapL.nil _ _ _ | exact HeapL.all _ _ _ | (apply HeapL.lt64 <;> assumption) | (repeat' (first | assumption | apply or_lt64 | apply and_lt64 | apply andn_lt64 | apply pow_lt64 | (apply HeapL.lt64 <;> assumption))))) ⟨rdF false (flatA3 _ _ _ _) rfl rfl, trivial⟩ rfl ⟨clF (flatA3 _ _ _ _), trivial⟩ rfl (by first | rfl | simp [mpV, mpA, mpS, mpP, renId, shift]) rfl ⟨enF (flatNums _ _ _ _) (Or.inl rfl), trivial⟩) rfl (by kernel_rfl) (by kernel_rfl) (by kernel_rfl) (by kernel_rfl) (FlatH.cons (flatNums _ _ _ _) FlatH.nil)) (by kernel_rfl) (NRs.all ⟨nrOf (by rfl) (nmF (flatNums _ _ _ _)), trivial⟩) ?_
    refine segWH 1 (T1 := (mkT 23 [(1, vI 0), (2, vP 1 0), (13, .bool false), (14, .agg #[vN X, vN Y, vN Z, vS 0 L.length]), (15, vI 0), (16, vS 2 (X + 1)), (17, .agg #[vN X, vN Y, vN Z, vS 0 L.length])])) (by kernel_rfl) ?_
    refine rW (m := ⟨[], [], [0]⟩) (v := .agg #[vN X, vN Y, vN Z]) rfl (by kernel_rfl) (stQ (args := [.agg #[vN X, vN Y, vN Z, vS 0 L.length]]) rfl (by kernel_rfl) (Any.lay0 [0] (boxB ((X : Nat) : Int) ((Y : Nat) : Int) ((Z : Nat) : Int) L) ⟨rdF false (flatA3 _ _ _ _) rfl rfl, trivial⟩ rfl ⟨clF (flatA3 _ _ _ _), trivial⟩ rfl (by first | rfl | simp [mpV, mpA, mpS, mpP, renId, shift]) (by first | rfl | simp [mpV, mpA, mpS, mpP, renId, shift])) rfl (by kernel_rfl) (by kernel_rfl)) (by kernel_rfl) nr0 ?_
    refine segWH 2 (T1 := (mkT 23 [(1, vI 0), (2, vP 1 0), (13, .bool false), (14, .agg #[vN X, vN Y, vN Z, vS 0 L.length]), (15, vI 0), (16, vS 2 (X + 1)), (17, .agg #[vN X, vN Y, vN Z, vS 0 L.length]), (18, .agg #[vN X, vN Y, vN Z]), (19, vI 0), (20, vN X)])) (by kernel_rfl) ?_
    refine rW (m := ⟨[], [], []⟩) (v := vP 2 X) rfl (by kernel_rfl) (stId (eIdxS (ad := ⟨2, 0, none⟩) (n := (X + 1)) (m := 0) (k := .i64) (c := ((X : Nat) : Int)) (j := X) (o := X) (by kernel_rfl) (by kernel_rfl) ti22 ti3 (rfl) (by omega) (by simp)) rfl (by kernel_rfl) (by kernel_rfl) (by kernel_rfl)) (by kernel_rfl) nr0 ?_
    refine rW (m := ⟨[], [], [2]⟩) (v := vI ((withT 0 X Y Z L (Y * Z)).getD X 0)) rfl (by kernel_rfl) (stId (eLdNum (ad := ⟨2, X, none⟩) (r := ⟨nums (withT 0 X Y Z L (Y * Z)), 3, false, true⟩) (L := (withT 0 X Y Z L (Y * Z))) (j := X) (by kernel_rfl) (by kernel_rfl) rfl (by first | rfl | omega) (by omega) ti3 rfl) rfl (by kernel_rfl) (by kernel_rfl) (by kernel_rfl)) (by kernel_rfl) nr0 ?_
    refine segEndW [4, 5] (T1 := (mkT 23 [(4, vI ((withT 0 X Y Z L (Y * Z)).getD X 0)), (5, .bool true)])) (H1 := [some ⟨a3s L, 74, false, false⟩, rB [vN X, vN Y, vN Z, vS 0 L.length] 40, some ⟨nums (withT 0 X Y Z L (Y * Z)), 3, false, true⟩]) (by kernel_rfl) ?_
    refine kSeq ?_
    refine cRet ?_
    -- end
    have he0 : (((withT 0 X Y Z L (Y * Z)).getD X 0) : Int) = (withT 0 X Y Z L (Y * Z)).getD X 0 := by first | omega | assumption | rfl | (symm; assumption) | (simp_all; done)
    refine endCast (v1 := .tuple #[vI ((withT 0 X Y Z L (Y * Z)).getD X 0), .bool true]) (H1 := [some ⟨a3s L, 74, false, false⟩]) (by first | rfl | ((try rw [← he0]); done) | (simp only [← he0]; done)) (by first | rfl | ((try rw [← he0]); done) | (simp only [← he0]; done)) ?_
    exact endQ (Or.inr rfl) (l := [vI ((withT 0 X Y Z L (Y * Z)).getD X 0), .bool true]) [rB [vN X, vN Y, vN Z, vS 0 L.length] 40, some ⟨nums (withT 0 X Y Z L (Y * Z)), 3, false, true⟩] (by kernel_rfl) (by first | rfl | kernel_rfl) rfl rfl hcl rfl

set_option maxRecDepth 100000 in
set_option maxHeartbeats 4000000 in
theorem implFullLines_1 (X : Nat) (Y : Nat) (Z : Nat) (L : List A3) (hs : Sides X Y Z) (hL : HeapL X Y Z L) : Sound Try.prog 40 [.agg #[vN X, vN Y, vN Z, vS 0 L.length], vI 1] [some ⟨a3s L, 74, false, false⟩] (.tuple #[vI ((withT 1 X Y Z L (X * Z)).getD Y 0), .bool true]) [some ⟨a3s L, 74, false, false⟩] := by
  refine sound_intro (C := cx) Try.func40 rfl (by kernel_rfl) fun hcl => ?_
  have hz := hs.size
  have hx0 := hs.x0
  have hx4 := hs.x4
  have hy0 := hs.y0
  have hy4 := hs.y4
  have hz0 := hs.z0
  have hz4 := hs.z4
  have hlen := hL.len
  have hlt := hL.lt64 hs
  have hxy : X * Y ≤ 4 * 4 := Nat.mul_le_mul (by omega) (by omega)
  have hxz : X * Z ≤ 4 * 4 := Nat.mul_le_mul (by omega) (by omega)
  have hyz : Y * Z ≤ 4 * 4 := Nat.mul_le_mul (by omega) (by omega)
  have hwl : (withT 1 X Y Z L (X * Z)).length = Y + 1 := withT_length 1 X Y Z L _
  refine cSeq ?_
  refine cReg ?_
  refine segEnd [1, 2] (T1 := (mkT 23 [(1, vI 1), (2, vP 1 0)])) (H1 := [some ⟨a3s L, 74, false, false⟩, rB [vN X, vN Y, vN Z, vS 0 L.length] 40]) (by kernel_rfl) ?_
  refine kSeq ?_
  refine cSeq ?_
  refine cSeq ?_
  refine cReg ?_
  refine segH 1 (T1 := (mkT 23 [(1, vI 1), (2, vP 1 0), (6, .agg #[vN X, vN Y, vN Z, vS 0 L.length])])) (by kernel_rfl) ?_
  refine rCall (v := .bool true) (args := [.agg #[vN X, vN Y, vN Z, vS 0 L.length]]) (by kernel_rfl) rfl (by kernel_rfl) (Sound.lay0 [0] (isHeapBt X Y Z L (by first | assumption | omega | rfl | decide | exact HeapL.list _ _ _ _ | exact HeapL.nil _ _ _ | exact HeapL.all _ _ _ | (apply HeapL.lt64 <;> assumption) | (repeat' (first | assumption | apply or_lt64 | apply and_lt64 | apply andn_lt64 | apply pow_lt64 | (apply HeapL.lt64 <;> assumption)))) (by first | assumption | omega | rfl | decide | exact HeapL.list _ _ _ _ | exact HeapL.nil _ _ _ | exact HeapL.all _ _ _ | (apply HeapL.lt64 <;> assumption) | (repeat' (first | assumption | apply or_lt64 | apply and_lt64 | apply andn_lt64 | apply pow_lt64 | (apply HeapL.lt64 <;> assumption))))) ⟨rdF false (flatA3 _ _ _ _) rfl rfl, trivial⟩ rfl ⟨clF (flatA3 _ _ _ _), trivial⟩ rfl (by first | rfl | simp [mpV, mpA, mpS, mpP, renId, shift]) rfl) ?_
  refine segH 3 (T1 := (mkT 23 [(1, vI 1), (2, vP 1 0), (6, .agg #[vN X, vN Y, vN Z, vS 0 L.length]), (7, .bool true), (8, .bool false), (9, .bool false), (10, vI 1)])) (by kernel_rfl) ?_
  refine rCall (v := .bool (inR 1 0 2)) (args := [vI 1]) (by kernel_rfl) rfl (by kernel_rfl) (Sound.lay0 [] (isDirB 1) trivial rfl trivial rfl (by first | rfl | simp [mpV, mpA, mpS, mpP, renId, shift]) rfl) ?_
  refine segEndH [1, 2, 13] (T1 := (mkT 23 [(1, vI 1), (2, vP 1 0), (13, .bool (!(inR 1 0 2)))])) (by kernel_rfl) ?_
  refine kSeq ?_
  cases h1 : (inR 1 0 2 : Bool)
  ·
    (try simp only [Bool.not_eq_true', Bool.not_eq_false', decide_eq_true_eq, decide_eq_false_iff_not, beq_iff_eq, bne_iff_ne, beq_eq_false_iff_ne, bne_eq_false_iff_eq, ne_eq, Decidable.not_not, Bool.and_eq_true, Bool.and_eq_false_imp, Bool.or_eq_true, Bool.or_eq_false_iff, Bool.not_eq_true, Int.not_lt, Int.not_le, ge_iff_le, gt_iff_lt] at h1)
    exfalso; (exact absurd h1 (by decide))
  ·
    (try simp only [Bool.not_eq_true', Bool.not_eq_false', decide_eq_true_eq, decide_eq_false_iff_not, beq_iff_eq, bne_iff_ne, beq_eq_false_iff_ne, bne_eq_false_iff_eq, ne_eq, Decidable.not_not, Bool.and_eq_true, Bool.and_eq_false_imp, Bool.or_eq_true, Bool.or_eq_false_iff, Bool.not_eq_true, Int.not_lt, Int.not_le, ge_iff_le, gt_iff_lt] at h1)
    refine cFalse (by kernel_rfl) ?_
    refine cSkip ?_
    refine kSeq ?_
    refine cSeq ?_
    refine cRegW (N := 3) [⟨[], [], [1]⟩, ⟨[], [], []⟩, ⟨[2], [], [0]⟩, ⟨[], [], [1]⟩, ⟨[], [], [0]⟩, ⟨[], [], []⟩, ⟨[], [], []⟩, ⟨[], [], []⟩, ⟨[], [], [2]⟩, ⟨[], [], []⟩, ⟨[], [], []⟩] 1 [2] (by rfl) (by rfl) (by kernel_rfl) (by kernel_rfl) (by kernel_rfl) ⟨nmsF (flatA3 _ _ _ _), ⟨nmsX (by kernel_rfl), trivial⟩⟩ ?_
    refine segWH 2 (T1 := (mkT 23 [(1, vI 1), (2, vP 1 0), (13, .bool false), (14, .agg #[vN X, vN Y, vN Z, vS 0 L.length]), (15, vI 1)])) (by kernel_rfl) ?_
    refine rW (m := ⟨[2], [], [0]⟩) (v := vS 2 (Y + 1)) rfl (by kernel_rfl) (stN (i := 2) (E := [some ⟨nums (withT 1 X Y Z L (X * Z)), 3, false, true⟩]) (v1 := vS 3 (Y + 1)) (args := [.agg #[vN X, vN Y, vN Z, vS 0 L.length], vI 1]) rfl (by kernel_rfl) (Any.lay (E := [some ⟨nums (withT 1 X Y Z L (X * Z)), 3, false, true⟩]) (N := 3) [0] (linesWith1 X Y Z L (by first | assumption | omega | rfl | decide | exact HeapL.list _ _ _ _ | exact HeapL.nil _ _ _ | exact HeapL.all _ _ _ | (apply HeapL.lt64 <;> assumption) | (repeat' (first | assumption | apply or_lt64 | apply and_lt64 | apply andn_lt64 | apply pow_lt64 | (apply HeapL.lt64 <;> assumption)))) (by first | assumption | omega | rfl | decide | exact HeapL.list _ _ _ _ | exact HeapL.nil _ _ _ | exact HeapL.all _ _ _ | (apply HeapL.lt64 <;> assumption) | (repeat' (first | assumption | apply or_lt64 | apply and_lt64 | apply andn_lt64 | apply pow_lt64 | (apply HeapL.lt64 <;> assumption))))) ⟨rdF false (flatA3 _ _ _ _) rfl rfl, trivial⟩ rfl ⟨clF (flatA3 _ _ _ _), trivial⟩ rfl (by first | rfl | simp [mpV, mpA, mpS, mpP, renId, shift]) rfl ⟨enF (flatNums _ _ _ _) (Or.inl rfl), trivial⟩) rfl (by kernel_rfl) (by kernel_rfl) (by kernel_rfl) (by kernel_rfl) (FlatH.cons (flatNums _ _ _ _) FlatH.nil)) (by kernel_rfl) (NRs.all ⟨nrOf (by rfl) (nmF (flatNums _ _ _ _)), trivial⟩) ?_
    refine segWH 1 (T1 := (mkT 23 [(1, vI 1), (2, vP 1 0), (13, .bool false), (14, .agg #[vN X, vN Y, vN Z, vS 0 L.length]), (15, vI 1), (16, vS 2 (Y + 1)), (17, .agg #[vN X, vN Y, vN Z, vS 0 L.length])])) (by kernel_rfl) ?_
    refine rW (m := ⟨[], [], [0]⟩) (v := .agg #[vN X, vN Y, vN Z]) rfl (by kernel_rfl) (stQ (args := [.agg #[vN X, vN Y, vN Z, vS 0 L.length]]) rfl (by kernel_rfl) (Any.lay0 [0] (boxB ((X : Nat) : Int) ((Y : Nat) : Int) ((Z : Nat) : Int) L) ⟨rdF false (flatA3 _ _ _ _) rfl rfl, trivial⟩ rfl ⟨clF (flatA3 _ _ _ _), trivial⟩ rfl (by first | rfl | simp [mpV, mpA, mpS, mpP, renId, shift]) (by first | rfl | simp [mpV, mpA, mpS, mpP, renId, shift])) rfl (by kernel_rfl) (by kernel_rfl)) (by kernel_rfl) nr0 ?_
    refine segWH 2 (T1 := (mkT 23 [(1, vI 1), (2, vP 1 0), (13, .bool false), (14, .agg #[vN X, vN Y, vN Z, vS 0 L.length]), (15, vI 1), (16, vS 2 (Y + 1)), (17, .agg #[vN X, vN Y, vN Z, vS 0 L.length]), (18, .agg #[vN X, vN Y, vN Z]), (19, vI 1), (20, vN Y)])) (by kernel_rfl) ?_
    refine rW (m := ⟨[], [], []⟩) (v := vP 2 Y) rfl (by kernel_rfl) (stId (eIdxS (ad := ⟨2, 0, none⟩) (n := (Y + 1)) (m := 0) (k := .i64) (c := ((Y : Nat) : Int)) (j := Y) (o := Y) (by kernel_rfl) (by kernel_rfl) ti22 ti3 (rfl) (by omega) (by simp)) rfl (by kernel_rfl) (by kernel_rfl) (by kernel_rfl)) (by kernel_rfl) nr0 ?_
    refine rW (m := ⟨[], [], [2]⟩) (v := vI ((withT 1 X Y Z L (X * Z)).getD Y 0)) rfl (by kernel_rfl) (stId (eLdNum (ad := ⟨2, Y, none⟩) (r := ⟨nums (withT 1 X Y Z L (X * Z)), 3, false, true⟩) (L := (withT 1 X Y Z L (X * Z))) (j := Y) (by kernel_rfl) (by kernel_rfl) rfl (by first | rfl | omega) (by omega) ti3 rfl) rfl (by kernel_rfl) (by kernel_rfl) (by kernel_rfl)) (by kernel_rfl) nr0 ?_
    refine segEndW [4, 5] (T1 := (mkT 23 [(4, vI ((withT 1 X Y Z L (X * Z)).getD Y 0)), (5, .bool true)])) (H1 := [some ⟨a3s L, 74, false, false⟩, rB [vN X, vN Y, vN Z, vS 0 L.length] 40, some ⟨nums (withT 1 X Y Z L (X * Z)), 3, false, true⟩]) (by kernel_rfl) ?_
    refine kSeq ?_
    refine cRet ?_
    -- end
    have he0 : (((withT 1 X Y Z L (X * Z)).getD Y 0) : Int) = (withT 1 X Y Z L (X * Z)).getD Y 0 := by first | omega | assumption | rfl | (symm; assumption) | (simp_all; done)
    refine endCast (v1 := .tuple #[vI ((withT 1 X Y Z L (X * Z)).getD Y 0), .bool true]) (H1 := [some ⟨a3s L, 74, false, false⟩]) (by first | rfl | ((try rw [← he0]); done) | (simp only [← he0]; done)) (by first | rfl | ((try rw [← he0]); done) | (simp only [← he0]; done)) ?_
    exact endQ (Or.inr rfl) (l := [vI ((withT 1 X Y Z L (X * Z)).getD Y 0), .bool true]) [rB [vN X, vN Y, vN Z, vS 0 L.length] 40, some ⟨nums (withT 1 X Y Z L (X * Z)), 3, false, true⟩] (by kernel_rfl) (by first | rfl | kernel_rfl) rfl rfl hcl rfl

set_option maxRecDepth 100000 in
set_option maxHeartbeats 4000000 in
theorem implFullLines_2 (X : Nat) (Y : Nat) (Z : Nat) (L : List A3) (hs : Sides X Y Z) (hL : HeapL X Y Z L) : Sound Try.prog 40 [.agg #[vN X, vN Y, vN Z, vS 0 L.length], vI 2] [some ⟨a3s L, 74, false, false⟩] (.tuple #[vI ((withT 2 X Y Z L (X * Y)).getD Z 0), .bool true]) [some ⟨a3s L, 74, false, false⟩] := by
  refine sound_intro (C := cx) Try.func40 rfl (by kernel_rfl) fun hcl => ?_
  have hz := hs.size
  have hx0 := hs.x0
  have hx4 := hs.x4
  have hy0 := hs.y0
  have hy4 := hs.y4
  have hz0 := hs.z0
  have hz4 := hs.z4
  have hlen := hL.len
  have hlt := hL.lt64 hs
  have hxy : X * Y ≤ 4 * 4 := Nat.mul_le_mul (by omega) (by omega)
  have hxz : X * Z ≤ 4 * 4 := Nat.mul_le_mul (by omega) (by omega)
  have hyz : Y * Z ≤ 4 * 4 := Nat.mul_le_mul (by omega) (by omega)
  have hwl : (withT 2 X Y Z L (X * Y)).length = Z + 1 := withT_length 2 X Y Z L _
  refine cSeq ?_
  refine cReg ?_
  refine segEnd [1, 2] (T1 := (mkT 23 [(1, vI 2), (2, vP 1 0)])) (H1 := [some ⟨a3s L, 74, false, false⟩, rB [vN X, vN Y, vN Z, vS 0 L.length] 40]) (by kernel_rfl) ?_
  refine kSeq ?_
  refine cSeq ?_
  refine cSeq ?_
  refine cReg ?_
  refine segH 1 (T1 := (mkT 23 [(1, vI 2), (2, vP 1 0), (6, .agg #[vN X, vN Y, vN Z, vS 0 L.length])])) (by kernel_rfl) ?_
  refine rCall (v := .bool true) (args := [.agg #[vN X, vN Y, vN Z, vS 0 L.length]]) (by kernel_rfl) rfl (by kernel_rfl) (Sound.lay0 [0] (isHeapBt X Y Z L (by first | assumption | omega | rfl | decide | exact HeapL.list _ _ _ _ | exact HeapL.nil _ _ _ | exact HeapL.all _ _ _ | (apply HeapL.lt64 <;> assumption) | (repeat' (first | assumption | apply or_lt64 | apply and_lt64 | apply andn_lt64 | apply pow_lt64 | (apply HeapL.lt64 <;> assumption)))) (by first | assumption | omega | rfl | decide | exact HeapL.list _ _ _ _ | exact HeapL.nil _ _ _ | exact HeapL.all _ _ _ | (apply HeapL.lt64 <;> assumption) | (repeat' (first | assumption | apply or_lt64 | apply and_lt64 | apply andn_lt64 | apply pow_lt64 | (apply HeapL.lt64 <;> assumption))))) ⟨rdF false (flatA3 _ _ _ _) rfl rfl, trivial⟩ rfl ⟨clF (flatA3 _ _ _ _), trivial⟩ rfl (by first | rfl | simp [mpV, mpA, mpS, mpP, renId, shift]) rfl) ?_
  refine segH 3 (T1 := (mkT 23 [(1, vI 2), (2, vP 1 0), (6, .agg #[vN X, vN Y, vN Z, vS 0 L.length]), (7, .bool true), (8, .bool false), (9, .bool false), (10, vI 2)])) (by kernel_rfl) ?_
  refine rCall (v := .bool (inR 2 0 2)) (args := [vI 2]) (by kernel_rfl) rfl (by kernel_rfl) (Sound.lay0 [] (isDirB 2) trivial rfl trivial rfl (by first | rfl | simp [mpV, mpA, mpS, mpP, renId, shift]) rfl) ?_
  refine segEndH [1, 2, 13] (T1 := (mkT 23 [(1, vI 2), (2, vP 1 0), (13, .bool (!(inR 2 0 2)))])) (by kernel_rfl) ?_
  refine kSeq ?_
  cases h1 : (inR 2 0 2 : Bool)
  ·
    (try simp only [Bool.not_eq_true', Bool.not_eq_false', decide_eq_true_eq, decide_eq_false_iff_not, beq_iff_eq, bne_iff_ne, beq_eq_false_iff_ne, bne_eq_false_iff_eq, ne_eq, Decidable.not_not, Bool.and_eq_true, Bool.and_eq_false_imp, Bool.or_eq_true, Bool.or_eq_false_iff, Bool.not_eq_true, Int.not_lt, Int.not_le, ge_iff_le, gt_iff_lt] at h1)
    exfalso; (exact absurd h1 (by decide))
  ·
    (try simp only [Bool.not_eq_true', Bool.not_eq_false', decide_eq_true_eq, decide_eq_false_iff_not, beq_iff_eq, bne_iff_ne, beq_eq_false_iff_ne, bne_eq_false_iff_eq, ne_eq, Decidable.not_not, Bool.and_eq_true, Bool.and_eq_false_imp, Bool.or_eq_true, Bool.or_eq_false_iff, Bool.not_eq_true, Int.not_lt, Int.not_le, ge_iff_le, gt_iff_lt] at h1)
    refine cFalse (by kernel_rfl) ?_
    refine cSkip ?_
    refine kSeq ?_
    refine cSeq ?_
    refine cRegW (N := 3) [⟨[], [], [1]⟩, ⟨[], [], []⟩, ⟨[2], [], [0]⟩, ⟨[], [], [1]⟩, ⟨[], [], [0]⟩, ⟨[], [], []⟩, ⟨[], [], []⟩, ⟨[], [], []⟩, ⟨[], [], [2]⟩, ⟨[], [], []⟩, ⟨[], [], []⟩] 1 [2] (by rfl) (by rfl) (by kernel_rfl) (by kernel_rfl) (by kernel_rfl) ⟨nmsF (flatA3 _ _ _ _), ⟨nmsX (by kernel_rfl), trivial⟩⟩ ?_
    refine segWH 2 (T1 := (mkT 23 [(1, vI 2), (2, vP 1 0), (13, .bool false), (14, .agg #[vN X, vN Y, vN Z, vS 0 L.length]), (15, vI 2)])) (by kernel_rfl) ?_
    refine rW (m := ⟨[2], [], [0]⟩) (v := vS 2 (Z + 1)) rfl (by kernel_rfl) (stN (i := 2) (E := [some ⟨nums (withT 2 X Y Z L (X * Y)), 3, false, true⟩]) (v1 := vS 3 (Z + 1)) (args := [.agg #[vN X, vN Y, vN Z, vS 0 L.length], vI 2]) rfl (by kernel_rfl) (Any.lay (E := [some ⟨nums (withT 2 X Y Z L (X * Y)), 3, false, true⟩]) (N := 3) [0] (linesWith2 X Y Z L (by first | assumption | omega | rfl | decide | exact HeapL.list _ _ _ _ | exact HeapL.nil _ _ _ | exact HeapL.all _ _ _ | (apply HeapL.lt64 <;> assumption) | (repeat' (first | assumption | apply or_lt64 | apply and_lt64 | apply andn_lt64 | apply pow_lt64 | (apply HeapL.lt64 <;> assumption)))) (by first | assumption | omega | rfl | decide | exact HeapL.list _ _ _ _ | exact HeapL.nil _ _ _ | exact HeapL.all _ _ _ | (apply HeapL.lt64 <;> assumption) | (repeat' (first | assumption | apply or_lt64 | apply and_lt64 | apply andn_lt64 | apply pow_lt64 | (apply HeapL.lt64 <;> assumption))))) ⟨rdF false (flatA3 _ _ _ _) rfl rfl, trivial⟩ rfl ⟨clF (flatA3 _ _ _ _), trivial⟩ rfl (by first | rfl | simp [mpV, mpA, mpS, mpP, renId, shift]) rfl ⟨enF (flatNums _ _ _ _) (Or.inl rfl), trivial⟩) rfl (by kernel_rfl) (by kernel_rfl) (by kernel_rfl) (by kernel_rfl) (FlatH.cons (flatNums _ _ _ _) FlatH.nil)) (by kernel_rfl) (NRs.all ⟨nrOf (by rfl) (nmF (flatNums _ _ _ _)), trivial⟩) ?_
    refine segWH 1 (T1 := (mkT 23 [(1, vI 2), (2, vP 1 0), (13, .bool false), (14, .agg #[vN X, vN Y, vN Z, vS 0 L.length]), (15, vI 2), (16, vS 2 (Z + 1)), (17, .agg #[vN X, vN Y, vN Z, vS 0 L.length])])) (by kernel_rfl) ?_
    refine rW (m := ⟨[], [], [0]⟩) (v := .agg #[vN X, vN Y, vN Z]) rfl (by kernel_rfl) (stQ (args := [.agg #[vN X, vN Y, vN Z, vS 0 L.length]]) rfl (by kernel_rfl) (Any.lay0 [0] (boxB ((X : Nat) : Int) ((Y : Nat) : Int) ((Z : Nat) : Int) L) ⟨rdF false (flatA3 _ _ _ _) rfl rfl, trivial⟩ rfl ⟨clF (flatA3 _ _ _ _), trivial⟩ rfl (by first | rfl | simp [mpV, mpA, mpS, mpP, renId, shift]) (by first | rfl | simp [mpV, mpA, mpS, mpP, renId, shift])) rfl (by kernel_rfl) (by kernel_rfl)) (by kernel_rfl) nr0 ?_
    refine segWH 2 (T1 := (mkT 23 [(1, vI 2), (2, vP 1 0), (13, .bool false), (14, .agg #[vN X, vN Y, vN Z, vS 0 L.length]), (15, vI 2), (16, vS 2 (Z + 1)), (17, .agg #[vN X, vN Y, vN Z, vS 0 L.length]), (18, .agg #[vN X, vN Y, vN Z]), (19, vI 2), (20, vN Z)])) (by kernel_rfl) ?_
    refine rW (m := ⟨[], [], []⟩) (v := vP 2 Z) rfl (by kernel_rfl) (stId (eIdxS (ad := ⟨2, 0, none⟩) (n := (Z + 1)) (m := 0) (k := .i64) (c := ((Z : Nat) : Int)) (j := Z) (o := Z) (by kernel_rfl) (by kernel_rfl) ti22 ti3 (rfl) (by omega) (by simp)) rfl (by kernel_rfl) (by kernel_rfl) (by kernel_rfl)) (by kernel_rfl) nr0 ?_
    refine rW (m := ⟨[], [], [2]⟩) (v := vI ((withT 2 X Y Z L (X * Y)).getD Z 0)) rfl (by kernel_rfl) (stId (eLdNum (ad := ⟨2, Z, none⟩) (r := ⟨nums (withT 2 X Y Z L (X * Y)), 3, false, true⟩) (L := (withT 2 X Y Z L (X * Y))) (j := Z) (by kernel_rfl) (by kernel_rfl) rfl (by first | rfl | omega) (by omega) ti3 rfl) rfl (by kernel_rfl) (by kernel_rfl) (by kernel_rfl)) (by kernel_rfl) nr0 ?_
    refine segEndW [4, 5] (T1 := (mkT 23 [(4, vI ((withT 2 X Y Z L (X * Y)).getD Z 0)), (5, .bool true)])) (H1 := [some ⟨a3s L, 74, false, false⟩, rB [vN X, vN Y, vN Z, vS 0 L.length] 40, some ⟨nums (withT 2 X Y Z L (X * Y)), 3, false, true⟩]) (by kernel_rfl) ?_
    refine kSeq ?_
    refine cRet ?_
    -- end
    have he0 : (((withT 2 X Y Z L (X * Y)).getD Z 0) : Int) = (withT 2 X Y Z L (X * Y)).getD Z 0 := by first | omega | assumption | rfl | (symm; assumption) | (simp_all; done)
    refine endCast (v1 := .tuple #[vI ((withT 2 X Y Z L (X * Y)).getD Z 0), .bool true]) (H1 := [some ⟨a3s L, 74, false, false⟩]) (by first | rfl | ((try rw [← he0]); done) | (simp only [← he0]; done)) (by first | rfl | ((try rw [← he0]); done) | (simp only [← he0]; done)) ?_
    exact endQ (Or.inr rfl) (l := [vI ((withT 2 X Y Z L (X * Y)).getD Z 0), .bool true]) [rB [vN X, vN Y, vN Z, vS 0 L.length] 40, some ⟨nums (withT 2 X Y Z L (X * Y)), 3, false, true⟩] (by kernel_rfl) (by first | rfl | kernel_rfl) rfl rfl hcl rfl
end Go.Proofs.Ytbheeobnghlckaa
