import Derived.Test.YtbheeobnghlckaaAmC2
import Derived.Test.YtbheeobnghlckaaAmC1
set_option linter.unusedVariables false
set_option linter.unusedSimpArgs false
namespace Go.Am
open Go.RowKit
def incAt (M : List Int) (j : Nat) : List Int := M.set j (M.getD j 0 + 1)
@[simp] theorem incAt_length (M : List Int) (j : Nat) : (incAt M j).length = M.length := by simp [incAt]
def cntI (n : Nat) (f : Nat → Nat) : Nat → List Int
  | 0 => List.replicate n 0
  | i + 1 => incAt (cntI n f i) (f i)
@[simp] theorem cntI_length (n : Nat) (f : Nat → Nat) : ∀ i, (cntI n f i).length = n
  | 0 => by simp [cntI]
  | i + 1 => by simp [cntI, cntI_length n f i]
def lnI (d Y Z : Nat) (c : A3) : Int := match d with | 0 => c.y * (Z : Int) + c.z | 1 => c.x * (Z : Int) + c.z | _ => c.x * (Y : Int) + c.y
def nlN (d X Y Z : Nat) : Nat := match d with | 0 => Y * Z | 1 => X * Z | _ => X * Y
theorem two_lt {P Q : Nat} {a b : Int} (ha : 0 ≤ a ∧ a < P) (hb : 0 ≤ b ∧ b < Q) : 0 ≤ a * (Q : Int) ∧ 0 ≤ a * (Q : Int) + b ∧ a * (Q : Int) + b < ((P * Q : Nat) : Int) ∧ (a * (Q : Int) + b).toNat < P * Q := by
  obtain ⟨A, rfl⟩ := Int.eq_ofNat_of_zero_le ha.1
  obtain ⟨B, rfl⟩ := Int.eq_ofNat_of_zero_le hb.1
  have h1 : (A + 1) * Q ≤ P * Q := Nat.mul_le_mul_right Q (by omega)
  rw [Nat.add_mul, Nat.one_mul] at h1
  have e : ((A : Nat) : Int) * ((Q : Nat) : Int) = ((A * Q : Nat) : Int) := (Int.natCast_mul A Q).symm
  rw [e]; omega
end Go.Am
set_option linter.unusedVariables false
set_option linter.unusedSimpArgs false
namespace Go.Proofs.Ytbheeobnghlckaa
open Go.Am Go.RowKit
set_option maxRecDepth 100000 in
set_option maxHeartbeats 4000000 in
theorem others0   : Sound Try.prog 126 [vI 0] [] (.tuple #[vI 1, vI 2]) [] := by
 refine sound_intro (C := cx) Try.func126 rfl (by kernel_rfl) fun hcl => ?_
 refine cSeq ?_
 refine cReg ?_
 refine segEndH [0] (T1 := (mkT 9 [(0, vI 0)])) (by kernel_rfl) ?_
 refine kSeq ?_
 refine cSeq ?_
 refine cSeq ?_
 refine cReg ?_
 refine segEndH [4] (T1 := (mkT 9 [(4, vI 0)])) (by kernel_rfl) ?_
 refine kSeq ?_
 refine cBlk ?_
 refine cSeq ?_
 refine cReg ?_
 refine segEndH [4, 5] (T1 := (mkT 9 [(4, vI 0), (5, .bool true)])) (by kernel_rfl) ?_
 refine kSeq ?_
 refine cTrue (by kernel_rfl) ?_
 refine cSeq ?_
 refine cReg ?_
 refine segEndH [2, 3] (T1 := (mkT 9 [(2, vI 1), (3, vI 2)])) (by kernel_rfl) ?_
 refine kSeq ?_
 refine cRet ?_
 refine kBlkR ?_
 refine kSeqR ?_
 exact endQ (Or.inr rfl) (l := [vI 1, vI 2]) [] (by kernel_rfl) (by first | rfl | kernel_rfl) rfl rfl hcl rfl
set_option maxRecDepth 100000 in
set_option maxHeartbeats 4000000 in
theorem line0 (X : Nat) (Y : Nat) (Z : Nat) (a : Int) (b : Int) (c : Int) (hs : Sides X Y Z) (hh : has3 (X : Int) (Y : Int) (Z : Int) a b c = true) : Sound Try.prog 98 [.agg #[vN X, vN Y, vN Z], .agg #[vI a, vI b, vI c], vI 0] [] (vI (b * (Z : Int) + c)) [] := by
 refine sound_intro (C := cx) Try.func98 rfl (by kernel_rfl) fun hcl => ?_
 have hz := hs.size
 have hx0 := hs.x0
 have hx4 := hs.x4
 have hy0 := hs.y0
 have hy4 := hs.y4
 have hz0 := hs.z0
 have hz4 := hs.z4
 have hxy : X * Y ≤ 4 * 4 := Nat.mul_le_mul (by omega) (by omega)
 have hxz : X * Z ≤ 4 * 4 := Nat.mul_le_mul (by omega) (by omega)
 have hyz : Y * Z ≤ 4 * 4 := Nat.mul_le_mul (by omega) (by omega)
 have hh3 := (has3_iff (c := A3.mk a b c)).1 hh
 simp only at hh3
 have hfl := two_lt hh3.2.1 hh3.2.2
 refine cSeq ?_
 refine cReg ?_
 refine segEnd [2, 3, 4] (T1 := (mkT 25 [(2, vI 0), (3, vP 0 0), (4, vP 1 0)])) (H1 := [rB [vN X, vN Y, vN Z] 75, rB [vI a, vI b, vI c] 74]) (by kernel_rfl) ?_
 refine kSeq ?_
 refine cSeq ?_
 refine cReg ?_
 refine segH 1 (T1 := (mkT 25 [(2, vI 0), (3, vP 0 0), (4, vP 1 0), (10, vI 0)])) (by kernel_rfl) ?_
 refine rCall (v := .tuple #[vI 1, vI 2]) (args := [vI 0]) (by kernel_rfl) rfl (by kernel_rfl) (Sound.lay0 [] (others0) trivial rfl trivial rfl (by first | rfl | simp [mpV, mpA, mpS, mpP, renId, shift]) (by first | rfl | simp [mpV, mpA, mpS, mpP, renId, shift])) ?_
 refine segEndH [3, 4, 7, 8] (T1 := (mkT 25 [(3, vP 0 0), (4, vP 1 0), (7, vI 1), (8, vI 2)])) (by kernel_rfl) ?_
 refine kSeq ?_
 refine cSeq ?_
 refine cRegW (N := 2) [⟨[], [], []⟩, ⟨[], [], []⟩, ⟨[], [], [1]⟩, ⟨[], [], []⟩, ⟨[], [], []⟩, ⟨[], [], [0]⟩, ⟨[], [], []⟩, ⟨[], [], []⟩, ⟨[], [], []⟩, ⟨[], [], [1]⟩, ⟨[], [], []⟩, ⟨[], [], []⟩] 0 [] (by rfl) (by rfl) (by kernel_rfl) (by kernel_rfl) (by kernel_rfl) ⟨nmsX (by kernel_rfl), ⟨nmsX (by kernel_rfl), trivial⟩⟩ ?_
 refine segWH 6 (T1 := (mkT 25 [(3, vP 0 0), (4, vP 1 0), (7, vI 1), (8, vI 2), (14, vI 1), (15, vP 1 1), (16, vI b), (17, vI 2), (18, vP 0 2), (19, vN Z)])) (by kernel_rfl) ?_
 refine rW (m := ⟨[], [], []⟩) (v := vI (b * ((Z : Nat) : Int))) rfl (by kernel_rfl) (stId (eMul (k := .i64) (a := b) (b := ((Z : Nat) : Int)) (c := (b * ((Z : Nat) : Int))) (by kernel_rfl) (by kernel_rfl) (wr64 (by omega) (by omega) (by omega))) rfl (by kernel_rfl) (by kernel_rfl) (by kernel_rfl)) (by kernel_rfl) nr0 ?_
 refine segWH 3 (T1 := (mkT 25 [(3, vP 0 0), (4, vP 1 0), (7, vI 1), (8, vI 2), (14, vI 1), (15, vP 1 1), (16, vI b), (17, vI 2), (18, vP 0 2), (19, vN Z), (20, vI (b * ((Z : Nat) : Int))), (21, vI 2), (22, vP 1 2), (23, vI c)])) (by kernel_rfl) ?_
 refine rW (m := ⟨[], [], []⟩) (v := vI (b * ((Z : Nat) : Int) + c)) rfl (by kernel_rfl) (stId (eAdd (k := .i64) (a := (b * ((Z : Nat) : Int))) (b := c) (c := (b * ((Z : Nat) : Int) + c)) (by kernel_rfl) (by kernel_rfl) (wr64 (by omega) (by omega) (by omega))) rfl (by kernel_rfl) (by kernel_rfl) (by kernel_rfl)) (by kernel_rfl) nr0 ?_
 refine segEndWH [6] (T1 := (mkT 25 [(6, vI (b * ((Z : Nat) : Int) + c))])) (by kernel_rfl) ?_
 refine kSeq ?_
 refine cRet ?_
 have he0 : (b * ((Z : Nat) : Int) + c : Int) = b * (Z : Int) + c := by first | omega | assumption | rfl | (symm; assumption) | (simp_all; done)
 refine endCast (v1 := vI (b * ((Z : Nat) : Int) + c)) (H1 := []) (by first | rfl | ((try rw [← he0]); done) | (simp only [← he0]; done)) (by first | rfl | ((try rw [← he0]); done) | (simp only [← he0]; done)) ?_
 exact endQ (Or.inr rfl) (l := [vI (b * ((Z : Nat) : Int) + c)]) [rB [vN X, vN Y, vN Z] 75, rB [vI a, vI b, vI c] 74] (by kernel_rfl) (by first | rfl | kernel_rfl) rfl rfl hcl rfl
set_option maxRecDepth 100000 in
set_option maxHeartbeats 4000000 in
theorem others1   : Sound Try.prog 126 [vI 1] [] (.tuple #[vI 0, vI 2]) [] := by
 refine sound_intro (C := cx) Try.func126 rfl (by kernel_rfl) fun hcl => ?_
 refine cSeq ?_
 refine cReg ?_
 refine segEndH [0] (T1 := (mkT 9 [(0, vI 1)])) (by kernel_rfl) ?_
 refine kSeq ?_
 refine cSeq ?_
 refine cSeq ?_
 refine cReg ?_
 refine segEndH [4] (T1 := (mkT 9 [(4, vI 1)])) (by kernel_rfl) ?_
 refine kSeq ?_
 refine cBlk ?_
 refine cSeq ?_
 refine cReg ?_
 refine segEndH [4, 5] (T1 := (mkT 9 [(4, vI 1), (5, .bool false)])) (by kernel_rfl) ?_
 refine kSeq ?_
 refine cFalse (by kernel_rfl) ?_
 refine cSeq ?_
 refine cReg ?_
 refine segEndH [7] (T1 := (mkT 9 [(7, .bool true)])) (by kernel_rfl) ?_
 refine kSeq ?_
 refine cTrue (by kernel_rfl) ?_
 refine cSeq ?_
 refine cReg ?_
 refine segEndH [2, 3] (T1 := (mkT 9 [(2, vI 0), (3, vI 2)])) (by kernel_rfl) ?_
 refine kSeq ?_
 refine cRet ?_
 refine kBlkR ?_
 refine kSeqR ?_
 exact endQ (Or.inr rfl) (l := [vI 0, vI 2]) [] (by kernel_rfl) (by first | rfl | kernel_rfl) rfl rfl hcl rfl
set_option maxRecDepth 100000 in
set_option maxHeartbeats 4000000 in
theorem line1 (X : Nat) (Y : Nat) (Z : Nat) (a : Int) (b : Int) (c : Int) (hs : Sides X Y Z) (hh : has3 (X : Int) (Y : Int) (Z : Int) a b c = true) : Sound Try.prog 98 [.agg #[vN X, vN Y, vN Z], .agg #[vI a, vI b, vI c], vI 1] [] (vI (a * (Z : Int) + c)) [] := by
 refine sound_intro (C := cx) Try.func98 rfl (by kernel_rfl) fun hcl => ?_
 have hz := hs.size
 have hx0 := hs.x0
 have hx4 := hs.x4
 have hy0 := hs.y0
 have hy4 := hs.y4
 have hz0 := hs.z0
 have hz4 := hs.z4
 have hxy : X * Y ≤ 4 * 4 := Nat.mul_le_mul (by omega) (by omega)
 have hxz : X * Z ≤ 4 * 4 := Nat.mul_le_mul (by omega) (by omega)
 have hyz : Y * Z ≤ 4 * 4 := Nat.mul_le_mul (by omega) (by omega)
 have hh3 := (has3_iff (c := A3.mk a b c)).1 hh
 simp only at hh3
 have hfl := two_lt hh3.1 hh3.2.2
 refine cSeq ?_
 refine cReg ?_
 refine segEnd [2, 3, 4] (T1 := (mkT 25 [(2, vI 1), (3, vP 0 0), (4, vP 1 0)])) (H1 := [rB [vN X, vN Y, vN Z] 75, rB [vI a, vI b, vI c] 74]) (by kernel_rfl) ?_
 refine kSeq ?_
 refine cSeq ?_
 refine cReg ?_
 refine segH 1 (T1 := (mkT 25 [(2, vI 1), (3, vP 0 0), (4, vP 1 0), (10, vI 1)])) (by kernel_rfl) ?_
 refine rCall (v := .tuple #[vI 0, vI 2]) (args := [vI 1]) (by kernel_rfl) rfl (by kernel_rfl) (Sound.lay0 [] (others1) trivial rfl trivial rfl (by first | rfl | simp [mpV, mpA, mpS, mpP, renId, shift]) (by first | rfl | simp [mpV, mpA, mpS, mpP, renId, shift])) ?_
 refine segEndH [3, 4, 7, 8] (T1 := (mkT 25 [(3, vP 0 0), (4, vP 1 0), (7, vI 0), (8, vI 2)])) (by kernel_rfl) ?_
 refine kSeq ?_
 refine cSeq ?_
 refine cRegW (N := 2) [⟨[], [], []⟩, ⟨[], [], []⟩, ⟨[], [], [1]⟩, ⟨[], [], []⟩, ⟨[], [], []⟩, ⟨[], [], [0]⟩, ⟨[], [], []⟩, ⟨[], [], []⟩, ⟨[], [], []⟩, ⟨[], [], [1]⟩, ⟨[], [], []⟩, ⟨[], [], []⟩] 0 [] (by rfl) (by rfl) (by kernel_rfl) (by kernel_rfl) (by kernel_rfl) ⟨nmsX (by kernel_rfl), ⟨nmsX (by kernel_rfl), trivial⟩⟩ ?_
 refine segWH 6 (T1 := (mkT 25 [(3, vP 0 0), (4, vP 1 0), (7, vI 0), (8, vI 2), (14, vI 0), (15, vP 1 0), (16, vI a), (17, vI 2), (18, vP 0 2), (19, vN Z)])) (by kernel_rfl) ?_
 refine rW (m := ⟨[], [], []⟩) (v := vI (a * ((Z : Nat) : Int))) rfl (by kernel_rfl) (stId (eMul (k := .i64) (a := a) (b := ((Z : Nat) : Int)) (c := (a * ((Z : Nat) : Int))) (by kernel_rfl) (by kernel_rfl) (wr64 (by omega) (by omega) (by omega))) rfl (by kernel_rfl) (by kernel_rfl) (by kernel_rfl)) (by kernel_rfl) nr0 ?_
 refine segWH 3 (T1 := (mkT 25 [(3, vP 0 0), (4, vP 1 0), (7, vI 0), (8, vI 2), (14, vI 0), (15, vP 1 0), (16, vI a), (17, vI 2), (18, vP 0 2), (19, vN Z), (20, vI (a * ((Z : Nat) : Int))), (21, vI 2), (22, vP 1 2), (23, vI c)])) (by kernel_rfl) ?_
 refine rW (m := ⟨[], [], []⟩) (v := vI (a * ((Z : Nat) : Int) + c)) rfl (by kernel_rfl) (stId (eAdd (k := .i64) (a := (a * ((Z : Nat) : Int))) (b := c) (c := (a * ((Z : Nat) : Int) + c)) (by kernel_rfl) (by kernel_rfl) (wr64 (by omega) (by omega) (by omega))) rfl (by kernel_rfl) (by kernel_rfl) (by kernel_rfl)) (by kernel_rfl) nr0 ?_
 refine segEndWH [6] (T1 := (mkT 25 [(6, vI (a * ((Z : Nat) : Int) + c))])) (by kernel_rfl) ?_
 refine kSeq ?_
 refine cRet ?_
 have he0 : (a * ((Z : Nat) : Int) + c : Int) = a * (Z : Int) + c := by first | omega | assumption | rfl | (symm; assumption) | (simp_all; done)
 refine endCast (v1 := vI (a * ((Z : Nat) : Int) + c)) (H1 := []) (by first | rfl | ((try rw [← he0]); done) | (simp only [← he0]; done)) (by first | rfl | ((try rw [← he0]); done) | (simp only [← he0]; done)) ?_
 exact endQ (Or.inr rfl) (l := [vI (a * ((Z : Nat) : Int) + c)]) [rB [vN X, vN Y, vN Z] 75, rB [vI a, vI b, vI c] 74] (by kernel_rfl) (by first | rfl | kernel_rfl) rfl rfl hcl rfl
set_option maxRecDepth 100000 in
set_option maxHeartbeats 4000000 in
theorem others2   : Sound Try.prog 126 [vI 2] [] (.tuple #[vI 0, vI 1]) [] := by
 refine sound_intro (C := cx) Try.func126 rfl (by kernel_rfl) fun hcl => ?_
 refine cSeq ?_
 refine cReg ?_
 refine segEndH [0] (T1 := (mkT 9 [(0, vI 2)])) (by kernel_rfl) ?_
 refine kSeq ?_
 refine cSeq ?_
 refine cSeq ?_
 refine cReg ?_
 refine segEndH [4] (T1 := (mkT 9 [(4, vI 2)])) (by kernel_rfl) ?_
 refine kSeq ?_
 refine cBlk ?_
 refine cSeq ?_
 refine cReg ?_
 refine segEndH [4, 5] (T1 := (mkT 9 [(4, vI 2), (5, .bool false)])) (by kernel_rfl) ?_
 refine kSeq ?_
 refine cFalse (by kernel_rfl) ?_
 refine cSeq ?_
 refine cReg ?_
 refine segEndH [7] (T1 := (mkT 9 [(7, .bool false)])) (by kernel_rfl) ?_
 refine kSeq ?_
 refine cFalse (by kernel_rfl) ?_
 refine cSkip ?_
 refine kBlk ?_
 refine kSeq ?_
 refine cSeq ?_
 refine cReg ?_
 refine segEndH [2, 3] (T1 := (mkT 9 [(2, vI 0), (3, vI 1)])) (by kernel_rfl) ?_
 refine kSeq ?_
 refine cRet ?_
 exact endQ (Or.inr rfl) (l := [vI 0, vI 1]) [] (by kernel_rfl) (by first | rfl | kernel_rfl) rfl rfl hcl rfl
set_option maxRecDepth 100000 in
set_option maxHeartbeats 4000000 in
theorem line2 (X : Nat) (Y : Nat) (Z : Nat) (a : Int) (b : Int) (c : Int) (hs : Sides X Y Z) (hh : has3 (X : Int) (Y : Int) (Z : Int) a b c = true) : Sound Try.prog 98 [.agg #[vN X, vN Y, vN Z], .agg #[vI a, vI b, vI c], vI 2] [] (vI (a * (Y : Int) + b)) [] := by
 refine sound_intro (C := cx) Try.func98 rfl (by kernel_rfl) fun hcl => ?_
 have hz := hs.size
 have hx0 := hs.x0
 have hx4 := hs.x4
 have hy0 := hs.y0
 have hy4 := hs.y4
 have hz0 := hs.z0
 have hz4 := hs.z4
 have hxy : X * Y ≤ 4 * 4 := Nat.mul_le_mul (by omega) (by omega)
 have hxz : X * Z ≤ 4 * 4 := Nat.mul_le_mul (by omega) (by omega)
 have hyz : Y * Z ≤ 4 * 4 := Nat.mul_le_mul (by omega) (by omega)
 have hh3 := (has3_iff (c := A3.mk a b c)).1 hh
 simp only at hh3
 have hfl := two_lt hh3.1 hh3.2.1
 refine cSeq ?_
 refine cReg ?_
 refine segEnd [2, 3, 4] (T1 := (mkT 25 [(2, vI 2), (3, vP 0 0), (4, vP 1 0)])) (H1 := [rB [vN X, vN Y, vN Z] 75, rB [vI a, vI b, vI c] 74]) (by kernel_rfl) ?_
 refine kSeq ?_
 refine cSeq ?_
 refine cReg ?_
 refine segH 1 (T1 := (mkT 25 [(2, vI 2), (3, vP 0 0), (4, vP 1 0), (10, vI 2)])) (by kernel_rfl) ?_
 refine rCall (v := .tuple #[vI 0, vI 1]) (args := [vI 2]) (by kernel_rfl) rfl (by kernel_rfl) (Sound.lay0 [] (others2) trivial rfl trivial rfl (by first | rfl | simp [mpV, mpA, mpS, mpP, renId, shift]) (by first | rfl | simp [mpV, mpA, mpS, mpP, renId, shift])) ?_
 refine segEndH [3, 4, 7, 8] (T1 := (mkT 25 [(3, vP 0 0), (4, vP 1 0), (7, vI 0), (8, vI 1)])) (by kernel_rfl) ?_
 refine kSeq ?_
 refine cSeq ?_
 refine cRegW (N := 2) [⟨[], [], []⟩, ⟨[], [], []⟩, ⟨[], [], [1]⟩, ⟨[], [], []⟩, ⟨[], [], []⟩, ⟨[], [], [0]⟩, ⟨[], [], []⟩, ⟨[], [], []⟩, ⟨[], [], []⟩, ⟨[], [], [1]⟩, ⟨[], [], []⟩, ⟨[], [], []⟩] 0 [] (by rfl) (by rfl) (by kernel_rfl) (by kernel_rfl) (by kernel_rfl) ⟨nmsX (by kernel_rfl), ⟨nmsX (by kernel_rfl), trivial⟩⟩ ?_
 refine segWH 6 (T1 := (mkT 25 [(3, vP 0 0), (4, vP 1 0), (7, vI 0), (8, vI 1), (14, vI 0), (15, vP 1 0), (16, vI a), (17, vI 1), (18, vP 0 1), (19, vN Y)])) (by kernel_rfl) ?_
 refine rW (m := ⟨[], [], []⟩) (v := vI (a * ((Y : Nat) : Int))) rfl (by kernel_rfl) (stId (eMul (k := .i64) (a := a) (b := ((Y : Nat) : Int)) (c := (a * ((Y : Nat) : Int))) (by kernel_rfl) (by kernel_rfl) (wr64 (by omega) (by omega) (by omega))) rfl (by kernel_rfl) (by kernel_rfl) (by kernel_rfl)) (by kernel_rfl) nr0 ?_
 refine segWH 3 (T1 := (mkT 25 [(3, vP 0 0), (4, vP 1 0), (7, vI 0), (8, vI 1), (14, vI 0), (15, vP 1 0), (16, vI a), (17, vI 1), (18, vP 0 1), (19, vN Y), (20, vI (a * ((Y : Nat) : Int))), (21, vI 1), (22, vP 1 1), (23, vI b)])) (by kernel_rfl) ?_
 refine rW (m := ⟨[], [], []⟩) (v := vI (a * ((Y : Nat) : Int) + b)) rfl (by kernel_rfl) (stId (eAdd (k := .i64) (a := (a * ((Y : Nat) : Int))) (b := b) (c := (a * ((Y : Nat) : Int) + b)) (by kernel_rfl) (by kernel_rfl) (wr64 (by omega) (by omega) (by omega))) rfl (by kernel_rfl) (by kernel_rfl) (by kernel_rfl)) (by kernel_rfl) nr0 ?_
 refine segEndWH [6] (T1 := (mkT 25 [(6, vI (a * ((Y : Nat) : Int) + b))])) (by kernel_rfl) ?_
 refine kSeq ?_
 refine cRet ?_
 have he0 : (a * ((Y : Nat) : Int) + b : Int) = a * (Y : Int) + b := by first | omega | assumption | rfl | (symm; assumption) | (simp_all; done)
 refine endCast (v1 := vI (a * ((Y : Nat) : Int) + b)) (H1 := []) (by first | rfl | ((try rw [← he0]); done) | (simp only [← he0]; done)) (by first | rfl | ((try rw [← he0]); done) | (simp only [← he0]; done)) ?_
 exact endQ (Or.inr rfl) (l := [vI (a * ((Y : Nat) : Int) + b)]) [rB [vN X, vN Y, vN Z] 75, rB [vI a, vI b, vI c] 74] (by kernel_rfl) (by first | rfl | kernel_rfl) rfl rfl hcl rfl
set_option maxRecDepth 100000 in
set_option maxHeartbeats 4000000 in
theorem isDirB (k : Int)  : Sound Try.prog 86 [vI k] [] (.bool (inR k 0 2)) [] := by
 refine sound_intro (C := cx) Try.func86 rfl (by kernel_rfl) fun hcl => ?_
 refine cSeq ?_
 refine cReg ?_
 refine segEndH [0] (T1 := (mkT 5 [(0, vI k)])) (by kernel_rfl) ?_
 refine kSeq ?_
 refine cSeq ?_
 refine cReg ?_
 refine segH 1 (T1 := (mkT 5 [(0, vI k), (3, vI k)])) (by kernel_rfl) ?_
 refine rCall (v := .bool (inR k 0 2)) (args := [vI k, vI 0, vI 2]) (by kernel_rfl) rfl (by kernel_rfl) (Sound.lay0 [] (withinB k 0 2) trivial rfl trivial rfl (by first | rfl | simp [mpV, mpA, mpS, mpP, renId, shift]) rfl) ?_
 refine segEndH [2] (T1 := (mkT 5 [(2, .bool (inR k 0 2))])) (by kernel_rfl) ?_
 refine kSeq ?_
 refine cRet ?_
 exact endQ (Or.inr rfl) (l := [.bool (inR k 0 2)]) [] (by kernel_rfl) (by first | rfl | kernel_rfl) rfl rfl hcl rfl
end Go.Proofs.Ytbheeobnghlckaa
set_option linter.unusedVariables false
set_option linter.unusedSimpArgs false
namespace Go.Am
open Go.RowKit
def tI (first : Bool) (P Q t : Nat) : Nat := match first with | true => (P - 1 - t / Q) * Q + t % Q | false => t / Q * Q + (Q - 1 - t % Q)
def sgI (d k X Y Z p : Nat) : Nat := match d, k with
  | 0, 1 => tI true Y Z p | 0, 2 => tI false Y Z p
  | 1, 0 => tI true X Z p | 1, 2 => tI false X Z p
  | 2, 0 => tI true X Y p | 2, 1 => tI false X Y p
  | _, _ => p
def turnL (first : Bool) (P Q : Nat) (N : List Int) (n : Nat) : List Int := (List.range n).map fun t => N.getD (tI first P Q t) 0
@[simp] theorem turnL_length (first : Bool) (P Q : Nat) (N : List Int) (n : Nat) : (turnL first P Q N n).length = n := by simp [turnL]
theorem turnL_succ (first : Bool) (P Q : Nat) (N : List Int) (n : Nat) : turnL first P Q N (n + 1) = turnL first P Q N n ++ [N.getD (tI first P Q n) 0] := by simp [turnL, List.range_succ]
theorem tI_t {P Q i j : Nat} (hj : j < Q) : tI true P Q (i * Q + j) = (P - 1 - i) * Q + j := by
  unfold tI
  have h1 : (i * Q + j) / Q = i := by rw [Nat.mul_comm, Nat.mul_add_div (by omega), Nat.div_eq_of_lt hj, Nat.add_zero]
  have h2 : (i * Q + j) % Q = j := by rw [Nat.mul_comm, Nat.mul_add_mod, Nat.mod_eq_of_lt hj]
  simp only [h1, h2]
theorem tI_f {P Q i j : Nat} (hj : j < Q) : tI false P Q (i * Q + j) = i * Q + (Q - 1 - j) := by
  unfold tI
  have h1 : (i * Q + j) / Q = i := by rw [Nat.mul_comm, Nat.mul_add_div (by omega), Nat.div_eq_of_lt hj, Nat.add_zero]
  have h2 : (i * Q + j) % Q = j := by rw [Nat.mul_comm, Nat.mul_add_mod, Nat.mod_eq_of_lt hj]
  simp only [h1, h2]
def mirE (d k X Y Z : Nat) (N : List Int) : List Int := (List.range (nlN d X Y Z)).map fun p => N.getD (sgI d k X Y Z p) 0
def lnC (d Y Z i : Nat) : Nat := (lnI d Y Z (cellOf Y Z i)).toNat
def lnM (d k X Y Z i : Nat) : Nat := (lnI d Y Z (mir X Y Z k (cellOf Y Z i))).toNat
def mirT (d k X Y Z : Nat) (N : List Int) : Nat → List Int
  | 0 => List.replicate (nlN d X Y Z) 0
  | i + 1 => (mirT d k X Y Z N i).set (lnM d k X Y Z i) (N.getD (lnC d Y Z i) 0)
theorem mirT_length (d k X Y Z : Nat) (N : List Int) : ∀ i, (mirT d k X Y Z N i).length = nlN d X Y Z
  | 0 => by simp [mirT]
  | i + 1 => by simp [mirT, mirT_length d k X Y Z N i]
def mirOK (d k X Y Z : Nat) : Bool := ((List.range (X * Y * Z)).all fun j => lnC d Y Z j == sgI d k X Y Z (lnM d k X Y Z j)) && ((List.range (nlN d X Y Z)).all fun p => (List.range (X * Y * Z)).any fun j => lnM d k X Y Z j == p)
def mirsOK : Bool := (List.range 3).all fun d => (List.range 3).all fun k => (List.range 4).all fun X => (List.range 4).all fun Y => (List.range 4).all fun Z => mirOK d k (X + 1) (Y + 1) (Z + 1)
set_option maxRecDepth 100000 in
theorem mirsOK_true : mirsOK = true := by decide +kernel
theorem mir_ok {d k X Y Z : Nat} (hd : d < 3) (hk : k < 3) (hs : Sides X Y Z) : mirOK d k X Y Z = true := by
  have h := mirsOK_true
  unfold mirsOK at h
  have h := List.all_eq_true.1 h d (List.mem_range.2 hd)
  have h := List.all_eq_true.1 h k (List.mem_range.2 hk)
  have h := List.all_eq_true.1 h (X - 1) (List.mem_range.2 (by have := hs.x4; have := hs.x0; omega))
  have h := List.all_eq_true.1 h (Y - 1) (List.mem_range.2 (by have := hs.y4; have := hs.y0; omega))
  have h := List.all_eq_true.1 h (Z - 1) (List.mem_range.2 (by have := hs.z4; have := hs.z0; omega))
  have e1 : X - 1 + 1 = X := by have := hs.x0; omega
  have e2 : Y - 1 + 1 = Y := by have := hs.y0; omega
  have e3 : Z - 1 + 1 = Z := by have := hs.z0; omega
  rwa [e1, e2, e3] at h
theorem mirE_get {d k X Y Z p : Nat} {N : List Int} (hp : p < nlN d X Y Z) : (mirE d k X Y Z N).getD p 0 = N.getD (sgI d k X Y Z p) 0 := by
  rw [getI_lt (by simpa [mirE] using hp)]; simp [mirE]
theorem mirT_get {d k X Y Z : Nat} (N : List Int) (hd : d < 3) (hk : k < 3) (hs : Sides X Y Z) {p : Nat} (hp : p < nlN d X Y Z) : ∀ i, i ≤ X * Y * Z → ((List.range i).any fun j => lnM d k X Y Z j == p) = true → (mirT d k X Y Z N i).getD p 0 = N.getD (sgI d k X Y Z p) 0
  | 0, _, h => by simp at h
  | i + 1, hi, h => by
    have hok := (Bool.and_eq_true _ _ ▸ mir_ok hd hk hs).1
    rw [mirT]
    simp only [List.getD_eq_getElem?_getD, List.getElem?_set]
    by_cases e : lnM d k X Y Z i = p
    · have hc := List.all_eq_true.1 hok i (List.mem_range.2 (by omega))
      rw [beq_iff_eq] at hc
      rw [if_pos e, if_pos (by rw [mirT_length]; omega), hc, e]; rfl
    · rw [if_neg e]
      have := mirT_get N hd hk hs hp i (by omega) (by
        rw [List.range_succ, List.any_append, Bool.or_eq_true] at h
        rcases h with h | h
        · exact h
        · simp at h; exact absurd h e)
      simpa only [List.getD_eq_getElem?_getD] using this
theorem mirT_end {d k X Y Z : Nat} (N : List Int) (hd : d < 3) (hk : k < 3) (hs : Sides X Y Z) {i : Nat} (h1 : X * Y * Z ≤ i) (h2 : i ≤ X * Y * Z) : mirT d k X Y Z N i = mirE d k X Y Z N := by
  have e : i = X * Y * Z := by omega
  subst e
  have hok := (Bool.and_eq_true _ _ ▸ mir_ok (d := d) (k := k) hd hk hs).2
  apply List.ext_getElem
  · rw [mirT_length]; simp [mirE]
  · intro p h3 h4
    have hp : p < nlN d X Y Z := by rw [mirT_length] at h3; exact h3
    have := mirT_get N hd hk hs hp _ (Nat.le_refl _) (List.all_eq_true.1 hok p (List.mem_range.2 hp))
    rw [← getI_lt h3, ← getI_lt h4, this, mirE_get hp]
theorem mirE_turn {d k X Y Z P Q : Nat} {N : List Int} (first : Bool) (h : ∀ p, sgI d k X Y Z p = tI first P Q p) (hn : nlN d X Y Z = P * Q) : turnL first P Q N (P * Q) = mirE d k X Y Z N := by
  unfold turnL mirE; rw [hn]; exact List.map_congr_left fun p _ => by rw [h]
theorem mirE_id {d k X Y Z : Nat} {N : List Int} (h : ∀ p, sgI d k X Y Z p = p) (hn : N.length = nlN d X Y Z) : N = mirE d k X Y Z N := by
  apply List.ext_getElem
  · simp [mirE, hn]
  · intro p h1 h2
    rw [← getI_lt h1, ← getI_lt h2, mirE_get (by omega), h]
theorem mirE_length (d k X Y Z : Nat) (N : List Int) : (mirE d k X Y Z N).length = nlN d X Y Z := by simp [mirE]
theorem mirT_step (d k X Y Z : Nat) (N : List Int) (i : Nat) {M : List Int} {j j2 : Nat} (h : M = mirT d k X Y Z N i) (hj : j = lnM d k X Y Z i) (hj2 : j2 = lnC d Y Z i) : M.set j (N.getD j2 0) = mirT d k X Y Z N (i + 1) := by subst h hj hj2; rfl
theorem turn_t {P Q i j : Nat} {N : List Int} {M : List Int} (h : M = turnL true P Q N (i * Q + j)) (hi : i < P) (hj : j < Q) : M ++ [N.getD ((((P : Nat) : Int) - 1 - ((i : Nat) : Int)) * ((Q : Nat) : Int) + ((j : Nat) : Int)).toNat 0] = turnL true P Q N (i * Q + (j + 1)) := by
  rw [h, ← Nat.add_assoc, turnL_succ, tI_t hj]
  have e : (((P : Nat) : Int) - 1 - ((i : Nat) : Int)) = ((P - 1 - i : Nat) : Int) := by omega
  have e2 : ((((P : Nat) : Int) - 1 - ((i : Nat) : Int)) * ((Q : Nat) : Int) + ((j : Nat) : Int)).toNat = (P - 1 - i) * Q + j := by rw [e, ← Int.natCast_mul]; omega
  rw [e2]
theorem turn_f {P Q i j : Nat} {N : List Int} {M : List Int} (h : M = turnL false P Q N (i * Q + j)) (hi : i < P) (hj : j < Q) : M ++ [N.getD (((i * Q : Nat) : Int) + (((Q : Nat) : Int) - 1 - ((j : Nat) : Int))).toNat 0] = turnL false P Q N (i * Q + (j + 1)) := by
  rw [h, ← Nat.add_assoc, turnL_succ, tI_f hj]
  have e2 : (((i * Q : Nat) : Int) + (((Q : Nat) : Int) - 1 - ((j : Nat) : Int))).toNat = i * Q + (Q - 1 - j) := by omega
  rw [e2]
def mirB (x y z : Int) (A B C : List Int) (k : Int) : Bool := valid3 x y z && (shadB x.toNat y.toNat z.toNat A B C && inR k 0 2)
theorem mirB_cases {x y z : Int} {A B C : List Int} {k : Int} {Q : Prop} (h1 : valid3 x y z = false → Q) (h2 : ∀ X Y Z : Nat, x = X → y = Y → z = Z → Sides X Y Z → shadB X Y Z A B C = false → Q) (h3 : ∀ X Y Z : Nat, x = X → y = Y → z = Z → Sides X Y Z → shadB X Y Z A B C = true → inR k 0 2 = false → Q)
    (hb : mirB x y z A B C k = false) : Q := by
  cases hv : valid3 x y z
  · exact h1 hv
  · obtain ⟨X, Y, Z, rfl, rfl, rfl, g1, g2, g3, g4, g5, g6⟩ := nat_valid hv
    cases hq : shadB X Y Z A B C
    · exact h2 X Y Z rfl rfl rfl ⟨g1, g2, g3, g4, g5, g6⟩ hq
    · cases hk : inR k 0 2
      · exact h3 X Y Z rfl rfl rfl ⟨g1, g2, g3, g4, g5, g6⟩ hq hk
      · simp [mirB, hv, hq, hk] at hb
theorem mirB_true {x y z : Int} {A B C : List Int} {k : Int} (hb : mirB x y z A B C k = true) : ∃ X Y Z : Nat, x = X ∧ y = Y ∧ z = Z ∧ Sides X Y Z ∧ shadB X Y Z A B C = true ∧ (k = 0 ∨ k = 1 ∨ k = 2) := by
  unfold mirB at hb
  rw [Bool.and_eq_true, Bool.and_eq_true] at hb
  obtain ⟨hv, hq, hk⟩ := hb
  obtain ⟨X, Y, Z, rfl, rfl, rfl, g1, g2, g3, g4, g5, g6⟩ := nat_valid hv
  have := inR_le hk
  exact ⟨X, Y, Z, rfl, rfl, rfl, ⟨g1, g2, g3, g4, g5, g6⟩, hq, by omega⟩
theorem mirB_len {x y z : Int} {A B C : List Int} {k : Int} (h : A = [] ∨ B = [] ∨ C = []) : mirB x y z A B C k = false := by
  cases hb : mirB x y z A B C k
  · rfl
  · exfalso
    obtain ⟨X, Y, Z, rfl, rfl, rfl, hs, hq, _⟩ := mirB_true hb
    have hw := shad_of hq
    have := Nat.mul_pos hs.x0 hs.y0; have := Nat.mul_pos hs.x0 hs.z0; have := Nat.mul_pos hs.y0 hs.z0
    rcases h with rfl | rfl | rfl
    · have := hw.1.1; simp at this; omega
    · have := hw.2.1.1; simp at this; omega
    · have := hw.2.2.1; simp at this; omega
section
variable {P : Program} {C : Ctx P} {T : Tm} {H : Heap} {t : TypeId} {x y : Operand}
theorem eAppNums {H' : Heap} {b a c : Nat} {L M R : List Int} {e : TypeId} {e2 : TypeId} {bx w : Bool} {s1 s2 : Nat} {z : Value} {te : TI} (hx : evalO T x = some (.slice (some ⟨b, 0, none⟩) L.length 0)) (hy : evalO T y = some (.slice (some ⟨a, 0, none⟩) M.length c))
    (ht : tiOf P t = some ⟨.slice e, s1, s2, z⟩) (he : tiOf P e = some te) (hsz : te.size = 1) (hz : te.zero.cells.toList.length = te.size) (hby : te.bytes ≤ 1024)
    (hb : row? H b = some ⟨nums L, e, false, true⟩) (ha : row? H a = some ⟨nums M, e2, bx, w⟩) (hL : L.length + M.length ≤ 1048576) (hR : L ++ M = R)
    (hH : H.set b none ++ [some ⟨nums R, e, false, true⟩] = H') :
    evOp C T H (.call ⟨.builtin .append, #[x, y], #[t, t]⟩) = some (.slice (some ⟨H.length, 0, none⟩) R.length 0, H') := by
  have hrd : readS H te.size (.slice (some ⟨a, 0, none⟩) M.length c) = some (nums M) := by
    simp only [readS, ha, hsz]
    rw [if_pos (by rw [nums_length]; omega)]
    simp [nums]
    exact List.take_of_length_le (by simp)
  simp only [evOp, hx, hy, if_true, opAppend, ht, he]
  rw [if_pos ⟨by omega, hz⟩]
  simp only [hb, hrd]
  have hbb : (L.length + M.length) * te.bytes ≤ 140737488355328 := by
    have : (L.length + M.length) * te.bytes ≤ 1048576 * 1024 := Nat.mul_le_mul hL hby
    omega
  rw [if_pos ⟨trivial, trivial, trivial, trivial, by rw [nums_length, hsz]; omega, hbb, by omega⟩]
  rw [← hH, ← hR, List.length_append, nums_append]
end
end Go.Am
set_option linter.unusedVariables false
set_option linter.unusedSimpArgs false
namespace Go.Proofs.Ytbheeobnghlckaa
open Go.Am Go.RowKit
set_option maxRecDepth 100000 in
set_option maxHeartbeats 4000000 in
theorem markI_S (N : List Int) (m : Nat) (hl : N.length ≤ 1048576) (hm : m ≤ 1099511627776) : Sound Try.prog 34 [vS 0 N.length, vN m] [nW N] (vN (m + N.length)) [nW (mkI m N.length)] := by
 refine sound_intro (C := cx) Try.func34 rfl (by kernel_rfl) fun hcl => ?_
 refine cSeq ?_
 refine cReg ?_
 refine segEndH [0, 1] (T1 := (mkT 19 [(0, vS 0 N.length), (1, vN m)])) (by kernel_rfl) ?_
 refine kSeq ?_
 refine cSeq ?_
 refine cSeq ?_
 refine cReg ?_
 refine segEndH [0, 1, 5] (T1 := (mkT 19 [(0, vS 0 N.length), (1, vN m), (5, vI 0)])) (by kernel_rfl) ?_
 refine kSeq ?_
 refine cBlk ?_
 refine cLoop (fun mm T H => ∃ j : Nat, ∃ q : Nat, ∃ M : List Int, (j ≤ N.length) ∧ (q = m + j) ∧ (M = mkI m j ++ N.drop j) ∧ mm = N.length - j ∧ T = (mkT 19 [(0, vS 0 N.length), (1, vN q), (5, vN j)]) ∧ H = [nW M]) (N.length - 0) (mkT 19 [(0, vS 0 N.length), (1, vN m), (5, vI 0)]) [nW N] (wkSame [0, 1, 5] (by kernel_rfl)) ?_ ?_
 ·
  exact ⟨0, m, N, (Nat.zero_le _), (rfl), (by simp [mkI]), rfl, rfl, rfl⟩
 ·
  rintro _ _ _ ⟨j, q, M, hj, hq, hM, rfl, rfl, rfl⟩
  have hml : M.length = N.length := (by rw [hM]; simp; omega)
  refine cSeq ?_
  refine cSeq ?_
  refine cReg ?_
  refine segEndH [0, 1, 5, 9] (T1 := (mkT 19 [(0, vS 0 N.length), (1, vN q), (5, vN j), (9, .bool (decide (((j : Nat) : Int) < ((N.length : Nat) : Int))))])) (by kernel_rfl) ?_
  refine kSeq ?_
  cases h1 : (decide (((j : Nat) : Int) < ((N.length : Nat) : Int)) : Bool)
  ·
   (try simp only [bs0, bs1, bs2, bs3, beq_iff_eq, bne_iff_ne, beq_eq_false_iff_ne, bne_eq_false_iff_eq, ne_eq, bs4, bs5, bs6, bs7, bs8, bs9, bs10, bs11, ge_iff_le, gt_iff_lt] at h1)
   refine cFalse (by kernel_rfl) ?_
   refine cExit ?_
   refine kSeqE ?_
   refine kLoopE ?_
   refine kBlkHit ?_
   refine kSeq ?_
   refine cSeq ?_
   refine cReg ?_
   refine segEndH [4] (T1 := (mkT 19 [(4, vN q)])) (by kernel_rfl) ?_
   refine kSeq ?_
   refine cRet ?_
   have he0 : (q : Nat) = m + N.length := by first | omega | (rw [hM]; exact mkI_end (by omega) hj)
   have he1 : (M : List Int) = (mkI m N.length) := by first | omega | (rw [hM]; exact mkI_end (by omega) hj)
   refine endCast (v1 := vN q) (H1 := [nW M]) (by first | rfl | ((try rw [← he0]); (try rw [← he1]); done) | (simp only [← he0, ← he1]; done)) (by first | rfl | ((try rw [← he0]); (try rw [← he1]); done) | (simp only [← he0, ← he1]; done)) ?_
   exact endQ (Or.inr rfl) (l := [vN q]) [] (by kernel_rfl) (by first | rfl | kernel_rfl) rfl rfl (closedL ⟨clF (flatNums _ _ _ _), trivial⟩) rfl
  ·
   (try simp only [bs0, bs1, bs2, bs3, beq_iff_eq, bne_iff_ne, beq_eq_false_iff_ne, bne_eq_false_iff_eq, ne_eq, bs4, bs5, bs6, bs7, bs8, bs9, bs10, bs11, ge_iff_le, gt_iff_lt] at h1)
   refine cTrue (by kernel_rfl) ?_
   refine cSkip ?_
   refine kSeq ?_
   refine cSeq ?_
   refine cBlk ?_
   refine cSeq ?_
   refine cReg ?_
   refine segH 3 (T1 := (mkT 19 [(0, vS 0 N.length), (1, vN q), (5, vN j), (9, .bool true), (12, vS 0 N.length), (13, vN j), (14, vN q)])) (by kernel_rfl) ?_
   refine rOp (v := vP 0 j) (by kernel_rfl) (eIdxS (ad := ⟨0, 0, none⟩) (n := N.length) (m := 0) (k := .i64) (c := ((j : Nat) : Int)) (j := j) (o := j) (by kernel_rfl) (by kernel_rfl) ti22 ti3 (rfl) (by omega) (by simp)) ?_
   refine rOp (v := .tuple #[]) (H' := [nW (M.set j ((q : Nat) : Int))]) (by kernel_rfl) (eStNum (b := 0) (o := j) (L := M) (n := ((q : Nat) : Int)) (e := 3) (bx := false) (by kernel_rfl) (by kernel_rfl) (by kernel_rfl) (by omega) ti3 rfl (by rfl)) ?_
   refine segEnd [0, 1, 5] (T1 := (mkT 19 [(0, vS 0 N.length), (1, vN q), (5, vN j)])) (H1 := [nW (M.set j ((q : Nat) : Int))]) (by kernel_rfl) ?_
   refine kSeq ?_
   refine cReg ?_
   refine segH 1 (T1 := (mkT 19 [(0, vS 0 N.length), (1, vN q), (5, vN j), (16, vN q)])) (by kernel_rfl) ?_
   refine rOp (v := vN (q + 1)) (by kernel_rfl) (eAdd (k := .i64) (a := ((q : Nat) : Int)) (b := 1) (c := ((q + 1 : Nat) : Int)) (by kernel_rfl) (by kernel_rfl) (wr64 (by omega) (by omega) (by omega))) ?_
   refine segEndH [0, 1, 5] (T1 := (mkT 19 [(0, vS 0 N.length), (1, vN (q + 1)), (5, vN j)])) (by kernel_rfl) ?_
   refine kBlk ?_
   refine kSeq ?_
   refine cReg ?_
   refine segH 1 (T1 := (mkT 19 [(0, vS 0 N.length), (1, vN (q + 1)), (5, vN j), (10, vN j)])) (by kernel_rfl) ?_
   refine rOp (v := vN (j + 1)) (by kernel_rfl) (eAdd (k := .i64) (a := ((j : Nat) : Int)) (b := 1) (c := ((j + 1 : Nat) : Int)) (by kernel_rfl) (by kernel_rfl) (wr64 (by omega) (by omega) (by omega))) ?_
   refine segEndH [0, 1, 5] (T1 := (mkT 19 [(0, vS 0 N.length), (1, vN (q + 1)), (5, vN (j + 1))])) (by kernel_rfl) ?_
   exact kLoop (N.length - (j + 1)) (mkT 19 [(0, vS 0 N.length), (1, vN (q + 1)), (5, vN (j + 1))]) [nW (M.set j ((q : Nat) : Int))] (by omega) (wkSame [0, 1, 5] (by kernel_rfl)) ⟨(j + 1), (q + 1), (M.set j ((q : Nat) : Int)), (by omega), (by omega), (by rw [hM, hq]; exact mkI_put (by omega)), rfl, rfl, rfl⟩
set_option maxRecDepth 100000 in
set_option maxHeartbeats 4000000 in
theorem heldI_S (m : Nat) (n : Nat) (hn : n ≤ 1048576) (hm : m ≤ 1099511627776) : Sound Try.prog 100 [vS 0 n, vN m] [nR (mkI m n)] (vN (m + n)) [nR (mkI m n)] := by
 refine sound_intro (C := cx) Try.func100 rfl (by kernel_rfl) fun hcl => ?_
 have hml := mkI_length m n
 refine cSeq ?_
 refine cReg ?_
 refine segEndH [0, 1] (T1 := (mkT 21 [(0, vS 0 n), (1, vN m)])) (by kernel_rfl) ?_
 refine kSeq ?_
 refine cSeq ?_
 refine cSeq ?_
 refine cReg ?_
 refine segEndH [0, 1, 5] (T1 := (mkT 21 [(0, vS 0 n), (1, vN m), (5, vI 0)])) (by kernel_rfl) ?_
 refine kSeq ?_
 refine cBlk ?_
 refine cLoop (fun mm T H => ∃ j : Nat, ∃ q : Nat, (j ≤ n) ∧ (q = m + j) ∧ mm = n - j ∧ T = (mkT 21 [(0, vS 0 n), (1, vN q), (5, vN j)]) ∧ H = [nR (mkI m n)]) (n - 0) (mkT 21 [(0, vS 0 n), (1, vN m), (5, vI 0)]) [nR (mkI m n)] (wkSame [0, 1, 5] (by kernel_rfl)) ?_ ?_
 ·
  exact ⟨0, m, (Nat.zero_le _), (rfl), rfl, rfl, rfl⟩
 ·
  rintro _ _ _ ⟨j, q, hj, hq, rfl, rfl, rfl⟩
  refine cSeq ?_
  refine cSeq ?_
  refine cReg ?_
  refine segEndH [0, 1, 5, 9] (T1 := (mkT 21 [(0, vS 0 n), (1, vN q), (5, vN j), (9, .bool (decide (((j : Nat) : Int) < ((n : Nat) : Int))))])) (by kernel_rfl) ?_
  refine kSeq ?_
  cases h1 : (decide (((j : Nat) : Int) < ((n : Nat) : Int)) : Bool)
  ·
   (try simp only [bs0, bs1, bs2, bs3, beq_iff_eq, bne_iff_ne, beq_eq_false_iff_ne, bne_eq_false_iff_eq, ne_eq, bs4, bs5, bs6, bs7, bs8, bs9, bs10, bs11, ge_iff_le, gt_iff_lt] at h1)
   refine cFalse (by kernel_rfl) ?_
   refine cExit ?_
   refine kSeqE ?_
   refine kLoopE ?_
   refine kBlkHit ?_
   refine kSeq ?_
   refine cSeq ?_
   refine cReg ?_
   refine segEndH [4] (T1 := (mkT 21 [(4, vN q)])) (by kernel_rfl) ?_
   refine kSeq ?_
   refine cRet ?_
   have he0 : (q : Nat) = m + n := by first | omega | assumption | rfl | (symm; assumption) | (simp_all; done)
   refine endCast (v1 := vN q) (H1 := [nR (mkI m n)]) (by first | rfl | ((try rw [← he0]); done) | (simp only [← he0]; done)) (by first | rfl | ((try rw [← he0]); done) | (simp only [← he0]; done)) ?_
   exact endQ (Or.inr rfl) (l := [vN q]) [] (by kernel_rfl) (by first | rfl | kernel_rfl) rfl rfl hcl rfl
  ·
   (try simp only [bs0, bs1, bs2, bs3, beq_iff_eq, bne_iff_ne, beq_eq_false_iff_ne, bne_eq_false_iff_eq, ne_eq, bs4, bs5, bs6, bs7, bs8, bs9, bs10, bs11, ge_iff_le, gt_iff_lt] at h1)
   have hg := mkI_get (m := m) (n := n) (j := j) (by omega)
   refine cTrue (by kernel_rfl) ?_
   refine cSkip ?_
   refine kSeq ?_
   refine cSeq ?_
   refine cBlk ?_
   refine cSeq ?_
   refine cSeq ?_
   refine cReg ?_
   refine segH 2 (T1 := (mkT 21 [(0, vS 0 n), (1, vN q), (5, vN j), (9, .bool true), (12, vS 0 n), (13, vN j)])) (by kernel_rfl) ?_
   refine rOp (v := vP 0 j) (by kernel_rfl) (eIdxS (ad := ⟨0, 0, none⟩) (n := n) (m := 0) (k := .i64) (c := ((j : Nat) : Int)) (j := j) (o := j) (by kernel_rfl) (by kernel_rfl) ti22 ti3 (rfl) (by omega) (by simp)) ?_
   refine rOp (v := vI ((mkI m n).getD j 0)) (by kernel_rfl) (eLdNum (ad := ⟨0, j, none⟩) (r := ⟨nums (mkI m n), 3, false, false⟩) (L := (mkI m n)) (j := j) (by kernel_rfl) (by kernel_rfl) rfl (by first | rfl | omega) (by omega) ti3 rfl) ?_
   refine segEndH [0, 1, 5, 17] (T1 := (mkT 21 [(0, vS 0 n), (1, vN q), (5, vN j), (17, .bool (((mkI m n).getD j 0) != ((q : Nat) : Int)))])) (by kernel_rfl) ?_
   refine kSeq ?_
   cases h2 : ((((mkI m n).getD j 0) != ((q : Nat) : Int)) : Bool)
   ·
    (try simp only [bs0, bs1, bs2, bs3, beq_iff_eq, bne_iff_ne, beq_eq_false_iff_ne, bne_eq_false_iff_eq, ne_eq, bs4, bs5, bs6, bs7, bs8, bs9, bs10, bs11, ge_iff_le, gt_iff_lt] at h2)
    refine cFalse (by kernel_rfl) ?_
    refine cSkip ?_
    refine kSeq ?_
    refine cReg ?_
    refine segH 1 (T1 := (mkT 21 [(0, vS 0 n), (1, vN q), (5, vN j), (17, .bool false), (18, vN q)])) (by kernel_rfl) ?_
    refine rOp (v := vN (q + 1)) (by kernel_rfl) (eAdd (k := .i64) (a := ((q : Nat) : Int)) (b := 1) (c := ((q + 1 : Nat) : Int)) (by kernel_rfl) (by kernel_rfl) (wr64 (by omega) (by omega) (by omega))) ?_
    refine segEndH [0, 1, 5] (T1 := (mkT 21 [(0, vS 0 n), (1, vN (q + 1)), (5, vN j)])) (by kernel_rfl) ?_
    refine kBlk ?_
    refine kSeq ?_
    refine cReg ?_
    refine segH 1 (T1 := (mkT 21 [(0, vS 0 n), (1, vN (q + 1)), (5, vN j), (10, vN j)])) (by kernel_rfl) ?_
    refine rOp (v := vN (j + 1)) (by kernel_rfl) (eAdd (k := .i64) (a := ((j : Nat) : Int)) (b := 1) (c := ((j + 1 : Nat) : Int)) (by kernel_rfl) (by kernel_rfl) (wr64 (by omega) (by omega) (by omega))) ?_
    refine segEndH [0, 1, 5] (T1 := (mkT 21 [(0, vS 0 n), (1, vN (q + 1)), (5, vN (j + 1))])) (by kernel_rfl) ?_
    exact kLoop (n - (j + 1)) (mkT 21 [(0, vS 0 n), (1, vN (q + 1)), (5, vN (j + 1))]) [nR (mkI m n)] (by omega) (wkSame [0, 1, 5] (by kernel_rfl)) ⟨(j + 1), (q + 1), (by omega), (by omega), rfl, rfl, rfl⟩
   ·
    (try simp only [bs0, bs1, bs2, bs3, beq_iff_eq, bne_iff_ne, beq_eq_false_iff_ne, bne_eq_false_iff_eq, ne_eq, bs4, bs5, bs6, bs7, bs8, bs9, bs10, bs11, ge_iff_le, gt_iff_lt] at h2)
    exfalso; (rw [hg] at h2; omega)
set_option maxRecDepth 100000 in
set_option maxHeartbeats 4000000 in
theorem markI_N (m : Nat)  : Sound Try.prog 34 [.slice none 0 0, vN m] [] (vN m) [] := by
 refine sound_intro (C := cx) Try.func34 rfl (by kernel_rfl) fun hcl => ?_
 refine cSeq ?_
 refine cReg ?_
 refine segEndH [0, 1] (T1 := (mkT 19 [(0, .slice none 0 0), (1, vN m)])) (by kernel_rfl) ?_
 refine kSeq ?_
 refine cSeq ?_
 refine cSeq ?_
 refine cReg ?_
 refine segEndH [0, 1, 5] (T1 := (mkT 19 [(0, .slice none 0 0), (1, vN m), (5, vI 0)])) (by kernel_rfl) ?_
 refine kSeq ?_
 refine cBlk ?_
 refine cLoop (fun mm T H => mm = 0 ∧ T = (mkT 19 [(0, .slice none 0 0), (1, vN m), (5, vI 0)]) ∧ H = []) (0) (mkT 19 [(0, .slice none 0 0), (1, vN m), (5, vI 0)]) [] (wkSame [0, 1, 5] (by kernel_rfl)) ?_ ?_
 ·
  exact ⟨rfl, rfl, rfl⟩
 ·
  rintro _ _ _ ⟨rfl, rfl, rfl⟩
  refine cSeq ?_
  refine cSeq ?_
  refine cReg ?_
  refine segEndH [0, 1, 5, 9] (T1 := (mkT 19 [(0, .slice none 0 0), (1, vN m), (5, vI 0), (9, .bool false)])) (by kernel_rfl) ?_
  refine kSeq ?_
  refine cFalse (by kernel_rfl) ?_
  refine cExit ?_
  refine kSeqE ?_
  refine kLoopE ?_
  refine kBlkHit ?_
  refine kSeq ?_
  refine cSeq ?_
  refine cReg ?_
  refine segEndH [4] (T1 := (mkT 19 [(4, vN m)])) (by kernel_rfl) ?_
  refine kSeq ?_
  refine cRet ?_
  exact endQ (Or.inr rfl) (l := [vN m]) [] (by kernel_rfl) (by first | rfl | kernel_rfl) rfl rfl hcl rfl
set_option maxRecDepth 100000 in
set_option maxHeartbeats 4000000 in
theorem heldI_N (m : Nat)  : Sound Try.prog 100 [.slice none 0 0, vN m] [] (vN m) [] := by
 refine sound_intro (C := cx) Try.func100 rfl (by kernel_rfl) fun hcl => ?_
 refine cSeq ?_
 refine cReg ?_
 refine segEndH [0, 1] (T1 := (mkT 21 [(0, .slice none 0 0), (1, vN m)])) (by kernel_rfl) ?_
 refine kSeq ?_
 refine cSeq ?_
 refine cSeq ?_
 refine cReg ?_
 refine segEndH [0, 1, 5] (T1 := (mkT 21 [(0, .slice none 0 0), (1, vN m), (5, vI 0)])) (by kernel_rfl) ?_
 refine kSeq ?_
 refine cBlk ?_
 refine cLoop (fun mm T H => mm = 0 ∧ T = (mkT 21 [(0, .slice none 0 0), (1, vN m), (5, vI 0)]) ∧ H = []) (0) (mkT 21 [(0, .slice none 0 0), (1, vN m), (5, vI 0)]) [] (wkSame [0, 1, 5] (by kernel_rfl)) ?_ ?_
 ·
  exact ⟨rfl, rfl, rfl⟩
 ·
  rintro _ _ _ ⟨rfl, rfl, rfl⟩
  refine cSeq ?_
  refine cSeq ?_
  refine cReg ?_
  refine segEndH [0, 1, 5, 9] (T1 := (mkT 21 [(0, .slice none 0 0), (1, vN m), (5, vI 0), (9, .bool false)])) (by kernel_rfl) ?_
  refine kSeq ?_
  refine cFalse (by kernel_rfl) ?_
  refine cExit ?_
  refine kSeqE ?_
  refine kLoopE ?_
  refine kBlkHit ?_
  refine kSeq ?_
  refine cSeq ?_
  refine cReg ?_
  refine segEndH [4] (T1 := (mkT 21 [(4, vN m)])) (by kernel_rfl) ?_
  refine kSeq ?_
  refine cRet ?_
  exact endQ (Or.inr rfl) (l := [vN m]) [] (by kernel_rfl) (by first | rfl | kernel_rfl) rfl rfl hcl rfl
set_option maxRecDepth 100000 in
set_option maxHeartbeats 4000000 in
theorem mirror0 (X : Nat) (Y : Nat) (Z : Nat) (a : Int) (b : Int) (c : Int) (hs : Sides X Y Z) (hh : has3 (X : Int) (Y : Int) (Z : Int) a b c = true) : Sound Try.prog 99 [.agg #[vN X, vN Y, vN Z], .agg #[vI a, vI b, vI c], vI 0] [] (.agg #[vI (((X : Nat) : Int) - 1 - a), vI b, vI c]) [] := by
 refine sound_intro (C := cx) Try.func99 rfl (by kernel_rfl) fun hcl => ?_
 have hz := hs.size
 have hx0 := hs.x0
 have hx4 := hs.x4
 have hy0 := hs.y0
 have hy4 := hs.y4
 have hz0 := hs.z0
 have hz4 := hs.z4
 have hh3 := (has3_iff (c := A3.mk a b c)).1 hh
 simp only at hh3
 refine cSeq ?_
 refine cReg ?_
 refine segEnd [2, 3, 4, 6] (T1 := (mkT 18 [(2, vI 0), (3, vP 0 0), (4, vP 1 0), (6, vP 2 0)])) (H1 := [rB [vN X, vN Y, vN Z] 75, rB [vI a, vI b, vI c] 74, rB [vI 0, vI 0, vI 0] 74]) (by kernel_rfl) ?_
 refine kSeq ?_
 refine cSeq ?_
 refine cRegW (N := 3) [⟨[], [], []⟩, ⟨[], [], []⟩, ⟨[], [], []⟩, ⟨[], [], [0]⟩, ⟨[], [], []⟩, ⟨[], [], []⟩, ⟨[], [], []⟩, ⟨[], [], [1]⟩, ⟨[], [], []⟩, ⟨[], [], []⟩, ⟨[], [1], []⟩] 0 [] (by rfl) (by rfl) (by kernel_rfl) (by kernel_rfl) (by kernel_rfl) ⟨nmsX (by kernel_rfl), ⟨nmsX (by kernel_rfl), ⟨nmsX (by kernel_rfl), trivial⟩⟩⟩ ?_
 refine segWH 4 (T1 := (mkT 18 [(2, vI 0), (3, vP 0 0), (4, vP 1 0), (6, vP 2 0), (7, vI 0), (8, vI 0), (9, vP 0 0), (10, vN X)])) (by kernel_rfl) ?_
 refine rW (m := ⟨[], [], []⟩) (v := vI (((X : Nat) : Int) - 1)) rfl (by kernel_rfl) (stId (eSub (k := .i64) (a := ((X : Nat) : Int)) (b := 1) (c := (((X : Nat) : Int) - 1)) (by kernel_rfl) (by kernel_rfl) (wr64 (by omega) (by omega) (by omega))) rfl (by kernel_rfl) (by kernel_rfl) (by kernel_rfl)) (by kernel_rfl) nr0 ?_
 refine segWH 3 (T1 := (mkT 18 [(2, vI 0), (3, vP 0 0), (4, vP 1 0), (6, vP 2 0), (7, vI 0), (8, vI 0), (9, vP 0 0), (10, vN X), (11, vI (((X : Nat) : Int) - 1)), (12, vI 0), (13, vP 1 0), (14, vI a)])) (by kernel_rfl) ?_
 refine rW (m := ⟨[], [], []⟩) (v := vI (((X : Nat) : Int) - 1 - a)) rfl (by kernel_rfl) (stId (eSub (k := .i64) (a := (((X : Nat) : Int) - 1)) (b := a) (c := (((X : Nat) : Int) - 1 - a)) (by kernel_rfl) (by kernel_rfl) (wr64 (by omega) (by omega) (by omega))) rfl (by kernel_rfl) (by kernel_rfl) (by kernel_rfl)) (by kernel_rfl) nr0 ?_
 refine segWH 1 (T1 := (mkT 18 [(2, vI 0), (3, vP 0 0), (4, vP 1 0), (6, vP 2 0), (7, vI 0), (8, vI 0), (9, vP 0 0), (10, vN X), (11, vI (((X : Nat) : Int) - 1)), (12, vI 0), (13, vP 1 0), (14, vI a), (15, vI (((X : Nat) : Int) - 1 - a)), (16, vP 1 0)])) (by kernel_rfl) ?_
 refine rW (m := ⟨[], [1], []⟩) (v := .tuple #[]) rfl (by kernel_rfl) (stSet (b := 1) (r := ⟨[vI (((X : Nat) : Int) - 1 - a), vI b, vI c], 74, true, true⟩) (by kernel_rfl) rfl (by kernel_rfl) (by kernel_rfl) (by kernel_rfl) (by kernel_rfl) (nmX (by kernel_rfl)) (clX (by kernel_rfl))) (by kernel_rfl) (NRs.all ⟨nrOf (by rfl) (nmX (by kernel_rfl)), trivial⟩) ?_
 refine segEndW [4, 6] (T1 := (mkT 18 [(4, vP 1 0), (6, vP 2 0)])) (H1 := [rB [vN X, vN Y, vN Z] 75, rB [vI (((X : Nat) : Int) - 1 - a), vI b, vI c] 74, rB [vI 0, vI 0, vI 0] 74]) (by kernel_rfl) ?_
 refine kSeq ?_
 refine cSeq ?_
 refine cReg ?_
 refine segEnd [6] (T1 := (mkT 18 [(6, vP 2 0)])) (H1 := [rB [vN X, vN Y, vN Z] 75, rB [vI (((X : Nat) : Int) - 1 - a), vI b, vI c] 74, rB [vI (((X : Nat) : Int) - 1 - a), vI b, vI c] 74]) (by kernel_rfl) ?_
 refine kSeq ?_
 refine cRet ?_
 exact endQ (Or.inr rfl) (l := [.agg #[vI (((X : Nat) : Int) - 1 - a), vI b, vI c]]) [rB [vN X, vN Y, vN Z] 75, rB [vI (((X : Nat) : Int) - 1 - a), vI b, vI c] 74, rB [vI (((X : Nat) : Int) - 1 - a), vI b, vI c] 74] (by kernel_rfl) (by first | rfl | kernel_rfl) rfl rfl hcl rfl
set_option maxRecDepth 100000 in
set_option maxHeartbeats 4000000 in
theorem mirror1 (X : Nat) (Y : Nat) (Z : Nat) (a : Int) (b : Int) (c : Int) (hs : Sides X Y Z) (hh : has3 (X : Int) (Y : Int) (Z : Int) a b c = true) : Sound Try.prog 99 [.agg #[vN X, vN Y, vN Z], .agg #[vI a, vI b, vI c], vI 1] [] (.agg #[vI a, vI (((Y : Nat) : Int) - 1 - b), vI c]) [] := by
 refine sound_intro (C := cx) Try.func99 rfl (by kernel_rfl) fun hcl => ?_
 have hz := hs.size
 have hx0 := hs.x0
 have hx4 := hs.x4
 have hy0 := hs.y0
 have hy4 := hs.y4
 have hz0 := hs.z0
 have hz4 := hs.z4
 have hh3 := (has3_iff (c := A3.mk a b c)).1 hh
 simp only at hh3
 refine cSeq ?_
 refine cReg ?_
 refine segEnd [2, 3, 4, 6] (T1 := (mkT 18 [(2, vI 1), (3, vP 0 0), (4, vP 1 0), (6, vP 2 0)])) (H1 := [rB [vN X, vN Y, vN Z] 75, rB [vI a, vI b, vI c] 74, rB [vI 0, vI 0, vI 0] 74]) (by kernel_rfl) ?_
 refine kSeq ?_
 refine cSeq ?_
 refine cRegW (N := 3) [⟨[], [], []⟩, ⟨[], [], []⟩, ⟨[], [], []⟩, ⟨[], [], [0]⟩, ⟨[], [], []⟩, ⟨[], [], []⟩, ⟨[], [], []⟩, ⟨[], [], [1]⟩, ⟨[], [], []⟩, ⟨[], [], []⟩, ⟨[], [1], []⟩] 0 [] (by rfl) (by rfl) (by kernel_rfl) (by kernel_rfl) (by kernel_rfl) ⟨nmsX (by kernel_rfl), ⟨nmsX (by kernel_rfl), ⟨nmsX (by kernel_rfl), trivial⟩⟩⟩ ?_
 refine segWH 4 (T1 := (mkT 18 [(2, vI 1), (3, vP 0 0), (4, vP 1 0), (6, vP 2 0), (7, vI 1), (8, vI 1), (9, vP 0 1), (10, vN Y)])) (by kernel_rfl) ?_
 refine rW (m := ⟨[], [], []⟩) (v := vI (((Y : Nat) : Int) - 1)) rfl (by kernel_rfl) (stId (eSub (k := .i64) (a := ((Y : Nat) : Int)) (b := 1) (c := (((Y : Nat) : Int) - 1)) (by kernel_rfl) (by kernel_rfl) (wr64 (by omega) (by omega) (by omega))) rfl (by kernel_rfl) (by kernel_rfl) (by kernel_rfl)) (by kernel_rfl) nr0 ?_
 refine segWH 3 (T1 := (mkT 18 [(2, vI 1), (3, vP 0 0), (4, vP 1 0), (6, vP 2 0), (7, vI 1), (8, vI 1), (9, vP 0 1), (10, vN Y), (11, vI (((Y : Nat) : Int) - 1)), (12, vI 1), (13, vP 1 1), (14, vI b)])) (by kernel_rfl) ?_
 refine rW (m := ⟨[], [], []⟩) (v := vI (((Y : Nat) : Int) - 1 - b)) rfl (by kernel_rfl) (stId (eSub (k := .i64) (a := (((Y : Nat) : Int) - 1)) (b := b) (c := (((Y : Nat) : Int) - 1 - b)) (by kernel_rfl) (by kernel_rfl) (wr64 (by omega) (by omega) (by omega))) rfl (by kernel_rfl) (by kernel_rfl) (by kernel_rfl)) (by kernel_rfl) nr0 ?_
 refine segWH 1 (T1 := (mkT 18 [(2, vI 1), (3, vP 0 0), (4, vP 1 0), (6, vP 2 0), (7, vI 1), (8, vI 1), (9, vP 0 1), (10, vN Y), (11, vI (((Y : Nat) : Int) - 1)), (12, vI 1), (13, vP 1 1), (14, vI b), (15, vI (((Y : Nat) : Int) - 1 - b)), (16, vP 1 1)])) (by kernel_rfl) ?_
 refine rW (m := ⟨[], [1], []⟩) (v := .tuple #[]) rfl (by kernel_rfl) (stSet (b := 1) (r := ⟨[vI a, vI (((Y : Nat) : Int) - 1 - b), vI c], 74, true, true⟩) (by kernel_rfl) rfl (by kernel_rfl) (by kernel_rfl) (by kernel_rfl) (by kernel_rfl) (nmX (by kernel_rfl)) (clX (by kernel_rfl))) (by kernel_rfl) (NRs.all ⟨nrOf (by rfl) (nmX (by kernel_rfl)), trivial⟩) ?_
 refine segEndW [4, 6] (T1 := (mkT 18 [(4, vP 1 0), (6, vP 2 0)])) (H1 := [rB [vN X, vN Y, vN Z] 75, rB [vI a, vI (((Y : Nat) : Int) - 1 - b), vI c] 74, rB [vI 0, vI 0, vI 0] 74]) (by kernel_rfl) ?_
 refine kSeq ?_
 refine cSeq ?_
 refine cReg ?_
 refine segEnd [6] (T1 := (mkT 18 [(6, vP 2 0)])) (H1 := [rB [vN X, vN Y, vN Z] 75, rB [vI a, vI (((Y : Nat) : Int) - 1 - b), vI c] 74, rB [vI a, vI (((Y : Nat) : Int) - 1 - b), vI c] 74]) (by kernel_rfl) ?_
 refine kSeq ?_
 refine cRet ?_
 exact endQ (Or.inr rfl) (l := [.agg #[vI a, vI (((Y : Nat) : Int) - 1 - b), vI c]]) [rB [vN X, vN Y, vN Z] 75, rB [vI a, vI (((Y : Nat) : Int) - 1 - b), vI c] 74, rB [vI a, vI (((Y : Nat) : Int) - 1 - b), vI c] 74] (by kernel_rfl) (by first | rfl | kernel_rfl) rfl rfl hcl rfl
set_option maxRecDepth 100000 in
set_option maxHeartbeats 4000000 in
theorem mirror2 (X : Nat) (Y : Nat) (Z : Nat) (a : Int) (b : Int) (c : Int) (hs : Sides X Y Z) (hh : has3 (X : Int) (Y : Int) (Z : Int) a b c = true) : Sound Try.prog 99 [.agg #[vN X, vN Y, vN Z], .agg #[vI a, vI b, vI c], vI 2] [] (.agg #[vI a, vI b, vI (((Z : Nat) : Int) - 1 - c)]) [] := by
 refine sound_intro (C := cx) Try.func99 rfl (by kernel_rfl) fun hcl => ?_
 have hz := hs.size
 have hx0 := hs.x0
 have hx4 := hs.x4
 have hy0 := hs.y0
 have hy4 := hs.y4
 have hz0 := hs.z0
 have hz4 := hs.z4
 have hh3 := (has3_iff (c := A3.mk a b c)).1 hh
 simp only at hh3
 refine cSeq ?_
 refine cReg ?_
 refine segEnd [2, 3, 4, 6] (T1 := (mkT 18 [(2, vI 2), (3, vP 0 0), (4, vP 1 0), (6, vP 2 0)])) (H1 := [rB [vN X, vN Y, vN Z] 75, rB [vI a, vI b, vI c] 74, rB [vI 0, vI 0, vI 0] 74]) (by kernel_rfl) ?_
 refine kSeq ?_
 refine cSeq ?_
 refine cRegW (N := 3) [⟨[], [], []⟩, ⟨[], [], []⟩, ⟨[], [], []⟩, ⟨[], [], [0]⟩, ⟨[], [], []⟩, ⟨[], [], []⟩, ⟨[], [], []⟩, ⟨[], [], [1]⟩, ⟨[], [], []⟩, ⟨[], [], []⟩, ⟨[], [1], []⟩] 0 [] (by rfl) (by rfl) (by kernel_rfl) (by kernel_rfl) (by kernel_rfl) ⟨nmsX (by kernel_rfl), ⟨nmsX (by kernel_rfl), ⟨nmsX (by kernel_rfl), trivial⟩⟩⟩ ?_
 refine segWH 4 (T1 := (mkT 18 [(2, vI 2), (3, vP 0 0), (4, vP 1 0), (6, vP 2 0), (7, vI 2), (8, vI 2), (9, vP 0 2), (10, vN Z)])) (by kernel_rfl) ?_
 refine rW (m := ⟨[], [], []⟩) (v := vI (((Z : Nat) : Int) - 1)) rfl (by kernel_rfl) (stId (eSub (k := .i64) (a := ((Z : Nat) : Int)) (b := 1) (c := (((Z : Nat) : Int) - 1)) (by kernel_rfl) (by kernel_rfl) (wr64 (by omega) (by omega) (by omega))) rfl (by kernel_rfl) (by kernel_rfl) (by kernel_rfl)) (by kernel_rfl) nr0 ?_
 refine segWH 3 (T1 := (mkT 18 [(2, vI 2), (3, vP 0 0), (4, vP 1 0), (6, vP 2 0), (7, vI 2), (8, vI 2), (9, vP 0 2), (10, vN Z), (11, vI (((Z : Nat) : Int) - 1)), (12, vI 2), (13, vP 1 2), (14, vI c)])) (by kernel_rfl) ?_
 refine rW (m := ⟨[], [], []⟩) (v := vI (((Z : Nat) : Int) - 1 - c)) rfl (by kernel_rfl) (stId (eSub (k := .i64) (a := (((Z : Nat) : Int) - 1)) (b := c) (c := (((Z : Nat) : Int) - 1 - c)) (by kernel_rfl) (by kernel_rfl) (wr64 (by omega) (by omega) (by omega))) rfl (by kernel_rfl) (by kernel_rfl) (by kernel_rfl)) (by kernel_rfl) nr0 ?_
 refine segWH 1 (T1 := (mkT 18 [(2, vI 2), (3, vP 0 0), (4, vP 1 0), (6, vP 2 0), (7, vI 2), (8, vI 2), (9, vP 0 2), (10, vN Z), (11, vI (((Z : Nat) : Int) - 1)), (12, vI 2), (13, vP 1 2), (14, vI c), (15, vI (((Z : Nat) : Int) - 1 - c)), (16, vP 1 2)])) (by kernel_rfl) ?_
 refine rW (m := ⟨[], [1], []⟩) (v := .tuple #[]) rfl (by kernel_rfl) (stSet (b := 1) (r := ⟨[vI a, vI b, vI (((Z : Nat) : Int) - 1 - c)], 74, true, true⟩) (by kernel_rfl) rfl (by kernel_rfl) (by kernel_rfl) (by kernel_rfl) (by kernel_rfl) (nmX (by kernel_rfl)) (clX (by kernel_rfl))) (by kernel_rfl) (NRs.all ⟨nrOf (by rfl) (nmX (by kernel_rfl)), trivial⟩) ?_
 refine segEndW [4, 6] (T1 := (mkT 18 [(4, vP 1 0), (6, vP 2 0)])) (H1 := [rB [vN X, vN Y, vN Z] 75, rB [vI a, vI b, vI (((Z : Nat) : Int) - 1 - c)] 74, rB [vI 0, vI 0, vI 0] 74]) (by kernel_rfl) ?_
 refine kSeq ?_
 refine cSeq ?_
 refine cReg ?_
 refine segEnd [6] (T1 := (mkT 18 [(6, vP 2 0)])) (H1 := [rB [vN X, vN Y, vN Z] 75, rB [vI a, vI b, vI (((Z : Nat) : Int) - 1 - c)] 74, rB [vI a, vI b, vI (((Z : Nat) : Int) - 1 - c)] 74]) (by kernel_rfl) ?_
 refine kSeq ?_
 refine cRet ?_
 exact endQ (Or.inr rfl) (l := [.agg #[vI a, vI b, vI (((Z : Nat) : Int) - 1 - c)]]) [rB [vN X, vN Y, vN Z] 75, rB [vI a, vI b, vI (((Z : Nat) : Int) - 1 - c)] 74, rB [vI a, vI b, vI (((Z : Nat) : Int) - 1 - c)] 74] (by kernel_rfl) (by first | rfl | kernel_rfl) rfl rfl hcl rfl
set_option maxRecDepth 100000 in
set_option maxHeartbeats 4000000 in
theorem l1OwnI (N : List Int) (hl : N.length ≤ 1048576) : Sound Try.prog 94 [vS 0 N.length] [nR N] (vS 1 N.length) [nR N, nW N] := by
 refine sound_intro (C := cx) Try.func94 rfl (by kernel_rfl) fun hcl => ?_
 refine cSeq ?_
 refine cReg ?_
 refine segEndH [0] (T1 := (mkT 6 [(0, vS 0 N.length)])) (by kernel_rfl) ?_
 refine kSeq ?_
 refine cSeq ?_
 refine cReg ?_
 refine seg 2 (T1 := (mkT 6 [(0, vS 0 N.length), (3, vS 1 0), (4, vS 0 N.length)])) (H1 := [nR N, some ⟨[], 3, false, true⟩]) (by kernel_rfl) ?_
 refine rOp (v := vS 2 N.length) (H' := [nR N, none, nW N]) (by kernel_rfl) (eAppNums (b := 1) (a := 0) (c := 0) (L := ([] : List Int)) (M := N) (R := N) (e2 := 3) (bx := false) (w := false) (by kernel_rfl) (by kernel_rfl) ti22 ti3 rfl rfl (by decide) (by kernel_rfl) (by kernel_rfl) (by first | omega | (simp <;> omega)) (by simp) rfl) ?_
 refine segEnd [2] (T1 := (mkT 6 [(2, vS 2 N.length)])) (H1 := [nR N, none, nW N]) (by kernel_rfl) ?_
 refine kSeq ?_
 refine cRet ?_
 exact endF (Or.inr rfl) (l := [vS 2 N.length]) [0, 2] (by kernel_rfl) (by first | rfl | simp [packR, mpV, mpA, mpS, mpP, renId]) ⟨rrF (flatNums _ _ _ _) rfl, ⟨rrF (flatNums _ _ _ _) rfl, trivial⟩⟩ rfl rfl
set_option maxRecDepth 100000 in
set_option maxHeartbeats 4000000 in
theorem turned_true (P : Nat) (Q : Nat) (N : List Int) (hn : N.length = P * Q) (hp : P ≤ 4) (hq : Q ≤ 4) : Sound Try.prog 95 [vS 0 N.length, vN P, vN Q, .bool true] [nR N] (vS 1 ((turnL true P Q N (P * Q)).length)) [nR N, nW (turnL true P Q N (P * Q))] := by
 refine sound_intro (C := cx) Try.func95 rfl (by kernel_rfl) fun hcl => ?_
 have hpq : P * Q ≤ 4 * 4 := Nat.mul_le_mul hp hq
 refine cSeq ?_
 refine cReg ?_
 refine segEndH [0, 1, 2, 3] (T1 := (mkT 48 [(0, vS 0 N.length), (1, vN P), (2, vN Q), (3, .bool true)])) (by kernel_rfl) ?_
 refine kSeq ?_
 refine cSeq ?_
 refine cReg ?_
 refine segEnd [0, 1, 2, 3, 9] (T1 := (mkT 48 [(0, vS 0 N.length), (1, vN P), (2, vN Q), (3, .bool true), (9, vS 1 0)])) (H1 := [nR N, some ⟨[], 3, false, true⟩]) (by kernel_rfl) ?_
 refine kSeq ?_
 refine cSeq ?_
 refine cSeq ?_
 refine cReg ?_
 refine segEndH [0, 1, 2, 3, 9, 10] (T1 := (mkT 48 [(0, vS 0 N.length), (1, vN P), (2, vN Q), (3, .bool true), (9, vS 1 0), (10, vI 0)])) (by kernel_rfl) ?_
 refine kSeq ?_
 refine cBlk ?_
 refine cLoop (fun mm T H => ∃ i : Nat, ∃ M : List Int, (i ≤ P) ∧ (M = turnL true P Q N (i * Q)) ∧ mm = P - i ∧ T = (mkT 48 [(0, vS 0 N.length), (1, vN P), (2, vN Q), (3, .bool true), (9, vS 1 M.length), (10, vN i)]) ∧ H = [nR N, nW M]) (P - 0) (mkT 48 [(0, vS 0 N.length), (1, vN P), (2, vN Q), (3, .bool true), (9, vS 1 (([] : List Int).length)), (10, vI 0)]) [nR N, nW ([] : List Int)] (wkSame [0, 1, 2, 3, 9, 10] (by kernel_rfl)) ?_ ?_
 ·
  exact ⟨0, ([] : List Int), (Nat.zero_le _), (by simp [turnL]), rfl, rfl, rfl⟩
 ·
  rintro _ _ _ ⟨i, M, hi, hM, rfl, rfl, rfl⟩
  refine cSeq ?_
  refine cSeq ?_
  refine cReg ?_
  refine segEndH [0, 1, 2, 3, 9, 10, 17] (T1 := (mkT 48 [(0, vS 0 N.length), (1, vN P), (2, vN Q), (3, .bool true), (9, vS 1 M.length), (10, vN i), (17, .bool (decide (((i : Nat) : Int) < ((P : Nat) : Int))))])) (by kernel_rfl) ?_
  refine kSeq ?_
  cases h1 : (decide (((i : Nat) : Int) < ((P : Nat) : Int)) : Bool)
  ·
   (try simp only [bs0, bs1, bs2, bs3, beq_iff_eq, bne_iff_ne, beq_eq_false_iff_ne, bne_eq_false_iff_eq, ne_eq, bs4, bs5, bs6, bs7, bs8, bs9, bs10, bs11, ge_iff_le, gt_iff_lt] at h1)
   refine cFalse (by kernel_rfl) ?_
   refine cExit ?_
   refine kSeqE ?_
   refine kLoopE ?_
   refine kBlkHit ?_
   refine kSeq ?_
   refine cSeq ?_
   refine cReg ?_
   refine segEndH [8] (T1 := (mkT 48 [(8, vS 1 M.length)])) (by kernel_rfl) ?_
   refine kSeq ?_
   refine cRet ?_
   have he0 : (M : List Int) = (turnL true P Q N (P * Q)) := by (rw [hM, show i = P by omega])
   refine endCast (v1 := vS 1 M.length) (H1 := [nR N, nW M]) (by first | rfl | ((try rw [← he0]); done) | (simp only [← he0]; done)) (by first | rfl | ((try rw [← he0]); done) | (simp only [← he0]; done)) ?_
   exact endQ (Or.inr rfl) (l := [vS 1 M.length]) [] (by kernel_rfl) (by first | rfl | kernel_rfl) rfl rfl (closedL ⟨clF (flatNums _ _ _ _), ⟨clF (flatNums _ _ _ _), trivial⟩⟩) rfl
  ·
   (try simp only [bs0, bs1, bs2, bs3, beq_iff_eq, bne_iff_ne, beq_eq_false_iff_ne, bne_eq_false_iff_eq, ne_eq, bs4, bs5, bs6, bs7, bs8, bs9, bs10, bs11, ge_iff_le, gt_iff_lt] at h1)
   refine cTrue (by kernel_rfl) ?_
   refine cSkip ?_
   refine kSeq ?_
   refine cSeq ?_
   refine cBlk ?_
   refine cSeq ?_
   refine cReg ?_
   refine segEndH [0, 1, 2, 3, 9, 10, 11] (T1 := (mkT 48 [(0, vS 0 N.length), (1, vN P), (2, vN Q), (3, .bool true), (9, vS 1 M.length), (10, vN i), (11, vI 0)])) (by kernel_rfl) ?_
   refine kSeq ?_
   refine cBlk ?_
   refine cLoop (fun mm T H => ∃ j : Nat, ∃ M2 : List Int, (j ≤ Q) ∧ (M2 = turnL true P Q N (i * Q + j)) ∧ mm = Q - j ∧ T = (mkT 48 [(0, vS 0 N.length), (1, vN P), (2, vN Q), (3, .bool true), (9, vS 1 M2.length), (10, vN i), (11, vN j)]) ∧ H = [nR N, nW M2]) (Q - 0) (mkT 48 [(0, vS 0 N.length), (1, vN P), (2, vN Q), (3, .bool true), (9, vS 1 M.length), (10, vN i), (11, vI 0)]) [nR N, nW M] (wkSame [0, 1, 2, 3, 9, 10, 11] (by kernel_rfl)) ?_ ?_
   ·
    exact ⟨0, M, (Nat.zero_le _), (by rw [hM]; rfl), rfl, rfl, rfl⟩
   ·
    rintro _ _ _ ⟨j, M2, hj, hM2, rfl, rfl, rfl⟩
    have hl2 : M2.length ≤ 16 := (by have h1 : (i + 1) * Q ≤ P * Q := Nat.mul_le_mul_right Q (by omega); rw [Nat.add_mul, Nat.one_mul] at h1; rw [hM2, turnL_length]; omega)
    refine cSeq ?_
    refine cSeq ?_
    refine cReg ?_
    refine segEndH [0, 1, 2, 3, 9, 10, 11, 22] (T1 := (mkT 48 [(0, vS 0 N.length), (1, vN P), (2, vN Q), (3, .bool true), (9, vS 1 M2.length), (10, vN i), (11, vN j), (22, .bool (decide (((j : Nat) : Int) < ((Q : Nat) : Int))))])) (by kernel_rfl) ?_
    refine kSeq ?_
    cases h2 : (decide (((j : Nat) : Int) < ((Q : Nat) : Int)) : Bool)
    ·
     (try simp only [bs0, bs1, bs2, bs3, beq_iff_eq, bne_iff_ne, beq_eq_false_iff_ne, bne_eq_false_iff_eq, ne_eq, bs4, bs5, bs6, bs7, bs8, bs9, bs10, bs11, ge_iff_le, gt_iff_lt] at h2)
     refine cFalse (by kernel_rfl) ?_
     refine cExit ?_
     refine kSeqE ?_
     refine kLoopE ?_
     refine kBlkHit ?_
     refine kBlk ?_
     refine kSeq ?_
     refine cReg ?_
     refine segH 1 (T1 := (mkT 48 [(0, vS 0 N.length), (1, vN P), (2, vN Q), (3, .bool true), (9, vS 1 M2.length), (10, vN i), (11, vN j), (18, vN i), (22, .bool false)])) (by kernel_rfl) ?_
     refine rOp (v := vN (i + 1)) (by kernel_rfl) (eAdd (k := .i64) (a := ((i : Nat) : Int)) (b := 1) (c := ((i + 1 : Nat) : Int)) (by kernel_rfl) (by kernel_rfl) (wr64 (by omega) (by omega) (by omega))) ?_
     refine segEndH [0, 1, 2, 3, 9, 10] (T1 := (mkT 48 [(0, vS 0 N.length), (1, vN P), (2, vN Q), (3, .bool true), (9, vS 1 M2.length), (10, vN (i + 1))])) (by kernel_rfl) ?_
     exact kLoop (P - (i + 1)) (mkT 48 [(0, vS 0 N.length), (1, vN P), (2, vN Q), (3, .bool true), (9, vS 1 M2.length), (10, vN (i + 1))]) [nR N, nW M2] (by omega) (wkSame [0, 1, 2, 3, 9, 10] (by kernel_rfl)) ⟨(i + 1), M2, (by omega), (by rw [hM2, show j = Q by omega]; congr 1; rw [Nat.add_mul, Nat.one_mul]), rfl, rfl, rfl⟩
    ·
     (try simp only [bs0, bs1, bs2, bs3, beq_iff_eq, bne_iff_ne, beq_eq_false_iff_ne, bne_eq_false_iff_eq, ne_eq, bs4, bs5, bs6, bs7, bs8, bs9, bs10, bs11, ge_iff_le, gt_iff_lt] at h2)
     have tl := two_lt (P := P) (Q := Q) (a := (P : Int) - 1 - (i : Int)) (b := (j : Int)) ⟨by omega, by omega⟩ ⟨by omega, by omega⟩
     refine cTrue (by kernel_rfl) ?_
     refine cSkip ?_
     refine kSeq ?_
     refine cSeq ?_
     refine cBlk ?_
     refine cSeq ?_
     refine cReg ?_
     refine segH 2 (T1 := (mkT 48 [(0, vS 0 N.length), (1, vN P), (2, vN Q), (3, .bool true), (9, vS 1 M2.length), (10, vN i), (11, vN j), (22, .bool true), (25, vN i), (26, vN Q)])) (by kernel_rfl) ?_
     refine rOp (v := vI (((Q : Nat) : Int) - 1)) (by kernel_rfl) (eSub (k := .i64) (a := ((Q : Nat) : Int)) (b := 1) (c := (((Q : Nat) : Int) - 1)) (by kernel_rfl) (by kernel_rfl) (wr64 (by omega) (by omega) (by omega))) ?_
     refine segH 1 (T1 := (mkT 48 [(0, vS 0 N.length), (1, vN P), (2, vN Q), (3, .bool true), (9, vS 1 M2.length), (10, vN i), (11, vN j), (22, .bool true), (25, vN i), (26, vN Q), (27, vI (((Q : Nat) : Int) - 1)), (28, vN j)])) (by kernel_rfl) ?_
     refine rOp (v := vI (((Q : Nat) : Int) - 1 - ((j : Nat) : Int))) (by kernel_rfl) (eSub (k := .i64) (a := (((Q : Nat) : Int) - 1)) (b := ((j : Nat) : Int)) (c := (((Q : Nat) : Int) - 1 - ((j : Nat) : Int))) (by kernel_rfl) (by kernel_rfl) (wr64 (by omega) (by omega) (by omega))) ?_
     refine segEndH [0, 1, 2, 3, 9, 10, 11, 12, 13] (T1 := (mkT 48 [(0, vS 0 N.length), (1, vN P), (2, vN Q), (3, .bool true), (9, vS 1 M2.length), (10, vN i), (11, vN j), (12, vN i), (13, vI (((Q : Nat) : Int) - 1 - ((j : Nat) : Int)))])) (by kernel_rfl) ?_
     refine kSeq ?_
     refine cSeq ?_
     refine cSeq ?_
     refine cReg ?_
     refine segEndH [0, 1, 2, 3, 9, 10, 11, 12, 13, 30] (T1 := (mkT 48 [(0, vS 0 N.length), (1, vN P), (2, vN Q), (3, .bool true), (9, vS 1 M2.length), (10, vN i), (11, vN j), (12, vN i), (13, vI (((Q : Nat) : Int) - 1 - ((j : Nat) : Int))), (30, .bool true)])) (by kernel_rfl) ?_
     refine kSeq ?_
     refine cTrue (by kernel_rfl) ?_
     refine cSeq ?_
     refine cReg ?_
     refine segH 1 (T1 := (mkT 48 [(0, vS 0 N.length), (1, vN P), (2, vN Q), (3, .bool true), (9, vS 1 M2.length), (10, vN i), (11, vN j), (12, vN i), (13, vI (((Q : Nat) : Int) - 1 - ((j : Nat) : Int))), (30, .bool true), (31, vN P)])) (by kernel_rfl) ?_
     refine rOp (v := vI (((P : Nat) : Int) - 1)) (by kernel_rfl) (eSub (k := .i64) (a := ((P : Nat) : Int)) (b := 1) (c := (((P : Nat) : Int) - 1)) (by kernel_rfl) (by kernel_rfl) (wr64 (by omega) (by omega) (by omega))) ?_
     refine segH 1 (T1 := (mkT 48 [(0, vS 0 N.length), (1, vN P), (2, vN Q), (3, .bool true), (9, vS 1 M2.length), (10, vN i), (11, vN j), (12, vN i), (13, vI (((Q : Nat) : Int) - 1 - ((j : Nat) : Int))), (30, .bool true), (31, vN P), (32, vI (((P : Nat) : Int) - 1)), (33, vN i)])) (by kernel_rfl) ?_
     refine rOp (v := vI (((P : Nat) : Int) - 1 - ((i : Nat) : Int))) (by kernel_rfl) (eSub (k := .i64) (a := (((P : Nat) : Int) - 1)) (b := ((i : Nat) : Int)) (c := (((P : Nat) : Int) - 1 - ((i : Nat) : Int))) (by kernel_rfl) (by kernel_rfl) (wr64 (by omega) (by omega) (by omega))) ?_
     refine segEndH [0, 1, 2, 3, 9, 10, 11, 12] (T1 := (mkT 48 [(0, vS 0 N.length), (1, vN P), (2, vN Q), (3, .bool true), (9, vS 1 M2.length), (10, vN i), (11, vN j), (12, vI (((P : Nat) : Int) - 1 - ((i : Nat) : Int)))])) (by kernel_rfl) ?_
     refine kSeq ?_
     refine cReg ?_
     refine segEndH [0, 1, 2, 3, 9, 10, 11, 12, 13] (T1 := (mkT 48 [(0, vS 0 N.length), (1, vN P), (2, vN Q), (3, .bool true), (9, vS 1 M2.length), (10, vN i), (11, vN j), (12, vI (((P : Nat) : Int) - 1 - ((i : Nat) : Int))), (13, vN j)])) (by kernel_rfl) ?_
     refine kSeq ?_
     refine cReg ?_
     refine segH 4 (T1 := (mkT 48 [(0, vS 0 N.length), (1, vN P), (2, vN Q), (3, .bool true), (9, vS 1 M2.length), (10, vN i), (11, vN j), (12, vI (((P : Nat) : Int) - 1 - ((i : Nat) : Int))), (13, vN j), (36, vS 1 M2.length), (37, vS 0 N.length), (38, vI (((P : Nat) : Int) - 1 - ((i : Nat) : Int))), (39, vN Q)])) (by kernel_rfl) ?_
     refine rOp (v := vI ((((P : Nat) : Int) - 1 - ((i : Nat) : Int)) * ((Q : Nat) : Int))) (by kernel_rfl) (eMul (k := .i64) (a := (((P : Nat) : Int) - 1 - ((i : Nat) : Int))) (b := ((Q : Nat) : Int)) (c := ((((P : Nat) : Int) - 1 - ((i : Nat) : Int)) * ((Q : Nat) : Int))) (by kernel_rfl) (by kernel_rfl) (wr64 (by omega) (by omega) (by omega))) ?_
     refine segH 1 (T1 := (mkT 48 [(0, vS 0 N.length), (1, vN P), (2, vN Q), (3, .bool true), (9, vS 1 M2.length), (10, vN i), (11, vN j), (12, vI (((P : Nat) : Int) - 1 - ((i : Nat) : Int))), (13, vN j), (36, vS 1 M2.length), (37, vS 0 N.length), (38, vI (((P : Nat) : Int) - 1 - ((i : Nat) : Int))), (39, vN Q), (40, vI ((((P : Nat) : Int) - 1 - ((i : Nat) : Int)) * ((Q : Nat) : Int))), (41, vN j)])) (by kernel_rfl) ?_
     refine rOp (v := vI ((((P : Nat) : Int) - 1 - ((i : Nat) : Int)) * ((Q : Nat) : Int) + ((j : Nat) : Int))) (by kernel_rfl) (eAdd (k := .i64) (a := ((((P : Nat) : Int) - 1 - ((i : Nat) : Int)) * ((Q : Nat) : Int))) (b := ((j : Nat) : Int)) (c := ((((P : Nat) : Int) - 1 - ((i : Nat) : Int)) * ((Q : Nat) : Int) + ((j : Nat) : Int))) (by kernel_rfl) (by kernel_rfl) (wr64 (by omega) (by omega) (by omega))) ?_
     refine rOp (v := vP 0 (((((P : Nat) : Int) - 1 - ((i : Nat) : Int)) * ((Q : Nat) : Int) + ((j : Nat) : Int)).toNat)) (by kernel_rfl) (eIdxS (ad := ⟨0, 0, none⟩) (n := N.length) (m := 0) (k := .i64) (c := ((((P : Nat) : Int) - 1 - ((i : Nat) : Int)) * ((Q : Nat) : Int) + ((j : Nat) : Int))) (j := (((((P : Nat) : Int) - 1 - ((i : Nat) : Int)) * ((Q : Nat) : Int) + ((j : Nat) : Int)).toNat)) (o := ((((P : Nat) : Int) - 1 - ((i : Nat) : Int)) * ((Q : Nat) : Int) + ((j : Nat) : Int)).toNat) (by kernel_rfl) (by kernel_rfl) ti22 ti3 (by omega) (by omega) (by simp)) ?_
     refine rOp (v := vI (N.getD (((((P : Nat) : Int) - 1 - ((i : Nat) : Int)) * ((Q : Nat) : Int) + ((j : Nat) : Int)).toNat) 0)) (by kernel_rfl) (eLdNum (ad := ⟨0, ((((P : Nat) : Int) - 1 - ((i : Nat) : Int)) * ((Q : Nat) : Int) + ((j : Nat) : Int)).toNat, none⟩) (r := ⟨nums N, 3, false, false⟩) (L := N) (j := (((((P : Nat) : Int) - 1 - ((i : Nat) : Int)) * ((Q : Nat) : Int) + ((j : Nat) : Int)).toNat)) (by kernel_rfl) (by kernel_rfl) rfl (by first | rfl | omega) (by omega) ti3 rfl) ?_
     refine seg 1 (T1 := (mkT 48 [(0, vS 0 N.length), (1, vN P), (2, vN Q), (3, .bool true), (9, vS 1 M2.length), (10, vN i), (11, vN j), (12, vI (((P : Nat) : Int) - 1 - ((i : Nat) : Int))), (13, vN j), (36, vS 1 M2.length), (37, vS 0 N.length), (38, vI (((P : Nat) : Int) - 1 - ((i : Nat) : Int))), (39, vN Q), (40, vI ((((P : Nat) : Int) - 1 - ((i : Nat) : Int)) * ((Q : Nat) : Int))), (41, vN j), (42, vI ((((P : Nat) : Int) - 1 - ((i : Nat) : Int)) * ((Q : Nat) : Int) + ((j : Nat) : Int))), (43, vP 0 (((((P : Nat) : Int) - 1 - ((i : Nat) : Int)) * ((Q : Nat) : Int) + ((j : Nat) : Int)).toNat)), (44, vI (N.getD (((((P : Nat) : Int) - 1 - ((i : Nat) : Int)) * ((Q : Nat) : Int) + ((j : Nat) : Int)).toNat) 0)), (45, vS 2 1)])) (H1 := [nR N, nW M2, some ⟨[vI (N.getD (((((P : Nat) : Int) - 1 - ((i : Nat) : Int)) * ((Q : Nat) : Int) + ((j : Nat) : Int)).toNat) 0)], 3, false, true⟩]) (by kernel_rfl) ?_
     refine rOp (v := vS 3 ((M2 ++ [(N.getD (((((P : Nat) : Int) - 1 - ((i : Nat) : Int)) * ((Q : Nat) : Int) + ((j : Nat) : Int)).toNat) 0)]).length)) (H' := [nR N, none, some ⟨[vI (N.getD (((((P : Nat) : Int) - 1 - ((i : Nat) : Int)) * ((Q : Nat) : Int) + ((j : Nat) : Int)).toNat) 0)], 3, false, true⟩, some ⟨nums (M2 ++ [(N.getD (((((P : Nat) : Int) - 1 - ((i : Nat) : Int)) * ((Q : Nat) : Int) + ((j : Nat) : Int)).toNat) 0)]), 3, false, true⟩]) (by kernel_rfl) (eAppNum (b := 1) (a := 2) (L := M2) (c := (N.getD (((((P : Nat) : Int) - 1 - ((i : Nat) : Int)) * ((Q : Nat) : Int) + ((j : Nat) : Int)).toNat) 0)) (r := ⟨[vI (N.getD (((((P : Nat) : Int) - 1 - ((i : Nat) : Int)) * ((Q : Nat) : Int) + ((j : Nat) : Int)).toNat) 0)], 3, false, true⟩) (m := 0) (by kernel_rfl) (by kernel_rfl) ti22 ti3 rfl rfl (by decide) (by kernel_rfl) (by kernel_rfl) rfl (by first | omega | (simp <;> omega)) rfl) ?_
     refine segEnd [0, 1, 2, 3, 9, 10, 11] (T1 := (mkT 48 [(0, vS 0 N.length), (1, vN P), (2, vN Q), (3, .bool true), (9, vS 3 ((M2 ++ [(N.getD (((((P : Nat) : Int) - 1 - ((i : Nat) : Int)) * ((Q : Nat) : Int) + ((j : Nat) : Int)).toNat) 0)]).length)), (10, vN i), (11, vN j)])) (H1 := [nR N, none, some ⟨[vI (N.getD (((((P : Nat) : Int) - 1 - ((i : Nat) : Int)) * ((Q : Nat) : Int) + ((j : Nat) : Int)).toNat) 0)], 3, false, true⟩, some ⟨nums (M2 ++ [(N.getD (((((P : Nat) : Int) - 1 - ((i : Nat) : Int)) * ((Q : Nat) : Int) + ((j : Nat) : Int)).toNat) 0)]), 3, false, true⟩]) (by kernel_rfl) ?_
     refine kBlk ?_
     refine kSeq ?_
     refine cReg ?_
     refine segH 1 (T1 := (mkT 48 [(0, vS 0 N.length), (1, vN P), (2, vN Q), (3, .bool true), (9, vS 3 ((M2 ++ [(N.getD (((((P : Nat) : Int) - 1 - ((i : Nat) : Int)) * ((Q : Nat) : Int) + ((j : Nat) : Int)).toNat) 0)]).length)), (10, vN i), (11, vN j), (23, vN j)])) (by kernel_rfl) ?_
     refine rOp (v := vN (j + 1)) (by kernel_rfl) (eAdd (k := .i64) (a := ((j : Nat) : Int)) (b := 1) (c := ((j + 1 : Nat) : Int)) (by kernel_rfl) (by kernel_rfl) (wr64 (by omega) (by omega) (by omega))) ?_
     refine segEndH [0, 1, 2, 3, 9, 10, 11] (T1 := (mkT 48 [(0, vS 0 N.length), (1, vN P), (2, vN Q), (3, .bool true), (9, vS 3 ((M2 ++ [(N.getD (((((P : Nat) : Int) - 1 - ((i : Nat) : Int)) * ((Q : Nat) : Int) + ((j : Nat) : Int)).toNat) 0)]).length)), (10, vN i), (11, vN (j + 1))])) (by kernel_rfl) ?_
     exact kLoop (Q - (j + 1)) (mkT 48 [(0, vS 0 N.length), (1, vN P), (2, vN Q), (3, .bool true), (9, vS 1 ((M2 ++ [(N.getD (((((P : Nat) : Int) - 1 - ((i : Nat) : Int)) * ((Q : Nat) : Int) + ((j : Nat) : Int)).toNat) 0)]).length)), (10, vN i), (11, vN (j + 1))]) [nR N, some ⟨nums (M2 ++ [(N.getD (((((P : Nat) : Int) - 1 - ((i : Nat) : Int)) * ((Q : Nat) : Int) + ((j : Nat) : Int)).toNat) 0)]), 3, false, true⟩] (by omega) (wkRen [0, 3] [0, 1, 2, 3, 9, 10, 11] ⟨rrF (flatNums _ _ _ _) rfl, ⟨rrF (flatNums _ _ _ _) rfl, trivial⟩⟩ rfl (by kernel_rfl) rfl) ⟨(j + 1), (M2 ++ [(N.getD (((((P : Nat) : Int) - 1 - ((i : Nat) : Int)) * ((Q : Nat) : Int) + ((j : Nat) : Int)).toNat) 0)]), (by omega), (turn_t hM2 (by omega) (by omega)), rfl, rfl, rfl⟩
set_option maxRecDepth 100000 in
set_option maxHeartbeats 4000000 in
theorem turned_false (P : Nat) (Q : Nat) (N : List Int) (hn : N.length = P * Q) (hp : P ≤ 4) (hq : Q ≤ 4) : Sound Try.prog 95 [vS 0 N.length, vN P, vN Q, .bool false] [nR N] (vS 1 ((turnL false P Q N (P * Q)).length)) [nR N, nW (turnL false P Q N (P * Q))] := by
 refine sound_intro (C := cx) Try.func95 rfl (by kernel_rfl) fun hcl => ?_
 have hpq : P * Q ≤ 4 * 4 := Nat.mul_le_mul hp hq
 refine cSeq ?_
 refine cReg ?_
 refine segEndH [0, 1, 2, 3] (T1 := (mkT 48 [(0, vS 0 N.length), (1, vN P), (2, vN Q), (3, .bool false)])) (by kernel_rfl) ?_
 refine kSeq ?_
 refine cSeq ?_
 refine cReg ?_
 refine segEnd [0, 1, 2, 3, 9] (T1 := (mkT 48 [(0, vS 0 N.length), (1, vN P), (2, vN Q), (3, .bool false), (9, vS 1 0)])) (H1 := [nR N, some ⟨[], 3, false, true⟩]) (by kernel_rfl) ?_
 refine kSeq ?_
 refine cSeq ?_
 refine cSeq ?_
 refine cReg ?_
 refine segEndH [0, 1, 2, 3, 9, 10] (T1 := (mkT 48 [(0, vS 0 N.length), (1, vN P), (2, vN Q), (3, .bool false), (9, vS 1 0), (10, vI 0)])) (by kernel_rfl) ?_
 refine kSeq ?_
 refine cBlk ?_
 refine cLoop (fun mm T H => ∃ i : Nat, ∃ M : List Int, (i ≤ P) ∧ (M = turnL false P Q N (i * Q)) ∧ mm = P - i ∧ T = (mkT 48 [(0, vS 0 N.length), (1, vN P), (2, vN Q), (3, .bool false), (9, vS 1 M.length), (10, vN i)]) ∧ H = [nR N, nW M]) (P - 0) (mkT 48 [(0, vS 0 N.length), (1, vN P), (2, vN Q), (3, .bool false), (9, vS 1 (([] : List Int).length)), (10, vI 0)]) [nR N, nW ([] : List Int)] (wkSame [0, 1, 2, 3, 9, 10] (by kernel_rfl)) ?_ ?_
 ·
  exact ⟨0, ([] : List Int), (Nat.zero_le _), (by simp [turnL]), rfl, rfl, rfl⟩
 ·
  rintro _ _ _ ⟨i, M, hi, hM, rfl, rfl, rfl⟩
  refine cSeq ?_
  refine cSeq ?_
  refine cReg ?_
  refine segEndH [0, 1, 2, 3, 9, 10, 17] (T1 := (mkT 48 [(0, vS 0 N.length), (1, vN P), (2, vN Q), (3, .bool false), (9, vS 1 M.length), (10, vN i), (17, .bool (decide (((i : Nat) : Int) < ((P : Nat) : Int))))])) (by kernel_rfl) ?_
  refine kSeq ?_
  cases h1 : (decide (((i : Nat) : Int) < ((P : Nat) : Int)) : Bool)
  ·
   (try simp only [bs0, bs1, bs2, bs3, beq_iff_eq, bne_iff_ne, beq_eq_false_iff_ne, bne_eq_false_iff_eq, ne_eq, bs4, bs5, bs6, bs7, bs8, bs9, bs10, bs11, ge_iff_le, gt_iff_lt] at h1)
   refine cFalse (by kernel_rfl) ?_
   refine cExit ?_
   refine kSeqE ?_
   refine kLoopE ?_
   refine kBlkHit ?_
   refine kSeq ?_
   refine cSeq ?_
   refine cReg ?_
   refine segEndH [8] (T1 := (mkT 48 [(8, vS 1 M.length)])) (by kernel_rfl) ?_
   refine kSeq ?_
   refine cRet ?_
   have he0 : (M : List Int) = (turnL false P Q N (P * Q)) := by (rw [hM, show i = P by omega])
   refine endCast (v1 := vS 1 M.length) (H1 := [nR N, nW M]) (by first | rfl | ((try rw [← he0]); done) | (simp only [← he0]; done)) (by first | rfl | ((try rw [← he0]); done) | (simp only [← he0]; done)) ?_
   exact endQ (Or.inr rfl) (l := [vS 1 M.length]) [] (by kernel_rfl) (by first | rfl | kernel_rfl) rfl rfl (closedL ⟨clF (flatNums _ _ _ _), ⟨clF (flatNums _ _ _ _), trivial⟩⟩) rfl
  ·
   (try simp only [bs0, bs1, bs2, bs3, beq_iff_eq, bne_iff_ne, beq_eq_false_iff_ne, bne_eq_false_iff_eq, ne_eq, bs4, bs5, bs6, bs7, bs8, bs9, bs10, bs11, ge_iff_le, gt_iff_lt] at h1)
   refine cTrue (by kernel_rfl) ?_
   refine cSkip ?_
   refine kSeq ?_
   refine cSeq ?_
   refine cBlk ?_
   refine cSeq ?_
   refine cReg ?_
   refine segEndH [0, 1, 2, 3, 9, 10, 11] (T1 := (mkT 48 [(0, vS 0 N.length), (1, vN P), (2, vN Q), (3, .bool false), (9, vS 1 M.length), (10, vN i), (11, vI 0)])) (by kernel_rfl) ?_
   refine kSeq ?_
   refine cBlk ?_
   refine cLoop (fun mm T H => ∃ j : Nat, ∃ M2 : List Int, (j ≤ Q) ∧ (M2 = turnL false P Q N (i * Q + j)) ∧ mm = Q - j ∧ T = (mkT 48 [(0, vS 0 N.length), (1, vN P), (2, vN Q), (3, .bool false), (9, vS 1 M2.length), (10, vN i), (11, vN j)]) ∧ H = [nR N, nW M2]) (Q - 0) (mkT 48 [(0, vS 0 N.length), (1, vN P), (2, vN Q), (3, .bool false), (9, vS 1 M.length), (10, vN i), (11, vI 0)]) [nR N, nW M] (wkSame [0, 1, 2, 3, 9, 10, 11] (by kernel_rfl)) ?_ ?_
   ·
    exact ⟨0, M, (Nat.zero_le _), (by rw [hM]; rfl), rfl, rfl, rfl⟩
   ·
    rintro _ _ _ ⟨j, M2, hj, hM2, rfl, rfl, rfl⟩
    have hl2 : M2.length ≤ 16 := (by have h1 : (i + 1) * Q ≤ P * Q := Nat.mul_le_mul_right Q (by omega); rw [Nat.add_mul, Nat.one_mul] at h1; rw [hM2, turnL_length]; omega)
    refine cSeq ?_
    refine cSeq ?_
    refine cReg ?_
    refine segEndH [0, 1, 2, 3, 9, 10, 11, 22] (T1 := (mkT 48 [(0, vS 0 N.length), (1, vN P), (2, vN Q), (3, .bool false), (9, vS 1 M2.length), (10, vN i), (11, vN j), (22, .bool (decide (((j : Nat) : Int) < ((Q : Nat) : Int))))])) (by kernel_rfl) ?_
    refine kSeq ?_
    cases h2 : (decide (((j : Nat) : Int) < ((Q : Nat) : Int)) : Bool)
    ·
     (try simp only [bs0, bs1, bs2, bs3, beq_iff_eq, bne_iff_ne, beq_eq_false_iff_ne, bne_eq_false_iff_eq, ne_eq, bs4, bs5, bs6, bs7, bs8, bs9, bs10, bs11, ge_iff_le, gt_iff_lt] at h2)
     refine cFalse (by kernel_rfl) ?_
     refine cExit ?_
     refine kSeqE ?_
     refine kLoopE ?_
     refine kBlkHit ?_
     refine kBlk ?_
     refine kSeq ?_
     refine cReg ?_
     refine segH 1 (T1 := (mkT 48 [(0, vS 0 N.length), (1, vN P), (2, vN Q), (3, .bool false), (9, vS 1 M2.length), (10, vN i), (11, vN j), (18, vN i), (22, .bool false)])) (by kernel_rfl) ?_
     refine rOp (v := vN (i + 1)) (by kernel_rfl) (eAdd (k := .i64) (a := ((i : Nat) : Int)) (b := 1) (c := ((i + 1 : Nat) : Int)) (by kernel_rfl) (by kernel_rfl) (wr64 (by omega) (by omega) (by omega))) ?_
     refine segEndH [0, 1, 2, 3, 9, 10] (T1 := (mkT 48 [(0, vS 0 N.length), (1, vN P), (2, vN Q), (3, .bool false), (9, vS 1 M2.length), (10, vN (i + 1))])) (by kernel_rfl) ?_
     exact kLoop (P - (i + 1)) (mkT 48 [(0, vS 0 N.length), (1, vN P), (2, vN Q), (3, .bool false), (9, vS 1 M2.length), (10, vN (i + 1))]) [nR N, nW M2] (by omega) (wkSame [0, 1, 2, 3, 9, 10] (by kernel_rfl)) ⟨(i + 1), M2, (by omega), (by rw [hM2, show j = Q by omega]; congr 1; rw [Nat.add_mul, Nat.one_mul]), rfl, rfl, rfl⟩
    ·
     (try simp only [bs0, bs1, bs2, bs3, beq_iff_eq, bne_iff_ne, beq_eq_false_iff_ne, bne_eq_false_iff_eq, ne_eq, bs4, bs5, bs6, bs7, bs8, bs9, bs10, bs11, ge_iff_le, gt_iff_lt] at h2)
     have tl := two_lt (P := P) (Q := Q) (a := (i : Int)) (b := (Q : Int) - 1 - (j : Int)) ⟨by omega, by omega⟩ ⟨by omega, by omega⟩
     refine cTrue (by kernel_rfl) ?_
     refine cSkip ?_
     refine kSeq ?_
     refine cSeq ?_
     refine cBlk ?_
     refine cSeq ?_
     refine cReg ?_
     refine segH 2 (T1 := (mkT 48 [(0, vS 0 N.length), (1, vN P), (2, vN Q), (3, .bool false), (9, vS 1 M2.length), (10, vN i), (11, vN j), (22, .bool true), (25, vN i), (26, vN Q)])) (by kernel_rfl) ?_
     refine rOp (v := vI (((Q : Nat) : Int) - 1)) (by kernel_rfl) (eSub (k := .i64) (a := ((Q : Nat) : Int)) (b := 1) (c := (((Q : Nat) : Int) - 1)) (by kernel_rfl) (by kernel_rfl) (wr64 (by omega) (by omega) (by omega))) ?_
     refine segH 1 (T1 := (mkT 48 [(0, vS 0 N.length), (1, vN P), (2, vN Q), (3, .bool false), (9, vS 1 M2.length), (10, vN i), (11, vN j), (22, .bool true), (25, vN i), (26, vN Q), (27, vI (((Q : Nat) : Int) - 1)), (28, vN j)])) (by kernel_rfl) ?_
     refine rOp (v := vI (((Q : Nat) : Int) - 1 - ((j : Nat) : Int))) (by kernel_rfl) (eSub (k := .i64) (a := (((Q : Nat) : Int) - 1)) (b := ((j : Nat) : Int)) (c := (((Q : Nat) : Int) - 1 - ((j : Nat) : Int))) (by kernel_rfl) (by kernel_rfl) (wr64 (by omega) (by omega) (by omega))) ?_
     refine segEndH [0, 1, 2, 3, 9, 10, 11, 12, 13] (T1 := (mkT 48 [(0, vS 0 N.length), (1, vN P), (2, vN Q), (3, .bool false), (9, vS 1 M2.length), (10, vN i), (11, vN j), (12, vN i), (13, vI (((Q : Nat) : Int) - 1 - ((j : Nat) : Int)))])) (by kernel_rfl) ?_
     refine kSeq ?_
     refine cSeq ?_
     refine cSeq ?_
     refine cReg ?_
     refine segEndH [0, 1, 2, 3, 9, 10, 11, 12, 13, 30] (T1 := (mkT 48 [(0, vS 0 N.length), (1, vN P), (2, vN Q), (3, .bool false), (9, vS 1 M2.length), (10, vN i), (11, vN j), (12, vN i), (13, vI (((Q : Nat) : Int) - 1 - ((j : Nat) : Int))), (30, .bool false)])) (by kernel_rfl) ?_
     refine kSeq ?_
     refine cFalse (by kernel_rfl) ?_
     refine cSkip ?_
     refine kSeq ?_
     refine cReg ?_
     refine segH 4 (T1 := (mkT 48 [(0, vS 0 N.length), (1, vN P), (2, vN Q), (3, .bool false), (9, vS 1 M2.length), (10, vN i), (11, vN j), (12, vN i), (13, vI (((Q : Nat) : Int) - 1 - ((j : Nat) : Int))), (30, .bool false), (36, vS 1 M2.length), (37, vS 0 N.length), (38, vN i), (39, vN Q)])) (by kernel_rfl) ?_
     refine rOp (v := vN (i * Q)) (by kernel_rfl) (eMul (k := .i64) (a := ((i : Nat) : Int)) (b := ((Q : Nat) : Int)) (c := ((i * Q : Nat) : Int)) (by kernel_rfl) (by kernel_rfl) (nMul (by omega))) ?_
     refine segH 1 (T1 := (mkT 48 [(0, vS 0 N.length), (1, vN P), (2, vN Q), (3, .bool false), (9, vS 1 M2.length), (10, vN i), (11, vN j), (12, vN i), (13, vI (((Q : Nat) : Int) - 1 - ((j : Nat) : Int))), (30, .bool false), (36, vS 1 M2.length), (37, vS 0 N.length), (38, vN i), (39, vN Q), (40, vN (i * Q)), (41, vI (((Q : Nat) : Int) - 1 - ((j : Nat) : Int)))])) (by kernel_rfl) ?_
     refine rOp (v := vI (((i * Q : Nat) : Int) + (((Q : Nat) : Int) - 1 - ((j : Nat) : Int)))) (by kernel_rfl) (eAdd (k := .i64) (a := ((i * Q : Nat) : Int)) (b := (((Q : Nat) : Int) - 1 - ((j : Nat) : Int))) (c := (((i * Q : Nat) : Int) + (((Q : Nat) : Int) - 1 - ((j : Nat) : Int)))) (by kernel_rfl) (by kernel_rfl) (wr64 (by omega) (by omega) (by omega))) ?_
     refine rOp (v := vP 0 ((((i * Q : Nat) : Int) + (((Q : Nat) : Int) - 1 - ((j : Nat) : Int))).toNat)) (by kernel_rfl) (eIdxS (ad := ⟨0, 0, none⟩) (n := N.length) (m := 0) (k := .i64) (c := (((i * Q : Nat) : Int) + (((Q : Nat) : Int) - 1 - ((j : Nat) : Int)))) (j := ((((i * Q : Nat) : Int) + (((Q : Nat) : Int) - 1 - ((j : Nat) : Int))).toNat)) (o := (((i * Q : Nat) : Int) + (((Q : Nat) : Int) - 1 - ((j : Nat) : Int))).toNat) (by kernel_rfl) (by kernel_rfl) ti22 ti3 (by omega) (by omega) (by simp)) ?_
     refine rOp (v := vI (N.getD ((((i * Q : Nat) : Int) + (((Q : Nat) : Int) - 1 - ((j : Nat) : Int))).toNat) 0)) (by kernel_rfl) (eLdNum (ad := ⟨0, (((i * Q : Nat) : Int) + (((Q : Nat) : Int) - 1 - ((j : Nat) : Int))).toNat, none⟩) (r := ⟨nums N, 3, false, false⟩) (L := N) (j := ((((i * Q : Nat) : Int) + (((Q : Nat) : Int) - 1 - ((j : Nat) : Int))).toNat)) (by kernel_rfl) (by kernel_rfl) rfl (by first | rfl | omega) (by omega) ti3 rfl) ?_
     refine seg 1 (T1 := (mkT 48 [(0, vS 0 N.length), (1, vN P), (2, vN Q), (3, .bool false), (9, vS 1 M2.length), (10, vN i), (11, vN j), (12, vN i), (13, vI (((Q : Nat) : Int) - 1 - ((j : Nat) : Int))), (30, .bool false), (36, vS 1 M2.length), (37, vS 0 N.length), (38, vN i), (39, vN Q), (40, vN (i * Q)), (41, vI (((Q : Nat) : Int) - 1 - ((j : Nat) : Int))), (42, vI (((i * Q : Nat) : Int) + (((Q : Nat) : Int) - 1 - ((j : Nat) : Int)))), (43, vP 0 ((((i * Q : Nat) : Int) + (((Q : Nat) : Int) - 1 - ((j : Nat) : Int))).toNat)), (44, vI (N.getD ((((i * Q : Nat) : Int) + (((Q : Nat) : Int) - 1 - ((j : Nat) : Int))).toNat) 0)), (45, vS 2 1)])) (H1 := [nR N, nW M2, some ⟨[vI (N.getD ((((i * Q : Nat) : Int) + (((Q : Nat) : Int) - 1 - ((j : Nat) : Int))).toNat) 0)], 3, false, true⟩]) (by kernel_rfl) ?_
     refine rOp (v := vS 3 ((M2 ++ [(N.getD ((((i * Q : Nat) : Int) + (((Q : Nat) : Int) - 1 - ((j : Nat) : Int))).toNat) 0)]).length)) (H' := [nR N, none, some ⟨[vI (N.getD ((((i * Q : Nat) : Int) + (((Q : Nat) : Int) - 1 - ((j : Nat) : Int))).toNat) 0)], 3, false, true⟩, some ⟨nums (M2 ++ [(N.getD ((((i * Q : Nat) : Int) + (((Q : Nat) : Int) - 1 - ((j : Nat) : Int))).toNat) 0)]), 3, false, true⟩]) (by kernel_rfl) (eAppNum (b := 1) (a := 2) (L := M2) (c := (N.getD ((((i * Q : Nat) : Int) + (((Q : Nat) : Int) - 1 - ((j : Nat) : Int))).toNat) 0)) (r := ⟨[vI (N.getD ((((i * Q : Nat) : Int) + (((Q : Nat) : Int) - 1 - ((j : Nat) : Int))).toNat) 0)], 3, false, true⟩) (m := 0) (by kernel_rfl) (by kernel_rfl) ti22 ti3 rfl rfl (by decide) (by kernel_rfl) (by kernel_rfl) rfl (by first | omega | (simp <;> omega)) rfl) ?_
     refine segEnd [0, 1, 2, 3, 9, 10, 11] (T1 := (mkT 48 [(0, vS 0 N.length), (1, vN P), (2, vN Q), (3, .bool false), (9, vS 3 ((M2 ++ [(N.getD ((((i * Q : Nat) : Int) + (((Q : Nat) : Int) - 1 - ((j : Nat) : Int))).toNat) 0)]).length)), (10, vN i), (11, vN j)])) (H1 := [nR N, none, some ⟨[vI (N.getD ((((i * Q : Nat) : Int) + (((Q : Nat) : Int) - 1 - ((j : Nat) : Int))).toNat) 0)], 3, false, true⟩, some ⟨nums (M2 ++ [(N.getD ((((i * Q : Nat) : Int) + (((Q : Nat) : Int) - 1 - ((j : Nat) : Int))).toNat) 0)]), 3, false, true⟩]) (by kernel_rfl) ?_
     refine kBlk ?_
     refine kSeq ?_
     refine cReg ?_
     refine segH 1 (T1 := (mkT 48 [(0, vS 0 N.length), (1, vN P), (2, vN Q), (3, .bool false), (9, vS 3 ((M2 ++ [(N.getD ((((i * Q : Nat) : Int) + (((Q : Nat) : Int) - 1 - ((j : Nat) : Int))).toNat) 0)]).length)), (10, vN i), (11, vN j), (23, vN j)])) (by kernel_rfl) ?_
     refine rOp (v := vN (j + 1)) (by kernel_rfl) (eAdd (k := .i64) (a := ((j : Nat) : Int)) (b := 1) (c := ((j + 1 : Nat) : Int)) (by kernel_rfl) (by kernel_rfl) (wr64 (by omega) (by omega) (by omega))) ?_
     refine segEndH [0, 1, 2, 3, 9, 10, 11] (T1 := (mkT 48 [(0, vS 0 N.length), (1, vN P), (2, vN Q), (3, .bool false), (9, vS 3 ((M2 ++ [(N.getD ((((i * Q : Nat) : Int) + (((Q : Nat) : Int) - 1 - ((j : Nat) : Int))).toNat) 0)]).length)), (10, vN i), (11, vN (j + 1))])) (by kernel_rfl) ?_
     exact kLoop (Q - (j + 1)) (mkT 48 [(0, vS 0 N.length), (1, vN P), (2, vN Q), (3, .bool false), (9, vS 1 ((M2 ++ [(N.getD ((((i * Q : Nat) : Int) + (((Q : Nat) : Int) - 1 - ((j : Nat) : Int))).toNat) 0)]).length)), (10, vN i), (11, vN (j + 1))]) [nR N, some ⟨nums (M2 ++ [(N.getD ((((i * Q : Nat) : Int) + (((Q : Nat) : Int) - 1 - ((j : Nat) : Int))).toNat) 0)]), 3, false, true⟩] (by omega) (wkRen [0, 3] [0, 1, 2, 3, 9, 10, 11] ⟨rrF (flatNums _ _ _ _) rfl, ⟨rrF (flatNums _ _ _ _) rfl, trivial⟩⟩ rfl (by kernel_rfl) rfl) ⟨(j + 1), (M2 ++ [(N.getD ((((i * Q : Nat) : Int) + (((Q : Nat) : Int) - 1 - ((j : Nat) : Int))).toNat) 0)]), (by omega), (turn_f hM2 (by omega) (by omega)), rfl, rfl, rfl⟩
end Go.Proofs.Ytbheeobnghlckaa
set_option linter.unusedVariables false
set_option linter.unusedSimpArgs false
namespace Go.Am
theorem Sound.emb_sets {P : Program} {f : FuncId} {args0 args : List Value} {R R' : List Row} {H H' : Heap} {v : Value} (σ : Nat → Nat) (hS : Sound P f args0 (R.map some) v (R'.map some)) (hR : ∀ r ∈ R, FlatRow r ∧ r.wr = true) (hR' : ∀ r ∈ R', FlatRow r ∧ r.wr = true)
    (hl' : R'.length = R.length) (hin : ∀ (k : Nat) (r : Row), R[k]? = some r → H[σ k]? = some (some r)) (hnd : ∀ k k2, k < R.length → k2 < R.length → σ k = σ k2 → k = k2) (hlen : H'.length = H.length)
    (hset : ∀ (i : Nat) (q : Row), H'[i]? = some (some q) → (∃ k, k < R.length ∧ i = σ k ∧ R'[k]? = some q) ∨ ((∀ k, k < R.length → i ≠ σ k) ∧ H[i]? = some (some q)))
    (hi : (args0.all fun x => (idsV x).all fun i => decide (i < R.length)) = true) (ha : args = args0.map (mpV (renId σ))) (hv : fixV v = true) : Sound P f args H v H' := by
  subst ha
  simp only [List.all_eq_true, decide_eq_true_eq] at hi
  have getR : ∀ (k : Nat) (q : Row), (R.map some)[k]? = some (some q) → R[k]? = some q := by
    intro k q h
    rw [List.getElem?_map, Option.map_eq_some_iff] at h
    obtain ⟨r, h1, h2⟩ := h
    simp only [Option.some.injEq] at h2
    exact h2 ▸ h1
  have flatS : ∀ (ρ1 ρ2 : Ren) (r : Row) (v : Value), FlatRow r → v ∈ r.cells → mapS ρ1 v = mapS ρ2 v := fun ρ1 ρ2 r v hf hm => by rw [mapS, mapS, (hf v hm).2, (hf v hm).2]
  refine ⟨hS.can, fun ρ w hr hargs => ?_⟩
  have hrep0 : Rep P (fun k => ρ (σ k)) (R.map some) w := by
    refine ⟨fun i q hq => ?_, fun i j q t hq ht hqw htw hij => ?_, fun i q hq v hv k hk => ?_⟩
    · have hq := getR i q hq
      have hf := (hR q (List.mem_of_getElem? hq)).1
      obtain ⟨⟨cur, e, fz, h1, h2, h3, h4⟩, h5⟩ := hr.row _ _ (hin i q hq)
      exact ⟨⟨cur, e, fz, h1, fun j v hv => by rw [h2 j v hv]; exact congrArg some (flatS _ _ q v hf (List.mem_of_getElem? hv)), h3, h4⟩, h5⟩
    · have hq := getR i q hq; have ht := getR j t ht
      exact hr.sep _ _ q t (hin i q hq) (hin j t ht) hqw htw fun e => hij (hnd i j (lt_of_some hq) (lt_of_some ht) e)
    · have hf := (hR q (List.mem_of_getElem? (getR i q hq))).1
      rw [(hf v hv).1] at hk; cases hk
  have hargs0 : (args0.map (mpV (renId σ))).map (mapV ρ) = args0.map (mapV fun k => ρ (σ k)) := by
    rw [List.map_map]
    exact List.map_congr_left fun x _ => mpV_ren ρ _ x
  rw [hargs0]
  refine (hS.run (fun k => ρ (σ k)) w hrep0 (fun x hx i hh => by have := hi x hx i hh; simpa using this)).mono fun e w' hh => ?_
  obtain ⟨ρ0, rfl, ad, hvi⟩ := hh
  have hρ0 : ∀ k, k < R.length → ρ0 k = ρ (σ k) := fun k hk => ad.agree k (by simpa using hk)
  have hnew : ∀ (k : Nat) (q : Row), R'[k]? = some q → RepRow P ρ w' (ρ (σ k)) q := by
    intro k q hq
    have hk : k < R.length := by rw [← hl']; exact lt_of_some hq
    have hf := (hR' q (List.mem_of_getElem? hq)).1
    have := ad.rep.row k q (by rw [List.getElem?_map, hq]; rfl)
    rw [hρ0 k hk] at this
    obtain ⟨⟨cur, e, fz, h1, h2, h3, h4⟩, h5⟩ := this
    exact ⟨⟨cur, e, fz, h1, fun j v hv => by rw [h2 j v hv]; exact congrArg some (flatS _ _ q v hf (List.mem_of_getElem? hv)), h3, h4⟩, h5⟩
  have inR : ∀ k, k < R.length → ∃ r, R[k]? = some r ∧ r.wr = true ∧ H[σ k]? = some (some r) := fun k hk =>
    ⟨R[k], List.getElem?_eq_getElem hk, (hR _ (List.getElem_mem hk)).2, hin k _ (List.getElem?_eq_getElem hk)⟩
  refine ⟨ρ, by rw [mapV, mapV, (fixV_spec hv).2, (fixV_spec hv).2], ⟨fun _ _ => rfl, by omega, ⟨?_, ?_, ?_⟩, ad.os, ad.tape, ad.output, ad.size, ?_, ?_⟩, ?_⟩
  · intro i q hq
    rcases hset i q hq with ⟨k, hk, rfl, hq'⟩ | ⟨hne, hq'⟩
    · exact hnew k q hq'
    · have hRi := hr.row i q hq'
      by_cases hb : ∃ k, k < R.length ∧ (ρ (σ k)).blk = (ρ i).blk
      · obtain ⟨k, hk, hb⟩ := hb
        obtain ⟨r, hr1, hrw, hr2⟩ := inR k hk
        have hqq : ¬ (q.wr = true ∨ q.cells ≠ []) := fun hqq => hr.sep (σ k) i r q hr2 hq' hrw hqq (fun h => hne k hk h.symm) hb
        have hnil : q.cells = [] := Classical.byContradiction fun hn => hqq (Or.inr hn)
        obtain ⟨⟨cur2, e2, fz2, hb2, _⟩, _⟩ := hnew k _ (List.getElem?_eq_getElem (show k < R'.length by omega))
        obtain ⟨⟨cur, e, fz, hb1, hcu, hwr, hlen⟩, hsc⟩ := hRi
        exact ⟨⟨cur2, e2, fz2, by rw [← hb]; exact hb2, (fun k v hv => by rw [hnil] at hv; simp at hv), (fun hw2 => absurd (Or.inl hw2) hqq), hlen⟩, hsc⟩
      · refine hRi.world (ad.frame _ hRi.lt fun j t hj ht hbb => hb ⟨j, ?_, hbb⟩)
        have := lt_of_some hj
        simpa using this
  · intro i j q t hq ht hqw htw hij
    rcases hset i q hq with ⟨k, hk, rfl, hq'⟩ | ⟨hne, hq'⟩
    · obtain ⟨r, hr1, hrw, hr2⟩ := inR k hk
      rcases hset j t ht with ⟨k2, hk2, rfl, ht'⟩ | ⟨hne2, ht'⟩
      · obtain ⟨r2, hr3, hrw2, hr4⟩ := inR k2 hk2
        exact hr.sep _ _ r r2 hr2 hr4 hrw (Or.inl hrw2) hij
      · exact hr.sep _ _ r t hr2 ht' hrw htw hij
    · rcases hset j t ht with ⟨k2, hk2, rfl, ht'⟩ | ⟨hne2, ht'⟩
      · obtain ⟨r2, hr3, hrw2, hr4⟩ := inR k2 hk2
        exact hr.sep _ _ q r2 hq' hr4 hqw (Or.inl hrw2) hij
      · exact hr.sep i j q t hq' ht' hqw htw hij
  · intro i q hq v hv k hk
    rw [hlen]
    rcases hset i q hq with ⟨k2, hk2, rfl, hq'⟩ | ⟨hne, hq'⟩
    · rw [((hR' q (List.mem_of_getElem? hq')).1 v hv).1] at hk; cases hk
    · exact hr.cl i q hq' v hv k hk
  · intro k hk hn
    refine ad.frame k hk fun j t hj ht => ?_
    have hj := getR j t hj
    exact hn (σ j) t (hin j t hj) ht
  · intro i q hq hqw
    rcases hset i q hq with ⟨k, hk, rfl, hq'⟩ | ⟨hne, hq'⟩
    · obtain ⟨r, hr1, hrw, hr2⟩ := inR k hk
      exact Or.inr ⟨σ k, r, hr2, hrw, rfl⟩
    · exact Or.inr ⟨i, q, hq', hqw, rfl⟩
  · intro i hi
    rw [(fixV_spec hv).1] at hi; cases hi
theorem Sound.emb_set3 {P : Program} {f : FuncId} {args0 args : List Value} {r0 r1 r2 q0 q1 q2 : Row} {H : Heap} {v : Value} (s0 s1 s2 : Nat) (hS : Sound P f args0 [some r0, some r1, some r2] v [some q0, some q1, some q2])
    (hr : (FlatRow r0 ∧ r0.wr = true) ∧ (FlatRow r1 ∧ r1.wr = true) ∧ (FlatRow r2 ∧ r2.wr = true)) (hq : (FlatRow q0 ∧ q0.wr = true) ∧ (FlatRow q1 ∧ q1.wr = true) ∧ (FlatRow q2 ∧ q2.wr = true))
    (h0 : H[s0]? = some (some r0)) (h1 : H[s1]? = some (some r1)) (h2 : H[s2]? = some (some r2)) (hd : (decide (s0 < s1) && decide (s1 < s2)) = true)
    (hi : (args0.all fun x => (idsV x).all fun i => decide (i < 3)) = true) (ha : args = args0.map (mpV (renId fun i => [s0, s1, s2].getD i 0))) (hv : fixV v = true) : Sound P f args H v (((H.set s0 (some q0)).set s1 (some q1)).set s2 (some q2)) := by
  simp only [Bool.and_eq_true, decide_eq_true_eq] at hd
  have l0 := lt_of_some h0; have l1 := lt_of_some h1; have l2 := lt_of_some h2
  refine Sound.emb_sets (R := [r0, r1, r2]) (R' := [q0, q1, q2]) (fun i => [s0, s1, s2].getD i 0) hS ?_ ?_ rfl ?_ ?_ (by simp) ?_ hi ha hv
  · intro r hm; simp at hm; rcases hm with rfl | rfl | rfl
    · exact hr.1
    · exact hr.2.1
    · exact hr.2.2
  · intro r hm; simp at hm; rcases hm with rfl | rfl | rfl
    · exact hq.1
    · exact hq.2.1
    · exact hq.2.2
  · intro k r hk
    match k, hk with
    | 0, hk => simp at hk; subst hk; exact h0
    | 1, hk => simp at hk; subst hk; exact h1
    | 2, hk => simp at hk; subst hk; exact h2
    | k + 3, hk => simp at hk
  · intro k k2 hk hk2 e
    match k, k2, hk, hk2 with
    | 0, 0, _, _ => rfl
    | 1, 1, _, _ => rfl
    | 2, 2, _, _ => rfl
    | 0, 1, _, _ => simp at e; omega
    | 0, 2, _, _ => simp at e; omega
    | 1, 0, _, _ => simp at e; omega
    | 1, 2, _, _ => simp at e; omega
    | 2, 0, _, _ => simp at e; omega
    | 2, 1, _, _ => simp at e; omega
  · intro i q hq
    simp only [List.getElem?_set, List.length_set] at hq
    by_cases e2 : s2 = i
    · rw [if_pos e2, if_pos l2] at hq; simp at hq; exact Or.inl ⟨2, by simp, by simpa using e2.symm, by simp [hq]⟩
    rw [if_neg e2] at hq
    by_cases e1 : s1 = i
    · rw [if_pos e1, if_pos l1] at hq; simp at hq; exact Or.inl ⟨1, by simp, by simpa using e1.symm, by simp [hq]⟩
    rw [if_neg e1] at hq
    by_cases e0 : s0 = i
    · rw [if_pos e0, if_pos l0] at hq; simp at hq; exact Or.inl ⟨0, by simp, by simpa using e0.symm, by simp [hq]⟩
    rw [if_neg e0] at hq
    refine Or.inr ⟨fun k hk => ?_, hq⟩
    match k, hk with
    | 0, _ => exact fun h => e0 h.symm
    | 1, _ => exact fun h => e1 h.symm
    | 2, _ => exact fun h => e2 h.symm
end Go.Am
