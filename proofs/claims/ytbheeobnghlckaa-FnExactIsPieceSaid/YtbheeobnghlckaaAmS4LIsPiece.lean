/- A law, whole: the walks, and the row. No condition. -/
import Derived.Test.YtbheeobnghlckaaAmS4J4
import Derived.Test.YtbheeobnghlckaaAmT
import Derived.WalkKit
import Derived.ProofKit
import Derived.OpenShut
import Derived.ShutString
import Derived.ChangeOld
import Derived.Below
import Derived.SizedLaws
set_option linter.unusedVariables false
set_option linter.unusedSimpArgs false
namespace Go.Proofs.Ytbheeobnghlckaa
open Go.Am Go.RowKit
set_option maxRecDepth 100000 in
set_option maxHeartbeats 4000000 in
theorem lawIsPiece_big_s (L : List A3) (hl : 1048576 < L.length) (hm : L.length ≤ 9223372036854775807) : Sound Try.prog 4 [vS 0 L.length] [some ⟨a3s L, 74, false, false⟩] (.bool true) [some ⟨a3s L, 74, false, false⟩] := by
  refine sound_intro (C := cx) Try.func4 rfl (by kernel_rfl) fun hcl => ?_
  refine cSeq ?_
  refine cReg ?_
  refine segEndH [0] (T1 := (mkT 27 [(0, vS 0 L.length)])) (by kernel_rfl) ?_
  refine kSeq ?_
  refine cSeq ?_
  refine cReg ?_
  refine segEndH [0, 3] (T1 := (mkT 27 [(0, vS 0 L.length), (3, vI 1048576)])) (by kernel_rfl) ?_
  refine kSeq ?_
  refine cSeq ?_
  refine cReg ?_
  refine segH 2 (T1 := (mkT 27 [(0, vS 0 L.length), (3, vI 1048576), (7, vS 0 L.length), (8, vI 1048576)])) (by kernel_rfl) ?_
  refine rCall (v := vI (-1)) (args := [vS 0 L.length, vI 1048576]) (by kernel_rfl) rfl (by kernel_rfl) (Sound.lay0 [0] (szA3S_G L 1048576 (by first | omega | assumption | (simp; done)) (by first | assumption | omega | rfl | decide | exact HeapL.list _ _ _ _ | exact HeapL.nil _ _ _ | exact HeapL.all _ _ _ | (apply HeapL.lt64 <;> assumption) | (repeat' (first | assumption | apply or_lt64 | apply and_lt64 | apply andn_lt64 | apply pow_lt64 | (apply HeapL.lt64 <;> assumption)))) (by first | omega | assumption | decide)) ⟨rdF false (flatA3 _ _ _ _) rfl rfl, trivial⟩ rfl ⟨clF (flatA3 _ _ _ _), trivial⟩ rfl (by first | rfl | simp [mpV, mpA, mpS, mpP, renId, shift]) rfl) ?_
  refine segEndH [0, 3] (T1 := (mkT 27 [(0, vS 0 L.length), (3, vI (-1))])) (by kernel_rfl) ?_
  refine kSeq ?_
  refine cSeq ?_
  refine cSeq ?_
  refine cReg ?_
  refine segEndH [0, 11] (T1 := (mkT 27 [(0, vS 0 L.length), (11, .bool true)])) (by kernel_rfl) ?_
  refine kSeq ?_
  refine cTrue (by kernel_rfl) ?_
  refine cSeq ?_
  refine cReg ?_
  refine segEndH [2] (T1 := (mkT 27 [(2, .bool true)])) (by kernel_rfl) ?_
  refine kSeq ?_
  refine cRet ?_
  refine kSeqR ?_
  -- end
  exact endQ (Or.inr rfl) (l := [.bool true]) [] (by kernel_rfl) (by first | rfl | kernel_rfl) rfl rfl hcl rfl

set_option maxRecDepth 100000 in
set_option maxHeartbeats 4000000 in
theorem lawIsPiece_all_s (L : List A3) (hl : L.length ≤ 1048576) : Sound Try.prog 4 [vS 0 L.length] [some ⟨a3s L, 74, false, false⟩] (.bool true) [some ⟨a3s L, 74, false, false⟩] := by
  refine sound_intro (C := cx) Try.func4 rfl (by kernel_rfl) fun hcl => ?_
  have hlen : L.length ≤ 1048576 := by first | assumption | simp
  refine cSeq ?_
  refine cReg ?_
  refine segEndH [0] (T1 := (mkT 27 [(0, vS 0 L.length)])) (by kernel_rfl) ?_
  refine kSeq ?_
  refine cSeq ?_
  refine cReg ?_
  refine segEndH [0, 3] (T1 := (mkT 27 [(0, vS 0 L.length), (3, vI 1048576)])) (by kernel_rfl) ?_
  refine kSeq ?_
  refine cSeq ?_
  refine cReg ?_
  refine segH 2 (T1 := (mkT 27 [(0, vS 0 L.length), (3, vI 1048576), (7, vS 0 L.length), (8, vI 1048576)])) (by kernel_rfl) ?_
  refine rCall (v := vN (1048576 - L.length)) (args := [vS 0 L.length, vI 1048576]) (by kernel_rfl) rfl (by kernel_rfl) (Sound.lay0 [0] (szA3S_S L 1048576 (by first | omega | assumption | (simp; done)) (by first | omega | assumption | decide)) ⟨rdF false (flatA3 _ _ _ _) rfl rfl, trivial⟩ rfl ⟨clF (flatA3 _ _ _ _), trivial⟩ rfl (by first | rfl | simp [mpV, mpA, mpS, mpP, renId, shift]) rfl) ?_
  refine segEndH [0, 3] (T1 := (mkT 27 [(0, vS 0 L.length), (3, vN (1048576 - L.length))])) (by kernel_rfl) ?_
  refine kSeq ?_
  refine cSeq ?_
  refine cSeq ?_
  refine cReg ?_
  refine segEndH [0, 11] (T1 := (mkT 27 [(0, vS 0 L.length), (11, .bool (decide (((1048576 - L.length : Nat) : Int) < 0)))])) (by kernel_rfl) ?_
  refine kSeq ?_
  cases h1 : (decide (((1048576 - L.length : Nat) : Int) < 0) : Bool)
  ·
    (try simp only [Bool.not_eq_true', Bool.not_eq_false', decide_eq_true_eq, decide_eq_false_iff_not, beq_iff_eq, bne_iff_ne, beq_eq_false_iff_ne, bne_eq_false_iff_eq, ne_eq, Decidable.not_not, Bool.and_eq_true, Bool.and_eq_false_imp, Bool.or_eq_true, Bool.or_eq_false_iff, Bool.not_eq_true, Int.not_lt, Int.not_le, ge_iff_le, gt_iff_lt] at h1)
    refine cFalse (by kernel_rfl) ?_
    refine cSkip ?_
    refine kSeq ?_
    refine cSeq ?_
    refine cReg ?_
    refine segH 1 (T1 := (mkT 27 [(0, vS 0 L.length), (11, .bool false), (12, vS 0 L.length)])) (by kernel_rfl) ?_
    refine rCall (v := vS 1 L.length) (args := [vS 0 L.length]) (by kernel_rfl) rfl (by kernel_rfl) (Sound.lay (E := [some ⟨a3s L, 74, false, true⟩]) [0] (toA3SB L (by first | omega | assumption | (simp; done))) ⟨rdF false (flatA3 _ _ _ _) rfl rfl, trivial⟩ rfl ⟨clF (flatA3 _ _ _ _), trivial⟩ rfl (by first | rfl | simp [mpV, mpA, mpS, mpP, renId, shift]) rfl ⟨enF (flatA3 _ _ _ _) (Or.inl rfl), trivial⟩) ?_
    refine rCall (v := .bool (pieceB L)) (args := [vS 1 L.length]) (by kernel_rfl) rfl (by kernel_rfl) (Sound.lay0 [1] (specIsPieceB L (by first | omega | assumption)) ⟨rdF true (flatA3 _ _ _ _) rfl rfl, trivial⟩ rfl ⟨clF (flatA3 _ _ _ _), trivial⟩ rfl (by first | rfl | simp [mpV, mpA, mpS, mpP, renId, shift]) rfl) ?_
    refine segEnd [0, 4] (T1 := (mkT 27 [(0, vS 0 L.length), (4, .bool (pieceB L))])) (H1 := [some ⟨a3s L, 74, false, false⟩, some ⟨a3s L, 74, false, true⟩]) (by kernel_rfl) ?_
    refine kSeq ?_
    refine cSeq ?_
    refine cReg ?_
    refine segH 1 (T1 := (mkT 27 [(0, vS 0 L.length), (4, .bool (pieceB L)), (15, vS 0 L.length)])) (by kernel_rfl) ?_
    refine rCall (v := vS 2 L.length) (args := [vS 0 L.length]) (by kernel_rfl) rfl (by kernel_rfl) (Sound.lay (E := [some ⟨a3s L, 74, false, true⟩]) [0] (toA3SB L (by first | omega | assumption | (simp; done))) ⟨rdF false (flatA3 _ _ _ _) rfl rfl, trivial⟩ rfl ⟨clF (flatA3 _ _ _ _), trivial⟩ rfl (by first | rfl | simp [mpV, mpA, mpS, mpP, renId, shift]) rfl ⟨enF (flatA3 _ _ _ _) (Or.inl rfl), trivial⟩) ?_
    refine segEnd [0, 4, 5] (T1 := (mkT 27 [(0, vS 0 L.length), (4, .bool (pieceB L)), (5, vS 2 L.length)])) (H1 := [some ⟨a3s L, 74, false, false⟩, some ⟨a3s L, 74, false, true⟩, some ⟨a3s L, 74, false, true⟩]) (by kernel_rfl) ?_
    refine kSeq ?_
    refine cSeq ?_
    refine cReg ?_
    refine segH 1 (T1 := (mkT 27 [(0, vS 0 L.length), (4, .bool (pieceB L)), (5, vS 2 L.length), (17, vS 2 L.length)])) (by kernel_rfl) ?_
    refine rCall (v := .bool (pieceB L)) (args := [vS 2 L.length]) (by kernel_rfl) rfl (by kernel_rfl) (Sound.lay0 [2] (implPieceB L (by first | omega | assumption)) ⟨rdF true (flatA3 _ _ _ _) rfl rfl, trivial⟩ rfl ⟨clF (flatA3 _ _ _ _), trivial⟩ rfl (by first | rfl | simp [mpV, mpA, mpS, mpP, renId, shift]) rfl) ?_
    refine segEndH [0, 4, 5, 6] (T1 := (mkT 27 [(0, vS 0 L.length), (4, .bool (pieceB L)), (5, vS 2 L.length), (6, .bool (pieceB L))])) (by kernel_rfl) ?_
    refine kSeq ?_
    refine cSeq ?_
    refine cSeq ?_
    refine cReg ?_
    refine segH 2 (T1 := (mkT 27 [(0, vS 0 L.length), (4, .bool (pieceB L)), (5, vS 2 L.length), (6, .bool (pieceB L)), (19, .bool (pieceB L)), (20, .bool (pieceB L))])) (by kernel_rfl) ?_
    refine rOp (v := .bool false) (by kernel_rfl) (eNeB (b := (pieceB L)) (by kernel_rfl) (by kernel_rfl) (by kernel_rfl)) ?_
    refine segEndH [0, 5, 21] (T1 := (mkT 27 [(0, vS 0 L.length), (5, vS 2 L.length), (21, .bool false)])) (by kernel_rfl) ?_
    refine kSeq ?_
    refine cFalse (by kernel_rfl) ?_
    refine cSkip ?_
    refine kSeq ?_
    refine cSeq ?_
    refine cSeq ?_
    refine cReg ?_
    refine segH 2 (T1 := (mkT 27 [(0, vS 0 L.length), (5, vS 2 L.length), (21, .bool false), (22, vS 2 L.length), (23, vS 0 L.length)])) (by kernel_rfl) ?_
    refine rCall (v := vS 3 L.length) (args := [vS 0 L.length]) (by kernel_rfl) rfl (by kernel_rfl) (Sound.lay (E := [some ⟨a3s L, 74, false, true⟩]) [0] (toA3SB L (by first | omega | assumption | (simp; done))) ⟨rdF false (flatA3 _ _ _ _) rfl rfl, trivial⟩ rfl ⟨clF (flatA3 _ _ _ _), trivial⟩ rfl (by first | rfl | simp [mpV, mpA, mpS, mpP, renId, shift]) rfl ⟨enF (flatA3 _ _ _ _) (Or.inl rfl), trivial⟩) ?_
    refine rCall (v := .bool true) (args := [vS 2 L.length, vS 3 L.length]) (by kernel_rfl) rfl (by kernel_rfl) (Sound.lay0 [2, 3] (eqA3SB L (by first | omega | assumption | (simp; done))) ⟨rdF true (flatA3 _ _ _ _) rfl rfl, ⟨rdF true (flatA3 _ _ _ _) rfl rfl, trivial⟩⟩ rfl ⟨clF (flatA3 _ _ _ _), ⟨clF (flatA3 _ _ _ _), trivial⟩⟩ rfl (by first | rfl | simp [mpV, mpA, mpS, mpP, renId, shift]) rfl) ?_
    refine segEnd [26] (T1 := (mkT 27 [(26, .bool false)])) (H1 := [some ⟨a3s L, 74, false, false⟩, some ⟨a3s L, 74, false, true⟩, some ⟨a3s L, 74, false, true⟩, some ⟨a3s L, 74, false, true⟩]) (by kernel_rfl) ?_
    refine kSeq ?_
    refine cFalse (by kernel_rfl) ?_
    refine cSkip ?_
    refine kSeq ?_
    refine cSeq ?_
    refine cReg ?_
    refine segEndH [2] (T1 := (mkT 27 [(2, .bool true)])) (by kernel_rfl) ?_
    refine kSeq ?_
    refine cRet ?_
    -- end
    exact endQ (Or.inr rfl) (l := [.bool true]) [some ⟨a3s L, 74, false, true⟩, some ⟨a3s L, 74, false, true⟩, some ⟨a3s L, 74, false, true⟩] (by kernel_rfl) (by first | rfl | kernel_rfl) rfl rfl hcl rfl
  ·
    (try simp only [Bool.not_eq_true', Bool.not_eq_false', decide_eq_true_eq, decide_eq_false_iff_not, beq_iff_eq, bne_iff_ne, beq_eq_false_iff_ne, bne_eq_false_iff_eq, ne_eq, Decidable.not_not, Bool.and_eq_true, Bool.and_eq_false_imp, Bool.or_eq_true, Bool.or_eq_false_iff, Bool.not_eq_true, Int.not_lt, Int.not_le, ge_iff_le, gt_iff_lt] at h1)
    exfalso; omega

set_option maxRecDepth 100000 in
set_option maxHeartbeats 4000000 in
theorem lawIsPiece_all_n   : Sound Try.prog 4 [.slice none 0 0] [] (.bool true) [] := by
  refine sound_intro (C := cx) Try.func4 rfl (by kernel_rfl) fun hcl => ?_
  have hlen : ([] : List A3).length ≤ 1048576 := by first | assumption | simp
  refine cSeq ?_
  refine cReg ?_
  refine segEndH [0] (T1 := (mkT 27 [(0, .slice none 0 0)])) (by kernel_rfl) ?_
  refine kSeq ?_
  refine cSeq ?_
  refine cReg ?_
  refine segEndH [0, 3] (T1 := (mkT 27 [(0, .slice none 0 0), (3, vI 1048576)])) (by kernel_rfl) ?_
  refine kSeq ?_
  refine cSeq ?_
  refine cReg ?_
  refine segH 2 (T1 := (mkT 27 [(0, .slice none 0 0), (3, vI 1048576), (7, .slice none 0 0), (8, vI 1048576)])) (by kernel_rfl) ?_
  refine rCall (v := vI 1048576) (args := [.slice none 0 0, vI 1048576]) (by kernel_rfl) rfl (by kernel_rfl) (Sound.lay0 [] (szA3S_N 1048576 (by first | omega | assumption | decide)) trivial rfl trivial rfl (by first | rfl | simp [mpV, mpA, mpS, mpP, renId, shift]) rfl) ?_
  refine segEndH [0, 3] (T1 := (mkT 27 [(0, .slice none 0 0), (3, vI 1048576)])) (by kernel_rfl) ?_
  refine kSeq ?_
  refine cSeq ?_
  refine cSeq ?_
  refine cReg ?_
  refine segEndH [0, 11] (T1 := (mkT 27 [(0, .slice none 0 0), (11, .bool false)])) (by kernel_rfl) ?_
  refine kSeq ?_
  refine cFalse (by kernel_rfl) ?_
  refine cSkip ?_
  refine kSeq ?_
  refine cSeq ?_
  refine cReg ?_
  refine segH 1 (T1 := (mkT 27 [(0, .slice none 0 0), (11, .bool false), (12, .slice none 0 0)])) (by kernel_rfl) ?_
  refine rCall (v := vS 0 0) (args := [.slice none 0 0]) (by kernel_rfl) rfl (by kernel_rfl) (Sound.lay (E := [some ⟨[], 74, false, true⟩]) [] (toA3SN) trivial rfl trivial rfl (by first | rfl | simp [mpV, mpA, mpS, mpP, renId, shift]) rfl ⟨enX rfl (Or.inl rfl), trivial⟩) ?_
  refine rCall (v := .bool (pieceB ([] : List A3))) (args := [vS 0 0]) (by kernel_rfl) rfl (by kernel_rfl) (Sound.lay0 [0] (specIsPieceB ([] : List A3) (by first | omega | assumption)) ⟨rdF true (flatA3 _ _ _ _) rfl rfl, trivial⟩ rfl ⟨clF (flatA3 _ _ _ _), trivial⟩ rfl (by first | rfl | simp [mpV, mpA, mpS, mpP, renId, shift]) rfl) ?_
  refine segEnd [0, 4] (T1 := (mkT 27 [(0, .slice none 0 0), (4, .bool (pieceB ([] : List A3)))])) (H1 := [some ⟨[], 74, false, true⟩]) (by kernel_rfl) ?_
  refine kSeq ?_
  refine cSeq ?_
  refine cReg ?_
  refine segH 1 (T1 := (mkT 27 [(0, .slice none 0 0), (4, .bool (pieceB ([] : List A3))), (15, .slice none 0 0)])) (by kernel_rfl) ?_
  refine rCall (v := vS 1 0) (args := [.slice none 0 0]) (by kernel_rfl) rfl (by kernel_rfl) (Sound.lay (E := [some ⟨[], 74, false, true⟩]) [] (toA3SN) trivial rfl trivial rfl (by first | rfl | simp [mpV, mpA, mpS, mpP, renId, shift]) rfl ⟨enX rfl (Or.inl rfl), trivial⟩) ?_
  refine segEnd [0, 4, 5] (T1 := (mkT 27 [(0, .slice none 0 0), (4, .bool (pieceB ([] : List A3))), (5, vS 1 0)])) (H1 := [some ⟨[], 74, false, true⟩, some ⟨[], 74, false, true⟩]) (by kernel_rfl) ?_
  refine kSeq ?_
  refine cSeq ?_
  refine cReg ?_
  refine segH 1 (T1 := (mkT 27 [(0, .slice none 0 0), (4, .bool (pieceB ([] : List A3))), (5, vS 1 0), (17, vS 1 0)])) (by kernel_rfl) ?_
  refine rCall (v := .bool (pieceB ([] : List A3))) (args := [vS 1 0]) (by kernel_rfl) rfl (by kernel_rfl) (Sound.lay0 [1] (implPieceB ([] : List A3) (by first | omega | assumption)) ⟨rdF true (flatA3 _ _ _ _) rfl rfl, trivial⟩ rfl ⟨clF (flatA3 _ _ _ _), trivial⟩ rfl (by first | rfl | simp [mpV, mpA, mpS, mpP, renId, shift]) rfl) ?_
  refine segEndH [0, 4, 5, 6] (T1 := (mkT 27 [(0, .slice none 0 0), (4, .bool (pieceB ([] : List A3))), (5, vS 1 0), (6, .bool (pieceB ([] : List A3)))])) (by kernel_rfl) ?_
  refine kSeq ?_
  refine cSeq ?_
  refine cSeq ?_
  refine cReg ?_
  refine segH 2 (T1 := (mkT 27 [(0, .slice none 0 0), (4, .bool (pieceB ([] : List A3))), (5, vS 1 0), (6, .bool (pieceB ([] : List A3))), (19, .bool (pieceB ([] : List A3))), (20, .bool (pieceB ([] : List A3)))])) (by kernel_rfl) ?_
  refine rOp (v := .bool false) (by kernel_rfl) (eNeB (b := (pieceB ([] : List A3))) (by kernel_rfl) (by kernel_rfl) (by kernel_rfl)) ?_
  refine segEndH [0, 5, 21] (T1 := (mkT 27 [(0, .slice none 0 0), (5, vS 1 0), (21, .bool false)])) (by kernel_rfl) ?_
  refine kSeq ?_
  refine cFalse (by kernel_rfl) ?_
  refine cSkip ?_
  refine kSeq ?_
  refine cSeq ?_
  refine cSeq ?_
  refine cReg ?_
  refine segH 2 (T1 := (mkT 27 [(0, .slice none 0 0), (5, vS 1 0), (21, .bool false), (22, vS 1 0), (23, .slice none 0 0)])) (by kernel_rfl) ?_
  refine rCall (v := vS 2 0) (args := [.slice none 0 0]) (by kernel_rfl) rfl (by kernel_rfl) (Sound.lay (E := [some ⟨[], 74, false, true⟩]) [] (toA3SN) trivial rfl trivial rfl (by first | rfl | simp [mpV, mpA, mpS, mpP, renId, shift]) rfl ⟨enX rfl (Or.inl rfl), trivial⟩) ?_
  refine rCall (v := .bool true) (args := [vS 1 0, vS 2 0]) (by kernel_rfl) rfl (by kernel_rfl) (Sound.lay0 [1, 2] (eqA3SB ([] : List A3) (by first | omega | assumption | (simp; done))) ⟨rdF true (flatA3 _ _ _ _) rfl rfl, ⟨rdF true (flatA3 _ _ _ _) rfl rfl, trivial⟩⟩ rfl ⟨clF (flatA3 _ _ _ _), ⟨clF (flatA3 _ _ _ _), trivial⟩⟩ rfl (by first | rfl | simp [mpV, mpA, mpS, mpP, renId, shift]) rfl) ?_
  refine segEnd [26] (T1 := (mkT 27 [(26, .bool false)])) (H1 := [some ⟨[], 74, false, true⟩, some ⟨[], 74, false, true⟩, some ⟨[], 74, false, true⟩]) (by kernel_rfl) ?_
  refine kSeq ?_
  refine cFalse (by kernel_rfl) ?_
  refine cSkip ?_
  refine kSeq ?_
  refine cSeq ?_
  refine cReg ?_
  refine segEndH [2] (T1 := (mkT 27 [(2, .bool true)])) (by kernel_rfl) ?_
  refine kSeq ?_
  refine cRet ?_
  -- end
  exact endQ (Or.inr rfl) (l := [.bool true]) [some ⟨[], 74, false, true⟩, some ⟨[], 74, false, true⟩, some ⟨[], 74, false, true⟩] (by kernel_rfl) (by first | rfl | kernel_rfl) rfl rfl hcl rfl

theorem lawIsPiece_s (L : List A3) (hmL : L.length ≤ 9223372036854775807) : Sound Try.prog 4 [vS 0 L.length] [some ⟨a3s L, 74, false, false⟩] (.bool true) [some ⟨a3s L, 74, false, false⟩] := by
  by_cases hl : L.length ≤ 1048576
  · exact lawIsPiece_all_s L hl
  · exact lawIsPiece_big_s L (by omega) hmL

theorem lawIsPiece_n   : Sound Try.prog 4 [.slice none 0 0] [] (.bool true) [] := by
  exact lawIsPiece_all_n
end Go.Proofs.Ytbheeobnghlckaa
namespace Go.Proofs.Ytbheeobnghlckaa.fnExactIsPiece
open Go.Am Go.ChangeShapes Go.WideShapes Go.ChangeAt Go.RowKit
theorem own : ownKnob Try.prog.godebug = none := by kernel_rfl
theorem laidOut : laidOutB Try.prog = true := by kernel_rfl
set_option maxRecDepth 100000 in
theorem lifted (os : Os) (started : os.Started) (H : Type) (enc : TypeId × Value → H) :
    ReturnsInHanded {} Try.checked os 4 .any (Rows.fnExactIsPieceSpec.pre6 enc Try.prog Try.f4 Rows.fnExactIsPieceRow.domain false) (Rows.fnExactIsPieceSpec.post enc Try.prog Try.f4 false true false false) := by
  refine returnsInHanded_of_change_sized (C := Try.checked) own started (by kernel_rfl) Try.func4
    (ChangeSpec.witness6 (enc := enc) (C := Try.checked) false ⟨#[], #[.slice none 0 0], []⟩ 8 (by kernel_rfl) (by kernel_rfl) (by kernel_rfl) (by kernel_rfl)) ?_
  intro W base args ds gs before hval0 hW hcnd hsz0 _
  have hval : ∀ (j : Nat) t v, Try.f4.params[j]? = some t → args[j]? = some v → Value.okWide Try.prog W .any base t v := hval0
  have hW' := hW
  obtain ⟨p, q, hA0, hV, rfl, hfz, hnd⟩ := hW
  have hA : DataW.TrodAll enc Try.prog W 0 (fun _ => true) true Try.f4.params.toList args.toList ds p := hA0
  rw [Try.params4] at hA hval
  obtain ⟨v0, vs0, d0, ds0, p0, q0, hargs, rfl, rfl, h0, r0⟩ := trodAll_cons hA
  obtain ⟨rfl, rfl, rfl⟩ := trodAll_nil r0
  obtain rfl : args = #[v0] := by cases args; simp_all
  obtain ⟨rfl, rfl⟩ := trodVars_none hV
  have hlt0 : ∀ x ∈ p0, x.block < W.heap.size := fun x hx => by simpa using hW'.lt x (by simp [hx])
  have fin : (∃ Q : Prop, Q) ∧ Calls Try.prog 4 #[v0] W (fun e W' => e = .returned (.bool true) ∧ Below W.heap.size W W') := by
    refine ⟨⟨True, trivial⟩, ?_⟩
    have hsL := isA3s (b0 := base) Try.underlying31 Try.underlying74 Try.underlying3 (by kernel_rfl) (by kernel_rfl) (hval 0 31 v0 rfl rfl) h0
    rcases hsL with rfl | ⟨adL, capL, L, rfl, hmL, hrL⟩
    · have hS : Sound Try.prog 4 [.slice none 0 0] [] (.bool true) [] := lawIsPiece_n
      exact hS.top0 rfl rfl W
    · have hS : Sound Try.prog 4 [vS 0 L.length] [some ⟨a3s L, 74, false, false⟩] (.bool true) [some ⟨a3s L, 74, false, false⟩] := lawIsPiece_s L hmL
      have h := Sound.topL (W := W) [(adL, capL, ⟨a3s L, 74, false, false⟩)] hS (fun p hp => by
        simp only [List.mem_cons, List.not_mem_nil, or_false] at hp
        rcases hp with rfl
        · exact hrL) (fun x hx i hi => by
        simp only [List.mem_cons, List.not_mem_nil, or_false] at hx
        rcases hx with rfl <;> simp [idsV, idsA, idsS, idsP, vI, vN, vS] at hi
        all_goals simp; omega) rfl
      have hspL := hrL.1
      obtain ⟨blkL, offL, spotL⟩ := adL
      simp only at hspL
      subst hspL
      simpa [mapV, mpV, mpA, mpS, mpP, toReal, locsOf, vI, vN, vS] using h
  clear hA0 hval0 hsz0
  refine fin.2.mono fun e W' ⟨he, bel⟩ => ?_
  subst he
  exact ⟨_, rfl, _, _, _, [], _, [], hW', trodAll_mk1 (shut_bool Try.underlying4 _), (trodAll_cons_mk (Below.trod laidOut (by kernel_rfl) (of_decide_eq_true (by kernel_rfl)) h0 bel hlt0) trodAll_mk0), rfl, bel.frame _, fun h => by cases h⟩
theorem over : Rows.fnExactIsPieceRow.holds Try.pinned (OpenSpec.ofChange Rows.fnExactIsPieceSpec) :=
  OpenClaim.holds_of_wide 4 Try.f4 rfl rfl rfl rfl rfl rfl rfl ⟨rfl, rfl, rfl, rfl, rfl⟩ rfl rfl rfl rfl rfl (by kernel_rfl) Try.func4 (by kernel_rfl)
    (of_decide_eq_true (by kernel_rfl)) (by unfold Func.isWrapper; first | (rw [if_pos (by decide +kernel)]; kernel_rfl) | (rw [if_neg (by decide +kernel)]; exact ⟨rfl, rfl⟩))
    (fun os started H enc _ => lifted os started H enc)
end Go.Proofs.Ytbheeobnghlckaa.fnExactIsPiece
namespace Go.Proofs.Ytbheeobnghlckaa
/-- The row, under a short name, for the claim. -/
theorem fnExactIsPiece_holds : Rows.FnExactIsPieceSaid := fnExactIsPiece.over
#print axioms fnExactIsPiece_holds
end Go.Proofs.Ytbheeobnghlckaa
