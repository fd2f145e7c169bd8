/- A law, whole: the walks, and the row. No condition. -/
import Derived.Test.YtpdhoancokljoaaAmF5
import Derived.Test.YtpdhoancokljoaaAmR
import Derived.WalkKit
import Derived.ProofKit
import Derived.OpenShut
import Derived.ShutString
import Derived.ChangeOld
import Derived.Below
import Derived.SizedLaws
set_option linter.unusedVariables false
set_option linter.unusedSimpArgs false
namespace Go.Proofs.Ytpdhoancokljoaa
open Go.Am Go.RowKit
set_option maxRecDepth 100000 in
set_option maxHeartbeats 4000000 in
theorem lawIsHeap_big (x y z : Int) (L : List A3) (hL : 1048576 < L.length) (hL2 : L.length ≤ 9223372036854775807) : Sound Try.prog 14 [.agg #[.int .i64 x, .int .i64 y, .int .i64 z, .slice (some ⟨0, 0, none⟩) L.length 0]] [some ⟨a3s L, 52, false, false⟩] (.bool true) [some ⟨a3s L, 52, false, false⟩] := by
  refine sound_intro (C := cx) Try.func14 rfl (by kernel_rfl) fun hcl => ?_
  refine cSeq ?_
  refine cReg ?_
  refine segEnd [0, 1, 2] (T1 := (mkT 27 [(0, .agg #[.int .i64 x, .int .i64 y, .int .i64 z, .slice (some ⟨0, 0, none⟩) L.length 0]), (1, .pointer (some ⟨1, 0, none⟩)), (2, .bool false)])) (H1 := [some ⟨a3s L, 52, false, false⟩, some ⟨[.int .i64 x, .int .i64 y, .int .i64 z, .slice (some ⟨0, 0, none⟩) L.length 0], 44, true, true⟩]) (by kernel_rfl) ?_
  refine kSeq ?_
  refine cSeq ?_
  refine cReg ?_
  refine segEnd [0, 1, 2, 3] (T1 := (mkT 27 [(0, .agg #[.int .i64 x, .int .i64 y, .int .i64 z, .slice (some ⟨0, 0, none⟩) L.length 0]), (1, .pointer (some ⟨1, 0, none⟩)), (2, .bool false), (3, .int .i64 1048576)])) (H1 := [some ⟨a3s L, 52, false, false⟩, some ⟨[.int .i64 x, .int .i64 y, .int .i64 z, .slice (some ⟨0, 0, none⟩) L.length 0], 44, true, true⟩]) (by kernel_rfl) ?_
  refine kSeq ?_
  refine cSeq ?_
  refine cReg ?_
  refine seg 2 (T1 := (mkT 27 [(0, .agg #[.int .i64 x, .int .i64 y, .int .i64 z, .slice (some ⟨0, 0, none⟩) L.length 0]), (1, .pointer (some ⟨1, 0, none⟩)), (2, .bool false), (3, .int .i64 1048576), (7, .agg #[.int .i64 x, .int .i64 y, .int .i64 z, .slice (some ⟨0, 0, none⟩) L.length 0]), (8, .int .i64 1048576)])) (H1 := [some ⟨a3s L, 52, false, false⟩, some ⟨[.int .i64 x, .int .i64 y, .int .i64 z, .slice (some ⟨0, 0, none⟩) L.length 0], 44, true, true⟩]) (by kernel_rfl) ?_
  refine rCall (v := .int .i64 (-1)) (H' := [some ⟨a3s L, 52, false, false⟩, some ⟨[.int .i64 x, .int .i64 y, .int .i64 z, .slice (some ⟨0, 0, none⟩) L.length 0], 44, true, true⟩]) (args := [.agg #[.int .i64 x, .int .i64 y, .int .i64 z, .slice (some ⟨0, 0, none⟩) L.length 0], .int .i64 1048576]) (by kernel_rfl) rfl (by kernel_rfl) (Sound.reads1 (r := ⟨a3s L, 52, false, false⟩) 0 false (szHeap_big x y z L (by omega) (by omega)) (flatA3 _ _ _ _) rfl rfl rfl (by first | rfl | simp [mpV, mpA, mpS, mpP, renId, shift]) rfl) ?_
  refine segEnd [0, 1, 2, 3] (T1 := (mkT 27 [(0, .agg #[.int .i64 x, .int .i64 y, .int .i64 z, .slice (some ⟨0, 0, none⟩) L.length 0]), (1, .pointer (some ⟨1, 0, none⟩)), (2, .bool false), (3, .int .i64 (-1))])) (H1 := [some ⟨a3s L, 52, false, false⟩, some ⟨[.int .i64 x, .int .i64 y, .int .i64 z, .slice (some ⟨0, 0, none⟩) L.length 0], 44, true, true⟩]) (by kernel_rfl) ?_
  refine kSeq ?_
  refine cSeq ?_
  refine cSeq ?_
  refine cReg ?_
  refine segEnd [0, 1, 2, 3, 11] (T1 := (mkT 27 [(0, .agg #[.int .i64 x, .int .i64 y, .int .i64 z, .slice (some ⟨0, 0, none⟩) L.length 0]), (1, .pointer (some ⟨1, 0, none⟩)), (2, .bool false), (3, .int .i64 (-1)), (11, .bool true)])) (H1 := [some ⟨a3s L, 52, false, false⟩, some ⟨[.int .i64 x, .int .i64 y, .int .i64 z, .slice (some ⟨0, 0, none⟩) L.length 0], 44, true, true⟩]) (by kernel_rfl) ?_
  refine kSeq ?_
  refine cTrue (by kernel_rfl) ?_
  refine cSeq ?_
  refine cReg ?_
  refine segEnd [0, 1, 2, 3, 11] (T1 := (mkT 27 [(0, .agg #[.int .i64 x, .int .i64 y, .int .i64 z, .slice (some ⟨0, 0, none⟩) L.length 0]), (1, .pointer (some ⟨1, 0, none⟩)), (2, .bool true), (3, .int .i64 (-1)), (11, .bool true)])) (H1 := [some ⟨a3s L, 52, false, false⟩, some ⟨[.int .i64 x, .int .i64 y, .int .i64 z, .slice (some ⟨0, 0, none⟩) L.length 0], 44, true, true⟩]) (by kernel_rfl) ?_
  refine kSeq ?_
  refine cRet ?_
  refine kSeqR ?_
  exact endQ (Or.inr rfl) (l := [.bool true]) [some ⟨[.int .i64 x, .int .i64 y, .int .i64 z, .slice (some ⟨0, 0, none⟩) L.length 0], 44, true, true⟩] (by kernel_rfl) (rfl) rfl rfl hcl rfl

set_option maxRecDepth 100000 in
set_option maxHeartbeats 4000000 in
theorem lawIsHeap_small (x y z : Int) (L : List A3) (hL : L.length ≤ 1048576) : Sound Try.prog 14 [.agg #[.int .i64 x, .int .i64 y, .int .i64 z, .slice (some ⟨0, 0, none⟩) L.length 0]] [some ⟨a3s L, 52, false, false⟩] (.bool true) [some ⟨a3s L, 52, false, false⟩] := by
  refine sound_intro (C := cx) Try.func14 rfl (by kernel_rfl) fun hcl => ?_
  refine cSeq ?_
  refine cReg ?_
  refine segEnd [0, 1, 2] (T1 := (mkT 27 [(0, .agg #[.int .i64 x, .int .i64 y, .int .i64 z, .slice (some ⟨0, 0, none⟩) L.length 0]), (1, .pointer (some ⟨1, 0, none⟩)), (2, .bool false)])) (H1 := [some ⟨a3s L, 52, false, false⟩, some ⟨[.int .i64 x, .int .i64 y, .int .i64 z, .slice (some ⟨0, 0, none⟩) L.length 0], 44, true, true⟩]) (by kernel_rfl) ?_
  refine kSeq ?_
  refine cSeq ?_
  refine cReg ?_
  refine segEnd [0, 1, 2, 3] (T1 := (mkT 27 [(0, .agg #[.int .i64 x, .int .i64 y, .int .i64 z, .slice (some ⟨0, 0, none⟩) L.length 0]), (1, .pointer (some ⟨1, 0, none⟩)), (2, .bool false), (3, .int .i64 1048576)])) (H1 := [some ⟨a3s L, 52, false, false⟩, some ⟨[.int .i64 x, .int .i64 y, .int .i64 z, .slice (some ⟨0, 0, none⟩) L.length 0], 44, true, true⟩]) (by kernel_rfl) ?_
  refine kSeq ?_
  refine cSeq ?_
  refine cReg ?_
  refine seg 2 (T1 := (mkT 27 [(0, .agg #[.int .i64 x, .int .i64 y, .int .i64 z, .slice (some ⟨0, 0, none⟩) L.length 0]), (1, .pointer (some ⟨1, 0, none⟩)), (2, .bool false), (3, .int .i64 1048576), (7, .agg #[.int .i64 x, .int .i64 y, .int .i64 z, .slice (some ⟨0, 0, none⟩) L.length 0]), (8, .int .i64 1048576)])) (H1 := [some ⟨a3s L, 52, false, false⟩, some ⟨[.int .i64 x, .int .i64 y, .int .i64 z, .slice (some ⟨0, 0, none⟩) L.length 0], 44, true, true⟩]) (by kernel_rfl) ?_
  refine rCall (v := .int .i64 ((1048576 - L.length : Nat) : Int)) (H' := [some ⟨a3s L, 52, false, false⟩, some ⟨[.int .i64 x, .int .i64 y, .int .i64 z, .slice (some ⟨0, 0, none⟩) L.length 0], 44, true, true⟩]) (args := [.agg #[.int .i64 x, .int .i64 y, .int .i64 z, .slice (some ⟨0, 0, none⟩) L.length 0], .int .i64 1048576]) (by kernel_rfl) rfl (by kernel_rfl) (Sound.reads1 (r := ⟨a3s L, 52, false, false⟩) 0 false (szHeap_small x y z L (by omega)) (flatA3 _ _ _ _) rfl rfl rfl (by first | rfl | simp [mpV, mpA, mpS, mpP, renId, shift]) rfl) ?_
  refine segEnd [0, 1, 2, 3] (T1 := (mkT 27 [(0, .agg #[.int .i64 x, .int .i64 y, .int .i64 z, .slice (some ⟨0, 0, none⟩) L.length 0]), (1, .pointer (some ⟨1, 0, none⟩)), (2, .bool false), (3, .int .i64 ((1048576 - L.length : Nat) : Int))])) (H1 := [some ⟨a3s L, 52, false, false⟩, some ⟨[.int .i64 x, .int .i64 y, .int .i64 z, .slice (some ⟨0, 0, none⟩) L.length 0], 44, true, true⟩]) (by kernel_rfl) ?_
  refine kSeq ?_
  refine cSeq ?_
  refine cSeq ?_
  refine cReg ?_
  refine segEnd [0, 1, 2, 3, 11] (T1 := (mkT 27 [(0, .agg #[.int .i64 x, .int .i64 y, .int .i64 z, .slice (some ⟨0, 0, none⟩) L.length 0]), (1, .pointer (some ⟨1, 0, none⟩)), (2, .bool false), (3, .int .i64 ((1048576 - L.length : Nat) : Int)), (11, .bool (decide (((1048576 - L.length : Nat) : Int) < 0)))])) (H1 := [some ⟨a3s L, 52, false, false⟩, some ⟨[.int .i64 x, .int .i64 y, .int .i64 z, .slice (some ⟨0, 0, none⟩) L.length 0], 44, true, true⟩]) (by kernel_rfl) ?_
  refine kSeq ?_
  cases h1 : (decide (((1048576 - L.length : Nat) : Int) < 0) : Bool)
  ·
    (try simp only [Bool.not_eq_true', Bool.not_eq_false', decide_eq_true_eq, decide_eq_false_iff_not, beq_iff_eq, bne_iff_ne, beq_eq_false_iff_ne, bne_eq_false_iff_eq, ne_eq, Decidable.not_not, Bool.and_eq_true, Bool.and_eq_false_imp, Bool.or_eq_true, Bool.or_eq_false_iff, Bool.not_eq_true, Int.not_lt, Int.not_le, ge_iff_le, gt_iff_lt] at h1)
    refine cFalse (by kernel_rfl) ?_
    refine cSkip ?_
    refine kSeq ?_
    refine cSeq ?_
    refine cReg ?_
    refine seg 1 (T1 := (mkT 27 [(0, .agg #[.int .i64 x, .int .i64 y, .int .i64 z, .slice (some ⟨0, 0, none⟩) L.length 0]), (1, .pointer (some ⟨1, 0, none⟩)), (2, .bool false), (3, .int .i64 ((1048576 - L.length : Nat) : Int)), (11, .bool false), (12, .agg #[.int .i64 x, .int .i64 y, .int .i64 z, .slice (some ⟨0, 0, none⟩) L.length 0])])) (H1 := [some ⟨a3s L, 52, false, false⟩, some ⟨[.int .i64 x, .int .i64 y, .int .i64 z, .slice (some ⟨0, 0, none⟩) L.length 0], 44, true, true⟩]) (by kernel_rfl) ?_
    refine rCall (v := .agg #[.int .i64 x, .int .i64 y, .int .i64 z, .slice (some ⟨2, 0, none⟩) L.length 0]) (H' := [some ⟨a3s L, 52, false, false⟩, some ⟨[.int .i64 x, .int .i64 y, .int .i64 z, .slice (some ⟨0, 0, none⟩) L.length 0], 44, true, true⟩, some ⟨a3s L, 52, false, true⟩]) (args := [.agg #[.int .i64 x, .int .i64 y, .int .i64 z, .slice (some ⟨0, 0, none⟩) L.length 0]]) (by kernel_rfl) rfl (by kernel_rfl) (Sound.reads1F (r := ⟨a3s L, 52, false, false⟩) (r2 := ⟨a3s L, 52, false, true⟩) 0 false (toHeap_ok x y z L (by first | omega | (simp only [allOf_length, List.length_nil, mk3_length]; omega))) (flatA3 _ _ _ _) (flatA3 _ _ _ _) rfl rfl rfl rfl (by first | rfl | simp [mpV, mpA, mpS, mpP, renId, shift]) (by first | rfl | simp [mpV, mpA, mpS, mpP, renId, shift])) ?_
    refine rCall (v := .bool (isHeapB x y z L)) (H' := [some ⟨a3s L, 52, false, false⟩, some ⟨[.int .i64 x, .int .i64 y, .int .i64 z, .slice (some ⟨0, 0, none⟩) L.length 0], 44, true, true⟩, some ⟨a3s L, 52, false, true⟩]) (args := [.agg #[.int .i64 x, .int .i64 y, .int .i64 z, .slice (some ⟨2, 0, none⟩) L.length 0]]) (by kernel_rfl) rfl (by kernel_rfl) (Sound.reads1 (r := ⟨a3s L, 52, false, false⟩) 2 true (specIsHeap_ok x y z L (by first | omega | (simp only [allOf_length, List.length_nil, mk3_length]; omega))) (flatA3 _ _ _ _) rfl rfl rfl (by first | rfl | simp [mpV, mpA, mpS, mpP, renId, shift]) rfl) ?_
    refine segEnd [0, 1, 2, 3, 4, 11] (T1 := (mkT 27 [(0, .agg #[.int .i64 x, .int .i64 y, .int .i64 z, .slice (some ⟨0, 0, none⟩) L.length 0]), (1, .pointer (some ⟨1, 0, none⟩)), (2, .bool false), (3, .int .i64 ((1048576 - L.length : Nat) : Int)), (4, .bool (isHeapB x y z L)), (11, .bool false)])) (H1 := [some ⟨a3s L, 52, false, false⟩, some ⟨[.int .i64 x, .int .i64 y, .int .i64 z, .slice (some ⟨0, 0, none⟩) L.length 0], 44, true, true⟩, some ⟨a3s L, 52, false, true⟩]) (by kernel_rfl) ?_
    refine kSeq ?_
    refine cSeq ?_
    refine cReg ?_
    refine seg 1 (T1 := (mkT 27 [(0, .agg #[.int .i64 x, .int .i64 y, .int .i64 z, .slice (some ⟨0, 0, none⟩) L.length 0]), (1, .pointer (some ⟨1, 0, none⟩)), (2, .bool false), (3, .int .i64 ((1048576 - L.length : Nat) : Int)), (4, .bool (isHeapB x y z L)), (11, .bool false), (15, .agg #[.int .i64 x, .int .i64 y, .int .i64 z, .slice (some ⟨0, 0, none⟩) L.length 0])])) (H1 := [some ⟨a3s L, 52, false, false⟩, some ⟨[.int .i64 x, .int .i64 y, .int .i64 z, .slice (some ⟨0, 0, none⟩) L.length 0], 44, true, true⟩, some ⟨a3s L, 52, false, true⟩]) (by kernel_rfl) ?_
    refine rCall (v := .agg #[.int .i64 x, .int .i64 y, .int .i64 z, .slice (some ⟨3, 0, none⟩) L.length 0]) (H' := [some ⟨a3s L, 52, false, false⟩, some ⟨[.int .i64 x, .int .i64 y, .int .i64 z, .slice (some ⟨0, 0, none⟩) L.length 0], 44, true, true⟩, some ⟨a3s L, 52, false, true⟩, some ⟨a3s L, 52, false, true⟩]) (args := [.agg #[.int .i64 x, .int .i64 y, .int .i64 z, .slice (some ⟨0, 0, none⟩) L.length 0]]) (by kernel_rfl) rfl (by kernel_rfl) (Sound.reads1F (r := ⟨a3s L, 52, false, false⟩) (r2 := ⟨a3s L, 52, false, true⟩) 0 false (toHeap_ok x y z L (by first | omega | (simp only [allOf_length, List.length_nil, mk3_length]; omega))) (flatA3 _ _ _ _) (flatA3 _ _ _ _) rfl rfl rfl rfl (by first | rfl | simp [mpV, mpA, mpS, mpP, renId, shift]) (by first | rfl | simp [mpV, mpA, mpS, mpP, renId, shift])) ?_
    refine segEnd [0, 1, 2, 3, 4, 5, 11] (T1 := (mkT 27 [(0, .agg #[.int .i64 x, .int .i64 y, .int .i64 z, .slice (some ⟨0, 0, none⟩) L.length 0]), (1, .pointer (some ⟨1, 0, none⟩)), (2, .bool false), (3, .int .i64 ((1048576 - L.length : Nat) : Int)), (4, .bool (isHeapB x y z L)), (5, .pointer (some ⟨4, 0, none⟩)), (11, .bool false)])) (H1 := [some ⟨a3s L, 52, false, false⟩, some ⟨[.int .i64 x, .int .i64 y, .int .i64 z, .slice (some ⟨0, 0, none⟩) L.length 0], 44, true, true⟩, some ⟨a3s L, 52, false, true⟩, some ⟨a3s L, 52, false, true⟩, some ⟨[.int .i64 x, .int .i64 y, .int .i64 z, .slice (some ⟨3, 0, none⟩) L.length 0], 39, true, true⟩]) (by kernel_rfl) ?_
    refine kSeq ?_
    refine cSeq ?_
    refine cReg ?_
    refine seg 1 (T1 := (mkT 27 [(0, .agg #[.int .i64 x, .int .i64 y, .int .i64 z, .slice (some ⟨0, 0, none⟩) L.length 0]), (1, .pointer (some ⟨1, 0, none⟩)), (2, .bool false), (3, .int .i64 ((1048576 - L.length : Nat) : Int)), (4, .bool (isHeapB x y z L)), (5, .pointer (some ⟨4, 0, none⟩)), (11, .bool false), (17, .agg #[.int .i64 x, .int .i64 y, .int .i64 z, .slice (some ⟨3, 0, none⟩) L.length 0])])) (H1 := [some ⟨a3s L, 52, false, false⟩, some ⟨[.int .i64 x, .int .i64 y, .int .i64 z, .slice (some ⟨0, 0, none⟩) L.length 0], 44, true, true⟩, some ⟨a3s L, 52, false, true⟩, some ⟨a3s L, 52, false, true⟩, some ⟨[.int .i64 x, .int .i64 y, .int .i64 z, .slice (some ⟨3, 0, none⟩) L.length 0], 39, true, true⟩]) (by kernel_rfl) ?_
    refine rCall (v := .bool (isHeapB x y z L)) (H' := [some ⟨a3s L, 52, false, false⟩, some ⟨[.int .i64 x, .int .i64 y, .int .i64 z, .slice (some ⟨0, 0, none⟩) L.length 0], 44, true, true⟩, some ⟨a3s L, 52, false, true⟩, some ⟨a3s L, 52, false, true⟩, some ⟨[.int .i64 x, .int .i64 y, .int .i64 z, .slice (some ⟨3, 0, none⟩) L.length 0], 39, true, true⟩]) (args := [.agg #[.int .i64 x, .int .i64 y, .int .i64 z, .slice (some ⟨3, 0, none⟩) L.length 0]]) (by kernel_rfl) rfl (by kernel_rfl) (Sound.reads1 (r := ⟨a3s L, 52, false, false⟩) 3 true (implIsHeap_ok x y z L (by first | omega | (simp only [allOf_length, List.length_nil, mk3_length]; omega))) (flatA3 _ _ _ _) rfl rfl rfl (by first | rfl | simp [mpV, mpA, mpS, mpP, renId, shift]) rfl) ?_
    refine segEnd [0, 1, 2, 3, 4, 5, 6, 11] (T1 := (mkT 27 [(0, .agg #[.int .i64 x, .int .i64 y, .int .i64 z, .slice (some ⟨0, 0, none⟩) L.length 0]), (1, .pointer (some ⟨1, 0, none⟩)), (2, .bool false), (3, .int .i64 ((1048576 - L.length : Nat) : Int)), (4, .bool (isHeapB x y z L)), (5, .pointer (some ⟨4, 0, none⟩)), (6, .bool (isHeapB x y z L)), (11, .bool false)])) (H1 := [some ⟨a3s L, 52, false, false⟩, some ⟨[.int .i64 x, .int .i64 y, .int .i64 z, .slice (some ⟨0, 0, none⟩) L.length 0], 44, true, true⟩, some ⟨a3s L, 52, false, true⟩, some ⟨a3s L, 52, false, true⟩, some ⟨[.int .i64 x, .int .i64 y, .int .i64 z, .slice (some ⟨3, 0, none⟩) L.length 0], 39, true, true⟩]) (by kernel_rfl) ?_
    refine kSeq ?_
    refine cSeq ?_
    refine cSeq ?_
    refine cReg ?_
    refine seg 2 (T1 := (mkT 27 [(0, .agg #[.int .i64 x, .int .i64 y, .int .i64 z, .slice (some ⟨0, 0, none⟩) L.length 0]), (1, .pointer (some ⟨1, 0, none⟩)), (2, .bool false), (3, .int .i64 ((1048576 - L.length : Nat) : Int)), (4, .bool (isHeapB x y z L)), (5, .pointer (some ⟨4, 0, none⟩)), (6, .bool (isHeapB x y z L)), (11, .bool false), (19, .bool (isHeapB x y z L)), (20, .bool (isHeapB x y z L))])) (H1 := [some ⟨a3s L, 52, false, false⟩, some ⟨[.int .i64 x, .int .i64 y, .int .i64 z, .slice (some ⟨0, 0, none⟩) L.length 0], 44, true, true⟩, some ⟨a3s L, 52, false, true⟩, some ⟨a3s L, 52, false, true⟩, some ⟨[.int .i64 x, .int .i64 y, .int .i64 z, .slice (some ⟨3, 0, none⟩) L.length 0], 39, true, true⟩]) (by kernel_rfl) ?_
    refine rOp (v := .bool false) (H' := [some ⟨a3s L, 52, false, false⟩, some ⟨[.int .i64 x, .int .i64 y, .int .i64 z, .slice (some ⟨0, 0, none⟩) L.length 0], 44, true, true⟩, some ⟨a3s L, 52, false, true⟩, some ⟨a3s L, 52, false, true⟩, some ⟨[.int .i64 x, .int .i64 y, .int .i64 z, .slice (some ⟨3, 0, none⟩) L.length 0], 39, true, true⟩]) (by kernel_rfl) (eNeB (b := (isHeapB x y z L)) (by kernel_rfl) (by kernel_rfl) (by kernel_rfl)) ?_
    refine segEnd [0, 1, 2, 3, 4, 5, 6, 11, 21] (T1 := (mkT 27 [(0, .agg #[.int .i64 x, .int .i64 y, .int .i64 z, .slice (some ⟨0, 0, none⟩) L.length 0]), (1, .pointer (some ⟨1, 0, none⟩)), (2, .bool false), (3, .int .i64 ((1048576 - L.length : Nat) : Int)), (4, .bool (isHeapB x y z L)), (5, .pointer (some ⟨4, 0, none⟩)), (6, .bool (isHeapB x y z L)), (11, .bool false), (21, .bool false)])) (H1 := [some ⟨a3s L, 52, false, false⟩, some ⟨[.int .i64 x, .int .i64 y, .int .i64 z, .slice (some ⟨0, 0, none⟩) L.length 0], 44, true, true⟩, some ⟨a3s L, 52, false, true⟩, some ⟨a3s L, 52, false, true⟩, some ⟨[.int .i64 x, .int .i64 y, .int .i64 z, .slice (some ⟨3, 0, none⟩) L.length 0], 39, true, true⟩]) (by kernel_rfl) ?_
    refine kSeq ?_
    refine cFalse (by kernel_rfl) ?_
    refine cSkip ?_
    refine kSeq ?_
    refine cSeq ?_
    refine cSeq ?_
    refine cRegD (by kernel_rfl) ?_
    refine segD 2 (T1 := (mkT 27 [(0, .agg #[.int .i64 x, .int .i64 y, .int .i64 z, .slice (some ⟨0, 0, none⟩) L.length 0]), (1, .pointer (some ⟨1, 0, none⟩)), (2, .bool false), (3, .int .i64 ((1048576 - L.length : Nat) : Int)), (4, .bool (isHeapB x y z L)), (5, .pointer (some ⟨4, 0, none⟩)), (6, .bool (isHeapB x y z L)), (11, .bool false), (21, .bool false), (22, .agg #[.int .i64 x, .int .i64 y, .int .i64 z, .slice (some ⟨3, 0, none⟩) L.length 0]), (23, .agg #[.int .i64 x, .int .i64 y, .int .i64 z, .slice (some ⟨0, 0, none⟩) L.length 0])])) (H1 := [some ⟨a3s L, 52, false, false⟩, some ⟨[.int .i64 x, .int .i64 y, .int .i64 z, .slice (some ⟨0, 0, none⟩) L.length 0], 44, true, true⟩, some ⟨a3s L, 52, false, true⟩, some ⟨a3s L, 52, false, true⟩, some ⟨[.int .i64 x, .int .i64 y, .int .i64 z, .slice (some ⟨3, 0, none⟩) L.length 0], 39, true, true⟩]) (by kernel_rfl) ?_
    refine rCallN (E := [some ⟨a3s L, 52, false, true⟩]) (v := .agg #[.int .i64 x, .int .i64 y, .int .i64 z, .slice (some ⟨5, 0, none⟩) L.length 0]) (args := [.agg #[.int .i64 x, .int .i64 y, .int .i64 z, .slice (some ⟨0, 0, none⟩) L.length 0]]) (by kernel_rfl) rfl (by kernel_rfl) (by kernel_rfl) (Sound.reads1F (r := ⟨a3s L, 52, false, false⟩) (r2 := ⟨a3s L, 52, false, true⟩) 0 false (toHeap_ok x y z L (by first | omega | (simp only [allOf_length, List.length_nil, mk3_length]; omega))) (flatA3 _ _ _ _) (flatA3 _ _ _ _) rfl rfl rfl rfl (by first | rfl | simp [mpV, mpA, mpS, mpP, renId, shift]) (by first | rfl | simp [mpV, mpA, mpS, mpP, renId, shift])) ?_
    refine rCallQ (v := .bool true) (args := [.agg #[.int .i64 x, .int .i64 y, .int .i64 z, .slice (some ⟨3, 0, none⟩) L.length 0], .agg #[.int .i64 x, .int .i64 y, .int .i64 z, .slice (some ⟨5, 0, none⟩) L.length 0]]) (by kernel_rfl) rfl (by kernel_rfl) (by kernel_rfl) (by kernel_rfl) (Sound.reads2 3 5 true true (eqHeap_same x y z L (by first | omega | (simp only [allOf_length, List.length_nil, mk3_length]; omega))) (flatA3 _ _ _ _) (flatA3 _ _ _ _) rfl rfl rfl rfl rfl (by first | rfl | simp [mpV, mpA, mpS, mpP, renId, shift]) rfl) ?_
    refine segEndD [0, 1, 2, 3, 4, 5, 6, 11, 21, 26] (T1 := (mkT 27 [(0, .agg #[.int .i64 x, .int .i64 y, .int .i64 z, .slice (some ⟨0, 0, none⟩) L.length 0]), (1, .pointer (some ⟨1, 0, none⟩)), (2, .bool false), (3, .int .i64 ((1048576 - L.length : Nat) : Int)), (4, .bool (isHeapB x y z L)), (5, .pointer (some ⟨4, 0, none⟩)), (6, .bool (isHeapB x y z L)), (11, .bool false), (21, .bool false), (26, .bool false)])) (H1 := [some ⟨a3s L, 52, false, false⟩, some ⟨[.int .i64 x, .int .i64 y, .int .i64 z, .slice (some ⟨0, 0, none⟩) L.length 0], 44, true, true⟩, some ⟨a3s L, 52, false, true⟩, some ⟨a3s L, 52, false, true⟩, some ⟨[.int .i64 x, .int .i64 y, .int .i64 z, .slice (some ⟨3, 0, none⟩) L.length 0], 39, true, true⟩, some ⟨a3s L, 52, false, true⟩]) (by kernel_rfl) ?_
    refine kSeq ?_
    refine cFalse (by kernel_rfl) ?_
    refine cSkip ?_
    refine kSeq ?_
    refine cSeq ?_
    refine cReg ?_
    refine segEnd [0, 1, 2, 3, 4, 5, 6, 11, 21, 26] (T1 := (mkT 27 [(0, .agg #[.int .i64 x, .int .i64 y, .int .i64 z, .slice (some ⟨0, 0, none⟩) L.length 0]), (1, .pointer (some ⟨1, 0, none⟩)), (2, .bool true), (3, .int .i64 ((1048576 - L.length : Nat) : Int)), (4, .bool (isHeapB x y z L)), (5, .pointer (some ⟨4, 0, none⟩)), (6, .bool (isHeapB x y z L)), (11, .bool false), (21, .bool false), (26, .bool false)])) (H1 := [some ⟨a3s L, 52, false, false⟩, some ⟨[.int .i64 x, .int .i64 y, .int .i64 z, .slice (some ⟨0, 0, none⟩) L.length 0], 44, true, true⟩, some ⟨a3s L, 52, false, true⟩, some ⟨a3s L, 52, false, true⟩, some ⟨[.int .i64 x, .int .i64 y, .int .i64 z, .slice (some ⟨3, 0, none⟩) L.length 0], 39, true, true⟩, some ⟨a3s L, 52, false, true⟩]) (by kernel_rfl) ?_
    refine kSeq ?_
    refine cRet ?_
    exact endQ (Or.inr rfl) (l := [.bool true]) [some ⟨[.int .i64 x, .int .i64 y, .int .i64 z, .slice (some ⟨0, 0, none⟩) L.length 0], 44, true, true⟩, some ⟨a3s L, 52, false, true⟩, some ⟨a3s L, 52, false, true⟩, some ⟨[.int .i64 x, .int .i64 y, .int .i64 z, .slice (some ⟨3, 0, none⟩) L.length 0], 39, true, true⟩, some ⟨a3s L, 52, false, true⟩] (by kernel_rfl) (rfl) rfl rfl hcl rfl
  ·
    (try simp only [Bool.not_eq_true', Bool.not_eq_false', decide_eq_true_eq, decide_eq_false_iff_not, beq_iff_eq, bne_iff_ne, beq_eq_false_iff_ne, bne_eq_false_iff_eq, ne_eq, Decidable.not_not, Bool.and_eq_true, Bool.and_eq_false_imp, Bool.or_eq_true, Bool.or_eq_false_iff, Bool.not_eq_true, Int.not_lt, Int.not_le, ge_iff_le, gt_iff_lt] at h1)
    exfalso; omega

set_option maxRecDepth 100000 in
set_option maxHeartbeats 4000000 in
theorem lawIsHeap_nil (x y z : Int) : Sound Try.prog 14 [.agg #[.int .i64 x, .int .i64 y, .int .i64 z, .slice none 0 0]] [] (.bool true) [] := by
  refine sound_intro (C := cx) Try.func14 rfl (by kernel_rfl) fun hcl => ?_
  refine cSeq ?_
  refine cReg ?_
  refine segEnd [0, 1, 2] (T1 := (mkT 27 [(0, .agg #[.int .i64 x, .int .i64 y, .int .i64 z, .slice none 0 0]), (1, .pointer (some ⟨0, 0, none⟩)), (2, .bool false)])) (H1 := [some ⟨[.int .i64 x, .int .i64 y, .int .i64 z, .slice none 0 0], 44, true, true⟩]) (by kernel_rfl) ?_
  refine kSeq ?_
  refine cSeq ?_
  refine cReg ?_
  refine segEnd [0, 1, 2, 3] (T1 := (mkT 27 [(0, .agg #[.int .i64 x, .int .i64 y, .int .i64 z, .slice none 0 0]), (1, .pointer (some ⟨0, 0, none⟩)), (2, .bool false), (3, .int .i64 1048576)])) (H1 := [some ⟨[.int .i64 x, .int .i64 y, .int .i64 z, .slice none 0 0], 44, true, true⟩]) (by kernel_rfl) ?_
  refine kSeq ?_
  refine cSeq ?_
  refine cReg ?_
  refine seg 2 (T1 := (mkT 27 [(0, .agg #[.int .i64 x, .int .i64 y, .int .i64 z, .slice none 0 0]), (1, .pointer (some ⟨0, 0, none⟩)), (2, .bool false), (3, .int .i64 1048576), (7, .agg #[.int .i64 x, .int .i64 y, .int .i64 z, .slice none 0 0]), (8, .int .i64 1048576)])) (H1 := [some ⟨[.int .i64 x, .int .i64 y, .int .i64 z, .slice none 0 0], 44, true, true⟩]) (by kernel_rfl) ?_
  refine rCall (v := .int .i64 1048576) (H' := [some ⟨[.int .i64 x, .int .i64 y, .int .i64 z, .slice none 0 0], 44, true, true⟩]) (args := [.agg #[.int .i64 x, .int .i64 y, .int .i64 z, .slice none 0 0], .int .i64 1048576]) (by kernel_rfl) rfl (by kernel_rfl) ((szHeap_nil x y z).flat rfl rfl _) ?_
  refine segEnd [0, 1, 2, 3] (T1 := (mkT 27 [(0, .agg #[.int .i64 x, .int .i64 y, .int .i64 z, .slice none 0 0]), (1, .pointer (some ⟨0, 0, none⟩)), (2, .bool false), (3, .int .i64 1048576)])) (H1 := [some ⟨[.int .i64 x, .int .i64 y, .int .i64 z, .slice none 0 0], 44, true, true⟩]) (by kernel_rfl) ?_
  refine kSeq ?_
  refine cSeq ?_
  refine cSeq ?_
  refine cReg ?_
  refine segEnd [0, 1, 2, 3, 11] (T1 := (mkT 27 [(0, .agg #[.int .i64 x, .int .i64 y, .int .i64 z, .slice none 0 0]), (1, .pointer (some ⟨0, 0, none⟩)), (2, .bool false), (3, .int .i64 1048576), (11, .bool false)])) (H1 := [some ⟨[.int .i64 x, .int .i64 y, .int .i64 z, .slice none 0 0], 44, true, true⟩]) (by kernel_rfl) ?_
  refine kSeq ?_
  refine cFalse (by kernel_rfl) ?_
  refine cSkip ?_
  refine kSeq ?_
  refine cSeq ?_
  refine cReg ?_
  refine seg 1 (T1 := (mkT 27 [(0, .agg #[.int .i64 x, .int .i64 y, .int .i64 z, .slice none 0 0]), (1, .pointer (some ⟨0, 0, none⟩)), (2, .bool false), (3, .int .i64 1048576), (11, .bool false), (12, .agg #[.int .i64 x, .int .i64 y, .int .i64 z, .slice none 0 0])])) (H1 := [some ⟨[.int .i64 x, .int .i64 y, .int .i64 z, .slice none 0 0], 44, true, true⟩]) (by kernel_rfl) ?_
  refine rCall (v := .agg #[.int .i64 x, .int .i64 y, .int .i64 z, .slice (some ⟨1, 0, none⟩) 0 0]) (H' := [some ⟨[.int .i64 x, .int .i64 y, .int .i64 z, .slice none 0 0], 44, true, true⟩, some ⟨[], 52, false, true⟩]) (args := [.agg #[.int .i64 x, .int .i64 y, .int .i64 z, .slice none 0 0]]) (by kernel_rfl) rfl (by kernel_rfl) ((toHeap_ok_nil x y z ).fresh rfl (FlatH.nil.cons (flatRow_of rfl)) (fun r h => by simp at h; subst h; exact Or.inl rfl) _ (by first | rfl | simp [mpV, mpA, mpS, mpP, renId, shift])) ?_
  refine rCall (v := .bool (isHeapB x y z ([] : List A3))) (H' := [some ⟨[.int .i64 x, .int .i64 y, .int .i64 z, .slice none 0 0], 44, true, true⟩, some ⟨[], 52, false, true⟩]) (args := [.agg #[.int .i64 x, .int .i64 y, .int .i64 z, .slice (some ⟨1, 0, none⟩) 0 0]]) (by kernel_rfl) rfl (by kernel_rfl) (Sound.reads1 (r := ⟨a3s ([] : List A3), 52, false, false⟩) 1 true (specIsHeap_ok x y z ([] : List A3) (by first | omega | (simp only [allOf_length, List.length_nil, mk3_length]; omega))) (flatA3 _ _ _ _) rfl rfl rfl (by first | rfl | simp [mpV, mpA, mpS, mpP, renId, shift]) rfl) ?_
  refine segEnd [0, 1, 2, 3, 4, 11] (T1 := (mkT 27 [(0, .agg #[.int .i64 x, .int .i64 y, .int .i64 z, .slice none 0 0]), (1, .pointer (some ⟨0, 0, none⟩)), (2, .bool false), (3, .int .i64 1048576), (4, .bool (isHeapB x y z ([] : List A3))), (11, .bool false)])) (H1 := [some ⟨[.int .i64 x, .int .i64 y, .int .i64 z, .slice none 0 0], 44, true, true⟩, some ⟨[], 52, false, true⟩]) (by kernel_rfl) ?_
  refine kSeq ?_
  refine cSeq ?_
  refine cReg ?_
  refine seg 1 (T1 := (mkT 27 [(0, .agg #[.int .i64 x, .int .i64 y, .int .i64 z, .slice none 0 0]), (1, .pointer (some ⟨0, 0, none⟩)), (2, .bool false), (3, .int .i64 1048576), (4, .bool (isHeapB x y z ([] : List A3))), (11, .bool false), (15, .agg #[.int .i64 x, .int .i64 y, .int .i64 z, .slice none 0 0])])) (H1 := [some ⟨[.int .i64 x, .int .i64 y, .int .i64 z, .slice none 0 0], 44, true, true⟩, some ⟨[], 52, false, true⟩]) (by kernel_rfl) ?_
  refine rCall (v := .agg #[.int .i64 x, .int .i64 y, .int .i64 z, .slice (some ⟨2, 0, none⟩) 0 0]) (H' := [some ⟨[.int .i64 x, .int .i64 y, .int .i64 z, .slice none 0 0], 44, true, true⟩, some ⟨[], 52, false, true⟩, some ⟨[], 52, false, true⟩]) (args := [.agg #[.int .i64 x, .int .i64 y, .int .i64 z, .slice none 0 0]]) (by kernel_rfl) rfl (by kernel_rfl) ((toHeap_ok_nil x y z ).fresh rfl (FlatH.nil.cons (flatRow_of rfl)) (fun r h => by simp at h; subst h; exact Or.inl rfl) _ (by first | rfl | simp [mpV, mpA, mpS, mpP, renId, shift])) ?_
  refine segEnd [0, 1, 2, 3, 4, 5, 11] (T1 := (mkT 27 [(0, .agg #[.int .i64 x, .int .i64 y, .int .i64 z, .slice none 0 0]), (1, .pointer (some ⟨0, 0, none⟩)), (2, .bool false), (3, .int .i64 1048576), (4, .bool (isHeapB x y z ([] : List A3))), (5, .pointer (some ⟨3, 0, none⟩)), (11, .bool false)])) (H1 := [some ⟨[.int .i64 x, .int .i64 y, .int .i64 z, .slice none 0 0], 44, true, true⟩, some ⟨[], 52, false, true⟩, some ⟨[], 52, false, true⟩, some ⟨[.int .i64 x, .int .i64 y, .int .i64 z, .slice (some ⟨2, 0, none⟩) 0 0], 39, true, true⟩]) (by kernel_rfl) ?_
  refine kSeq ?_
  refine cSeq ?_
  refine cReg ?_
  refine seg 1 (T1 := (mkT 27 [(0, .agg #[.int .i64 x, .int .i64 y, .int .i64 z, .slice none 0 0]), (1, .pointer (some ⟨0, 0, none⟩)), (2, .bool false), (3, .int .i64 1048576), (4, .bool (isHeapB x y z ([] : List A3))), (5, .pointer (some ⟨3, 0, none⟩)), (11, .bool false), (17, .agg #[.int .i64 x, .int .i64 y, .int .i64 z, .slice (some ⟨2, 0, none⟩) 0 0])])) (H1 := [some ⟨[.int .i64 x, .int .i64 y, .int .i64 z, .slice none 0 0], 44, true, true⟩, some ⟨[], 52, false, true⟩, some ⟨[], 52, false, true⟩, some ⟨[.int .i64 x, .int .i64 y, .int .i64 z, .slice (some ⟨2, 0, none⟩) 0 0], 39, true, true⟩]) (by kernel_rfl) ?_
  refine rCall (v := .bool (isHeapB x y z ([] : List A3))) (H' := [some ⟨[.int .i64 x, .int .i64 y, .int .i64 z, .slice none 0 0], 44, true, true⟩, some ⟨[], 52, false, true⟩, some ⟨[], 52, false, true⟩, some ⟨[.int .i64 x, .int .i64 y, .int .i64 z, .slice (some ⟨2, 0, none⟩) 0 0], 39, true, true⟩]) (args := [.agg #[.int .i64 x, .int .i64 y, .int .i64 z, .slice (some ⟨2, 0, none⟩) 0 0]]) (by kernel_rfl) rfl (by kernel_rfl) (Sound.reads1 (r := ⟨a3s ([] : List A3), 52, false, false⟩) 2 true (implIsHeap_ok x y z ([] : List A3) (by first | omega | (simp only [allOf_length, List.length_nil, mk3_length]; omega))) (flatA3 _ _ _ _) rfl rfl rfl (by first | rfl | simp [mpV, mpA, mpS, mpP, renId, shift]) rfl) ?_
  refine segEnd [0, 1, 2, 3, 4, 5, 6, 11] (T1 := (mkT 27 [(0, .agg #[.int .i64 x, .int .i64 y, .int .i64 z, .slice none 0 0]), (1, .pointer (some ⟨0, 0, none⟩)), (2, .bool false), (3, .int .i64 1048576), (4, .bool (isHeapB x y z ([] : List A3))), (5, .pointer (some ⟨3, 0, none⟩)), (6, .bool (isHeapB x y z ([] : List A3))), (11, .bool false)])) (H1 := [some ⟨[.int .i64 x, .int .i64 y, .int .i64 z, .slice none 0 0], 44, true, true⟩, some ⟨[], 52, false, true⟩, some ⟨[], 52, false, true⟩, some ⟨[.int .i64 x, .int .i64 y, .int .i64 z, .slice (some ⟨2, 0, none⟩) 0 0], 39, true, true⟩]) (by kernel_rfl) ?_
  refine kSeq ?_
  refine cSeq ?_
  refine cSeq ?_
  refine cReg ?_
  refine seg 2 (T1 := (mkT 27 [(0, .agg #[.int .i64 x, .int .i64 y, .int .i64 z, .slice none 0 0]), (1, .pointer (some ⟨0, 0, none⟩)), (2, .bool false), (3, .int .i64 1048576), (4, .bool (isHeapB x y z ([] : List A3))), (5, .pointer (some ⟨3, 0, none⟩)), (6, .bool (isHeapB x y z ([] : List A3))), (11, .bool false), (19, .bool (isHeapB x y z ([] : List A3))), (20, .bool (isHeapB x y z ([] : List A3)))])) (H1 := [some ⟨[.int .i64 x, .int .i64 y, .int .i64 z, .slice none 0 0], 44, true, true⟩, some ⟨[], 52, false, true⟩, some ⟨[], 52, false, true⟩, some ⟨[.int .i64 x, .int .i64 y, .int .i64 z, .slice (some ⟨2, 0, none⟩) 0 0], 39, true, true⟩]) (by kernel_rfl) ?_
  refine rOp (v := .bool false) (H' := [some ⟨[.int .i64 x, .int .i64 y, .int .i64 z, .slice none 0 0], 44, true, true⟩, some ⟨[], 52, false, true⟩, some ⟨[], 52, false, true⟩, some ⟨[.int .i64 x, .int .i64 y, .int .i64 z, .slice (some ⟨2, 0, none⟩) 0 0], 39, true, true⟩]) (by kernel_rfl) (eNeB (b := (isHeapB x y z ([] : List A3))) (by kernel_rfl) (by kernel_rfl) (by kernel_rfl)) ?_
  refine segEnd [0, 1, 2, 3, 4, 5, 6, 11, 21] (T1 := (mkT 27 [(0, .agg #[.int .i64 x, .int .i64 y, .int .i64 z, .slice none 0 0]), (1, .pointer (some ⟨0, 0, none⟩)), (2, .bool false), (3, .int .i64 1048576), (4, .bool (isHeapB x y z ([] : List A3))), (5, .pointer (some ⟨3, 0, none⟩)), (6, .bool (isHeapB x y z ([] : List A3))), (11, .bool false), (21, .bool false)])) (H1 := [some ⟨[.int .i64 x, .int .i64 y, .int .i64 z, .slice none 0 0], 44, true, true⟩, some ⟨[], 52, false, true⟩, some ⟨[], 52, false, true⟩, some ⟨[.int .i64 x, .int .i64 y, .int .i64 z, .slice (some ⟨2, 0, none⟩) 0 0], 39, true, true⟩]) (by kernel_rfl) ?_
  refine kSeq ?_
  refine cFalse (by kernel_rfl) ?_
  refine cSkip ?_
  refine kSeq ?_
  refine cSeq ?_
  refine cSeq ?_
  refine cRegD (by kernel_rfl) ?_
  refine segD 2 (T1 := (mkT 27 [(0, .agg #[.int .i64 x, .int .i64 y, .int .i64 z, .slice none 0 0]), (1, .pointer (some ⟨0, 0, none⟩)), (2, .bool false), (3, .int .i64 1048576), (4, .bool (isHeapB x y z ([] : List A3))), (5, .pointer (some ⟨3, 0, none⟩)), (6, .bool (isHeapB x y z ([] : List A3))), (11, .bool false), (21, .bool false), (22, .agg #[.int .i64 x, .int .i64 y, .int .i64 z, .slice (some ⟨2, 0, none⟩) 0 0]), (23, .agg #[.int .i64 x, .int .i64 y, .int .i64 z, .slice none 0 0])])) (H1 := [some ⟨[.int .i64 x, .int .i64 y, .int .i64 z, .slice none 0 0], 44, true, true⟩, some ⟨[], 52, false, true⟩, some ⟨[], 52, false, true⟩, some ⟨[.int .i64 x, .int .i64 y, .int .i64 z, .slice (some ⟨2, 0, none⟩) 0 0], 39, true, true⟩]) (by kernel_rfl) ?_
  refine rCallN (E := [some ⟨[], 52, false, true⟩]) (v := .agg #[.int .i64 x, .int .i64 y, .int .i64 z, .slice (some ⟨4, 0, none⟩) 0 0]) (args := [.agg #[.int .i64 x, .int .i64 y, .int .i64 z, .slice none 0 0]]) (by kernel_rfl) rfl (by kernel_rfl) (by kernel_rfl) ((toHeap_ok_nil x y z ).fresh rfl (FlatH.nil.cons (flatRow_of rfl)) (fun r h => by simp at h; subst h; exact Or.inl rfl) _ (by first | rfl | simp [mpV, mpA, mpS, mpP, renId, shift])) ?_
  refine rCallQ (v := .bool true) (args := [.agg #[.int .i64 x, .int .i64 y, .int .i64 z, .slice (some ⟨2, 0, none⟩) 0 0], .agg #[.int .i64 x, .int .i64 y, .int .i64 z, .slice (some ⟨4, 0, none⟩) 0 0]]) (by kernel_rfl) rfl (by kernel_rfl) (by kernel_rfl) (by kernel_rfl) (Sound.reads2 2 4 true true (eqHeap_same x y z ([] : List A3) (by first | omega | (simp only [allOf_length, List.length_nil, mk3_length]; omega))) (flatA3 _ _ _ _) (flatA3 _ _ _ _) rfl rfl rfl rfl rfl (by first | rfl | simp [mpV, mpA, mpS, mpP, renId, shift]) rfl) ?_
  refine segEndD [0, 1, 2, 3, 4, 5, 6, 11, 21, 26] (T1 := (mkT 27 [(0, .agg #[.int .i64 x, .int .i64 y, .int .i64 z, .slice none 0 0]), (1, .pointer (some ⟨0, 0, none⟩)), (2, .bool false), (3, .int .i64 1048576), (4, .bool (isHeapB x y z ([] : List A3))), (5, .pointer (some ⟨3, 0, none⟩)), (6, .bool (isHeapB x y z ([] : List A3))), (11, .bool false), (21, .bool false), (26, .bool false)])) (H1 := [some ⟨[.int .i64 x, .int .i64 y, .int .i64 z, .slice none 0 0], 44, true, true⟩, some ⟨[], 52, false, true⟩, some ⟨[], 52, false, true⟩, some ⟨[.int .i64 x, .int .i64 y, .int .i64 z, .slice (some ⟨2, 0, none⟩) 0 0], 39, true, true⟩, some ⟨[], 52, false, true⟩]) (by kernel_rfl) ?_
  refine kSeq ?_
  refine cFalse (by kernel_rfl) ?_
  refine cSkip ?_
  refine kSeq ?_
  refine cSeq ?_
  refine cReg ?_
  refine segEnd [0, 1, 2, 3, 4, 5, 6, 11, 21, 26] (T1 := (mkT 27 [(0, .agg #[.int .i64 x, .int .i64 y, .int .i64 z, .slice none 0 0]), (1, .pointer (some ⟨0, 0, none⟩)), (2, .bool true), (3, .int .i64 1048576), (4, .bool (isHeapB x y z ([] : List A3))), (5, .pointer (some ⟨3, 0, none⟩)), (6, .bool (isHeapB x y z ([] : List A3))), (11, .bool false), (21, .bool false), (26, .bool false)])) (H1 := [some ⟨[.int .i64 x, .int .i64 y, .int .i64 z, .slice none 0 0], 44, true, true⟩, some ⟨[], 52, false, true⟩, some ⟨[], 52, false, true⟩, some ⟨[.int .i64 x, .int .i64 y, .int .i64 z, .slice (some ⟨2, 0, none⟩) 0 0], 39, true, true⟩, some ⟨[], 52, false, true⟩]) (by kernel_rfl) ?_
  refine kSeq ?_
  refine cRet ?_
  exact endQ (Or.inr rfl) (l := [.bool true]) [some ⟨[.int .i64 x, .int .i64 y, .int .i64 z, .slice none 0 0], 44, true, true⟩, some ⟨[], 52, false, true⟩, some ⟨[], 52, false, true⟩, some ⟨[.int .i64 x, .int .i64 y, .int .i64 z, .slice (some ⟨2, 0, none⟩) 0 0], 39, true, true⟩, some ⟨[], 52, false, true⟩] (by kernel_rfl) (rfl) rfl rfl hcl rfl
end Go.Proofs.Ytpdhoancokljoaa
namespace Go.Proofs.Ytpdhoancokljoaa.fnExactIsHeap
open Go.Am Go.ChangeShapes Go.WideShapes Go.ChangeAt Go.RowKit
theorem own : ownKnob Try.prog.godebug = none := by kernel_rfl
theorem laidOut : laidOutB Try.prog = true := by kernel_rfl
set_option maxRecDepth 100000 in
theorem lifted (os : Os) (started : os.Started) (H : Type) (enc : TypeId × Value → H) :
    ReturnsInHanded {} Try.checked os 14 .any (Rows.fnExactIsHeapSpec.pre6 enc Try.prog Try.f14 Rows.fnExactIsHeapRow.domain false) (Rows.fnExactIsHeapSpec.post enc Try.prog Try.f14 false true false false) := by
  refine returnsInHanded_of_change_sized (C := Try.checked) own started (by kernel_rfl) Try.func14
    (ChangeSpec.witness6 (enc := enc) (C := Try.checked) false ⟨#[], #[.agg #[.int .i64 0, .int .i64 0, .int .i64 0, .slice none 0 0]], []⟩ 8 (by kernel_rfl) (by kernel_rfl) (by kernel_rfl) (by kernel_rfl)) ?_
  intro W base args ds gs before hval0 hW hcnd hsz0 _
  have hval : ∀ (j : Nat) t v, Try.f14.params[j]? = some t → args[j]? = some v → Value.okWide Try.prog W .any base t v := hval0
  have hW' := hW
  obtain ⟨p, q, hA0, hV, rfl, hfz, hnd⟩ := hW
  have hA : DataW.TrodAll enc Try.prog W 0 (fun _ => true) true Try.f14.params.toList args.toList ds p := hA0
  rw [Try.params14] at hA hval
  obtain ⟨v0, vs0, d0, ds0, p0, q0, hargs, rfl, rfl, h0, r0⟩ := trodAll_cons hA
  obtain ⟨rfl, rfl, rfl⟩ := trodAll_nil r0
  obtain rfl : args = #[v0] := by cases args; simp_all
  obtain ⟨rfl, rfl⟩ := trodVars_none hV
  have hlt : ∀ x ∈ p0, x.block < W.heap.size := fun x hx => by simpa using hW'.lt x (by simp [hx])
  have fin : (∃ Q : Prop, Q) ∧ Calls Try.prog 14 #[v0] W (fun e W' => e = .returned (.bool true) ∧ Below W.heap.size W W') := by
    refine ⟨⟨True, trivial⟩, ?_⟩
    obtain ⟨x, y, z, wx, wy, wz, hor⟩ := open_heap (b0 := base) Try.underlying44 ⟨rfl, rfl⟩ ⟨rfl, rfl⟩ ⟨rfl, rfl⟩ ⟨rfl, rfl⟩ Try.underlying31 Try.underlying52 Try.underlying3 (by kernel_rfl) (by kernel_rfl) (by kernel_rfl) (by kernel_rfl) (by kernel_rfl) (hval 0 44 v0 rfl rfl) h0
    rcases hor with rfl | ⟨a, cap, L, rfl, hl, hm, hsp, hhas, hcell⟩
    · have h := (lawIsHeap_nil x y z).top0 rfl rfl W
      exact h
    · have hrep := rep_one (P := Try.prog) (b0 := base) (ta := 52) (by kernel_rfl) hhas (by rw [Try.underlying52]; simp) hcell hl
      have hS : Sound Try.prog 14 [.agg #[.int .i64 x, .int .i64 y, .int .i64 z, .slice (some ⟨0, 0, none⟩) L.length 0]] [some ⟨a3s L, 52, false, false⟩] (.bool true) [some ⟨a3s L, 52, false, false⟩] := by
        by_cases hL : L.length ≤ 1048576
        · exact lawIsHeap_small x y z L hL
        · exact lawIsHeap_big x y z L (by omega) (by have : maxLen = 9223372036854775807 := rfl; omega)
      have h := hS.top (fun i r hi => by cases i with
        | zero => simp at hi; subst hi; rfl
        | succ i => simp at hi) hrep (fun x hx i hi => by simp at hx; subst hx; simp [idsV, idsA, idsS, idsP] at hi; simp [hi]) rfl
      obtain ⟨blk, off, spot⟩ := a
      simp only at hsp
      subst hsp
      simpa [mapV, mpV, mpA, mpS, mpP, toReal] using h
  clear hA0 hval0 hsz0
  refine fin.2.mono fun e W' ⟨he, bel⟩ => ?_
  subst he
  exact ⟨_, rfl, _, _, _, [], _, [], hW', trodAll_mk1 (shut_bool Try.underlying4 _), (trodAll_cons_mk (Below.trod laidOut (by kernel_rfl) (of_decide_eq_true (by kernel_rfl)) h0 bel hlt) trodAll_mk0), rfl, bel.frame _, fun h => by cases h⟩
theorem over : Rows.fnExactIsHeapRow.holds Try.pinned (OpenSpec.ofChange Rows.fnExactIsHeapSpec) :=
  OpenClaim.holds_of_wide 14 Try.f14 rfl rfl rfl rfl rfl rfl rfl ⟨rfl, rfl, rfl, rfl, rfl⟩ rfl rfl rfl rfl rfl (by kernel_rfl) Try.func14 (by kernel_rfl)
    (of_decide_eq_true (by kernel_rfl)) (by unfold Func.isWrapper; first | (rw [if_pos (by decide +kernel)]; kernel_rfl) | (rw [if_neg (by decide +kernel)]; exact ⟨rfl, rfl⟩))
    (fun os started H enc _ => lifted os started H enc)
end Go.Proofs.Ytpdhoancokljoaa.fnExactIsHeap
namespace Go.Proofs.Ytpdhoancokljoaa
/-- The row, under a short name, for the claim. -/
theorem fnExactIsHeap_holds : Rows.FnExactIsHeapSaid := fnExactIsHeap.over
#print axioms fnExactIsHeap_holds
end Go.Proofs.Ytpdhoancokljoaa
