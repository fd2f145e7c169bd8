/- A law, whole: the walks, and the row. No condition. -/
import Derived.Test.YtpdhoancokljoaaAmF3
import Derived.WalkKit
import Derived.ProofKit
import Derived.OpenShut
import Derived.ShutString
import Derived.ChangeOld
import Derived.Below
import Derived.SizedLaws
set_option linter.unusedVariables false
set_option linter.unusedSimpArgs false
namespace Go.Proofs.Ytpdhoancokljoaa
open Go.Am Go.RowKit
set_option maxRecDepth 100000 in
set_option maxHeartbeats 4000000 in
theorem specBoxPiece_no (x y z : Int) (hv : valid3 x y z = false) : Sound Try.prog 23 [.int .i64 x, .int .i64 y, .int .i64 z] [] (.tuple #[.slice (some ⟨0, 0, none⟩) 0 0, .bool false]) [some ⟨[], 52, false, true⟩] := by
  refine sound_intro (C := cx) Try.func23 rfl (by kernel_rfl) fun hcl => ?_
  refine cSeq ?_
  refine cReg ?_
  refine segEnd [0, 1, 2, 6, 7] (T1 := (mkT 27 [(0, .int .i64 x), (1, .int .i64 y), (2, .int .i64 z), (6, .slice none 0 0), (7, .bool false)])) (H1 := []) (by kernel_rfl) ?_
  refine kSeq ?_
  refine cSeq ?_
  refine cSeq ?_
  refine cReg ?_
  refine seg 3 (T1 := (mkT 27 [(0, .int .i64 x), (1, .int .i64 y), (2, .int .i64 z), (6, .slice none 0 0), (7, .bool false), (8, .int .i64 x), (9, .int .i64 y), (10, .int .i64 z)])) (H1 := []) (by kernel_rfl) ?_
  refine rCall (v := .bool false) (H' := []) (args := [.int .i64 x, .int .i64 y, .int .i64 z]) (by kernel_rfl) rfl (by kernel_rfl) ((by have h := (sides_ok x y z).flat rfl rfl []; rw [hv] at h; exact h)) ?_
  refine segEnd [0, 1, 2, 6, 7, 20] (T1 := (mkT 27 [(0, .int .i64 x), (1, .int .i64 y), (2, .int .i64 z), (6, .slice none 0 0), (7, .bool false), (20, .bool true)])) (H1 := []) (by kernel_rfl) ?_
  refine kSeq ?_
  refine cTrue (by kernel_rfl) ?_
  refine cSeq ?_
  refine cReg ?_
  refine segEnd [0, 1, 2, 6, 7, 20] (T1 := (mkT 27 [(0, .int .i64 x), (1, .int .i64 y), (2, .int .i64 z), (6, .slice (some ⟨0, 0, none⟩) 0 0), (7, .bool false), (20, .bool true)])) (H1 := [some ⟨[], 52, false, true⟩]) (by kernel_rfl) ?_
  refine kSeq ?_
  refine cRet ?_
  refine kSeqR ?_
  exact endF (Or.inr rfl) (l := [.slice (some ⟨0, 0, none⟩) 0 0, .bool false]) [0] (by kernel_rfl) (by first | rfl | simp [packR, mpV, mpA, mpS, mpP, renId]) ⟨rrX rfl rfl, trivial⟩ rfl rfl

set_option maxRecDepth 100000 in
set_option maxHeartbeats 4000000 in
theorem implBoxPiece_no (x y z : Int) (hv : valid3 x y z = false) : Sound Try.prog 24 [.int .i64 x, .int .i64 y, .int .i64 z] [] (.tuple #[.slice none 0 0, .bool false]) [] := by
  refine sound_intro (C := cx) Try.func24 rfl (by kernel_rfl) fun hcl => ?_
  refine cSeq ?_
  refine cReg ?_
  refine segEnd [0, 1, 2, 6, 7] (T1 := (mkT 25 [(0, .int .i64 x), (1, .int .i64 y), (2, .int .i64 z), (6, .slice none 0 0), (7, .bool false)])) (H1 := []) (by kernel_rfl) ?_
  refine kSeq ?_
  refine cSeq ?_
  refine cReg ?_
  refine segEnd [0, 1, 2, 6, 7, 8] (T1 := (mkT 25 [(0, .int .i64 x), (1, .int .i64 y), (2, .int .i64 z), (6, .slice none 0 0), (7, .bool false), (8, .pointer (some ⟨0, 0, none⟩))])) (H1 := [some ⟨[.int .i64 x, .int .i64 y, .int .i64 z], 53, true, true⟩]) (by kernel_rfl) ?_
  refine kSeq ?_
  refine cSeq ?_
  refine cSeq ?_
  refine cReg ?_
  refine seg 1 (T1 := (mkT 25 [(0, .int .i64 x), (1, .int .i64 y), (2, .int .i64 z), (6, .slice none 0 0), (7, .bool false), (8, .pointer (some ⟨0, 0, none⟩)), (13, .agg #[.int .i64 x, .int .i64 y, .int .i64 z])])) (H1 := [some ⟨[.int .i64 x, .int .i64 y, .int .i64 z], 53, true, true⟩]) (by kernel_rfl) ?_
  refine rCall (v := .bool false) (H' := [some ⟨[.int .i64 x, .int .i64 y, .int .i64 z], 53, true, true⟩]) (args := [.agg #[.int .i64 x, .int .i64 y, .int .i64 z]]) (by kernel_rfl) rfl (by kernel_rfl) ((by have h := (valid_ok x y z).flat rfl rfl [some ⟨[.int .i64 x, .int .i64 y, .int .i64 z], 53, true, true⟩]; rw [hv] at h; exact h)) ?_
  refine segEnd [0, 1, 2, 6, 7, 8, 20] (T1 := (mkT 25 [(0, .int .i64 x), (1, .int .i64 y), (2, .int .i64 z), (6, .slice none 0 0), (7, .bool false), (8, .pointer (some ⟨0, 0, none⟩)), (20, .bool true)])) (H1 := [some ⟨[.int .i64 x, .int .i64 y, .int .i64 z], 53, true, true⟩]) (by kernel_rfl) ?_
  refine kSeq ?_
  refine cTrue (by kernel_rfl) ?_
  refine cSeq ?_
  refine cReg ?_
  refine segEnd [0, 1, 2, 6, 7, 8, 20] (T1 := (mkT 25 [(0, .int .i64 x), (1, .int .i64 y), (2, .int .i64 z), (6, .slice none 0 0), (7, .bool false), (8, .pointer (some ⟨0, 0, none⟩)), (20, .bool true)])) (H1 := [some ⟨[.int .i64 x, .int .i64 y, .int .i64 z], 53, true, true⟩]) (by kernel_rfl) ?_
  refine kSeq ?_
  refine cRet ?_
  refine kSeqR ?_
  exact endQ (Or.inr rfl) (l := [.slice none 0 0, .bool false]) [some ⟨[.int .i64 x, .int .i64 y, .int .i64 z], 53, true, true⟩] (by kernel_rfl) (rfl) rfl rfl hcl rfl

set_option maxRecDepth 100000 in
set_option maxHeartbeats 4000000 in
theorem lawBoxPiece_no (x y z : Int) (hv : valid3 x y z = false) : Sound Try.prog 8 [.int .i64 x, .int .i64 y, .int .i64 z] [] (.bool true) [] := by
  refine sound_intro (C := cx) Try.func8 rfl (by kernel_rfl) fun hcl => ?_
  refine cSeq ?_
  refine cReg ?_
  refine segEnd [0, 1, 2, 6] (T1 := (mkT 73 [(0, .int .i64 x), (1, .int .i64 y), (2, .int .i64 z), (6, .bool false)])) (H1 := []) (by kernel_rfl) ?_
  refine kSeq ?_
  refine cSeq ?_
  refine cReg ?_
  refine seg 3 (T1 := (mkT 73 [(0, .int .i64 x), (1, .int .i64 y), (2, .int .i64 z), (6, .bool false), (16, .int .i64 x), (17, .int .i64 y), (18, .int .i64 z)])) (H1 := []) (by kernel_rfl) ?_
  refine rCall (v := .tuple #[.slice (some ⟨0, 0, none⟩) 0 0, .bool false]) (H' := [some ⟨[], 52, false, true⟩]) (args := [.int .i64 x, .int .i64 y, .int .i64 z]) (by kernel_rfl) rfl (by kernel_rfl) ((specBoxPiece_no x y z hv).fresh rfl (FlatH.nil.cons (flatRow_of rfl)) (fun r h => by simp at h; subst h; exact Or.inl rfl) _ (by first | rfl | simp [mpV, mpA, mpS, mpP, renId, shift])) ?_
  refine segEnd [0, 1, 2, 6, 7, 8] (T1 := (mkT 73 [(0, .int .i64 x), (1, .int .i64 y), (2, .int .i64 z), (6, .bool false), (7, .slice (some ⟨0, 0, none⟩) 0 0), (8, .bool false)])) (H1 := [some ⟨[], 52, false, true⟩]) (by kernel_rfl) ?_
  refine kSeq ?_
  refine cSeq ?_
  refine cReg ?_
  refine seg 3 (T1 := (mkT 73 [(0, .int .i64 x), (1, .int .i64 y), (2, .int .i64 z), (6, .bool false), (7, .slice (some ⟨0, 0, none⟩) 0 0), (8, .bool false), (23, .int .i64 x), (24, .int .i64 y), (25, .int .i64 z)])) (H1 := [some ⟨[], 52, false, true⟩]) (by kernel_rfl) ?_
  refine rCall (v := .tuple #[.slice none 0 0, .bool false]) (H' := [some ⟨[], 52, false, true⟩]) (args := [.int .i64 x, .int .i64 y, .int .i64 z]) (by kernel_rfl) rfl (by kernel_rfl) ((implBoxPiece_no x y z hv).flat rfl rfl _) ?_
  refine segEnd [0, 1, 2, 6, 7, 8, 9, 10] (T1 := (mkT 73 [(0, .int .i64 x), (1, .int .i64 y), (2, .int .i64 z), (6, .bool false), (7, .slice (some ⟨0, 0, none⟩) 0 0), (8, .bool false), (9, .slice none 0 0), (10, .bool false)])) (H1 := [some ⟨[], 52, false, true⟩]) (by kernel_rfl) ?_
  refine kSeq ?_
  refine cSeq ?_
  refine cSeq ?_
  refine cReg ?_
  refine seg 2 (T1 := (mkT 73 [(0, .int .i64 x), (1, .int .i64 y), (2, .int .i64 z), (6, .bool false), (7, .slice (some ⟨0, 0, none⟩) 0 0), (8, .bool false), (9, .slice none 0 0), (10, .bool false), (29, .slice none 0 0), (30, .slice (some ⟨0, 0, none⟩) 0 0)])) (H1 := [some ⟨[], 52, false, true⟩]) (by kernel_rfl) ?_
  refine rCall (v := .bool true) (H' := [some ⟨[], 52, false, true⟩]) (args := [.slice none 0 0, .slice (some ⟨0, 0, none⟩) 0 0]) (by kernel_rfl) rfl (by kernel_rfl) (Sound.reads1 (args0 := [.slice none 0 0, .slice (some ⟨0, 0, none⟩) 0 0]) (r := ⟨[], 52, false, false⟩) 0 true (exF_sound (C := cx) told_none 8 25 [.slice none 0 0, .slice (some ⟨0, 0, none⟩) 0 0] [some ⟨[], 52, false, false⟩] (.bool true) [some ⟨[], 52, false, false⟩] (by kernel_rfl)) (flatRow_of rfl) rfl rfl rfl rfl rfl) ?_
  refine segEnd [0, 1, 2, 6, 7, 8, 9, 10, 37] (T1 := (mkT 73 [(0, .int .i64 x), (1, .int .i64 y), (2, .int .i64 z), (6, .bool false), (7, .slice (some ⟨0, 0, none⟩) 0 0), (8, .bool false), (9, .slice none 0 0), (10, .bool false), (37, .bool false)])) (H1 := [some ⟨[], 52, false, true⟩]) (by kernel_rfl) ?_
  refine kSeq ?_
  refine cFalse (by kernel_rfl) ?_
  refine cSkip ?_
  refine kSeq ?_
  refine cSeq ?_
  refine cReg ?_
  refine segEnd [0, 1, 2, 6, 7, 8, 9, 10, 11, 37] (T1 := (mkT 73 [(0, .int .i64 x), (1, .int .i64 y), (2, .int .i64 z), (6, .bool false), (7, .slice (some ⟨0, 0, none⟩) 0 0), (8, .bool false), (9, .slice none 0 0), (10, .bool false), (11, .int .i64 1), (37, .bool false)])) (H1 := [some ⟨[], 52, false, true⟩]) (by kernel_rfl) ?_
  refine kSeq ?_
  refine cSeq ?_
  refine cReg ?_
  refine seg 2 (T1 := (mkT 73 [(0, .int .i64 x), (1, .int .i64 y), (2, .int .i64 z), (6, .bool false), (7, .slice (some ⟨0, 0, none⟩) 0 0), (8, .bool false), (9, .slice none 0 0), (10, .bool false), (11, .int .i64 1), (37, .bool false), (38, .slice none 0 0), (39, .int .i64 1)])) (H1 := [some ⟨[], 52, false, true⟩]) (by kernel_rfl) ?_
  refine rCall (v := .int .i64 1) (H' := [some ⟨[], 52, false, true⟩]) (args := [.slice none 0 0, .int .i64 1]) (by kernel_rfl) rfl (by kernel_rfl) ((exF_sound (C := cx) told_none 8 26 _ _ _ _ (by kernel_rfl)).flat rfl rfl _) ?_
  refine segEnd [0, 1, 2, 6, 7, 8, 9, 10, 11, 37] (T1 := (mkT 73 [(0, .int .i64 x), (1, .int .i64 y), (2, .int .i64 z), (6, .bool false), (7, .slice (some ⟨0, 0, none⟩) 0 0), (8, .bool false), (9, .slice none 0 0), (10, .bool false), (11, .int .i64 1), (37, .bool false)])) (H1 := [some ⟨[], 52, false, true⟩]) (by kernel_rfl) ?_
  refine kSeq ?_
  refine cSeq ?_
  refine cReg ?_
  refine segEnd [0, 1, 2, 6, 7, 8, 9, 10, 11, 12, 37] (T1 := (mkT 73 [(0, .int .i64 x), (1, .int .i64 y), (2, .int .i64 z), (6, .bool false), (7, .slice (some ⟨0, 0, none⟩) 0 0), (8, .bool false), (9, .slice none 0 0), (10, .bool false), (11, .int .i64 1), (12, .int .i64 1), (37, .bool false)])) (H1 := [some ⟨[], 52, false, true⟩]) (by kernel_rfl) ?_
  refine kSeq ?_
  refine cSeq ?_
  refine cReg ?_
  refine seg 2 (T1 := (mkT 73 [(0, .int .i64 x), (1, .int .i64 y), (2, .int .i64 z), (6, .bool false), (7, .slice (some ⟨0, 0, none⟩) 0 0), (8, .bool false), (9, .slice none 0 0), (10, .bool false), (11, .int .i64 1), (12, .int .i64 1), (37, .bool false), (41, .slice none 0 0), (42, .int .i64 1)])) (H1 := [some ⟨[], 52, false, true⟩]) (by kernel_rfl) ?_
  refine rCall (v := .int .i64 1) (H' := [some ⟨[], 52, false, true⟩]) (args := [.slice none 0 0, .int .i64 1]) (by kernel_rfl) rfl (by kernel_rfl) ((exF_sound (C := cx) told_none 8 27 _ _ _ _ (by kernel_rfl)).flat rfl rfl _) ?_
  refine segEnd [0, 1, 2, 6, 7, 8, 9, 10, 11, 12, 37] (T1 := (mkT 73 [(0, .int .i64 x), (1, .int .i64 y), (2, .int .i64 z), (6, .bool false), (7, .slice (some ⟨0, 0, none⟩) 0 0), (8, .bool false), (9, .slice none 0 0), (10, .bool false), (11, .int .i64 1), (12, .int .i64 1), (37, .bool false)])) (H1 := [some ⟨[], 52, false, true⟩]) (by kernel_rfl) ?_
  refine kSeq ?_
  refine cSeq ?_
  refine cSeq ?_
  refine cReg ?_
  refine segEnd [0, 1, 2, 6, 7, 8, 9, 10, 11, 12, 37, 45] (T1 := (mkT 73 [(0, .int .i64 x), (1, .int .i64 y), (2, .int .i64 z), (6, .bool false), (7, .slice (some ⟨0, 0, none⟩) 0 0), (8, .bool false), (9, .slice none 0 0), (10, .bool false), (11, .int .i64 1), (12, .int .i64 1), (37, .bool false), (45, .bool false)])) (H1 := [some ⟨[], 52, false, true⟩]) (by kernel_rfl) ?_
  refine kSeq ?_
  refine cFalse (by kernel_rfl) ?_
  refine cSkip ?_
  refine kSeq ?_
  refine cSeq ?_
  refine cSeq ?_
  refine cReg ?_
  refine segEnd [0, 1, 2, 6, 7, 8, 9, 10, 11, 12, 37, 45, 48] (T1 := (mkT 73 [(0, .int .i64 x), (1, .int .i64 y), (2, .int .i64 z), (6, .bool false), (7, .slice (some ⟨0, 0, none⟩) 0 0), (8, .bool false), (9, .slice none 0 0), (10, .bool false), (11, .int .i64 1), (12, .int .i64 1), (37, .bool false), (45, .bool false), (48, .bool false)])) (H1 := [some ⟨[], 52, false, true⟩]) (by kernel_rfl) ?_
  refine kSeq ?_
  refine cFalse (by kernel_rfl) ?_
  refine cSkip ?_
  refine kSeq ?_
  refine cSeq ?_
  refine cReg ?_
  refine seg 3 (T1 := (mkT 73 [(0, .int .i64 x), (1, .int .i64 y), (2, .int .i64 z), (6, .bool false), (7, .slice (some ⟨0, 0, none⟩) 0 0), (8, .bool false), (9, .slice none 0 0), (10, .bool false), (11, .int .i64 1), (12, .int .i64 1), (37, .bool false), (45, .bool false), (48, .bool false), (50, .int .i64 x), (51, .int .i64 y), (52, .int .i64 z)])) (H1 := [some ⟨[], 52, false, true⟩]) (by kernel_rfl) ?_
  refine rCall (v := .tuple #[.slice none 0 0, .bool false]) (H' := [some ⟨[], 52, false, true⟩]) (args := [.int .i64 x, .int .i64 y, .int .i64 z]) (by kernel_rfl) rfl (by kernel_rfl) ((implBoxPiece_no x y z hv).flat rfl rfl _) ?_
  refine segEnd [0, 1, 2, 6, 7, 8, 9, 10, 11, 12, 13, 14, 37, 45, 48] (T1 := (mkT 73 [(0, .int .i64 x), (1, .int .i64 y), (2, .int .i64 z), (6, .bool false), (7, .slice (some ⟨0, 0, none⟩) 0 0), (8, .bool false), (9, .slice none 0 0), (10, .bool false), (11, .int .i64 1), (12, .int .i64 1), (13, .slice none 0 0), (14, .bool false), (37, .bool false), (45, .bool false), (48, .bool false)])) (H1 := [some ⟨[], 52, false, true⟩]) (by kernel_rfl) ?_
  refine kSeq ?_
  refine cSeq ?_
  refine cSeq ?_
  refine cReg ?_
  refine seg 2 (T1 := (mkT 73 [(0, .int .i64 x), (1, .int .i64 y), (2, .int .i64 z), (6, .bool false), (7, .slice (some ⟨0, 0, none⟩) 0 0), (8, .bool false), (9, .slice none 0 0), (10, .bool false), (11, .int .i64 1), (12, .int .i64 1), (13, .slice none 0 0), (14, .bool false), (37, .bool false), (45, .bool false), (48, .bool false), (56, .slice none 0 0), (57, .slice (some ⟨0, 0, none⟩) 0 0)])) (H1 := [some ⟨[], 52, false, true⟩]) (by kernel_rfl) ?_
  refine rCall (v := .bool true) (H' := [some ⟨[], 52, false, true⟩]) (args := [.slice none 0 0, .slice (some ⟨0, 0, none⟩) 0 0]) (by kernel_rfl) rfl (by kernel_rfl) (Sound.reads1 (args0 := [.slice none 0 0, .slice (some ⟨0, 0, none⟩) 0 0]) (r := ⟨[], 52, false, false⟩) 0 true (exF_sound (C := cx) told_none 8 25 [.slice none 0 0, .slice (some ⟨0, 0, none⟩) 0 0] [some ⟨[], 52, false, false⟩] (.bool true) [some ⟨[], 52, false, false⟩] (by kernel_rfl)) (flatRow_of rfl) rfl rfl rfl rfl rfl) ?_
  refine segEnd [0, 1, 2, 6, 7, 8, 9, 10, 11, 12, 13, 14, 37, 45, 48, 64] (T1 := (mkT 73 [(0, .int .i64 x), (1, .int .i64 y), (2, .int .i64 z), (6, .bool false), (7, .slice (some ⟨0, 0, none⟩) 0 0), (8, .bool false), (9, .slice none 0 0), (10, .bool false), (11, .int .i64 1), (12, .int .i64 1), (13, .slice none 0 0), (14, .bool false), (37, .bool false), (45, .bool false), (48, .bool false), (64, .bool false)])) (H1 := [some ⟨[], 52, false, true⟩]) (by kernel_rfl) ?_
  refine kSeq ?_
  refine cFalse (by kernel_rfl) ?_
  refine cSkip ?_
  refine kSeq ?_
  refine cSeq ?_
  refine cReg ?_
  refine segEnd [0, 1, 2, 6, 7, 8, 9, 10, 11, 12, 13, 14, 37, 45, 48, 64] (T1 := (mkT 73 [(0, .int .i64 x), (1, .int .i64 y), (2, .int .i64 z), (6, .bool false), (7, .slice (some ⟨0, 0, none⟩) 0 0), (8, .bool false), (9, .slice none 0 0), (10, .bool false), (11, .int .i64 1), (12, .int .i64 1), (13, .slice none 0 0), (14, .bool false), (37, .bool false), (45, .bool false), (48, .bool false), (64, .bool false)])) (H1 := [some ⟨[], 52, false, true⟩]) (by kernel_rfl) ?_
  refine kSeq ?_
  refine cSeq ?_
  refine cReg ?_
  refine seg 2 (T1 := (mkT 73 [(0, .int .i64 x), (1, .int .i64 y), (2, .int .i64 z), (6, .bool false), (7, .slice (some ⟨0, 0, none⟩) 0 0), (8, .bool false), (9, .slice none 0 0), (10, .bool false), (11, .int .i64 1), (12, .int .i64 1), (13, .slice none 0 0), (14, .bool false), (37, .bool false), (45, .bool false), (48, .bool false), (64, .bool false), (65, .slice none 0 0), (66, .int .i64 1)])) (H1 := [some ⟨[], 52, false, true⟩]) (by kernel_rfl) ?_
  refine rCall (v := .int .i64 1) (H' := [some ⟨[], 52, false, true⟩]) (args := [.slice none 0 0, .int .i64 1]) (by kernel_rfl) rfl (by kernel_rfl) ((exF_sound (C := cx) told_none 8 27 _ _ _ _ (by kernel_rfl)).flat rfl rfl _) ?_
  refine segEnd [0, 1, 2, 6, 7, 8, 9, 10, 11, 12, 13, 14, 37, 45, 48, 64] (T1 := (mkT 73 [(0, .int .i64 x), (1, .int .i64 y), (2, .int .i64 z), (6, .bool false), (7, .slice (some ⟨0, 0, none⟩) 0 0), (8, .bool false), (9, .slice none 0 0), (10, .bool false), (11, .int .i64 1), (12, .int .i64 1), (13, .slice none 0 0), (14, .bool false), (37, .bool false), (45, .bool false), (48, .bool false), (64, .bool false)])) (H1 := [some ⟨[], 52, false, true⟩]) (by kernel_rfl) ?_
  refine kSeq ?_
  refine cSeq ?_
  refine cSeq ?_
  refine cReg ?_
  refine segEnd [0, 1, 2, 6, 7, 8, 9, 10, 11, 12, 13, 14, 37, 45, 48, 64, 69] (T1 := (mkT 73 [(0, .int .i64 x), (1, .int .i64 y), (2, .int .i64 z), (6, .bool false), (7, .slice (some ⟨0, 0, none⟩) 0 0), (8, .bool false), (9, .slice none 0 0), (10, .bool false), (11, .int .i64 1), (12, .int .i64 1), (13, .slice none 0 0), (14, .bool false), (37, .bool false), (45, .bool false), (48, .bool false), (64, .bool false), (69, .bool false)])) (H1 := [some ⟨[], 52, false, true⟩]) (by kernel_rfl) ?_
  refine kSeq ?_
  refine cFalse (by kernel_rfl) ?_
  refine cSkip ?_
  refine kSeq ?_
  refine cSeq ?_
  refine cSeq ?_
  refine cReg ?_
  refine segEnd [0, 1, 2, 6, 7, 8, 9, 10, 11, 12, 13, 14, 37, 45, 48, 64, 69, 72] (T1 := (mkT 73 [(0, .int .i64 x), (1, .int .i64 y), (2, .int .i64 z), (6, .bool false), (7, .slice (some ⟨0, 0, none⟩) 0 0), (8, .bool false), (9, .slice none 0 0), (10, .bool false), (11, .int .i64 1), (12, .int .i64 1), (13, .slice none 0 0), (14, .bool false), (37, .bool false), (45, .bool false), (48, .bool false), (64, .bool false), (69, .bool false), (72, .bool false)])) (H1 := [some ⟨[], 52, false, true⟩]) (by kernel_rfl) ?_
  refine kSeq ?_
  refine cFalse (by kernel_rfl) ?_
  refine cSkip ?_
  refine kSeq ?_
  refine cSeq ?_
  refine cReg ?_
  refine segEnd [0, 1, 2, 6, 7, 8, 9, 10, 11, 12, 13, 14, 37, 45, 48, 64, 69, 72] (T1 := (mkT 73 [(0, .int .i64 x), (1, .int .i64 y), (2, .int .i64 z), (6, .bool true), (7, .slice (some ⟨0, 0, none⟩) 0 0), (8, .bool false), (9, .slice none 0 0), (10, .bool false), (11, .int .i64 1), (12, .int .i64 1), (13, .slice none 0 0), (14, .bool false), (37, .bool false), (45, .bool false), (48, .bool false), (64, .bool false), (69, .bool false), (72, .bool false)])) (H1 := [some ⟨[], 52, false, true⟩]) (by kernel_rfl) ?_
  refine kSeq ?_
  refine cRet ?_
  exact endQ (Or.inr rfl) (l := [.bool true]) [some ⟨[], 52, false, true⟩] (by kernel_rfl) (rfl) rfl rfl hcl rfl

set_option maxRecDepth 100000 in
set_option maxHeartbeats 4000000 in
theorem specBoxPiece_big (X Y Z : Nat) (hX0 : 1 ≤ X) (hX : X ≤ 4) (hY0 : 1 ≤ Y) (hY : Y ≤ 4) (hZ0 : 1 ≤ Z) (hZ : Z ≤ 4) (hb : 5 < X * Y * Z) : Sound Try.prog 23 [.int .i64 ((X : Nat) : Int), .int .i64 ((Y : Nat) : Int), .int .i64 ((Z : Nat) : Int)] [] (.tuple #[.slice (some ⟨0, 0, none⟩) 0 0, .bool false]) [some ⟨[], 52, false, true⟩] := by
  refine sound_intro (C := cx) Try.func23 rfl (by kernel_rfl) fun hcl => ?_
  have hsz := size_le hX hY hZ
  refine cSeq ?_
  refine cReg ?_
  refine segEnd [0, 1, 2, 6, 7] (T1 := (mkT 27 [(0, .int .i64 ((X : Nat) : Int)), (1, .int .i64 ((Y : Nat) : Int)), (2, .int .i64 ((Z : Nat) : Int)), (6, .slice none 0 0), (7, .bool false)])) (H1 := []) (by kernel_rfl) ?_
  refine kSeq ?_
  refine cSeq ?_
  refine cSeq ?_
  refine cReg ?_
  refine seg 3 (T1 := (mkT 27 [(0, .int .i64 ((X : Nat) : Int)), (1, .int .i64 ((Y : Nat) : Int)), (2, .int .i64 ((Z : Nat) : Int)), (6, .slice none 0 0), (7, .bool false), (8, .int .i64 ((X : Nat) : Int)), (9, .int .i64 ((Y : Nat) : Int)), (10, .int .i64 ((Z : Nat) : Int))])) (H1 := []) (by kernel_rfl) ?_
  refine rCall (v := .bool true) (H' := []) (args := [.int .i64 ((X : Nat) : Int), .int .i64 ((Y : Nat) : Int), .int .i64 ((Z : Nat) : Int)]) (by kernel_rfl) rfl (by kernel_rfl) ((by have h := (sides_ok ((X : Nat) : Int) ((Y : Nat) : Int) ((Z : Nat) : Int)).flat rfl rfl []; rw [valid_nat hX0 hX hY0 hY hZ0 hZ] at h; exact h)) ?_
  refine seg 4 (T1 := (mkT 27 [(0, .int .i64 ((X : Nat) : Int)), (1, .int .i64 ((Y : Nat) : Int)), (2, .int .i64 ((Z : Nat) : Int)), (6, .slice none 0 0), (7, .bool false), (8, .int .i64 ((X : Nat) : Int)), (9, .int .i64 ((Y : Nat) : Int)), (10, .int .i64 ((Z : Nat) : Int)), (11, .bool true), (12, .bool false), (13, .bool false), (14, .int .i64 ((X : Nat) : Int)), (15, .int .i64 ((Y : Nat) : Int))])) (H1 := []) (by kernel_rfl) ?_
  refine rOp (v := .int .i64 ((X * Y : Nat) : Int)) (H' := []) (by kernel_rfl) (eMul (k := .i64) (a := ((X : Nat) : Int)) (b := ((Y : Nat) : Int)) (c := ((X * Y : Nat) : Int)) (by kernel_rfl) (by kernel_rfl) (nMul (by omega))) ?_
  refine seg 1 (T1 := (mkT 27 [(0, .int .i64 ((X : Nat) : Int)), (1, .int .i64 ((Y : Nat) : Int)), (2, .int .i64 ((Z : Nat) : Int)), (6, .slice none 0 0), (7, .bool false), (8, .int .i64 ((X : Nat) : Int)), (9, .int .i64 ((Y : Nat) : Int)), (10, .int .i64 ((Z : Nat) : Int)), (11, .bool true), (12, .bool false), (13, .bool false), (14, .int .i64 ((X : Nat) : Int)), (15, .int .i64 ((Y : Nat) : Int)), (16, .int .i64 ((X * Y : Nat) : Int)), (17, .int .i64 ((Z : Nat) : Int))])) (H1 := []) (by kernel_rfl) ?_
  refine rOp (v := .int .i64 (((X * Y) * Z : Nat) : Int)) (H' := []) (by kernel_rfl) (eMul (k := .i64) (a := ((X * Y : Nat) : Int)) (b := ((Z : Nat) : Int)) (c := (((X * Y) * Z : Nat) : Int)) (by kernel_rfl) (by kernel_rfl) (nMul (by omega))) ?_
  refine segEnd [0, 1, 2, 6, 7, 20] (T1 := (mkT 27 [(0, .int .i64 ((X : Nat) : Int)), (1, .int .i64 ((Y : Nat) : Int)), (2, .int .i64 ((Z : Nat) : Int)), (6, .slice none 0 0), (7, .bool false), (20, .bool (decide ((((X * Y) * Z : Nat) : Int) > 5)))])) (H1 := []) (by kernel_rfl) ?_
  refine kSeq ?_
  cases h1 : (decide ((((X * Y) * Z : Nat) : Int) > 5) : Bool)
  ·
    (try simp only [Bool.not_eq_true', Bool.not_eq_false', decide_eq_true_eq, decide_eq_false_iff_not, beq_iff_eq, bne_iff_ne, beq_eq_false_iff_ne, bne_eq_false_iff_eq, ne_eq, Decidable.not_not, Bool.and_eq_true, Bool.and_eq_false_imp, Bool.or_eq_true, Bool.or_eq_false_iff, Bool.not_eq_true, Int.not_lt, Int.not_le, ge_iff_le, gt_iff_lt] at h1)
    exfalso; omega
  ·
    (try simp only [Bool.not_eq_true', Bool.not_eq_false', decide_eq_true_eq, decide_eq_false_iff_not, beq_iff_eq, bne_iff_ne, beq_eq_false_iff_ne, bne_eq_false_iff_eq, ne_eq, Decidable.not_not, Bool.and_eq_true, Bool.and_eq_false_imp, Bool.or_eq_true, Bool.or_eq_false_iff, Bool.not_eq_true, Int.not_lt, Int.not_le, ge_iff_le, gt_iff_lt] at h1)
    refine cTrue (by kernel_rfl) ?_
    refine cSeq ?_
    refine cReg ?_
    refine segEnd [0, 1, 2, 6, 7, 20] (T1 := (mkT 27 [(0, .int .i64 ((X : Nat) : Int)), (1, .int .i64 ((Y : Nat) : Int)), (2, .int .i64 ((Z : Nat) : Int)), (6, .slice (some ⟨0, 0, none⟩) 0 0), (7, .bool false), (20, .bool true)])) (H1 := [some ⟨[], 52, false, true⟩]) (by kernel_rfl) ?_
    refine kSeq ?_
    refine cRet ?_
    refine kSeqR ?_
    exact endF (Or.inr rfl) (l := [.slice (some ⟨0, 0, none⟩) 0 0, .bool false]) [0] (by kernel_rfl) (by first | rfl | simp [packR, mpV, mpA, mpS, mpP, renId]) ⟨rrX rfl rfl, trivial⟩ rfl rfl

set_option maxRecDepth 100000 in
set_option maxHeartbeats 4000000 in
theorem implBoxPiece_big (X Y Z : Nat) (hX0 : 1 ≤ X) (hX : X ≤ 4) (hY0 : 1 ≤ Y) (hY : Y ≤ 4) (hZ0 : 1 ≤ Z) (hZ : Z ≤ 4) (hb : 5 < X * Y * Z) : Sound Try.prog 24 [.int .i64 ((X : Nat) : Int), .int .i64 ((Y : Nat) : Int), .int .i64 ((Z : Nat) : Int)] [] (.tuple #[.slice none 0 0, .bool false]) [] := by
  refine sound_intro (C := cx) Try.func24 rfl (by kernel_rfl) fun hcl => ?_
  have hsz := size_le hX hY hZ
  refine cSeq ?_
  refine cReg ?_
  refine segEnd [0, 1, 2, 6, 7] (T1 := (mkT 25 [(0, .int .i64 ((X : Nat) : Int)), (1, .int .i64 ((Y : Nat) : Int)), (2, .int .i64 ((Z : Nat) : Int)), (6, .slice none 0 0), (7, .bool false)])) (H1 := []) (by kernel_rfl) ?_
  refine kSeq ?_
  refine cSeq ?_
  refine cReg ?_
  refine segEnd [0, 1, 2, 6, 7, 8] (T1 := (mkT 25 [(0, .int .i64 ((X : Nat) : Int)), (1, .int .i64 ((Y : Nat) : Int)), (2, .int .i64 ((Z : Nat) : Int)), (6, .slice none 0 0), (7, .bool false), (8, .pointer (some ⟨0, 0, none⟩))])) (H1 := [some ⟨[.int .i64 ((X : Nat) : Int), .int .i64 ((Y : Nat) : Int), .int .i64 ((Z : Nat) : Int)], 53, true, true⟩]) (by kernel_rfl) ?_
  refine kSeq ?_
  refine cSeq ?_
  refine cSeq ?_
  refine cReg ?_
  refine seg 1 (T1 := (mkT 25 [(0, .int .i64 ((X : Nat) : Int)), (1, .int .i64 ((Y : Nat) : Int)), (2, .int .i64 ((Z : Nat) : Int)), (6, .slice none 0 0), (7, .bool false), (8, .pointer (some ⟨0, 0, none⟩)), (13, .agg #[.int .i64 ((X : Nat) : Int), .int .i64 ((Y : Nat) : Int), .int .i64 ((Z : Nat) : Int)])])) (H1 := [some ⟨[.int .i64 ((X : Nat) : Int), .int .i64 ((Y : Nat) : Int), .int .i64 ((Z : Nat) : Int)], 53, true, true⟩]) (by kernel_rfl) ?_
  refine rCall (v := .bool true) (H' := [some ⟨[.int .i64 ((X : Nat) : Int), .int .i64 ((Y : Nat) : Int), .int .i64 ((Z : Nat) : Int)], 53, true, true⟩]) (args := [.agg #[.int .i64 ((X : Nat) : Int), .int .i64 ((Y : Nat) : Int), .int .i64 ((Z : Nat) : Int)]]) (by kernel_rfl) rfl (by kernel_rfl) ((by have h := (valid_ok ((X : Nat) : Int) ((Y : Nat) : Int) ((Z : Nat) : Int)).flat rfl rfl [some ⟨[.int .i64 ((X : Nat) : Int), .int .i64 ((Y : Nat) : Int), .int .i64 ((Z : Nat) : Int)], 53, true, true⟩]; rw [valid_nat hX0 hX hY0 hY hZ0 hZ] at h; exact h)) ?_
  refine seg 3 (T1 := (mkT 25 [(0, .int .i64 ((X : Nat) : Int)), (1, .int .i64 ((Y : Nat) : Int)), (2, .int .i64 ((Z : Nat) : Int)), (6, .slice none 0 0), (7, .bool false), (8, .pointer (some ⟨0, 0, none⟩)), (13, .agg #[.int .i64 ((X : Nat) : Int), .int .i64 ((Y : Nat) : Int), .int .i64 ((Z : Nat) : Int)]), (14, .bool true), (15, .bool false), (16, .bool false), (17, .agg #[.int .i64 ((X : Nat) : Int), .int .i64 ((Y : Nat) : Int), .int .i64 ((Z : Nat) : Int)])])) (H1 := [some ⟨[.int .i64 ((X : Nat) : Int), .int .i64 ((Y : Nat) : Int), .int .i64 ((Z : Nat) : Int)], 53, true, true⟩]) (by kernel_rfl) ?_
  refine rCall (v := .int .i64 ((X * Y * Z : Nat) : Int)) (H' := [some ⟨[.int .i64 ((X : Nat) : Int), .int .i64 ((Y : Nat) : Int), .int .i64 ((Z : Nat) : Int)], 53, true, true⟩]) (args := [.agg #[.int .i64 ((X : Nat) : Int), .int .i64 ((Y : Nat) : Int), .int .i64 ((Z : Nat) : Int)]]) (by kernel_rfl) rfl (by kernel_rfl) ((size_ok X Y Z (by omega) (by omega) (by omega)).flat rfl rfl _) ?_
  refine segEnd [0, 1, 2, 6, 7, 8, 20] (T1 := (mkT 25 [(0, .int .i64 ((X : Nat) : Int)), (1, .int .i64 ((Y : Nat) : Int)), (2, .int .i64 ((Z : Nat) : Int)), (6, .slice none 0 0), (7, .bool false), (8, .pointer (some ⟨0, 0, none⟩)), (20, .bool (decide (((X * Y * Z : Nat) : Int) > 5)))])) (H1 := [some ⟨[.int .i64 ((X : Nat) : Int), .int .i64 ((Y : Nat) : Int), .int .i64 ((Z : Nat) : Int)], 53, true, true⟩]) (by kernel_rfl) ?_
  refine kSeq ?_
  cases h1 : (decide (((X * Y * Z : Nat) : Int) > 5) : Bool)
  ·
    (try simp only [Bool.not_eq_true', Bool.not_eq_false', decide_eq_true_eq, decide_eq_false_iff_not, beq_iff_eq, bne_iff_ne, beq_eq_false_iff_ne, bne_eq_false_iff_eq, ne_eq, Decidable.not_not, Bool.and_eq_true, Bool.and_eq_false_imp, Bool.or_eq_true, Bool.or_eq_false_iff, Bool.not_eq_true, Int.not_lt, Int.not_le, ge_iff_le, gt_iff_lt] at h1)
    exfalso; omega
  ·
    (try simp only [Bool.not_eq_true', Bool.not_eq_false', decide_eq_true_eq, decide_eq_false_iff_not, beq_iff_eq, bne_iff_ne, beq_eq_false_iff_ne, bne_eq_false_iff_eq, ne_eq, Decidable.not_not, Bool.and_eq_true, Bool.and_eq_false_imp, Bool.or_eq_true, Bool.or_eq_false_iff, Bool.not_eq_true, Int.not_lt, Int.not_le, ge_iff_le, gt_iff_lt] at h1)
    refine cTrue (by kernel_rfl) ?_
    refine cSeq ?_
    refine cReg ?_
    refine segEnd [0, 1, 2, 6, 7, 8, 20] (T1 := (mkT 25 [(0, .int .i64 ((X : Nat) : Int)), (1, .int .i64 ((Y : Nat) : Int)), (2, .int .i64 ((Z : Nat) : Int)), (6, .slice none 0 0), (7, .bool false), (8, .pointer (some ⟨0, 0, none⟩)), (20, .bool true)])) (H1 := [some ⟨[.int .i64 ((X : Nat) : Int), .int .i64 ((Y : Nat) : Int), .int .i64 ((Z : Nat) : Int)], 53, true, true⟩]) (by kernel_rfl) ?_
    refine kSeq ?_
    refine cRet ?_
    refine kSeqR ?_
    exact endQ (Or.inr rfl) (l := [.slice none 0 0, .bool false]) [some ⟨[.int .i64 ((X : Nat) : Int), .int .i64 ((Y : Nat) : Int), .int .i64 ((Z : Nat) : Int)], 53, true, true⟩] (by kernel_rfl) (rfl) rfl rfl hcl rfl

set_option maxRecDepth 100000 in
set_option maxHeartbeats 4000000 in
theorem lawBoxPiece_big (X Y Z : Nat) (hX0 : 1 ≤ X) (hX : X ≤ 4) (hY0 : 1 ≤ Y) (hY : Y ≤ 4) (hZ0 : 1 ≤ Z) (hZ : Z ≤ 4) (hb : 5 < X * Y * Z) : Sound Try.prog 8 [.int .i64 ((X : Nat) : Int), .int .i64 ((Y : Nat) : Int), .int .i64 ((Z : Nat) : Int)] [] (.bool true) [] := by
  refine sound_intro (C := cx) Try.func8 rfl (by kernel_rfl) fun hcl => ?_
  have hsz := size_le hX hY hZ
  refine cSeq ?_
  refine cReg ?_
  refine segEnd [0, 1, 2, 6] (T1 := (mkT 73 [(0, .int .i64 ((X : Nat) : Int)), (1, .int .i64 ((Y : Nat) : Int)), (2, .int .i64 ((Z : Nat) : Int)), (6, .bool false)])) (H1 := []) (by kernel_rfl) ?_
  refine kSeq ?_
  refine cSeq ?_
  refine cReg ?_
  refine seg 3 (T1 := (mkT 73 [(0, .int .i64 ((X : Nat) : Int)), (1, .int .i64 ((Y : Nat) : Int)), (2, .int .i64 ((Z : Nat) : Int)), (6, .bool false), (16, .int .i64 ((X : Nat) : Int)), (17, .int .i64 ((Y : Nat) : Int)), (18, .int .i64 ((Z : Nat) : Int))])) (H1 := []) (by kernel_rfl) ?_
  refine rCall (v := .tuple #[.slice (some ⟨0, 0, none⟩) 0 0, .bool false]) (H' := [some ⟨[], 52, false, true⟩]) (args := [.int .i64 ((X : Nat) : Int), .int .i64 ((Y : Nat) : Int), .int .i64 ((Z : Nat) : Int)]) (by kernel_rfl) rfl (by kernel_rfl) ((specBoxPiece_big X Y Z hX0 hX hY0 hY hZ0 hZ hb).fresh rfl (FlatH.nil.cons (flatRow_of rfl)) (fun r h => by simp at h; subst h; exact Or.inl rfl) _ (by first | rfl | simp [mpV, mpA, mpS, mpP, renId, shift])) ?_
  refine segEnd [0, 1, 2, 6, 7, 8] (T1 := (mkT 73 [(0, .int .i64 ((X : Nat) : Int)), (1, .int .i64 ((Y : Nat) : Int)), (2, .int .i64 ((Z : Nat) : Int)), (6, .bool false), (7, .slice (some ⟨0, 0, none⟩) 0 0), (8, .bool false)])) (H1 := [some ⟨[], 52, false, true⟩]) (by kernel_rfl) ?_
  refine kSeq ?_
  refine cSeq ?_
  refine cReg ?_
  refine seg 3 (T1 := (mkT 73 [(0, .int .i64 ((X : Nat) : Int)), (1, .int .i64 ((Y : Nat) : Int)), (2, .int .i64 ((Z : Nat) : Int)), (6, .bool false), (7, .slice (some ⟨0, 0, none⟩) 0 0), (8, .bool false), (23, .int .i64 ((X : Nat) : Int)), (24, .int .i64 ((Y : Nat) : Int)), (25, .int .i64 ((Z : Nat) : Int))])) (H1 := [some ⟨[], 52, false, true⟩]) (by kernel_rfl) ?_
  refine rCall (v := .tuple #[.slice none 0 0, .bool false]) (H' := [some ⟨[], 52, false, true⟩]) (args := [.int .i64 ((X : Nat) : Int), .int .i64 ((Y : Nat) : Int), .int .i64 ((Z : Nat) : Int)]) (by kernel_rfl) rfl (by kernel_rfl) ((implBoxPiece_big X Y Z hX0 hX hY0 hY hZ0 hZ hb).flat rfl rfl _) ?_
  refine segEnd [0, 1, 2, 6, 7, 8, 9, 10] (T1 := (mkT 73 [(0, .int .i64 ((X : Nat) : Int)), (1, .int .i64 ((Y : Nat) : Int)), (2, .int .i64 ((Z : Nat) : Int)), (6, .bool false), (7, .slice (some ⟨0, 0, none⟩) 0 0), (8, .bool false), (9, .slice none 0 0), (10, .bool false)])) (H1 := [some ⟨[], 52, false, true⟩]) (by kernel_rfl) ?_
  refine kSeq ?_
  refine cSeq ?_
  refine cSeq ?_
  refine cReg ?_
  refine seg 2 (T1 := (mkT 73 [(0, .int .i64 ((X : Nat) : Int)), (1, .int .i64 ((Y : Nat) : Int)), (2, .int .i64 ((Z : Nat) : Int)), (6, .bool false), (7, .slice (some ⟨0, 0, none⟩) 0 0), (8, .bool false), (9, .slice none 0 0), (10, .bool false), (29, .slice none 0 0), (30, .slice (some ⟨0, 0, none⟩) 0 0)])) (H1 := [some ⟨[], 52, false, true⟩]) (by kernel_rfl) ?_
  refine rCall (v := .bool true) (H' := [some ⟨[], 52, false, true⟩]) (args := [.slice none 0 0, .slice (some ⟨0, 0, none⟩) 0 0]) (by kernel_rfl) rfl (by kernel_rfl) (Sound.reads1 (args0 := [.slice none 0 0, .slice (some ⟨0, 0, none⟩) 0 0]) (r := ⟨[], 52, false, false⟩) 0 true (exF_sound (C := cx) told_none 8 25 [.slice none 0 0, .slice (some ⟨0, 0, none⟩) 0 0] [some ⟨[], 52, false, false⟩] (.bool true) [some ⟨[], 52, false, false⟩] (by kernel_rfl)) (flatRow_of rfl) rfl rfl rfl rfl rfl) ?_
  refine segEnd [0, 1, 2, 6, 7, 8, 9, 10, 37] (T1 := (mkT 73 [(0, .int .i64 ((X : Nat) : Int)), (1, .int .i64 ((Y : Nat) : Int)), (2, .int .i64 ((Z : Nat) : Int)), (6, .bool false), (7, .slice (some ⟨0, 0, none⟩) 0 0), (8, .bool false), (9, .slice none 0 0), (10, .bool false), (37, .bool false)])) (H1 := [some ⟨[], 52, false, true⟩]) (by kernel_rfl) ?_
  refine kSeq ?_
  refine cFalse (by kernel_rfl) ?_
  refine cSkip ?_
  refine kSeq ?_
  refine cSeq ?_
  refine cReg ?_
  refine segEnd [0, 1, 2, 6, 7, 8, 9, 10, 11, 37] (T1 := (mkT 73 [(0, .int .i64 ((X : Nat) : Int)), (1, .int .i64 ((Y : Nat) : Int)), (2, .int .i64 ((Z : Nat) : Int)), (6, .bool false), (7, .slice (some ⟨0, 0, none⟩) 0 0), (8, .bool false), (9, .slice none 0 0), (10, .bool false), (11, .int .i64 1), (37, .bool false)])) (H1 := [some ⟨[], 52, false, true⟩]) (by kernel_rfl) ?_
  refine kSeq ?_
  refine cSeq ?_
  refine cReg ?_
  refine seg 2 (T1 := (mkT 73 [(0, .int .i64 ((X : Nat) : Int)), (1, .int .i64 ((Y : Nat) : Int)), (2, .int .i64 ((Z : Nat) : Int)), (6, .bool false), (7, .slice (some ⟨0, 0, none⟩) 0 0), (8, .bool false), (9, .slice none 0 0), (10, .bool false), (11, .int .i64 1), (37, .bool false), (38, .slice none 0 0), (39, .int .i64 1)])) (H1 := [some ⟨[], 52, false, true⟩]) (by kernel_rfl) ?_
  refine rCall (v := .int .i64 1) (H' := [some ⟨[], 52, false, true⟩]) (args := [.slice none 0 0, .int .i64 1]) (by kernel_rfl) rfl (by kernel_rfl) ((exF_sound (C := cx) told_none 8 26 _ _ _ _ (by kernel_rfl)).flat rfl rfl _) ?_
  refine segEnd [0, 1, 2, 6, 7, 8, 9, 10, 11, 37] (T1 := (mkT 73 [(0, .int .i64 ((X : Nat) : Int)), (1, .int .i64 ((Y : Nat) : Int)), (2, .int .i64 ((Z : Nat) : Int)), (6, .bool false), (7, .slice (some ⟨0, 0, none⟩) 0 0), (8, .bool false), (9, .slice none 0 0), (10, .bool false), (11, .int .i64 1), (37, .bool false)])) (H1 := [some ⟨[], 52, false, true⟩]) (by kernel_rfl) ?_
  refine kSeq ?_
  refine cSeq ?_
  refine cReg ?_
  refine segEnd [0, 1, 2, 6, 7, 8, 9, 10, 11, 12, 37] (T1 := (mkT 73 [(0, .int .i64 ((X : Nat) : Int)), (1, .int .i64 ((Y : Nat) : Int)), (2, .int .i64 ((Z : Nat) : Int)), (6, .bool false), (7, .slice (some ⟨0, 0, none⟩) 0 0), (8, .bool false), (9, .slice none 0 0), (10, .bool false), (11, .int .i64 1), (12, .int .i64 1), (37, .bool false)])) (H1 := [some ⟨[], 52, false, true⟩]) (by kernel_rfl) ?_
  refine kSeq ?_
  refine cSeq ?_
  refine cReg ?_
  refine seg 2 (T1 := (mkT 73 [(0, .int .i64 ((X : Nat) : Int)), (1, .int .i64 ((Y : Nat) : Int)), (2, .int .i64 ((Z : Nat) : Int)), (6, .bool false), (7, .slice (some ⟨0, 0, none⟩) 0 0), (8, .bool false), (9, .slice none 0 0), (10, .bool false), (11, .int .i64 1), (12, .int .i64 1), (37, .bool false), (41, .slice none 0 0), (42, .int .i64 1)])) (H1 := [some ⟨[], 52, false, true⟩]) (by kernel_rfl) ?_
  refine rCall (v := .int .i64 1) (H' := [some ⟨[], 52, false, true⟩]) (args := [.slice none 0 0, .int .i64 1]) (by kernel_rfl) rfl (by kernel_rfl) ((exF_sound (C := cx) told_none 8 27 _ _ _ _ (by kernel_rfl)).flat rfl rfl _) ?_
  refine segEnd [0, 1, 2, 6, 7, 8, 9, 10, 11, 12, 37] (T1 := (mkT 73 [(0, .int .i64 ((X : Nat) : Int)), (1, .int .i64 ((Y : Nat) : Int)), (2, .int .i64 ((Z : Nat) : Int)), (6, .bool false), (7, .slice (some ⟨0, 0, none⟩) 0 0), (8, .bool false), (9, .slice none 0 0), (10, .bool false), (11, .int .i64 1), (12, .int .i64 1), (37, .bool false)])) (H1 := [some ⟨[], 52, false, true⟩]) (by kernel_rfl) ?_
  refine kSeq ?_
  refine cSeq ?_
  refine cSeq ?_
  refine cReg ?_
  refine segEnd [0, 1, 2, 6, 7, 8, 9, 10, 11, 12, 37, 45] (T1 := (mkT 73 [(0, .int .i64 ((X : Nat) : Int)), (1, .int .i64 ((Y : Nat) : Int)), (2, .int .i64 ((Z : Nat) : Int)), (6, .bool false), (7, .slice (some ⟨0, 0, none⟩) 0 0), (8, .bool false), (9, .slice none 0 0), (10, .bool false), (11, .int .i64 1), (12, .int .i64 1), (37, .bool false), (45, .bool false)])) (H1 := [some ⟨[], 52, false, true⟩]) (by kernel_rfl) ?_
  refine kSeq ?_
  refine cFalse (by kernel_rfl) ?_
  refine cSkip ?_
  refine kSeq ?_
  refine cSeq ?_
  refine cSeq ?_
  refine cReg ?_
  refine segEnd [0, 1, 2, 6, 7, 8, 9, 10, 11, 12, 37, 45, 48] (T1 := (mkT 73 [(0, .int .i64 ((X : Nat) : Int)), (1, .int .i64 ((Y : Nat) : Int)), (2, .int .i64 ((Z : Nat) : Int)), (6, .bool false), (7, .slice (some ⟨0, 0, none⟩) 0 0), (8, .bool false), (9, .slice none 0 0), (10, .bool false), (11, .int .i64 1), (12, .int .i64 1), (37, .bool false), (45, .bool false), (48, .bool false)])) (H1 := [some ⟨[], 52, false, true⟩]) (by kernel_rfl) ?_
  refine kSeq ?_
  refine cFalse (by kernel_rfl) ?_
  refine cSkip ?_
  refine kSeq ?_
  refine cSeq ?_
  refine cReg ?_
  refine seg 3 (T1 := (mkT 73 [(0, .int .i64 ((X : Nat) : Int)), (1, .int .i64 ((Y : Nat) : Int)), (2, .int .i64 ((Z : Nat) : Int)), (6, .bool false), (7, .slice (some ⟨0, 0, none⟩) 0 0), (8, .bool false), (9, .slice none 0 0), (10, .bool false), (11, .int .i64 1), (12, .int .i64 1), (37, .bool false), (45, .bool false), (48, .bool false), (50, .int .i64 ((X : Nat) : Int)), (51, .int .i64 ((Y : Nat) : Int)), (52, .int .i64 ((Z : Nat) : Int))])) (H1 := [some ⟨[], 52, false, true⟩]) (by kernel_rfl) ?_
  refine rCall (v := .tuple #[.slice none 0 0, .bool false]) (H' := [some ⟨[], 52, false, true⟩]) (args := [.int .i64 ((X : Nat) : Int), .int .i64 ((Y : Nat) : Int), .int .i64 ((Z : Nat) : Int)]) (by kernel_rfl) rfl (by kernel_rfl) ((implBoxPiece_big X Y Z hX0 hX hY0 hY hZ0 hZ hb).flat rfl rfl _) ?_
  refine segEnd [0, 1, 2, 6, 7, 8, 9, 10, 11, 12, 13, 14, 37, 45, 48] (T1 := (mkT 73 [(0, .int .i64 ((X : Nat) : Int)), (1, .int .i64 ((Y : Nat) : Int)), (2, .int .i64 ((Z : Nat) : Int)), (6, .bool false), (7, .slice (some ⟨0, 0, none⟩) 0 0), (8, .bool false), (9, .slice none 0 0), (10, .bool false), (11, .int .i64 1), (12, .int .i64 1), (13, .slice none 0 0), (14, .bool false), (37, .bool false), (45, .bool false), (48, .bool false)])) (H1 := [some ⟨[], 52, false, true⟩]) (by kernel_rfl) ?_
  refine kSeq ?_
  refine cSeq ?_
  refine cSeq ?_
  refine cReg ?_
  refine seg 2 (T1 := (mkT 73 [(0, .int .i64 ((X : Nat) : Int)), (1, .int .i64 ((Y : Nat) : Int)), (2, .int .i64 ((Z : Nat) : Int)), (6, .bool false), (7, .slice (some ⟨0, 0, none⟩) 0 0), (8, .bool false), (9, .slice none 0 0), (10, .bool false), (11, .int .i64 1), (12, .int .i64 1), (13, .slice none 0 0), (14, .bool false), (37, .bool false), (45, .bool false), (48, .bool false), (56, .slice none 0 0), (57, .slice (some ⟨0, 0, none⟩) 0 0)])) (H1 := [some ⟨[], 52, false, true⟩]) (by kernel_rfl) ?_
  refine rCall (v := .bool true) (H' := [some ⟨[], 52, false, true⟩]) (args := [.slice none 0 0, .slice (some ⟨0, 0, none⟩) 0 0]) (by kernel_rfl) rfl (by kernel_rfl) (Sound.reads1 (args0 := [.slice none 0 0, .slice (some ⟨0, 0, none⟩) 0 0]) (r := ⟨[], 52, false, false⟩) 0 true (exF_sound (C := cx) told_none 8 25 [.slice none 0 0, .slice (some ⟨0, 0, none⟩) 0 0] [some ⟨[], 52, false, false⟩] (.bool true) [some ⟨[], 52, false, false⟩] (by kernel_rfl)) (flatRow_of rfl) rfl rfl rfl rfl rfl) ?_
  refine segEnd [0, 1, 2, 6, 7, 8, 9, 10, 11, 12, 13, 14, 37, 45, 48, 64] (T1 := (mkT 73 [(0, .int .i64 ((X : Nat) : Int)), (1, .int .i64 ((Y : Nat) : Int)), (2, .int .i64 ((Z : Nat) : Int)), (6, .bool false), (7, .slice (some ⟨0, 0, none⟩) 0 0), (8, .bool false), (9, .slice none 0 0), (10, .bool false), (11, .int .i64 1), (12, .int .i64 1), (13, .slice none 0 0), (14, .bool false), (37, .bool false), (45, .bool false), (48, .bool false), (64, .bool false)])) (H1 := [some ⟨[], 52, false, true⟩]) (by kernel_rfl) ?_
  refine kSeq ?_
  refine cFalse (by kernel_rfl) ?_
  refine cSkip ?_
  refine kSeq ?_
  refine cSeq ?_
  refine cReg ?_
  refine segEnd [0, 1, 2, 6, 7, 8, 9, 10, 11, 12, 13, 14, 37, 45, 48, 64] (T1 := (mkT 73 [(0, .int .i64 ((X : Nat) : Int)), (1, .int .i64 ((Y : Nat) : Int)), (2, .int .i64 ((Z : Nat) : Int)), (6, .bool false), (7, .slice (some ⟨0, 0, none⟩) 0 0), (8, .bool false), (9, .slice none 0 0), (10, .bool false), (11, .int .i64 1), (12, .int .i64 1), (13, .slice none 0 0), (14, .bool false), (37, .bool false), (45, .bool false), (48, .bool false), (64, .bool false)])) (H1 := [some ⟨[], 52, false, true⟩]) (by kernel_rfl) ?_
  refine kSeq ?_
  refine cSeq ?_
  refine cReg ?_
  refine seg 2 (T1 := (mkT 73 [(0, .int .i64 ((X : Nat) : Int)), (1, .int .i64 ((Y : Nat) : Int)), (2, .int .i64 ((Z : Nat) : Int)), (6, .bool false), (7, .slice (some ⟨0, 0, none⟩) 0 0), (8, .bool false), (9, .slice none 0 0), (10, .bool false), (11, .int .i64 1), (12, .int .i64 1), (13, .slice none 0 0), (14, .bool false), (37, .bool false), (45, .bool false), (48, .bool false), (64, .bool false), (65, .slice none 0 0), (66, .int .i64 1)])) (H1 := [some ⟨[], 52, false, true⟩]) (by kernel_rfl) ?_
  refine rCall (v := .int .i64 1) (H' := [some ⟨[], 52, false, true⟩]) (args := [.slice none 0 0, .int .i64 1]) (by kernel_rfl) rfl (by kernel_rfl) ((exF_sound (C := cx) told_none 8 27 _ _ _ _ (by kernel_rfl)).flat rfl rfl _) ?_
  refine segEnd [0, 1, 2, 6, 7, 8, 9, 10, 11, 12, 13, 14, 37, 45, 48, 64] (T1 := (mkT 73 [(0, .int .i64 ((X : Nat) : Int)), (1, .int .i64 ((Y : Nat) : Int)), (2, .int .i64 ((Z : Nat) : Int)), (6, .bool false), (7, .slice (some ⟨0, 0, none⟩) 0 0), (8, .bool false), (9, .slice none 0 0), (10, .bool false), (11, .int .i64 1), (12, .int .i64 1), (13, .slice none 0 0), (14, .bool false), (37, .bool false), (45, .bool false), (48, .bool false), (64, .bool false)])) (H1 := [some ⟨[], 52, false, true⟩]) (by kernel_rfl) ?_
  refine kSeq ?_
  refine cSeq ?_
  refine cSeq ?_
  refine cReg ?_
  refine segEnd [0, 1, 2, 6, 7, 8, 9, 10, 11, 12, 13, 14, 37, 45, 48, 64, 69] (T1 := (mkT 73 [(0, .int .i64 ((X : Nat) : Int)), (1, .int .i64 ((Y : Nat) : Int)), (2, .int .i64 ((Z : Nat) : Int)), (6, .bool false), (7, .slice (some ⟨0, 0, none⟩) 0 0), (8, .bool false), (9, .slice none 0 0), (10, .bool false), (11, .int .i64 1), (12, .int .i64 1), (13, .slice none 0 0), (14, .bool false), (37, .bool false), (45, .bool false), (48, .bool false), (64, .bool false), (69, .bool false)])) (H1 := [some ⟨[], 52, false, true⟩]) (by kernel_rfl) ?_
  refine kSeq ?_
  refine cFalse (by kernel_rfl) ?_
  refine cSkip ?_
  refine kSeq ?_
  refine cSeq ?_
  refine cSeq ?_
  refine cReg ?_
  refine segEnd [0, 1, 2, 6, 7, 8, 9, 10, 11, 12, 13, 14, 37, 45, 48, 64, 69, 72] (T1 := (mkT 73 [(0, .int .i64 ((X : Nat) : Int)), (1, .int .i64 ((Y : Nat) : Int)), (2, .int .i64 ((Z : Nat) : Int)), (6, .bool false), (7, .slice (some ⟨0, 0, none⟩) 0 0), (8, .bool false), (9, .slice none 0 0), (10, .bool false), (11, .int .i64 1), (12, .int .i64 1), (13, .slice none 0 0), (14, .bool false), (37, .bool false), (45, .bool false), (48, .bool false), (64, .bool false), (69, .bool false), (72, .bool false)])) (H1 := [some ⟨[], 52, false, true⟩]) (by kernel_rfl) ?_
  refine kSeq ?_
  refine cFalse (by kernel_rfl) ?_
  refine cSkip ?_
  refine kSeq ?_
  refine cSeq ?_
  refine cReg ?_
  refine segEnd [0, 1, 2, 6, 7, 8, 9, 10, 11, 12, 13, 14, 37, 45, 48, 64, 69, 72] (T1 := (mkT 73 [(0, .int .i64 ((X : Nat) : Int)), (1, .int .i64 ((Y : Nat) : Int)), (2, .int .i64 ((Z : Nat) : Int)), (6, .bool true), (7, .slice (some ⟨0, 0, none⟩) 0 0), (8, .bool false), (9, .slice none 0 0), (10, .bool false), (11, .int .i64 1), (12, .int .i64 1), (13, .slice none 0 0), (14, .bool false), (37, .bool false), (45, .bool false), (48, .bool false), (64, .bool false), (69, .bool false), (72, .bool false)])) (H1 := [some ⟨[], 52, false, true⟩]) (by kernel_rfl) ?_
  refine kSeq ?_
  refine cRet ?_
  exact endQ (Or.inr rfl) (l := [.bool true]) [some ⟨[], 52, false, true⟩] (by kernel_rfl) (rfl) rfl rfl hcl rfl

set_option maxRecDepth 100000 in
set_option maxHeartbeats 4000000 in
theorem specBoxPiece_yes (X Y Z : Nat) (hX0 : 1 ≤ X) (hX : X ≤ 4) (hY0 : 1 ≤ Y) (hY : Y ≤ 4) (hZ0 : 1 ≤ Z) (hZ : Z ≤ 4) (hb : X * Y * Z ≤ 5) : Sound Try.prog 23 [.int .i64 ((X : Nat) : Int), .int .i64 ((Y : Nat) : Int), .int .i64 ((Z : Nat) : Int)] [] (.tuple #[.slice (some ⟨0, 0, none⟩) ((allOf X Y Z).length) 0, .bool true]) [some ⟨a3s (allOf X Y Z), 52, false, true⟩] := by
  refine sound_intro (C := cx) Try.func23 rfl (by kernel_rfl) fun hcl => ?_
  have hsz := size_le hX hY hZ
  refine cSeq ?_
  refine cReg ?_
  refine segEnd [0, 1, 2, 6, 7] (T1 := (mkT 27 [(0, .int .i64 ((X : Nat) : Int)), (1, .int .i64 ((Y : Nat) : Int)), (2, .int .i64 ((Z : Nat) : Int)), (6, .slice none 0 0), (7, .bool false)])) (H1 := []) (by kernel_rfl) ?_
  refine kSeq ?_
  refine cSeq ?_
  refine cSeq ?_
  refine cReg ?_
  refine seg 3 (T1 := (mkT 27 [(0, .int .i64 ((X : Nat) : Int)), (1, .int .i64 ((Y : Nat) : Int)), (2, .int .i64 ((Z : Nat) : Int)), (6, .slice none 0 0), (7, .bool false), (8, .int .i64 ((X : Nat) : Int)), (9, .int .i64 ((Y : Nat) : Int)), (10, .int .i64 ((Z : Nat) : Int))])) (H1 := []) (by kernel_rfl) ?_
  refine rCall (v := .bool true) (H' := []) (args := [.int .i64 ((X : Nat) : Int), .int .i64 ((Y : Nat) : Int), .int .i64 ((Z : Nat) : Int)]) (by kernel_rfl) rfl (by kernel_rfl) ((by have h := (sides_ok ((X : Nat) : Int) ((Y : Nat) : Int) ((Z : Nat) : Int)).flat rfl rfl []; rw [valid_nat hX0 hX hY0 hY hZ0 hZ] at h; exact h)) ?_
  refine seg 4 (T1 := (mkT 27 [(0, .int .i64 ((X : Nat) : Int)), (1, .int .i64 ((Y : Nat) : Int)), (2, .int .i64 ((Z : Nat) : Int)), (6, .slice none 0 0), (7, .bool false), (8, .int .i64 ((X : Nat) : Int)), (9, .int .i64 ((Y : Nat) : Int)), (10, .int .i64 ((Z : Nat) : Int)), (11, .bool true), (12, .bool false), (13, .bool false), (14, .int .i64 ((X : Nat) : Int)), (15, .int .i64 ((Y : Nat) : Int))])) (H1 := []) (by kernel_rfl) ?_
  refine rOp (v := .int .i64 ((X * Y : Nat) : Int)) (H' := []) (by kernel_rfl) (eMul (k := .i64) (a := ((X : Nat) : Int)) (b := ((Y : Nat) : Int)) (c := ((X * Y : Nat) : Int)) (by kernel_rfl) (by kernel_rfl) (nMul (by omega))) ?_
  refine seg 1 (T1 := (mkT 27 [(0, .int .i64 ((X : Nat) : Int)), (1, .int .i64 ((Y : Nat) : Int)), (2, .int .i64 ((Z : Nat) : Int)), (6, .slice none 0 0), (7, .bool false), (8, .int .i64 ((X : Nat) : Int)), (9, .int .i64 ((Y : Nat) : Int)), (10, .int .i64 ((Z : Nat) : Int)), (11, .bool true), (12, .bool false), (13, .bool false), (14, .int .i64 ((X : Nat) : Int)), (15, .int .i64 ((Y : Nat) : Int)), (16, .int .i64 ((X * Y : Nat) : Int)), (17, .int .i64 ((Z : Nat) : Int))])) (H1 := []) (by kernel_rfl) ?_
  refine rOp (v := .int .i64 (((X * Y) * Z : Nat) : Int)) (H' := []) (by kernel_rfl) (eMul (k := .i64) (a := ((X * Y : Nat) : Int)) (b := ((Z : Nat) : Int)) (c := (((X * Y) * Z : Nat) : Int)) (by kernel_rfl) (by kernel_rfl) (nMul (by omega))) ?_
  refine segEnd [0, 1, 2, 6, 7, 20] (T1 := (mkT 27 [(0, .int .i64 ((X : Nat) : Int)), (1, .int .i64 ((Y : Nat) : Int)), (2, .int .i64 ((Z : Nat) : Int)), (6, .slice none 0 0), (7, .bool false), (20, .bool (decide ((((X * Y) * Z : Nat) : Int) > 5)))])) (H1 := []) (by kernel_rfl) ?_
  refine kSeq ?_
  cases h1 : (decide ((((X * Y) * Z : Nat) : Int) > 5) : Bool)
  ·
    (try simp only [Bool.not_eq_true', Bool.not_eq_false', decide_eq_true_eq, decide_eq_false_iff_not, beq_iff_eq, bne_iff_ne, beq_eq_false_iff_ne, bne_eq_false_iff_eq, ne_eq, Decidable.not_not, Bool.and_eq_true, Bool.and_eq_false_imp, Bool.or_eq_true, Bool.or_eq_false_iff, Bool.not_eq_true, Int.not_lt, Int.not_le, ge_iff_le, gt_iff_lt] at h1)
    refine cFalse (by kernel_rfl) ?_
    refine cSkip ?_
    refine kSeq ?_
    refine cSeq ?_
    refine cReg ?_
    refine seg 3 (T1 := (mkT 27 [(0, .int .i64 ((X : Nat) : Int)), (1, .int .i64 ((Y : Nat) : Int)), (2, .int .i64 ((Z : Nat) : Int)), (6, .slice none 0 0), (7, .bool false), (20, .bool false), (22, .int .i64 ((X : Nat) : Int)), (23, .int .i64 ((Y : Nat) : Int)), (24, .int .i64 ((Z : Nat) : Int))])) (H1 := []) (by kernel_rfl) ?_
    refine rCall (v := .agg #[.int .i64 ((X : Nat) : Int), .int .i64 ((Y : Nat) : Int), .int .i64 ((Z : Nat) : Int), .slice (some ⟨0, 0, none⟩) ((allOf X Y Z).length) 0]) (H' := [some ⟨a3s (allOf X Y Z), 52, false, true⟩]) (args := [.int .i64 ((X : Nat) : Int), .int .i64 ((Y : Nat) : Int), .int .i64 ((Z : Nat) : Int)]) (by kernel_rfl) rfl (by kernel_rfl) ((l2Box_ok X Y Z (by omega) (by omega) (by omega) (by omega) (by omega) (by omega)).fresh rfl (FlatH.nil.cons (flatA3 _ _ _ _)) (fun r h => by simp at h; subst h; exact Or.inl rfl) _ (by first | rfl | simp [mpV, mpA, mpS, mpP, renId])) ?_
    refine segEnd [0, 1, 2, 6, 7, 20] (T1 := (mkT 27 [(0, .int .i64 ((X : Nat) : Int)), (1, .int .i64 ((Y : Nat) : Int)), (2, .int .i64 ((Z : Nat) : Int)), (6, .slice (some ⟨0, 0, none⟩) ((allOf X Y Z).length) 0), (7, .bool true), (20, .bool false)])) (H1 := [some ⟨a3s (allOf X Y Z), 52, false, true⟩]) (by kernel_rfl) ?_
    refine kSeq ?_
    refine cRet ?_
    exact endF (Or.inr rfl) (l := [.slice (some ⟨0, 0, none⟩) ((allOf X Y Z).length) 0, .bool true]) [0] (by kernel_rfl) (by first | rfl | simp [packR, mpV, mpA, mpS, mpP, renId]) ⟨rrF (flatA3 _ _ _ _) rfl, trivial⟩ rfl rfl
  ·
    (try simp only [Bool.not_eq_true', Bool.not_eq_false', decide_eq_true_eq, decide_eq_false_iff_not, beq_iff_eq, bne_iff_ne, beq_eq_false_iff_ne, bne_eq_false_iff_eq, ne_eq, Decidable.not_not, Bool.and_eq_true, Bool.and_eq_false_imp, Bool.or_eq_true, Bool.or_eq_false_iff, Bool.not_eq_true, Int.not_lt, Int.not_le, ge_iff_le, gt_iff_lt] at h1)
    exfalso; omega

set_option maxRecDepth 100000 in
set_option maxHeartbeats 4000000 in
theorem implBoxPiece_yes (X Y Z : Nat) (hX0 : 1 ≤ X) (hX : X ≤ 4) (hY0 : 1 ≤ Y) (hY : Y ≤ 4) (hZ0 : 1 ≤ Z) (hZ : Z ≤ 4) (hb : X * Y * Z ≤ 5) : Sound Try.prog 24 [.int .i64 ((X : Nat) : Int), .int .i64 ((Y : Nat) : Int), .int .i64 ((Z : Nat) : Int)] [] (.tuple #[.slice (some ⟨0, 0, none⟩) ((allOf X Y Z).length) 0, .bool true]) [some ⟨a3s (allOf X Y Z), 52, false, true⟩] := by
  refine sound_intro (C := cx) Try.func24 rfl (by kernel_rfl) fun hcl => ?_
  have hsz := size_le hX hY hZ
  refine cSeq ?_
  refine cReg ?_
  refine segEnd [0, 1, 2, 6, 7] (T1 := (mkT 25 [(0, .int .i64 ((X : Nat) : Int)), (1, .int .i64 ((Y : Nat) : Int)), (2, .int .i64 ((Z : Nat) : Int)), (6, .slice none 0 0), (7, .bool false)])) (H1 := []) (by kernel_rfl) ?_
  refine kSeq ?_
  refine cSeq ?_
  refine cReg ?_
  refine segEnd [0, 1, 2, 6, 7, 8] (T1 := (mkT 25 [(0, .int .i64 ((X : Nat) : Int)), (1, .int .i64 ((Y : Nat) : Int)), (2, .int .i64 ((Z : Nat) : Int)), (6, .slice none 0 0), (7, .bool false), (8, .pointer (some ⟨0, 0, none⟩))])) (H1 := [some ⟨[.int .i64 ((X : Nat) : Int), .int .i64 ((Y : Nat) : Int), .int .i64 ((Z : Nat) : Int)], 53, true, true⟩]) (by kernel_rfl) ?_
  refine kSeq ?_
  refine cSeq ?_
  refine cSeq ?_
  refine cReg ?_
  refine seg 1 (T1 := (mkT 25 [(0, .int .i64 ((X : Nat) : Int)), (1, .int .i64 ((Y : Nat) : Int)), (2, .int .i64 ((Z : Nat) : Int)), (6, .slice none 0 0), (7, .bool false), (8, .pointer (some ⟨0, 0, none⟩)), (13, .agg #[.int .i64 ((X : Nat) : Int), .int .i64 ((Y : Nat) : Int), .int .i64 ((Z : Nat) : Int)])])) (H1 := [some ⟨[.int .i64 ((X : Nat) : Int), .int .i64 ((Y : Nat) : Int), .int .i64 ((Z : Nat) : Int)], 53, true, true⟩]) (by kernel_rfl) ?_
  refine rCall (v := .bool true) (H' := [some ⟨[.int .i64 ((X : Nat) : Int), .int .i64 ((Y : Nat) : Int), .int .i64 ((Z : Nat) : Int)], 53, true, true⟩]) (args := [.agg #[.int .i64 ((X : Nat) : Int), .int .i64 ((Y : Nat) : Int), .int .i64 ((Z : Nat) : Int)]]) (by kernel_rfl) rfl (by kernel_rfl) ((by have h := (valid_ok ((X : Nat) : Int) ((Y : Nat) : Int) ((Z : Nat) : Int)).flat rfl rfl [some ⟨[.int .i64 ((X : Nat) : Int), .int .i64 ((Y : Nat) : Int), .int .i64 ((Z : Nat) : Int)], 53, true, true⟩]; rw [valid_nat hX0 hX hY0 hY hZ0 hZ] at h; exact h)) ?_
  refine seg 3 (T1 := (mkT 25 [(0, .int .i64 ((X : Nat) : Int)), (1, .int .i64 ((Y : Nat) : Int)), (2, .int .i64 ((Z : Nat) : Int)), (6, .slice none 0 0), (7, .bool false), (8, .pointer (some ⟨0, 0, none⟩)), (13, .agg #[.int .i64 ((X : Nat) : Int), .int .i64 ((Y : Nat) : Int), .int .i64 ((Z : Nat) : Int)]), (14, .bool true), (15, .bool false), (16, .bool false), (17, .agg #[.int .i64 ((X : Nat) : Int), .int .i64 ((Y : Nat) : Int), .int .i64 ((Z : Nat) : Int)])])) (H1 := [some ⟨[.int .i64 ((X : Nat) : Int), .int .i64 ((Y : Nat) : Int), .int .i64 ((Z : Nat) : Int)], 53, true, true⟩]) (by kernel_rfl) ?_
  refine rCall (v := .int .i64 ((X * Y * Z : Nat) : Int)) (H' := [some ⟨[.int .i64 ((X : Nat) : Int), .int .i64 ((Y : Nat) : Int), .int .i64 ((Z : Nat) : Int)], 53, true, true⟩]) (args := [.agg #[.int .i64 ((X : Nat) : Int), .int .i64 ((Y : Nat) : Int), .int .i64 ((Z : Nat) : Int)]]) (by kernel_rfl) rfl (by kernel_rfl) ((size_ok X Y Z (by omega) (by omega) (by omega)).flat rfl rfl _) ?_
  refine segEnd [0, 1, 2, 6, 7, 8, 20] (T1 := (mkT 25 [(0, .int .i64 ((X : Nat) : Int)), (1, .int .i64 ((Y : Nat) : Int)), (2, .int .i64 ((Z : Nat) : Int)), (6, .slice none 0 0), (7, .bool false), (8, .pointer (some ⟨0, 0, none⟩)), (20, .bool (decide (((X * Y * Z : Nat) : Int) > 5)))])) (H1 := [some ⟨[.int .i64 ((X : Nat) : Int), .int .i64 ((Y : Nat) : Int), .int .i64 ((Z : Nat) : Int)], 53, true, true⟩]) (by kernel_rfl) ?_
  refine kSeq ?_
  cases h1 : (decide (((X * Y * Z : Nat) : Int) > 5) : Bool)
  ·
    (try simp only [Bool.not_eq_true', Bool.not_eq_false', decide_eq_true_eq, decide_eq_false_iff_not, beq_iff_eq, bne_iff_ne, beq_eq_false_iff_ne, bne_eq_false_iff_eq, ne_eq, Decidable.not_not, Bool.and_eq_true, Bool.and_eq_false_imp, Bool.or_eq_true, Bool.or_eq_false_iff, Bool.not_eq_true, Int.not_lt, Int.not_le, ge_iff_le, gt_iff_lt] at h1)
    refine cFalse (by kernel_rfl) ?_
    refine cSkip ?_
    refine kSeq ?_
    refine cSeq ?_
    refine cRegD (by kernel_rfl) ?_
    refine segD 2 (T1 := (mkT 25 [(0, .int .i64 ((X : Nat) : Int)), (1, .int .i64 ((Y : Nat) : Int)), (2, .int .i64 ((Z : Nat) : Int)), (6, .slice none 0 0), (7, .bool false), (8, .pointer (some ⟨0, 0, none⟩)), (20, .bool false), (21, .agg #[.int .i64 ((X : Nat) : Int), .int .i64 ((Y : Nat) : Int), .int .i64 ((Z : Nat) : Int)]), (22, .agg #[.int .i64 ((X : Nat) : Int), .int .i64 ((Y : Nat) : Int), .int .i64 ((Z : Nat) : Int)])])) (H1 := [some ⟨[.int .i64 ((X : Nat) : Int), .int .i64 ((Y : Nat) : Int), .int .i64 ((Z : Nat) : Int)], 53, true, true⟩]) (by kernel_rfl) ?_
    refine rCallQ (v := .int .u64 ((2 ^ (X * Y * Z) - 1 : Nat) : Int)) (args := [.agg #[.int .i64 ((X : Nat) : Int), .int .i64 ((Y : Nat) : Int), .int .i64 ((Z : Nat) : Int)]]) (by kernel_rfl) rfl (by kernel_rfl) (by kernel_rfl) (by kernel_rfl) ((full_ok X Y Z (by omega) (by omega) (by omega)).flat rfl rfl _) ?_
    refine rCallN (E := [some ⟨a3s (listOf X Y Z (2 ^ (X * Y * Z) - 1)), 52, false, true⟩]) (v := .slice (some ⟨1, 0, none⟩) ((listOf X Y Z (2 ^ (X * Y * Z) - 1)).length) 0) (args := [.agg #[.int .i64 ((X : Nat) : Int), .int .i64 ((Y : Nat) : Int), .int .i64 ((Z : Nat) : Int)], .int .u64 ((2 ^ (X * Y * Z) - 1 : Nat) : Int)]) (by kernel_rfl) rfl (by kernel_rfl) (by kernel_rfl) ((list_ok X Y Z (2 ^ (X * Y * Z) - 1) (by omega) (by omega) (by omega) (by omega) (by omega) (by omega) (by first | omega | exact full_lt (by omega))).fresh rfl (FlatH.nil.cons (flatA3 _ _ _ _)) (fun r h => by simp at h; subst h; exact Or.inl rfl) _ (by first | rfl | simp [mpV, mpA, mpS, mpP, renId])) ?_
    refine segEndD [0, 1, 2, 6, 7, 8, 20] (T1 := (mkT 25 [(0, .int .i64 ((X : Nat) : Int)), (1, .int .i64 ((Y : Nat) : Int)), (2, .int .i64 ((Z : Nat) : Int)), (6, .slice (some ⟨1, 0, none⟩) ((listOf X Y Z (2 ^ (X * Y * Z) - 1)).length) 0), (7, .bool true), (8, .pointer (some ⟨0, 0, none⟩)), (20, .bool false)])) (H1 := [some ⟨[.int .i64 ((X : Nat) : Int), .int .i64 ((Y : Nat) : Int), .int .i64 ((Z : Nat) : Int)], 53, true, true⟩, some ⟨a3s (listOf X Y Z (2 ^ (X * Y * Z) - 1)), 52, false, true⟩]) (by kernel_rfl) ?_
    refine kSeq ?_
    refine cRet ?_
    rw [← listOf_full X Y Z]
    exact endF (Or.inr rfl) (l := [.slice (some ⟨1, 0, none⟩) ((listOf X Y Z (2 ^ (X * Y * Z) - 1)).length) 0, .bool true]) [1] (by kernel_rfl) (by first | rfl | simp [packR, mpV, mpA, mpS, mpP, renId]) ⟨rrF (flatA3 _ _ _ _) rfl, trivial⟩ rfl rfl
  ·
    (try simp only [Bool.not_eq_true', Bool.not_eq_false', decide_eq_true_eq, decide_eq_false_iff_not, beq_iff_eq, bne_iff_ne, beq_eq_false_iff_ne, bne_eq_false_iff_eq, ne_eq, Decidable.not_not, Bool.and_eq_true, Bool.and_eq_false_imp, Bool.or_eq_true, Bool.or_eq_false_iff, Bool.not_eq_true, Int.not_lt, Int.not_le, ge_iff_le, gt_iff_lt] at h1)
    exfalso; omega

set_option maxRecDepth 100000 in
set_option maxHeartbeats 4000000 in
theorem lawBoxPiece_yes (X Y Z : Nat) (hX0 : 1 ≤ X) (hX : X ≤ 4) (hY0 : 1 ≤ Y) (hY : Y ≤ 4) (hZ0 : 1 ≤ Z) (hZ : Z ≤ 4) (hb : X * Y * Z ≤ 5) : Sound Try.prog 8 [.int .i64 ((X : Nat) : Int), .int .i64 ((Y : Nat) : Int), .int .i64 ((Z : Nat) : Int)] [] (.bool true) [] := by
  refine sound_intro (C := cx) Try.func8 rfl (by kernel_rfl) fun hcl => ?_
  have hsz := size_le hX hY hZ
  refine cSeq ?_
  refine cReg ?_
  refine segEnd [0, 1, 2, 6] (T1 := (mkT 73 [(0, .int .i64 ((X : Nat) : Int)), (1, .int .i64 ((Y : Nat) : Int)), (2, .int .i64 ((Z : Nat) : Int)), (6, .bool false)])) (H1 := []) (by kernel_rfl) ?_
  refine kSeq ?_
  refine cSeq ?_
  refine cReg ?_
  refine seg 3 (T1 := (mkT 73 [(0, .int .i64 ((X : Nat) : Int)), (1, .int .i64 ((Y : Nat) : Int)), (2, .int .i64 ((Z : Nat) : Int)), (6, .bool false), (16, .int .i64 ((X : Nat) : Int)), (17, .int .i64 ((Y : Nat) : Int)), (18, .int .i64 ((Z : Nat) : Int))])) (H1 := []) (by kernel_rfl) ?_
  refine rCall (v := .tuple #[.slice (some ⟨0, 0, none⟩) ((allOf X Y Z).length) 0, .bool true]) (H' := [some ⟨a3s (allOf X Y Z), 52, false, true⟩]) (args := [.int .i64 ((X : Nat) : Int), .int .i64 ((Y : Nat) : Int), .int .i64 ((Z : Nat) : Int)]) (by kernel_rfl) rfl (by kernel_rfl) ((specBoxPiece_yes X Y Z hX0 hX hY0 hY hZ0 hZ hb).fresh rfl (FlatH.nil.cons (flatA3 _ _ _ _)) (fun r h => by simp at h; subst h; exact Or.inl rfl) _ (by first | rfl | simp [mpV, mpA, mpS, mpP, renId, shift])) ?_
  refine segEnd [0, 1, 2, 6, 7, 8] (T1 := (mkT 73 [(0, .int .i64 ((X : Nat) : Int)), (1, .int .i64 ((Y : Nat) : Int)), (2, .int .i64 ((Z : Nat) : Int)), (6, .bool false), (7, .slice (some ⟨0, 0, none⟩) ((allOf X Y Z).length) 0), (8, .bool true)])) (H1 := [some ⟨a3s (allOf X Y Z), 52, false, true⟩]) (by kernel_rfl) ?_
  refine kSeq ?_
  refine cSeq ?_
  refine cReg ?_
  refine seg 3 (T1 := (mkT 73 [(0, .int .i64 ((X : Nat) : Int)), (1, .int .i64 ((Y : Nat) : Int)), (2, .int .i64 ((Z : Nat) : Int)), (6, .bool false), (7, .slice (some ⟨0, 0, none⟩) ((allOf X Y Z).length) 0), (8, .bool true), (23, .int .i64 ((X : Nat) : Int)), (24, .int .i64 ((Y : Nat) : Int)), (25, .int .i64 ((Z : Nat) : Int))])) (H1 := [some ⟨a3s (allOf X Y Z), 52, false, true⟩]) (by kernel_rfl) ?_
  refine rCall (v := .tuple #[.slice (some ⟨1, 0, none⟩) ((allOf X Y Z).length) 0, .bool true]) (H' := [some ⟨a3s (allOf X Y Z), 52, false, true⟩, some ⟨a3s (allOf X Y Z), 52, false, true⟩]) (args := [.int .i64 ((X : Nat) : Int), .int .i64 ((Y : Nat) : Int), .int .i64 ((Z : Nat) : Int)]) (by kernel_rfl) rfl (by kernel_rfl) ((implBoxPiece_yes X Y Z hX0 hX hY0 hY hZ0 hZ hb).fresh rfl (FlatH.nil.cons (flatA3 _ _ _ _)) (fun r h => by simp at h; subst h; exact Or.inl rfl) _ (by first | rfl | simp [mpV, mpA, mpS, mpP, renId, shift])) ?_
  refine segEnd [0, 1, 2, 6, 7, 8, 9, 10] (T1 := (mkT 73 [(0, .int .i64 ((X : Nat) : Int)), (1, .int .i64 ((Y : Nat) : Int)), (2, .int .i64 ((Z : Nat) : Int)), (6, .bool false), (7, .slice (some ⟨0, 0, none⟩) ((allOf X Y Z).length) 0), (8, .bool true), (9, .slice (some ⟨1, 0, none⟩) ((allOf X Y Z).length) 0), (10, .bool true)])) (H1 := [some ⟨a3s (allOf X Y Z), 52, false, true⟩, some ⟨a3s (allOf X Y Z), 52, false, true⟩]) (by kernel_rfl) ?_
  refine kSeq ?_
  refine cSeq ?_
  refine cSeq ?_
  refine cReg ?_
  refine seg 2 (T1 := (mkT 73 [(0, .int .i64 ((X : Nat) : Int)), (1, .int .i64 ((Y : Nat) : Int)), (2, .int .i64 ((Z : Nat) : Int)), (6, .bool false), (7, .slice (some ⟨0, 0, none⟩) ((allOf X Y Z).length) 0), (8, .bool true), (9, .slice (some ⟨1, 0, none⟩) ((allOf X Y Z).length) 0), (10, .bool true), (29, .slice (some ⟨1, 0, none⟩) ((allOf X Y Z).length) 0), (30, .slice (some ⟨0, 0, none⟩) ((allOf X Y Z).length) 0)])) (H1 := [some ⟨a3s (allOf X Y Z), 52, false, true⟩, some ⟨a3s (allOf X Y Z), 52, false, true⟩]) (by kernel_rfl) ?_
  refine rCall (v := .bool true) (H' := [some ⟨a3s (allOf X Y Z), 52, false, true⟩, some ⟨a3s (allOf X Y Z), 52, false, true⟩]) (args := [.slice (some ⟨1, 0, none⟩) ((allOf X Y Z).length) 0, .slice (some ⟨0, 0, none⟩) ((allOf X Y Z).length) 0]) (by kernel_rfl) rfl (by kernel_rfl) (Sound.reads2 1 0 true true (eqA3S_same (allOf X Y Z) (by first | omega | (simp only [allOf_length, List.length_nil, mk3_length]; omega))) (flatA3 _ _ _ _) (flatA3 _ _ _ _) rfl rfl rfl rfl rfl (by first | rfl | simp [mpV, mpA, mpS, mpP, renId, shift]) rfl) ?_
  refine segEnd [0, 1, 2, 6, 7, 8, 9, 10, 37] (T1 := (mkT 73 [(0, .int .i64 ((X : Nat) : Int)), (1, .int .i64 ((Y : Nat) : Int)), (2, .int .i64 ((Z : Nat) : Int)), (6, .bool false), (7, .slice (some ⟨0, 0, none⟩) ((allOf X Y Z).length) 0), (8, .bool true), (9, .slice (some ⟨1, 0, none⟩) ((allOf X Y Z).length) 0), (10, .bool true), (37, .bool false)])) (H1 := [some ⟨a3s (allOf X Y Z), 52, false, true⟩, some ⟨a3s (allOf X Y Z), 52, false, true⟩]) (by kernel_rfl) ?_
  refine kSeq ?_
  refine cFalse (by kernel_rfl) ?_
  refine cSkip ?_
  refine kSeq ?_
  refine cSeq ?_
  refine cReg ?_
  refine segEnd [0, 1, 2, 6, 7, 8, 9, 10, 11, 37] (T1 := (mkT 73 [(0, .int .i64 ((X : Nat) : Int)), (1, .int .i64 ((Y : Nat) : Int)), (2, .int .i64 ((Z : Nat) : Int)), (6, .bool false), (7, .slice (some ⟨0, 0, none⟩) ((allOf X Y Z).length) 0), (8, .bool true), (9, .slice (some ⟨1, 0, none⟩) ((allOf X Y Z).length) 0), (10, .bool true), (11, .int .i64 1), (37, .bool false)])) (H1 := [some ⟨a3s (allOf X Y Z), 52, false, true⟩, some ⟨a3s (allOf X Y Z), 52, false, true⟩]) (by kernel_rfl) ?_
  refine kSeq ?_
  refine cSeq ?_
  refine cReg ?_
  refine seg 2 (T1 := (mkT 73 [(0, .int .i64 ((X : Nat) : Int)), (1, .int .i64 ((Y : Nat) : Int)), (2, .int .i64 ((Z : Nat) : Int)), (6, .bool false), (7, .slice (some ⟨0, 0, none⟩) ((allOf X Y Z).length) 0), (8, .bool true), (9, .slice (some ⟨1, 0, none⟩) ((allOf X Y Z).length) 0), (10, .bool true), (11, .int .i64 1), (37, .bool false), (38, .slice (some ⟨1, 0, none⟩) ((allOf X Y Z).length) 0), (39, .int .i64 1)])) (H1 := [some ⟨a3s (allOf X Y Z), 52, false, true⟩, some ⟨a3s (allOf X Y Z), 52, false, true⟩]) (by kernel_rfl) ?_
  refine rCall (v := .int .i64 ((1 + 3 * (allOf X Y Z).length : Nat) : Int)) (H' := [some ⟨a3s (allOf X Y Z), 52, false, true⟩, some ⟨a3s (mk3 1 (allOf X Y Z).length), 52, false, true⟩]) (args := [.slice (some ⟨1, 0, none⟩) ((allOf X Y Z).length) 0, .int .i64 1]) (by kernel_rfl) rfl (by kernel_rfl) (Sound.emb_set (r := ⟨a3s (allOf X Y Z), 52, false, true⟩) (r' := ⟨a3s (mk3 1 (allOf X Y Z).length), 52, false, true⟩) 1 (mark_ok (allOf X Y Z) 1 (by first | omega | (simp only [allOf_length, List.length_nil, mk3_length]; omega)) (by omega)) (flatA3 _ _ _ _) rfl (flatA3 _ _ _ _) rfl rfl rfl (by first | rfl | simp [mpV, mpA, mpS, mpP, renId, shift]) rfl) ?_
  refine segEnd [0, 1, 2, 6, 7, 8, 9, 10, 11, 37] (T1 := (mkT 73 [(0, .int .i64 ((X : Nat) : Int)), (1, .int .i64 ((Y : Nat) : Int)), (2, .int .i64 ((Z : Nat) : Int)), (6, .bool false), (7, .slice (some ⟨0, 0, none⟩) ((allOf X Y Z).length) 0), (8, .bool true), (9, .slice (some ⟨1, 0, none⟩) ((allOf X Y Z).length) 0), (10, .bool true), (11, .int .i64 ((1 + 3 * (allOf X Y Z).length : Nat) : Int)), (37, .bool false)])) (H1 := [some ⟨a3s (allOf X Y Z), 52, false, true⟩, some ⟨a3s (mk3 1 (allOf X Y Z).length), 52, false, true⟩]) (by kernel_rfl) ?_
  refine kSeq ?_
  refine cSeq ?_
  refine cReg ?_
  refine segEnd [0, 1, 2, 6, 7, 8, 9, 10, 11, 12, 37] (T1 := (mkT 73 [(0, .int .i64 ((X : Nat) : Int)), (1, .int .i64 ((Y : Nat) : Int)), (2, .int .i64 ((Z : Nat) : Int)), (6, .bool false), (7, .slice (some ⟨0, 0, none⟩) ((allOf X Y Z).length) 0), (8, .bool true), (9, .slice (some ⟨1, 0, none⟩) ((allOf X Y Z).length) 0), (10, .bool true), (11, .int .i64 ((1 + 3 * (allOf X Y Z).length : Nat) : Int)), (12, .int .i64 1), (37, .bool false)])) (H1 := [some ⟨a3s (allOf X Y Z), 52, false, true⟩, some ⟨a3s (mk3 1 (allOf X Y Z).length), 52, false, true⟩]) (by kernel_rfl) ?_
  refine kSeq ?_
  refine cSeq ?_
  refine cReg ?_
  refine seg 2 (T1 := (mkT 73 [(0, .int .i64 ((X : Nat) : Int)), (1, .int .i64 ((Y : Nat) : Int)), (2, .int .i64 ((Z : Nat) : Int)), (6, .bool false), (7, .slice (some ⟨0, 0, none⟩) ((allOf X Y Z).length) 0), (8, .bool true), (9, .slice (some ⟨1, 0, none⟩) ((allOf X Y Z).length) 0), (10, .bool true), (11, .int .i64 ((1 + 3 * (allOf X Y Z).length : Nat) : Int)), (12, .int .i64 1), (37, .bool false), (41, .slice (some ⟨1, 0, none⟩) ((allOf X Y Z).length) 0), (42, .int .i64 1)])) (H1 := [some ⟨a3s (allOf X Y Z), 52, false, true⟩, some ⟨a3s (mk3 1 (allOf X Y Z).length), 52, false, true⟩]) (by kernel_rfl) ?_
  refine rCall (v := .int .i64 ((1 + 3 * (allOf X Y Z).length : Nat) : Int)) (H' := [some ⟨a3s (allOf X Y Z), 52, false, true⟩, some ⟨a3s (mk3 1 (allOf X Y Z).length), 52, false, true⟩]) (args := [.slice (some ⟨1, 0, none⟩) ((allOf X Y Z).length) 0, .int .i64 1]) (by kernel_rfl) rfl (by kernel_rfl) (Sound.reads1 1 true (held_ok 1 ((allOf X Y Z).length) (by first | omega | (simp only [allOf_length, List.length_nil, mk3_length]; omega)) (by omega)) (flatA3 _ _ _ _) rfl rfl rfl (by first | rfl | simp [mpV, mpA, mpS, mpP, renId, shift]) rfl) ?_
  refine segEnd [0, 1, 2, 6, 7, 8, 9, 10, 11, 12, 37] (T1 := (mkT 73 [(0, .int .i64 ((X : Nat) : Int)), (1, .int .i64 ((Y : Nat) : Int)), (2, .int .i64 ((Z : Nat) : Int)), (6, .bool false), (7, .slice (some ⟨0, 0, none⟩) ((allOf X Y Z).length) 0), (8, .bool true), (9, .slice (some ⟨1, 0, none⟩) ((allOf X Y Z).length) 0), (10, .bool true), (11, .int .i64 ((1 + 3 * (allOf X Y Z).length : Nat) : Int)), (12, .int .i64 ((1 + 3 * (allOf X Y Z).length : Nat) : Int)), (37, .bool false)])) (H1 := [some ⟨a3s (allOf X Y Z), 52, false, true⟩, some ⟨a3s (mk3 1 (allOf X Y Z).length), 52, false, true⟩]) (by kernel_rfl) ?_
  refine kSeq ?_
  refine cSeq ?_
  refine cSeq ?_
  refine cReg ?_
  refine segEnd [0, 1, 2, 6, 7, 8, 9, 10, 11, 12, 37, 45] (T1 := (mkT 73 [(0, .int .i64 ((X : Nat) : Int)), (1, .int .i64 ((Y : Nat) : Int)), (2, .int .i64 ((Z : Nat) : Int)), (6, .bool false), (7, .slice (some ⟨0, 0, none⟩) ((allOf X Y Z).length) 0), (8, .bool true), (9, .slice (some ⟨1, 0, none⟩) ((allOf X Y Z).length) 0), (10, .bool true), (11, .int .i64 ((1 + 3 * (allOf X Y Z).length : Nat) : Int)), (12, .int .i64 ((1 + 3 * (allOf X Y Z).length : Nat) : Int)), (37, .bool false), (45, .bool (decide (((1 + 3 * (allOf X Y Z).length : Nat) : Int) < 0)))])) (H1 := [some ⟨a3s (allOf X Y Z), 52, false, true⟩, some ⟨a3s (mk3 1 (allOf X Y Z).length), 52, false, true⟩]) (by kernel_rfl) ?_
  refine kSeq ?_
  cases h1 : (decide (((1 + 3 * (allOf X Y Z).length : Nat) : Int) < 0) : Bool)
  ·
    (try simp only [Bool.not_eq_true', Bool.not_eq_false', decide_eq_true_eq, decide_eq_false_iff_not, beq_iff_eq, bne_iff_ne, beq_eq_false_iff_ne, bne_eq_false_iff_eq, ne_eq, Decidable.not_not, Bool.and_eq_true, Bool.and_eq_false_imp, Bool.or_eq_true, Bool.or_eq_false_iff, Bool.not_eq_true, Int.not_lt, Int.not_le, ge_iff_le, gt_iff_lt] at h1)
    refine cFalse (by kernel_rfl) ?_
    refine cSkip ?_
    refine kSeq ?_
    refine cSeq ?_
    refine cSeq ?_
    refine cReg ?_
    refine seg 2 (T1 := (mkT 73 [(0, .int .i64 ((X : Nat) : Int)), (1, .int .i64 ((Y : Nat) : Int)), (2, .int .i64 ((Z : Nat) : Int)), (6, .bool false), (7, .slice (some ⟨0, 0, none⟩) ((allOf X Y Z).length) 0), (8, .bool true), (9, .slice (some ⟨1, 0, none⟩) ((allOf X Y Z).length) 0), (10, .bool true), (11, .int .i64 ((1 + 3 * (allOf X Y Z).length : Nat) : Int)), (12, .int .i64 ((1 + 3 * (allOf X Y Z).length : Nat) : Int)), (37, .bool false), (45, .bool false), (46, .int .i64 ((1 + 3 * (allOf X Y Z).length : Nat) : Int)), (47, .int .i64 ((1 + 3 * (allOf X Y Z).length : Nat) : Int))])) (H1 := [some ⟨a3s (allOf X Y Z), 52, false, true⟩, some ⟨a3s (mk3 1 (allOf X Y Z).length), 52, false, true⟩]) (by kernel_rfl) ?_
    refine rOp (v := .bool false) (H' := [some ⟨a3s (allOf X Y Z), 52, false, true⟩, some ⟨a3s (mk3 1 (allOf X Y Z).length), 52, false, true⟩]) (by kernel_rfl) (eNeS (k := .i64) (a := ((1 + 3 * (allOf X Y Z).length : Nat) : Int)) (by kernel_rfl) (by kernel_rfl)) ?_
    refine segEnd [0, 1, 2, 6, 7, 8, 9, 10, 11, 12, 37, 45, 48] (T1 := (mkT 73 [(0, .int .i64 ((X : Nat) : Int)), (1, .int .i64 ((Y : Nat) : Int)), (2, .int .i64 ((Z : Nat) : Int)), (6, .bool false), (7, .slice (some ⟨0, 0, none⟩) ((allOf X Y Z).length) 0), (8, .bool true), (9, .slice (some ⟨1, 0, none⟩) ((allOf X Y Z).length) 0), (10, .bool true), (11, .int .i64 ((1 + 3 * (allOf X Y Z).length : Nat) : Int)), (12, .int .i64 ((1 + 3 * (allOf X Y Z).length : Nat) : Int)), (37, .bool false), (45, .bool false), (48, .bool false)])) (H1 := [some ⟨a3s (allOf X Y Z), 52, false, true⟩, some ⟨a3s (mk3 1 (allOf X Y Z).length), 52, false, true⟩]) (by kernel_rfl) ?_
    refine kSeq ?_
    refine cFalse (by kernel_rfl) ?_
    refine cSkip ?_
    refine kSeq ?_
    refine cSeq ?_
    refine cReg ?_
    refine seg 3 (T1 := (mkT 73 [(0, .int .i64 ((X : Nat) : Int)), (1, .int .i64 ((Y : Nat) : Int)), (2, .int .i64 ((Z : Nat) : Int)), (6, .bool false), (7, .slice (some ⟨0, 0, none⟩) ((allOf X Y Z).length) 0), (8, .bool true), (9, .slice (some ⟨1, 0, none⟩) ((allOf X Y Z).length) 0), (10, .bool true), (11, .int .i64 ((1 + 3 * (allOf X Y Z).length : Nat) : Int)), (12, .int .i64 ((1 + 3 * (allOf X Y Z).length : Nat) : Int)), (37, .bool false), (45, .bool false), (48, .bool false), (50, .int .i64 ((X : Nat) : Int)), (51, .int .i64 ((Y : Nat) : Int)), (52, .int .i64 ((Z : Nat) : Int))])) (H1 := [some ⟨a3s (allOf X Y Z), 52, false, true⟩, some ⟨a3s (mk3 1 (allOf X Y Z).length), 52, false, true⟩]) (by kernel_rfl) ?_
    refine rCall (v := .tuple #[.slice (some ⟨2, 0, none⟩) ((allOf X Y Z).length) 0, .bool true]) (H' := [some ⟨a3s (allOf X Y Z), 52, false, true⟩, some ⟨a3s (mk3 1 (allOf X Y Z).length), 52, false, true⟩, some ⟨a3s (allOf X Y Z), 52, false, true⟩]) (args := [.int .i64 ((X : Nat) : Int), .int .i64 ((Y : Nat) : Int), .int .i64 ((Z : Nat) : Int)]) (by kernel_rfl) rfl (by kernel_rfl) ((implBoxPiece_yes X Y Z hX0 hX hY0 hY hZ0 hZ hb).fresh rfl (FlatH.nil.cons (flatA3 _ _ _ _)) (fun r h => by simp at h; subst h; exact Or.inl rfl) _ (by first | rfl | simp [mpV, mpA, mpS, mpP, renId, shift])) ?_
    refine segEnd [0, 1, 2, 6, 7, 8, 9, 10, 11, 12, 13, 14, 37, 45, 48] (T1 := (mkT 73 [(0, .int .i64 ((X : Nat) : Int)), (1, .int .i64 ((Y : Nat) : Int)), (2, .int .i64 ((Z : Nat) : Int)), (6, .bool false), (7, .slice (some ⟨0, 0, none⟩) ((allOf X Y Z).length) 0), (8, .bool true), (9, .slice (some ⟨1, 0, none⟩) ((allOf X Y Z).length) 0), (10, .bool true), (11, .int .i64 ((1 + 3 * (allOf X Y Z).length : Nat) : Int)), (12, .int .i64 ((1 + 3 * (allOf X Y Z).length : Nat) : Int)), (13, .slice (some ⟨2, 0, none⟩) ((allOf X Y Z).length) 0), (14, .bool true), (37, .bool false), (45, .bool false), (48, .bool false)])) (H1 := [some ⟨a3s (allOf X Y Z), 52, false, true⟩, some ⟨a3s (mk3 1 (allOf X Y Z).length), 52, false, true⟩, some ⟨a3s (allOf X Y Z), 52, false, true⟩]) (by kernel_rfl) ?_
    refine kSeq ?_
    refine cSeq ?_
    refine cSeq ?_
    refine cReg ?_
    refine seg 2 (T1 := (mkT 73 [(0, .int .i64 ((X : Nat) : Int)), (1, .int .i64 ((Y : Nat) : Int)), (2, .int .i64 ((Z : Nat) : Int)), (6, .bool false), (7, .slice (some ⟨0, 0, none⟩) ((allOf X Y Z).length) 0), (8, .bool true), (9, .slice (some ⟨1, 0, none⟩) ((allOf X Y Z).length) 0), (10, .bool true), (11, .int .i64 ((1 + 3 * (allOf X Y Z).length : Nat) : Int)), (12, .int .i64 ((1 + 3 * (allOf X Y Z).length : Nat) : Int)), (13, .slice (some ⟨2, 0, none⟩) ((allOf X Y Z).length) 0), (14, .bool true), (37, .bool false), (45, .bool false), (48, .bool false), (56, .slice (some ⟨2, 0, none⟩) ((allOf X Y Z).length) 0), (57, .slice (some ⟨0, 0, none⟩) ((allOf X Y Z).length) 0)])) (H1 := [some ⟨a3s (allOf X Y Z), 52, false, true⟩, some ⟨a3s (mk3 1 (allOf X Y Z).length), 52, false, true⟩, some ⟨a3s (allOf X Y Z), 52, false, true⟩]) (by kernel_rfl) ?_
    refine rCall (v := .bool true) (H' := [some ⟨a3s (allOf X Y Z), 52, false, true⟩, some ⟨a3s (mk3 1 (allOf X Y Z).length), 52, false, true⟩, some ⟨a3s (allOf X Y Z), 52, false, true⟩]) (args := [.slice (some ⟨2, 0, none⟩) ((allOf X Y Z).length) 0, .slice (some ⟨0, 0, none⟩) ((allOf X Y Z).length) 0]) (by kernel_rfl) rfl (by kernel_rfl) (Sound.reads2 2 0 true true (eqA3S_same (allOf X Y Z) (by first | omega | (simp only [allOf_length, List.length_nil, mk3_length]; omega))) (flatA3 _ _ _ _) (flatA3 _ _ _ _) rfl rfl rfl rfl rfl (by first | rfl | simp [mpV, mpA, mpS, mpP, renId, shift]) rfl) ?_
    refine segEnd [0, 1, 2, 6, 7, 8, 9, 10, 11, 12, 13, 14, 37, 45, 48, 64] (T1 := (mkT 73 [(0, .int .i64 ((X : Nat) : Int)), (1, .int .i64 ((Y : Nat) : Int)), (2, .int .i64 ((Z : Nat) : Int)), (6, .bool false), (7, .slice (some ⟨0, 0, none⟩) ((allOf X Y Z).length) 0), (8, .bool true), (9, .slice (some ⟨1, 0, none⟩) ((allOf X Y Z).length) 0), (10, .bool true), (11, .int .i64 ((1 + 3 * (allOf X Y Z).length : Nat) : Int)), (12, .int .i64 ((1 + 3 * (allOf X Y Z).length : Nat) : Int)), (13, .slice (some ⟨2, 0, none⟩) ((allOf X Y Z).length) 0), (14, .bool true), (37, .bool false), (45, .bool false), (48, .bool false), (64, .bool false)])) (H1 := [some ⟨a3s (allOf X Y Z), 52, false, true⟩, some ⟨a3s (mk3 1 (allOf X Y Z).length), 52, false, true⟩, some ⟨a3s (allOf X Y Z), 52, false, true⟩]) (by kernel_rfl) ?_
    refine kSeq ?_
    refine cFalse (by kernel_rfl) ?_
    refine cSkip ?_
    refine kSeq ?_
    refine cSeq ?_
    refine cReg ?_
    refine segEnd [0, 1, 2, 6, 7, 8, 9, 10, 11, 12, 13, 14, 37, 45, 48, 64] (T1 := (mkT 73 [(0, .int .i64 ((X : Nat) : Int)), (1, .int .i64 ((Y : Nat) : Int)), (2, .int .i64 ((Z : Nat) : Int)), (6, .bool false), (7, .slice (some ⟨0, 0, none⟩) ((allOf X Y Z).length) 0), (8, .bool true), (9, .slice (some ⟨1, 0, none⟩) ((allOf X Y Z).length) 0), (10, .bool true), (11, .int .i64 ((1 + 3 * (allOf X Y Z).length : Nat) : Int)), (12, .int .i64 1), (13, .slice (some ⟨2, 0, none⟩) ((allOf X Y Z).length) 0), (14, .bool true), (37, .bool false), (45, .bool false), (48, .bool false), (64, .bool false)])) (H1 := [some ⟨a3s (allOf X Y Z), 52, false, true⟩, some ⟨a3s (mk3 1 (allOf X Y Z).length), 52, false, true⟩, some ⟨a3s (allOf X Y Z), 52, false, true⟩]) (by kernel_rfl) ?_
    refine kSeq ?_
    refine cSeq ?_
    refine cReg ?_
    refine seg 2 (T1 := (mkT 73 [(0, .int .i64 ((X : Nat) : Int)), (1, .int .i64 ((Y : Nat) : Int)), (2, .int .i64 ((Z : Nat) : Int)), (6, .bool false), (7, .slice (some ⟨0, 0, none⟩) ((allOf X Y Z).length) 0), (8, .bool true), (9, .slice (some ⟨1, 0, none⟩) ((allOf X Y Z).length) 0), (10, .bool true), (11, .int .i64 ((1 + 3 * (allOf X Y Z).length : Nat) : Int)), (12, .int .i64 1), (13, .slice (some ⟨2, 0, none⟩) ((allOf X Y Z).length) 0), (14, .bool true), (37, .bool false), (45, .bool false), (48, .bool false), (64, .bool false), (65, .slice (some ⟨1, 0, none⟩) ((allOf X Y Z).length) 0), (66, .int .i64 1)])) (H1 := [some ⟨a3s (allOf X Y Z), 52, false, true⟩, some ⟨a3s (mk3 1 (allOf X Y Z).length), 52, false, true⟩, some ⟨a3s (allOf X Y Z), 52, false, true⟩]) (by kernel_rfl) ?_
    refine rCall (v := .int .i64 ((1 + 3 * (allOf X Y Z).length : Nat) : Int)) (H' := [some ⟨a3s (allOf X Y Z), 52, false, true⟩, some ⟨a3s (mk3 1 (allOf X Y Z).length), 52, false, true⟩, some ⟨a3s (allOf X Y Z), 52, false, true⟩]) (args := [.slice (some ⟨1, 0, none⟩) ((allOf X Y Z).length) 0, .int .i64 1]) (by kernel_rfl) rfl (by kernel_rfl) (Sound.reads1 1 true (held_ok 1 ((allOf X Y Z).length) (by first | omega | (simp only [allOf_length, List.length_nil, mk3_length]; omega)) (by omega)) (flatA3 _ _ _ _) rfl rfl rfl (by first | rfl | simp [mpV, mpA, mpS, mpP, renId, shift]) rfl) ?_
    refine segEnd [0, 1, 2, 6, 7, 8, 9, 10, 11, 12, 13, 14, 37, 45, 48, 64] (T1 := (mkT 73 [(0, .int .i64 ((X : Nat) : Int)), (1, .int .i64 ((Y : Nat) : Int)), (2, .int .i64 ((Z : Nat) : Int)), (6, .bool false), (7, .slice (some ⟨0, 0, none⟩) ((allOf X Y Z).length) 0), (8, .bool true), (9, .slice (some ⟨1, 0, none⟩) ((allOf X Y Z).length) 0), (10, .bool true), (11, .int .i64 ((1 + 3 * (allOf X Y Z).length : Nat) : Int)), (12, .int .i64 ((1 + 3 * (allOf X Y Z).length : Nat) : Int)), (13, .slice (some ⟨2, 0, none⟩) ((allOf X Y Z).length) 0), (14, .bool true), (37, .bool false), (45, .bool false), (48, .bool false), (64, .bool false)])) (H1 := [some ⟨a3s (allOf X Y Z), 52, false, true⟩, some ⟨a3s (mk3 1 (allOf X Y Z).length), 52, false, true⟩, some ⟨a3s (allOf X Y Z), 52, false, true⟩]) (by kernel_rfl) ?_
    refine kSeq ?_
    refine cSeq ?_
    refine cSeq ?_
    refine cReg ?_
    refine segEnd [0, 1, 2, 6, 7, 8, 9, 10, 11, 12, 13, 14, 37, 45, 48, 64, 69] (T1 := (mkT 73 [(0, .int .i64 ((X : Nat) : Int)), (1, .int .i64 ((Y : Nat) : Int)), (2, .int .i64 ((Z : Nat) : Int)), (6, .bool false), (7, .slice (some ⟨0, 0, none⟩) ((allOf X Y Z).length) 0), (8, .bool true), (9, .slice (some ⟨1, 0, none⟩) ((allOf X Y Z).length) 0), (10, .bool true), (11, .int .i64 ((1 + 3 * (allOf X Y Z).length : Nat) : Int)), (12, .int .i64 ((1 + 3 * (allOf X Y Z).length : Nat) : Int)), (13, .slice (some ⟨2, 0, none⟩) ((allOf X Y Z).length) 0), (14, .bool true), (37, .bool false), (45, .bool false), (48, .bool false), (64, .bool false), (69, .bool (decide (((1 + 3 * (allOf X Y Z).length : Nat) : Int) < 0)))])) (H1 := [some ⟨a3s (allOf X Y Z), 52, false, true⟩, some ⟨a3s (mk3 1 (allOf X Y Z).length), 52, false, true⟩, some ⟨a3s (allOf X Y Z), 52, false, true⟩]) (by kernel_rfl) ?_
    refine kSeq ?_
    cases h2 : (decide (((1 + 3 * (allOf X Y Z).length : Nat) : Int) < 0) : Bool)
    ·
      (try simp only [Bool.not_eq_true', Bool.not_eq_false', decide_eq_true_eq, decide_eq_false_iff_not, beq_iff_eq, bne_iff_ne, beq_eq_false_iff_ne, bne_eq_false_iff_eq, ne_eq, Decidable.not_not, Bool.and_eq_true, Bool.and_eq_false_imp, Bool.or_eq_true, Bool.or_eq_false_iff, Bool.not_eq_true, Int.not_lt, Int.not_le, ge_iff_le, gt_iff_lt] at h2)
      refine cFalse (by kernel_rfl) ?_
      refine cSkip ?_
      refine kSeq ?_
      refine cSeq ?_
      refine cSeq ?_
      refine cReg ?_
      refine seg 2 (T1 := (mkT 73 [(0, .int .i64 ((X : Nat) : Int)), (1, .int .i64 ((Y : Nat) : Int)), (2, .int .i64 ((Z : Nat) : Int)), (6, .bool false), (7, .slice (some ⟨0, 0, none⟩) ((allOf X Y Z).length) 0), (8, .bool true), (9, .slice (some ⟨1, 0, none⟩) ((allOf X Y Z).length) 0), (10, .bool true), (11, .int .i64 ((1 + 3 * (allOf X Y Z).length : Nat) : Int)), (12, .int .i64 ((1 + 3 * (allOf X Y Z).length : Nat) : Int)), (13, .slice (some ⟨2, 0, none⟩) ((allOf X Y Z).length) 0), (14, .bool true), (37, .bool false), (45, .bool false), (48, .bool false), (64, .bool false), (69, .bool false), (70, .int .i64 ((1 + 3 * (allOf X Y Z).length : Nat) : Int)), (71, .int .i64 ((1 + 3 * (allOf X Y Z).length : Nat) : Int))])) (H1 := [some ⟨a3s (allOf X Y Z), 52, false, true⟩, some ⟨a3s (mk3 1 (allOf X Y Z).length), 52, false, true⟩, some ⟨a3s (allOf X Y Z), 52, false, true⟩]) (by kernel_rfl) ?_
      refine rOp (v := .bool false) (H' := [some ⟨a3s (allOf X Y Z), 52, false, true⟩, some ⟨a3s (mk3 1 (allOf X Y Z).length), 52, false, true⟩, some ⟨a3s (allOf X Y Z), 52, false, true⟩]) (by kernel_rfl) (eNeS (k := .i64) (a := ((1 + 3 * (allOf X Y Z).length : Nat) : Int)) (by kernel_rfl) (by kernel_rfl)) ?_
      refine segEnd [0, 1, 2, 6, 7, 8, 9, 10, 11, 12, 13, 14, 37, 45, 48, 64, 69, 72] (T1 := (mkT 73 [(0, .int .i64 ((X : Nat) : Int)), (1, .int .i64 ((Y : Nat) : Int)), (2, .int .i64 ((Z : Nat) : Int)), (6, .bool false), (7, .slice (some ⟨0, 0, none⟩) ((allOf X Y Z).length) 0), (8, .bool true), (9, .slice (some ⟨1, 0, none⟩) ((allOf X Y Z).length) 0), (10, .bool true), (11, .int .i64 ((1 + 3 * (allOf X Y Z).length : Nat) : Int)), (12, .int .i64 ((1 + 3 * (allOf X Y Z).length : Nat) : Int)), (13, .slice (some ⟨2, 0, none⟩) ((allOf X Y Z).length) 0), (14, .bool true), (37, .bool false), (45, .bool false), (48, .bool false), (64, .bool false), (69, .bool false), (72, .bool false)])) (H1 := [some ⟨a3s (allOf X Y Z), 52, false, true⟩, some ⟨a3s (mk3 1 (allOf X Y Z).length), 52, false, true⟩, some ⟨a3s (allOf X Y Z), 52, false, true⟩]) (by kernel_rfl) ?_
      refine kSeq ?_
      refine cFalse (by kernel_rfl) ?_
      refine cSkip ?_
      refine kSeq ?_
      refine cSeq ?_
      refine cReg ?_
      refine segEnd [0, 1, 2, 6, 7, 8, 9, 10, 11, 12, 13, 14, 37, 45, 48, 64, 69, 72] (T1 := (mkT 73 [(0, .int .i64 ((X : Nat) : Int)), (1, .int .i64 ((Y : Nat) : Int)), (2, .int .i64 ((Z : Nat) : Int)), (6, .bool true), (7, .slice (some ⟨0, 0, none⟩) ((allOf X Y Z).length) 0), (8, .bool true), (9, .slice (some ⟨1, 0, none⟩) ((allOf X Y Z).length) 0), (10, .bool true), (11, .int .i64 ((1 + 3 * (allOf X Y Z).length : Nat) : Int)), (12, .int .i64 ((1 + 3 * (allOf X Y Z).length : Nat) : Int)), (13, .slice (some ⟨2, 0, none⟩) ((allOf X Y Z).length) 0), (14, .bool true), (37, .bool false), (45, .bool false), (48, .bool false), (64, .bool false), (69, .bool false), (72, .bool false)])) (H1 := [some ⟨a3s (allOf X Y Z), 52, false, true⟩, some ⟨a3s (mk3 1 (allOf X Y Z).length), 52, false, true⟩, some ⟨a3s (allOf X Y Z), 52, false, true⟩]) (by kernel_rfl) ?_
      refine kSeq ?_
      refine cRet ?_
      exact endQ (Or.inr rfl) (l := [.bool true]) [some ⟨a3s (allOf X Y Z), 52, false, true⟩, some ⟨a3s (mk3 1 (allOf X Y Z).length), 52, false, true⟩, some ⟨a3s (allOf X Y Z), 52, false, true⟩] (by kernel_rfl) (rfl) rfl rfl hcl rfl
    ·
      (try simp only [Bool.not_eq_true', Bool.not_eq_false', decide_eq_true_eq, decide_eq_false_iff_not, beq_iff_eq, bne_iff_ne, beq_eq_false_iff_ne, bne_eq_false_iff_eq, ne_eq, Decidable.not_not, Bool.and_eq_true, Bool.and_eq_false_imp, Bool.or_eq_true, Bool.or_eq_false_iff, Bool.not_eq_true, Int.not_lt, Int.not_le, ge_iff_le, gt_iff_lt] at h2)
      exfalso; omega
  ·
    (try simp only [Bool.not_eq_true', Bool.not_eq_false', decide_eq_true_eq, decide_eq_false_iff_not, beq_iff_eq, bne_iff_ne, beq_eq_false_iff_ne, bne_eq_false_iff_eq, ne_eq, Decidable.not_not, Bool.and_eq_true, Bool.and_eq_false_imp, Bool.or_eq_true, Bool.or_eq_false_iff, Bool.not_eq_true, Int.not_lt, Int.not_le, ge_iff_le, gt_iff_lt] at h1)
    exfalso; omega
theorem lawBoxPiece (x y z : Int) : Sound Try.prog 8 [.int .i64 x, .int .i64 y, .int .i64 z] [] (.bool true) [] := by
  cases h : valid3 x y z
  · exact lawBoxPiece_no x y z h
  · obtain ⟨X, Y, Z, rfl, rfl, rfl, h1, h2, h3, h4, h5, h6⟩ := nat_valid h
    by_cases hb : X * Y * Z ≤ 5
    · exact lawBoxPiece_yes X Y Z h1 h2 h3 h4 h5 h6 hb
    · exact lawBoxPiece_big X Y Z h1 h2 h3 h4 h5 h6 (by omega)
end Go.Proofs.Ytpdhoancokljoaa
namespace Go.Proofs.Ytpdhoancokljoaa.fnExactBoxPiece
open Go.Am Go.ChangeShapes Go.WideShapes Go.ChangeAt Go.RowKit
theorem own : ownKnob Try.prog.godebug = none := by kernel_rfl
set_option maxRecDepth 100000 in
theorem lifted (os : Os) (started : os.Started) (H : Type) (enc : TypeId × Value → H) :
    ReturnsInHanded {} Try.checked os 8 .any (Rows.fnExactBoxPieceSpec.pre6 enc Try.prog Try.f8 Rows.fnExactBoxPieceRow.domain false) (Rows.fnExactBoxPieceSpec.post enc Try.prog Try.f8 false true false false) := by
  refine returnsInHanded_of_change_sized (C := Try.checked) own started (by kernel_rfl) Try.func8
    (ChangeSpec.witness6 (enc := enc) (C := Try.checked) false ⟨#[], #[.int .i64 0, .int .i64 0, .int .i64 0], []⟩ 8 (by kernel_rfl) (by kernel_rfl) (by kernel_rfl) (by kernel_rfl)) ?_
  intro W base args ds gs before hval0 hW hcnd hsz0 _
  have hsz : (DataW.weightsEach Try.prog (Try.f8.params.toList ++ Rows.fnExactBoxPieceSpec.plain.varTypes Try.prog) (ds ++ gs)).all (· ≤ reachBytes) = true := hsz0
  have hval : ∀ (j : Nat) t v, Try.f8.params[j]? = some t → args[j]? = some v → Value.okWide Try.prog W .any base t v := hval0
  have hW' := hW
  obtain ⟨p, q, hA0, hV, rfl, hfz, hnd⟩ := hW
  have hA : DataW.TrodAll enc Try.prog W 0 (fun _ => true) true Try.f8.params.toList args.toList ds p := hA0
  rw [Try.params8] at hA hval hsz
  obtain ⟨v0, vs0, d0, ds0, p0, q0, hargs, rfl, rfl, h0, r0⟩ := trodAll_cons hA
  obtain ⟨v1, vs1, d1, ds1, p1, q1, rfl, rfl, rfl, h1, r1⟩ := trodAll_cons r0
  obtain ⟨v2, vs2, d2, ds2, p2, q2, rfl, rfl, rfl, h2, r2⟩ := trodAll_cons r1
  obtain ⟨rfl, rfl, rfl⟩ := trodAll_nil r2
  obtain rfl : args = #[v0, v1, v2] := by cases args; simp_all
  obtain ⟨rfl, rfl⟩ := trodVars_none hV
  obtain ⟨a0, rfl, rfl, rfl, w0⟩ := open_int Try.underlying3 (hval 0 3 v0 rfl rfl) h0
  obtain ⟨a1, rfl, rfl, rfl, w1⟩ := open_int Try.underlying3 (hval 1 3 v1 rfl rfl) h1
  obtain ⟨a2, rfl, rfl, rfl, w2⟩ := open_int Try.underlying3 (hval 2 3 v2 rfl rfl) h2
  clear hA0 hval0 hsz0 hsz
  refine ((lawBoxPiece a0 a1 a2).top0 rfl rfl W).mono fun e W' ⟨he, bel⟩ => ?_
  subst he
  exact ⟨_, rfl, _, _, _, [], _, [], hW', trodAll_mk1 (shut_bool Try.underlying4 _), (trodAll_cons_mk (shut_int Try.underlying3 w0) (trodAll_cons_mk (shut_int Try.underlying3 w1) (trodAll_cons_mk (shut_int Try.underlying3 w2) (trodAll_mk0)))), rfl, bel.frame _, fun h => by cases h⟩
theorem over : Rows.fnExactBoxPieceRow.holds Try.pinned (OpenSpec.ofChange Rows.fnExactBoxPieceSpec) :=
  OpenClaim.holds_of_wide 8 Try.f8 rfl rfl rfl rfl rfl rfl rfl ⟨rfl, rfl, rfl, rfl, rfl⟩ rfl rfl rfl rfl rfl (by kernel_rfl) Try.func8 (by kernel_rfl)
    (of_decide_eq_true (by kernel_rfl)) (by unfold Func.isWrapper; first | (rw [if_pos (by decide +kernel)]; kernel_rfl) | (rw [if_neg (by decide +kernel)]; exact ⟨rfl, rfl⟩))
    (fun os started H enc _ => lifted os started H enc)
end Go.Proofs.Ytpdhoancokljoaa.fnExactBoxPiece
namespace Go.Proofs.Ytpdhoancokljoaa
/-- The row, under a short name, for the claim. -/
theorem fnExactBoxPiece_holds : Rows.FnExactBoxPieceSaid := fnExactBoxPiece.over
#print axioms fnExactBoxPiece_holds
end Go.Proofs.Ytpdhoancokljoaa
