/- The law of CountStairs: the row. No condition. -/
import Derived.Test.YtpdhoancokljoaaAmF1
import Derived.WalkKit
import Derived.ProofKit
import Derived.OpenShut
import Derived.ShutString
import Derived.ChangeOld
import Derived.Below
import Derived.SizedLaws
set_option linter.unusedVariables false
set_option linter.unusedSimpArgs false
namespace Go.Proofs.Ytpdhoancokljoaa
open Go.Am Go.RowKit
set_option maxRecDepth 100000 in
theorem lawCountStairs_1_1_1 : exF cx (fun _ _ _ => none) 8 7 [.int .i64 1, .int .i64 1, .int .i64 1] [] = some (.bool true, []) := by kernel_rfl
set_option maxRecDepth 100000 in
theorem lawCountStairs_1_1_2 : exF cx (fun _ _ _ => none) 8 7 [.int .i64 1, .int .i64 1, .int .i64 2] [] = some (.bool true, []) := by kernel_rfl
set_option maxRecDepth 100000 in
theorem lawCountStairs_1_1_3 : exF cx (fun _ _ _ => none) 8 7 [.int .i64 1, .int .i64 1, .int .i64 3] [] = some (.bool true, []) := by kernel_rfl
set_option maxRecDepth 100000 in
theorem lawCountStairs_1_1_4 : exF cx (fun _ _ _ => none) 8 7 [.int .i64 1, .int .i64 1, .int .i64 4] [] = some (.bool true, []) := by kernel_rfl
set_option maxRecDepth 100000 in
theorem lawCountStairs_1_2_1 : exF cx (fun _ _ _ => none) 8 7 [.int .i64 1, .int .i64 2, .int .i64 1] [] = some (.bool true, []) := by kernel_rfl
set_option maxRecDepth 100000 in
theorem lawCountStairs_1_2_2 : exF cx (fun _ _ _ => none) 8 7 [.int .i64 1, .int .i64 2, .int .i64 2] [] = some (.bool true, []) := by kernel_rfl
set_option maxRecDepth 100000 in
theorem lawCountStairs_1_2_3 : exF cx (fun _ _ _ => none) 8 7 [.int .i64 1, .int .i64 2, .int .i64 3] [] = some (.bool true, []) := by kernel_rfl
set_option maxRecDepth 100000 in
theorem lawCountStairs_1_2_4 : exF cx (fun _ _ _ => none) 8 7 [.int .i64 1, .int .i64 2, .int .i64 4] [] = some (.bool true, []) := by kernel_rfl
set_option maxRecDepth 100000 in
theorem lawCountStairs_1_3_1 : exF cx (fun _ _ _ => none) 8 7 [.int .i64 1, .int .i64 3, .int .i64 1] [] = some (.bool true, []) := by kernel_rfl
set_option maxRecDepth 100000 in
theorem lawCountStairs_1_3_2 : exF cx (fun _ _ _ => none) 8 7 [.int .i64 1, .int .i64 3, .int .i64 2] [] = some (.bool true, []) := by kernel_rfl
set_option maxRecDepth 100000 in
theorem lawCountStairs_1_3_3 : exF cx (fun _ _ _ => none) 8 7 [.int .i64 1, .int .i64 3, .int .i64 3] [] = some (.bool true, []) := by kernel_rfl
set_option maxRecDepth 100000 in
theorem lawCountStairs_1_3_4 : exF cx (fun _ _ _ => none) 8 7 [.int .i64 1, .int .i64 3, .int .i64 4] [] = some (.bool true, []) := by kernel_rfl
set_option maxRecDepth 100000 in
theorem lawCountStairs_1_4_1 : exF cx (fun _ _ _ => none) 8 7 [.int .i64 1, .int .i64 4, .int .i64 1] [] = some (.bool true, []) := by kernel_rfl
set_option maxRecDepth 100000 in
theorem lawCountStairs_1_4_2 : exF cx (fun _ _ _ => none) 8 7 [.int .i64 1, .int .i64 4, .int .i64 2] [] = some (.bool true, []) := by kernel_rfl
set_option maxRecDepth 100000 in
theorem lawCountStairs_1_4_3 : exF cx (fun _ _ _ => none) 8 7 [.int .i64 1, .int .i64 4, .int .i64 3] [] = some (.bool true, []) := by kernel_rfl
set_option maxRecDepth 100000 in
theorem lawCountStairs_1_4_4 : exF cx (fun _ _ _ => none) 8 7 [.int .i64 1, .int .i64 4, .int .i64 4] [] = some (.bool true, []) := by kernel_rfl
set_option maxRecDepth 100000 in
theorem lawCountStairs_2_1_1 : exF cx (fun _ _ _ => none) 8 7 [.int .i64 2, .int .i64 1, .int .i64 1] [] = some (.bool true, []) := by kernel_rfl
set_option maxRecDepth 100000 in
theorem lawCountStairs_2_1_2 : exF cx (fun _ _ _ => none) 8 7 [.int .i64 2, .int .i64 1, .int .i64 2] [] = some (.bool true, []) := by kernel_rfl
set_option maxRecDepth 100000 in
theorem lawCountStairs_2_1_3 : exF cx (fun _ _ _ => none) 8 7 [.int .i64 2, .int .i64 1, .int .i64 3] [] = some (.bool true, []) := by kernel_rfl
set_option maxRecDepth 100000 in
theorem lawCountStairs_2_1_4 : exF cx (fun _ _ _ => none) 8 7 [.int .i64 2, .int .i64 1, .int .i64 4] [] = some (.bool true, []) := by kernel_rfl
set_option maxRecDepth 100000 in
theorem lawCountStairs_2_2_1 : exF cx (fun _ _ _ => none) 8 7 [.int .i64 2, .int .i64 2, .int .i64 1] [] = some (.bool true, []) := by kernel_rfl
set_option maxRecDepth 100000 in
theorem lawCountStairs_2_2_2 : exF cx (fun _ _ _ => none) 8 7 [.int .i64 2, .int .i64 2, .int .i64 2] [] = some (.bool true, []) := by kernel_rfl
set_option maxRecDepth 100000 in
theorem lawCountStairs_2_2_3 : exF cx (fun _ _ _ => none) 8 7 [.int .i64 2, .int .i64 2, .int .i64 3] [] = some (.bool true, []) := by kernel_rfl
set_option maxRecDepth 100000 in
theorem lawCountStairs_2_2_4 : exF cx (fun _ _ _ => none) 8 7 [.int .i64 2, .int .i64 2, .int .i64 4] [] = some (.bool true, []) := by kernel_rfl
set_option maxRecDepth 100000 in
theorem lawCountStairs_2_3_1 : exF cx (fun _ _ _ => none) 8 7 [.int .i64 2, .int .i64 3, .int .i64 1] [] = some (.bool true, []) := by kernel_rfl
set_option maxRecDepth 100000 in
theorem lawCountStairs_2_3_2 : exF cx (fun _ _ _ => none) 8 7 [.int .i64 2, .int .i64 3, .int .i64 2] [] = some (.bool true, []) := by kernel_rfl
set_option maxRecDepth 100000 in
theorem lawCountStairs_2_3_3 : exF cx (fun _ _ _ => none) 8 7 [.int .i64 2, .int .i64 3, .int .i64 3] [] = some (.bool true, []) := by kernel_rfl
set_option maxRecDepth 100000 in
theorem lawCountStairs_2_3_4 : exF cx (fun _ _ _ => none) 8 7 [.int .i64 2, .int .i64 3, .int .i64 4] [] = some (.bool true, []) := by kernel_rfl
set_option maxRecDepth 100000 in
theorem lawCountStairs_2_4_1 : exF cx (fun _ _ _ => none) 8 7 [.int .i64 2, .int .i64 4, .int .i64 1] [] = some (.bool true, []) := by kernel_rfl
set_option maxRecDepth 100000 in
theorem lawCountStairs_2_4_2 : exF cx (fun _ _ _ => none) 8 7 [.int .i64 2, .int .i64 4, .int .i64 2] [] = some (.bool true, []) := by kernel_rfl
set_option maxRecDepth 100000 in
theorem lawCountStairs_2_4_3 : exF cx (fun _ _ _ => none) 8 7 [.int .i64 2, .int .i64 4, .int .i64 3] [] = some (.bool true, []) := by kernel_rfl
set_option maxRecDepth 100000 in
theorem lawCountStairs_2_4_4 : exF cx (fun _ _ _ => none) 8 7 [.int .i64 2, .int .i64 4, .int .i64 4] [] = some (.bool true, []) := by kernel_rfl
set_option maxRecDepth 100000 in
theorem lawCountStairs_3_1_1 : exF cx (fun _ _ _ => none) 8 7 [.int .i64 3, .int .i64 1, .int .i64 1] [] = some (.bool true, []) := by kernel_rfl
set_option maxRecDepth 100000 in
theorem lawCountStairs_3_1_2 : exF cx (fun _ _ _ => none) 8 7 [.int .i64 3, .int .i64 1, .int .i64 2] [] = some (.bool true, []) := by kernel_rfl
set_option maxRecDepth 100000 in
theorem lawCountStairs_3_1_3 : exF cx (fun _ _ _ => none) 8 7 [.int .i64 3, .int .i64 1, .int .i64 3] [] = some (.bool true, []) := by kernel_rfl
set_option maxRecDepth 100000 in
theorem lawCountStairs_3_1_4 : exF cx (fun _ _ _ => none) 8 7 [.int .i64 3, .int .i64 1, .int .i64 4] [] = some (.bool true, []) := by kernel_rfl
set_option maxRecDepth 100000 in
theorem lawCountStairs_3_2_1 : exF cx (fun _ _ _ => none) 8 7 [.int .i64 3, .int .i64 2, .int .i64 1] [] = some (.bool true, []) := by kernel_rfl
set_option maxRecDepth 100000 in
theorem lawCountStairs_3_2_2 : exF cx (fun _ _ _ => none) 8 7 [.int .i64 3, .int .i64 2, .int .i64 2] [] = some (.bool true, []) := by kernel_rfl
set_option maxRecDepth 100000 in
theorem lawCountStairs_3_2_3 : exF cx (fun _ _ _ => none) 8 7 [.int .i64 3, .int .i64 2, .int .i64 3] [] = some (.bool true, []) := by kernel_rfl
set_option maxRecDepth 100000 in
theorem lawCountStairs_3_2_4 : exF cx (fun _ _ _ => none) 8 7 [.int .i64 3, .int .i64 2, .int .i64 4] [] = some (.bool true, []) := by kernel_rfl
set_option maxRecDepth 100000 in
theorem lawCountStairs_3_3_1 : exF cx (fun _ _ _ => none) 8 7 [.int .i64 3, .int .i64 3, .int .i64 1] [] = some (.bool true, []) := by kernel_rfl
set_option maxRecDepth 100000 in
theorem lawCountStairs_3_3_2 : exF cx (fun _ _ _ => none) 8 7 [.int .i64 3, .int .i64 3, .int .i64 2] [] = some (.bool true, []) := by kernel_rfl
set_option maxRecDepth 100000 in
theorem lawCountStairs_3_3_3 : exF cx (fun _ _ _ => none) 8 7 [.int .i64 3, .int .i64 3, .int .i64 3] [] = some (.bool true, []) := by kernel_rfl
set_option maxRecDepth 100000 in
theorem lawCountStairs_3_3_4 : exF cx (fun _ _ _ => none) 8 7 [.int .i64 3, .int .i64 3, .int .i64 4] [] = some (.bool true, []) := by kernel_rfl
set_option maxRecDepth 100000 in
theorem lawCountStairs_3_4_1 : exF cx (fun _ _ _ => none) 8 7 [.int .i64 3, .int .i64 4, .int .i64 1] [] = some (.bool true, []) := by kernel_rfl
set_option maxRecDepth 100000 in
theorem lawCountStairs_3_4_2 : exF cx (fun _ _ _ => none) 8 7 [.int .i64 3, .int .i64 4, .int .i64 2] [] = some (.bool true, []) := by kernel_rfl
set_option maxRecDepth 100000 in
theorem lawCountStairs_3_4_3 : exF cx (fun _ _ _ => none) 8 7 [.int .i64 3, .int .i64 4, .int .i64 3] [] = some (.bool true, []) := by kernel_rfl
set_option maxRecDepth 100000 in
theorem lawCountStairs_3_4_4 : exF cx (fun _ _ _ => none) 8 7 [.int .i64 3, .int .i64 4, .int .i64 4] [] = some (.bool true, []) := by kernel_rfl
set_option maxRecDepth 100000 in
theorem lawCountStairs_4_1_1 : exF cx (fun _ _ _ => none) 8 7 [.int .i64 4, .int .i64 1, .int .i64 1] [] = some (.bool true, []) := by kernel_rfl
set_option maxRecDepth 100000 in
theorem lawCountStairs_4_1_2 : exF cx (fun _ _ _ => none) 8 7 [.int .i64 4, .int .i64 1, .int .i64 2] [] = some (.bool true, []) := by kernel_rfl
set_option maxRecDepth 100000 in
theorem lawCountStairs_4_1_3 : exF cx (fun _ _ _ => none) 8 7 [.int .i64 4, .int .i64 1, .int .i64 3] [] = some (.bool true, []) := by kernel_rfl
set_option maxRecDepth 100000 in
theorem lawCountStairs_4_1_4 : exF cx (fun _ _ _ => none) 8 7 [.int .i64 4, .int .i64 1, .int .i64 4] [] = some (.bool true, []) := by kernel_rfl
set_option maxRecDepth 100000 in
theorem lawCountStairs_4_2_1 : exF cx (fun _ _ _ => none) 8 7 [.int .i64 4, .int .i64 2, .int .i64 1] [] = some (.bool true, []) := by kernel_rfl
set_option maxRecDepth 100000 in
theorem lawCountStairs_4_2_2 : exF cx (fun _ _ _ => none) 8 7 [.int .i64 4, .int .i64 2, .int .i64 2] [] = some (.bool true, []) := by kernel_rfl
set_option maxRecDepth 100000 in
theorem lawCountStairs_4_2_3 : exF cx (fun _ _ _ => none) 8 7 [.int .i64 4, .int .i64 2, .int .i64 3] [] = some (.bool true, []) := by kernel_rfl
set_option maxRecDepth 100000 in
theorem lawCountStairs_4_2_4 : exF cx (fun _ _ _ => none) 8 7 [.int .i64 4, .int .i64 2, .int .i64 4] [] = some (.bool true, []) := by kernel_rfl
set_option maxRecDepth 100000 in
theorem lawCountStairs_4_3_1 : exF cx (fun _ _ _ => none) 8 7 [.int .i64 4, .int .i64 3, .int .i64 1] [] = some (.bool true, []) := by kernel_rfl
set_option maxRecDepth 100000 in
theorem lawCountStairs_4_3_2 : exF cx (fun _ _ _ => none) 8 7 [.int .i64 4, .int .i64 3, .int .i64 2] [] = some (.bool true, []) := by kernel_rfl
set_option maxRecDepth 100000 in
theorem lawCountStairs_4_3_3 : exF cx (fun _ _ _ => none) 8 7 [.int .i64 4, .int .i64 3, .int .i64 3] [] = some (.bool true, []) := by kernel_rfl
set_option maxRecDepth 100000 in
theorem lawCountStairs_4_3_4 : exF cx (fun _ _ _ => none) 8 7 [.int .i64 4, .int .i64 3, .int .i64 4] [] = some (.bool true, []) := by kernel_rfl
set_option maxRecDepth 100000 in
theorem lawCountStairs_4_4_1 : exF cx (fun _ _ _ => none) 8 7 [.int .i64 4, .int .i64 4, .int .i64 1] [] = some (.bool true, []) := by kernel_rfl
set_option maxRecDepth 100000 in
theorem lawCountStairs_4_4_2 : exF cx (fun _ _ _ => none) 8 7 [.int .i64 4, .int .i64 4, .int .i64 2] [] = some (.bool true, []) := by kernel_rfl
set_option maxRecDepth 100000 in
theorem lawCountStairs_4_4_3 : exF cx (fun _ _ _ => none) 8 7 [.int .i64 4, .int .i64 4, .int .i64 3] [] = some (.bool true, []) := by kernel_rfl
set_option maxRecDepth 100000 in
theorem lawCountStairs_4_4_4 : exF cx (fun _ _ _ => none) 8 7 [.int .i64 4, .int .i64 4, .int .i64 4] [] = some (.bool true, []) := by kernel_rfl
theorem lawCountStairs_yes (x y z : Int) (hv : valid3 x y z = true) : Sound Try.prog 7 [.int .i64 x, .int .i64 y, .int .i64 z] [] (.bool true) [] := by
  simp only [valid3, inR, Bool.and_eq_true, decide_eq_true_eq] at hv
  obtain ⟨⟨⟨h1, h2⟩, h3, h4⟩, h5, h6⟩ := hv
  have hx : x = 1 ∨ x = 2 ∨ x = 3 ∨ x = 4 := by omega
  have hy : y = 1 ∨ y = 2 ∨ y = 3 ∨ y = 4 := by omega
  have hz : z = 1 ∨ z = 2 ∨ z = 3 ∨ z = 4 := by omega
  clear h1 h2 h3 h4 h5 h6
  rcases hx with rfl | rfl | rfl | rfl <;> rcases hy with rfl | rfl | rfl | rfl <;> rcases hz with rfl | rfl | rfl | rfl
  · exact exF_sound told_none 8 _ _ _ _ _ lawCountStairs_1_1_1
  · exact exF_sound told_none 8 _ _ _ _ _ lawCountStairs_1_1_2
  · exact exF_sound told_none 8 _ _ _ _ _ lawCountStairs_1_1_3
  · exact exF_sound told_none 8 _ _ _ _ _ lawCountStairs_1_1_4
  · exact exF_sound told_none 8 _ _ _ _ _ lawCountStairs_1_2_1
  · exact exF_sound told_none 8 _ _ _ _ _ lawCountStairs_1_2_2
  · exact exF_sound told_none 8 _ _ _ _ _ lawCountStairs_1_2_3
  · exact exF_sound told_none 8 _ _ _ _ _ lawCountStairs_1_2_4
  · exact exF_sound told_none 8 _ _ _ _ _ lawCountStairs_1_3_1
  · exact exF_sound told_none 8 _ _ _ _ _ lawCountStairs_1_3_2
  · exact exF_sound told_none 8 _ _ _ _ _ lawCountStairs_1_3_3
  · exact exF_sound told_none 8 _ _ _ _ _ lawCountStairs_1_3_4
  · exact exF_sound told_none 8 _ _ _ _ _ lawCountStairs_1_4_1
  · exact exF_sound told_none 8 _ _ _ _ _ lawCountStairs_1_4_2
  · exact exF_sound told_none 8 _ _ _ _ _ lawCountStairs_1_4_3
  · exact exF_sound told_none 8 _ _ _ _ _ lawCountStairs_1_4_4
  · exact exF_sound told_none 8 _ _ _ _ _ lawCountStairs_2_1_1
  · exact exF_sound told_none 8 _ _ _ _ _ lawCountStairs_2_1_2
  · exact exF_sound told_none 8 _ _ _ _ _ lawCountStairs_2_1_3
  · exact exF_sound told_none 8 _ _ _ _ _ lawCountStairs_2_1_4
  · exact exF_sound told_none 8 _ _ _ _ _ lawCountStairs_2_2_1
  · exact exF_sound told_none 8 _ _ _ _ _ lawCountStairs_2_2_2
  · exact exF_sound told_none 8 _ _ _ _ _ lawCountStairs_2_2_3
  · exact exF_sound told_none 8 _ _ _ _ _ lawCountStairs_2_2_4
  · exact exF_sound told_none 8 _ _ _ _ _ lawCountStairs_2_3_1
  · exact exF_sound told_none 8 _ _ _ _ _ lawCountStairs_2_3_2
  · exact exF_sound told_none 8 _ _ _ _ _ lawCountStairs_2_3_3
  · exact exF_sound told_none 8 _ _ _ _ _ lawCountStairs_2_3_4
  · exact exF_sound told_none 8 _ _ _ _ _ lawCountStairs_2_4_1
  · exact exF_sound told_none 8 _ _ _ _ _ lawCountStairs_2_4_2
  · exact exF_sound told_none 8 _ _ _ _ _ lawCountStairs_2_4_3
  · exact exF_sound told_none 8 _ _ _ _ _ lawCountStairs_2_4_4
  · exact exF_sound told_none 8 _ _ _ _ _ lawCountStairs_3_1_1
  · exact exF_sound told_none 8 _ _ _ _ _ lawCountStairs_3_1_2
  · exact exF_sound told_none 8 _ _ _ _ _ lawCountStairs_3_1_3
  · exact exF_sound told_none 8 _ _ _ _ _ lawCountStairs_3_1_4
  · exact exF_sound told_none 8 _ _ _ _ _ lawCountStairs_3_2_1
  · exact exF_sound told_none 8 _ _ _ _ _ lawCountStairs_3_2_2
  · exact exF_sound told_none 8 _ _ _ _ _ lawCountStairs_3_2_3
  · exact exF_sound told_none 8 _ _ _ _ _ lawCountStairs_3_2_4
  · exact exF_sound told_none 8 _ _ _ _ _ lawCountStairs_3_3_1
  · exact exF_sound told_none 8 _ _ _ _ _ lawCountStairs_3_3_2
  · exact exF_sound told_none 8 _ _ _ _ _ lawCountStairs_3_3_3
  · exact exF_sound told_none 8 _ _ _ _ _ lawCountStairs_3_3_4
  · exact exF_sound told_none 8 _ _ _ _ _ lawCountStairs_3_4_1
  · exact exF_sound told_none 8 _ _ _ _ _ lawCountStairs_3_4_2
  · exact exF_sound told_none 8 _ _ _ _ _ lawCountStairs_3_4_3
  · exact exF_sound told_none 8 _ _ _ _ _ lawCountStairs_3_4_4
  · exact exF_sound told_none 8 _ _ _ _ _ lawCountStairs_4_1_1
  · exact exF_sound told_none 8 _ _ _ _ _ lawCountStairs_4_1_2
  · exact exF_sound told_none 8 _ _ _ _ _ lawCountStairs_4_1_3
  · exact exF_sound told_none 8 _ _ _ _ _ lawCountStairs_4_1_4
  · exact exF_sound told_none 8 _ _ _ _ _ lawCountStairs_4_2_1
  · exact exF_sound told_none 8 _ _ _ _ _ lawCountStairs_4_2_2
  · exact exF_sound told_none 8 _ _ _ _ _ lawCountStairs_4_2_3
  · exact exF_sound told_none 8 _ _ _ _ _ lawCountStairs_4_2_4
  · exact exF_sound told_none 8 _ _ _ _ _ lawCountStairs_4_3_1
  · exact exF_sound told_none 8 _ _ _ _ _ lawCountStairs_4_3_2
  · exact exF_sound told_none 8 _ _ _ _ _ lawCountStairs_4_3_3
  · exact exF_sound told_none 8 _ _ _ _ _ lawCountStairs_4_3_4
  · exact exF_sound told_none 8 _ _ _ _ _ lawCountStairs_4_4_1
  · exact exF_sound told_none 8 _ _ _ _ _ lawCountStairs_4_4_2
  · exact exF_sound told_none 8 _ _ _ _ _ lawCountStairs_4_4_3
  · exact exF_sound told_none 8 _ _ _ _ _ lawCountStairs_4_4_4
theorem lawCountStairs (x y z : Int) : Sound Try.prog 7 [.int .i64 x, .int .i64 y, .int .i64 z] [] (.bool true) [] := by
  cases h : valid3 x y z
  · exact lawCountStairs_no x y z h
  · exact lawCountStairs_yes x y z h
end Go.Proofs.Ytpdhoancokljoaa
namespace Go.Proofs.Ytpdhoancokljoaa.fnExactCountStairs
open Go.Am Go.ChangeShapes Go.WideShapes Go.ChangeAt Go.RowKit
theorem own : ownKnob Try.prog.godebug = none := by kernel_rfl
set_option maxRecDepth 100000 in
theorem lifted (os : Os) (started : os.Started) (H : Type) (enc : TypeId × Value → H) :
    ReturnsInHanded {} Try.checked os 7 .any (Rows.fnExactCountStairsSpec.pre6 enc Try.prog Try.f7 Rows.fnExactCountStairsRow.domain false) (Rows.fnExactCountStairsSpec.post enc Try.prog Try.f7 false true false false) := by
  refine returnsInHanded_of_change_sized (C := Try.checked) own started (by kernel_rfl) Try.func7
    (ChangeSpec.witness6 (enc := enc) (C := Try.checked) false ⟨#[], #[.int .i64 0, .int .i64 0, .int .i64 0], []⟩ 8 (by kernel_rfl) (by kernel_rfl) (by kernel_rfl) (by kernel_rfl)) ?_
  intro W base args ds gs before hval0 hW hcnd hsz0 _
  have hsz : (DataW.weightsEach Try.prog (Try.f7.params.toList ++ Rows.fnExactCountStairsSpec.plain.varTypes Try.prog) (ds ++ gs)).all (· ≤ reachBytes) = true := hsz0
  have hval : ∀ (j : Nat) t v, Try.f7.params[j]? = some t → args[j]? = some v → Value.okWide Try.prog W .any base t v := hval0
  have hW' := hW
  obtain ⟨p, q, hA0, hV, rfl, hfz, hnd⟩ := hW
  have hA : DataW.TrodAll enc Try.prog W 0 (fun _ => true) true Try.f7.params.toList args.toList ds p := hA0
  rw [Try.params7] at hA hval hsz
  obtain ⟨v0, vs0, d0, ds0, p0, q0, hargs, rfl, rfl, h0, r0⟩ := trodAll_cons hA
  obtain ⟨v1, vs1, d1, ds1, p1, q1, rfl, rfl, rfl, h1, r1⟩ := trodAll_cons r0
  obtain ⟨v2, vs2, d2, ds2, p2, q2, rfl, rfl, rfl, h2, r2⟩ := trodAll_cons r1
  obtain ⟨rfl, rfl, rfl⟩ := trodAll_nil r2
  obtain rfl : args = #[v0, v1, v2] := by cases args; simp_all
  obtain ⟨rfl, rfl⟩ := trodVars_none hV
  obtain ⟨a0, rfl, rfl, rfl, w0⟩ := open_int Try.underlying3 (hval 0 3 v0 rfl rfl) h0
  obtain ⟨a1, rfl, rfl, rfl, w1⟩ := open_int Try.underlying3 (hval 1 3 v1 rfl rfl) h1
  obtain ⟨a2, rfl, rfl, rfl, w2⟩ := open_int Try.underlying3 (hval 2 3 v2 rfl rfl) h2
  clear hA0 hval0 hsz0 hsz
  refine ((lawCountStairs a0 a1 a2).top0 rfl rfl W).mono fun e W' ⟨he, bel⟩ => ?_
  subst he
  exact ⟨_, rfl, _, _, _, [], _, [], hW', trodAll_mk1 (shut_bool Try.underlying4 _), (trodAll_cons_mk (shut_int Try.underlying3 w0) (trodAll_cons_mk (shut_int Try.underlying3 w1) (trodAll_cons_mk (shut_int Try.underlying3 w2) (trodAll_mk0)))), rfl, bel.frame _, fun h => by cases h⟩
theorem over : Rows.fnExactCountStairsRow.holds Try.pinned (OpenSpec.ofChange Rows.fnExactCountStairsSpec) :=
  OpenClaim.holds_of_wide 7 Try.f7 rfl rfl rfl rfl rfl rfl rfl ⟨rfl, rfl, rfl, rfl, rfl⟩ rfl rfl rfl rfl rfl (by kernel_rfl) Try.func7 (by kernel_rfl)
    (of_decide_eq_true (by kernel_rfl)) (by unfold Func.isWrapper; first | (rw [if_pos (by decide +kernel)]; kernel_rfl) | (rw [if_neg (by decide +kernel)]; exact ⟨rfl, rfl⟩))
    (fun os started H enc _ => lifted os started H enc)
end Go.Proofs.Ytpdhoancokljoaa.fnExactCountStairs
namespace Go.Proofs.Ytpdhoancokljoaa
/-- The row, under a short name, for the claim. -/
theorem fnExactCountStairs_holds : Rows.FnExactCountStairsSaid := fnExactCountStairs.over
#print axioms fnExactCountStairs_holds
end Go.Proofs.Ytpdhoancokljoaa
