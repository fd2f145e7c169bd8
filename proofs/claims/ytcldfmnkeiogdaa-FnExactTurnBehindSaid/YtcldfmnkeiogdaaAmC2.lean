import Derived.Test.YtcldfmnkeiogdaaAmC1
import Derived.WalkKit
import Derived.ProofKit
import Derived.OpenShut
import Derived.ChangeOld
import Derived.Below
import Derived.SizedLaws
set_option linter.unusedVariables false
set_option linter.unusedSimpArgs false
namespace Go.Proofs.Ytcldfmnkeiogdaa
open Go.Am Go.RowKit
theorem behindC_12_0 : behindC 12 0 = true := by kernel_rfl
theorem behindC_12_1 : behindC 12 1 = true := by kernel_rfl
theorem behindC_12_2 : behindC 12 2 = true := by kernel_rfl
theorem behindC_12_3 : behindC 12 3 = true := by kernel_rfl
theorem behindC_12_4 : behindC 12 4 = true := by kernel_rfl
theorem behindC_12_5 : behindC 12 5 = true := by kernel_rfl
theorem behindC_12_6 : behindC 12 6 = true := by kernel_rfl
theorem behindC_12_7 : behindC 12 7 = true := by kernel_rfl
theorem behindC_12_8 : behindC 12 8 = true := by kernel_rfl
theorem behindC_12_9 : behindC 12 9 = true := by kernel_rfl
theorem behindC_12_10 : behindC 12 10 = true := by kernel_rfl
theorem behindC_12_11 : behindC 12 11 = true := by kernel_rfl
theorem behindC_12_12 : behindC 12 12 = true := by kernel_rfl
theorem behindC_12_13 : behindC 12 13 = true := by kernel_rfl
theorem behindC_12_14 : behindC 12 14 = true := by kernel_rfl
theorem behindC_12_15 : behindC 12 15 = true := by kernel_rfl
theorem behindC_12_16 : behindC 12 16 = true := by kernel_rfl
theorem behindC_12_17 : behindC 12 17 = true := by kernel_rfl
theorem behindC_12_18 : behindC 12 18 = true := by kernel_rfl
theorem behindC_12_19 : behindC 12 19 = true := by kernel_rfl
theorem behindC_12_20 : behindC 12 20 = true := by kernel_rfl
theorem behindC_12_21 : behindC 12 21 = true := by kernel_rfl
theorem behindC_12_22 : behindC 12 22 = true := by kernel_rfl
theorem behindC_12_23 : behindC 12 23 = true := by kernel_rfl
theorem behindC_13_0 : behindC 13 0 = true := by kernel_rfl
theorem behindC_13_1 : behindC 13 1 = true := by kernel_rfl
theorem behindC_13_2 : behindC 13 2 = true := by kernel_rfl
theorem behindC_13_3 : behindC 13 3 = true := by kernel_rfl
theorem behindC_13_4 : behindC 13 4 = true := by kernel_rfl
theorem behindC_13_5 : behindC 13 5 = true := by kernel_rfl
theorem behindC_13_6 : behindC 13 6 = true := by kernel_rfl
theorem behindC_13_7 : behindC 13 7 = true := by kernel_rfl
theorem behindC_13_8 : behindC 13 8 = true := by kernel_rfl
theorem behindC_13_9 : behindC 13 9 = true := by kernel_rfl
theorem behindC_13_10 : behindC 13 10 = true := by kernel_rfl
theorem behindC_13_11 : behindC 13 11 = true := by kernel_rfl
theorem behindC_13_12 : behindC 13 12 = true := by kernel_rfl
theorem behindC_13_13 : behindC 13 13 = true := by kernel_rfl
theorem behindC_13_14 : behindC 13 14 = true := by kernel_rfl
theorem behindC_13_15 : behindC 13 15 = true := by kernel_rfl
theorem behindC_13_16 : behindC 13 16 = true := by kernel_rfl
theorem behindC_13_17 : behindC 13 17 = true := by kernel_rfl
theorem behindC_13_18 : behindC 13 18 = true := by kernel_rfl
theorem behindC_13_19 : behindC 13 19 = true := by kernel_rfl
theorem behindC_13_20 : behindC 13 20 = true := by kernel_rfl
theorem behindC_13_21 : behindC 13 21 = true := by kernel_rfl
theorem behindC_13_22 : behindC 13 22 = true := by kernel_rfl
theorem behindC_13_23 : behindC 13 23 = true := by kernel_rfl
theorem behindC_12 (m : Nat) (h : m < 24) : behindC 12 m = true := by
  match m, h with
  | 0, _ => exact behindC_12_0
  | 1, _ => exact behindC_12_1
  | 2, _ => exact behindC_12_2
  | 3, _ => exact behindC_12_3
  | 4, _ => exact behindC_12_4
  | 5, _ => exact behindC_12_5
  | 6, _ => exact behindC_12_6
  | 7, _ => exact behindC_12_7
  | 8, _ => exact behindC_12_8
  | 9, _ => exact behindC_12_9
  | 10, _ => exact behindC_12_10
  | 11, _ => exact behindC_12_11
  | 12, _ => exact behindC_12_12
  | 13, _ => exact behindC_12_13
  | 14, _ => exact behindC_12_14
  | 15, _ => exact behindC_12_15
  | 16, _ => exact behindC_12_16
  | 17, _ => exact behindC_12_17
  | 18, _ => exact behindC_12_18
  | 19, _ => exact behindC_12_19
  | 20, _ => exact behindC_12_20
  | 21, _ => exact behindC_12_21
  | 22, _ => exact behindC_12_22
  | 23, _ => exact behindC_12_23
  | n + 24, h => omega
theorem behindC_13 (m : Nat) (h : m < 24) : behindC 13 m = true := by
  match m, h with
  | 0, _ => exact behindC_13_0
  | 1, _ => exact behindC_13_1
  | 2, _ => exact behindC_13_2
  | 3, _ => exact behindC_13_3
  | 4, _ => exact behindC_13_4
  | 5, _ => exact behindC_13_5
  | 6, _ => exact behindC_13_6
  | 7, _ => exact behindC_13_7
  | 8, _ => exact behindC_13_8
  | 9, _ => exact behindC_13_9
  | 10, _ => exact behindC_13_10
  | 11, _ => exact behindC_13_11
  | 12, _ => exact behindC_13_12
  | 13, _ => exact behindC_13_13
  | 14, _ => exact behindC_13_14
  | 15, _ => exact behindC_13_15
  | 16, _ => exact behindC_13_16
  | 17, _ => exact behindC_13_17
  | 18, _ => exact behindC_13_18
  | 19, _ => exact behindC_13_19
  | 20, _ => exact behindC_13_20
  | 21, _ => exact behindC_13_21
  | 22, _ => exact behindC_13_22
  | 23, _ => exact behindC_13_23
  | n + 24, h => omega
end Go.Proofs.Ytcldfmnkeiogdaa
set_option linter.unusedVariables false
set_option linter.unusedSimpArgs false
namespace Go.Proofs.Ytcldfmnkeiogdaa
open Go.Am Go.RowKit
theorem behindC_14_0 : behindC 14 0 = true := by kernel_rfl
theorem behindC_14_1 : behindC 14 1 = true := by kernel_rfl
theorem behindC_14_2 : behindC 14 2 = true := by kernel_rfl
theorem behindC_14_3 : behindC 14 3 = true := by kernel_rfl
theorem behindC_14_4 : behindC 14 4 = true := by kernel_rfl
theorem behindC_14_5 : behindC 14 5 = true := by kernel_rfl
theorem behindC_14_6 : behindC 14 6 = true := by kernel_rfl
theorem behindC_14_7 : behindC 14 7 = true := by kernel_rfl
theorem behindC_14_8 : behindC 14 8 = true := by kernel_rfl
theorem behindC_14_9 : behindC 14 9 = true := by kernel_rfl
theorem behindC_14_10 : behindC 14 10 = true := by kernel_rfl
theorem behindC_14_11 : behindC 14 11 = true := by kernel_rfl
theorem behindC_14_12 : behindC 14 12 = true := by kernel_rfl
theorem behindC_14_13 : behindC 14 13 = true := by kernel_rfl
theorem behindC_14_14 : behindC 14 14 = true := by kernel_rfl
theorem behindC_14_15 : behindC 14 15 = true := by kernel_rfl
theorem behindC_14_16 : behindC 14 16 = true := by kernel_rfl
theorem behindC_14_17 : behindC 14 17 = true := by kernel_rfl
theorem behindC_14_18 : behindC 14 18 = true := by kernel_rfl
theorem behindC_14_19 : behindC 14 19 = true := by kernel_rfl
theorem behindC_14_20 : behindC 14 20 = true := by kernel_rfl
theorem behindC_14_21 : behindC 14 21 = true := by kernel_rfl
theorem behindC_14_22 : behindC 14 22 = true := by kernel_rfl
theorem behindC_14_23 : behindC 14 23 = true := by kernel_rfl
theorem behindC_15_0 : behindC 15 0 = true := by kernel_rfl
theorem behindC_15_1 : behindC 15 1 = true := by kernel_rfl
theorem behindC_15_2 : behindC 15 2 = true := by kernel_rfl
theorem behindC_15_3 : behindC 15 3 = true := by kernel_rfl
theorem behindC_15_4 : behindC 15 4 = true := by kernel_rfl
theorem behindC_15_5 : behindC 15 5 = true := by kernel_rfl
theorem behindC_15_6 : behindC 15 6 = true := by kernel_rfl
theorem behindC_15_7 : behindC 15 7 = true := by kernel_rfl
theorem behindC_15_8 : behindC 15 8 = true := by kernel_rfl
theorem behindC_15_9 : behindC 15 9 = true := by kernel_rfl
theorem behindC_15_10 : behindC 15 10 = true := by kernel_rfl
theorem behindC_15_11 : behindC 15 11 = true := by kernel_rfl
theorem behindC_15_12 : behindC 15 12 = true := by kernel_rfl
theorem behindC_15_13 : behindC 15 13 = true := by kernel_rfl
theorem behindC_15_14 : behindC 15 14 = true := by kernel_rfl
theorem behindC_15_15 : behindC 15 15 = true := by kernel_rfl
theorem behindC_15_16 : behindC 15 16 = true := by kernel_rfl
theorem behindC_15_17 : behindC 15 17 = true := by kernel_rfl
theorem behindC_15_18 : behindC 15 18 = true := by kernel_rfl
theorem behindC_15_19 : behindC 15 19 = true := by kernel_rfl
theorem behindC_15_20 : behindC 15 20 = true := by kernel_rfl
theorem behindC_15_21 : behindC 15 21 = true := by kernel_rfl
theorem behindC_15_22 : behindC 15 22 = true := by kernel_rfl
theorem behindC_15_23 : behindC 15 23 = true := by kernel_rfl
theorem behindC_14 (m : Nat) (h : m < 24) : behindC 14 m = true := by
  match m, h with
  | 0, _ => exact behindC_14_0
  | 1, _ => exact behindC_14_1
  | 2, _ => exact behindC_14_2
  | 3, _ => exact behindC_14_3
  | 4, _ => exact behindC_14_4
  | 5, _ => exact behindC_14_5
  | 6, _ => exact behindC_14_6
  | 7, _ => exact behindC_14_7
  | 8, _ => exact behindC_14_8
  | 9, _ => exact behindC_14_9
  | 10, _ => exact behindC_14_10
  | 11, _ => exact behindC_14_11
  | 12, _ => exact behindC_14_12
  | 13, _ => exact behindC_14_13
  | 14, _ => exact behindC_14_14
  | 15, _ => exact behindC_14_15
  | 16, _ => exact behindC_14_16
  | 17, _ => exact behindC_14_17
  | 18, _ => exact behindC_14_18
  | 19, _ => exact behindC_14_19
  | 20, _ => exact behindC_14_20
  | 21, _ => exact behindC_14_21
  | 22, _ => exact behindC_14_22
  | 23, _ => exact behindC_14_23
  | n + 24, h => omega
theorem behindC_15 (m : Nat) (h : m < 24) : behindC 15 m = true := by
  match m, h with
  | 0, _ => exact behindC_15_0
  | 1, _ => exact behindC_15_1
  | 2, _ => exact behindC_15_2
  | 3, _ => exact behindC_15_3
  | 4, _ => exact behindC_15_4
  | 5, _ => exact behindC_15_5
  | 6, _ => exact behindC_15_6
  | 7, _ => exact behindC_15_7
  | 8, _ => exact behindC_15_8
  | 9, _ => exact behindC_15_9
  | 10, _ => exact behindC_15_10
  | 11, _ => exact behindC_15_11
  | 12, _ => exact behindC_15_12
  | 13, _ => exact behindC_15_13
  | 14, _ => exact behindC_15_14
  | 15, _ => exact behindC_15_15
  | 16, _ => exact behindC_15_16
  | 17, _ => exact behindC_15_17
  | 18, _ => exact behindC_15_18
  | 19, _ => exact behindC_15_19
  | 20, _ => exact behindC_15_20
  | 21, _ => exact behindC_15_21
  | 22, _ => exact behindC_15_22
  | 23, _ => exact behindC_15_23
  | n + 24, h => omega
end Go.Proofs.Ytcldfmnkeiogdaa
set_option linter.unusedVariables false
set_option linter.unusedSimpArgs false
namespace Go.Proofs.Ytcldfmnkeiogdaa
open Go.Am Go.RowKit
theorem behindC_16_0 : behindC 16 0 = true := by kernel_rfl
theorem behindC_16_1 : behindC 16 1 = true := by kernel_rfl
theorem behindC_16_2 : behindC 16 2 = true := by kernel_rfl
theorem behindC_16_3 : behindC 16 3 = true := by kernel_rfl
theorem behindC_16_4 : behindC 16 4 = true := by kernel_rfl
theorem behindC_16_5 : behindC 16 5 = true := by kernel_rfl
theorem behindC_16_6 : behindC 16 6 = true := by kernel_rfl
theorem behindC_16_7 : behindC 16 7 = true := by kernel_rfl
theorem behindC_16_8 : behindC 16 8 = true := by kernel_rfl
theorem behindC_16_9 : behindC 16 9 = true := by kernel_rfl
theorem behindC_16_10 : behindC 16 10 = true := by kernel_rfl
theorem behindC_16_11 : behindC 16 11 = true := by kernel_rfl
theorem behindC_16_12 : behindC 16 12 = true := by kernel_rfl
theorem behindC_16_13 : behindC 16 13 = true := by kernel_rfl
theorem behindC_16_14 : behindC 16 14 = true := by kernel_rfl
theorem behindC_16_15 : behindC 16 15 = true := by kernel_rfl
theorem behindC_16_16 : behindC 16 16 = true := by kernel_rfl
theorem behindC_16_17 : behindC 16 17 = true := by kernel_rfl
theorem behindC_16_18 : behindC 16 18 = true := by kernel_rfl
theorem behindC_16_19 : behindC 16 19 = true := by kernel_rfl
theorem behindC_16_20 : behindC 16 20 = true := by kernel_rfl
theorem behindC_16_21 : behindC 16 21 = true := by kernel_rfl
theorem behindC_16_22 : behindC 16 22 = true := by kernel_rfl
theorem behindC_16_23 : behindC 16 23 = true := by kernel_rfl
theorem behindC_17_0 : behindC 17 0 = true := by kernel_rfl
theorem behindC_17_1 : behindC 17 1 = true := by kernel_rfl
theorem behindC_17_2 : behindC 17 2 = true := by kernel_rfl
theorem behindC_17_3 : behindC 17 3 = true := by kernel_rfl
theorem behindC_17_4 : behindC 17 4 = true := by kernel_rfl
theorem behindC_17_5 : behindC 17 5 = true := by kernel_rfl
theorem behindC_17_6 : behindC 17 6 = true := by kernel_rfl
theorem behindC_17_7 : behindC 17 7 = true := by kernel_rfl
theorem behindC_17_8 : behindC 17 8 = true := by kernel_rfl
theorem behindC_17_9 : behindC 17 9 = true := by kernel_rfl
theorem behindC_17_10 : behindC 17 10 = true := by kernel_rfl
theorem behindC_17_11 : behindC 17 11 = true := by kernel_rfl
theorem behindC_17_12 : behindC 17 12 = true := by kernel_rfl
theorem behindC_17_13 : behindC 17 13 = true := by kernel_rfl
theorem behindC_17_14 : behindC 17 14 = true := by kernel_rfl
theorem behindC_17_15 : behindC 17 15 = true := by kernel_rfl
theorem behindC_17_16 : behindC 17 16 = true := by kernel_rfl
theorem behindC_17_17 : behindC 17 17 = true := by kernel_rfl
theorem behindC_17_18 : behindC 17 18 = true := by kernel_rfl
theorem behindC_17_19 : behindC 17 19 = true := by kernel_rfl
theorem behindC_17_20 : behindC 17 20 = true := by kernel_rfl
theorem behindC_17_21 : behindC 17 21 = true := by kernel_rfl
theorem behindC_17_22 : behindC 17 22 = true := by kernel_rfl
theorem behindC_17_23 : behindC 17 23 = true := by kernel_rfl
theorem behindC_16 (m : Nat) (h : m < 24) : behindC 16 m = true := by
  match m, h with
  | 0, _ => exact behindC_16_0
  | 1, _ => exact behindC_16_1
  | 2, _ => exact behindC_16_2
  | 3, _ => exact behindC_16_3
  | 4, _ => exact behindC_16_4
  | 5, _ => exact behindC_16_5
  | 6, _ => exact behindC_16_6
  | 7, _ => exact behindC_16_7
  | 8, _ => exact behindC_16_8
  | 9, _ => exact behindC_16_9
  | 10, _ => exact behindC_16_10
  | 11, _ => exact behindC_16_11
  | 12, _ => exact behindC_16_12
  | 13, _ => exact behindC_16_13
  | 14, _ => exact behindC_16_14
  | 15, _ => exact behindC_16_15
  | 16, _ => exact behindC_16_16
  | 17, _ => exact behindC_16_17
  | 18, _ => exact behindC_16_18
  | 19, _ => exact behindC_16_19
  | 20, _ => exact behindC_16_20
  | 21, _ => exact behindC_16_21
  | 22, _ => exact behindC_16_22
  | 23, _ => exact behindC_16_23
  | n + 24, h => omega
theorem behindC_17 (m : Nat) (h : m < 24) : behindC 17 m = true := by
  match m, h with
  | 0, _ => exact behindC_17_0
  | 1, _ => exact behindC_17_1
  | 2, _ => exact behindC_17_2
  | 3, _ => exact behindC_17_3
  | 4, _ => exact behindC_17_4
  | 5, _ => exact behindC_17_5
  | 6, _ => exact behindC_17_6
  | 7, _ => exact behindC_17_7
  | 8, _ => exact behindC_17_8
  | 9, _ => exact behindC_17_9
  | 10, _ => exact behindC_17_10
  | 11, _ => exact behindC_17_11
  | 12, _ => exact behindC_17_12
  | 13, _ => exact behindC_17_13
  | 14, _ => exact behindC_17_14
  | 15, _ => exact behindC_17_15
  | 16, _ => exact behindC_17_16
  | 17, _ => exact behindC_17_17
  | 18, _ => exact behindC_17_18
  | 19, _ => exact behindC_17_19
  | 20, _ => exact behindC_17_20
  | 21, _ => exact behindC_17_21
  | 22, _ => exact behindC_17_22
  | 23, _ => exact behindC_17_23
  | n + 24, h => omega
end Go.Proofs.Ytcldfmnkeiogdaa
set_option linter.unusedVariables false
set_option linter.unusedSimpArgs false
namespace Go.Proofs.Ytcldfmnkeiogdaa
open Go.Am Go.RowKit
theorem behindC_18_0 : behindC 18 0 = true := by kernel_rfl
theorem behindC_18_1 : behindC 18 1 = true := by kernel_rfl
theorem behindC_18_2 : behindC 18 2 = true := by kernel_rfl
theorem behindC_18_3 : behindC 18 3 = true := by kernel_rfl
theorem behindC_18_4 : behindC 18 4 = true := by kernel_rfl
theorem behindC_18_5 : behindC 18 5 = true := by kernel_rfl
theorem behindC_18_6 : behindC 18 6 = true := by kernel_rfl
theorem behindC_18_7 : behindC 18 7 = true := by kernel_rfl
theorem behindC_18_8 : behindC 18 8 = true := by kernel_rfl
theorem behindC_18_9 : behindC 18 9 = true := by kernel_rfl
theorem behindC_18_10 : behindC 18 10 = true := by kernel_rfl
theorem behindC_18_11 : behindC 18 11 = true := by kernel_rfl
theorem behindC_18_12 : behindC 18 12 = true := by kernel_rfl
theorem behindC_18_13 : behindC 18 13 = true := by kernel_rfl
theorem behindC_18_14 : behindC 18 14 = true := by kernel_rfl
theorem behindC_18_15 : behindC 18 15 = true := by kernel_rfl
theorem behindC_18_16 : behindC 18 16 = true := by kernel_rfl
theorem behindC_18_17 : behindC 18 17 = true := by kernel_rfl
theorem behindC_18_18 : behindC 18 18 = true := by kernel_rfl
theorem behindC_18_19 : behindC 18 19 = true := by kernel_rfl
theorem behindC_18_20 : behindC 18 20 = true := by kernel_rfl
theorem behindC_18_21 : behindC 18 21 = true := by kernel_rfl
theorem behindC_18_22 : behindC 18 22 = true := by kernel_rfl
theorem behindC_18_23 : behindC 18 23 = true := by kernel_rfl
theorem behindC_19_0 : behindC 19 0 = true := by kernel_rfl
theorem behindC_19_1 : behindC 19 1 = true := by kernel_rfl
theorem behindC_19_2 : behindC 19 2 = true := by kernel_rfl
theorem behindC_19_3 : behindC 19 3 = true := by kernel_rfl
theorem behindC_19_4 : behindC 19 4 = true := by kernel_rfl
theorem behindC_19_5 : behindC 19 5 = true := by kernel_rfl
theorem behindC_19_6 : behindC 19 6 = true := by kernel_rfl
theorem behindC_19_7 : behindC 19 7 = true := by kernel_rfl
theorem behindC_19_8 : behindC 19 8 = true := by kernel_rfl
theorem behindC_19_9 : behindC 19 9 = true := by kernel_rfl
theorem behindC_19_10 : behindC 19 10 = true := by kernel_rfl
theorem behindC_19_11 : behindC 19 11 = true := by kernel_rfl
theorem behindC_19_12 : behindC 19 12 = true := by kernel_rfl
theorem behindC_19_13 : behindC 19 13 = true := by kernel_rfl
theorem behindC_19_14 : behindC 19 14 = true := by kernel_rfl
theorem behindC_19_15 : behindC 19 15 = true := by kernel_rfl
theorem behindC_19_16 : behindC 19 16 = true := by kernel_rfl
theorem behindC_19_17 : behindC 19 17 = true := by kernel_rfl
theorem behindC_19_18 : behindC 19 18 = true := by kernel_rfl
theorem behindC_19_19 : behindC 19 19 = true := by kernel_rfl
theorem behindC_19_20 : behindC 19 20 = true := by kernel_rfl
theorem behindC_19_21 : behindC 19 21 = true := by kernel_rfl
theorem behindC_19_22 : behindC 19 22 = true := by kernel_rfl
theorem behindC_19_23 : behindC 19 23 = true := by kernel_rfl
theorem behindC_18 (m : Nat) (h : m < 24) : behindC 18 m = true := by
  match m, h with
  | 0, _ => exact behindC_18_0
  | 1, _ => exact behindC_18_1
  | 2, _ => exact behindC_18_2
  | 3, _ => exact behindC_18_3
  | 4, _ => exact behindC_18_4
  | 5, _ => exact behindC_18_5
  | 6, _ => exact behindC_18_6
  | 7, _ => exact behindC_18_7
  | 8, _ => exact behindC_18_8
  | 9, _ => exact behindC_18_9
  | 10, _ => exact behindC_18_10
  | 11, _ => exact behindC_18_11
  | 12, _ => exact behindC_18_12
  | 13, _ => exact behindC_18_13
  | 14, _ => exact behindC_18_14
  | 15, _ => exact behindC_18_15
  | 16, _ => exact behindC_18_16
  | 17, _ => exact behindC_18_17
  | 18, _ => exact behindC_18_18
  | 19, _ => exact behindC_18_19
  | 20, _ => exact behindC_18_20
  | 21, _ => exact behindC_18_21
  | 22, _ => exact behindC_18_22
  | 23, _ => exact behindC_18_23
  | n + 24, h => omega
theorem behindC_19 (m : Nat) (h : m < 24) : behindC 19 m = true := by
  match m, h with
  | 0, _ => exact behindC_19_0
  | 1, _ => exact behindC_19_1
  | 2, _ => exact behindC_19_2
  | 3, _ => exact behindC_19_3
  | 4, _ => exact behindC_19_4
  | 5, _ => exact behindC_19_5
  | 6, _ => exact behindC_19_6
  | 7, _ => exact behindC_19_7
  | 8, _ => exact behindC_19_8
  | 9, _ => exact behindC_19_9
  | 10, _ => exact behindC_19_10
  | 11, _ => exact behindC_19_11
  | 12, _ => exact behindC_19_12
  | 13, _ => exact behindC_19_13
  | 14, _ => exact behindC_19_14
  | 15, _ => exact behindC_19_15
  | 16, _ => exact behindC_19_16
  | 17, _ => exact behindC_19_17
  | 18, _ => exact behindC_19_18
  | 19, _ => exact behindC_19_19
  | 20, _ => exact behindC_19_20
  | 21, _ => exact behindC_19_21
  | 22, _ => exact behindC_19_22
  | 23, _ => exact behindC_19_23
  | n + 24, h => omega
end Go.Proofs.Ytcldfmnkeiogdaa
set_option linter.unusedVariables false
set_option linter.unusedSimpArgs false
namespace Go.Proofs.Ytcldfmnkeiogdaa
open Go.Am Go.RowKit
theorem behindC_20_0 : behindC 20 0 = true := by kernel_rfl
theorem behindC_20_1 : behindC 20 1 = true := by kernel_rfl
theorem behindC_20_2 : behindC 20 2 = true := by kernel_rfl
theorem behindC_20_3 : behindC 20 3 = true := by kernel_rfl
theorem behindC_20_4 : behindC 20 4 = true := by kernel_rfl
theorem behindC_20_5 : behindC 20 5 = true := by kernel_rfl
theorem behindC_20_6 : behindC 20 6 = true := by kernel_rfl
theorem behindC_20_7 : behindC 20 7 = true := by kernel_rfl
theorem behindC_20_8 : behindC 20 8 = true := by kernel_rfl
theorem behindC_20_9 : behindC 20 9 = true := by kernel_rfl
theorem behindC_20_10 : behindC 20 10 = true := by kernel_rfl
theorem behindC_20_11 : behindC 20 11 = true := by kernel_rfl
theorem behindC_20_12 : behindC 20 12 = true := by kernel_rfl
theorem behindC_20_13 : behindC 20 13 = true := by kernel_rfl
theorem behindC_20_14 : behindC 20 14 = true := by kernel_rfl
theorem behindC_20_15 : behindC 20 15 = true := by kernel_rfl
theorem behindC_20_16 : behindC 20 16 = true := by kernel_rfl
theorem behindC_20_17 : behindC 20 17 = true := by kernel_rfl
theorem behindC_20_18 : behindC 20 18 = true := by kernel_rfl
theorem behindC_20_19 : behindC 20 19 = true := by kernel_rfl
theorem behindC_20_20 : behindC 20 20 = true := by kernel_rfl
theorem behindC_20_21 : behindC 20 21 = true := by kernel_rfl
theorem behindC_20_22 : behindC 20 22 = true := by kernel_rfl
theorem behindC_20_23 : behindC 20 23 = true := by kernel_rfl
theorem behindC_21_0 : behindC 21 0 = true := by kernel_rfl
theorem behindC_21_1 : behindC 21 1 = true := by kernel_rfl
theorem behindC_21_2 : behindC 21 2 = true := by kernel_rfl
theorem behindC_21_3 : behindC 21 3 = true := by kernel_rfl
theorem behindC_21_4 : behindC 21 4 = true := by kernel_rfl
theorem behindC_21_5 : behindC 21 5 = true := by kernel_rfl
theorem behindC_21_6 : behindC 21 6 = true := by kernel_rfl
theorem behindC_21_7 : behindC 21 7 = true := by kernel_rfl
theorem behindC_21_8 : behindC 21 8 = true := by kernel_rfl
theorem behindC_21_9 : behindC 21 9 = true := by kernel_rfl
theorem behindC_21_10 : behindC 21 10 = true := by kernel_rfl
theorem behindC_21_11 : behindC 21 11 = true := by kernel_rfl
theorem behindC_21_12 : behindC 21 12 = true := by kernel_rfl
theorem behindC_21_13 : behindC 21 13 = true := by kernel_rfl
theorem behindC_21_14 : behindC 21 14 = true := by kernel_rfl
theorem behindC_21_15 : behindC 21 15 = true := by kernel_rfl
theorem behindC_21_16 : behindC 21 16 = true := by kernel_rfl
theorem behindC_21_17 : behindC 21 17 = true := by kernel_rfl
theorem behindC_21_18 : behindC 21 18 = true := by kernel_rfl
theorem behindC_21_19 : behindC 21 19 = true := by kernel_rfl
theorem behindC_21_20 : behindC 21 20 = true := by kernel_rfl
theorem behindC_21_21 : behindC 21 21 = true := by kernel_rfl
theorem behindC_21_22 : behindC 21 22 = true := by kernel_rfl
theorem behindC_21_23 : behindC 21 23 = true := by kernel_rfl
theorem behindC_20 (m : Nat) (h : m < 24) : behindC 20 m = true := by
  match m, h with
  | 0, _ => exact behindC_20_0
  | 1, _ => exact behindC_20_1
  | 2, _ => exact behindC_20_2
  | 3, _ => exact behindC_20_3
  | 4, _ => exact behindC_20_4
  | 5, _ => exact behindC_20_5
  | 6, _ => exact behindC_20_6
  | 7, _ => exact behindC_20_7
  | 8, _ => exact behindC_20_8
  | 9, _ => exact behindC_20_9
  | 10, _ => exact behindC_20_10
  | 11, _ => exact behindC_20_11
  | 12, _ => exact behindC_20_12
  | 13, _ => exact behindC_20_13
  | 14, _ => exact behindC_20_14
  | 15, _ => exact behindC_20_15
  | 16, _ => exact behindC_20_16
  | 17, _ => exact behindC_20_17
  | 18, _ => exact behindC_20_18
  | 19, _ => exact behindC_20_19
  | 20, _ => exact behindC_20_20
  | 21, _ => exact behindC_20_21
  | 22, _ => exact behindC_20_22
  | 23, _ => exact behindC_20_23
  | n + 24, h => omega
theorem behindC_21 (m : Nat) (h : m < 24) : behindC 21 m = true := by
  match m, h with
  | 0, _ => exact behindC_21_0
  | 1, _ => exact behindC_21_1
  | 2, _ => exact behindC_21_2
  | 3, _ => exact behindC_21_3
  | 4, _ => exact behindC_21_4
  | 5, _ => exact behindC_21_5
  | 6, _ => exact behindC_21_6
  | 7, _ => exact behindC_21_7
  | 8, _ => exact behindC_21_8
  | 9, _ => exact behindC_21_9
  | 10, _ => exact behindC_21_10
  | 11, _ => exact behindC_21_11
  | 12, _ => exact behindC_21_12
  | 13, _ => exact behindC_21_13
  | 14, _ => exact behindC_21_14
  | 15, _ => exact behindC_21_15
  | 16, _ => exact behindC_21_16
  | 17, _ => exact behindC_21_17
  | 18, _ => exact behindC_21_18
  | 19, _ => exact behindC_21_19
  | 20, _ => exact behindC_21_20
  | 21, _ => exact behindC_21_21
  | 22, _ => exact behindC_21_22
  | 23, _ => exact behindC_21_23
  | n + 24, h => omega
end Go.Proofs.Ytcldfmnkeiogdaa
set_option linter.unusedVariables false
set_option linter.unusedSimpArgs false
namespace Go.Proofs.Ytcldfmnkeiogdaa
open Go.Am Go.RowKit
theorem behindC_22_0 : behindC 22 0 = true := by kernel_rfl
theorem behindC_22_1 : behindC 22 1 = true := by kernel_rfl
theorem behindC_22_2 : behindC 22 2 = true := by kernel_rfl
theorem behindC_22_3 : behindC 22 3 = true := by kernel_rfl
theorem behindC_22_4 : behindC 22 4 = true := by kernel_rfl
theorem behindC_22_5 : behindC 22 5 = true := by kernel_rfl
theorem behindC_22_6 : behindC 22 6 = true := by kernel_rfl
theorem behindC_22_7 : behindC 22 7 = true := by kernel_rfl
theorem behindC_22_8 : behindC 22 8 = true := by kernel_rfl
theorem behindC_22_9 : behindC 22 9 = true := by kernel_rfl
theorem behindC_22_10 : behindC 22 10 = true := by kernel_rfl
theorem behindC_22_11 : behindC 22 11 = true := by kernel_rfl
theorem behindC_22_12 : behindC 22 12 = true := by kernel_rfl
theorem behindC_22_13 : behindC 22 13 = true := by kernel_rfl
theorem behindC_22_14 : behindC 22 14 = true := by kernel_rfl
theorem behindC_22_15 : behindC 22 15 = true := by kernel_rfl
theorem behindC_22_16 : behindC 22 16 = true := by kernel_rfl
theorem behindC_22_17 : behindC 22 17 = true := by kernel_rfl
theorem behindC_22_18 : behindC 22 18 = true := by kernel_rfl
theorem behindC_22_19 : behindC 22 19 = true := by kernel_rfl
theorem behindC_22_20 : behindC 22 20 = true := by kernel_rfl
theorem behindC_22_21 : behindC 22 21 = true := by kernel_rfl
theorem behindC_22_22 : behindC 22 22 = true := by kernel_rfl
theorem behindC_22_23 : behindC 22 23 = true := by kernel_rfl
theorem behindC_23_0 : behindC 23 0 = true := by kernel_rfl
theorem behindC_23_1 : behindC 23 1 = true := by kernel_rfl
theorem behindC_23_2 : behindC 23 2 = true := by kernel_rfl
theorem behindC_23_3 : behindC 23 3 = true := by kernel_rfl
theorem behindC_23_4 : behindC 23 4 = true := by kernel_rfl
theorem behindC_23_5 : behindC 23 5 = true := by kernel_rfl
theorem behindC_23_6 : behindC 23 6 = true := by kernel_rfl
theorem behindC_23_7 : behindC 23 7 = true := by kernel_rfl
theorem behindC_23_8 : behindC 23 8 = true := by kernel_rfl
theorem behindC_23_9 : behindC 23 9 = true := by kernel_rfl
theorem behindC_23_10 : behindC 23 10 = true := by kernel_rfl
theorem behindC_23_11 : behindC 23 11 = true := by kernel_rfl
theorem behindC_23_12 : behindC 23 12 = true := by kernel_rfl
theorem behindC_23_13 : behindC 23 13 = true := by kernel_rfl
theorem behindC_23_14 : behindC 23 14 = true := by kernel_rfl
theorem behindC_23_15 : behindC 23 15 = true := by kernel_rfl
theorem behindC_23_16 : behindC 23 16 = true := by kernel_rfl
theorem behindC_23_17 : behindC 23 17 = true := by kernel_rfl
theorem behindC_23_18 : behindC 23 18 = true := by kernel_rfl
theorem behindC_23_19 : behindC 23 19 = true := by kernel_rfl
theorem behindC_23_20 : behindC 23 20 = true := by kernel_rfl
theorem behindC_23_21 : behindC 23 21 = true := by kernel_rfl
theorem behindC_23_22 : behindC 23 22 = true := by kernel_rfl
theorem behindC_23_23 : behindC 23 23 = true := by kernel_rfl
theorem behindC_22 (m : Nat) (h : m < 24) : behindC 22 m = true := by
  match m, h with
  | 0, _ => exact behindC_22_0
  | 1, _ => exact behindC_22_1
  | 2, _ => exact behindC_22_2
  | 3, _ => exact behindC_22_3
  | 4, _ => exact behindC_22_4
  | 5, _ => exact behindC_22_5
  | 6, _ => exact behindC_22_6
  | 7, _ => exact behindC_22_7
  | 8, _ => exact behindC_22_8
  | 9, _ => exact behindC_22_9
  | 10, _ => exact behindC_22_10
  | 11, _ => exact behindC_22_11
  | 12, _ => exact behindC_22_12
  | 13, _ => exact behindC_22_13
  | 14, _ => exact behindC_22_14
  | 15, _ => exact behindC_22_15
  | 16, _ => exact behindC_22_16
  | 17, _ => exact behindC_22_17
  | 18, _ => exact behindC_22_18
  | 19, _ => exact behindC_22_19
  | 20, _ => exact behindC_22_20
  | 21, _ => exact behindC_22_21
  | 22, _ => exact behindC_22_22
  | 23, _ => exact behindC_22_23
  | n + 24, h => omega
theorem behindC_23 (m : Nat) (h : m < 24) : behindC 23 m = true := by
  match m, h with
  | 0, _ => exact behindC_23_0
  | 1, _ => exact behindC_23_1
  | 2, _ => exact behindC_23_2
  | 3, _ => exact behindC_23_3
  | 4, _ => exact behindC_23_4
  | 5, _ => exact behindC_23_5
  | 6, _ => exact behindC_23_6
  | 7, _ => exact behindC_23_7
  | 8, _ => exact behindC_23_8
  | 9, _ => exact behindC_23_9
  | 10, _ => exact behindC_23_10
  | 11, _ => exact behindC_23_11
  | 12, _ => exact behindC_23_12
  | 13, _ => exact behindC_23_13
  | 14, _ => exact behindC_23_14
  | 15, _ => exact behindC_23_15
  | 16, _ => exact behindC_23_16
  | 17, _ => exact behindC_23_17
  | 18, _ => exact behindC_23_18
  | 19, _ => exact behindC_23_19
  | 20, _ => exact behindC_23_20
  | 21, _ => exact behindC_23_21
  | 22, _ => exact behindC_23_22
  | 23, _ => exact behindC_23_23
  | n + 24, h => omega
end Go.Proofs.Ytcldfmnkeiogdaa
set_option linter.unusedVariables false
set_option linter.unusedSimpArgs false
namespace Go.Am
open Go.RowKit Go.ChangeShapes Go.WideShapes Go.ChangeAt
section
variable {H : Type} {enc : TypeId × Value → H} {P : Program} {W : World} {base : Nat} {spare : Nat → Bool} {held : Bool}
end
end Go.Am
namespace Go.Am
open Go.RowKit Go.ChangeShapes Go.WideShapes Go.ChangeAt
end Go.Am
namespace Go.Am
open Go.RowKit Go.ChangeShapes Go.WideShapes Go.ChangeAt
end Go.Am
set_option linter.unusedVariables false
set_option linter.unusedSimpArgs false
namespace Go.Am
open Go.RowKit Go.ChangeShapes Go.WideShapes Go.ChangeAt
end Go.Am
set_option linter.unusedVariables false
set_option linter.unusedSimpArgs false
namespace Go.Am
open Go.RowKit Go.ChangeShapes Go.WideShapes Go.ChangeAt
end Go.Am
set_option linter.unusedVariables false
set_option linter.unusedSimpArgs false
namespace Go.Am
open Go.RowKit
structure Sides (X Y Z : Nat) : Prop where
  x0 : 1 ≤ X
  x4 : X ≤ 4
  y0 : 1 ≤ Y
  y4 : Y ≤ 4
  z0 : 1 ≤ Z
  z4 : Z ≤ 4
theorem Sides.size {X Y Z : Nat} (h : Sides X Y Z) : X * Y * Z ≤ 64 := (size_le h.x4 h.y4 h.z4).2
theorem Sides.pow {X Y Z : Nat} (h : Sides X Y Z) : 2 ^ (X * Y * Z) ≤ 18446744073709551616 := by
  have := Nat.pow_le_pow_right (n := 2) (by decide) h.size
  simpa using this
def HeapL (X Y Z : Nat) (L : List A3) : Prop := ∃ p, L = fl Y Z (X * Y * Z) p
theorem HeapL.list (X Y Z s : Nat) : HeapL X Y Z (listOf X Y Z s) := ⟨_, listOf_fl X Y Z s⟩
theorem HeapL.nil (X Y Z : Nat) : HeapL X Y Z [] := ⟨fun _ => false, by simp [fl]⟩
theorem HeapL.all (X Y Z : Nat) : HeapL X Y Z (allOf X Y Z) := ⟨fun _ => true, by unfold fl allOf; congr 1; exact (List.filter_eq_self.2 fun _ _ => rfl).symm⟩
theorem HeapL.len {X Y Z : Nat} {L : List A3} (h : HeapL X Y Z L) : L.length ≤ X * Y * Z := by
  obtain ⟨p, rfl⟩ := h; exact fl_length _ _ _ _
theorem HeapL.lt {X Y Z : Nat} {L : List A3} (h : HeapL X Y Z L) (hs : Sides X Y Z) : setOf Y Z L < 2 ^ (X * Y * Z) := by
  apply Nat.lt_pow_two_of_testBit
  intro i hi
  obtain ⟨p, rfl⟩ := h
  rw [setOf_fl hs.y0 hs.z0]
  simp
  omega
theorem HeapL.lt64 {X Y Z : Nat} {L : List A3} (h : HeapL X Y Z L) (hs : Sides X Y Z) : setOf Y Z L < 18446744073709551616 := Nat.lt_of_lt_of_le (h.lt hs) hs.pow
theorem HeapL.eq {X Y Z : Nat} {L : List A3} (h : HeapL X Y Z L) (hs : Sides X Y Z) : listOf X Y Z (setOf Y Z L) = L := by
  obtain ⟨p, rfl⟩ := h; exact listOf_setOf hs.y0 hs.z0 p
theorem filter_fl {Y Z n : Nat} (p : Nat → Bool) (q : A3 → Bool) : (fl Y Z n p).filter q = fl Y Z n fun i => p i && q (cellOf Y Z i) := by
  unfold fl
  rw [List.filter_map, List.filter_filter]
  congr 1
  apply List.filter_congr
  intro i _
  simp [Bool.and_comm]
theorem HeapL.filter {X Y Z : Nat} {L : List A3} (h : HeapL X Y Z L) (q : A3 → Bool) : HeapL X Y Z (L.filter q) := by
  obtain ⟨p, rfl⟩ := h; exact ⟨_, filter_fl p q⟩
def andn (s t : Nat) : Nat := s ^^^ (s &&& t)
theorem andn_bit (s t i : Nat) : (andn s t).testBit i = (s.testBit i && !t.testBit i) := by
  unfold andn
  rw [Nat.testBit_xor, Nat.testBit_and]
  cases s.testBit i <;> cases t.testBit i <;> rfl
theorem andn_le (s t : Nat) : andn s t ≤ s := by
  apply Nat.le_of_testBit
  intro i h
  rw [andn_bit] at h
  simp at h
  exact h.1
theorem or_lt64 {a b : Nat} (ha : a < 18446744073709551616) (hb : b < 18446744073709551616) : a ||| b < 18446744073709551616 := by
  have := Nat.or_lt_two_pow (n := 64) (x := a) (y := b) (by simpa using ha) (by simpa using hb)
  simpa using this
theorem and_lt64 {a b : Nat} (ha : a < 18446744073709551616) : a &&& b < 18446744073709551616 := Nat.lt_of_le_of_lt Nat.and_le_left ha
theorem andn_lt64 {a b : Nat} (ha : a < 18446744073709551616) : andn a b < 18446744073709551616 := Nat.lt_of_le_of_lt (andn_le a b) ha
end Go.Am
set_option linter.unusedVariables false
set_option linter.unusedSimpArgs false
namespace Go.Am
open Go.RowKit
end Go.Am
namespace Go.Am
end Go.Am
namespace Go.Am
end Go.Am
namespace Go.Am
end Go.Am
namespace Go.Am
def SmallL (L : List A3) : Prop := ∀ c ∈ L, (0 ≤ c.x ∧ c.x ≤ 4) ∧ (0 ≤ c.y ∧ c.y ≤ 4) ∧ (0 ≤ c.z ∧ c.z ≤ 4)
theorem SmallL.at {L : List A3} (h : SmallL L) {i : Nat} (hi : i < L.length) : (0 ≤ (L.getD i default).x ∧ (L.getD i default).x ≤ 4) ∧ (0 ≤ (L.getD i default).y ∧ (L.getD i default).y ≤ 4) ∧ (0 ≤ (L.getD i default).z ∧ (L.getD i default).z ≤ 4) := h _ (getD_mem hi)
end Go.Am
namespace Go.Am
end Go.Am
set_option linter.unusedVariables false
set_option linter.unusedSimpArgs false
namespace Go.Am
open Go.RowKit
end Go.Am
namespace Go.Am
end Go.Am
set_option linter.unusedVariables false
set_option linter.unusedSimpArgs false
namespace Go.Am
open Go.RowKit
section
variable {P : Program} {C : Ctx P}
end
theorem inR_le {n lo hi : Int} (h : inR n lo hi = true) : lo ≤ n ∧ n ≤ hi := by simpa [inR] using h
end Go.Am
