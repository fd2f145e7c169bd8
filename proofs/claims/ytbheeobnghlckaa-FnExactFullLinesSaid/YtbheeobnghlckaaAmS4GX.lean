/- Walks. No condition. -/
import Derived.Test.YtbheeobnghlckaaAmM
import Derived.Test.YtbheeobnghlckaaRows
set_option linter.unusedVariables false
set_option linter.unusedSimpArgs false
namespace Go.Proofs.Ytbheeobnghlckaa
open Go.Am Go.RowKit
theorem mixedT : Try.prog.follows .mixedOrders = true := by kernel_rfl
def cls (f : FuncId) : Cls := match f with
  | 111 => .N
  | 78 => .N
  | 110 => .N
  | 109 => .N
  | 80 => .S
  | 35 => .S
  | 22 => .N
  | 39 => .N
  | _ => .Q
noncomputable def cx : Ctx Try.prog := Ctx.std Try.prog cls mixedT
theorem ti2 : tiOf Try.prog 2 = some ⟨.int .i64, 1, 8, vI 0⟩ := by kernel_rfl
theorem ti3 : tiOf Try.prog 3 = some ⟨.int .i64, 1, 8, vI 0⟩ := by kernel_rfl
theorem ti4 : tiOf Try.prog 4 = some ⟨.bool, 1, 1, .bool false⟩ := by kernel_rfl
theorem ti5 : tiOf Try.prog 5 = some ⟨.int .u8, 1, 1, .int .u8 0⟩ := by kernel_rfl
theorem ti6 : tiOf Try.prog 6 = some ⟨.int .u8, 1, 1, .int .u8 0⟩ := by kernel_rfl
theorem ti7 : tiOf Try.prog 7 = some ⟨.struct [(0, 2), (1, 3), (2, 4), (3, 6)], 4, 24, .agg #[vI 0, vI 0, .bool false, .int .u8 0]⟩ := by kernel_rfl
theorem ti8 : tiOf Try.prog 8 = some ⟨.struct [(0, 2), (1, 3), (2, 4), (3, 6)], 4, 24, .agg #[vI 0, vI 0, .bool false, .int .u8 0]⟩ := by kernel_rfl
theorem ti12 : tiOf Try.prog 12 = some ⟨.int .u64, 1, 8, vU 0⟩ := by kernel_rfl
theorem ti21 : tiOf Try.prog 21 = some ⟨.int .i32, 1, 4, .int .i32 0⟩ := by kernel_rfl
theorem ti22 : tiOf Try.prog 22 = some ⟨.slice 3, 1, 24, .slice none 0 0⟩ := by kernel_rfl
theorem ti23 : tiOf Try.prog 23 = some ⟨.struct [(0, 3), (1, 3), (2, 3), (3, 22), (4, 22), (5, 22)], 6, 96, .agg #[vI 0, vI 0, vI 0, .slice none 0 0, .slice none 0 0, .slice none 0 0]⟩ := by kernel_rfl
theorem ti24 : tiOf Try.prog 24 = some ⟨.struct [(0, 3), (1, 3), (2, 3), (3, 22), (4, 22), (5, 22)], 6, 96, .agg #[vI 0, vI 0, vI 0, .slice none 0 0, .slice none 0 0, .slice none 0 0]⟩ := by kernel_rfl
theorem ti27 : tiOf Try.prog 27 = some ⟨.struct [(0, 3), (1, 3), (2, 3), (3, 22), (4, 22), (5, 22)], 6, 96, .agg #[vI 0, vI 0, vI 0, .slice none 0 0, .slice none 0 0, .slice none 0 0]⟩ := by kernel_rfl
theorem ti31 : tiOf Try.prog 31 = some ⟨.slice 74, 1, 24, .slice none 0 0⟩ := by kernel_rfl
theorem ti39 : tiOf Try.prog 39 = some ⟨.struct [(0, 3), (1, 3), (2, 3), (3, 31)], 4, 48, .agg #[vI 0, vI 0, vI 0, .slice none 0 0]⟩ := by kernel_rfl
theorem ti40 : tiOf Try.prog 40 = some ⟨.struct [(0, 3), (1, 3), (2, 3), (3, 31)], 4, 48, .agg #[vI 0, vI 0, vI 0, .slice none 0 0]⟩ := by kernel_rfl
theorem ti49 : tiOf Try.prog 49 = some ⟨.struct [(0, 3), (1, 3), (2, 3), (3, 31)], 4, 48, .agg #[vI 0, vI 0, vI 0, .slice none 0 0]⟩ := by kernel_rfl
theorem ti57 : tiOf Try.prog 57 = some ⟨.array 6 3, 6, 48, .agg #[vI 0, vI 0, vI 0, vI 0, vI 0, vI 0]⟩ := by kernel_rfl
theorem ti66 : tiOf Try.prog 66 = some ⟨.slice 22, 1, 24, .slice none 0 0⟩ := by kernel_rfl
theorem ti74 : tiOf Try.prog 74 = some ⟨.array 3 3, 3, 24, .agg #[vI 0, vI 0, vI 0]⟩ := by kernel_rfl
theorem ti75 : tiOf Try.prog 75 = some ⟨.array 3 3, 3, 24, .agg #[vI 0, vI 0, vI 0]⟩ := by kernel_rfl
theorem ti89 : tiOf Try.prog 89 = some ⟨.int .u64, 1, 8, vU 0⟩ := by kernel_rfl
theorem ti90 : tiOf Try.prog 90 = some ⟨.int .u64, 1, 8, vU 0⟩ := by kernel_rfl
theorem ti107 : tiOf Try.prog 107 = some ⟨.array 3 22, 3, 72, .agg #[.slice none 0 0, .slice none 0 0, .slice none 0 0]⟩ := by kernel_rfl
theorem ti118 : tiOf Try.prog 118 = some ⟨.array 6 74, 18, 144, .agg #[vI 0, vI 0, vI 0, vI 0, vI 0, vI 0, vI 0, vI 0, vI 0, vI 0, vI 0, vI 0, vI 0, vI 0, vI 0, vI 0, vI 0, vI 0]⟩ := by kernel_rfl
theorem ti130 : tiOf Try.prog 130 = some ⟨.array 0 16, 0, 0, .agg #[]⟩ := by kernel_rfl
theorem ti131 : tiOf Try.prog 131 = some ⟨.struct [(0, 130)], 0, 0, .agg #[]⟩ := by kernel_rfl
theorem ti132 : tiOf Try.prog 132 = some ⟨.struct [(0, 130)], 0, 0, .agg #[]⟩ := by kernel_rfl
theorem ti133 : tiOf Try.prog 133 = some ⟨.int .u32, 1, 4, .int .u32 0⟩ := by kernel_rfl
theorem ti134 : tiOf Try.prog 134 = some ⟨.int .u8, 1, 1, .int .u8 0⟩ := by kernel_rfl
theorem ti135 : tiOf Try.prog 135 = some ⟨.int .u8, 1, 1, .int .u8 0⟩ := by kernel_rfl
theorem ti138 : tiOf Try.prog 138 = some ⟨.int .i32, 1, 4, .int .i32 0⟩ := by kernel_rfl
theorem ti139 : tiOf Try.prog 139 = some ⟨.int .i32, 1, 4, .int .i32 0⟩ := by kernel_rfl
end Go.Proofs.Ytbheeobnghlckaa
