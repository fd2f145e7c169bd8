/- Walks. No condition. -/
import Derived.Test.YtenkiofddpjidaaAmM
import Derived.Test.YtenkiofddpjidaaRows
set_option linter.unusedVariables false
set_option linter.unusedSimpArgs false
namespace Go.Proofs.Ytenkiofddpjidaa
open Go.Am Go.RowKit
theorem mixedT : Try.prog.follows .mixedOrders = true := by kernel_rfl
def cls (f : FuncId) : Cls := match f with
  | 64 => .N
  | 59 => .N
  | 69 => .N
  | 68 => .N
  | 30 => .S
  | 23 => .S
  | 54 => .N
  | 17 => .N
  | _ => .Q
noncomputable def cx : Ctx Try.prog := Ctx.std Try.prog cls mixedT
theorem ti2 : tiOf Try.prog 2 = some ⟨.int .i64, 1, 8, .int .i64 0⟩ := by kernel_rfl
theorem ti3 : tiOf Try.prog 3 = some ⟨.int .i64, 1, 8, .int .i64 0⟩ := by kernel_rfl
theorem ti4 : tiOf Try.prog 4 = some ⟨.bool, 1, 1, .bool false⟩ := by kernel_rfl
theorem ti5 : tiOf Try.prog 5 = some ⟨.int .u8, 1, 1, .int .u8 0⟩ := by kernel_rfl
theorem ti6 : tiOf Try.prog 6 = some ⟨.int .u8, 1, 1, .int .u8 0⟩ := by kernel_rfl
theorem ti7 : tiOf Try.prog 7 = some ⟨.struct [(0, 2), (1, 3), (2, 4), (3, 6)], 4, 24, .agg #[.int .i64 0, .int .i64 0, .bool false, .int .u8 0]⟩ := by kernel_rfl
theorem ti8 : tiOf Try.prog 8 = some ⟨.struct [(0, 2), (1, 3), (2, 4), (3, 6)], 4, 24, .agg #[.int .i64 0, .int .i64 0, .bool false, .int .u8 0]⟩ := by kernel_rfl
theorem ti12 : tiOf Try.prog 12 = some ⟨.int .u64, 1, 8, .int .u64 0⟩ := by kernel_rfl
theorem ti21 : tiOf Try.prog 21 = some ⟨.int .i32, 1, 4, .int .i32 0⟩ := by kernel_rfl
theorem ti22 : tiOf Try.prog 22 = some ⟨.slice 25, 1, 24, .slice none 0 0⟩ := by kernel_rfl
theorem ti23 : tiOf Try.prog 23 = some ⟨.struct [(0, 3), (1, 3), (2, 3), (3, 22)], 4, 48, .agg #[.int .i64 0, .int .i64 0, .int .i64 0, .slice none 0 0]⟩ := by kernel_rfl
theorem ti24 : tiOf Try.prog 24 = some ⟨.struct [(0, 3), (1, 3), (2, 3), (3, 22)], 4, 48, .agg #[.int .i64 0, .int .i64 0, .int .i64 0, .slice none 0 0]⟩ := by kernel_rfl
theorem ti25 : tiOf Try.prog 25 = some ⟨.array 3 3, 3, 24, .agg #[.int .i64 0, .int .i64 0, .int .i64 0]⟩ := by kernel_rfl
theorem ti29 : tiOf Try.prog 29 = some ⟨.struct [(0, 3), (1, 3), (2, 3), (3, 22)], 4, 48, .agg #[.int .i64 0, .int .i64 0, .int .i64 0, .slice none 0 0]⟩ := by kernel_rfl
theorem ti51 : tiOf Try.prog 51 = some ⟨.slice 3, 1, 24, .slice none 0 0⟩ := by kernel_rfl
theorem ti60 : tiOf Try.prog 60 = some ⟨.array 3 3, 3, 24, .agg #[.int .i64 0, .int .i64 0, .int .i64 0]⟩ := by kernel_rfl
theorem ti63 : tiOf Try.prog 63 = some ⟨.int .u64, 1, 8, .int .u64 0⟩ := by kernel_rfl
theorem ti64 : tiOf Try.prog 64 = some ⟨.int .u64, 1, 8, .int .u64 0⟩ := by kernel_rfl
theorem ti89 : tiOf Try.prog 89 = some ⟨.array 2 3, 2, 16, .agg #[.int .i64 0, .int .i64 0]⟩ := by kernel_rfl
theorem ti99 : tiOf Try.prog 99 = some ⟨.array 0 16, 0, 0, .agg #[]⟩ := by kernel_rfl
theorem ti100 : tiOf Try.prog 100 = some ⟨.struct [(0, 99)], 0, 0, .agg #[]⟩ := by kernel_rfl
theorem ti101 : tiOf Try.prog 101 = some ⟨.struct [(0, 99)], 0, 0, .agg #[]⟩ := by kernel_rfl
theorem ti102 : tiOf Try.prog 102 = some ⟨.int .u32, 1, 4, .int .u32 0⟩ := by kernel_rfl
theorem ti103 : tiOf Try.prog 103 = some ⟨.int .u8, 1, 1, .int .u8 0⟩ := by kernel_rfl
theorem ti104 : tiOf Try.prog 104 = some ⟨.int .u8, 1, 1, .int .u8 0⟩ := by kernel_rfl
theorem ti107 : tiOf Try.prog 107 = some ⟨.int .i32, 1, 4, .int .i32 0⟩ := by kernel_rfl
theorem ti108 : tiOf Try.prog 108 = some ⟨.int .i32, 1, 4, .int .i32 0⟩ := by kernel_rfl
end Go.Proofs.Ytenkiofddpjidaa
