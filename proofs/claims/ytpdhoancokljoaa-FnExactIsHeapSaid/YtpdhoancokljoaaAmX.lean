/- Walks. No condition. -/
import Derived.Test.YtpdhoancokljoaaAmM
import Derived.Test.YtpdhoancokljoaaRows
set_option linter.unusedVariables false
set_option linter.unusedSimpArgs false
namespace Go.Proofs.Ytpdhoancokljoaa
open Go.Am Go.RowKit
theorem mixedT : Try.prog.follows .mixedOrders = true := by kernel_rfl
def cls (f : FuncId) : Cls := match f with
  | 55 => .N
  | 65 => .N
  | 73 => .N
  | 64 => .N
  | 53 => .N
  | 26 => .S
  | 37 => .S
  | 68 => .N
  | 43 => .N
  | _ => .Q
noncomputable def cx : Ctx Try.prog := Ctx.std Try.prog cls mixedT
theorem ti2 : tiOf Try.prog 2 = some ⟨.int .i64, 1, 8, .int .i64 0⟩ := by kernel_rfl
theorem ti3 : tiOf Try.prog 3 = some ⟨.int .i64, 1, 8, .int .i64 0⟩ := by kernel_rfl
theorem ti4 : tiOf Try.prog 4 = some ⟨.bool, 1, 1, .bool false⟩ := by kernel_rfl
theorem ti5 : tiOf Try.prog 5 = some ⟨.int .u8, 1, 1, .int .u8 0⟩ := by kernel_rfl
theorem ti6 : tiOf Try.prog 6 = some ⟨.int .u8, 1, 1, .int .u8 0⟩ := by kernel_rfl
theorem ti7 : tiOf Try.prog 7 = some ⟨.struct [(0, 2), (1, 3), (2, 4), (3, 6)], 4, 24, .agg #[.int .i64 0, .int .i64 0, .bool false, .int .u8 0]⟩ := by kernel_rfl
theorem ti8 : tiOf Try.prog 8 = some ⟨.struct [(0, 2), (1, 3), (2, 4), (3, 6)], 4, 24, .agg #[.int .i64 0, .int .i64 0, .bool false, .int .u8 0]⟩ := by kernel_rfl
theorem ti12 : tiOf Try.prog 12 = some ⟨.int .u64, 1, 8, .int .u64 0⟩ := by kernel_rfl
theorem ti21 : tiOf Try.prog 21 = some ⟨.int .i32, 1, 4, .int .i32 0⟩ := by kernel_rfl
theorem ti31 : tiOf Try.prog 31 = some ⟨.slice 52, 1, 24, .slice none 0 0⟩ := by kernel_rfl
theorem ti38 : tiOf Try.prog 38 = some ⟨.struct [(0, 3), (1, 3), (2, 3), (3, 31)], 4, 48, .agg #[.int .i64 0, .int .i64 0, .int .i64 0, .slice none 0 0]⟩ := by kernel_rfl
theorem ti39 : tiOf Try.prog 39 = some ⟨.struct [(0, 3), (1, 3), (2, 3), (3, 31)], 4, 48, .agg #[.int .i64 0, .int .i64 0, .int .i64 0, .slice none 0 0]⟩ := by kernel_rfl
theorem ti44 : tiOf Try.prog 44 = some ⟨.struct [(0, 3), (1, 3), (2, 3), (3, 31)], 4, 48, .agg #[.int .i64 0, .int .i64 0, .int .i64 0, .slice none 0 0]⟩ := by kernel_rfl
theorem ti50 : tiOf Try.prog 50 = some ⟨.slice 3, 1, 24, .slice none 0 0⟩ := by kernel_rfl
theorem ti52 : tiOf Try.prog 52 = some ⟨.array 3 3, 3, 24, .agg #[.int .i64 0, .int .i64 0, .int .i64 0]⟩ := by kernel_rfl
theorem ti53 : tiOf Try.prog 53 = some ⟨.array 3 3, 3, 24, .agg #[.int .i64 0, .int .i64 0, .int .i64 0]⟩ := by kernel_rfl
theorem ti57 : tiOf Try.prog 57 = some ⟨.int .u64, 1, 8, .int .u64 0⟩ := by kernel_rfl
theorem ti58 : tiOf Try.prog 58 = some ⟨.int .u64, 1, 8, .int .u64 0⟩ := by kernel_rfl
theorem ti61 : tiOf Try.prog 61 = some ⟨.slice 64, 1, 24, .slice none 0 0⟩ := by kernel_rfl
theorem ti63 : tiOf Try.prog 63 = some ⟨.struct [(0, 52), (3, 52)], 6, 48, .agg #[.int .i64 0, .int .i64 0, .int .i64 0, .int .i64 0, .int .i64 0, .int .i64 0]⟩ := by kernel_rfl
theorem ti64 : tiOf Try.prog 64 = some ⟨.struct [(0, 52), (3, 52)], 6, 48, .agg #[.int .i64 0, .int .i64 0, .int .i64 0, .int .i64 0, .int .i64 0, .int .i64 0]⟩ := by kernel_rfl
theorem ti75 : tiOf Try.prog 75 = some ⟨.int .u64, 1, 8, .int .u64 0⟩ := by kernel_rfl
theorem ti77 : tiOf Try.prog 77 = some ⟨.slice 80, 1, 24, .slice none 0 0⟩ := by kernel_rfl
theorem ti79 : tiOf Try.prog 79 = some ⟨.struct [(0, 52), (3, 52)], 6, 48, .agg #[.int .i64 0, .int .i64 0, .int .i64 0, .int .i64 0, .int .i64 0, .int .i64 0]⟩ := by kernel_rfl
theorem ti80 : tiOf Try.prog 80 = some ⟨.struct [(0, 52), (3, 52)], 6, 48, .agg #[.int .i64 0, .int .i64 0, .int .i64 0, .int .i64 0, .int .i64 0, .int .i64 0]⟩ := by kernel_rfl
theorem ti89 : tiOf Try.prog 89 = some ⟨.array 0 16, 0, 0, .agg #[]⟩ := by kernel_rfl
theorem ti90 : tiOf Try.prog 90 = some ⟨.struct [(0, 89)], 0, 0, .agg #[]⟩ := by kernel_rfl
theorem ti91 : tiOf Try.prog 91 = some ⟨.struct [(0, 89)], 0, 0, .agg #[]⟩ := by kernel_rfl
theorem ti92 : tiOf Try.prog 92 = some ⟨.int .u32, 1, 4, .int .u32 0⟩ := by kernel_rfl
theorem ti93 : tiOf Try.prog 93 = some ⟨.int .u8, 1, 1, .int .u8 0⟩ := by kernel_rfl
theorem ti94 : tiOf Try.prog 94 = some ⟨.int .u8, 1, 1, .int .u8 0⟩ := by kernel_rfl
end Go.Proofs.Ytpdhoancokljoaa
