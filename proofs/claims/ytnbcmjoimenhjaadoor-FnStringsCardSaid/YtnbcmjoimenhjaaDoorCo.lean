/- Closed facts for the rows of this seat: the listed tables in the start's world, and what the lists give. No condition. -/
import Derived.Test.YtnbcmjoimenhjaaDoorRows
import Derived.ProofKit
import Derived.LaidMore
import Derived.MakeChecks
import Derived.OpenShut
import Derived.Stop.Joined
import Derived.Stop.LaidErr
import Derived.Lib.LaidTab
import Derived.Lib.AppendIntMem
import Derived.SizedLaws
import Derived.LaidLaws
namespace Go.Proofs.YtnbcmjoimenhjaaDoor
open Go.ChangeShapes Go.WideShapes Go.ChangeAt Go.RowKit
theorem Tryd.own : ownKnob Tryd.prog.godebug = none := by kernel_rfl
theorem Tryd.laidOut : laidOutB Tryd.prog = true := by kernel_rfl
theorem Tryd.gT : Tryd.prog.globalNamed "internal/strconv.uint64pow10" = some 3 := by kernel_rfl
theorem Tryd.gTType : (Tryd.prog.globals[3]?).map (·.type) = some 106 := by kernel_rfl
theorem tab_of {rest : List (String × DataW Unit)} {W : World} (h : laidMet Tryd.prog (("internal/strconv.uint64pow10", Rows.laid_internal_strconv_uint64pow10) :: rest) W) : Lib.TabIs Tryd.prog W "internal/strconv.uint64pow10" .u64 Lib.pow10Tab :=
  Lib.tabIs_of_head (zs := Lib.pow10Tab) Tryd.gT Tryd.gTType Tryd.underlying106 Tryd.underlying46 (by kernel_rfl) (by kernel_rfl) h
theorem Tryd.gES : Tryd.prog.globalNamed "strconv.ErrSyntax" = some 1 := by kernel_rfl
theorem Tryd.gESType : (Tryd.prog.globals[1]?).map (·.type) = some 60 := by kernel_rfl
theorem Tryd.star : "*" ++ "errors.errorString" = "*errors.errorString" := by decide
theorem Tryd.row110 (u : TypeId) (h : Tryd.prog.typeName? 3 u = some "*errors.errorString") : u = 110 :=
  typeName_ptr_named (nm := "errors.errorString") (by rw [Tryd.star]; kernel_rfl) (by kernel_rfl) (by decide) u (by rw [Tryd.star]; exact h)
theorem syn_of {rest : List (String × DataW Unit)} {W : World} (h : laidMet Tryd.prog (("strconv.ErrSyntax", Rows.laid_strconv_ErrSyntax) :: rest) W) : ∃ p, W.var? Tryd.prog "strconv.ErrSyntax" = some #[.iface 110 p] := by
  obtain ⟨a0, s0, hv0, -, -, -⟩ := laid_sentinel h Tryd.gES Tryd.gESType Tryd.underlying60 Tryd.row110 Tryd.underlying110 Tryd.underlying112 rfl rfl Tryd.underlying9 (by kernel_rfl) (by kernel_rfl)
  exact ⟨_, hv0⟩
end Go.Proofs.YtnbcmjoimenhjaaDoor
