/- The law FnExactAllStairs of the given program holds, for every input. No condition. -/
import Derived.Test.YtjdmboagjeldcaaWe
import Derived.Test.YtjdmboagjeldcaaWk
namespace Go.Proofs.Ytjdmboagjeldcaa
open Go.ChangeShapes Go.WideShapes Go.ChangeAt Go.RowKit
theorem fnExactAllStairs_holds : Rows.FnExactAllStairsSaid :=
  OpenClaim.holds_of_wide 3 Try.f3 rfl rfl rfl rfl rfl rfl rfl ⟨rfl, rfl, rfl, rfl, rfl⟩ rfl rfl rfl rfl rfl (by kernel_rfl) Try.func3 (by kernel_rfl)
    (of_decide_eq_true (by kernel_rfl)) (by unfold Func.isWrapper; first | (rw [if_pos (by decide +kernel)]; kernel_rfl) | (rw [if_neg (by decide +kernel)]; exact ⟨rfl, rfl⟩))
    (fun os started H enc _ => liftedAllStairs (fun x y z W => implAllStairs x y z W) os started H enc)
#print axioms fnExactAllStairs_holds
end Go.Proofs.Ytjdmboagjeldcaa
