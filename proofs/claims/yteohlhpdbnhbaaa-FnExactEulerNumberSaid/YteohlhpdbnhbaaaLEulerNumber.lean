/- The law of this claim holds for the given program, for every input. No condition. -/
import Derived.Test.YteohlhpdbnhbaaaAmC5
namespace Go.Proofs.Yteohlhpdbnhbaaa
theorem fnExactEulerNumber_holds : Rows.FnExactEulerNumberSaid := F.fnExactEulerNumber_holds
#print axioms fnExactEulerNumber_holds
end Go.Proofs.Yteohlhpdbnhbaaa
