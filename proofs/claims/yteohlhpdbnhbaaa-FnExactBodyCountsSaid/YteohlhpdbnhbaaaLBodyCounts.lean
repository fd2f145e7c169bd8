/- The law of this claim holds for the given program, for every input. No condition. -/
import Derived.Test.YteohlhpdbnhbaaaAmC5
namespace Go.Proofs.Yteohlhpdbnhbaaa
theorem fnExactBodyCounts_holds : Rows.FnExactBodyCountsSaid := F.fnExactBodyCounts_holds
#print axioms fnExactBodyCounts_holds
end Go.Proofs.Yteohlhpdbnhbaaa
