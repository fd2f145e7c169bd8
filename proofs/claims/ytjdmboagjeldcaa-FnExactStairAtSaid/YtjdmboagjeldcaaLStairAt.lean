/- The law of this claim holds for the given program, for every input. No condition. -/
import Derived.Test.YtjdmboagjeldcaaAmC8
namespace Go.Proofs.Ytjdmboagjeldcaa
theorem fnExactStairAt_holds : Rows.FnExactStairAtSaid := F.fnExactStairAt_holds
#print axioms fnExactStairAt_holds
end Go.Proofs.Ytjdmboagjeldcaa
