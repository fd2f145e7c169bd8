/- Walks. No condition. -/
import Derived.Test.YtenkiofddpjidaaAmJ0
import Derived.Test.YtenkiofddpjidaaAmQ
set_option linter.unusedVariables false
set_option linter.unusedSimpArgs false
namespace Go.Proofs.Ytenkiofddpjidaa
open Go.Am Go.RowKit

end Go.Proofs.Ytenkiofddpjidaa
