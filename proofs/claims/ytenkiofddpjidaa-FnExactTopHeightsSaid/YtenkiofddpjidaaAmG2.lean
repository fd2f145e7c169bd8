/- Walks. No condition. -/
import Derived.Test.YtenkiofddpjidaaAmG1
set_option linter.unusedVariables false
set_option linter.unusedSimpArgs false
namespace Go.Proofs.Ytenkiofddpjidaa
open Go.Am Go.RowKit

end Go.Proofs.Ytenkiofddpjidaa
