/- Walks. No condition. -/
import Derived.Test.YtbheeobnghlckaaAmS4J5
import Derived.Test.YtbheeobnghlckaaAmQ4
set_option linter.unusedVariables false
set_option linter.unusedSimpArgs false
namespace Go.Proofs.Ytbheeobnghlckaa
open Go.Am Go.RowKit

end Go.Proofs.Ytbheeobnghlckaa
