/- Walks. No condition. -/
import Derived.Test.YtbheeobnghlckaaAmS4J0
import Derived.Test.YtbheeobnghlckaaAmQ2
set_option linter.unusedVariables false
set_option linter.unusedSimpArgs false
namespace Go.Proofs.Ytbheeobnghlckaa
open Go.Am Go.RowKit

end Go.Proofs.Ytbheeobnghlckaa
