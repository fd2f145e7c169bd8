/- The sums behind the walks. No condition. -/
import Derived.Test.YtpdhoancokljoaaAm18
set_option linter.unusedVariables false
set_option linter.unusedSimpArgs false
namespace Go.Am
def inR (n lo hi : Int) : Bool := decide (lo ≤ n) && decide (n ≤ hi)
def valid3 (x y z : Int) : Bool := inR x 1 4 && inR y 1 4 && inR z 1 4
def has3 (x y z a b c : Int) : Bool := inR a 0 (x - 1) && inR b 0 (y - 1) && inR c 0 (z - 1)
end Go.Am
