import Derived.Test.YtfapjflogjblaaaGreatQ15
import Derived.Test.YtfapjflogjblaaaGreatG6
set_option linter.unusedVariables false
set_option linter.unusedSimpArgs false
set_option linter.unnecessarySimpa false
namespace Go.Proofs.Tryz
open Go Go.Eng
set_option linter.unnecessarySimpa false
set_option linter.unusedSimpArgs false
set_option maxHeartbeats 4000000
/-! ### Tables of words and of numbers -/
def trN (r z : Int) (es : List Ed) : Nat → List (List Int)
  | 0 => []
  | n + 1 => trN r z es n ++ [twd r z es n]
end Go.Proofs.Tryz
