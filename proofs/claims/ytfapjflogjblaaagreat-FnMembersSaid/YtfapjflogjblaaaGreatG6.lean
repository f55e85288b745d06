import Derived.Test.YtfapjflogjblaaaGreatG5
import Derived.Test.YtfapjflogjblaaaGreatE2
set_option linter.unusedVariables false
set_option linter.unusedSimpArgs false
set_option linter.unnecessarySimpa false
/- The laws' marks on lists of words. -/
namespace Go.Proofs.Tryz
open Go Go.Eng
set_option linter.unnecessarySimpa false
set_option linter.unusedSimpArgs false
set_option maxHeartbeats 4000000
/-- Where the marks of row i begin. -/
def mkS (ws : List (List Int)) (k : Int) : Nat → Int
  | 0 => k
  | i + 1 => mkS ws k i + (wx ws i).length
/-- The first i rows marked. -/
def mkR (ws : List (List Int)) (k : Int) : Nat → List (List Int)
  | 0 => ws
  | i + 1 => (mkR ws k i).set i (mkI (wx ws i).length (mkS ws k i))
end Go.Proofs.Tryz
