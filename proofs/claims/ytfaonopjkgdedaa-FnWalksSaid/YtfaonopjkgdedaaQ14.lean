import Derived.Test.YtfaonopjkgdedaaX
import Derived.Test.YtfaonopjkgdedaaQ20
set_option linter.unusedVariables false
set_option linter.unusedSimpArgs false
set_option linter.unnecessarySimpa false
namespace Go.Proofs.Try
open Go Go.Eng
set_option linter.unnecessarySimpa false
set_option linter.unusedSimpArgs false
set_option maxHeartbeats 4000000
/-! ### Subgroups -/
noncomputable def sgG (r : Int) (ws : List (List Int)) : Gr := coreG (flG r ws)
theorem sgG_es (r : Int) (ws : List (List Int)) : (sgG r ws).es.length ≤ 1048576 := coreG_es (flG_es r ws) (by omega)
noncomputable def fbB (r : Int) (ws : List (List Int)) : Bool := awB r ws && (rkO (sgG r ws).r (sgG r ws).z (sgG r ws).es == (ws.length : Int))
end Go.Proofs.Try
