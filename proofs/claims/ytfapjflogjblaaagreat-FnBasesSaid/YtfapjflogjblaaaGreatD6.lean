import Derived.Test.YtfapjflogjblaaaGreatC
import Derived.Test.YtfapjflogjblaaaGreatU4
set_option maxHeartbeats 16000000
set_option maxRecDepth 20000
set_option linter.unusedVariables false
set_option linter.unusedSimpArgs false
set_option linter.unnecessarySimpa false
namespace Go.Proofs.Tryz
open Go Go.Eng
end Go.Proofs.Tryz
