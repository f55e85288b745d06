import Derived.Test.YtfapjflogjblaaaGreatD19
import Derived.Test.YtfapjflogjblaaaGreatD20
set_option maxHeartbeats 16000000
set_option maxRecDepth 20000
set_option linter.unusedVariables false
set_option linter.unusedSimpArgs false
set_option linter.unnecessarySimpa false
namespace Go.Proofs.Tryz
open Go Go.Eng
attribute [local irreducible] beV beS byV byS nwC l9A l9W
end Go.Proofs.Tryz
