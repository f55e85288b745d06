import Derived.Test.YtdhnpicnaajdfaaGreatC
import Derived.Test.YtdhnpicnaajdfaaGreatU4
set_option linter.unusedVariables false
set_option linter.unusedSimpArgs false
set_option linter.unnecessarySimpa false
/- Plain: folds replayed. -/
namespace Go.Proofs.Tryz
open Go Go.Eng
set_option linter.unnecessarySimpa false
set_option linter.unusedSimpArgs false
set_option maxHeartbeats 4000000
theorem foldO_size {g : Gr} (hg : g.ok = true) (cs : List Int) : (foldO cs g).1.z = g.z - (foldO cs g).2.length := by
  rw [foldO_yes hg]
  have := (fio_ok (cs := cs) hg 40).2.1
  omega
end Go.Proofs.Tryz
