import Derived.Test.YtfapjflogjblaaaGreatD11
set_option maxHeartbeats 16000000
set_option maxRecDepth 20000
set_option linter.unusedVariables false
set_option linter.unusedSimpArgs false
set_option linter.unnecessarySimpa false
namespace Go.Proofs.Tryz
open Go Go.Eng
theorem trim_r {g : Gr} (hg : g.ok = true) : (trimG g).1.r = g.r := by
  unfold trimG
  rw [if_pos hg]
  exact (trm_ok hg 40).2.2.1
end Go.Proofs.Tryz
