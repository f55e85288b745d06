import Derived.Test.YtfapjflogjblaaaGreatD7
import Derived.Test.YtfapjflogjblaaaGreatD5
set_option maxHeartbeats 16000000
set_option maxRecDepth 20000
set_option linter.unusedVariables false
set_option linter.unusedSimpArgs false
set_option linter.unnecessarySimpa false
namespace Go.Proofs.Tryz
open Go Go.Eng
theorem bfs_rw {r z v : Int} {es : List Ed} (hf : isF r z es = true) (h : v ∈ vxs (bfs r z es 0)) : Rw es v := by
  obtain ⟨j, hj, e⟩ := List.mem_iff_getElem.1 h
  rw [vxs_len] at hj
  refine ⟨(bsa (bfs r z es 0) j).2, ?_⟩
  · rw [wk_tree hf hj, ← vxs_ix, ix, List.getD_eq_getElem?_getD, List.getElem?_eq_getElem (by rw [vxs_len]; exact hj), e]; rfl
end Go.Proofs.Tryz
