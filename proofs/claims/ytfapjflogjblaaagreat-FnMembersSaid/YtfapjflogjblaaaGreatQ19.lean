import Derived.Test.YtfapjflogjblaaaGreatW
import Derived.Test.YtfapjflogjblaaaGreatC
import Derived.Test.YtfapjflogjblaaaGreatG6
set_option linter.unusedVariables false
set_option linter.unusedSimpArgs false
set_option linter.unnecessarySimpa false
namespace Go.Proofs.Tryz
open Go Go.Eng
set_option linter.unnecessarySimpa false
set_option linter.unusedSimpArgs false
set_option maxHeartbeats 4000000
set_option maxRecDepth 20000
/-! ### Words put in for letters -/
def exL (ws : List (List Int)) (k : Int) : List (List Int) := if 1 ≤ k ∧ k ≤ ws.length then [wx ws (k - 1).toNat] else if -(ws.length : Int) ≤ k ∧ k ≤ -1 then [ivW (wx ws (-k - 1).toNat)] else []
theorem flat_len {ws : List (List Int)} (h : ∀ w ∈ ws, w.length ≤ 1048576) : ws.flatten.length ≤ ws.length * 1048576 := by
  induction ws with
  | nil => simp
  | cons w r ih =>
    have h1 := h w (by simp)
    have h2 := ih fun x hx => h x (by simp [hx])
    simp only [List.flatten_cons, List.length_append, List.length_cons, Nat.succ_mul]
    omega
end Go.Proofs.Tryz
