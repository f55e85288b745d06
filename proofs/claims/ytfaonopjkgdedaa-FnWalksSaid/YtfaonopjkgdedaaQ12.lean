import Derived.Test.YtfaonopjkgdedaaZ
import Derived.Test.YtfaonopjkgdedaaG5
set_option linter.unusedVariables false
set_option linter.unusedSimpArgs false
set_option linter.unnecessarySimpa false
namespace Go.Proofs.Try
open Go Go.Eng
set_option linter.unnecessarySimpa false
set_option linter.unusedSimpArgs false
set_option maxHeartbeats 4000000
/-- All the words lead from the base to the base. -/
def caL (es : List Ed) (ws : List (List Int)) : Bool := ws.all fun w => lpB es (red w)
theorem caL_bad {es : List Ed} {ws : List (List Int)} {i : Nat} (hi : i < ws.length) (h : lpB es (red (wx ws i)) = false) : caL es ws = false := by
  rw [← Bool.not_eq_true]
  intro h2
  have := List.all_eq_true.1 h2 _ (wx_mem hi)
  rw [h] at this; cases this
theorem caL_all {es : List Ed} {ws : List (List Int)} (h : ∀ j, j < ws.length → lpB es (red (wx ws j)) = true) : caL es ws = true := by
  refine List.all_eq_true.2 fun w hw => ?_
  obtain ⟨i, hi, rfl⟩ := wx_of hw
  exact h i hi
noncomputable def caB (r z : Int) (es : List Ed) (ws : List (List Int)) : Bool := isC r z es && caL es ws
end Go.Proofs.Try
