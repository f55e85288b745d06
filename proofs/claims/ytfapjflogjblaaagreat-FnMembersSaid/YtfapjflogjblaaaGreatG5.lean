import Derived.Test.YtfapjflogjblaaaGreatB
import Derived.Test.YtfapjflogjblaaaGreatC
import Derived.Test.YtfapjflogjblaaaGreatA
set_option linter.unusedVariables false
set_option linter.unusedSimpArgs false
set_option linter.unnecessarySimpa false
/- The laws' helpers at lists of words. -/
namespace Go.Proofs.Tryz
open Go Go.Eng
set_option linter.unnecessarySimpa false
set_option linter.unusedSimpArgs false
set_option maxHeartbeats 4000000
/-! ### Sizes -/
def totN (ws : List (List Int)) : Nat → Nat
  | 0 => ws.length
  | i + 1 => totN ws i + (wx ws i).length
theorem wx_of {ws : List (List Int)} {w : List Int} (h : w ∈ ws) : ∃ i, i < ws.length ∧ wx ws i = w := by
  obtain ⟨i, hi, rfl⟩ := List.mem_iff_getElem.1 h
  exact ⟨i, hi, by simp [wx, hi]⟩
/-! ### Copies -/
def osW (ws : List (List Int)) : List (Option (List El)) := ws.map fun w => some (ints w)
theorem osW_len (ws : List (List Int)) : (osW ws).length = ws.length := by simp [osW]
theorem osW_nil : osW [] = [] := rfl
theorem osW_app (ws : List (List Int)) (w : List Int) : osW ws ++ [some (ints w)] = osW (ws ++ [w]) := by simp [osW]
theorem osW_get (ws : List (List Int)) : (osW ws).map (·.getD []) = intss ws := by simp [osW, intss]
theorem osW_at {ws : List (List Int)} {i : Nat} (h : i < ws.length) : (osW ws)[i]? = some (some (ints (wx ws i))) := by simp [osW, wx, h]
attribute [go_sem] osW_len osW_app osW_get osW_at
end Go.Proofs.Tryz
