import Derived.Test.YtfapjflogjblaaaGreatB
import Derived.Test.YtfapjflogjblaaaGreatC
import Derived.Test.YtfapjflogjblaaaGreatA
set_option maxHeartbeats 16000000
set_option maxRecDepth 20000
set_option linter.unusedVariables false
set_option linter.unusedSimpArgs false
set_option linter.unnecessarySimpa false
namespace Go.Proofs.Tryz
open Go Go.Eng
theorem wx_of {ws : List (List Int)} {w : List Int} (h : w ∈ ws) : ∃ i, i < ws.length ∧ wx ws i = w := by
  obtain ⟨i, hi, rfl⟩ := List.mem_iff_getElem.1 h
  exact ⟨i, hi, by simp [wx, hi]⟩
def osW (ws : List (List Int)) : List (Option (List El)) := ws.map fun w => some (ints w)
theorem osW_len (ws : List (List Int)) : (osW ws).length = ws.length := by simp [osW]
theorem osW_nil : osW [] = [] := rfl
theorem osW_app (ws : List (List Int)) (w : List Int) : osW ws ++ [some (ints w)] = osW (ws ++ [w]) := by simp [osW]
theorem osW_get (ws : List (List Int)) : (osW ws).map (·.getD []) = intss ws := by simp [osW, intss]
theorem osW_at {ws : List (List Int)} {i : Nat} (h : i < ws.length) : (osW ws)[i]? = some (some (ints (wx ws i))) := by simp [osW, wx, h]
attribute [go_sem] osW_len osW_app osW_get osW_at

end Go.Proofs.Tryz
