import Derived.Test.YtfapjflogjblaaaB
import Derived.Test.YtfapjflogjblaaaC
import Derived.Test.YtfapjflogjblaaaA
set_option linter.unusedVariables false
set_option linter.unusedSimpArgs false
set_option linter.unnecessarySimpa false
/- The laws' helpers at lists of words. -/
namespace Go.Proofs.Try
open Go Go.Eng
set_option linter.unnecessarySimpa false
set_option linter.unusedSimpArgs false
set_option maxHeartbeats 4000000
/-! ### Sizes -/
def totN (ws : List (List Int)) : Nat → Nat
  | 0 => ws.length
  | i + 1 => totN ws i + (wx ws i).length
def totW (ws : List (List Int)) : Nat := totN ws ws.length
theorem totN_mono (ws : List (List Int)) : ∀ {i j : Nat}, i ≤ j → totN ws i ≤ totN ws j := by
  intro i j h
  induction j with
  | zero => have : i = 0 := by omega
            subst this; exact Nat.le_refl _
  | succ j ih =>
    rcases Nat.lt_or_ge i (j + 1) with h1 | h1
    · have := ih (by omega)
      simp only [totN]; omega
    · have : i = j + 1 := by omega
      subst this; exact Nat.le_refl _
theorem totN_w {ws : List (List Int)} {i : Nat} (h : i ≤ ws.length) : totN ws i ≤ totW ws := totN_mono ws h
theorem tot_len {ws : List (List Int)} {n : Nat} (h : totW ws ≤ n) : ws.length ≤ n := by
  have := totN_w (ws := ws) (i := 0) (by omega)
  simp only [totN] at this; omega
theorem tot_at {ws : List (List Int)} {n i : Nat} (h : totW ws ≤ n) (hi : i < ws.length) : (wx ws i).length ≤ n := by
  have := totN_w (ws := ws) (i := i + 1) (by omega)
  simp only [totN] at this; omega
theorem wx_of {ws : List (List Int)} {w : List Int} (h : w ∈ ws) : ∃ i, i < ws.length ∧ wx ws i = w := by
  obtain ⟨i, hi, rfl⟩ := List.mem_iff_getElem.1 h
  exact ⟨i, hi, by simp [wx, hi]⟩
theorem tot_mem {ws : List (List Int)} {n : Nat} (h : totW ws ≤ n) : ∀ w ∈ ws, w.length ≤ n := fun w hw => by
  obtain ⟨i, hi, rfl⟩ := wx_of hw
  exact tot_at h hi
/-! ### Copies -/
def osW (ws : List (List Int)) : List (Option (List El)) := ws.map fun w => some (ints w)
theorem osW_len (ws : List (List Int)) : (osW ws).length = ws.length := by simp [osW]
theorem osW_nil : osW [] = [] := rfl
theorem osW_app (ws : List (List Int)) (w : List Int) : osW ws ++ [some (ints w)] = osW (ws ++ [w]) := by simp [osW]
theorem osW_get (ws : List (List Int)) : (osW ws).map (·.getD []) = intss ws := by simp [osW, intss]
theorem osW_at {ws : List (List Int)} {i : Nat} (h : i < ws.length) : (osW ws)[i]? = some (some (ints (wx ws i))) := by simp [osW, wx, h]
attribute [go_sem] osW_len osW_app osW_get osW_at
def cpS (ws : List (List Int)) (i : Nat) : List (Option (List El)) := osW (ws.take i) ++ List.replicate (ws.length - i) none
theorem cpS_len {ws : List (List Int)} {i : Nat} (h : i ≤ ws.length) : (cpS ws i).length = ws.length := by simp [cpS, osW]; omega
theorem cpS_0 (ws : List (List Int)) : cpS ws 0 = List.replicate ws.length none := by simp [cpS, osW]
theorem cpS_all (ws : List (List Int)) : cpS ws ws.length = osW ws := by simp [cpS]
theorem cpS_set {ws : List (List Int)} {i : Nat} (h : i < ws.length) : (cpS ws i).set i (some (ints (wx ws i))) = cpS ws (i + 1) := by
  have e1 : List.replicate (ws.length - i) (none : Option (List El)) = none :: List.replicate (ws.length - (i + 1)) none := by
    have : ws.length - i = (ws.length - (i + 1)) + 1 := by omega
    rw [this]; rfl
  have e2 : osW (ws.take (i + 1)) = osW (ws.take i) ++ [some (ints (wx ws i))] := by
    rw [List.take_add_one, osW_app]; simp [wx, h]
  have hl : (osW (ws.take i)).length = i := by rw [osW_len, List.length_take]; omega
  unfold cpS
  rw [e1, e2, List.set_append_right _ _ (by omega), hl, Nat.sub_self, List.set_cons_zero, List.append_assoc]
  rfl
theorem wss_eq {xs ys : List (List Int)} (hl : xs.length = ys.length) (h : ∀ j, j < xs.length → wx xs j = wx ys j) : xs = ys := by
  apply List.ext_getElem hl
  intro i h1 h2
  have := h i h1
  simpa [wx, h1, h2] using this
end Go.Proofs.Try
