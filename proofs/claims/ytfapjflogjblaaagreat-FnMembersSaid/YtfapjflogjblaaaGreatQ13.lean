import Derived.Test.YtfapjflogjblaaaGreatZ
import Derived.Test.YtfapjflogjblaaaGreatW
set_option linter.unusedVariables false
set_option linter.unusedSimpArgs false
set_option linter.unnecessarySimpa false
namespace Go.Proofs.Tryz
open Go Go.Eng
set_option linter.unnecessarySimpa false
set_option linter.unusedSimpArgs false
set_option maxHeartbeats 4000000
/-! ### Words rewritten -/
theorem idE_get {a : List Ed} {e : Ed} : ∀ {n : Nat}, 0 ≤ idE a e n → ed a (idE a e n).toNat = e ∧ (idE a e n).toNat < n
  | 0, h => by simp [idE] at h
  | n + 1, h => by
    unfold idE at h ⊢
    by_cases h1 : 0 ≤ idE a e n
    · rw [if_pos h1]; have := idE_get h1; exact ⟨this.1, by omega⟩
    · rw [if_neg h1] at h ⊢
      split at h
      · rename_i h2; rw [if_pos h2]; exact ⟨by simpa using h2, by simp⟩
      · omega
theorem rdk_nx {es : List Ed} {v : Int} {w : List Int} {n i : Nat} (h : rdk es v w n = n) (hi : i < n) : 0 ≤ nx es (vN es v w i) (ix w i) := by
  have h1 := rdk_mono h (i + 1) (by omega)
  unfold rdk at h1
  split at h1
  · rename_i hc; exact hc.2
  · have := rdk_le es v w i; omega
end Go.Proofs.Tryz
