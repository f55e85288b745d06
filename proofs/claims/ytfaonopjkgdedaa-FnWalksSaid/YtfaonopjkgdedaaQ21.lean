import Derived.Test.YtfaonopjkgdedaaQ15
import Derived.Test.YtfaonopjkgdedaaG6
set_option linter.unusedVariables false
set_option linter.unusedSimpArgs false
set_option linter.unnecessarySimpa false
namespace Go.Proofs.Try
open Go Go.Eng
set_option linter.unnecessarySimpa false
set_option linter.unusedSimpArgs false
set_option maxHeartbeats 4000000
/-! ### Tables of words and of numbers -/
def trN (r z : Int) (es : List Ed) : Nat → List (List Int)
  | 0 => []
  | n + 1 => trN r z es n ++ [twd r z es n]
theorem trN_len (r z : Int) (es : List Ed) : ∀ n, (trN r z es n).length = n
  | 0 => rfl
  | n + 1 => by simp [trN, trN_len r z es n]
theorem trN_mem {r z : Int} {es : List Ed} {w : List Int} : ∀ {n : Nat}, w ∈ trN r z es n → ∃ v : Int, w = twd r z es v
  | 0, h => by cases h
  | n + 1, h => by
    rcases List.mem_append.1 h with h | h
    · exact trN_mem h
    · rw [List.mem_singleton] at h; exact ⟨n, h⟩
theorem tabR_os (r z : Int) (es : List Ed) : tabR r z es = osW (trN r z es z.toNat) := by
  unfold tabR
  generalize z.toNat = m
  induction m with
  | zero => rfl
  | succ m ih => rw [List.range_succ, List.map_append, ih, trN, ← osW_app]; rfl
def ctR (es : List Ed) (ls : List Int) (v : Int) : Nat → List Int
  | 0 => []
  | k + 1 => ctR es ls v k ++ [nx es v (ix ls k)]
theorem ctR_len (es : List Ed) (ls : List Int) (v : Int) : ∀ k, (ctR es ls v k).length = k
  | 0 => rfl
  | k + 1 => by simp [ctR, ctR_len es ls v k]
def ctN (es : List Ed) (ls : List Int) (m : Nat) : Nat → List (List Int)
  | 0 => []
  | v + 1 => ctN es ls m v ++ [ctR es ls v m]
theorem ctN_len (es : List Ed) (ls : List Int) (m : Nat) : ∀ v, (ctN es ls m v).length = v
  | 0 => rfl
  | v + 1 => by simp [ctN, ctN_len es ls m v]
theorem ctN_mem {es : List Ed} {ls : List Int} {m : Nat} {w : List Int} : ∀ {n : Nat}, w ∈ ctN es ls m n → w.length = m
  | 0, h => by cases h
  | n + 1, h => by
    rcases List.mem_append.1 h with h | h
    · exact ctN_mem h
    · rw [List.mem_singleton] at h; subst h; exact ctR_len ..
theorem totN_le {ws : List (List Int)} {m : Nat} (h : ∀ w ∈ ws, w.length ≤ m) : ∀ {i : Nat}, i ≤ ws.length → totN ws i ≤ ws.length + i * m
  | 0, _ => by simp [totN]
  | i + 1, hi => by
    have ih := totN_le h (i := i) (by omega)
    have := h _ (wx_mem (ws := ws) (i := i) (by omega))
    rw [totN, Nat.succ_mul]; omega
theorem totW_le {ws : List (List Int)} {n m : Nat} (hn : ws.length ≤ n) (h : ∀ w ∈ ws, w.length ≤ m) : totW ws ≤ n + n * m := by
  have h1 := totN_le h (Nat.le_refl _)
  have h2 : ws.length * m ≤ n * m := Nat.mul_le_mul_right _ hn
  unfold totW; omega
theorem isFi_d {r z : Int} {es : List Ed} (h : isFi r z es = true) : isC r z es = true := by
  simp only [isFi, Bool.and_eq_true] at h; exact h.1
end Go.Proofs.Try
