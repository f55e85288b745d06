import Derived.Test.YtfaonopjkgdedaaS
import Derived.Test.YtfaonopjkgdedaaG5
set_option linter.unusedVariables false
set_option linter.unusedSimpArgs false
set_option linter.unnecessarySimpa false
namespace Go.Proofs.Try
open Go Go.Eng
set_option linter.unnecessarySimpa false
set_option linter.unusedSimpArgs false
set_option maxHeartbeats 4000000
/-! ### Lists of words -/
def tlN (ws : List (List Int)) : Nat → Nat
  | 0 => 0
  | i + 1 => tlN ws i + (wx ws i).length
theorem tlN_le {ws : List (List Int)} {M : Nat} (h : ∀ w ∈ ws, w.length ≤ M) : ∀ i, i ≤ ws.length → tlN ws i ≤ i * M
  | 0, _ => by simp [tlN]
  | i + 1, hi => by
    have ih := tlN_le h i (by omega)
    have := h _ (wx_mem (ws := ws) (i := i) (by omega))
    rw [tlN, Nat.succ_mul]; omega
theorem tlN_big {ws : List (List Int)} (h : ∀ w ∈ ws, w.length ≤ 1048576) {i : Nat} (hi : i ≤ ws.length) (hl : ws.length ≤ 1048576) : tlN ws i ≤ 1099511627776 := by
  have h1 := tlN_le h i hi
  have h2 : i * 1048576 ≤ 1048576 * 1048576 := Nat.mul_le_mul_right _ (by omega)
  omega
def tlW (ws : List (List Int)) : Nat := tlN ws ws.length
def awA (r : Int) (ws : List (List Int)) : Bool := ws.all (isW r)
theorem awA_bad {r : Int} {ws : List (List Int)} {i : Nat} (hi : i < ws.length) (h : isW r (wx ws i) = false) : awA r ws = false := by
  rw [← Bool.not_eq_true]
  intro h2
  have := List.all_eq_true.1 h2 _ (wx_mem hi)
  rw [h] at this; cases this
theorem awA_all {r : Int} {ws : List (List Int)} (h : ∀ j, j < ws.length → isW r (wx ws j) = true) : awA r ws = true := by
  refine List.all_eq_true.2 fun w hw => ?_
  obtain ⟨i, hi, rfl⟩ := wx_of hw
  exact h i hi
def awB (r : Int) (ws : List (List Int)) : Bool := decide (1 ≤ r ∧ r ≤ 3 ∧ ws.length ≤ 6) && (awA r ws && decide (tlW ws < 40))
theorem awB_no {r : Int} {ws : List (List Int)} (h : ¬ (1 ≤ r ∧ r ≤ 3 ∧ ws.length ≤ 6)) : awB r ws = false := by unfold awB; rw [decide_eq_false h]; rfl
theorem awB_bad {r : Int} {ws : List (List Int)} (h : awA r ws = false) : awB r ws = false := by unfold awB; rw [h]; simp
theorem awB_yes {r : Int} {ws : List (List Int)} (h : 1 ≤ r ∧ r ≤ 3 ∧ ws.length ≤ 6) (h2 : awA r ws = true) : awB r ws = decide (tlW ws < 40) := by unfold awB; rw [decide_eq_true h, h2]; rfl
theorem awB_iff {r : Int} {ws : List (List Int)} (h : awB r ws = true) : 1 ≤ r ∧ r ≤ 3 ∧ ws.length ≤ 6 := by
  simp only [awB, Bool.and_eq_true, decide_eq_true_eq] at h; exact h.1
/-! ### Flowers -/
def flN (r : Int) (ws : List (List Int)) : Nat → Gr
  | 0 => ⟨r, 1, []⟩
  | i + 1 => pth (flN r ws i) 0 (wx ws i) 0
def flG (r : Int) (ws : List (List Int)) : Gr := flN r ws ws.length
theorem pth_r (g : Gr) (u : Int) (w : List Int) (v : Int) : (pth g u w v).r = g.r := by unfold pth; split <;> rfl
theorem flN_r (r : Int) (ws : List (List Int)) : ∀ i, (flN r ws i).r = r
  | 0 => rfl
  | i + 1 => by rw [flN, pth_r, flN_r]
theorem flN_es (r : Int) (ws : List (List Int)) : ∀ i, (flN r ws i).es.length ≤ 1048576
  | 0 => by simp [flN]
  | i + 1 => pth_es (flN_es r ws i) (by omega)
theorem flG_es (r : Int) (ws : List (List Int)) : (flG r ws).es.length ≤ 1048576 := flN_es r ws _
theorem pth_nil (g : Gr) : pth g 0 [] 0 = g := pth_no (by simp [pthOk])
theorem edsNil' : eds [] = [] := rfl
end Go.Proofs.Try
