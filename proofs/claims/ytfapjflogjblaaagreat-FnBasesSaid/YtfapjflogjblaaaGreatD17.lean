import Derived.Test.YtfapjflogjblaaaGreatD4
import Derived.Test.YtfapjflogjblaaaGreatQ14
set_option maxHeartbeats 16000000
set_option maxRecDepth 20000
set_option linter.unusedVariables false
set_option linter.unusedSimpArgs false
set_option linter.unnecessarySimpa false
namespace Go.Proofs.Tryz
open Go Go.Eng
def l9R (cd : List Int) (c : Cu) : Int := elI [[.int 1], [.int 2], [.int 2], [.int 2], [.int 2], [.int 3]] (beV cd c 6).toNat
theorem pick6 {n : Int} (h : 0 ≤ n ∧ n < 6) : 1 ≤ elI [[.int 1], [.int 2], [.int 2], [.int 2], [.int 2], [.int 3]] n.toNat ∧ elI [[.int 1], [.int 2], [.int 2], [.int 2], [.int 2], [.int 3]] n.toNat ≤ 3 := by
  have : n.toNat = 0 ∨ n.toNat = 1 ∨ n.toNat = 2 ∨ n.toNat = 3 ∨ n.toNat = 4 ∨ n.toNat = 5 := by omega
  rcases this with h | h | h | h | h | h <;> rw [h] <;> decide
theorem l9R_ok (cd : List Int) (c : Cu) : 1 ≤ l9R cd c ∧ l9R cd c ≤ 3 := pick6 (beV_rg cd c (n := 6) (by decide))
def l9L (cd : List Int) (cu : Cu) : List (List Int) × Cu := l6W cd (l9R cd cu) (beS cd cu 6)
def l9M (cd : List Int) (cu : Cu) : List (List Int) × Cu := l6W cd (l9R cd cu) (l9L cd cu).2
def l9N (cd : List Int) (cu : Cu) : List (List Int) := if beV cd (l9M cd cu).2 3 = 0 ∧ 0 < (l9L cd cu).1.length then (l9M cd cu).1 ++ [wx (l9L cd cu).1 0] else (l9M cd cu).1
noncomputable def l9a (cd : List Int) (cu : Cu) : Gr := sgG (l9R cd cu) (l9L cd cu).1
noncomputable def l9b (cd : List Int) (cu : Cu) : Gr := sgG (l9R cd cu) (l9N cd cu)
theorem l9R_eq (cd : List Int) (c : Cu) : elI [[.int 1], [.int 2], [.int 2], [.int 2], [.int 2], [.int 3]] (beV cd c 6).toNat = l9R cd c := rfl
theorem l9L_eq (cd : List Int) (cu : Cu) : l6W cd (l9R cd cu) (beS cd cu 6) = l9L cd cu := rfl
theorem l9M_eq (cd : List Int) (cu : Cu) : l6W cd (l9R cd cu) (l9L cd cu).2 = l9M cd cu := rfl
theorem l9a_eq (cd : List Int) (cu : Cu) : sgG (l9R cd cu) (l9L cd cu).1 = l9a cd cu := rfl
attribute [go_sem] l9R_eq l9L_eq l9M_eq l9a_eq

theorem l9L_ok (cd : List Int) (cu : Cu) : (l9L cd cu).1.length ≤ 3 ∧ (∀ w ∈ (l9L cd cu).1, w.length ≤ 5) ∧ awB (l9R cd cu) (l9L cd cu).1 = true := l6W_ok cd _ (l9R_ok cd cu)
theorem awB_all {r : Int} {ws : List (List Int)} (h : awB r ws = true) : ∀ w ∈ ws, isW r w = true := by
  simp only [awB, awA, Bool.and_eq_true, decide_eq_true_eq, List.all_eq_true] at h
  exact h.2.1
attribute [local irreducible] beV beS byV byS nwC l6W l2W sgG flG coreG canG l9R l9L l9M l9N l9a l9b awB l4A l4G
end Go.Proofs.Tryz
