import Derived.Test.YtfaonopjkgdedaaD4
import Derived.Test.YtfaonopjkgdedaaQ14
set_option linter.unusedVariables false
set_option linter.unusedSimpArgs false
set_option linter.unnecessarySimpa false
/- The specification's draws: subgroups. -/
namespace Go.Proofs.Try
open Go Go.Eng
set_option linter.unnecessarySimpa false
set_option linter.unusedSimpArgs false
set_option maxHeartbeats 4000000
set_option maxRecDepth 20000
def l9R (cd : List Int) (c : Cu) : Int := elI [[.int 1], [.int 2], [.int 2], [.int 2], [.int 2], [.int 3]] (beV cd c 6).toNat
theorem pick6 {n : Int} (h : 0 ≤ n ∧ n < 6) : 1 ≤ elI [[.int 1], [.int 2], [.int 2], [.int 2], [.int 2], [.int 3]] n.toNat ∧ elI [[.int 1], [.int 2], [.int 2], [.int 2], [.int 2], [.int 3]] n.toNat ≤ 3 := by
  have : n.toNat = 0 ∨ n.toNat = 1 ∨ n.toNat = 2 ∨ n.toNat = 3 ∨ n.toNat = 4 ∨ n.toNat = 5 := by omega
  rcases this with h | h | h | h | h | h <;> rw [h] <;> decide
theorem l9R_ok (cd : List Int) (c : Cu) : 1 ≤ l9R cd c ∧ l9R cd c ≤ 3 := pick6 (beV_rg cd c (n := 6) (by decide))
/-- The first list, what is behind it; the second list, what is behind that. -/
def l9L (cd : List Int) (cu : Cu) : List (List Int) × Cu := l6W cd (l9R cd cu) (beS cd cu 6)
def l9M (cd : List Int) (cu : Cu) : List (List Int) × Cu := l6W cd (l9R cd cu) (l9L cd cu).2
def l9N (cd : List Int) (cu : Cu) : List (List Int) := if beV cd (l9M cd cu).2 3 = 0 ∧ 0 < (l9L cd cu).1.length then (l9M cd cu).1 ++ [wx (l9L cd cu).1 0] else (l9M cd cu).1
def l9C (cd : List Int) (cu : Cu) : Cu := beS cd (l9M cd cu).2 3
noncomputable def l9a (cd : List Int) (cu : Cu) : Gr := sgG (l9R cd cu) (l9L cd cu).1
noncomputable def l9b (cd : List Int) (cu : Cu) : Gr := sgG (l9R cd cu) (l9N cd cu)
theorem l9R_eq (cd : List Int) (c : Cu) : elI [[.int 1], [.int 2], [.int 2], [.int 2], [.int 2], [.int 3]] (beV cd c 6).toNat = l9R cd c := rfl
theorem l9L_eq (cd : List Int) (cu : Cu) : l6W cd (l9R cd cu) (beS cd cu 6) = l9L cd cu := rfl
theorem l9M_eq (cd : List Int) (cu : Cu) : l6W cd (l9R cd cu) (l9L cd cu).2 = l9M cd cu := rfl
theorem l9a_eq (cd : List Int) (cu : Cu) : sgG (l9R cd cu) (l9L cd cu).1 = l9a cd cu := rfl
attribute [go_sem] l9R_eq l9L_eq l9M_eq l9a_eq
theorem l9L_ok (cd : List Int) (cu : Cu) : (l9L cd cu).1.length ≤ 3 ∧ (∀ w ∈ (l9L cd cu).1, w.length ≤ 5) ∧ awB (l9R cd cu) (l9L cd cu).1 = true := l6W_ok cd _ (l9R_ok cd cu)
theorem l9M_ok (cd : List Int) (cu : Cu) : (l9M cd cu).1.length ≤ 3 ∧ (∀ w ∈ (l9M cd cu).1, w.length ≤ 5) ∧ awB (l9R cd cu) (l9M cd cu).1 = true := l6W_ok cd _ (l9R_ok cd cu)
theorem awB_all {r : Int} {ws : List (List Int)} (h : awB r ws = true) : ∀ w ∈ ws, isW r w = true := by
  simp only [awB, awA, Bool.and_eq_true, decide_eq_true_eq, List.all_eq_true] at h
  exact h.2.1
theorem awB_of {r : Int} {ws : List (List Int)} (hr : 1 ≤ r ∧ r ≤ 3) (hl : ws.length ≤ 4) (hw : ∀ w ∈ ws, w.length ≤ 5) (h : ∀ w ∈ ws, isW r w = true) : awB r ws = true := by
  rw [awB_yes ⟨hr.1, hr.2, by omega⟩ (List.all_eq_true.2 h), decide_eq_true_eq]
  have := tlW_le hw
  omega
theorem l9N_ok (cd : List Int) (cu : Cu) : (l9N cd cu).length ≤ 4 ∧ (∀ w ∈ (l9N cd cu), w.length ≤ 5) ∧ awB (l9R cd cu) (l9N cd cu) = true := by
  obtain ⟨a1, a2, a3⟩ := l9L_ok cd cu
  obtain ⟨b1, b2, b3⟩ := l9M_ok cd cu
  have hr := l9R_ok cd cu
  unfold l9N
  split
  · rename_i h
    have hm := wx_mem (ws := (l9L cd cu).1) (i := 0) h.2
    have e : ((l9M cd cu).1 ++ [wx (l9L cd cu).1 0]).length ≤ 4 := by rw [List.length_append, List.length_singleton]; omega
    have e2 : ∀ w ∈ (l9M cd cu).1 ++ [wx (l9L cd cu).1 0], w.length ≤ 5 ∧ isW (l9R cd cu) w = true := fun w hw => by
      rcases List.mem_append.1 hw with hw | hw
      · exact ⟨b2 w hw, awB_all b3 w hw⟩
      · rw [List.mem_singleton] at hw; subst hw; exact ⟨a2 _ hm, awB_all a3 _ hm⟩
    exact ⟨e, fun w hw => (e2 w hw).1, awB_of hr e (fun w hw => (e2 w hw).1) fun w hw => (e2 w hw).2⟩
  · exact ⟨by omega, b2, b3⟩
theorem l9a_es (cd : List Int) (cu : Cu) : (l9a cd cu).es.length ≤ 1048576 := sgG_es _ _
theorem l9b_es (cd : List Int) (cu : Cu) : (l9b cd cu).es.length ≤ 1048576 := sgG_es _ _
attribute [local irreducible] beV beS byV byS nwC l6W l2W sgG flG coreG canG l9R l9L l9M l9N l9a l9b awB l4A l4G
noncomputable def dII (cd : List Int) : Gr := if beV cd (l9C cd (nwC cd)) 10 = 0 then (l4A cd (beS cd (l9C cd (nwC cd)) 10)).1 else l9b cd (nwC cd)
theorem dII_es (cd : List Int) : (dII cd).es.length ≤ 1048576 := by
  unfold dII
  split
  · have := l4A_ok cd (beS cd (l9C cd (nwC cd)) 10); omega
  · exact l9b_es _ _
end Go.Proofs.Try
