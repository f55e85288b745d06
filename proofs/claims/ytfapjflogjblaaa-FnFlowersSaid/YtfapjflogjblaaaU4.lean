import Derived.Test.YtfapjflogjblaaaD
import Derived.Test.YtfapjflogjblaaaA
set_option linter.unusedVariables false
set_option linter.unusedSimpArgs false
set_option linter.unnecessarySimpa false
/- Plain: folding on and on; folds replayed. -/
namespace Go.Proofs.Try
open Go Go.Eng
theorem lenPos {α : Type} {l : List α} (h : ¬ l.length = 0) : 0 < l.length := by omega
/-! ### Folding in an order of choice -/
def pickF (cs : List Int) (n i : Nat) : Nat := if i < cs.length ∧ 0 < ix cs i then (ix cs i % (n : Int)).toNat else 0
theorem pickF_lt {cs : List Int} {n i : Nat} (h : 0 < n) : pickF cs n i < n := by
  unfold pickF
  split
  · have h1 := Int.emod_lt_of_pos (ix cs i) (show (0 : Int) < n by omega)
    have h2 := Int.emod_nonneg (ix cs i) (show (n : Int) ≠ 0 by omega)
    omega
  · exact h
def fio (cs : List Int) (g : Gr) : Nat → Gr × List Fd
  | 0 => (g, [])
  | i + 1 => if (foldsOf (fio cs g i).1.es).length = 0 then fio cs g i else
      (merge (fio cs g i).1 (fd (foldsOf (fio cs g i).1.es) (pickF cs (foldsOf (fio cs g i).1.es).length i)).1 (fd (foldsOf (fio cs g i).1.es) (pickF cs (foldsOf (fio cs g i).1.es).length i)).2,
       (fio cs g i).2 ++ [fd (foldsOf (fio cs g i).1.es) (pickF cs (foldsOf (fio cs g i).1.es).length i)])
theorem fio_stop {cs : List Int} {g : Gr} {i : Nat} (h : (foldsOf (fio cs g i).1.es).length = 0) : ∀ k, fio cs g (i + k) = fio cs g i := by
  intro k
  induction k with
  | zero => rfl
  | succ k ih =>
    rw [← Nat.add_assoc, fio, ih, if_pos h]
theorem fio_succ {cs : List Int} {g : Gr} {i : Nat} (h : ¬ (foldsOf (fio cs g i).1.es).length = 0) : fio cs g (i + 1) = (merge (fio cs g i).1 (fd (foldsOf (fio cs g i).1.es) (pickF cs (foldsOf (fio cs g i).1.es).length i)).1 (fd (foldsOf (fio cs g i).1.es) (pickF cs (foldsOf (fio cs g i).1.es).length i)).2,
       (fio cs g i).2 ++ [fd (foldsOf (fio cs g i).1.es) (pickF cs (foldsOf (fio cs g i).1.es).length i)]) := by rw [fio, if_neg h]
theorem fio_ok {cs : List Int} {g : Gr} (hg : g.ok = true) : ∀ i, (fio cs g i).1.ok = true ∧ (fio cs g i).1.z + (fio cs g i).2.length = g.z ∧ (fio cs g i).2.length ≤ i ∧ (¬ (foldsOf (fio cs g i).1.es).length = 0 → (fio cs g i).2.length = i) := by
  intro i
  induction i with
  | zero => simp [fio, hg]
  | succ i ih =>
    obtain ⟨h1, h2, h3, h4⟩ := ih
    by_cases h : (foldsOf (fio cs g i).1.es).length = 0
    · have e := fio_stop h 1
      rw [e]
      exact ⟨h1, h2, by omega, fun hn => absurd h hn⟩
    · rw [fio_succ h]
      have hm := folds_ok h1 (fd_mem (pickF_lt (cs := cs) (i := i) (lenPos h)))
      have h5 := h4 h
      refine ⟨merge_ok hm, ?_, ?_, ?_⟩
      · simp only [merge_z hm, List.length_append, List.length_singleton]; omega
      · simp only [List.length_append, List.length_singleton]; omega
      · intro _; simp only [List.length_append, List.length_singleton]; omega
theorem ok_z {g : Gr} (h : g.ok = true) : 1 ≤ g.z ∧ g.z ≤ 40 ∧ g.es.length ≤ 120 ∧ 1 ≤ g.r ∧ g.r ≤ 3 := by
  have := (ok_iff.1 h).1
  omega
theorem fio_lt {cs : List Int} {g : Gr} (hg : g.ok = true) {i : Nat} (h : ¬ (foldsOf (fio cs g i).1.es).length = 0) : i < 40 := by
  obtain ⟨h1, h2, h3, h4⟩ := fio_ok (cs := cs) hg i
  have := ok_z h1
  have := ok_z hg
  have := h4 h
  omega
/-- What is left when nothing more can be folded. -/
def foldO (cs : List Int) (g : Gr) : Gr × List Fd := if g.ok then fio cs g 40 else (g, [])
theorem foldO_yes {cs : List Int} {g : Gr} (hg : g.ok = true) : foldO cs g = fio cs g 40 := by simp [foldO, hg]
theorem foldO_no {cs : List Int} {g : Gr} (hg : g.ok = false) : foldO cs g = (g, []) := by simp [foldO, hg]
theorem foldO_at {cs : List Int} {g : Gr} (hg : g.ok = true) {i : Nat} (h : (foldsOf (fio cs g i).1.es).length = 0) (hi : i ≤ 40) : foldO cs g = fio cs g i := by
  rw [foldO_yes hg]
  have := fio_stop h (40 - i)
  rw [show i + (40 - i) = 40 by omega] at this
  exact this
theorem foldO_ok {cs : List Int} {g : Gr} (hg : g.ok = true) : (foldO cs g).1.ok = true := by
  rw [foldO_yes hg]; exact (fio_ok hg 40).1
theorem foldO_done {cs : List Int} {g : Gr} (hg : g.ok = true) : (foldsOf (foldO cs g).1.es).length = 0 := by
  rw [foldO_yes hg]
  by_cases h : (foldsOf (fio cs g 40).1.es).length = 0
  · exact h
  · have := fio_lt hg h; omega
theorem foldO_len {cs : List Int} {g : Gr} : (foldO cs g).2.length ≤ 40 := by
  unfold foldO
  split
  · rename_i h; have := (fio_ok (cs := cs) h 40).2.2.1; exact this
  · simp
theorem foldO_es {cs : List Int} {g : Gr} {n : Nat} (h : g.es.length ≤ n) (hn : 120 ≤ n) : (foldO cs g).1.es.length ≤ n := by
  unfold foldO
  split
  · rename_i hg; have := ok_z (fio_ok (cs := cs) hg 40).1; omega
  · exact h
/-! ### Folds replayed -/
def repN (g : Gr) (l : List Fd) : Nat → Gr
  | 0 => g
  | i + 1 => merge (repN g l i) (fd l i).1 (fd l i).2
def repOk (g : Gr) (l : List Fd) : Nat → Bool
  | 0 => true
  | i + 1 => repOk g l i && decide (fd l i ∈ foldsOf (repN g l i).es)
theorem repN_ok {g : Gr} {l : List Fd} (hg : g.ok = true) : ∀ i, repOk g l i = true → (repN g l i).ok = true := by
  intro i
  induction i with
  | zero => intro _; exact hg
  | succ i ih =>
    intro h
    simp only [repOk, Bool.and_eq_true, decide_eq_true_eq] at h
    exact merge_ok (folds_ok (ih h.1) h.2)
theorem repOk_mono {g : Gr} {l : List Fd} {i j : Nat} (hij : i ≤ j) (h : repOk g l j = true) : repOk g l i = true := by
  induction j with
  | zero => have : i = 0 := by omega
            subst this; exact h
  | succ j ih =>
    rcases Nat.lt_or_ge i (j + 1) with h1 | h1
    · simp only [repOk, Bool.and_eq_true] at h
      exact ih (by omega) h.1
    · have : i = j + 1 := by omega
      subst this; exact h
def repAll (g : Gr) (l : List Fd) : Bool := g.ok && repOk g l l.length
def rep (g : Gr) (l : List Fd) : Gr := if repAll g l then repN g l l.length else g
theorem rep_yes {g : Gr} {l : List Fd} (hg : g.ok = true) (h : repOk g l l.length = true) : rep g l = repN g l l.length ∧ repAll g l = true := by simp [rep, repAll, hg, h]
theorem rep_bad {g : Gr} {l : List Fd} {i : Nat} (hi : i < l.length) (h : fd l i ∉ foldsOf (repN g l i).es) : rep g l = g ∧ repAll g l = false := by
  have : repOk g l l.length = false := by
    rw [← Bool.not_eq_true]
    intro h2
    have := repOk_mono (show i + 1 ≤ l.length from hi) h2
    simp only [repOk, Bool.and_eq_true, decide_eq_true_eq] at this
    exact h this.2
  simp [rep, repAll, this]
theorem rep_no {g : Gr} {l : List Fd} (hg : g.ok = false) : rep g l = g ∧ repAll g l = false := by simp [rep, repAll, hg]
theorem rep_es {g : Gr} {l : List Fd} {n : Nat} (h : g.es.length ≤ n) (hn : 120 ≤ n) : (rep g l).es.length ≤ n := by
  unfold rep
  split
  · rename_i hg
    simp only [repAll, Bool.and_eq_true] at hg
    have := ok_z (repN_ok hg.1 _ hg.2); omega
  · exact h
/-- Among the first ones. -/
def inN (l : List Fd) (f : Fd) (j : Nat) : Bool := decide (f ∈ l.take j)
theorem inN_0 (l : List Fd) (f : Fd) : inN l f 0 = false := by simp [inN]
theorem inN_succ {l : List Fd} {f : Fd} {j : Nat} (h : j < l.length) : inN l f (j + 1) = (inN l f j || decide (fd l j = f)) := by
  have : l.take (j + 1) = l.take j ++ [fd l j] := by rw [List.take_add_one]; simp [fd, h]
  unfold inN
  rw [this]
  by_cases h1 : f ∈ l.take j
  · simp [h1]
  · by_cases h2 : fd l j = f
    · simp [h2]
    · have h3 : ¬ f = fd l j := fun h => h2 h.symm
      simp [h1, h2, h3]
theorem inN_all (l : List Fd) (f : Fd) : inN l f l.length = decide (f ∈ l) := by simp [inN]
end Go.Proofs.Try
