import Derived.Test.YtdhnpicnaajdfaaGreatC
import Derived.Test.YtdhnpicnaajdfaaGreatU4
set_option linter.unusedVariables false
set_option linter.unusedSimpArgs false
set_option linter.unnecessarySimpa false
/- Plain: folds replayed. -/
namespace Go.Proofs.Tryz
open Go Go.Eng
set_option linter.unnecessarySimpa false
set_option linter.unusedSimpArgs false
set_option maxHeartbeats 4000000
theorem fd_app {l : List Fd} {f : Fd} {i : Nat} (h : i < l.length) : fd (l ++ [f]) i = fd l i := by
  simp [fd, List.getElem?_append_left h]
theorem fd_app2 {l : List Fd} {f : Fd} : fd (l ++ [f]) l.length = f := by simp [fd]
theorem repN_app {g : Gr} {l : List Fd} {f : Fd} : ∀ {k : Nat}, k ≤ l.length → repN g (l ++ [f]) k = repN g l k ∧ repOk g (l ++ [f]) k = repOk g l k
  | 0, _ => ⟨rfl, rfl⟩
  | k + 1, h => by
    obtain ⟨h1, h2⟩ := repN_app (g := g) (l := l) (f := f) (k := k) (by omega)
    have h3 := fd_app (f := f) (show k < l.length by omega)
    exact ⟨by rw [repN, repN, h1, h3], by rw [repOk, repOk, h1, h2, h3]⟩
theorem fio_rep {g : Gr} (cs : List Int) : ∀ i, repN g (fio cs g i).2 (fio cs g i).2.length = (fio cs g i).1 ∧ repOk g (fio cs g i).2 (fio cs g i).2.length = true
  | 0 => ⟨rfl, rfl⟩
  | i + 1 => by
    have ih := fio_rep (g := g) cs i
    by_cases h : (foldsOf (fio cs g i).1.es).length = 0
    · have e := fio_stop h 1
      rw [e]; exact ih
    · rw [fio_succ h]
      have hm := fd_mem (pickF_lt (cs := cs) (i := i) (lenPos h))
      generalize fd (foldsOf (fio cs g i).1.es) (pickF cs (foldsOf (fio cs g i).1.es).length i) = f at *
      obtain ⟨h1, h2⟩ := repN_app (g := g) (f := f) (Nat.le_refl (fio cs g i).2.length)
      simp only [List.length_append, List.length_singleton]
      refine ⟨by rw [repN, h1, ih.1, fd_app2], ?_⟩
      rw [repOk, h2, ih.2, h1, ih.1, fd_app2]
      simp [hm]
theorem foldO_rep {g : Gr} (hg : g.ok = true) (cs : List Int) : rep g (foldO cs g).2 = (foldO cs g).1 ∧ repAll g (foldO cs g).2 = true := by
  obtain ⟨h1, h2⟩ := fio_rep (g := g) cs 40
  rw [foldO_yes hg]
  obtain ⟨h3, h4⟩ := rep_yes hg h2
  exact ⟨h3.trans h1, h4⟩
theorem foldO_size {g : Gr} (hg : g.ok = true) (cs : List Int) : (foldO cs g).1.z = g.z - (foldO cs g).2.length := by
  rw [foldO_yes hg]
  have := (fio_ok (cs := cs) hg 40).2.1
  omega
theorem fio_rg {g : Gr} (hg : g.ok = true) (cs : List Int) : ∀ i, ∀ f ∈ (fio cs g i).2, 0 ≤ f.1 ∧ f.1 ≤ 40 ∧ 0 ≤ f.2 ∧ f.2 ≤ 40
  | 0, f, hf => by simp [fio] at hf
  | i + 1, f, hf => by
    by_cases h : (foldsOf (fio cs g i).1.es).length = 0
    · have e := fio_stop h 1
      rw [e] at hf; exact fio_rg hg cs i f hf
    · rw [fio_succ h] at hf
      rcases List.mem_append.1 hf with hf | hf
      · exact fio_rg hg cs i f hf
      · rw [List.mem_singleton] at hf
        subst hf
        have hm := fd_mem (pickF_lt (cs := cs) (i := i) (lenPos h))
        have h1 := (fio_ok (cs := cs) hg i).1
        have h2 := (mergeOk_iff (r := (fio cs g i).1.r) (z := (fio cs g i).1.z) (es := (fio cs g i).1.es)).1 (folds_ok h1 hm)
        have h3 := ok_z h1
        omega
theorem foldO_rg (cs : List Int) (g : Gr) : ∀ f ∈ (foldO cs g).2, 0 ≤ f.1 ∧ f.1 ≤ 40 ∧ 0 ≤ f.2 ∧ f.2 ≤ 40 := fun f hf => by
  cases h : g.ok
  · rw [foldO_no h] at hf; cases hf
  · rw [foldO_yes h] at hf; exact fio_rg h cs 40 f hf
theorem merge_le {g : Gr} {k d : Int} {n : Nat} (h : g.es.length ≤ n) : (merge g k d).es.length ≤ n := by
  unfold merge
  split
  · have := norm_len (g.es.map (mapE k d))
    rw [List.length_map] at this
    show (norm (g.es.map (mapE k d))).length ≤ n
    omega
  · exact h
end Go.Proofs.Tryz
