import Derived.Test.YtdhnpicnaajdfaaJ2
import Derived.Test.YtdhnpicnaajdfaaA
set_option linter.unusedVariables false
set_option linter.unusedSimpArgs false
set_option linter.unnecessarySimpa false
namespace Go.Proofs.Try
open Go Go.Eng
set_option linter.unnecessarySimpa false
set_option linter.unusedSimpArgs false
set_option maxHeartbeats 4000000

theorem loop_len (b : ByteArray) : ∀ (n i : Nat) (r : List UInt8), b.size - i = n → (ByteArray.toList.loop b i r).length = r.length + n := by
  intro n
  induction n with
  | zero => intro i r h; unfold ByteArray.toList.loop; rw [if_neg (by omega)]; simp
  | succ n ih =>
    intro i r h
    unfold ByteArray.toList.loop
    rw [if_pos (by omega), ih (i + 1) _ (by omega)]
    simp; omega
theorem toList_len (b : ByteArray) : b.toList.length = b.size := by
  unfold ByteArray.toList
  rw [loop_len b b.size 0 [] (by omega)]
  simp
theorem strE (l : List Int) : (strI l).toList.isEmpty = decide (l.length = 0) := by
  have := toList_len (strI l)
  rw [strI_size] at this
  cases h : (strI l).toList with
  | nil => rw [h] at this; simp at this; simp [← this]
  | cons a r => rw [h] at this; simp at this; simp [← this]
attribute [go_sem] strE
theorem joinN_0 {l : List (List Int)} (h : ∀ s ∈ l, s ≠ []) {n : Nat} (h0 : 0 < n) (hn : n ≤ l.length) : ¬ (joinN l n).length = 0 := by
  cases n with
  | zero => omega
  | succ n =>
    have h2 : sx l n ≠ [] := by
      have : sx l n = l[n] := by simp [sx, show n < l.length by omega]
      rw [this]; exact h _ (List.getElem_mem _)
    have h3 : (sx l n).length ≠ 0 := by simpa using h2
    unfold joinN
    simp only [List.length_append]
    omega
theorem glue_0 {l : List (List Int)} (h : ∀ s ∈ l, s ≠ []) : glue l = if (joinN l l.length).length = 0 then [110, 111, 110, 101] else joinN l l.length := by
  unfold glue
  by_cases h0 : l.length = 0
  · rw [if_pos h0, if_pos (by rw [h0]; rfl)]
  · rw [if_neg h0, if_neg (joinN_0 h (by omega) (Nat.le_refl _))]
theorem ix_rg {l : List Int} (h : ∀ n ∈ l, rg n) (i : Nat) : rg (ix l i) := by
  unfold ix
  by_cases hi : i < l.length
  · rw [List.getD_eq_getElem?_getD, List.getElem?_eq_getElem hi]; exact h _ (List.getElem_mem hi)
  · rw [List.getD_eq_getElem?_getD, List.getElem?_eq_none (by omega)]; simp [rg]
def fmtsN (l : List Int) (i : Nat) : List (List Int) := (l.take i).map fmtI
theorem fmtsN_succ {l : List Int} {i : Nat} (h : i < l.length) : fmtsN l (i + 1) = fmtsN l i ++ [fmtI (ix l i)] := by
  unfold fmtsN
  rw [List.take_add_one, List.map_append]; simp [ix, h]
theorem fmtsN_len {l : List Int} {i : Nat} (h : i ≤ l.length) : (fmtsN l i).length = i := by simp [fmtsN, h]
theorem fmtsN_le {l : List Int} (h : ∀ n ∈ l, rg n) (i : Nat) : ∀ s ∈ fmtsN l i, s.length ≤ 100 := by
  intro s hs
  simp only [fmtsN, List.mem_map] at hs
  obtain ⟨n, hn, rfl⟩ := hs
  have := fmtI_len (h n (List.mem_of_mem_take hn))
  omega
theorem fmtsN_ne (l : List Int) (i : Nat) : ∀ s ∈ fmtsN l i, s ≠ [] := by
  intro s hs
  simp only [fmtsN, List.mem_map] at hs
  obtain ⟨n, hn, rfl⟩ := hs
  exact fmtI_ne n
theorem sx_fmts {l : List Int} {i : Nat} (h : i < l.length) : sx (fmtsN l l.length) i = fmtI (ix l i) := by
  simp [sx, fmtsN, ix, h]
def fmtIs (l : List Int) : List Int := glue (fmtsN l l.length)
def fmtIs_S : Eng.Spec := fun args av objs => ∃ l : List Int, l.length ≤ 1048576 ∧ (∀ n ∈ l, rg n) ∧ args = [AV.one (.imm 1 (ints l))] ∧ av = AV.one (.sc (.str (strI (fmtIs l)))) ∧ objs = []
end Go.Proofs.Try
