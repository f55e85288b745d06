import Derived.Test.YtfapjflogjblaaaGreatJ1
set_option maxHeartbeats 16000000
set_option maxRecDepth 20000
set_option linter.unusedVariables false
set_option linter.unusedSimpArgs false
set_option linter.unnecessarySimpa false
namespace Go.Proofs.Tryz
open Go Go.Eng

def strs (l : List (List Int)) : List El := l.map fun s => [.str (strI s)]
def sx (l : List (List Int)) (i : Nat) : List Int := l.getD i []
theorem strsLen (l : List (List Int)) : (strs l).length = l.length := by simp [strs]
theorem strsAt {l : List (List Int)} {i : Nat} (h : i < l.length) : (strs l)[i]? = some [.str (strI (sx l i))] := by simp [strs, sx, h]
theorem strsApp (l : List (List Int)) (a : List Int) : strs l ++ [[.str (strI a)]] = strs (l ++ [a]) := by simp [strs]
theorem strsNil : strs [] = [] := rfl
theorem strsDrop (l : List (List Int)) (n : Nat) : (strs l).drop n = strs (l.drop n) := by simp [strs, List.map_drop]
theorem strsTake (l : List (List Int)) (n : Nat) : (strs l).take n = strs (l.take n) := by simp [strs, List.map_take]
theorem sxDrop (l : List (List Int)) (n j : Nat) : sx (l.drop n) j = sx l (n + j) := by simp [sx]
theorem sxTail (l : List (List Int)) (j : Nat) : sx l.tail j = sx l (j + 1) := by cases l <;> simp [sx]
theorem c32 : (⟨#[32]⟩ : ByteArray) = strI [32] := rfl
theorem cNone : (⟨#[110, 111, 110, 101]⟩ : ByteArray) = strI [110, 111, 110, 101] := rfl
attribute [go_sem] strsLen strsAt strsApp strsNil strsDrop strsTake sxDrop sxTail

def joinN (l : List (List Int)) : Nat → List Int
  | 0 => []
  | n + 1 => (if n = 0 then [] else joinN l n ++ [32]) ++ sx l n
theorem joinN_len (l : List (List Int)) (B : Nat) (h : ∀ s ∈ l, s.length ≤ B) (n : Nat) (hn : n ≤ l.length) : (joinN l n).length ≤ n * (B + 1) := by
  induction n with
  | zero => simp [joinN]
  | succ n ih =>
    have h1 := ih (by omega)
    have h2 : (sx l n).length ≤ B := by
      have : sx l n = l[n] := by simp [sx, show n < l.length by omega]
      rw [this]; exact h _ (List.getElem_mem _)
    unfold joinN
    rw [Nat.add_mul]
    split
    · simp; omega
    · simp; omega
def glue (l : List (List Int)) : List Int := if l.length = 0 then [110, 111, 110, 101] else joinN l l.length
def glued_S : Eng.Spec := fun args av objs => ∃ l : List (List Int), l.length ≤ 1048576 ∧ (∀ s ∈ l, s.length ≤ 100) ∧ args = [AV.one (.imm 1 (strs l)), AV.one (.sc (.str (strI [32]))), AV.one (.sc (.str (strI [110, 111, 110, 101])))] ∧ av = AV.one (.sc (.str (strI (glue l)))) ∧ objs = []
def K85 : Nat → List Nat := fun i => ([[0,1,2],[0,1,2,12],[6],[0,1,7],[1,7,18,19,20],[1,7,18,19,20,21],[1,7,9,18,19,20],[1,7,18,19,20],[1,7,18,19,20],[6]] : List (List Nat)).getD i []
theorem glued_sat : Sat Tryz.prog 85 glued_S := by
  refine sat_of tok okr mixed K85 Tryz.func85 rfl (rs := [.tmp 6]) rfl rfl ?_
  rintro args av objs ⟨l, hl, hB, rfl, rfl, rfl⟩
  refine ⟨by show 3 ≤ 31; decide, ?_⟩
  repeat' (first
    | refine w_op rfl (by simp (disch := first | omega | (simp; omega)) [go_sem, Tryz.ntmps85, -Option.map_eq_some_iff]; rfl) ?_
    | refine w_end (by simp [go_sem, K85]; rfl) ?_
    | refine w_op rfl (by simp (disch := first | omega | (simp; omega)) [go_sem, Tryz.ntmps85, -Option.map_eq_some_iff, *]; rfl) ?_
    | refine zst ?_
    | refine zo ?_
    | (refine zk ?_ ?_<;>intro hc hr<;>try exact zx))
  · refine k_ret (by simp [go_sem]; first | exact ⟨rfl, rfl⟩ | rfl) ?_ rfl
    have : l.length = 0 := by omega
    simp [glue, this]
  have h1 : 1 ≤ l.length := by omega
  refine a_loop (fun i : Nat => ⟨31, [(1, AV.one (.sc (.str (strI [32])))), (7, AV.one (.sc (.str (strI (joinN l (i + 1)))))), (18, AV.one (.imm 1 (strs l.tail))), (19, AV.one (.sc (.int ((l.length : Int) - 1)))), (20, AV.one (.sc (.int i)))], [], []⟩) (fun i => i + 1 ≤ l.length) (fun i => l.length - i) 0 (by omega) ?_ ?_
  · refine weak_of [] rfl (by decide) ?_ ?_ rfl
    · simp [go_sem, AVm, CVm, lookS, joinN]
      rw [List.take_of_length_le (by simp)]
      exact ⟨rfl, by omega⟩
    · simp
  intro i hi
  have hjl := joinN_len l 100 hB (i + 1) hi
  have hs : (sx l (i + 1)).length ≤ 100 := by
    unfold sx
    by_cases h : i + 1 < l.length
    · rw [List.getD_eq_getElem?_getD, List.getElem?_eq_getElem h]; exact hB _ (List.getElem_mem h)
    · rw [List.getD_eq_getElem?_getD, List.getElem?_eq_none (by omega)]; simp
  repeat' (first
    | refine w_op rfl (by simp (disch := first | omega | (simp; omega)) [go_sem, Nat.add_comm 1 i, Tryz.ntmps85, -Option.map_eq_some_iff]; rfl) ?_
    | refine w_end (by simp [go_sem, K85]; rfl) ?_
    | refine w_op rfl (by simp (disch := first | omega | (simp; omega)) [go_sem, Nat.add_comm 1 i, Tryz.ntmps85, -Option.map_eq_some_iff, *]; rfl) ?_
    | refine zst ?_
    | refine zo ?_
    | (refine zk ?_ ?_<;>intro hc hr<;>try exact zx))
  · refine k_lop (i + 1) (by omega) (by omega) (weak_of [] rfl (by decide) ?_ ?_ rfl)
    · simp [go_sem, AVm, CVm, lookS, joinN]
    · simp
  · have : i + 1 = l.length := by omega
    refine k_ret (by simp [go_sem]; first | exact ⟨rfl, rfl⟩ | rfl) ?_ rfl
    simp [glue, ← this]
end Go.Proofs.Tryz
