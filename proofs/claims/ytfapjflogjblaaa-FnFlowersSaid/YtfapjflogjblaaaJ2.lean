import Derived.Test.YtfapjflogjblaaaJ1
set_option linter.unusedVariables false
set_option linter.unusedSimpArgs false
set_option linter.unnecessarySimpa false
namespace Go.Proofs.Try
open Go Go.Eng
set_option linter.unnecessarySimpa false
set_option linter.unusedSimpArgs false
set_option maxHeartbeats 4000000

/-! ### Lists of strings; the pieces of a text joined -/
def strs (l : List (List Int)) : List El := l.map fun s => [.str (strI s)]
def sx (l : List (List Int)) (i : Nat) : List Int := l.getD i []
theorem strsLen (l : List (List Int)) : (strs l).length = l.length := by simp [strs]
theorem strsAt {l : List (List Int)} {i : Nat} (h : i < l.length) : (strs l)[i]? = some [.str (strI (sx l i))] := by simp [strs, sx, h]
theorem strsApp (l : List (List Int)) (a : List Int) : strs l ++ [[.str (strI a)]] = strs (l ++ [a]) := by simp [strs]
theorem strsNil : strs [] = [] := rfl
theorem strsDrop (l : List (List Int)) (n : Nat) : (strs l).drop n = strs (l.drop n) := by simp [strs, List.map_drop]
theorem strsTake (l : List (List Int)) (n : Nat) : (strs l).take n = strs (l.take n) := by simp [strs, List.map_take]
theorem sxDrop (l : List (List Int)) (n j : Nat) : sx (l.drop n) j = sx l (n + j) := by simp [sx]
theorem sxTail (l : List (List Int)) (j : Nat) : sx l.tail j = sx l (j + 1) := by cases l <;> simp [sx]
theorem c32 : (⟨#[32]⟩ : ByteArray) = strI [32] := rfl
theorem cNone : (⟨#[110, 111, 110, 101]⟩ : ByteArray) = strI [110, 111, 110, 101] := rfl
attribute [go_sem] strsLen strsAt strsApp strsNil strsDrop strsTake sxDrop sxTail

/-- The pieces up to the i-th, with blanks between. -/
def joinN (l : List (List Int)) : Nat → List Int
  | 0 => []
  | n + 1 => (if n = 0 then [] else joinN l n ++ [32]) ++ sx l n
def tot (l : List (List Int)) : Nat := (l.map fun s => s.length + 1).sum
theorem joinN_len (l : List (List Int)) (B : Nat) (h : ∀ s ∈ l, s.length ≤ B) (n : Nat) (hn : n ≤ l.length) : (joinN l n).length ≤ n * (B + 1) := by
  induction n with
  | zero => simp [joinN]
  | succ n ih =>
    have h1 := ih (by omega)
    have h2 : (sx l n).length ≤ B := by
      have : sx l n = l[n] := by simp [sx, show n < l.length by omega]
      rw [this]; exact h _ (List.getElem_mem _)
    unfold joinN
    rw [Nat.add_mul]
    split
    · simp; omega
    · simp; omega
def glue (l : List (List Int)) : List Int := if l.length = 0 then [110, 111, 110, 101] else joinN l l.length
def glued_S : Eng.Spec := fun args av objs => ∃ l : List (List Int), l.length ≤ 1048576 ∧ (∀ s ∈ l, s.length ≤ 100) ∧ args = [AV.one (.imm 1 (strs l)), AV.one (.sc (.str (strI [32]))), AV.one (.sc (.str (strI [110, 111, 110, 101])))] ∧ av = AV.one (.sc (.str (strI (glue l)))) ∧ objs = []
def K52 : Nat → List Nat := fun i => ([[0, 1, 2], [0, 1, 2, 12], [6], [0, 1, 7], [1, 7, 18, 19, 20], [1, 7, 18, 19, 20, 21], [1, 7, 9, 18, 19, 20], [1, 7, 18, 19, 20], [1, 7, 18, 19, 20], [6]] : List (List Nat)).getD i []
theorem glued_sat : Sat Try.prog 52 glued_S := by
  refine sat_of tok okr mixed K52 Try.func52 rfl (rs := [.tmp 6]) rfl rfl ?_
  rintro args av objs ⟨l, hl, hB, rfl, rfl, rfl⟩
  refine ⟨by show 3 ≤ 31; decide, ?_⟩
  repeat' (first
    | refine w_op rfl (by simp (disch := first | omega | (simp; omega)) [go_sem, Try.ntmps52, -Option.map_eq_some_iff]; rfl) ?_
    | refine l_op rfl (by simp (disch := first | omega | (simp; omega)) [go_sem, Try.ntmps52, -Option.map_eq_some_iff]; exact ⟨rfl, rfl⟩) ?_
    | refine w_end (by simp [go_sem, K52]; rfl) ?_
    | refine l_end (by kernel_rfl) (by simp [go_sem, K52]; rfl) ?_
    | refine w_yes' (by simpa [go_sem, *] using trivial) rfl (by simp (disch := first | omega | (simp; omega)) [go_sem, Try.ntmps52, -Option.map_eq_some_iff]; rfl) ?_
    | refine w_no' (by simpa [go_sem, *] using trivial) rfl rfl (by simp [go_sem, skipE]; rfl) ?_
    | refine w_op rfl (by simp (disch := first | omega | (simp; omega)) [go_sem, Try.ntmps52, -Option.map_eq_some_iff, *]; rfl) ?_
    | refine l_op' (by simpa [go_sem, *] using trivial) rfl (by simp (disch := first | omega | (simp; omega)) [go_sem, Try.ntmps52, -Option.map_eq_some_iff, *]; exact ⟨rfl, rfl⟩) ?_
    | refine l_no' (by simpa [go_sem, *] using trivial) rfl rfl (by simp [go_sem, skipE]; rfl) ?_
    | refine k_seq ?_
    | refine a_seq ?_
    | refine a_reg ?_
    | refine a_draw ?_
    | refine k_seq_exit ?_
    | refine k_seq_ret ?_
    | refine k_blk ?_
    | refine k_blk_exit ?_
    | refine k_blk_other rfl ?_
    | refine k_blk_ret ?_
    | refine k_lop_exit ?_
    | refine k_lop_ret ?_
    | refine a_skip ?_
    | refine a_ret ?_
    | refine a_exit ?_
    | refine a_block ?_
    | (refine a_cond (by simp [go_sem, *, -Bool.not_eq_eq_eq_not]; rfl) (fun hr => ?_) (fun hr => ?_) <;> (have hc := hr) <;> (try simp only [Bool.not_eq_true', Bool.not_eq_false', Bool.and_eq_true, Bool.and_eq_false_imp, Bool.or_eq_true, Bool.or_eq_false_iff, Bool.not_eq_true, Bool.not_eq_false, decide_eq_true_eq, decide_eq_false_iff_not, Int.not_lt, Int.not_le, ge_iff_le, gt_iff_lt, decide_true, decide_false, Bool.false_eq_true, reduceCtorEq, beq_iff_eq, beq_eq_false_iff_ne, ne_eq, bne_iff_ne, bne_eq_false_iff_eq, and_true, true_and, and_false, false_and] at hc) <;> (try (exfalso; omega)))
    | ((fail_if_success (refine w_same (by simpa [go_sem, *] using trivial) rfl ?_)); refine w_splv rfl (by simp [go_sem, *, -Bool.not_eq_eq_eq_not]; rfl) (fun hr => ?_) (fun hr => ?_) <;> (have hg := hr) <;> (try simp only [Bool.not_eq_true', Bool.not_eq_false', Bool.and_eq_true, Bool.and_eq_false_imp, Bool.or_eq_true, Bool.or_eq_false_iff, Bool.not_eq_true, Bool.not_eq_false, decide_eq_true_eq, decide_eq_false_iff_not, Int.not_lt, Int.not_le, ge_iff_le, gt_iff_lt, decide_true, decide_false, Bool.false_eq_true, reduceCtorEq, beq_iff_eq, beq_eq_false_iff_ne, ne_eq, bne_iff_ne, bne_eq_false_iff_eq, and_true, true_and, and_false, false_and] at hg) <;> (try (exfalso; omega)))
    | ((fail_if_success (refine l_same (by simpa [go_sem, *] using trivial) rfl ?_)); refine l_splv rfl (by simp [go_sem, *, -Bool.not_eq_eq_eq_not]; rfl) (fun hr => ?_) (fun hr => ?_) <;> (have hg := hr) <;> (try simp only [Bool.not_eq_true', Bool.not_eq_false', Bool.and_eq_true, Bool.and_eq_false_imp, Bool.or_eq_true, Bool.or_eq_false_iff, Bool.not_eq_true, Bool.not_eq_false, decide_eq_true_eq, decide_eq_false_iff_not, Int.not_lt, Int.not_le, ge_iff_le, gt_iff_lt, decide_true, decide_false, Bool.false_eq_true, reduceCtorEq, beq_iff_eq, beq_eq_false_iff_ne, ne_eq, bne_iff_ne, bne_eq_false_iff_eq, and_true, true_and, and_false, false_and] at hg) <;> (try (exfalso; omega))))
  · refine k_ret (by simp [go_sem]; first | exact ⟨rfl, rfl⟩ | rfl) ?_ rfl
    have : l.length = 0 := by omega
    simp [glue, this]
  have h1 : 1 ≤ l.length := by omega
  refine a_loop (fun i : Nat => ⟨31, [(1, AV.one (.sc (.str (strI [32])))), (7, AV.one (.sc (.str (strI (joinN l (i + 1)))))), (18, AV.one (.imm 1 (strs l.tail))), (19, AV.one (.sc (.int ((l.length : Int) - 1)))), (20, AV.one (.sc (.int i)))], [], []⟩) (fun i => i + 1 ≤ l.length) (fun i => l.length - i) 0 (by omega) ?_ ?_
  · refine weak_of [] rfl (by decide) ?_ ?_ rfl
    · simp [go_sem, AVm, CVm, lookS, joinN]
      rw [List.take_of_length_le (by simp)]
      exact ⟨rfl, by omega⟩
    · simp
  intro i hi
  have hjl := joinN_len l 100 hB (i + 1) hi
  have hs : (sx l (i + 1)).length ≤ 100 := by
    unfold sx
    by_cases h : i + 1 < l.length
    · rw [List.getD_eq_getElem?_getD, List.getElem?_eq_getElem h]; exact hB _ (List.getElem_mem h)
    · rw [List.getD_eq_getElem?_getD, List.getElem?_eq_none (by omega)]; simp
  repeat' (first
    | refine w_op rfl (by simp (disch := first | omega | (simp; omega)) [go_sem, Nat.add_comm 1 i, Try.ntmps52, -Option.map_eq_some_iff]; rfl) ?_
    | refine l_op rfl (by simp (disch := first | omega | (simp; omega)) [go_sem, Nat.add_comm 1 i, Try.ntmps52, -Option.map_eq_some_iff]; exact ⟨rfl, rfl⟩) ?_
    | refine w_end (by simp [go_sem, K52]; rfl) ?_
    | refine l_end (by kernel_rfl) (by simp [go_sem, K52]; rfl) ?_
    | refine w_yes' (by simpa [go_sem, *] using trivial) rfl (by simp (disch := first | omega | (simp; omega)) [go_sem, Nat.add_comm 1 i, Try.ntmps52, -Option.map_eq_some_iff]; rfl) ?_
    | refine w_no' (by simpa [go_sem, *] using trivial) rfl rfl (by simp [go_sem, skipE]; rfl) ?_
    | refine w_op rfl (by simp (disch := first | omega | (simp; omega)) [go_sem, Nat.add_comm 1 i, Try.ntmps52, -Option.map_eq_some_iff, *]; rfl) ?_
    | refine l_op' (by simpa [go_sem, *] using trivial) rfl (by simp (disch := first | omega | (simp; omega)) [go_sem, Nat.add_comm 1 i, Try.ntmps52, -Option.map_eq_some_iff, *]; exact ⟨rfl, rfl⟩) ?_
    | refine l_no' (by simpa [go_sem, *] using trivial) rfl rfl (by simp [go_sem, skipE]; rfl) ?_
    | refine k_seq ?_
    | refine a_seq ?_
    | refine a_reg ?_
    | refine a_draw ?_
    | refine k_seq_exit ?_
    | refine k_seq_ret ?_
    | refine k_blk ?_
    | refine k_blk_exit ?_
    | refine k_blk_other rfl ?_
    | refine k_blk_ret ?_
    | refine k_lop_exit ?_
    | refine k_lop_ret ?_
    | refine a_skip ?_
    | refine a_ret ?_
    | refine a_exit ?_
    | refine a_block ?_
    | (refine a_cond (by simp [go_sem, *, -Bool.not_eq_eq_eq_not]; rfl) (fun hr => ?_) (fun hr => ?_) <;> (have hc := hr) <;> (try simp only [Bool.not_eq_true', Bool.not_eq_false', Bool.and_eq_true, Bool.and_eq_false_imp, Bool.or_eq_true, Bool.or_eq_false_iff, Bool.not_eq_true, Bool.not_eq_false, decide_eq_true_eq, decide_eq_false_iff_not, Int.not_lt, Int.not_le, ge_iff_le, gt_iff_lt, decide_true, decide_false, Bool.false_eq_true, reduceCtorEq, beq_iff_eq, beq_eq_false_iff_ne, ne_eq, bne_iff_ne, bne_eq_false_iff_eq, and_true, true_and, and_false, false_and] at hc) <;> (try (exfalso; omega)))
    | ((fail_if_success (refine w_same (by simpa [go_sem, *] using trivial) rfl ?_)); refine w_splv rfl (by simp [go_sem, *, -Bool.not_eq_eq_eq_not]; rfl) (fun hr => ?_) (fun hr => ?_) <;> (have hg := hr) <;> (try simp only [Bool.not_eq_true', Bool.not_eq_false', Bool.and_eq_true, Bool.and_eq_false_imp, Bool.or_eq_true, Bool.or_eq_false_iff, Bool.not_eq_true, Bool.not_eq_false, decide_eq_true_eq, decide_eq_false_iff_not, Int.not_lt, Int.not_le, ge_iff_le, gt_iff_lt, decide_true, decide_false, Bool.false_eq_true, reduceCtorEq, beq_iff_eq, beq_eq_false_iff_ne, ne_eq, bne_iff_ne, bne_eq_false_iff_eq, and_true, true_and, and_false, false_and] at hg) <;> (try (exfalso; omega)))
    | ((fail_if_success (refine l_same (by simpa [go_sem, *] using trivial) rfl ?_)); refine l_splv rfl (by simp [go_sem, *, -Bool.not_eq_eq_eq_not]; rfl) (fun hr => ?_) (fun hr => ?_) <;> (have hg := hr) <;> (try simp only [Bool.not_eq_true', Bool.not_eq_false', Bool.and_eq_true, Bool.and_eq_false_imp, Bool.or_eq_true, Bool.or_eq_false_iff, Bool.not_eq_true, Bool.not_eq_false, decide_eq_true_eq, decide_eq_false_iff_not, Int.not_lt, Int.not_le, ge_iff_le, gt_iff_lt, decide_true, decide_false, Bool.false_eq_true, reduceCtorEq, beq_iff_eq, beq_eq_false_iff_ne, ne_eq, bne_iff_ne, bne_eq_false_iff_eq, and_true, true_and, and_false, false_and] at hg) <;> (try (exfalso; omega))))
  · refine k_lop (i + 1) (by omega) (by omega) (weak_of [] rfl (by decide) ?_ ?_ rfl)
    · simp [go_sem, AVm, CVm, lookS, joinN]
    · simp
  · have : i + 1 = l.length := by omega
    refine k_ret (by simp [go_sem]; first | exact ⟨rfl, rfl⟩ | rfl) ?_ rfl
    simp [glue, ← this]
end Go.Proofs.Try
