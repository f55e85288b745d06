import Derived.Test.YtoanlehkkideiaaG1
namespace Go.Proofs.Try
open Go Go.Eng
set_option linter.unnecessarySimpa false
set_option linter.unusedSimpArgs false
set_option maxHeartbeats 4000000

abbrev Fd := Int × Int
def fds (l : List Fd) : List El := l.map fun e => [.int e.1, .int e.2]
def fd (l : List Fd) (i : Nat) : Fd := l.getD i (0, 0)
theorem fdsLen (l : List Fd) : (fds l).length = l.length := by simp [fds]
theorem fdsAt {l : List Fd} {i : Nat} (h : i < l.length) : (fds l)[i]? = some [.int (fd l i).1, .int (fd l i).2] := by
  simp [fds, fd, h]
theorem fdsApp (l : List Fd) (a b : Int) : fds l ++ [[.int a, .int b]] = fds (l ++ [(a, b)]) := by simp [fds]
theorem fdsNil : fds [] = [] := rfl
attribute [go_sem] fdsLen fdsAt fdsApp fdsNil
theorem edsDrop (l : List Ed) (n : Nat) : (eds l).drop n = eds (l.drop n) := by simp [eds, List.map_drop]
theorem edsTake (l : List Ed) (n : Nat) : (eds l).take n = eds (l.take n) := by simp [eds, List.map_take]
theorem edDrop (l : List Ed) (n j : Nat) : ed (l.drop n) j = ed l (n + j) := by simp [ed]
attribute [go_sem] edsDrop edsTake edDrop

def mnI (a b : Int) : Int := if b < a then b else a
def mxI (a b : Int) : Int := if a < b then b else a
def pairF (a b : Ed) : List Fd :=
  if a.2.1 = b.2.1 then (if a.1 = b.1 then [(mnI a.2.2 b.2.2, mxI a.2.2 b.2.2)] else []) ++ (if a.2.2 = b.2.2 then [(mnI a.1 b.1, mxI a.1 b.1)] else []) else []
def innerF (es : List Ed) (i : Nat) : Nat → List Fd
  | 0 => []
  | n + 1 => innerF es i n ++ pairF (ed es i) (ed es (i + 1 + n))
def outerF (es : List Ed) : Nat → List Fd
  | 0 => []
  | n + 1 => outerF es n ++ innerF es n (es.length - (n + 1))
def foldsOf (es : List Ed) : List Fd := outerF es es.length
theorem pairF_len (a b : Ed) : (pairF a b).length ≤ 2 := by
  unfold pairF
  split
  · split <;> split <;> simp
  · simp
theorem innerF_len (es : List Ed) (i n : Nat) : (innerF es i n).length ≤ 2 * n := by
  induction n with
  | zero => simp [innerF]
  | succ n ih =>
    have := pairF_len (ed es i) (ed es (i + 1 + n))
    simp only [innerF, List.length_append]; omega
theorem outerF_len (es : List Ed) (n : Nat) : (outerF es n).length ≤ n * (2 * es.length) := by
  induction n with
  | zero => simp [outerF]
  | succ n ih =>
    have := innerF_len es n (es.length - (n + 1))
    simp only [outerF, List.length_append, Nat.add_mul]; omega
theorem outerF_bound {es : List Ed} {n : Nat} (h : es.length ≤ 120) (hn : n ≤ es.length) : (outerF es n).length ≤ 28800 := by
  have h1 := outerF_len es n
  have h2 : n * (2 * es.length) ≤ 120 * 240 := Nat.mul_le_mul (by omega) (by omega)
  omega
def folds_S : Eng.Spec := fun args av objs => ∃ (r z : Int) (es : List Ed), es.length ≤ 120 ∧ args = [grA r z es] ∧ av = AV.one (.ref 0) ∧ objs = [.flat 57 2 (fds (foldsOf es))]
def K62 : Nat → List Nat := fun i => ([[1], [1, 3], [1, 3, 10, 11, 12], [1, 3, 10, 11, 12, 13], [1, 3, 4, 5, 10, 11, 12], [1, 3, 5, 10, 11, 12, 21, 22, 23], [1, 3, 5, 10, 11, 12, 21, 22, 23, 24], [1, 3, 5, 7, 10, 11, 12, 21, 22, 23], [1, 3, 5, 7, 10, 11, 12, 21, 22, 23, 31], [1, 3, 5, 7, 10, 11, 12, 21, 22, 23, 36], [1, 3, 5, 7, 10, 11, 12, 21, 22, 23], [1, 3, 5, 7, 10, 11, 12, 21, 22, 23, 55], [1, 3, 5, 10, 11, 12, 21, 22, 23], [1, 3, 5, 10, 11, 12, 21, 22, 23], [1, 3, 10, 11, 12], [2]] : List (List Nat)).getD i []
theorem folds_sat : Sat Try.prog 62 folds_S := by
  refine sat_of tok okr mixed K62 Try.func62 rfl (rs := [.tmp 2]) rfl rfl ?_
  rintro args av objs ⟨r, z, es, hl, rfl, rfl, rfl⟩
  refine ⟨by show 1 ≤ 73; decide, ?_⟩
  repeat' (first
    | refine w_op rfl (by simp (disch := first | omega | (simp; omega)) [go_sem, grA, Try.ntmps62, -Option.map_eq_some_iff]; rfl) ?_
    | refine l_op rfl (by simp (disch := first | omega | (simp; omega)) [go_sem, grA, Try.ntmps62, -Option.map_eq_some_iff]; exact ⟨rfl, rfl⟩) ?_
    | refine w_end (by simp [go_sem, K62]; rfl) ?_
    | refine l_end (by kernel_rfl) (by simp [go_sem, K62]; rfl) ?_
    | refine w_yes' (by simpa [go_sem, *] using trivial) rfl (by simp (disch := first | omega | (simp; omega)) [go_sem, grA, Try.ntmps62, -Option.map_eq_some_iff]; rfl) ?_
    | refine w_no' (by simpa [go_sem, *] using trivial) rfl rfl (by simp [go_sem, skipE]; rfl) ?_
    | refine w_op rfl (by simp (disch := first | omega | (simp; omega)) [go_sem, grA, Try.ntmps62, -Option.map_eq_some_iff, *]; rfl) ?_
    | refine l_op' (by simpa [go_sem, *] using trivial) rfl (by simp (disch := first | omega | (simp; omega)) [go_sem, grA, Try.ntmps62, -Option.map_eq_some_iff, *]; exact ⟨rfl, rfl⟩) ?_
    | refine l_no' (by simpa [go_sem, *] using trivial) rfl rfl (by simp [go_sem, skipE]; rfl) ?_
    | refine k_seq ?_
    | refine a_seq ?_
    | refine a_reg ?_
    | refine a_draw ?_
    | refine k_seq_exit ?_
    | refine k_seq_ret ?_
    | refine k_blk ?_
    | refine k_blk_exit ?_
    | refine k_blk_other rfl ?_
    | refine k_blk_ret ?_
    | refine k_lop_exit ?_
    | refine k_lop_ret ?_
    | refine a_skip ?_
    | refine a_ret ?_
    | refine a_exit ?_
    | refine a_block ?_
    | (refine a_cond (by simp [go_sem, *, -Bool.not_eq_eq_eq_not]; rfl) (fun hr => ?_) (fun hr => ?_) <;> (have hc := hr) <;> (try simp only [Bool.not_eq_true', Bool.not_eq_false', Bool.and_eq_true, Bool.and_eq_false_imp, Bool.or_eq_true, Bool.or_eq_false_iff, Bool.not_eq_true, Bool.not_eq_false, decide_eq_true_eq, decide_eq_false_iff_not, Int.not_lt, Int.not_le, ge_iff_le, gt_iff_lt, decide_true, decide_false, Bool.false_eq_true, reduceCtorEq, beq_iff_eq, beq_eq_false_iff_ne, ne_eq, bne_iff_ne, bne_eq_false_iff_eq, and_true, true_and, and_false, false_and] at hc) <;> (try (exfalso; omega)))
    | ((fail_if_success (refine w_same (by simpa [go_sem, *] using trivial) rfl ?_)); refine w_splv rfl (by simp [go_sem, *, -Bool.not_eq_eq_eq_not]; rfl) (fun hr => ?_) (fun hr => ?_) <;> (have hg := hr) <;> (try simp only [Bool.not_eq_true', Bool.not_eq_false', Bool.and_eq_true, Bool.and_eq_false_imp, Bool.or_eq_true, Bool.or_eq_false_iff, Bool.not_eq_true, Bool.not_eq_false, decide_eq_true_eq, decide_eq_false_iff_not, Int.not_lt, Int.not_le, ge_iff_le, gt_iff_lt, decide_true, decide_false, Bool.false_eq_true, reduceCtorEq, beq_iff_eq, beq_eq_false_iff_ne, ne_eq, bne_iff_ne, bne_eq_false_iff_eq, and_true, true_and, and_false, false_and] at hg) <;> (try (exfalso; omega)))
    | ((fail_if_success (refine l_same (by simpa [go_sem, *] using trivial) rfl ?_)); refine l_splv rfl (by simp [go_sem, *, -Bool.not_eq_eq_eq_not]; rfl) (fun hr => ?_) (fun hr => ?_) <;> (have hg := hr) <;> (try simp only [Bool.not_eq_true', Bool.not_eq_false', Bool.and_eq_true, Bool.and_eq_false_imp, Bool.or_eq_true, Bool.or_eq_false_iff, Bool.not_eq_true, Bool.not_eq_false, decide_eq_true_eq, decide_eq_false_iff_not, Int.not_lt, Int.not_le, ge_iff_le, gt_iff_lt, decide_true, decide_false, Bool.false_eq_true, reduceCtorEq, beq_iff_eq, beq_eq_false_iff_ne, ne_eq, bne_iff_ne, bne_eq_false_iff_eq, and_true, true_and, and_false, false_and] at hg) <;> (try (exfalso; omega))))
  refine a_loop (fun i : Nat => ⟨73, [(1, AV.one (.ptr 1 1 0 0)), (3, AV.one (.ref 3)), (10, AV.one (.imm 3 (eds es))), (11, AV.one (.sc (.int es.length))), (12, AV.one (.sc (.int i)))], [(1, some (.box 29 [.sc (.int r), .sc (.int z), .imm 3 (eds es)])), (3, some (.flat 57 2 (fds (outerF es i))))], [1, 3]⟩) (fun i => i ≤ es.length) (fun i => es.length - i) 0 (by omega) ?_ ?_
  · exact weak_of [(1, .obj 8), (3, .obj 64)] rfl (by decide) (by simp [go_sem, AVm, CVm, lookS, outerF, fds]) (by simp [go_sem, OBm, CVm, lookS, All2, outerF, fds]) rfl
  intro i hi
  repeat' (first
    | refine w_op rfl (by simp (disch := first | omega | (simp; omega)) [go_sem, grA, edA, Try.ntmps62, -Option.map_eq_some_iff]; rfl) ?_
    | refine l_op rfl (by simp (disch := first | omega | (simp; omega)) [go_sem, grA, edA, Try.ntmps62, -Option.map_eq_some_iff]; exact ⟨rfl, rfl⟩) ?_
    | refine w_end (by simp [go_sem, K62]; rfl) ?_
    | refine l_end (by kernel_rfl) (by simp [go_sem, K62]; rfl) ?_
    | refine w_yes' (by simpa [go_sem, *] using trivial) rfl (by simp (disch := first | omega | (simp; omega)) [go_sem, grA, edA, Try.ntmps62, -Option.map_eq_some_iff]; rfl) ?_
    | refine w_no' (by simpa [go_sem, *] using trivial) rfl rfl (by simp [go_sem, skipE]; rfl) ?_
    | refine w_op rfl (by simp (disch := first | omega | (simp; omega)) [go_sem, grA, edA, Try.ntmps62, -Option.map_eq_some_iff, *]; rfl) ?_
    | refine l_op' (by simpa [go_sem, *] using trivial) rfl (by simp (disch := first | omega | (simp; omega)) [go_sem, grA, edA, Try.ntmps62, -Option.map_eq_some_iff, *]; exact ⟨rfl, rfl⟩) ?_
    | refine l_no' (by simpa [go_sem, *] using trivial) rfl rfl (by simp [go_sem, skipE]; rfl) ?_
    | refine k_seq ?_
    | refine a_seq ?_
    | refine a_reg ?_
    | refine a_draw ?_
    | refine k_seq_exit ?_
    | refine k_seq_ret ?_
    | refine k_blk ?_
    | refine k_blk_exit ?_
    | refine k_blk_other rfl ?_
    | refine k_blk_ret ?_
    | refine k_lop_exit ?_
    | refine k_lop_ret ?_
    | refine a_skip ?_
    | refine a_ret ?_
    | refine a_exit ?_
    | refine a_block ?_
    | (refine a_cond (by simp [go_sem, *, -Bool.not_eq_eq_eq_not]; rfl) (fun hr => ?_) (fun hr => ?_) <;> (have hc := hr) <;> (try simp only [Bool.not_eq_true', Bool.not_eq_false', Bool.and_eq_true, Bool.and_eq_false_imp, Bool.or_eq_true, Bool.or_eq_false_iff, Bool.not_eq_true, Bool.not_eq_false, decide_eq_true_eq, decide_eq_false_iff_not, Int.not_lt, Int.not_le, ge_iff_le, gt_iff_lt, decide_true, decide_false, Bool.false_eq_true, reduceCtorEq, beq_iff_eq, beq_eq_false_iff_ne, ne_eq, bne_iff_ne, bne_eq_false_iff_eq, and_true, true_and, and_false, false_and] at hc) <;> (try (exfalso; omega)))
    | ((fail_if_success (refine w_same (by simpa [go_sem, *] using trivial) rfl ?_)); refine w_splv rfl (by simp [go_sem, *, -Bool.not_eq_eq_eq_not]; rfl) (fun hr => ?_) (fun hr => ?_) <;> (have hg := hr) <;> (try simp only [Bool.not_eq_true', Bool.not_eq_false', Bool.and_eq_true, Bool.and_eq_false_imp, Bool.or_eq_true, Bool.or_eq_false_iff, Bool.not_eq_true, Bool.not_eq_false, decide_eq_true_eq, decide_eq_false_iff_not, Int.not_lt, Int.not_le, ge_iff_le, gt_iff_lt, decide_true, decide_false, Bool.false_eq_true, reduceCtorEq, beq_iff_eq, beq_eq_false_iff_ne, ne_eq, bne_iff_ne, bne_eq_false_iff_eq, and_true, true_and, and_false, false_and] at hg) <;> (try (exfalso; omega)))
    | ((fail_if_success (refine l_same (by simpa [go_sem, *] using trivial) rfl ?_)); refine l_splv rfl (by simp [go_sem, *, -Bool.not_eq_eq_eq_not]; rfl) (fun hr => ?_) (fun hr => ?_) <;> (have hg := hr) <;> (try simp only [Bool.not_eq_true', Bool.not_eq_false', Bool.and_eq_true, Bool.and_eq_false_imp, Bool.or_eq_true, Bool.or_eq_false_iff, Bool.not_eq_true, Bool.not_eq_false, decide_eq_true_eq, decide_eq_false_iff_not, Int.not_lt, Int.not_le, ge_iff_le, gt_iff_lt, decide_true, decide_false, Bool.false_eq_true, reduceCtorEq, beq_iff_eq, beq_eq_false_iff_ne, ne_eq, bne_iff_ne, bne_eq_false_iff_eq, and_true, true_and, and_false, false_and] at hg) <;> (try (exfalso; omega))))
  · refine a_loop (fun j : Nat => ⟨73, [(1, AV.one (.ptr 1 1 0 0)), (3, AV.one (.ref 3)), (5, AV.one (.ptr 5 1 0 0)), (10, AV.one (.imm 3 (eds es))), (11, AV.one (.sc (.int es.length))), (12, AV.one (.sc (.int i))), (21, AV.one (.imm 3 (eds (es.drop (i + 1))))), (22, AV.one (.sc (.int ((es.drop (i + 1)).length : Nat)))), (23, AV.one (.sc (.int j)))], [(1, some (.box 29 [.sc (.int r), .sc (.int z), .imm 3 (eds es)])), (3, some (.flat 57 2 (fds (outerF es i ++ innerF es i j)))), (5, some (.box 75 [.sc (.int (ed es i).1), .sc (.int (ed es i).2.1), .sc (.int (ed es i).2.2)]))], [1, 3, 5]⟩) (fun j => j ≤ es.length - (i + 1)) (fun j => es.length - (i + 1) - j) 0 (by omega) ?_ ?_
    · exact weak_of [(1, .obj 1), (3, .obj 3), (5, .obj 40)] rfl (by decide) (by simp [go_sem, AVm, CVm, lookS, innerF, List.take_of_length_le (show (es.drop (i + 1)).length ≤ es.length - (i + 1) by simp)]) (by simp [go_sem, OBm, CVm, lookS, All2, innerF, List.take_of_length_le (show (es.drop (i + 1)).length ≤ es.length - (i + 1) by simp)]) rfl
    intro j hj
    have hb := outerF_bound hl (Nat.le_of_lt hc)
    have hb2 := innerF_len es i j
    have hdl : (es.drop (i + 1)).length = es.length - (i + 1) := by simp
    repeat' (first
    | refine w_op rfl (by simp (disch := first | omega | (simp; omega)) [go_sem, hdl, Try.ntmps62, -Option.map_eq_some_iff]; rfl) ?_
    | refine l_op rfl (by simp (disch := first | omega | (simp; omega)) [go_sem, hdl, Try.ntmps62, -Option.map_eq_some_iff]; exact ⟨rfl, rfl⟩) ?_
    | refine w_end (by simp [go_sem, K62]; rfl) ?_
    | refine l_end (by kernel_rfl) (by simp [go_sem, K62]; rfl) ?_
    | refine w_yes' (by simpa [go_sem, *] using trivial) rfl (by simp (disch := first | omega | (simp; omega)) [go_sem, hdl, Try.ntmps62, -Option.map_eq_some_iff]; rfl) ?_
    | refine w_no' (by simpa [go_sem, *] using trivial) rfl rfl (by simp [go_sem, skipE]; rfl) ?_
    | refine w_op rfl (by simp (disch := first | omega | (simp; omega)) [go_sem, hdl, Try.ntmps62, -Option.map_eq_some_iff, *]; rfl) ?_
    | refine l_op' (by simpa [go_sem, *] using trivial) rfl (by simp (disch := first | omega | (simp; omega)) [go_sem, hdl, Try.ntmps62, -Option.map_eq_some_iff, *]; exact ⟨rfl, rfl⟩) ?_
    | refine l_no' (by simpa [go_sem, *] using trivial) rfl rfl (by simp [go_sem, skipE]; rfl) ?_
    | refine k_seq ?_
    | refine a_seq ?_
    | refine a_reg ?_
    | refine a_draw ?_
    | refine k_seq_exit ?_
    | refine k_seq_ret ?_
    | refine k_blk ?_
    | refine k_blk_exit ?_
    | refine k_blk_other rfl ?_
    | refine k_blk_ret ?_
    | refine k_lop_exit ?_
    | refine k_lop_ret ?_
    | refine a_skip ?_
    | refine a_ret ?_
    | refine a_exit ?_
    | refine a_block ?_
    | (refine a_cond (by simp [go_sem, *, -Bool.not_eq_eq_eq_not]; rfl) (fun hr => ?_) (fun hr => ?_) <;> (have hc := hr) <;> (try simp only [Bool.not_eq_true', Bool.not_eq_false', Bool.and_eq_true, Bool.and_eq_false_imp, Bool.or_eq_true, Bool.or_eq_false_iff, Bool.not_eq_true, Bool.not_eq_false, decide_eq_true_eq, decide_eq_false_iff_not, Int.not_lt, Int.not_le, ge_iff_le, gt_iff_lt, decide_true, decide_false, Bool.false_eq_true, reduceCtorEq, beq_iff_eq, beq_eq_false_iff_ne, ne_eq, bne_iff_ne, bne_eq_false_iff_eq, and_true, true_and, and_false, false_and] at hc) <;> (try (exfalso; omega)))
    | ((fail_if_success (refine w_same (by simpa [go_sem, *] using trivial) rfl ?_)); refine w_splv rfl (by simp [go_sem, *, -Bool.not_eq_eq_eq_not]; rfl) (fun hr => ?_) (fun hr => ?_) <;> (have hg := hr) <;> (try simp only [Bool.not_eq_true', Bool.not_eq_false', Bool.and_eq_true, Bool.and_eq_false_imp, Bool.or_eq_true, Bool.or_eq_false_iff, Bool.not_eq_true, Bool.not_eq_false, decide_eq_true_eq, decide_eq_false_iff_not, Int.not_lt, Int.not_le, ge_iff_le, gt_iff_lt, decide_true, decide_false, Bool.false_eq_true, reduceCtorEq, beq_iff_eq, beq_eq_false_iff_ne, ne_eq, bne_iff_ne, bne_eq_false_iff_eq, and_true, true_and, and_false, false_and] at hg) <;> (try (exfalso; omega)))
    | ((fail_if_success (refine l_same (by simpa [go_sem, *] using trivial) rfl ?_)); refine l_splv rfl (by simp [go_sem, *, -Bool.not_eq_eq_eq_not]; rfl) (fun hr => ?_) (fun hr => ?_) <;> (have hg := hr) <;> (try simp only [Bool.not_eq_true', Bool.not_eq_false', Bool.and_eq_true, Bool.and_eq_false_imp, Bool.or_eq_true, Bool.or_eq_false_iff, Bool.not_eq_true, Bool.not_eq_false, decide_eq_true_eq, decide_eq_false_iff_not, Int.not_lt, Int.not_le, ge_iff_le, gt_iff_lt, decide_true, decide_false, Bool.false_eq_true, reduceCtorEq, beq_iff_eq, beq_eq_false_iff_ne, ne_eq, bne_iff_ne, bne_eq_false_iff_eq, and_true, true_and, and_false, false_and] at hg) <;> (try (exfalso; omega))))
    all_goals first
      | (refine k_lop (j + 1) ?_ ?_ (weak_of [(1, .obj 1), (3, .obj 3), (5, .obj 5)] rfl (by decide) ?_ ?_ rfl); (· exact (by omega)); (· first | omega | (simp only; omega)); (· first | (simp [go_sem, AVm, CVm, lookS, innerF, pairF, mnI, mxI, *]; done) | (simp [go_sem, AVm, CVm, lookS, innerF, pairF, mnI, mxI, *] <;> (repeat' split) <;> first | omega | (simp_all; done) | (exfalso; omega) | (simp_all; omega))); (· first | (simp [go_sem, OBm, CVm, All2, lookS, innerF, pairF, mnI, mxI, *]; done) | (simp [go_sem, OBm, CVm, All2, lookS, innerF, pairF, mnI, mxI, *] <;> (repeat' split) <;> first | omega | (simp_all; done) | (exfalso; omega) | (simp_all; omega))))
      | (refine k_lop (j + 1) ?_ ?_ (weak_of [(1, .obj 1), (3, .obj 400), (5, .obj 5)] rfl (by decide) ?_ ?_ rfl); (· exact (by omega)); (· first | omega | (simp only; omega)); (· first | (simp [go_sem, AVm, CVm, lookS, innerF, pairF, mnI, mxI, *]; done) | (simp [go_sem, AVm, CVm, lookS, innerF, pairF, mnI, mxI, *] <;> (repeat' split) <;> first | omega | (simp_all; done) | (exfalso; omega) | (simp_all; omega))); (· first | (simp [go_sem, OBm, CVm, All2, lookS, innerF, pairF, mnI, mxI, *]; done) | (simp [go_sem, OBm, CVm, All2, lookS, innerF, pairF, mnI, mxI, *] <;> (repeat' split) <;> first | omega | (simp_all; done) | (exfalso; omega) | (simp_all; omega))))
      | (refine k_lop (j + 1) ?_ ?_ (weak_of [(1, .obj 1), (3, .obj 552), (5, .obj 5)] rfl (by decide) ?_ ?_ rfl); (· exact (by omega)); (· first | omega | (simp only; omega)); (· first | (simp [go_sem, AVm, CVm, lookS, innerF, pairF, mnI, mxI, *]; done) | (simp [go_sem, AVm, CVm, lookS, innerF, pairF, mnI, mxI, *] <;> (repeat' split) <;> first | omega | (simp_all; done) | (exfalso; omega) | (simp_all; omega))); (· first | (simp [go_sem, OBm, CVm, All2, lookS, innerF, pairF, mnI, mxI, *]; done) | (simp [go_sem, OBm, CVm, All2, lookS, innerF, pairF, mnI, mxI, *] <;> (repeat' split) <;> first | omega | (simp_all; done) | (exfalso; omega) | (simp_all; omega))))
      | skip
    all_goals trace_state
    have hj' : j = es.length - (i + 1) := by omega
    subst hj'
    (refine k_lop (i + 1) ?_ ?_ (weak_of [(1, .obj 1), (3, .obj 3)] rfl (by decide) ?_ ?_ rfl); (· exact (by omega)); (· first | omega | (simp only; omega)); (· first | (simp [go_sem, AVm, CVm, lookS, outerF, *]; done) | (simp [go_sem, AVm, CVm, lookS, outerF, *] <;> (repeat' split) <;> first | omega | (simp_all; done) | (exfalso; omega) | (simp_all; omega))); (· first | (simp [go_sem, OBm, CVm, All2, lookS, outerF, *]; done) | (simp [go_sem, OBm, CVm, All2, lookS, outerF, *] <;> (repeat' split) <;> first | omega | (simp_all; done) | (exfalso; omega) | (simp_all; omega))))
  · have hii : i = es.length := by omega
    subst hii
    refine k_ret (by simp [go_sem]; first | exact ⟨rfl, rfl⟩ | rfl) ?_ rfl
    rfl
end Go.Proofs.Try

