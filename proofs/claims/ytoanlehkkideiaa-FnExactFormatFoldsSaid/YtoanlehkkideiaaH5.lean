import Derived.Test.YtoanlehkkideiaaH4
import Derived.Test.YtoanlehkkideiaaH1
namespace Go.Proofs.Try
open Go Go.Eng
set_option linter.unnecessarySimpa false
set_option linter.unusedSimpArgs false
set_option maxHeartbeats 4000000
theorem isG_len {r z : Int} {es : List Ed} (h : isG r z es = true) : es.length ≤ 120 := by
  simp only [isG, Bool.and_eq_true, decide_eq_true_eq] at h
  exact h.2.2
theorem foldsOf_len {es : List Ed} (h : es.length ≤ 120) : (foldsOf es).length ≤ 28800 := outerF_bound h (Nat.le_refl _)
def ffOk (r z : Int) (es : List Ed) : Bool := isG r z es && decide (0 < (foldsOf es).length)
def ffF (r z : Int) (es : List Ed) : Fd := if ffOk r z es then fd (foldsOf es) 0 else (0, 0)
def fdA (p : Fd) : AV := .agg [.sc (.int p.1), .sc (.int p.2)]
def ff_S : Eng.Spec := fun args av objs => ∃ (r z : Int) (es : List Ed), es.length ≤ 1099511627776 ∧ args = [grA r z es] ∧ av = .tup [fdA (ffF r z es), AV.one (.sc (.bool (ffOk r z es)))] ∧ objs = []
def K39 : Nat → List Nat := fun i => ([[1, 2], [1, 2, 7], [2, 3], [2, 4], [2, 4, 13], [2, 3], [2, 3]] : List (List Nat)).getD i []
theorem firstFold_sat : Sat Try.prog 39 ff_S := by
  refine sat_of tok okr mixed K39 Try.func39 rfl (rs := [.cell 2 57, .tmp 3]) rfl rfl ?_
  rintro args av objs ⟨r, z, es, hl, rfl, rfl, rfl⟩
  refine ⟨by show 1 ≤ 18; decide, ?_⟩
  repeat' (first
    | refine w_op rfl (by simp (disch := first | omega | (simp; omega)) [go_sem, grA, Try.ntmps39, -Option.map_eq_some_iff]; rfl) ?_
    | refine l_op rfl (by simp (disch := first | omega | (simp; omega)) [go_sem, grA, Try.ntmps39, -Option.map_eq_some_iff]; exact ⟨rfl, rfl⟩) ?_
    | refine w_end (by simp [go_sem, K39]; rfl) ?_
    | refine l_end (by kernel_rfl) (by simp [go_sem, K39]; rfl) ?_
    | refine w_fn isGraph_sat rfl Try.func53 rfl rfl (by first | rfl | (simpa [go_sem, *] using trivial)) rfl rfl (by simp [go_sem]; exact ⟨rfl, rfl⟩) (by exact ⟨r, z, es, hl, rfl, rfl, rfl⟩) (by rfl) (by rfl) (by rfl) (by simp [go_sem]; rfl) ?_
    | refine l_fn isGraph_sat rfl Try.func53 rfl rfl (by first | rfl | (simpa [go_sem, *] using trivial)) rfl rfl (by simp [go_sem]; exact ⟨rfl, rfl⟩) (by exact ⟨r, z, es, hl, rfl, rfl, rfl⟩) (by rfl) (by rfl) (by rfl) (by simp [go_sem]; rfl) ?_
    | refine w_fn folds_sat rfl Try.func62 rfl rfl (by first | rfl | (simpa [go_sem, *] using trivial)) rfl rfl (by simp [go_sem]; exact ⟨rfl, rfl⟩) (by exact ⟨r, z, es, isG_len (r := r) (z := z) (by assumption), rfl, rfl, rfl⟩) (by rfl) (by rfl) (by rfl) (by simp [go_sem]; rfl) ?_
    | refine l_fn folds_sat rfl Try.func62 rfl rfl (by first | rfl | (simpa [go_sem, *] using trivial)) rfl rfl (by simp [go_sem]; exact ⟨rfl, rfl⟩) (by exact ⟨r, z, es, isG_len (r := r) (z := z) (by assumption), rfl, rfl, rfl⟩) (by rfl) (by rfl) (by rfl) (by simp [go_sem]; rfl) ?_
    | refine w_yes' (by simpa [go_sem, *] using trivial) rfl (by simp (disch := first | omega | (simp; omega)) [go_sem, grA, Try.ntmps39, -Option.map_eq_some_iff]; rfl) ?_
    | refine w_no' (by simpa [go_sem, *] using trivial) rfl rfl (by simp [go_sem, skipE]; rfl) ?_
    | refine w_op rfl (by simp (disch := first | omega | (simp; omega)) [go_sem, grA, Try.ntmps39, -Option.map_eq_some_iff, *]; rfl) ?_
    | refine l_op' (by simpa [go_sem, *] using trivial) rfl (by simp (disch := first | omega | (simp; omega)) [go_sem, grA, Try.ntmps39, -Option.map_eq_some_iff, *]; exact ⟨rfl, rfl⟩) ?_
    | refine l_no' (by simpa [go_sem, *] using trivial) rfl rfl (by simp [go_sem, skipE]; rfl) ?_
    | refine k_seq ?_
    | refine a_seq ?_
    | refine a_reg ?_
    | refine a_draw ?_
    | refine k_seq_exit ?_
    | refine k_seq_ret ?_
    | refine k_blk ?_
    | refine k_blk_exit ?_
    | refine k_blk_other rfl ?_
    | refine k_blk_ret ?_
    | refine k_lop_exit ?_
    | refine k_lop_ret ?_
    | refine a_skip ?_
    | refine a_ret ?_
    | refine a_exit ?_
    | refine a_block ?_
    | (refine a_cond (by simp [go_sem, *, -Bool.not_eq_eq_eq_not]; rfl) (fun hr => ?_) (fun hr => ?_) <;> (have hc := hr) <;> (try simp only [Bool.not_eq_true', Bool.not_eq_false', Bool.and_eq_true, Bool.and_eq_false_imp, Bool.or_eq_true, Bool.or_eq_false_iff, Bool.not_eq_true, Bool.not_eq_false, decide_eq_true_eq, decide_eq_false_iff_not, Int.not_lt, Int.not_le, ge_iff_le, gt_iff_lt, decide_true, decide_false, Bool.false_eq_true, reduceCtorEq, beq_iff_eq, beq_eq_false_iff_ne, ne_eq, bne_iff_ne, bne_eq_false_iff_eq, and_true, true_and, and_false, false_and] at hc) <;> (try (exfalso; omega)))
    | ((fail_if_success (refine w_same (by simpa [go_sem, *] using trivial) rfl ?_)); refine w_splv rfl (by simp [go_sem, *, -Bool.not_eq_eq_eq_not]; rfl) (fun hr => ?_) (fun hr => ?_) <;> (have hg := hr) <;> (try simp only [Bool.not_eq_true', Bool.not_eq_false', Bool.and_eq_true, Bool.and_eq_false_imp, Bool.or_eq_true, Bool.or_eq_false_iff, Bool.not_eq_true, Bool.not_eq_false, decide_eq_true_eq, decide_eq_false_iff_not, Int.not_lt, Int.not_le, ge_iff_le, gt_iff_lt, decide_true, decide_false, Bool.false_eq_true, reduceCtorEq, beq_iff_eq, beq_eq_false_iff_ne, ne_eq, bne_iff_ne, bne_eq_false_iff_eq, and_true, true_and, and_false, false_and] at hg) <;> (try (exfalso; omega)))
    | ((fail_if_success (refine l_same (by simpa [go_sem, *] using trivial) rfl ?_)); refine l_splv rfl (by simp [go_sem, *, -Bool.not_eq_eq_eq_not]; rfl) (fun hr => ?_) (fun hr => ?_) <;> (have hg := hr) <;> (try simp only [Bool.not_eq_true', Bool.not_eq_false', Bool.and_eq_true, Bool.and_eq_false_imp, Bool.or_eq_true, Bool.or_eq_false_iff, Bool.not_eq_true, Bool.not_eq_false, decide_eq_true_eq, decide_eq_false_iff_not, Int.not_lt, Int.not_le, ge_iff_le, gt_iff_lt, decide_true, decide_false, Bool.false_eq_true, reduceCtorEq, beq_iff_eq, beq_eq_false_iff_ne, ne_eq, bne_iff_ne, bne_eq_false_iff_eq, and_true, true_and, and_false, false_and] at hg) <;> (try (exfalso; omega))))
  all_goals refine k_ret (by simp [go_sem]; first | exact ⟨rfl, rfl⟩ | rfl) ?_ rfl
  all_goals first
    | (have h0 : 0 < (foldsOf es).length := by omega
       have h1 : ffOk r z es = true := by simp [ffOk, h0, *]
       simp [ffF, h1, fdA]; done)
    | (simp_all [ffF, ffOk, fdA]; done)
def K38 : Nat → List Nat := fun i => ([[1, 2], [1, 2, 7], [2, 3], [2, 4], [2, 4, 13], [2, 3], [2, 3]] : List (List Nat)).getD i []
theorem firstFold_sat2 : Sat Try.prog 38 ff_S := by
  refine sat_of tok okr mixed K38 Try.func38 rfl (rs := [.cell 2 57, .tmp 3]) rfl rfl ?_
  rintro args av objs ⟨r, z, es, hl, rfl, rfl, rfl⟩
  refine ⟨by show 1 ≤ 18; decide, ?_⟩
  repeat' (first
    | refine w_op rfl (by simp (disch := first | omega | (simp; omega)) [go_sem, grA, Try.ntmps38, -Option.map_eq_some_iff]; rfl) ?_
    | refine l_op rfl (by simp (disch := first | omega | (simp; omega)) [go_sem, grA, Try.ntmps38, -Option.map_eq_some_iff]; exact ⟨rfl, rfl⟩) ?_
    | refine w_end (by simp [go_sem, K38]; rfl) ?_
    | refine l_end (by kernel_rfl) (by simp [go_sem, K38]; rfl) ?_
    | refine w_fn isGraph_sat2 rfl Try.func51 rfl rfl (by first | rfl | (simpa [go_sem, *] using trivial)) rfl rfl (by simp [go_sem]; exact ⟨rfl, rfl⟩) (by exact ⟨r, z, es, hl, rfl, rfl, rfl⟩) (by rfl) (by rfl) (by rfl) (by simp [go_sem]; rfl) ?_
    | refine l_fn isGraph_sat2 rfl Try.func51 rfl rfl (by first | rfl | (simpa [go_sem, *] using trivial)) rfl rfl (by simp [go_sem]; exact ⟨rfl, rfl⟩) (by exact ⟨r, z, es, hl, rfl, rfl, rfl⟩) (by rfl) (by rfl) (by rfl) (by simp [go_sem]; rfl) ?_
    | refine w_fn folds_sat2 rfl Try.func61 rfl rfl (by first | rfl | (simpa [go_sem, *] using trivial)) rfl rfl (by simp [go_sem]; exact ⟨rfl, rfl⟩) (by exact ⟨r, z, es, isG_len (r := r) (z := z) (by assumption), rfl, rfl, rfl⟩) (by rfl) (by rfl) (by rfl) (by simp [go_sem]; rfl) ?_
    | refine l_fn folds_sat2 rfl Try.func61 rfl rfl (by first | rfl | (simpa [go_sem, *] using trivial)) rfl rfl (by simp [go_sem]; exact ⟨rfl, rfl⟩) (by exact ⟨r, z, es, isG_len (r := r) (z := z) (by assumption), rfl, rfl, rfl⟩) (by rfl) (by rfl) (by rfl) (by simp [go_sem]; rfl) ?_
    | refine w_yes' (by simpa [go_sem, *] using trivial) rfl (by simp (disch := first | omega | (simp; omega)) [go_sem, grA, Try.ntmps38, -Option.map_eq_some_iff]; rfl) ?_
    | refine w_no' (by simpa [go_sem, *] using trivial) rfl rfl (by simp [go_sem, skipE]; rfl) ?_
    | refine w_op rfl (by simp (disch := first | omega | (simp; omega)) [go_sem, grA, Try.ntmps38, -Option.map_eq_some_iff, *]; rfl) ?_
    | refine l_op' (by simpa [go_sem, *] using trivial) rfl (by simp (disch := first | omega | (simp; omega)) [go_sem, grA, Try.ntmps38, -Option.map_eq_some_iff, *]; exact ⟨rfl, rfl⟩) ?_
    | refine l_no' (by simpa [go_sem, *] using trivial) rfl rfl (by simp [go_sem, skipE]; rfl) ?_
    | refine k_seq ?_
    | refine a_seq ?_
    | refine a_reg ?_
    | refine a_draw ?_
    | refine k_seq_exit ?_
    | refine k_seq_ret ?_
    | refine k_blk ?_
    | refine k_blk_exit ?_
    | refine k_blk_other rfl ?_
    | refine k_blk_ret ?_
    | refine k_lop_exit ?_
    | refine k_lop_ret ?_
    | refine a_skip ?_
    | refine a_ret ?_
    | refine a_exit ?_
    | refine a_block ?_
    | (refine a_cond (by simp [go_sem, *, -Bool.not_eq_eq_eq_not]; rfl) (fun hr => ?_) (fun hr => ?_) <;> (have hc := hr) <;> (try simp only [Bool.not_eq_true', Bool.not_eq_false', Bool.and_eq_true, Bool.and_eq_false_imp, Bool.or_eq_true, Bool.or_eq_false_iff, Bool.not_eq_true, Bool.not_eq_false, decide_eq_true_eq, decide_eq_false_iff_not, Int.not_lt, Int.not_le, ge_iff_le, gt_iff_lt, decide_true, decide_false, Bool.false_eq_true, reduceCtorEq, beq_iff_eq, beq_eq_false_iff_ne, ne_eq, bne_iff_ne, bne_eq_false_iff_eq, and_true, true_and, and_false, false_and] at hc) <;> (try (exfalso; omega)))
    | ((fail_if_success (refine w_same (by simpa [go_sem, *] using trivial) rfl ?_)); refine w_splv rfl (by simp [go_sem, *, -Bool.not_eq_eq_eq_not]; rfl) (fun hr => ?_) (fun hr => ?_) <;> (have hg := hr) <;> (try simp only [Bool.not_eq_true', Bool.not_eq_false', Bool.and_eq_true, Bool.and_eq_false_imp, Bool.or_eq_true, Bool.or_eq_false_iff, Bool.not_eq_true, Bool.not_eq_false, decide_eq_true_eq, decide_eq_false_iff_not, Int.not_lt, Int.not_le, ge_iff_le, gt_iff_lt, decide_true, decide_false, Bool.false_eq_true, reduceCtorEq, beq_iff_eq, beq_eq_false_iff_ne, ne_eq, bne_iff_ne, bne_eq_false_iff_eq, and_true, true_and, and_false, false_and] at hg) <;> (try (exfalso; omega)))
    | ((fail_if_success (refine l_same (by simpa [go_sem, *] using trivial) rfl ?_)); refine l_splv rfl (by simp [go_sem, *, -Bool.not_eq_eq_eq_not]; rfl) (fun hr => ?_) (fun hr => ?_) <;> (have hg := hr) <;> (try simp only [Bool.not_eq_true', Bool.not_eq_false', Bool.and_eq_true, Bool.and_eq_false_imp, Bool.or_eq_true, Bool.or_eq_false_iff, Bool.not_eq_true, Bool.not_eq_false, decide_eq_true_eq, decide_eq_false_iff_not, Int.not_lt, Int.not_le, ge_iff_le, gt_iff_lt, decide_true, decide_false, Bool.false_eq_true, reduceCtorEq, beq_iff_eq, beq_eq_false_iff_ne, ne_eq, bne_iff_ne, bne_eq_false_iff_eq, and_true, true_and, and_false, false_and] at hg) <;> (try (exfalso; omega))))
  all_goals refine k_ret (by simp [go_sem]; first | exact ⟨rfl, rfl⟩ | rfl) ?_ rfl
  all_goals first
    | (have h0 : 0 < (foldsOf es).length := by omega
       have h1 : ffOk r z es = true := by simp [ffOk, h0, *]
       simp [ffF, h1, fdA]; done)
    | (simp_all [ffF, ffOk, fdA]; done)
def K40 : Nat → List Nat := fun i => ([[2, 3], [2, 3, 9], [4], [14], [4], [4]] : List (List Nat)).getD i []
def eqFold_S : Eng.Spec := fun args av objs => ∃ p q : Fd, args = [fdA p, fdA q] ∧ av = AV.one (.sc (.bool (decide (p = q)))) ∧ objs = []
theorem eqFold_sat : Sat Try.prog 40 eqFold_S := by
  refine sat_of tok okr mixed K40 Try.func40 rfl (rs := [.tmp 4]) rfl rfl ?_
  rintro args av objs ⟨p, q, rfl, rfl, rfl⟩
  refine ⟨by show 2 ≤ 15; decide, ?_⟩
  repeat' (first
    | refine w_op rfl (by simp (disch := first | omega | (simp; omega)) [go_sem, fdA, Try.ntmps40, -Option.map_eq_some_iff]; rfl) ?_
    | refine l_op rfl (by simp (disch := first | omega | (simp; omega)) [go_sem, fdA, Try.ntmps40, -Option.map_eq_some_iff]; exact ⟨rfl, rfl⟩) ?_
    | refine w_end (by simp [go_sem, K40]; rfl) ?_
    | refine l_end (by kernel_rfl) (by simp [go_sem, K40]; rfl) ?_
    | refine w_yes' (by simpa [go_sem, *] using trivial) rfl (by simp (disch := first | omega | (simp; omega)) [go_sem, fdA, Try.ntmps40, -Option.map_eq_some_iff]; rfl) ?_
    | refine w_no' (by simpa [go_sem, *] using trivial) rfl rfl (by simp [go_sem, skipE]; rfl) ?_
    | refine w_op rfl (by simp (disch := first | omega | (simp; omega)) [go_sem, fdA, Try.ntmps40, -Option.map_eq_some_iff, *]; rfl) ?_
    | refine l_op' (by simpa [go_sem, *] using trivial) rfl (by simp (disch := first | omega | (simp; omega)) [go_sem, fdA, Try.ntmps40, -Option.map_eq_some_iff, *]; exact ⟨rfl, rfl⟩) ?_
    | refine l_no' (by simpa [go_sem, *] using trivial) rfl rfl (by simp [go_sem, skipE]; rfl) ?_
    | refine k_seq ?_
    | refine a_seq ?_
    | refine a_reg ?_
    | refine a_draw ?_
    | refine k_seq_exit ?_
    | refine k_seq_ret ?_
    | refine k_blk ?_
    | refine k_blk_exit ?_
    | refine k_blk_other rfl ?_
    | refine k_blk_ret ?_
    | refine k_lop_exit ?_
    | refine k_lop_ret ?_
    | refine a_skip ?_
    | refine a_ret ?_
    | refine a_exit ?_
    | refine a_block ?_
    | (refine a_cond (by simp [go_sem, *, -Bool.not_eq_eq_eq_not]; rfl) (fun hr => ?_) (fun hr => ?_) <;> (have hc := hr) <;> (try simp only [Bool.not_eq_true', Bool.not_eq_false', Bool.and_eq_true, Bool.and_eq_false_imp, Bool.or_eq_true, Bool.or_eq_false_iff, Bool.not_eq_true, Bool.not_eq_false, decide_eq_true_eq, decide_eq_false_iff_not, Int.not_lt, Int.not_le, ge_iff_le, gt_iff_lt, decide_true, decide_false, Bool.false_eq_true, reduceCtorEq, beq_iff_eq, beq_eq_false_iff_ne, ne_eq, bne_iff_ne, bne_eq_false_iff_eq, and_true, true_and, and_false, false_and] at hc) <;> (try (exfalso; omega)))
    | ((fail_if_success (refine w_same (by simpa [go_sem, *] using trivial) rfl ?_)); refine w_splv rfl (by simp [go_sem, *, -Bool.not_eq_eq_eq_not]; rfl) (fun hr => ?_) (fun hr => ?_) <;> (have hg := hr) <;> (try simp only [Bool.not_eq_true', Bool.not_eq_false', Bool.and_eq_true, Bool.and_eq_false_imp, Bool.or_eq_true, Bool.or_eq_false_iff, Bool.not_eq_true, Bool.not_eq_false, decide_eq_true_eq, decide_eq_false_iff_not, Int.not_lt, Int.not_le, ge_iff_le, gt_iff_lt, decide_true, decide_false, Bool.false_eq_true, reduceCtorEq, beq_iff_eq, beq_eq_false_iff_ne, ne_eq, bne_iff_ne, bne_eq_false_iff_eq, and_true, true_and, and_false, false_and] at hg) <;> (try (exfalso; omega)))
    | ((fail_if_success (refine l_same (by simpa [go_sem, *] using trivial) rfl ?_)); refine l_splv rfl (by simp [go_sem, *, -Bool.not_eq_eq_eq_not]; rfl) (fun hr => ?_) (fun hr => ?_) <;> (have hg := hr) <;> (try simp only [Bool.not_eq_true', Bool.not_eq_false', Bool.and_eq_true, Bool.and_eq_false_imp, Bool.or_eq_true, Bool.or_eq_false_iff, Bool.not_eq_true, Bool.not_eq_false, decide_eq_true_eq, decide_eq_false_iff_not, Int.not_lt, Int.not_le, ge_iff_le, gt_iff_lt, decide_true, decide_false, Bool.false_eq_true, reduceCtorEq, beq_iff_eq, beq_eq_false_iff_ne, ne_eq, bne_iff_ne, bne_eq_false_iff_eq, and_true, true_and, and_false, false_and] at hg) <;> (try (exfalso; omega))))
  all_goals refine k_ret (by simp [go_sem]; first | exact ⟨rfl, rfl⟩ | rfl) ?_ rfl
  all_goals simp_all [Prod.ext_iff]
def K9 : Nat → List Nat := fun i => ([[1], [1, 3], [1, 3], [1, 13], [2], [1, 4, 5], [1, 4, 5, 6], [1, 4, 5, 6, 7, 8], [1, 6, 35], [2], [40], [2], [2]] : List (List Nat)).getD i []
def law9_S : Eng.Spec := fun args av objs => ∃ (r z : Int) (es : List Ed), es.length ≤ 9223372036854775807 ∧ args = [grA r z es] ∧ av = AV.one (.sc (.bool true)) ∧ objs = []
theorem law9 : Sat Try.prog 9 law9_S := by
  refine sat_of tok okr mixed K9 Try.func9 rfl (rs := [.tmp 2]) rfl rfl ?_
  rintro args av objs ⟨r, z, es, hl, rfl, rfl, rfl⟩
  refine ⟨by show 1 ≤ 41; decide, ?_⟩
  by_cases h : (1048576 : Int) < es.length
  · repeat' (first
    | refine w_op rfl (by simp (disch := first | omega | (simp; omega)) [go_sem, grA, h, Try.ntmps9, -Option.map_eq_some_iff]; rfl) ?_
    | refine l_op rfl (by simp (disch := first | omega | (simp; omega)) [go_sem, grA, h, Try.ntmps9, -Option.map_eq_some_iff]; exact ⟨rfl, rfl⟩) ?_
    | refine w_end (by simp [go_sem, K9]; rfl) ?_
    | refine l_end (by kernel_rfl) (by simp [go_sem, K9]; rfl) ?_
    | refine w_fn szGraph_sat rfl Try.func24 rfl rfl (by first | rfl | (simpa [go_sem, *] using trivial)) rfl rfl (by simp [go_sem]; exact ⟨rfl, rfl⟩) (by exact ⟨r, z, es, _, hl, by omega, by omega, rfl, by rw [if_pos h], rfl⟩) (by rfl) (by rfl) (by rfl) (by simp [go_sem]; rfl) ?_
    | refine l_fn szGraph_sat rfl Try.func24 rfl rfl (by first | rfl | (simpa [go_sem, *] using trivial)) rfl rfl (by simp [go_sem]; exact ⟨rfl, rfl⟩) (by exact ⟨r, z, es, _, hl, by omega, by omega, rfl, by rw [if_pos h], rfl⟩) (by rfl) (by rfl) (by rfl) (by simp [go_sem]; rfl) ?_
    | refine w_yes' (by simpa [go_sem, *] using trivial) rfl (by simp (disch := first | omega | (simp; omega)) [go_sem, grA, h, Try.ntmps9, -Option.map_eq_some_iff]; rfl) ?_
    | refine w_no' (by simpa [go_sem, *] using trivial) rfl rfl (by simp [go_sem, skipE]; rfl) ?_
    | refine w_op rfl (by simp (disch := first | omega | (simp; omega)) [go_sem, grA, h, Try.ntmps9, -Option.map_eq_some_iff, *]; rfl) ?_
    | refine l_op' (by simpa [go_sem, *] using trivial) rfl (by simp (disch := first | omega | (simp; omega)) [go_sem, grA, h, Try.ntmps9, -Option.map_eq_some_iff, *]; exact ⟨rfl, rfl⟩) ?_
    | refine l_no' (by simpa [go_sem, *] using trivial) rfl rfl (by simp [go_sem, skipE]; rfl) ?_
    | refine k_seq ?_
    | refine a_seq ?_
    | refine a_reg ?_
    | refine a_draw ?_
    | refine k_seq_exit ?_
    | refine k_seq_ret ?_
    | refine k_blk ?_
    | refine k_blk_exit ?_
    | refine k_blk_other rfl ?_
    | refine k_blk_ret ?_
    | refine k_lop_exit ?_
    | refine k_lop_ret ?_
    | refine a_skip ?_
    | refine a_ret ?_
    | refine a_exit ?_
    | refine a_block ?_
    | (refine a_cond (by simp [go_sem, *, -Bool.not_eq_eq_eq_not]; rfl) (fun hr => ?_) (fun hr => ?_) <;> (have hc := hr) <;> (try simp only [Bool.not_eq_true', Bool.not_eq_false', Bool.and_eq_true, Bool.and_eq_false_imp, Bool.or_eq_true, Bool.or_eq_false_iff, Bool.not_eq_true, Bool.not_eq_false, decide_eq_true_eq, decide_eq_false_iff_not, Int.not_lt, Int.not_le, ge_iff_le, gt_iff_lt, decide_true, decide_false, Bool.false_eq_true, reduceCtorEq, beq_iff_eq, beq_eq_false_iff_ne, ne_eq, bne_iff_ne, bne_eq_false_iff_eq, and_true, true_and, and_false, false_and] at hc) <;> (try (exfalso; omega)))
    | ((fail_if_success (refine w_same (by simpa [go_sem, *] using trivial) rfl ?_)); refine w_splv rfl (by simp [go_sem, *, -Bool.not_eq_eq_eq_not]; rfl) (fun hr => ?_) (fun hr => ?_) <;> (have hg := hr) <;> (try simp only [Bool.not_eq_true', Bool.not_eq_false', Bool.and_eq_true, Bool.and_eq_false_imp, Bool.or_eq_true, Bool.or_eq_false_iff, Bool.not_eq_true, Bool.not_eq_false, decide_eq_true_eq, decide_eq_false_iff_not, Int.not_lt, Int.not_le, ge_iff_le, gt_iff_lt, decide_true, decide_false, Bool.false_eq_true, reduceCtorEq, beq_iff_eq, beq_eq_false_iff_ne, ne_eq, bne_iff_ne, bne_eq_false_iff_eq, and_true, true_and, and_false, false_and] at hg) <;> (try (exfalso; omega)))
    | ((fail_if_success (refine l_same (by simpa [go_sem, *] using trivial) rfl ?_)); refine l_splv rfl (by simp [go_sem, *, -Bool.not_eq_eq_eq_not]; rfl) (fun hr => ?_) (fun hr => ?_) <;> (have hg := hr) <;> (try simp only [Bool.not_eq_true', Bool.not_eq_false', Bool.and_eq_true, Bool.and_eq_false_imp, Bool.or_eq_true, Bool.or_eq_false_iff, Bool.not_eq_true, Bool.not_eq_false, decide_eq_true_eq, decide_eq_false_iff_not, Int.not_lt, Int.not_le, ge_iff_le, gt_iff_lt, decide_true, decide_false, Bool.false_eq_true, reduceCtorEq, beq_iff_eq, beq_eq_false_iff_ne, ne_eq, bne_iff_ne, bne_eq_false_iff_eq, and_true, true_and, and_false, false_and] at hg) <;> (try (exfalso; omega))))
    refine k_ret (by simp [go_sem]; first | exact ⟨rfl, rfl⟩ | rfl) ?_ rfl
    rfl
  · have hl' : es.length ≤ 1048576 := by omega
    repeat' (first
    | refine w_op rfl (by simp (disch := first | omega | (simp; omega)) [go_sem, grA, fdA, h, Try.ntmps9, -Option.map_eq_some_iff]; rfl) ?_
    | refine l_op rfl (by simp (disch := first | omega | (simp; omega)) [go_sem, grA, fdA, h, Try.ntmps9, -Option.map_eq_some_iff]; exact ⟨rfl, rfl⟩) ?_
    | refine w_end (by simp [go_sem, K9]; rfl) ?_
    | refine l_end (by kernel_rfl) (by simp [go_sem, K9]; rfl) ?_
    | refine w_fn szGraph_sat rfl Try.func24 rfl rfl (by first | rfl | (simpa [go_sem, *] using trivial)) rfl rfl (by simp [go_sem]; exact ⟨rfl, rfl⟩) (by exact ⟨r, z, es, _, hl, by omega, by omega, rfl, by rw [if_neg h], rfl⟩) (by rfl) (by rfl) (by rfl) (by simp [go_sem]; rfl) ?_
    | refine l_fn szGraph_sat rfl Try.func24 rfl rfl (by first | rfl | (simpa [go_sem, *] using trivial)) rfl rfl (by simp [go_sem]; exact ⟨rfl, rfl⟩) (by exact ⟨r, z, es, _, hl, by omega, by omega, rfl, by rw [if_neg h], rfl⟩) (by rfl) (by rfl) (by rfl) (by simp [go_sem]; rfl) ?_
    | refine w_fn toGraph_sat rfl Try.func26 rfl rfl (by first | rfl | (simpa [go_sem, *] using trivial)) rfl rfl (by simp [go_sem]; exact ⟨rfl, rfl⟩) (by exact ⟨r, z, es, by omega, rfl, rfl, rfl⟩) (by rfl) (by rfl) (by rfl) (by simp [go_sem]; rfl) ?_
    | refine l_fn toGraph_sat rfl Try.func26 rfl rfl (by first | rfl | (simpa [go_sem, *] using trivial)) rfl rfl (by simp [go_sem]; exact ⟨rfl, rfl⟩) (by exact ⟨r, z, es, by omega, rfl, rfl, rfl⟩) (by rfl) (by rfl) (by rfl) (by simp [go_sem]; rfl) ?_
    | refine w_fn firstFold_sat rfl Try.func39 rfl rfl (by first | rfl | (simpa [go_sem, *] using trivial)) rfl rfl (by simp [go_sem]; exact ⟨rfl, rfl⟩) (by exact ⟨r, z, es, by omega, rfl, rfl, rfl⟩) (by rfl) (by rfl) (by rfl) (by simp [go_sem]; rfl) ?_
    | refine l_fn firstFold_sat rfl Try.func39 rfl rfl (by first | rfl | (simpa [go_sem, *] using trivial)) rfl rfl (by simp [go_sem]; exact ⟨rfl, rfl⟩) (by exact ⟨r, z, es, by omega, rfl, rfl, rfl⟩) (by rfl) (by rfl) (by rfl) (by simp [go_sem]; rfl) ?_
    | refine w_fn firstFold_sat2 rfl Try.func38 rfl rfl (by first | rfl | (simpa [go_sem, *] using trivial)) rfl rfl (by simp [go_sem]; exact ⟨rfl, rfl⟩) (by exact ⟨r, z, es, by omega, rfl, rfl, rfl⟩) (by rfl) (by rfl) (by rfl) (by simp [go_sem]; rfl) ?_
    | refine l_fn firstFold_sat2 rfl Try.func38 rfl rfl (by first | rfl | (simpa [go_sem, *] using trivial)) rfl rfl (by simp [go_sem]; exact ⟨rfl, rfl⟩) (by exact ⟨r, z, es, by omega, rfl, rfl, rfl⟩) (by rfl) (by rfl) (by rfl) (by simp [go_sem]; rfl) ?_
    | refine w_fn eqGraph_sat rfl Try.func16 rfl rfl (by first | rfl | (simpa [go_sem, *] using trivial)) rfl rfl (by simp [go_sem]; exact ⟨rfl, rfl⟩) (by exact ⟨r, z, es, r, z, es, by omega, rfl, rfl, rfl⟩) (by rfl) (by rfl) (by rfl) (by simp [go_sem]; rfl) ?_
    | refine l_fn eqGraph_sat rfl Try.func16 rfl rfl (by first | rfl | (simpa [go_sem, *] using trivial)) rfl rfl (by simp [go_sem]; exact ⟨rfl, rfl⟩) (by exact ⟨r, z, es, r, z, es, by omega, rfl, rfl, rfl⟩) (by rfl) (by rfl) (by rfl) (by simp [go_sem]; rfl) ?_
    | refine w_fn eqFold_sat rfl Try.func40 rfl rfl (by first | rfl | (simpa [go_sem, *] using trivial)) rfl rfl (by simp [go_sem]; exact ⟨rfl, rfl⟩) (by exact ⟨ffF r z es, ffF r z es, rfl, rfl, rfl⟩) (by rfl) (by rfl) (by rfl) (by simp [go_sem]; rfl) ?_
    | refine l_fn eqFold_sat rfl Try.func40 rfl rfl (by first | rfl | (simpa [go_sem, *] using trivial)) rfl rfl (by simp [go_sem]; exact ⟨rfl, rfl⟩) (by exact ⟨ffF r z es, ffF r z es, rfl, rfl, rfl⟩) (by rfl) (by rfl) (by rfl) (by simp [go_sem]; rfl) ?_
    | refine w_yes' (by simpa [go_sem, *] using trivial) rfl (by simp (disch := first | omega | (simp; omega)) [go_sem, grA, fdA, h, Try.ntmps9, -Option.map_eq_some_iff]; rfl) ?_
    | refine w_no' (by simpa [go_sem, *] using trivial) rfl rfl (by simp [go_sem, skipE]; rfl) ?_
    | refine w_op rfl (by simp (disch := first | omega | (simp; omega)) [go_sem, grA, fdA, h, Try.ntmps9, -Option.map_eq_some_iff, *]; rfl) ?_
    | refine l_op' (by simpa [go_sem, *] using trivial) rfl (by simp (disch := first | omega | (simp; omega)) [go_sem, grA, fdA, h, Try.ntmps9, -Option.map_eq_some_iff, *]; exact ⟨rfl, rfl⟩) ?_
    | refine l_no' (by simpa [go_sem, *] using trivial) rfl rfl (by simp [go_sem, skipE]; rfl) ?_
    | refine k_seq ?_
    | refine a_seq ?_
    | refine a_reg ?_
    | refine a_draw ?_
    | refine k_seq_exit ?_
    | refine k_seq_ret ?_
    | refine k_blk ?_
    | refine k_blk_exit ?_
    | refine k_blk_other rfl ?_
    | refine k_blk_ret ?_
    | refine k_lop_exit ?_
    | refine k_lop_ret ?_
    | refine a_skip ?_
    | refine a_ret ?_
    | refine a_exit ?_
    | refine a_block ?_
    | (refine a_cond (by simp [go_sem, *, -Bool.not_eq_eq_eq_not]; rfl) (fun hr => ?_) (fun hr => ?_) <;> (have hc := hr) <;> (try simp only [Bool.not_eq_true', Bool.not_eq_false', Bool.and_eq_true, Bool.and_eq_false_imp, Bool.or_eq_true, Bool.or_eq_false_iff, Bool.not_eq_true, Bool.not_eq_false, decide_eq_true_eq, decide_eq_false_iff_not, Int.not_lt, Int.not_le, ge_iff_le, gt_iff_lt, decide_true, decide_false, Bool.false_eq_true, reduceCtorEq, beq_iff_eq, beq_eq_false_iff_ne, ne_eq, bne_iff_ne, bne_eq_false_iff_eq, and_true, true_and, and_false, false_and] at hc) <;> (try (exfalso; omega)))
    | ((fail_if_success (refine w_same (by simpa [go_sem, *] using trivial) rfl ?_)); refine w_splv rfl (by simp [go_sem, *, -Bool.not_eq_eq_eq_not]; rfl) (fun hr => ?_) (fun hr => ?_) <;> (have hg := hr) <;> (try simp only [Bool.not_eq_true', Bool.not_eq_false', Bool.and_eq_true, Bool.and_eq_false_imp, Bool.or_eq_true, Bool.or_eq_false_iff, Bool.not_eq_true, Bool.not_eq_false, decide_eq_true_eq, decide_eq_false_iff_not, Int.not_lt, Int.not_le, ge_iff_le, gt_iff_lt, decide_true, decide_false, Bool.false_eq_true, reduceCtorEq, beq_iff_eq, beq_eq_false_iff_ne, ne_eq, bne_iff_ne, bne_eq_false_iff_eq, and_true, true_and, and_false, false_and] at hg) <;> (try (exfalso; omega)))
    | ((fail_if_success (refine l_same (by simpa [go_sem, *] using trivial) rfl ?_)); refine l_splv rfl (by simp [go_sem, *, -Bool.not_eq_eq_eq_not]; rfl) (fun hr => ?_) (fun hr => ?_) <;> (have hg := hr) <;> (try simp only [Bool.not_eq_true', Bool.not_eq_false', Bool.and_eq_true, Bool.and_eq_false_imp, Bool.or_eq_true, Bool.or_eq_false_iff, Bool.not_eq_true, Bool.not_eq_false, decide_eq_true_eq, decide_eq_false_iff_not, Int.not_lt, Int.not_le, ge_iff_le, gt_iff_lt, decide_true, decide_false, Bool.false_eq_true, reduceCtorEq, beq_iff_eq, beq_eq_false_iff_ne, ne_eq, bne_iff_ne, bne_eq_false_iff_eq, and_true, true_and, and_false, false_and] at hg) <;> (try (exfalso; omega))))
    all_goals refine k_ret (by simp [go_sem]; first | exact ⟨rfl, rfl⟩ | rfl) ?_ rfl
    all_goals rfl
theorem law9_of {l : List AV} (h : All2 (ShA T) [44] l) : law9_S l (.one (.sc (.bool true))) [] := by
  obtain ⟨a, rfl, ha⟩ := all2_1 h
  obtain ⟨r, z, es, rfl, hl, _⟩ := shGraph ha
  exact ⟨r, z, es, hl, rfl, rfl, rfl⟩
end Go.Proofs.Try

