import Derived.Test.YtoanlehkkideiaaG3
namespace Go.Proofs.Try
open Go Go.Eng
set_option linter.unnecessarySimpa false
set_option linter.unusedSimpArgs false
set_option maxHeartbeats 1000000

def wl : Nat → List Ed
  | 0 => []
  | n + 1 => wl n ++ [((0 : Int), ((n : Int) + 1), (0 : Int))]
theorem wl_len (n : Nat) : (wl n).length = n := by induction n with | zero => rfl | succ n ih => simp [wl, ih]
attribute [go_sem] wl_len
attribute [simp] wl_len
def gN (a : Int) : Nat := if 1 ≤ a ∧ a ≤ 3 then a.toNat else 0
theorem gOk_t {a : Int} (h : gOk a = true) : (gN a : Int) = a ∧ 1 ≤ a ∧ a ≤ 3 ∧ gN a ≤ 3 := by
  simp [gOk] at h; unfold gN; rw [if_pos h]; omega
theorem gOk_f {a : Int} (h : gOk a = false) : gN a = 0 := by
  simp only [gOk, decide_eq_false_iff_not] at h; unfold gN; rw [if_neg h]

def whole_S : Eng.Spec := fun args av objs => ∃ a : Int, args = [AV.one (.sc (.int a))] ∧ av = .tup [.agg [.sc (.int (gRank a)), .sc (.int (gSize a)), .ref 0], .one (.sc (.bool (gOk a)))] ∧ objs = [.flat 75 3 (eds (wl (gN a)))]
def K37 : Nat → List Nat := fun i => ([[0, 2], [0, 2, 4, 5], [0, 2, 4, 5, 6], [0, 2, 4, 5, 6, 17], [0, 2, 4, 5, 6], [0, 2, 4, 5, 6], [2, 3]] : List (List Nat)).getD i []
theorem whole_sat : Sat Try.prog 37 whole_S := by
  refine sat_of tok okr mixed K37 Try.func37 rfl (rs := [.cell 2 29, .tmp 3]) rfl rfl ?_
  rintro args av objs ⟨a, rfl, rfl, rfl⟩
  refine ⟨by show 1 ≤ 29; decide, ?_⟩
  repeat' (first
    | refine w_op rfl (by simp (disch := first | omega | (simp; omega)) [go_sem, Try.ntmps37, -Option.map_eq_some_iff]; rfl) ?_
    | refine l_op rfl (by simp (disch := first | omega | (simp; omega)) [go_sem, Try.ntmps37, -Option.map_eq_some_iff]; exact ⟨rfl, rfl⟩) ?_
    | refine w_end (by simp [go_sem, K37]; rfl) ?_
    | refine l_end (by kernel_rfl) (by simp [go_sem, K37]; rfl) ?_
    | refine w_fn newGraph_sat rfl Try.func45 rfl rfl (by first | rfl | (simpa [go_sem, *] using trivial)) rfl rfl (by simp [go_sem]; exact ⟨rfl, rfl⟩) (by exact ⟨_, rfl, rfl, rfl⟩) (by rfl) (by rfl) (by rfl) (by simp [go_sem]; rfl) ?_
    | refine l_fn newGraph_sat rfl Try.func45 rfl rfl (by first | rfl | (simpa [go_sem, *] using trivial)) rfl rfl (by simp [go_sem]; exact ⟨rfl, rfl⟩) (by exact ⟨_, rfl, rfl, rfl⟩) (by rfl) (by rfl) (by rfl) (by simp [go_sem]; rfl) ?_
    | refine w_yes' (by simpa [go_sem, *] using trivial) rfl (by simp (disch := first | omega | (simp; omega)) [go_sem, Try.ntmps37, -Option.map_eq_some_iff]; rfl) ?_
    | refine w_no' (by simpa [go_sem, *] using trivial) rfl rfl (by simp [go_sem, skipE]; rfl) ?_
    | refine w_op rfl (by simp (disch := first | omega | (simp; omega)) [go_sem, Try.ntmps37, -Option.map_eq_some_iff, *]; rfl) ?_
    | refine l_op' (by simpa [go_sem, *] using trivial) rfl (by simp (disch := first | omega | (simp; omega)) [go_sem, Try.ntmps37, -Option.map_eq_some_iff, *]; exact ⟨rfl, rfl⟩) ?_
    | refine l_no' (by simpa [go_sem, *] using trivial) rfl rfl (by simp [go_sem, skipE]; rfl) ?_
    | refine k_seq ?_
    | refine a_seq ?_
    | refine a_reg ?_
    | refine a_draw ?_
    | refine k_seq_exit ?_
    | refine k_seq_ret ?_
    | refine k_blk ?_
    | refine k_blk_exit ?_
    | refine k_blk_other rfl ?_
    | refine k_blk_ret ?_
    | refine k_lop_exit ?_
    | refine k_lop_ret ?_
    | refine a_skip ?_
    | refine a_ret ?_
    | refine a_exit ?_
    | refine a_block ?_
    | (refine a_cond (by simp [go_sem, *, -Bool.not_eq_eq_eq_not]; rfl) (fun hr => ?_) (fun hr => ?_) <;> (have hc := hr) <;> (try simp only [Bool.not_eq_true', Bool.not_eq_false', Bool.and_eq_true, Bool.and_eq_false_imp, Bool.or_eq_true, Bool.or_eq_false_iff, Bool.not_eq_true, Bool.not_eq_false, decide_eq_true_eq, decide_eq_false_iff_not, Int.not_lt, Int.not_le, ge_iff_le, gt_iff_lt, decide_true, decide_false, Bool.false_eq_true, reduceCtorEq, beq_iff_eq, beq_eq_false_iff_ne, ne_eq, bne_iff_ne, bne_eq_false_iff_eq, and_true, true_and, and_false, false_and] at hc) <;> (try (exfalso; omega)))
    | ((fail_if_success (refine w_same (by simpa [go_sem, *] using trivial) rfl ?_)); refine w_spl rfl (by simp [go_sem, *, -Bool.not_eq_eq_eq_not]; rfl) (fun hr => ?_) (fun hr => ?_) <;> (have hg := hr) <;> (try simp only [Bool.not_eq_true', Bool.not_eq_false', Bool.and_eq_true, Bool.and_eq_false_imp, Bool.or_eq_true, Bool.or_eq_false_iff, Bool.not_eq_true, Bool.not_eq_false, decide_eq_true_eq, decide_eq_false_iff_not, Int.not_lt, Int.not_le, ge_iff_le, gt_iff_lt, decide_true, decide_false, Bool.false_eq_true, reduceCtorEq, beq_iff_eq, beq_eq_false_iff_ne, ne_eq, bne_iff_ne, bne_eq_false_iff_eq, and_true, true_and, and_false, false_and] at hg) <;> (try (exfalso; omega)))
    | ((fail_if_success (refine l_same (by simpa [go_sem, *] using trivial) rfl ?_)); refine l_spl rfl (by simp [go_sem, *, -Bool.not_eq_eq_eq_not]; rfl) (fun hr => ?_) (fun hr => ?_) <;> (have hg := hr) <;> (try simp only [Bool.not_eq_true', Bool.not_eq_false', Bool.and_eq_true, Bool.and_eq_false_imp, Bool.or_eq_true, Bool.or_eq_false_iff, Bool.not_eq_true, Bool.not_eq_false, decide_eq_true_eq, decide_eq_false_iff_not, Int.not_lt, Int.not_le, ge_iff_le, gt_iff_lt, decide_true, decide_false, Bool.false_eq_true, reduceCtorEq, beq_iff_eq, beq_eq_false_iff_ne, ne_eq, bne_iff_ne, bne_eq_false_iff_eq, and_true, true_and, and_false, false_and] at hg) <;> (try (exfalso; omega))))
  refine a_loop (fun i : Nat => ⟨29, [(0, AV.one (.sc (.int a))), (2, AV.one (.ptr 1 1 0 0)), (4, AV.one (.ptr 2 1 0 0)), (5, AV.one (.sc (.bool (gOk a)))), (6, AV.one (.sc (.int (i + 1))))], [(1, some (.box 29 [.sc (.int 0), .sc (.int 0), .nil])), (2, some (.box 29 [.sc (.int (gRank a)), .sc (.int (gSize a)), .ref 3])), (3, some (.flat 75 3 (eds (wl i))))], [1, 2, 3]⟩) (fun i => i ≤ gN a ∧ gN a ≤ 3) (fun i => gN a - i) 0 ⟨by omega, by unfold gN; split <;> omega⟩ ?_ ?_
  · refine weak_of [(1, .obj 16), (2, .obj 32), (3, .nil)] rfl (by decide) ?_ ?_ rfl
    · simp [go_sem, AVm, CVm, lookS]
    · simp [go_sem, OBm, CVm, lookS, All2, wl, eds]
  · rintro i ⟨hi, hi2⟩
    have hb : gOk a = true → (gN a : Int) = a ∧ 1 ≤ a ∧ a ≤ 3 ∧ gN a ≤ 3 := gOk_t
    repeat' (first
    | refine w_op rfl (by simp (disch := first | omega | (simp; omega)) [go_sem, Try.ntmps37, -Option.map_eq_some_iff]; rfl) ?_
    | refine l_op rfl (by simp (disch := first | omega | (simp; omega)) [go_sem, Try.ntmps37, -Option.map_eq_some_iff]; exact ⟨rfl, rfl⟩) ?_
    | refine w_end (by simp [go_sem, K37]; rfl) ?_
    | refine l_end (by kernel_rfl) (by simp [go_sem, K37]; rfl) ?_
    | refine w_yes' (by simpa [go_sem, *] using trivial) rfl (by simp (disch := first | omega | (simp; omega)) [go_sem, Try.ntmps37, -Option.map_eq_some_iff]; rfl) ?_
    | refine w_no' (by simpa [go_sem, *] using trivial) rfl rfl (by simp [go_sem, skipE]; rfl) ?_
    | refine w_op rfl (by simp (disch := first | omega | (simp; omega)) [go_sem, Try.ntmps37, -Option.map_eq_some_iff, *]; rfl) ?_
    | refine l_op' (by simpa [go_sem, *] using trivial) rfl (by simp (disch := first | omega | (simp; omega)) [go_sem, Try.ntmps37, -Option.map_eq_some_iff, *]; exact ⟨rfl, rfl⟩) ?_
    | refine l_no' (by simpa [go_sem, *] using trivial) rfl rfl (by simp [go_sem, skipE]; rfl) ?_
    | refine k_seq ?_
    | refine a_seq ?_
    | refine a_reg ?_
    | refine a_draw ?_
    | refine k_seq_exit ?_
    | refine k_seq_ret ?_
    | refine k_blk ?_
    | refine k_blk_exit ?_
    | refine k_blk_other rfl ?_
    | refine k_blk_ret ?_
    | refine k_lop_exit ?_
    | refine k_lop_ret ?_
    | refine a_skip ?_
    | refine a_ret ?_
    | refine a_exit ?_
    | refine a_block ?_
    | (refine a_cond (by simp [go_sem, *, -Bool.not_eq_eq_eq_not]; rfl) (fun hr => ?_) (fun hr => ?_) <;> (have hc := hr) <;> (try simp only [Bool.not_eq_true', Bool.not_eq_false', Bool.and_eq_true, Bool.and_eq_false_imp, Bool.or_eq_true, Bool.or_eq_false_iff, Bool.not_eq_true, Bool.not_eq_false, decide_eq_true_eq, decide_eq_false_iff_not, Int.not_lt, Int.not_le, ge_iff_le, gt_iff_lt, decide_true, decide_false, Bool.false_eq_true, reduceCtorEq, beq_iff_eq, beq_eq_false_iff_ne, ne_eq, bne_iff_ne, bne_eq_false_iff_eq, and_true, true_and, and_false, false_and] at hc) <;> (try (exfalso; omega)))
    | ((fail_if_success (refine w_same (by simpa [go_sem, *] using trivial) rfl ?_)); refine w_spl rfl (by simp [go_sem, *, -Bool.not_eq_eq_eq_not]; rfl) (fun hr => ?_) (fun hr => ?_) <;> (have hg := hr) <;> (try simp only [Bool.not_eq_true', Bool.not_eq_false', Bool.and_eq_true, Bool.and_eq_false_imp, Bool.or_eq_true, Bool.or_eq_false_iff, Bool.not_eq_true, Bool.not_eq_false, decide_eq_true_eq, decide_eq_false_iff_not, Int.not_lt, Int.not_le, ge_iff_le, gt_iff_lt, decide_true, decide_false, Bool.false_eq_true, reduceCtorEq, beq_iff_eq, beq_eq_false_iff_ne, ne_eq, bne_iff_ne, bne_eq_false_iff_eq, and_true, true_and, and_false, false_and] at hg) <;> (try (exfalso; omega)))
    | ((fail_if_success (refine l_same (by simpa [go_sem, *] using trivial) rfl ?_)); refine l_spl rfl (by simp [go_sem, *, -Bool.not_eq_eq_eq_not]; rfl) (fun hr => ?_) (fun hr => ?_) <;> (have hg := hr) <;> (try simp only [Bool.not_eq_true', Bool.not_eq_false', Bool.and_eq_true, Bool.and_eq_false_imp, Bool.or_eq_true, Bool.or_eq_false_iff, Bool.not_eq_true, Bool.not_eq_false, decide_eq_true_eq, decide_eq_false_iff_not, Int.not_lt, Int.not_le, ge_iff_le, gt_iff_lt, decide_true, decide_false, Bool.false_eq_true, reduceCtorEq, beq_iff_eq, beq_eq_false_iff_ne, ne_eq, bne_iff_ne, bne_eq_false_iff_eq, and_true, true_and, and_false, false_and] at hg) <;> (try (exfalso; omega))))
    · have := hb hg
      refine k_lop (i + 1) ⟨by omega, hi2⟩ (by omega) (weak_of [(1, .obj 1), (2, .obj 2), (3, .obj 200)] rfl (by decide) ?_ ?_ rfl)
      · simp [go_sem, AVm, CVm, lookS]
      · simp [go_sem, OBm, CVm, lookS, All2, wl]
    · have := hb hg
      have : i = gN a := by omega
      subst this
      refine k_ret (by simp [go_sem]; first | exact ⟨rfl, rfl⟩ | rfl) ?_ rfl
      simp [go_sem, hg]
    · have := gOk_f hg
      have : i = gN a := by omega
      subst this
      refine k_ret (by simp [go_sem]; first | exact ⟨rfl, rfl⟩ | rfl) ?_ rfl
      simp [go_sem, hg]
end Go.Proofs.Try

