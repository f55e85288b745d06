import Derived.Test.YtoanlehkkideiaaG1
namespace Go.Proofs.Try
open Go Go.Eng
set_option linter.unnecessarySimpa false
set_option linter.unusedSimpArgs false
set_option maxHeartbeats 1000000

def cmpI (a b : Int) : Int := if a < b then -1 else if b < a then 1 else 0
def cmpE (p q : Ed) : Int := if cmpI p.1 q.1 ≠ 0 then cmpI p.1 q.1 else if cmpI p.2.1 q.2.1 ≠ 0 then cmpI p.2.1 q.2.1 else cmpI p.2.2 q.2.2
def cmpI_S : Eng.Spec := fun args av objs => ∃ a b : Int, args = [AV.one (.sc (.int a)), AV.one (.sc (.int b))] ∧ av = AV.one (.sc (.int (cmpI a b))) ∧ objs = []
def K74 : Nat → List Nat := fun i => ([[0, 1], [0, 1, 5], [4], [9], [4], [4]] : List (List Nat)).getD i []
theorem compareInts_sat : Sat Try.prog 74 cmpI_S := by
  refine sat_of tok okr mixed K74 Try.func74 rfl (rs := [.tmp 4]) rfl rfl ?_
  rintro args av objs ⟨a, b, rfl, rfl, rfl⟩
  refine ⟨by show 2 ≤ 13; decide, ?_⟩
  repeat' (first
    | refine w_op rfl (by simp (disch := first | omega | (simp; omega)) [go_sem, Try.ntmps74, -Option.map_eq_some_iff]; rfl) ?_
    | refine l_op rfl (by simp (disch := first | omega | (simp; omega)) [go_sem, Try.ntmps74, -Option.map_eq_some_iff]; exact ⟨rfl, rfl⟩) ?_
    | refine w_end (by simp [go_sem, K74]; rfl) ?_
    | refine l_end (by kernel_rfl) (by simp [go_sem, K74]; rfl) ?_
    | refine w_yes' (by simpa [go_sem, *] using trivial) rfl (by simp (disch := first | omega | (simp; omega)) [go_sem, Try.ntmps74, -Option.map_eq_some_iff]; rfl) ?_
    | refine w_no' (by simpa [go_sem, *] using trivial) rfl rfl (by simp [go_sem, skipE]; rfl) ?_
    | refine w_op rfl (by simp (disch := first | omega | (simp; omega)) [go_sem, Try.ntmps74, -Option.map_eq_some_iff, *]; rfl) ?_
    | refine l_op' (by simpa [go_sem, *] using trivial) rfl (by simp (disch := first | omega | (simp; omega)) [go_sem, Try.ntmps74, -Option.map_eq_some_iff, *]; exact ⟨rfl, rfl⟩) ?_
    | refine l_no' (by simpa [go_sem, *] using trivial) rfl rfl (by simp [go_sem, skipE]; rfl) ?_
    | refine k_seq ?_
    | refine a_seq ?_
    | refine a_reg ?_
    | refine a_draw ?_
    | refine k_seq_exit ?_
    | refine k_seq_ret ?_
    | refine k_blk ?_
    | refine k_blk_exit ?_
    | refine k_blk_other rfl ?_
    | refine k_blk_ret ?_
    | refine k_lop_exit ?_
    | refine k_lop_ret ?_
    | refine a_skip ?_
    | refine a_ret ?_
    | refine a_exit ?_
    | refine a_block ?_
    | (refine a_cond (by simp [go_sem, *, -Bool.not_eq_eq_eq_not]; rfl) (fun hr => ?_) (fun hr => ?_) <;> (have hc := hr) <;> (try simp only [Bool.not_eq_true', Bool.not_eq_false', Bool.and_eq_true, Bool.and_eq_false_imp, Bool.or_eq_true, Bool.or_eq_false_iff, Bool.not_eq_true, Bool.not_eq_false, decide_eq_true_eq, decide_eq_false_iff_not, Int.not_lt, Int.not_le, ge_iff_le, gt_iff_lt, decide_true, decide_false, Bool.false_eq_true, reduceCtorEq, beq_iff_eq, beq_eq_false_iff_ne, ne_eq, bne_iff_ne, bne_eq_false_iff_eq, and_true, true_and, and_false, false_and] at hc) <;> (try (exfalso; omega)))
    | ((fail_if_success (refine w_same (by simpa [go_sem, *] using trivial) rfl ?_)); refine w_splv rfl (by simp [go_sem, *, -Bool.not_eq_eq_eq_not]; rfl) (fun hr => ?_) (fun hr => ?_) <;> (have hg := hr) <;> (try simp only [Bool.not_eq_true', Bool.not_eq_false', Bool.and_eq_true, Bool.and_eq_false_imp, Bool.or_eq_true, Bool.or_eq_false_iff, Bool.not_eq_true, Bool.not_eq_false, decide_eq_true_eq, decide_eq_false_iff_not, Int.not_lt, Int.not_le, ge_iff_le, gt_iff_lt, decide_true, decide_false, Bool.false_eq_true, reduceCtorEq, beq_iff_eq, beq_eq_false_iff_ne, ne_eq, bne_iff_ne, bne_eq_false_iff_eq, and_true, true_and, and_false, false_and] at hg) <;> (try (exfalso; omega)))
    | ((fail_if_success (refine l_same (by simpa [go_sem, *] using trivial) rfl ?_)); refine l_splv rfl (by simp [go_sem, *, -Bool.not_eq_eq_eq_not]; rfl) (fun hr => ?_) (fun hr => ?_) <;> (have hg := hr) <;> (try simp only [Bool.not_eq_true', Bool.not_eq_false', Bool.and_eq_true, Bool.and_eq_false_imp, Bool.or_eq_true, Bool.or_eq_false_iff, Bool.not_eq_true, Bool.not_eq_false, decide_eq_true_eq, decide_eq_false_iff_not, Int.not_lt, Int.not_le, ge_iff_le, gt_iff_lt, decide_true, decide_false, Bool.false_eq_true, reduceCtorEq, beq_iff_eq, beq_eq_false_iff_ne, ne_eq, bne_iff_ne, bne_eq_false_iff_eq, and_true, true_and, and_false, false_and] at hg) <;> (try (exfalso; omega))))
  all_goals refine k_ret (by simp [go_sem]; first | exact ⟨rfl, rfl⟩ | rfl) ?_ rfl
  all_goals simp [cmpI, *]
  all_goals omega

def cmpE_S : Eng.Spec := fun args av objs => ∃ p q : Ed, args = [edA p, edA q] ∧ av = AV.one (.sc (.int (cmpE p q))) ∧ objs = []
def K69 : Nat → List Nat := fun i => ([[2, 3], [2, 3, 5], [2, 3, 5, 13], [4], [2, 3, 6], [2, 3, 6, 21], [4], [4]] : List (List Nat)).getD i []
theorem compareEdges_sat : Sat Try.prog 69 cmpE_S := by
  refine sat_of tok okr mixed K69 Try.func69 rfl (rs := [.tmp 4]) rfl rfl ?_
  rintro args av objs ⟨p, q, rfl, rfl, rfl⟩
  refine ⟨by show 2 ≤ 28; decide, ?_⟩
  repeat' (first
    | refine w_op rfl (by simp (disch := first | omega | (simp; omega)) [go_sem, edA, Try.ntmps69, -Option.map_eq_some_iff]; rfl) ?_
    | refine l_op rfl (by simp (disch := first | omega | (simp; omega)) [go_sem, edA, Try.ntmps69, -Option.map_eq_some_iff]; exact ⟨rfl, rfl⟩) ?_
    | refine w_end (by simp [go_sem, K69]; rfl) ?_
    | refine l_end (by kernel_rfl) (by simp [go_sem, K69]; rfl) ?_
    | refine w_fn compareInts_sat rfl Try.func74 rfl rfl (by first | rfl | (simpa [go_sem, *] using trivial)) rfl rfl (by simp [go_sem]; exact ⟨rfl, rfl⟩) (by exact ⟨_, _, rfl, rfl, rfl⟩) (by rfl) (by rfl) (by rfl) (by simp [go_sem]; rfl) ?_
    | refine l_fn compareInts_sat rfl Try.func74 rfl rfl (by first | rfl | (simpa [go_sem, *] using trivial)) rfl rfl (by simp [go_sem]; exact ⟨rfl, rfl⟩) (by exact ⟨_, _, rfl, rfl, rfl⟩) (by rfl) (by rfl) (by rfl) (by simp [go_sem]; rfl) ?_
    | refine w_yes' (by simpa [go_sem, *] using trivial) rfl (by simp (disch := first | omega | (simp; omega)) [go_sem, edA, Try.ntmps69, -Option.map_eq_some_iff]; rfl) ?_
    | refine w_no' (by simpa [go_sem, *] using trivial) rfl rfl (by simp [go_sem, skipE]; rfl) ?_
    | refine w_op rfl (by simp (disch := first | omega | (simp; omega)) [go_sem, edA, Try.ntmps69, -Option.map_eq_some_iff, *]; rfl) ?_
    | refine l_op' (by simpa [go_sem, *] using trivial) rfl (by simp (disch := first | omega | (simp; omega)) [go_sem, edA, Try.ntmps69, -Option.map_eq_some_iff, *]; exact ⟨rfl, rfl⟩) ?_
    | refine l_no' (by simpa [go_sem, *] using trivial) rfl rfl (by simp [go_sem, skipE]; rfl) ?_
    | refine k_seq ?_
    | refine a_seq ?_
    | refine a_reg ?_
    | refine a_draw ?_
    | refine k_seq_exit ?_
    | refine k_seq_ret ?_
    | refine k_blk ?_
    | refine k_blk_exit ?_
    | refine k_blk_other rfl ?_
    | refine k_blk_ret ?_
    | refine k_lop_exit ?_
    | refine k_lop_ret ?_
    | refine a_skip ?_
    | refine a_ret ?_
    | refine a_exit ?_
    | refine a_block ?_
    | (refine a_cond (by simp [go_sem, *, -Bool.not_eq_eq_eq_not]; rfl) (fun hr => ?_) (fun hr => ?_) <;> (have hc := hr) <;> (try simp only [Bool.not_eq_true', Bool.not_eq_false', Bool.and_eq_true, Bool.and_eq_false_imp, Bool.or_eq_true, Bool.or_eq_false_iff, Bool.not_eq_true, Bool.not_eq_false, decide_eq_true_eq, decide_eq_false_iff_not, Int.not_lt, Int.not_le, ge_iff_le, gt_iff_lt, decide_true, decide_false, Bool.false_eq_true, reduceCtorEq, beq_iff_eq, beq_eq_false_iff_ne, ne_eq, bne_iff_ne, bne_eq_false_iff_eq, and_true, true_and, and_false, false_and] at hc) <;> (try (exfalso; omega)))
    | ((fail_if_success (refine w_same (by simpa [go_sem, *] using trivial) rfl ?_)); refine w_splv rfl (by simp [go_sem, *, -Bool.not_eq_eq_eq_not]; rfl) (fun hr => ?_) (fun hr => ?_) <;> (have hg := hr) <;> (try simp only [Bool.not_eq_true', Bool.not_eq_false', Bool.and_eq_true, Bool.and_eq_false_imp, Bool.or_eq_true, Bool.or_eq_false_iff, Bool.not_eq_true, Bool.not_eq_false, decide_eq_true_eq, decide_eq_false_iff_not, Int.not_lt, Int.not_le, ge_iff_le, gt_iff_lt, decide_true, decide_false, Bool.false_eq_true, reduceCtorEq, beq_iff_eq, beq_eq_false_iff_ne, ne_eq, bne_iff_ne, bne_eq_false_iff_eq, and_true, true_and, and_false, false_and] at hg) <;> (try (exfalso; omega)))
    | ((fail_if_success (refine l_same (by simpa [go_sem, *] using trivial) rfl ?_)); refine l_splv rfl (by simp [go_sem, *, -Bool.not_eq_eq_eq_not]; rfl) (fun hr => ?_) (fun hr => ?_) <;> (have hg := hr) <;> (try simp only [Bool.not_eq_true', Bool.not_eq_false', Bool.and_eq_true, Bool.and_eq_false_imp, Bool.or_eq_true, Bool.or_eq_false_iff, Bool.not_eq_true, Bool.not_eq_false, decide_eq_true_eq, decide_eq_false_iff_not, Int.not_lt, Int.not_le, ge_iff_le, gt_iff_lt, decide_true, decide_false, Bool.false_eq_true, reduceCtorEq, beq_iff_eq, beq_eq_false_iff_ne, ne_eq, bne_iff_ne, bne_eq_false_iff_eq, and_true, true_and, and_false, false_and] at hg) <;> (try (exfalso; omega))))
  all_goals refine k_ret (by simp [go_sem]; first | exact ⟨rfl, rfl⟩ | rfl) ?_ rfl
  all_goals simp_all [cmpE]

def K66 : Nat → List Nat := fun i => ([[2, 3], [3, 5], [5, 6], [5, 6, 7], [5, 6, 7, 23], [5, 6, 7], [5, 6, 7, 34], [4], [5, 6, 7, 43], [4], [4]] : List (List Nat)).getD i []
theorem compareEdges_sat2 : Sat Try.prog 66 cmpE_S := by
  refine sat_of tok okr mixed K66 Try.func66 rfl (rs := [.tmp 4]) rfl rfl ?_
  rintro args av objs ⟨⟨p0, p1, p2⟩, ⟨q0, q1, q2⟩, rfl, rfl, rfl⟩
  refine ⟨by show 2 ≤ 44; decide, ?_⟩
  repeat' (first
    | refine w_op rfl (by simp (disch := first | omega | (simp; omega)) [go_sem, edA, Try.ntmps66, -Option.map_eq_some_iff]; rfl) ?_
    | refine l_op rfl (by simp (disch := first | omega | (simp; omega)) [go_sem, edA, Try.ntmps66, -Option.map_eq_some_iff]; exact ⟨rfl, rfl⟩) ?_
    | refine w_end (by simp [go_sem, K66]; rfl) ?_
    | refine l_end (by kernel_rfl) (by simp [go_sem, K66]; rfl) ?_
    | refine w_yes' (by simpa [go_sem, *] using trivial) rfl (by simp (disch := first | omega | (simp; omega)) [go_sem, edA, Try.ntmps66, -Option.map_eq_some_iff]; rfl) ?_
    | refine w_no' (by simpa [go_sem, *] using trivial) rfl rfl (by simp [go_sem, skipE]; rfl) ?_
    | refine w_op rfl (by simp (disch := first | omega | (simp; omega)) [go_sem, edA, Try.ntmps66, -Option.map_eq_some_iff, *]; rfl) ?_
    | refine l_op' (by simpa [go_sem, *] using trivial) rfl (by simp (disch := first | omega | (simp; omega)) [go_sem, edA, Try.ntmps66, -Option.map_eq_some_iff, *]; exact ⟨rfl, rfl⟩) ?_
    | refine l_no' (by simpa [go_sem, *] using trivial) rfl rfl (by simp [go_sem, skipE]; rfl) ?_
    | refine k_seq ?_
    | refine a_seq ?_
    | refine a_reg ?_
    | refine a_draw ?_
    | refine k_seq_exit ?_
    | refine k_seq_ret ?_
    | refine k_blk ?_
    | refine k_blk_exit ?_
    | refine k_blk_other rfl ?_
    | refine k_blk_ret ?_
    | refine k_lop_exit ?_
    | refine k_lop_ret ?_
    | refine a_skip ?_
    | refine a_ret ?_
    | refine a_exit ?_
    | refine a_block ?_
    | (refine a_cond (by simp [go_sem, *, -Bool.not_eq_eq_eq_not]; rfl) (fun hr => ?_) (fun hr => ?_) <;> (have hc := hr) <;> (try simp only [Bool.not_eq_true', Bool.not_eq_false', Bool.and_eq_true, Bool.and_eq_false_imp, Bool.or_eq_true, Bool.or_eq_false_iff, Bool.not_eq_true, Bool.not_eq_false, decide_eq_true_eq, decide_eq_false_iff_not, Int.not_lt, Int.not_le, ge_iff_le, gt_iff_lt, decide_true, decide_false, Bool.false_eq_true, reduceCtorEq, beq_iff_eq, beq_eq_false_iff_ne, ne_eq, bne_iff_ne, bne_eq_false_iff_eq, and_true, true_and, and_false, false_and] at hc) <;> (try (exfalso; omega)))
    | ((fail_if_success (refine w_same (by simpa [go_sem, *] using trivial) rfl ?_)); refine w_splv rfl (by simp [go_sem, *, -Bool.not_eq_eq_eq_not]; rfl) (fun hr => ?_) (fun hr => ?_) <;> (have hg := hr) <;> (try simp only [Bool.not_eq_true', Bool.not_eq_false', Bool.and_eq_true, Bool.and_eq_false_imp, Bool.or_eq_true, Bool.or_eq_false_iff, Bool.not_eq_true, Bool.not_eq_false, decide_eq_true_eq, decide_eq_false_iff_not, Int.not_lt, Int.not_le, ge_iff_le, gt_iff_lt, decide_true, decide_false, Bool.false_eq_true, reduceCtorEq, beq_iff_eq, beq_eq_false_iff_ne, ne_eq, bne_iff_ne, bne_eq_false_iff_eq, and_true, true_and, and_false, false_and] at hg) <;> (try (exfalso; omega)))
    | ((fail_if_success (refine l_same (by simpa [go_sem, *] using trivial) rfl ?_)); refine l_splv rfl (by simp [go_sem, *, -Bool.not_eq_eq_eq_not]; rfl) (fun hr => ?_) (fun hr => ?_) <;> (have hg := hr) <;> (try simp only [Bool.not_eq_true', Bool.not_eq_false', Bool.and_eq_true, Bool.and_eq_false_imp, Bool.or_eq_true, Bool.or_eq_false_iff, Bool.not_eq_true, Bool.not_eq_false, decide_eq_true_eq, decide_eq_false_iff_not, Int.not_lt, Int.not_le, ge_iff_le, gt_iff_lt, decide_true, decide_false, Bool.false_eq_true, reduceCtorEq, beq_iff_eq, beq_eq_false_iff_ne, ne_eq, bne_iff_ne, bne_eq_false_iff_eq, and_true, true_and, and_false, false_and] at hg) <;> (try (exfalso; omega))))
  refine a_loop (fun i : Nat => ⟨44, [(5, AV.one (.ref 5)), (6, AV.one (.ref 6)), (7, AV.one (.sc (.int i)))], [(5, some (.flat 3 1 [[.int p0], [.int p1], [.int p2]])), (6, some (.flat 3 1 [[.int q0], [.int q1], [.int q2]]))], [5, 6]⟩) (fun i => i ≤ 3 ∧ (1 ≤ i → p0 = q0) ∧ (2 ≤ i → p1 = q1) ∧ (3 ≤ i → p2 = q2)) (fun i => 3 - i) 0 (by omega) ?_ ?_
  · refine weak_of [(5, .obj 112), (6, .obj 168)] rfl (by decide) ?_ ?_ rfl
    · simp [go_sem, AVm, CVm, lookS]
    · simp [go_sem, OBm, CVm, lookS, All2]
  · rintro i ⟨hi, h0, h1, h2⟩
    rcases (show i = 0 ∨ i = 1 ∨ i = 2 ∨ i = 3 by omega) with rfl | rfl | rfl | rfl
    all_goals simp only [Nat.le_refl, forall_const, Nat.reduceLeDiff, false_implies] at h0 h1 h2
    all_goals repeat' (first
    | refine w_op rfl (by simp (disch := first | omega | (simp; omega)) [go_sem, Try.ntmps66, -Option.map_eq_some_iff]; rfl) ?_
    | refine l_op rfl (by simp (disch := first | omega | (simp; omega)) [go_sem, Try.ntmps66, -Option.map_eq_some_iff]; exact ⟨rfl, rfl⟩) ?_
    | refine w_end (by simp [go_sem, K66]; rfl) ?_
    | refine l_end (by kernel_rfl) (by simp [go_sem, K66]; rfl) ?_
    | refine w_yes' (by simpa [go_sem, *] using trivial) rfl (by simp (disch := first | omega | (simp; omega)) [go_sem, Try.ntmps66, -Option.map_eq_some_iff]; rfl) ?_
    | refine w_no' (by simpa [go_sem, *] using trivial) rfl rfl (by simp [go_sem, skipE]; rfl) ?_
    | refine w_op rfl (by simp (disch := first | omega | (simp; omega)) [go_sem, Try.ntmps66, -Option.map_eq_some_iff, *]; rfl) ?_
    | refine l_op' (by simpa [go_sem, *] using trivial) rfl (by simp (disch := first | omega | (simp; omega)) [go_sem, Try.ntmps66, -Option.map_eq_some_iff, *]; exact ⟨rfl, rfl⟩) ?_
    | refine l_no' (by simpa [go_sem, *] using trivial) rfl rfl (by simp [go_sem, skipE]; rfl) ?_
    | refine k_seq ?_
    | refine a_seq ?_
    | refine a_reg ?_
    | refine a_draw ?_
    | refine k_seq_exit ?_
    | refine k_seq_ret ?_
    | refine k_blk ?_
    | refine k_blk_exit ?_
    | refine k_blk_other rfl ?_
    | refine k_blk_ret ?_
    | refine k_lop_exit ?_
    | refine k_lop_ret ?_
    | refine a_skip ?_
    | refine a_ret ?_
    | refine a_exit ?_
    | refine a_block ?_
    | (refine a_cond (by simp [go_sem, *, -Bool.not_eq_eq_eq_not]; rfl) (fun hr => ?_) (fun hr => ?_) <;> (have hc := hr) <;> (try simp only [Bool.not_eq_true', Bool.not_eq_false', Bool.and_eq_true, Bool.and_eq_false_imp, Bool.or_eq_true, Bool.or_eq_false_iff, Bool.not_eq_true, Bool.not_eq_false, decide_eq_true_eq, decide_eq_false_iff_not, Int.not_lt, Int.not_le, ge_iff_le, gt_iff_lt, decide_true, decide_false, Bool.false_eq_true, reduceCtorEq, beq_iff_eq, beq_eq_false_iff_ne, ne_eq, bne_iff_ne, bne_eq_false_iff_eq, and_true, true_and, and_false, false_and] at hc) <;> (try (exfalso; omega)))
    | ((fail_if_success (refine w_same (by simpa [go_sem, *] using trivial) rfl ?_)); refine w_splv rfl (by simp [go_sem, *, -Bool.not_eq_eq_eq_not]; rfl) (fun hr => ?_) (fun hr => ?_) <;> (have hg := hr) <;> (try simp only [Bool.not_eq_true', Bool.not_eq_false', Bool.and_eq_true, Bool.and_eq_false_imp, Bool.or_eq_true, Bool.or_eq_false_iff, Bool.not_eq_true, Bool.not_eq_false, decide_eq_true_eq, decide_eq_false_iff_not, Int.not_lt, Int.not_le, ge_iff_le, gt_iff_lt, decide_true, decide_false, Bool.false_eq_true, reduceCtorEq, beq_iff_eq, beq_eq_false_iff_ne, ne_eq, bne_iff_ne, bne_eq_false_iff_eq, and_true, true_and, and_false, false_and] at hg) <;> (try (exfalso; omega)))
    | ((fail_if_success (refine l_same (by simpa [go_sem, *] using trivial) rfl ?_)); refine l_splv rfl (by simp [go_sem, *, -Bool.not_eq_eq_eq_not]; rfl) (fun hr => ?_) (fun hr => ?_) <;> (have hg := hr) <;> (try simp only [Bool.not_eq_true', Bool.not_eq_false', Bool.and_eq_true, Bool.and_eq_false_imp, Bool.or_eq_true, Bool.or_eq_false_iff, Bool.not_eq_true, Bool.not_eq_false, decide_eq_true_eq, decide_eq_false_iff_not, Int.not_lt, Int.not_le, ge_iff_le, gt_iff_lt, decide_true, decide_false, Bool.false_eq_true, reduceCtorEq, beq_iff_eq, beq_eq_false_iff_ne, ne_eq, bne_iff_ne, bne_eq_false_iff_eq, and_true, true_and, and_false, false_and] at hg) <;> (try (exfalso; omega))))
    all_goals first
      | (refine k_lop 1 ⟨by omega, by omega, by omega, by omega⟩ (by omega) (Weak.refl _); done)
      | (refine k_lop 2 ⟨by omega, by omega, by omega, by omega⟩ (by omega) (Weak.refl _); done)
      | (refine k_lop 3 ⟨by omega, by omega, by omega, by omega⟩ (by omega) (Weak.refl _); done)
      | (refine k_ret (by simp [go_sem]; first | exact ⟨rfl, rfl⟩ | rfl) ?_ rfl; simp [cmpE, cmpI]; omega)
      | (refine k_ret (by simp [go_sem]; first | exact ⟨rfl, rfl⟩ | rfl) ?_ rfl; simp_all [cmpE, cmpI])

def edOk (r z : Int) (p : Ed) : Bool := decide (0 ≤ p.1 ∧ p.1 ≤ w64 (z - 1)) && decide (0 ≤ p.2.2 ∧ p.2.2 ≤ w64 (z - 1)) && decide (1 ≤ p.2.1 ∧ p.2.1 ≤ r)
def edOk_S : Eng.Spec := fun args av objs => ∃ (r z : Int) (es : List Ed) (p : Ed), args = [grA r z es, edA p] ∧ av = AV.one (.sc (.bool (edOk r z p))) ∧ objs = []
def K65 : Nat → List Nat := fun i => ([[2, 3], [4]] : List (List Nat)).getD i []
theorem l4Edge_sat : Sat Try.prog 65 edOk_S := by
  refine sat_of tok okr mixed K65 Try.func65 rfl (rs := [.tmp 4]) rfl rfl ?_
  rintro args av objs ⟨r, z, es, p, rfl, rfl, rfl⟩
  refine ⟨by show 2 ≤ 26; decide, ?_⟩
  repeat' (first
    | refine w_op rfl (by simp (disch := first | omega | (simp; omega)) [go_sem, edA, grA, Try.ntmps65, -Option.map_eq_some_iff]; rfl) ?_
    | refine l_op rfl (by simp (disch := first | omega | (simp; omega)) [go_sem, edA, grA, Try.ntmps65, -Option.map_eq_some_iff]; exact ⟨rfl, rfl⟩) ?_
    | refine w_end (by simp [go_sem, K65]; rfl) ?_
    | refine l_end (by kernel_rfl) (by simp [go_sem, K65]; rfl) ?_
    | refine w_fn l1In_sat rfl Try.func63 rfl rfl (by first | rfl | (simpa [go_sem, *] using trivial)) rfl rfl (by simp [go_sem]; exact ⟨rfl, rfl⟩) (by exact ⟨_, _, _, rfl, rfl, rfl⟩) (by rfl) (by rfl) (by rfl) (by simp [go_sem]; rfl) ?_
    | refine l_fn l1In_sat rfl Try.func63 rfl rfl (by first | rfl | (simpa [go_sem, *] using trivial)) rfl rfl (by simp [go_sem]; exact ⟨rfl, rfl⟩) (by exact ⟨_, _, _, rfl, rfl, rfl⟩) (by rfl) (by rfl) (by rfl) (by simp [go_sem]; rfl) ?_
    | refine w_yes' (by simpa [go_sem, *] using trivial) rfl (by simp (disch := first | omega | (simp; omega)) [go_sem, edA, grA, Try.ntmps65, -Option.map_eq_some_iff]; rfl) ?_
    | refine w_no' (by simpa [go_sem, *] using trivial) rfl rfl (by simp [go_sem, skipE]; rfl) ?_
    | refine w_op rfl (by simp (disch := first | omega | (simp; omega)) [go_sem, edA, grA, Try.ntmps65, -Option.map_eq_some_iff, *]; rfl) ?_
    | refine l_op' (by simpa [go_sem, *] using trivial) rfl (by simp (disch := first | omega | (simp; omega)) [go_sem, edA, grA, Try.ntmps65, -Option.map_eq_some_iff, *]; exact ⟨rfl, rfl⟩) ?_
    | refine l_no' (by simpa [go_sem, *] using trivial) rfl rfl (by simp [go_sem, skipE]; rfl) ?_
    | refine k_seq ?_
    | refine a_seq ?_
    | refine a_reg ?_
    | refine a_draw ?_
    | refine k_seq_exit ?_
    | refine k_seq_ret ?_
    | refine k_blk ?_
    | refine k_blk_exit ?_
    | refine k_blk_other rfl ?_
    | refine k_blk_ret ?_
    | refine k_lop_exit ?_
    | refine k_lop_ret ?_
    | refine a_skip ?_
    | refine a_ret ?_
    | refine a_exit ?_
    | refine a_block ?_
    | (refine a_cond (by simp [go_sem, *, -Bool.not_eq_eq_eq_not]; rfl) (fun hr => ?_) (fun hr => ?_) <;> (have hc := hr) <;> (try simp only [Bool.not_eq_true', Bool.not_eq_false', Bool.and_eq_true, Bool.and_eq_false_imp, Bool.or_eq_true, Bool.or_eq_false_iff, Bool.not_eq_true, Bool.not_eq_false, decide_eq_true_eq, decide_eq_false_iff_not, Int.not_lt, Int.not_le, ge_iff_le, gt_iff_lt, decide_true, decide_false, Bool.false_eq_true, reduceCtorEq, beq_iff_eq, beq_eq_false_iff_ne, ne_eq, bne_iff_ne, bne_eq_false_iff_eq, and_true, true_and, and_false, false_and] at hc) <;> (try (exfalso; omega)))
    | ((fail_if_success (refine w_same (by simpa [go_sem, *] using trivial) rfl ?_)); refine w_splv rfl (by simp [go_sem, *, -Bool.not_eq_eq_eq_not]; rfl) (fun hr => ?_) (fun hr => ?_) <;> (have hg := hr) <;> (try simp only [Bool.not_eq_true', Bool.not_eq_false', Bool.and_eq_true, Bool.and_eq_false_imp, Bool.or_eq_true, Bool.or_eq_false_iff, Bool.not_eq_true, Bool.not_eq_false, decide_eq_true_eq, decide_eq_false_iff_not, Int.not_lt, Int.not_le, ge_iff_le, gt_iff_lt, decide_true, decide_false, Bool.false_eq_true, reduceCtorEq, beq_iff_eq, beq_eq_false_iff_ne, ne_eq, bne_iff_ne, bne_eq_false_iff_eq, and_true, true_and, and_false, false_and] at hg) <;> (try (exfalso; omega)))
    | ((fail_if_success (refine l_same (by simpa [go_sem, *] using trivial) rfl ?_)); refine l_splv rfl (by simp [go_sem, *, -Bool.not_eq_eq_eq_not]; rfl) (fun hr => ?_) (fun hr => ?_) <;> (have hg := hr) <;> (try simp only [Bool.not_eq_true', Bool.not_eq_false', Bool.and_eq_true, Bool.and_eq_false_imp, Bool.or_eq_true, Bool.or_eq_false_iff, Bool.not_eq_true, Bool.not_eq_false, decide_eq_true_eq, decide_eq_false_iff_not, Int.not_lt, Int.not_le, ge_iff_le, gt_iff_lt, decide_true, decide_false, Bool.false_eq_true, reduceCtorEq, beq_iff_eq, beq_eq_false_iff_ne, ne_eq, bne_iff_ne, bne_eq_false_iff_eq, and_true, true_and, and_false, false_and] at hg) <;> (try (exfalso; omega))))
  all_goals refine k_ret (by simp [go_sem]; first | exact ⟨rfl, rfl⟩ | rfl) ?_ rfl
  all_goals simp_all [edOk]
  all_goals intros
  all_goals omega

def K71 : Nat → List Nat := fun i => ([[1, 2], [2]] : List (List Nat)).getD i []
def copyG_S : Eng.Spec := fun args av objs => ∃ (r z : Int) (es : List Ed), es.length ≤ 1099511627776 ∧ args = [grA r z es] ∧ av = .agg [.sc (.int r), .sc (.int z), .ref 0] ∧ objs = [.flat 75 3 (eds es)]
theorem l4Copy_sat : Sat Try.prog 71 copyG_S := by
  refine sat_of tok okr mixed K71 Try.func71 rfl (rs := [.cell 2 29]) rfl rfl ?_
  rintro args av objs ⟨r, z, es, hl, rfl, rfl, rfl⟩
  refine ⟨by show 1 ≤ 12; decide, ?_⟩
  repeat' (first
    | refine w_op rfl (by simp (disch := first | omega | (simp; omega)) [go_sem, edA, grA, Try.ntmps71, -Option.map_eq_some_iff]; rfl) ?_
    | refine l_op rfl (by simp (disch := first | omega | (simp; omega)) [go_sem, edA, grA, Try.ntmps71, -Option.map_eq_some_iff]; exact ⟨rfl, rfl⟩) ?_
    | refine w_end (by simp [go_sem, K71]; rfl) ?_
    | refine l_end (by kernel_rfl) (by simp [go_sem, K71]; rfl) ?_
    | refine w_yes' (by simpa [go_sem, *] using trivial) rfl (by simp (disch := first | omega | (simp; omega)) [go_sem, edA, grA, Try.ntmps71, -Option.map_eq_some_iff]; rfl) ?_
    | refine w_no' (by simpa [go_sem, *] using trivial) rfl rfl (by simp [go_sem, skipE]; rfl) ?_
    | refine w_op rfl (by simp (disch := first | omega | (simp; omega)) [go_sem, edA, grA, Try.ntmps71, -Option.map_eq_some_iff, *]; rfl) ?_
    | refine l_op' (by simpa [go_sem, *] using trivial) rfl (by simp (disch := first | omega | (simp; omega)) [go_sem, edA, grA, Try.ntmps71, -Option.map_eq_some_iff, *]; exact ⟨rfl, rfl⟩) ?_
    | refine l_no' (by simpa [go_sem, *] using trivial) rfl rfl (by simp [go_sem, skipE]; rfl) ?_
    | refine k_seq ?_
    | refine a_seq ?_
    | refine a_reg ?_
    | refine a_draw ?_
    | refine k_seq_exit ?_
    | refine k_seq_ret ?_
    | refine k_blk ?_
    | refine k_blk_exit ?_
    | refine k_blk_other rfl ?_
    | refine k_blk_ret ?_
    | refine k_lop_exit ?_
    | refine k_lop_ret ?_
    | refine a_skip ?_
    | refine a_ret ?_
    | refine a_exit ?_
    | refine a_block ?_
    | (refine a_cond (by simp [go_sem, *, -Bool.not_eq_eq_eq_not]; rfl) (fun hr => ?_) (fun hr => ?_) <;> (have hc := hr) <;> (try simp only [Bool.not_eq_true', Bool.not_eq_false', Bool.and_eq_true, Bool.and_eq_false_imp, Bool.or_eq_true, Bool.or_eq_false_iff, Bool.not_eq_true, Bool.not_eq_false, decide_eq_true_eq, decide_eq_false_iff_not, Int.not_lt, Int.not_le, ge_iff_le, gt_iff_lt, decide_true, decide_false, Bool.false_eq_true, reduceCtorEq, beq_iff_eq, beq_eq_false_iff_ne, ne_eq, bne_iff_ne, bne_eq_false_iff_eq, and_true, true_and, and_false, false_and] at hc) <;> (try (exfalso; omega)))
    | ((fail_if_success (refine w_same (by simpa [go_sem, *] using trivial) rfl ?_)); refine w_splv rfl (by simp [go_sem, *, -Bool.not_eq_eq_eq_not]; rfl) (fun hr => ?_) (fun hr => ?_) <;> (have hg := hr) <;> (try simp only [Bool.not_eq_true', Bool.not_eq_false', Bool.and_eq_true, Bool.and_eq_false_imp, Bool.or_eq_true, Bool.or_eq_false_iff, Bool.not_eq_true, Bool.not_eq_false, decide_eq_true_eq, decide_eq_false_iff_not, Int.not_lt, Int.not_le, ge_iff_le, gt_iff_lt, decide_true, decide_false, Bool.false_eq_true, reduceCtorEq, beq_iff_eq, beq_eq_false_iff_ne, ne_eq, bne_iff_ne, bne_eq_false_iff_eq, and_true, true_and, and_false, false_and] at hg) <;> (try (exfalso; omega)))
    | ((fail_if_success (refine l_same (by simpa [go_sem, *] using trivial) rfl ?_)); refine l_splv rfl (by simp [go_sem, *, -Bool.not_eq_eq_eq_not]; rfl) (fun hr => ?_) (fun hr => ?_) <;> (have hg := hr) <;> (try simp only [Bool.not_eq_true', Bool.not_eq_false', Bool.and_eq_true, Bool.and_eq_false_imp, Bool.or_eq_true, Bool.or_eq_false_iff, Bool.not_eq_true, Bool.not_eq_false, decide_eq_true_eq, decide_eq_false_iff_not, Int.not_lt, Int.not_le, ge_iff_le, gt_iff_lt, decide_true, decide_false, Bool.false_eq_true, reduceCtorEq, beq_iff_eq, beq_eq_false_iff_ne, ne_eq, bne_iff_ne, bne_eq_false_iff_eq, and_true, true_and, and_false, false_and] at hg) <;> (try (exfalso; omega))))
  refine k_ret (by simp [go_sem]; first | exact ⟨rfl, rfl⟩ | rfl) ?_ rfl
  rfl

end Go.Proofs.Try

