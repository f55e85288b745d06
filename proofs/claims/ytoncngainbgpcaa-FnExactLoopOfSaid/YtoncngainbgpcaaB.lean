import Derived.Test.YtoncngainbgpcaaA
set_option linter.unusedVariables false
set_option linter.unusedSimpArgs false
set_option linter.unnecessarySimpa false
namespace Go.Proofs.Try
set_option linter.unnecessarySimpa false
set_option linter.unusedSimpArgs false
set_option maxHeartbeats 2000000
open Go Go.Eng

/-! ### Marks -/
def mkE : Nat → Int → List Ed
  | 0, _ => []
  | n + 1, k => mkE n k ++ [(k + 3 * n, k + 3 * n + 1, k + 3 * n + 2)]
theorem mkE_len (n : Nat) (k : Int) : (mkE n k).length = n := by induction n with | zero => rfl | succ n ih => simp [mkE, ih]
theorem mkE_set {es : List Ed} {i : Nat} (k : Int) (h : i < es.length) : (mkE i k ++ es.drop i).set i (k + 3 * i, k + 3 * i + 1, k + 3 * i + 2) = mkE (i + 1) k ++ es.drop (i + 1) := by
  rw [List.set_append_right _ _ (by rw [mkE_len]; exact Nat.le_refl _), mkE_len, Nat.sub_self, List.drop_eq_getElem_cons h, List.set_cons_zero]
  simp [mkE]
theorem mkE_ed {n i : Nat} {k : Int} (h : i < n) : ed (mkE n k) i = (k + 3 * i, k + 3 * i + 1, k + 3 * i + 2) := by
  induction n with
  | zero => omega
  | succ n ih =>
    unfold mkE ed
    by_cases hi : i < n
    · have := ih hi
      unfold ed at this
      rw [List.getD_eq_getElem?_getD, List.getElem?_append_left (by rw [mkE_len]; exact hi), ← List.getD_eq_getElem?_getD, this]
    · have : i = n := by omega
      subst this
      rw [List.getD_eq_getElem?_getD, List.getElem?_append_right (by rw [mkE_len]; exact Nat.le_refl _), mkE_len]
      simp
attribute [go_sem] mkE_ed mkE_len
attribute [simp] mkE_len
def markE_S : SpecM := fun args o x o' => ∃ (e : Nat) (es : List Ed) (k : Int), es.length ≤ 1099511627776 ∧ 0 ≤ k ∧ k ≤ 1152921504606846976 ∧ args = [AV.one (.ref 0), AV.one (.sc (.int k))] ∧ o = .flat e 3 (eds es) ∧ x = .int (k + 3 * es.length) ∧ o' = .flat e 3 (eds (mkE es.length k))
def K36 : Nat → List Nat := fun i => ([[0, 1], [0, 1, 5], [0, 1, 5, 9], [0, 1, 5], [0, 1, 5], [0, 1, 5], [0, 1, 5], [0, 1, 5], [0, 1, 5], [0, 1, 5], [4]] : List (List Nat)).getD i []
theorem markEdgeS_sat : SatM Try.prog 36 markE_S := by
  refine satM_of tok okr mixed K36 Try.func36 rfl (r := .tmp 4) rfl rfl ?_
  rintro args o x o' ⟨e, es, k, hl, hk, hk2, rfl, rfl, rfl, rfl⟩
  refine ⟨by show 2 ≤ 34; decide, rfl, fun S W pv => ?_⟩
  repeat' (first
    | refine w_op rfl (by simp (disch := first | omega | (simp; omega)) [go_sem, entryM, Try.ntmps36, -Option.map_eq_some_iff]; rfl) ?_
    | refine l_op rfl (by simp (disch := first | omega | (simp; omega)) [go_sem, entryM, Try.ntmps36, -Option.map_eq_some_iff]; exact ⟨rfl, rfl⟩) ?_
    | refine w_end (by simp [go_sem, K36]; rfl) ?_
    | refine l_end (by kernel_rfl) (by simp [go_sem, K36]; rfl) ?_
    | refine w_yes' (by simpa [go_sem, *] using trivial) rfl (by simp (disch := first | omega | (simp; omega)) [go_sem, entryM, Try.ntmps36, -Option.map_eq_some_iff]; rfl) ?_
    | refine w_no' (by simpa [go_sem, *] using trivial) rfl rfl (by simp [go_sem, skipE]; rfl) ?_
    | refine w_op rfl (by simp (disch := first | omega | (simp; omega)) [go_sem, entryM, Try.ntmps36, -Option.map_eq_some_iff, *]; rfl) ?_
    | refine l_op' (by simpa [go_sem, *] using trivial) rfl (by simp (disch := first | omega | (simp; omega)) [go_sem, entryM, Try.ntmps36, -Option.map_eq_some_iff, *]; exact ⟨rfl, rfl⟩) ?_
    | refine l_no' (by simpa [go_sem, *] using trivial) rfl rfl (by simp [go_sem, skipE]; rfl) ?_
    | refine k_seq ?_
    | refine a_seq ?_
    | refine a_reg ?_
    | refine a_draw ?_
    | refine k_seq_exit ?_
    | refine k_seq_ret ?_
    | refine k_blk ?_
    | refine k_blk_exit ?_
    | refine k_blk_other rfl ?_
    | refine k_blk_ret ?_
    | refine k_lop_exit ?_
    | refine k_lop_ret ?_
    | refine a_skip ?_
    | refine a_ret ?_
    | refine a_exit ?_
    | refine a_block ?_
    | (refine a_cond (by simp [go_sem, *, -Bool.not_eq_eq_eq_not]; rfl) (fun hr => ?_) (fun hr => ?_) <;> (have hc := hr) <;> (try simp only [Bool.not_eq_true', Bool.not_eq_false', Bool.and_eq_true, Bool.and_eq_false_imp, Bool.or_eq_true, Bool.or_eq_false_iff, Bool.not_eq_true, Bool.not_eq_false, decide_eq_true_eq, decide_eq_false_iff_not, Int.not_lt, Int.not_le, ge_iff_le, gt_iff_lt, decide_true, decide_false, Bool.false_eq_true, reduceCtorEq, beq_iff_eq, beq_eq_false_iff_ne, ne_eq, bne_iff_ne, bne_eq_false_iff_eq, and_true, true_and, and_false, false_and] at hc) <;> (try (exfalso; omega)))
    | ((fail_if_success (refine w_same (by simpa [go_sem, *] using trivial) rfl ?_)); refine w_splv rfl (by simp [go_sem, *, -Bool.not_eq_eq_eq_not]; rfl) (fun hr => ?_) (fun hr => ?_) <;> (have hg := hr) <;> (try simp only [Bool.not_eq_true', Bool.not_eq_false', Bool.and_eq_true, Bool.and_eq_false_imp, Bool.or_eq_true, Bool.or_eq_false_iff, Bool.not_eq_true, Bool.not_eq_false, decide_eq_true_eq, decide_eq_false_iff_not, Int.not_lt, Int.not_le, ge_iff_le, gt_iff_lt, decide_true, decide_false, Bool.false_eq_true, reduceCtorEq, beq_iff_eq, beq_eq_false_iff_ne, ne_eq, bne_iff_ne, bne_eq_false_iff_eq, and_true, true_and, and_false, false_and] at hg) <;> (try (exfalso; omega)))
    | ((fail_if_success (refine l_same (by simpa [go_sem, *] using trivial) rfl ?_)); refine l_splv rfl (by simp [go_sem, *, -Bool.not_eq_eq_eq_not]; rfl) (fun hr => ?_) (fun hr => ?_) <;> (have hg := hr) <;> (try simp only [Bool.not_eq_true', Bool.not_eq_false', Bool.and_eq_true, Bool.and_eq_false_imp, Bool.or_eq_true, Bool.or_eq_false_iff, Bool.not_eq_true, Bool.not_eq_false, decide_eq_true_eq, decide_eq_false_iff_not, Int.not_lt, Int.not_le, ge_iff_le, gt_iff_lt, decide_true, decide_false, Bool.false_eq_true, reduceCtorEq, beq_iff_eq, beq_eq_false_iff_ne, ne_eq, bne_iff_ne, bne_eq_false_iff_eq, and_true, true_and, and_false, false_and] at hg) <;> (try (exfalso; omega))))
  refine a_loop (fun i : Nat => ⟨34, [(0, AV.one (.ref 0)), (1, AV.one (.sc (.int (k + 3 * i)))), (5, AV.one (.sc (.int i)))], [(0, some (.flat e 3 (eds (mkE i k ++ es.drop i)))), (1, some (.pin S W)), (3, some (.stay 0 pv))], [0, 1, 3]⟩) (fun i => i ≤ es.length) (fun i => es.length - i) 0 (by omega) ?_ ?_
  · have : (k + 3 * ((0 : Nat) : Int)) = k := by omega
    rw [this]
    exact Weak.refl _
  · intro i hi
    have hlen : (mkE i k ++ es.drop i).length = es.length := by simp [mkE_len]; omega
    generalize hL : mkE i k ++ es.drop i = L at hlen
    repeat' (first
    | refine w_op rfl (by simp (disch := first | omega | (simp; omega)) [go_sem, hlen, Try.ntmps36, -Option.map_eq_some_iff]; rfl) ?_
    | refine l_op rfl (by simp (disch := first | omega | (simp; omega)) [go_sem, hlen, Try.ntmps36, -Option.map_eq_some_iff]; exact ⟨rfl, rfl⟩) ?_
    | refine w_end (by simp [go_sem, K36]; rfl) ?_
    | refine l_end (by kernel_rfl) (by simp [go_sem, K36]; rfl) ?_
    | refine w_yes' (by simpa [go_sem, *] using trivial) rfl (by simp (disch := first | omega | (simp; omega)) [go_sem, hlen, Try.ntmps36, -Option.map_eq_some_iff]; rfl) ?_
    | refine w_no' (by simpa [go_sem, *] using trivial) rfl rfl (by simp [go_sem, skipE]; rfl) ?_
    | refine w_op rfl (by simp (disch := first | omega | (simp; omega)) [go_sem, hlen, Try.ntmps36, -Option.map_eq_some_iff, *]; rfl) ?_
    | refine l_op' (by simpa [go_sem, *] using trivial) rfl (by simp (disch := first | omega | (simp; omega)) [go_sem, hlen, Try.ntmps36, -Option.map_eq_some_iff, *]; exact ⟨rfl, rfl⟩) ?_
    | refine l_no' (by simpa [go_sem, *] using trivial) rfl rfl (by simp [go_sem, skipE]; rfl) ?_
    | refine k_seq ?_
    | refine a_seq ?_
    | refine a_reg ?_
    | refine a_draw ?_
    | refine k_seq_exit ?_
    | refine k_seq_ret ?_
    | refine k_blk ?_
    | refine k_blk_exit ?_
    | refine k_blk_other rfl ?_
    | refine k_blk_ret ?_
    | refine k_lop_exit ?_
    | refine k_lop_ret ?_
    | refine a_skip ?_
    | refine a_ret ?_
    | refine a_exit ?_
    | refine a_block ?_
    | (refine a_cond (by simp [go_sem, *, -Bool.not_eq_eq_eq_not]; rfl) (fun hr => ?_) (fun hr => ?_) <;> (have hc := hr) <;> (try simp only [Bool.not_eq_true', Bool.not_eq_false', Bool.and_eq_true, Bool.and_eq_false_imp, Bool.or_eq_true, Bool.or_eq_false_iff, Bool.not_eq_true, Bool.not_eq_false, decide_eq_true_eq, decide_eq_false_iff_not, Int.not_lt, Int.not_le, ge_iff_le, gt_iff_lt, decide_true, decide_false, Bool.false_eq_true, reduceCtorEq, beq_iff_eq, beq_eq_false_iff_ne, ne_eq, bne_iff_ne, bne_eq_false_iff_eq, and_true, true_and, and_false, false_and] at hc) <;> (try (exfalso; omega)))
    | ((fail_if_success (refine w_same (by simpa [go_sem, *] using trivial) rfl ?_)); refine w_splv rfl (by simp [go_sem, *, -Bool.not_eq_eq_eq_not]; rfl) (fun hr => ?_) (fun hr => ?_) <;> (have hg := hr) <;> (try simp only [Bool.not_eq_true', Bool.not_eq_false', Bool.and_eq_true, Bool.and_eq_false_imp, Bool.or_eq_true, Bool.or_eq_false_iff, Bool.not_eq_true, Bool.not_eq_false, decide_eq_true_eq, decide_eq_false_iff_not, Int.not_lt, Int.not_le, ge_iff_le, gt_iff_lt, decide_true, decide_false, Bool.false_eq_true, reduceCtorEq, beq_iff_eq, beq_eq_false_iff_ne, ne_eq, bne_iff_ne, bne_eq_false_iff_eq, and_true, true_and, and_false, false_and] at hg) <;> (try (exfalso; omega)))
    | ((fail_if_success (refine l_same (by simpa [go_sem, *] using trivial) rfl ?_)); refine l_splv rfl (by simp [go_sem, *, -Bool.not_eq_eq_eq_not]; rfl) (fun hr => ?_) (fun hr => ?_) <;> (have hg := hr) <;> (try simp only [Bool.not_eq_true', Bool.not_eq_false', Bool.and_eq_true, Bool.and_eq_false_imp, Bool.or_eq_true, Bool.or_eq_false_iff, Bool.not_eq_true, Bool.not_eq_false, decide_eq_true_eq, decide_eq_false_iff_not, Int.not_lt, Int.not_le, ge_iff_le, gt_iff_lt, decide_true, decide_false, Bool.false_eq_true, reduceCtorEq, beq_iff_eq, beq_eq_false_iff_ne, ne_eq, bne_iff_ne, bne_eq_false_iff_eq, and_true, true_and, and_false, false_and] at hg) <;> (try (exfalso; omega))))
    · have e2 : k + 3 * (i : Int) + 1 + 1 = k + 3 * i + 2 := by omega
      have hs := mkE_set k hc
      rw [hL] at hs
      refine k_lop (i + 1) (by omega) (by omega) (weak_of [(0, .obj 0), (1, .obj 1), (3, .obj 3)] rfl (by decide) ?_ ?_ rfl)
      · simp [go_sem, AVm, CVm, lookS]
        omega
      · simp [go_sem, OBm, lookS]
        rw [e2, hs]
    · have hi' : i = es.length := by omega
      subst hi'
      have hL' : L = mkE es.length k := by rw [← hL]; simp
      subst hL'
      exact ⟨rfl, rfl, rfl, rfl⟩
def markG_S : SpecM := fun args o x o' => ∃ (r z : Int) (e : Nat) (es : List Ed) (k : Int), es.length ≤ 1099511627776 ∧ 0 ≤ k ∧ k ≤ 1152921504606846976 ∧ args = [AV.agg [.sc (.int r), .sc (.int z), .ref 0], AV.one (.sc (.int k))] ∧ o = .flat e 3 (eds es) ∧ x = .int (k + 3 * es.length) ∧ o' = .flat e 3 (eds (mkE es.length k))
def K21 : Nat → List Nat := fun i => ([[1, 2], [1], [4]] : List (List Nat)).getD i []
theorem markGraph_sat : SatM Try.prog 21 markG_S := by
  refine satM_of tok okr mixed K21 Try.func21 rfl (r := .tmp 4) rfl rfl ?_
  rintro args o x o' ⟨r, z, e, es, k, hl, hk, hk2, rfl, rfl, rfl, rfl⟩
  refine ⟨by show 2 ≤ 10; decide, rfl, fun S W pv => ?_⟩
  repeat' (first
    | refine w_op rfl (by simp (disch := first | omega | (simp; omega)) [go_sem, entryM, Try.ntmps21, -Option.map_eq_some_iff]; rfl) ?_
    | refine l_op rfl (by simp (disch := first | omega | (simp; omega)) [go_sem, entryM, Try.ntmps21, -Option.map_eq_some_iff]; exact ⟨rfl, rfl⟩) ?_
    | refine w_end (by simp [go_sem, K21]; rfl) ?_
    | refine l_end (by kernel_rfl) (by simp [go_sem, K21]; rfl) ?_
    | refine w_fnR markEdgeS_sat rfl Try.func36 rfl rfl (by first | rfl | (simpa [go_sem, *] using trivial)) rfl rfl (by simp [go_sem]; rfl) (by simp [go_sem]; rfl) (by simp [go_sem]; rfl) (by exact ⟨e, es, k, hl, hk, hk2, rfl, rfl, rfl, rfl⟩) rfl rfl (by simp [go_sem]; rfl) ?_
    | refine l_fnR markEdgeS_sat rfl Try.func36 rfl rfl (by first | rfl | (simpa [go_sem, *] using trivial)) rfl rfl (by simp [go_sem]; rfl) (by simp [go_sem]; rfl) (by simp [go_sem]; rfl) (by exact ⟨e, es, k, hl, hk, hk2, rfl, rfl, rfl, rfl⟩) rfl rfl (by simp [go_sem]; rfl) ?_
    | refine w_yes' (by simpa [go_sem, *] using trivial) rfl (by simp (disch := first | omega | (simp; omega)) [go_sem, entryM, Try.ntmps21, -Option.map_eq_some_iff]; rfl) ?_
    | refine w_no' (by simpa [go_sem, *] using trivial) rfl rfl (by simp [go_sem, skipE]; rfl) ?_
    | refine w_op rfl (by simp (disch := first | omega | (simp; omega)) [go_sem, entryM, Try.ntmps21, -Option.map_eq_some_iff, *]; rfl) ?_
    | refine l_op' (by simpa [go_sem, *] using trivial) rfl (by simp (disch := first | omega | (simp; omega)) [go_sem, entryM, Try.ntmps21, -Option.map_eq_some_iff, *]; exact ⟨rfl, rfl⟩) ?_
    | refine l_no' (by simpa [go_sem, *] using trivial) rfl rfl (by simp [go_sem, skipE]; rfl) ?_
    | refine k_seq ?_
    | refine a_seq ?_
    | refine a_reg ?_
    | refine a_draw ?_
    | refine k_seq_exit ?_
    | refine k_seq_ret ?_
    | refine k_blk ?_
    | refine k_blk_exit ?_
    | refine k_blk_other rfl ?_
    | refine k_blk_ret ?_
    | refine k_lop_exit ?_
    | refine k_lop_ret ?_
    | refine a_skip ?_
    | refine a_ret ?_
    | refine a_exit ?_
    | refine a_block ?_
    | (refine a_cond (by simp [go_sem, *, -Bool.not_eq_eq_eq_not]; rfl) (fun hr => ?_) (fun hr => ?_) <;> (have hc := hr) <;> (try simp only [Bool.not_eq_true', Bool.not_eq_false', Bool.and_eq_true, Bool.and_eq_false_imp, Bool.or_eq_true, Bool.or_eq_false_iff, Bool.not_eq_true, Bool.not_eq_false, decide_eq_true_eq, decide_eq_false_iff_not, Int.not_lt, Int.not_le, ge_iff_le, gt_iff_lt, decide_true, decide_false, Bool.false_eq_true, reduceCtorEq, beq_iff_eq, beq_eq_false_iff_ne, ne_eq, bne_iff_ne, bne_eq_false_iff_eq, and_true, true_and, and_false, false_and] at hc) <;> (try (exfalso; omega)))
    | ((fail_if_success (refine w_same (by simpa [go_sem, *] using trivial) rfl ?_)); refine w_splv rfl (by simp [go_sem, *, -Bool.not_eq_eq_eq_not]; rfl) (fun hr => ?_) (fun hr => ?_) <;> (have hg := hr) <;> (try simp only [Bool.not_eq_true', Bool.not_eq_false', Bool.and_eq_true, Bool.and_eq_false_imp, Bool.or_eq_true, Bool.or_eq_false_iff, Bool.not_eq_true, Bool.not_eq_false, decide_eq_true_eq, decide_eq_false_iff_not, Int.not_lt, Int.not_le, ge_iff_le, gt_iff_lt, decide_true, decide_false, Bool.false_eq_true, reduceCtorEq, beq_iff_eq, beq_eq_false_iff_ne, ne_eq, bne_iff_ne, bne_eq_false_iff_eq, and_true, true_and, and_false, false_and] at hg) <;> (try (exfalso; omega)))
    | ((fail_if_success (refine l_same (by simpa [go_sem, *] using trivial) rfl ?_)); refine l_splv rfl (by simp [go_sem, *, -Bool.not_eq_eq_eq_not]; rfl) (fun hr => ?_) (fun hr => ?_) <;> (have hg := hr) <;> (try simp only [Bool.not_eq_true', Bool.not_eq_false', Bool.and_eq_true, Bool.and_eq_false_imp, Bool.or_eq_true, Bool.or_eq_false_iff, Bool.not_eq_true, Bool.not_eq_false, decide_eq_true_eq, decide_eq_false_iff_not, Int.not_lt, Int.not_le, ge_iff_le, gt_iff_lt, decide_true, decide_false, Bool.false_eq_true, reduceCtorEq, beq_iff_eq, beq_eq_false_iff_ne, ne_eq, bne_iff_ne, bne_eq_false_iff_eq, and_true, true_and, and_false, false_and] at hg) <;> (try (exfalso; omega))))
  exact ⟨rfl, rfl, rfl, rfl⟩
def heldE_S : Eng.Spec := fun args av objs => ∃ (n : Nat) (k : Int), n ≤ 1099511627776 ∧ 0 ≤ k ∧ k ≤ 1152921504606846976 ∧ args = [AV.one (.imm 3 (eds (mkE n k))), AV.one (.sc (.int k))] ∧ av = AV.one (.sc (.int (k + 3 * n))) ∧ objs = []
def K37 : Nat → List Nat := fun i => ([[0, 1], [0, 1, 5], [0, 1, 5, 9], [0, 1, 5], [0, 1, 5, 18], [4], [0, 1, 5], [0, 1, 5, 27], [4], [0, 1, 5], [0, 1, 5, 36], [4], [0, 1, 5], [4]] : List (List Nat)).getD i []
theorem heldEdgeS_sat : Sat Try.prog 37 heldE_S := by
  refine sat_of tok okr mixed K37 Try.func37 rfl (rs := [.tmp 4]) rfl rfl ?_
  rintro args av objs ⟨n, k, hn, hk, hk2, rfl, rfl, rfl⟩
  refine ⟨by show 2 ≤ 40; decide, ?_⟩
  repeat' (first
    | refine w_op rfl (by simp (disch := first | omega | (simp; omega)) [go_sem, Try.ntmps37, -Option.map_eq_some_iff]; rfl) ?_
    | refine l_op rfl (by simp (disch := first | omega | (simp; omega)) [go_sem, Try.ntmps37, -Option.map_eq_some_iff]; exact ⟨rfl, rfl⟩) ?_
    | refine w_end (by simp [go_sem, K37]; rfl) ?_
    | refine l_end (by kernel_rfl) (by simp [go_sem, K37]; rfl) ?_
    | refine w_yes' (by simpa [go_sem, *] using trivial) rfl (by simp (disch := first | omega | (simp; omega)) [go_sem, Try.ntmps37, -Option.map_eq_some_iff]; rfl) ?_
    | refine w_no' (by simpa [go_sem, *] using trivial) rfl rfl (by simp [go_sem, skipE]; rfl) ?_
    | refine w_op rfl (by simp (disch := first | omega | (simp; omega)) [go_sem, Try.ntmps37, -Option.map_eq_some_iff, *]; rfl) ?_
    | refine l_op' (by simpa [go_sem, *] using trivial) rfl (by simp (disch := first | omega | (simp; omega)) [go_sem, Try.ntmps37, -Option.map_eq_some_iff, *]; exact ⟨rfl, rfl⟩) ?_
    | refine l_no' (by simpa [go_sem, *] using trivial) rfl rfl (by simp [go_sem, skipE]; rfl) ?_
    | refine k_seq ?_
    | refine a_seq ?_
    | refine a_reg ?_
    | refine a_draw ?_
    | refine k_seq_exit ?_
    | refine k_seq_ret ?_
    | refine k_blk ?_
    | refine k_blk_exit ?_
    | refine k_blk_other rfl ?_
    | refine k_blk_ret ?_
    | refine k_lop_exit ?_
    | refine k_lop_ret ?_
    | refine a_skip ?_
    | refine a_ret ?_
    | refine a_exit ?_
    | refine a_block ?_
    | (refine a_cond (by simp [go_sem, *, -Bool.not_eq_eq_eq_not]; rfl) (fun hr => ?_) (fun hr => ?_) <;> (have hc := hr) <;> (try simp only [Bool.not_eq_true', Bool.not_eq_false', Bool.and_eq_true, Bool.and_eq_false_imp, Bool.or_eq_true, Bool.or_eq_false_iff, Bool.not_eq_true, Bool.not_eq_false, decide_eq_true_eq, decide_eq_false_iff_not, Int.not_lt, Int.not_le, ge_iff_le, gt_iff_lt, decide_true, decide_false, Bool.false_eq_true, reduceCtorEq, beq_iff_eq, beq_eq_false_iff_ne, ne_eq, bne_iff_ne, bne_eq_false_iff_eq, and_true, true_and, and_false, false_and] at hc) <;> (try (exfalso; omega)))
    | ((fail_if_success (refine w_same (by simpa [go_sem, *] using trivial) rfl ?_)); refine w_splv rfl (by simp [go_sem, *, -Bool.not_eq_eq_eq_not]; rfl) (fun hr => ?_) (fun hr => ?_) <;> (have hg := hr) <;> (try simp only [Bool.not_eq_true', Bool.not_eq_false', Bool.and_eq_true, Bool.and_eq_false_imp, Bool.or_eq_true, Bool.or_eq_false_iff, Bool.not_eq_true, Bool.not_eq_false, decide_eq_true_eq, decide_eq_false_iff_not, Int.not_lt, Int.not_le, ge_iff_le, gt_iff_lt, decide_true, decide_false, Bool.false_eq_true, reduceCtorEq, beq_iff_eq, beq_eq_false_iff_ne, ne_eq, bne_iff_ne, bne_eq_false_iff_eq, and_true, true_and, and_false, false_and] at hg) <;> (try (exfalso; omega)))
    | ((fail_if_success (refine l_same (by simpa [go_sem, *] using trivial) rfl ?_)); refine l_splv rfl (by simp [go_sem, *, -Bool.not_eq_eq_eq_not]; rfl) (fun hr => ?_) (fun hr => ?_) <;> (have hg := hr) <;> (try simp only [Bool.not_eq_true', Bool.not_eq_false', Bool.and_eq_true, Bool.and_eq_false_imp, Bool.or_eq_true, Bool.or_eq_false_iff, Bool.not_eq_true, Bool.not_eq_false, decide_eq_true_eq, decide_eq_false_iff_not, Int.not_lt, Int.not_le, ge_iff_le, gt_iff_lt, decide_true, decide_false, Bool.false_eq_true, reduceCtorEq, beq_iff_eq, beq_eq_false_iff_ne, ne_eq, bne_iff_ne, bne_eq_false_iff_eq, and_true, true_and, and_false, false_and] at hg) <;> (try (exfalso; omega))))
  refine a_loop (fun i : Nat => ⟨40, [(0, AV.one (.imm 3 (eds (mkE n k)))), (1, AV.one (.sc (.int (k + 3 * i)))), (5, AV.one (.sc (.int i)))], [], []⟩) (fun i => i ≤ n) (fun i => n - i) 0 (by omega) ?_ ?_
  · have : (k + 3 * ((0 : Nat) : Int)) = k := by omega
    rw [this]
    exact Weak.refl _
  · intro i hi
    repeat' (first
    | refine w_op rfl (by simp (disch := first | omega | (simp; omega)) [go_sem, Try.ntmps37, -Option.map_eq_some_iff]; rfl) ?_
    | refine l_op rfl (by simp (disch := first | omega | (simp; omega)) [go_sem, Try.ntmps37, -Option.map_eq_some_iff]; exact ⟨rfl, rfl⟩) ?_
    | refine w_end (by simp [go_sem, K37]; rfl) ?_
    | refine l_end (by kernel_rfl) (by simp [go_sem, K37]; rfl) ?_
    | refine w_yes' (by simpa [go_sem, *] using trivial) rfl (by simp (disch := first | omega | (simp; omega)) [go_sem, Try.ntmps37, -Option.map_eq_some_iff]; rfl) ?_
    | refine w_no' (by simpa [go_sem, *] using trivial) rfl rfl (by simp [go_sem, skipE]; rfl) ?_
    | refine w_op rfl (by simp (disch := first | omega | (simp; omega)) [go_sem, Try.ntmps37, -Option.map_eq_some_iff, *]; rfl) ?_
    | refine l_op' (by simpa [go_sem, *] using trivial) rfl (by simp (disch := first | omega | (simp; omega)) [go_sem, Try.ntmps37, -Option.map_eq_some_iff, *]; exact ⟨rfl, rfl⟩) ?_
    | refine l_no' (by simpa [go_sem, *] using trivial) rfl rfl (by simp [go_sem, skipE]; rfl) ?_
    | refine k_seq ?_
    | refine a_seq ?_
    | refine a_reg ?_
    | refine a_draw ?_
    | refine k_seq_exit ?_
    | refine k_seq_ret ?_
    | refine k_blk ?_
    | refine k_blk_exit ?_
    | refine k_blk_other rfl ?_
    | refine k_blk_ret ?_
    | refine k_lop_exit ?_
    | refine k_lop_ret ?_
    | refine a_skip ?_
    | refine a_ret ?_
    | refine a_exit ?_
    | refine a_block ?_
    | (refine a_cond (by simp [go_sem, *, -Bool.not_eq_eq_eq_not]; rfl) (fun hr => ?_) (fun hr => ?_) <;> (have hc := hr) <;> (try simp only [Bool.not_eq_true', Bool.not_eq_false', Bool.and_eq_true, Bool.and_eq_false_imp, Bool.or_eq_true, Bool.or_eq_false_iff, Bool.not_eq_true, Bool.not_eq_false, decide_eq_true_eq, decide_eq_false_iff_not, Int.not_lt, Int.not_le, ge_iff_le, gt_iff_lt, decide_true, decide_false, Bool.false_eq_true, reduceCtorEq, beq_iff_eq, beq_eq_false_iff_ne, ne_eq, bne_iff_ne, bne_eq_false_iff_eq, and_true, true_and, and_false, false_and] at hc) <;> (try (exfalso; omega)))
    | ((fail_if_success (refine w_same (by simpa [go_sem, *] using trivial) rfl ?_)); refine w_splv rfl (by simp [go_sem, *, -Bool.not_eq_eq_eq_not]; rfl) (fun hr => ?_) (fun hr => ?_) <;> (have hg := hr) <;> (try simp only [Bool.not_eq_true', Bool.not_eq_false', Bool.and_eq_true, Bool.and_eq_false_imp, Bool.or_eq_true, Bool.or_eq_false_iff, Bool.not_eq_true, Bool.not_eq_false, decide_eq_true_eq, decide_eq_false_iff_not, Int.not_lt, Int.not_le, ge_iff_le, gt_iff_lt, decide_true, decide_false, Bool.false_eq_true, reduceCtorEq, beq_iff_eq, beq_eq_false_iff_ne, ne_eq, bne_iff_ne, bne_eq_false_iff_eq, and_true, true_and, and_false, false_and] at hg) <;> (try (exfalso; omega)))
    | ((fail_if_success (refine l_same (by simpa [go_sem, *] using trivial) rfl ?_)); refine l_splv rfl (by simp [go_sem, *, -Bool.not_eq_eq_eq_not]; rfl) (fun hr => ?_) (fun hr => ?_) <;> (have hg := hr) <;> (try simp only [Bool.not_eq_true', Bool.not_eq_false', Bool.and_eq_true, Bool.and_eq_false_imp, Bool.or_eq_true, Bool.or_eq_false_iff, Bool.not_eq_true, Bool.not_eq_false, decide_eq_true_eq, decide_eq_false_iff_not, Int.not_lt, Int.not_le, ge_iff_le, gt_iff_lt, decide_true, decide_false, Bool.false_eq_true, reduceCtorEq, beq_iff_eq, beq_eq_false_iff_ne, ne_eq, bne_iff_ne, bne_eq_false_iff_eq, and_true, true_and, and_false, false_and] at hg) <;> (try (exfalso; omega))))
    · (refine k_lop (i + 1) ?_ ?_ (weak_of [] rfl (by decide) ?_ ?_ rfl); (· exact (by omega)); (· first | omega | (simp only; omega)); (· first | (simp [go_sem, AVm, CVm, lookS, Int.add_assoc, Int.mul_add, *]; done) | (simp [go_sem, AVm, CVm, lookS, Int.add_assoc, Int.mul_add, *] <;> (repeat' split) <;> first | omega | (simp_all; done) | (exfalso; omega) | (simp_all; omega))); (· first | (simp [go_sem, OBm, CVm, All2, lookS, Int.add_assoc, Int.mul_add, *]; done) | (simp [go_sem, OBm, CVm, All2, lookS, Int.add_assoc, Int.mul_add, *] <;> (repeat' split) <;> first | omega | (simp_all; done) | (exfalso; omega) | (simp_all; omega))))
    · have : i = n := by omega
      subst this
      refine k_ret (by simp [go_sem]; first | exact ⟨rfl, rfl⟩ | rfl) ?_ rfl
      rfl
def heldG_S : Eng.Spec := fun args av objs => ∃ (r z : Int) (n : Nat) (k : Int), n ≤ 1099511627776 ∧ 0 ≤ k ∧ k ≤ 1152921504606846976 ∧ args = [AV.agg [.sc (.int r), .sc (.int z), .imm 3 (eds (mkE n k))], AV.one (.sc (.int k))] ∧ av = AV.one (.sc (.int (k + 3 * n))) ∧ objs = []
def K23 : Nat → List Nat := fun i => ([[1, 2], [1], [1, 10], [4], [4]] : List (List Nat)).getD i []
theorem heldGraph_sat : Sat Try.prog 23 heldG_S := by
  refine sat_of tok okr mixed K23 Try.func23 rfl (rs := [.tmp 4]) rfl rfl ?_
  rintro args av objs ⟨r, z, n, k, hn, hk, hk2, rfl, rfl, rfl⟩
  refine ⟨by show 2 ≤ 12; decide, ?_⟩
  repeat' (first
    | refine w_op rfl (by simp (disch := first | omega | (simp; omega)) [go_sem, Try.ntmps23, -Option.map_eq_some_iff]; rfl) ?_
    | refine l_op rfl (by simp (disch := first | omega | (simp; omega)) [go_sem, Try.ntmps23, -Option.map_eq_some_iff]; exact ⟨rfl, rfl⟩) ?_
    | refine w_end (by simp [go_sem, K23]; rfl) ?_
    | refine l_end (by kernel_rfl) (by simp [go_sem, K23]; rfl) ?_
    | refine w_fn heldEdgeS_sat rfl Try.func37 rfl rfl (by first | rfl | (simpa [go_sem, *] using trivial)) rfl rfl (by simp [go_sem]; exact ⟨rfl, rfl⟩) (by exact ⟨n, k, hn, hk, hk2, rfl, rfl, rfl⟩) (by rfl) (by rfl) (by rfl) (by simp [go_sem]; rfl) ?_
    | refine l_fn heldEdgeS_sat rfl Try.func37 rfl rfl (by first | rfl | (simpa [go_sem, *] using trivial)) rfl rfl (by simp [go_sem]; exact ⟨rfl, rfl⟩) (by exact ⟨n, k, hn, hk, hk2, rfl, rfl, rfl⟩) (by rfl) (by rfl) (by rfl) (by simp [go_sem]; rfl) ?_
    | refine w_yes' (by simpa [go_sem, *] using trivial) rfl (by simp (disch := first | omega | (simp; omega)) [go_sem, Try.ntmps23, -Option.map_eq_some_iff]; rfl) ?_
    | refine w_no' (by simpa [go_sem, *] using trivial) rfl rfl (by simp [go_sem, skipE]; rfl) ?_
    | refine w_op rfl (by simp (disch := first | omega | (simp; omega)) [go_sem, Try.ntmps23, -Option.map_eq_some_iff, *]; rfl) ?_
    | refine l_op' (by simpa [go_sem, *] using trivial) rfl (by simp (disch := first | omega | (simp; omega)) [go_sem, Try.ntmps23, -Option.map_eq_some_iff, *]; exact ⟨rfl, rfl⟩) ?_
    | refine l_no' (by simpa [go_sem, *] using trivial) rfl rfl (by simp [go_sem, skipE]; rfl) ?_
    | refine k_seq ?_
    | refine a_seq ?_
    | refine a_reg ?_
    | refine a_draw ?_
    | refine k_seq_exit ?_
    | refine k_seq_ret ?_
    | refine k_blk ?_
    | refine k_blk_exit ?_
    | refine k_blk_other rfl ?_
    | refine k_blk_ret ?_
    | refine k_lop_exit ?_
    | refine k_lop_ret ?_
    | refine a_skip ?_
    | refine a_ret ?_
    | refine a_exit ?_
    | refine a_block ?_
    | (refine a_cond (by simp [go_sem, *, -Bool.not_eq_eq_eq_not]; rfl) (fun hr => ?_) (fun hr => ?_) <;> (have hc := hr) <;> (try simp only [Bool.not_eq_true', Bool.not_eq_false', Bool.and_eq_true, Bool.and_eq_false_imp, Bool.or_eq_true, Bool.or_eq_false_iff, Bool.not_eq_true, Bool.not_eq_false, decide_eq_true_eq, decide_eq_false_iff_not, Int.not_lt, Int.not_le, ge_iff_le, gt_iff_lt, decide_true, decide_false, Bool.false_eq_true, reduceCtorEq, beq_iff_eq, beq_eq_false_iff_ne, ne_eq, bne_iff_ne, bne_eq_false_iff_eq, and_true, true_and, and_false, false_and] at hc) <;> (try (exfalso; omega)))
    | ((fail_if_success (refine w_same (by simpa [go_sem, *] using trivial) rfl ?_)); refine w_splv rfl (by simp [go_sem, *, -Bool.not_eq_eq_eq_not]; rfl) (fun hr => ?_) (fun hr => ?_) <;> (have hg := hr) <;> (try simp only [Bool.not_eq_true', Bool.not_eq_false', Bool.and_eq_true, Bool.and_eq_false_imp, Bool.or_eq_true, Bool.or_eq_false_iff, Bool.not_eq_true, Bool.not_eq_false, decide_eq_true_eq, decide_eq_false_iff_not, Int.not_lt, Int.not_le, ge_iff_le, gt_iff_lt, decide_true, decide_false, Bool.false_eq_true, reduceCtorEq, beq_iff_eq, beq_eq_false_iff_ne, ne_eq, bne_iff_ne, bne_eq_false_iff_eq, and_true, true_and, and_false, false_and] at hg) <;> (try (exfalso; omega)))
    | ((fail_if_success (refine l_same (by simpa [go_sem, *] using trivial) rfl ?_)); refine l_splv rfl (by simp [go_sem, *, -Bool.not_eq_eq_eq_not]; rfl) (fun hr => ?_) (fun hr => ?_) <;> (have hg := hr) <;> (try simp only [Bool.not_eq_true', Bool.not_eq_false', Bool.and_eq_true, Bool.and_eq_false_imp, Bool.or_eq_true, Bool.or_eq_false_iff, Bool.not_eq_true, Bool.not_eq_false, decide_eq_true_eq, decide_eq_false_iff_not, Int.not_lt, Int.not_le, ge_iff_le, gt_iff_lt, decide_true, decide_false, Bool.false_eq_true, reduceCtorEq, beq_iff_eq, beq_eq_false_iff_ne, ne_eq, bne_iff_ne, bne_eq_false_iff_eq, and_true, true_and, and_false, false_and] at hg) <;> (try (exfalso; omega))))
  refine k_ret (by simp [go_sem]; first | exact ⟨rfl, rfl⟩ | rfl) ?_ rfl
  rfl
end Go.Proofs.Try

namespace Go.Proofs.Try
open Go Go.Eng
instance : ConM Try.prog 36 (specOfM markEdgeS_sat) := conM markEdgeS_sat Try.func36
instance : ConM Try.prog 21 (specOfM markGraph_sat) := conM markGraph_sat Try.func21
instance : Con Try.prog 37 (specOf heldEdgeS_sat) := con heldEdgeS_sat Try.func37
instance : Con Try.prog 23 (specOf heldGraph_sat) := con heldGraph_sat Try.func23
end Go.Proofs.Try
namespace Go.Proofs.Try
open Go Go.Eng
set_option linter.unnecessarySimpa false
set_option linter.unusedSimpArgs false
set_option maxHeartbeats 4000000
/-! ### The laws' helpers, told anew -/
theorem szGraph_y : Sat Try.prog 15 fun args av objs => ∃ (r z : Int) (es : List Ed) (k : Int), ((es.length : Int) ≤ k ∧ k ≤ 1048576) ∧ args = [grA r z es, aI k] ∧ av = aI (k - es.length) ∧ objs = [] := by
  rintro args av objs ⟨r, z, es, k, h, rfl, rfl, rfl⟩
  exact szGraph_sat _ _ _ ⟨r, z, es, k, by omega, by omega, by omega, rfl, by rw [if_neg (by omega)], rfl⟩
theorem szGraph_n : Sat Try.prog 15 fun args av objs => ∃ (r z : Int) (es : List Ed) (k : Int), (k < es.length ∧ 0 ≤ k ∧ k ≤ 1048576 ∧ es.length ≤ 9223372036854775807) ∧ args = [grA r z es, aI k] ∧ av = aI (-1) ∧ objs = [] := by
  rintro args av objs ⟨r, z, es, k, h, rfl, rfl, rfl⟩
  exact szGraph_sat _ _ _ ⟨r, z, es, k, by omega, by omega, by omega, rfl, by rw [if_pos (by omega)], rfl⟩
/-! ### Marks on ints -/
def mkI : Nat → Int → List Int
  | 0, _ => []
  | n + 1, k => mkI n k ++ [k + n]
theorem mkI_len (n : Nat) (k : Int) : (mkI n k).length = n := by induction n with | zero => rfl | succ n ih => simp [mkI, ih]
theorem mkI_set {l : List Int} {i : Nat} (k : Int) (h : i < l.length) : (mkI i k ++ l.drop i).set i (k + i) = mkI (i + 1) k ++ l.drop (i + 1) := by
  rw [List.set_append_right _ _ (by rw [mkI_len]; exact Nat.le_refl _), mkI_len, Nat.sub_self, List.drop_eq_getElem_cons h, List.set_cons_zero]
  simp [mkI]
theorem mkI_ix {n i : Nat} {k : Int} (h : i < n) : ix (mkI n k) i = k + i := by
  induction n with
  | zero => omega
  | succ n ih =>
    unfold ix mkI
    by_cases hi : i < n
    · have := ih hi
      unfold ix at this
      rw [List.getD_eq_getElem?_getD, List.getElem?_append_left (by rw [mkI_len]; exact hi), ← List.getD_eq_getElem?_getD, this]
    · have : i = n := by omega
      subst this
      rw [List.getD_eq_getElem?_getD, List.getElem?_append_right (by rw [mkI_len]; exact Nat.le_refl _), mkI_len]
      simp
attribute [go_sem] mkI_len mkI_ix
attribute [simp] mkI_len
def K_markIntS_sat : Nat → List Nat := fun i => ([[0, 1], [0, 1, 5], [0, 1, 5, 9], [0, 1, 5], [0, 1, 5], [0, 1, 5], [4]] : List (List Nat)).getD i []
attribute [go_sem] K_markIntS_sat
def markIntS_sat_S : SpecM := fun args o x o' => ∃ (e : Nat) (l : List Int) (k : Int), (l.length ≤ 1099511627776 ∧ 0 ≤ k ∧ k ≤ 1152921504606846976) ∧ args = [aR 0, aI k] ∧ o = .flat e 1 (ints l) ∧ x = .int (k + l.length) ∧ o' = .flat e 1 (ints (mkI l.length k))
theorem markIntS_sat : SatM Try.prog 28 markIntS_sat_S := by
  refine satM_of tok okr mixed K_markIntS_sat Try.func28 rfl (r := .tmp 4) rfl Try.ntmps28 ?_
  rintro args o x o' ⟨e, l, k, hpre, rfl, rfl, rfl, rfl⟩
  refine ⟨by show 2 ≤ 19; decide, rfl, fun S W pv => ?_⟩
  repeat' (first
    | (refine ya ?_; first | refine ye ?_)
    | refine yz ?_
    | refine k_seq ?_
    | refine a_seq ?_
    | refine a_reg ?_
    | refine k_seq_exit ?_
    | refine k_blk ?_
    | refine k_blk_exit ?_
    | refine k_blk_other rfl ?_
    | refine k_blk_ret ?_
    | refine a_exit ?_
    | refine a_block ?_
    | refine k_seq_ret ?_
    | refine a_skip ?_
    | refine a_ret ?_
    | refine k_lop_exit ?_
    | refine k_lop_ret ?_
    | (refine z_cond (h1 := ?_) (h2 := ?_) <;> intro hc hr <;> (try first | contradiction | (exfalso; omega))))
  refine z_loop (fun i : Nat => [(1, aI (k + i)), (5, aI i)]) (fun i : Nat => [.obj 0 (.flat e 1 (ints (mkI i k ++ l.drop i)))]) (fun i : Nat => i ≤ l.length) (fun i : Nat => l.length - i) (0) (h0 := ?_) (henv := ?_) (hobj := ?_) (h := ?_)
  · omega
  · simp [go_sem, AVm, CVm, lookS, mkI]
  · simp [go_sem, OBm, CVm, lookS, All2, mkI]
  intro i hi
  have hlen : (mkI i k ++ l.drop i).length = l.length := by simp; omega
  rcases Nat.lt_or_ge i l.length with hlt | hge
  · have hs := mkI_set k hlt
    generalize hL : mkI i k ++ l.drop i = L at hlen hs ⊢
    repeat' (first
    | (refine ya ?_; first | refine ye ?_)
    | refine yz ?_
    | refine k_seq ?_
    | refine a_seq ?_
    | refine a_reg ?_
    | refine k_seq_exit ?_
    | refine k_blk ?_
    | refine k_blk_exit ?_
    | refine k_blk_other rfl ?_
    | refine k_blk_ret ?_
    | refine a_exit ?_
    | refine a_block ?_
    | refine k_seq_ret ?_
    | refine a_skip ?_
    | refine a_ret ?_
    | refine k_lop_exit ?_
    | refine k_lop_ret ?_
    | (refine z_cond (h1 := ?_) (h2 := ?_) <;> intro hc hr <;> (try first | contradiction | (exfalso; omega))))
    (refine z_lop (i + 1) (hj := ?_) (hmu := ?_) (henv := ?_) (hobj := ?_); (· omega); (· first | omega | (simp only; omega)); (· first | (simp [go_sem, AVm, CVm, lookS, hs, Int.add_assoc, *]; done) | (simp [go_sem, AVm, CVm, lookS, hs, Int.add_assoc, *] <;> (repeat' split) <;> first | omega | (simp_all; done) | (exfalso; omega) | (simp_all; omega))); (· first | (simp [go_sem, OBm, CVm, All2, lookS, hs, Int.add_assoc, *]; done) | (simp [go_sem, OBm, CVm, All2, lookS, hs, Int.add_assoc, *] <;> (repeat' split) <;> first | omega | (simp_all; done) | (exfalso; omega) | (simp_all; omega))))
  · have hii : i = l.length := by omega
    subst hii
    have hL : mkI l.length k ++ l.drop l.length = mkI l.length k := by simp
    rw [hL]
    repeat' (first
    | (refine ya ?_; first | refine ye ?_)
    | refine yz ?_
    | refine k_seq ?_
    | refine a_seq ?_
    | refine a_reg ?_
    | refine k_seq_exit ?_
    | refine k_blk ?_
    | refine k_blk_exit ?_
    | refine k_blk_other rfl ?_
    | refine k_blk_ret ?_
    | refine a_exit ?_
    | refine a_block ?_
    | refine k_seq_ret ?_
    | refine a_skip ?_
    | refine a_ret ?_
    | refine k_lop_exit ?_
    | refine k_lop_ret ?_
    | (refine z_cond (h1 := ?_) (h2 := ?_) <;> intro hc hr <;> (try first | contradiction | (exfalso; omega))))
    exact ⟨rfl, rfl, rfl, rfl⟩
instance : ConM Try.prog 28 markIntS_sat_S := conM markIntS_sat Try.func28
def K_heldIntS_sat : Nat → List Nat := fun i => ([[0, 1], [0, 1, 5], [0, 1, 5, 9], [0, 1, 5], [0, 1, 5, 17], [4], [0, 1, 5], [4]] : List (List Nat)).getD i []
attribute [go_sem] K_heldIntS_sat
def heldIntS_sat_S : Eng.Spec := fun args av objs => ∃ (n : Nat) (k : Int), (n ≤ 1099511627776 ∧ 0 ≤ k ∧ k ≤ 1152921504606846976) ∧ args = [aL (mkI n k), aI k] ∧ av = aI (k + n) ∧ objs = []
theorem heldIntS_sat : Sat Try.prog 29 heldIntS_sat_S := by
  refine sat_of tok okr mixed K_heldIntS_sat Try.func29 rfl (rs := [.tmp 4]) rfl Try.ntmps29 ?_
  rintro args av objs ⟨n, k, hpre, rfl, rfl, rfl⟩
  refine ⟨by show 2 ≤ 21; decide, ?_⟩
  repeat' (first
    | (refine ya ?_; first | refine ye ?_)
    | refine yz ?_
    | refine k_seq ?_
    | refine a_seq ?_
    | refine a_reg ?_
    | refine k_seq_exit ?_
    | refine k_blk ?_
    | refine k_blk_exit ?_
    | refine k_blk_other rfl ?_
    | refine k_blk_ret ?_
    | refine a_exit ?_
    | refine a_block ?_
    | refine k_seq_ret ?_
    | refine a_skip ?_
    | refine a_ret ?_
    | refine k_lop_exit ?_
    | refine k_lop_ret ?_
    | (refine z_cond (h1 := ?_) (h2 := ?_) <;> intro hc hr <;> (try first | contradiction | (exfalso; omega))))
  refine z_loop (fun i : Nat => [(1, aI (k + i)), (5, aI i)]) (fun i : Nat => []) (fun i : Nat => i ≤ n) (fun i : Nat => n - i) (0) (h0 := ?_) (henv := ?_) (hobj := ?_) (h := ?_)
  · omega
  · simp [go_sem, AVm, CVm, lookS]
  · simp [go_sem, OBm, CVm, lookS, All2]
  intro i hi
  repeat' (first
    | (refine ya ?_; first | refine ye ?_)
    | refine yz ?_
    | refine k_seq ?_
    | refine a_seq ?_
    | refine a_reg ?_
    | refine k_seq_exit ?_
    | refine k_blk ?_
    | refine k_blk_exit ?_
    | refine k_blk_other rfl ?_
    | refine k_blk_ret ?_
    | refine a_exit ?_
    | refine a_block ?_
    | refine k_seq_ret ?_
    | refine a_skip ?_
    | refine a_ret ?_
    | refine k_lop_exit ?_
    | refine k_lop_ret ?_
    | (refine z_cond (h1 := ?_) (h2 := ?_) <;> intro hc hr <;> (try first | contradiction | (exfalso; omega))))
  · (refine z_lop (i + 1) (hj := ?_) (hmu := ?_) (henv := ?_) (hobj := ?_); (· omega); (· first | omega | (simp only; omega)); (· first | (simp [go_sem, AVm, CVm, lookS, Int.add_assoc, *]; done) | (simp [go_sem, AVm, CVm, lookS, Int.add_assoc, *] <;> (repeat' split) <;> first | omega | (simp_all; done) | (exfalso; omega) | (simp_all; omega))); (· first | (simp [go_sem, OBm, CVm, All2, lookS, Int.add_assoc, *]; done) | (simp [go_sem, OBm, CVm, All2, lookS, Int.add_assoc, *] <;> (repeat' split) <;> first | omega | (simp_all; done) | (exfalso; omega) | (simp_all; omega))))
  · have : i = n := by omega
    subst this
    all_goals first | (refine z_ret (hv := ?_) (ho := ?_) <;> first | rfl | (simp [go_sem, *]; done) | (simp_all; done) | (simp_all; omega)) | skip
instance : Con Try.prog 29 heldIntS_sat_S := con heldIntS_sat Try.func29
end Go.Proofs.Try

namespace Go.Proofs.Try
open Go Go.Eng
instance : Con Try.prog 15 (specOf szGraph_y) := con szGraph_y Try.func15
instance (priority := 2000) : Con Try.prog 15 (orS (specOf szGraph_y) (specOf szGraph_n)) := con2 szGraph_y szGraph_n Try.func15
end Go.Proofs.Try
namespace Go.Proofs.Try
open Go Go.Eng
set_option linter.unnecessarySimpa false
set_option linter.unusedSimpArgs false
set_option maxHeartbeats 4000000

abbrev Fd := Int × Int
def fds (l : List Fd) : List El := l.map fun e => [.int e.1, .int e.2]
def fd (l : List Fd) (i : Nat) : Fd := l.getD i (0, 0)
theorem fdsLen (l : List Fd) : (fds l).length = l.length := by simp [fds]
theorem fdsAt {l : List Fd} {i : Nat} (h : i < l.length) : (fds l)[i]? = some [.int (fd l i).1, .int (fd l i).2] := by
  simp [fds, fd, h]
theorem fdsApp (l : List Fd) (a b : Int) : fds l ++ [[.int a, .int b]] = fds (l ++ [(a, b)]) := by simp [fds]
theorem fdsNil : fds [] = [] := rfl
attribute [go_sem] fdsLen fdsAt fdsApp fdsNil
theorem edsDrop (l : List Ed) (n : Nat) : (eds l).drop n = eds (l.drop n) := by simp [eds, List.map_drop]
theorem edsTake (l : List Ed) (n : Nat) : (eds l).take n = eds (l.take n) := by simp [eds, List.map_take]
theorem edDrop (l : List Ed) (n j : Nat) : ed (l.drop n) j = ed l (n + j) := by simp [ed]
attribute [go_sem] edsDrop edsTake edDrop

def mnI (a b : Int) : Int := if b < a then b else a
def mxI (a b : Int) : Int := if a < b then b else a
def pairF (a b : Ed) : List Fd :=
  if a.2.1 = b.2.1 then (if a.1 = b.1 then [(mnI a.2.2 b.2.2, mxI a.2.2 b.2.2)] else []) ++ (if a.2.2 = b.2.2 then [(mnI a.1 b.1, mxI a.1 b.1)] else []) else []
def innerF (es : List Ed) (i : Nat) : Nat → List Fd
  | 0 => []
  | n + 1 => innerF es i n ++ pairF (ed es i) (ed es (i + 1 + n))
def outerF (es : List Ed) : Nat → List Fd
  | 0 => []
  | n + 1 => outerF es n ++ innerF es n (es.length - (n + 1))
def foldsOf (es : List Ed) : List Fd := outerF es es.length
theorem pairF_len (a b : Ed) : (pairF a b).length ≤ 2 := by
  unfold pairF
  split
  · split <;> split <;> simp
  · simp
theorem innerF_len (es : List Ed) (i n : Nat) : (innerF es i n).length ≤ 2 * n := by
  induction n with
  | zero => simp [innerF]
  | succ n ih =>
    have := pairF_len (ed es i) (ed es (i + 1 + n))
    simp only [innerF, List.length_append]; omega
theorem outerF_len (es : List Ed) (n : Nat) : (outerF es n).length ≤ n * (2 * es.length) := by
  induction n with
  | zero => simp [outerF]
  | succ n ih =>
    have := innerF_len es n (es.length - (n + 1))
    simp only [outerF, List.length_append, Nat.add_mul]; omega
theorem outerF_len2 (es : List Ed) (n : Nat) (h : n ≤ es.length) : (outerF es n).length + (es.length - n) * (es.length - n) + n ≤ es.length * es.length := by
  induction n with
  | zero => simp [outerF]
  | succ n ih =>
    have h1 := ih (by omega)
    have h2 := innerF_len es n (es.length - (n + 1))
    obtain ⟨m, hm⟩ : ∃ m, es.length = n + 1 + m := ⟨es.length - (n + 1), by omega⟩
    have e1 : es.length - (n + 1) = m := by omega
    have e2 : es.length - n = m + 1 := by omega
    rw [e1] at h2 ⊢
    rw [e2] at h1
    simp only [outerF, List.length_append, e1]
    have e3 : (m + 1) * (m + 1) = m * m + 2 * m + 1 := by simp only [Nat.add_mul, Nat.mul_add]; omega
    rw [e3] at h1
    omega
theorem outerF_bound {es : List Ed} {n : Nat} (h : es.length ≤ 1048576) (hn : n < es.length) : (outerF es n).length + 2 * (es.length - (n + 1)) + 1 ≤ 1099511627776 := by
  have h1 := outerF_len2 es n (by omega)
  obtain ⟨m, hm⟩ : ∃ m, es.length = n + 1 + m := ⟨es.length - (n + 1), by omega⟩
  have e1 : es.length - (n + 1) = m := by omega
  have e2 : es.length - n = m + 1 := by omega
  rw [e2] at h1
  rw [e1]
  have e3 : (m + 1) * (m + 1) = m * m + 2 * m + 1 := by simp only [Nat.add_mul, Nat.mul_add]; omega
  rw [e3] at h1
  have h2 : es.length * es.length ≤ 1048576 * 1048576 := Nat.mul_le_mul h h
  omega
theorem foldsOf_lenG (es : List Ed) : (foldsOf es).length ≤ es.length * es.length := by
  have := outerF_len2 es es.length (Nat.le_refl _)
  unfold foldsOf
  omega
def folds_S : Eng.Spec := fun args av objs => ∃ (r z : Int) (es : List Ed), es.length ≤ 1048576 ∧ args = [grA r z es] ∧ av = AV.one (.ref 0) ∧ objs = [.flat 57 2 (fds (foldsOf es))]
def K115 : Nat → List Nat := fun i => ([[1], [1, 3], [1, 3, 10, 11, 12], [1, 3, 10, 11, 12, 13], [1, 3, 4, 5, 10, 11, 12], [1, 3, 5, 10, 11, 12, 21, 22, 23], [1, 3, 5, 10, 11, 12, 21, 22, 23, 24], [1, 3, 5, 7, 10, 11, 12, 21, 22, 23], [1, 3, 5, 7, 10, 11, 12, 21, 22, 23, 31], [1, 3, 5, 7, 10, 11, 12, 21, 22, 23, 36], [1, 3, 5, 7, 10, 11, 12, 21, 22, 23], [1, 3, 5, 7, 10, 11, 12, 21, 22, 23, 55], [1, 3, 5, 10, 11, 12, 21, 22, 23], [1, 3, 5, 10, 11, 12, 21, 22, 23], [1, 3, 10, 11, 12], [2]] : List (List Nat)).getD i []
theorem folds_sat : Sat Try.prog 115 folds_S := by
  refine sat_of tok okr mixed K115 Try.func115 rfl (rs := [.tmp 2]) rfl rfl ?_
  rintro args av objs ⟨r, z, es, hl, rfl, rfl, rfl⟩
  refine ⟨by show 1 ≤ 73; decide, ?_⟩
  repeat' (first
    | refine w_op rfl (by simp (disch := first | omega | (simp; omega)) [go_sem, grA, Try.ntmps115, -Option.map_eq_some_iff]; rfl) ?_
    | refine l_op rfl (by simp (disch := first | omega | (simp; omega)) [go_sem, grA, Try.ntmps115, -Option.map_eq_some_iff]; exact ⟨rfl, rfl⟩) ?_
    | refine w_end (by simp [go_sem, K115]; rfl) ?_
    | refine l_end (by kernel_rfl) (by simp [go_sem, K115]; rfl) ?_
    | refine w_yes' (by simpa [go_sem, *] using trivial) rfl (by simp (disch := first | omega | (simp; omega)) [go_sem, grA, Try.ntmps115, -Option.map_eq_some_iff]; rfl) ?_
    | refine w_no' (by simpa [go_sem, *] using trivial) rfl rfl (by simp [go_sem, skipE]; rfl) ?_
    | refine w_op rfl (by simp (disch := first | omega | (simp; omega)) [go_sem, grA, Try.ntmps115, -Option.map_eq_some_iff, *]; rfl) ?_
    | refine l_op' (by simpa [go_sem, *] using trivial) rfl (by simp (disch := first | omega | (simp; omega)) [go_sem, grA, Try.ntmps115, -Option.map_eq_some_iff, *]; exact ⟨rfl, rfl⟩) ?_
    | refine l_no' (by simpa [go_sem, *] using trivial) rfl rfl (by simp [go_sem, skipE]; rfl) ?_
    | refine k_seq ?_
    | refine a_seq ?_
    | refine a_reg ?_
    | refine a_draw ?_
    | refine k_seq_exit ?_
    | refine k_seq_ret ?_
    | refine k_blk ?_
    | refine k_blk_exit ?_
    | refine k_blk_other rfl ?_
    | refine k_blk_ret ?_
    | refine k_lop_exit ?_
    | refine k_lop_ret ?_
    | refine a_skip ?_
    | refine a_ret ?_
    | refine a_exit ?_
    | refine a_block ?_
    | (refine a_cond (by simp [go_sem, *, -Bool.not_eq_eq_eq_not]; rfl) (fun hr => ?_) (fun hr => ?_) <;> (have hc := hr) <;> (try simp only [Bool.not_eq_true', Bool.not_eq_false', Bool.and_eq_true, Bool.and_eq_false_imp, Bool.or_eq_true, Bool.or_eq_false_iff, Bool.not_eq_true, Bool.not_eq_false, decide_eq_true_eq, decide_eq_false_iff_not, Int.not_lt, Int.not_le, ge_iff_le, gt_iff_lt, decide_true, decide_false, Bool.false_eq_true, reduceCtorEq, beq_iff_eq, beq_eq_false_iff_ne, ne_eq, bne_iff_ne, bne_eq_false_iff_eq, and_true, true_and, and_false, false_and] at hc) <;> (try (exfalso; omega)))
    | ((fail_if_success (refine w_same (by simpa [go_sem, *] using trivial) rfl ?_)); refine w_splv rfl (by simp [go_sem, *, -Bool.not_eq_eq_eq_not]; rfl) (fun hr => ?_) (fun hr => ?_) <;> (have hg := hr) <;> (try simp only [Bool.not_eq_true', Bool.not_eq_false', Bool.and_eq_true, Bool.and_eq_false_imp, Bool.or_eq_true, Bool.or_eq_false_iff, Bool.not_eq_true, Bool.not_eq_false, decide_eq_true_eq, decide_eq_false_iff_not, Int.not_lt, Int.not_le, ge_iff_le, gt_iff_lt, decide_true, decide_false, Bool.false_eq_true, reduceCtorEq, beq_iff_eq, beq_eq_false_iff_ne, ne_eq, bne_iff_ne, bne_eq_false_iff_eq, and_true, true_and, and_false, false_and] at hg) <;> (try (exfalso; omega)))
    | ((fail_if_success (refine l_same (by simpa [go_sem, *] using trivial) rfl ?_)); refine l_splv rfl (by simp [go_sem, *, -Bool.not_eq_eq_eq_not]; rfl) (fun hr => ?_) (fun hr => ?_) <;> (have hg := hr) <;> (try simp only [Bool.not_eq_true', Bool.not_eq_false', Bool.and_eq_true, Bool.and_eq_false_imp, Bool.or_eq_true, Bool.or_eq_false_iff, Bool.not_eq_true, Bool.not_eq_false, decide_eq_true_eq, decide_eq_false_iff_not, Int.not_lt, Int.not_le, ge_iff_le, gt_iff_lt, decide_true, decide_false, Bool.false_eq_true, reduceCtorEq, beq_iff_eq, beq_eq_false_iff_ne, ne_eq, bne_iff_ne, bne_eq_false_iff_eq, and_true, true_and, and_false, false_and] at hg) <;> (try (exfalso; omega))))
  refine a_loop (fun i : Nat => ⟨73, [(1, AV.one (.ptr 1 1 0 0)), (3, AV.one (.ref 3)), (10, AV.one (.imm 3 (eds es))), (11, AV.one (.sc (.int es.length))), (12, AV.one (.sc (.int i)))], [(1, some (.box 28 [.sc (.int r), .sc (.int z), .imm 3 (eds es)])), (3, some (.flat 57 2 (fds (outerF es i))))], [1, 3]⟩) (fun i => i ≤ es.length) (fun i => es.length - i) 0 (by omega) ?_ ?_
  · exact weak_of [(1, .obj 8), (3, .obj 64)] rfl (by decide) (by simp [go_sem, AVm, CVm, lookS, outerF, fds]) (by simp [go_sem, OBm, CVm, lookS, All2, outerF, fds]) rfl
  intro i hi
  repeat' (first
    | refine w_op rfl (by simp (disch := first | omega | (simp; omega)) [go_sem, grA, edA, Try.ntmps115, -Option.map_eq_some_iff]; rfl) ?_
    | refine l_op rfl (by simp (disch := first | omega | (simp; omega)) [go_sem, grA, edA, Try.ntmps115, -Option.map_eq_some_iff]; exact ⟨rfl, rfl⟩) ?_
    | refine w_end (by simp [go_sem, K115]; rfl) ?_
    | refine l_end (by kernel_rfl) (by simp [go_sem, K115]; rfl) ?_
    | refine w_yes' (by simpa [go_sem, *] using trivial) rfl (by simp (disch := first | omega | (simp; omega)) [go_sem, grA, edA, Try.ntmps115, -Option.map_eq_some_iff]; rfl) ?_
    | refine w_no' (by simpa [go_sem, *] using trivial) rfl rfl (by simp [go_sem, skipE]; rfl) ?_
    | refine w_op rfl (by simp (disch := first | omega | (simp; omega)) [go_sem, grA, edA, Try.ntmps115, -Option.map_eq_some_iff, *]; rfl) ?_
    | refine l_op' (by simpa [go_sem, *] using trivial) rfl (by simp (disch := first | omega | (simp; omega)) [go_sem, grA, edA, Try.ntmps115, -Option.map_eq_some_iff, *]; exact ⟨rfl, rfl⟩) ?_
    | refine l_no' (by simpa [go_sem, *] using trivial) rfl rfl (by simp [go_sem, skipE]; rfl) ?_
    | refine k_seq ?_
    | refine a_seq ?_
    | refine a_reg ?_
    | refine a_draw ?_
    | refine k_seq_exit ?_
    | refine k_seq_ret ?_
    | refine k_blk ?_
    | refine k_blk_exit ?_
    | refine k_blk_other rfl ?_
    | refine k_blk_ret ?_
    | refine k_lop_exit ?_
    | refine k_lop_ret ?_
    | refine a_skip ?_
    | refine a_ret ?_
    | refine a_exit ?_
    | refine a_block ?_
    | (refine a_cond (by simp [go_sem, *, -Bool.not_eq_eq_eq_not]; rfl) (fun hr => ?_) (fun hr => ?_) <;> (have hc := hr) <;> (try simp only [Bool.not_eq_true', Bool.not_eq_false', Bool.and_eq_true, Bool.and_eq_false_imp, Bool.or_eq_true, Bool.or_eq_false_iff, Bool.not_eq_true, Bool.not_eq_false, decide_eq_true_eq, decide_eq_false_iff_not, Int.not_lt, Int.not_le, ge_iff_le, gt_iff_lt, decide_true, decide_false, Bool.false_eq_true, reduceCtorEq, beq_iff_eq, beq_eq_false_iff_ne, ne_eq, bne_iff_ne, bne_eq_false_iff_eq, and_true, true_and, and_false, false_and] at hc) <;> (try (exfalso; omega)))
    | ((fail_if_success (refine w_same (by simpa [go_sem, *] using trivial) rfl ?_)); refine w_splv rfl (by simp [go_sem, *, -Bool.not_eq_eq_eq_not]; rfl) (fun hr => ?_) (fun hr => ?_) <;> (have hg := hr) <;> (try simp only [Bool.not_eq_true', Bool.not_eq_false', Bool.and_eq_true, Bool.and_eq_false_imp, Bool.or_eq_true, Bool.or_eq_false_iff, Bool.not_eq_true, Bool.not_eq_false, decide_eq_true_eq, decide_eq_false_iff_not, Int.not_lt, Int.not_le, ge_iff_le, gt_iff_lt, decide_true, decide_false, Bool.false_eq_true, reduceCtorEq, beq_iff_eq, beq_eq_false_iff_ne, ne_eq, bne_iff_ne, bne_eq_false_iff_eq, and_true, true_and, and_false, false_and] at hg) <;> (try (exfalso; omega)))
    | ((fail_if_success (refine l_same (by simpa [go_sem, *] using trivial) rfl ?_)); refine l_splv rfl (by simp [go_sem, *, -Bool.not_eq_eq_eq_not]; rfl) (fun hr => ?_) (fun hr => ?_) <;> (have hg := hr) <;> (try simp only [Bool.not_eq_true', Bool.not_eq_false', Bool.and_eq_true, Bool.and_eq_false_imp, Bool.or_eq_true, Bool.or_eq_false_iff, Bool.not_eq_true, Bool.not_eq_false, decide_eq_true_eq, decide_eq_false_iff_not, Int.not_lt, Int.not_le, ge_iff_le, gt_iff_lt, decide_true, decide_false, Bool.false_eq_true, reduceCtorEq, beq_iff_eq, beq_eq_false_iff_ne, ne_eq, bne_iff_ne, bne_eq_false_iff_eq, and_true, true_and, and_false, false_and] at hg) <;> (try (exfalso; omega))))
  · refine a_loop (fun j : Nat => ⟨73, [(1, AV.one (.ptr 1 1 0 0)), (3, AV.one (.ref 3)), (5, AV.one (.ptr 5 1 0 0)), (10, AV.one (.imm 3 (eds es))), (11, AV.one (.sc (.int es.length))), (12, AV.one (.sc (.int i))), (21, AV.one (.imm 3 (eds (es.drop (i + 1))))), (22, AV.one (.sc (.int ((es.drop (i + 1)).length : Nat)))), (23, AV.one (.sc (.int j)))], [(1, some (.box 28 [.sc (.int r), .sc (.int z), .imm 3 (eds es)])), (3, some (.flat 57 2 (fds (outerF es i ++ innerF es i j)))), (5, some (.box 46 [.sc (.int (ed es i).1), .sc (.int (ed es i).2.1), .sc (.int (ed es i).2.2)]))], [1, 3, 5]⟩) (fun j => j ≤ es.length - (i + 1)) (fun j => es.length - (i + 1) - j) 0 (by omega) ?_ ?_
    · exact weak_of [(1, .obj 1), (3, .obj 3), (5, .obj 40)] rfl (by decide) (by simp [go_sem, AVm, CVm, lookS, innerF, List.take_of_length_le (show (es.drop (i + 1)).length ≤ es.length - (i + 1) by simp)]) (by simp [go_sem, OBm, CVm, lookS, All2, innerF, List.take_of_length_le (show (es.drop (i + 1)).length ≤ es.length - (i + 1) by simp)]) rfl
    intro j hj
    have hb := outerF_bound hl hc
    have hb2 := innerF_len es i j
    have hdl : (es.drop (i + 1)).length = es.length - (i + 1) := by simp
    repeat' (first
    | refine w_op rfl (by simp (disch := first | omega | (simp; omega)) [go_sem, hdl, Try.ntmps115, -Option.map_eq_some_iff]; rfl) ?_
    | refine l_op rfl (by simp (disch := first | omega | (simp; omega)) [go_sem, hdl, Try.ntmps115, -Option.map_eq_some_iff]; exact ⟨rfl, rfl⟩) ?_
    | refine w_end (by simp [go_sem, K115]; rfl) ?_
    | refine l_end (by kernel_rfl) (by simp [go_sem, K115]; rfl) ?_
    | refine w_yes' (by simpa [go_sem, *] using trivial) rfl (by simp (disch := first | omega | (simp; omega)) [go_sem, hdl, Try.ntmps115, -Option.map_eq_some_iff]; rfl) ?_
    | refine w_no' (by simpa [go_sem, *] using trivial) rfl rfl (by simp [go_sem, skipE]; rfl) ?_
    | refine w_op rfl (by simp (disch := first | omega | (simp; omega)) [go_sem, hdl, Try.ntmps115, -Option.map_eq_some_iff, *]; rfl) ?_
    | refine l_op' (by simpa [go_sem, *] using trivial) rfl (by simp (disch := first | omega | (simp; omega)) [go_sem, hdl, Try.ntmps115, -Option.map_eq_some_iff, *]; exact ⟨rfl, rfl⟩) ?_
    | refine l_no' (by simpa [go_sem, *] using trivial) rfl rfl (by simp [go_sem, skipE]; rfl) ?_
    | refine k_seq ?_
    | refine a_seq ?_
    | refine a_reg ?_
    | refine a_draw ?_
    | refine k_seq_exit ?_
    | refine k_seq_ret ?_
    | refine k_blk ?_
    | refine k_blk_exit ?_
    | refine k_blk_other rfl ?_
    | refine k_blk_ret ?_
    | refine k_lop_exit ?_
    | refine k_lop_ret ?_
    | refine a_skip ?_
    | refine a_ret ?_
    | refine a_exit ?_
    | refine a_block ?_
    | (refine a_cond (by simp [go_sem, *, -Bool.not_eq_eq_eq_not]; rfl) (fun hr => ?_) (fun hr => ?_) <;> (have hc := hr) <;> (try simp only [Bool.not_eq_true', Bool.not_eq_false', Bool.and_eq_true, Bool.and_eq_false_imp, Bool.or_eq_true, Bool.or_eq_false_iff, Bool.not_eq_true, Bool.not_eq_false, decide_eq_true_eq, decide_eq_false_iff_not, Int.not_lt, Int.not_le, ge_iff_le, gt_iff_lt, decide_true, decide_false, Bool.false_eq_true, reduceCtorEq, beq_iff_eq, beq_eq_false_iff_ne, ne_eq, bne_iff_ne, bne_eq_false_iff_eq, and_true, true_and, and_false, false_and] at hc) <;> (try (exfalso; omega)))
    | ((fail_if_success (refine w_same (by simpa [go_sem, *] using trivial) rfl ?_)); refine w_splv rfl (by simp [go_sem, *, -Bool.not_eq_eq_eq_not]; rfl) (fun hr => ?_) (fun hr => ?_) <;> (have hg := hr) <;> (try simp only [Bool.not_eq_true', Bool.not_eq_false', Bool.and_eq_true, Bool.and_eq_false_imp, Bool.or_eq_true, Bool.or_eq_false_iff, Bool.not_eq_true, Bool.not_eq_false, decide_eq_true_eq, decide_eq_false_iff_not, Int.not_lt, Int.not_le, ge_iff_le, gt_iff_lt, decide_true, decide_false, Bool.false_eq_true, reduceCtorEq, beq_iff_eq, beq_eq_false_iff_ne, ne_eq, bne_iff_ne, bne_eq_false_iff_eq, and_true, true_and, and_false, false_and] at hg) <;> (try (exfalso; omega)))
    | ((fail_if_success (refine l_same (by simpa [go_sem, *] using trivial) rfl ?_)); refine l_splv rfl (by simp [go_sem, *, -Bool.not_eq_eq_eq_not]; rfl) (fun hr => ?_) (fun hr => ?_) <;> (have hg := hr) <;> (try simp only [Bool.not_eq_true', Bool.not_eq_false', Bool.and_eq_true, Bool.and_eq_false_imp, Bool.or_eq_true, Bool.or_eq_false_iff, Bool.not_eq_true, Bool.not_eq_false, decide_eq_true_eq, decide_eq_false_iff_not, Int.not_lt, Int.not_le, ge_iff_le, gt_iff_lt, decide_true, decide_false, Bool.false_eq_true, reduceCtorEq, beq_iff_eq, beq_eq_false_iff_ne, ne_eq, bne_iff_ne, bne_eq_false_iff_eq, and_true, true_and, and_false, false_and] at hg) <;> (try (exfalso; omega))))
    all_goals first
      | (refine k_lop (j + 1) ?_ ?_ (weak_of [(1, .obj 1), (3, .obj 3), (5, .obj 5)] rfl (by decide) ?_ ?_ rfl); (· exact (by omega)); (· first | omega | (simp only; omega)); (· first | (simp [go_sem, AVm, CVm, lookS, innerF, pairF, mnI, mxI, *]; done) | (simp [go_sem, AVm, CVm, lookS, innerF, pairF, mnI, mxI, *] <;> (repeat' split) <;> first | omega | (simp_all; done) | (exfalso; omega) | (simp_all; omega))); (· first | (simp [go_sem, OBm, CVm, All2, lookS, innerF, pairF, mnI, mxI, *]; done) | (simp [go_sem, OBm, CVm, All2, lookS, innerF, pairF, mnI, mxI, *] <;> (repeat' split) <;> first | omega | (simp_all; done) | (exfalso; omega) | (simp_all; omega))))
      | (refine k_lop (j + 1) ?_ ?_ (weak_of [(1, .obj 1), (3, .obj 400), (5, .obj 5)] rfl (by decide) ?_ ?_ rfl); (· exact (by omega)); (· first | omega | (simp only; omega)); (· first | (simp [go_sem, AVm, CVm, lookS, innerF, pairF, mnI, mxI, *]; done) | (simp [go_sem, AVm, CVm, lookS, innerF, pairF, mnI, mxI, *] <;> (repeat' split) <;> first | omega | (simp_all; done) | (exfalso; omega) | (simp_all; omega))); (· first | (simp [go_sem, OBm, CVm, All2, lookS, innerF, pairF, mnI, mxI, *]; done) | (simp [go_sem, OBm, CVm, All2, lookS, innerF, pairF, mnI, mxI, *] <;> (repeat' split) <;> first | omega | (simp_all; done) | (exfalso; omega) | (simp_all; omega))))
      | (refine k_lop (j + 1) ?_ ?_ (weak_of [(1, .obj 1), (3, .obj 552), (5, .obj 5)] rfl (by decide) ?_ ?_ rfl); (· exact (by omega)); (· first | omega | (simp only; omega)); (· first | (simp [go_sem, AVm, CVm, lookS, innerF, pairF, mnI, mxI, *]; done) | (simp [go_sem, AVm, CVm, lookS, innerF, pairF, mnI, mxI, *] <;> (repeat' split) <;> first | omega | (simp_all; done) | (exfalso; omega) | (simp_all; omega))); (· first | (simp [go_sem, OBm, CVm, All2, lookS, innerF, pairF, mnI, mxI, *]; done) | (simp [go_sem, OBm, CVm, All2, lookS, innerF, pairF, mnI, mxI, *] <;> (repeat' split) <;> first | omega | (simp_all; done) | (exfalso; omega) | (simp_all; omega))))
      | skip
    all_goals trace_state
    have hj' : j = es.length - (i + 1) := by omega
    subst hj'
    (refine k_lop (i + 1) ?_ ?_ (weak_of [(1, .obj 1), (3, .obj 3)] rfl (by decide) ?_ ?_ rfl); (· exact (by omega)); (· first | omega | (simp only; omega)); (· first | (simp [go_sem, AVm, CVm, lookS, outerF, *]; done) | (simp [go_sem, AVm, CVm, lookS, outerF, *] <;> (repeat' split) <;> first | omega | (simp_all; done) | (exfalso; omega) | (simp_all; omega))); (· first | (simp [go_sem, OBm, CVm, All2, lookS, outerF, *]; done) | (simp [go_sem, OBm, CVm, All2, lookS, outerF, *] <;> (repeat' split) <;> first | omega | (simp_all; done) | (exfalso; omega) | (simp_all; omega))))
  · have hii : i = es.length := by omega
    subst hii
    refine k_ret (by simp [go_sem]; first | exact ⟨rfl, rfl⟩ | rfl) ?_ rfl
    rfl
end Go.Proofs.Try

namespace Go.Proofs.Try
open Go Go.Eng
instance : Con Try.prog 115 (specOf folds_sat) := con folds_sat Try.func115
end Go.Proofs.Try
namespace Go.Proofs.Try
open Go Go.Eng
set_option linter.unnecessarySimpa false
set_option linter.unusedSimpArgs false
set_option maxHeartbeats 4000000
def K113 : Nat → List Nat := fun i => ([[1], [1, 3], [1, 3, 4], [1, 3, 4, 13], [1, 3, 4], [1, 3, 4, 5], [1, 3, 4, 5, 22], [1, 3, 4, 5], [1, 3, 4, 5, 6], [1, 3, 4, 5, 6, 7], [1, 3, 4, 5, 6, 7, 46], [1, 3, 4, 5, 6, 7], [1, 3, 4, 5, 6, 7, 72], [1, 3, 4, 5], [2]] : List (List Nat)).getD i []
theorem folds_sat2 : Sat Try.prog 113 folds_S := by
  refine sat_of tok okr mixed K113 Try.func113 rfl (rs := [.tmp 2]) rfl rfl ?_
  rintro args av objs ⟨r, z, es, hl, rfl, rfl, rfl⟩
  refine ⟨by show 1 ≤ 88; decide, ?_⟩
  repeat' (first
    | refine w_op rfl (by simp (disch := first | omega | (simp; omega)) [go_sem, grA, Try.ntmps113, -Option.map_eq_some_iff]; rfl) ?_
    | refine l_op rfl (by simp (disch := first | omega | (simp; omega)) [go_sem, grA, Try.ntmps113, -Option.map_eq_some_iff]; exact ⟨rfl, rfl⟩) ?_
    | refine w_end (by simp [go_sem, K113]; rfl) ?_
    | refine l_end (by kernel_rfl) (by simp [go_sem, K113]; rfl) ?_
    | refine w_yes' (by simpa [go_sem, *] using trivial) rfl (by simp (disch := first | omega | (simp; omega)) [go_sem, grA, Try.ntmps113, -Option.map_eq_some_iff]; rfl) ?_
    | refine w_no' (by simpa [go_sem, *] using trivial) rfl rfl (by simp [go_sem, skipE]; rfl) ?_
    | refine w_op rfl (by simp (disch := first | omega | (simp; omega)) [go_sem, grA, Try.ntmps113, -Option.map_eq_some_iff, *]; rfl) ?_
    | refine l_op' (by simpa [go_sem, *] using trivial) rfl (by simp (disch := first | omega | (simp; omega)) [go_sem, grA, Try.ntmps113, -Option.map_eq_some_iff, *]; exact ⟨rfl, rfl⟩) ?_
    | refine l_no' (by simpa [go_sem, *] using trivial) rfl rfl (by simp [go_sem, skipE]; rfl) ?_
    | refine k_seq ?_
    | refine a_seq ?_
    | refine a_reg ?_
    | refine a_draw ?_
    | refine k_seq_exit ?_
    | refine k_seq_ret ?_
    | refine k_blk ?_
    | refine k_blk_exit ?_
    | refine k_blk_other rfl ?_
    | refine k_blk_ret ?_
    | refine k_lop_exit ?_
    | refine k_lop_ret ?_
    | refine a_skip ?_
    | refine a_ret ?_
    | refine a_exit ?_
    | refine a_block ?_
    | (refine a_cond (by simp [go_sem, *, -Bool.not_eq_eq_eq_not]; rfl) (fun hr => ?_) (fun hr => ?_) <;> (have hc := hr) <;> (try simp only [Bool.not_eq_true', Bool.not_eq_false', Bool.and_eq_true, Bool.and_eq_false_imp, Bool.or_eq_true, Bool.or_eq_false_iff, Bool.not_eq_true, Bool.not_eq_false, decide_eq_true_eq, decide_eq_false_iff_not, Int.not_lt, Int.not_le, ge_iff_le, gt_iff_lt, decide_true, decide_false, Bool.false_eq_true, reduceCtorEq, beq_iff_eq, beq_eq_false_iff_ne, ne_eq, bne_iff_ne, bne_eq_false_iff_eq, and_true, true_and, and_false, false_and] at hc) <;> (try (exfalso; omega)))
    | ((fail_if_success (refine w_same (by simpa [go_sem, *] using trivial) rfl ?_)); refine w_splv rfl (by simp [go_sem, *, -Bool.not_eq_eq_eq_not]; rfl) (fun hr => ?_) (fun hr => ?_) <;> (have hg := hr) <;> (try simp only [Bool.not_eq_true', Bool.not_eq_false', Bool.and_eq_true, Bool.and_eq_false_imp, Bool.or_eq_true, Bool.or_eq_false_iff, Bool.not_eq_true, Bool.not_eq_false, decide_eq_true_eq, decide_eq_false_iff_not, Int.not_lt, Int.not_le, ge_iff_le, gt_iff_lt, decide_true, decide_false, Bool.false_eq_true, reduceCtorEq, beq_iff_eq, beq_eq_false_iff_ne, ne_eq, bne_iff_ne, bne_eq_false_iff_eq, and_true, true_and, and_false, false_and] at hg) <;> (try (exfalso; omega)))
    | ((fail_if_success (refine l_same (by simpa [go_sem, *] using trivial) rfl ?_)); refine l_splv rfl (by simp [go_sem, *, -Bool.not_eq_eq_eq_not]; rfl) (fun hr => ?_) (fun hr => ?_) <;> (have hg := hr) <;> (try simp only [Bool.not_eq_true', Bool.not_eq_false', Bool.and_eq_true, Bool.and_eq_false_imp, Bool.or_eq_true, Bool.or_eq_false_iff, Bool.not_eq_true, Bool.not_eq_false, decide_eq_true_eq, decide_eq_false_iff_not, Int.not_lt, Int.not_le, ge_iff_le, gt_iff_lt, decide_true, decide_false, Bool.false_eq_true, reduceCtorEq, beq_iff_eq, beq_eq_false_iff_ne, ne_eq, bne_iff_ne, bne_eq_false_iff_eq, and_true, true_and, and_false, false_and] at hg) <;> (try (exfalso; omega))))
  refine a_loop (fun i : Nat => ⟨88, [(1, AV.one (.ptr 1 1 0 0)), (3, AV.one (.ref 3)), (4, AV.one (.sc (.int i)))], [(1, some (.box 28 [.sc (.int r), .sc (.int z), .imm 3 (eds es)])), (3, some (.flat 57 2 (fds (outerF es i))))], [1, 3]⟩) (fun i => i ≤ es.length) (fun i => es.length - i) 0 (by omega) ?_ ?_
  · exact weak_of [(1, .obj 8), (3, .obj 64)] rfl (by decide) (by simp [go_sem, AVm, CVm, lookS, outerF, fds]) (by simp [go_sem, OBm, CVm, lookS, All2, outerF, fds]) rfl
  intro i hi
  repeat' (first
    | refine w_op rfl (by simp (disch := first | omega | (simp; omega)) [go_sem, grA, edA, Try.ntmps113, -Option.map_eq_some_iff]; rfl) ?_
    | refine l_op rfl (by simp (disch := first | omega | (simp; omega)) [go_sem, grA, edA, Try.ntmps113, -Option.map_eq_some_iff]; exact ⟨rfl, rfl⟩) ?_
    | refine w_end (by simp [go_sem, K113]; rfl) ?_
    | refine l_end (by kernel_rfl) (by simp [go_sem, K113]; rfl) ?_
    | refine w_yes' (by simpa [go_sem, *] using trivial) rfl (by simp (disch := first | omega | (simp; omega)) [go_sem, grA, edA, Try.ntmps113, -Option.map_eq_some_iff]; rfl) ?_
    | refine w_no' (by simpa [go_sem, *] using trivial) rfl rfl (by simp [go_sem, skipE]; rfl) ?_
    | refine w_op rfl (by simp (disch := first | omega | (simp; omega)) [go_sem, grA, edA, Try.ntmps113, -Option.map_eq_some_iff, *]; rfl) ?_
    | refine l_op' (by simpa [go_sem, *] using trivial) rfl (by simp (disch := first | omega | (simp; omega)) [go_sem, grA, edA, Try.ntmps113, -Option.map_eq_some_iff, *]; exact ⟨rfl, rfl⟩) ?_
    | refine l_no' (by simpa [go_sem, *] using trivial) rfl rfl (by simp [go_sem, skipE]; rfl) ?_
    | refine k_seq ?_
    | refine a_seq ?_
    | refine a_reg ?_
    | refine a_draw ?_
    | refine k_seq_exit ?_
    | refine k_seq_ret ?_
    | refine k_blk ?_
    | refine k_blk_exit ?_
    | refine k_blk_other rfl ?_
    | refine k_blk_ret ?_
    | refine k_lop_exit ?_
    | refine k_lop_ret ?_
    | refine a_skip ?_
    | refine a_ret ?_
    | refine a_exit ?_
    | refine a_block ?_
    | (refine a_cond (by simp [go_sem, *, -Bool.not_eq_eq_eq_not]; rfl) (fun hr => ?_) (fun hr => ?_) <;> (have hc := hr) <;> (try simp only [Bool.not_eq_true', Bool.not_eq_false', Bool.and_eq_true, Bool.and_eq_false_imp, Bool.or_eq_true, Bool.or_eq_false_iff, Bool.not_eq_true, Bool.not_eq_false, decide_eq_true_eq, decide_eq_false_iff_not, Int.not_lt, Int.not_le, ge_iff_le, gt_iff_lt, decide_true, decide_false, Bool.false_eq_true, reduceCtorEq, beq_iff_eq, beq_eq_false_iff_ne, ne_eq, bne_iff_ne, bne_eq_false_iff_eq, and_true, true_and, and_false, false_and] at hc) <;> (try (exfalso; omega)))
    | ((fail_if_success (refine w_same (by simpa [go_sem, *] using trivial) rfl ?_)); refine w_splv rfl (by simp [go_sem, *, -Bool.not_eq_eq_eq_not]; rfl) (fun hr => ?_) (fun hr => ?_) <;> (have hg := hr) <;> (try simp only [Bool.not_eq_true', Bool.not_eq_false', Bool.and_eq_true, Bool.and_eq_false_imp, Bool.or_eq_true, Bool.or_eq_false_iff, Bool.not_eq_true, Bool.not_eq_false, decide_eq_true_eq, decide_eq_false_iff_not, Int.not_lt, Int.not_le, ge_iff_le, gt_iff_lt, decide_true, decide_false, Bool.false_eq_true, reduceCtorEq, beq_iff_eq, beq_eq_false_iff_ne, ne_eq, bne_iff_ne, bne_eq_false_iff_eq, and_true, true_and, and_false, false_and] at hg) <;> (try (exfalso; omega)))
    | ((fail_if_success (refine l_same (by simpa [go_sem, *] using trivial) rfl ?_)); refine l_splv rfl (by simp [go_sem, *, -Bool.not_eq_eq_eq_not]; rfl) (fun hr => ?_) (fun hr => ?_) <;> (have hg := hr) <;> (try simp only [Bool.not_eq_true', Bool.not_eq_false', Bool.and_eq_true, Bool.and_eq_false_imp, Bool.or_eq_true, Bool.or_eq_false_iff, Bool.not_eq_true, Bool.not_eq_false, decide_eq_true_eq, decide_eq_false_iff_not, Int.not_lt, Int.not_le, ge_iff_le, gt_iff_lt, decide_true, decide_false, Bool.false_eq_true, reduceCtorEq, beq_iff_eq, beq_eq_false_iff_ne, ne_eq, bne_iff_ne, bne_eq_false_iff_eq, and_true, true_and, and_false, false_and] at hg) <;> (try (exfalso; omega))))
  · refine a_loop (fun j : Nat => ⟨88, [(1, AV.one (.ptr 1 1 0 0)), (3, AV.one (.ref 3)), (4, AV.one (.sc (.int i))), (5, AV.one (.sc (.int (i + 1 + j))))], [(1, some (.box 28 [.sc (.int r), .sc (.int z), .imm 3 (eds es)])), (3, some (.flat 57 2 (fds (outerF es i ++ innerF es i j))))], [1, 3]⟩) (fun j => j ≤ es.length - (i + 1)) (fun j => es.length - (i + 1) - j) 0 (by omega) ?_ ?_
    · exact weak_of [(1, .obj 1), (3, .obj 3)] rfl (by decide) (by simp [go_sem, AVm, CVm, lookS, innerF]) (by simp [go_sem, OBm, CVm, lookS, All2, innerF]) rfl
    intro j hj
    have hb := outerF_bound hl hc
    have hb2 := innerF_len es i j
    have e1 : ((i : Int) + 1 + j).toNat = i + 1 + j := by omega
    repeat' (first
    | refine w_op rfl (by simp (disch := first | omega | (simp; omega)) [go_sem, e1, Try.ntmps113, -Option.map_eq_some_iff]; rfl) ?_
    | refine l_op rfl (by simp (disch := first | omega | (simp; omega)) [go_sem, e1, Try.ntmps113, -Option.map_eq_some_iff]; exact ⟨rfl, rfl⟩) ?_
    | refine w_end (by simp [go_sem, K113]; rfl) ?_
    | refine l_end (by kernel_rfl) (by simp [go_sem, K113]; rfl) ?_
    | refine w_yes' (by simpa [go_sem, *] using trivial) rfl (by simp (disch := first | omega | (simp; omega)) [go_sem, e1, Try.ntmps113, -Option.map_eq_some_iff]; rfl) ?_
    | refine w_no' (by simpa [go_sem, *] using trivial) rfl rfl (by simp [go_sem, skipE]; rfl) ?_
    | refine w_op rfl (by simp (disch := first | omega | (simp; omega)) [go_sem, e1, Try.ntmps113, -Option.map_eq_some_iff, *]; rfl) ?_
    | refine l_op' (by simpa [go_sem, *] using trivial) rfl (by simp (disch := first | omega | (simp; omega)) [go_sem, e1, Try.ntmps113, -Option.map_eq_some_iff, *]; exact ⟨rfl, rfl⟩) ?_
    | refine l_no' (by simpa [go_sem, *] using trivial) rfl rfl (by simp [go_sem, skipE]; rfl) ?_
    | refine k_seq ?_
    | refine a_seq ?_
    | refine a_reg ?_
    | refine a_draw ?_
    | refine k_seq_exit ?_
    | refine k_seq_ret ?_
    | refine k_blk ?_
    | refine k_blk_exit ?_
    | refine k_blk_other rfl ?_
    | refine k_blk_ret ?_
    | refine k_lop_exit ?_
    | refine k_lop_ret ?_
    | refine a_skip ?_
    | refine a_ret ?_
    | refine a_exit ?_
    | refine a_block ?_
    | (refine a_cond (by simp [go_sem, *, -Bool.not_eq_eq_eq_not]; rfl) (fun hr => ?_) (fun hr => ?_) <;> (have hc := hr) <;> (try simp only [Bool.not_eq_true', Bool.not_eq_false', Bool.and_eq_true, Bool.and_eq_false_imp, Bool.or_eq_true, Bool.or_eq_false_iff, Bool.not_eq_true, Bool.not_eq_false, decide_eq_true_eq, decide_eq_false_iff_not, Int.not_lt, Int.not_le, ge_iff_le, gt_iff_lt, decide_true, decide_false, Bool.false_eq_true, reduceCtorEq, beq_iff_eq, beq_eq_false_iff_ne, ne_eq, bne_iff_ne, bne_eq_false_iff_eq, and_true, true_and, and_false, false_and] at hc) <;> (try (exfalso; omega)))
    | ((fail_if_success (refine w_same (by simpa [go_sem, *] using trivial) rfl ?_)); refine w_splv rfl (by simp [go_sem, *, -Bool.not_eq_eq_eq_not]; rfl) (fun hr => ?_) (fun hr => ?_) <;> (have hg := hr) <;> (try simp only [Bool.not_eq_true', Bool.not_eq_false', Bool.and_eq_true, Bool.and_eq_false_imp, Bool.or_eq_true, Bool.or_eq_false_iff, Bool.not_eq_true, Bool.not_eq_false, decide_eq_true_eq, decide_eq_false_iff_not, Int.not_lt, Int.not_le, ge_iff_le, gt_iff_lt, decide_true, decide_false, Bool.false_eq_true, reduceCtorEq, beq_iff_eq, beq_eq_false_iff_ne, ne_eq, bne_iff_ne, bne_eq_false_iff_eq, and_true, true_and, and_false, false_and] at hg) <;> (try (exfalso; omega)))
    | ((fail_if_success (refine l_same (by simpa [go_sem, *] using trivial) rfl ?_)); refine l_splv rfl (by simp [go_sem, *, -Bool.not_eq_eq_eq_not]; rfl) (fun hr => ?_) (fun hr => ?_) <;> (have hg := hr) <;> (try simp only [Bool.not_eq_true', Bool.not_eq_false', Bool.and_eq_true, Bool.and_eq_false_imp, Bool.or_eq_true, Bool.or_eq_false_iff, Bool.not_eq_true, Bool.not_eq_false, decide_eq_true_eq, decide_eq_false_iff_not, Int.not_lt, Int.not_le, ge_iff_le, gt_iff_lt, decide_true, decide_false, Bool.false_eq_true, reduceCtorEq, beq_iff_eq, beq_eq_false_iff_ne, ne_eq, bne_iff_ne, bne_eq_false_iff_eq, and_true, true_and, and_false, false_and] at hg) <;> (try (exfalso; omega))))
    all_goals first
      | (refine k_lop (j + 1) ?_ ?_ (weak_of [(1, .obj 1), (3, .obj 3)] rfl (by decide) ?_ ?_ rfl); (· exact (by omega)); (· first | omega | (simp only; omega)); (· first | (simp [go_sem, AVm, CVm, lookS, innerF, pairF, mnI, mxI, Int.add_assoc, *]; done) | (simp [go_sem, AVm, CVm, lookS, innerF, pairF, mnI, mxI, Int.add_assoc, *] <;> (repeat' split) <;> first | omega | (simp_all; done) | (exfalso; omega) | (simp_all; omega))); (· first | (simp [go_sem, OBm, CVm, All2, lookS, innerF, pairF, mnI, mxI, Int.add_assoc, *]; done) | (simp [go_sem, OBm, CVm, All2, lookS, innerF, pairF, mnI, mxI, Int.add_assoc, *] <;> (repeat' split) <;> first | omega | (simp_all; done) | (exfalso; omega) | (simp_all; omega))))
      | (refine k_lop (j + 1) ?_ ?_ (weak_of [(1, .obj 1), (3, .obj 480)] rfl (by decide) ?_ ?_ rfl); (· exact (by omega)); (· first | omega | (simp only; omega)); (· first | (simp [go_sem, AVm, CVm, lookS, innerF, pairF, mnI, mxI, Int.add_assoc, *]; done) | (simp [go_sem, AVm, CVm, lookS, innerF, pairF, mnI, mxI, Int.add_assoc, *] <;> (repeat' split) <;> first | omega | (simp_all; done) | (exfalso; omega) | (simp_all; omega))); (· first | (simp [go_sem, OBm, CVm, All2, lookS, innerF, pairF, mnI, mxI, Int.add_assoc, *]; done) | (simp [go_sem, OBm, CVm, All2, lookS, innerF, pairF, mnI, mxI, Int.add_assoc, *] <;> (repeat' split) <;> first | omega | (simp_all; done) | (exfalso; omega) | (simp_all; omega))))
      | (refine k_lop (j + 1) ?_ ?_ (weak_of [(1, .obj 1), (3, .obj 688)] rfl (by decide) ?_ ?_ rfl); (· exact (by omega)); (· first | omega | (simp only; omega)); (· first | (simp [go_sem, AVm, CVm, lookS, innerF, pairF, mnI, mxI, Int.add_assoc, *]; done) | (simp [go_sem, AVm, CVm, lookS, innerF, pairF, mnI, mxI, Int.add_assoc, *] <;> (repeat' split) <;> first | omega | (simp_all; done) | (exfalso; omega) | (simp_all; omega))); (· first | (simp [go_sem, OBm, CVm, All2, lookS, innerF, pairF, mnI, mxI, Int.add_assoc, *]; done) | (simp [go_sem, OBm, CVm, All2, lookS, innerF, pairF, mnI, mxI, Int.add_assoc, *] <;> (repeat' split) <;> first | omega | (simp_all; done) | (exfalso; omega) | (simp_all; omega))))
      | skip
    have hj' : j = es.length - (i + 1) := by omega
    subst hj'
    (refine k_lop (i + 1) ?_ ?_ (weak_of [(1, .obj 1), (3, .obj 3)] rfl (by decide) ?_ ?_ rfl); (· exact (by omega)); (· first | omega | (simp only; omega)); (· first | (simp [go_sem, AVm, CVm, lookS, outerF, *]; done) | (simp [go_sem, AVm, CVm, lookS, outerF, *] <;> (repeat' split) <;> first | omega | (simp_all; done) | (exfalso; omega) | (simp_all; omega))); (· first | (simp [go_sem, OBm, CVm, All2, lookS, outerF, *]; done) | (simp [go_sem, OBm, CVm, All2, lookS, outerF, *] <;> (repeat' split) <;> first | omega | (simp_all; done) | (exfalso; omega) | (simp_all; omega))))
  · have hii : i = es.length := by omega
    subst hii
    refine k_ret (by simp [go_sem]; first | exact ⟨rfl, rfl⟩ | rfl) ?_ rfl
    rfl
end Go.Proofs.Try

namespace Go.Proofs.Try
open Go Go.Eng
instance : Con Try.prog 113 (specOf folds_sat2) := con folds_sat2 Try.func113
end Go.Proofs.Try
namespace Go.Proofs.Try
open Go Go.Eng
set_option linter.unnecessarySimpa false
set_option linter.unusedSimpArgs false
set_option maxHeartbeats 4000000
theorem isG_len {r z : Int} {es : List Ed} (h : isG r z es = true) : es.length ≤ 120 := by
  simp only [isG, Bool.and_eq_true, decide_eq_true_eq] at h
  exact h.2.2
theorem foldsOf_len {es : List Ed} (h : es.length ≤ 120) : (foldsOf es).length ≤ 28800 := by
  have h1 := foldsOf_lenG es
  have h2 : es.length * es.length ≤ 120 * 120 := Nat.mul_le_mul h h
  omega
theorem isG_len2 {r z : Int} {es : List Ed} (h : isG r z es = true) : es.length ≤ 1048576 := by have := isG_len h; omega
def ffOk (r z : Int) (es : List Ed) : Bool := isG r z es && decide (0 < (foldsOf es).length)
def ffF (r z : Int) (es : List Ed) : Fd := if ffOk r z es then fd (foldsOf es) 0 else (0, 0)
def fdA (p : Fd) : AV := .agg [.sc (.int p.1), .sc (.int p.2)]
def ff_S : Eng.Spec := fun args av objs => ∃ (r z : Int) (es : List Ed), es.length ≤ 1099511627776 ∧ args = [grA r z es] ∧ av = .tup [fdA (ffF r z es), AV.one (.sc (.bool (ffOk r z es)))] ∧ objs = []
def K88 : Nat → List Nat := fun i => ([[1, 2], [1, 2, 7], [2, 3], [2, 4], [2, 4, 13], [2, 3], [2, 3]] : List (List Nat)).getD i []
theorem firstFold_sat : Sat Try.prog 88 ff_S := by
  refine sat_of tok okr mixed K88 Try.func88 rfl (rs := [.cell 2 57, .tmp 3]) rfl rfl ?_
  rintro args av objs ⟨r, z, es, hl, rfl, rfl, rfl⟩
  refine ⟨by show 1 ≤ 18; decide, ?_⟩
  repeat' (first
    | refine w_op rfl (by simp (disch := first | omega | (simp; omega)) [go_sem, grA, Try.ntmps88, -Option.map_eq_some_iff]; rfl) ?_
    | refine l_op rfl (by simp (disch := first | omega | (simp; omega)) [go_sem, grA, Try.ntmps88, -Option.map_eq_some_iff]; exact ⟨rfl, rfl⟩) ?_
    | refine w_end (by simp [go_sem, K88]; rfl) ?_
    | refine l_end (by kernel_rfl) (by simp [go_sem, K88]; rfl) ?_
    | refine w_fn isGraph_sat rfl Try.func64 rfl rfl (by first | rfl | (simpa [go_sem, *] using trivial)) rfl rfl (by simp [go_sem]; exact ⟨rfl, rfl⟩) (by exact ⟨r, z, es, hl, rfl, rfl, rfl⟩) (by rfl) (by rfl) (by rfl) (by simp [go_sem]; rfl) ?_
    | refine l_fn isGraph_sat rfl Try.func64 rfl rfl (by first | rfl | (simpa [go_sem, *] using trivial)) rfl rfl (by simp [go_sem]; exact ⟨rfl, rfl⟩) (by exact ⟨r, z, es, hl, rfl, rfl, rfl⟩) (by rfl) (by rfl) (by rfl) (by simp [go_sem]; rfl) ?_
    | refine w_fn folds_sat rfl Try.func115 rfl rfl (by first | rfl | (simpa [go_sem, *] using trivial)) rfl rfl (by simp [go_sem]; exact ⟨rfl, rfl⟩) (by exact ⟨r, z, es, isG_len2 (r := r) (z := z) (by assumption), rfl, rfl, rfl⟩) (by rfl) (by rfl) (by rfl) (by simp [go_sem]; rfl) ?_
    | refine l_fn folds_sat rfl Try.func115 rfl rfl (by first | rfl | (simpa [go_sem, *] using trivial)) rfl rfl (by simp [go_sem]; exact ⟨rfl, rfl⟩) (by exact ⟨r, z, es, isG_len2 (r := r) (z := z) (by assumption), rfl, rfl, rfl⟩) (by rfl) (by rfl) (by rfl) (by simp [go_sem]; rfl) ?_
    | refine w_yes' (by simpa [go_sem, *] using trivial) rfl (by simp (disch := first | omega | (simp; omega)) [go_sem, grA, Try.ntmps88, -Option.map_eq_some_iff]; rfl) ?_
    | refine w_no' (by simpa [go_sem, *] using trivial) rfl rfl (by simp [go_sem, skipE]; rfl) ?_
    | refine w_op rfl (by simp (disch := first | omega | (simp; omega)) [go_sem, grA, Try.ntmps88, -Option.map_eq_some_iff, *]; rfl) ?_
    | refine l_op' (by simpa [go_sem, *] using trivial) rfl (by simp (disch := first | omega | (simp; omega)) [go_sem, grA, Try.ntmps88, -Option.map_eq_some_iff, *]; exact ⟨rfl, rfl⟩) ?_
    | refine l_no' (by simpa [go_sem, *] using trivial) rfl rfl (by simp [go_sem, skipE]; rfl) ?_
    | refine k_seq ?_
    | refine a_seq ?_
    | refine a_reg ?_
    | refine a_draw ?_
    | refine k_seq_exit ?_
    | refine k_seq_ret ?_
    | refine k_blk ?_
    | refine k_blk_exit ?_
    | refine k_blk_other rfl ?_
    | refine k_blk_ret ?_
    | refine k_lop_exit ?_
    | refine k_lop_ret ?_
    | refine a_skip ?_
    | refine a_ret ?_
    | refine a_exit ?_
    | refine a_block ?_
    | (refine a_cond (by simp [go_sem, *, -Bool.not_eq_eq_eq_not]; rfl) (fun hr => ?_) (fun hr => ?_) <;> (have hc := hr) <;> (try simp only [Bool.not_eq_true', Bool.not_eq_false', Bool.and_eq_true, Bool.and_eq_false_imp, Bool.or_eq_true, Bool.or_eq_false_iff, Bool.not_eq_true, Bool.not_eq_false, decide_eq_true_eq, decide_eq_false_iff_not, Int.not_lt, Int.not_le, ge_iff_le, gt_iff_lt, decide_true, decide_false, Bool.false_eq_true, reduceCtorEq, beq_iff_eq, beq_eq_false_iff_ne, ne_eq, bne_iff_ne, bne_eq_false_iff_eq, and_true, true_and, and_false, false_and] at hc) <;> (try (exfalso; omega)))
    | ((fail_if_success (refine w_same (by simpa [go_sem, *] using trivial) rfl ?_)); refine w_splv rfl (by simp [go_sem, *, -Bool.not_eq_eq_eq_not]; rfl) (fun hr => ?_) (fun hr => ?_) <;> (have hg := hr) <;> (try simp only [Bool.not_eq_true', Bool.not_eq_false', Bool.and_eq_true, Bool.and_eq_false_imp, Bool.or_eq_true, Bool.or_eq_false_iff, Bool.not_eq_true, Bool.not_eq_false, decide_eq_true_eq, decide_eq_false_iff_not, Int.not_lt, Int.not_le, ge_iff_le, gt_iff_lt, decide_true, decide_false, Bool.false_eq_true, reduceCtorEq, beq_iff_eq, beq_eq_false_iff_ne, ne_eq, bne_iff_ne, bne_eq_false_iff_eq, and_true, true_and, and_false, false_and] at hg) <;> (try (exfalso; omega)))
    | ((fail_if_success (refine l_same (by simpa [go_sem, *] using trivial) rfl ?_)); refine l_splv rfl (by simp [go_sem, *, -Bool.not_eq_eq_eq_not]; rfl) (fun hr => ?_) (fun hr => ?_) <;> (have hg := hr) <;> (try simp only [Bool.not_eq_true', Bool.not_eq_false', Bool.and_eq_true, Bool.and_eq_false_imp, Bool.or_eq_true, Bool.or_eq_false_iff, Bool.not_eq_true, Bool.not_eq_false, decide_eq_true_eq, decide_eq_false_iff_not, Int.not_lt, Int.not_le, ge_iff_le, gt_iff_lt, decide_true, decide_false, Bool.false_eq_true, reduceCtorEq, beq_iff_eq, beq_eq_false_iff_ne, ne_eq, bne_iff_ne, bne_eq_false_iff_eq, and_true, true_and, and_false, false_and] at hg) <;> (try (exfalso; omega))))
  all_goals refine k_ret (by simp [go_sem]; first | exact ⟨rfl, rfl⟩ | rfl) ?_ rfl
  all_goals first
    | (have h0 : 0 < (foldsOf es).length := by omega
       have h1 : ffOk r z es = true := by simp [ffOk, h0, *]
       simp [ffF, h1, fdA]; done)
    | (simp_all [ffF, ffOk, fdA]; done)
def K86 : Nat → List Nat := fun i => ([[1, 2], [1, 2, 7], [2, 3], [2, 4], [2, 4, 13], [2, 3], [2, 3]] : List (List Nat)).getD i []
theorem firstFold_sat2 : Sat Try.prog 86 ff_S := by
  refine sat_of tok okr mixed K86 Try.func86 rfl (rs := [.cell 2 57, .tmp 3]) rfl rfl ?_
  rintro args av objs ⟨r, z, es, hl, rfl, rfl, rfl⟩
  refine ⟨by show 1 ≤ 18; decide, ?_⟩
  repeat' (first
    | refine w_op rfl (by simp (disch := first | omega | (simp; omega)) [go_sem, grA, Try.ntmps86, -Option.map_eq_some_iff]; rfl) ?_
    | refine l_op rfl (by simp (disch := first | omega | (simp; omega)) [go_sem, grA, Try.ntmps86, -Option.map_eq_some_iff]; exact ⟨rfl, rfl⟩) ?_
    | refine w_end (by simp [go_sem, K86]; rfl) ?_
    | refine l_end (by kernel_rfl) (by simp [go_sem, K86]; rfl) ?_
    | refine w_fn isGraph_sat2 rfl Try.func61 rfl rfl (by first | rfl | (simpa [go_sem, *] using trivial)) rfl rfl (by simp [go_sem]; exact ⟨rfl, rfl⟩) (by exact ⟨r, z, es, hl, rfl, rfl, rfl⟩) (by rfl) (by rfl) (by rfl) (by simp [go_sem]; rfl) ?_
    | refine l_fn isGraph_sat2 rfl Try.func61 rfl rfl (by first | rfl | (simpa [go_sem, *] using trivial)) rfl rfl (by simp [go_sem]; exact ⟨rfl, rfl⟩) (by exact ⟨r, z, es, hl, rfl, rfl, rfl⟩) (by rfl) (by rfl) (by rfl) (by simp [go_sem]; rfl) ?_
    | refine w_fn folds_sat2 rfl Try.func113 rfl rfl (by first | rfl | (simpa [go_sem, *] using trivial)) rfl rfl (by simp [go_sem]; exact ⟨rfl, rfl⟩) (by exact ⟨r, z, es, isG_len2 (r := r) (z := z) (by assumption), rfl, rfl, rfl⟩) (by rfl) (by rfl) (by rfl) (by simp [go_sem]; rfl) ?_
    | refine l_fn folds_sat2 rfl Try.func113 rfl rfl (by first | rfl | (simpa [go_sem, *] using trivial)) rfl rfl (by simp [go_sem]; exact ⟨rfl, rfl⟩) (by exact ⟨r, z, es, isG_len2 (r := r) (z := z) (by assumption), rfl, rfl, rfl⟩) (by rfl) (by rfl) (by rfl) (by simp [go_sem]; rfl) ?_
    | refine w_yes' (by simpa [go_sem, *] using trivial) rfl (by simp (disch := first | omega | (simp; omega)) [go_sem, grA, Try.ntmps86, -Option.map_eq_some_iff]; rfl) ?_
    | refine w_no' (by simpa [go_sem, *] using trivial) rfl rfl (by simp [go_sem, skipE]; rfl) ?_
    | refine w_op rfl (by simp (disch := first | omega | (simp; omega)) [go_sem, grA, Try.ntmps86, -Option.map_eq_some_iff, *]; rfl) ?_
    | refine l_op' (by simpa [go_sem, *] using trivial) rfl (by simp (disch := first | omega | (simp; omega)) [go_sem, grA, Try.ntmps86, -Option.map_eq_some_iff, *]; exact ⟨rfl, rfl⟩) ?_
    | refine l_no' (by simpa [go_sem, *] using trivial) rfl rfl (by simp [go_sem, skipE]; rfl) ?_
    | refine k_seq ?_
    | refine a_seq ?_
    | refine a_reg ?_
    | refine a_draw ?_
    | refine k_seq_exit ?_
    | refine k_seq_ret ?_
    | refine k_blk ?_
    | refine k_blk_exit ?_
    | refine k_blk_other rfl ?_
    | refine k_blk_ret ?_
    | refine k_lop_exit ?_
    | refine k_lop_ret ?_
    | refine a_skip ?_
    | refine a_ret ?_
    | refine a_exit ?_
    | refine a_block ?_
    | (refine a_cond (by simp [go_sem, *, -Bool.not_eq_eq_eq_not]; rfl) (fun hr => ?_) (fun hr => ?_) <;> (have hc := hr) <;> (try simp only [Bool.not_eq_true', Bool.not_eq_false', Bool.and_eq_true, Bool.and_eq_false_imp, Bool.or_eq_true, Bool.or_eq_false_iff, Bool.not_eq_true, Bool.not_eq_false, decide_eq_true_eq, decide_eq_false_iff_not, Int.not_lt, Int.not_le, ge_iff_le, gt_iff_lt, decide_true, decide_false, Bool.false_eq_true, reduceCtorEq, beq_iff_eq, beq_eq_false_iff_ne, ne_eq, bne_iff_ne, bne_eq_false_iff_eq, and_true, true_and, and_false, false_and] at hc) <;> (try (exfalso; omega)))
    | ((fail_if_success (refine w_same (by simpa [go_sem, *] using trivial) rfl ?_)); refine w_splv rfl (by simp [go_sem, *, -Bool.not_eq_eq_eq_not]; rfl) (fun hr => ?_) (fun hr => ?_) <;> (have hg := hr) <;> (try simp only [Bool.not_eq_true', Bool.not_eq_false', Bool.and_eq_true, Bool.and_eq_false_imp, Bool.or_eq_true, Bool.or_eq_false_iff, Bool.not_eq_true, Bool.not_eq_false, decide_eq_true_eq, decide_eq_false_iff_not, Int.not_lt, Int.not_le, ge_iff_le, gt_iff_lt, decide_true, decide_false, Bool.false_eq_true, reduceCtorEq, beq_iff_eq, beq_eq_false_iff_ne, ne_eq, bne_iff_ne, bne_eq_false_iff_eq, and_true, true_and, and_false, false_and] at hg) <;> (try (exfalso; omega)))
    | ((fail_if_success (refine l_same (by simpa [go_sem, *] using trivial) rfl ?_)); refine l_splv rfl (by simp [go_sem, *, -Bool.not_eq_eq_eq_not]; rfl) (fun hr => ?_) (fun hr => ?_) <;> (have hg := hr) <;> (try simp only [Bool.not_eq_true', Bool.not_eq_false', Bool.and_eq_true, Bool.and_eq_false_imp, Bool.or_eq_true, Bool.or_eq_false_iff, Bool.not_eq_true, Bool.not_eq_false, decide_eq_true_eq, decide_eq_false_iff_not, Int.not_lt, Int.not_le, ge_iff_le, gt_iff_lt, decide_true, decide_false, Bool.false_eq_true, reduceCtorEq, beq_iff_eq, beq_eq_false_iff_ne, ne_eq, bne_iff_ne, bne_eq_false_iff_eq, and_true, true_and, and_false, false_and] at hg) <;> (try (exfalso; omega))))
  all_goals refine k_ret (by simp [go_sem]; first | exact ⟨rfl, rfl⟩ | rfl) ?_ rfl
  all_goals first
    | (have h0 : 0 < (foldsOf es).length := by omega
       have h1 : ffOk r z es = true := by simp [ffOk, h0, *]
       simp [ffF, h1, fdA]; done)
    | (simp_all [ffF, ffOk, fdA]; done)
def K60 : Nat → List Nat := fun i => ([[2, 3], [2, 3, 9], [4], [14], [4], [4]] : List (List Nat)).getD i []
def eqFold_S : Eng.Spec := fun args av objs => ∃ p q : Fd, args = [fdA p, fdA q] ∧ av = AV.one (.sc (.bool (decide (p = q)))) ∧ objs = []
theorem eqFold_sat : Sat Try.prog 60 eqFold_S := by
  refine sat_of tok okr mixed K60 Try.func60 rfl (rs := [.tmp 4]) rfl rfl ?_
  rintro args av objs ⟨p, q, rfl, rfl, rfl⟩
  refine ⟨by show 2 ≤ 15; decide, ?_⟩
  repeat' (first
    | refine w_op rfl (by simp (disch := first | omega | (simp; omega)) [go_sem, fdA, Try.ntmps60, -Option.map_eq_some_iff]; rfl) ?_
    | refine l_op rfl (by simp (disch := first | omega | (simp; omega)) [go_sem, fdA, Try.ntmps60, -Option.map_eq_some_iff]; exact ⟨rfl, rfl⟩) ?_
    | refine w_end (by simp [go_sem, K60]; rfl) ?_
    | refine l_end (by kernel_rfl) (by simp [go_sem, K60]; rfl) ?_
    | refine w_yes' (by simpa [go_sem, *] using trivial) rfl (by simp (disch := first | omega | (simp; omega)) [go_sem, fdA, Try.ntmps60, -Option.map_eq_some_iff]; rfl) ?_
    | refine w_no' (by simpa [go_sem, *] using trivial) rfl rfl (by simp [go_sem, skipE]; rfl) ?_
    | refine w_op rfl (by simp (disch := first | omega | (simp; omega)) [go_sem, fdA, Try.ntmps60, -Option.map_eq_some_iff, *]; rfl) ?_
    | refine l_op' (by simpa [go_sem, *] using trivial) rfl (by simp (disch := first | omega | (simp; omega)) [go_sem, fdA, Try.ntmps60, -Option.map_eq_some_iff, *]; exact ⟨rfl, rfl⟩) ?_
    | refine l_no' (by simpa [go_sem, *] using trivial) rfl rfl (by simp [go_sem, skipE]; rfl) ?_
    | refine k_seq ?_
    | refine a_seq ?_
    | refine a_reg ?_
    | refine a_draw ?_
    | refine k_seq_exit ?_
    | refine k_seq_ret ?_
    | refine k_blk ?_
    | refine k_blk_exit ?_
    | refine k_blk_other rfl ?_
    | refine k_blk_ret ?_
    | refine k_lop_exit ?_
    | refine k_lop_ret ?_
    | refine a_skip ?_
    | refine a_ret ?_
    | refine a_exit ?_
    | refine a_block ?_
    | (refine a_cond (by simp [go_sem, *, -Bool.not_eq_eq_eq_not]; rfl) (fun hr => ?_) (fun hr => ?_) <;> (have hc := hr) <;> (try simp only [Bool.not_eq_true', Bool.not_eq_false', Bool.and_eq_true, Bool.and_eq_false_imp, Bool.or_eq_true, Bool.or_eq_false_iff, Bool.not_eq_true, Bool.not_eq_false, decide_eq_true_eq, decide_eq_false_iff_not, Int.not_lt, Int.not_le, ge_iff_le, gt_iff_lt, decide_true, decide_false, Bool.false_eq_true, reduceCtorEq, beq_iff_eq, beq_eq_false_iff_ne, ne_eq, bne_iff_ne, bne_eq_false_iff_eq, and_true, true_and, and_false, false_and] at hc) <;> (try (exfalso; omega)))
    | ((fail_if_success (refine w_same (by simpa [go_sem, *] using trivial) rfl ?_)); refine w_splv rfl (by simp [go_sem, *, -Bool.not_eq_eq_eq_not]; rfl) (fun hr => ?_) (fun hr => ?_) <;> (have hg := hr) <;> (try simp only [Bool.not_eq_true', Bool.not_eq_false', Bool.and_eq_true, Bool.and_eq_false_imp, Bool.or_eq_true, Bool.or_eq_false_iff, Bool.not_eq_true, Bool.not_eq_false, decide_eq_true_eq, decide_eq_false_iff_not, Int.not_lt, Int.not_le, ge_iff_le, gt_iff_lt, decide_true, decide_false, Bool.false_eq_true, reduceCtorEq, beq_iff_eq, beq_eq_false_iff_ne, ne_eq, bne_iff_ne, bne_eq_false_iff_eq, and_true, true_and, and_false, false_and] at hg) <;> (try (exfalso; omega)))
    | ((fail_if_success (refine l_same (by simpa [go_sem, *] using trivial) rfl ?_)); refine l_splv rfl (by simp [go_sem, *, -Bool.not_eq_eq_eq_not]; rfl) (fun hr => ?_) (fun hr => ?_) <;> (have hg := hr) <;> (try simp only [Bool.not_eq_true', Bool.not_eq_false', Bool.and_eq_true, Bool.and_eq_false_imp, Bool.or_eq_true, Bool.or_eq_false_iff, Bool.not_eq_true, Bool.not_eq_false, decide_eq_true_eq, decide_eq_false_iff_not, Int.not_lt, Int.not_le, ge_iff_le, gt_iff_lt, decide_true, decide_false, Bool.false_eq_true, reduceCtorEq, beq_iff_eq, beq_eq_false_iff_ne, ne_eq, bne_iff_ne, bne_eq_false_iff_eq, and_true, true_and, and_false, false_and] at hg) <;> (try (exfalso; omega))))
  all_goals refine k_ret (by simp [go_sem]; first | exact ⟨rfl, rfl⟩ | rfl) ?_ rfl
  all_goals simp_all [Prod.ext_iff]
end Go.Proofs.Try

namespace Go.Proofs.Try
open Go Go.Eng
instance : Con Try.prog 88 (specOf firstFold_sat) := con firstFold_sat Try.func88
instance : Con Try.prog 86 (specOf firstFold_sat2) := con firstFold_sat2 Try.func86
instance : Con Try.prog 60 (specOf eqFold_sat) := con eqFold_sat Try.func60
end Go.Proofs.Try
namespace Go.Proofs.Try
open Go Go.Eng
set_option linter.unnecessarySimpa false
set_option linter.unusedSimpArgs false
set_option maxHeartbeats 4000000
/-! ### The laws' helpers at folds -/
abbrev oF (e : Nat) (l : List Fd) : Go.Eng.Obj := .flat e 2 (fds l)
abbrev aF (l : List Fd) : AV := .one (.imm 2 (fds l))
abbrev fA (a b : Int) : AV := .agg [.sc (.int a), .sc (.int b)]
theorem fdsSet (l : List Fd) (i : Nat) (a b : Int) : (fds l).set i [.int a, .int b] = fds (l.set i (a, b)) := by simp [fds, List.map_set]
theorem fdsTake (l : List Fd) (n : Nat) : (fds l).take n = fds (l.take n) := by simp [fds, List.map_take]
theorem fdsDrop (l : List Fd) (n : Nat) : (fds l).drop n = fds (l.drop n) := by simp [fds, List.map_drop]
theorem fdsApps (l m : List Fd) : fds l ++ fds m = fds (l ++ m) := by simp [fds]
attribute [go_sem] fdsSet fdsTake fdsDrop fdsApps fdA
theorem fds_eq {xs ys : List Fd} (hl : xs.length = ys.length) (h : ∀ j, j < xs.length → fd xs j = fd ys j) : xs = ys := by
  apply List.ext_getElem hl
  intro i h1 h2
  have := h i h1
  simpa [fd, h1, h2] using this
def K_eqFd_sat : Nat → List Nat := fun i => ([[2, 3], [2, 3, 9], [4], [14], [4], [4]] : List (List Nat)).getD i []
attribute [go_sem] K_eqFd_sat
def eqFd_sat_S : Eng.Spec := fun args av objs => ∃ (a b c d : Int), args = [fA a b, fA c d] ∧ av = aB (decide (a = c ∧ b = d)) ∧ objs = []
theorem eqFd_sat : Sat Try.prog 60 eqFd_sat_S := by
  refine sat_of tok okr mixed K_eqFd_sat Try.func60 rfl (rs := [.tmp 4]) rfl Try.ntmps60 ?_
  rintro args av objs ⟨a, b, c, d, rfl, rfl, rfl⟩
  refine ⟨by show 2 ≤ 15; decide, ?_⟩
  repeat' (first
    | (refine ya ?_; first | refine ye ?_)
    | refine yz ?_
    | refine k_seq ?_
    | refine a_seq ?_
    | refine a_reg ?_
    | refine k_seq_exit ?_
    | refine k_blk ?_
    | refine k_blk_exit ?_
    | refine k_blk_other rfl ?_
    | refine k_blk_ret ?_
    | refine a_exit ?_
    | refine a_block ?_
    | refine k_seq_ret ?_
    | refine a_skip ?_
    | refine a_ret ?_
    | refine k_lop_exit ?_
    | refine k_lop_ret ?_
    | (refine z_cond (h1 := ?_) (h2 := ?_) <;> intro hc hr <;> (try first | contradiction | (exfalso; omega))))
  all_goals first | (refine z_ret (hv := ?_) (ho := ?_) <;> first | rfl | (simp [go_sem, *]; done) | (simp_all; done) | (simp_all; omega)) | skip
instance : Con Try.prog 60 eqFd_sat_S := con eqFd_sat Try.func60
def K_eqFs_sat : Nat → List Nat := fun i => ([[0, 1], [0, 1, 10], [4], [0, 1, 5], [0, 1, 5, 14], [0, 1, 5], [0, 1, 5, 26], [4], [4]] : List (List Nat)).getD i []
attribute [go_sem] K_eqFs_sat
def eqFs_sat_S : Eng.Spec := fun args av objs => ∃ (xs ys : List Fd), (xs.length ≤ 1099511627776) ∧ args = [aF xs, aF ys] ∧ av = aB (decide (xs = ys)) ∧ objs = []
theorem eqFs_sat : Sat Try.prog 20 eqFs_sat_S := by
  refine sat_of tok okr mixed K_eqFs_sat Try.func20 rfl (rs := [.tmp 4]) rfl Try.ntmps20 ?_
  rintro args av objs ⟨xs, ys, hpre, rfl, rfl, rfl⟩
  refine ⟨by show 2 ≤ 27; decide, ?_⟩
  repeat' (first
    | (refine ya ?_; first | (refine yb ?_; first | refine yc ?_) | refine ye ?_)
    | refine yz ?_
    | (refine yA ?_; first | (refine yB ?_; first | refine yC ?_) | refine yE ?_)
    | refine yZ ?_
    | refine k_seq ?_
    | refine a_seq ?_
    | refine a_reg ?_
    | refine a_draw ?_
    | refine k_seq_exit ?_
    | refine k_blk ?_
    | refine k_blk_exit ?_
    | refine k_blk_other rfl ?_
    | refine k_blk_ret ?_
    | refine a_exit ?_
    | refine a_block ?_
    | refine k_seq_ret ?_
    | refine a_skip ?_
    | refine a_ret ?_
    | refine k_lop_exit ?_
    | refine k_lop_ret ?_
    | (refine z_cond (h1 := ?_) (h2 := ?_) <;> intro hc hr <;> (try first | contradiction | (exfalso; omega))))
  · refine z_ret (hv := ?_) (ho := ?_)
    · have : ¬ xs = ys := by rintro rfl; simp at hc
      simp [this]
    · rfl
  have hl : xs.length = ys.length := by omega
  refine z_loop (fun i : Nat => [(5, aI i)]) (fun i : Nat => []) (fun i : Nat => i ≤ xs.length ∧ ∀ j, j < i → fd xs j = fd ys j) (fun i : Nat => xs.length - i) (0) (h0 := ?_) (henv := ?_) (hobj := ?_) (h := ?_)
  · exact ⟨by omega, fun j hj => by omega⟩
  · simp [go_sem, AVm, CVm, lookS]
  · simp [go_sem, OBm, CVm, lookS, All2]
  rintro i ⟨hi, hall⟩
  repeat' (first
    | (refine ya ?_; first | (refine yb ?_; first | refine yc ?_) | refine ye ?_)
    | refine yz ?_
    | (refine yA ?_; first | (refine yB ?_; first | refine yC ?_) | refine yE ?_)
    | refine yZ ?_
    | refine k_seq ?_
    | refine a_seq ?_
    | refine a_reg ?_
    | refine a_draw ?_
    | refine k_seq_exit ?_
    | refine k_blk ?_
    | refine k_blk_exit ?_
    | refine k_blk_other rfl ?_
    | refine k_blk_ret ?_
    | refine a_exit ?_
    | refine a_block ?_
    | refine k_seq_ret ?_
    | refine a_skip ?_
    | refine a_ret ?_
    | refine k_lop_exit ?_
    | refine k_lop_ret ?_
    | (refine z_cond (h1 := ?_) (h2 := ?_) <;> intro hc hr <;> (try first | contradiction | (exfalso; omega))))
  · refine z_ret (hv := ?_) (ho := ?_)
    · have : ¬ xs = ys := by rintro rfl; simp at hc
      simp [this]
    · rfl
  · have hall' : ∀ j, j < i + 1 → fd xs j = fd ys j := fun j hj => by
      rcases Nat.lt_or_ge j i with h | h
      · exact hall j h
      · have : j = i := by omega
        subst this; simp_all [Prod.ext_iff]
    (refine z_lop (i + 1) (hj := ?_) (hmu := ?_) (henv := ?_) (hobj := ?_); (· exact ⟨by omega, hall'⟩); (· first | omega | (simp only; omega)); (· first | (simp [go_sem, AVm, CVm, lookS, *]; done) | (simp [go_sem, AVm, CVm, lookS, *] <;> (repeat' split) <;> first | omega | (simp_all; done) | (exfalso; omega) | (simp_all; omega))); (· first | (simp [go_sem, OBm, CVm, All2, lookS, *]; done) | (simp [go_sem, OBm, CVm, All2, lookS, *] <;> (repeat' split) <;> first | omega | (simp_all; done) | (exfalso; omega) | (simp_all; omega))))
  · refine z_ret (hv := ?_) (ho := ?_)
    · have := fds_eq hl (fun j hj => hall j (by omega))
      simp [this]
    · rfl
theorem shFoldA {t : Nat} (ht : T t = .st [3, 3]) {a : AV} (h : ShA T t a) : ∃ k d : Int, a = fA k d ∧ rg k ∧ rg d := by
  simp only [ShA, ht] at h
  obtain ⟨cs, rfl, h⟩ := h
  obtain ⟨c0, c1, rfl, h0, h1⟩ := all2_2 h
  obtain ⟨k, rfl, hk⟩ := shCInt T3 h0
  obtain ⟨d, rfl, hd⟩ := shCInt T3 h1
  exact ⟨k, d, rfl, hk, hd⟩
theorem shEdgeA {t : Nat} (ht : T t = .st [3, 3, 3]) {a : AV} (h : ShA T t a) : ∃ x y w : Int, a = .agg [.sc (.int x), .sc (.int y), .sc (.int w)] ∧ rg x ∧ rg y ∧ rg w := by
  simp only [ShA, ht] at h
  obtain ⟨cs, rfl, h⟩ := h
  obtain ⟨c0, c1, c2, rfl, h0, h1, h2⟩ := all2_3 h
  obtain ⟨k, rfl, hk⟩ := shCInt T3 h0
  obtain ⟨d, rfl, hd⟩ := shCInt T3 h1
  obtain ⟨e, rfl, he⟩ := shCInt T3 h2
  exact ⟨k, d, e, rfl, hk, hd, he⟩
theorem shFold {t a b : Nat} (ht : T t = .st [a, b]) (ha : T a = .int) (hb : T b = .int) {el : El} (h : ShE T t el) : ∃ e : Fd, el = [.int e.1, .int e.2] := by
  simp only [ShE, ht] at h
  match el, h with
  | [s0, s1], ⟨h0, h1, _⟩ =>
    simp only at h0 h1
    rw [ha] at h0; rw [hb] at h1
    cases s0 <;> first | (exact h0.elim) | skip
    cases s1 <;> first | (exact h1.elim) | skip
    exact ⟨(_, _), rfl⟩
theorem shFolds {t : Nat} (ht : T t = .st [3, 3]) {xs : List El} (h : ∀ el ∈ xs, ShE T t el) : ∃ l : List Fd, xs = fds l := by
  induction xs with
  | nil => exact ⟨[], rfl⟩
  | cons x xs ih =>
    obtain ⟨l, rfl⟩ := ih (fun el hel => h el (by simp [hel]))
    obtain ⟨e, rfl⟩ := shFold ht T3 T3 (h x (by simp))
    exact ⟨e :: l, rfl⟩
instance : Con Try.prog 20 eqFs_sat_S := con eqFs_sat Try.func20
end Go.Proofs.Try
