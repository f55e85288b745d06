import Derived.Test.YtoncngainbgpcaaB
set_option linter.unusedVariables false
set_option linter.unusedSimpArgs false
set_option linter.unnecessarySimpa false
namespace Go.Proofs.Try
open Go Go.Eng
set_option linter.unnecessarySimpa false
set_option linter.unusedSimpArgs false
set_option maxHeartbeats 4000000
/-! ### Marks on folds; copies; sizes -/
def mkF : Nat → Int → List Fd
  | 0, _ => []
  | n + 1, k => mkF n k ++ [(k + 2 * n, k + 2 * n + 1)]
theorem mkF_len (n : Nat) (k : Int) : (mkF n k).length = n := by induction n with | zero => rfl | succ n ih => simp [mkF, ih]
theorem mkF_set {l : List Fd} {i : Nat} (k : Int) (h : i < l.length) : (mkF i k ++ l.drop i).set i (k + 2 * i, k + 2 * i + 1) = mkF (i + 1) k ++ l.drop (i + 1) := by
  rw [List.set_append_right _ _ (by rw [mkF_len]; exact Nat.le_refl _), mkF_len, Nat.sub_self, List.drop_eq_getElem_cons h, List.set_cons_zero]
  simp [mkF]
theorem mkF_fd {n i : Nat} {k : Int} (h : i < n) : fd (mkF n k) i = (k + 2 * i, k + 2 * i + 1) := by
  induction n with
  | zero => omega
  | succ n ih =>
    unfold fd mkF
    by_cases hi : i < n
    · have := ih hi
      unfold fd at this
      rw [List.getD_eq_getElem?_getD, List.getElem?_append_left (by rw [mkF_len]; exact hi), ← List.getD_eq_getElem?_getD, this]
    · have : i = n := by omega
      subst this
      rw [List.getD_eq_getElem?_getD, List.getElem?_append_right (by rw [mkF_len]; exact Nat.le_refl _), mkF_len]
      simp
theorem fdSet {l : List Fd} {i : Nat} (p : Fd) (h : i < l.length) : fd (l.set i p) i = p := by simp [fd, h]
attribute [go_sem] mkF_len mkF_fd fdSet
attribute [simp] mkF_len
def K_markFoldS_sat : Nat → List Nat := fun i => ([[0, 1], [0, 1, 5], [0, 1, 5, 9], [0, 1, 5], [0, 1, 5], [0, 1, 5], [0, 1, 5], [0, 1, 5], [4]] : List (List Nat)).getD i []
attribute [go_sem] K_markFoldS_sat
def markFoldS_sat_S : SpecM := fun args o x o' => ∃ (e : Nat) (l : List Fd) (k : Int), (l.length ≤ 1099511627776 ∧ 0 ≤ k ∧ k ≤ 1152921504606846976) ∧ args = [aR 0, aI k] ∧ o = .flat e 2 (fds l) ∧ x = .int (k + 2 * l.length) ∧ o' = .flat e 2 (fds (mkF l.length k))
theorem markFoldS_sat : SatM Try.prog 22 markFoldS_sat_S := by
  refine satM_of tok okr mixed K_markFoldS_sat Try.func22 rfl (r := .tmp 4) rfl Try.ntmps22 ?_
  rintro args o x o' ⟨e, l, k, hpre, rfl, rfl, rfl, rfl⟩
  refine ⟨by show 2 ≤ 27; decide, rfl, fun S W pv => ?_⟩
  repeat' (first
    | (refine ya ?_; first | refine ye ?_)
    | refine yz ?_
    | refine k_seq ?_
    | refine a_seq ?_
    | refine a_reg ?_
    | refine k_seq_exit ?_
    | refine k_blk ?_
    | refine k_blk_exit ?_
    | refine k_blk_other rfl ?_
    | refine k_blk_ret ?_
    | refine a_exit ?_
    | refine a_block ?_
    | refine k_seq_ret ?_
    | refine a_skip ?_
    | refine a_ret ?_
    | refine k_lop_exit ?_
    | refine k_lop_ret ?_
    | (refine z_cond (h1 := ?_) (h2 := ?_) <;> intro hc hr <;> (try first | contradiction | (exfalso; omega))))
  refine z_loop (fun i : Nat => [(1, aI (k + 2 * i)), (5, aI i)]) (fun i : Nat => [.obj 0 (.flat e 2 (fds (mkF i k ++ l.drop i)))]) (fun i : Nat => i ≤ l.length) (fun i : Nat => l.length - i) (0) (h0 := ?_) (henv := ?_) (hobj := ?_) (h := ?_)
  · omega
  · simp [go_sem, AVm, CVm, lookS, mkF]
  · simp [go_sem, OBm, CVm, lookS, All2, mkF]
  intro i hi
  have hlen : (mkF i k ++ l.drop i).length = l.length := by simp; omega
  rcases Nat.lt_or_ge i l.length with hlt | hge
  · have hs := mkF_set k hlt
    generalize hL : mkF i k ++ l.drop i = L at hlen hs ⊢
    have e2 : k + 2 * (i : Int) + 1 + 1 = k + 2 * ((i : Int) + 1) := by omega
    repeat' (first
    | (refine ya ?_; first | refine ye ?_)
    | refine yz ?_
    | refine k_seq ?_
    | refine a_seq ?_
    | refine a_reg ?_
    | refine k_seq_exit ?_
    | refine k_blk ?_
    | refine k_blk_exit ?_
    | refine k_blk_other rfl ?_
    | refine k_blk_ret ?_
    | refine a_exit ?_
    | refine a_block ?_
    | refine k_seq_ret ?_
    | refine a_skip ?_
    | refine a_ret ?_
    | refine k_lop_exit ?_
    | refine k_lop_ret ?_
    | (refine z_cond (h1 := ?_) (h2 := ?_) <;> intro hc hr <;> (try first | contradiction | (exfalso; omega))))
    (refine z_lop (i + 1) (hj := ?_) (hmu := ?_) (henv := ?_) (hobj := ?_); (· omega); (· first | omega | (simp only; omega)); (· first | (simp [go_sem, AVm, CVm, lookS, hs, e2, *]; done) | (simp [go_sem, AVm, CVm, lookS, hs, e2, *] <;> (repeat' split) <;> first | omega | (simp_all; done) | (exfalso; omega) | (simp_all; omega))); (· first | (simp [go_sem, OBm, CVm, All2, lookS, hs, e2, *]; done) | (simp [go_sem, OBm, CVm, All2, lookS, hs, e2, *] <;> (repeat' split) <;> first | omega | (simp_all; done) | (exfalso; omega) | (simp_all; omega))))
  · have hii : i = l.length := by omega
    subst hii
    have hL : mkF l.length k ++ l.drop l.length = mkF l.length k := by simp
    rw [hL]
    repeat' (first
    | (refine ya ?_; first | refine ye ?_)
    | refine yz ?_
    | refine k_seq ?_
    | refine a_seq ?_
    | refine a_reg ?_
    | refine k_seq_exit ?_
    | refine k_blk ?_
    | refine k_blk_exit ?_
    | refine k_blk_other rfl ?_
    | refine k_blk_ret ?_
    | refine a_exit ?_
    | refine a_block ?_
    | refine k_seq_ret ?_
    | refine a_skip ?_
    | refine a_ret ?_
    | refine k_lop_exit ?_
    | refine k_lop_ret ?_
    | (refine z_cond (h1 := ?_) (h2 := ?_) <;> intro hc hr <;> (try first | contradiction | (exfalso; omega))))
    exact ⟨rfl, rfl, rfl, rfl⟩
instance : ConM Try.prog 22 markFoldS_sat_S := conM markFoldS_sat Try.func22
def K_heldFoldS_sat : Nat → List Nat := fun i => ([[0, 1], [0, 1, 5], [0, 1, 5, 9], [0, 1, 5], [0, 1, 5, 18], [4], [0, 1, 5], [0, 1, 5, 27], [4], [0, 1, 5], [4]] : List (List Nat)).getD i []
attribute [go_sem] K_heldFoldS_sat
def heldFoldS_sat_S : Eng.Spec := fun args av objs => ∃ (n : Nat) (k : Int), (n ≤ 1099511627776 ∧ 0 ≤ k ∧ k ≤ 1152921504606846976) ∧ args = [aF (mkF n k), aI k] ∧ av = aI (k + 2 * n) ∧ objs = []
theorem heldFoldS_sat : Sat Try.prog 24 heldFoldS_sat_S := by
  refine sat_of tok okr mixed K_heldFoldS_sat Try.func24 rfl (rs := [.tmp 4]) rfl Try.ntmps24 ?_
  rintro args av objs ⟨n, k, hpre, rfl, rfl, rfl⟩
  refine ⟨by show 2 ≤ 31; decide, ?_⟩
  repeat' (first
    | (refine ya ?_; first | refine ye ?_)
    | refine yz ?_
    | refine k_seq ?_
    | refine a_seq ?_
    | refine a_reg ?_
    | refine k_seq_exit ?_
    | refine k_blk ?_
    | refine k_blk_exit ?_
    | refine k_blk_other rfl ?_
    | refine k_blk_ret ?_
    | refine a_exit ?_
    | refine a_block ?_
    | refine k_seq_ret ?_
    | refine a_skip ?_
    | refine a_ret ?_
    | refine k_lop_exit ?_
    | refine k_lop_ret ?_
    | (refine z_cond (h1 := ?_) (h2 := ?_) <;> intro hc hr <;> (try first | contradiction | (exfalso; omega))))
  refine z_loop (fun i : Nat => [(1, aI (k + 2 * i)), (5, aI i)]) (fun i : Nat => []) (fun i : Nat => i ≤ n) (fun i : Nat => n - i) (0) (h0 := ?_) (henv := ?_) (hobj := ?_) (h := ?_)
  · omega
  · simp [go_sem, AVm, CVm, lookS]
  · simp [go_sem, OBm, CVm, lookS, All2]
  intro i hi
  have e2 : k + 2 * (i : Int) + 1 + 1 = k + 2 * ((i : Int) + 1) := by omega
  repeat' (first
    | (refine ya ?_; first | refine ye ?_)
    | refine yz ?_
    | refine k_seq ?_
    | refine a_seq ?_
    | refine a_reg ?_
    | refine k_seq_exit ?_
    | refine k_blk ?_
    | refine k_blk_exit ?_
    | refine k_blk_other rfl ?_
    | refine k_blk_ret ?_
    | refine a_exit ?_
    | refine a_block ?_
    | refine k_seq_ret ?_
    | refine a_skip ?_
    | refine a_ret ?_
    | refine k_lop_exit ?_
    | refine k_lop_ret ?_
    | (refine z_cond (h1 := ?_) (h2 := ?_) <;> intro hc hr <;> (try first | contradiction | (exfalso; omega))))
  · (refine z_lop (i + 1) (hj := ?_) (hmu := ?_) (henv := ?_) (hobj := ?_); (· omega); (· first | omega | (simp only; omega)); (· first | (simp [go_sem, AVm, CVm, lookS, e2, *]; done) | (simp [go_sem, AVm, CVm, lookS, e2, *] <;> (repeat' split) <;> first | omega | (simp_all; done) | (exfalso; omega) | (simp_all; omega))); (· first | (simp [go_sem, OBm, CVm, All2, lookS, e2, *]; done) | (simp [go_sem, OBm, CVm, All2, lookS, e2, *] <;> (repeat' split) <;> first | omega | (simp_all; done) | (exfalso; omega) | (simp_all; omega))))
  · have : i = n := by omega
    subst this
    all_goals first | (refine z_ret (hv := ?_) (ho := ?_) <;> first | rfl | (simp [go_sem, *]; done) | (simp_all; done) | (simp_all; omega)) | skip
def cpF (l : List Fd) (i : Nat) : List Fd := l.take i ++ List.replicate (l.length - i) (0, 0)
theorem zF_eq (n : Nat) : List.replicate n [Sc.int 0, Sc.int 0] = fds (List.replicate n (0, 0)) := by simp [fds]
theorem cpF_len {l : List Fd} {i : Nat} (h : i ≤ l.length) : (cpF l i).length = l.length := by simp [cpF]; omega
theorem cpF_0 (l : List Fd) : cpF l 0 = List.replicate l.length (0, 0) := by simp [cpF]
theorem cpF_all (l : List Fd) : cpF l l.length = l := by simp [cpF]
theorem cpF_set {l : List Fd} {i : Nat} (h : i < l.length) : (cpF l i).set i ((fd l i).1, (fd l i).2) = cpF l (i + 1) := by
  have e1 : List.replicate (l.length - i) ((0, 0) : Fd) = (0, 0) :: List.replicate (l.length - (i + 1)) (0, 0) := by
    have : l.length - i = (l.length - (i + 1)) + 1 := by omega
    rw [this]; rfl
  have e2 : l.take (i + 1) = l.take i ++ [fd l i] := by
    rw [List.take_add_one]; simp [fd, h]
  unfold cpF
  rw [e1, e2, List.set_append_right _ _ (by rw [List.length_take]; omega)]
  have e3 : i - (List.take i l).length = 0 := by rw [List.length_take]; omega
  rw [e3]
  simp
instance : Con Try.prog 24 heldFoldS_sat_S := con heldFoldS_sat Try.func24
end Go.Proofs.Try
