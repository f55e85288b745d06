import Derived.Test.YtoanlehkkideiaaE24
import Derived.Test.YtoanlehkkideiaaTy
namespace Go.Proofs.Try
set_option linter.unnecessarySimpa false
set_option linter.unusedSimpArgs false
open Go Go.Eng

attribute [go_sem] T3 T4 T22 T27 T29 T75

abbrev Ed := Int × Int × Int
def eds (l : List Ed) : List El := l.map fun e => [.int e.1, .int e.2.1, .int e.2.2]
def ed (l : List Ed) (i : Nat) : Ed := l.getD i (0, 0, 0)
theorem edsLen (l : List Ed) : (eds l).length = l.length := by simp [eds]
theorem edsAt {l : List Ed} {i : Nat} (h : i < l.length) : (eds l)[i]? = some [.int (ed l i).1, .int (ed l i).2.1, .int (ed l i).2.2] := by
  simp [eds, ed, h]
attribute [go_sem] edsLen edsAt
def edA (p : Ed) : AV := .agg [.sc (.int p.1), .sc (.int p.2.1), .sc (.int p.2.2)]

def K57 : Nat → List Nat := fun i => ([[0, 1, 2], [6]] : List (List Nat)).getD i []
def in_S : Eng.Spec := fun args av objs => ∃ a b c : Int, args = [AV.one (.sc (.int a)), AV.one (.sc (.int b)), AV.one (.sc (.int c))] ∧ av = AV.one (.sc (.bool (decide (b ≤ a ∧ a ≤ c)))) ∧ objs = []
theorem within_sat : Sat Try.prog 57 in_S := by
  refine sat_of tok okr mixed K57 Try.func57 rfl (rs := [.tmp 6]) rfl rfl ?_
  rintro args av objs ⟨a, b, c, rfl, rfl, rfl⟩
  refine ⟨by show 3 ≤ 15; decide, ?_⟩
  repeat (first
    | refine w_op rfl (by simp (disch := omega) [go_sem, Try.ntmps57, -Option.map_eq_some_iff]; rfl) ?_
    | refine l_op rfl (by simp (disch := omega) [go_sem, Try.ntmps57, -Option.map_eq_some_iff]; exact ⟨rfl, rfl⟩) ?_
    | refine w_end (by simp [go_sem, K57]; rfl) ?_
    | refine l_end (by kernel_rfl) (by simp [go_sem, K57]; rfl) ?_
    | refine w_yes' (by simpa [go_sem, *] using trivial) rfl (by simp (disch := omega) [go_sem, Try.ntmps57, -Option.map_eq_some_iff]; rfl) ?_
    | refine w_no' (by simpa [go_sem, *] using trivial) rfl rfl (by simp [go_sem, skipE]; rfl) ?_
    | refine w_op rfl (by simp (disch := omega) [go_sem, Try.ntmps57, -Option.map_eq_some_iff, *]; rfl) ?_
    | refine l_op' (by simpa [go_sem, *] using trivial) rfl (by simp (disch := omega) [go_sem, Try.ntmps57, -Option.map_eq_some_iff, *]; exact ⟨rfl, rfl⟩) ?_
    | refine l_no' (by simpa [go_sem, *] using trivial) rfl rfl (by simp [go_sem, skipE]; rfl) ?_
    | refine k_seq ?_
    | refine a_seq ?_
    | refine a_reg ?_
    | refine a_draw ?_
    | refine k_seq_exit ?_
    | refine k_seq_ret ?_
    | refine k_blk ?_
    | refine k_blk_exit ?_
    | refine k_blk_other rfl ?_
    | refine k_blk_ret ?_
    | refine k_lop_exit ?_
    | refine k_lop_ret ?_
    | refine a_skip ?_
    | refine a_ret ?_
    | refine a_exit ?_
    | refine a_block ?_)
  refine w_split (by simp [go_sem]; rfl) (fun hg => ?_) (fun hg => ?_)
  · repeat (first
    | refine w_op rfl (by simp (disch := omega) [go_sem, -Option.map_eq_some_iff]; rfl) ?_
    | refine l_op rfl (by simp (disch := omega) [go_sem, -Option.map_eq_some_iff]; exact ⟨rfl, rfl⟩) ?_
    | refine w_end (by simp [go_sem, K57]; rfl) ?_
    | refine l_end (by kernel_rfl) (by simp [go_sem, K57]; rfl) ?_
    | refine w_yes' (by simpa [go_sem, *] using trivial) rfl (by simp (disch := omega) [go_sem, -Option.map_eq_some_iff]; rfl) ?_
    | refine w_no' (by simpa [go_sem, *] using trivial) rfl rfl (by simp [go_sem, skipE]; rfl) ?_
    | refine w_op rfl (by simp (disch := omega) [go_sem, -Option.map_eq_some_iff, *]; rfl) ?_
    | refine l_op' (by simpa [go_sem, *] using trivial) rfl (by simp (disch := omega) [go_sem, -Option.map_eq_some_iff, *]; exact ⟨rfl, rfl⟩) ?_
    | refine l_no' (by simpa [go_sem, *] using trivial) rfl rfl (by simp [go_sem, skipE]; rfl) ?_
    | refine k_seq ?_
    | refine a_seq ?_
    | refine a_reg ?_
    | refine a_draw ?_
    | refine k_seq_exit ?_
    | refine k_seq_ret ?_
    | refine k_blk ?_
    | refine k_blk_exit ?_
    | refine k_blk_other rfl ?_
    | refine k_blk_ret ?_
    | refine k_lop_exit ?_
    | refine k_lop_ret ?_
    | refine a_skip ?_
    | refine a_ret ?_
    | refine a_exit ?_
    | refine a_block ?_)
    refine k_ret (by simp [go_sem]; first | exact ⟨rfl, rfl⟩ | rfl) ?_ rfl
    simp at hg
    simp [hg]
  · repeat (first
    | refine w_op rfl (by simp (disch := omega) [go_sem, -Option.map_eq_some_iff]; rfl) ?_
    | refine l_op rfl (by simp (disch := omega) [go_sem, -Option.map_eq_some_iff]; exact ⟨rfl, rfl⟩) ?_
    | refine w_end (by simp [go_sem, K57]; rfl) ?_
    | refine l_end (by kernel_rfl) (by simp [go_sem, K57]; rfl) ?_
    | refine w_yes' (by simpa [go_sem, *] using trivial) rfl (by simp (disch := omega) [go_sem, -Option.map_eq_some_iff]; rfl) ?_
    | refine w_no' (by simpa [go_sem, *] using trivial) rfl rfl (by simp [go_sem, skipE]; rfl) ?_
    | refine w_op rfl (by simp (disch := omega) [go_sem, -Option.map_eq_some_iff, *]; rfl) ?_
    | refine l_op' (by simpa [go_sem, *] using trivial) rfl (by simp (disch := omega) [go_sem, -Option.map_eq_some_iff, *]; exact ⟨rfl, rfl⟩) ?_
    | refine l_no' (by simpa [go_sem, *] using trivial) rfl rfl (by simp [go_sem, skipE]; rfl) ?_
    | refine k_seq ?_
    | refine a_seq ?_
    | refine a_reg ?_
    | refine a_draw ?_
    | refine k_seq_exit ?_
    | refine k_seq_ret ?_
    | refine k_blk ?_
    | refine k_blk_exit ?_
    | refine k_blk_other rfl ?_
    | refine k_blk_ret ?_
    | refine k_lop_exit ?_
    | refine k_lop_ret ?_
    | refine a_skip ?_
    | refine a_ret ?_
    | refine a_exit ?_
    | refine a_block ?_)
    refine k_ret (by simp [go_sem]; first | exact ⟨rfl, rfl⟩ | rfl) ?_ rfl
    simp at hg
    simp; omega

def K63 : Nat → List Nat := fun i => ([[0, 1, 2], [6]] : List (List Nat)).getD i []
theorem l1In_sat : Sat Try.prog 63 in_S := by
  refine sat_of tok okr mixed K63 Try.func63 rfl (rs := [.tmp 6]) rfl rfl ?_
  rintro args av objs ⟨a, b, c, rfl, rfl, rfl⟩
  refine ⟨by show 3 ≤ 15; decide, ?_⟩
  repeat (first
    | refine w_op rfl (by simp (disch := omega) [go_sem, Try.ntmps63, -Option.map_eq_some_iff]; rfl) ?_
    | refine l_op rfl (by simp (disch := omega) [go_sem, Try.ntmps63, -Option.map_eq_some_iff]; exact ⟨rfl, rfl⟩) ?_
    | refine w_end (by simp [go_sem, K63]; rfl) ?_
    | refine l_end (by kernel_rfl) (by simp [go_sem, K63]; rfl) ?_
    | refine w_yes' (by simpa [go_sem, *] using trivial) rfl (by simp (disch := omega) [go_sem, Try.ntmps63, -Option.map_eq_some_iff]; rfl) ?_
    | refine w_no' (by simpa [go_sem, *] using trivial) rfl rfl (by simp [go_sem, skipE]; rfl) ?_
    | refine w_op rfl (by simp (disch := omega) [go_sem, Try.ntmps63, -Option.map_eq_some_iff, *]; rfl) ?_
    | refine l_op' (by simpa [go_sem, *] using trivial) rfl (by simp (disch := omega) [go_sem, Try.ntmps63, -Option.map_eq_some_iff, *]; exact ⟨rfl, rfl⟩) ?_
    | refine l_no' (by simpa [go_sem, *] using trivial) rfl rfl (by simp [go_sem, skipE]; rfl) ?_
    | refine k_seq ?_
    | refine a_seq ?_
    | refine a_reg ?_
    | refine a_draw ?_
    | refine k_seq_exit ?_
    | refine k_seq_ret ?_
    | refine k_blk ?_
    | refine k_blk_exit ?_
    | refine k_blk_other rfl ?_
    | refine k_blk_ret ?_
    | refine k_lop_exit ?_
    | refine k_lop_ret ?_
    | refine a_skip ?_
    | refine a_ret ?_
    | refine a_exit ?_
    | refine a_block ?_)
  refine w_split (by simp [go_sem]; rfl) (fun hg => ?_) (fun hg => ?_)
  · repeat (first
    | refine w_op rfl (by simp (disch := omega) [go_sem, -Option.map_eq_some_iff]; rfl) ?_
    | refine l_op rfl (by simp (disch := omega) [go_sem, -Option.map_eq_some_iff]; exact ⟨rfl, rfl⟩) ?_
    | refine w_end (by simp [go_sem, K63]; rfl) ?_
    | refine l_end (by kernel_rfl) (by simp [go_sem, K63]; rfl) ?_
    | refine w_yes' (by simpa [go_sem, *] using trivial) rfl (by simp (disch := omega) [go_sem, -Option.map_eq_some_iff]; rfl) ?_
    | refine w_no' (by simpa [go_sem, *] using trivial) rfl rfl (by simp [go_sem, skipE]; rfl) ?_
    | refine w_op rfl (by simp (disch := omega) [go_sem, -Option.map_eq_some_iff, *]; rfl) ?_
    | refine l_op' (by simpa [go_sem, *] using trivial) rfl (by simp (disch := omega) [go_sem, -Option.map_eq_some_iff, *]; exact ⟨rfl, rfl⟩) ?_
    | refine l_no' (by simpa [go_sem, *] using trivial) rfl rfl (by simp [go_sem, skipE]; rfl) ?_
    | refine k_seq ?_
    | refine a_seq ?_
    | refine a_reg ?_
    | refine a_draw ?_
    | refine k_seq_exit ?_
    | refine k_seq_ret ?_
    | refine k_blk ?_
    | refine k_blk_exit ?_
    | refine k_blk_other rfl ?_
    | refine k_blk_ret ?_
    | refine k_lop_exit ?_
    | refine k_lop_ret ?_
    | refine a_skip ?_
    | refine a_ret ?_
    | refine a_exit ?_
    | refine a_block ?_)
    refine k_ret (by simp [go_sem]; first | exact ⟨rfl, rfl⟩ | rfl) ?_ rfl
    simp at hg
    simp [hg]
  · repeat (first
    | refine w_op rfl (by simp (disch := omega) [go_sem, -Option.map_eq_some_iff]; rfl) ?_
    | refine l_op rfl (by simp (disch := omega) [go_sem, -Option.map_eq_some_iff]; exact ⟨rfl, rfl⟩) ?_
    | refine w_end (by simp [go_sem, K63]; rfl) ?_
    | refine l_end (by kernel_rfl) (by simp [go_sem, K63]; rfl) ?_
    | refine w_yes' (by simpa [go_sem, *] using trivial) rfl (by simp (disch := omega) [go_sem, -Option.map_eq_some_iff]; rfl) ?_
    | refine w_no' (by simpa [go_sem, *] using trivial) rfl rfl (by simp [go_sem, skipE]; rfl) ?_
    | refine w_op rfl (by simp (disch := omega) [go_sem, -Option.map_eq_some_iff, *]; rfl) ?_
    | refine l_op' (by simpa [go_sem, *] using trivial) rfl (by simp (disch := omega) [go_sem, -Option.map_eq_some_iff, *]; exact ⟨rfl, rfl⟩) ?_
    | refine l_no' (by simpa [go_sem, *] using trivial) rfl rfl (by simp [go_sem, skipE]; rfl) ?_
    | refine k_seq ?_
    | refine a_seq ?_
    | refine a_reg ?_
    | refine a_draw ?_
    | refine k_seq_exit ?_
    | refine k_seq_ret ?_
    | refine k_blk ?_
    | refine k_blk_exit ?_
    | refine k_blk_other rfl ?_
    | refine k_blk_ret ?_
    | refine k_lop_exit ?_
    | refine k_lop_ret ?_
    | refine a_skip ?_
    | refine a_ret ?_
    | refine a_exit ?_
    | refine a_block ?_)
    refine k_ret (by simp [go_sem]; first | exact ⟨rfl, rfl⟩ | rfl) ?_ rfl
    simp at hg
    simp; omega


def gRank (n : Int) : Int := if 1 ≤ n ∧ n ≤ 3 then n else 0
def gSize (n : Int) : Int := if 1 ≤ n ∧ n ≤ 3 then 1 else 0
def gOk (n : Int) : Bool := decide (1 ≤ n ∧ n ≤ 3)
def newG (n : Int) : AV := .tup [.agg [.sc (.int (gRank n)), .sc (.int (gSize n)), .nil], .one (.sc (.bool (gOk n)))]
def newG_S : Eng.Spec := fun args av objs => ∃ a : Int, args = [AV.one (.sc (.int a))] ∧ av = newG a ∧ objs = []

def K45 : Nat → List Nat := fun i => ([[0, 2], [0, 2, 6], [2, 3], [2, 3]] : List (List Nat)).getD i []
theorem newGraph_sat : Sat Try.prog 45 newG_S := by
  refine sat_of tok okr mixed K45 Try.func45 rfl (rs := [.cell 2 29, .tmp 3]) rfl rfl ?_
  rintro args av objs ⟨a, rfl, rfl, rfl⟩
  refine ⟨by show 1 ≤ 10; decide, ?_⟩
  repeat (first
    | refine w_op rfl (by simp (disch := omega) [go_sem, Try.ntmps45, -Option.map_eq_some_iff]; rfl) ?_
    | refine l_op rfl (by simp (disch := omega) [go_sem, Try.ntmps45, -Option.map_eq_some_iff]; exact ⟨rfl, rfl⟩) ?_
    | refine w_end (by simp [go_sem, K45]; rfl) ?_
    | refine l_end (by kernel_rfl) (by simp [go_sem, K45]; rfl) ?_
    | refine w_fn within_sat rfl Try.func57 rfl rfl (by first | rfl | (simpa [go_sem, *] using trivial)) rfl rfl (by simp [go_sem]; exact ⟨rfl, rfl⟩) (by exact ⟨_, _, _, rfl, rfl, rfl⟩) (by rfl) (by rfl) (by rfl) (by simp [go_sem]; rfl) ?_
    | refine l_fn within_sat rfl Try.func57 rfl rfl (by first | rfl | (simpa [go_sem, *] using trivial)) rfl rfl (by simp [go_sem]; exact ⟨rfl, rfl⟩) (by exact ⟨_, _, _, rfl, rfl, rfl⟩) (by rfl) (by rfl) (by rfl) (by simp [go_sem]; rfl) ?_
    | refine w_yes' (by simpa [go_sem, *] using trivial) rfl (by simp (disch := omega) [go_sem, Try.ntmps45, -Option.map_eq_some_iff]; rfl) ?_
    | refine w_no' (by simpa [go_sem, *] using trivial) rfl rfl (by simp [go_sem, skipE]; rfl) ?_
    | refine w_op rfl (by simp (disch := omega) [go_sem, Try.ntmps45, -Option.map_eq_some_iff, *]; rfl) ?_
    | refine l_op' (by simpa [go_sem, *] using trivial) rfl (by simp (disch := omega) [go_sem, Try.ntmps45, -Option.map_eq_some_iff, *]; exact ⟨rfl, rfl⟩) ?_
    | refine l_no' (by simpa [go_sem, *] using trivial) rfl rfl (by simp [go_sem, skipE]; rfl) ?_
    | refine k_seq ?_
    | refine a_seq ?_
    | refine a_reg ?_
    | refine a_draw ?_
    | refine k_seq_exit ?_
    | refine k_seq_ret ?_
    | refine k_blk ?_
    | refine k_blk_exit ?_
    | refine k_blk_other rfl ?_
    | refine k_blk_ret ?_
    | refine k_lop_exit ?_
    | refine k_lop_ret ?_
    | refine a_skip ?_
    | refine a_ret ?_
    | refine a_exit ?_
    | refine a_block ?_)
  refine a_cond (by first | rfl | (simp [go_sem]; rfl)) (fun hc => ?_) (fun hc => ?_)
  · repeat (first
    | refine w_op rfl (by simp (disch := omega) [go_sem, -Option.map_eq_some_iff]; rfl) ?_
    | refine l_op rfl (by simp (disch := omega) [go_sem, -Option.map_eq_some_iff]; exact ⟨rfl, rfl⟩) ?_
    | refine w_end (by simp [go_sem, K45]; rfl) ?_
    | refine l_end (by kernel_rfl) (by simp [go_sem, K45]; rfl) ?_
    | refine w_yes' (by simpa [go_sem, *] using trivial) rfl (by simp (disch := omega) [go_sem, -Option.map_eq_some_iff]; rfl) ?_
    | refine w_no' (by simpa [go_sem, *] using trivial) rfl rfl (by simp [go_sem, skipE]; rfl) ?_
    | refine w_op rfl (by simp (disch := omega) [go_sem, -Option.map_eq_some_iff, *]; rfl) ?_
    | refine l_op' (by simpa [go_sem, *] using trivial) rfl (by simp (disch := omega) [go_sem, -Option.map_eq_some_iff, *]; exact ⟨rfl, rfl⟩) ?_
    | refine l_no' (by simpa [go_sem, *] using trivial) rfl rfl (by simp [go_sem, skipE]; rfl) ?_
    | refine k_seq ?_
    | refine a_seq ?_
    | refine a_reg ?_
    | refine a_draw ?_
    | refine k_seq_exit ?_
    | refine k_seq_ret ?_
    | refine k_blk ?_
    | refine k_blk_exit ?_
    | refine k_blk_other rfl ?_
    | refine k_blk_ret ?_
    | refine k_lop_exit ?_
    | refine k_lop_ret ?_
    | refine a_skip ?_
    | refine a_ret ?_
    | refine a_exit ?_
    | refine a_block ?_)
    refine k_ret (by simp [go_sem]; first | exact ⟨rfl, rfl⟩ | rfl) ?_ rfl
    have : ¬ (1 ≤ a ∧ a ≤ 3) := by simp at hc; omega
    simp [newG, gRank, gSize, gOk, this]
  · repeat (first
    | refine w_op rfl (by simp (disch := omega) [go_sem, -Option.map_eq_some_iff]; rfl) ?_
    | refine l_op rfl (by simp (disch := omega) [go_sem, -Option.map_eq_some_iff]; exact ⟨rfl, rfl⟩) ?_
    | refine w_end (by simp [go_sem, K45]; rfl) ?_
    | refine l_end (by kernel_rfl) (by simp [go_sem, K45]; rfl) ?_
    | refine w_yes' (by simpa [go_sem, *] using trivial) rfl (by simp (disch := omega) [go_sem, -Option.map_eq_some_iff]; rfl) ?_
    | refine w_no' (by simpa [go_sem, *] using trivial) rfl rfl (by simp [go_sem, skipE]; rfl) ?_
    | refine w_op rfl (by simp (disch := omega) [go_sem, -Option.map_eq_some_iff, *]; rfl) ?_
    | refine l_op' (by simpa [go_sem, *] using trivial) rfl (by simp (disch := omega) [go_sem, -Option.map_eq_some_iff, *]; exact ⟨rfl, rfl⟩) ?_
    | refine l_no' (by simpa [go_sem, *] using trivial) rfl rfl (by simp [go_sem, skipE]; rfl) ?_
    | refine k_seq ?_
    | refine a_seq ?_
    | refine a_reg ?_
    | refine a_draw ?_
    | refine k_seq_exit ?_
    | refine k_seq_ret ?_
    | refine k_blk ?_
    | refine k_blk_exit ?_
    | refine k_blk_other rfl ?_
    | refine k_blk_ret ?_
    | refine k_lop_exit ?_
    | refine k_lop_ret ?_
    | refine a_skip ?_
    | refine a_ret ?_
    | refine a_exit ?_
    | refine a_block ?_)
    refine k_ret (by simp [go_sem]; first | exact ⟨rfl, rfl⟩ | rfl) ?_ rfl
    have : (1 ≤ a ∧ a ≤ 3) := by simp at hc; omega
    simp [newG, gRank, gSize, gOk, this]

def K44 : Nat → List Nat := fun i => ([[0, 2], [0, 2, 6], [2, 3], [2, 3]] : List (List Nat)).getD i []
theorem newGraph_sat2 : Sat Try.prog 44 newG_S := by
  refine sat_of tok okr mixed K44 Try.func44 rfl (rs := [.cell 2 29, .tmp 3]) rfl rfl ?_
  rintro args av objs ⟨a, rfl, rfl, rfl⟩
  refine ⟨by show 1 ≤ 10; decide, ?_⟩
  repeat (first
    | refine w_op rfl (by simp (disch := omega) [go_sem, Try.ntmps44, -Option.map_eq_some_iff]; rfl) ?_
    | refine l_op rfl (by simp (disch := omega) [go_sem, Try.ntmps44, -Option.map_eq_some_iff]; exact ⟨rfl, rfl⟩) ?_
    | refine w_end (by simp [go_sem, K44]; rfl) ?_
    | refine l_end (by kernel_rfl) (by simp [go_sem, K44]; rfl) ?_
    | refine w_fn l1In_sat rfl Try.func63 rfl rfl (by first | rfl | (simpa [go_sem, *] using trivial)) rfl rfl (by simp [go_sem]; exact ⟨rfl, rfl⟩) (by exact ⟨_, _, _, rfl, rfl, rfl⟩) (by rfl) (by rfl) (by rfl) (by simp [go_sem]; rfl) ?_
    | refine l_fn l1In_sat rfl Try.func63 rfl rfl (by first | rfl | (simpa [go_sem, *] using trivial)) rfl rfl (by simp [go_sem]; exact ⟨rfl, rfl⟩) (by exact ⟨_, _, _, rfl, rfl, rfl⟩) (by rfl) (by rfl) (by rfl) (by simp [go_sem]; rfl) ?_
    | refine w_yes' (by simpa [go_sem, *] using trivial) rfl (by simp (disch := omega) [go_sem, Try.ntmps44, -Option.map_eq_some_iff]; rfl) ?_
    | refine w_no' (by simpa [go_sem, *] using trivial) rfl rfl (by simp [go_sem, skipE]; rfl) ?_
    | refine w_op rfl (by simp (disch := omega) [go_sem, Try.ntmps44, -Option.map_eq_some_iff, *]; rfl) ?_
    | refine l_op' (by simpa [go_sem, *] using trivial) rfl (by simp (disch := omega) [go_sem, Try.ntmps44, -Option.map_eq_some_iff, *]; exact ⟨rfl, rfl⟩) ?_
    | refine l_no' (by simpa [go_sem, *] using trivial) rfl rfl (by simp [go_sem, skipE]; rfl) ?_
    | refine k_seq ?_
    | refine a_seq ?_
    | refine a_reg ?_
    | refine a_draw ?_
    | refine k_seq_exit ?_
    | refine k_seq_ret ?_
    | refine k_blk ?_
    | refine k_blk_exit ?_
    | refine k_blk_other rfl ?_
    | refine k_blk_ret ?_
    | refine k_lop_exit ?_
    | refine k_lop_ret ?_
    | refine a_skip ?_
    | refine a_ret ?_
    | refine a_exit ?_
    | refine a_block ?_)
  refine a_cond (by first | rfl | (simp [go_sem]; rfl)) (fun hc => ?_) (fun hc => ?_)
  · repeat (first
    | refine w_op rfl (by simp (disch := omega) [go_sem, -Option.map_eq_some_iff]; rfl) ?_
    | refine l_op rfl (by simp (disch := omega) [go_sem, -Option.map_eq_some_iff]; exact ⟨rfl, rfl⟩) ?_
    | refine w_end (by simp [go_sem, K44]; rfl) ?_
    | refine l_end (by kernel_rfl) (by simp [go_sem, K44]; rfl) ?_
    | refine w_yes' (by simpa [go_sem, *] using trivial) rfl (by simp (disch := omega) [go_sem, -Option.map_eq_some_iff]; rfl) ?_
    | refine w_no' (by simpa [go_sem, *] using trivial) rfl rfl (by simp [go_sem, skipE]; rfl) ?_
    | refine w_op rfl (by simp (disch := omega) [go_sem, -Option.map_eq_some_iff, *]; rfl) ?_
    | refine l_op' (by simpa [go_sem, *] using trivial) rfl (by simp (disch := omega) [go_sem, -Option.map_eq_some_iff, *]; exact ⟨rfl, rfl⟩) ?_
    | refine l_no' (by simpa [go_sem, *] using trivial) rfl rfl (by simp [go_sem, skipE]; rfl) ?_
    | refine k_seq ?_
    | refine a_seq ?_
    | refine a_reg ?_
    | refine a_draw ?_
    | refine k_seq_exit ?_
    | refine k_seq_ret ?_
    | refine k_blk ?_
    | refine k_blk_exit ?_
    | refine k_blk_other rfl ?_
    | refine k_blk_ret ?_
    | refine k_lop_exit ?_
    | refine k_lop_ret ?_
    | refine a_skip ?_
    | refine a_ret ?_
    | refine a_exit ?_
    | refine a_block ?_)
    refine k_ret (by simp [go_sem]; first | exact ⟨rfl, rfl⟩ | rfl) ?_ rfl
    have : ¬ (1 ≤ a ∧ a ≤ 3) := by simp at hc; omega
    simp [newG, gRank, gSize, gOk, this]
  · repeat (first
    | refine w_op rfl (by simp (disch := omega) [go_sem, -Option.map_eq_some_iff]; rfl) ?_
    | refine l_op rfl (by simp (disch := omega) [go_sem, -Option.map_eq_some_iff]; exact ⟨rfl, rfl⟩) ?_
    | refine w_end (by simp [go_sem, K44]; rfl) ?_
    | refine l_end (by kernel_rfl) (by simp [go_sem, K44]; rfl) ?_
    | refine w_yes' (by simpa [go_sem, *] using trivial) rfl (by simp (disch := omega) [go_sem, -Option.map_eq_some_iff]; rfl) ?_
    | refine w_no' (by simpa [go_sem, *] using trivial) rfl rfl (by simp [go_sem, skipE]; rfl) ?_
    | refine w_op rfl (by simp (disch := omega) [go_sem, -Option.map_eq_some_iff, *]; rfl) ?_
    | refine l_op' (by simpa [go_sem, *] using trivial) rfl (by simp (disch := omega) [go_sem, -Option.map_eq_some_iff, *]; exact ⟨rfl, rfl⟩) ?_
    | refine l_no' (by simpa [go_sem, *] using trivial) rfl rfl (by simp [go_sem, skipE]; rfl) ?_
    | refine k_seq ?_
    | refine a_seq ?_
    | refine a_reg ?_
    | refine a_draw ?_
    | refine k_seq_exit ?_
    | refine k_seq_ret ?_
    | refine k_blk ?_
    | refine k_blk_exit ?_
    | refine k_blk_other rfl ?_
    | refine k_blk_ret ?_
    | refine k_lop_exit ?_
    | refine k_lop_ret ?_
    | refine a_skip ?_
    | refine a_ret ?_
    | refine a_exit ?_
    | refine a_block ?_)
    refine k_ret (by simp [go_sem]; first | exact ⟨rfl, rfl⟩ | rfl) ?_ rfl
    have : (1 ≤ a ∧ a ≤ 3) := by simp at hc; omega
    simp [newG, gRank, gSize, gOk, this]

def K15 : Nat → List Nat := fun i => ([[0, 2], [2, 3]] : List (List Nat)).getD i []
theorem trivial_sat : Sat Try.prog 15 newG_S := by
  refine sat_of tok okr mixed K15 Try.func15 rfl (rs := [.cell 2 29, .tmp 3]) rfl rfl ?_
  rintro args av objs ⟨a, rfl, rfl, rfl⟩
  refine ⟨by show 1 ≤ 8; decide, ?_⟩
  repeat (first
    | refine w_op rfl (by simp (disch := omega) [go_sem, newG, Try.ntmps15, -Option.map_eq_some_iff]; rfl) ?_
    | refine l_op rfl (by simp (disch := omega) [go_sem, newG, Try.ntmps15, -Option.map_eq_some_iff]; exact ⟨rfl, rfl⟩) ?_
    | refine w_end (by simp [go_sem, K15]; rfl) ?_
    | refine l_end (by kernel_rfl) (by simp [go_sem, K15]; rfl) ?_
    | refine w_fn newGraph_sat rfl Try.func45 rfl rfl (by first | rfl | (simpa [go_sem, *] using trivial)) rfl rfl (by simp [go_sem]; exact ⟨rfl, rfl⟩) (by exact ⟨_, rfl, rfl, rfl⟩) (by rfl) (by rfl) (by rfl) (by simp [go_sem]; rfl) ?_
    | refine l_fn newGraph_sat rfl Try.func45 rfl rfl (by first | rfl | (simpa [go_sem, *] using trivial)) rfl rfl (by simp [go_sem]; exact ⟨rfl, rfl⟩) (by exact ⟨_, rfl, rfl, rfl⟩) (by rfl) (by rfl) (by rfl) (by simp [go_sem]; rfl) ?_
    | refine w_yes' (by simpa [go_sem, *] using trivial) rfl (by simp (disch := omega) [go_sem, newG, Try.ntmps15, -Option.map_eq_some_iff]; rfl) ?_
    | refine w_no' (by simpa [go_sem, *] using trivial) rfl rfl (by simp [go_sem, skipE]; rfl) ?_
    | refine w_op rfl (by simp (disch := omega) [go_sem, newG, Try.ntmps15, -Option.map_eq_some_iff, *]; rfl) ?_
    | refine l_op' (by simpa [go_sem, *] using trivial) rfl (by simp (disch := omega) [go_sem, newG, Try.ntmps15, -Option.map_eq_some_iff, *]; exact ⟨rfl, rfl⟩) ?_
    | refine l_no' (by simpa [go_sem, *] using trivial) rfl rfl (by simp [go_sem, skipE]; rfl) ?_
    | refine k_seq ?_
    | refine a_seq ?_
    | refine a_reg ?_
    | refine a_draw ?_
    | refine k_seq_exit ?_
    | refine k_seq_ret ?_
    | refine k_blk ?_
    | refine k_blk_exit ?_
    | refine k_blk_other rfl ?_
    | refine k_blk_ret ?_
    | refine k_lop_exit ?_
    | refine k_lop_ret ?_
    | refine a_skip ?_
    | refine a_ret ?_
    | refine a_exit ?_
    | refine a_block ?_)
  refine k_ret (by simp [go_sem]; first | exact ⟨rfl, rfl⟩ | rfl) ?_ rfl
  rfl

def K14 : Nat → List Nat := fun i => ([[0, 2], [2, 4, 5], [2, 3]] : List (List Nat)).getD i []
theorem trivial_sat2 : Sat Try.prog 14 newG_S := by
  refine sat_of tok okr mixed K14 Try.func14 rfl (rs := [.cell 2 29, .tmp 3]) rfl rfl ?_
  rintro args av objs ⟨a, rfl, rfl, rfl⟩
  refine ⟨by show 1 ≤ 13; decide, ?_⟩
  repeat (first
    | refine w_op rfl (by simp (disch := omega) [go_sem, newG, Try.ntmps14, -Option.map_eq_some_iff]; rfl) ?_
    | refine l_op rfl (by simp (disch := omega) [go_sem, newG, Try.ntmps14, -Option.map_eq_some_iff]; exact ⟨rfl, rfl⟩) ?_
    | refine w_end (by simp [go_sem, K14]; rfl) ?_
    | refine l_end (by kernel_rfl) (by simp [go_sem, K14]; rfl) ?_
    | refine w_fn newGraph_sat2 rfl Try.func44 rfl rfl (by first | rfl | (simpa [go_sem, *] using trivial)) rfl rfl (by simp [go_sem]; exact ⟨rfl, rfl⟩) (by exact ⟨_, rfl, rfl, rfl⟩) (by rfl) (by rfl) (by rfl) (by simp [go_sem]; rfl) ?_
    | refine l_fn newGraph_sat2 rfl Try.func44 rfl rfl (by first | rfl | (simpa [go_sem, *] using trivial)) rfl rfl (by simp [go_sem]; exact ⟨rfl, rfl⟩) (by exact ⟨_, rfl, rfl, rfl⟩) (by rfl) (by rfl) (by rfl) (by simp [go_sem]; rfl) ?_
    | refine w_yes' (by simpa [go_sem, *] using trivial) rfl (by simp (disch := omega) [go_sem, newG, Try.ntmps14, -Option.map_eq_some_iff]; rfl) ?_
    | refine w_no' (by simpa [go_sem, *] using trivial) rfl rfl (by simp [go_sem, skipE]; rfl) ?_
    | refine w_op rfl (by simp (disch := omega) [go_sem, newG, Try.ntmps14, -Option.map_eq_some_iff, *]; rfl) ?_
    | refine l_op' (by simpa [go_sem, *] using trivial) rfl (by simp (disch := omega) [go_sem, newG, Try.ntmps14, -Option.map_eq_some_iff, *]; exact ⟨rfl, rfl⟩) ?_
    | refine l_no' (by simpa [go_sem, *] using trivial) rfl rfl (by simp [go_sem, skipE]; rfl) ?_
    | refine k_seq ?_
    | refine a_seq ?_
    | refine a_reg ?_
    | refine a_draw ?_
    | refine k_seq_exit ?_
    | refine k_seq_ret ?_
    | refine k_blk ?_
    | refine k_blk_exit ?_
    | refine k_blk_other rfl ?_
    | refine k_blk_ret ?_
    | refine k_lop_exit ?_
    | refine k_lop_ret ?_
    | refine a_skip ?_
    | refine a_ret ?_
    | refine a_exit ?_
    | refine a_block ?_)
  refine k_ret (by simp [go_sem]; first | exact ⟨rfl, rfl⟩ | rfl) ?_ rfl
  rfl

attribute [go_sem] newG
def eqEdge_S : Eng.Spec := fun args av objs => ∃ p q : Ed, args = [edA p, edA q] ∧ av = AV.one (.sc (.bool (decide (p = q)))) ∧ objs = []

def K64 : Nat → List Nat := fun i => ([[2, 3], [2, 3, 9], [4], [2, 3, 14], [4], [19], [4], [4]] : List (List Nat)).getD i []
theorem eqEdge_sat : Sat Try.prog 64 eqEdge_S := by
  refine sat_of tok okr mixed K64 Try.func64 rfl (rs := [.tmp 4]) rfl rfl ?_
  rintro args av objs ⟨p, q, rfl, rfl, rfl⟩
  refine ⟨by show 2 ≤ 20; decide, ?_⟩
  repeat (first
    | refine w_op rfl (by simp (disch := omega) [go_sem, Try.ntmps64, edA, -Option.map_eq_some_iff]; rfl) ?_
    | refine l_op rfl (by simp (disch := omega) [go_sem, Try.ntmps64, edA, -Option.map_eq_some_iff]; exact ⟨rfl, rfl⟩) ?_
    | refine w_end (by simp [go_sem, K64]; rfl) ?_
    | refine l_end (by kernel_rfl) (by simp [go_sem, K64]; rfl) ?_
    | refine w_yes' (by simpa [go_sem, *] using trivial) rfl (by simp (disch := omega) [go_sem, Try.ntmps64, edA, -Option.map_eq_some_iff]; rfl) ?_
    | refine w_no' (by simpa [go_sem, *] using trivial) rfl rfl (by simp [go_sem, skipE]; rfl) ?_
    | refine w_op rfl (by simp (disch := omega) [go_sem, Try.ntmps64, edA, -Option.map_eq_some_iff, *]; rfl) ?_
    | refine l_op' (by simpa [go_sem, *] using trivial) rfl (by simp (disch := omega) [go_sem, Try.ntmps64, edA, -Option.map_eq_some_iff, *]; exact ⟨rfl, rfl⟩) ?_
    | refine l_no' (by simpa [go_sem, *] using trivial) rfl rfl (by simp [go_sem, skipE]; rfl) ?_
    | refine k_seq ?_
    | refine a_seq ?_
    | refine a_reg ?_
    | refine a_draw ?_
    | refine k_seq_exit ?_
    | refine k_seq_ret ?_
    | refine k_blk ?_
    | refine k_blk_exit ?_
    | refine k_blk_other rfl ?_
    | refine k_blk_ret ?_
    | refine k_lop_exit ?_
    | refine k_lop_ret ?_
    | refine a_skip ?_
    | refine a_ret ?_
    | refine a_exit ?_
    | refine a_block ?_)
  refine a_cond (by first | rfl | (simp [go_sem]; rfl)) (fun hc => ?_) (fun hc => ?_)
  · repeat (first
    | refine w_op rfl (by simp (disch := omega) [go_sem, -Option.map_eq_some_iff]; rfl) ?_
    | refine l_op rfl (by simp (disch := omega) [go_sem, -Option.map_eq_some_iff]; exact ⟨rfl, rfl⟩) ?_
    | refine w_end (by simp [go_sem, K64]; rfl) ?_
    | refine l_end (by kernel_rfl) (by simp [go_sem, K64]; rfl) ?_
    | refine w_yes' (by simpa [go_sem, *] using trivial) rfl (by simp (disch := omega) [go_sem, -Option.map_eq_some_iff]; rfl) ?_
    | refine w_no' (by simpa [go_sem, *] using trivial) rfl rfl (by simp [go_sem, skipE]; rfl) ?_
    | refine w_op rfl (by simp (disch := omega) [go_sem, -Option.map_eq_some_iff, *]; rfl) ?_
    | refine l_op' (by simpa [go_sem, *] using trivial) rfl (by simp (disch := omega) [go_sem, -Option.map_eq_some_iff, *]; exact ⟨rfl, rfl⟩) ?_
    | refine l_no' (by simpa [go_sem, *] using trivial) rfl rfl (by simp [go_sem, skipE]; rfl) ?_
    | refine k_seq ?_
    | refine a_seq ?_
    | refine a_reg ?_
    | refine a_draw ?_
    | refine k_seq_exit ?_
    | refine k_seq_ret ?_
    | refine k_blk ?_
    | refine k_blk_exit ?_
    | refine k_blk_other rfl ?_
    | refine k_blk_ret ?_
    | refine k_lop_exit ?_
    | refine k_lop_ret ?_
    | refine a_skip ?_
    | refine a_ret ?_
    | refine a_exit ?_
    | refine a_block ?_)
    refine k_ret (by simp [go_sem]; first | exact ⟨rfl, rfl⟩ | rfl) ?_ rfl
    simp at hc
    simp [hc, Prod.ext_iff]
  · repeat (first
    | refine w_op rfl (by simp (disch := omega) [go_sem, -Option.map_eq_some_iff]; rfl) ?_
    | refine l_op rfl (by simp (disch := omega) [go_sem, -Option.map_eq_some_iff]; exact ⟨rfl, rfl⟩) ?_
    | refine w_end (by simp [go_sem, K64]; rfl) ?_
    | refine l_end (by kernel_rfl) (by simp [go_sem, K64]; rfl) ?_
    | refine w_yes' (by simpa [go_sem, *] using trivial) rfl (by simp (disch := omega) [go_sem, -Option.map_eq_some_iff]; rfl) ?_
    | refine w_no' (by simpa [go_sem, *] using trivial) rfl rfl (by simp [go_sem, skipE]; rfl) ?_
    | refine w_op rfl (by simp (disch := omega) [go_sem, -Option.map_eq_some_iff, *]; rfl) ?_
    | refine l_op' (by simpa [go_sem, *] using trivial) rfl (by simp (disch := omega) [go_sem, -Option.map_eq_some_iff, *]; exact ⟨rfl, rfl⟩) ?_
    | refine l_no' (by simpa [go_sem, *] using trivial) rfl rfl (by simp [go_sem, skipE]; rfl) ?_
    | refine k_seq ?_
    | refine a_seq ?_
    | refine a_reg ?_
    | refine a_draw ?_
    | refine k_seq_exit ?_
    | refine k_seq_ret ?_
    | refine k_blk ?_
    | refine k_blk_exit ?_
    | refine k_blk_other rfl ?_
    | refine k_blk_ret ?_
    | refine k_lop_exit ?_
    | refine k_lop_ret ?_
    | refine a_skip ?_
    | refine a_ret ?_
    | refine a_exit ?_
    | refine a_block ?_)
    refine a_cond (by first | rfl | (simp [go_sem]; rfl)) (fun hc => ?_) (fun hc => ?_)
    · repeat (first
    | refine w_op rfl (by simp (disch := omega) [go_sem, -Option.map_eq_some_iff]; rfl) ?_
    | refine l_op rfl (by simp (disch := omega) [go_sem, -Option.map_eq_some_iff]; exact ⟨rfl, rfl⟩) ?_
    | refine w_end (by simp [go_sem, K64]; rfl) ?_
    | refine l_end (by kernel_rfl) (by simp [go_sem, K64]; rfl) ?_
    | refine w_yes' (by simpa [go_sem, *] using trivial) rfl (by simp (disch := omega) [go_sem, -Option.map_eq_some_iff]; rfl) ?_
    | refine w_no' (by simpa [go_sem, *] using trivial) rfl rfl (by simp [go_sem, skipE]; rfl) ?_
    | refine w_op rfl (by simp (disch := omega) [go_sem, -Option.map_eq_some_iff, *]; rfl) ?_
    | refine l_op' (by simpa [go_sem, *] using trivial) rfl (by simp (disch := omega) [go_sem, -Option.map_eq_some_iff, *]; exact ⟨rfl, rfl⟩) ?_
    | refine l_no' (by simpa [go_sem, *] using trivial) rfl rfl (by simp [go_sem, skipE]; rfl) ?_
    | refine k_seq ?_
    | refine a_seq ?_
    | refine a_reg ?_
    | refine a_draw ?_
    | refine k_seq_exit ?_
    | refine k_seq_ret ?_
    | refine k_blk ?_
    | refine k_blk_exit ?_
    | refine k_blk_other rfl ?_
    | refine k_blk_ret ?_
    | refine k_lop_exit ?_
    | refine k_lop_ret ?_
    | refine a_skip ?_
    | refine a_ret ?_
    | refine a_exit ?_
    | refine a_block ?_)
      refine k_ret (by simp [go_sem]; first | exact ⟨rfl, rfl⟩ | rfl) ?_ rfl
      simp at hc
      simp [hc, Prod.ext_iff]
    · repeat (first
    | refine w_op rfl (by simp (disch := omega) [go_sem, -Option.map_eq_some_iff]; rfl) ?_
    | refine l_op rfl (by simp (disch := omega) [go_sem, -Option.map_eq_some_iff]; exact ⟨rfl, rfl⟩) ?_
    | refine w_end (by simp [go_sem, K64]; rfl) ?_
    | refine l_end (by kernel_rfl) (by simp [go_sem, K64]; rfl) ?_
    | refine w_yes' (by simpa [go_sem, *] using trivial) rfl (by simp (disch := omega) [go_sem, -Option.map_eq_some_iff]; rfl) ?_
    | refine w_no' (by simpa [go_sem, *] using trivial) rfl rfl (by simp [go_sem, skipE]; rfl) ?_
    | refine w_op rfl (by simp (disch := omega) [go_sem, -Option.map_eq_some_iff, *]; rfl) ?_
    | refine l_op' (by simpa [go_sem, *] using trivial) rfl (by simp (disch := omega) [go_sem, -Option.map_eq_some_iff, *]; exact ⟨rfl, rfl⟩) ?_
    | refine l_no' (by simpa [go_sem, *] using trivial) rfl rfl (by simp [go_sem, skipE]; rfl) ?_
    | refine k_seq ?_
    | refine a_seq ?_
    | refine a_reg ?_
    | refine a_draw ?_
    | refine k_seq_exit ?_
    | refine k_seq_ret ?_
    | refine k_blk ?_
    | refine k_blk_exit ?_
    | refine k_blk_other rfl ?_
    | refine k_blk_ret ?_
    | refine k_lop_exit ?_
    | refine k_lop_ret ?_
    | refine a_skip ?_
    | refine a_ret ?_
    | refine a_exit ?_
    | refine a_block ?_)
      refine a_cond (by first | rfl | (simp [go_sem]; rfl)) (fun hc => ?_) (fun hc => ?_)
      · repeat (first
    | refine w_op rfl (by simp (disch := omega) [go_sem, -Option.map_eq_some_iff]; rfl) ?_
    | refine l_op rfl (by simp (disch := omega) [go_sem, -Option.map_eq_some_iff]; exact ⟨rfl, rfl⟩) ?_
    | refine w_end (by simp [go_sem, K64]; rfl) ?_
    | refine l_end (by kernel_rfl) (by simp [go_sem, K64]; rfl) ?_
    | refine w_yes' (by simpa [go_sem, *] using trivial) rfl (by simp (disch := omega) [go_sem, -Option.map_eq_some_iff]; rfl) ?_
    | refine w_no' (by simpa [go_sem, *] using trivial) rfl rfl (by simp [go_sem, skipE]; rfl) ?_
    | refine w_op rfl (by simp (disch := omega) [go_sem, -Option.map_eq_some_iff, *]; rfl) ?_
    | refine l_op' (by simpa [go_sem, *] using trivial) rfl (by simp (disch := omega) [go_sem, -Option.map_eq_some_iff, *]; exact ⟨rfl, rfl⟩) ?_
    | refine l_no' (by simpa [go_sem, *] using trivial) rfl rfl (by simp [go_sem, skipE]; rfl) ?_
    | refine k_seq ?_
    | refine a_seq ?_
    | refine a_reg ?_
    | refine a_draw ?_
    | refine k_seq_exit ?_
    | refine k_seq_ret ?_
    | refine k_blk ?_
    | refine k_blk_exit ?_
    | refine k_blk_other rfl ?_
    | refine k_blk_ret ?_
    | refine k_lop_exit ?_
    | refine k_lop_ret ?_
    | refine a_skip ?_
    | refine a_ret ?_
    | refine a_exit ?_
    | refine a_block ?_)
        refine k_ret (by simp [go_sem]; first | exact ⟨rfl, rfl⟩ | rfl) ?_ rfl
        simp at hc
        simp [hc, Prod.ext_iff]
      · repeat (first
    | refine w_op rfl (by simp (disch := omega) [go_sem, -Option.map_eq_some_iff]; rfl) ?_
    | refine l_op rfl (by simp (disch := omega) [go_sem, -Option.map_eq_some_iff]; exact ⟨rfl, rfl⟩) ?_
    | refine w_end (by simp [go_sem, K64]; rfl) ?_
    | refine l_end (by kernel_rfl) (by simp [go_sem, K64]; rfl) ?_
    | refine w_yes' (by simpa [go_sem, *] using trivial) rfl (by simp (disch := omega) [go_sem, -Option.map_eq_some_iff]; rfl) ?_
    | refine w_no' (by simpa [go_sem, *] using trivial) rfl rfl (by simp [go_sem, skipE]; rfl) ?_
    | refine w_op rfl (by simp (disch := omega) [go_sem, -Option.map_eq_some_iff, *]; rfl) ?_
    | refine l_op' (by simpa [go_sem, *] using trivial) rfl (by simp (disch := omega) [go_sem, -Option.map_eq_some_iff, *]; exact ⟨rfl, rfl⟩) ?_
    | refine l_no' (by simpa [go_sem, *] using trivial) rfl rfl (by simp [go_sem, skipE]; rfl) ?_
    | refine k_seq ?_
    | refine a_seq ?_
    | refine a_reg ?_
    | refine a_draw ?_
    | refine k_seq_exit ?_
    | refine k_seq_ret ?_
    | refine k_blk ?_
    | refine k_blk_exit ?_
    | refine k_blk_other rfl ?_
    | refine k_blk_ret ?_
    | refine k_lop_exit ?_
    | refine k_lop_ret ?_
    | refine a_skip ?_
    | refine a_ret ?_
    | refine a_exit ?_
    | refine a_block ?_)
        refine k_ret (by simp [go_sem]; first | exact ⟨rfl, rfl⟩ | rfl) ?_ rfl
        rename_i h1 h2
        simp at hc h1 h2
        simp [*, Prod.ext_iff]

theorem eds_eq {xs ys : List Ed} (hl : xs.length = ys.length) (h : ∀ j, j < xs.length → ed xs j = ed ys j) : xs = ys := by
  apply List.ext_getElem hl
  intro i h1 h2
  have := h i h1
  simpa [ed, h1, h2] using this

def K46 : Nat → List Nat := fun i => ([[0, 1], [0, 1, 10], [4], [0, 1, 5], [0, 1, 5, 14], [0, 1, 5], [0, 1, 5, 26], [4], [4]] : List (List Nat)).getD i []
def eqEdgeS_S : Eng.Spec := fun args av objs => ∃ xs ys : List Ed, xs.length ≤ 1099511627776 ∧ args = [AV.one (.imm 3 (eds xs)), AV.one (.imm 3 (eds ys))] ∧ av = AV.one (.sc (.bool (decide (xs = ys)))) ∧ objs = []
theorem eqEdgeS_sat : Sat Try.prog 46 eqEdgeS_S := by
  refine sat_of tok okr mixed K46 Try.func46 rfl (rs := [.tmp 4]) rfl rfl ?_
  rintro args av objs ⟨xs, ys, hx, rfl, rfl, rfl⟩
  refine ⟨by show 2 ≤ 27; decide, ?_⟩
  repeat (first
    | refine w_op rfl (by simp (disch := omega) [go_sem, Try.ntmps46, -Option.map_eq_some_iff]; rfl) ?_
    | refine l_op rfl (by simp (disch := omega) [go_sem, Try.ntmps46, -Option.map_eq_some_iff]; exact ⟨rfl, rfl⟩) ?_
    | refine w_end (by simp [go_sem, K46]; rfl) ?_
    | refine l_end (by kernel_rfl) (by simp [go_sem, K46]; rfl) ?_
    | refine w_yes' (by simpa [go_sem, *] using trivial) rfl (by simp (disch := omega) [go_sem, Try.ntmps46, -Option.map_eq_some_iff]; rfl) ?_
    | refine w_no' (by simpa [go_sem, *] using trivial) rfl rfl (by simp [go_sem, skipE]; rfl) ?_
    | refine w_op rfl (by simp (disch := omega) [go_sem, Try.ntmps46, -Option.map_eq_some_iff, *]; rfl) ?_
    | refine l_op' (by simpa [go_sem, *] using trivial) rfl (by simp (disch := omega) [go_sem, Try.ntmps46, -Option.map_eq_some_iff, *]; exact ⟨rfl, rfl⟩) ?_
    | refine l_no' (by simpa [go_sem, *] using trivial) rfl rfl (by simp [go_sem, skipE]; rfl) ?_
    | refine k_seq ?_
    | refine a_seq ?_
    | refine a_reg ?_
    | refine a_draw ?_
    | refine k_seq_exit ?_
    | refine k_seq_ret ?_
    | refine k_blk ?_
    | refine k_blk_exit ?_
    | refine k_blk_other rfl ?_
    | refine k_blk_ret ?_
    | refine k_lop_exit ?_
    | refine k_lop_ret ?_
    | refine a_skip ?_
    | refine a_ret ?_
    | refine a_exit ?_
    | refine a_block ?_)
  refine a_cond (by first | rfl | (simp [go_sem]; rfl)) (fun hc => ?_) (fun hc => ?_)
  · repeat (first
    | refine w_op rfl (by simp (disch := omega) [go_sem, -Option.map_eq_some_iff]; rfl) ?_
    | refine l_op rfl (by simp (disch := omega) [go_sem, -Option.map_eq_some_iff]; exact ⟨rfl, rfl⟩) ?_
    | refine w_end (by simp [go_sem, K46]; rfl) ?_
    | refine l_end (by kernel_rfl) (by simp [go_sem, K46]; rfl) ?_
    | refine w_yes' (by simpa [go_sem, *] using trivial) rfl (by simp (disch := omega) [go_sem, -Option.map_eq_some_iff]; rfl) ?_
    | refine w_no' (by simpa [go_sem, *] using trivial) rfl rfl (by simp [go_sem, skipE]; rfl) ?_
    | refine w_op rfl (by simp (disch := omega) [go_sem, -Option.map_eq_some_iff, *]; rfl) ?_
    | refine l_op' (by simpa [go_sem, *] using trivial) rfl (by simp (disch := omega) [go_sem, -Option.map_eq_some_iff, *]; exact ⟨rfl, rfl⟩) ?_
    | refine l_no' (by simpa [go_sem, *] using trivial) rfl rfl (by simp [go_sem, skipE]; rfl) ?_
    | refine k_seq ?_
    | refine a_seq ?_
    | refine a_reg ?_
    | refine a_draw ?_
    | refine k_seq_exit ?_
    | refine k_seq_ret ?_
    | refine k_blk ?_
    | refine k_blk_exit ?_
    | refine k_blk_other rfl ?_
    | refine k_blk_ret ?_
    | refine k_lop_exit ?_
    | refine k_lop_ret ?_
    | refine a_skip ?_
    | refine a_ret ?_
    | refine a_exit ?_
    | refine a_block ?_)
    refine k_ret (by simp [go_sem]; first | exact ⟨rfl, rfl⟩ | rfl) ?_ rfl
    have : ¬ xs = ys := by rintro rfl; simp at hc
    simp [this]
  · have hl : xs.length = ys.length := by simp at hc; omega
    repeat (first
    | refine w_op rfl (by simp (disch := omega) [go_sem, -Option.map_eq_some_iff]; rfl) ?_
    | refine l_op rfl (by simp (disch := omega) [go_sem, -Option.map_eq_some_iff]; exact ⟨rfl, rfl⟩) ?_
    | refine w_end (by simp [go_sem, K46]; rfl) ?_
    | refine l_end (by kernel_rfl) (by simp [go_sem, K46]; rfl) ?_
    | refine w_yes' (by simpa [go_sem, *] using trivial) rfl (by simp (disch := omega) [go_sem, -Option.map_eq_some_iff]; rfl) ?_
    | refine w_no' (by simpa [go_sem, *] using trivial) rfl rfl (by simp [go_sem, skipE]; rfl) ?_
    | refine w_op rfl (by simp (disch := omega) [go_sem, -Option.map_eq_some_iff, *]; rfl) ?_
    | refine l_op' (by simpa [go_sem, *] using trivial) rfl (by simp (disch := omega) [go_sem, -Option.map_eq_some_iff, *]; exact ⟨rfl, rfl⟩) ?_
    | refine l_no' (by simpa [go_sem, *] using trivial) rfl rfl (by simp [go_sem, skipE]; rfl) ?_
    | refine k_seq ?_
    | refine a_seq ?_
    | refine a_reg ?_
    | refine a_draw ?_
    | refine k_seq_exit ?_
    | refine k_seq_ret ?_
    | refine k_blk ?_
    | refine k_blk_exit ?_
    | refine k_blk_other rfl ?_
    | refine k_blk_ret ?_
    | refine k_lop_exit ?_
    | refine k_lop_ret ?_
    | refine a_skip ?_
    | refine a_ret ?_
    | refine a_exit ?_
    | refine a_block ?_)
    refine a_loop (fun i : Nat => ⟨27, [(0, AV.one (.imm 3 (eds xs))), (1, AV.one (.imm 3 (eds ys))), (5, AV.one (.sc (.int i)))], [], []⟩) (fun i => i ≤ xs.length ∧ ∀ j, j < i → ed xs j = ed ys j) (fun i => xs.length - i) 0 ⟨by omega, fun j hj => by omega⟩ (Weak.refl _) ?_
    rintro i ⟨hi, hall⟩
    repeat (first
    | refine w_op rfl (by simp (disch := omega) [go_sem, -Option.map_eq_some_iff]; rfl) ?_
    | refine l_op rfl (by simp (disch := omega) [go_sem, -Option.map_eq_some_iff]; exact ⟨rfl, rfl⟩) ?_
    | refine w_end (by simp [go_sem, K46]; rfl) ?_
    | refine l_end (by kernel_rfl) (by simp [go_sem, K46]; rfl) ?_
    | refine w_yes' (by simpa [go_sem, *] using trivial) rfl (by simp (disch := omega) [go_sem, -Option.map_eq_some_iff]; rfl) ?_
    | refine w_no' (by simpa [go_sem, *] using trivial) rfl rfl (by simp [go_sem, skipE]; rfl) ?_
    | refine w_op rfl (by simp (disch := omega) [go_sem, -Option.map_eq_some_iff, *]; rfl) ?_
    | refine l_op' (by simpa [go_sem, *] using trivial) rfl (by simp (disch := omega) [go_sem, -Option.map_eq_some_iff, *]; exact ⟨rfl, rfl⟩) ?_
    | refine l_no' (by simpa [go_sem, *] using trivial) rfl rfl (by simp [go_sem, skipE]; rfl) ?_
    | refine k_seq ?_
    | refine a_seq ?_
    | refine a_reg ?_
    | refine a_draw ?_
    | refine k_seq_exit ?_
    | refine k_seq_ret ?_
    | refine k_blk ?_
    | refine k_blk_exit ?_
    | refine k_blk_other rfl ?_
    | refine k_blk_ret ?_
    | refine k_lop_exit ?_
    | refine k_lop_ret ?_
    | refine a_skip ?_
    | refine a_ret ?_
    | refine a_exit ?_
    | refine a_block ?_)
    refine a_cond (by first | rfl | (simp [go_sem]; rfl)) (fun hc => ?_) (fun hc => ?_)
    · simp at hc
      repeat (first
    | refine w_op rfl (by simp (disch := omega) [go_sem, -Option.map_eq_some_iff]; rfl) ?_
    | refine l_op rfl (by simp (disch := omega) [go_sem, -Option.map_eq_some_iff]; exact ⟨rfl, rfl⟩) ?_
    | refine w_end (by simp [go_sem, K46]; rfl) ?_
    | refine l_end (by kernel_rfl) (by simp [go_sem, K46]; rfl) ?_
    | refine w_fn eqEdge_sat rfl Try.func64 rfl rfl (by first | rfl | (simpa [go_sem, *] using trivial)) rfl rfl (by simp [go_sem]; exact ⟨rfl, rfl⟩) (by exact ⟨_, _, rfl, rfl, rfl⟩) (by rfl) (by rfl) (by rfl) (by simp [go_sem]; rfl) ?_
    | refine l_fn eqEdge_sat rfl Try.func64 rfl rfl (by first | rfl | (simpa [go_sem, *] using trivial)) rfl rfl (by simp [go_sem]; exact ⟨rfl, rfl⟩) (by exact ⟨_, _, rfl, rfl, rfl⟩) (by rfl) (by rfl) (by rfl) (by simp [go_sem]; rfl) ?_
    | refine w_yes' (by simpa [go_sem, *] using trivial) rfl (by simp (disch := omega) [go_sem, -Option.map_eq_some_iff]; rfl) ?_
    | refine w_no' (by simpa [go_sem, *] using trivial) rfl rfl (by simp [go_sem, skipE]; rfl) ?_
    | refine w_op rfl (by simp (disch := omega) [go_sem, -Option.map_eq_some_iff, *]; rfl) ?_
    | refine l_op' (by simpa [go_sem, *] using trivial) rfl (by simp (disch := omega) [go_sem, -Option.map_eq_some_iff, *]; exact ⟨rfl, rfl⟩) ?_
    | refine l_no' (by simpa [go_sem, *] using trivial) rfl rfl (by simp [go_sem, skipE]; rfl) ?_
    | refine k_seq ?_
    | refine a_seq ?_
    | refine a_reg ?_
    | refine a_draw ?_
    | refine k_seq_exit ?_
    | refine k_seq_ret ?_
    | refine k_blk ?_
    | refine k_blk_exit ?_
    | refine k_blk_other rfl ?_
    | refine k_blk_ret ?_
    | refine k_lop_exit ?_
    | refine k_lop_ret ?_
    | refine a_skip ?_
    | refine a_ret ?_
    | refine a_exit ?_
    | refine a_block ?_)
      refine a_cond (by first | rfl | (simp [go_sem]; rfl)) (fun hc => ?_) (fun hc => ?_)
      · repeat (first
    | refine w_op rfl (by simp (disch := omega) [go_sem, -Option.map_eq_some_iff]; rfl) ?_
    | refine l_op rfl (by simp (disch := omega) [go_sem, -Option.map_eq_some_iff]; exact ⟨rfl, rfl⟩) ?_
    | refine w_end (by simp [go_sem, K46]; rfl) ?_
    | refine l_end (by kernel_rfl) (by simp [go_sem, K46]; rfl) ?_
    | refine w_yes' (by simpa [go_sem, *] using trivial) rfl (by simp (disch := omega) [go_sem, -Option.map_eq_some_iff]; rfl) ?_
    | refine w_no' (by simpa [go_sem, *] using trivial) rfl rfl (by simp [go_sem, skipE]; rfl) ?_
    | refine w_op rfl (by simp (disch := omega) [go_sem, -Option.map_eq_some_iff, *]; rfl) ?_
    | refine l_op' (by simpa [go_sem, *] using trivial) rfl (by simp (disch := omega) [go_sem, -Option.map_eq_some_iff, *]; exact ⟨rfl, rfl⟩) ?_
    | refine l_no' (by simpa [go_sem, *] using trivial) rfl rfl (by simp [go_sem, skipE]; rfl) ?_
    | refine k_seq ?_
    | refine a_seq ?_
    | refine a_reg ?_
    | refine a_draw ?_
    | refine k_seq_exit ?_
    | refine k_seq_ret ?_
    | refine k_blk ?_
    | refine k_blk_exit ?_
    | refine k_blk_other rfl ?_
    | refine k_blk_ret ?_
    | refine k_lop_exit ?_
    | refine k_lop_ret ?_
    | refine a_skip ?_
    | refine a_ret ?_
    | refine a_exit ?_
    | refine a_block ?_)
        refine k_ret (by simp [go_sem]; first | exact ⟨rfl, rfl⟩ | rfl) ?_ rfl
        have : ¬ xs = ys := by rintro rfl; simp at hc
        simp [this]
      · repeat (first
    | refine w_op rfl (by simp (disch := omega) [go_sem, -Option.map_eq_some_iff]; rfl) ?_
    | refine l_op rfl (by simp (disch := omega) [go_sem, -Option.map_eq_some_iff]; exact ⟨rfl, rfl⟩) ?_
    | refine w_end (by simp [go_sem, K46]; rfl) ?_
    | refine l_end (by kernel_rfl) (by simp [go_sem, K46]; rfl) ?_
    | refine w_yes' (by simpa [go_sem, *] using trivial) rfl (by simp (disch := omega) [go_sem, -Option.map_eq_some_iff]; rfl) ?_
    | refine w_no' (by simpa [go_sem, *] using trivial) rfl rfl (by simp [go_sem, skipE]; rfl) ?_
    | refine w_op rfl (by simp (disch := omega) [go_sem, -Option.map_eq_some_iff, *]; rfl) ?_
    | refine l_op' (by simpa [go_sem, *] using trivial) rfl (by simp (disch := omega) [go_sem, -Option.map_eq_some_iff, *]; exact ⟨rfl, rfl⟩) ?_
    | refine l_no' (by simpa [go_sem, *] using trivial) rfl rfl (by simp [go_sem, skipE]; rfl) ?_
    | refine k_seq ?_
    | refine a_seq ?_
    | refine a_reg ?_
    | refine a_draw ?_
    | refine k_seq_exit ?_
    | refine k_seq_ret ?_
    | refine k_blk ?_
    | refine k_blk_exit ?_
    | refine k_blk_other rfl ?_
    | refine k_blk_ret ?_
    | refine k_lop_exit ?_
    | refine k_lop_ret ?_
    | refine a_skip ?_
    | refine a_ret ?_
    | refine a_exit ?_
    | refine a_block ?_)
        simp at hc
        refine k_lop (i + 1) ⟨by omega, fun j hj => ?_⟩ (by omega) (Weak.refl _)
        rcases Nat.lt_or_ge j i with h | h
        · exact hall j h
        · have : j = i := by omega
          subst this; assumption
    · simp at hc
      repeat (first
    | refine w_op rfl (by simp (disch := omega) [go_sem, -Option.map_eq_some_iff]; rfl) ?_
    | refine l_op rfl (by simp (disch := omega) [go_sem, -Option.map_eq_some_iff]; exact ⟨rfl, rfl⟩) ?_
    | refine w_end (by simp [go_sem, K46]; rfl) ?_
    | refine l_end (by kernel_rfl) (by simp [go_sem, K46]; rfl) ?_
    | refine w_yes' (by simpa [go_sem, *] using trivial) rfl (by simp (disch := omega) [go_sem, -Option.map_eq_some_iff]; rfl) ?_
    | refine w_no' (by simpa [go_sem, *] using trivial) rfl rfl (by simp [go_sem, skipE]; rfl) ?_
    | refine w_op rfl (by simp (disch := omega) [go_sem, -Option.map_eq_some_iff, *]; rfl) ?_
    | refine l_op' (by simpa [go_sem, *] using trivial) rfl (by simp (disch := omega) [go_sem, -Option.map_eq_some_iff, *]; exact ⟨rfl, rfl⟩) ?_
    | refine l_no' (by simpa [go_sem, *] using trivial) rfl rfl (by simp [go_sem, skipE]; rfl) ?_
    | refine k_seq ?_
    | refine a_seq ?_
    | refine a_reg ?_
    | refine a_draw ?_
    | refine k_seq_exit ?_
    | refine k_seq_ret ?_
    | refine k_blk ?_
    | refine k_blk_exit ?_
    | refine k_blk_other rfl ?_
    | refine k_blk_ret ?_
    | refine k_lop_exit ?_
    | refine k_lop_ret ?_
    | refine a_skip ?_
    | refine a_ret ?_
    | refine a_exit ?_
    | refine a_block ?_)
      refine k_ret (by simp [go_sem]; first | exact ⟨rfl, rfl⟩ | rfl) ?_ rfl
      have := eds_eq hl (fun j hj => hall j (by omega))
      simp [this]

def K16 : Nat → List Nat := fun i => ([[2, 3], [2, 3, 9], [4], [2, 3, 14], [4], [20], [4], [4]] : List (List Nat)).getD i []
def grA (r z : Int) (es : List Ed) : AV := .agg [.sc (.int r), .sc (.int z), .imm 3 (eds es)]
def eqGraph_S : Eng.Spec := fun args av objs => ∃ (r z : Int) (es : List Ed) (r' z' : Int) (es' : List Ed), es.length ≤ 1099511627776 ∧ args = [grA r z es, grA r' z' es'] ∧ av = AV.one (.sc (.bool (decide (r = r' ∧ z = z' ∧ es = es')))) ∧ objs = []
theorem eqGraph_sat : Sat Try.prog 16 eqGraph_S := by
  refine sat_of tok okr mixed K16 Try.func16 rfl (rs := [.tmp 4]) rfl rfl ?_
  rintro args av objs ⟨r, z, es, r', z', es', hl, rfl, rfl, rfl⟩
  refine ⟨by show 2 ≤ 21; decide, ?_⟩
  repeat (first
    | refine w_op rfl (by simp (disch := omega) [go_sem, Try.ntmps16, grA, -Option.map_eq_some_iff]; rfl) ?_
    | refine l_op rfl (by simp (disch := omega) [go_sem, Try.ntmps16, grA, -Option.map_eq_some_iff]; exact ⟨rfl, rfl⟩) ?_
    | refine w_end (by simp [go_sem, K16]; rfl) ?_
    | refine l_end (by kernel_rfl) (by simp [go_sem, K16]; rfl) ?_
    | refine w_yes' (by simpa [go_sem, *] using trivial) rfl (by simp (disch := omega) [go_sem, Try.ntmps16, grA, -Option.map_eq_some_iff]; rfl) ?_
    | refine w_no' (by simpa [go_sem, *] using trivial) rfl rfl (by simp [go_sem, skipE]; rfl) ?_
    | refine w_op rfl (by simp (disch := omega) [go_sem, Try.ntmps16, grA, -Option.map_eq_some_iff, *]; rfl) ?_
    | refine l_op' (by simpa [go_sem, *] using trivial) rfl (by simp (disch := omega) [go_sem, Try.ntmps16, grA, -Option.map_eq_some_iff, *]; exact ⟨rfl, rfl⟩) ?_
    | refine l_no' (by simpa [go_sem, *] using trivial) rfl rfl (by simp [go_sem, skipE]; rfl) ?_
    | refine k_seq ?_
    | refine a_seq ?_
    | refine a_reg ?_
    | refine a_draw ?_
    | refine k_seq_exit ?_
    | refine k_seq_ret ?_
    | refine k_blk ?_
    | refine k_blk_exit ?_
    | refine k_blk_other rfl ?_
    | refine k_blk_ret ?_
    | refine k_lop_exit ?_
    | refine k_lop_ret ?_
    | refine a_skip ?_
    | refine a_ret ?_
    | refine a_exit ?_
    | refine a_block ?_)
  refine a_cond (by first | rfl | (simp [go_sem]; rfl)) (fun hc => ?_) (fun hc => ?_)
  · repeat (first
    | refine w_op rfl (by simp (disch := omega) [go_sem, -Option.map_eq_some_iff]; rfl) ?_
    | refine l_op rfl (by simp (disch := omega) [go_sem, -Option.map_eq_some_iff]; exact ⟨rfl, rfl⟩) ?_
    | refine w_end (by simp [go_sem, K16]; rfl) ?_
    | refine l_end (by kernel_rfl) (by simp [go_sem, K16]; rfl) ?_
    | refine w_yes' (by simpa [go_sem, *] using trivial) rfl (by simp (disch := omega) [go_sem, -Option.map_eq_some_iff]; rfl) ?_
    | refine w_no' (by simpa [go_sem, *] using trivial) rfl rfl (by simp [go_sem, skipE]; rfl) ?_
    | refine w_op rfl (by simp (disch := omega) [go_sem, -Option.map_eq_some_iff, *]; rfl) ?_
    | refine l_op' (by simpa [go_sem, *] using trivial) rfl (by simp (disch := omega) [go_sem, -Option.map_eq_some_iff, *]; exact ⟨rfl, rfl⟩) ?_
    | refine l_no' (by simpa [go_sem, *] using trivial) rfl rfl (by simp [go_sem, skipE]; rfl) ?_
    | refine k_seq ?_
    | refine a_seq ?_
    | refine a_reg ?_
    | refine a_draw ?_
    | refine k_seq_exit ?_
    | refine k_seq_ret ?_
    | refine k_blk ?_
    | refine k_blk_exit ?_
    | refine k_blk_other rfl ?_
    | refine k_blk_ret ?_
    | refine k_lop_exit ?_
    | refine k_lop_ret ?_
    | refine a_skip ?_
    | refine a_ret ?_
    | refine a_exit ?_
    | refine a_block ?_)
    refine k_ret (by simp [go_sem]; first | exact ⟨rfl, rfl⟩ | rfl) ?_ rfl
    simp at hc
    simp [hc]
  · repeat (first
    | refine w_op rfl (by simp (disch := omega) [go_sem, -Option.map_eq_some_iff]; rfl) ?_
    | refine l_op rfl (by simp (disch := omega) [go_sem, -Option.map_eq_some_iff]; exact ⟨rfl, rfl⟩) ?_
    | refine w_end (by simp [go_sem, K16]; rfl) ?_
    | refine l_end (by kernel_rfl) (by simp [go_sem, K16]; rfl) ?_
    | refine w_yes' (by simpa [go_sem, *] using trivial) rfl (by simp (disch := omega) [go_sem, -Option.map_eq_some_iff]; rfl) ?_
    | refine w_no' (by simpa [go_sem, *] using trivial) rfl rfl (by simp [go_sem, skipE]; rfl) ?_
    | refine w_op rfl (by simp (disch := omega) [go_sem, -Option.map_eq_some_iff, *]; rfl) ?_
    | refine l_op' (by simpa [go_sem, *] using trivial) rfl (by simp (disch := omega) [go_sem, -Option.map_eq_some_iff, *]; exact ⟨rfl, rfl⟩) ?_
    | refine l_no' (by simpa [go_sem, *] using trivial) rfl rfl (by simp [go_sem, skipE]; rfl) ?_
    | refine k_seq ?_
    | refine a_seq ?_
    | refine a_reg ?_
    | refine a_draw ?_
    | refine k_seq_exit ?_
    | refine k_seq_ret ?_
    | refine k_blk ?_
    | refine k_blk_exit ?_
    | refine k_blk_other rfl ?_
    | refine k_blk_ret ?_
    | refine k_lop_exit ?_
    | refine k_lop_ret ?_
    | refine a_skip ?_
    | refine a_ret ?_
    | refine a_exit ?_
    | refine a_block ?_)
    refine a_cond (by first | rfl | (simp [go_sem]; rfl)) (fun hc => ?_) (fun hc => ?_)
    · repeat (first
    | refine w_op rfl (by simp (disch := omega) [go_sem, -Option.map_eq_some_iff]; rfl) ?_
    | refine l_op rfl (by simp (disch := omega) [go_sem, -Option.map_eq_some_iff]; exact ⟨rfl, rfl⟩) ?_
    | refine w_end (by simp [go_sem, K16]; rfl) ?_
    | refine l_end (by kernel_rfl) (by simp [go_sem, K16]; rfl) ?_
    | refine w_yes' (by simpa [go_sem, *] using trivial) rfl (by simp (disch := omega) [go_sem, -Option.map_eq_some_iff]; rfl) ?_
    | refine w_no' (by simpa [go_sem, *] using trivial) rfl rfl (by simp [go_sem, skipE]; rfl) ?_
    | refine w_op rfl (by simp (disch := omega) [go_sem, -Option.map_eq_some_iff, *]; rfl) ?_
    | refine l_op' (by simpa [go_sem, *] using trivial) rfl (by simp (disch := omega) [go_sem, -Option.map_eq_some_iff, *]; exact ⟨rfl, rfl⟩) ?_
    | refine l_no' (by simpa [go_sem, *] using trivial) rfl rfl (by simp [go_sem, skipE]; rfl) ?_
    | refine k_seq ?_
    | refine a_seq ?_
    | refine a_reg ?_
    | refine a_draw ?_
    | refine k_seq_exit ?_
    | refine k_seq_ret ?_
    | refine k_blk ?_
    | refine k_blk_exit ?_
    | refine k_blk_other rfl ?_
    | refine k_blk_ret ?_
    | refine k_lop_exit ?_
    | refine k_lop_ret ?_
    | refine a_skip ?_
    | refine a_ret ?_
    | refine a_exit ?_
    | refine a_block ?_)
      refine k_ret (by simp [go_sem]; first | exact ⟨rfl, rfl⟩ | rfl) ?_ rfl
      simp at hc
      simp [hc]
    · repeat (first
    | refine w_op rfl (by simp (disch := omega) [go_sem, -Option.map_eq_some_iff]; rfl) ?_
    | refine l_op rfl (by simp (disch := omega) [go_sem, -Option.map_eq_some_iff]; exact ⟨rfl, rfl⟩) ?_
    | refine w_end (by simp [go_sem, K16]; rfl) ?_
    | refine l_end (by kernel_rfl) (by simp [go_sem, K16]; rfl) ?_
    | refine w_yes' (by simpa [go_sem, *] using trivial) rfl (by simp (disch := omega) [go_sem, -Option.map_eq_some_iff]; rfl) ?_
    | refine w_no' (by simpa [go_sem, *] using trivial) rfl rfl (by simp [go_sem, skipE]; rfl) ?_
    | refine w_op rfl (by simp (disch := omega) [go_sem, -Option.map_eq_some_iff, *]; rfl) ?_
    | refine l_op' (by simpa [go_sem, *] using trivial) rfl (by simp (disch := omega) [go_sem, -Option.map_eq_some_iff, *]; exact ⟨rfl, rfl⟩) ?_
    | refine l_no' (by simpa [go_sem, *] using trivial) rfl rfl (by simp [go_sem, skipE]; rfl) ?_
    | refine k_seq ?_
    | refine a_seq ?_
    | refine a_reg ?_
    | refine a_draw ?_
    | refine k_seq_exit ?_
    | refine k_seq_ret ?_
    | refine k_blk ?_
    | refine k_blk_exit ?_
    | refine k_blk_other rfl ?_
    | refine k_blk_ret ?_
    | refine k_lop_exit ?_
    | refine k_lop_ret ?_
    | refine a_skip ?_
    | refine a_ret ?_
    | refine a_exit ?_
    | refine a_block ?_)
      refine w_fn eqEdgeS_sat rfl Try.func46 rfl rfl (by first | rfl | (simpa [go_sem, *] using trivial)) rfl rfl (by simp [go_sem]; exact ⟨rfl, rfl⟩) (by exact ⟨_, _, hl, rfl, rfl, rfl⟩) (by rfl) (by rfl) (by rfl) (by simp [go_sem]; rfl) ?_
      repeat (first
    | refine w_op rfl (by simp (disch := omega) [go_sem, -Option.map_eq_some_iff]; rfl) ?_
    | refine l_op rfl (by simp (disch := omega) [go_sem, -Option.map_eq_some_iff]; exact ⟨rfl, rfl⟩) ?_
    | refine w_end (by simp [go_sem, K16]; rfl) ?_
    | refine l_end (by kernel_rfl) (by simp [go_sem, K16]; rfl) ?_
    | refine w_yes' (by simpa [go_sem, *] using trivial) rfl (by simp (disch := omega) [go_sem, -Option.map_eq_some_iff]; rfl) ?_
    | refine w_no' (by simpa [go_sem, *] using trivial) rfl rfl (by simp [go_sem, skipE]; rfl) ?_
    | refine w_op rfl (by simp (disch := omega) [go_sem, -Option.map_eq_some_iff, *]; rfl) ?_
    | refine l_op' (by simpa [go_sem, *] using trivial) rfl (by simp (disch := omega) [go_sem, -Option.map_eq_some_iff, *]; exact ⟨rfl, rfl⟩) ?_
    | refine l_no' (by simpa [go_sem, *] using trivial) rfl rfl (by simp [go_sem, skipE]; rfl) ?_
    | refine k_seq ?_
    | refine a_seq ?_
    | refine a_reg ?_
    | refine a_draw ?_
    | refine k_seq_exit ?_
    | refine k_seq_ret ?_
    | refine k_blk ?_
    | refine k_blk_exit ?_
    | refine k_blk_other rfl ?_
    | refine k_blk_ret ?_
    | refine k_lop_exit ?_
    | refine k_lop_ret ?_
    | refine a_skip ?_
    | refine a_ret ?_
    | refine a_exit ?_
    | refine a_block ?_)
      refine a_cond (by first | rfl | (simp [go_sem]; rfl)) (fun hc => ?_) (fun hc => ?_)
      · repeat (first
    | refine w_op rfl (by simp (disch := omega) [go_sem, -Option.map_eq_some_iff]; rfl) ?_
    | refine l_op rfl (by simp (disch := omega) [go_sem, -Option.map_eq_some_iff]; exact ⟨rfl, rfl⟩) ?_
    | refine w_end (by simp [go_sem, K16]; rfl) ?_
    | refine l_end (by kernel_rfl) (by simp [go_sem, K16]; rfl) ?_
    | refine w_yes' (by simpa [go_sem, *] using trivial) rfl (by simp (disch := omega) [go_sem, -Option.map_eq_some_iff]; rfl) ?_
    | refine w_no' (by simpa [go_sem, *] using trivial) rfl rfl (by simp [go_sem, skipE]; rfl) ?_
    | refine w_op rfl (by simp (disch := omega) [go_sem, -Option.map_eq_some_iff, *]; rfl) ?_
    | refine l_op' (by simpa [go_sem, *] using trivial) rfl (by simp (disch := omega) [go_sem, -Option.map_eq_some_iff, *]; exact ⟨rfl, rfl⟩) ?_
    | refine l_no' (by simpa [go_sem, *] using trivial) rfl rfl (by simp [go_sem, skipE]; rfl) ?_
    | refine k_seq ?_
    | refine a_seq ?_
    | refine a_reg ?_
    | refine a_draw ?_
    | refine k_seq_exit ?_
    | refine k_seq_ret ?_
    | refine k_blk ?_
    | refine k_blk_exit ?_
    | refine k_blk_other rfl ?_
    | refine k_blk_ret ?_
    | refine k_lop_exit ?_
    | refine k_lop_ret ?_
    | refine a_skip ?_
    | refine a_ret ?_
    | refine a_exit ?_
    | refine a_block ?_)
        refine k_ret (by simp [go_sem]; first | exact ⟨rfl, rfl⟩ | rfl) ?_ rfl
        simp at hc
        simp [hc]
      · repeat (first
    | refine w_op rfl (by simp (disch := omega) [go_sem, -Option.map_eq_some_iff]; rfl) ?_
    | refine l_op rfl (by simp (disch := omega) [go_sem, -Option.map_eq_some_iff]; exact ⟨rfl, rfl⟩) ?_
    | refine w_end (by simp [go_sem, K16]; rfl) ?_
    | refine l_end (by kernel_rfl) (by simp [go_sem, K16]; rfl) ?_
    | refine w_yes' (by simpa [go_sem, *] using trivial) rfl (by simp (disch := omega) [go_sem, -Option.map_eq_some_iff]; rfl) ?_
    | refine w_no' (by simpa [go_sem, *] using trivial) rfl rfl (by simp [go_sem, skipE]; rfl) ?_
    | refine w_op rfl (by simp (disch := omega) [go_sem, -Option.map_eq_some_iff, *]; rfl) ?_
    | refine l_op' (by simpa [go_sem, *] using trivial) rfl (by simp (disch := omega) [go_sem, -Option.map_eq_some_iff, *]; exact ⟨rfl, rfl⟩) ?_
    | refine l_no' (by simpa [go_sem, *] using trivial) rfl rfl (by simp [go_sem, skipE]; rfl) ?_
    | refine k_seq ?_
    | refine a_seq ?_
    | refine a_reg ?_
    | refine a_draw ?_
    | refine k_seq_exit ?_
    | refine k_seq_ret ?_
    | refine k_blk ?_
    | refine k_blk_exit ?_
    | refine k_blk_other rfl ?_
    | refine k_blk_ret ?_
    | refine k_lop_exit ?_
    | refine k_lop_ret ?_
    | refine a_skip ?_
    | refine a_ret ?_
    | refine a_exit ?_
    | refine a_block ?_)
        refine k_ret (by simp [go_sem]; first | exact ⟨rfl, rfl⟩ | rfl) ?_ rfl
        rename_i h1 h2
        simp at hc h1 h2
        simp [*]
end Go.Proofs.Try
