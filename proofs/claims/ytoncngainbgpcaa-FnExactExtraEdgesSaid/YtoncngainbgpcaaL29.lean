import Derived.Test.YtoncngainbgpcaaW
import Derived.Test.YtoncngainbgpcaaB
set_option linter.unusedVariables false
set_option linter.unusedSimpArgs false
set_option linter.unnecessarySimpa false
namespace Go.Proofs.Try
open Go Go.Eng
set_option linter.unnecessarySimpa false
set_option linter.unusedSimpArgs false
set_option maxHeartbeats 4000000
def K_law29 : Nat → List Nat := fun i => ([[1], [1, 3], [1, 3], [1, 15], [2], [1, 4], [1, 4, 5], [1, 4, 5, 6], [1, 4, 5, 6, 26], [2], [1, 4, 5, 6, 31], [2], [1, 4, 5, 6, 7], [1, 4, 6, 7], [1, 4, 6, 42], [2], [1, 4, 6, 8], [1, 4, 6, 8], [1, 4, 6, 8, 9], [1, 4, 6, 8, 9], [1, 4, 6, 8, 9, 50], [2], [1, 4, 6, 8, 53], [2], [4, 6, 8, 10], [6, 8, 60], [2], [6, 8, 9], [8, 9], [8, 9, 65], [2], [68], [2], [2]] : List (List Nat)).getD i []
attribute [go_sem] K_law29
def law29_S : Eng.Spec := fun args av objs => ∃ (r z : Int) (es : List Ed), ((es.length ≤ 9223372036854775807)) ∧ args = [grA r z es] ∧ av = aB true ∧ objs = []
theorem law29 : Sat Try.prog 7 law29_S := by
  refine sat_of tok okr mixed K_law29 Try.func7 rfl (rs := [.tmp 2]) rfl Try.ntmps7 ?_
  rintro args av objs ⟨r, z, es, hpre, rfl, rfl, rfl⟩
  refine ⟨by show 1 ≤ 69; decide, ?_⟩
  by_cases hs0 : es.length ≤ 1048576
  · have hm := extL_len (r := r) (z := z) (es := es)
    repeat' (first
    | (refine ya ?_; first | (refine yb ?_; first | refine yc ?_ | refine yr ?_) | refine ye ?_)
    | (refine yg ?_; intro hgs; first | ((first | replace hgs := gv_tt hgs | replace hgs := gv_ff hgs); (first | (refine yb ?_; first | refine yc ?_ | refine yr ?_) | refine yy hgs ?_); clear hgs) | ((first | replace hgs := gv_tf hgs | replace hgs := gv_ft hgs); refine yn hgs ?_; clear hgs) | ((fail_if_success first | (have := gv_tt hgs) | (have := gv_ff hgs)); refine z_spl hgs (h1 := ?_) (h2 := ?_) <;> clear hgs <;> intro hg hr <;> (try first | contradiction | (exfalso; omega))))
    | refine yz ?_
    | (refine yA ?_; first | (refine yB ?_; first | refine yC ?_ | refine yR ?_) | refine yE ?_)
    | (refine yG ?_; intro hgs; first | ((first | replace hgs := gv_tt hgs | replace hgs := gv_ff hgs); (first | (refine yB ?_; first | refine yC ?_ | refine yR ?_) | refine yY hgs ?_); clear hgs) | ((first | replace hgs := gv_tf hgs | replace hgs := gv_ft hgs); refine yN hgs ?_; clear hgs) | ((fail_if_success first | (have := gv_tt hgs) | (have := gv_ff hgs)); refine z_spll hgs (h1 := ?_) (h2 := ?_) <;> clear hgs <;> intro hg hr <;> (try first | contradiction | (exfalso; omega))))
    | refine yZ ?_
    | refine k_seq ?_
    | refine a_seq ?_
    | refine a_reg ?_
    | refine a_draw ?_
    | refine k_seq_exit ?_
    | refine k_blk ?_
    | refine k_blk_exit ?_
    | refine k_blk_other rfl ?_
    | refine k_blk_ret ?_
    | refine a_exit ?_
    | refine a_block ?_
    | refine k_seq_ret ?_
    | refine a_skip ?_
    | refine a_ret ?_
    | refine k_lop_exit ?_
    | refine k_lop_ret ?_
    | (refine z_cond (h1 := ?_) (h2 := ?_) <;> intro hc hr <;> (try first | contradiction | (exfalso; omega))))
    all_goals first | (refine z_ret (hv := ?_) (ho := ?_) <;> first | rfl | (simp [go_sem, *]; done) | (simp_all; done) | (simp_all; omega)) | skip
  · repeat' (first
    | (refine ya ?_; first | (refine yb ?_; first | refine yc ?_ | refine yr ?_) | refine ye ?_)
    | (refine yg ?_; intro hgs; first | ((first | replace hgs := gv_tt hgs | replace hgs := gv_ff hgs); (first | (refine yb ?_; first | refine yc ?_ | refine yr ?_) | refine yy hgs ?_); clear hgs) | ((first | replace hgs := gv_tf hgs | replace hgs := gv_ft hgs); refine yn hgs ?_; clear hgs) | ((fail_if_success first | (have := gv_tt hgs) | (have := gv_ff hgs)); refine z_spl hgs (h1 := ?_) (h2 := ?_) <;> clear hgs <;> intro hg hr <;> (try first | contradiction | (exfalso; omega))))
    | refine yz ?_
    | (refine yA ?_; first | (refine yB ?_; first | refine yC ?_ | refine yR ?_) | refine yE ?_)
    | (refine yG ?_; intro hgs; first | ((first | replace hgs := gv_tt hgs | replace hgs := gv_ff hgs); (first | (refine yB ?_; first | refine yC ?_ | refine yR ?_) | refine yY hgs ?_); clear hgs) | ((first | replace hgs := gv_tf hgs | replace hgs := gv_ft hgs); refine yN hgs ?_; clear hgs) | ((fail_if_success first | (have := gv_tt hgs) | (have := gv_ff hgs)); refine z_spll hgs (h1 := ?_) (h2 := ?_) <;> clear hgs <;> intro hg hr <;> (try first | contradiction | (exfalso; omega))))
    | refine yZ ?_
    | refine k_seq ?_
    | refine a_seq ?_
    | refine a_reg ?_
    | refine a_draw ?_
    | refine k_seq_exit ?_
    | refine k_blk ?_
    | refine k_blk_exit ?_
    | refine k_blk_other rfl ?_
    | refine k_blk_ret ?_
    | refine a_exit ?_
    | refine a_block ?_
    | refine k_seq_ret ?_
    | refine a_skip ?_
    | refine a_ret ?_
    | refine k_lop_exit ?_
    | refine k_lop_ret ?_
    | (refine z_cond (h1 := ?_) (h2 := ?_) <;> intro hc hr <;> (try first | contradiction | (exfalso; omega))))
    all_goals first | (refine z_ret (hv := ?_) (ho := ?_) <;> first | rfl | (simp [go_sem, *]; done) | (simp_all; done) | (simp_all; omega)) | skip
theorem law29_of {l : List AV} (h : All2 (ShA T) [24] l) : law29_S l (.one (.sc (.bool true))) [] := by
  obtain ⟨c, rfl, hh⟩ := all2_1 h
  obtain ⟨r, z, es, rfl, p, _⟩ := shGraph hh
  exact ⟨r, z, es, p, rfl, rfl, rfl⟩
instance : Con Try.prog 7 law29_S := con law29 Try.func7
end Go.Proofs.Try
