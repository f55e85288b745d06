import Derived.Test.YtoncngainbgpcaaW
import Derived.Test.YtoncngainbgpcaaB
set_option linter.unusedVariables false
set_option linter.unusedSimpArgs false
set_option linter.unnecessarySimpa false
namespace Go.Proofs.Try
open Go Go.Eng
set_option linter.unnecessarySimpa false
set_option linter.unusedSimpArgs false
set_option maxHeartbeats 4000000
theorem toEdge3_sat : Sat Try.prog 31 fun args av objs => ∃ a b c : Int, args = [.agg [.sc (.int a), .sc (.int b), .sc (.int c)]] ∧ av = .agg [.sc (.int a), .sc (.int b), .sc (.int c)] ∧ objs = [] := fun args av objs ⟨a, b, c, h1, h2, h3⟩ => toEdge_sat args av objs ⟨(a, b, c), h1, h2, h3⟩
instance (priority := 3000) : Con Try.prog 31 (specOf toEdge3_sat) := con toEdge3_sat Try.func31
def K_law25 : Nat → List Nat := fun i => ([[2, 3], [2, 3, 5], [2, 3, 5], [2, 3, 17], [4], [2, 3, 6], [2, 3, 6, 7], [2, 3, 6, 7, 8], [2, 3, 6, 7, 8, 32], [4], [2, 3, 6, 7, 8, 37], [4], [2, 3, 6, 7, 8, 9], [2, 3, 6, 8, 9], [2, 3, 6, 8, 48], [4], [2, 3, 6, 8, 10], [2, 3, 6, 8, 10], [2, 3, 6, 8, 10, 11], [2, 3, 6, 8, 10, 11], [2, 3, 6, 8, 10, 11, 56], [4], [2, 3, 6, 8, 10, 59], [4], [6, 8, 10, 12], [8, 10, 68], [4], [8, 10, 11], [10, 11], [10, 11, 73], [4], [76], [4], [4]] : List (List Nat)).getD i []
attribute [go_sem] K_law25
def law25_S : Eng.Spec := fun args av objs => ∃ (r1 z1 : Int) (es1 : List Ed) (a2 l2 b2 : Int), ((es1.length ≤ 9223372036854775807) ∧ (rg a2 ∧ rg l2 ∧ rg b2)) ∧ args = [grA r1 z1 es1, .agg [.sc (.int a2), .sc (.int l2), .sc (.int b2)]] ∧ av = aB true ∧ objs = []
theorem law25 : Sat Try.prog 5 law25_S := by
  refine sat_of tok okr mixed K_law25 Try.func5 rfl (rs := [.tmp 4]) rfl Try.ntmps5 ?_
  rintro args av objs ⟨r1, z1, es1, a2, l2, b2, hpre, rfl, rfl, rfl⟩
  refine ⟨by show 2 ≤ 77; decide, ?_⟩
  obtain ⟨hp1, hp2⟩ := hpre
  by_cases hs0 : es1.length ≤ 1048576
  · have hm : (lpO r1 z1 es1 (a2, l2, b2)).length ≤ 1048576 := lpO_len
    repeat' (first
    | (refine ya ?_; first | (refine yb ?_; first | refine yc ?_ | refine yr ?_) | refine ye ?_)
    | (refine yg ?_; intro hgs; first | ((first | replace hgs := gv_tt hgs | replace hgs := gv_ff hgs); (first | (refine yb ?_; first | refine yc ?_ | refine yr ?_) | refine yy hgs ?_); clear hgs) | ((first | replace hgs := gv_tf hgs | replace hgs := gv_ft hgs); refine yn hgs ?_; clear hgs) | ((fail_if_success first | (have := gv_tt hgs) | (have := gv_ff hgs)); refine z_spl hgs (h1 := ?_) (h2 := ?_) <;> clear hgs <;> intro hg hr <;> (try first | contradiction | (exfalso; omega))))
    | refine yz ?_
    | (refine yA ?_; first | (refine yB ?_; first | refine yC ?_ | refine yR ?_) | refine yE ?_)
    | (refine yG ?_; intro hgs; first | ((first | replace hgs := gv_tt hgs | replace hgs := gv_ff hgs); (first | (refine yB ?_; first | refine yC ?_ | refine yR ?_) | refine yY hgs ?_); clear hgs) | ((first | replace hgs := gv_tf hgs | replace hgs := gv_ft hgs); refine yN hgs ?_; clear hgs) | ((fail_if_success first | (have := gv_tt hgs) | (have := gv_ff hgs)); refine z_spll hgs (h1 := ?_) (h2 := ?_) <;> clear hgs <;> intro hg hr <;> (try first | contradiction | (exfalso; omega))))
    | refine yZ ?_
    | refine k_seq ?_
    | refine a_seq ?_
    | refine a_reg ?_
    | refine a_draw ?_
    | refine k_seq_exit ?_
    | refine k_blk ?_
    | refine k_blk_exit ?_
    | refine k_blk_other rfl ?_
    | refine k_blk_ret ?_
    | refine a_exit ?_
    | refine a_block ?_
    | refine k_seq_ret ?_
    | refine a_skip ?_
    | refine a_ret ?_
    | refine k_lop_exit ?_
    | refine k_lop_ret ?_
    | (refine z_cond (h1 := ?_) (h2 := ?_) <;> intro hc hr <;> (try first | contradiction | (exfalso; omega))))
    all_goals first | (refine z_ret (hv := ?_) (ho := ?_) <;> first | rfl | (simp [go_sem, *]; done) | (simp_all; done) | (simp_all; omega)) | skip
  · repeat' (first
    | (refine ya ?_; first | (refine yb ?_; first | refine yc ?_ | refine yr ?_) | refine ye ?_)
    | (refine yg ?_; intro hgs; first | ((first | replace hgs := gv_tt hgs | replace hgs := gv_ff hgs); (first | (refine yb ?_; first | refine yc ?_ | refine yr ?_) | refine yy hgs ?_); clear hgs) | ((first | replace hgs := gv_tf hgs | replace hgs := gv_ft hgs); refine yn hgs ?_; clear hgs) | ((fail_if_success first | (have := gv_tt hgs) | (have := gv_ff hgs)); refine z_spl hgs (h1 := ?_) (h2 := ?_) <;> clear hgs <;> intro hg hr <;> (try first | contradiction | (exfalso; omega))))
    | refine yz ?_
    | (refine yA ?_; first | (refine yB ?_; first | refine yC ?_ | refine yR ?_) | refine yE ?_)
    | (refine yG ?_; intro hgs; first | ((first | replace hgs := gv_tt hgs | replace hgs := gv_ff hgs); (first | (refine yB ?_; first | refine yC ?_ | refine yR ?_) | refine yY hgs ?_); clear hgs) | ((first | replace hgs := gv_tf hgs | replace hgs := gv_ft hgs); refine yN hgs ?_; clear hgs) | ((fail_if_success first | (have := gv_tt hgs) | (have := gv_ff hgs)); refine z_spll hgs (h1 := ?_) (h2 := ?_) <;> clear hgs <;> intro hg hr <;> (try first | contradiction | (exfalso; omega))))
    | refine yZ ?_
    | refine k_seq ?_
    | refine a_seq ?_
    | refine a_reg ?_
    | refine a_draw ?_
    | refine k_seq_exit ?_
    | refine k_blk ?_
    | refine k_blk_exit ?_
    | refine k_blk_other rfl ?_
    | refine k_blk_ret ?_
    | refine a_exit ?_
    | refine a_block ?_
    | refine k_seq_ret ?_
    | refine a_skip ?_
    | refine a_ret ?_
    | refine k_lop_exit ?_
    | refine k_lop_ret ?_
    | (refine z_cond (h1 := ?_) (h2 := ?_) <;> intro hc hr <;> (try first | contradiction | (exfalso; omega))))
    all_goals first | (refine z_ret (hv := ?_) (ho := ?_) <;> first | rfl | (simp [go_sem, *]; done) | (simp_all; done) | (simp_all; omega)) | skip
theorem law25_of {l : List AV} (h : All2 (ShA T) [24, 44] l) : law25_S l (.one (.sc (.bool true))) [] := by
  obtain ⟨c1, c2, rfl, hh1, hh2⟩ := all2_2 h
  obtain ⟨r1, z1, es1, rfl, p1, _⟩ := shGraph hh1
  obtain ⟨a2, l2, b2, rfl, p2⟩ := shEdgeA T44 hh2
  exact ⟨r1, z1, es1, a2, l2, b2, ⟨p1, p2⟩, rfl, rfl, rfl⟩
instance : Con Try.prog 5 law25_S := con law25 Try.func5
end Go.Proofs.Try
