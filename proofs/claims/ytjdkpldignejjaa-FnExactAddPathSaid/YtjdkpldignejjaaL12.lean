import Derived.Test.YtjdkpldignejjaaS
import Derived.Test.YtjdkpldignejjaaB
set_option linter.unusedVariables false
set_option linter.unusedSimpArgs false
set_option linter.unnecessarySimpa false
namespace Go.Proofs.Try
open Go Go.Eng
set_option linter.unnecessarySimpa false
set_option linter.unusedSimpArgs false
set_option maxHeartbeats 4000000
def K_law12 : Nat → List Nat := fun i => ([[1, 2, 3, 4], [1, 2, 3, 4, 23], [8], [1, 2, 3, 4, 9], [1, 2, 3, 4, 9], [1, 2, 3, 4, 28], [8], [1, 2, 3, 4, 10, 11], [1, 2, 3, 4, 10, 11, 12], [1, 2, 3, 4, 10, 11, 12, 13], [1, 2, 3, 4, 10, 11, 12, 13, 14, 15], [1, 2, 3, 4, 10, 11, 12, 13, 14, 15, 59], [8], [1, 2, 3, 4, 10, 11, 12, 13, 14, 15, 64], [8], [1, 2, 3, 4, 10, 11, 12, 13, 14, 15, 69], [8], [1, 2, 3, 4, 10, 11, 12, 13, 14, 15, 16], [1, 2, 3, 4, 10, 11, 13, 14, 15, 16], [1, 2, 3, 4, 10, 11, 14, 15, 16], [1, 2, 3, 4, 10, 11, 14, 88], [8], [1, 2, 3, 4, 10, 11, 14, 17], [1, 2, 3, 4, 10, 11, 14, 17], [1, 2, 3, 4, 10, 11, 14, 17, 18], [1, 2, 3, 4, 10, 11, 14, 17, 18], [1, 2, 3, 4, 10, 11, 14, 17, 18, 96], [8], [1, 2, 3, 4, 10, 11, 14, 17, 99], [8], [10, 11, 14, 17, 19, 20], [14, 17, 118], [8], [14, 17, 18], [17, 18], [17, 18, 123], [8], [126], [8], [8]] : List (List Nat)).getD i []
attribute [go_sem] K_law12
def law12_S : Eng.Spec := fun args av objs => ∃ (r1 z1 : Int) (es1 : List Ed) (v2 : Int) (l3 : List Int) (v4 : Int), ((es1.length ≤ 9223372036854775807) ∧ (rg v2) ∧ (l3.length ≤ 9223372036854775807 ∧ (∀ n ∈ l3, rg n)) ∧ (rg v4)) ∧ args = [grA r1 z1 es1, aI v2, aL l3, aI v4] ∧ av = aB true ∧ objs = []
theorem law12 : Sat Try.prog 6 law12_S := by
  refine sat_of tok okr mixed K_law12 Try.func6 rfl (rs := [.tmp 8]) rfl Try.ntmps6 ?_
  rintro args av objs ⟨r1, z1, es1, v2, l3, v4, hpre, rfl, rfl, rfl⟩
  refine ⟨by show 4 ≤ 127; decide, ?_⟩
  obtain ⟨hp1, hp2, hp3, hp4⟩ := hpre
  by_cases hs0 : es1.length ≤ 1048576
  · by_cases hs1 : l3.length ≤ 1048576
    · have hm := pth_es (g := ⟨r1, z1, es1⟩) (u := v2) (w := l3) (v := v4) (n := 1048576) (by omega) (by omega)
      repeat' (first
    | (refine ya ?_; first | (refine yb ?_; first | refine yc ?_ | refine yr ?_) | refine ye ?_)
    | (refine yg ?_; intro hgs; first | ((first | replace hgs := gv_tt hgs | replace hgs := gv_ff hgs); (first | (refine yb ?_; first | refine yc ?_ | refine yr ?_) | refine yy hgs ?_); clear hgs) | ((first | replace hgs := gv_tf hgs | replace hgs := gv_ft hgs); refine yn hgs ?_; clear hgs) | ((fail_if_success first | (have := gv_tt hgs) | (have := gv_ff hgs)); refine z_spl hgs (h1 := ?_) (h2 := ?_) <;> clear hgs <;> intro hg hr <;> (try first | contradiction | (exfalso; omega))))
    | refine yz ?_
    | (refine yA ?_; first | (refine yB ?_; first | refine yC ?_ | refine yR ?_) | refine yE ?_)
    | (refine yG ?_; intro hgs; first | ((first | replace hgs := gv_tt hgs | replace hgs := gv_ff hgs); (first | (refine yB ?_; first | refine yC ?_ | refine yR ?_) | refine yY hgs ?_); clear hgs) | ((first | replace hgs := gv_tf hgs | replace hgs := gv_ft hgs); refine yN hgs ?_; clear hgs) | ((fail_if_success first | (have := gv_tt hgs) | (have := gv_ff hgs)); refine z_spll hgs (h1 := ?_) (h2 := ?_) <;> clear hgs <;> intro hg hr <;> (try first | contradiction | (exfalso; omega))))
    | refine yZ ?_
    | refine k_seq ?_
    | refine a_seq ?_
    | refine a_reg ?_
    | refine a_draw ?_
    | refine k_seq_exit ?_
    | refine k_blk ?_
    | refine k_blk_exit ?_
    | refine k_blk_other rfl ?_
    | refine k_blk_ret ?_
    | refine a_exit ?_
    | refine a_block ?_
    | refine k_seq_ret ?_
    | refine a_skip ?_
    | refine a_ret ?_
    | refine k_lop_exit ?_
    | refine k_lop_ret ?_
    | (refine z_cond (h1 := ?_) (h2 := ?_) <;> intro hc hr <;> (try first | contradiction | (exfalso; omega))))
      all_goals first | (refine z_ret (hv := ?_) (ho := ?_) <;> first | rfl | (simp [go_sem, *]; done) | (simp_all; done) | (simp_all; omega)) | skip
    · repeat' (first
    | (refine ya ?_; first | (refine yb ?_; first | refine yc ?_ | refine yr ?_) | refine ye ?_)
    | (refine yg ?_; intro hgs; first | ((first | replace hgs := gv_tt hgs | replace hgs := gv_ff hgs); (first | (refine yb ?_; first | refine yc ?_ | refine yr ?_) | refine yy hgs ?_); clear hgs) | ((first | replace hgs := gv_tf hgs | replace hgs := gv_ft hgs); refine yn hgs ?_; clear hgs) | ((fail_if_success first | (have := gv_tt hgs) | (have := gv_ff hgs)); refine z_spl hgs (h1 := ?_) (h2 := ?_) <;> clear hgs <;> intro hg hr <;> (try first | contradiction | (exfalso; omega))))
    | refine yz ?_
    | (refine yA ?_; first | (refine yB ?_; first | refine yC ?_ | refine yR ?_) | refine yE ?_)
    | (refine yG ?_; intro hgs; first | ((first | replace hgs := gv_tt hgs | replace hgs := gv_ff hgs); (first | (refine yB ?_; first | refine yC ?_ | refine yR ?_) | refine yY hgs ?_); clear hgs) | ((first | replace hgs := gv_tf hgs | replace hgs := gv_ft hgs); refine yN hgs ?_; clear hgs) | ((fail_if_success first | (have := gv_tt hgs) | (have := gv_ff hgs)); refine z_spll hgs (h1 := ?_) (h2 := ?_) <;> clear hgs <;> intro hg hr <;> (try first | contradiction | (exfalso; omega))))
    | refine yZ ?_
    | refine k_seq ?_
    | refine a_seq ?_
    | refine a_reg ?_
    | refine a_draw ?_
    | refine k_seq_exit ?_
    | refine k_blk ?_
    | refine k_blk_exit ?_
    | refine k_blk_other rfl ?_
    | refine k_blk_ret ?_
    | refine a_exit ?_
    | refine a_block ?_
    | refine k_seq_ret ?_
    | refine a_skip ?_
    | refine a_ret ?_
    | refine k_lop_exit ?_
    | refine k_lop_ret ?_
    | (refine z_cond (h1 := ?_) (h2 := ?_) <;> intro hc hr <;> (try first | contradiction | (exfalso; omega))))
      all_goals first | (refine z_ret (hv := ?_) (ho := ?_) <;> first | rfl | (simp [go_sem, *]; done) | (simp_all; done) | (simp_all; omega)) | skip
  · repeat' (first
    | (refine ya ?_; first | (refine yb ?_; first | refine yc ?_ | refine yr ?_) | refine ye ?_)
    | (refine yg ?_; intro hgs; first | ((first | replace hgs := gv_tt hgs | replace hgs := gv_ff hgs); (first | (refine yb ?_; first | refine yc ?_ | refine yr ?_) | refine yy hgs ?_); clear hgs) | ((first | replace hgs := gv_tf hgs | replace hgs := gv_ft hgs); refine yn hgs ?_; clear hgs) | ((fail_if_success first | (have := gv_tt hgs) | (have := gv_ff hgs)); refine z_spl hgs (h1 := ?_) (h2 := ?_) <;> clear hgs <;> intro hg hr <;> (try first | contradiction | (exfalso; omega))))
    | refine yz ?_
    | (refine yA ?_; first | (refine yB ?_; first | refine yC ?_ | refine yR ?_) | refine yE ?_)
    | (refine yG ?_; intro hgs; first | ((first | replace hgs := gv_tt hgs | replace hgs := gv_ff hgs); (first | (refine yB ?_; first | refine yC ?_ | refine yR ?_) | refine yY hgs ?_); clear hgs) | ((first | replace hgs := gv_tf hgs | replace hgs := gv_ft hgs); refine yN hgs ?_; clear hgs) | ((fail_if_success first | (have := gv_tt hgs) | (have := gv_ff hgs)); refine z_spll hgs (h1 := ?_) (h2 := ?_) <;> clear hgs <;> intro hg hr <;> (try first | contradiction | (exfalso; omega))))
    | refine yZ ?_
    | refine k_seq ?_
    | refine a_seq ?_
    | refine a_reg ?_
    | refine a_draw ?_
    | refine k_seq_exit ?_
    | refine k_blk ?_
    | refine k_blk_exit ?_
    | refine k_blk_other rfl ?_
    | refine k_blk_ret ?_
    | refine a_exit ?_
    | refine a_block ?_
    | refine k_seq_ret ?_
    | refine a_skip ?_
    | refine a_ret ?_
    | refine k_lop_exit ?_
    | refine k_lop_ret ?_
    | (refine z_cond (h1 := ?_) (h2 := ?_) <;> intro hc hr <;> (try first | contradiction | (exfalso; omega))))
    all_goals first | (refine z_ret (hv := ?_) (ho := ?_) <;> first | rfl | (simp [go_sem, *]; done) | (simp_all; done) | (simp_all; omega)) | skip
theorem law12_of {l : List AV} (h : All2 (ShA T) [24, 3, 41, 3] l) : law12_S l (.one (.sc (.bool true))) [] := by
  obtain ⟨c1, c2, c3, c4, rfl, h1, h2, h3, h4⟩ := all2_4 h
  obtain ⟨r1, z1, es1, rfl, p1, _⟩ := shGraph h1
  obtain ⟨v2, rfl, p2⟩ := shInt T3 h2
  obtain ⟨l3, rfl, p3, q3⟩ := shInts T41 T3 h3
  obtain ⟨v4, rfl, p4⟩ := shInt T3 h4
  exact ⟨r1, z1, es1, v2, l3, v4, ⟨p1, p2, ⟨p3, q3⟩, p4⟩, rfl, rfl, rfl⟩
instance : Con Try.prog 6 law12_S := con law12 Try.func6
end Go.Proofs.Try
