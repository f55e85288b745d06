import Derived.Test.YtfgpcfdoahgkpaaGreatQ14
import Derived.Test.YtfgpcfdoahgkpaaGreatB
import Derived.Test.YtfgpcfdoahgkpaaGreatG6
import Derived.Test.YtfgpcfdoahgkpaaGreatG7
set_option linter.unusedVariables false
set_option linter.unusedSimpArgs false
set_option linter.unnecessarySimpa false
namespace Go.Proofs.Tryz
open Go Go.Eng
set_option linter.unnecessarySimpa false
set_option linter.unusedSimpArgs false
set_option maxHeartbeats 4000000
def K_law56 : Nat → List Nat := fun i => ([[0, 1], [0, 1, 5], [0, 1, 5], [0, 1, 20], [4], [0, 1, 6, 7], [0, 1, 6, 7, 8], [0, 1, 6, 7, 8, 9, 10], [0, 1, 6, 7, 8, 9, 10, 44], [4], [0, 1, 6, 7, 8, 9, 10, 49], [4], [0, 1, 6, 7, 8, 9, 10, 11], [0, 1, 6, 7, 9, 10, 11], [0, 1, 6, 7, 9, 65], [4], [0, 1, 6, 7, 9, 12], [0, 1, 6, 7, 9, 12], [0, 1, 6, 7, 9, 12, 13], [0, 1, 6, 7, 9, 12, 13], [0, 1, 6, 7, 9, 12, 13, 73], [4], [0, 1, 6, 7, 9, 12, 76], [4], [6, 7, 9, 12, 14, 15], [9, 12, 92], [4], [9, 12, 13], [12, 13], [12, 13, 97], [4], [100], [4], [4]] : List (List Nat)).getD i []
attribute [go_sem] K_law56
def law56_S : Eng.Spec := fun args av objs => ∃ (v1 : Int) (ws2 : List (List Int)), ((rg v1) ∧ (ws2.length ≤ 9223372036854775807 ∧ (∀ w ∈ ws2, w.length ≤ 9223372036854775807 ∧ ∀ n ∈ w, rg n))) ∧ args = [aI v1, aW ws2] ∧ av = aB true ∧ objs = []
theorem law56 : Sat Tryz.prog 7 law56_S := by
  refine sat_of tok okr mixed K_law56 Tryz.func7 rfl (rs := [.tmp 4]) rfl Tryz.ntmps7 ?_
  rintro args av objs ⟨v1, ws2, hpre, rfl, rfl, rfl⟩
  refine ⟨by show 2 ≤ 101; decide, ?_⟩
  obtain ⟨hp1, ⟨hp2, hq2⟩⟩ := hpre
  have hwn2 : ∀ w ∈ ws2, w.length ≤ 9223372036854775807 := fun w hw => (hq2 w hw).1
  have hwx2 : ∀ w ∈ ws2, ∀ x ∈ w, rg x := fun w hw => (hq2 w hw).2
  by_cases hs0 : totW ws2 ≤ 1048576
  · have hw12 := tot_mem (ws := ws2) (n := 1048576) (by omega)
    have hw22 := tot_len (ws := ws2) (n := 1048576) (by omega)
    have hw42 : ∀ w ∈ ws2, w.length ≤ 4194304 := fun w hw => by have := hw12 w hw; omega
    have hw52 : ∀ w ∈ ws2, w.length ≤ 1099511627776 := fun w hw => by have := hw12 w hw; omega
    cases hok : awB v1 ws2
    · have hmt : 1 ≤ mkT ws2 1 := mkS_ge
      repeat' (first|(refine ya ?_;first|(refine yb ?_;first|refine z_fn markG_nil Tryz.func16 (hSp := by exact ⟨_, _, _, by omega, rfl, rfl, rfl⟩) (k0 := ?_) | refine z_fn eqGraph_sat Tryz.func15 (hSp := by exact ⟨_, _, [], _, _, [], by simp, rfl, rfl, rfl⟩) (k0 := ?_) | refine z_fn heldG_nil Tryz.func32 (hSp := by exact ⟨_, _, _, by omega, rfl, rfl, rfl⟩) (k0 := ?_) | refine yc ?_|refine yr ?_)|refine ye ?_)|(refine yg ?_;intro hgs;first|(replace hgs:=zgy hgs;first|(refine yb ?_;first|refine z_fn markG_nil Tryz.func16 (hSp := by exact ⟨_, _, _, by omega, rfl, rfl, rfl⟩) (k0 := ?_) | refine z_fn eqGraph_sat Tryz.func15 (hSp := by exact ⟨_, _, [], _, _, [], by simp, rfl, rfl, rfl⟩) (k0 := ?_) | refine z_fn heldG_nil Tryz.func32 (hSp := by exact ⟨_, _, _, by omega, rfl, rfl, rfl⟩) (k0 := ?_) | refine yc ?_|refine yr ?_)|refine yy hgs ?_;clear hgs)|(refine yn (zgn hgs) ?_;clear hgs)|((fail_if_success have:=zgy hgs);refine z_spl hgs (h1:=?_) (h2:=?_)<;>clear hgs<;>intro hg hr<;>try first|contradiction|exfalso;omega))|refine yz ?_|refine zst ?_|refine k_blk_other rfl ?_|(refine zk ?_ ?_<;>intro hc hr<;>try first|contradiction|exfalso;omega))
      all_goals first | (refine z_ret (hv := ?_) (ho := ?_) <;> first | rfl | (simp [go_sem, *]; done) | (simp_all; done) | (simp_all; omega)) | skip
    · have hes := sgG_es v1 ws2
      have hmt : 1 ≤ mkT ws2 1 := mkS_ge
      repeat' (first|(refine ya ?_;first|(refine yb ?_;first|refine yc ?_|refine yr ?_)|refine ye ?_)|(refine yg ?_;intro hgs;first|(replace hgs:=zgy hgs;first|(refine yb ?_;first|refine yc ?_|refine yr ?_)|refine yy hgs ?_;clear hgs)|(refine yn (zgn hgs) ?_;clear hgs)|((fail_if_success have:=zgy hgs);refine z_spl hgs (h1:=?_) (h2:=?_)<;>clear hgs<;>intro hg hr<;>try first|contradiction|exfalso;omega))|refine yz ?_|refine zst ?_|refine k_blk_other rfl ?_|(refine zk ?_ ?_<;>intro hc hr<;>try first|contradiction|exfalso;omega))
      all_goals first | (refine z_ret (hv := ?_) (ho := ?_) <;> first | rfl | (simp [go_sem, *]; done) | (simp_all; done) | (simp_all; omega)) | skip
  · repeat' (first|(refine ya ?_;first|(refine yb ?_;first|refine yc ?_|refine yr ?_)|refine ye ?_)|(refine yg ?_;intro hgs;first|(replace hgs:=zgy hgs;first|(refine yb ?_;first|refine yc ?_|refine yr ?_)|refine yy hgs ?_;clear hgs)|(refine yn (zgn hgs) ?_;clear hgs)|((fail_if_success have:=zgy hgs);refine z_spl hgs (h1:=?_) (h2:=?_)<;>clear hgs<;>intro hg hr<;>try first|contradiction|exfalso;omega))|refine yz ?_|refine zst ?_|refine k_blk_other rfl ?_|(refine zk ?_ ?_<;>intro hc hr<;>try first|contradiction|exfalso;omega))
    all_goals first | (refine z_ret (hv := ?_) (ho := ?_) <;> first | rfl | (simp [go_sem, *]; done) | (simp_all; done) | (simp_all; omega)) | skip
theorem law56_of {l : List AV} (h : All2 (ShA T) [3, 38] l) : law56_S l (.one (.sc (.bool true))) [] := by
  obtain ⟨c1, c2, rfl, hh1, hh2⟩ := all2_2 h
  obtain ⟨v1, rfl, p1⟩ := shInt T3 hh1
  obtain ⟨ws2, rfl, p2, q2⟩ := shIntSS hh2
  exact ⟨v1, ws2, ⟨p1, ⟨p2, q2⟩⟩, rfl, rfl, rfl⟩
instance : Con Tryz.prog 7 law56_S := con law56 Tryz.func7
end Go.Proofs.Tryz
