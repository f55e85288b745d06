import Derived.Test.YtfgpcfdoahgkpaaGreatQ18
set_option linter.unusedVariables false
set_option linter.unusedSimpArgs false
set_option linter.unnecessarySimpa false
namespace Go.Proofs.Tryz
open Go Go.Eng
set_option linter.unnecessarySimpa false
set_option linter.unusedSimpArgs false
set_option maxHeartbeats 4000000
def K_law59 : Nat → List Nat := fun i => ([[1, 2], [1, 2, 5], [1, 2, 5], [1, 2, 5, 14], [4], [1, 2, 5], [1, 2, 19], [4], [1, 2, 6], [1, 2, 6, 7], [1, 2, 6, 7, 8], [1, 2, 6, 7, 8, 9], [1, 2, 7, 8, 34], [4], [1, 8, 39], [4], [44], [4], [4]] : List (List Nat)).getD i []
attribute [go_sem] K_law59
def law59_S : Eng.Spec := fun args av objs => ∃ (r1 z1 : Int) (es1 : List Ed) (ws2 : List (List Int)), ((es1.length ≤ 9223372036854775807) ∧ (ws2.length ≤ 9223372036854775807 ∧ (∀ w ∈ ws2, w.length ≤ 9223372036854775807 ∧ ∀ n ∈ w, rg n))) ∧ args = [grA r1 z1 es1, aW ws2] ∧ av = aB true ∧ objs = []
theorem law59 : Sat Tryz.prog 9 law59_S := by
  refine sat_of tok okr mixed K_law59 Tryz.func9 rfl (rs := [.tmp 4]) rfl Tryz.ntmps9 ?_
  rintro args av objs ⟨r1, z1, es1, ws2, hpre, rfl, rfl, rfl⟩
  refine ⟨by show 2 ≤ 45; decide, ?_⟩
  obtain ⟨hp1, ⟨hp2, hq2⟩⟩ := hpre
  have hwn2 : ∀ w ∈ ws2, w.length ≤ 9223372036854775807 := fun w hw => (hq2 w hw).1
  have hwx2 : ∀ w ∈ ws2, ∀ x ∈ w, rg x := fun w hw => (hq2 w hw).2
  by_cases hs0 : es1.length ≤ 1048576
  · by_cases hs1 : es1.length + totW ws2 ≤ 1048576
    · have hw12 := tot_mem (ws := ws2) (n := 1048576) (by omega)
      have hw22 := tot_len (ws := ws2) (n := 1048576) (by omega)
      have hw42 : ∀ w ∈ ws2, w.length ≤ 4194304 := fun w hw => by have := hw12 w hw; omega
      have hw52 : ∀ w ∈ ws2, w.length ≤ 1099511627776 := fun w hw => by have := hw12 w hw; omega
      repeat' (first|(refine ya ?_;first|(refine yb ?_;first|refine yc ?_)|refine ye ?_)|refine yz ?_|(refine yA ?_;first|(refine yB ?_;first|refine yC ?_)|refine yE ?_)|refine yZ ?_|refine zst ?_|refine k_blk_other rfl ?_|(refine zk ?_ ?_<;>intro hc hr<;>try first|contradiction|exfalso;omega))
      all_goals first | (refine z_ret (hv := ?_) (ho := ?_) <;> first | rfl | (simp [go_sem, *]; done) | (simp_all; done) | (simp_all; omega)) | skip
    · repeat' (first|(refine ya ?_;first|(refine yb ?_;first|refine yc ?_)|refine ye ?_)|refine yz ?_|(refine yA ?_;first|(refine yB ?_;first|refine yC ?_)|refine yE ?_)|refine yZ ?_|refine zst ?_|refine k_blk_other rfl ?_|(refine zk ?_ ?_<;>intro hc hr<;>try first|contradiction|exfalso;omega))
      all_goals first | (refine z_ret (hv := ?_) (ho := ?_) <;> first | rfl | (simp [go_sem, *]; done) | (simp_all; done) | (simp_all; omega)) | skip
  · repeat' (first|(refine ya ?_;first|(refine yb ?_;first|refine yc ?_)|refine ye ?_)|refine yz ?_|(refine yA ?_;first|(refine yB ?_;first|refine yC ?_)|refine yE ?_)|refine yZ ?_|refine zst ?_|refine k_blk_other rfl ?_|(refine zk ?_ ?_<;>intro hc hr<;>try first|contradiction|exfalso;omega))
    all_goals first | (refine z_ret (hv := ?_) (ho := ?_) <;> first | rfl | (simp [go_sem, *]; done) | (simp_all; done) | (simp_all; omega)) | skip
theorem law59_of {l : List AV} (h : All2 (ShA T) [24, 38] l) : law59_S l (.one (.sc (.bool true))) [] := by
  obtain ⟨c1, c2, rfl, hh1, hh2⟩ := all2_2 h
  obtain ⟨r1, z1, es1, rfl, p1, _⟩ := shGraph hh1
  obtain ⟨ws2, rfl, p2, q2⟩ := shIntSS hh2
  exact ⟨r1, z1, es1, ws2, ⟨p1, ⟨p2, q2⟩⟩, rfl, rfl, rfl⟩
instance : Con Tryz.prog 9 law59_S := con law59 Tryz.func9
end Go.Proofs.Tryz
