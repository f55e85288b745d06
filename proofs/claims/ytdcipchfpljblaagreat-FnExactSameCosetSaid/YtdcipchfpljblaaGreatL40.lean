import Derived.Test.YtdcipchfpljblaaGreatZ
import Derived.Test.YtdcipchfpljblaaGreatB
set_option linter.unusedVariables false
set_option linter.unusedSimpArgs false
set_option linter.unnecessarySimpa false
namespace Go.Proofs.Tryz
open Go Go.Eng
set_option linter.unnecessarySimpa false
set_option linter.unusedSimpArgs false
set_option maxHeartbeats 4000000
def K_law40 : Nat → List Nat := fun i => ([[1, 2, 3], [1, 2, 3, 15], [6], [1, 2, 3, 18], [6], [1, 2, 3, 7], [1, 2, 3, 7], [1, 2, 3, 23], [6], [1, 2, 3, 8], [1, 2, 3, 8, 9], [1, 2, 3, 8, 9, 10], [1, 2, 3, 8, 9, 10, 11], [1, 2, 3, 8, 9, 10, 11, 12], [1, 2, 3, 9, 10, 11, 43], [6], [1, 2, 10, 11, 48], [6], [2, 11, 53], [6], [58], [6], [6]] : List (List Nat)).getD i []
attribute [go_sem] K_law40
def law40_S : Eng.Spec := fun args av objs => ∃ (r1 z1 : Int) (es1 : List Ed) (l2 : List Int) (l3 : List Int), ((es1.length ≤ 9223372036854775807) ∧ (l2.length ≤ 9223372036854775807 ∧ (∀ n ∈ l2, rg n)) ∧ (l3.length ≤ 9223372036854775807 ∧ (∀ n ∈ l3, rg n))) ∧ args = [grA r1 z1 es1, aL l2, aL l3] ∧ av = aB true ∧ objs = []
theorem law40 : Sat Tryz.prog 3 law40_S := by
  refine sat_of tok okr mixed K_law40 Tryz.func3 rfl (rs := [.tmp 6]) rfl Tryz.ntmps3 ?_
  rintro args av objs ⟨r1, z1, es1, l2, l3, hpre, rfl, rfl, rfl⟩
  refine ⟨by show 3 ≤ 59; decide, ?_⟩
  obtain ⟨hp1, ⟨hp2, hq2⟩, ⟨hp3, hq3⟩⟩ := hpre
  by_cases hs0 : es1.length ≤ 1048576
  · by_cases hs1 : l2.length ≤ 1048576
    · by_cases hs2 : l3.length ≤ 1048576
      · repeat' (first|(refine ya ?_;first|(refine yb ?_;first|refine yc ?_)|refine ye ?_)|refine yz ?_|(refine yA ?_;first|(refine yB ?_;first|refine yC ?_)|refine yE ?_)|refine yZ ?_|refine zst ?_|refine k_blk_other rfl ?_|(refine zk ?_ ?_<;>intro hc hr<;>try first|contradiction|exfalso;omega))
        all_goals first | (refine z_ret (hv := ?_) (ho := ?_) <;> first | rfl | (simp [go_sem, *]; done) | (simp_all; done) | (simp_all; omega)) | skip
      · repeat' (first|(refine ya ?_;first|(refine yb ?_;first|refine yc ?_)|refine ye ?_)|refine yz ?_|(refine yA ?_;first|(refine yB ?_;first|refine yC ?_)|refine yE ?_)|refine yZ ?_|refine zst ?_|refine k_blk_other rfl ?_|(refine zk ?_ ?_<;>intro hc hr<;>try first|contradiction|exfalso;omega))
        all_goals first | (refine z_ret (hv := ?_) (ho := ?_) <;> first | rfl | (simp [go_sem, *]; done) | (simp_all; done) | (simp_all; omega)) | skip
    · repeat' (first|(refine ya ?_;first|(refine yb ?_;first|refine yc ?_)|refine ye ?_)|refine yz ?_|(refine yA ?_;first|(refine yB ?_;first|refine yC ?_)|refine yE ?_)|refine yZ ?_|refine zst ?_|refine k_blk_other rfl ?_|(refine zk ?_ ?_<;>intro hc hr<;>try first|contradiction|exfalso;omega))
      all_goals first | (refine z_ret (hv := ?_) (ho := ?_) <;> first | rfl | (simp [go_sem, *]; done) | (simp_all; done) | (simp_all; omega)) | skip
  · repeat' (first|(refine ya ?_;first|(refine yb ?_;first|refine yc ?_)|refine ye ?_)|refine yz ?_|(refine yA ?_;first|(refine yB ?_;first|refine yC ?_)|refine yE ?_)|refine yZ ?_|refine zst ?_|refine k_blk_other rfl ?_|(refine zk ?_ ?_<;>intro hc hr<;>try first|contradiction|exfalso;omega))
    all_goals first | (refine z_ret (hv := ?_) (ho := ?_) <;> first | rfl | (simp [go_sem, *]; done) | (simp_all; done) | (simp_all; omega)) | skip
theorem law40_of {l : List AV} (h : All2 (ShA T) [24, 25, 25] l) : law40_S l (.one (.sc (.bool true))) [] := by
  obtain ⟨c1, c2, c3, rfl, hh1, hh2, hh3⟩ := all2_3 h
  obtain ⟨r1, z1, es1, rfl, p1, _⟩ := shGraph hh1
  obtain ⟨l2, rfl, p2, q2⟩ := shInts T25 T3 hh2
  obtain ⟨l3, rfl, p3, q3⟩ := shInts T25 T3 hh3
  exact ⟨r1, z1, es1, l2, l3, ⟨p1, ⟨p2, q2⟩, ⟨p3, q3⟩⟩, rfl, rfl, rfl⟩
instance : Con Tryz.prog 3 law40_S := con law40 Tryz.func3
end Go.Proofs.Tryz
