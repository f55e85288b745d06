import Derived.Test.YtdcipchfpljblaaZ
import Derived.Test.YtdcipchfpljblaaB
set_option linter.unusedVariables false
set_option linter.unusedSimpArgs false
set_option linter.unnecessarySimpa false
namespace Go.Proofs.Try
open Go Go.Eng
set_option linter.unnecessarySimpa false
set_option linter.unusedSimpArgs false
set_option maxHeartbeats 4000000
def K_law39 : Nat → List Nat := fun i => ([[1, 2], [1, 2, 12], [4], [1, 2, 5], [1, 2, 5], [1, 2, 17], [4], [1, 2, 6], [1, 2, 6, 7], [1, 2, 6, 7, 8], [1, 2, 6, 7, 8, 9], [1, 2, 7, 8, 32], [4], [1, 8, 37], [4], [42], [4], [4]] : List (List Nat)).getD i []
attribute [go_sem] K_law39
def law39_S : Eng.Spec := fun args av objs => ∃ (r1 z1 : Int) (es1 : List Ed) (l2 : List Int), ((es1.length ≤ 9223372036854775807) ∧ (l2.length ≤ 9223372036854775807 ∧ (∀ n ∈ l2, rg n))) ∧ args = [grA r1 z1 es1, aL l2] ∧ av = aB true ∧ objs = []
theorem law39 : Sat Try.prog 4 law39_S := by
  refine sat_of tok okr mixed K_law39 Try.func4 rfl (rs := [.tmp 4]) rfl Try.ntmps4 ?_
  rintro args av objs ⟨r1, z1, es1, l2, hpre, rfl, rfl, rfl⟩
  refine ⟨by show 2 ≤ 43; decide, ?_⟩
  obtain ⟨hp1, ⟨hp2, hq2⟩⟩ := hpre
  by_cases hs0 : es1.length ≤ 1048576
  · by_cases hs1 : l2.length ≤ 1048576
    · repeat' (first|(refine ya ?_;first|(refine yb ?_;first|refine yc ?_)|refine ye ?_)|refine yz ?_|(refine yA ?_;first|(refine yB ?_;first|refine yC ?_)|refine yE ?_)|refine yZ ?_|refine zst ?_|refine k_blk_other rfl ?_|(refine zk ?_ ?_<;>intro hc hr<;>try first|contradiction|exfalso;omega))
      all_goals first | (refine z_ret (hv := ?_) (ho := ?_) <;> first | rfl | (simp [go_sem, *]; done) | (simp_all; done) | (simp_all; omega)) | skip
    · repeat' (first|(refine ya ?_;first|(refine yb ?_;first|refine yc ?_)|refine ye ?_)|refine yz ?_|(refine yA ?_;first|(refine yB ?_;first|refine yC ?_)|refine yE ?_)|refine yZ ?_|refine zst ?_|refine k_blk_other rfl ?_|(refine zk ?_ ?_<;>intro hc hr<;>try first|contradiction|exfalso;omega))
      all_goals first | (refine z_ret (hv := ?_) (ho := ?_) <;> first | rfl | (simp [go_sem, *]; done) | (simp_all; done) | (simp_all; omega)) | skip
  · repeat' (first|(refine ya ?_;first|(refine yb ?_;first|refine yc ?_)|refine ye ?_)|refine yz ?_|(refine yA ?_;first|(refine yB ?_;first|refine yC ?_)|refine yE ?_)|refine yZ ?_|refine zst ?_|refine k_blk_other rfl ?_|(refine zk ?_ ?_<;>intro hc hr<;>try first|contradiction|exfalso;omega))
    all_goals first | (refine z_ret (hv := ?_) (ho := ?_) <;> first | rfl | (simp [go_sem, *]; done) | (simp_all; done) | (simp_all; omega)) | skip
theorem law39_of {l : List AV} (h : All2 (ShA T) [24, 33] l) : law39_S l (.one (.sc (.bool true))) [] := by
  obtain ⟨c1, c2, rfl, hh1, hh2⟩ := all2_2 h
  obtain ⟨r1, z1, es1, rfl, p1, _⟩ := shGraph hh1
  obtain ⟨l2, rfl, p2, q2⟩ := shInts T33 T3 hh2
  exact ⟨r1, z1, es1, l2, ⟨p1, ⟨p2, q2⟩⟩, rfl, rfl, rfl⟩
instance : Con Try.prog 4 law39_S := con law39 Try.func4
end Go.Proofs.Try
