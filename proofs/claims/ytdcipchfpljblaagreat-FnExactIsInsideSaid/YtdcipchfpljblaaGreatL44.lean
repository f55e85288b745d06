import Derived.Test.YtdcipchfpljblaaGreatQ16
import Derived.Test.YtdcipchfpljblaaGreatB
set_option linter.unusedVariables false
set_option linter.unusedSimpArgs false
set_option linter.unnecessarySimpa false
namespace Go.Proofs.Tryz
open Go Go.Eng
set_option linter.unnecessarySimpa false
set_option linter.unusedSimpArgs false
set_option maxHeartbeats 4000000
def K_law44 : Nat → List Nat := fun i => ([[2, 3], [2, 3, 5], [2, 3, 5], [2, 3, 5, 14], [4], [2, 3, 5], [2, 3, 19], [4], [2, 3, 6], [2, 3, 6, 7], [2, 3, 6, 7, 8], [2, 3, 6, 7, 8, 9], [2, 3, 7, 8, 34], [4], [3, 8, 39], [4], [44], [4], [4]] : List (List Nat)).getD i []
attribute [go_sem] K_law44
def law44_S : Eng.Spec := fun args av objs => ∃ (r1 z1 : Int) (es1 : List Ed) (r2 z2 : Int) (es2 : List Ed), ((es1.length ≤ 9223372036854775807) ∧ (es2.length ≤ 9223372036854775807)) ∧ args = [grA r1 z1 es1, grA r2 z2 es2] ∧ av = aB true ∧ objs = []
theorem law44 : Sat Tryz.prog 4 law44_S := by
  refine sat_of tok okr mixed K_law44 Tryz.func4 rfl (rs := [.tmp 4]) rfl Tryz.ntmps4 ?_
  rintro args av objs ⟨r1, z1, es1, r2, z2, es2, hpre, rfl, rfl, rfl⟩
  refine ⟨by show 2 ≤ 45; decide, ?_⟩
  by_cases hs0 : es1.length ≤ 1048576
  · by_cases hs1 : es1.length + es2.length ≤ 1048576
    · repeat' (first|(refine ya ?_;first|(refine yb ?_;first|refine yc ?_)|refine ye ?_)|refine yz ?_|(refine yA ?_;first|(refine yB ?_;first|refine yC ?_)|refine yE ?_)|refine yZ ?_|refine zst ?_|refine k_blk_other rfl ?_|(refine zk ?_ ?_<;>intro hc hr<;>try first|contradiction|exfalso;omega))
      all_goals first | (refine z_ret (hv := ?_) (ho := ?_) <;> first | rfl | (simp [go_sem, *]; done) | (simp_all; done) | (simp_all; omega)) | skip
    · repeat' (first|(refine ya ?_;first|(refine yb ?_;first|refine yc ?_)|refine ye ?_)|refine yz ?_|(refine yA ?_;first|(refine yB ?_;first|refine yC ?_)|refine yE ?_)|refine yZ ?_|refine zst ?_|refine k_blk_other rfl ?_|(refine zk ?_ ?_<;>intro hc hr<;>try first|contradiction|exfalso;omega))
      all_goals first | (refine z_ret (hv := ?_) (ho := ?_) <;> first | rfl | (simp [go_sem, *]; done) | (simp_all; done) | (simp_all; omega)) | skip
  · repeat' (first|(refine ya ?_;first|(refine yb ?_;first|refine yc ?_)|refine ye ?_)|refine yz ?_|(refine yA ?_;first|(refine yB ?_;first|refine yC ?_)|refine yE ?_)|refine yZ ?_|refine zst ?_|refine k_blk_other rfl ?_|(refine zk ?_ ?_<;>intro hc hr<;>try first|contradiction|exfalso;omega))
    all_goals first | (refine z_ret (hv := ?_) (ho := ?_) <;> first | rfl | (simp [go_sem, *]; done) | (simp_all; done) | (simp_all; omega)) | skip
theorem law44_of {l : List AV} (h : All2 (ShA T) [24, 24] l) : law44_S l (.one (.sc (.bool true))) [] := by
  obtain ⟨c1, c2, rfl, hh1, hh2⟩ := all2_2 h
  obtain ⟨r1, z1, es1, rfl, p1, _⟩ := shGraph hh1
  obtain ⟨r2, z2, es2, rfl, p2, _⟩ := shGraph hh2
  exact ⟨r1, z1, es1, r2, z2, es2, ⟨p1, p2⟩, rfl, rfl, rfl⟩
instance : Con Tryz.prog 4 law44_S := con law44 Tryz.func4
end Go.Proofs.Tryz
