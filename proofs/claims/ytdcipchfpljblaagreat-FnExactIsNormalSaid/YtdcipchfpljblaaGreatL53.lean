import Derived.Test.YtdcipchfpljblaaGreatQ11
import Derived.Test.YtdcipchfpljblaaGreatB
set_option linter.unusedVariables false
set_option linter.unusedSimpArgs false
set_option linter.unnecessarySimpa false
namespace Go.Proofs.Tryz
open Go Go.Eng
set_option linter.unnecessarySimpa false
set_option linter.unusedSimpArgs false
set_option maxHeartbeats 4000000
def K_law53 : Nat → List Nat := fun i => ([[1], [1, 3], [1, 3], [1, 11], [2], [1, 4], [1, 4, 5], [1, 4, 5, 6], [1, 5, 21], [2], [26], [2], [2]] : List (List Nat)).getD i []
attribute [go_sem] K_law53
def law53_S : Eng.Spec := fun args av objs => ∃ (r z : Int) (es : List Ed), ((es.length ≤ 9223372036854775807)) ∧ args = [grA r z es] ∧ av = aB true ∧ objs = []
theorem law53 : Sat Tryz.prog 11 law53_S := by
  refine sat_of tok okr mixed K_law53 Tryz.func11 rfl (rs := [.tmp 2]) rfl Tryz.ntmps11 ?_
  rintro args av objs ⟨r, z, es, hpre, rfl, rfl, rfl⟩
  refine ⟨by show 1 ≤ 27; decide, ?_⟩
  by_cases hs0 : es.length ≤ 1048576
  · repeat' (first|(refine ya ?_;first|(refine yb ?_;first|refine yc ?_)|refine ye ?_)|refine yz ?_|(refine yA ?_;first|(refine yB ?_;first|refine yC ?_)|refine yE ?_)|refine yZ ?_|refine zst ?_|refine k_blk_other rfl ?_|(refine zk ?_ ?_<;>intro hc hr<;>try first|contradiction|exfalso;omega))
    all_goals first | (refine z_ret (hv := ?_) (ho := ?_) <;> first | rfl | (simp [go_sem, *]; done) | (simp_all; done) | (simp_all; omega)) | skip
  · repeat' (first|(refine ya ?_;first|(refine yb ?_;first|refine yc ?_)|refine ye ?_)|refine yz ?_|(refine yA ?_;first|(refine yB ?_;first|refine yC ?_)|refine yE ?_)|refine yZ ?_|refine zst ?_|refine k_blk_other rfl ?_|(refine zk ?_ ?_<;>intro hc hr<;>try first|contradiction|exfalso;omega))
    all_goals first | (refine z_ret (hv := ?_) (ho := ?_) <;> first | rfl | (simp [go_sem, *]; done) | (simp_all; done) | (simp_all; omega)) | skip
theorem law53_of {l : List AV} (h : All2 (ShA T) [24] l) : law53_S l (.one (.sc (.bool true))) [] := by
  obtain ⟨c, rfl, hh⟩ := all2_1 h
  obtain ⟨r, z, es, rfl, p, _⟩ := shGraph hh
  exact ⟨r, z, es, p, rfl, rfl, rfl⟩
instance : Con Tryz.prog 11 law53_S := con law53 Tryz.func11
end Go.Proofs.Tryz
