import Derived.Test.YtdcipchfpljblaaGreatQ13
import Derived.Test.YtdcipchfpljblaaGreatB
set_option linter.unusedVariables false
set_option linter.unusedSimpArgs false
set_option linter.unnecessarySimpa false
namespace Go.Proofs.Tryz
open Go Go.Eng
set_option linter.unnecessarySimpa false
set_option linter.unusedSimpArgs false
set_option maxHeartbeats 4000000
def K_law49 : Nat → List Nat := fun i => ([[1, 2], [1, 2, 19], [4], [1, 2, 5], [1, 2, 5], [1, 2, 24], [4], [1, 2, 6, 7], [1, 2, 6, 7, 8], [1, 2, 6, 7, 8, 9], [1, 2, 6, 7, 8, 9, 10, 11], [1, 2, 6, 7, 8, 9, 10, 11, 51], [4], [1, 2, 6, 7, 8, 9, 10, 11, 56], [4], [1, 2, 6, 7, 8, 9, 10, 11, 61], [4], [1, 2, 6, 7, 8, 9, 10, 11, 12], [1, 2, 6, 7, 9, 10, 11, 12], [1, 2, 6, 7, 10, 11, 12], [1, 2, 6, 7, 10, 80], [4], [1, 2, 6, 7, 10, 13], [1, 2, 6, 7, 10, 13], [1, 2, 6, 7, 10, 13, 14], [1, 2, 6, 7, 10, 13, 14], [1, 2, 6, 7, 10, 13, 14, 88], [4], [1, 2, 6, 7, 10, 13, 91], [4], [6, 7, 10, 13, 15, 16], [10, 13, 108], [4], [10, 13, 14], [13, 14], [13, 14, 113], [4], [116], [4], [4]] : List (List Nat)).getD i []
attribute [go_sem] K_law49
def law49_S : Eng.Spec := fun args av objs => ∃ (r1 z1 : Int) (es1 : List Ed) (l2 : List Int), ((es1.length ≤ 9223372036854775807) ∧ (l2.length ≤ 9223372036854775807 ∧ (∀ n ∈ l2, rg n))) ∧ args = [grA r1 z1 es1, aL l2] ∧ av = aB true ∧ objs = []
theorem law49 : Sat Tryz.prog 9 law49_S := by
  refine sat_of tok okr mixed K_law49 Tryz.func9 rfl (rs := [.tmp 4]) rfl Tryz.ntmps9 ?_
  rintro args av objs ⟨r1, z1, es1, l2, hpre, rfl, rfl, rfl⟩
  refine ⟨by show 2 ≤ 117; decide, ?_⟩
  obtain ⟨hp1, ⟨hp2, hq2⟩⟩ := hpre
  by_cases hs0 : es1.length ≤ 1048576
  · by_cases hs1 : l2.length ≤ 1048576
    · have hm := rwO_len (r := r1) (z := z1) (es := es1) (w := l2)
      repeat' (first|(refine ya ?_;first|(refine yb ?_;first|refine yc ?_|refine yr ?_)|refine ye ?_)|(refine yg ?_;intro hgs;first|(replace hgs:=zgy hgs;first|(refine yb ?_;first|refine yc ?_|refine yr ?_)|refine yy hgs ?_;clear hgs)|(refine yn (zgn hgs) ?_;clear hgs)|((fail_if_success have:=zgy hgs);refine z_spl hgs (h1:=?_) (h2:=?_)<;>clear hgs<;>intro hg hr<;>try first|contradiction|exfalso;omega))|refine yz ?_|(refine yA ?_;first|(refine yB ?_;first|refine yC ?_|refine yR ?_)|refine yE ?_)|(refine yG ?_;intro hgs;first|(replace hgs:=zgy hgs;first|(refine yB ?_;first|refine yC ?_|refine yR ?_)|refine yY hgs ?_;clear hgs)|(refine yN (zgn hgs) ?_;clear hgs)|((fail_if_success have:=zgy hgs);refine z_spll hgs (h1:=?_) (h2:=?_)<;>clear hgs<;>intro hg hr<;>try first|contradiction|exfalso;omega))|refine yZ ?_|refine zst ?_|refine k_blk_other rfl ?_|(refine zk ?_ ?_<;>intro hc hr<;>try first|contradiction|exfalso;omega))
      all_goals first | (refine z_ret (hv := ?_) (ho := ?_) <;> first | rfl | (simp [go_sem, *]; done) | (simp_all; done) | (simp_all; omega)) | skip
    · repeat' (first|(refine ya ?_;first|(refine yb ?_;first|refine yc ?_|refine yr ?_)|refine ye ?_)|(refine yg ?_;intro hgs;first|(replace hgs:=zgy hgs;first|(refine yb ?_;first|refine yc ?_|refine yr ?_)|refine yy hgs ?_;clear hgs)|(refine yn (zgn hgs) ?_;clear hgs)|((fail_if_success have:=zgy hgs);refine z_spl hgs (h1:=?_) (h2:=?_)<;>clear hgs<;>intro hg hr<;>try first|contradiction|exfalso;omega))|refine yz ?_|(refine yA ?_;first|(refine yB ?_;first|refine yC ?_|refine yR ?_)|refine yE ?_)|(refine yG ?_;intro hgs;first|(replace hgs:=zgy hgs;first|(refine yB ?_;first|refine yC ?_|refine yR ?_)|refine yY hgs ?_;clear hgs)|(refine yN (zgn hgs) ?_;clear hgs)|((fail_if_success have:=zgy hgs);refine z_spll hgs (h1:=?_) (h2:=?_)<;>clear hgs<;>intro hg hr<;>try first|contradiction|exfalso;omega))|refine yZ ?_|refine zst ?_|refine k_blk_other rfl ?_|(refine zk ?_ ?_<;>intro hc hr<;>try first|contradiction|exfalso;omega))
      all_goals first | (refine z_ret (hv := ?_) (ho := ?_) <;> first | rfl | (simp [go_sem, *]; done) | (simp_all; done) | (simp_all; omega)) | skip
  · repeat' (first|(refine ya ?_;first|(refine yb ?_;first|refine yc ?_|refine yr ?_)|refine ye ?_)|(refine yg ?_;intro hgs;first|(replace hgs:=zgy hgs;first|(refine yb ?_;first|refine yc ?_|refine yr ?_)|refine yy hgs ?_;clear hgs)|(refine yn (zgn hgs) ?_;clear hgs)|((fail_if_success have:=zgy hgs);refine z_spl hgs (h1:=?_) (h2:=?_)<;>clear hgs<;>intro hg hr<;>try first|contradiction|exfalso;omega))|refine yz ?_|(refine yA ?_;first|(refine yB ?_;first|refine yC ?_|refine yR ?_)|refine yE ?_)|(refine yG ?_;intro hgs;first|(replace hgs:=zgy hgs;first|(refine yB ?_;first|refine yC ?_|refine yR ?_)|refine yY hgs ?_;clear hgs)|(refine yN (zgn hgs) ?_;clear hgs)|((fail_if_success have:=zgy hgs);refine z_spll hgs (h1:=?_) (h2:=?_)<;>clear hgs<;>intro hg hr<;>try first|contradiction|exfalso;omega))|refine yZ ?_|refine zst ?_|refine k_blk_other rfl ?_|(refine zk ?_ ?_<;>intro hc hr<;>try first|contradiction|exfalso;omega))
    all_goals first | (refine z_ret (hv := ?_) (ho := ?_) <;> first | rfl | (simp [go_sem, *]; done) | (simp_all; done) | (simp_all; omega)) | skip
theorem law49_of {l : List AV} (h : All2 (ShA T) [24, 25] l) : law49_S l (.one (.sc (.bool true))) [] := by
  obtain ⟨c1, c2, rfl, hh1, hh2⟩ := all2_2 h
  obtain ⟨r1, z1, es1, rfl, p1, _⟩ := shGraph hh1
  obtain ⟨l2, rfl, p2, q2⟩ := shInts T25 T3 hh2
  exact ⟨r1, z1, es1, l2, ⟨p1, ⟨p2, q2⟩⟩, rfl, rfl, rfl⟩
instance : Con Tryz.prog 9 law49_S := con law49 Tryz.func9
end Go.Proofs.Tryz
