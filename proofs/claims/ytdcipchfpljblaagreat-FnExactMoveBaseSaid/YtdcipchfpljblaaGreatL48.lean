import Derived.Test.YtdcipchfpljblaaGreatZ
import Derived.Test.YtdcipchfpljblaaGreatB
set_option linter.unusedVariables false
set_option linter.unusedSimpArgs false
set_option linter.unnecessarySimpa false
namespace Go.Proofs.Tryz
open Go Go.Eng
set_option linter.unnecessarySimpa false
set_option linter.unusedSimpArgs false
set_option maxHeartbeats 4000000
def K_law48 : Nat → List Nat := fun i => ([[1, 2], [1, 2, 5], [1, 2, 5], [1, 2, 20], [4], [1, 2, 6, 7], [1, 2, 6, 7, 8], [1, 2, 6, 7, 8, 9, 10], [1, 2, 6, 7, 8, 9, 10, 44], [4], [1, 2, 6, 7, 8, 9, 10, 49], [4], [1, 2, 6, 7, 8, 9, 10, 11], [1, 2, 6, 7, 9, 10, 11], [1, 2, 6, 7, 9, 65], [4], [1, 2, 6, 7, 9, 12], [1, 2, 6, 7, 9, 12], [1, 2, 6, 7, 9, 12, 13], [1, 2, 6, 7, 9, 12, 13], [1, 2, 6, 7, 9, 12, 13, 73], [4], [1, 2, 6, 7, 9, 12, 76], [4], [6, 7, 9, 12, 14, 15], [9, 12, 92], [4], [9, 12, 13], [12, 13], [12, 13, 97], [4], [100], [4], [4]] : List (List Nat)).getD i []
attribute [go_sem] K_law48
def law48_S : Eng.Spec := fun args av objs => ∃ (r1 z1 : Int) (es1 : List Ed) (v2 : Int), ((es1.length ≤ 9223372036854775807) ∧ (rg v2)) ∧ args = [grA r1 z1 es1, aI v2] ∧ av = aB true ∧ objs = []
theorem law48 : Sat Tryz.prog 8 law48_S := by
  refine sat_of tok okr mixed K_law48 Tryz.func8 rfl (rs := [.tmp 4]) rfl Tryz.ntmps8 ?_
  rintro args av objs ⟨r1, z1, es1, v2, hpre, rfl, rfl, rfl⟩
  refine ⟨by show 2 ≤ 101; decide, ?_⟩
  obtain ⟨hp1, hp2⟩ := hpre
  by_cases hs0 : es1.length ≤ 1048576
  · have hm := movG_es (g := ⟨r1, z1, es1⟩) (v := v2) (n := 1048576) hs0 (by omega)
    repeat' (first|(refine ya ?_;first|(refine yb ?_;first|refine yc ?_|refine yr ?_)|refine ye ?_)|(refine yg ?_;intro hgs;first|(replace hgs:=zgy hgs;first|(refine yb ?_;first|refine yc ?_|refine yr ?_)|refine yy hgs ?_;clear hgs)|(refine yn (zgn hgs) ?_;clear hgs)|((fail_if_success have:=zgy hgs);refine z_spl hgs (h1:=?_) (h2:=?_)<;>clear hgs<;>intro hg hr<;>try first|contradiction|exfalso;omega))|refine yz ?_|(refine yA ?_;first|(refine yB ?_;first|refine yC ?_|refine yR ?_)|refine yE ?_)|(refine yG ?_;intro hgs;first|(replace hgs:=zgy hgs;first|(refine yB ?_;first|refine yC ?_|refine yR ?_)|refine yY hgs ?_;clear hgs)|(refine yN (zgn hgs) ?_;clear hgs)|((fail_if_success have:=zgy hgs);refine z_spll hgs (h1:=?_) (h2:=?_)<;>clear hgs<;>intro hg hr<;>try first|contradiction|exfalso;omega))|refine yZ ?_|refine zst ?_|refine k_blk_other rfl ?_|(refine zk ?_ ?_<;>intro hc hr<;>try first|contradiction|exfalso;omega))
    all_goals first | (refine z_ret (hv := ?_) (ho := ?_) <;> first | rfl | (simp [go_sem, *]; done) | (simp_all; done) | (simp_all; omega)) | skip
  · repeat' (first|(refine ya ?_;first|(refine yb ?_;first|refine yc ?_|refine yr ?_)|refine ye ?_)|(refine yg ?_;intro hgs;first|(replace hgs:=zgy hgs;first|(refine yb ?_;first|refine yc ?_|refine yr ?_)|refine yy hgs ?_;clear hgs)|(refine yn (zgn hgs) ?_;clear hgs)|((fail_if_success have:=zgy hgs);refine z_spl hgs (h1:=?_) (h2:=?_)<;>clear hgs<;>intro hg hr<;>try first|contradiction|exfalso;omega))|refine yz ?_|(refine yA ?_;first|(refine yB ?_;first|refine yC ?_|refine yR ?_)|refine yE ?_)|(refine yG ?_;intro hgs;first|(replace hgs:=zgy hgs;first|(refine yB ?_;first|refine yC ?_|refine yR ?_)|refine yY hgs ?_;clear hgs)|(refine yN (zgn hgs) ?_;clear hgs)|((fail_if_success have:=zgy hgs);refine z_spll hgs (h1:=?_) (h2:=?_)<;>clear hgs<;>intro hg hr<;>try first|contradiction|exfalso;omega))|refine yZ ?_|refine zst ?_|refine k_blk_other rfl ?_|(refine zk ?_ ?_<;>intro hc hr<;>try first|contradiction|exfalso;omega))
    all_goals first | (refine z_ret (hv := ?_) (ho := ?_) <;> first | rfl | (simp [go_sem, *]; done) | (simp_all; done) | (simp_all; omega)) | skip
theorem law48_of {l : List AV} (h : All2 (ShA T) [24, 3] l) : law48_S l (.one (.sc (.bool true))) [] := by
  obtain ⟨c1, c2, rfl, hh1, hh2⟩ := all2_2 h
  obtain ⟨r1, z1, es1, rfl, p1, _⟩ := shGraph hh1
  obtain ⟨v2, rfl, p2⟩ := shInt T3 hh2
  exact ⟨r1, z1, es1, v2, ⟨p1, p2⟩, rfl, rfl, rfl⟩
instance : Con Tryz.prog 8 law48_S := con law48 Tryz.func8
end Go.Proofs.Tryz
