import Derived.Test.YtfgpcfdoahgkpaaGreatQ17
import Derived.Test.YtfgpcfdoahgkpaaGreatB
set_option linter.unusedVariables false
set_option linter.unusedSimpArgs false
set_option linter.unnecessarySimpa false
namespace Go.Proofs.Tryz
open Go Go.Eng
set_option linter.unnecessarySimpa false
set_option linter.unusedSimpArgs false
set_option maxHeartbeats 4000000
def K_law8 : Nat → List Nat := fun i => ([[2, 3], [2, 3, 5], [2, 3, 5], [2, 3, 5, 21], [4], [2, 3, 5], [2, 3, 26], [4], [2, 3, 6, 7], [2, 3, 6, 7, 8], [2, 3, 6, 7, 8, 9], [2, 3, 6, 7, 8, 9, 10, 11], [2, 3, 6, 7, 8, 9, 10, 11, 53], [4], [2, 3, 6, 7, 8, 9, 10, 11, 58], [4], [2, 3, 6, 7, 8, 9, 10, 11, 63], [4], [2, 3, 6, 7, 8, 9, 10, 11, 12], [2, 3, 6, 7, 9, 10, 11, 12], [2, 3, 6, 7, 10, 11, 12], [2, 3, 6, 7, 10, 82], [4], [2, 3, 6, 7, 10, 13], [2, 3, 6, 7, 10, 13], [2, 3, 6, 7, 10, 13, 14], [2, 3, 6, 7, 10, 13, 14], [2, 3, 6, 7, 10, 13, 14, 90], [4], [2, 3, 6, 7, 10, 13, 93], [4], [6, 7, 10, 13, 15, 16], [10, 13, 110], [4], [10, 13, 14], [13, 14], [13, 14, 115], [4], [118], [4], [4]] : List (List Nat)).getD i []
attribute [go_sem] K_law8
def law8_S : Eng.Spec := fun args av objs => ∃ (r1 z1 : Int) (es1 : List Ed) (r2 z2 : Int) (es2 : List Ed), ((es1.length ≤ 9223372036854775807) ∧ (es2.length ≤ 9223372036854775807)) ∧ args = [grA r1 z1 es1, grA r2 z2 es2] ∧ av = aB true ∧ objs = []
theorem law8 : Sat Tryz.prog 3 law8_S := by
  refine sat_of tok okr mixed K_law8 Tryz.func3 rfl (rs := [.tmp 4]) rfl Tryz.ntmps3 ?_
  rintro args av objs ⟨r1, z1, es1, r2, z2, es2, hpre, rfl, rfl, rfl⟩
  refine ⟨by show 2 ≤ 119; decide, ?_⟩
  by_cases hs0 : es1.length ≤ 1048576
  · by_cases hs1 : es1.length + es2.length ≤ 1048576
    · have hm := acW_len (a := ⟨r1, z1, es1⟩) (b := ⟨r2, z2, es2⟩)
      repeat' (first|(refine ya ?_;first|(refine yb ?_;first|refine yc ?_|refine yr ?_)|refine ye ?_)|(refine yg ?_;intro hgs;first|(replace hgs:=zgy hgs;first|(refine yb ?_;first|refine yc ?_|refine yr ?_)|refine yy hgs ?_;clear hgs)|(refine yn (zgn hgs) ?_;clear hgs)|((fail_if_success have:=zgy hgs);refine z_spl hgs (h1:=?_) (h2:=?_)<;>clear hgs<;>intro hg hr<;>try first|contradiction|exfalso;omega))|refine yz ?_|(refine yA ?_;first|(refine yB ?_;first|refine yC ?_|refine yR ?_)|refine yE ?_)|(refine yG ?_;intro hgs;first|(replace hgs:=zgy hgs;first|(refine yB ?_;first|refine yC ?_|refine yR ?_)|refine yY hgs ?_;clear hgs)|(refine yN (zgn hgs) ?_;clear hgs)|((fail_if_success have:=zgy hgs);refine z_spll hgs (h1:=?_) (h2:=?_)<;>clear hgs<;>intro hg hr<;>try first|contradiction|exfalso;omega))|refine yZ ?_|refine zst ?_|refine k_blk_other rfl ?_|(refine zk ?_ ?_<;>intro hc hr<;>try first|contradiction|exfalso;omega))
      all_goals first | (refine z_ret (hv := ?_) (ho := ?_) <;> first | rfl | (simp [go_sem, *]; done) | (simp_all; done) | (simp_all; omega)) | skip
    · repeat' (first|(refine ya ?_;first|(refine yb ?_;first|refine yc ?_|refine yr ?_)|refine ye ?_)|(refine yg ?_;intro hgs;first|(replace hgs:=zgy hgs;first|(refine yb ?_;first|refine yc ?_|refine yr ?_)|refine yy hgs ?_;clear hgs)|(refine yn (zgn hgs) ?_;clear hgs)|((fail_if_success have:=zgy hgs);refine z_spl hgs (h1:=?_) (h2:=?_)<;>clear hgs<;>intro hg hr<;>try first|contradiction|exfalso;omega))|refine yz ?_|(refine yA ?_;first|(refine yB ?_;first|refine yC ?_|refine yR ?_)|refine yE ?_)|(refine yG ?_;intro hgs;first|(replace hgs:=zgy hgs;first|(refine yB ?_;first|refine yC ?_|refine yR ?_)|refine yY hgs ?_;clear hgs)|(refine yN (zgn hgs) ?_;clear hgs)|((fail_if_success have:=zgy hgs);refine z_spll hgs (h1:=?_) (h2:=?_)<;>clear hgs<;>intro hg hr<;>try first|contradiction|exfalso;omega))|refine yZ ?_|refine zst ?_|refine k_blk_other rfl ?_|(refine zk ?_ ?_<;>intro hc hr<;>try first|contradiction|exfalso;omega))
      all_goals first | (refine z_ret (hv := ?_) (ho := ?_) <;> first | rfl | (simp [go_sem, *]; done) | (simp_all; done) | (simp_all; omega)) | skip
  · repeat' (first|(refine ya ?_;first|(refine yb ?_;first|refine yc ?_|refine yr ?_)|refine ye ?_)|(refine yg ?_;intro hgs;first|(replace hgs:=zgy hgs;first|(refine yb ?_;first|refine yc ?_|refine yr ?_)|refine yy hgs ?_;clear hgs)|(refine yn (zgn hgs) ?_;clear hgs)|((fail_if_success have:=zgy hgs);refine z_spl hgs (h1:=?_) (h2:=?_)<;>clear hgs<;>intro hg hr<;>try first|contradiction|exfalso;omega))|refine yz ?_|(refine yA ?_;first|(refine yB ?_;first|refine yC ?_|refine yR ?_)|refine yE ?_)|(refine yG ?_;intro hgs;first|(replace hgs:=zgy hgs;first|(refine yB ?_;first|refine yC ?_|refine yR ?_)|refine yY hgs ?_;clear hgs)|(refine yN (zgn hgs) ?_;clear hgs)|((fail_if_success have:=zgy hgs);refine z_spll hgs (h1:=?_) (h2:=?_)<;>clear hgs<;>intro hg hr<;>try first|contradiction|exfalso;omega))|refine yZ ?_|refine zst ?_|refine k_blk_other rfl ?_|(refine zk ?_ ?_<;>intro hc hr<;>try first|contradiction|exfalso;omega))
    all_goals first | (refine z_ret (hv := ?_) (ho := ?_) <;> first | rfl | (simp [go_sem, *]; done) | (simp_all; done) | (simp_all; omega)) | skip
theorem law8_of {l : List AV} (h : All2 (ShA T) [24, 24] l) : law8_S l (.one (.sc (.bool true))) [] := by
  obtain ⟨c1, c2, rfl, hh1, hh2⟩ := all2_2 h
  obtain ⟨r1, z1, es1, rfl, p1, _⟩ := shGraph hh1
  obtain ⟨r2, z2, es2, rfl, p2, _⟩ := shGraph hh2
  exact ⟨r1, z1, es1, r2, z2, es2, ⟨p1, p2⟩, rfl, rfl, rfl⟩
instance : Con Tryz.prog 3 law8_S := con law8 Tryz.func3
end Go.Proofs.Tryz
