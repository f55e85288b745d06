import Derived.Test.YtdcipchfpljblaaGreatQ10
import Derived.Test.YtdcipchfpljblaaGreatB
set_option linter.unusedVariables false
set_option linter.unusedSimpArgs false
set_option linter.unnecessarySimpa false
namespace Go.Proofs.Tryz
open Go Go.Eng
set_option linter.unnecessarySimpa false
set_option linter.unusedSimpArgs false
set_option maxHeartbeats 4000000
def K_law52 : Nat → List Nat := fun i => ([[1], [1, 3], [1, 3], [1, 18], [2], [1, 4, 5], [1, 4, 5, 6], [1, 4, 5, 6, 7, 8], [1, 4, 5, 6, 7, 8, 41], [2], [1, 4, 5, 6, 7, 8, 46], [2], [1, 4, 5, 6, 7, 8, 9], [1, 4, 5, 7, 8, 9], [1, 4, 5, 7, 8, 63], [2], [1, 4, 5, 7, 8, 10], [1, 4, 5, 7, 8, 10], [1, 4, 5, 7, 8, 10], [1, 4, 5, 7, 8, 10, 11], [1, 4, 5, 7, 8, 10, 11], [1, 4, 5, 7, 8, 10, 11, 74], [2], [1, 4, 5, 7, 8, 10, 11], [1, 4, 5, 7, 8, 10, 11, 79], [2], [1, 4, 5, 7, 8, 10, 82], [2], [4, 5, 7, 8, 10, 12, 13], [7, 8, 10, 98], [2], [7, 8, 10, 11], [8, 10, 11], [8, 10, 11, 103], [2], [10, 11], [10, 11, 108], [2], [111], [2], [2]] : List (List Nat)).getD i []
attribute [go_sem] K_law52
def law52_S : Eng.Spec := fun args av objs => ∃ (r z : Int) (es : List Ed), ((es.length ≤ 9223372036854775807)) ∧ args = [grA r z es] ∧ av = aB true ∧ objs = []
theorem law52 : Sat Tryz.prog 10 law52_S := by
  refine sat_of tok okr mixed K_law52 Tryz.func10 rfl (rs := [.tmp 2]) rfl Tryz.ntmps10 ?_
  rintro args av objs ⟨r, z, es, hpre, rfl, rfl, rfl⟩
  refine ⟨by show 1 ≤ 112; decide, ?_⟩
  by_cases hs0 : es.length ≤ 1048576
  · have hm := cyG_es (g := ⟨r, z, es⟩) (n := 1048576) hs0 (by omega)
    have hf := cyG_len (g := ⟨r, z, es⟩)
    repeat' (first|(refine ya ?_;first|(refine yb ?_;first|refine yc ?_|refine yr ?_)|refine ye ?_)|(refine yg ?_;intro hgs;first|(replace hgs:=zgy hgs;first|(refine yb ?_;first|refine yc ?_|refine yr ?_)|refine yy hgs ?_;clear hgs)|(refine yn (zgn hgs) ?_;clear hgs)|((fail_if_success have:=zgy hgs);refine z_spl hgs (h1:=?_) (h2:=?_)<;>clear hgs<;>intro hg hr<;>try first|contradiction|exfalso;omega))|refine yz ?_|(refine yA ?_;first|(refine yB ?_;first|refine yC ?_|refine yR ?_)|refine yE ?_)|(refine yG ?_;intro hgs;first|(replace hgs:=zgy hgs;first|(refine yB ?_;first|refine yC ?_|refine yR ?_)|refine yY hgs ?_;clear hgs)|(refine yN (zgn hgs) ?_;clear hgs)|((fail_if_success have:=zgy hgs);refine z_spll hgs (h1:=?_) (h2:=?_)<;>clear hgs<;>intro hg hr<;>try first|contradiction|exfalso;omega))|refine yZ ?_|refine zst ?_|refine k_blk_other rfl ?_|(refine zk ?_ ?_<;>intro hc hr<;>try first|contradiction|exfalso;omega))
    all_goals first | (refine z_ret (hv := ?_) (ho := ?_) <;> first | rfl | (simp [go_sem, *]; done) | (simp_all; done) | (simp_all; omega)) | skip
  · repeat' (first|(refine ya ?_;first|(refine yb ?_;first|refine yc ?_|refine yr ?_)|refine ye ?_)|(refine yg ?_;intro hgs;first|(replace hgs:=zgy hgs;first|(refine yb ?_;first|refine yc ?_|refine yr ?_)|refine yy hgs ?_;clear hgs)|(refine yn (zgn hgs) ?_;clear hgs)|((fail_if_success have:=zgy hgs);refine z_spl hgs (h1:=?_) (h2:=?_)<;>clear hgs<;>intro hg hr<;>try first|contradiction|exfalso;omega))|refine yz ?_|(refine yA ?_;first|(refine yB ?_;first|refine yC ?_|refine yR ?_)|refine yE ?_)|(refine yG ?_;intro hgs;first|(replace hgs:=zgy hgs;first|(refine yB ?_;first|refine yC ?_|refine yR ?_)|refine yY hgs ?_;clear hgs)|(refine yN (zgn hgs) ?_;clear hgs)|((fail_if_success have:=zgy hgs);refine z_spll hgs (h1:=?_) (h2:=?_)<;>clear hgs<;>intro hg hr<;>try first|contradiction|exfalso;omega))|refine yZ ?_|refine zst ?_|refine k_blk_other rfl ?_|(refine zk ?_ ?_<;>intro hc hr<;>try first|contradiction|exfalso;omega))
    all_goals first | (refine z_ret (hv := ?_) (ho := ?_) <;> first | rfl | (simp [go_sem, *]; done) | (simp_all; done) | (simp_all; omega)) | skip
theorem law52_of {l : List AV} (h : All2 (ShA T) [24] l) : law52_S l (.one (.sc (.bool true))) [] := by
  obtain ⟨c, rfl, hh⟩ := all2_1 h
  obtain ⟨r, z, es, rfl, p, _⟩ := shGraph hh
  exact ⟨r, z, es, p, rfl, rfl, rfl⟩
instance : Con Tryz.prog 10 law52_S := con law52 Tryz.func10
end Go.Proofs.Tryz
