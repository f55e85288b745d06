import Derived.Test.YtdhnpicnaajdfaaGreatD10
import Derived.Test.YtdhnpicnaajdfaaGreatD12
import Derived.Test.YtdhnpicnaajdfaaGreatD9
import Derived.Test.YtdhnpicnaajdfaaGreatX
import Derived.Test.YtdhnpicnaajdfaaGreatR
import Derived.Test.YtdhnpicnaajdfaaGreatV6
set_option linter.unusedVariables false
set_option linter.unusedSimpArgs false
set_option linter.unnecessarySimpa false
namespace Go.Proofs.Tryz
open Go Go.Eng
set_option linter.unnecessarySimpa false
set_option linter.unusedSimpArgs false
set_option maxHeartbeats 8000000
set_option maxRecDepth 20000
theorem orders_law {r z : Int} {es : List Ed} (hc : conn ⟨r, z, es⟩ = true) (cs : List Int) : (foldO cs ⟨r, z, es⟩).2.length = (foldO [] ⟨r, z, es⟩).2.length ∧ canG ⟨(foldO cs ⟨r, z, es⟩).1.r, (foldO cs ⟨r, z, es⟩).1.z, (foldO cs ⟨r, z, es⟩).1.es⟩ = canG ⟨(foldO [] ⟨r, z, es⟩).1.r, (foldO [] ⟨r, z, es⟩).1.z, (foldO [] ⟨r, z, es⟩).1.es⟩ ∧ coreG ⟨r, z, es⟩ = coreG ⟨(foldO cs ⟨r, z, es⟩).1.r, (foldO cs ⟨r, z, es⟩).1.z, (foldO cs ⟨r, z, es⟩).1.es⟩ := orders hc cs
attribute [local irreducible] beV beS byV byS nwC l7G dFL foldO canG coreG trimG conn isG isF
def K_law51 : Nat → List Nat := fun i => ([[0], [0, 12], [2], [3, 4], [3, 4, 20], [2], [3, 5, 6], [3, 5, 6, 7, 8], [3, 5, 6, 7, 8, 9], [3, 5, 6, 7, 8, 40], [2], [2]] : List (List Nat)).getD i []
attribute [go_sem] K_law51
def law51_S : Eng.Spec := fun args av objs => ∃ (cd : List Int), (cd.length ≤ 9223372036854775807) ∧ args = [.one (.imm 1 (bys cd))] ∧ av = aB true ∧ objs = []
theorem law51 : Sat Tryz.prog 5 law51_S := by
  refine sat_of tok okr mixed K_law51 Tryz.func5 rfl (rs := [.tmp 2]) rfl Tryz.ntmps5 ?_
  rintro args av objs ⟨cd, hpre, rfl, rfl, rfl⟩
  refine ⟨by show 1 ≤ 60; decide, ?_⟩
  by_cases hs0 : cd.length ≤ 1048576
  · have hes := l7G_es cd (nwC cd)
    have hfi := dFL_len cd
    cases hc : conn ⟨(l7G cd (nwC cd)).1.r, (l7G cd (nwC cd)).1.z, (l7G cd (nwC cd)).1.es⟩
    · repeat' (first|(refine ya ?_;first|(refine yb ?_;first|refine yc ?_)|refine ye ?_)|(refine yg ?_;intro hgs;first|(replace hgs:=zgy hgs;first|(refine yb ?_;first|refine yc ?_)|refine yy hgs ?_;clear hgs)|(refine yn (zgn hgs) ?_;clear hgs)|((fail_if_success have:=zgy hgs);refine z_spl hgs (h1:=?_) (h2:=?_)<;>clear hgs<;>intro hg hr<;>try first|contradiction|exfalso;omega))|refine yz ?_|(refine yA ?_;first|(refine yB ?_;first|refine yC ?_)|refine yE ?_)|(refine yG ?_;intro hgs;first|(replace hgs:=zgy hgs;first|(refine yB ?_;first|refine yC ?_)|refine yY hgs ?_;clear hgs)|(refine yN (zgn hgs) ?_;clear hgs)|((fail_if_success have:=zgy hgs);refine z_spll hgs (h1:=?_) (h2:=?_)<;>clear hgs<;>intro hg hr<;>try first|contradiction|exfalso;omega))|refine yZ ?_|refine zst ?_|refine k_blk_other rfl ?_|(refine zk ?_ ?_<;>intro hc hr<;>try first|contradiction|exfalso;omega))
      all_goals first | (refine z_ret (hv := ?_) (ho := ?_) <;> first | rfl | (simp [go_sem, *]; done) | (simp_all; done) | (simp_all; omega)) | skip
    · obtain ⟨h1, h2, h3⟩ := orders_law hc (dFL cd)
      have hfe := foldO_es (cs := []) (g := ⟨(l7G cd (nwC cd)).1.r, (l7G cd (nwC cd)).1.z, (l7G cd (nwC cd)).1.es⟩) hes (by omega)
      have hfl := foldO_len (cs := []) (g := ⟨(l7G cd (nwC cd)).1.r, (l7G cd (nwC cd)).1.z, (l7G cd (nwC cd)).1.es⟩)
      have hfe2 := foldO_es (cs := dFL cd) (g := ⟨(l7G cd (nwC cd)).1.r, (l7G cd (nwC cd)).1.z, (l7G cd (nwC cd)).1.es⟩) hes (by omega)
      have hfl2 := foldO_len (cs := dFL cd) (g := ⟨(l7G cd (nwC cd)).1.r, (l7G cd (nwC cd)).1.z, (l7G cd (nwC cd)).1.es⟩)
      have hce := canG_es (g := ⟨(foldO [] ⟨(l7G cd (nwC cd)).1.r, (l7G cd (nwC cd)).1.z, (l7G cd (nwC cd)).1.es⟩).1.r, (foldO [] ⟨(l7G cd (nwC cd)).1.r, (l7G cd (nwC cd)).1.z, (l7G cd (nwC cd)).1.es⟩).1.z, (foldO [] ⟨(l7G cd (nwC cd)).1.r, (l7G cd (nwC cd)).1.z, (l7G cd (nwC cd)).1.es⟩).1.es⟩) hfe (by omega)
      have hke := coreG_es (g := ⟨(foldO (dFL cd) ⟨(l7G cd (nwC cd)).1.r, (l7G cd (nwC cd)).1.z, (l7G cd (nwC cd)).1.es⟩).1.r, (foldO (dFL cd) ⟨(l7G cd (nwC cd)).1.r, (l7G cd (nwC cd)).1.z, (l7G cd (nwC cd)).1.es⟩).1.z, (foldO (dFL cd) ⟨(l7G cd (nwC cd)).1.r, (l7G cd (nwC cd)).1.z, (l7G cd (nwC cd)).1.es⟩).1.es⟩) hfe2 (by omega)
      have hce2 := canG_es (g := ⟨(foldO (dFL cd) ⟨(l7G cd (nwC cd)).1.r, (l7G cd (nwC cd)).1.z, (l7G cd (nwC cd)).1.es⟩).1.r, (foldO (dFL cd) ⟨(l7G cd (nwC cd)).1.r, (l7G cd (nwC cd)).1.z, (l7G cd (nwC cd)).1.es⟩).1.z, (foldO (dFL cd) ⟨(l7G cd (nwC cd)).1.r, (l7G cd (nwC cd)).1.z, (l7G cd (nwC cd)).1.es⟩).1.es⟩) hfe2 (by omega)
      have hke2 := coreG_es (g := ⟨(l7G cd (nwC cd)).1.r, (l7G cd (nwC cd)).1.z, (l7G cd (nwC cd)).1.es⟩) hes (by omega)
      repeat' (first|(refine ya ?_;first|(refine yb ?_;first|refine yc ?_)|refine ye ?_)|(refine yg ?_;intro hgs;first|(replace hgs:=zgy hgs;first|(refine yb ?_;first|refine yc ?_)|refine yy hgs ?_;clear hgs)|(refine yn (zgn hgs) ?_;clear hgs)|((fail_if_success have:=zgy hgs);refine z_spl hgs (h1:=?_) (h2:=?_)<;>clear hgs<;>intro hg hr<;>try first|contradiction|exfalso;omega))|refine yz ?_|(refine yA ?_;first|(refine yB ?_;first|refine yC ?_)|refine yE ?_)|(refine yG ?_;intro hgs;first|(replace hgs:=zgy hgs;first|(refine yB ?_;first|refine yC ?_)|refine yY hgs ?_;clear hgs)|(refine yN (zgn hgs) ?_;clear hgs)|((fail_if_success have:=zgy hgs);refine z_spll hgs (h1:=?_) (h2:=?_)<;>clear hgs<;>intro hg hr<;>try first|contradiction|exfalso;omega))|refine yZ ?_|refine zst ?_|refine k_blk_other rfl ?_|(refine zk ?_ ?_<;>intro hc hr<;>try first|contradiction|exfalso;omega))
      all_goals first | (refine z_ret (hv := ?_) (ho := ?_) <;> first | rfl | (simp [go_sem, *]; done) | (simp_all; done) | (simp_all; omega)) | skip
  · repeat' (first|(refine ya ?_;first|(refine yb ?_;first|refine yc ?_)|refine ye ?_)|(refine yg ?_;intro hgs;first|(replace hgs:=zgy hgs;first|(refine yb ?_;first|refine yc ?_)|refine yy hgs ?_;clear hgs)|(refine yn (zgn hgs) ?_;clear hgs)|((fail_if_success have:=zgy hgs);refine z_spl hgs (h1:=?_) (h2:=?_)<;>clear hgs<;>intro hg hr<;>try first|contradiction|exfalso;omega))|refine yz ?_|(refine yA ?_;first|(refine yB ?_;first|refine yC ?_)|refine yE ?_)|(refine yG ?_;intro hgs;first|(replace hgs:=zgy hgs;first|(refine yB ?_;first|refine yC ?_)|refine yY hgs ?_;clear hgs)|(refine yN (zgn hgs) ?_;clear hgs)|((fail_if_success have:=zgy hgs);refine z_spll hgs (h1:=?_) (h2:=?_)<;>clear hgs<;>intro hg hr<;>try first|contradiction|exfalso;omega))|refine yZ ?_|refine zst ?_|refine k_blk_other rfl ?_|(refine zk ?_ ?_<;>intro hc hr<;>try first|contradiction|exfalso;omega))
    all_goals first | (refine z_ret (hv := ?_) (ho := ?_) <;> first | rfl | (simp [go_sem, *]; done) | (simp_all; done) | (simp_all; omega)) | skip
theorem law51_of {l : List AV} (h : All2 (ShA T) [22] l) : law51_S l (.one (.sc (.bool true))) [] := by
  obtain ⟨c, rfl, hh⟩ := all2_1 h
  obtain ⟨cd, rfl, p⟩ := shBytes T22 T5 hh
  exact ⟨cd, p, rfl, rfl, rfl⟩
instance : Con Tryz.prog 5 law51_S := con law51 Tryz.func5
end Go.Proofs.Tryz
