import Derived.Test.YtdhnpicnaajdfaaD10
import Derived.Test.YtdhnpicnaajdfaaD6
import Derived.Test.YtdhnpicnaajdfaaD9
import Derived.Test.YtdhnpicnaajdfaaJ4
import Derived.Test.YtdhnpicnaajdfaaV10
import Derived.Test.YtdhnpicnaajdfaaV9
import Derived.Test.YtdhnpicnaajdfaaV6
import Derived.Test.YtdhnpicnaajdfaaB
import Derived.Test.YtdhnpicnaajdfaaD
import Derived.Test.YtdhnpicnaajdfaaK
import Derived.Test.YtdhnpicnaajdfaaX
set_option linter.unusedVariables false
set_option linter.unusedSimpArgs false
set_option linter.unnecessarySimpa false
namespace Go.Proofs.Try
open Go Go.Eng
set_option linter.unnecessarySimpa false
set_option linter.unusedSimpArgs false
set_option maxHeartbeats 8000000
set_option maxRecDepth 20000
theorem foldOnce_le {g : Gr} {n : Nat} (h : g.es.length ≤ n) : (foldOnce g).es.length ≤ n := by
  unfold foldOnce
  split
  · exact merge_le h
  · exact h
theorem rgF_foldO (cs : List Int) (g : Gr) : rgF (foldO cs g).2 := fun f hf => by
  have := foldO_rg cs g f hf
  unfold rg; omega
attribute [local irreducible] beV beS byV byS nwC l7G dRL dFL dmK dmC foldO foldOnce merge isG isF ffOk ffF rep repAll fmtFs
def K_law26 : Nat → List Nat := fun i => ([[0], [0, 39], [2], [0, 3], [0, 3, 4, 5], [0, 3, 4, 5, 6, 7], [0, 3, 5, 6, 7, 69], [2], [0, 3, 5, 6, 7, 71], [0, 3, 6, 7, 8, 9], [0, 3, 100], [2], [0, 3, 10, 11], [0, 3, 10, 11, 12, 13], [0, 3, 10, 11, 12, 13, 14, 15], [0, 3, 10, 11, 12, 13, 14, 15, 16, 17], [0, 3, 10, 11, 12, 13, 16, 17, 18, 19], [0, 3, 10, 11, 12, 13, 16, 17, 18, 19, 20, 21, 22], [0, 10, 11, 12, 13, 16, 17, 18, 19, 20, 21, 22, 23, 24, 25], [0, 10, 11, 12, 13, 16, 17, 18, 19, 20, 21, 22, 23, 24, 25, 26, 27], [0, 10, 11, 12, 13, 16, 17, 18, 19, 20, 21, 22, 23, 24, 25, 26, 27, 28, 29], [0, 10, 11, 12, 13, 16, 17, 18, 19, 20, 21, 22, 23, 24, 25, 28, 29, 30, 31], [10, 11, 12, 13, 16, 17, 18, 19, 20, 21, 22, 23, 24, 25, 28, 29, 30, 31, 32, 33], [10, 11, 12, 13, 16, 17, 18, 19, 20, 21, 22, 23, 24, 25, 28, 29, 30, 31, 32, 33, 34, 35], [10, 11, 12, 13, 16, 17, 18, 19, 20, 21, 22, 23, 24, 25, 28, 29, 30, 31, 34, 35, 36, 37], [2]] : List (List Nat)).getD i []
attribute [go_sem] K_law26
def law26_S : Eng.Spec := fun args av objs => ∃ (cd : List Int), (cd.length ≤ 9223372036854775807) ∧ args = [.one (.imm 1 (bys cd))] ∧ av = aB true ∧ objs = []
theorem law26 : Sat Try.prog 3 law26_S := by
  refine sat_of tok okr mixed K_law26 Try.func3 rfl (rs := [.tmp 2]) rfl Try.ntmps3 ?_
  rintro args av objs ⟨cd, hpre, rfl, rfl, rfl⟩
  refine ⟨by show 1 ≤ 229; decide, ?_⟩
  by_cases hs0 : cd.length ≤ 1048576
  · have hes := l7G_es cd (nwC cd)
    have hfe := foldO_es (cs := []) (g := ⟨(l7G cd (nwC cd)).1.r, (l7G cd (nwC cd)).1.z, (l7G cd (nwC cd)).1.es⟩) hes (by omega)
    have hfl := foldO_len (cs := []) (g := ⟨(l7G cd (nwC cd)).1.r, (l7G cd (nwC cd)).1.z, (l7G cd (nwC cd)).1.es⟩)
    have hrf := rgF_foldO [] ⟨(l7G cd (nwC cd)).1.r, (l7G cd (nwC cd)).1.z, (l7G cd (nwC cd)).1.es⟩
    have hfe2 := foldO_es (cs := dFL cd) (g := ⟨(l7G cd (nwC cd)).1.r, (l7G cd (nwC cd)).1.z, (l7G cd (nwC cd)).1.es⟩) hes (by omega)
    have hfl2 := foldO_len (cs := dFL cd) (g := ⟨(l7G cd (nwC cd)).1.r, (l7G cd (nwC cd)).1.z, (l7G cd (nwC cd)).1.es⟩)
    have hrf2 := rgF_foldO (dFL cd) ⟨(l7G cd (nwC cd)).1.r, (l7G cd (nwC cd)).1.z, (l7G cd (nwC cd)).1.es⟩
    have hrl := dRL_len cd
    have hfi := dFL_len cd
    have hre := rep_es (g := ⟨(l7G cd (nwC cd)).1.r, (l7G cd (nwC cd)).1.z, (l7G cd (nwC cd)).1.es⟩) (l := dRL cd) hes (by omega)
    have hre2 := rep_es (g := ⟨(l7G cd (nwC cd)).1.r, (l7G cd (nwC cd)).1.z, (l7G cd (nwC cd)).1.es⟩) (l := (foldO [] ⟨(l7G cd (nwC cd)).1.r, (l7G cd (nwC cd)).1.z, (l7G cd (nwC cd)).1.es⟩).2) hes (by omega)
    have hme := merge_le (g := ⟨(l7G cd (nwC cd)).1.r, (l7G cd (nwC cd)).1.z, (l7G cd (nwC cd)).1.es⟩) (k := dmK cd (l7G cd (nwC cd)).2) (d := dmK cd (l7G cd (nwC cd)).2 + beV cd (dmC cd (l7G cd (nwC cd)).2) 4) hes
    have hoe := foldOnce_le (g := ⟨(l7G cd (nwC cd)).1.r, (l7G cd (nwC cd)).1.z, (l7G cd (nwC cd)).1.es⟩) hes
    cases hok : isG (l7G cd (nwC cd)).1.r (l7G cd (nwC cd)).1.z (l7G cd (nwC cd)).1.es
    · repeat' (first|(refine ya ?_;first|(refine yb ?_;first|refine z_fn formatFolds_sat Try.func10 (hSp := by refine ⟨_, ?_, ?_, rfl, rfl, rfl⟩; (first | assumption | omega | (simp; done) | (simp; omega) | (((repeat' refine And.intro ?_ ?_) <;> first | assumption | omega | (simp; done) | (simp; omega)); done) | (simp at *; omega)); (first | assumption | omega | (simp; done) | (simp; omega) | (((repeat' refine And.intro ?_ ?_) <;> first | assumption | omega | (simp; done) | (simp; omega)); done) | (simp at *; omega))) (k0 := ?_) | refine z_fn formatFolds_sat2 Try.func11 (hSp := by refine ⟨_, ?_, ?_, rfl, rfl, rfl⟩; (first | assumption | omega | (simp; done) | (simp; omega) | (((repeat' refine And.intro ?_ ?_) <;> first | assumption | omega | (simp; done) | (simp; omega)); done) | (simp at *; omega)); (first | assumption | omega | (simp; done) | (simp; omega) | (((repeat' refine And.intro ?_ ?_) <;> first | assumption | omega | (simp; done) | (simp; omega)); done) | (simp at *; omega))) (k0 := ?_) | refine yc ?_)|refine ye ?_)|(refine yg ?_;intro hgs;first|(replace hgs:=zgy hgs;first|(refine yb ?_;first|refine z_fn formatFolds_sat Try.func10 (hSp := by refine ⟨_, ?_, ?_, rfl, rfl, rfl⟩; (first | assumption | omega | (simp; done) | (simp; omega) | (((repeat' refine And.intro ?_ ?_) <;> first | assumption | omega | (simp; done) | (simp; omega)); done) | (simp at *; omega)); (first | assumption | omega | (simp; done) | (simp; omega) | (((repeat' refine And.intro ?_ ?_) <;> first | assumption | omega | (simp; done) | (simp; omega)); done) | (simp at *; omega))) (k0 := ?_) | refine z_fn formatFolds_sat2 Try.func11 (hSp := by refine ⟨_, ?_, ?_, rfl, rfl, rfl⟩; (first | assumption | omega | (simp; done) | (simp; omega) | (((repeat' refine And.intro ?_ ?_) <;> first | assumption | omega | (simp; done) | (simp; omega)); done) | (simp at *; omega)); (first | assumption | omega | (simp; done) | (simp; omega) | (((repeat' refine And.intro ?_ ?_) <;> first | assumption | omega | (simp; done) | (simp; omega)); done) | (simp at *; omega))) (k0 := ?_) | refine yc ?_)|refine yy hgs ?_;clear hgs)|(refine yn (zgn hgs) ?_;clear hgs)|((fail_if_success have:=zgy hgs);refine z_spl hgs (h1:=?_) (h2:=?_)<;>clear hgs<;>intro hg hr<;>try first|contradiction|exfalso;omega))|refine yz ?_|refine zst ?_|refine k_blk_other rfl ?_|(refine zk ?_ ?_<;>intro hc hr<;>try first|contradiction|exfalso;omega))
      all_goals first | (refine z_ret (hv := ?_) (ho := ?_) <;> first | rfl | (simp [go_sem, *]; done) | (simp_all; done) | (simp_all; omega)) | skip
    · have h1 := foldO_F (cs := []) (g := ⟨(l7G cd (nwC cd)).1.r, (l7G cd (nwC cd)).1.z, (l7G cd (nwC cd)).1.es⟩) hok
      have h2 := foldO_size (g := ⟨(l7G cd (nwC cd)).1.r, (l7G cd (nwC cd)).1.z, (l7G cd (nwC cd)).1.es⟩) hok []
      obtain ⟨h3, h4⟩ := foldO_rep (g := ⟨(l7G cd (nwC cd)).1.r, (l7G cd (nwC cd)).1.z, (l7G cd (nwC cd)).1.es⟩) hok []
      have hz := isG_z hok
      repeat' (first|(refine ya ?_;first|(refine yb ?_;first|refine z_fn formatFolds_sat Try.func10 (hSp := by refine ⟨_, ?_, ?_, rfl, rfl, rfl⟩; (first | assumption | omega | (simp; done) | (simp; omega) | (((repeat' refine And.intro ?_ ?_) <;> first | assumption | omega | (simp; done) | (simp; omega)); done) | (simp at *; omega)); (first | assumption | omega | (simp; done) | (simp; omega) | (((repeat' refine And.intro ?_ ?_) <;> first | assumption | omega | (simp; done) | (simp; omega)); done) | (simp at *; omega))) (k0 := ?_) | refine z_fn formatFolds_sat2 Try.func11 (hSp := by refine ⟨_, ?_, ?_, rfl, rfl, rfl⟩; (first | assumption | omega | (simp; done) | (simp; omega) | (((repeat' refine And.intro ?_ ?_) <;> first | assumption | omega | (simp; done) | (simp; omega)); done) | (simp at *; omega)); (first | assumption | omega | (simp; done) | (simp; omega) | (((repeat' refine And.intro ?_ ?_) <;> first | assumption | omega | (simp; done) | (simp; omega)); done) | (simp at *; omega))) (k0 := ?_) | refine yc ?_)|refine ye ?_)|(refine yg ?_;intro hgs;first|(replace hgs:=zgy hgs;first|(refine yb ?_;first|refine z_fn formatFolds_sat Try.func10 (hSp := by refine ⟨_, ?_, ?_, rfl, rfl, rfl⟩; (first | assumption | omega | (simp; done) | (simp; omega) | (((repeat' refine And.intro ?_ ?_) <;> first | assumption | omega | (simp; done) | (simp; omega)); done) | (simp at *; omega)); (first | assumption | omega | (simp; done) | (simp; omega) | (((repeat' refine And.intro ?_ ?_) <;> first | assumption | omega | (simp; done) | (simp; omega)); done) | (simp at *; omega))) (k0 := ?_) | refine z_fn formatFolds_sat2 Try.func11 (hSp := by refine ⟨_, ?_, ?_, rfl, rfl, rfl⟩; (first | assumption | omega | (simp; done) | (simp; omega) | (((repeat' refine And.intro ?_ ?_) <;> first | assumption | omega | (simp; done) | (simp; omega)); done) | (simp at *; omega)); (first | assumption | omega | (simp; done) | (simp; omega) | (((repeat' refine And.intro ?_ ?_) <;> first | assumption | omega | (simp; done) | (simp; omega)); done) | (simp at *; omega))) (k0 := ?_) | refine yc ?_)|refine yy hgs ?_;clear hgs)|(refine yn (zgn hgs) ?_;clear hgs)|((fail_if_success have:=zgy hgs);refine z_spl hgs (h1:=?_) (h2:=?_)<;>clear hgs<;>intro hg hr<;>try first|contradiction|exfalso;omega))|refine yz ?_|refine zst ?_|refine k_blk_other rfl ?_|(refine zk ?_ ?_<;>intro hc hr<;>try first|contradiction|exfalso;omega))
      all_goals first | (refine z_ret (hv := ?_) (ho := ?_) <;> first | rfl | (simp [go_sem, *]; done) | (simp_all; done) | (simp_all; omega)) | skip
  · repeat' (first|(refine ya ?_;first|(refine yb ?_;first|refine yc ?_)|refine ye ?_)|(refine yg ?_;intro hgs;first|(replace hgs:=zgy hgs;first|(refine yb ?_;first|refine yc ?_)|refine yy hgs ?_;clear hgs)|(refine yn (zgn hgs) ?_;clear hgs)|((fail_if_success have:=zgy hgs);refine z_spl hgs (h1:=?_) (h2:=?_)<;>clear hgs<;>intro hg hr<;>try first|contradiction|exfalso;omega))|refine yz ?_|refine zst ?_|refine k_blk_other rfl ?_|(refine zk ?_ ?_<;>intro hc hr<;>try first|contradiction|exfalso;omega))
    all_goals first | (refine z_ret (hv := ?_) (ho := ?_) <;> first | rfl | (simp [go_sem, *]; done) | (simp_all; done) | (simp_all; omega)) | skip
theorem law26_of {l : List AV} (h : All2 (ShA T) [22] l) : law26_S l (.one (.sc (.bool true))) [] := by
  obtain ⟨c, rfl, hh⟩ := all2_1 h
  obtain ⟨cd, rfl, p⟩ := shBytes T22 T5 hh
  exact ⟨cd, p, rfl, rfl, rfl⟩
instance : Con Try.prog 3 law26_S := con law26 Try.func3
end Go.Proofs.Try
