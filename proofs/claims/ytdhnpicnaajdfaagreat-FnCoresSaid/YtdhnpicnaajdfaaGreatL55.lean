import Derived.Test.YtdhnpicnaajdfaaGreatD12
import Derived.Test.YtdhnpicnaajdfaaGreatD13
import Derived.Test.YtdhnpicnaajdfaaGreatD9
import Derived.Test.YtdhnpicnaajdfaaGreatR
import Derived.Test.YtdhnpicnaajdfaaGreatK
set_option linter.unusedVariables false
set_option linter.unusedSimpArgs false
set_option linter.unnecessarySimpa false
namespace Go.Proofs.Tryz
open Go Go.Eng
set_option linter.unnecessarySimpa false
set_option linter.unusedSimpArgs false
set_option maxHeartbeats 8000000
set_option maxRecDepth 20000
theorem cores_law {r z : Int} {es : List Ed} (hg : isG r z es = true) : (∀ v : Int, 1 ≤ v → v < (trimG ⟨r, z, es⟩).1.z → 2 ≤ deg (trimG ⟨r, z, es⟩).1.es v) ∧ conn ⟨(trimG ⟨r, z, es⟩).1.r, (trimG ⟨r, z, es⟩).1.z, (trimG ⟨r, z, es⟩).1.es⟩ = true ∧ (((trimG ⟨r, z, es⟩).2.length : Int) = (trimG ⟨r, z, es⟩).1.z ∧ 1 ≤ (trimG ⟨r, z, es⟩).1.z ∧ (trimG ⟨r, z, es⟩).1.z ≤ 40) ∧
    isC (coreG ⟨r, z, es⟩).r (coreG ⟨r, z, es⟩).z (coreG ⟨r, z, es⟩).es = true ∧ coreG ⟨(coreG ⟨r, z, es⟩).r, (coreG ⟨r, z, es⟩).z, (coreG ⟨r, z, es⟩).es⟩ = coreG ⟨r, z, es⟩ := by
  have hk : (⟨r, z, es⟩ : Gr).ok = true := hg
  have h0 := trim_done hk
  have hz := ok_z (trim_ok hk)
  refine ⟨fun v h1 h2 => gone_deg (r := (trimG ⟨r, z, es⟩).1.r) h0 h1 h2, trim_conn hk, ⟨?_, by omega⟩, core_core hk⟩
  unfold trimG at hz ⊢
  rw [if_pos hk] at hz ⊢
  have := (trm_ok hk 40).2.1
  omega
theorem canO_len {r z : Int} {es : List Ed} : (canO r z es).length ≤ 40 := by
  cases hok : isF r z es
  · rw [canO_no hok]; simp
  · have hz := isG_z (isF_g hok)
    rw [canO_yes hok, vxs_len]
    exact bfs_len (isF_g hok) (by omega)
theorem can_law {r z : Int} {es : List Ed} : canG ⟨(canG ⟨r, z, es⟩).r, (canG ⟨r, z, es⟩).z, (canG ⟨r, z, es⟩).es⟩ = canG ⟨r, z, es⟩ := canG_canG _
attribute [local irreducible] beV beS byV byS nwC l7G l5G dRO dIC foldO canG coreG trimG conn isG isF isC ren renV canO treeG
def K_law55 : Nat → List Nat := fun i => ([[0], [0, 21], [2], [0, 3], [0, 3, 4, 5], [0, 3, 4, 5, 6, 7], [0, 3, 6, 7, 43], [2], [0, 3, 6, 7, 45], [0, 3, 6, 7, 8], [0, 3, 6, 7, 8, 49], [0, 3, 6, 7, 8], [0, 3, 6, 7, 8, 55], [2], [0, 3, 65], [2], [0, 3, 9], [0, 88], [2], [0, 10, 11], [0, 10, 11, 12, 13], [0, 12, 13, 14, 15], [0, 12, 13, 14, 15, 16], [0, 12, 13, 14, 15, 16, 17], [0, 12, 13, 14, 15, 16, 17, 18], [12, 13, 14, 15, 16, 17, 18, 19], [2]] : List (List Nat)).getD i []
attribute [go_sem] K_law55
def law55_S : Eng.Spec := fun args av objs => ∃ (cd : List Int), (cd.length ≤ 9223372036854775807) ∧ args = [.one (.imm 1 (bys cd))] ∧ av = aB true ∧ objs = []
theorem law55 : Sat Tryz.prog 6 law55_S := by
  refine sat_of tok okr mixed K_law55 Tryz.func6 rfl (rs := [.tmp 2]) rfl Tryz.ntmps6 ?_
  rintro args av objs ⟨cd, hpre, rfl, rfl, rfl⟩
  refine ⟨by show 1 ≤ 155; decide, ?_⟩
  by_cases hs0 : cd.length ≤ 1048576
  · have hes := l7G_es cd (nwC cd)
    have hB := l5G_ok cd (nwC cd)
    have hdi := dIC_es cd
    have hro := dRO_len cd
    have hcc := can_law (r := (l5G cd (nwC cd)).1.r) (z := (l5G cd (nwC cd)).1.z) (es := (l5G cd (nwC cd)).1.es)
    have hce := canG_es (g := ⟨(l5G cd (nwC cd)).1.r, (l5G cd (nwC cd)).1.z, (l5G cd (nwC cd)).1.es⟩) (n := 1048576) (by simp only; omega) (by omega)
    have hce2 := canG_es (g := ⟨(canG ⟨(l5G cd (nwC cd)).1.r, (l5G cd (nwC cd)).1.z, (l5G cd (nwC cd)).1.es⟩).r, (canG ⟨(l5G cd (nwC cd)).1.r, (l5G cd (nwC cd)).1.z, (l5G cd (nwC cd)).1.es⟩).z, (canG ⟨(l5G cd (nwC cd)).1.r, (l5G cd (nwC cd)).1.z, (l5G cd (nwC cd)).1.es⟩).es⟩) (n := 1048576) hce (by omega)
    have hte := trim_es (g := ⟨(l7G cd (nwC cd)).1.r, (l7G cd (nwC cd)).1.z, (l7G cd (nwC cd)).1.es⟩) hes (by omega)
    have htl := trim_len (g := ⟨(l7G cd (nwC cd)).1.r, (l7G cd (nwC cd)).1.z, (l7G cd (nwC cd)).1.es⟩)
    have hke := coreG_es (g := ⟨(l7G cd (nwC cd)).1.r, (l7G cd (nwC cd)).1.z, (l7G cd (nwC cd)).1.es⟩) hes (by omega)
    have hre := ren_es (g := ⟨(l7G cd (nwC cd)).1.r, (l7G cd (nwC cd)).1.z, (l7G cd (nwC cd)).1.es⟩) (o := dRO cd) hes (by omega)
    have hol := canO_len (r := (l5G cd (nwC cd)).1.r) (z := (l5G cd (nwC cd)).1.z) (es := (l5G cd (nwC cd)).1.es)
    cases hc : isG (l7G cd (nwC cd)).1.r (l7G cd (nwC cd)).1.z (l7G cd (nwC cd)).1.es
    · repeat' (first|(refine ya ?_;first|(refine yb ?_;first|refine yc ?_)|refine ye ?_)|(refine yg ?_;intro hgs;first|(replace hgs:=zgy hgs;first|(refine yb ?_;first|refine yc ?_)|refine yy hgs ?_;clear hgs)|(refine yn (zgn hgs) ?_;clear hgs)|((fail_if_success have:=zgy hgs);refine z_spl hgs (h1:=?_) (h2:=?_)<;>clear hgs<;>intro hg hr<;>try first|contradiction|exfalso;omega))|refine yt ?_|refine yz ?_|(refine yA ?_;first|(refine yB ?_;first|refine yC ?_)|refine yE ?_)|(refine yG ?_;intro hgs;first|(replace hgs:=zgy hgs;first|(refine yB ?_;first|refine yC ?_)|refine yY hgs ?_;clear hgs)|(refine yN (zgn hgs) ?_;clear hgs)|((fail_if_success have:=zgy hgs);refine z_spll hgs (h1:=?_) (h2:=?_)<;>clear hgs<;>intro hg hr<;>try first|contradiction|exfalso;omega))|refine yT ?_|refine yZ ?_|refine zst ?_|refine k_blk_other rfl ?_|(refine zk ?_ ?_<;>intro hc hr<;>try first|contradiction|exfalso;omega))
      all_goals first | (refine z_ret (hv := ?_) (ho := ?_) <;> first | rfl | (simp [go_sem, *]; done) | (simp_all; done) | (simp_all; omega)) | skip
    · obtain ⟨h1, h2, ⟨h3, h4, h5⟩, h6, h7⟩ := cores_law hc
      have hke2 := coreG_es (g := ⟨(coreG ⟨(l7G cd (nwC cd)).1.r, (l7G cd (nwC cd)).1.z, (l7G cd (nwC cd)).1.es⟩).r, (coreG ⟨(l7G cd (nwC cd)).1.r, (l7G cd (nwC cd)).1.z, (l7G cd (nwC cd)).1.es⟩).z, (coreG ⟨(l7G cd (nwC cd)).1.r, (l7G cd (nwC cd)).1.z, (l7G cd (nwC cd)).1.es⟩).es⟩) hke (by omega)
      repeat' (first|(refine ya ?_;first|(refine yb ?_;first|refine yc ?_)|refine ye ?_)|(refine yg ?_;intro hgs;first|(replace hgs:=zgy hgs;first|(refine yb ?_;first|refine yc ?_)|refine yy hgs ?_;clear hgs)|(refine yn (zgn hgs) ?_;clear hgs)|((fail_if_success have:=zgy hgs);refine z_spl hgs (h1:=?_) (h2:=?_)<;>clear hgs<;>intro hg hr<;>try first|contradiction|exfalso;omega))|refine yt ?_|refine yz ?_|(refine yA ?_;first|(refine yB ?_;first|refine yC ?_)|refine yE ?_)|(refine yG ?_;intro hgs;first|(replace hgs:=zgy hgs;first|(refine yB ?_;first|refine yC ?_)|refine yY hgs ?_;clear hgs)|(refine yN (zgn hgs) ?_;clear hgs)|((fail_if_success have:=zgy hgs);refine z_spll hgs (h1:=?_) (h2:=?_)<;>clear hgs<;>intro hg hr<;>try first|contradiction|exfalso;omega))|refine yT ?_|refine yZ ?_|refine zst ?_|refine k_blk_other rfl ?_|(refine zk ?_ ?_<;>intro hc hr<;>try first|contradiction|exfalso;omega))
      refine z_loop (fun v : Nat => [(8, aI ((v : Int) + 1))]) (fun v : Nat => []) (fun v : Nat => (v : Int) + 1 ≤ (trimG ⟨(l7G cd (nwC cd)).1.r, (l7G cd (nwC cd)).1.z, (l7G cd (nwC cd)).1.es⟩).1.z) (fun v : Nat => (trimG ⟨(l7G cd (nwC cd)).1.r, (l7G cd (nwC cd)).1.z, (l7G cd (nwC cd)).1.es⟩).1.z.toNat - v) (0) (h0 := ?_) (henv := ?_) (hobj := ?_) (h := ?_)
      · omega
      · simp [go_sem, AVm, CVm, lookS]
      · simp [go_sem, OBm, CVm, lookS, All2]
      intro v hv
      rcases Int.lt_or_le ((v : Int) + 1) (trimG ⟨(l7G cd (nwC cd)).1.r, (l7G cd (nwC cd)).1.z, (l7G cd (nwC cd)).1.es⟩).1.z with hlt | hge
      · have hd := h1 ((v : Int) + 1) (by omega) hlt
        clear h1 hcc h7
        repeat' (first|(refine ya ?_;first|(refine yb ?_;first|refine yc ?_)|refine ye ?_)|(refine yg ?_;intro hgs;first|(replace hgs:=zgy hgs;first|(refine yb ?_;first|refine yc ?_)|refine yy hgs ?_;clear hgs)|(refine yn (zgn hgs) ?_;clear hgs)|((fail_if_success have:=zgy hgs);refine z_spl hgs (h1:=?_) (h2:=?_)<;>clear hgs<;>intro hg hr<;>try first|contradiction|exfalso;omega))|refine yt ?_|refine yz ?_|(refine yA ?_;first|(refine yB ?_;first|refine yC ?_)|refine yE ?_)|(refine yG ?_;intro hgs;first|(replace hgs:=zgy hgs;first|(refine yB ?_;first|refine yC ?_)|refine yY hgs ?_;clear hgs)|(refine yN (zgn hgs) ?_;clear hgs)|((fail_if_success have:=zgy hgs);refine z_spll hgs (h1:=?_) (h2:=?_)<;>clear hgs<;>intro hg hr<;>try first|contradiction|exfalso;omega))|refine yT ?_|refine yZ ?_|refine zst ?_|refine k_blk_other rfl ?_|(refine zk ?_ ?_<;>intro hc hr<;>try first|contradiction|exfalso;omega))
        exact zl (v + 1)
      · clear h1
        repeat' (first|(refine ya ?_;first|(refine yb ?_;first|refine yc ?_)|refine ye ?_)|(refine yg ?_;intro hgs;first|(replace hgs:=zgy hgs;first|(refine yb ?_;first|refine yc ?_)|refine yy hgs ?_;clear hgs)|(refine yn (zgn hgs) ?_;clear hgs)|((fail_if_success have:=zgy hgs);refine z_spl hgs (h1:=?_) (h2:=?_)<;>clear hgs<;>intro hg hr<;>try first|contradiction|exfalso;omega))|refine yt ?_|refine yz ?_|(refine yA ?_;first|(refine yB ?_;first|refine yC ?_)|refine yE ?_)|(refine yG ?_;intro hgs;first|(replace hgs:=zgy hgs;first|(refine yB ?_;first|refine yC ?_)|refine yY hgs ?_;clear hgs)|(refine yN (zgn hgs) ?_;clear hgs)|((fail_if_success have:=zgy hgs);refine z_spll hgs (h1:=?_) (h2:=?_)<;>clear hgs<;>intro hg hr<;>try first|contradiction|exfalso;omega))|refine yT ?_|refine yZ ?_|refine zst ?_|refine k_blk_other rfl ?_|(refine zk ?_ ?_<;>intro hc hr<;>try first|contradiction|exfalso;omega))
        all_goals first | (refine z_ret (hv := ?_) (ho := ?_) <;> first | rfl | (simp [go_sem, *]; done) | (simp_all; done) | (simp_all; omega)) | skip
  · repeat' (first|(refine ya ?_;first|(refine yb ?_;first|refine yc ?_)|refine ye ?_)|(refine yg ?_;intro hgs;first|(replace hgs:=zgy hgs;first|(refine yb ?_;first|refine yc ?_)|refine yy hgs ?_;clear hgs)|(refine yn (zgn hgs) ?_;clear hgs)|((fail_if_success have:=zgy hgs);refine z_spl hgs (h1:=?_) (h2:=?_)<;>clear hgs<;>intro hg hr<;>try first|contradiction|exfalso;omega))|refine yt ?_|refine yz ?_|(refine yA ?_;first|(refine yB ?_;first|refine yC ?_)|refine yE ?_)|(refine yG ?_;intro hgs;first|(replace hgs:=zgy hgs;first|(refine yB ?_;first|refine yC ?_)|refine yY hgs ?_;clear hgs)|(refine yN (zgn hgs) ?_;clear hgs)|((fail_if_success have:=zgy hgs);refine z_spll hgs (h1:=?_) (h2:=?_)<;>clear hgs<;>intro hg hr<;>try first|contradiction|exfalso;omega))|refine yT ?_|refine yZ ?_|refine zst ?_|refine k_blk_other rfl ?_|(refine zk ?_ ?_<;>intro hc hr<;>try first|contradiction|exfalso;omega))
    all_goals first | (refine z_ret (hv := ?_) (ho := ?_) <;> first | rfl | (simp [go_sem, *]; done) | (simp_all; done) | (simp_all; omega)) | skip
theorem law55_of {l : List AV} (h : All2 (ShA T) [22] l) : law55_S l (.one (.sc (.bool true))) [] := by
  obtain ⟨c, rfl, hh⟩ := all2_1 h
  obtain ⟨cd, rfl, p⟩ := shBytes T22 T5 hh
  exact ⟨cd, p, rfl, rfl, rfl⟩
instance : Con Tryz.prog 6 law55_S := con law55 Tryz.func6
end Go.Proofs.Tryz
