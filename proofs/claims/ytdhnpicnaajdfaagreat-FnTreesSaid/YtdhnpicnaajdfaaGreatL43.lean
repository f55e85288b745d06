import Derived.Test.YtdhnpicnaajdfaaGreatD3
import Derived.Test.YtdhnpicnaajdfaaGreatD5
import Derived.Test.YtdhnpicnaajdfaaGreatD9
import Derived.Test.YtdhnpicnaajdfaaGreatW
import Derived.Test.YtdhnpicnaajdfaaGreatZ
import Derived.Test.YtdhnpicnaajdfaaGreatR
set_option linter.unusedVariables false
set_option linter.unusedSimpArgs false
set_option linter.unnecessarySimpa false
namespace Go.Proofs.Tryz
open Go Go.Eng
set_option linter.unnecessarySimpa false
set_option linter.unusedSimpArgs false
set_option maxHeartbeats 8000000
set_option maxRecDepth 20000
def K_law43 : Nat → List Nat := fun i => ([[0], [0, 15], [2], [0, 3], [0, 3, 4], [0, 3, 4, 5], [0, 3, 4, 5, 33], [2], [0, 58], [2], [0, 6, 7], [0, 6, 7, 8], [6, 7, 8, 9, 10], [6, 7, 8, 9, 10, 11], [9, 11, 88], [2], [9, 12, 13], [2]] : List (List Nat)).getD i []
attribute [go_sem] K_law43
def law43_S : Eng.Spec := fun args av objs => ∃ (cd : List Int), (cd.length ≤ 9223372036854775807) ∧ args = [.one (.imm 1 (bys cd))] ∧ av = aB true ∧ objs = []
theorem law43 : Sat Tryz.prog 4 law43_S := by
  refine sat_of tok okr mixed K_law43 Tryz.func4 rfl (rs := [.tmp 2]) rfl Tryz.ntmps4 ?_
  rintro args av objs ⟨cd, hpre, rfl, rfl, rfl⟩
  refine ⟨by show 1 ≤ 110; decide, ?_⟩
  by_cases hs0 : cd.length ≤ 1048576
  · have hG := l5G_ok cd (nwC cd)
    have htl := treeL_len (r := (l5G cd (nwC cd)).1.r) (z := (l5G cd (nwC cd)).1.z) (es := (l5G cd (nwC cd)).1.es)
    have hxl := extL_len (r := (l5G cd (nwC cd)).1.r) (z := (l5G cd (nwC cd)).1.z) (es := (l5G cd (nwC cd)).1.es)
    have hpl := pw_len (r := (l5G cd (nwC cd)).1.r) (z := (l5G cd (nwC cd)).1.z) (es := (l5G cd (nwC cd)).1.es) (u := 0) (v := (beV cd (beS cd (beS cd (l5G cd (nwC cd)).2 (mx1 (l5G cd (nwC cd)).1.z)) 2) (mx1 (l5G cd (nwC cd)).1.z)))
    have hll := lpO_len (r := (l5G cd (nwC cd)).1.r) (z := (l5G cd (nwC cd)).1.z) (es := (l5G cd (nwC cd)).1.es) (e := ((dLE cd (l5G cd (nwC cd)).1 (l5G cd (nwC cd)).2).1, (dLE cd (l5G cd (nwC cd)).1 (l5G cd (nwC cd)).2).2.1, (dLE cd (l5G cd (nwC cd)).1 (l5G cd (nwC cd)).2).2.2))
    have hrg : ∀ e : Ed, (lpO (l5G cd (nwC cd)).1.r (l5G cd (nwC cd)).1.z (l5G cd (nwC cd)).1.es e).length ≤ 8388608 ∧ ∀ x ∈ lpO (l5G cd (nwC cd)).1.r (l5G cd (nwC cd)).1.z (l5G cd (nwC cd)).1.es e, rg x := fun e => by
      cases hf : isF (l5G cd (nwC cd)).1.r (l5G cd (nwC cd)).1.z (l5G cd (nwC cd)).1.es
      · rw [lpO_no (by simp [hf])]; simp
      · exact lpO_rg hf
    have hrx := (hrg ((dLE cd (l5G cd (nwC cd)).1 (l5G cd (nwC cd)).2).1, (dLE cd (l5G cd (nwC cd)).1 (l5G cd (nwC cd)).2).2.1, (dLE cd (l5G cd (nwC cd)).1 (l5G cd (nwC cd)).2).2.2)).2
    have hrl := (hrg ((dLE cd (l5G cd (nwC cd)).1 (l5G cd (nwC cd)).2).1, (dLE cd (l5G cd (nwC cd)).1 (l5G cd (nwC cd)).2).2.1, (dLE cd (l5G cd (nwC cd)).1 (l5G cd (nwC cd)).2).2.2)).1
    clear hrg
    cases hf : isF (l5G cd (nwC cd)).1.r (l5G cd (nwC cd)).1.z (l5G cd (nwC cd)).1.es
    · repeat' (first|(refine ya ?_;first|(refine yb ?_;first|refine yc ?_)|refine ye ?_)|(refine yg ?_;intro hgs;first|(replace hgs:=zgy hgs;first|(refine yb ?_;first|refine yc ?_)|refine yy hgs ?_;clear hgs)|(refine yn (zgn hgs) ?_;clear hgs)|((fail_if_success have:=zgy hgs);refine z_spl hgs (h1:=?_) (h2:=?_)<;>clear hgs<;>intro hg hr<;>try first|contradiction|exfalso;omega))|refine yt ?_|refine yz ?_|refine zst ?_|refine k_blk_other rfl ?_|(refine zk ?_ ?_<;>intro hc hr<;>try first|contradiction|exfalso;omega))
      all_goals first | (refine z_ret (hv := ?_) (ho := ?_) <;> first | rfl | (simp [go_sem, *]; done) | (simp_all; done) | (simp_all; omega)) | skip
    · cases hc : conn ⟨(l5G cd (nwC cd)).1.r, (l5G cd (nwC cd)).1.z, (l5G cd (nwC cd)).1.es⟩
      · repeat' (first|(refine ya ?_;first|(refine yb ?_;first|refine yc ?_)|refine ye ?_)|(refine yg ?_;intro hgs;first|(replace hgs:=zgy hgs;first|(refine yb ?_;first|refine yc ?_)|refine yy hgs ?_;clear hgs)|(refine yn (zgn hgs) ?_;clear hgs)|((fail_if_success have:=zgy hgs);refine z_spl hgs (h1:=?_) (h2:=?_)<;>clear hgs<;>intro hg hr<;>try first|contradiction|exfalso;omega))|refine yt ?_|refine yz ?_|refine zst ?_|refine k_blk_other rfl ?_|(refine zk ?_ ?_<;>intro hc hr<;>try first|contradiction|exfalso;omega))
        all_goals first | (refine z_ret (hv := ?_) (ho := ?_) <;> first | rfl | (simp [go_sem, *]; done) | (simp_all; done) | (simp_all; omega)) | skip
      · have ht := treeL_all hf (conn_all hf hc)
        have hx := tree_ext hf
        have hl := (trees_loop (e := ((dLE cd (l5G cd (nwC cd)).1 (l5G cd (nwC cd)).2).1, (dLE cd (l5G cd (nwC cd)).1 (l5G cd (nwC cd)).2).2.1, (dLE cd (l5G cd (nwC cd)).1 (l5G cd (nwC cd)).2).2.2)) hf hc).1
        have hv := (trees_loop (e := ((dLE cd (l5G cd (nwC cd)).1 (l5G cd (nwC cd)).2).1, (dLE cd (l5G cd (nwC cd)).1 (l5G cd (nwC cd)).2).2.1, (dLE cd (l5G cd (nwC cd)).1 (l5G cd (nwC cd)).2).2.2)) hf hc).2
        repeat' (first|(refine ya ?_;first|(refine yb ?_;first|refine yc ?_)|refine ye ?_)|(refine yg ?_;intro hgs;first|(replace hgs:=zgy hgs;first|(refine yb ?_;first|refine yc ?_)|refine yy hgs ?_;clear hgs)|(refine yn (zgn hgs) ?_;clear hgs)|((fail_if_success have:=zgy hgs);refine z_spl hgs (h1:=?_) (h2:=?_)<;>clear hgs<;>intro hg hr<;>try first|contradiction|exfalso;omega))|refine yt ?_|refine yz ?_|refine zst ?_|refine k_blk_other rfl ?_|(refine zk ?_ ?_<;>intro hc hr<;>try first|contradiction|exfalso;omega))
        all_goals first | (refine z_ret (hv := ?_) (ho := ?_) <;> first | rfl | (simp [go_sem, *]; done) | (simp_all; done) | (simp_all; omega)) | skip
  · repeat' (first|(refine ya ?_;first|(refine yb ?_;first|refine yc ?_)|refine ye ?_)|(refine yg ?_;intro hgs;first|(replace hgs:=zgy hgs;first|(refine yb ?_;first|refine yc ?_)|refine yy hgs ?_;clear hgs)|(refine yn (zgn hgs) ?_;clear hgs)|((fail_if_success have:=zgy hgs);refine z_spl hgs (h1:=?_) (h2:=?_)<;>clear hgs<;>intro hg hr<;>try first|contradiction|exfalso;omega))|refine yt ?_|refine yz ?_|refine zst ?_|refine k_blk_other rfl ?_|(refine zk ?_ ?_<;>intro hc hr<;>try first|contradiction|exfalso;omega))
    all_goals first | (refine z_ret (hv := ?_) (ho := ?_) <;> first | rfl | (simp [go_sem, *]; done) | (simp_all; done) | (simp_all; omega)) | skip
theorem law43_of {l : List AV} (h : All2 (ShA T) [22] l) : law43_S l (.one (.sc (.bool true))) [] := by
  obtain ⟨c, rfl, hh⟩ := all2_1 h
  obtain ⟨cd, rfl, p⟩ := shBytes T22 T5 hh
  exact ⟨cd, p, rfl, rfl, rfl⟩
instance : Con Tryz.prog 4 law43_S := con law43 Tryz.func4
end Go.Proofs.Tryz
