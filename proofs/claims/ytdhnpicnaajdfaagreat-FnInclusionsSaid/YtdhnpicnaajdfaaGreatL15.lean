import Derived.Test.YtdhnpicnaajdfaaGreatD12
import Derived.Test.YtdhnpicnaajdfaaGreatD17
import Derived.Test.YtdhnpicnaajdfaaGreatD9
import Derived.Test.YtdhnpicnaajdfaaGreatQ16
import Derived.Test.YtdhnpicnaajdfaaGreatQ21
set_option linter.unusedVariables false
set_option linter.unusedSimpArgs false
set_option linter.unnecessarySimpa false
namespace Go.Proofs.Tryz
open Go Go.Eng
set_option linter.unnecessarySimpa false
set_option linter.unusedSimpArgs false
set_option maxHeartbeats 8000000
set_option maxRecDepth 20000
theorem insB_yes {r z r' z' : Int} {es es' : List Ed} (h : insB r z es r' z' es' = true) : isC r z es = true ∧ isC r' z' es' = true ∧ r = r' ∧ caB r' z' es' (bsW r z es) = true := by
  simp only [insB, Bool.and_eq_true, decide_eq_true_eq] at h
  obtain ⟨⟨⟨h1, h2⟩, h3⟩, h4⟩ := h
  exact ⟨h1, h2, h3, by unfold caB; rw [h2, caL_hom (isC_f h1) (isC_gone h1) (isC_f h2), h4]; rfl⟩
theorem insB_no {r z r' z' : Int} {es es' : List Ed} (h : insB r z es r' z' es' = false) (h1 : isC r z es = true) (h2 : isC r' z' es' = true) (h3 : r = r') : caB r' z' es' (bsW r z es) = false := by
  subst h3
  unfold caB
  rw [h2, caL_hom (isC_f h1) (isC_gone h1) (isC_f h2)]
  simpa [insB, h1, h2] using h
theorem insB_two {r z r' z' : Int} {es es' : List Ed} (h : insB r z es r' z' es' = true) (h' : insB r' z' es' r z es = true) : r = r' ∧ z = z' ∧ es = es' := by
  simp only [insB, Bool.and_eq_true, decide_eq_true_eq] at h h'
  obtain ⟨⟨⟨h1, h2⟩, h3⟩, h4⟩ := h
  subst h3
  exact ⟨rfl, incl_eq h1 h2 (homB_iff.1 h4) (homB_iff.1 h'.2)⟩
attribute [local irreducible] beV beS byV byS nwC l9a l9b dII isC insB caB bsW
def K_law15 : Nat → List Nat := fun i => ([[0], [0, 7], [2], [3, 4], [3, 4, 5], [3, 4, 5, 20], [2], [3, 4, 5, 41], [2], [2]] : List (List Nat)).getD i []
attribute [go_sem] K_law15
def law15_S : Eng.Spec := fun args av objs => ∃ (cd : List Int), (cd.length ≤ 9223372036854775807) ∧ args = [.one (.imm 1 (bys cd))] ∧ av = aB true ∧ objs = []
theorem law15 : Sat Tryz.prog 3 law15_S := by
  refine sat_of tok okr mixed K_law15 Tryz.func3 rfl (rs := [.tmp 2]) rfl Tryz.ntmps3 ?_
  rintro args av objs ⟨cd, hpre, rfl, rfl, rfl⟩
  refine ⟨by show 1 ≤ 55; decide, ?_⟩
  by_cases hs0 : cd.length ≤ 1048576
  · have hea := l9a_es cd (nwC cd)
    have heb := dII_es cd
    have hbl := bsW_len (r := (l9a cd (nwC cd)).r) (z := (l9a cd (nwC cd)).z) (es := (l9a cd (nwC cd)).es)
    cases hi : insB (l9a cd (nwC cd)).r (l9a cd (nwC cd)).z (l9a cd (nwC cd)).es (dII cd).r (dII cd).z (dII cd).es
    · cases hca : isC (l9a cd (nwC cd)).r (l9a cd (nwC cd)).z (l9a cd (nwC cd)).es
      · repeat' (first|(refine ya ?_;first|(refine yb ?_;first|refine yc ?_)|refine ye ?_)|(refine yg ?_;intro hgs;first|(replace hgs:=zgy hgs;first|(refine yb ?_;first|refine yc ?_)|refine yy hgs ?_;clear hgs)|(refine yn (zgn hgs) ?_;clear hgs)|((fail_if_success have:=zgy hgs);refine z_spl hgs (h1:=?_) (h2:=?_)<;>clear hgs<;>intro hg hr<;>try first|contradiction|exfalso;omega))|refine yz ?_|(refine yA ?_;first|(refine yB ?_;first|refine yC ?_)|refine yE ?_)|(refine yG ?_;intro hgs;first|(replace hgs:=zgy hgs;first|(refine yB ?_;first|refine yC ?_)|refine yY hgs ?_;clear hgs)|(refine yN (zgn hgs) ?_;clear hgs)|((fail_if_success have:=zgy hgs);refine z_spll hgs (h1:=?_) (h2:=?_)<;>clear hgs<;>intro hg hr<;>try first|contradiction|exfalso;omega))|refine yZ ?_|refine zst ?_|refine k_blk_other rfl ?_|(refine zk ?_ ?_<;>intro hc hr<;>try first|contradiction|exfalso;omega))
        all_goals first | (refine z_ret (hv := ?_) (ho := ?_) <;> first | rfl | (simp [go_sem, *]; done) | (simp_all; done) | (simp_all; omega)) | skip
      · cases hcb : isC (dII cd).r (dII cd).z (dII cd).es
        · repeat' (first|(refine ya ?_;first|(refine yb ?_;first|refine yc ?_)|refine ye ?_)|(refine yg ?_;intro hgs;first|(replace hgs:=zgy hgs;first|(refine yb ?_;first|refine yc ?_)|refine yy hgs ?_;clear hgs)|(refine yn (zgn hgs) ?_;clear hgs)|((fail_if_success have:=zgy hgs);refine z_spl hgs (h1:=?_) (h2:=?_)<;>clear hgs<;>intro hg hr<;>try first|contradiction|exfalso;omega))|refine yz ?_|(refine yA ?_;first|(refine yB ?_;first|refine yC ?_)|refine yE ?_)|(refine yG ?_;intro hgs;first|(replace hgs:=zgy hgs;first|(refine yB ?_;first|refine yC ?_)|refine yY hgs ?_;clear hgs)|(refine yN (zgn hgs) ?_;clear hgs)|((fail_if_success have:=zgy hgs);refine z_spll hgs (h1:=?_) (h2:=?_)<;>clear hgs<;>intro hg hr<;>try first|contradiction|exfalso;omega))|refine yZ ?_|refine zst ?_|refine k_blk_other rfl ?_|(refine zk ?_ ?_<;>intro hc hr<;>try first|contradiction|exfalso;omega))
          all_goals first | (refine z_ret (hv := ?_) (ho := ?_) <;> first | rfl | (simp [go_sem, *]; done) | (simp_all; done) | (simp_all; omega)) | skip
        · have hbo := bsW_ok (isC_f hca)
          have hb1 : ∀ w ∈ bsW (l9a cd (nwC cd)).r (l9a cd (nwC cd)).z (l9a cd (nwC cd)).es, w.length ≤ 4194304 := fun w hw => by have := (hbo w hw).1; omega
          have hb2 : ∀ w ∈ bsW (l9a cd (nwC cd)).r (l9a cd (nwC cd)).z (l9a cd (nwC cd)).es, ∀ x ∈ w, rg x := fun w hw => (hbo w hw).2
          clear hbo
          by_cases hr : (l9a cd (nwC cd)).r = (dII cd).r
          · have hno := insB_no hi hca hcb hr
            repeat' (first|(refine ya ?_;first|(refine yb ?_;first|refine yc ?_)|refine ye ?_)|(refine yg ?_;intro hgs;first|(replace hgs:=zgy hgs;first|(refine yb ?_;first|refine yc ?_)|refine yy hgs ?_;clear hgs)|(refine yn (zgn hgs) ?_;clear hgs)|((fail_if_success have:=zgy hgs);refine z_spl hgs (h1:=?_) (h2:=?_)<;>clear hgs<;>intro hg hr<;>try first|contradiction|exfalso;omega))|refine yz ?_|(refine yA ?_;first|(refine yB ?_;first|refine yC ?_)|refine yE ?_)|(refine yG ?_;intro hgs;first|(replace hgs:=zgy hgs;first|(refine yB ?_;first|refine yC ?_)|refine yY hgs ?_;clear hgs)|(refine yN (zgn hgs) ?_;clear hgs)|((fail_if_success have:=zgy hgs);refine z_spll hgs (h1:=?_) (h2:=?_)<;>clear hgs<;>intro hg hr<;>try first|contradiction|exfalso;omega))|refine yZ ?_|refine zst ?_|refine k_blk_other rfl ?_|(refine zk ?_ ?_<;>intro hc hr<;>try first|contradiction|exfalso;omega))
            all_goals first | (refine z_ret (hv := ?_) (ho := ?_) <;> first | rfl | (simp [go_sem, *]; done) | (simp_all; done) | (simp_all; omega)) | skip
          · repeat' (first|(refine ya ?_;first|(refine yb ?_;first|refine yc ?_)|refine ye ?_)|(refine yg ?_;intro hgs;first|(replace hgs:=zgy hgs;first|(refine yb ?_;first|refine yc ?_)|refine yy hgs ?_;clear hgs)|(refine yn (zgn hgs) ?_;clear hgs)|((fail_if_success have:=zgy hgs);refine z_spl hgs (h1:=?_) (h2:=?_)<;>clear hgs<;>intro hg hr<;>try first|contradiction|exfalso;omega))|refine yz ?_|(refine yA ?_;first|(refine yB ?_;first|refine yC ?_)|refine yE ?_)|(refine yG ?_;intro hgs;first|(replace hgs:=zgy hgs;first|(refine yB ?_;first|refine yC ?_)|refine yY hgs ?_;clear hgs)|(refine yN (zgn hgs) ?_;clear hgs)|((fail_if_success have:=zgy hgs);refine z_spll hgs (h1:=?_) (h2:=?_)<;>clear hgs<;>intro hg hr<;>try first|contradiction|exfalso;omega))|refine yZ ?_|refine zst ?_|refine k_blk_other rfl ?_|(refine zk ?_ ?_<;>intro hc hr<;>try first|contradiction|exfalso;omega))
            all_goals first | (refine z_ret (hv := ?_) (ho := ?_) <;> first | rfl | (simp [go_sem, *]; done) | (simp_all; done) | (simp_all; omega)) | skip
    · obtain ⟨hca, hcb, hr, hy⟩ := insB_yes hi
      have hbo := bsW_ok (isC_f hca)
      have hb1 : ∀ w ∈ bsW (l9a cd (nwC cd)).r (l9a cd (nwC cd)).z (l9a cd (nwC cd)).es, w.length ≤ 4194304 := fun w hw => by have := (hbo w hw).1; omega
      have hb2 : ∀ w ∈ bsW (l9a cd (nwC cd)).r (l9a cd (nwC cd)).z (l9a cd (nwC cd)).es, ∀ x ∈ w, rg x := fun w hw => (hbo w hw).2
      clear hbo
      cases hj : insB (dII cd).r (dII cd).z (dII cd).es (l9a cd (nwC cd)).r (l9a cd (nwC cd)).z (l9a cd (nwC cd)).es
      · repeat' (first|(refine ya ?_;first|(refine yb ?_;first|refine yc ?_)|refine ye ?_)|(refine yg ?_;intro hgs;first|(replace hgs:=zgy hgs;first|(refine yb ?_;first|refine yc ?_)|refine yy hgs ?_;clear hgs)|(refine yn (zgn hgs) ?_;clear hgs)|((fail_if_success have:=zgy hgs);refine z_spl hgs (h1:=?_) (h2:=?_)<;>clear hgs<;>intro hg hr<;>try first|contradiction|exfalso;omega))|refine yz ?_|(refine yA ?_;first|(refine yB ?_;first|refine yC ?_)|refine yE ?_)|(refine yG ?_;intro hgs;first|(replace hgs:=zgy hgs;first|(refine yB ?_;first|refine yC ?_)|refine yY hgs ?_;clear hgs)|(refine yN (zgn hgs) ?_;clear hgs)|((fail_if_success have:=zgy hgs);refine z_spll hgs (h1:=?_) (h2:=?_)<;>clear hgs<;>intro hg hr<;>try first|contradiction|exfalso;omega))|refine yZ ?_|refine zst ?_|refine k_blk_other rfl ?_|(refine zk ?_ ?_<;>intro hc hr<;>try first|contradiction|exfalso;omega))
        all_goals first | (refine z_ret (hv := ?_) (ho := ?_) <;> first | rfl | (simp [go_sem, *]; done) | (simp_all; done) | (simp_all; omega)) | skip
      · obtain ⟨_, e2, e3⟩ := insB_two hi hj
        repeat' (first|(refine ya ?_;first|(refine yb ?_;first|refine yc ?_)|refine ye ?_)|(refine yg ?_;intro hgs;first|(replace hgs:=zgy hgs;first|(refine yb ?_;first|refine yc ?_)|refine yy hgs ?_;clear hgs)|(refine yn (zgn hgs) ?_;clear hgs)|((fail_if_success have:=zgy hgs);refine z_spl hgs (h1:=?_) (h2:=?_)<;>clear hgs<;>intro hg hr<;>try first|contradiction|exfalso;omega))|refine yz ?_|(refine yA ?_;first|(refine yB ?_;first|refine yC ?_)|refine yE ?_)|(refine yG ?_;intro hgs;first|(replace hgs:=zgy hgs;first|(refine yB ?_;first|refine yC ?_)|refine yY hgs ?_;clear hgs)|(refine yN (zgn hgs) ?_;clear hgs)|((fail_if_success have:=zgy hgs);refine z_spll hgs (h1:=?_) (h2:=?_)<;>clear hgs<;>intro hg hr<;>try first|contradiction|exfalso;omega))|refine yZ ?_|refine zst ?_|refine k_blk_other rfl ?_|(refine zk ?_ ?_<;>intro hc hr<;>try first|contradiction|exfalso;omega))
        all_goals first | (refine z_ret (hv := ?_) (ho := ?_) <;> first | rfl | (simp [go_sem, *]; done) | (simp_all; done) | (simp_all; omega)) | skip
  · repeat' (first|(refine ya ?_;first|(refine yb ?_;first|refine yc ?_)|refine ye ?_)|(refine yg ?_;intro hgs;first|(replace hgs:=zgy hgs;first|(refine yb ?_;first|refine yc ?_)|refine yy hgs ?_;clear hgs)|(refine yn (zgn hgs) ?_;clear hgs)|((fail_if_success have:=zgy hgs);refine z_spl hgs (h1:=?_) (h2:=?_)<;>clear hgs<;>intro hg hr<;>try first|contradiction|exfalso;omega))|refine yz ?_|(refine yA ?_;first|(refine yB ?_;first|refine yC ?_)|refine yE ?_)|(refine yG ?_;intro hgs;first|(replace hgs:=zgy hgs;first|(refine yB ?_;first|refine yC ?_)|refine yY hgs ?_;clear hgs)|(refine yN (zgn hgs) ?_;clear hgs)|((fail_if_success have:=zgy hgs);refine z_spll hgs (h1:=?_) (h2:=?_)<;>clear hgs<;>intro hg hr<;>try first|contradiction|exfalso;omega))|refine yZ ?_|refine zst ?_|refine k_blk_other rfl ?_|(refine zk ?_ ?_<;>intro hc hr<;>try first|contradiction|exfalso;omega))
    all_goals first | (refine z_ret (hv := ?_) (ho := ?_) <;> first | rfl | (simp [go_sem, *]; done) | (simp_all; done) | (simp_all; omega)) | skip
theorem law15_of {l : List AV} (h : All2 (ShA T) [22] l) : law15_S l (.one (.sc (.bool true))) [] := by
  obtain ⟨c, rfl, hh⟩ := all2_1 h
  obtain ⟨cd, rfl, p⟩ := shBytes T22 T5 hh
  exact ⟨cd, p, rfl, rfl, rfl⟩
instance : Con Tryz.prog 3 law15_S := con law15 Tryz.func3
end Go.Proofs.Tryz
