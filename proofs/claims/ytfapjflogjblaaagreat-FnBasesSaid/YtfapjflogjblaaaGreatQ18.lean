import Derived.Test.YtfapjflogjblaaaGreatQ14
set_option maxHeartbeats 16000000
set_option maxRecDepth 20000
set_option linter.unusedVariables false
set_option linter.unusedSimpArgs false
set_option linter.unnecessarySimpa false
namespace Go.Proofs.Tryz
open Go Go.Eng
noncomputable def gaB (r z : Int) (es : List Ed) (ws : List (List Int)) : Bool := isC r z es && (awB r ws && decide (r = (sgG r ws).r ∧ z = (sgG r ws).z ∧ es = (sgG r ws).es))
@[go_sem] def K_genA_sat (i : Nat) : List Nat := ([[1,2],[1,2,9],[4],[2,5,6],[4]]).getD i []
def genA_sat_S : Eng.Spec := fun args av objs => ∃ (r z : Int) (es : List Ed) (ws : List (List Int)), (es.length ≤ 1048576 ∧ ws.length ≤ 1048576 ∧ (∀ w ∈ ws, w.length ≤ 1048576)) ∧ args = [grA r z es, aW ws] ∧ av = aB (gaB r z es ws) ∧ objs = []
theorem genA_sat : Sat Tryz.prog 17 genA_sat_S := by
  refine sat_of tok okr mixed K_genA_sat Tryz.func17 rfl (rs := [.tmp 4]) rfl Tryz.ntmps17 ?_
  rintro args av objs ⟨r, z, es, ws, hpre, rfl, rfl, rfl⟩
  refine ⟨by show 2 ≤ 23; decide, ?_⟩
  obtain ⟨he, hl, hw⟩ := hpre
  have hes := sgG_es r ws
  unfold gaB
  cases hC : isC r z es
  · repeat' (first|(refine ya ?_;first|refine yc ?_|refine ye ?_)|(refine yg ?_;intro hq;first|(replace hq:=zgy hq;first|refine yc ?_|refine yy hq ?_;clear hq)|(refine yn (zgn hq) ?_;clear hq)|((fail_if_success have:=zgy hq);refine zs hq ?_ ?_<;>clear hq<;>intro hg hr<;>try exact zx))|refine yz ?_|refine zst ?_|refine zo ?_|(refine zk ?_ ?_<;>intro hc hr<;>try exact zx))
    all_goals try exact zv
  · cases hok : awB r ws
    · repeat' (first|(refine ya ?_;first|refine yc ?_|refine ye ?_)|(refine yg ?_;intro hq;first|(replace hq:=zgy hq;first|refine yc ?_|refine yy hq ?_;clear hq)|(refine yn (zgn hq) ?_;clear hq)|((fail_if_success have:=zgy hq);refine zs hq ?_ ?_<;>clear hq<;>intro hg hr<;>try exact zx))|refine yz ?_|refine zst ?_|refine zo ?_|(refine zk ?_ ?_<;>intro hc hr<;>try exact zx))
      all_goals try exact zv
    · repeat' (first|(refine ya ?_;first|refine yc ?_|refine ye ?_)|(refine yg ?_;intro hq;first|(replace hq:=zgy hq;first|refine yc ?_|refine yy hq ?_;clear hq)|(refine yn (zgn hq) ?_;clear hq)|((fail_if_success have:=zgy hq);refine zs hq ?_ ?_<;>clear hq<;>intro hg hr<;>try exact zx))|refine yz ?_|refine zst ?_|refine zo ?_|(refine zk ?_ ?_<;>intro hc hr<;>try exact zx))
      all_goals try exact zv
instance : Con Tryz.prog 17 genA_sat_S := con genA_sat Tryz.func17
@[go_sem] def K_genA_sat2 (i : Nat) : List Nat := ([[1,2],[2,5,6],[4]]).getD i []
def genA_sat2_S : Eng.Spec := fun args av objs => ∃ (r z : Int) (es : List Ed) (ws : List (List Int)), (es.length ≤ 1048576 ∧ ws.length ≤ 1048576 ∧ (∀ w ∈ ws, w.length ≤ 1048576)) ∧ args = [grA r z es, aW ws] ∧ av = aB (gaB r z es ws) ∧ objs = []
theorem genA_sat2 : Sat Tryz.prog 30 genA_sat2_S := by
  refine sat_of tok okr mixed K_genA_sat2 Tryz.func30 rfl (rs := [.tmp 4]) rfl Tryz.ntmps30 ?_
  rintro args av objs ⟨r, z, es, ws, hpre, rfl, rfl, rfl⟩
  refine ⟨by show 2 ≤ 24; decide, ?_⟩
  obtain ⟨he, hl, hw⟩ := hpre
  have hes := sgG_es r ws
  unfold gaB
  cases hC : isC r z es
  · cases hok : awB r ws
    · repeat' (first|(refine ya ?_;first|refine yc ?_|refine ye ?_)|(refine yg ?_;intro hq;first|(replace hq:=zgy hq;first|refine yc ?_|refine yy hq ?_;clear hq)|(refine yn (zgn hq) ?_;clear hq)|((fail_if_success have:=zgy hq);refine zs hq ?_ ?_<;>clear hq<;>intro hg hr<;>try exact zx))|refine yz ?_|refine zst ?_|refine zo ?_|(refine zk ?_ ?_<;>intro hc hr<;>try exact zx))
      all_goals try exact zv
    · repeat' (first|(refine ya ?_;first|refine yc ?_|refine ye ?_)|(refine yg ?_;intro hq;first|(replace hq:=zgy hq;first|refine yc ?_|refine yy hq ?_;clear hq)|(refine yn (zgn hq) ?_;clear hq)|((fail_if_success have:=zgy hq);refine zs hq ?_ ?_<;>clear hq<;>intro hg hr<;>try exact zx))|refine yz ?_|refine zst ?_|refine zo ?_|(refine zk ?_ ?_<;>intro hc hr<;>try exact zx))
      all_goals try exact zv
  · cases hok : awB r ws
    · repeat' (first|(refine ya ?_;first|refine yc ?_|refine ye ?_)|(refine yg ?_;intro hq;first|(replace hq:=zgy hq;first|refine yc ?_|refine yy hq ?_;clear hq)|(refine yn (zgn hq) ?_;clear hq)|((fail_if_success have:=zgy hq);refine zs hq ?_ ?_<;>clear hq<;>intro hg hr<;>try exact zx))|refine yz ?_|refine zst ?_|refine zo ?_|(refine zk ?_ ?_<;>intro hc hr<;>try exact zx))
      all_goals try exact zv
    · repeat' (first|(refine ya ?_;first|refine yc ?_|refine ye ?_)|(refine yg ?_;intro hq;first|(replace hq:=zgy hq;first|refine yc ?_|refine yy hq ?_;clear hq)|(refine yn (zgn hq) ?_;clear hq)|((fail_if_success have:=zgy hq);refine zs hq ?_ ?_<;>clear hq<;>intro hg hr<;>try exact zx))|refine yz ?_|refine zst ?_|refine zo ?_|(refine zk ?_ ?_<;>intro hc hr<;>try exact zx))
      all_goals try exact zv
instance : Con Tryz.prog 30 genA_sat2_S := con genA_sat2 Tryz.func30
end Go.Proofs.Tryz
