import Derived.Test.YtfapjflogjblaaaGreatX
import Derived.Test.YtfapjflogjblaaaGreatQ20
set_option maxHeartbeats 16000000
set_option maxRecDepth 20000
set_option linter.unusedVariables false
set_option linter.unusedSimpArgs false
set_option linter.unnecessarySimpa false
namespace Go.Proofs.Tryz
open Go Go.Eng
noncomputable def sgG (r : Int) (ws : List (List Int)) : Gr := coreG (flG r ws)
theorem sgG_es (r : Int) (ws : List (List Int)) : (sgG r ws).es.length ≤ 1048576 := coreG_es (flG_es r ws) (by omega)
@[go_sem] def K_subg_no (i : Nat) : List Nat := ([[0,1,4],[4,6,7],[4,6,15],[4,5],[4,5]]).getD i []
def subg_no_S : Eng.Spec := fun args av objs => ∃ (r : Int) (ws : List (List Int)), (ws.length ≤ 1048576 ∧ (∀ w ∈ ws, w.length ≤ 1048576) ∧ awB r ws = false) ∧ args = [aI r, aW ws] ∧ av = .tup [.agg [.sc (.int 0), .sc (.int 0), .nil], aB false] ∧ objs = []
theorem subg_no : Sat Tryz.prog 72 subg_no_S := by
  refine sat_of tok okr mixed K_subg_no Tryz.func72 rfl (rs := [.cell 4 26, .tmp 5]) rfl Tryz.ntmps72 ?_
  rintro args av objs ⟨r, ws, hpre, rfl, rfl, rfl⟩
  refine ⟨by show 2 ≤ 19; decide, ?_⟩
  obtain ⟨hl, hw, hok⟩ := hpre
  repeat' (first|(refine ya ?_;first|refine yc ?_|refine ye ?_)|refine yz ?_|refine zst ?_|refine zo ?_|(refine zk ?_ ?_<;>intro hc hr<;>try exact zx))
  all_goals try exact zv
instance : Con Tryz.prog 72 subg_no_S := con subg_no Tryz.func72
@[go_sem] def K_subg_yes (i : Nat) : List Nat := ([[0,1,4],[4,6,7],[4,6,15],[4,5],[4,5]]).getD i []
def subg_yes_S : Eng.Spec := fun args av objs => ∃ (r : Int) (ws : List (List Int)), (ws.length ≤ 1048576 ∧ (∀ w ∈ ws, w.length ≤ 1048576) ∧ awB r ws = true) ∧ args = [aI r, aW ws] ∧ av = .tup [gT (sgG r ws), aB true] ∧ objs = [oE 65 (sgG r ws).es]
theorem subg_yes : Sat Tryz.prog 72 subg_yes_S := by
  refine sat_of tok okr mixed K_subg_yes Tryz.func72 rfl (rs := [.cell 4 26, .tmp 5]) rfl Tryz.ntmps72 ?_
  rintro args av objs ⟨r, ws, hpre, rfl, rfl, rfl⟩
  refine ⟨by show 2 ≤ 19; decide, ?_⟩
  obtain ⟨hl, hw, hok⟩ := hpre
  have hes := flG_es r ws
  repeat' (first|(refine ya ?_;first|refine yc ?_|refine ye ?_)|refine yz ?_|refine zst ?_|refine zo ?_|(refine zk ?_ ?_<;>intro hc hr<;>try exact zx))
  all_goals first | (refine z_ret (hv := ?_) (ho := ?_) <;> first | rfl | (simp [go_sem, sgG, *]; done) | (simp_all [sgG]; done) | (simp_all [sgG]; omega)) | skip
instance (priority := 2000) : Con Tryz.prog 72 (orS subg_no_S subg_yes_S) := con2 subg_no subg_yes Tryz.func72
@[go_sem] def K_subg_no2 (i : Nat) : List Nat := ([[0,1,4],[4,6,7],[4,6,15],[4,5],[4,5]]).getD i []
def subg_no2_S : Eng.Spec := fun args av objs => ∃ (r : Int) (ws : List (List Int)), (ws.length ≤ 1048576 ∧ (∀ w ∈ ws, w.length ≤ 1048576) ∧ awB r ws = false) ∧ args = [aI r, aW ws] ∧ av = .tup [.agg [.sc (.int 0), .sc (.int 0), .nil], aB false] ∧ objs = []
theorem subg_no2 : Sat Tryz.prog 83 subg_no2_S := by
  refine sat_of tok okr mixed K_subg_no2 Tryz.func83 rfl (rs := [.cell 4 26, .tmp 5]) rfl Tryz.ntmps83 ?_
  rintro args av objs ⟨r, ws, hpre, rfl, rfl, rfl⟩
  refine ⟨by show 2 ≤ 19; decide, ?_⟩
  obtain ⟨hl, hw, hok⟩ := hpre
  repeat' (first|(refine ya ?_;first|refine yc ?_|refine ye ?_)|refine yz ?_|refine zst ?_|refine zo ?_|(refine zk ?_ ?_<;>intro hc hr<;>try exact zx))
  all_goals try exact zv
instance : Con Tryz.prog 83 subg_no2_S := con subg_no2 Tryz.func83
@[go_sem] def K_subg_yes2 (i : Nat) : List Nat := ([[0,1,4],[4,6,7],[4,6,15],[4,5],[4,5]]).getD i []
def subg_yes2_S : Eng.Spec := fun args av objs => ∃ (r : Int) (ws : List (List Int)), (ws.length ≤ 1048576 ∧ (∀ w ∈ ws, w.length ≤ 1048576) ∧ awB r ws = true) ∧ args = [aI r, aW ws] ∧ av = .tup [gT (sgG r ws), aB true] ∧ objs = [oE 65 (sgG r ws).es]
theorem subg_yes2 : Sat Tryz.prog 83 subg_yes2_S := by
  refine sat_of tok okr mixed K_subg_yes2 Tryz.func83 rfl (rs := [.cell 4 26, .tmp 5]) rfl Tryz.ntmps83 ?_
  rintro args av objs ⟨r, ws, hpre, rfl, rfl, rfl⟩
  refine ⟨by show 2 ≤ 19; decide, ?_⟩
  obtain ⟨hl, hw, hok⟩ := hpre
  have hes := flG_es r ws
  repeat' (first|(refine ya ?_;first|refine yc ?_|refine ye ?_)|refine yz ?_|refine zst ?_|refine zo ?_|(refine zk ?_ ?_<;>intro hc hr<;>try exact zx))
  all_goals first | (refine z_ret (hv := ?_) (ho := ?_) <;> first | rfl | (simp [go_sem, sgG, *]; done) | (simp_all [sgG]; done) | (simp_all [sgG]; omega)) | skip
noncomputable def fbB (r : Int) (ws : List (List Int)) : Bool := awB r ws && (rkO (sgG r ws).r (sgG r ws).z (sgG r ws).es == (ws.length : Int))
instance (priority := 2000) : Con Tryz.prog 83 (orS subg_no2_S subg_yes2_S) := con2 subg_no2 subg_yes2 Tryz.func83
@[go_sem] def K_freeB_sat (i : Nat) : List Nat := ([[0,1],[1,5,6],[4]]).getD i []
def freeB_sat_S : Eng.Spec := fun args av objs => ∃ (r : Int) (ws : List (List Int)), (ws.length ≤ 1048576 ∧ (∀ w ∈ ws, w.length ≤ 1048576)) ∧ args = [aI r, aW ws] ∧ av = aB (fbB r ws) ∧ objs = []
theorem freeB_sat : Sat Tryz.prog 18 freeB_sat_S := by
  refine sat_of tok okr mixed K_freeB_sat Tryz.func18 rfl (rs := [.tmp 4]) rfl Tryz.ntmps18 ?_
  rintro args av objs ⟨r, ws, hpre, rfl, rfl, rfl⟩
  refine ⟨by show 2 ≤ 21; decide, ?_⟩
  obtain ⟨hl, hw⟩ := hpre
  have hes := sgG_es r ws
  unfold fbB
  cases hok : awB r ws
  · repeat' (first|(refine ya ?_;first|refine yc ?_|refine ye ?_)|(refine yg ?_;intro hq;first|(replace hq:=zgy hq;first|refine yc ?_|refine yy hq ?_;clear hq)|(refine yn (zgn hq) ?_;clear hq)|((fail_if_success have:=zgy hq);refine zs hq ?_ ?_<;>clear hq<;>intro hg hr<;>try exact zx))|refine yz ?_|refine zst ?_|refine zo ?_|(refine zk ?_ ?_<;>intro hc hr<;>try exact zx))
    all_goals try exact zv
  · repeat' (first|(refine ya ?_;first|refine yc ?_|refine ye ?_)|(refine yg ?_;intro hq;first|(replace hq:=zgy hq;first|refine yc ?_|refine yy hq ?_;clear hq)|(refine yn (zgn hq) ?_;clear hq)|((fail_if_success have:=zgy hq);refine zs hq ?_ ?_<;>clear hq<;>intro hg hr<;>try exact zx))|refine yz ?_|refine zst ?_|refine zo ?_|(refine zk ?_ ?_<;>intro hc hr<;>try exact zx))
    all_goals try exact zv
instance : Con Tryz.prog 18 freeB_sat_S := con freeB_sat Tryz.func18
@[go_sem] def K_freeB_sat2 (i : Nat) : List Nat := ([[0,1],[1,5,6],[4]]).getD i []
def freeB_sat2_S : Eng.Spec := fun args av objs => ∃ (r : Int) (ws : List (List Int)), (ws.length ≤ 1048576 ∧ (∀ w ∈ ws, w.length ≤ 1048576)) ∧ args = [aI r, aW ws] ∧ av = aB (fbB r ws) ∧ objs = []
theorem freeB_sat2 : Sat Tryz.prog 29 freeB_sat2_S := by
  refine sat_of tok okr mixed K_freeB_sat2 Tryz.func29 rfl (rs := [.tmp 4]) rfl Tryz.ntmps29 ?_
  rintro args av objs ⟨r, ws, hpre, rfl, rfl, rfl⟩
  refine ⟨by show 2 ≤ 21; decide, ?_⟩
  obtain ⟨hl, hw⟩ := hpre
  have hes := sgG_es r ws
  unfold fbB
  cases hok : awB r ws
  · repeat' (first|(refine ya ?_;first|refine yc ?_|refine ye ?_)|(refine yg ?_;intro hq;first|(replace hq:=zgy hq;first|refine yc ?_|refine yy hq ?_;clear hq)|(refine yn (zgn hq) ?_;clear hq)|((fail_if_success have:=zgy hq);refine zs hq ?_ ?_<;>clear hq<;>intro hg hr<;>try exact zx))|refine yz ?_|refine zst ?_|refine zo ?_|(refine zk ?_ ?_<;>intro hc hr<;>try exact zx))
    all_goals try exact zv
  · repeat' (first|(refine ya ?_;first|refine yc ?_|refine ye ?_)|(refine yg ?_;intro hq;first|(replace hq:=zgy hq;first|refine yc ?_|refine yy hq ?_;clear hq)|(refine yn (zgn hq) ?_;clear hq)|((fail_if_success have:=zgy hq);refine zs hq ?_ ?_<;>clear hq<;>intro hg hr<;>try exact zx))|refine yz ?_|refine zst ?_|refine zo ?_|(refine zk ?_ ?_<;>intro hc hr<;>try exact zx))
    all_goals try exact zv
instance : Con Tryz.prog 29 freeB_sat2_S := con freeB_sat2 Tryz.func29
end Go.Proofs.Tryz
