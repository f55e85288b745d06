import Derived.Test.YtfapjflogjblaaaGreatX
import Derived.Test.YtfapjflogjblaaaGreatQ20
set_option linter.unusedVariables false
set_option linter.unusedSimpArgs false
set_option linter.unnecessarySimpa false
namespace Go.Proofs.Tryz
open Go Go.Eng
set_option linter.unnecessarySimpa false
set_option linter.unusedSimpArgs false
set_option maxHeartbeats 4000000
/-! ### Subgroups -/
noncomputable def sgG (r : Int) (ws : List (List Int)) : Gr := coreG (flG r ws)
theorem sgG_es (r : Int) (ws : List (List Int)) : (sgG r ws).es.length ≤ 1048576 := coreG_es (flG_es r ws) (by omega)
def K_subg_no2 : Nat → List Nat := fun i => ([[0, 1, 4], [4, 6, 7], [4, 6, 15], [4, 5], [4, 5]] : List (List Nat)).getD i []
attribute [go_sem] K_subg_no2
def subg_no2_S : Eng.Spec := fun args av objs => ∃ (r : Int) (ws : List (List Int)), (ws.length ≤ 1048576 ∧ (∀ w ∈ ws, w.length ≤ 1048576) ∧ awB r ws = false) ∧ args = [aI r, aW ws] ∧ av = .tup [.agg [.sc (.int 0), .sc (.int 0), .nil], aB false] ∧ objs = []
theorem subg_no2 : Sat Tryz.prog 83 subg_no2_S := by
  refine sat_of tok okr mixed K_subg_no2 Tryz.func83 rfl (rs := [.cell 4 26, .tmp 5]) rfl Tryz.ntmps83 ?_
  rintro args av objs ⟨r, ws, hpre, rfl, rfl, rfl⟩
  refine ⟨by show 2 ≤ 19; decide, ?_⟩
  obtain ⟨hl, hw, hok⟩ := hpre
  repeat' (first|(refine ya ?_;first|(refine yb ?_;first|refine yc ?_)|refine ye ?_)|refine yz ?_|refine zst ?_|refine k_blk_other rfl ?_|(refine zk ?_ ?_<;>intro hc hr<;>try first|contradiction|exfalso;omega))
  all_goals first | (refine z_ret (hv := ?_) (ho := ?_) <;> first | rfl | (simp [go_sem, *]; done) | (simp_all; done) | (simp_all; omega)) | skip
instance : Con Tryz.prog 83 subg_no2_S := con subg_no2 Tryz.func83
def K_subg_yes2 : Nat → List Nat := fun i => ([[0, 1, 4], [4, 6, 7], [4, 6, 15], [4, 5], [4, 5]] : List (List Nat)).getD i []
attribute [go_sem] K_subg_yes2
def subg_yes2_S : Eng.Spec := fun args av objs => ∃ (r : Int) (ws : List (List Int)), (ws.length ≤ 1048576 ∧ (∀ w ∈ ws, w.length ≤ 1048576) ∧ awB r ws = true) ∧ args = [aI r, aW ws] ∧ av = .tup [gT (sgG r ws), aB true] ∧ objs = [oE 65 (sgG r ws).es]
theorem subg_yes2 : Sat Tryz.prog 83 subg_yes2_S := by
  refine sat_of tok okr mixed K_subg_yes2 Tryz.func83 rfl (rs := [.cell 4 26, .tmp 5]) rfl Tryz.ntmps83 ?_
  rintro args av objs ⟨r, ws, hpre, rfl, rfl, rfl⟩
  refine ⟨by show 2 ≤ 19; decide, ?_⟩
  obtain ⟨hl, hw, hok⟩ := hpre
  have hes := flG_es r ws
  repeat' (first|(refine ya ?_;first|(refine yb ?_;first|refine yc ?_)|refine ye ?_)|refine yz ?_|refine zst ?_|refine k_blk_other rfl ?_|(refine zk ?_ ?_<;>intro hc hr<;>try first|contradiction|exfalso;omega))
  all_goals first | (refine z_ret (hv := ?_) (ho := ?_) <;> first | rfl | (simp [go_sem, sgG, *]; done) | (simp_all [sgG]; done) | (simp_all [sgG]; omega)) | skip
instance (priority := 2000) : Con Tryz.prog 83 (orS subg_no2_S subg_yes2_S) := con2 subg_no2 subg_yes2 Tryz.func83
end Go.Proofs.Tryz
