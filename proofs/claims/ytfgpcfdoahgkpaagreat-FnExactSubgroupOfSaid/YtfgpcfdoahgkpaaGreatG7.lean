import Derived.Test.YtfgpcfdoahgkpaaGreatB
set_option linter.unusedVariables false
set_option linter.unusedSimpArgs false
set_option linter.unnecessarySimpa false
/- The laws' marks on graphs without a row of edges. -/
namespace Go.Proofs.Tryz
open Go Go.Eng
set_option linter.unnecessarySimpa false
set_option linter.unusedSimpArgs false
set_option maxHeartbeats 4000000
def K_markE_nil : Nat → List Nat := fun i => ([[0, 1], [0, 1, 5], [0, 1, 5, 9], [0, 1, 5], [0, 1, 5], [0, 1, 5], [0, 1, 5], [0, 1, 5], [0, 1, 5], [0, 1, 5], [4]] : List (List Nat)).getD i []
attribute [go_sem] K_markE_nil
def markE_nil_S : Eng.Spec := fun args av objs => ∃ (k : Int), (0 ≤ k ∧ k ≤ 1000000000000) ∧ args = [.one (.imm 3 []), aI k] ∧ av = aI k ∧ objs = []
theorem markE_nil : Sat Tryz.prog 54 markE_nil_S := by
  refine sat_of tok okr mixed K_markE_nil Tryz.func54 rfl (rs := [.tmp 4]) rfl Tryz.ntmps54 ?_
  rintro args av objs ⟨k, hpre, rfl, rfl, rfl⟩
  refine ⟨by show 2 ≤ 34; decide, ?_⟩
  repeat' (first|(refine ya ?_;first|refine ye ?_)|refine yz ?_|refine zst ?_|refine k_blk_other rfl ?_|(refine zk ?_ ?_<;>intro hc hr<;>try first|contradiction|exfalso;omega))
  refine z_loop (fun i : Nat => []) (fun i : Nat => []) (fun i : Nat => i = 0) (fun i : Nat => 0 - i) (0) (h0 := ?_) (henv := ?_) (hobj := ?_) (h := ?_)
  · omega
  · simp [go_sem, AVm, CVm, lookS]
  · simp [go_sem, OBm, CVm, lookS, All2]
  intro i hi
  subst hi
  repeat' (first|(refine ya ?_;first|refine ye ?_)|refine yz ?_|refine zst ?_|refine k_blk_other rfl ?_|(refine zk ?_ ?_<;>intro hc hr<;>try first|contradiction|exfalso;omega))
  all_goals first | (refine z_ret (hv := ?_) (ho := ?_) <;> first | rfl | (simp [go_sem, *]; done) | (simp_all; done) | (simp_all; omega)) | skip
instance : Con Tryz.prog 54 markE_nil_S := con markE_nil Tryz.func54
def K_markG_nil : Nat → List Nat := fun i => ([[1, 2], [1], [4]] : List (List Nat)).getD i []
attribute [go_sem] K_markG_nil
def markG_nil_S : Eng.Spec := fun args av objs => ∃ (r z k : Int), (0 ≤ k ∧ k ≤ 1000000000000) ∧ args = [.agg [.sc (.int r), .sc (.int z), .imm 3 []], aI k] ∧ av = aI k ∧ objs = []
theorem markG_nil : Sat Tryz.prog 16 markG_nil_S := by
  refine sat_of tok okr mixed K_markG_nil Tryz.func16 rfl (rs := [.tmp 4]) rfl Tryz.ntmps16 ?_
  rintro args av objs ⟨r, z, k, hpre, rfl, rfl, rfl⟩
  refine ⟨by show 2 ≤ 10; decide, ?_⟩
  repeat' (first|(refine ya ?_;first|(refine yb ?_;first|refine z_fn markE_nil Tryz.func54 (hSp := by exact ⟨_, hpre, rfl, rfl, rfl⟩) (k0 := ?_) | refine yr ?_)|refine ye ?_)|refine yz ?_|refine zst ?_|refine k_blk_other rfl ?_|(refine zk ?_ ?_<;>intro hc hr<;>try first|contradiction|exfalso;omega))
  all_goals first | (refine z_ret (hv := ?_) (ho := ?_) <;> first | rfl | (simp [go_sem, *]; done) | (simp_all; done) | (simp_all; omega)) | skip
instance : Con Tryz.prog 16 markG_nil_S := con markG_nil Tryz.func16
def K_heldE_nil : Nat → List Nat := fun i => ([[0, 1], [0, 1, 5], [0, 1, 5, 9], [0, 1, 5], [0, 1, 5, 18], [4], [0, 1, 5], [0, 1, 5, 27], [4], [0, 1, 5], [0, 1, 5, 36], [4], [0, 1, 5], [4]] : List (List Nat)).getD i []
attribute [go_sem] K_heldE_nil
def heldE_nil_S : Eng.Spec := fun args av objs => ∃ (k : Int), (0 ≤ k ∧ k ≤ 1000000000000) ∧ args = [.one (.imm 3 []), aI k] ∧ av = aI k ∧ objs = []
theorem heldE_nil : Sat Tryz.prog 71 heldE_nil_S := by
  refine sat_of tok okr mixed K_heldE_nil Tryz.func71 rfl (rs := [.tmp 4]) rfl Tryz.ntmps71 ?_
  rintro args av objs ⟨k, hpre, rfl, rfl, rfl⟩
  refine ⟨by show 2 ≤ 40; decide, ?_⟩
  repeat' (first|(refine ya ?_;first|refine ye ?_)|refine yz ?_|refine zst ?_|refine k_blk_other rfl ?_|(refine zk ?_ ?_<;>intro hc hr<;>try first|contradiction|exfalso;omega))
  refine z_loop (fun i : Nat => []) (fun i : Nat => []) (fun i : Nat => i = 0) (fun i : Nat => 0 - i) (0) (h0 := ?_) (henv := ?_) (hobj := ?_) (h := ?_)
  · omega
  · simp [go_sem, AVm, CVm, lookS]
  · simp [go_sem, OBm, CVm, lookS, All2]
  intro i hi
  subst hi
  repeat' (first|(refine ya ?_;first|refine ye ?_)|refine yz ?_|refine zst ?_|refine k_blk_other rfl ?_|(refine zk ?_ ?_<;>intro hc hr<;>try first|contradiction|exfalso;omega))
  all_goals first | (refine z_ret (hv := ?_) (ho := ?_) <;> first | rfl | (simp [go_sem, *]; done) | (simp_all; done) | (simp_all; omega)) | skip
instance (priority := 3000) : Con Tryz.prog 71 (orS (specOf heldEdgeS_sat) (specOf heldE_nil)) := con2 heldEdgeS_sat heldE_nil Tryz.func71
instance : Con Tryz.prog 71 heldE_nil_S := con heldE_nil Tryz.func71
def K_heldG_nil : Nat → List Nat := fun i => ([[1, 2], [1], [1, 10], [4], [4]] : List (List Nat)).getD i []
attribute [go_sem] K_heldG_nil
def heldG_nil_S : Eng.Spec := fun args av objs => ∃ (r z k : Int), (0 ≤ k ∧ k ≤ 1000000000000) ∧ args = [.agg [.sc (.int r), .sc (.int z), .imm 3 []], aI k] ∧ av = aI k ∧ objs = []
theorem heldG_nil : Sat Tryz.prog 32 heldG_nil_S := by
  refine sat_of tok okr mixed K_heldG_nil Tryz.func32 rfl (rs := [.tmp 4]) rfl Tryz.ntmps32 ?_
  rintro args av objs ⟨r, z, k, hpre, rfl, rfl, rfl⟩
  refine ⟨by show 2 ≤ 12; decide, ?_⟩
  repeat' (first|(refine ya ?_;first|(refine yb ?_;first|refine z_fn heldE_nil Tryz.func71 (hSp := by exact ⟨_, hpre, rfl, rfl, rfl⟩) (k0 := ?_) | refine yc ?_)|refine ye ?_)|refine yz ?_|refine zst ?_|refine k_blk_other rfl ?_|(refine zk ?_ ?_<;>intro hc hr<;>try first|contradiction|exfalso;omega))
  all_goals first | (refine z_ret (hv := ?_) (ho := ?_) <;> first | rfl | (simp [go_sem, *]; done) | (simp_all; done) | (simp_all; omega)) | skip
instance (priority := 3000) : Con Tryz.prog 32 (orS (specOf heldGraph_sat) (specOf heldG_nil)) := con2 heldGraph_sat heldG_nil Tryz.func32
instance : Con Tryz.prog 32 heldG_nil_S := con heldG_nil Tryz.func32
end Go.Proofs.Tryz
