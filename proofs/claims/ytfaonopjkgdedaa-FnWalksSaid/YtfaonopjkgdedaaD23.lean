import Derived.Test.YtfaonopjkgdedaaD4
import Derived.Test.YtfaonopjkgdedaaY
set_option linter.unusedVariables false
set_option linter.unusedSimpArgs false
set_option linter.unnecessarySimpa false
/- The specification's draws of graphs with vertices, letters and words. -/
namespace Go.Proofs.Try
open Go Go.Eng
set_option linter.unnecessarySimpa false
set_option linter.unusedSimpArgs false
set_option maxHeartbeats 4000000
set_option maxRecDepth 20000
/-! ### A graph and two numbers -/
def dPv (cd : List Int) : Int := beV cd (l5G cd (nwC cd)).2 (mx1 (l5G cd (nwC cd)).1.z) - beV cd (beS cd (l5G cd (nwC cd)).2 (mx1 (l5G cd (nwC cd)).1.z)) 2
def dPx (cd : List Int) : Int := beV cd (beS cd (beS cd (l5G cd (nwC cd)).2 (mx1 (l5G cd (nwC cd)).1.z)) 2) (mx1 (l5G cd (nwC cd)).1.z)
theorem l5G_es (cd : List Int) : (l5G cd (nwC cd)).1.es.length ≤ 1048576 := by have := l5G_ok cd (nwC cd); omega
theorem mx1_rg (cd : List Int) : 1 ≤ mx1 (l5G cd (nwC cd)).1.z ∧ mx1 (l5G cd (nwC cd)).1.z ≤ 42 := by
  have hG := l5G_ok cd (nwC cd)
  unfold mx1; split <;> omega
theorem dPv_rg (cd : List Int) : -1 ≤ dPv cd ∧ dPv cd ≤ 42 := by
  have hm := mx1_rg cd
  have hb1 := beV_rg cd (l5G cd (nwC cd)).2 (n := mx1 (l5G cd (nwC cd)).1.z) (by omega)
  have hb2 := beV_rg cd (beS cd (l5G cd (nwC cd)).2 (mx1 (l5G cd (nwC cd)).1.z)) (n := 2) (by decide)
  unfold dPv; omega
theorem dPx_rg (cd : List Int) : 0 ≤ dPx cd ∧ dPx cd ≤ 42 := by
  have hm := mx1_rg cd
  have hb1 := beV_rg cd (beS cd (beS cd (l5G cd (nwC cd)).2 (mx1 (l5G cd (nwC cd)).1.z)) 2) (n := mx1 (l5G cd (nwC cd)).1.z) (by omega)
  unfold dPx; omega
theorem dPv_eq (cd : List Int) : beV cd (l5G cd (nwC cd)).2 (mx1 (l5G cd (nwC cd)).1.z) - beV cd (beS cd (l5G cd (nwC cd)).2 (mx1 (l5G cd (nwC cd)).1.z)) 2 = dPv cd := rfl
theorem dPx_eq (cd : List Int) : beV cd (beS cd (beS cd (l5G cd (nwC cd)).2 (mx1 (l5G cd (nwC cd)).1.z)) 2) (mx1 (l5G cd (nwC cd)).1.z) = dPx cd := rfl
attribute [go_sem] dPv_eq dPx_eq
attribute [local irreducible] beV beS byV byS nwC l5G l4A l4G dPv dPx mx1 foldO
def K_dIC_sat : Nat → List Nat := fun i => ([[0, 2], [2]] : List (List Nat)).getD i []
attribute [go_sem] K_dIC_sat
def dIC_sat_S : Eng.Spec := fun args av objs => ∃ (cd : List Int), (cd.length ≤ 1048576) ∧ args = [.one (.imm 1 (bys cd))] ∧ av = gT (l5G cd (nwC cd)).1 ∧ objs = [oE 53 (l5G cd (nwC cd)).1.es]
theorem dIC_sat : Sat Try.prog 19 dIC_sat_S := by
  refine sat_of tok okr mixed K_dIC_sat Try.func19 rfl (rs := [.cell 2 26]) rfl Try.ntmps19 ?_
  rintro args av objs ⟨cd, hpre, rfl, rfl, rfl⟩
  refine ⟨by show 1 ≤ 6; decide, ?_⟩
  repeat' (first|(refine ya ?_;first|(refine yb ?_;first|refine yq ?_|refine ym ?_)|refine ye ?_)|refine yz ?_|refine zst ?_|refine k_blk_other rfl ?_|(refine zk ?_ ?_<;>intro hc hr<;>try first|contradiction|exfalso;omega))
  all_goals first | (refine z_ret (hv := ?_) (ho := ?_) <;> first | rfl | (simp [go_sem, *]; done) | (simp_all; done) | (simp_all; omega)) | skip
instance : Con Try.prog 19 dIC_sat_S := con dIC_sat Try.func19
def K_dNV_sat : Nat → List Nat := fun i => ([[0, 2], [2, 5, 6, 7], [2, 3, 4]] : List (List Nat)).getD i []
attribute [go_sem] K_dNV_sat
def dNV_sat_S : Eng.Spec := fun args av objs => ∃ (cd : List Int), (cd.length ≤ 1048576) ∧ args = [.one (.imm 1 (bys cd))] ∧ av = .tup [gT (l5G cd (nwC cd)).1, aI (dPv cd), aI (dPx cd - 3)] ∧ objs = [oE 53 (l5G cd (nwC cd)).1.es]
theorem dNV_sat : Sat Try.prog 20 dNV_sat_S := by
  refine sat_of tok okr mixed K_dNV_sat Try.func20 rfl (rs := [.cell 2 26, .tmp 3, .tmp 4]) rfl Try.ntmps20 ?_
  rintro args av objs ⟨cd, hpre, rfl, rfl, rfl⟩
  refine ⟨by show 1 ≤ 18; decide, ?_⟩
  have hx := dPx_rg cd
  repeat' (first|(refine ya ?_;first|(refine yb ?_;first|refine yc ?_)|refine ye ?_)|refine yz ?_|refine zst ?_|refine k_blk_other rfl ?_|(refine zk ?_ ?_<;>intro hc hr<;>try first|contradiction|exfalso;omega))
  all_goals first | (refine z_ret (hv := ?_) (ho := ?_) <;> first | rfl | (simp [go_sem, *]; done) | (simp_all; done) | (simp_all; omega)) | skip
instance : Con Try.prog 20 dNV_sat_S := con dNV_sat Try.func20
def K_dRF_sat : Nat → List Nat := fun i => ([[0, 2], [2, 4, 5], [2, 3]] : List (List Nat)).getD i []
attribute [go_sem] K_dRF_sat
def dRF_sat_S : Eng.Spec := fun args av objs => ∃ (cd : List Int), (cd.length ≤ 1048576) ∧ args = [.one (.imm 1 (bys cd))] ∧ av = .tup [gT (l5G cd (nwC cd)).1, aI (dPv cd)] ∧ objs = [oE 53 (l5G cd (nwC cd)).1.es]
theorem dRF_sat : Sat Try.prog 18 dRF_sat_S := by
  refine sat_of tok okr mixed K_dRF_sat Try.func18 rfl (rs := [.cell 2 26, .tmp 3]) rfl Try.ntmps18 ?_
  rintro args av objs ⟨cd, hpre, rfl, rfl, rfl⟩
  refine ⟨by show 1 ≤ 15; decide, ?_⟩
  repeat' (first|(refine ya ?_;first|(refine yb ?_;first|refine yc ?_)|refine ye ?_)|refine yz ?_|refine zst ?_|refine k_blk_other rfl ?_|(refine zk ?_ ?_<;>intro hc hr<;>try first|contradiction|exfalso;omega))
  all_goals first | (refine z_ret (hv := ?_) (ho := ?_) <;> first | rfl | (simp [go_sem, *]; done) | (simp_all; done) | (simp_all; omega)) | skip
instance : Con Try.prog 18 dRF_sat_S := con dRF_sat Try.func18
def K_dPW_sat : Nat → List Nat := fun i => ([[0, 2], [2, 5, 6, 7], [2, 3, 4]] : List (List Nat)).getD i []
attribute [go_sem] K_dPW_sat
def dPW_sat_S : Eng.Spec := fun args av objs => ∃ (cd : List Int), (cd.length ≤ 1048576) ∧ args = [.one (.imm 1 (bys cd))] ∧ av = .tup [gT (l5G cd (nwC cd)).1, aI (dPv cd), aI (dPx cd)] ∧ objs = [oE 53 (l5G cd (nwC cd)).1.es]
theorem dPW_sat : Sat Try.prog 13 dPW_sat_S := by
  refine sat_of tok okr mixed K_dPW_sat Try.func13 rfl (rs := [.cell 2 26, .tmp 3, .tmp 4]) rfl Try.ntmps13 ?_
  rintro args av objs ⟨cd, hpre, rfl, rfl, rfl⟩
  refine ⟨by show 1 ≤ 17; decide, ?_⟩
  repeat' (first|(refine ya ?_;first|(refine yb ?_;first|refine yc ?_)|refine ye ?_)|refine yz ?_|refine zst ?_|refine k_blk_other rfl ?_|(refine zk ?_ ?_<;>intro hc hr<;>try first|contradiction|exfalso;omega))
  all_goals first | (refine z_ret (hv := ?_) (ho := ?_) <;> first | rfl | (simp [go_sem, *]; done) | (simp_all; done) | (simp_all; omega)) | skip
def dPm (cd : List Int) : Int := (dPx cd).tmod 6 - (cd.length : Int).tmod 2
theorem dPm_rg (cd : List Int) : -1 ≤ dPm cd ∧ dPm cd ≤ 5 := by
  have hx := dPx_rg cd
  unfold dPm
  rw [Int.tmod_eq_emod_of_nonneg hx.1, Int.tmod_eq_emod_of_nonneg (by omega)]
  omega
instance : Con Try.prog 13 dPW_sat_S := con dPW_sat Try.func13
def K_dLW_sat : Nat → List Nat := fun i => ([[0, 2], [0, 2, 5, 6, 7], [2, 3, 4]] : List (List Nat)).getD i []
attribute [go_sem] K_dLW_sat
def dLW_sat_S : Eng.Spec := fun args av objs => ∃ (cd : List Int), (cd.length ≤ 1048576) ∧ args = [.one (.imm 1 (bys cd))] ∧ av = .tup [gT (l5G cd (nwC cd)).1, aI (dPv cd), aI (dPm cd)] ∧ objs = [oE 53 (l5G cd (nwC cd)).1.es]
theorem dLW_sat : Sat Try.prog 21 dLW_sat_S := by
  refine sat_of tok okr mixed K_dLW_sat Try.func21 rfl (rs := [.cell 2 26, .tmp 3, .tmp 4]) rfl Try.ntmps21 ?_
  rintro args av objs ⟨cd, hpre, rfl, rfl, rfl⟩
  refine ⟨by show 1 ≤ 22; decide, ?_⟩
  have hx := dPx_rg cd
  have h1 : 0 ≤ (dPx cd).tmod 6 ∧ (dPx cd).tmod 6 ≤ 5 := by rw [Int.tmod_eq_emod_of_nonneg hx.1]; omega
  have h2 : 0 ≤ (cd.length : Int).tmod 2 ∧ (cd.length : Int).tmod 2 ≤ 1 := by rw [Int.tmod_eq_emod_of_nonneg (by omega)]; omega
  repeat' (first|(refine ya ?_;first|(refine yb ?_;first|refine yc ?_)|refine ye ?_)|refine yz ?_|refine zst ?_|refine k_blk_other rfl ?_|(refine zk ?_ ?_<;>intro hc hr<;>try first|contradiction|exfalso;omega))
  all_goals first | (refine z_ret (hv := ?_) (ho := ?_) <;> first | rfl | (simp [go_sem, dPm, *]; done) | (simp_all [dPm]; done) | (simp_all [dPm]; omega)) | skip
/-! ### A graph, a vertex and a word -/
def mn4 (r : Int) : Int := if 1 < (if 3 < r then 3 else r) then (if 3 < r then 3 else r) else 1
theorem mn4_ok (r : Int) : 1 ≤ mn4 r ∧ mn4 r ≤ 3 := by unfold mn4; split <;> (try split) <;> omega
def mz1 (z : Int) : Int := if z < 1 then 1 else z
def dWc (cd : List Int) : Cu := beS cd (l5G cd (nwC cd)).2 (mz1 (l5G cd (nwC cd)).1.z)
def dWv (cd : List Int) : Int := beV cd (l5G cd (nwC cd)).2 (mz1 (l5G cd (nwC cd)).1.z) - beV cd (dWc cd) 2 * beV cd (beS cd (dWc cd) 2) 2
def dWw (cd : List Int) : List Int := (l2W cd (mn4 (l5G cd (nwC cd)).1.r) 6 (beS cd (beS cd (dWc cd) 2) 2)).1
theorem dWw_ok (cd : List Int) : (dWw cd).length ≤ 6 ∧ smallW (dWw cd) := by
  have hm := mn4_ok (l5G cd (nwC cd)).1.r
  obtain ⟨h1, h2, _⟩ := l2W_ok cd (m := 6) (beS cd (beS cd (dWc cd) 2) 2) hm.1 (by omega)
  exact ⟨by unfold dWw; omega, fun x hx => by have := h2 x hx; omega⟩
theorem bit_mul {a b : Int} (ha : 0 ≤ a ∧ a < 2) (hb : 0 ≤ b ∧ b < 2) : 0 ≤ a * b ∧ a * b ≤ 1 := by
  have h1 : a = 0 ∨ a = 1 := by omega
  rcases h1 with rfl | rfl
  · simp
  · simp; omega
theorem dWv_rg (cd : List Int) : -1 ≤ dWv cd ∧ dWv cd ≤ 41 := by
  have hG := l5G_ok cd (nwC cd)
  have hm : 1 ≤ mz1 (l5G cd (nwC cd)).1.z ∧ mz1 (l5G cd (nwC cd)).1.z ≤ 41 := by unfold mz1; split <;> omega
  have hb1 := beV_rg cd (l5G cd (nwC cd)).2 (n := mz1 (l5G cd (nwC cd)).1.z) (by omega)
  have hb2 := bit_mul (beV_rg cd (dWc cd) (n := 2) (by decide)) (beV_rg cd (beS cd (dWc cd) 2) (n := 2) (by decide))
  unfold dWv; omega
instance : Con Try.prog 21 dLW_sat_S := con dLW_sat Try.func21
def K_l5K_sat : Nat → List Nat := fun i => ([[0, 2], [2, 5], [2, 5, 6], [2, 5, 6, 7], [2, 3, 4]] : List (List Nat)).getD i []
attribute [go_sem] K_l5K_sat
def l5K_sat_S : Eng.Spec := fun args av objs => ∃ (cd : List Int), (cd.length ≤ 1048576) ∧ args = [.one (.imm 1 (bys cd))] ∧ av = .tup [gT (l5G cd (nwC cd)).1, aI (dWv cd), .one (.ref 1)] ∧ objs = [oE 53 (l5G cd (nwC cd)).1.es, oL 3 (dWw cd)]
theorem l5K_sat : Sat Try.prog 31 l5K_sat_S := by
  refine sat_of tok okr mixed K_l5K_sat Try.func31 rfl (rs := [.cell 2 26, .tmp 3, .tmp 4]) rfl Try.ntmps31 ?_
  rintro args av objs ⟨cd, hpre, rfl, rfl, rfl⟩
  refine ⟨by show 1 ≤ 31; decide, ?_⟩
  have hG := l5G_ok cd (nwC cd)
  have hn := mn4_ok (l5G cd (nwC cd)).1.r
  have hm : 1 ≤ mz1 (l5G cd (nwC cd)).1.z ∧ mz1 (l5G cd (nwC cd)).1.z ≤ 41 := by unfold mz1; split <;> omega
  have hb1 := beV_rg cd (l5G cd (nwC cd)).2 (n := mz1 (l5G cd (nwC cd)).1.z) (by omega)
  have hb2 := bit_mul (beV_rg cd (dWc cd) (n := 2) (by decide)) (beV_rg cd (beS cd (dWc cd) 2) (n := 2) (by decide))
  unfold dWv dWw
  unfold dWc at *
  unfold mz1 mn4 at *
  repeat' (first|(refine ya ?_;first|(refine yb ?_;first|refine yq ?_|refine ym ?_)|refine ye ?_)|refine yz ?_|(refine yA ?_;first|(refine yB ?_;first|refine yQ ?_|refine yM ?_)|refine yE ?_)|refine yZ ?_|refine zst ?_|refine k_blk_other rfl ?_|(refine zk ?_ ?_<;>intro hc hr<;>try first|contradiction|exfalso;omega))
  all_goals first | (refine z_ret (hv := ?_) (ho := ?_) <;> first | rfl | (simp [go_sem, *]; done) | (simp_all; done) | (simp_all; omega)) | skip
attribute [local irreducible] dWv dWw
instance : Con Try.prog 31 l5K_sat_S := con l5K_sat Try.func31
def K_dWW_sat : Nat → List Nat := fun i => ([[0, 2], [2, 5, 6, 7], [2, 3, 4]] : List (List Nat)).getD i []
attribute [go_sem] K_dWW_sat
def dWW_sat_S : Eng.Spec := fun args av objs => ∃ (cd : List Int), (cd.length ≤ 1048576) ∧ args = [.one (.imm 1 (bys cd))] ∧ av = .tup [gT (l5G cd (nwC cd)).1, aI (dWv cd), .one (.ref 1)] ∧ objs = [oE 53 (l5G cd (nwC cd)).1.es, oL 3 (dWw cd)]
theorem dWW_sat : Sat Try.prog 5 dWW_sat_S := by
  refine sat_of tok okr mixed K_dWW_sat Try.func5 rfl (rs := [.cell 2 26, .tmp 3, .tmp 4]) rfl Try.ntmps5 ?_
  rintro args av objs ⟨cd, hpre, rfl, rfl, rfl⟩
  refine ⟨by show 1 ≤ 17; decide, ?_⟩
  repeat' (first|(refine ya ?_;first|(refine yb ?_;first|refine yc ?_)|refine ye ?_)|refine yz ?_|refine zst ?_|refine k_blk_other rfl ?_|(refine zk ?_ ?_<;>intro hc hr<;>try first|contradiction|exfalso;omega))
  all_goals first | (refine z_ret (hv := ?_) (ho := ?_) <;> first | rfl | (simp [go_sem, *]; done) | (simp_all; done) | (simp_all; omega)) | skip
instance : Con Try.prog 5 dWW_sat_S := con dWW_sat Try.func5
end Go.Proofs.Try
