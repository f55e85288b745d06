import Derived.Test.YtfapjflogjblaaaGreatD19
import Derived.Test.YtfapjflogjblaaaGreatD20
set_option linter.unusedVariables false
set_option linter.unusedSimpArgs false
set_option linter.unnecessarySimpa false
/- The specification's draws: words of members, whole groups. -/
namespace Go.Proofs.Tryz
open Go Go.Eng
set_option linter.unnecessarySimpa false
set_option linter.unusedSimpArgs false
set_option maxHeartbeats 4000000
set_option maxRecDepth 20000
noncomputable def dCN (cd : List Int) (g : Gr) (c : Cu) : Nat → List (List Int) × Cu
  | 0 => ([], c)
  | i + 1 => ((dCN cd g c i).1 ++ [(l9W cd g (dCN cd g c i).2).1], (l9W cd g (dCN cd g c i).2).2)
theorem dCN_ok (cd : List Int) (g : Gr) (c : Cu) : ∀ i, (dCN cd g c i).1.length = i ∧ ∀ w ∈ (dCN cd g c i).1, w.length ≤ 10 ∧ smallW w
  | 0 => ⟨rfl, by simp [dCN]⟩
  | i + 1 => by
    obtain ⟨h1, h2⟩ := dCN_ok cd g c i
    refine ⟨by simp [dCN, h1], fun x hx => ?_⟩
    rcases List.mem_append.1 hx with hx | hx
    · exact h2 x hx
    · rw [List.mem_singleton] at hx; subst hx; exact l9W_ok cd g _
noncomputable def dCW (cd : List Int) : List (List Int) := (dCN cd (l9A cd (nwC cd)).1 (beS cd (l9A cd (nwC cd)).2 4) (beV cd (l9A cd (nwC cd)).2 4).toNat).1
theorem dCW_ok (cd : List Int) : (dCW cd).length ≤ 3 ∧ ∀ w ∈ dCW cd, w.length ≤ 10 ∧ smallW w := by
  have hb := beV_rg cd (l9A cd (nwC cd)).2 (n := 4) (by decide)
  obtain ⟨h1, h2⟩ := dCN_ok cd (l9A cd (nwC cd)).1 (beS cd (l9A cd (nwC cd)).2 4) (beV cd (l9A cd (nwC cd)).2 4).toNat
  exact ⟨by unfold dCW; rw [h1]; omega, h2⟩
noncomputable def dWh (cd : List Int) : Gr := if beV cd (nwC cd) 3 = 0 then ⟨1 + beV cd (beS cd (nwC cd) 3) 3, 1, wl (1 + beV cd (beS cd (nwC cd) 3) 3).toNat⟩ else (l9A cd (beS cd (nwC cd) 3)).1
theorem dWh_es (cd : List Int) : (dWh cd).es.length ≤ 1048576 := by
  have hb := beV_rg cd (beS cd (nwC cd) 3) (n := 3) (by decide)
  unfold dWh
  split
  · simp only [wl_len]; omega
  · exact l9A_es _ _
attribute [local irreducible] beV beS byV byS nwC l9A l9W
def K_dCA_sat : Nat → List Nat := fun i => ([[0, 2], [2, 4], [2, 4, 5], [2, 4, 5, 6], [2, 4, 5, 6, 7], [2, 4, 5, 6, 7, 17], [2, 4, 5, 6, 7], [2, 4, 5, 6, 7, 8], [2, 4, 5, 6, 7], [2, 3]] : List (List Nat)).getD i []
attribute [go_sem] K_dCA_sat
def dCA_sat_S : Eng.Spec := fun args av objs => ∃ (cd : List Int), (cd.length ≤ 1048576) ∧ args = [.one (.imm 1 (bys cd))] ∧ av = .tup [gT (l9A cd (nwC cd)).1, .one (.ref 1)] ∧ objs = [oE 65 (l9A cd (nwC cd)).1.es, .rows 35 3 (.own false) (osW (dCW cd))]
theorem dCA_sat : Sat Tryz.prog 41 dCA_sat_S := by
  refine sat_of tok okr mixed K_dCA_sat Tryz.func41 rfl (rs := [.cell 2 26, .tmp 3]) rfl Tryz.ntmps41 ?_
  rintro args av objs ⟨cd, hpre, rfl, rfl, rfl⟩
  refine ⟨by show 1 ≤ 29; decide, ?_⟩
  have hes := l9A_es cd (nwC cd)
  have hb := beV_rg cd (l9A cd (nwC cd)).2 (n := 4) (by decide)
  obtain ⟨k, hk⟩ : ∃ k : Nat, (k : Int) = beV cd (l9A cd (nwC cd)).2 4 := ⟨_, Int.toNat_of_nonneg hb.1⟩
  have hkn : (beV cd (l9A cd (nwC cd)).2 4).toNat = k := by omega
  have hk3 : k ≤ 3 := by omega
  unfold dCW
  rw [hkn]
  repeat' (first|(refine ya ?_;first|(refine yb ?_;first|refine yq ?_|refine ym ?_)|refine ye ?_)|refine yz ?_|refine zst ?_|refine k_blk_other rfl ?_|(refine zk ?_ ?_<;>intro hc hr<;>try first|contradiction|exfalso;omega))
  refine z_loop (fun i : Nat => [(7, aI ((k : Int) - i))]) (fun i : Nat => [.obj 6 (.rows 35 3 (.loc false) (osW (dCN cd (l9A cd (nwC cd)).1 (beS cd (l9A cd (nwC cd)).2 4) i).1)), .cell 4 1 (.sc (.int ((dCN cd (l9A cd (nwC cd)).1 (beS cd (l9A cd (nwC cd)).2 4) i).2.p : Int))), .cell 4 2 (.sc (.int (dCN cd (l9A cd (nwC cd)).1 (beS cd (l9A cd (nwC cd)).2 4) i).2.q))]) (fun i : Nat => i ≤ k) (fun i : Nat => k - i) (0) (h0 := ?_) (henv := ?_) (hobj := ?_) (h := ?_)
  · omega
  · simp [go_sem, AVm, CVm, lookS, dCN, hk, osW_nil]
  · simp [go_sem, OBm, CVm, lookS, All2, dCN, hk, osW_nil]
  intro i hi
  have hl := (dCN_ok cd (l9A cd (nwC cd)).1 (beS cd (l9A cd (nwC cd)).2 4) i).1
  have hn : dCN cd (l9A cd (nwC cd)).1 (beS cd (l9A cd (nwC cd)).2 4) (i + 1) = ((dCN cd (l9A cd (nwC cd)).1 (beS cd (l9A cd (nwC cd)).2 4) i).1 ++ [(l9W cd (l9A cd (nwC cd)).1 (dCN cd (l9A cd (nwC cd)).1 (beS cd (l9A cd (nwC cd)).2 4) i).2).1], (l9W cd (l9A cd (nwC cd)).1 (dCN cd (l9A cd (nwC cd)).1 (beS cd (l9A cd (nwC cd)).2 4) i).2).2) := rfl
  generalize hT : dCN cd (l9A cd (nwC cd)).1 (beS cd (l9A cd (nwC cd)).2 4) i = t at *
  obtain ⟨ws, c⟩ := t
  simp only at hl hn ⊢
  clear hb hk hkn
  rcases Nat.lt_or_ge i k with hlt | hge
  · repeat' (first|(refine ya ?_;first|(refine yb ?_;first|refine yq ?_|refine ym ?_)|refine ye ?_)|refine yz ?_|refine zst ?_|refine k_blk_other rfl ?_|(refine zk ?_ ?_<;>intro hc hr<;>try first|contradiction|exfalso;omega))
    (refine z_lop (i + 1) (hj := ?_) (hmu := ?_) (henv := ?_) (hobj := ?_); (· omega); (· first | omega | (simp only; omega)); (· first | (simp [go_sem, AVm, CVm, lookS, hn, osW_one, *]; done) | (simp [go_sem, AVm, CVm, lookS, hn, osW_one, *] <;> (repeat' split) <;> first | omega | (simp_all; done) | (exfalso; omega) | (simp_all; omega))); (· first | (simp [go_sem, OBm, CVm, All2, lookS, hn, osW_one, *]; done) | (simp [go_sem, OBm, CVm, All2, lookS, hn, osW_one, *] <;> (repeat' split) <;> first | omega | (simp_all; done) | (exfalso; omega) | (simp_all; omega))))
  · have hii : i = k := by omega
    subst hii
    rw [hT]
    clear hT hn
    repeat' (first|(refine ya ?_;first|(refine yb ?_;first|refine yq ?_|refine ym ?_)|refine ye ?_)|refine yz ?_|refine zst ?_|refine k_blk_other rfl ?_|(refine zk ?_ ?_<;>intro hc hr<;>try first|contradiction|exfalso;omega))
    refine z_retT 104 (hv := ?_) (ho := ?_) <;> rfl
instance : Con Tryz.prog 41 dCA_sat_S := con dCA_sat Tryz.func41
def K_dIW_sat : Nat → List Nat := fun i => ([[0, 2], [2, 3], [2, 3, 9], [2, 4], [2], [2]] : List (List Nat)).getD i []
attribute [go_sem] K_dIW_sat
def dIW_sat_S : Eng.Spec := fun args av objs => ∃ (cd : List Int), (cd.length ≤ 1048576) ∧ args = [.one (.imm 1 (bys cd))] ∧ av = gT (dWh cd) ∧ objs = [oE 65 (dWh cd).es]
theorem dIW_sat : Sat Tryz.prog 48 dIW_sat_S := by
  refine sat_of tok okr mixed K_dIW_sat Tryz.func48 rfl (rs := [.cell 2 26]) rfl Tryz.ntmps48 ?_
  rintro args av objs ⟨cd, hpre, rfl, rfl, rfl⟩
  refine ⟨by show 1 ≤ 20; decide, ?_⟩
  have hb := beV_rg cd (beS cd (nwC cd) 3) (n := 3) (by decide)
  unfold dWh
  by_cases k0 : beV cd (nwC cd) 3 = 0
  · rw [if_pos k0]
    repeat' (first|(refine ya ?_;first|(refine yb ?_;first|refine yc ?_|refine yq ?_|refine ym ?_)|refine ye ?_)|refine yz ?_|refine zst ?_|refine k_blk_other rfl ?_|(refine zk ?_ ?_<;>intro hc hr<;>try first|contradiction|exfalso;omega))
    all_goals first | (refine z_ret (hv := ?_) (ho := ?_) <;> first | rfl | (simp [go_sem, *]; done) | (simp_all; done) | (simp_all; omega)) | skip
  · rw [if_neg k0]
    repeat' (first|(refine ya ?_;first|(refine yb ?_;first|refine yc ?_|refine yq ?_|refine ym ?_)|refine ye ?_)|refine yz ?_|refine zst ?_|refine k_blk_other rfl ?_|(refine zk ?_ ?_<;>intro hc hr<;>try first|contradiction|exfalso;omega))
    all_goals first | (refine z_ret (hv := ?_) (ho := ?_) <;> first | rfl | (simp [go_sem, *]; done) | (simp_all; done) | (simp_all; omega)) | skip
instance : Con Tryz.prog 48 dIW_sat_S := con dIW_sat Tryz.func48
def K_dIT2_sat : Nat → List Nat := fun i => ([[0, 2], [2]] : List (List Nat)).getD i []
attribute [go_sem] K_dIT2_sat
def dIT2_sat_S : Eng.Spec := fun args av objs => ∃ (cd : List Int), (cd.length ≤ 1048576) ∧ args = [.one (.imm 1 (bys cd))] ∧ av = gT (l9A cd (nwC cd)).1 ∧ objs = [oE 65 (l9A cd (nwC cd)).1.es]
theorem dIT2_sat : Sat Tryz.prog 47 dIT2_sat_S := by
  refine sat_of tok okr mixed K_dIT2_sat Tryz.func47 rfl (rs := [.cell 2 26]) rfl Tryz.ntmps47 ?_
  rintro args av objs ⟨cd, hpre, rfl, rfl, rfl⟩
  refine ⟨by show 1 ≤ 6; decide, ?_⟩
  repeat' (first|(refine ya ?_;first|(refine yb ?_;first|refine yq ?_|refine ym ?_)|refine ye ?_)|refine yz ?_|refine zst ?_|refine k_blk_other rfl ?_|(refine zk ?_ ?_<;>intro hc hr<;>try first|contradiction|exfalso;omega))
  all_goals first | (refine z_ret (hv := ?_) (ho := ?_) <;> first | rfl | (simp [go_sem, *]; done) | (simp_all; done) | (simp_all; omega)) | skip
instance : Con Tryz.prog 47 dIT2_sat_S := con dIT2_sat Tryz.func47
def K_dTS_sat : Nat → List Nat := fun i => ([[0], [2]] : List (List Nat)).getD i []
attribute [go_sem] K_dTS_sat
def dTS_sat_S : Eng.Spec := fun args av objs => ∃ (cd : List Int), (cd.length ≤ 1048576) ∧ args = [.one (.imm 1 (bys cd))] ∧ av = aI (beV cd (nwC cd) 6 - 1) ∧ objs = []
theorem dTS_sat : Sat Tryz.prog 42 dTS_sat_S := by
  refine sat_of tok okr mixed K_dTS_sat Tryz.func42 rfl (rs := [.tmp 2]) rfl Tryz.ntmps42 ?_
  rintro args av objs ⟨cd, hpre, rfl, rfl, rfl⟩
  refine ⟨by show 1 ≤ 7; decide, ?_⟩
  have hb := beV_rg cd (nwC cd) (n := 6) (by decide)
  repeat' (first|(refine ya ?_;first|(refine yb ?_;first|refine yq ?_|refine ym ?_)|refine ye ?_)|refine yz ?_|refine zst ?_|refine k_blk_other rfl ?_|(refine zk ?_ ?_<;>intro hc hr<;>try first|contradiction|exfalso;omega))
  all_goals first | (refine z_ret (hv := ?_) (ho := ?_) <;> first | rfl | (simp [go_sem, *]; done) | (simp_all; done) | (simp_all; omega)) | skip
instance : Con Tryz.prog 42 dTS_sat_S := con dTS_sat Tryz.func42
end Go.Proofs.Tryz
