import Derived.Test.YtdhnpicnaajdfaaGreatD10
import Derived.Test.YtdhnpicnaajdfaaGreatX
set_option linter.unusedVariables false
set_option linter.unusedSimpArgs false
set_option linter.unnecessarySimpa false
/- The specification's draws: orders of vertices, cores. -/
namespace Go.Proofs.Tryz
open Go Go.Eng
set_option linter.unnecessarySimpa false
set_option linter.unusedSimpArgs false
set_option maxHeartbeats 4000000
set_option maxRecDepth 20000
def dRN (cd : List Int) (c : Cu) : Nat → List Int × Cu
  | 0 => ([], c)
  | i + 1 => (if beV cd (dRN cd c i).2 4 = 0 then (dRN cd c i).1 else (dRN cd c i).1 ++ [(i : Int)], beS cd (dRN cd c i).2 4)
theorem dRN_len (cd : List Int) (c : Cu) : ∀ i, (dRN cd c i).1.length ≤ i
  | 0 => Nat.le_refl _
  | i + 1 => by
    have := dRN_len cd c i
    unfold dRN
    simp only
    split
    · omega
    · simp; omega
def dRz (z : Int) : Nat := (if z < 8 then z else 8).toNat
/-- The first one may go to the end. -/
def dRP (cd : List Int) (p : List Int × Cu) : List Int × Cu :=
  if 1 < p.1.length then (if beV cd p.2 2 = 0 then p.1.drop 1 ++ [ix p.1 0] else p.1, beS cd p.2 2) else p
theorem dRP_len (cd : List Int) (p : List Int × Cu) : (dRP cd p).1.length = p.1.length := by
  unfold dRP
  split
  · simp only
    split
    · simp; omega
    · rfl
  · rfl
def dRQ (cd : List Int) (p : List Int × Cu) : List Int := if beV cd p.2 10 = 0 then p.1 ++ [beV cd (beS cd p.2 10) 9 - 1] else p.1
def dRO (cd : List Int) : List Int := dRQ cd (dRP cd (dRN cd (l7G cd (nwC cd)).2 (dRz (l7G cd (nwC cd)).1.z)))
theorem dRO_len (cd : List Int) : (dRO cd).length ≤ 9 := by
  have h1 := dRN_len cd (l7G cd (nwC cd)).2 (dRz (l7G cd (nwC cd)).1.z)
  have h2 := dRP_len cd (dRN cd (l7G cd (nwC cd)).2 (dRz (l7G cd (nwC cd)).1.z))
  have h3 : dRz (l7G cd (nwC cd)).1.z ≤ 8 := by unfold dRz; split <;> omega
  unfold dRO dRQ
  split
  · simp; omega
  · omega
attribute [local irreducible] beV beS byV byS nwC l7G l5G coreG canG l4A l4G
def K_dTG_sat : Nat → List Nat := fun i => ([[0, 2], [2]] : List (List Nat)).getD i []
attribute [go_sem] K_dTG_sat
def dTG_sat_S : Eng.Spec := fun args av objs => ∃ (cd : List Int), (cd.length ≤ 1048576) ∧ args = [.one (.imm 1 (bys cd))] ∧ av = gT (l7G cd (nwC cd)).1 ∧ objs = [oE 42 (l7G cd (nwC cd)).1.es]
theorem dTG_sat : Sat Tryz.prog 39 dTG_sat_S := by
  refine sat_of tok okr mixed K_dTG_sat Tryz.func39 rfl (rs := [.cell 2 26]) rfl Tryz.ntmps39 ?_
  rintro args av objs ⟨cd, hpre, rfl, rfl, rfl⟩
  refine ⟨by show 1 ≤ 6; decide, ?_⟩
  repeat' (first|(refine ya ?_;first|(refine yb ?_;first|refine yq ?_|refine ym ?_)|refine ye ?_)|refine yz ?_|refine zst ?_|refine k_blk_other rfl ?_|(refine zk ?_ ?_<;>intro hc hr<;>try first|contradiction|exfalso;omega))
  all_goals first | (refine z_ret (hv := ?_) (ho := ?_) <;> first | rfl | (simp [go_sem, *]; done) | (simp_all; done) | (simp_all; omega)) | skip
instance : Con Tryz.prog 39 dTG_sat_S := con dTG_sat Tryz.func39
def K_dIT_sat : Nat → List Nat := fun i => ([[0, 2], [2]] : List (List Nat)).getD i []
attribute [go_sem] K_dIT_sat
def dIT_sat_S : Eng.Spec := fun args av objs => ∃ (cd : List Int), (cd.length ≤ 1048576) ∧ args = [.one (.imm 1 (bys cd))] ∧ av = gT (l7G cd (nwC cd)).1 ∧ objs = [oE 42 (l7G cd (nwC cd)).1.es]
theorem dIT_sat : Sat Tryz.prog 51 dIT_sat_S := by
  refine sat_of tok okr mixed K_dIT_sat Tryz.func51 rfl (rs := [.cell 2 26]) rfl Tryz.ntmps51 ?_
  rintro args av objs ⟨cd, hpre, rfl, rfl, rfl⟩
  refine ⟨by show 1 ≤ 6; decide, ?_⟩
  repeat' (first|(refine ya ?_;first|(refine yb ?_;first|refine yq ?_|refine ym ?_)|refine ye ?_)|refine yz ?_|refine zst ?_|refine k_blk_other rfl ?_|(refine zk ?_ ?_<;>intro hc hr<;>try first|contradiction|exfalso;omega))
  all_goals first | (refine z_ret (hv := ?_) (ho := ?_) <;> first | rfl | (simp [go_sem, *]; done) | (simp_all; done) | (simp_all; omega)) | skip
instance : Con Tryz.prog 51 dIT_sat_S := con dIT_sat Tryz.func51
def K_dCG_sat : Nat → List Nat := fun i => ([[0, 2], [2]] : List (List Nat)).getD i []
attribute [go_sem] K_dCG_sat
def dCG_sat_S : Eng.Spec := fun args av objs => ∃ (cd : List Int), (cd.length ≤ 1048576) ∧ args = [.one (.imm 1 (bys cd))] ∧ av = gT (l5G cd (nwC cd)).1 ∧ objs = [oE 42 (l5G cd (nwC cd)).1.es]
theorem dCG_sat : Sat Tryz.prog 49 dCG_sat_S := by
  refine sat_of tok okr mixed K_dCG_sat Tryz.func49 rfl (rs := [.cell 2 26]) rfl Tryz.ntmps49 ?_
  rintro args av objs ⟨cd, hpre, rfl, rfl, rfl⟩
  refine ⟨by show 1 ≤ 6; decide, ?_⟩
  repeat' (first|(refine ya ?_;first|(refine yb ?_;first|refine yq ?_|refine ym ?_)|refine ye ?_)|refine yz ?_|refine zst ?_|refine k_blk_other rfl ?_|(refine zk ?_ ?_<;>intro hc hr<;>try first|contradiction|exfalso;omega))
  all_goals first | (refine z_ret (hv := ?_) (ho := ?_) <;> first | rfl | (simp [go_sem, *]; done) | (simp_all; done) | (simp_all; omega)) | skip
noncomputable def dIC (cd : List Int) : Gr := if beV cd (l7G cd (nwC cd)).2 2 = 0 then coreG ⟨(l7G cd (nwC cd)).1.r, (l7G cd (nwC cd)).1.z, (l7G cd (nwC cd)).1.es⟩ else (l7G cd (nwC cd)).1
theorem dIC_es (cd : List Int) : (dIC cd).es.length ≤ 1048576 := by
  have hes := l7G_es cd (nwC cd)
  unfold dIC
  split
  · exact coreG_es (g := ⟨(l7G cd (nwC cd)).1.r, (l7G cd (nwC cd)).1.z, (l7G cd (nwC cd)).1.es⟩) hes (by omega)
  · exact hes
instance : Con Tryz.prog 49 dCG_sat_S := con dCG_sat Tryz.func49
def K_dIC_sat : Nat → List Nat := fun i => ([[0, 2], [2, 3], [2, 3, 4], [2, 4, 10], [2], [2]] : List (List Nat)).getD i []
attribute [go_sem] K_dIC_sat
def dIC_sat_S : Eng.Spec := fun args av objs => ∃ (cd : List Int), (cd.length ≤ 1048576) ∧ args = [.one (.imm 1 (bys cd))] ∧ av = gT (dIC cd) ∧ objs = [oE 42 (dIC cd).es]
theorem dIC_sat : Sat Tryz.prog 50 dIC_sat_S := by
  refine sat_of tok okr mixed K_dIC_sat Tryz.func50 rfl (rs := [.cell 2 26]) rfl Tryz.ntmps50 ?_
  rintro args av objs ⟨cd, hpre, rfl, rfl, rfl⟩
  refine ⟨by show 1 ≤ 14; decide, ?_⟩
  have hes := l7G_es cd (nwC cd)
  have hb := beV_rg cd (l7G cd (nwC cd)).2 (n := 2) (by decide)
  by_cases k0 : beV cd (l7G cd (nwC cd)).2 2 = 0
  · have e : dIC cd = coreG ⟨(l7G cd (nwC cd)).1.r, (l7G cd (nwC cd)).1.z, (l7G cd (nwC cd)).1.es⟩ := by unfold dIC; rw [if_pos k0]
    rw [e]
    repeat' (first|(refine ya ?_;first|(refine yb ?_;first|refine yc ?_|refine yq ?_|refine ym ?_)|refine ye ?_)|refine yz ?_|refine zst ?_|refine k_blk_other rfl ?_|(refine zk ?_ ?_<;>intro hc hr<;>try first|contradiction|exfalso;omega))
    all_goals first | (refine z_ret (hv := ?_) (ho := ?_) <;> first | rfl | (simp [go_sem, *]; done) | (simp_all; done) | (simp_all; omega)) | skip
  · have e : dIC cd = (l7G cd (nwC cd)).1 := by unfold dIC; rw [if_neg k0]
    rw [e]
    repeat' (first|(refine ya ?_;first|(refine yb ?_;first|refine yc ?_|refine yq ?_|refine ym ?_)|refine ye ?_)|refine yz ?_|refine zst ?_|refine k_blk_other rfl ?_|(refine zk ?_ ?_<;>intro hc hr<;>try first|contradiction|exfalso;omega))
    all_goals first | (refine z_ret (hv := ?_) (ho := ?_) <;> first | rfl | (simp [go_sem, *]; done) | (simp_all; done) | (simp_all; omega)) | skip
theorem tkTail (w : List Int) : List.take (w.length - 1) (ints w).tail = ints w.tail := by
  rw [List.take_of_length_le (by simp [ints])]
  simp [ints]
theorem iApp2 (l : List Int) (a b : Int) : ints l ++ [[Sc.int a], [Sc.int b]] = ints (l ++ [a, b]) := by simp [ints]
theorem iApp1 (l : List Int) (a : Int) : ints l ++ [[Sc.int a]] = ints (l ++ [a]) := by simp [ints]
theorem dRz_lt {z : Int} {i : Nat} (h : i < dRz z) : (i : Int) < z ∧ (i : Int) < 8 := by unfold dRz at h; split at h <;> omega
theorem dRz_ge {z : Int} {i : Nat} (h : dRz z ≤ i) : ¬ (i : Int) < z ∨ ¬ (i : Int) < 8 := by unfold dRz at h; split at h <;> omega
instance : Con Tryz.prog 50 dIC_sat_S := con dIC_sat Tryz.func50
def K_dRG_sat : Nat → List Nat := fun i => ([[0, 2], [2, 4], [2, 4, 5], [2, 4, 5, 6], [2, 4, 5, 6, 7], [2, 4, 5, 6, 7, 21], [2, 4, 5, 6, 7], [2, 4, 5, 6, 7, 26], [2, 4, 5, 6, 7], [2, 4, 5, 6, 37], [2, 4, 5, 6, 8], [2, 4, 5, 6], [2, 4, 5, 6, 49], [2, 5, 6], [2, 3]] : List (List Nat)).getD i []
attribute [go_sem] K_dRG_sat
def dRG_sat_S : Eng.Spec := fun args av objs => ∃ (cd : List Int), (cd.length ≤ 1048576) ∧ args = [.one (.imm 1 (bys cd))] ∧ av = .tup [gT (l7G cd (nwC cd)).1, .one (.ref 1)] ∧ objs = [oE 42 (l7G cd (nwC cd)).1.es, oL 3 (dRO cd)]
theorem dRG_sat : Sat Tryz.prog 46 dRG_sat_S := by
  refine sat_of tok okr mixed K_dRG_sat Tryz.func46 rfl (rs := [.cell 2 26, .tmp 3]) rfl Tryz.ntmps46 ?_
  rintro args av objs ⟨cd, hpre, rfl, rfl, rfl⟩
  refine ⟨by show 1 ≤ 58; decide, ?_⟩
  have hes := l7G_es cd (nwC cd)
  unfold dRO
  obtain ⟨m, hm⟩ : ∃ m, m = dRz (l7G cd (nwC cd)).1.z := ⟨_, rfl⟩
  rw [← hm]
  repeat' (first|(refine ya ?_;first|(refine yb ?_;first|refine yq ?_|refine ym ?_)|refine ye ?_)|(refine yg ?_;intro hgs;first|(replace hgs:=zgy hgs;first|(refine yb ?_;first|refine yq ?_|refine ym ?_)|refine yy hgs ?_;clear hgs)|(refine yn (zgn hgs) ?_;clear hgs)|((fail_if_success have:=zgy hgs);refine z_spl hgs (h1:=?_) (h2:=?_)<;>clear hgs<;>intro hg hr<;>try first|contradiction|exfalso;omega))|refine yz ?_|refine zst ?_|refine k_blk_other rfl ?_|(refine zk ?_ ?_<;>intro hc hr<;>try first|contradiction|exfalso;omega))
  refine z_loop (fun i : Nat => [(7, aI i)]) (fun i : Nat => [.obj 6 (oL 3 (dRN cd (l7G cd (nwC cd)).2 i).1), .cell 4 1 (.sc (.int ((dRN cd (l7G cd (nwC cd)).2 i).2.p : Int))), .cell 4 2 (.sc (.int (dRN cd (l7G cd (nwC cd)).2 i).2.q))]) (fun i : Nat => i ≤ m) (fun i : Nat => m - i) (0) (h0 := ?_) (henv := ?_) (hobj := ?_) (h := ?_)
  · omega
  · simp [go_sem, AVm, CVm, lookS, dRN]
  · simp [go_sem, OBm, CVm, lookS, All2, dRN]
  intro i hi
  have hl := dRN_len cd (l7G cd (nwC cd)).2 i
  have hm8 : m ≤ 8 := by rw [hm]; unfold dRz; split <;> omega
  have hn : dRN cd (l7G cd (nwC cd)).2 (i + 1) = (if beV cd (dRN cd (l7G cd (nwC cd)).2 i).2 4 = 0 then (dRN cd (l7G cd (nwC cd)).2 i).1 else (dRN cd (l7G cd (nwC cd)).2 i).1 ++ [(i : Int)], beS cd (dRN cd (l7G cd (nwC cd)).2 i).2 4) := rfl
  generalize hT : dRN cd (l7G cd (nwC cd)).2 i = t at *
  obtain ⟨w, c⟩ := t
  simp only at hl hn ⊢
  rcases Nat.lt_or_ge i m with hlt | hge
  · have hb := dRz_lt (hm ▸ hlt)
    clear hm
    by_cases k0 : beV cd c 4 = 0
    · rw [if_pos k0] at hn
      repeat' (first|(refine ya ?_;first|(refine yb ?_;first|refine yq ?_|refine ym ?_)|refine ye ?_)|(refine yg ?_;intro hgs;first|(replace hgs:=zgy hgs;first|(refine yb ?_;first|refine yq ?_|refine ym ?_)|refine yy hgs ?_;clear hgs)|(refine yn (zgn hgs) ?_;clear hgs)|((fail_if_success have:=zgy hgs);refine z_spl hgs (h1:=?_) (h2:=?_)<;>clear hgs<;>intro hg hr<;>try first|contradiction|exfalso;omega))|refine yz ?_|refine zst ?_|refine k_blk_other rfl ?_|(refine zk ?_ ?_<;>intro hc hr<;>try first|contradiction|exfalso;omega))
      (refine z_lop (i + 1) (hj := ?_) (hmu := ?_) (henv := ?_) (hobj := ?_); (· omega); (· first | omega | (simp only; omega)); (· first | (simp [go_sem, AVm, CVm, lookS, hn, *]; done) | (simp [go_sem, AVm, CVm, lookS, hn, *] <;> (repeat' split) <;> first | omega | (simp_all; done) | (exfalso; omega) | (simp_all; omega))); (· first | (simp [go_sem, OBm, CVm, All2, lookS, hn, *]; done) | (simp [go_sem, OBm, CVm, All2, lookS, hn, *] <;> (repeat' split) <;> first | omega | (simp_all; done) | (exfalso; omega) | (simp_all; omega))))
    · rw [if_neg k0] at hn
      repeat' (first|(refine ya ?_;first|(refine yb ?_;first|refine yq ?_|refine ym ?_)|refine ye ?_)|(refine yg ?_;intro hgs;first|(replace hgs:=zgy hgs;first|(refine yb ?_;first|refine yq ?_|refine ym ?_)|refine yy hgs ?_;clear hgs)|(refine yn (zgn hgs) ?_;clear hgs)|((fail_if_success have:=zgy hgs);refine z_spl hgs (h1:=?_) (h2:=?_)<;>clear hgs<;>intro hg hr<;>try first|contradiction|exfalso;omega))|refine yz ?_|refine zst ?_|refine k_blk_other rfl ?_|(refine zk ?_ ?_<;>intro hc hr<;>try first|contradiction|exfalso;omega))
      (refine z_lop (i + 1) (hj := ?_) (hmu := ?_) (henv := ?_) (hobj := ?_); (· omega); (· first | omega | (simp only; omega)); (· first | (simp [go_sem, AVm, CVm, lookS, hn, *]; done) | (simp [go_sem, AVm, CVm, lookS, hn, *] <;> (repeat' split) <;> first | omega | (simp_all; done) | (exfalso; omega) | (simp_all; omega))); (· first | (simp [go_sem, OBm, CVm, All2, lookS, hn, *]; done) | (simp [go_sem, OBm, CVm, All2, lookS, hn, *] <;> (repeat' split) <;> first | omega | (simp_all; done) | (exfalso; omega) | (simp_all; omega))))
  · have hb := dRz_ge (hm ▸ hge)
    have hii : i = m := by omega
    subst hii
    rw [hT]
    clear hm hT hn
    unfold dRP
    simp only
    by_cases k1 : 1 < w.length
    · rw [if_pos k1]
      by_cases k2 : beV cd c 2 = 0
      · rw [if_pos k2]
        unfold dRQ
        simp only
        have h9 := beV_rg cd (beS cd (beS cd c 2) 10) (n := 9) (by decide)
        by_cases k3 : beV cd (beS cd c 2) 10 = 0
        · rw [if_pos k3]
          repeat' (first|(refine ya ?_;first|(refine yb ?_;first|refine yq ?_|refine ym ?_)|refine ye ?_)|(refine yg ?_;intro hgs;first|(replace hgs:=zgy hgs;first|(refine yb ?_;first|refine yq ?_|refine ym ?_)|refine yy hgs ?_;clear hgs)|(refine yn (zgn hgs) ?_;clear hgs)|((fail_if_success have:=zgy hgs);refine z_spl hgs (h1:=?_) (h2:=?_)<;>clear hgs<;>intro hg hr<;>try first|contradiction|exfalso;omega))|refine yz ?_|refine zst ?_|refine k_blk_other rfl ?_|(refine zk ?_ ?_<;>intro hc hr<;>try first|contradiction|exfalso;omega))
          all_goals first | (refine z_ret (hv := ?_) (ho := ?_) <;> first | rfl | (simp [go_sem, tkTail, iApp2, iApp1, *]; done) | (simp_all [tkTail, iApp2, iApp1]; done) | (simp_all [tkTail, iApp2, iApp1]; omega)) | skip
        · rw [if_neg k3]
          repeat' (first|(refine ya ?_;first|(refine yb ?_;first|refine yq ?_|refine ym ?_)|refine ye ?_)|(refine yg ?_;intro hgs;first|(replace hgs:=zgy hgs;first|(refine yb ?_;first|refine yq ?_|refine ym ?_)|refine yy hgs ?_;clear hgs)|(refine yn (zgn hgs) ?_;clear hgs)|((fail_if_success have:=zgy hgs);refine z_spl hgs (h1:=?_) (h2:=?_)<;>clear hgs<;>intro hg hr<;>try first|contradiction|exfalso;omega))|refine yz ?_|refine zst ?_|refine k_blk_other rfl ?_|(refine zk ?_ ?_<;>intro hc hr<;>try first|contradiction|exfalso;omega))
          all_goals first | (refine z_ret (hv := ?_) (ho := ?_) <;> first | rfl | (simp [go_sem, tkTail, iApp2, iApp1, *]; done) | (simp_all [tkTail, iApp2, iApp1]; done) | (simp_all [tkTail, iApp2, iApp1]; omega)) | skip
      · rw [if_neg k2]
        unfold dRQ
        simp only
        have h9 := beV_rg cd (beS cd (beS cd c 2) 10) (n := 9) (by decide)
        by_cases k3 : beV cd (beS cd c 2) 10 = 0
        · rw [if_pos k3]
          repeat' (first|(refine ya ?_;first|(refine yb ?_;first|refine yq ?_|refine ym ?_)|refine ye ?_)|(refine yg ?_;intro hgs;first|(replace hgs:=zgy hgs;first|(refine yb ?_;first|refine yq ?_|refine ym ?_)|refine yy hgs ?_;clear hgs)|(refine yn (zgn hgs) ?_;clear hgs)|((fail_if_success have:=zgy hgs);refine z_spl hgs (h1:=?_) (h2:=?_)<;>clear hgs<;>intro hg hr<;>try first|contradiction|exfalso;omega))|refine yz ?_|refine zst ?_|refine k_blk_other rfl ?_|(refine zk ?_ ?_<;>intro hc hr<;>try first|contradiction|exfalso;omega))
          all_goals first | (refine z_ret (hv := ?_) (ho := ?_) <;> first | rfl | (simp [go_sem, tkTail, iApp2, iApp1, *]; done) | (simp_all [tkTail, iApp2, iApp1]; done) | (simp_all [tkTail, iApp2, iApp1]; omega)) | skip
        · rw [if_neg k3]
          repeat' (first|(refine ya ?_;first|(refine yb ?_;first|refine yq ?_|refine ym ?_)|refine ye ?_)|(refine yg ?_;intro hgs;first|(replace hgs:=zgy hgs;first|(refine yb ?_;first|refine yq ?_|refine ym ?_)|refine yy hgs ?_;clear hgs)|(refine yn (zgn hgs) ?_;clear hgs)|((fail_if_success have:=zgy hgs);refine z_spl hgs (h1:=?_) (h2:=?_)<;>clear hgs<;>intro hg hr<;>try first|contradiction|exfalso;omega))|refine yz ?_|refine zst ?_|refine k_blk_other rfl ?_|(refine zk ?_ ?_<;>intro hc hr<;>try first|contradiction|exfalso;omega))
          all_goals first | (refine z_ret (hv := ?_) (ho := ?_) <;> first | rfl | (simp [go_sem, tkTail, iApp2, iApp1, *]; done) | (simp_all [tkTail, iApp2, iApp1]; done) | (simp_all [tkTail, iApp2, iApp1]; omega)) | skip
    · rw [if_neg k1]
      unfold dRQ
      simp only
      have h9 := beV_rg cd (beS cd c 10) (n := 9) (by decide)
      by_cases k3 : beV cd c 10 = 0
      · rw [if_pos k3]
        repeat' (first|(refine ya ?_;first|(refine yb ?_;first|refine yq ?_|refine ym ?_)|refine ye ?_)|(refine yg ?_;intro hgs;first|(replace hgs:=zgy hgs;first|(refine yb ?_;first|refine yq ?_|refine ym ?_)|refine yy hgs ?_;clear hgs)|(refine yn (zgn hgs) ?_;clear hgs)|((fail_if_success have:=zgy hgs);refine z_spl hgs (h1:=?_) (h2:=?_)<;>clear hgs<;>intro hg hr<;>try first|contradiction|exfalso;omega))|refine yz ?_|refine zst ?_|refine k_blk_other rfl ?_|(refine zk ?_ ?_<;>intro hc hr<;>try first|contradiction|exfalso;omega))
        all_goals first | (refine z_ret (hv := ?_) (ho := ?_) <;> first | rfl | (simp [go_sem, *]; done) | (simp_all; done) | (simp_all; omega)) | skip
      · rw [if_neg k3]
        repeat' (first|(refine ya ?_;first|(refine yb ?_;first|refine yq ?_|refine ym ?_)|refine ye ?_)|(refine yg ?_;intro hgs;first|(replace hgs:=zgy hgs;first|(refine yb ?_;first|refine yq ?_|refine ym ?_)|refine yy hgs ?_;clear hgs)|(refine yn (zgn hgs) ?_;clear hgs)|((fail_if_success have:=zgy hgs);refine z_spl hgs (h1:=?_) (h2:=?_)<;>clear hgs<;>intro hg hr<;>try first|contradiction|exfalso;omega))|refine yz ?_|refine zst ?_|refine k_blk_other rfl ?_|(refine zk ?_ ?_<;>intro hc hr<;>try first|contradiction|exfalso;omega))
        all_goals first | (refine z_ret (hv := ?_) (ho := ?_) <;> first | rfl | (simp [go_sem, *]; done) | (simp_all; done) | (simp_all; omega)) | skip
instance : Con Tryz.prog 46 dRG_sat_S := con dRG_sat Tryz.func46
end Go.Proofs.Tryz
