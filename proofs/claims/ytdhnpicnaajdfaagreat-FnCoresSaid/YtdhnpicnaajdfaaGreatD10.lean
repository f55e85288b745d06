import Derived.Test.YtdhnpicnaajdfaaGreatD4
set_option linter.unusedVariables false
set_option linter.unusedSimpArgs false
set_option linter.unnecessarySimpa false
/- The specification's draws: graphs to fold. -/
namespace Go.Proofs.Tryz
open Go Go.Eng
set_option linter.unnecessarySimpa false
set_option linter.unusedSimpArgs false
set_option maxHeartbeats 4000000
set_option maxRecDepth 20000
def l7R (cd : List Int) (c : Cu) : Int := elI [[.int 1], [.int 2], [.int 2], [.int 2], [.int 3]] (beV cd c 5).toNat
def l7G (cd : List Int) (cu : Cu) : Gr × Cu :=
  if beV cd cu 5 = 0 then l4A cd (beS cd cu 5)
  else if beV cd cu 5 = 1 then l4G cd (beS cd cu 5)
  else (flG (l7R cd (beS cd cu 5)) (l6W cd (l7R cd (beS cd cu 5)) (beS cd (beS cd cu 5) 5)).1, (l6W cd (l7R cd (beS cd cu 5)) (beS cd (beS cd cu 5) 5)).2)
theorem l7R_ok (cd : List Int) (c : Cu) : 1 ≤ l7R cd c ∧ l7R cd c ≤ 3 := pick5 (beV_rg cd c (n := 5) (by decide))
theorem l7G_es (cd : List Int) (cu : Cu) : (l7G cd cu).1.es.length ≤ 1048576 := by
  unfold l7G
  split
  · have := l4A_ok cd (beS cd cu 5); omega
  · split
    · have := l4G_ok cd (beS cd cu 5); omega
    · exact flG_es _ _
def K_l7_sat : Nat → List Nat := fun i => ([[0, 2], [0, 2, 7], [0, 2, 7, 8], [2], [0, 2, 12], [2], [0, 2, 3], [2, 4], [2]] : List (List Nat)).getD i []
attribute [go_sem] K_l7_sat
def l7_sat_S : SpecB := fun args bs i h av objs i' h' => ∃ (cd : List Int) (cu : Cu) , (cd.length ≤ 1048576) ∧ args = [aC] ∧ bs = bys cd ∧ i = (cu.p : Int) ∧ h = cu.q ∧ av = gT (l7G cd cu).1 ∧ objs = [oE 42 (l7G cd cu).1.es] ∧ i' = (((l7G cd cu).2).p : Int) ∧ h' = ((l7G cd cu).2).q
theorem l7_sat : SatB Tryz.prog 83 99 l7_sat_S := by
  refine satB_of tok okr mixed K_l7_sat Tryz.func83 rfl (rs := [.cell 2 26]) rfl Tryz.ntmps83 ?_
  rintro args bs i h av objs i' h' ⟨cd, cu, hpre, rfl, rfl, rfl, rfl, rfl, rfl, rfl, rfl⟩
  refine ⟨by show 1 ≤ 28; decide, fun u S W pv => ?_⟩
  have hk := beV_rg cd cu (n := 5) (by decide)
  by_cases k0 : beV cd cu 5 = 0
  · have e : l7G cd cu = l4A cd (beS cd cu 5) := by unfold l7G; rw [if_pos k0]
    rw [e]
    repeat' (first|(refine ya ?_;first|(refine yb ?_;first|refine yc ?_|refine yq ?_)|refine ye ?_)|refine yz ?_|refine zst ?_|refine k_blk_other rfl ?_|(refine zk ?_ ?_<;>intro hc hr<;>try first|contradiction|exfalso;omega))
    all_goals first | (refine z_retB (hv := ?_) (ho := ?_) (hc := ?_) <;> first | rfl | (simp [go_sem, *]; done) | (simp_all; done) | (simp_all; omega)) | skip
  · by_cases k1 : beV cd cu 5 = 1
    · have e : l7G cd cu = l4G cd (beS cd cu 5) := by unfold l7G; rw [if_neg k0, if_pos k1]
      rw [e]
      repeat' (first|(refine ya ?_;first|(refine yb ?_;first|refine yc ?_|refine yq ?_)|refine ye ?_)|refine yz ?_|refine zst ?_|refine k_blk_other rfl ?_|(refine zk ?_ ?_<;>intro hc hr<;>try first|contradiction|exfalso;omega))
      all_goals first | (refine z_retB (hv := ?_) (ho := ?_) (hc := ?_) <;> first | rfl | (simp [go_sem, *]; done) | (simp_all; done) | (simp_all; omega)) | skip
    · have e : l7G cd cu = (flG (l7R cd (beS cd cu 5)) (l6W cd (l7R cd (beS cd cu 5)) (beS cd (beS cd cu 5) 5)).1, (l6W cd (l7R cd (beS cd cu 5)) (beS cd (beS cd cu 5) 5)).2) := by unfold l7G; rw [if_neg k0, if_neg k1]
      rw [e]
      have hr := l7R_ok cd (beS cd cu 5)
      have hw := l6W_ok cd (beS cd (beS cd cu 5) 5) hr
      have hw1 : (l6W cd (l7R cd (beS cd cu 5)) (beS cd (beS cd cu 5) 5)).1.length ≤ 1048576 := by omega
      have hw2 : ∀ w ∈ (l6W cd (l7R cd (beS cd cu 5)) (beS cd (beS cd cu 5) 5)).1, w.length ≤ 1048576 := fun w h => by have := hw.2.1 w h; omega
      have hw3 := hw.2.2
      clear hw e
      unfold l7R at *
      repeat' (first|(refine ya ?_;first|(refine yb ?_;first|refine yc ?_|refine yq ?_)|refine ye ?_)|refine yz ?_|refine zst ?_|refine k_blk_other rfl ?_|(refine zk ?_ ?_<;>intro hc hr<;>try first|contradiction|exfalso;omega))
      all_goals first | (refine z_retB (hv := ?_) (ho := ?_) (hc := ?_) <;> first | rfl | (simp [go_sem, *]; done) | (simp_all; done) | (simp_all; omega)) | skip
def dmK (cd : List Int) (c : Cu) : Int := beV cd c 4 - beV cd (beS cd c 4) 2 * beV cd (beS cd (beS cd c 4) 2) 2
def dmC (cd : List Int) (c : Cu) : Cu := beS cd (beS cd (beS cd c 4) 2) 2
theorem mul01 {a b : Int} (ha : 0 ≤ a ∧ a < 2) (hb : 0 ≤ b ∧ b < 2) : 0 ≤ a * b ∧ a * b ≤ 1 := by
  have h1 : a = 0 ∨ a = 1 := by omega
  rcases h1 with rfl | rfl <;> simp <;> omega
theorem dmK_rg (cd : List Int) (c : Cu) : -1 ≤ dmK cd c ∧ dmK cd c ≤ 3 := by
  have h1 := beV_rg cd c (n := 4) (by decide)
  have h2 := mul01 (beV_rg cd (beS cd c 4) (n := 2) (by decide)) (beV_rg cd (beS cd (beS cd c 4) 2) (n := 2) (by decide))
  unfold dmK; omega
def dRL (cd : List Int) : List Fd :=
  if beV cd (l7G cd (nwC cd)).2 3 = 0 then (foldO [] (l7G cd (nwC cd)).1).2 ++ [(0, beV cd (beS cd (l7G cd (nwC cd)).2 3) 3)] else (foldO [] (l7G cd (nwC cd)).1).2
theorem dRL_len (cd : List Int) : (dRL cd).length ≤ 41 := by
  have := foldO_len (cs := []) (g := (l7G cd (nwC cd)).1)
  unfold dRL
  split
  · rw [List.length_append, List.length_singleton]; omega
  · omega
def dFN (cd : List Int) (c : Cu) : Nat → List Int × Cu
  | 0 => ([], c)
  | i + 1 => ((dFN cd c i).1 ++ [beV cd (dFN cd c i).2 6 - 1], beS cd (dFN cd c i).2 6)
theorem dFN_len (cd : List Int) (c : Cu) : ∀ i, (dFN cd c i).1.length = i
  | 0 => rfl
  | i + 1 => by simp [dFN, dFN_len cd c i]
def dFL (cd : List Int) : List Int := (dFN cd (beS cd (l7G cd (nwC cd)).2 8) (beV cd (l7G cd (nwC cd)).2 8).toNat).1
theorem dFL_len (cd : List Int) : (dFL cd).length ≤ 7 := by
  have := beV_rg cd (l7G cd (nwC cd)).2 (n := 8) (by decide)
  unfold dFL; rw [dFN_len]; omega
instance : ConB Tryz.prog 83 99 l7_sat_S := conB l7_sat Tryz.func83
end Go.Proofs.Tryz
