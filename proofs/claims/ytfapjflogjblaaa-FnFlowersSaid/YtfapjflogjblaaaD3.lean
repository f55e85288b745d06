import Derived.Test.YtfapjflogjblaaaD2
set_option linter.unusedVariables false
set_option linter.unusedSimpArgs false
set_option linter.unnecessarySimpa false
/- The specification's draws: graphs of any kind, folded graphs. -/
namespace Go.Proofs.Try
open Go Go.Eng
set_option linter.unnecessarySimpa false
set_option linter.unusedSimpArgs false
set_option maxHeartbeats 4000000
set_option maxRecDepth 20000
def l4A (cd : List Int) (cu : Cu) : Gr × Cu :=
  let g := (l4G cd cu).1; let c := (l4G cd cu).2; let k := beV cd c 14; let d := beS cd c 14
  if k = 0 then (⟨g.r, elI [[.int (-1)], [.int 0], [.int 1], [.int 41]] (beV cd d 4).toNat, g.es⟩, beS cd d 4)
  else if k = 1 then (⟨elI [[.int 0], [.int 1], [.int 4]] (beV cd d 3).toNat, g.z, g.es⟩, beS cd d 3)
  else if k = 2 then (⟨g.r, g.z, g.es ++ [(beV cd d 4, 1, 0)]⟩, beS cd d 4)
  else (g, d)
theorem pick4 {n : Int} (h : 0 ≤ n ∧ n < 4) : -1 ≤ elI [[.int (-1)], [.int 0], [.int 1], [.int 41]] n.toNat ∧ elI [[.int (-1)], [.int 0], [.int 1], [.int 41]] n.toNat ≤ 41 := by
  have : n.toNat = 0 ∨ n.toNat = 1 ∨ n.toNat = 2 ∨ n.toNat = 3 := by omega
  rcases this with h | h | h | h <;> rw [h] <;> decide
theorem l4A_ok (cd : List Int) (cu : Cu) : -1 ≤ (l4A cd cu).1.z ∧ (l4A cd cu).1.z ≤ 41 ∧ (l4A cd cu).1.es.length ≤ 241 := by
  have h := l4G_ok cd cu
  have h2 := pick4 (beV_rg cd (beS cd (l4G cd cu).2 14) (n := 4) (by decide))
  unfold l4A
  simp only
  split
  · exact ⟨h2.1, h2.2, by show (l4G cd cu).1.es.length ≤ 241; omega⟩
  · split
    · exact ⟨by show -1 ≤ (l4G cd cu).1.z; omega, by show (l4G cd cu).1.z ≤ 41; omega, by show (l4G cd cu).1.es.length ≤ 241; omega⟩
    · split
      · refine ⟨by show -1 ≤ (l4G cd cu).1.z; omega, by show (l4G cd cu).1.z ≤ 41; omega, ?_⟩
        simp only [List.length_append, List.length_singleton]; omega
      · exact ⟨by show -1 ≤ (l4G cd cu).1.z; omega, by show (l4G cd cu).1.z ≤ 41; omega, by show (l4G cd cu).1.es.length ≤ 241; omega⟩
def K_l4A_sat : Nat → List Nat := fun i => ([[0, 2], [0, 2, 3], [0, 2, 3, 7], [0, 2, 3, 7, 8], [2, 3], [0, 2, 3, 7, 14], [2, 3], [0, 2, 3, 20], [2, 3], [2]] : List (List Nat)).getD i []
attribute [go_sem] K_l4A_sat
def l4A_sat_S : SpecB := fun args bs i h av objs i' h' => ∃ (cd : List Int) (cu : Cu) , (cd.length ≤ 1048576) ∧ args = [aC] ∧ bs = bys cd ∧ i = (cu.p : Int) ∧ h = cu.q ∧ av = gT (l4A cd cu).1 ∧ objs = [oE 56 (l4A cd cu).1.es] ∧ i' = (((l4A cd cu).2).p : Int) ∧ h' = ((l4A cd cu).2).q
theorem l4A_sat : SatB Try.prog 41 83 l4A_sat_S := by
  refine satB_of tok okr mixed K_l4A_sat Try.func41 rfl (rs := [.cell 2 29]) rfl Try.ntmps41 ?_
  rintro args bs i h av objs i' h' ⟨cd, cu, hpre, rfl, rfl, rfl, rfl, rfl, rfl, rfl, rfl⟩
  refine ⟨by show 1 ≤ 31; decide, fun u S W pv => ?_⟩
  have hG := l4G_ok cd cu
  have hk := beV_rg cd (l4G cd cu).2 (n := 14) (by decide)
  unfold l4A
  simp only
  by_cases k0 : beV cd (l4G cd cu).2 14 = 0
  · rw [if_pos k0]
    repeat' (first|(refine ya ?_;first|(refine yb ?_;first|refine yq ?_)|refine ye ?_)|refine yz ?_|(refine yA ?_;first|(refine yB ?_;first|refine yQ ?_)|refine yE ?_)|refine yZ ?_|refine zst ?_|refine k_blk_other rfl ?_|(refine zk ?_ ?_<;>intro hc hr<;>try first|contradiction|exfalso;omega))
    all_goals first | (refine z_retB (hv := ?_) (ho := ?_) (hc := ?_) <;> first | rfl | (simp [go_sem, *]; done) | (simp_all; done) | (simp_all; omega)) | skip
  · rw [if_neg k0]
    by_cases k1 : beV cd (l4G cd cu).2 14 = 1
    · rw [if_pos k1]
      repeat' (first|(refine ya ?_;first|(refine yb ?_;first|refine yq ?_)|refine ye ?_)|refine yz ?_|(refine yA ?_;first|(refine yB ?_;first|refine yQ ?_)|refine yE ?_)|refine yZ ?_|refine zst ?_|refine k_blk_other rfl ?_|(refine zk ?_ ?_<;>intro hc hr<;>try first|contradiction|exfalso;omega))
      all_goals first | (refine z_retB (hv := ?_) (ho := ?_) (hc := ?_) <;> first | rfl | (simp [go_sem, *]; done) | (simp_all; done) | (simp_all; omega)) | skip
    · rw [if_neg k1]
      by_cases k2 : beV cd (l4G cd cu).2 14 = 2
      · rw [if_pos k2]
        repeat' (first|(refine ya ?_;first|(refine yb ?_;first|refine yq ?_)|refine ye ?_)|refine yz ?_|(refine yA ?_;first|(refine yB ?_;first|refine yQ ?_)|refine yE ?_)|refine yZ ?_|refine zst ?_|refine k_blk_other rfl ?_|(refine zk ?_ ?_<;>intro hc hr<;>try first|contradiction|exfalso;omega))
        all_goals first | (refine z_retB (hv := ?_) (ho := ?_) (hc := ?_) <;> first | rfl | (simp [go_sem, *]; done) | (simp_all; done) | (simp_all; omega)) | skip
      · rw [if_neg k2]
        repeat' (first|(refine ya ?_;first|(refine yb ?_;first|refine yq ?_)|refine ye ?_)|refine yz ?_|(refine yA ?_;first|(refine yB ?_;first|refine yQ ?_)|refine yE ?_)|refine yZ ?_|refine zst ?_|refine k_blk_other rfl ?_|(refine zk ?_ ?_<;>intro hc hr<;>try first|contradiction|exfalso;omega))
        all_goals first | (refine z_retB (hv := ?_) (ho := ?_) (hc := ?_) <;> first | rfl | (simp [go_sem, *]; done) | (simp_all; done) | (simp_all; omega)) | skip
def l5G (cd : List Int) (cu : Cu) : Gr × Cu :=
  if beV cd cu 4 = 0 then l4A cd (beS cd cu 4) else ((foldO [] (l4G cd (beS cd cu 4)).1).1, (l4G cd (beS cd cu 4)).2)
theorem fold_ok {g : Gr} (h1 : g.z ≤ 41) (h2 : g.es.length ≤ 241) : (foldO [] g).1.z ≤ 41 ∧ (foldO [] g).1.es.length ≤ 241 := by
  cases h : g.ok
  · rw [foldO_no h]; exact ⟨h1, h2⟩
  · have h3 := foldO_ok (cs := []) h
    have h4 := isG_z h3
    omega
theorem l5G_ok (cd : List Int) (cu : Cu) : (l5G cd cu).1.z ≤ 41 ∧ (l5G cd cu).1.es.length ≤ 241 := by
  unfold l5G
  split
  · have := l4A_ok cd (beS cd cu 4); omega
  · have := l4G_ok cd (beS cd cu 4)
    exact fold_ok (by omega) (by omega)
def mx1 (z : Int) : Int := (if z < 1 then 1 else z) + 1
def l4T (cd : List Int) (c : Cu) : Ed := (beV cd c 3, 1 + beV cd (beS cd c 3) 2, beV cd (beS cd (beS cd c 3) 2) 3)
def l4U (cd : List Int) (c : Cu) : Cu := beS cd (beS cd (beS cd c 3) 2) 3
def dLE (cd : List Int) (g : Gr) (c : Cu) : Ed := if 0 < g.es.length ∧ ¬ beV cd c 4 = 0 then ed g.es (beV cd (beS cd c 4) g.es.length).toNat else l4T cd (nwC cd)
instance : ConB Try.prog 41 83 l4A_sat_S := conB l4A_sat Try.func41
end Go.Proofs.Try
