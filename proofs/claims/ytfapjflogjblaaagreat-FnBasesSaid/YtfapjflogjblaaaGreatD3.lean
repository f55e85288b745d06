import Derived.Test.YtfapjflogjblaaaGreatD2
set_option maxHeartbeats 16000000
set_option maxRecDepth 20000
set_option linter.unusedVariables false
set_option linter.unusedSimpArgs false
set_option linter.unnecessarySimpa false
namespace Go.Proofs.Tryz
open Go Go.Eng
def l4A (cd : List Int) (cu : Cu) : Gr × Cu :=
  let g := (l4G cd cu).1; let c := (l4G cd cu).2; let k := beV cd c 14; let d := beS cd c 14
  if k = 0 then (⟨g.r, elI [[.int (-1)], [.int 0], [.int 1], [.int 41]] (beV cd d 4).toNat, g.es⟩, beS cd d 4)
  else if k = 1 then (⟨elI [[.int 0], [.int 1], [.int 4]] (beV cd d 3).toNat, g.z, g.es⟩, beS cd d 3)
  else if k = 2 then (⟨g.r, g.z, g.es ++ [(beV cd d 4, 1, 0)]⟩, beS cd d 4)
  else (g, d)
theorem pick4 {n : Int} (h : 0 ≤ n ∧ n < 4) : -1 ≤ elI [[.int (-1)], [.int 0], [.int 1], [.int 41]] n.toNat ∧ elI [[.int (-1)], [.int 0], [.int 1], [.int 41]] n.toNat ≤ 41 := by
  have : n.toNat = 0 ∨ n.toNat = 1 ∨ n.toNat = 2 ∨ n.toNat = 3 := by omega
  rcases this with h | h | h | h <;> rw [h] <;> decide
theorem l4A_ok (cd : List Int) (cu : Cu) : -1 ≤ (l4A cd cu).1.z ∧ (l4A cd cu).1.z ≤ 41 ∧ (l4A cd cu).1.es.length ≤ 241 := by
  have h := l4G_ok cd cu
  have h2 := pick4 (beV_rg cd (beS cd (l4G cd cu).2 14) (n := 4) (by decide))
  unfold l4A
  simp only
  split
  · exact ⟨h2.1, h2.2, by show (l4G cd cu).1.es.length ≤ 241; omega⟩
  · split
    · exact ⟨by show -1 ≤ (l4G cd cu).1.z; omega, by show (l4G cd cu).1.z ≤ 41; omega, by show (l4G cd cu).1.es.length ≤ 241; omega⟩
    · split
      · refine ⟨by show -1 ≤ (l4G cd cu).1.z; omega, by show (l4G cd cu).1.z ≤ 41; omega, ?_⟩
        simp only [List.length_append, List.length_singleton]; omega
      · exact ⟨by show -1 ≤ (l4G cd cu).1.z; omega, by show (l4G cd cu).1.z ≤ 41; omega, by show (l4G cd cu).1.es.length ≤ 241; omega⟩
@[go_sem] def K_l4A_sat (i : Nat) : List Nat := ([[0,2],[0,2,3],[0,2,3,7],[0,2,3,7,8],[2,3],[0,2,3,7,14],[2,3],[0,2,3,20],[2,3],[2]]).getD i []

def l4A_sat_S : SpecB := fun args bs i h av objs i' h' => ∃ (cd : List Int) (cu : Cu) , (cd.length ≤ 1048576) ∧ args = [aC] ∧ bs = bys cd ∧ i = (cu.p : Int) ∧ h = cu.q ∧ av = gT (l4A cd cu).1 ∧ objs = [oE 65 (l4A cd cu).1.es] ∧ i' = (((l4A cd cu).2).p : Int) ∧ h' = ((l4A cd cu).2).q
theorem l4A_sat : SatB Tryz.prog 94 89 l4A_sat_S := by
  refine satB_of tok okr mixed K_l4A_sat Tryz.func94 rfl (rs := [.cell 2 26]) rfl Tryz.ntmps94 ?_
  rintro args bs i h av objs i' h' ⟨cd, cu, hpre, rfl, rfl, rfl, rfl, rfl, rfl, rfl, rfl⟩
  refine ⟨by show 1 ≤ 31; decide, fun u S W pv => ?_⟩
  have hG := l4G_ok cd cu
  have hk := beV_rg cd (l4G cd cu).2 (n := 14) (by decide)
  unfold l4A
  simp only
  by_cases k0 : beV cd (l4G cd cu).2 14 = 0
  · rw [if_pos k0]
    repeat' (first|(refine ya ?_;first|(refine yb ?_;first|refine yq ?_)|refine ye ?_)|refine yz ?_|(refine yA ?_;first|(refine yB ?_;first|refine yQ ?_)|refine yE ?_)|refine yZ ?_|refine zst ?_|refine zo ?_|(refine zk ?_ ?_<;>intro hc hr<;>try exact zx))
    all_goals try exact zb
  · rw [if_neg k0]
    by_cases k1 : beV cd (l4G cd cu).2 14 = 1
    · rw [if_pos k1]
      repeat' (first|(refine ya ?_;first|(refine yb ?_;first|refine yq ?_)|refine ye ?_)|refine yz ?_|(refine yA ?_;first|(refine yB ?_;first|refine yQ ?_)|refine yE ?_)|refine yZ ?_|refine zst ?_|refine zo ?_|(refine zk ?_ ?_<;>intro hc hr<;>try exact zx))
      all_goals try exact zb
    · rw [if_neg k1]
      by_cases k2 : beV cd (l4G cd cu).2 14 = 2
      · rw [if_pos k2]
        repeat' (first|(refine ya ?_;first|(refine yb ?_;first|refine yq ?_)|refine ye ?_)|refine yz ?_|(refine yA ?_;first|(refine yB ?_;first|refine yQ ?_)|refine yE ?_)|refine yZ ?_|refine zst ?_|refine zo ?_|(refine zk ?_ ?_<;>intro hc hr<;>try exact zx))
        all_goals try exact zb
      · rw [if_neg k2]
        repeat' (first|(refine ya ?_;first|(refine yb ?_;first|refine yq ?_)|refine ye ?_)|refine yz ?_|(refine yA ?_;first|(refine yB ?_;first|refine yQ ?_)|refine yE ?_)|refine yZ ?_|refine zst ?_|refine zo ?_|(refine zk ?_ ?_<;>intro hc hr<;>try exact zx))
        all_goals try exact zb
instance : ConB Tryz.prog 94 89 l4A_sat_S := conB l4A_sat Tryz.func94
end Go.Proofs.Tryz
