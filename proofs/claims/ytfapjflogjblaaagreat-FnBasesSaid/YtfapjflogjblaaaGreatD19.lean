import Derived.Test.YtfapjflogjblaaaGreatD17
import Derived.Test.YtfapjflogjblaaaGreatD18
import Derived.Test.YtfapjflogjblaaaGreatX6
import Derived.Test.YtfapjflogjblaaaGreatX
import Derived.Test.YtfapjflogjblaaaGreatW
set_option maxHeartbeats 16000000
set_option maxRecDepth 20000
set_option linter.unusedVariables false
set_option linter.unusedSimpArgs false
set_option linter.unnecessarySimpa false
namespace Go.Proofs.Tryz
open Go Go.Eng
noncomputable def l9S (cd : List Int) (cu : Cu) : Gr × Cu := (sgG (l9R cd cu) (l9L cd cu).1, (l9L cd cu).2)
noncomputable def l9A (cd : List Int) (cu : Cu) : Gr × Cu := if beV cd cu 8 = 0 then l4A cd (beS cd cu 8) else l9S cd (beS cd cu 8)
theorem l9A_es (cd : List Int) (cu : Cu) : (l9A cd cu).1.es.length ≤ 1048576 := by
  unfold l9A
  split
  · have := l4A_ok cd (beS cd cu 8); omega
  · exact sgG_es _ _
attribute [local irreducible] beV beS byV byS nwC l6W l2W sgG flG coreG canG l9R l9L awB l4A l4G
@[go_sem] def K_l9S_sat (i : Nat) : List Nat := ([[0,2],[0,2,3],[2,4],[2]]).getD i []
def l9S_sat_S : SpecB := fun args bs i h av objs i' h' => ∃ (cd : List Int) (cu : Cu) , (cd.length ≤ 1048576) ∧ args = [aC] ∧ bs = bys cd ∧ i = (cu.p : Int) ∧ h = cu.q ∧ av = gT (l9S cd cu).1 ∧ objs = [oE 65 (l9S cd cu).1.es] ∧ i' = (((l9S cd cu).2).p : Int) ∧ h' = ((l9S cd cu).2).q
theorem l9S_sat : SatB Tryz.prog 95 89 l9S_sat_S := by
  refine satB_of tok okr mixed K_l9S_sat Tryz.func95 rfl (rs := [.cell 2 26]) rfl Tryz.ntmps95 ?_
  rintro args bs i h av objs i' h' ⟨cd, cu, hpre, rfl, rfl, rfl, rfl, rfl, rfl, rfl, rfl⟩
  refine ⟨by show 1 ≤ 18; decide, fun u S W pv => ?_⟩
  have hr := l9R_ok cd cu
  obtain ⟨a1, a2, a3⟩ := l9L_ok cd cu
  have a4 : (l9L cd cu).1.length ≤ 1048576 := by omega
  have a5 : ∀ w ∈ (l9L cd cu).1, w.length ≤ 1048576 := fun w hw => by have := a2 w hw; omega
  clear a2
  unfold l9S
  repeat' (first|(refine ya ?_;first|(refine yb ?_;first|refine z_fn subg_yes2 Tryz.func83 (hSp := by refine ⟨_, _, ⟨?_, ?_, ?_⟩, rfl, rfl, rfl⟩; exact zp; exact zp; exact zp) (k0 := ?_) | refine yc ?_|refine yq ?_)|refine ye ?_)|refine yz ?_|refine zst ?_|refine zo ?_|(refine zk ?_ ?_<;>intro hc hr<;>try exact zx))
  all_goals try exact zb
instance : ConB Tryz.prog 95 89 l9S_sat_S := conB l9S_sat Tryz.func95
@[go_sem] def K_l9A_sat (i : Nat) : List Nat := ([[0,2],[0,2,4],[2],[2]]).getD i []
def l9A_sat_S : SpecB := fun args bs i h av objs i' h' => ∃ (cd : List Int) (cu : Cu) , (cd.length ≤ 1048576) ∧ args = [aC] ∧ bs = bys cd ∧ i = (cu.p : Int) ∧ h = cu.q ∧ av = gT (l9A cd cu).1 ∧ objs = [oE 65 (l9A cd cu).1.es] ∧ i' = (((l9A cd cu).2).p : Int) ∧ h' = ((l9A cd cu).2).q
theorem l9A_sat : SatB Tryz.prog 55 89 l9A_sat_S := by
  refine satB_of tok okr mixed K_l9A_sat Tryz.func55 rfl (rs := [.cell 2 26]) rfl Tryz.ntmps55 ?_
  rintro args bs i h av objs i' h' ⟨cd, cu, hpre, rfl, rfl, rfl, rfl, rfl, rfl, rfl, rfl⟩
  refine ⟨by show 1 ≤ 9; decide, fun u S W pv => ?_⟩
  by_cases k0 : beV cd cu 8 = 0
  · have e : l9A cd cu = l4A cd (beS cd cu 8) := by unfold l9A; rw [if_pos k0]
    rw [e]
    repeat' (first|(refine ya ?_;first|(refine yb ?_;first|refine yq ?_)|refine ye ?_)|refine yz ?_|refine zst ?_|refine zo ?_|(refine zk ?_ ?_<;>intro hc hr<;>try exact zx))
    all_goals try exact zb
  · have e : l9A cd cu = l9S cd (beS cd cu 8) := by unfold l9A; rw [if_neg k0]
    rw [e]
    repeat' (first|(refine ya ?_;first|(refine yb ?_;first|refine yq ?_)|refine ye ?_)|refine yz ?_|refine zst ?_|refine zo ?_|(refine zk ?_ ?_<;>intro hc hr<;>try exact zx))
    all_goals try exact zb
def mn3 (r : Int) : Int := if 1 < (if 3 < r then 3 else r) then (if 3 < r then 3 else r) else 1
theorem mn3_ok (r : Int) : 1 ≤ mn3 r ∧ mn3 r ≤ 3 := by unfold mn3; split <;> (try split) <;> omega
def lpC (g : Gr) : Int := ((lpW g.r g.z g.es 0 3).length : Int)
def l9P (cd : List Int) (g : Gr) (c : Cu) : List Int × Cu :=
  (red (wx (lpW g.r g.z g.es 0 3) (beV cd c (lpC g)).toNat ++ wx (lpW g.r g.z g.es 0 3) (beV cd (beS cd c (lpC g)) (lpC g)).toNat), beS cd (beS cd c (lpC g)) (lpC g))
noncomputable def l9W (cd : List Int) (g : Gr) (c : Cu) : List Int × Cu :=
  if beV cd c 2 = 0 ∧ isC g.r g.z g.es = true ∧ 1 < lpC g then l9P cd g (beS cd c 2) else l2W cd (mn3 g.r) 6 (beS cd c 2)
theorem lp3 (g : Gr) : (lpW g.r g.z g.es 0 3).length ≤ 187 ∧ ∀ u ∈ lpW g.r g.z g.es 0 3, u.length ≤ 5 ∧ smallW u ∧ wk g.es 0 u = some 0 := by
  have := lpW_ok (r := g.r) (z := g.z) (es := g.es) (v := 0) (m := 3) (by omega)
  have e : lwD ((3 : Int).toNat + 1) = 187 := by decide
  rw [e] at this
  exact this
theorem smallW.app {a b : List Int} (ha : smallW a) (hb : smallW b) : smallW (a ++ b) := fun x hx => (List.mem_append.1 hx).elim (ha x) (hb x)
theorem smallW.red {a : List Int} (ha : smallW a) : smallW (red a) := fun x hx => ha x (red_mem hx)
theorem l9W_ok (cd : List Int) (g : Gr) (c : Cu) : (l9W cd g c).1.length ≤ 10 ∧ smallW (l9W cd g c).1 := by
  unfold l9W
  split
  · rename_i h
    obtain ⟨h1, h2⟩ := lp3 g
    have hl : lpC g = ((lpW g.r g.z g.es 0 3).length : Int) := rfl
    have b1 := beV_rg cd (beS cd c 2) (n := lpC g) (by omega)
    have b2 := beV_rg cd (beS cd (beS cd c 2) (lpC g)) (n := lpC g) (by omega)
    have m1 := h2 _ (wx_mem (ws := lpW g.r g.z g.es 0 3) (i := (beV cd (beS cd c 2) (lpC g)).toNat) (by omega))
    have m2 := h2 _ (wx_mem (ws := lpW g.r g.z g.es 0 3) (i := (beV cd (beS cd (beS cd c 2) (lpC g)) (lpC g)).toNat) (by omega))
    unfold l9P
    simp only
    refine ⟨?_, (m1.2.1.app m2.2.1).red⟩
    have := red_len (wx (lpW g.r g.z g.es 0 3) (beV cd (beS cd c 2) (lpC g)).toNat ++ wx (lpW g.r g.z g.es 0 3) (beV cd (beS cd (beS cd c 2) (lpC g)) (lpC g)).toNat)
    rw [List.length_append] at this
    omega
  · obtain ⟨h1, h2, _⟩ := l2W_ok cd (m := 6) (beS cd c 2) (mn3_ok g.r).1 (by omega)
    have := mn3_ok g.r
    exact ⟨by omega, fun x hx => by have := h2 x hx; omega⟩
theorem lpW_T {r z : Int} {es : List Ed} (hc : isC r z es = true) : lwB r z es 0 3 = true ∧ lwT r z es 0 ((3 : Int).toNat + 1) = lpW r z es 0 3 := by
  have hf := isC_f hc
  have hz := isG_z (isF_g hf)
  have hB : lwB r z es 0 3 = true := by simp only [lwB, hf, Bool.true_and, decide_eq_true_eq]; omega
  exact ⟨hB, by unfold lpW; rw [if_pos hB]⟩
def loop3_S : Eng.Spec := fun args av objs => ∃ (r z : Int) (es : List Ed), (es.length ≤ 1048576 ∧ isC r z es = true) ∧ args = [grA r z es, aI 0, aI 3] ∧ av = aR 0 ∧ objs = [.rows 35 3 (.own false) (osW (lpW r z es 0 3))]
theorem loop3 : Sat Tryz.prog 38 loop3_S := by
  rintro args av objs ⟨r, z, es, ⟨he, hc⟩, rfl, rfl, rfl⟩
  obtain ⟨hB, hT⟩ := lpW_T hc
  refine loopW_yes2 _ _ _ ⟨r, z, es, 0, 3, ⟨he, hB⟩, rfl, rfl, by rw [hT]⟩
instance : Con Tryz.prog 38 loop3_S := con loop3 Tryz.func38
attribute [local irreducible] l9A l9S lpW isC
instance : ConB Tryz.prog 55 89 l9A_sat_S := conB l9A_sat Tryz.func55
@[go_sem] def K_l9W_sat (i : Nat) : List Nat := ([[0,3],[0,3,11],[0,3,5],[0,3,5,16],[4],[4]]).getD i []
def l9W_sat_S : SpecB := fun args bs i h av objs i' h' => ∃ (cd : List Int) (cu : Cu) (r z : Int) (es : List Ed), (cd.length ≤ 1048576 ∧ es.length ≤ 1048576) ∧ args = [aC, grA r z es] ∧ bs = bys cd ∧ i = (cu.p : Int) ∧ h = cu.q ∧ av = aR 0 ∧ objs = [oL 3 (l9W cd ⟨r, z, es⟩ cu).1] ∧ i' = (((l9W cd ⟨r, z, es⟩ cu).2).p : Int) ∧ h' = ((l9W cd ⟨r, z, es⟩ cu).2).q
theorem l9W_sat : SatB Tryz.prog 87 89 l9W_sat_S := by
  refine satB_of tok okr mixed K_l9W_sat Tryz.func87 rfl (rs := [.tmp 4]) rfl Tryz.ntmps87 ?_
  rintro args bs i h av objs i' h' ⟨cd, cu, r, z, es, hpre, rfl, rfl, rfl, rfl, rfl, rfl, rfl, rfl⟩
  refine ⟨by show 2 ≤ 38; decide, fun u S W pv => ?_⟩
  obtain ⟨hcd, he⟩ := hpre
  have hm := mn3_ok r
  by_cases k0 : beV cd cu 2 = 0
  · cases hc : isC r z es
    · have e : l9W cd ⟨r, z, es⟩ cu = l2W cd (mn3 r) 6 (beS cd cu 2) := by unfold l9W; rw [if_neg]; intro h; rw [hc] at h; cases h.2.1
      rw [e]
      unfold mn3 at *
      clear e
      repeat' (first|(refine ya ?_;first|(refine yb ?_;first|refine yc ?_|refine yq ?_)|refine ye ?_)|((first|refine yg ?_|refine yG ?_);intro hq;first|(replace hq:=zgy hq;first|(refine yb ?_;first|refine yc ?_|refine yq ?_)|(refine yB ?_;first|refine yC ?_|refine yQ ?_)|refine yy hq ?_|refine yY hq ?_;clear hq)|((first|refine yn (zgn hq) ?_|refine yN (zgn hq) ?_);clear hq)|((fail_if_success have:=zgy hq);(first|refine zs hq ?_ ?_|refine zS hq ?_ ?_)<;>clear hq<;>intro hg hr<;>try exact zx))|refine yz ?_|(refine yA ?_;first|(refine yB ?_;first|refine yC ?_|refine yQ ?_)|refine yE ?_)|refine yZ ?_|refine zst ?_|refine zo ?_|(refine zk ?_ ?_<;>intro hc hr<;>try exact zx))
      all_goals try exact zb
    · have hf := isC_f hc
      obtain ⟨h1, h2⟩ := lp3 ⟨r, z, es⟩
      simp only at h1 h2
      have h3 : ∀ u ∈ lpW r z es 0 3, u.length ≤ 5 := fun u hu => (h2 u hu).1
      have h4 : ∀ u ∈ lpW r z es 0 3, ∀ x ∈ u, rg x := fun u hu x hx => by have := (h2 u hu).2.1 x hx; unfold rg; omega
      by_cases k1 : 1 < lpC ⟨r, z, es⟩
      · have e : l9W cd ⟨r, z, es⟩ cu = l9P cd ⟨r, z, es⟩ (beS cd cu 2) := by unfold l9W; rw [if_pos ⟨k0, hc, k1⟩]
        rw [e]
        unfold l9P
        unfold lpC at *
        simp only at k1 ⊢
        have b1 := beV_rg cd (beS cd cu 2) (n := ((lpW r z es 0 3).length : Int)) (by omega)
        have b2 := beV_rg cd (beS cd (beS cd cu 2) ((lpW r z es 0 3).length : Int)) (n := ((lpW r z es 0 3).length : Int)) (by omega)
        have i1 : (beV cd (beS cd cu 2) ((lpW r z es 0 3).length : Int)).toNat < (lpW r z es 0 3).length := by omega
        have i2 : (beV cd (beS cd (beS cd cu 2) ((lpW r z es 0 3).length : Int)) ((lpW r z es 0 3).length : Int)).toNat < (lpW r z es 0 3).length := by omega
        have u1 := h3 _ (wx_mem i1)
        have u2 := h3 _ (wx_mem i2)
        have v1 := h4 _ (wx_mem i1)
        have v2 := h4 _ (wx_mem i2)
        clear e h2 h3 h4
        repeat' (first|(refine ya ?_;first|(refine yb ?_;first|refine z_fnF loop3 Tryz.func38 (hSp := by refine ⟨_, _, _, ⟨?_, ?_⟩, rfl, rfl, rfl⟩; exact zp; exact zp) (k0 := ?_) | refine yc ?_|refine yq ?_)|refine ye ?_)|((first|refine yg ?_|refine yG ?_);intro hq;first|(replace hq:=zgy hq;first|(refine yb ?_;first|refine z_fnF loop3 Tryz.func38 (hSp := by refine ⟨_, _, _, ⟨?_, ?_⟩, rfl, rfl, rfl⟩; exact zp; exact zp) (k0 := ?_) | refine yc ?_|refine yq ?_)|(refine yB ?_;first|refine yC ?_|refine yQ ?_)|refine yy hq ?_|refine yY hq ?_;clear hq)|((first|refine yn (zgn hq) ?_|refine yN (zgn hq) ?_);clear hq)|((fail_if_success have:=zgy hq);(first|refine zs hq ?_ ?_|refine zS hq ?_ ?_)<;>clear hq<;>intro hg hr<;>try exact zx))|refine yz ?_|(refine yA ?_;first|(refine yB ?_;first|refine yC ?_|refine yQ ?_)|refine yE ?_)|refine yZ ?_|refine zst ?_|refine zo ?_|(refine zk ?_ ?_<;>intro hc hr<;>try exact zx))
        all_goals try exact zb
      · have e : l9W cd ⟨r, z, es⟩ cu = l2W cd (mn3 r) 6 (beS cd cu 2) := by unfold l9W; rw [if_neg]; intro h; exact k1 h.2.2
        rw [e]
        unfold lpC at k1
        simp only at k1
        unfold mn3 at *
        clear e h2 h3 h4
        repeat' (first|(refine ya ?_;first|(refine yb ?_;first|refine z_fnF loop3 Tryz.func38 (hSp := by refine ⟨_, _, _, ⟨?_, ?_⟩, rfl, rfl, rfl⟩; exact zp; exact zp) (k0 := ?_) | refine yc ?_|refine yq ?_)|refine ye ?_)|((first|refine yg ?_|refine yG ?_);intro hq;first|(replace hq:=zgy hq;first|(refine yb ?_;first|refine z_fnF loop3 Tryz.func38 (hSp := by refine ⟨_, _, _, ⟨?_, ?_⟩, rfl, rfl, rfl⟩; exact zp; exact zp) (k0 := ?_) | refine yc ?_|refine yq ?_)|(refine yB ?_;first|refine yC ?_|refine yQ ?_)|refine yy hq ?_|refine yY hq ?_;clear hq)|((first|refine yn (zgn hq) ?_|refine yN (zgn hq) ?_);clear hq)|((fail_if_success have:=zgy hq);(first|refine zs hq ?_ ?_|refine zS hq ?_ ?_)<;>clear hq<;>intro hg hr<;>try exact zx))|refine yz ?_|(refine yA ?_;first|(refine yB ?_;first|refine yC ?_|refine yQ ?_)|refine yE ?_)|refine yZ ?_|refine zst ?_|refine zo ?_|(refine zk ?_ ?_<;>intro hc hr<;>try exact zx))
        all_goals try exact zb
  · have e : l9W cd ⟨r, z, es⟩ cu = l2W cd (mn3 r) 6 (beS cd cu 2) := by unfold l9W; rw [if_neg]; intro h; exact k0 h.1
    rw [e]
    unfold mn3 at *
    clear e
    repeat' (first|(refine ya ?_;first|(refine yb ?_;first|refine yc ?_|refine yq ?_)|refine ye ?_)|((first|refine yg ?_|refine yG ?_);intro hq;first|(replace hq:=zgy hq;first|(refine yb ?_;first|refine yc ?_|refine yq ?_)|(refine yB ?_;first|refine yC ?_|refine yQ ?_)|refine yy hq ?_|refine yY hq ?_;clear hq)|((first|refine yn (zgn hq) ?_|refine yN (zgn hq) ?_);clear hq)|((fail_if_success have:=zgy hq);(first|refine zs hq ?_ ?_|refine zS hq ?_ ?_)<;>clear hq<;>intro hg hr<;>try exact zx))|refine yz ?_|(refine yA ?_;first|(refine yB ?_;first|refine yC ?_|refine yQ ?_)|refine yE ?_)|refine yZ ?_|refine zst ?_|refine zo ?_|(refine zk ?_ ?_<;>intro hc hr<;>try exact zx))
    all_goals try exact zb
instance : ConB Tryz.prog 87 89 l9W_sat_S := conB l9W_sat Tryz.func87
@[go_sem] def K_dCo_sat (i : Nat) : List Nat := ([[0,2],[2,4],[2,4,5],[2,3]]).getD i []
def dCo_sat_S : Eng.Spec := fun args av objs => ∃ (cd : List Int), (cd.length ≤ 1048576) ∧ args = [.one (.imm 1 (bys cd))] ∧ av = .tup [gT (l9A cd (nwC cd)).1, .one (.ref 1)] ∧ objs = [oE 65 (l9A cd (nwC cd)).1.es, oL 3 (l9W cd (l9A cd (nwC cd)).1 (l9A cd (nwC cd)).2).1]
theorem dCo_sat : Sat Tryz.prog 34 dCo_sat_S := by
  refine sat_of tok okr mixed K_dCo_sat Tryz.func34 rfl (rs := [.cell 2 26, .tmp 3]) rfl Tryz.ntmps34 ?_
  rintro args av objs ⟨cd, hpre, rfl, rfl, rfl⟩
  refine ⟨by show 1 ≤ 14; decide, ?_⟩
  have hes := l9A_es cd (nwC cd)
  repeat' (first|(refine ya ?_;first|(refine yb ?_;first|refine yq ?_|refine ym ?_)|refine ye ?_)|refine yz ?_|(refine yA ?_;first|(refine yB ?_;first|refine yQ ?_|refine yM ?_)|refine yE ?_)|refine yZ ?_|refine zst ?_|refine zo ?_|(refine zk ?_ ?_<;>intro hc hr<;>try exact zx))
  all_goals try exact zv
instance : Con Tryz.prog 34 dCo_sat_S := con dCo_sat Tryz.func34
end Go.Proofs.Tryz
