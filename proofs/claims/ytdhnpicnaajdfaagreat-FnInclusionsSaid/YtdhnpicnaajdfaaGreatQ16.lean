import Derived.Test.YtdhnpicnaajdfaaGreatQ15
set_option linter.unusedVariables false
set_option linter.unusedSimpArgs false
set_option linter.unnecessarySimpa false
namespace Go.Proofs.Tryz
open Go Go.Eng
set_option linter.unnecessarySimpa false
set_option linter.unusedSimpArgs false
set_option maxHeartbeats 4000000
noncomputable def insB (r z : Int) (es : List Ed) (r' z' : Int) (es' : List Ed) : Bool := isC r z es && isC r' z' es' && decide (r = r') && homB es es'
def K_inside_sat : Nat → List Nat := fun i => ([[2, 3], [4]] : List (List Nat)).getD i []
attribute [go_sem] K_inside_sat
def inside_sat_S : Eng.Spec := fun args av objs => ∃ (r z : Int) (es : List Ed) (r' z' : Int) (es' : List Ed), (es.length ≤ 1048576 ∧ es'.length ≤ 1048576) ∧ args = [grA r z es, grA r' z' es'] ∧ av = aB (insB r z es r' z' es') ∧ objs = []
theorem inside_sat : Sat Tryz.prog 9 inside_sat_S := by
  refine sat_of tok okr mixed K_inside_sat Tryz.func9 rfl (rs := [.tmp 4]) rfl Tryz.ntmps9 ?_
  rintro args av objs ⟨r, z, es, r', z', es', hpre, rfl, rfl, rfl⟩
  refine ⟨by show 2 ≤ 24; decide, ?_⟩
  obtain ⟨he, he'⟩ := hpre
  unfold insB
  cases hok : isC r z es
  · repeat' (first|(refine ya ?_;first|(refine yb ?_;first|refine yc ?_)|refine ye ?_)|(refine yg ?_;intro hgs;first|(replace hgs:=zgy hgs;first|(refine yb ?_;first|refine yc ?_)|refine yy hgs ?_;clear hgs)|(refine yn (zgn hgs) ?_;clear hgs)|((fail_if_success have:=zgy hgs);refine z_spl hgs (h1:=?_) (h2:=?_)<;>clear hgs<;>intro hg hr<;>try first|contradiction|exfalso;omega))|refine yz ?_|(refine yA ?_;first|(refine yB ?_;first|refine yC ?_)|refine yE ?_)|(refine yG ?_;intro hgs;first|(replace hgs:=zgy hgs;first|(refine yB ?_;first|refine yC ?_)|refine yY hgs ?_;clear hgs)|(refine yN (zgn hgs) ?_;clear hgs)|((fail_if_success have:=zgy hgs);refine z_spll hgs (h1:=?_) (h2:=?_)<;>clear hgs<;>intro hg hr<;>try first|contradiction|exfalso;omega))|refine yZ ?_|refine zst ?_|refine k_blk_other rfl ?_|(refine zk ?_ ?_<;>intro hc hr<;>try first|contradiction|exfalso;omega))
    all_goals first | (refine z_ret (hv := ?_) (ho := ?_) <;> first | rfl | (simp [go_sem, *]; done) | (simp_all; done) | (simp_all; omega)) | skip
  · cases hok' : isC r' z' es'
    · repeat' (first|(refine ya ?_;first|(refine yb ?_;first|refine yc ?_)|refine ye ?_)|(refine yg ?_;intro hgs;first|(replace hgs:=zgy hgs;first|(refine yb ?_;first|refine yc ?_)|refine yy hgs ?_;clear hgs)|(refine yn (zgn hgs) ?_;clear hgs)|((fail_if_success have:=zgy hgs);refine z_spl hgs (h1:=?_) (h2:=?_)<;>clear hgs<;>intro hg hr<;>try first|contradiction|exfalso;omega))|refine yz ?_|(refine yA ?_;first|(refine yB ?_;first|refine yC ?_)|refine yE ?_)|(refine yG ?_;intro hgs;first|(replace hgs:=zgy hgs;first|(refine yB ?_;first|refine yC ?_)|refine yY hgs ?_;clear hgs)|(refine yN (zgn hgs) ?_;clear hgs)|((fail_if_success have:=zgy hgs);refine z_spll hgs (h1:=?_) (h2:=?_)<;>clear hgs<;>intro hg hr<;>try first|contradiction|exfalso;omega))|refine yZ ?_|refine zst ?_|refine k_blk_other rfl ?_|(refine zk ?_ ?_<;>intro hc hr<;>try first|contradiction|exfalso;omega))
      all_goals first | (refine z_ret (hv := ?_) (ho := ?_) <;> first | rfl | (simp [go_sem, *]; done) | (simp_all; done) | (simp_all; omega)) | skip
    · by_cases hr0 : r = r'
      · have hf := isC_f hok
        have hf' := isC_f hok'
        have hbl := bsW_len (r := r) (z := z) (es := es)
        have hbo := bsW_ok hf
        have hb1 : ∀ w ∈ bsW r z es, w.length ≤ 4194304 := fun w hw => by have := (hbo w hw).1; omega
        have hb2 : ∀ w ∈ bsW r z es, ∀ x ∈ w, rg x := fun w hw => (hbo w hw).2
        have hca : caB r' z' es' (bsW r z es) = homB es es' := by unfold caB; rw [hok', caL_hom hf (isC_gone hok) hf']; rfl
        have hd : decide (r = r') = true := decide_eq_true hr0
        rw [hd]
        clear hd hbo
        repeat' (first|(refine ya ?_;first|(refine yb ?_;first|refine yc ?_)|refine ye ?_)|(refine yg ?_;intro hgs;first|(replace hgs:=zgy hgs;first|(refine yb ?_;first|refine yc ?_)|refine yy hgs ?_;clear hgs)|(refine yn (zgn hgs) ?_;clear hgs)|((fail_if_success have:=zgy hgs);refine z_spl hgs (h1:=?_) (h2:=?_)<;>clear hgs<;>intro hg hr<;>try first|contradiction|exfalso;omega))|refine yz ?_|(refine yA ?_;first|(refine yB ?_;first|refine yC ?_)|refine yE ?_)|(refine yG ?_;intro hgs;first|(replace hgs:=zgy hgs;first|(refine yB ?_;first|refine yC ?_)|refine yY hgs ?_;clear hgs)|(refine yN (zgn hgs) ?_;clear hgs)|((fail_if_success have:=zgy hgs);refine z_spll hgs (h1:=?_) (h2:=?_)<;>clear hgs<;>intro hg hr<;>try first|contradiction|exfalso;omega))|refine yZ ?_|refine zst ?_|refine k_blk_other rfl ?_|(refine zk ?_ ?_<;>intro hc hr<;>try first|contradiction|exfalso;omega))
        all_goals first | (refine z_ret (hv := ?_) (ho := ?_) <;> first | rfl | (simp [go_sem, *]; done) | (simp_all; done) | (simp_all; omega)) | skip
      · have hd : decide (r = r') = false := decide_eq_false hr0
        rw [hd]
        clear hd
        repeat' (first|(refine ya ?_;first|(refine yb ?_;first|refine yc ?_)|refine ye ?_)|(refine yg ?_;intro hgs;first|(replace hgs:=zgy hgs;first|(refine yb ?_;first|refine yc ?_)|refine yy hgs ?_;clear hgs)|(refine yn (zgn hgs) ?_;clear hgs)|((fail_if_success have:=zgy hgs);refine z_spl hgs (h1:=?_) (h2:=?_)<;>clear hgs<;>intro hg hr<;>try first|contradiction|exfalso;omega))|refine yz ?_|(refine yA ?_;first|(refine yB ?_;first|refine yC ?_)|refine yE ?_)|(refine yG ?_;intro hgs;first|(replace hgs:=zgy hgs;first|(refine yB ?_;first|refine yC ?_)|refine yY hgs ?_;clear hgs)|(refine yN (zgn hgs) ?_;clear hgs)|((fail_if_success have:=zgy hgs);refine z_spll hgs (h1:=?_) (h2:=?_)<;>clear hgs<;>intro hg hr<;>try first|contradiction|exfalso;omega))|refine yZ ?_|refine zst ?_|refine k_blk_other rfl ?_|(refine zk ?_ ?_<;>intro hc hr<;>try first|contradiction|exfalso;omega))
        all_goals first | (refine z_ret (hv := ?_) (ho := ?_) <;> first | rfl | (simp [go_sem, *]; done) | (simp_all; done) | (simp_all; omega)) | skip
instance : Con Tryz.prog 9 inside_sat_S := con inside_sat Tryz.func9
def K_inside_sat2 : Nat → List Nat := fun i => ([[2, 3], [2, 3, 26], [4], [2, 3, 5], [2, 3, 5, 6], [2, 3, 5, 6, 7], [2, 3, 5, 6, 7, 8], [2, 3, 5, 6, 7, 8, 37], [2, 3, 5, 6, 7, 8], [2, 3, 5, 6, 7, 8, 9], [2, 3, 5, 6, 7, 8, 9, 43], [2, 3, 5, 6, 7, 8, 9], [2, 3, 5, 6, 7, 8, 9, 10], [2, 3, 5, 6, 7, 8, 9, 10, 57], [2, 3, 5, 6, 7, 8, 9, 10, 11], [2, 3, 5, 6, 7, 8, 9, 10, 11, 72], [4], [2, 3, 5, 6, 7, 8, 9, 10, 11, 76], [2, 3, 5, 6, 7, 8, 9, 10, 11], [2, 3, 5, 6, 7, 8, 9], [2, 3, 5, 6, 7, 8, 9, 90], [4], [4]] : List (List Nat)).getD i []
attribute [go_sem] K_inside_sat2
def inside_sat2_S : Eng.Spec := fun args av objs => ∃ (r z : Int) (es : List Ed) (r' z' : Int) (es' : List Ed), (es.length ≤ 1048576 ∧ es'.length ≤ 1048576) ∧ args = [grA r z es, grA r' z' es'] ∧ av = aB (insB r z es r' z' es') ∧ objs = []
theorem inside_sat2 : Sat Tryz.prog 10 inside_sat2_S := by
  refine sat_of tok okr mixed K_inside_sat2 Tryz.func10 rfl (rs := [.tmp 4]) rfl Tryz.ntmps10 ?_
  rintro args av objs ⟨r, z, es, r', z', es', hpre, rfl, rfl, rfl⟩
  refine ⟨by show 2 ≤ 91; decide, ?_⟩
  obtain ⟨he, he'⟩ := hpre
  unfold insB
  cases hok : isC r z es
  · repeat' (first|(refine ya ?_;first|(refine yb ?_;first|refine yc ?_)|refine ye ?_)|(refine yg ?_;intro hgs;first|(replace hgs:=zgy hgs;first|(refine yb ?_;first|refine yc ?_)|refine yy hgs ?_;clear hgs)|(refine yn (zgn hgs) ?_;clear hgs)|((fail_if_success have:=zgy hgs);refine z_spl hgs (h1:=?_) (h2:=?_)<;>clear hgs<;>intro hg hr<;>try first|contradiction|exfalso;omega))|refine yz ?_|(refine yA ?_;first|(refine yB ?_;first|refine yC ?_)|refine yE ?_)|(refine yG ?_;intro hgs;first|(replace hgs:=zgy hgs;first|(refine yB ?_;first|refine yC ?_)|refine yY hgs ?_;clear hgs)|(refine yN (zgn hgs) ?_;clear hgs)|((fail_if_success have:=zgy hgs);refine z_spll hgs (h1:=?_) (h2:=?_)<;>clear hgs<;>intro hg hr<;>try first|contradiction|exfalso;omega))|refine yZ ?_|refine zst ?_|refine k_blk_other rfl ?_|(refine zk ?_ ?_<;>intro hc hr<;>try first|contradiction|exfalso;omega))
    all_goals first | (refine z_ret (hv := ?_) (ho := ?_) <;> first | rfl | (simp [go_sem, *]; done) | (simp_all; done) | (simp_all; omega)) | skip
  cases hok' : isC r' z' es'
  · repeat' (first|(refine ya ?_;first|(refine yb ?_;first|refine yc ?_)|refine ye ?_)|(refine yg ?_;intro hgs;first|(replace hgs:=zgy hgs;first|(refine yb ?_;first|refine yc ?_)|refine yy hgs ?_;clear hgs)|(refine yn (zgn hgs) ?_;clear hgs)|((fail_if_success have:=zgy hgs);refine z_spl hgs (h1:=?_) (h2:=?_)<;>clear hgs<;>intro hg hr<;>try first|contradiction|exfalso;omega))|refine yz ?_|(refine yA ?_;first|(refine yB ?_;first|refine yC ?_)|refine yE ?_)|(refine yG ?_;intro hgs;first|(replace hgs:=zgy hgs;first|(refine yB ?_;first|refine yC ?_)|refine yY hgs ?_;clear hgs)|(refine yN (zgn hgs) ?_;clear hgs)|((fail_if_success have:=zgy hgs);refine z_spll hgs (h1:=?_) (h2:=?_)<;>clear hgs<;>intro hg hr<;>try first|contradiction|exfalso;omega))|refine yZ ?_|refine zst ?_|refine k_blk_other rfl ?_|(refine zk ?_ ?_<;>intro hc hr<;>try first|contradiction|exfalso;omega))
    all_goals first | (refine z_ret (hv := ?_) (ho := ?_) <;> first | rfl | (simp [go_sem, *]; done) | (simp_all; done) | (simp_all; omega)) | skip
  by_cases hr0 : r = r'
  · subst hr0
    have hf := isC_f hok
    have hf' := isC_f hok'
    have hG := isF_g hf
    have hG' := isF_g hf'
    have hz := isG_z hG
    have hz' := isG_z hG'
    have hall := gone_all hf (isC_gone hok)
    have hd : (true && true && decide (r = r) && homB es es') = homB es es' := by rw [decide_eq_true rfl]; rfl
    rw [hd]
    clear hd
    repeat' (first|(refine ya ?_;first|(refine yb ?_;first|refine yc ?_)|refine ye ?_)|(refine yg ?_;intro hgs;first|(replace hgs:=zgy hgs;first|(refine yb ?_;first|refine yc ?_)|refine yy hgs ?_;clear hgs)|(refine yn (zgn hgs) ?_;clear hgs)|((fail_if_success have:=zgy hgs);refine z_spl hgs (h1:=?_) (h2:=?_)<;>clear hgs<;>intro hg hr<;>try first|contradiction|exfalso;omega))|refine yz ?_|(refine yA ?_;first|(refine yB ?_;first|refine yC ?_)|refine yE ?_)|(refine yG ?_;intro hgs;first|(replace hgs:=zgy hgs;first|(refine yB ?_;first|refine yC ?_)|refine yY hgs ?_;clear hgs)|(refine yN (zgn hgs) ?_;clear hgs)|((fail_if_success have:=zgy hgs);refine z_spll hgs (h1:=?_) (h2:=?_)<;>clear hgs<;>intro hg hr<;>try first|contradiction|exfalso;omega))|refine yZ ?_|refine zst ?_|refine k_blk_other rfl ?_|(refine zk ?_ ?_<;>intro hc hr<;>try first|contradiction|exfalso;omega))
    refine z_loop (fun i : Nat => [(8, aI i)]) (fun i : Nat => [.obj 6 (oL 3 (vxs (bOut es (lts r.toNat) 0 i))), .obj 5 (oL 3 (tabV z (imF es' (bOut es (lts r.toNat) 0 i))))]) (fun i : Nat => i ≤ (bOut es (lts r.toNat) 0 i).length ∧ CSt es es' (lts r.toNat) i 0 (bOut es (lts r.toNat) 0 i)) (fun i : Nat => z.toNat - i) (0) (h0 := ?_) (henv := ?_) (hobj := ?_) (h := ?_)
    · exact ⟨by simp [bOut], CSt_0 _ _ _⟩
    · simp [go_sem, AVm, CVm, lookS, bOut, vxs, intsOne, imF_0, tab_const, zI_eq]
    · simp [go_sem, OBm, CVm, lookS, All2, bOut, vxs, intsOne, imF_0, tab_const, zI_eq]
    rintro i ⟨hi, hC⟩
    have hB := BI_out (ls := lts r.toNat) hG (v := 0) (by omega) i
    have hBl := hB.len (by omega)
    have hvl := vxs_len (bOut es (lts r.toNat) 0 i)
    have hll := lts_len r.toNat
    have hbp := BP_out (ls := lts r.toNat) hG (v := 0) (by omega) i
    have hz0 : bsa (bOut es (lts r.toNat) 0 i) 0 = (0, []) := by
      have := bOut_pre es (lts r.toNat) 0 0 i
      rw [Nat.zero_add] at this
      rw [pre_bsa this (by simp [bOut])]
      simp [bOut, bsa]
    rcases Nat.lt_or_ge i (bOut es (lts r.toNat) 0 i).length with hlt | hge
    · have hx := vxs_ix (st := bOut es (lts r.toNat) 0 i) (i := i)
      have hbo : bOut es (lts r.toNat) 0 (i + 1) = bIn es (lts r.toNat) (bsa (bOut es (lts r.toNat) 0 i) i) (bOut es (lts r.toNat) 0 i) (lts r.toNat).length := by rw [bOut, if_pos hlt]
      generalize hst : bOut es (lts r.toNat) 0 i = st at *
      obtain ⟨u, hu⟩ := hC.rd i hlt
      repeat' (first|(refine ya ?_;first|(refine yb ?_;first|refine yc ?_)|refine ye ?_)|(refine yg ?_;intro hgs;first|(replace hgs:=zgy hgs;first|(refine yb ?_;first|refine yc ?_)|refine yy hgs ?_;clear hgs)|(refine yn (zgn hgs) ?_;clear hgs)|((fail_if_success have:=zgy hgs);refine z_spl hgs (h1:=?_) (h2:=?_)<;>clear hgs<;>intro hg hr<;>try first|contradiction|exfalso;omega))|refine yz ?_|(refine yA ?_;first|(refine yB ?_;first|refine yC ?_)|refine yE ?_)|(refine yG ?_;intro hgs;first|(replace hgs:=zgy hgs;first|(refine yB ?_;first|refine yC ?_)|refine yY hgs ?_;clear hgs)|(refine yN (zgn hgs) ?_;clear hgs)|((fail_if_success have:=zgy hgs);refine z_spll hgs (h1:=?_) (h2:=?_)<;>clear hgs<;>intro hg hr<;>try first|contradiction|exfalso;omega))|refine yZ ?_|refine zst ?_|refine k_blk_other rfl ?_|(refine zk ?_ ?_<;>intro hc hr<;>try first|contradiction|exfalso;omega))
      refine z_loop (fun k : Nat => [(9, aI k)]) (fun k : Nat => [.obj 6 (oL 3 (vxs (bIn es (lts r.toNat) (bsa st i) st k))), .obj 5 (oL 3 (tabV z (imF es' (bIn es (lts r.toNat) (bsa st i) st k))))]) (fun k : Nat => k ≤ 2 * r.toNat ∧ CSt es es' (lts r.toNat) i k (bIn es (lts r.toNat) (bsa st i) st k)) (fun k : Nat => 2 * r.toNat - k) (0) (h0 := ?_) (henv := ?_) (hobj := ?_) (h := ?_)
      · exact ⟨by omega, hC⟩
      · simp [go_sem, AVm, CVm, lookS, bIn]
      · simp [go_sem, OBm, CVm, lookS, All2, bIn]
      rintro k ⟨hk, hK⟩
      obtain ⟨hB2, hp2, hl2⟩ := BI_in (ls := lts r.toNat) hG hB hlt k
      have hBl2 := hB2.len (by omega)
      have hvl2 := vxs_len (bIn es (lts r.toNat) (bsa st i) st k)
      have hbp2 := BP_in (ls := lts r.toNat) hG hB hbp hlt k
      have hz02 : bsa (bIn es (lts r.toNat) (bsa st i) st k) 0 = (0, []) := by rw [pre_bsa (bIn_pre es (lts r.toNat) (bsa st i) st k) (by omega), hz0]
      rcases Nat.lt_or_ge k (2 * r.toNat) with hlt2 | hge2
      · have hstep : bIn es (lts r.toNat) (bsa st i) st (k + 1) = bStep es (bsa st i) (ix (lts r.toNat) k) (bIn es (lts r.toNat) (bsa st i) st k) := rfl
        have hx2 : ix (vxs (bIn es (lts r.toNat) (bsa st i) st k)) i = (bsa st i).1 := by rw [vxs_ix, hp2]
        generalize hst2 : bIn es (lts r.toNat) (bsa st i) st k = st2 at *
        have hlx := lts_ix hlt2
        have hlt3 : k < (lts r.toNat).length := by omega
        have hw : wf st2 (bsa st i).1 = some (bsa st i).2 := by rw [← hp2]; exact wf_at hB2.nd (by omega)
        have him : imF es' st2 (bsa st i).1 = u := imF_at hw hu
        have hp1 := hB.inz _ (show (bsa st i).1 ∈ vxs st by rw [← hx]; exact ix_mem (by omega))
        have hti := tab_ix (imF es' st2) hp1.1 hp1.2
        rw [him] at hti
        have hub := wk_in hG' (v := 0) (by omega) hu
        have htl := tab_len z (imF es' st2)
        generalize hls : ix (lts r.toNat) k = x at *
        have hnin := nx_in (v := (bsa st i).1) (x := x) hG
        have hnin' := nx_in (v := u) (x := x) hG'
        have hu2 : wk es' 0 (bsa st2 i).2 = some u := by rw [hp2]; exact hu
        by_cases h0 : 0 ≤ nx es (bsa st i).1 x
        · by_cases hy : 0 ≤ nx es' u x
          · by_cases hin : nx es (bsa st i).1 x ∈ vxs st2
            · obtain ⟨t, ht, et⟩ := at_vxs hin
              obtain ⟨c, hct⟩ := hK.rd t ht
              have hwt : wf st2 (nx es (bsa st i).1 x) = some (bsa st2 t).2 := by rw [← et]; exact wf_at hB2.nd ht
              have htt := tab_ix (imF es' st2) h0 hnin.2
              rw [imF_at hwt hct] at htt
              have hbs : bIn es (lts r.toNat) (bsa st i) st (k + 1) = st2 := by rw [hstep, bStep, if_neg (fun h => h.2 hin)]
              by_cases hyc : c = nx es' u x
              · have hK2 : CSt es es' (lts r.toNat) i (k + 1) st2 := hK.next (List.prefix_refl _) (fun j h1 h2 => by omega) (by omega) fun _ _ => ⟨t, ht, by rw [hp2, hls]; exact et, u, hu2, by rw [hls]; exact hy, by rw [hls, hct, hyc]⟩
                clear hw him hwt hK hC hB hB2 hbp hbp2 hz0 hz02 hu hu2 hct hall
                repeat' (first|(refine ya ?_;first|(refine yb ?_;first|refine yc ?_)|refine ye ?_)|(refine yg ?_;intro hgs;first|(replace hgs:=zgy hgs;first|(refine yb ?_;first|refine yc ?_)|refine yy hgs ?_;clear hgs)|(refine yn (zgn hgs) ?_;clear hgs)|((fail_if_success have:=zgy hgs);refine z_spl hgs (h1:=?_) (h2:=?_)<;>clear hgs<;>intro hg hr<;>try first|contradiction|exfalso;omega))|refine yz ?_|(refine yA ?_;first|(refine yB ?_;first|refine yC ?_)|refine yE ?_)|(refine yG ?_;intro hgs;first|(replace hgs:=zgy hgs;first|(refine yB ?_;first|refine yC ?_)|refine yY hgs ?_;clear hgs)|(refine yN (zgn hgs) ?_;clear hgs)|((fail_if_success have:=zgy hgs);refine z_spll hgs (h1:=?_) (h2:=?_)<;>clear hgs<;>intro hg hr<;>try first|contradiction|exfalso;omega))|refine yZ ?_|refine zst ?_|refine k_blk_other rfl ?_|(refine zk ?_ ?_<;>intro hc hr<;>try first|contradiction|exfalso;omega))
                (refine z_lop (k + 1) (hj := ?_) (hmu := ?_) (henv := ?_) (hobj := ?_); (· exact ⟨by omega, by rw [hbs]; exact hK2⟩); (· first | omega | (simp only; omega)); (· first | (simp [go_sem, AVm, CVm, lookS, hbs, *]; done) | (simp [go_sem, AVm, CVm, lookS, hbs, *] <;> (repeat' split) <;> first | omega | (simp_all; done) | (exfalso; omega) | (simp_all; omega))); (· first | (simp [go_sem, OBm, CVm, All2, lookS, hbs, *]; done) | (simp [go_sem, OBm, CVm, All2, lookS, hbs, *] <;> (repeat' split) <;> first | omega | (simp_all; done) | (exfalso; omega) | (simp_all; omega))))
              · have hno : homB es es' = false := homB_not fun ⟨f, f0, hfm⟩ => by
                  have e1 := hom_at hz02 hbp2 f0 hfm (j := i) (by omega) hu2
                  have e2 := hom_at hz02 hbp2 f0 hfm ht hct
                  rw [hp2] at e1
                  apply hyc
                  rw [e2, et, e1, (hfm _ _ h0).2]
                rw [hno]
                clear hw him hwt hK hC hB hB2 hbp hbp2 hz0 hz02 hu hu2 hct hall
                repeat' (first|(refine ya ?_;first|(refine yb ?_;first|refine yc ?_)|refine ye ?_)|(refine yg ?_;intro hgs;first|(replace hgs:=zgy hgs;first|(refine yb ?_;first|refine yc ?_)|refine yy hgs ?_;clear hgs)|(refine yn (zgn hgs) ?_;clear hgs)|((fail_if_success have:=zgy hgs);refine z_spl hgs (h1:=?_) (h2:=?_)<;>clear hgs<;>intro hg hr<;>try first|contradiction|exfalso;omega))|refine yz ?_|(refine yA ?_;first|(refine yB ?_;first|refine yC ?_)|refine yE ?_)|(refine yG ?_;intro hgs;first|(replace hgs:=zgy hgs;first|(refine yB ?_;first|refine yC ?_)|refine yY hgs ?_;clear hgs)|(refine yN (zgn hgs) ?_;clear hgs)|((fail_if_success have:=zgy hgs);refine z_spll hgs (h1:=?_) (h2:=?_)<;>clear hgs<;>intro hg hr<;>try first|contradiction|exfalso;omega))|refine yZ ?_|refine zst ?_|refine k_blk_other rfl ?_|(refine zk ?_ ?_<;>intro hc hr<;>try first|contradiction|exfalso;omega))
                all_goals first | (refine z_ret (hv := ?_) (ho := ?_) <;> first | rfl | (simp [go_sem, *]; done) | (simp_all; done) | (simp_all; omega)) | skip
            · have hws : wk es' 0 ((bsa st i).2 ++ [x]) = some (nx es' u x) := wk_snoc.2 ⟨u, hu, hy, rfl⟩
              have hbs : bIn es (lts r.toNat) (bsa st i) st (k + 1) = st2 ++ [(nx es (bsa st i).1 x, (bsa st i).2 ++ [x])] := by rw [hstep, bStep, if_pos ⟨h0, hin⟩]
              have hts := tab_set (z := z) (imF es' st2) (nx es' u x) h0
              rw [← imF_app hin hws] at hts
              have hK2 : CSt es es' (lts r.toNat) i (k + 1) (st2 ++ [(nx es (bsa st i).1 x, (bsa st i).2 ++ [x])]) := by
                have hnew : bsa (st2 ++ [(nx es (bsa st i).1 x, (bsa st i).2 ++ [x])]) st2.length = (nx es (bsa st i).1 x, (bsa st i).2 ++ [x]) := by simp [bsa]
                refine hK.next (List.prefix_append ..) (fun j h1 h2 => ?_) (by omega) fun _ _ => ⟨st2.length, by simp, by rw [hnew, hp2, hls], u, hu2, by rw [hls]; exact hy, by rw [hnew, hls]; exact hws⟩
                have : j = st2.length := by simp at h2; omega
                subst this
                rw [hnew]
                exact ⟨_, hws⟩
              clear hw him hK hC hB hB2 hbp hbp2 hz0 hz02 hu hu2 hws hall
              repeat' (first|(refine ya ?_;first|(refine yb ?_;first|refine yc ?_)|refine ye ?_)|(refine yg ?_;intro hgs;first|(replace hgs:=zgy hgs;first|(refine yb ?_;first|refine yc ?_)|refine yy hgs ?_;clear hgs)|(refine yn (zgn hgs) ?_;clear hgs)|((fail_if_success have:=zgy hgs);refine z_spl hgs (h1:=?_) (h2:=?_)<;>clear hgs<;>intro hg hr<;>try first|contradiction|exfalso;omega))|refine yz ?_|(refine yA ?_;first|(refine yB ?_;first|refine yC ?_)|refine yE ?_)|(refine yG ?_;intro hgs;first|(replace hgs:=zgy hgs;first|(refine yB ?_;first|refine yC ?_)|refine yY hgs ?_;clear hgs)|(refine yN (zgn hgs) ?_;clear hgs)|((fail_if_success have:=zgy hgs);refine z_spll hgs (h1:=?_) (h2:=?_)<;>clear hgs<;>intro hg hr<;>try first|contradiction|exfalso;omega))|refine yZ ?_|refine zst ?_|refine k_blk_other rfl ?_|(refine zk ?_ ?_<;>intro hc hr<;>try first|contradiction|exfalso;omega))
              (refine z_lop (k + 1) (hj := ?_) (hmu := ?_) (henv := ?_) (hobj := ?_); (· exact ⟨by omega, by rw [hbs]; exact hK2⟩); (· first | omega | (simp only; omega)); (· first | (simp [go_sem, AVm, CVm, lookS, hbs, hts, vxs_app, *]; done) | (simp [go_sem, AVm, CVm, lookS, hbs, hts, vxs_app, *] <;> (repeat' split) <;> first | omega | (simp_all; done) | (exfalso; omega) | (simp_all; omega))); (· first | (simp [go_sem, OBm, CVm, All2, lookS, hbs, hts, vxs_app, *]; done) | (simp [go_sem, OBm, CVm, All2, lookS, hbs, hts, vxs_app, *] <;> (repeat' split) <;> first | omega | (simp_all; done) | (exfalso; omega) | (simp_all; omega))))
          · have hno : homB es es' = false := homB_not fun ⟨f, f0, hfm⟩ => by
              have e1 := hom_at hz02 hbp2 f0 hfm (j := i) (by omega) hu2
              rw [hp2] at e1
              have e2 := (hfm _ _ h0).1
              rw [← e1] at e2
              exact hy e2
            rw [hno]
            clear hw him hK hC hB hB2 hbp hbp2 hz0 hz02 hu hu2 hall
            repeat' (first|(refine ya ?_;first|(refine yb ?_;first|refine yc ?_)|refine ye ?_)|(refine yg ?_;intro hgs;first|(replace hgs:=zgy hgs;first|(refine yb ?_;first|refine yc ?_)|refine yy hgs ?_;clear hgs)|(refine yn (zgn hgs) ?_;clear hgs)|((fail_if_success have:=zgy hgs);refine z_spl hgs (h1:=?_) (h2:=?_)<;>clear hgs<;>intro hg hr<;>try first|contradiction|exfalso;omega))|refine yz ?_|(refine yA ?_;first|(refine yB ?_;first|refine yC ?_)|refine yE ?_)|(refine yG ?_;intro hgs;first|(replace hgs:=zgy hgs;first|(refine yB ?_;first|refine yC ?_)|refine yY hgs ?_;clear hgs)|(refine yN (zgn hgs) ?_;clear hgs)|((fail_if_success have:=zgy hgs);refine z_spll hgs (h1:=?_) (h2:=?_)<;>clear hgs<;>intro hg hr<;>try first|contradiction|exfalso;omega))|refine yZ ?_|refine zst ?_|refine k_blk_other rfl ?_|(refine zk ?_ ?_<;>intro hc hr<;>try first|contradiction|exfalso;omega))
            all_goals first | (refine z_ret (hv := ?_) (ho := ?_) <;> first | rfl | (simp [go_sem, *]; done) | (simp_all; done) | (simp_all; omega)) | skip
        · have hbs : bIn es (lts r.toNat) (bsa st i) st (k + 1) = st2 := by rw [hstep, bStep, if_neg (fun h => h0 h.1)]
          have hK2 : CSt es es' (lts r.toNat) i (k + 1) st2 := hK.next (List.prefix_refl _) (fun j h1 h2 => by omega) (by omega) fun _ h => by rw [hp2, hls] at h; exact (h0 h).elim
          clear hw him hK hC hB hB2 hbp hbp2 hz0 hz02 hu hu2 hall
          repeat' (first|(refine ya ?_;first|(refine yb ?_;first|refine yc ?_)|refine ye ?_)|(refine yg ?_;intro hgs;first|(replace hgs:=zgy hgs;first|(refine yb ?_;first|refine yc ?_)|refine yy hgs ?_;clear hgs)|(refine yn (zgn hgs) ?_;clear hgs)|((fail_if_success have:=zgy hgs);refine z_spl hgs (h1:=?_) (h2:=?_)<;>clear hgs<;>intro hg hr<;>try first|contradiction|exfalso;omega))|refine yz ?_|(refine yA ?_;first|(refine yB ?_;first|refine yC ?_)|refine yE ?_)|(refine yG ?_;intro hgs;first|(replace hgs:=zgy hgs;first|(refine yB ?_;first|refine yC ?_)|refine yY hgs ?_;clear hgs)|(refine yN (zgn hgs) ?_;clear hgs)|((fail_if_success have:=zgy hgs);refine z_spll hgs (h1:=?_) (h2:=?_)<;>clear hgs<;>intro hg hr<;>try first|contradiction|exfalso;omega))|refine yZ ?_|refine zst ?_|refine k_blk_other rfl ?_|(refine zk ?_ ?_<;>intro hc hr<;>try first|contradiction|exfalso;omega))
          (refine z_lop (k + 1) (hj := ?_) (hmu := ?_) (henv := ?_) (hobj := ?_); (· exact ⟨by omega, by rw [hbs]; exact hK2⟩); (· first | omega | (simp only; omega)); (· first | (simp [go_sem, AVm, CVm, lookS, hbs, *]; done) | (simp [go_sem, AVm, CVm, lookS, hbs, *] <;> (repeat' split) <;> first | omega | (simp_all; done) | (exfalso; omega) | (simp_all; omega))); (· first | (simp [go_sem, OBm, CVm, All2, lookS, hbs, *]; done) | (simp [go_sem, OBm, CVm, All2, lookS, hbs, *] <;> (repeat' split) <;> first | omega | (simp_all; done) | (exfalso; omega) | (simp_all; omega))))
      · have hkk : k = (lts r.toNat).length := by omega
        subst hkk
        have hK2 := hK.turn (Nat.le_refl _)
        rw [← hbo] at hl2 hK2
        clear hK hC hB hB2 hbp hbp2 hz0 hz02 hall hu
        repeat' (first|(refine ya ?_;first|(refine yb ?_;first|refine yc ?_)|refine ye ?_)|(refine yg ?_;intro hgs;first|(replace hgs:=zgy hgs;first|(refine yb ?_;first|refine yc ?_)|refine yy hgs ?_;clear hgs)|(refine yn (zgn hgs) ?_;clear hgs)|((fail_if_success have:=zgy hgs);refine z_spl hgs (h1:=?_) (h2:=?_)<;>clear hgs<;>intro hg hr<;>try first|contradiction|exfalso;omega))|refine yz ?_|(refine yA ?_;first|(refine yB ?_;first|refine yC ?_)|refine yE ?_)|(refine yG ?_;intro hgs;first|(replace hgs:=zgy hgs;first|(refine yB ?_;first|refine yC ?_)|refine yY hgs ?_;clear hgs)|(refine yN (zgn hgs) ?_;clear hgs)|((fail_if_success have:=zgy hgs);refine z_spll hgs (h1:=?_) (h2:=?_)<;>clear hgs<;>intro hg hr<;>try first|contradiction|exfalso;omega))|refine yZ ?_|refine zst ?_|refine k_blk_other rfl ?_|(refine zk ?_ ?_<;>intro hc hr<;>try first|contradiction|exfalso;omega))
        (refine z_lop (i + 1) (hj := ?_) (hmu := ?_) (henv := ?_) (hobj := ?_); (· exact ⟨by omega, hK2⟩); (· first | omega | (simp only; omega)); (· first | (simp [go_sem, AVm, CVm, lookS, hbo, *]; done) | (simp [go_sem, AVm, CVm, lookS, hbo, *] <;> (repeat' split) <;> first | omega | (simp_all; done) | (exfalso; omega) | (simp_all; omega))); (· first | (simp [go_sem, OBm, CVm, All2, lookS, hbo, *]; done) | (simp [go_sem, OBm, CVm, All2, lookS, hbo, *] <;> (repeat' split) <;> first | omega | (simp_all; done) | (exfalso; omega) | (simp_all; omega))))
    · have hfin := bfs_at hG (v := 0) (by omega) (show i = (bOut es (lts r.toNat) 0 i).length by omega)
      have hyes : homB es es' = true := homB_iff.2 (CSt.hom hf hall (by rw [hfin]; exact hC) (by rw [hfin]; exact hge))
      rw [hyes]
      clear hfin hC hB hbp hz0 hall
      generalize bOut es (lts r.toNat) 0 i = st at *
      repeat' (first|(refine ya ?_;first|(refine yb ?_;first|refine yc ?_)|refine ye ?_)|(refine yg ?_;intro hgs;first|(replace hgs:=zgy hgs;first|(refine yb ?_;first|refine yc ?_)|refine yy hgs ?_;clear hgs)|(refine yn (zgn hgs) ?_;clear hgs)|((fail_if_success have:=zgy hgs);refine z_spl hgs (h1:=?_) (h2:=?_)<;>clear hgs<;>intro hg hr<;>try first|contradiction|exfalso;omega))|refine yz ?_|(refine yA ?_;first|(refine yB ?_;first|refine yC ?_)|refine yE ?_)|(refine yG ?_;intro hgs;first|(replace hgs:=zgy hgs;first|(refine yB ?_;first|refine yC ?_)|refine yY hgs ?_;clear hgs)|(refine yN (zgn hgs) ?_;clear hgs)|((fail_if_success have:=zgy hgs);refine z_spll hgs (h1:=?_) (h2:=?_)<;>clear hgs<;>intro hg hr<;>try first|contradiction|exfalso;omega))|refine yZ ?_|refine zst ?_|refine k_blk_other rfl ?_|(refine zk ?_ ?_<;>intro hc hr<;>try first|contradiction|exfalso;omega))
      all_goals first | (refine z_ret (hv := ?_) (ho := ?_) <;> first | rfl | (simp [go_sem, *]; done) | (simp_all; done) | (simp_all; omega)) | skip
  · have hd : (true && true && decide (r = r') && homB es es') = false := by rw [decide_eq_false hr0]; rfl
    rw [hd]
    clear hd
    repeat' (first|(refine ya ?_;first|(refine yb ?_;first|refine yc ?_)|refine ye ?_)|(refine yg ?_;intro hgs;first|(replace hgs:=zgy hgs;first|(refine yb ?_;first|refine yc ?_)|refine yy hgs ?_;clear hgs)|(refine yn (zgn hgs) ?_;clear hgs)|((fail_if_success have:=zgy hgs);refine z_spl hgs (h1:=?_) (h2:=?_)<;>clear hgs<;>intro hg hr<;>try first|contradiction|exfalso;omega))|refine yz ?_|(refine yA ?_;first|(refine yB ?_;first|refine yC ?_)|refine yE ?_)|(refine yG ?_;intro hgs;first|(replace hgs:=zgy hgs;first|(refine yB ?_;first|refine yC ?_)|refine yY hgs ?_;clear hgs)|(refine yN (zgn hgs) ?_;clear hgs)|((fail_if_success have:=zgy hgs);refine z_spll hgs (h1:=?_) (h2:=?_)<;>clear hgs<;>intro hg hr<;>try first|contradiction|exfalso;omega))|refine yZ ?_|refine zst ?_|refine k_blk_other rfl ?_|(refine zk ?_ ?_<;>intro hc hr<;>try first|contradiction|exfalso;omega))
    all_goals first | (refine z_ret (hv := ?_) (ho := ?_) <;> first | rfl | (simp [go_sem, *]; done) | (simp_all; done) | (simp_all; omega)) | skip
instance : Con Tryz.prog 10 inside_sat2_S := con inside_sat2 Tryz.func10
end Go.Proofs.Tryz
