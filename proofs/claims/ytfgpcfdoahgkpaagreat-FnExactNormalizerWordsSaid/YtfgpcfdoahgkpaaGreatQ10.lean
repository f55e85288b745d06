import Derived.Test.YtfgpcfdoahgkpaaGreatQ8
import Derived.Test.YtfgpcfdoahgkpaaGreatK
import Derived.Test.YtfgpcfdoahgkpaaGreatG5
set_option linter.unusedVariables false
set_option linter.unusedSimpArgs false
set_option linter.unnecessarySimpa false
namespace Go.Proofs.Tryz
open Go Go.Eng
set_option linter.unnecessarySimpa false
set_option linter.unusedSimpArgs false
set_option maxHeartbeats 4000000
theorem fx_end {r : Int} {es : List Ed} {v : Int} {k : Nat} (hk : k ≤ 2 * r.toNat) (hge : 2 * r.toNat ≤ k) (h : fxN es v (lts r.toNat) k = 0) : fx r es v = 0 := by
  have hl := lts_len r.toNat
  unfold fx
  rw [show (lts r.toNat).length = k by omega]
  exact h
def K_cyc_sat : Nat → List Nat := fun i => ([[1, 2], [1, 2, 4], [1, 2, 4, 5], [2, 4, 5, 14], [2, 3], [2, 4, 5, 24], [2, 4, 5, 27, 28, 29], [2, 4, 5, 27, 28, 29, 30], [2, 4, 5, 7, 27, 28, 29], [2, 4, 5, 7, 8, 27, 28, 29], [2, 4, 5, 7, 8, 27, 28, 29, 37], [2, 4, 5, 7], [2, 4, 5], [2, 4, 5, 27, 28, 29], [2, 3]] : List (List Nat)).getD i []
attribute [go_sem] K_cyc_sat
def cyc_sat_S : Eng.Spec := fun args av objs => ∃ (r z : Int) (es : List Ed), (es.length ≤ 1048576) ∧ args = [grA r z es] ∧ av = .tup [gT (cyG ⟨r, z, es⟩).1, .one (.ref 1)] ∧ objs = [oE 68 (cyG ⟨r, z, es⟩).1.es, oL 3 (cyG ⟨r, z, es⟩).2]
theorem cyc_sat : Sat Tryz.prog 47 cyc_sat_S := by
  refine sat_of tok okr mixed K_cyc_sat Tryz.func47 rfl (rs := [.cell 2 31, .tmp 3]) rfl Tryz.ntmps47 ?_
  rintro args av objs ⟨r, z, es, hpre, rfl, rfl, rfl⟩
  refine ⟨by show 1 ≤ 51; decide, ?_⟩
  cases hok : isC r z es
  · rw [cyG_no (g := ⟨r, z, es⟩) hok]
    repeat' (first|(refine ya ?_;first|(refine yb ?_;first|refine yc ?_)|refine ye ?_)|(refine yg ?_;intro hgs;first|(replace hgs:=zgy hgs;first|(refine yb ?_;first|refine yc ?_)|refine yy hgs ?_;clear hgs)|(refine yn (zgn hgs) ?_;clear hgs)|((fail_if_success have:=zgy hgs);refine z_spl hgs (h1:=?_) (h2:=?_)<;>clear hgs<;>intro hg hr<;>try first|contradiction|exfalso;omega))|refine yz ?_|refine zst ?_|refine k_blk_other rfl ?_|(refine zk ?_ ?_<;>intro hc hr<;>try first|contradiction|exfalso;omega))
    all_goals first | (refine z_ret (hv := ?_) (ho := ?_) <;> first | rfl | (simp [go_sem, *]; done) | (simp_all; done) | (simp_all; omega)) | skip
  · have hf := isC_f hok
    repeat' (first|(refine ya ?_;first|(refine yb ?_;first|refine yc ?_)|refine ye ?_)|(refine yg ?_;intro hgs;first|(replace hgs:=zgy hgs;first|(refine yb ?_;first|refine yc ?_)|refine yy hgs ?_;clear hgs)|(refine yn (zgn hgs) ?_;clear hgs)|((fail_if_success have:=zgy hgs);refine z_spl hgs (h1:=?_) (h2:=?_)<;>clear hgs<;>intro hg hr<;>try first|contradiction|exfalso;omega))|refine yz ?_|refine zst ?_|refine k_blk_other rfl ?_|(refine zk ?_ ?_<;>intro hc hr<;>try first|contradiction|exfalso;omega))
    refine z_loop (fun i : Nat => [(14, .dead)]) (fun i : Nat => [.cell 4 0 (.sc (.int (cyN ⟨r, z, es⟩ i).1.r)), .cell 4 1 (.sc (.int (cyN ⟨r, z, es⟩ i).1.z)), .inner 4 (oE 68 (cyN ⟨r, z, es⟩ i).1.es), .obj 5 (oL 3 (cyN ⟨r, z, es⟩ i).2)]) (fun i : Nat => i ≤ 40) (fun i : Nat => 40 - i) (0) (h0 := ?_) (henv := ?_) (hobj := ?_) (h := ?_)
    · omega
    · simp [go_sem, AVm, CVm, lookS, cyN]
    · simp [go_sem, OBm, CVm, lookS, All2, cyN]
    intro i hi
    obtain ⟨h1, h2, h3, h4, h5⟩ := cyN_ok (g := ⟨r, z, es⟩) hf i
    have hend := fun h => cyG_at (g := ⟨r, z, es⟩) hok (i := i) h (by omega)
    have hstep := fun h => cyN_on (g := ⟨r, z, es⟩) (i := i) h
    have hlt := fun h => cyN_lt (g := ⟨r, z, es⟩) hf (i := i) h
    generalize cyN ⟨r, z, es⟩ i = t1 at *
    obtain ⟨⟨r1, z1, es1⟩, l1⟩ := t1
    simp only at h1 h2 h3 hend hstep hlt ⊢
    clear h4 h5
    have hz1 := isG_z (isF_g h1)
    by_cases hc : cyOn ⟨r1, z1, es1⟩
    · have hs := hstep hc
      have hi39 := hlt hc
      have hn := fx_nx h1 hc.2
      have hc1 : 1 < z1 := hc.1
      have hc2 : deg es1 0 = 1 := hc.2
      clear hend hstep hlt hc
      repeat' (first|(refine ya ?_;first|(refine yb ?_;first|refine yc ?_)|refine ye ?_)|(refine yg ?_;intro hgs;first|(replace hgs:=zgy hgs;first|(refine yb ?_;first|refine yc ?_)|refine yy hgs ?_;clear hgs)|(refine yn (zgn hgs) ?_;clear hgs)|((fail_if_success have:=zgy hgs);refine z_spl hgs (h1:=?_) (h2:=?_)<;>clear hgs<;>intro hg hr<;>try first|contradiction|exfalso;omega))|refine yz ?_|refine zst ?_|refine k_blk_other rfl ?_|(refine zk ?_ ?_<;>intro hc hr<;>try first|contradiction|exfalso;omega))
      refine z_loop (fun k : Nat => [(29, aI k)]) (fun k : Nat => []) (fun k : Nat => k ≤ 2 * r1.toNat ∧ fxN es1 0 (lts r1.toNat) k = 0) (fun k : Nat => 2 * r1.toNat - k) (0) (h0 := ?_) (henv := ?_) (hobj := ?_) (h := ?_)
      · exact ⟨by omega, rfl⟩
      · simp [go_sem, AVm, CVm, lookS]
      · simp [go_sem, OBm, CVm, lookS, All2]
      rintro k ⟨hk, hK⟩
      clear hgs
      have hll := lts_len r1.toNat
      rcases Nat.lt_or_ge k (2 * r1.toNat) with hlt2 | hge2
      · have hlx := lts_ix hlt2
        repeat' (first|(refine ya ?_;first|(refine yb ?_;first|refine yc ?_)|refine ye ?_)|(refine yg ?_;intro hgs;first|(replace hgs:=zgy hgs;first|(refine yb ?_;first|refine yc ?_)|refine yy hgs ?_;clear hgs)|(refine yn (zgn hgs) ?_;clear hgs)|((fail_if_success have:=zgy hgs);refine z_spl hgs (h1:=?_) (h2:=?_)<;>clear hgs<;>intro hg hr<;>try first|contradiction|exfalso;omega))|refine yz ?_|refine zst ?_|refine k_blk_other rfl ?_|(refine zk ?_ ?_<;>intro hc hr<;>try first|contradiction|exfalso;omega))
        · rw [fx_at (k := k) (by omega) hK (by omega) (by omega)] at hs
          (refine z_lop (i + 1) (hj := ?_) (hmu := ?_) (henv := ?_) (hobj := ?_); (· omega); (· first | omega | (simp only; omega)); (· first | (simp [go_sem, AVm, CVm, lookS, hs, *]; done) | (simp [go_sem, AVm, CVm, lookS, hs, *] <;> (repeat' split) <;> first | omega | (simp_all; done) | (exfalso; omega) | (simp_all; omega))); (· first | (simp [go_sem, OBm, CVm, All2, lookS, hs, *]; done) | (simp [go_sem, OBm, CVm, All2, lookS, hs, *] <;> (repeat' split) <;> first | omega | (simp_all; done) | (exfalso; omega) | (simp_all; omega))))
        · exact zl (k + 1) (hj := by exact ⟨by omega, fxN_next hK (by omega)⟩)
      · exfalso
        have := fx_end hk hge2 hK
        omega
    · have hno : ¬ 1 < z1 ∨ ¬ deg es1 0 = 1 := by
        by_cases h : 1 < z1
        · exact .inr fun h6 => hc ⟨h, h6⟩
        · exact .inl h
      rw [hend hc]
      clear hend hstep hlt hc
      repeat' (first|(refine ya ?_;first|(refine yb ?_;first|refine yc ?_)|refine ye ?_)|(refine yg ?_;intro hgs;first|(replace hgs:=zgy hgs;first|(refine yb ?_;first|refine yc ?_)|refine yy hgs ?_;clear hgs)|(refine yn (zgn hgs) ?_;clear hgs)|((fail_if_success have:=zgy hgs);refine z_spl hgs (h1:=?_) (h2:=?_)<;>clear hgs<;>intro hg hr<;>try first|contradiction|exfalso;omega))|refine yz ?_|refine zst ?_|refine k_blk_other rfl ?_|(refine zk ?_ ?_<;>intro hc hr<;>try first|contradiction|exfalso;omega))
      all_goals first | (refine z_ret (hv := ?_) (ho := ?_) <;> first | rfl | (simp [go_sem, *]; done) | (simp_all; done) | (simp_all; omega)) | skip
instance : Con Tryz.prog 47 cyc_sat_S := con cyc_sat Tryz.func47
def K_cyc_sat2 : Nat → List Nat := fun i => ([[1, 2], [1, 2, 4], [1, 2, 4, 13], [2, 3], [2, 4, 5], [2, 4, 5, 6], [2, 4, 5, 6, 30], [2, 4, 5, 6], [2, 4, 5, 6, 7], [2, 4, 5, 6, 7, 8], [2, 4, 5, 6, 7, 8, 39], [2, 4, 5, 6, 7, 8], [2, 4, 5, 6, 7, 8, 9], [2, 4, 5, 6, 7, 8, 9, 49], [2, 4, 5, 6, 9], [2, 4, 5, 6], [2, 3]] : List (List Nat)).getD i []
attribute [go_sem] K_cyc_sat2
def cyc_sat2_S : Eng.Spec := fun args av objs => ∃ (r z : Int) (es : List Ed), (es.length ≤ 1048576) ∧ args = [grA r z es] ∧ av = .tup [gT (cyG ⟨r, z, es⟩).1, .one (.ref 1)] ∧ objs = [oE 68 (cyG ⟨r, z, es⟩).1.es, oL 3 (cyG ⟨r, z, es⟩).2]
theorem cyc_sat2 : Sat Tryz.prog 39 cyc_sat2_S := by
  refine sat_of tok okr mixed K_cyc_sat2 Tryz.func39 rfl (rs := [.cell 2 31, .tmp 3]) rfl Tryz.ntmps39 ?_
  rintro args av objs ⟨r, z, es, hpre, rfl, rfl, rfl⟩
  refine ⟨by show 1 ≤ 65; decide, ?_⟩
  cases hok : isC r z es
  · rw [cyG_no (g := ⟨r, z, es⟩) hok]
    repeat' (first|(refine ya ?_;first|(refine yb ?_;first|refine yc ?_)|refine ye ?_)|(refine yg ?_;intro hgs;first|(replace hgs:=zgy hgs;first|(refine yb ?_;first|refine yc ?_)|refine yy hgs ?_;clear hgs)|(refine yn (zgn hgs) ?_;clear hgs)|((fail_if_success have:=zgy hgs);refine z_spl hgs (h1:=?_) (h2:=?_)<;>clear hgs<;>intro hg hr<;>try first|contradiction|exfalso;omega))|refine yz ?_|(refine yA ?_;first|(refine yB ?_;first|refine yC ?_)|refine yE ?_)|(refine yG ?_;intro hgs;first|(replace hgs:=zgy hgs;first|(refine yB ?_;first|refine yC ?_)|refine yY hgs ?_;clear hgs)|(refine yN (zgn hgs) ?_;clear hgs)|((fail_if_success have:=zgy hgs);refine z_spll hgs (h1:=?_) (h2:=?_)<;>clear hgs<;>intro hg hr<;>try first|contradiction|exfalso;omega))|refine yZ ?_|refine zst ?_|refine k_blk_other rfl ?_|(refine zk ?_ ?_<;>intro hc hr<;>try first|contradiction|exfalso;omega))
    all_goals first | (refine z_ret (hv := ?_) (ho := ?_) <;> first | rfl | (simp [go_sem, *]; done) | (simp_all; done) | (simp_all; omega)) | skip
  · have hf := isC_f hok
    repeat' (first|(refine ya ?_;first|(refine yb ?_;first|refine yc ?_)|refine ye ?_)|(refine yg ?_;intro hgs;first|(replace hgs:=zgy hgs;first|(refine yb ?_;first|refine yc ?_)|refine yy hgs ?_;clear hgs)|(refine yn (zgn hgs) ?_;clear hgs)|((fail_if_success have:=zgy hgs);refine z_spl hgs (h1:=?_) (h2:=?_)<;>clear hgs<;>intro hg hr<;>try first|contradiction|exfalso;omega))|refine yz ?_|(refine yA ?_;first|(refine yB ?_;first|refine yC ?_)|refine yE ?_)|(refine yG ?_;intro hgs;first|(replace hgs:=zgy hgs;first|(refine yB ?_;first|refine yC ?_)|refine yY hgs ?_;clear hgs)|(refine yN (zgn hgs) ?_;clear hgs)|((fail_if_success have:=zgy hgs);refine z_spll hgs (h1:=?_) (h2:=?_)<;>clear hgs<;>intro hg hr<;>try first|contradiction|exfalso;omega))|refine yZ ?_|refine zst ?_|refine k_blk_other rfl ?_|(refine zk ?_ ?_<;>intro hc hr<;>try first|contradiction|exfalso;omega))
    refine z_loop (fun i : Nat => [(6, aI i)]) (fun i : Nat => [.cell 5 0 (.sc (.int (cyN ⟨r, z, es⟩ i).1.r)), .cell 5 1 (.sc (.int (cyN ⟨r, z, es⟩ i).1.z)), .inner 5 (oE 68 (cyN ⟨r, z, es⟩ i).1.es), .obj 4 (oL 3 (cyN ⟨r, z, es⟩ i).2)]) (fun i : Nat => i ≤ 40) (fun i : Nat => 40 - i) (0) (h0 := ?_) (henv := ?_) (hobj := ?_) (h := ?_)
    · omega
    · simp [go_sem, AVm, CVm, lookS, cyN]
    · simp [go_sem, OBm, CVm, lookS, All2, cyN]
    intro i hi
    obtain ⟨h1, h2, h3, h4, h5⟩ := cyN_ok (g := ⟨r, z, es⟩) hf i
    have hend := fun h => cyG_at (g := ⟨r, z, es⟩) hok (i := i) h (by omega)
    have hstep := fun h => cyN_on (g := ⟨r, z, es⟩) (i := i) h
    have hlt := fun h => cyN_lt (g := ⟨r, z, es⟩) hf (i := i) h
    generalize cyN ⟨r, z, es⟩ i = t1 at *
    obtain ⟨⟨r1, z1, es1⟩, l1⟩ := t1
    simp only at h1 h2 h3 hend hstep hlt ⊢
    clear h4 h5
    have hz1 := isG_z (isF_g h1)
    by_cases hc : cyOn ⟨r1, z1, es1⟩
    · have hs := hstep hc
      have hi39 := hlt hc
      have hn := fx_nx h1 hc.2
      have hc1 : 1 < z1 := hc.1
      have hc2 : deg es1 0 = 1 := hc.2
      clear hend hstep hlt hc
      repeat' (first|(refine ya ?_;first|(refine yb ?_;first|refine yc ?_)|refine ye ?_)|(refine yg ?_;intro hgs;first|(replace hgs:=zgy hgs;first|(refine yb ?_;first|refine yc ?_)|refine yy hgs ?_;clear hgs)|(refine yn (zgn hgs) ?_;clear hgs)|((fail_if_success have:=zgy hgs);refine z_spl hgs (h1:=?_) (h2:=?_)<;>clear hgs<;>intro hg hr<;>try first|contradiction|exfalso;omega))|refine yz ?_|(refine yA ?_;first|(refine yB ?_;first|refine yC ?_)|refine yE ?_)|(refine yG ?_;intro hgs;first|(replace hgs:=zgy hgs;first|(refine yB ?_;first|refine yC ?_)|refine yY hgs ?_;clear hgs)|(refine yN (zgn hgs) ?_;clear hgs)|((fail_if_success have:=zgy hgs);refine z_spll hgs (h1:=?_) (h2:=?_)<;>clear hgs<;>intro hg hr<;>try first|contradiction|exfalso;omega))|refine yZ ?_|refine zst ?_|refine k_blk_other rfl ?_|(refine zk ?_ ?_<;>intro hc hr<;>try first|contradiction|exfalso;omega))
      refine z_loop (fun k : Nat => [(8, aI k)]) (fun k : Nat => []) (fun k : Nat => k ≤ 2 * r1.toNat ∧ fxN es1 0 (lts r1.toNat) k = 0) (fun k : Nat => 2 * r1.toNat - k) (0) (h0 := ?_) (henv := ?_) (hobj := ?_) (h := ?_)
      · exact ⟨by omega, rfl⟩
      · simp [go_sem, AVm, CVm, lookS]
      · simp [go_sem, OBm, CVm, lookS, All2]
      rintro k ⟨hk, hK⟩
      have hll := lts_len r1.toNat
      rcases Nat.lt_or_ge k (2 * r1.toNat) with hlt2 | hge2
      · have hlx := lts_ix hlt2
        repeat' (first|(refine ya ?_;first|(refine yb ?_;first|refine yc ?_)|refine ye ?_)|(refine yg ?_;intro hgs;first|(replace hgs:=zgy hgs;first|(refine yb ?_;first|refine yc ?_)|refine yy hgs ?_;clear hgs)|(refine yn (zgn hgs) ?_;clear hgs)|((fail_if_success have:=zgy hgs);refine z_spl hgs (h1:=?_) (h2:=?_)<;>clear hgs<;>intro hg hr<;>try first|contradiction|exfalso;omega))|refine yz ?_|(refine yA ?_;first|(refine yB ?_;first|refine yC ?_)|refine yE ?_)|(refine yG ?_;intro hgs;first|(replace hgs:=zgy hgs;first|(refine yB ?_;first|refine yC ?_)|refine yY hgs ?_;clear hgs)|(refine yN (zgn hgs) ?_;clear hgs)|((fail_if_success have:=zgy hgs);refine z_spll hgs (h1:=?_) (h2:=?_)<;>clear hgs<;>intro hg hr<;>try first|contradiction|exfalso;omega))|refine yZ ?_|refine zst ?_|refine k_blk_other rfl ?_|(refine zk ?_ ?_<;>intro hc hr<;>try first|contradiction|exfalso;omega))
        · rw [fx_at (k := k) (by omega) hK (by omega) (by omega)] at hs
          (refine z_lop (i + 1) (hj := ?_) (hmu := ?_) (henv := ?_) (hobj := ?_); (· omega); (· first | omega | (simp only; omega)); (· first | (simp [go_sem, AVm, CVm, lookS, hs, *]; done) | (simp [go_sem, AVm, CVm, lookS, hs, *] <;> (repeat' split) <;> first | omega | (simp_all; done) | (exfalso; omega) | (simp_all; omega))); (· first | (simp [go_sem, OBm, CVm, All2, lookS, hs, *]; done) | (simp [go_sem, OBm, CVm, All2, lookS, hs, *] <;> (repeat' split) <;> first | omega | (simp_all; done) | (exfalso; omega) | (simp_all; omega))))
        · exact zl (k + 1) (hj := by exact ⟨by omega, fxN_next hK (by omega)⟩)
      · exfalso
        have := fx_end hk hge2 hK
        omega
    · have hno : ¬ 1 < z1 ∨ ¬ deg es1 0 = 1 := by
        by_cases h : 1 < z1
        · exact .inr fun h6 => hc ⟨h, h6⟩
        · exact .inl h
      rw [hend hc]
      clear hend hstep hlt hc
      repeat' (first|(refine ya ?_;first|(refine yb ?_;first|refine yc ?_)|refine ye ?_)|(refine yg ?_;intro hgs;first|(replace hgs:=zgy hgs;first|(refine yb ?_;first|refine yc ?_)|refine yy hgs ?_;clear hgs)|(refine yn (zgn hgs) ?_;clear hgs)|((fail_if_success have:=zgy hgs);refine z_spl hgs (h1:=?_) (h2:=?_)<;>clear hgs<;>intro hg hr<;>try first|contradiction|exfalso;omega))|refine yz ?_|(refine yA ?_;first|(refine yB ?_;first|refine yC ?_)|refine yE ?_)|(refine yG ?_;intro hgs;first|(replace hgs:=zgy hgs;first|(refine yB ?_;first|refine yC ?_)|refine yY hgs ?_;clear hgs)|(refine yN (zgn hgs) ?_;clear hgs)|((fail_if_success have:=zgy hgs);refine z_spll hgs (h1:=?_) (h2:=?_)<;>clear hgs<;>intro hg hr<;>try first|contradiction|exfalso;omega))|refine yZ ?_|refine zst ?_|refine k_blk_other rfl ?_|(refine zk ?_ ?_<;>intro hc hr<;>try first|contradiction|exfalso;omega))
      all_goals first | (refine z_ret (hv := ?_) (ho := ?_) <;> first | rfl | (simp [go_sem, *]; done) | (simp_all; done) | (simp_all; omega)) | skip
noncomputable def nzW (r z : Int) (es : List Ed) : List (List Int) := if isFi r z es = true then nzN r z es z.toNat else []
theorem isFi_c {r z : Int} {es : List Ed} (h : isFi r z es = true) : isC r z es = true := by
  simp only [isFi, Bool.and_eq_true] at h; exact h.1
theorem nzW_len {r z : Int} {es : List Ed} : (nzW r z es).length ≤ 40 := by
  unfold nzW
  split
  · rename_i h
    have := isG_z (isF_g (isC_f (isFi_c h)))
    have := nzN_len r z es z.toNat
    omega
  · simp
instance : Con Tryz.prog 39 cyc_sat2_S := con cyc_sat2 Tryz.func39
def K_normW_no : Nat → List Nat := fun i => ([[1], [1, 3], [1, 3, 10], [2], [1, 3, 4], [1, 3, 4, 15], [1, 3, 4], [1, 3, 4, 5], [1, 3, 4, 26], [1, 3, 4], [2]] : List (List Nat)).getD i []
attribute [go_sem] K_normW_no
def normW_no_S : Eng.Spec := fun args av objs => ∃ (r z : Int) (es : List Ed), (es.length ≤ 1048576 ∧ isFi r z es = false) ∧ args = [grA r z es] ∧ av = aR 0 ∧ objs = [.rows 26 3 (.own true) (osW [])]
theorem normW_no : Sat Tryz.prog 34 normW_no_S := by
  refine sat_of tok okr mixed K_normW_no Tryz.func34 rfl (rs := [.tmp 2]) rfl Tryz.ntmps34 ?_
  rintro args av objs ⟨r, z, es, hpre, rfl, rfl, rfl⟩
  refine ⟨by show 1 ≤ 34; decide, ?_⟩
  obtain ⟨he, hok⟩ := hpre
  repeat' (first|(refine ya ?_;first|(refine yb ?_;first|refine yc ?_)|refine ye ?_)|refine yz ?_|refine zst ?_|refine k_blk_other rfl ?_|(refine zk ?_ ?_<;>intro hc hr<;>try first|contradiction|exfalso;omega))
  refine z_retT 56 (hv := ?_) (ho := ?_) <;> rfl
instance : Con Tryz.prog 34 normW_no_S := con normW_no Tryz.func34
def K_normW_yes : Nat → List Nat := fun i => ([[1], [1, 3], [1, 3, 10], [2], [1, 3, 4], [1, 3, 4, 15], [1, 3, 4], [1, 3, 4, 5], [1, 3, 4, 26], [1, 3, 4], [2]] : List (List Nat)).getD i []
attribute [go_sem] K_normW_yes
def normW_yes_S : Eng.Spec := fun args av objs => ∃ (r z : Int) (es : List Ed), (es.length ≤ 1048576 ∧ isFi r z es = true) ∧ args = [grA r z es] ∧ av = aR 0 ∧ objs = [.rows 26 3 (.own false) (osW (nzN r z es z.toNat))]
theorem normW_yes : Sat Tryz.prog 34 normW_yes_S := by
  refine sat_of tok okr mixed K_normW_yes Tryz.func34 rfl (rs := [.tmp 2]) rfl Tryz.ntmps34 ?_
  rintro args av objs ⟨r, z, es, hpre, rfl, rfl, rfl⟩
  refine ⟨by show 1 ≤ 34; decide, ?_⟩
  obtain ⟨hes, hok⟩ := hpre
  have hz := isG_z (isF_g (isC_f (isFi_c hok)))
  repeat' (first|(refine ya ?_;first|(refine yb ?_;first|refine yc ?_)|refine ye ?_)|refine yz ?_|refine zst ?_|refine k_blk_other rfl ?_|(refine zk ?_ ?_<;>intro hc hr<;>try first|contradiction|exfalso;omega))
  refine z_loop (fun v : Nat => [(4, aI v)]) (fun v : Nat => [.obj 3 (.rows 26 3 (.loc false) (osW (nzN r z es v)))]) (fun v : Nat => v ≤ z.toNat) (fun v : Nat => z.toNat - v) (0) (h0 := ?_) (henv := ?_) (hobj := ?_) (h := ?_)
  · omega
  · simp [go_sem, AVm, CVm, lookS, nzN, osW_nil]
  · simp [go_sem, OBm, CVm, lookS, All2, nzN, osW_nil]
  intro v hv
  have hnl := nzN_len r z es v
  rcases Nat.lt_or_ge v z.toNat with hlt | hge
  · have hme := movG_es (g := ⟨r, z, es⟩) (v := v) (n := 1048576) hes (by omega)
    by_cases he : (movG ⟨r, z, es⟩ v).r = r ∧ (movG ⟨r, z, es⟩ v).z = z ∧ (movG ⟨r, z, es⟩ v).es = es
    · have hs : nzN r z es (v + 1) = nzN r z es v ++ [pw r z es 0 v] := by rw [nzN, if_pos he]
      repeat' (first|(refine ya ?_;first|(refine yb ?_;first|refine yc ?_)|refine ye ?_)|refine yz ?_|refine zst ?_|refine k_blk_other rfl ?_|(refine zk ?_ ?_<;>intro hc hr<;>try first|contradiction|exfalso;omega))
      (refine z_lop (v + 1) (hj := ?_) (hmu := ?_) (henv := ?_) (hobj := ?_); (· omega); (· first | omega | (simp only; omega)); (· first | (simp [go_sem, AVm, CVm, lookS, hs, *]; done) | (simp [go_sem, AVm, CVm, lookS, hs, *] <;> (repeat' split) <;> first | omega | (simp_all; done) | (exfalso; omega) | (simp_all; omega))); (· first | (simp [go_sem, OBm, CVm, All2, lookS, hs, *]; done) | (simp [go_sem, OBm, CVm, All2, lookS, hs, *] <;> (repeat' split) <;> first | omega | (simp_all; done) | (exfalso; omega) | (simp_all; omega))))
    · have hs : nzN r z es (v + 1) = nzN r z es v := by rw [nzN, if_neg he]
      repeat' (first|(refine ya ?_;first|(refine yb ?_;first|refine yc ?_)|refine ye ?_)|refine yz ?_|refine zst ?_|refine k_blk_other rfl ?_|(refine zk ?_ ?_<;>intro hc hr<;>try first|contradiction|exfalso;omega))
      (refine z_lop (v + 1) (hj := ?_) (hmu := ?_) (henv := ?_) (hobj := ?_); (· omega); (· first | omega | (simp only; omega)); (· first | (simp [go_sem, AVm, CVm, lookS, hs, *]; done) | (simp [go_sem, AVm, CVm, lookS, hs, *] <;> (repeat' split) <;> first | omega | (simp_all; done) | (exfalso; omega) | (simp_all; omega))); (· first | (simp [go_sem, OBm, CVm, All2, lookS, hs, *]; done) | (simp [go_sem, OBm, CVm, All2, lookS, hs, *] <;> (repeat' split) <;> first | omega | (simp_all; done) | (exfalso; omega) | (simp_all; omega))))
  · have hvv : v = z.toNat := by omega
    subst hvv
    repeat' (first|(refine ya ?_;first|(refine yb ?_;first|refine yc ?_)|refine ye ?_)|refine yz ?_|refine zst ?_|refine k_blk_other rfl ?_|(refine zk ?_ ?_<;>intro hc hr<;>try first|contradiction|exfalso;omega))
    refine z_retT 56 (hv := ?_) (ho := ?_) <;> rfl
instance (priority := 2000) : Con Tryz.prog 34 (orS normW_no_S normW_yes_S) := con2 normW_no normW_yes Tryz.func34
end Go.Proofs.Tryz
