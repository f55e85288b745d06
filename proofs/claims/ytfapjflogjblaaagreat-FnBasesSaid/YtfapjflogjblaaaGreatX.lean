import Derived.Test.YtfapjflogjblaaaGreatC
import Derived.Test.YtfapjflogjblaaaGreatA
set_option maxHeartbeats 16000000
set_option maxRecDepth 20000
set_option linter.unusedVariables false
set_option linter.unusedSimpArgs false
set_option linter.unnecessarySimpa false
namespace Go.Proofs.Tryz
open Go Go.Eng
theorem jn_lf {g : Gr} {v : Int} (h0 : 0 ≤ v) (h1 : v < g.z) : lf g v = (decide (deg g.es v < 2) || !bx (jn g.es 0 g.z) v.toNat) := by
  classical
  unfold lf
  congr 2
  rw [decide_eq_decide (q := Rch g.es 0 v) |>.2 (rl_mem.trans ⟨fun h => h.2, fun h => ⟨⟨h0, h1⟩, h⟩⟩)]
  have : v.toNat < g.z.toNat := by omega
  simp only [bx, jn]
  rw [List.getD_eq_getElem?_getD, List.getElem?_map, List.getElem?_range this]
  simp only [Option.map_some, Option.getD_some]
  rw [show ((v.toNat : Nat) : Int) = v by omega]
theorem allN_0 : allN 0 = [] := rfl
@[go_sem] def K_trim_sat (i : Nat) : List Nat := ([[1,2],[1,2,4],[1,2,4,5],[1,2,4,5,17],[2,3],[1,2,4,5,6],[1,2,4,5,6,23],[1,2,4,5,6],[1,2,4,5,6],[2,4,5,7],[2,4,5,7,8],[2,4,5,7,8,9],[2,4,5,7,8,9,39],[2,4,5,7,8,9],[2,4,5,7,8,9,52],[2,4,5,7,8,9],[2,4,5,8,55],[2,3],[2,4,5,8,10],[2,4,5,8,10,11],[2,4,5,8,10,11,62],[2,4,5,8,10,11],[2,4,5,8,10,11,67],[2,4,5,8,10,11],[2,4,5,8],[2,4,5]]).getD i []
def trim_sat_S : Eng.Spec := fun args av objs => ∃ (r z : Int) (es : List Ed), (es.length ≤ 1048576) ∧ args = [grA r z es] ∧ av = .tup [gT (trimG ⟨r, z, es⟩).1, .one (.ref 1)] ∧ objs = [oE 65 (trimG ⟨r, z, es⟩).1.es, oL 3 (trimG ⟨r, z, es⟩).2]
theorem trim_sat : Sat Tryz.prog 97 trim_sat_S := by
  refine sat_of tok okr mixed K_trim_sat Tryz.func97 rfl (rs := [.cell 2 26, .tmp 3]) rfl Tryz.ntmps97 ?_
  rintro args av objs ⟨r, z, es, hpre, rfl, rfl, rfl⟩
  refine ⟨by show 1 ≤ 83; decide, ?_⟩
  cases hok : isG r z es
  · rw [trim_no (show (⟨r, z, es⟩ : Gr).ok = false from hok)]
    repeat' (first|(refine ya ?_;first|refine yc ?_|refine ye ?_)|((first|refine yg ?_|refine yG ?_);intro hq;first|(replace hq:=zgy hq;first|refine yc ?_|refine yC ?_|refine yy hq ?_|refine yY hq ?_;clear hq)|((first|refine yn (zgn hq) ?_|refine yN (zgn hq) ?_);clear hq)|((fail_if_success have:=zgy hq);(first|refine zs hq ?_ ?_|refine zS hq ?_ ?_)<;>clear hq<;>intro hg hr<;>try exact zx))|refine yz ?_|(refine yA ?_;first|refine yC ?_|refine yE ?_)|refine yZ ?_|refine zst ?_|refine zo ?_|(refine zk ?_ ?_<;>intro hc hr<;>try exact zx))
    all_goals try exact zv
  · have hg : (⟨r, z, es⟩ : Gr).ok = true := hok
    have hz := isG_z hok
    repeat' (first|(refine ya ?_;first|refine yc ?_|refine ye ?_)|((first|refine yg ?_|refine yG ?_);intro hq;first|(replace hq:=zgy hq;first|refine yc ?_|refine yC ?_|refine yy hq ?_|refine yY hq ?_;clear hq)|((first|refine yn (zgn hq) ?_|refine yN (zgn hq) ?_);clear hq)|((fail_if_success have:=zgy hq);(first|refine zs hq ?_ ?_|refine zS hq ?_ ?_)<;>clear hq<;>intro hg hr<;>try exact zx))|refine yz ?_|(refine yA ?_;first|refine yC ?_|refine yE ?_)|refine yZ ?_|refine zst ?_|refine zo ?_|(refine zk ?_ ?_<;>intro hc hr<;>try exact zx))
    refine z_loop (fun i : Nat => [(6, aI i)]) (fun i : Nat => [.obj 5 (oL 3 (allN i))]) (fun i : Nat => i ≤ z.toNat) (fun i : Nat => z.toNat - i) (0) (h0 := ?_) (henv := ?_) (hobj := ?_) (h := ?_)
    · omega
    · simp [go_sem, AVm, CVm, lookS, allN_0]
    · simp [go_sem, OBm, CVm, lookS, All2, allN_0]
    intro i hi
    have hal := allN_len i
    rcases Nat.lt_or_ge i z.toNat with hlt | hge
    · repeat' (first|(refine ya ?_;first|refine yc ?_|refine ye ?_)|((first|refine yg ?_|refine yG ?_);intro hq;first|(replace hq:=zgy hq;first|refine yc ?_|refine yC ?_|refine yy hq ?_|refine yY hq ?_;clear hq)|((first|refine yn (zgn hq) ?_|refine yN (zgn hq) ?_);clear hq)|((fail_if_success have:=zgy hq);(first|refine zs hq ?_ ?_|refine zS hq ?_ ?_)<;>clear hq<;>intro hg hr<;>try exact zx))|refine yz ?_|(refine yA ?_;first|refine yC ?_|refine yE ?_)|refine yZ ?_|refine zst ?_|refine zo ?_|(refine zk ?_ ?_<;>intro hc hr<;>try exact zx))
      (refine zm (i + 1) ?_ ?_ <;> simp [go_sem, AVm, OBm, CVm, All2, lookS, allN, *] <;> exact zt)
    · have hii : i = z.toNat := by omega
      subst hii
      repeat' (first|(refine ya ?_;first|refine yc ?_|refine ye ?_)|((first|refine yg ?_|refine yG ?_);intro hq;first|(replace hq:=zgy hq;first|refine yc ?_|refine yC ?_|refine yy hq ?_|refine yY hq ?_;clear hq)|((first|refine yn (zgn hq) ?_|refine yN (zgn hq) ?_);clear hq)|((fail_if_success have:=zgy hq);(first|refine zs hq ?_ ?_|refine zS hq ?_ ?_)<;>clear hq<;>intro hg hr<;>try exact zx))|refine yz ?_|(refine yA ?_;first|refine yC ?_|refine yE ?_)|refine yZ ?_|refine zst ?_|refine zo ?_|(refine zk ?_ ?_<;>intro hc hr<;>try exact zx))
      refine z_loop (fun i : Nat => [(1, .dead), (6, .dead), (23, .dead)]) (fun i : Nat => [.cell 4 0 (.sc (.int (trm ⟨r, z, es⟩ i).1.r)), .cell 4 1 (.sc (.int (trm ⟨r, z, es⟩ i).1.z)), .inner 4 (oE 65 (trm ⟨r, z, es⟩ i).1.es), .obj 5 (oL 3 (trm ⟨r, z, es⟩ i).2)]) (fun i : Nat => i ≤ 40) (fun i : Nat => 40 - i) (0) (h0 := ?_) (henv := ?_) (hobj := ?_) (h := ?_)
      · omega
      · simp [go_sem, AVm, CVm, lookS, trm]
      · simp [go_sem, OBm, CVm, lookS, All2, trm]
      intro i hi
      obtain ⟨h1, h2, _, h4, h5⟩ := trm_ok hg i
      have hfin := fun h => trim_at (i := i) hg h (by omega)
      have hstep : trm ⟨r, z, es⟩ (i + 1) = _ := rfl
      have hlt39 := fun h => trm_lt (i := i) hg h
      conv at hstep => rhs; rw [trm]
      generalize trm ⟨r, z, es⟩ i = t1 at *
      obtain ⟨⟨r1, z1, es1⟩, l1⟩ := t1
      simp only at h2 h4 h5 hfin hstep hlt39 ⊢
      have hG1 : isG r1 z1 es1 = true := h1
      have hz1 := isG_z hG1
      have hjl := jn_len es1 0 z1
      repeat' (first|(refine ya ?_;first|refine yc ?_|refine ye ?_)|((first|refine yg ?_|refine yG ?_);intro hq;first|(replace hq:=zgy hq;first|refine yc ?_|refine yC ?_|refine yy hq ?_|refine yY hq ?_;clear hq)|((first|refine yn (zgn hq) ?_|refine yN (zgn hq) ?_);clear hq)|((fail_if_success have:=zgy hq);(first|refine zs hq ?_ ?_|refine zS hq ?_ ?_)<;>clear hq<;>intro hg hr<;>try exact zx))|refine yz ?_|(refine yA ?_;first|refine yC ?_|refine yE ?_)|refine yZ ?_|refine zst ?_|refine zo ?_|(refine zk ?_ ?_<;>intro hc hr<;>try exact zx))
      refine z_loop (fun j : Nat => [(9, aI ((j : Int) + 1)), (8, aI (goneN ⟨r1, z1, es1⟩ j))]) (fun j : Nat => []) (fun j : Nat => (j : Int) + 1 ≤ z1) (fun j : Nat => z1.toNat - j) (0) (h0 := ?_) (henv := ?_) (hobj := ?_) (h := ?_)
      · omega
      · simp [go_sem, AVm, CVm, lookS, goneN]
      · simp [go_sem, OBm, CVm, lookS, All2, goneN]
      intro j hj
      have hgl := goneN_le ⟨r1, z1, es1⟩ j
      by_cases hg0 : goneN ⟨r1, z1, es1⟩ j = 0
      · by_cases hjz : (j : Int) + 1 < z1
        · have hl := jn_lf (g := ⟨r1, z1, es1⟩) (v := (j : Int) + 1) (by omega) hjz
          have hs : goneN ⟨r1, z1, es1⟩ (j + 1) = if lf ⟨r1, z1, es1⟩ ((j : Int) + 1) = true then (j : Int) + 1 else 0 := by
            rw [goneN, if_neg (by omega)]
          rw [hl] at hs
          clear hl
          have e1 : ((j : Int) + 1).toNat = j + 1 := by omega
          simp only [e1] at hs
          cases hb : bx (jn es1 0 z1) (j + 1)
          · have hs2 : goneN ⟨r1, z1, es1⟩ (j + 1) = (j : Int) + 1 := by rw [hs, hb]; simp
            clear hs
            repeat' (first|(refine ya ?_;first|refine yc ?_|refine ye ?_)|((first|refine yg ?_|refine yG ?_);intro hq;first|(replace hq:=zgy hq;first|refine yc ?_|refine yC ?_|refine yy hq ?_|refine yY hq ?_;clear hq)|((first|refine yn (zgn hq) ?_|refine yN (zgn hq) ?_);clear hq)|((fail_if_success have:=zgy hq);(first|refine zs hq ?_ ?_|refine zS hq ?_ ?_)<;>clear hq<;>intro hg hr<;>try exact zx))|refine yz ?_|(refine yA ?_;first|refine yC ?_|refine yE ?_)|refine yZ ?_|refine zst ?_|refine zo ?_|(refine zk ?_ ?_<;>intro hc hr<;>try exact zx))
            all_goals exact zl (j + 1)
          · by_cases hd : deg es1 ((j : Int) + 1) < 2
            · have hs2 : goneN ⟨r1, z1, es1⟩ (j + 1) = (j : Int) + 1 := by rw [hs, hb]; simp [hd]
              clear hs
              repeat' (first|(refine ya ?_;first|refine yc ?_|refine ye ?_)|((first|refine yg ?_|refine yG ?_);intro hq;first|(replace hq:=zgy hq;first|refine yc ?_|refine yC ?_|refine yy hq ?_|refine yY hq ?_;clear hq)|((first|refine yn (zgn hq) ?_|refine yN (zgn hq) ?_);clear hq)|((fail_if_success have:=zgy hq);(first|refine zs hq ?_ ?_|refine zS hq ?_ ?_)<;>clear hq<;>intro hg hr<;>try exact zx))|refine yz ?_|(refine yA ?_;first|refine yC ?_|refine yE ?_)|refine yZ ?_|refine zst ?_|refine zo ?_|(refine zk ?_ ?_<;>intro hc hr<;>try exact zx))
              all_goals exact zl (j + 1)
            · have hs2 : goneN ⟨r1, z1, es1⟩ (j + 1) = 0 := by rw [hs, hb]; simp [hd]
              clear hs
              repeat' (first|(refine ya ?_;first|refine yc ?_|refine ye ?_)|((first|refine yg ?_|refine yG ?_);intro hq;first|(replace hq:=zgy hq;first|refine yc ?_|refine yC ?_|refine yy hq ?_|refine yY hq ?_;clear hq)|((first|refine yn (zgn hq) ?_|refine yN (zgn hq) ?_);clear hq)|((fail_if_success have:=zgy hq);(first|refine zs hq ?_ ?_|refine zS hq ?_ ?_)<;>clear hq<;>intro hg hr<;>try exact zx))|refine yz ?_|(refine yA ?_;first|refine yC ?_|refine yE ?_)|refine yZ ?_|refine zst ?_|refine zo ?_|(refine zk ?_ ?_<;>intro hc hr<;>try exact zx))
              all_goals exact zl (j + 1)
        · have hgone : gone ⟨r1, z1, es1⟩ = 0 := by
            unfold gone
            rw [show ((⟨r1, z1, es1⟩ : Gr).z - 1).toNat = j by show (z1 - 1).toNat = j; omega]
            exact hg0
          rw [hfin hgone]
          repeat' (first|(refine ya ?_;first|refine yc ?_|refine ye ?_)|((first|refine yg ?_|refine yG ?_);intro hq;first|(replace hq:=zgy hq;first|refine yc ?_|refine yC ?_|refine yy hq ?_|refine yY hq ?_;clear hq)|((first|refine yn (zgn hq) ?_|refine yN (zgn hq) ?_);clear hq)|((fail_if_success have:=zgy hq);(first|refine zs hq ?_ ?_|refine zS hq ?_ ?_)<;>clear hq<;>intro hg hr<;>try exact zx))|refine yz ?_|(refine yA ?_;first|refine yC ?_|refine yE ?_)|refine yZ ?_|refine zst ?_|refine zo ?_|(refine zk ?_ ?_<;>intro hc hr<;>try exact zx))
          all_goals try exact zv
      · have hgone : gone ⟨r1, z1, es1⟩ = goneN ⟨r1, z1, es1⟩ j := gone_at hg0 (by show j ≤ (z1 - 1).toNat; omega)
        rw [if_neg (by omega), hgone] at hstep
        have hi39 := hlt39 (by omega)
        clear hfin hlt39 h5
        have hgn : 0 < goneN ⟨r1, z1, es1⟩ j ∧ goneN ⟨r1, z1, es1⟩ j < z1 := by omega
        generalize goneN ⟨r1, z1, es1⟩ j = gn at *
        by_cases hjz : (j : Int) + 1 < z1
        · repeat' (first|(refine ya ?_;first|refine yc ?_|refine ye ?_)|((first|refine yg ?_|refine yG ?_);intro hq;first|(replace hq:=zgy hq;first|refine yc ?_|refine yC ?_|refine yy hq ?_|refine yY hq ?_;clear hq)|((first|refine yn (zgn hq) ?_|refine yN (zgn hq) ?_);clear hq)|((fail_if_success have:=zgy hq);(first|refine zs hq ?_ ?_|refine zS hq ?_ ?_)<;>clear hq<;>intro hg hr<;>try exact zx))|refine yz ?_|(refine yA ?_;first|refine yC ?_|refine yE ?_)|refine yZ ?_|refine zst ?_|refine zo ?_|(refine zk ?_ ?_<;>intro hc hr<;>try exact zx))
          refine z_loop (fun k : Nat => [(11, aI k)]) (fun k : Nat => [.obj 10 (oL 3 (othN gn k))]) (fun k : Nat => k ≤ z1.toNat) (fun k : Nat => z1.toNat - k) (0) (h0 := ?_) (henv := ?_) (hobj := ?_) (h := ?_)
          · omega
          · simp [go_sem, AVm, CVm, lookS, othN]
          · simp [go_sem, OBm, CVm, lookS, All2, othN]
          intro k hk
          have hol := othN_le gn k
          rcases Nat.lt_or_ge k z1.toNat with hlt2 | hge2
          · by_cases hkg : (k : Int) = gn
            · have ho : othN gn (k + 1) = othN gn k := by rw [othN, if_pos hkg]
              repeat' (first|(refine ya ?_;first|refine yc ?_|refine ye ?_)|((first|refine yg ?_|refine yG ?_);intro hq;first|(replace hq:=zgy hq;first|refine yc ?_|refine yC ?_|refine yy hq ?_|refine yY hq ?_;clear hq)|((first|refine yn (zgn hq) ?_|refine yN (zgn hq) ?_);clear hq)|((fail_if_success have:=zgy hq);(first|refine zs hq ?_ ?_|refine zS hq ?_ ?_)<;>clear hq<;>intro hg hr<;>try exact zx))|refine yz ?_|(refine yA ?_;first|refine yC ?_|refine yE ?_)|refine yZ ?_|refine zst ?_|refine zo ?_|(refine zk ?_ ?_<;>intro hc hr<;>try exact zx))
              (refine zm (k + 1) ?_ ?_ <;> simp [go_sem, AVm, OBm, CVm, All2, lookS, ho, *] <;> exact zt)
            · have ho : othN gn (k + 1) = othN gn k ++ [(k : Int)] := by rw [othN, if_neg hkg]
              repeat' (first|(refine ya ?_;first|refine yc ?_|refine ye ?_)|((first|refine yg ?_|refine yG ?_);intro hq;first|(replace hq:=zgy hq;first|refine yc ?_|refine yC ?_|refine yy hq ?_|refine yY hq ?_;clear hq)|((first|refine yn (zgn hq) ?_|refine yN (zgn hq) ?_);clear hq)|((fail_if_success have:=zgy hq);(first|refine zs hq ?_ ?_|refine zS hq ?_ ?_)<;>clear hq<;>intro hg hr<;>try exact zx))|refine yz ?_|(refine yA ?_;first|refine yC ?_|refine yE ?_)|refine yZ ?_|refine zst ?_|refine zo ?_|(refine zk ?_ ?_<;>intro hc hr<;>try exact zx))
              (refine zm (k + 1) ?_ ?_ <;> simp [go_sem, AVm, OBm, CVm, All2, lookS, ho, *] <;> exact zt)
          · have hkk : k = z1.toNat := by omega
            subst hkk
            have hq : renV ⟨r1, z1, es1⟩ (othN gn z1.toNat) = true := renV_of hG1 (by rw [othN_len (by omega) (by omega)]; omega) (asc_nodup (othN_asc ..)) fun u hu => by have := othN_mem.1 hu; omega
            obtain ⟨_, ⟨hq1, hq2⟩, hq3⟩ := renV_iff.1 hq
            have hrs : rstN l1 gn z1.toNat = l1.take gn.toNat ++ l1.drop (gn.toNat + 1) := by
              rw [rstN_eq (by omega) (by omega) (by omega), ← h2, List.take_length]
            have e2 : (gn + 1).toNat = gn.toNat + 1 := by omega
            repeat' (first|(refine ya ?_;first|refine yc ?_|refine ye ?_)|((first|refine yg ?_|refine yG ?_);intro hq;first|(replace hq:=zgy hq;first|refine yc ?_|refine yC ?_|refine yy hq ?_|refine yY hq ?_;clear hq)|((first|refine yn (zgn hq) ?_|refine yN (zgn hq) ?_);clear hq)|((fail_if_success have:=zgy hq);(first|refine zs hq ?_ ?_|refine zS hq ?_ ?_)<;>clear hq<;>intro hg hr<;>try exact zx))|refine yz ?_|(refine yA ?_;first|refine yC ?_|refine yE ?_)|refine yZ ?_|refine zst ?_|refine zo ?_|(refine zk ?_ ?_<;>intro hc hr<;>try exact zx))
            (refine zm (i + 1) ?_ ?_ <;> simp [go_sem, AVm, OBm, CVm, All2, lookS, hstep, hrs, e2, *] <;> exact zt)
        · repeat' (first|(refine ya ?_;first|refine yc ?_|refine ye ?_)|((first|refine yg ?_|refine yG ?_);intro hq;first|(replace hq:=zgy hq;first|refine yc ?_|refine yC ?_|refine yy hq ?_|refine yY hq ?_;clear hq)|((first|refine yn (zgn hq) ?_|refine yN (zgn hq) ?_);clear hq)|((fail_if_success have:=zgy hq);(first|refine zs hq ?_ ?_|refine zS hq ?_ ?_)<;>clear hq<;>intro hg hr<;>try exact zx))|refine yz ?_|(refine yA ?_;first|refine yC ?_|refine yE ?_)|refine yZ ?_|refine zst ?_|refine zo ?_|(refine zk ?_ ?_<;>intro hc hr<;>try exact zx))
          refine z_loop (fun k : Nat => [(11, aI k)]) (fun k : Nat => [.obj 10 (oL 3 (othN gn k))]) (fun k : Nat => k ≤ z1.toNat) (fun k : Nat => z1.toNat - k) (0) (h0 := ?_) (henv := ?_) (hobj := ?_) (h := ?_)
          · omega
          · simp [go_sem, AVm, CVm, lookS, othN]
          · simp [go_sem, OBm, CVm, lookS, All2, othN]
          intro k hk
          have hol := othN_le gn k
          rcases Nat.lt_or_ge k z1.toNat with hlt2 | hge2
          · by_cases hkg : (k : Int) = gn
            · have ho : othN gn (k + 1) = othN gn k := by rw [othN, if_pos hkg]
              repeat' (first|(refine ya ?_;first|refine yc ?_|refine ye ?_)|((first|refine yg ?_|refine yG ?_);intro hq;first|(replace hq:=zgy hq;first|refine yc ?_|refine yC ?_|refine yy hq ?_|refine yY hq ?_;clear hq)|((first|refine yn (zgn hq) ?_|refine yN (zgn hq) ?_);clear hq)|((fail_if_success have:=zgy hq);(first|refine zs hq ?_ ?_|refine zS hq ?_ ?_)<;>clear hq<;>intro hg hr<;>try exact zx))|refine yz ?_|(refine yA ?_;first|refine yC ?_|refine yE ?_)|refine yZ ?_|refine zst ?_|refine zo ?_|(refine zk ?_ ?_<;>intro hc hr<;>try exact zx))
              (refine zm (k + 1) ?_ ?_ <;> simp [go_sem, AVm, OBm, CVm, All2, lookS, ho, *] <;> exact zt)
            · have ho : othN gn (k + 1) = othN gn k ++ [(k : Int)] := by rw [othN, if_neg hkg]
              repeat' (first|(refine ya ?_;first|refine yc ?_|refine ye ?_)|((first|refine yg ?_|refine yG ?_);intro hq;first|(replace hq:=zgy hq;first|refine yc ?_|refine yC ?_|refine yy hq ?_|refine yY hq ?_;clear hq)|((first|refine yn (zgn hq) ?_|refine yN (zgn hq) ?_);clear hq)|((fail_if_success have:=zgy hq);(first|refine zs hq ?_ ?_|refine zS hq ?_ ?_)<;>clear hq<;>intro hg hr<;>try exact zx))|refine yz ?_|(refine yA ?_;first|refine yC ?_|refine yE ?_)|refine yZ ?_|refine zst ?_|refine zo ?_|(refine zk ?_ ?_<;>intro hc hr<;>try exact zx))
              (refine zm (k + 1) ?_ ?_ <;> simp [go_sem, AVm, OBm, CVm, All2, lookS, ho, *] <;> exact zt)
          · have hkk : k = z1.toNat := by omega
            subst hkk
            have hq : renV ⟨r1, z1, es1⟩ (othN gn z1.toNat) = true := renV_of hG1 (by rw [othN_len (by omega) (by omega)]; omega) (asc_nodup (othN_asc ..)) fun u hu => by have := othN_mem.1 hu; omega
            obtain ⟨_, ⟨hq1, hq2⟩, hq3⟩ := renV_iff.1 hq
            have hrs : rstN l1 gn z1.toNat = l1.take gn.toNat ++ l1.drop (gn.toNat + 1) := by
              rw [rstN_eq (by omega) (by omega) (by omega), ← h2, List.take_length]
            have e2 : (gn + 1).toNat = gn.toNat + 1 := by omega
            repeat' (first|(refine ya ?_;first|refine yc ?_|refine ye ?_)|((first|refine yg ?_|refine yG ?_);intro hq;first|(replace hq:=zgy hq;first|refine yc ?_|refine yC ?_|refine yy hq ?_|refine yY hq ?_;clear hq)|((first|refine yn (zgn hq) ?_|refine yN (zgn hq) ?_);clear hq)|((fail_if_success have:=zgy hq);(first|refine zs hq ?_ ?_|refine zS hq ?_ ?_)<;>clear hq<;>intro hg hr<;>try exact zx))|refine yz ?_|(refine yA ?_;first|refine yC ?_|refine yE ?_)|refine yZ ?_|refine zst ?_|refine zo ?_|(refine zk ?_ ?_<;>intro hc hr<;>try exact zx))
            (refine zm (i + 1) ?_ ?_ <;> simp [go_sem, AVm, OBm, CVm, All2, lookS, hstep, hrs, e2, *] <;> exact zt)
instance : Con Tryz.prog 97 trim_sat_S := con trim_sat Tryz.func97
@[go_sem] def K_leaf_sat2 (i : Nat) : List Nat := ([[1],[1,3],[1,3,4],[1,3,4,10],[1,3,4],[1,3,4,22],[2],[2]]).getD i []
def leaf_sat2_S : Eng.Spec := fun args av objs => ∃ (r z : Int) (es : List Ed), (isG r z es = true) ∧ args = [grA r z es] ∧ av = aI (if gone ⟨r, z, es⟩ = 0 then -1 else gone ⟨r, z, es⟩) ∧ objs = []
theorem leaf_sat2 : Sat Tryz.prog 110 leaf_sat2_S := by
  refine sat_of tok okr mixed K_leaf_sat2 Tryz.func110 rfl (rs := [.tmp 2]) rfl Tryz.ntmps110 ?_
  rintro args av objs ⟨r, z, es, hpre, rfl, rfl, rfl⟩
  refine ⟨by show 1 ≤ 24; decide, ?_⟩
  have hz := isG_z hpre
  repeat' (first|(refine ya ?_;first|refine yc ?_|refine ye ?_)|(refine yg ?_;intro hq;first|(replace hq:=zgy hq;first|refine yc ?_|refine yy hq ?_;clear hq)|(refine yn (zgn hq) ?_;clear hq)|((fail_if_success have:=zgy hq);refine zs hq ?_ ?_<;>clear hq<;>intro hg hr<;>try exact zx))|refine yz ?_|refine zst ?_|refine zo ?_|(refine zk ?_ ?_<;>intro hc hr<;>try exact zx))
  have hlr := rl_len es 0 z
  refine z_loop (fun i : Nat => [(4, aI ((i : Int) + 1))]) (fun i : Nat => []) (fun i : Nat => (i : Int) + 1 ≤ z ∧ goneN ⟨r, z, es⟩ i = 0) (fun i : Nat => z.toNat - i) (0) (h0 := ?_) (henv := ?_) (hobj := ?_) (h := ?_)
  · exact ⟨by omega, rfl⟩
  · simp [go_sem, AVm, CVm, lookS]
  · simp [go_sem, OBm, CVm, lookS, All2]
  rintro i ⟨hi, hno⟩
  rcases (show (i : Int) + 1 < z ∨ (i : Int) + 1 = z by omega) with hlt | hge
  · have hl : lf ⟨r, z, es⟩ ((i : Int) + 1) = (decide (deg es ((i : Int) + 1) < 2) || !decide (((i : Int) + 1) ∈ rl es 0 z)) := by unfold lf; congr
    have hs : goneN ⟨r, z, es⟩ (i + 1) = if lf ⟨r, z, es⟩ ((i : Int) + 1) = true then (i : Int) + 1 else 0 := by
      rw [goneN, if_neg (by omega)]
    cases hb : lf ⟨r, z, es⟩ ((i : Int) + 1)
    · have hs2 : goneN ⟨r, z, es⟩ (i + 1) = 0 := by rw [hs, if_neg (by simp [hb])]
      rw [hb] at hl
      have hl2 := Bool.or_eq_false_iff.1 hl.symm
      have hd : ¬ deg es ((i : Int) + 1) < 2 := of_decide_eq_false hl2.1
      have hm : ((i : Int) + 1) ∈ rl es 0 z := by simpa using hl2.2
      clear hl hl2 hs hb
      repeat' (first|(refine ya ?_;first|refine yc ?_|refine ye ?_)|(refine yg ?_;intro hq;first|(replace hq:=zgy hq;first|refine yc ?_|refine yy hq ?_;clear hq)|(refine yn (zgn hq) ?_;clear hq)|((fail_if_success have:=zgy hq);refine zs hq ?_ ?_<;>clear hq<;>intro hg hr<;>try exact zx))|refine yz ?_|refine zst ?_|refine zo ?_|(refine zk ?_ ?_<;>intro hc hr<;>try exact zx))
      exact zl (i + 1) (hj := by exact ⟨by omega, hs2⟩)
    · have hs2 : goneN ⟨r, z, es⟩ (i + 1) = (i : Int) + 1 := by rw [hs, if_pos hb]
      have hg2 : gone ⟨r, z, es⟩ = (i : Int) + 1 := by rw [gone_at (n := i + 1) (by omega) (by show i + 1 ≤ (z - 1).toNat; omega), hs2]
      rw [hb] at hl
      rw [if_neg (by omega), hg2]
      have hl2 : deg es ((i : Int) + 1) < 2 ∨ ¬ ((i : Int) + 1) ∈ rl es 0 z := by
        rcases Bool.or_eq_true _ _ ▸ hl.symm with h | h
        · exact .inl (of_decide_eq_true h)
        · exact .inr (by simpa using h)
      clear hl hs hb hs2 hg2 hno
      rcases hl2 with hl2 | hl2
      · repeat' (first|(refine ya ?_;first|refine yc ?_|refine ye ?_)|(refine yg ?_;intro hq;first|(replace hq:=zgy hq;first|refine yc ?_|refine yy hq ?_;clear hq)|(refine yn (zgn hq) ?_;clear hq)|((fail_if_success have:=zgy hq);refine zs hq ?_ ?_<;>clear hq<;>intro hg hr<;>try exact zx))|refine yz ?_|refine zst ?_|refine zo ?_|(refine zk ?_ ?_<;>intro hc hr<;>try exact zx))
        all_goals try exact zv
      · by_cases hd : deg es ((i : Int) + 1) < 2
        · repeat' (first|(refine ya ?_;first|refine yc ?_|refine ye ?_)|(refine yg ?_;intro hq;first|(replace hq:=zgy hq;first|refine yc ?_|refine yy hq ?_;clear hq)|(refine yn (zgn hq) ?_;clear hq)|((fail_if_success have:=zgy hq);refine zs hq ?_ ?_<;>clear hq<;>intro hg hr<;>try exact zx))|refine yz ?_|refine zst ?_|refine zo ?_|(refine zk ?_ ?_<;>intro hc hr<;>try exact zx))
          all_goals try exact zv
        · repeat' (first|(refine ya ?_;first|refine yc ?_|refine ye ?_)|(refine yg ?_;intro hq;first|(replace hq:=zgy hq;first|refine yc ?_|refine yy hq ?_;clear hq)|(refine yn (zgn hq) ?_;clear hq)|((fail_if_success have:=zgy hq);refine zs hq ?_ ?_<;>clear hq<;>intro hg hr<;>try exact zx))|refine yz ?_|refine zst ?_|refine zo ?_|(refine zk ?_ ?_<;>intro hc hr<;>try exact zx))
          all_goals try exact zv
  · have hg0 : gone ⟨r, z, es⟩ = 0 := by
      unfold gone
      rw [show ((⟨r, z, es⟩ : Gr).z - 1).toNat = i by show (z - 1).toNat = i; omega]
      exact hno
    rw [if_pos hg0]
    repeat' (first|(refine ya ?_;first|refine yc ?_|refine ye ?_)|(refine yg ?_;intro hq;first|(replace hq:=zgy hq;first|refine yc ?_|refine yy hq ?_;clear hq)|(refine yn (zgn hq) ?_;clear hq)|((fail_if_success have:=zgy hq);refine zs hq ?_ ?_<;>clear hq<;>intro hg hr<;>try exact zx))|refine yz ?_|refine zst ?_|refine zo ?_|(refine zk ?_ ?_<;>intro hc hr<;>try exact zx))
    all_goals try exact zv
instance : Con Tryz.prog 110 leaf_sat2_S := con leaf_sat2 Tryz.func110
@[go_sem] def K_trim_sat2 (i : Nat) : List Nat := ([[1,2],[1,2,4],[1,2,4,5],[1,2,4,5,6],[1,2,4,5,6,22],[1,2,4,5,6],[1,2,4,5,6],[1,2,4,5,7],[1,2,4,5,7,34],[1,2,4,5,7],[1,2,4,5,7,8],[1,2,4,5,7,8,40],[2,3],[1,2,4,5,7,8,9],[1,2,4,5,7,8,9,10],[1,2,4,5,7,8,9,10,11],[1,2,4,5,7,8,9,10,11,48],[1,2,4,5,7,8,9,10,11],[1,2,4,5,7,8,9,10,11,53],[1,2,4,5,7,8,9,10,11],[1,2,4,5,7,8,9,10,11],[1,2,4,7,10],[1,2,4,5,7],[2,3]]).getD i []
def trim_sat2_S : Eng.Spec := fun args av objs => ∃ (r z : Int) (es : List Ed), (es.length ≤ 1048576) ∧ args = [grA r z es] ∧ av = .tup [gT (trimG ⟨r, z, es⟩).1, .one (.ref 1)] ∧ objs = [oE 65 (trimG ⟨r, z, es⟩).1.es, oL 3 (trimG ⟨r, z, es⟩).2]
theorem trim_sat2 : Sat Tryz.prog 148 trim_sat2_S := by
  refine sat_of tok okr mixed K_trim_sat2 Tryz.func148 rfl (rs := [.cell 2 26, .tmp 3]) rfl Tryz.ntmps148 ?_
  rintro args av objs ⟨r, z, es, hpre, rfl, rfl, rfl⟩
  refine ⟨by show 1 ≤ 74; decide, ?_⟩
  cases hok : isG r z es
  · rw [trim_no (show (⟨r, z, es⟩ : Gr).ok = false from hok)]
    repeat' (first|(refine ya ?_;first|refine yc ?_|refine ye ?_)|(refine yg ?_;intro hq;first|(replace hq:=zgy hq;first|refine yc ?_|refine yy hq ?_;clear hq)|(refine yn (zgn hq) ?_;clear hq)|((fail_if_success have:=zgy hq);refine zs hq ?_ ?_<;>clear hq<;>intro hg hr<;>try exact zx))|refine yz ?_|refine zst ?_|refine zo ?_|(refine zk ?_ ?_<;>intro hc hr<;>try exact zx))
    refine zu (fun i : Nat => []) (fun i : Nat => []) (fun i : Nat => i = 0) (fun i : Nat => 0 - i) (0) ?_
    intro i hi
    subst hi
    by_cases hz0 : 0 < z
    · repeat' (first|(refine ya ?_;first|refine yc ?_|refine ye ?_)|(refine yg ?_;intro hq;first|(replace hq:=zgy hq;first|refine yc ?_|refine yy hq ?_;clear hq)|(refine yn (zgn hq) ?_;clear hq)|((fail_if_success have:=zgy hq);refine zs hq ?_ ?_<;>clear hq<;>intro hg hr<;>try exact zx))|refine yz ?_|refine zst ?_|refine zo ?_|(refine zk ?_ ?_<;>intro hc hr<;>try exact zx))
      refine zu (fun i : Nat => []) (fun i : Nat => []) (fun i : Nat => i = 0) (fun i : Nat => 0 - i) (0) ?_
      intro i hi
      subst hi
      repeat' (first|(refine ya ?_;first|refine yc ?_|refine ye ?_)|(refine yg ?_;intro hq;first|(replace hq:=zgy hq;first|refine yc ?_|refine yy hq ?_;clear hq)|(refine yn (zgn hq) ?_;clear hq)|((fail_if_success have:=zgy hq);refine zs hq ?_ ?_<;>clear hq<;>intro hg hr<;>try exact zx))|refine yz ?_|refine zst ?_|refine zo ?_|(refine zk ?_ ?_<;>intro hc hr<;>try exact zx))
      all_goals try exact zv
    · repeat' (first|(refine ya ?_;first|refine yc ?_|refine ye ?_)|(refine yg ?_;intro hq;first|(replace hq:=zgy hq;first|refine yc ?_|refine yy hq ?_;clear hq)|(refine yn (zgn hq) ?_;clear hq)|((fail_if_success have:=zgy hq);refine zs hq ?_ ?_<;>clear hq<;>intro hg hr<;>try exact zx))|refine yz ?_|refine zst ?_|refine zo ?_|(refine zk ?_ ?_<;>intro hc hr<;>try exact zx))
      refine zu (fun i : Nat => []) (fun i : Nat => []) (fun i : Nat => i = 0) (fun i : Nat => 0 - i) (0) ?_
      intro i hi
      subst hi
      repeat' (first|(refine ya ?_;first|refine yc ?_|refine ye ?_)|(refine yg ?_;intro hq;first|(replace hq:=zgy hq;first|refine yc ?_|refine yy hq ?_;clear hq)|(refine yn (zgn hq) ?_;clear hq)|((fail_if_success have:=zgy hq);refine zs hq ?_ ?_<;>clear hq<;>intro hg hr<;>try exact zx))|refine yz ?_|refine zst ?_|refine zo ?_|(refine zk ?_ ?_<;>intro hc hr<;>try exact zx))
      all_goals try exact zv
  · have hgr : (⟨r, z, es⟩ : Gr).ok = true := hok
    have hz := isG_z hok
    repeat' (first|(refine ya ?_;first|refine yc ?_|refine ye ?_)|(refine yg ?_;intro hq;first|(replace hq:=zgy hq;first|refine yc ?_|refine yy hq ?_;clear hq)|(refine yn (zgn hq) ?_;clear hq)|((fail_if_success have:=zgy hq);refine zs hq ?_ ?_<;>clear hq<;>intro hg hr<;>try exact zx))|refine yz ?_|refine zst ?_|refine zo ?_|(refine zk ?_ ?_<;>intro hc hr<;>try exact zx))
    refine z_loop (fun i : Nat => [(6, aI i)]) (fun i : Nat => [.obj 5 (oL 3 (allN i))]) (fun i : Nat => i ≤ z.toNat) (fun i : Nat => z.toNat - i) (0) (h0 := ?_) (henv := ?_) (hobj := ?_) (h := ?_)
    · omega
    · simp [go_sem, AVm, CVm, lookS, allN_0]
    · simp [go_sem, OBm, CVm, lookS, All2, allN_0]
    intro i hi
    have hal := allN_len i
    rcases Nat.lt_or_ge i z.toNat with hlt | hge
    · repeat' (first|(refine ya ?_;first|refine yc ?_|refine ye ?_)|(refine yg ?_;intro hq;first|(replace hq:=zgy hq;first|refine yc ?_|refine yy hq ?_;clear hq)|(refine yn (zgn hq) ?_;clear hq)|((fail_if_success have:=zgy hq);refine zs hq ?_ ?_<;>clear hq<;>intro hg hr<;>try exact zx))|refine yz ?_|refine zst ?_|refine zo ?_|(refine zk ?_ ?_<;>intro hc hr<;>try exact zx))
      (refine zm (i + 1) ?_ ?_ <;> simp [go_sem, AVm, OBm, CVm, All2, lookS, allN, *] <;> exact zt)
    · have hii : i = z.toNat := by omega
      subst hii
      repeat' (first|(refine ya ?_;first|refine yc ?_|refine ye ?_)|(refine yg ?_;intro hq;first|(replace hq:=zgy hq;first|refine yc ?_|refine yy hq ?_;clear hq)|(refine yn (zgn hq) ?_;clear hq)|((fail_if_success have:=zgy hq);refine zs hq ?_ ?_<;>clear hq<;>intro hg hr<;>try exact zx))|refine yz ?_|refine zst ?_|refine zo ?_|(refine zk ?_ ?_<;>intro hc hr<;>try exact zx))
      refine z_loop (fun i : Nat => [(7, aI i)]) (fun i : Nat => [.cell 4 0 (.sc (.int (trm ⟨r, z, es⟩ i).1.r)), .cell 4 1 (.sc (.int (trm ⟨r, z, es⟩ i).1.z)), .inner 4 (oE 65 (trm ⟨r, z, es⟩ i).1.es), .obj 5 (oL 3 (trm ⟨r, z, es⟩ i).2)]) (fun i : Nat => i ≤ 39) (fun i : Nat => 39 - i) (0) (h0 := ?_) (henv := ?_) (hobj := ?_) (h := ?_)
      · omega
      · simp [go_sem, AVm, CVm, lookS, trm]
      · simp [go_sem, OBm, CVm, lookS, All2, trm]
      intro i hi
      obtain ⟨h1, h2, _, h4, h5⟩ := trm_ok hgr i
      have hfin := fun h => trim_at (i := i) hgr h (by omega)
      have hstep : trm ⟨r, z, es⟩ (i + 1) = _ := rfl
      have hlt39 := fun h => trm_lt (i := i) hgr h
      conv at hstep => rhs; rw [trm]
      generalize trm ⟨r, z, es⟩ i = t1 at *
      obtain ⟨⟨r1, z1, es1⟩, l1⟩ := t1
      simp only at h2 h4 h5 hfin hstep hlt39 ⊢
      have hG1 : isG r1 z1 es1 = true := h1
      have hz1 := isG_z hG1
      have hin : 0 ≤ gone ⟨r1, z1, es1⟩ ∧ (gone ⟨r1, z1, es1⟩ ≠ 0 → gone ⟨r1, z1, es1⟩ < z1) := gone_in
      by_cases hgone : gone ⟨r1, z1, es1⟩ = 0
      · rw [hfin hgone]
        clear hfin hlt39 h5 hstep hin
        repeat' (first|(refine ya ?_;first|refine yc ?_|refine ye ?_)|(refine yg ?_;intro hq;first|(replace hq:=zgy hq;first|refine yc ?_|refine yy hq ?_;clear hq)|(refine yn (zgn hq) ?_;clear hq)|((fail_if_success have:=zgy hq);refine zs hq ?_ ?_<;>clear hq<;>intro hg hr<;>try exact zx))|refine yz ?_|refine zst ?_|refine zo ?_|(refine zk ?_ ?_<;>intro hc hr<;>try exact zx))
        all_goals try exact zv
      · rw [if_neg hgone] at hstep
        have hi39 := hlt39 hgone
        have hgn : 0 < gone ⟨r1, z1, es1⟩ ∧ gone ⟨r1, z1, es1⟩ < z1 := by have := hin.2 hgone; omega
        clear hfin hlt39 h5 hin
        generalize hgg : gone ⟨r1, z1, es1⟩ = gn at *
        have hq : renV ⟨r1, z1, es1⟩ (othN gn z1.toNat) = true := renV_of hG1 (by rw [othN_len (by omega) (by omega)]; omega) (asc_nodup (othN_asc ..)) fun u hu => by have := othN_mem.1 hu; omega
        have hren := ren_yes hq
        repeat' (first|(refine ya ?_;first|refine yc ?_|refine ye ?_)|(refine yg ?_;intro hq;first|(replace hq:=zgy hq;first|refine yc ?_|refine yy hq ?_;clear hq)|(refine yn (zgn hq) ?_;clear hq)|((fail_if_success have:=zgy hq);refine zs hq ?_ ?_<;>clear hq<;>intro hg hr<;>try exact zx))|refine yz ?_|refine zst ?_|refine zo ?_|(refine zk ?_ ?_<;>intro hc hr<;>try exact zx))
        refine z_loop (fun k : Nat => [(11, aI k)]) (fun k : Nat => [.obj 9 (oL 3 (othN gn k)), .obj 10 (oL 3 (rstN l1 gn k))]) (fun k : Nat => k ≤ z1.toNat) (fun k : Nat => z1.toNat - k) (0) (h0 := ?_) (henv := ?_) (hobj := ?_) (h := ?_)
        · omega
        · simp [go_sem, AVm, CVm, lookS, othN, rstN]
        · simp [go_sem, OBm, CVm, lookS, All2, othN, rstN]
        intro k hk
        have hol := othN_le gn k
        have hrl := rstN_le l1 gn k
        rcases Nat.lt_or_ge k z1.toNat with hlt2 | hge2
        · by_cases hkg : (k : Int) = gn
          · have ho : othN gn (k + 1) = othN gn k := by rw [othN, if_pos hkg]
            have ho2 : rstN l1 gn (k + 1) = rstN l1 gn k := by rw [rstN, if_pos hkg]
            repeat' (first|(refine ya ?_;first|refine yc ?_|refine ye ?_)|(refine yg ?_;intro hq;first|(replace hq:=zgy hq;first|refine yc ?_|refine yy hq ?_;clear hq)|(refine yn (zgn hq) ?_;clear hq)|((fail_if_success have:=zgy hq);refine zs hq ?_ ?_<;>clear hq<;>intro hg hr<;>try exact zx))|refine yz ?_|refine zst ?_|refine zo ?_|(refine zk ?_ ?_<;>intro hc hr<;>try exact zx))
            (refine zm (k + 1) ?_ ?_ <;> simp [go_sem, AVm, OBm, CVm, All2, lookS, ho, ho2, *] <;> exact zt)
          · have ho : othN gn (k + 1) = othN gn k ++ [(k : Int)] := by rw [othN, if_neg hkg]
            have ho2 : rstN l1 gn (k + 1) = rstN l1 gn k ++ [ix l1 k] := by rw [rstN, if_neg hkg]
            repeat' (first|(refine ya ?_;first|refine yc ?_|refine ye ?_)|(refine yg ?_;intro hq;first|(replace hq:=zgy hq;first|refine yc ?_|refine yy hq ?_;clear hq)|(refine yn (zgn hq) ?_;clear hq)|((fail_if_success have:=zgy hq);refine zs hq ?_ ?_<;>clear hq<;>intro hg hr<;>try exact zx))|refine yz ?_|refine zst ?_|refine zo ?_|(refine zk ?_ ?_<;>intro hc hr<;>try exact zx))
            (refine zm (k + 1) ?_ ?_ <;> simp [go_sem, AVm, OBm, CVm, All2, lookS, ho, ho2, *] <;> exact zt)
        · have hkk : k = z1.toNat := by omega
          subst hkk
          repeat' (first|(refine ya ?_;first|refine yc ?_|refine ye ?_)|(refine yg ?_;intro hq;first|(replace hq:=zgy hq;first|refine yc ?_|refine yy hq ?_;clear hq)|(refine yn (zgn hq) ?_;clear hq)|((fail_if_success have:=zgy hq);refine zs hq ?_ ?_<;>clear hq<;>intro hg hr<;>try exact zx))|refine yz ?_|refine zst ?_|refine zo ?_|(refine zk ?_ ?_<;>intro hc hr<;>try exact zx))
          (refine zm (i + 1) ?_ ?_ <;> simp [go_sem, AVm, OBm, CVm, All2, lookS, hstep, hren, *] <;> exact zt)
instance : Con Tryz.prog 148 trim_sat2_S := con trim_sat2 Tryz.func148
@[go_sem] def K_eqG_sat (i : Nat) : List Nat := ([[2,3],[4]]).getD i []
def eqG_sat_S : Eng.Spec := fun args av objs => ∃ (r z : Int) (es : List Ed) (r' z' : Int) (es' : List Ed), (es.length ≤ 1048576 ∧ es'.length ≤ 1048576) ∧ args = [grA r z es, grA r' z' es'] ∧ av = aB (decide (r = r' ∧ z = z' ∧ es = es')) ∧ objs = []
theorem eqG_sat : Sat Tryz.prog 73 eqG_sat_S := by
  refine sat_of tok okr mixed K_eqG_sat Tryz.func73 rfl (rs := [.tmp 4]) rfl Tryz.ntmps73 ?_
  rintro args av objs ⟨r, z, es, r', z', es', hpre, rfl, rfl, rfl⟩
  refine ⟨by show 2 ≤ 24; decide, ?_⟩
  repeat' (first|(refine ya ?_;first|refine yc ?_|refine ye ?_)|(refine yg ?_;intro hq;first|(replace hq:=zgy hq;first|refine yc ?_|refine yy hq ?_;clear hq)|(refine yn (zgn hq) ?_;clear hq)|((fail_if_success have:=zgy hq);refine zs hq ?_ ?_<;>clear hq<;>intro hg hr<;>try exact zx))|refine yz ?_|refine zst ?_|refine zo ?_|(refine zk ?_ ?_<;>intro hc hr<;>try exact zx))
  all_goals try exact zv
instance : Con Tryz.prog 73 eqG_sat_S := con eqG_sat Tryz.func73
@[go_sem] def K_eqG_sat2 (i : Nat) : List Nat := ([[2,3],[2,3,26],[4],[2,3,5],[2,3,5,31],[2,3,5],[2,3,5,44],[4],[4]]).getD i []
def eqG_sat2_S : Eng.Spec := fun args av objs => ∃ (r z : Int) (es : List Ed) (r' z' : Int) (es' : List Ed), (es.length ≤ 1048576 ∧ es'.length ≤ 1048576) ∧ args = [grA r z es, grA r' z' es'] ∧ av = aB (decide (r = r' ∧ z = z' ∧ es = es')) ∧ objs = []
theorem eqG_sat2 : Sat Tryz.prog 50 eqG_sat2_S := by
  refine sat_of tok okr mixed K_eqG_sat2 Tryz.func50 rfl (rs := [.tmp 4]) rfl Tryz.ntmps50 ?_
  rintro args av objs ⟨r, z, es, r', z', es', hpre, rfl, rfl, rfl⟩
  refine ⟨by show 2 ≤ 45; decide, ?_⟩
  repeat' (first|(refine ya ?_;first|refine ye ?_)|((first|refine yg ?_|refine yG ?_);intro hq;first|(replace hq:=zgy hq;first|refine yy hq ?_|refine yY hq ?_;clear hq)|((first|refine yn (zgn hq) ?_|refine yN (zgn hq) ?_);clear hq)|((fail_if_success have:=zgy hq);(first|refine zs hq ?_ ?_|refine zS hq ?_ ?_)<;>clear hq<;>intro hg hr<;>try exact zx))|refine yz ?_|(refine yA ?_;first|refine yE ?_)|refine yZ ?_|refine zst ?_|refine zo ?_|(refine zk ?_ ?_<;>intro hc hr<;>try exact zx))
  all_goals try exact zv
  · have : ¬ es = es' := by rintro rfl; simp at hc
    all_goals try exact zv
  · have hl : es.length = es'.length := by omega
    refine z_loop (fun i : Nat => [(5, aI i)]) (fun i : Nat => []) (fun i : Nat => i ≤ es.length ∧ ∀ j, j < i → ed es j = ed es' j) (fun i : Nat => es.length - i) (0) (h0 := ?_) (henv := ?_) (hobj := ?_) (h := ?_)
    · exact ⟨by omega, fun j hj => by omega⟩
    · simp [go_sem, AVm, CVm, lookS]
    · simp [go_sem, OBm, CVm, lookS, All2]
    rintro i ⟨hi, hall⟩
    rcases Nat.lt_or_ge i es.length with hlt | hge
    · have hlt2 : i < es'.length := by omega
      repeat' (first|(refine ya ?_;first|refine ye ?_)|((first|refine yg ?_|refine yG ?_);intro hq;first|(replace hq:=zgy hq;first|refine yy hq ?_|refine yY hq ?_;clear hq)|((first|refine yn (zgn hq) ?_|refine yN (zgn hq) ?_);clear hq)|((fail_if_success have:=zgy hq);(first|refine zs hq ?_ ?_|refine zS hq ?_ ?_)<;>clear hq<;>intro hg hr<;>try exact zx))|refine yz ?_|(refine yA ?_;first|refine yE ?_)|refine yZ ?_|refine zst ?_|refine zo ?_|(refine zk ?_ ?_<;>intro hc hr<;>try exact zx))
      · have : ¬ es = es' := by rintro rfl; simp at hc
        all_goals try exact zv
      · have he : ed es i = ed es' i := Prod.ext hc.1 (Prod.ext hc.2.1 hc.2.2)
        exact zl (i + 1) (hj := by exact ⟨by omega, fun j hj => (Nat.lt_or_ge j i).elim (hall j) fun h => by rw [show j = i by omega]; exact he⟩)
    · have : es = es' := by
        apply List.ext_getElem hl
        intro j h1 h2
        have := hall j (by omega)
        simpa [ed, h1, h2] using this
      repeat' (first|(refine ya ?_;first|refine ye ?_)|((first|refine yg ?_|refine yG ?_);intro hq;first|(replace hq:=zgy hq;first|refine yy hq ?_|refine yY hq ?_;clear hq)|((first|refine yn (zgn hq) ?_|refine yN (zgn hq) ?_);clear hq)|((fail_if_success have:=zgy hq);(first|refine zs hq ?_ ?_|refine zS hq ?_ ?_)<;>clear hq<;>intro hg hr<;>try exact zx))|refine yz ?_|(refine yA ?_;first|refine yE ?_)|refine yZ ?_|refine zst ?_|refine zo ?_|(refine zk ?_ ?_<;>intro hc hr<;>try exact zx))
      all_goals try exact zv
instance : Con Tryz.prog 50 eqG_sat2_S := con eqG_sat2 Tryz.func50
@[go_sem] def K_canG_sat (i : Nat) : List Nat := ([[1,2],[1,2,5],[2],[2]]).getD i []
def canG_sat_S : Eng.Spec := fun args av objs => ∃ (r z : Int) (es : List Ed), (es.length ≤ 1048576) ∧ args = [grA r z es] ∧ av = gT (canG ⟨r, z, es⟩) ∧ objs = [oE 65 (canG ⟨r, z, es⟩).es]
theorem canG_sat : Sat Tryz.prog 98 canG_sat_S := by
  refine sat_of tok okr mixed K_canG_sat Tryz.func98 rfl (rs := [.cell 2 26]) rfl Tryz.ntmps98 ?_
  rintro args av objs ⟨r, z, es, hpre, rfl, rfl, rfl⟩
  refine ⟨by show 1 ≤ 12; decide, ?_⟩
  cases hok : isF r z es
  · rw [canG_no hok]
    repeat' (first|(refine ya ?_;first|refine yc ?_|refine ye ?_)|refine yz ?_|(refine yA ?_;first|refine yC ?_|refine yE ?_)|refine yZ ?_|refine zst ?_|refine zo ?_|(refine zk ?_ ?_<;>intro hc hr<;>try exact zx))
    all_goals try exact zv
  · have hG := isF_g hok
    have hz := isG_z hG
    obtain ⟨_, ⟨h1, h2⟩, h3⟩ := renV_iff.1 (can_ren hok)
    rw [canG_yes hok]
    repeat' (first|(refine ya ?_;first|refine yc ?_|refine ye ?_)|refine yz ?_|(refine yA ?_;first|refine yC ?_|refine yE ?_)|refine yZ ?_|refine zst ?_|refine zo ?_|(refine zk ?_ ?_<;>intro hc hr<;>try exact zx))
    all_goals try exact zv
instance : Con Tryz.prog 98 canG_sat_S := con canG_sat Tryz.func98
@[go_sem] def K_canG_sat2 (i : Nat) : List Nat := ([[1,2],[1,2,3],[1,2,3,10],[2],[2,4],[2]]).getD i []
def canG_sat2_S : Eng.Spec := fun args av objs => ∃ (r z : Int) (es : List Ed), (es.length ≤ 1048576) ∧ args = [grA r z es] ∧ av = gT (canG ⟨r, z, es⟩) ∧ objs = [oE 65 (canG ⟨r, z, es⟩).es]
theorem canG_sat2 : Sat Tryz.prog 111 canG_sat2_S := by
  refine sat_of tok okr mixed K_canG_sat2 Tryz.func111 rfl (rs := [.cell 2 26]) rfl Tryz.ntmps111 ?_
  rintro args av objs ⟨r, z, es, hpre, rfl, rfl, rfl⟩
  refine ⟨by show 1 ≤ 20; decide, ?_⟩
  cases hok : isF r z es
  · have : canO r z es = [] := canO_no hok
    have hl : (canO r z es).length = 0 := by rw [this]; rfl
    rw [canG_no hok]
    repeat' (first|(refine ya ?_;first|refine yc ?_|refine ye ?_)|refine yz ?_|refine zst ?_|refine zo ?_|(refine zk ?_ ?_<;>intro hc hr<;>try exact zx))
    all_goals try exact zv
  · have hG := isF_g hok
    have hz := isG_z hG
    obtain ⟨_, ⟨h1, h2⟩, h3⟩ := renV_iff.1 (can_ren hok)
    have hgg : canG ⟨r, z, es⟩ = ren ⟨r, z, es⟩ (canO r z es) := rfl
    rw [hgg]
    repeat' (first|(refine ya ?_;first|refine yc ?_|refine ye ?_)|refine yz ?_|refine zst ?_|refine zo ?_|(refine zk ?_ ?_<;>intro hc hr<;>try exact zx))
    all_goals try exact zv
instance : Con Tryz.prog 111 canG_sat2_S := con canG_sat2 Tryz.func111
end Go.Proofs.Tryz
namespace Go.Proofs.Tryz
open Go Go.Eng
theorem isC_no {r z : Int} {es : List Ed} (h : isF r z es = false) : isC r z es = false := by simp [isC, h]
theorem isC_eq {r z : Int} {es : List Ed} (h : isF r z es = true) : isC r z es = (decide (gone ⟨r, z, es⟩ = 0) && decide ((canG ⟨r, z, es⟩).r = r ∧ (canG ⟨r, z, es⟩).z = z ∧ (canG ⟨r, z, es⟩).es = es)) := by simp [isC, h]
@[go_sem] def K_core_sat (i : Nat) : List Nat := ([[1,2],[2,3],[2,5],[2]]).getD i []

def core_sat_S : Eng.Spec := fun args av objs => ∃ (r z : Int) (es : List Ed), (es.length ≤ 1048576) ∧ args = [grA r z es] ∧ av = gT (coreG ⟨r, z, es⟩) ∧ objs = [oE 65 (coreG ⟨r, z, es⟩).es]
theorem core_sat : Sat Tryz.prog 114 core_sat_S := by
  refine sat_of tok okr mixed K_core_sat Tryz.func114 rfl (rs := [.cell 2 26]) rfl Tryz.ntmps114 ?_
  rintro args av objs ⟨r, z, es, hpre, rfl, rfl, rfl⟩
  refine ⟨by show 1 ≤ 19; decide, ?_⟩
  have h1 : (foldO [] ⟨r, z, es⟩).1.es.length ≤ 1048576 := foldO_es hpre (by omega)
  have h2 := trim_es h1 (by omega)
  have h3 : coreG ⟨r, z, es⟩ = canG (trimG (foldO [] ⟨r, z, es⟩).1).1 := rfl
  rw [h3]
  clear h3
  repeat' (first|(refine ya ?_;first|refine yc ?_|refine ye ?_)|refine yz ?_|refine zst ?_|refine zo ?_|(refine zk ?_ ?_<;>intro hc hr<;>try exact zx))
  all_goals try exact zv
instance : Con Tryz.prog 114 core_sat_S := con core_sat Tryz.func114
@[go_sem] def K_core_sat2 (i : Nat) : List Nat := ([[1,2],[2,3],[2,5],[2]]).getD i []

def core_sat2_S : Eng.Spec := fun args av objs => ∃ (r z : Int) (es : List Ed), (es.length ≤ 1048576) ∧ args = [grA r z es] ∧ av = gT (coreG ⟨r, z, es⟩) ∧ objs = [oE 65 (coreG ⟨r, z, es⟩).es]
theorem core_sat2 : Sat Tryz.prog 122 core_sat2_S := by
  refine sat_of tok okr mixed K_core_sat2 Tryz.func122 rfl (rs := [.cell 2 26]) rfl Tryz.ntmps122 ?_
  rintro args av objs ⟨r, z, es, hpre, rfl, rfl, rfl⟩
  refine ⟨by show 1 ≤ 19; decide, ?_⟩
  have h1 : (foldO [] ⟨r, z, es⟩).1.es.length ≤ 1048576 := foldO_es hpre (by omega)
  have h2 := trim_es h1 (by omega)
  have h3 : coreG ⟨r, z, es⟩ = canG (trimG (foldO [] ⟨r, z, es⟩).1).1 := rfl
  rw [h3]
  clear h3
  repeat' (first|(refine ya ?_;first|refine yc ?_|refine ye ?_)|refine yz ?_|refine zst ?_|refine zo ?_|(refine zk ?_ ?_<;>intro hc hr<;>try exact zx))
  all_goals try exact zv
instance : Con Tryz.prog 122 core_sat2_S := con core_sat2 Tryz.func122
@[go_sem] def K_isCore_sat (i : Nat) : List Nat := ([[1],[1,7],[2],[1,3],[2]]).getD i []

def isCore_sat_S : Eng.Spec := fun args av objs => ∃ (r z : Int) (es : List Ed), (es.length ≤ 1048576) ∧ args = [grA r z es] ∧ av = aB (isC r z es) ∧ objs = []
theorem isCore_sat : Sat Tryz.prog 57 isCore_sat_S := by
  refine sat_of tok okr mixed K_isCore_sat Tryz.func57 rfl (rs := [.tmp 2]) rfl Tryz.ntmps57 ?_
  rintro args av objs ⟨r, z, es, hpre, rfl, rfl, rfl⟩
  refine ⟨by show 1 ≤ 24; decide, ?_⟩
  cases hok : isF r z es
  · rw [isC_no hok]
    repeat' (first|(refine ya ?_;first|refine yc ?_|refine ye ?_)|((first|refine yg ?_|refine yG ?_);intro hq;first|(replace hq:=zgy hq;first|refine yc ?_|refine yC ?_|refine yy hq ?_|refine yY hq ?_;clear hq)|((first|refine yn (zgn hq) ?_|refine yN (zgn hq) ?_);clear hq)|((fail_if_success have:=zgy hq);(first|refine zs hq ?_ ?_|refine zS hq ?_ ?_)<;>clear hq<;>intro hg hr<;>try exact zx))|refine yz ?_|(refine yA ?_;first|refine yC ?_|refine yE ?_)|refine yZ ?_|refine zst ?_|refine zo ?_|(refine zk ?_ ?_<;>intro hc hr<;>try exact zx))
    all_goals try exact zv
  · have hG := isF_g hok
    have hz := isG_z hG
    have h1 := trim_es (g := ⟨r, z, es⟩) (n := 1048576) hpre (by omega)
    have h2 := canG_es (g := ⟨r, z, es⟩) (n := 1048576) hpre (by omega)
    have h3 : (trimG ⟨r, z, es⟩).1.z = z ↔ gone ⟨r, z, es⟩ = 0 := trim_size (g := ⟨r, z, es⟩) hG
    rw [isC_eq hok, show decide (gone ⟨r, z, es⟩ = 0) = decide ((trimG ⟨r, z, es⟩).1.z = z) from decide_eq_decide.2 h3.symm]
    clear h3
    repeat' (first|(refine ya ?_;first|refine yc ?_|refine ye ?_)|((first|refine yg ?_|refine yG ?_);intro hq;first|(replace hq:=zgy hq;first|refine yc ?_|refine yC ?_|refine yy hq ?_|refine yY hq ?_;clear hq)|((first|refine yn (zgn hq) ?_|refine yN (zgn hq) ?_);clear hq)|((fail_if_success have:=zgy hq);(first|refine zs hq ?_ ?_|refine zS hq ?_ ?_)<;>clear hq<;>intro hg hr<;>try exact zx))|refine yz ?_|(refine yA ?_;first|refine yC ?_|refine yE ?_)|refine yZ ?_|refine zst ?_|refine zo ?_|(refine zk ?_ ?_<;>intro hc hr<;>try exact zx))
    all_goals try exact zv
instance : Con Tryz.prog 57 isCore_sat_S := con isCore_sat Tryz.func57
@[go_sem] def K_isCore_sat2 (i : Nat) : List Nat := ([[1],[2]]).getD i []

def isCore_sat2_S : Eng.Spec := fun args av objs => ∃ (r z : Int) (es : List Ed), (es.length ≤ 1048576) ∧ args = [grA r z es] ∧ av = aB (isC r z es) ∧ objs = []
theorem isCore_sat2 : Sat Tryz.prog 66 isCore_sat2_S := by
  refine sat_of tok okr mixed K_isCore_sat2 Tryz.func66 rfl (rs := [.tmp 2]) rfl Tryz.ntmps66 ?_
  rintro args av objs ⟨r, z, es, hpre, rfl, rfl, rfl⟩
  refine ⟨by show 1 ≤ 16; decide, ?_⟩
  cases hok : isF r z es
  · rw [isC_no hok]
    repeat' (first|(refine ya ?_;first|refine yc ?_|refine ye ?_)|((first|refine yg ?_|refine yG ?_);intro hq;first|(replace hq:=zgy hq;first|refine yc ?_|refine yC ?_|refine yy hq ?_|refine yY hq ?_;clear hq)|((first|refine yn (zgn hq) ?_|refine yN (zgn hq) ?_);clear hq)|((fail_if_success have:=zgy hq);(first|refine zs hq ?_ ?_|refine zS hq ?_ ?_)<;>clear hq<;>intro hg hr<;>try exact zx))|refine yz ?_|(refine yA ?_;first|refine yC ?_|refine yE ?_)|refine yZ ?_|refine zst ?_|refine zo ?_|(refine zk ?_ ?_<;>intro hc hr<;>try exact zx))
    all_goals try exact zv
  · have hG := isF_g hok
    have hz := isG_z hG
    have h2 := canG_es (g := ⟨r, z, es⟩) (n := 1048576) hpre (by omega)
    have h3 : 0 ≤ gone ⟨r, z, es⟩ := gone_in.1
    rw [isC_eq hok]
    by_cases hg : gone ⟨r, z, es⟩ = 0
    · have h4 : (if gone ⟨r, z, es⟩ = 0 then -1 else gone ⟨r, z, es⟩) = -1 := by rw [if_pos hg]
      repeat' (first|(refine ya ?_;first|refine yc ?_|refine ye ?_)|((first|refine yg ?_|refine yG ?_);intro hq;first|(replace hq:=zgy hq;first|refine yc ?_|refine yC ?_|refine yy hq ?_|refine yY hq ?_;clear hq)|((first|refine yn (zgn hq) ?_|refine yN (zgn hq) ?_);clear hq)|((fail_if_success have:=zgy hq);(first|refine zs hq ?_ ?_|refine zS hq ?_ ?_)<;>clear hq<;>intro hg hr<;>try exact zx))|refine yz ?_|(refine yA ?_;first|refine yC ?_|refine yE ?_)|refine yZ ?_|refine zst ?_|refine zo ?_|(refine zk ?_ ?_<;>intro hc hr<;>try exact zx))
      all_goals try exact zv
    · have h4 : (if gone ⟨r, z, es⟩ = 0 then -1 else gone ⟨r, z, es⟩) = gone ⟨r, z, es⟩ := by rw [if_neg hg]
      repeat' (first|(refine ya ?_;first|refine yc ?_|refine ye ?_)|((first|refine yg ?_|refine yG ?_);intro hq;first|(replace hq:=zgy hq;first|refine yc ?_|refine yC ?_|refine yy hq ?_|refine yY hq ?_;clear hq)|((first|refine yn (zgn hq) ?_|refine yN (zgn hq) ?_);clear hq)|((fail_if_success have:=zgy hq);(first|refine zs hq ?_ ?_|refine zS hq ?_ ?_)<;>clear hq<;>intro hg hr<;>try exact zx))|refine yz ?_|(refine yA ?_;first|refine yC ?_|refine yE ?_)|refine yZ ?_|refine zst ?_|refine zo ?_|(refine zk ?_ ?_<;>intro hc hr<;>try exact zx))
      all_goals try exact zv
instance : Con Tryz.prog 66 isCore_sat2_S := con isCore_sat2 Tryz.func66
@[go_sem] def K_isSub_sat2 (i : Nat) : List Nat := ([[1],[2]]).getD i []

def isSub_sat2_S : Eng.Spec := fun args av objs => ∃ (r z : Int) (es : List Ed), (es.length ≤ 1048576) ∧ args = [grA r z es] ∧ av = aB (isC r z es) ∧ objs = []
theorem isSub_sat2 : Sat Tryz.prog 14 isSub_sat2_S := by
  refine sat_of tok okr mixed K_isSub_sat2 Tryz.func14 rfl (rs := [.tmp 2]) rfl Tryz.ntmps14 ?_
  rintro args av objs ⟨r, z, es, hpre, rfl, rfl, rfl⟩
  refine ⟨by show 1 ≤ 5; decide, ?_⟩
  repeat' (first|(refine ya ?_;first|refine yc ?_|refine ye ?_)|refine yz ?_|refine zst ?_|refine zo ?_|(refine zk ?_ ?_<;>intro hc hr<;>try exact zx))
  all_goals try exact zv
noncomputable def rkO (r z : Int) (es : List Ed) : Int := if isC r z es then (es.length : Int) - z + 1 else -1
instance : Con Tryz.prog 14 isSub_sat2_S := con isSub_sat2 Tryz.func14
@[go_sem] def K_rank_sat (i : Nat) : List Nat := ([[1],[1,5],[2],[2]]).getD i []

def rank_sat_S : Eng.Spec := fun args av objs => ∃ (r z : Int) (es : List Ed), (es.length ≤ 1048576) ∧ args = [grA r z es] ∧ av = aI (rkO r z es) ∧ objs = []
theorem rank_sat : Sat Tryz.prog 10 rank_sat_S := by
  refine sat_of tok okr mixed K_rank_sat Tryz.func10 rfl (rs := [.tmp 2]) rfl Tryz.ntmps10 ?_
  rintro args av objs ⟨r, z, es, hpre, rfl, rfl, rfl⟩
  refine ⟨by show 1 ≤ 13; decide, ?_⟩
  cases hok : isC r z es
  · have : rkO r z es = -1 := by simp [rkO, hok]
    rw [this]
    repeat' (first|(refine ya ?_;first|refine yc ?_|refine ye ?_)|refine yz ?_|refine zst ?_|refine zo ?_|(refine zk ?_ ?_<;>intro hc hr<;>try exact zx))
    all_goals try exact zv
  · have : rkO r z es = (es.length : Int) - z + 1 := by simp [rkO, hok]
    have hz := isG_z (isF_g (isC_f hok))
    rw [this]
    repeat' (first|(refine ya ?_;first|refine yc ?_|refine ye ?_)|refine yz ?_|refine zst ?_|refine zo ?_|(refine zk ?_ ?_<;>intro hc hr<;>try exact zx))
    all_goals try exact zv
instance : Con Tryz.prog 10 rank_sat_S := con rank_sat Tryz.func10
@[go_sem] def K_rank_sat2 (i : Nat) : List Nat := ([[1],[1,5],[2],[2]]).getD i []

def rank_sat2_S : Eng.Spec := fun args av objs => ∃ (r z : Int) (es : List Ed), (es.length ≤ 1048576) ∧ args = [grA r z es] ∧ av = aI (rkO r z es) ∧ objs = []
theorem rank_sat2 : Sat Tryz.prog 11 rank_sat2_S := by
  refine sat_of tok okr mixed K_rank_sat2 Tryz.func11 rfl (rs := [.tmp 2]) rfl Tryz.ntmps11 ?_
  rintro args av objs ⟨r, z, es, hpre, rfl, rfl, rfl⟩
  refine ⟨by show 1 ≤ 13; decide, ?_⟩
  cases hok : isC r z es
  · have : rkO r z es = -1 := by simp [rkO, hok]
    rw [this]
    repeat' (first|(refine ya ?_;first|refine yc ?_|refine ye ?_)|refine yz ?_|refine zst ?_|refine zo ?_|(refine zk ?_ ?_<;>intro hc hr<;>try exact zx))
    all_goals try exact zv
  · have : rkO r z es = (es.length : Int) - z + 1 := by simp [rkO, hok]
    have hz := isG_z (isF_g (isC_f hok))
    rw [this]
    repeat' (first|(refine ya ?_;first|refine yc ?_|refine ye ?_)|refine yz ?_|refine zst ?_|refine zo ?_|(refine zk ?_ ?_<;>intro hc hr<;>try exact zx))
    all_goals try exact zv
instance : Con Tryz.prog 11 rank_sat2_S := con rank_sat2 Tryz.func11
end Go.Proofs.Tryz
