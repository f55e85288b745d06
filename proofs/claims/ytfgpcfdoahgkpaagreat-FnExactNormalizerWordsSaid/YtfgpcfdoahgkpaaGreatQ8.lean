import Derived.Test.YtfgpcfdoahgkpaaGreatZ
import Derived.Test.YtfgpcfdoahgkpaaGreatY
set_option linter.unusedVariables false
set_option linter.unusedSimpArgs false
set_option linter.unnecessarySimpa false
namespace Go.Proofs.Tryz
open Go Go.Eng
set_option linter.unnecessarySimpa false
set_option linter.unusedSimpArgs false
set_option maxHeartbeats 4000000
theorem movG_es {g : Gr} {v : Int} {n : Nat} (h : g.es.length ≤ n) (hn : 120 ≤ n) : (movG g v).es.length ≤ n := by
  by_cases hc : isF g.r g.z g.es = true
  · have := isG_z (isF_g (movG_F (v := v) hc)); omega
  · unfold movG
    rw [if_neg (fun h => hc h.1)]
    exact h
theorem movG_no {r z v : Int} {es : List Ed} (h : ¬ (isF r z es = true ∧ 0 ≤ v ∧ v < z)) : movG ⟨r, z, es⟩ v = ⟨r, z, es⟩ := by
  unfold movG; rw [if_neg h]
theorem movB_no {r z v : Int} {es : List Ed} (h : ¬ (isF r z es = true ∧ 0 ≤ v ∧ v < z)) : movB ⟨r, z, es⟩ v = false := by
  rw [← Bool.not_eq_true]
  intro h2
  simp only [movB, Bool.and_eq_true, decide_eq_true_eq] at h2
  exact h h2
theorem movB_yes {r z v : Int} {es : List Ed} (h : isF r z es = true ∧ 0 ≤ v ∧ v < z) : movB ⟨r, z, es⟩ v = true := by
  simp only [movB, Bool.and_eq_true, decide_eq_true_eq]; exact h
theorem mvO_0 (v : Int) : [[Sc.int v]] = ints (v :: othN v 0) := rfl
def K_moveB_sat : Nat → List Nat := fun i => ([[1, 2, 4], [1, 2, 4, 16], [4, 5], [1, 2, 4, 6], [1, 2, 4, 6, 7], [1, 2, 4, 6, 7, 24], [1, 2, 4, 6, 7], [1, 2, 4, 6, 7, 29], [1, 2, 4, 6, 7], [4, 5]] : List (List Nat)).getD i []
attribute [go_sem] K_moveB_sat
def moveB_sat_S : Eng.Spec := fun args av objs => ∃ (r z : Int) (es : List Ed) (v : Int), (es.length ≤ 1048576) ∧ args = [grA r z es, aI v] ∧ av = .tup [gT (movG ⟨r, z, es⟩ v), aB (movB ⟨r, z, es⟩ v)] ∧ objs = [oE 68 (movG ⟨r, z, es⟩ v).es]
theorem moveB_sat : Sat Tryz.prog 48 moveB_sat_S := by
  refine sat_of tok okr mixed K_moveB_sat Tryz.func48 rfl (rs := [.cell 4 31, .tmp 5]) rfl Tryz.ntmps48 ?_
  rintro args av objs ⟨r, z, es, v, hpre, rfl, rfl, rfl⟩
  refine ⟨by show 2 ≤ 38; decide, ?_⟩
  by_cases hb : isF r z es = true ∧ 0 ≤ v ∧ v < z
  · have hG := isF_g hb.1
    have hz := isG_z hG
    rw [movG_yes hb.1 hb.2, movB_yes hb]
    obtain ⟨hb1, hb2, hb3⟩ := hb
    have hren := mvO_ren hG ⟨hb2, hb3⟩
    obtain ⟨_, ⟨h1, h2⟩, h3⟩ := renV_iff.1 hren
    have hp1 : (prt (mvO z v) ⟨r, z, es⟩).es.length ≤ 1048576 := by have := isG_z (isF_g (prt_F hb1 hren)); omega
    repeat' (first|(refine ya ?_;first|(refine yb ?_;first|refine yc ?_)|refine ye ?_)|(refine yg ?_;intro hgs;first|(replace hgs:=zgy hgs;first|(refine yb ?_;first|refine yc ?_)|refine yy hgs ?_;clear hgs)|(refine yn (zgn hgs) ?_;clear hgs)|((fail_if_success have:=zgy hgs);refine z_spl hgs (h1:=?_) (h2:=?_)<;>clear hgs<;>intro hg hr<;>try first|contradiction|exfalso;omega))|refine yz ?_|refine zst ?_|refine k_blk_other rfl ?_|(refine zk ?_ ?_<;>intro hc hr<;>try first|contradiction|exfalso;omega))
    refine z_loop (fun k : Nat => [(7, aI k)]) (fun k : Nat => [.obj 6 (oL 3 (v :: othN v k))]) (fun k : Nat => k ≤ z.toNat) (fun k : Nat => z.toNat - k) (0) (h0 := ?_) (henv := ?_) (hobj := ?_) (h := ?_)
    · omega
    · simp [go_sem, AVm, CVm, lookS, mvO_0]
    · simp [go_sem, OBm, CVm, lookS, All2, mvO_0]
    intro k hk
    have hol := othN_le v k
    rcases Nat.lt_or_ge k z.toNat with hlt | hge
    · by_cases hkg : (k : Int) = v
      · have ho : othN v (k + 1) = othN v k := by rw [othN, if_pos hkg]
        repeat' (first|(refine ya ?_;first|(refine yb ?_;first|refine yc ?_)|refine ye ?_)|(refine yg ?_;intro hgs;first|(replace hgs:=zgy hgs;first|(refine yb ?_;first|refine yc ?_)|refine yy hgs ?_;clear hgs)|(refine yn (zgn hgs) ?_;clear hgs)|((fail_if_success have:=zgy hgs);refine z_spl hgs (h1:=?_) (h2:=?_)<;>clear hgs<;>intro hg hr<;>try first|contradiction|exfalso;omega))|refine yz ?_|refine zst ?_|refine k_blk_other rfl ?_|(refine zk ?_ ?_<;>intro hc hr<;>try first|contradiction|exfalso;omega))
        (refine z_lop (k + 1) (hj := ?_) (hmu := ?_) (henv := ?_) (hobj := ?_); (· omega); (· first | omega | (simp only; omega)); (· first | (simp [go_sem, AVm, CVm, lookS, ho, *]; done) | (simp [go_sem, AVm, CVm, lookS, ho, *] <;> (repeat' split) <;> first | omega | (simp_all; done) | (exfalso; omega) | (simp_all; omega))); (· first | (simp [go_sem, OBm, CVm, All2, lookS, ho, *]; done) | (simp [go_sem, OBm, CVm, All2, lookS, ho, *] <;> (repeat' split) <;> first | omega | (simp_all; done) | (exfalso; omega) | (simp_all; omega))))
      · have ho : othN v (k + 1) = othN v k ++ [(k : Int)] := by rw [othN, if_neg hkg]
        repeat' (first|(refine ya ?_;first|(refine yb ?_;first|refine yc ?_)|refine ye ?_)|(refine yg ?_;intro hgs;first|(replace hgs:=zgy hgs;first|(refine yb ?_;first|refine yc ?_)|refine yy hgs ?_;clear hgs)|(refine yn (zgn hgs) ?_;clear hgs)|((fail_if_success have:=zgy hgs);refine z_spl hgs (h1:=?_) (h2:=?_)<;>clear hgs<;>intro hg hr<;>try first|contradiction|exfalso;omega))|refine yz ?_|refine zst ?_|refine k_blk_other rfl ?_|(refine zk ?_ ?_<;>intro hc hr<;>try first|contradiction|exfalso;omega))
        (refine z_lop (k + 1) (hj := ?_) (hmu := ?_) (henv := ?_) (hobj := ?_); (· omega); (· first | omega | (simp only; omega)); (· first | (simp [go_sem, AVm, CVm, lookS, ho, *]; done) | (simp [go_sem, AVm, CVm, lookS, ho, *] <;> (repeat' split) <;> first | omega | (simp_all; done) | (exfalso; omega) | (simp_all; omega))); (· first | (simp [go_sem, OBm, CVm, All2, lookS, ho, *]; done) | (simp [go_sem, OBm, CVm, All2, lookS, ho, *] <;> (repeat' split) <;> first | omega | (simp_all; done) | (exfalso; omega) | (simp_all; omega))))
    · have hkk : k = z.toNat := by omega
      subst hkk
      have hm : v :: othN v z.toNat = mvO z v := rfl
      rw [hm]
      clear hren
      repeat' (first|(refine ya ?_;first|(refine yb ?_;first|refine yc ?_)|refine ye ?_)|(refine yg ?_;intro hgs;first|(replace hgs:=zgy hgs;first|(refine yb ?_;first|refine yc ?_)|refine yy hgs ?_;clear hgs)|(refine yn (zgn hgs) ?_;clear hgs)|((fail_if_success have:=zgy hgs);refine z_spl hgs (h1:=?_) (h2:=?_)<;>clear hgs<;>intro hg hr<;>try first|contradiction|exfalso;omega))|refine yz ?_|refine zst ?_|refine k_blk_other rfl ?_|(refine zk ?_ ?_<;>intro hc hr<;>try first|contradiction|exfalso;omega))
      all_goals first | (refine z_ret (hv := ?_) (ho := ?_) <;> first | rfl | (simp [go_sem, *]; done) | (simp_all; done) | (simp_all; omega)) | skip
  · rw [movG_no hb, movB_no hb]
    cases hok : isF r z es
    · repeat' (first|(refine ya ?_;first|(refine yb ?_;first|refine yc ?_)|refine ye ?_)|(refine yg ?_;intro hgs;first|(replace hgs:=zgy hgs;first|(refine yb ?_;first|refine yc ?_)|refine yy hgs ?_;clear hgs)|(refine yn (zgn hgs) ?_;clear hgs)|((fail_if_success have:=zgy hgs);refine z_spl hgs (h1:=?_) (h2:=?_)<;>clear hgs<;>intro hg hr<;>try first|contradiction|exfalso;omega))|refine yz ?_|refine zst ?_|refine k_blk_other rfl ?_|(refine zk ?_ ?_<;>intro hc hr<;>try first|contradiction|exfalso;omega))
      all_goals first | (refine z_ret (hv := ?_) (ho := ?_) <;> first | rfl | (simp [go_sem, *]; done) | (simp_all; done) | (simp_all; omega)) | skip
    · have hz := isG_z (isF_g hok)
      have hb2 : ¬ (0 ≤ v ∧ v < z) := fun h => hb ⟨hok, h⟩
      repeat' (first|(refine ya ?_;first|(refine yb ?_;first|refine yc ?_)|refine ye ?_)|(refine yg ?_;intro hgs;first|(replace hgs:=zgy hgs;first|(refine yb ?_;first|refine yc ?_)|refine yy hgs ?_;clear hgs)|(refine yn (zgn hgs) ?_;clear hgs)|((fail_if_success have:=zgy hgs);refine z_spl hgs (h1:=?_) (h2:=?_)<;>clear hgs<;>intro hg hr<;>try first|contradiction|exfalso;omega))|refine yz ?_|refine zst ?_|refine k_blk_other rfl ?_|(refine zk ?_ ?_<;>intro hc hr<;>try first|contradiction|exfalso;omega))
      all_goals first | (refine z_ret (hv := ?_) (ho := ?_) <;> first | rfl | (simp [go_sem, *]; done) | (simp_all; done) | (simp_all; omega)) | skip
instance : Con Tryz.prog 48 moveB_sat_S := con moveB_sat Tryz.func48
def K_moveB_sat2 : Nat → List Nat := fun i => ([[1, 2, 4], [1, 2, 4, 20], [4, 5], [1, 2, 4, 6], [1, 2, 4, 6, 7], [1, 2, 4, 6, 7, 28], [1, 2, 4, 6, 7], [1, 2, 4, 6, 7, 33], [1, 2, 4, 6, 7], [4, 8], [4, 5]] : List (List Nat)).getD i []
attribute [go_sem] K_moveB_sat2
def moveB_sat2_S : Eng.Spec := fun args av objs => ∃ (r z : Int) (es : List Ed) (v : Int), (es.length ≤ 1048576) ∧ args = [grA r z es, aI v] ∧ av = .tup [gT (movG ⟨r, z, es⟩ v), aB (movB ⟨r, z, es⟩ v)] ∧ objs = [oE 68 (movG ⟨r, z, es⟩ v).es]
theorem moveB_sat2 : Sat Tryz.prog 40 moveB_sat2_S := by
  refine sat_of tok okr mixed K_moveB_sat2 Tryz.func40 rfl (rs := [.cell 4 31, .tmp 5]) rfl Tryz.ntmps40 ?_
  rintro args av objs ⟨r, z, es, v, hpre, rfl, rfl, rfl⟩
  refine ⟨by show 2 ≤ 46; decide, ?_⟩
  by_cases hb : isF r z es = true ∧ 0 ≤ v ∧ v < z
  · have hG := isF_g hb.1
    have hz := isG_z hG
    rw [movG_yes hb.1 hb.2, movB_yes hb]
    obtain ⟨hb1, hb2, hb3⟩ := hb
    have hren := mvO_ren hG ⟨hb2, hb3⟩
    have hry := ren_yes hren
    have hp1 : (prt (mvO z v) ⟨r, z, es⟩).es.length ≤ 1048576 := by have := isG_z (isF_g (prt_F hb1 hren)); omega
    obtain ⟨_, ⟨h1, h2⟩, h3⟩ := renV_iff.1 hren
    repeat' (first|(refine ya ?_;first|(refine yb ?_;first|refine yc ?_)|refine ye ?_)|(refine yg ?_;intro hgs;first|(replace hgs:=zgy hgs;first|(refine yb ?_;first|refine yc ?_)|refine yy hgs ?_;clear hgs)|(refine yn (zgn hgs) ?_;clear hgs)|((fail_if_success have:=zgy hgs);refine z_spl hgs (h1:=?_) (h2:=?_)<;>clear hgs<;>intro hg hr<;>try first|contradiction|exfalso;omega))|refine yz ?_|refine zst ?_|refine k_blk_other rfl ?_|(refine zk ?_ ?_<;>intro hc hr<;>try first|contradiction|exfalso;omega))
    refine z_loop (fun k : Nat => [(7, aI k)]) (fun k : Nat => [.obj 6 (oL 3 (v :: othN v k))]) (fun k : Nat => k ≤ z.toNat) (fun k : Nat => z.toNat - k) (0) (h0 := ?_) (henv := ?_) (hobj := ?_) (h := ?_)
    · omega
    · simp [go_sem, AVm, CVm, lookS, mvO_0]
    · simp [go_sem, OBm, CVm, lookS, All2, mvO_0]
    intro k hk
    have hol := othN_le v k
    rcases Nat.lt_or_ge k z.toNat with hlt | hge
    · by_cases hkg : (k : Int) = v
      · have ho : othN v (k + 1) = othN v k := by rw [othN, if_pos hkg]
        repeat' (first|(refine ya ?_;first|(refine yb ?_;first|refine yc ?_)|refine ye ?_)|(refine yg ?_;intro hgs;first|(replace hgs:=zgy hgs;first|(refine yb ?_;first|refine yc ?_)|refine yy hgs ?_;clear hgs)|(refine yn (zgn hgs) ?_;clear hgs)|((fail_if_success have:=zgy hgs);refine z_spl hgs (h1:=?_) (h2:=?_)<;>clear hgs<;>intro hg hr<;>try first|contradiction|exfalso;omega))|refine yz ?_|refine zst ?_|refine k_blk_other rfl ?_|(refine zk ?_ ?_<;>intro hc hr<;>try first|contradiction|exfalso;omega))
        (refine z_lop (k + 1) (hj := ?_) (hmu := ?_) (henv := ?_) (hobj := ?_); (· omega); (· first | omega | (simp only; omega)); (· first | (simp [go_sem, AVm, CVm, lookS, ho, *]; done) | (simp [go_sem, AVm, CVm, lookS, ho, *] <;> (repeat' split) <;> first | omega | (simp_all; done) | (exfalso; omega) | (simp_all; omega))); (· first | (simp [go_sem, OBm, CVm, All2, lookS, ho, *]; done) | (simp [go_sem, OBm, CVm, All2, lookS, ho, *] <;> (repeat' split) <;> first | omega | (simp_all; done) | (exfalso; omega) | (simp_all; omega))))
      · have ho : othN v (k + 1) = othN v k ++ [(k : Int)] := by rw [othN, if_neg hkg]
        repeat' (first|(refine ya ?_;first|(refine yb ?_;first|refine yc ?_)|refine ye ?_)|(refine yg ?_;intro hgs;first|(replace hgs:=zgy hgs;first|(refine yb ?_;first|refine yc ?_)|refine yy hgs ?_;clear hgs)|(refine yn (zgn hgs) ?_;clear hgs)|((fail_if_success have:=zgy hgs);refine z_spl hgs (h1:=?_) (h2:=?_)<;>clear hgs<;>intro hg hr<;>try first|contradiction|exfalso;omega))|refine yz ?_|refine zst ?_|refine k_blk_other rfl ?_|(refine zk ?_ ?_<;>intro hc hr<;>try first|contradiction|exfalso;omega))
        (refine z_lop (k + 1) (hj := ?_) (hmu := ?_) (henv := ?_) (hobj := ?_); (· omega); (· first | omega | (simp only; omega)); (· first | (simp [go_sem, AVm, CVm, lookS, ho, *]; done) | (simp [go_sem, AVm, CVm, lookS, ho, *] <;> (repeat' split) <;> first | omega | (simp_all; done) | (exfalso; omega) | (simp_all; omega))); (· first | (simp [go_sem, OBm, CVm, All2, lookS, ho, *]; done) | (simp [go_sem, OBm, CVm, All2, lookS, ho, *] <;> (repeat' split) <;> first | omega | (simp_all; done) | (exfalso; omega) | (simp_all; omega))))
    · have hkk : k = z.toNat := by omega
      subst hkk
      have hm : v :: othN v z.toNat = mvO z v := rfl
      rw [hm]
      have hp2 : (ren ⟨r, z, es⟩ (mvO z v)).es.length ≤ 1048576 := by rw [hry]; exact hp1
      rw [← hry]
      clear hren hry
      repeat' (first|(refine ya ?_;first|(refine yb ?_;first|refine yc ?_)|refine ye ?_)|(refine yg ?_;intro hgs;first|(replace hgs:=zgy hgs;first|(refine yb ?_;first|refine yc ?_)|refine yy hgs ?_;clear hgs)|(refine yn (zgn hgs) ?_;clear hgs)|((fail_if_success have:=zgy hgs);refine z_spl hgs (h1:=?_) (h2:=?_)<;>clear hgs<;>intro hg hr<;>try first|contradiction|exfalso;omega))|refine yz ?_|refine zst ?_|refine k_blk_other rfl ?_|(refine zk ?_ ?_<;>intro hc hr<;>try first|contradiction|exfalso;omega))
      all_goals first | (refine z_ret (hv := ?_) (ho := ?_) <;> first | rfl | (simp [go_sem, *]; done) | (simp_all; done) | (simp_all; omega)) | skip
  · rw [movG_no hb, movB_no hb]
    cases hok : isF r z es
    · repeat' (first|(refine ya ?_;first|(refine yb ?_;first|refine yc ?_)|refine ye ?_)|(refine yg ?_;intro hgs;first|(replace hgs:=zgy hgs;first|(refine yb ?_;first|refine yc ?_)|refine yy hgs ?_;clear hgs)|(refine yn (zgn hgs) ?_;clear hgs)|((fail_if_success have:=zgy hgs);refine z_spl hgs (h1:=?_) (h2:=?_)<;>clear hgs<;>intro hg hr<;>try first|contradiction|exfalso;omega))|refine yz ?_|refine zst ?_|refine k_blk_other rfl ?_|(refine zk ?_ ?_<;>intro hc hr<;>try first|contradiction|exfalso;omega))
      all_goals first | (refine z_ret (hv := ?_) (ho := ?_) <;> first | rfl | (simp [go_sem, *]; done) | (simp_all; done) | (simp_all; omega)) | skip
    · have hz := isG_z (isF_g hok)
      have hb2 : ¬ (0 ≤ v ∧ v < z) := fun h => hb ⟨hok, h⟩
      repeat' (first|(refine ya ?_;first|(refine yb ?_;first|refine yc ?_)|refine ye ?_)|(refine yg ?_;intro hgs;first|(replace hgs:=zgy hgs;first|(refine yb ?_;first|refine yc ?_)|refine yy hgs ?_;clear hgs)|(refine yn (zgn hgs) ?_;clear hgs)|((fail_if_success have:=zgy hgs);refine z_spl hgs (h1:=?_) (h2:=?_)<;>clear hgs<;>intro hg hr<;>try first|contradiction|exfalso;omega))|refine yz ?_|refine zst ?_|refine k_blk_other rfl ?_|(refine zk ?_ ?_<;>intro hc hr<;>try first|contradiction|exfalso;omega))
      all_goals first | (refine z_ret (hv := ?_) (ho := ?_) <;> first | rfl | (simp [go_sem, *]; done) | (simp_all; done) | (simp_all; omega)) | skip
instance : Con Tryz.prog 40 moveB_sat2_S := con moveB_sat2 Tryz.func40
end Go.Proofs.Tryz
