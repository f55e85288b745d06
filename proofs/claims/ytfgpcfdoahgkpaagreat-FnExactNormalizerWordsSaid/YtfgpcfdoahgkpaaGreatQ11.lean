import Derived.Test.YtfgpcfdoahgkpaaGreatQ10
set_option linter.unusedVariables false
set_option linter.unusedSimpArgs false
set_option linter.unnecessarySimpa false
namespace Go.Proofs.Tryz
open Go Go.Eng
set_option linter.unnecessarySimpa false
set_option linter.unusedSimpArgs false
set_option maxHeartbeats 4000000
def K_normW_no2 : Nat → List Nat := fun i => ([[1], [1, 3], [1, 3, 4], [1, 3, 4, 16], [1, 3, 4], [1, 3, 4, 5], [1, 3, 4, 27], [1, 3, 4, 7], [1, 3, 4], [2]] : List (List Nat)).getD i []
attribute [go_sem] K_normW_no2
def normW_no2_S : Eng.Spec := fun args av objs => ∃ (r z : Int) (es : List Ed), (es.length ≤ 1048576 ∧ isFi r z es = false) ∧ args = [grA r z es] ∧ av = aR 0 ∧ objs = [.rows 26 3 (.own true) (osW [])]
theorem normW_no2 : Sat Tryz.prog 33 normW_no2_S := by
  refine sat_of tok okr mixed K_normW_no2 Tryz.func33 rfl (rs := [.tmp 2]) rfl Tryz.ntmps33 ?_
  rintro args av objs ⟨r, z, es, hpre, rfl, rfl, rfl⟩
  refine ⟨by show 1 ≤ 36; decide, ?_⟩
  obtain ⟨he, hok⟩ := hpre
  repeat' (first|(refine ya ?_;first|(refine yb ?_;first|refine yc ?_)|refine ye ?_)|(refine yg ?_;intro hgs;first|(replace hgs:=zgy hgs;first|(refine yb ?_;first|refine yc ?_)|refine yy hgs ?_;clear hgs)|(refine yn (zgn hgs) ?_;clear hgs)|((fail_if_success have:=zgy hgs);refine z_spl hgs (h1:=?_) (h2:=?_)<;>clear hgs<;>intro hg hr<;>try first|contradiction|exfalso;omega))|refine yz ?_|refine zst ?_|refine k_blk_other rfl ?_|(refine zk ?_ ?_<;>intro hc hr<;>try first|contradiction|exfalso;omega))
  refine z_loop (fun i : Nat => []) (fun i : Nat => []) (fun i : Nat => i = 0) (fun i : Nat => 0 - i) (0) (h0 := ?_) (henv := ?_) (hobj := ?_) (h := ?_)
  · omega
  · simp [go_sem, AVm, CVm, lookS]
  · simp [go_sem, OBm, CVm, lookS, All2]
  intro i hi
  subst hi
  by_cases hz0 : 0 < z
  · repeat' (first|(refine ya ?_;first|(refine yb ?_;first|refine yc ?_)|refine ye ?_)|(refine yg ?_;intro hgs;first|(replace hgs:=zgy hgs;first|(refine yb ?_;first|refine yc ?_)|refine yy hgs ?_;clear hgs)|(refine yn (zgn hgs) ?_;clear hgs)|((fail_if_success have:=zgy hgs);refine z_spl hgs (h1:=?_) (h2:=?_)<;>clear hgs<;>intro hg hr<;>try first|contradiction|exfalso;omega))|refine yz ?_|refine zst ?_|refine k_blk_other rfl ?_|(refine zk ?_ ?_<;>intro hc hr<;>try first|contradiction|exfalso;omega))
    refine z_retT 64 (hv := ?_) (ho := ?_) <;> rfl
  · repeat' (first|(refine ya ?_;first|(refine yb ?_;first|refine yc ?_)|refine ye ?_)|(refine yg ?_;intro hgs;first|(replace hgs:=zgy hgs;first|(refine yb ?_;first|refine yc ?_)|refine yy hgs ?_;clear hgs)|(refine yn (zgn hgs) ?_;clear hgs)|((fail_if_success have:=zgy hgs);refine z_spl hgs (h1:=?_) (h2:=?_)<;>clear hgs<;>intro hg hr<;>try first|contradiction|exfalso;omega))|refine yz ?_|refine zst ?_|refine k_blk_other rfl ?_|(refine zk ?_ ?_<;>intro hc hr<;>try first|contradiction|exfalso;omega))
    refine z_retT 64 (hv := ?_) (ho := ?_) <;> rfl
instance : Con Tryz.prog 33 normW_no2_S := con normW_no2 Tryz.func33
def K_normW_yes2 : Nat → List Nat := fun i => ([[1], [1, 3], [1, 3, 4], [1, 3, 4, 16], [1, 3, 4], [1, 3, 4, 5], [1, 3, 4, 27], [1, 3, 4, 7], [1, 3, 4], [2]] : List (List Nat)).getD i []
attribute [go_sem] K_normW_yes2
def normW_yes2_S : Eng.Spec := fun args av objs => ∃ (r z : Int) (es : List Ed), (es.length ≤ 1048576 ∧ isFi r z es = true) ∧ args = [grA r z es] ∧ av = aR 0 ∧ objs = [.rows 26 3 (.own false) (osW (nzN r z es z.toNat))]
theorem normW_yes2 : Sat Tryz.prog 33 normW_yes2_S := by
  refine sat_of tok okr mixed K_normW_yes2 Tryz.func33 rfl (rs := [.tmp 2]) rfl Tryz.ntmps33 ?_
  rintro args av objs ⟨r, z, es, hpre, rfl, rfl, rfl⟩
  refine ⟨by show 1 ≤ 36; decide, ?_⟩
  obtain ⟨hes, hok⟩ := hpre
  have hz := isG_z (isF_g (isC_f (isFi_c hok)))
  repeat' (first|(refine ya ?_;first|(refine yb ?_;first|refine yc ?_)|refine ye ?_)|(refine yg ?_;intro hgs;first|(replace hgs:=zgy hgs;first|(refine yb ?_;first|refine yc ?_)|refine yy hgs ?_;clear hgs)|(refine yn (zgn hgs) ?_;clear hgs)|((fail_if_success have:=zgy hgs);refine z_spl hgs (h1:=?_) (h2:=?_)<;>clear hgs<;>intro hg hr<;>try first|contradiction|exfalso;omega))|refine yz ?_|refine zst ?_|refine k_blk_other rfl ?_|(refine zk ?_ ?_<;>intro hc hr<;>try first|contradiction|exfalso;omega))
  refine z_loop (fun v : Nat => [(4, aI v)]) (fun v : Nat => [.obj 3 (.rows 26 3 (.loc false) (osW (nzN r z es v)))]) (fun v : Nat => v ≤ z.toNat) (fun v : Nat => z.toNat - v) (0) (h0 := ?_) (henv := ?_) (hobj := ?_) (h := ?_)
  · omega
  · simp [go_sem, AVm, CVm, lookS, nzN, osW_nil]
  · simp [go_sem, OBm, CVm, lookS, All2, nzN, osW_nil]
  intro v hv
  have hnl := nzN_len r z es v
  rcases Nat.lt_or_ge v z.toNat with hlt | hge
  · have hme := movG_es (g := ⟨r, z, es⟩) (v := v) (n := 1048576) hes (by omega)
    by_cases he : (movG ⟨r, z, es⟩ v).r = r ∧ (movG ⟨r, z, es⟩ v).z = z ∧ (movG ⟨r, z, es⟩ v).es = es
    · have hs : nzN r z es (v + 1) = nzN r z es v ++ [pw r z es 0 v] := by rw [nzN, if_pos he]
      repeat' (first|(refine ya ?_;first|(refine yb ?_;first|refine yc ?_)|refine ye ?_)|(refine yg ?_;intro hgs;first|(replace hgs:=zgy hgs;first|(refine yb ?_;first|refine yc ?_)|refine yy hgs ?_;clear hgs)|(refine yn (zgn hgs) ?_;clear hgs)|((fail_if_success have:=zgy hgs);refine z_spl hgs (h1:=?_) (h2:=?_)<;>clear hgs<;>intro hg hr<;>try first|contradiction|exfalso;omega))|refine yz ?_|refine zst ?_|refine k_blk_other rfl ?_|(refine zk ?_ ?_<;>intro hc hr<;>try first|contradiction|exfalso;omega))
      (refine z_lop (v + 1) (hj := ?_) (hmu := ?_) (henv := ?_) (hobj := ?_); (· omega); (· first | omega | (simp only; omega)); (· first | (simp [go_sem, AVm, CVm, lookS, hs, *]; done) | (simp [go_sem, AVm, CVm, lookS, hs, *] <;> (repeat' split) <;> first | omega | (simp_all; done) | (exfalso; omega) | (simp_all; omega))); (· first | (simp [go_sem, OBm, CVm, All2, lookS, hs, *]; done) | (simp [go_sem, OBm, CVm, All2, lookS, hs, *] <;> (repeat' split) <;> first | omega | (simp_all; done) | (exfalso; omega) | (simp_all; omega))))
    · have hs : nzN r z es (v + 1) = nzN r z es v := by rw [nzN, if_neg he]
      repeat' (first|(refine ya ?_;first|(refine yb ?_;first|refine yc ?_)|refine ye ?_)|(refine yg ?_;intro hgs;first|(replace hgs:=zgy hgs;first|(refine yb ?_;first|refine yc ?_)|refine yy hgs ?_;clear hgs)|(refine yn (zgn hgs) ?_;clear hgs)|((fail_if_success have:=zgy hgs);refine z_spl hgs (h1:=?_) (h2:=?_)<;>clear hgs<;>intro hg hr<;>try first|contradiction|exfalso;omega))|refine yz ?_|refine zst ?_|refine k_blk_other rfl ?_|(refine zk ?_ ?_<;>intro hc hr<;>try first|contradiction|exfalso;omega))
      (refine z_lop (v + 1) (hj := ?_) (hmu := ?_) (henv := ?_) (hobj := ?_); (· omega); (· first | omega | (simp only; omega)); (· first | (simp [go_sem, AVm, CVm, lookS, hs, *]; done) | (simp [go_sem, AVm, CVm, lookS, hs, *] <;> (repeat' split) <;> first | omega | (simp_all; done) | (exfalso; omega) | (simp_all; omega))); (· first | (simp [go_sem, OBm, CVm, All2, lookS, hs, *]; done) | (simp [go_sem, OBm, CVm, All2, lookS, hs, *] <;> (repeat' split) <;> first | omega | (simp_all; done) | (exfalso; omega) | (simp_all; omega))))
  · have hvv : v = z.toNat := by omega
    subst hvv
    repeat' (first|(refine ya ?_;first|(refine yb ?_;first|refine yc ?_)|refine ye ?_)|(refine yg ?_;intro hgs;first|(replace hgs:=zgy hgs;first|(refine yb ?_;first|refine yc ?_)|refine yy hgs ?_;clear hgs)|(refine yn (zgn hgs) ?_;clear hgs)|((fail_if_success have:=zgy hgs);refine z_spl hgs (h1:=?_) (h2:=?_)<;>clear hgs<;>intro hg hr<;>try first|contradiction|exfalso;omega))|refine yz ?_|refine zst ?_|refine k_blk_other rfl ?_|(refine zk ?_ ?_<;>intro hc hr<;>try first|contradiction|exfalso;omega))
    refine z_retT 64 (hv := ?_) (ho := ?_) <;> rfl
noncomputable def nmB (r z : Int) (es : List Ed) : Bool := isTr r z es || (isFi r z es && (((nzN r z es z.toNat).length : Int) == z))
instance (priority := 2000) : Con Tryz.prog 33 (orS normW_no2_S normW_yes2_S) := con2 normW_no2 normW_yes2 Tryz.func33
end Go.Proofs.Tryz
