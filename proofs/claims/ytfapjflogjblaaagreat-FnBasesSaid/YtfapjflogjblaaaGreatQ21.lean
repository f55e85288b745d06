import Derived.Test.YtfapjflogjblaaaGreatQ15
import Derived.Test.YtfapjflogjblaaaGreatG6
set_option maxHeartbeats 16000000
set_option maxRecDepth 20000
set_option linter.unusedVariables false
set_option linter.unusedSimpArgs false
set_option linter.unnecessarySimpa false
namespace Go.Proofs.Tryz
open Go Go.Eng
@[go_sem] def K_basis_no2 (i : Nat) : List Nat := ([[1],[1,3],[1,3,10],[2],[1,3,4],[1,3,4,5],[1,3,4,5,17],[1,3,4,5],[1,3,4,5,6],[1,3,4,5],[2]]).getD i []

def basis_no2_S : Eng.Spec := fun args av objs => ∃ (r z : Int) (es : List Ed), (es.length ≤ 1048576 ∧ isC r z es = false) ∧ args = [grA r z es] ∧ av = aR 0 ∧ objs = [.rows 35 3 (.own true) (osW [])]
theorem basis_no2 : Sat Tryz.prog 9 basis_no2_S := by
  refine sat_of tok okr mixed K_basis_no2 Tryz.func9 rfl (rs := [.tmp 2]) rfl Tryz.ntmps9 ?_
  rintro args av objs ⟨r, z, es, hpre, rfl, rfl, rfl⟩
  refine ⟨by show 1 ≤ 31; decide, ?_⟩
  obtain ⟨he, hok⟩ := hpre
  repeat' (first|(refine ya ?_;first|refine yc ?_|refine ye ?_)|refine yz ?_|(refine yA ?_;first|refine yC ?_|refine yE ?_)|refine yZ ?_|refine zst ?_|refine zo ?_|(refine zk ?_ ?_<;>intro hc hr<;>try exact zx))
  refine z_retT 56 (hv := ?_) (ho := ?_) <;> rfl
instance : Con Tryz.prog 9 basis_no2_S := con basis_no2 Tryz.func9
@[go_sem] def K_basis_yes2 (i : Nat) : List Nat := ([[1],[1,3],[1,3,10],[2],[1,3,4],[1,3,4,5],[1,3,4,5,17],[1,3,4,5],[1,3,4,5,6],[1,3,4,5],[2]]).getD i []

def basis_yes2_S : Eng.Spec := fun args av objs => ∃ (r z : Int) (es : List Ed), (es.length ≤ 1048576 ∧ isC r z es = true) ∧ args = [grA r z es] ∧ av = aR 0 ∧ objs = [.rows 35 3 (.own false) (osW (bsW r z es))]
theorem basis_yes2 : Sat Tryz.prog 9 basis_yes2_S := by
  refine sat_of tok okr mixed K_basis_yes2 Tryz.func9 rfl (rs := [.tmp 2]) rfl Tryz.ntmps9 ?_
  rintro args av objs ⟨r, z, es, hpre, rfl, rfl, rfl⟩
  refine ⟨by show 1 ≤ 31; decide, ?_⟩
  obtain ⟨hes, hok⟩ := hpre
  have hf := isC_f hok
  have hG := isF_g hf
  have hz := isG_z hG
  have hxl := extL_len (r := r) (z := z) (es := es)
  have hxm := fun i (h : i < (extL r z es).length) => (extL_mem hf).1 (ed_mem h)
  unfold bsW
  repeat' (first|(refine ya ?_;first|refine yc ?_|refine ye ?_)|refine yz ?_|(refine yA ?_;first|refine yC ?_|refine yE ?_)|refine yZ ?_|refine zst ?_|refine zo ?_|(refine zk ?_ ?_<;>intro hc hr<;>try exact zx))
  refine z_loop (fun i : Nat => [(5, aI i)]) (fun i : Nat => [.obj 3 (.rows 35 3 (.loc false) (osW (bsN r z es (extL r z es) i)))]) (fun i : Nat => i ≤ (extL r z es).length) (fun i : Nat => (extL r z es).length - i) (0) (h0 := ?_) (henv := ?_) (hobj := ?_) (h := ?_)
  · omega
  · simp [go_sem, AVm, CVm, lookS, bsN, osW_nil]
  · simp [go_sem, OBm, CVm, lookS, All2, bsN, osW_nil]
  intro i hi
  have hbl := bsN_len r z es (extL r z es) i
  rcases Nat.lt_or_ge i (extL r z es).length with hlt | hge
  · have hm := hxm i hlt
    have h3 := (isG_iff.1 hG).2.2 _ hm.1
    unfold inR at h3
    have hs : bsN r z es (extL r z es) (i + 1) = bsN r z es (extL r z es) i ++ [lpO r z es (ed (extL r z es) i)] := by
      rw [lpO_yes ⟨hf, hm.1⟩, twd_pw hf ⟨by omega, by omega⟩, twd_pw hf ⟨by omega, by omega⟩]; rfl
    clear hxm
    repeat' (first|(refine ya ?_;first|refine yc ?_|refine ye ?_)|refine yz ?_|(refine yA ?_;first|refine yC ?_|refine yE ?_)|refine yZ ?_|refine zst ?_|refine zo ?_|(refine zk ?_ ?_<;>intro hc hr<;>try exact zx))
    (refine zm (i + 1) ?_ ?_ <;> simp [go_sem, AVm, OBm, CVm, All2, lookS, hs, *] <;> exact zt)
  · have hii : i = (extL r z es).length := by omega
    subst hii
    repeat' (first|(refine ya ?_;first|refine yc ?_|refine ye ?_)|refine yz ?_|(refine yA ?_;first|refine yC ?_|refine yE ?_)|refine yZ ?_|refine zst ?_|refine zo ?_|(refine zk ?_ ?_<;>intro hc hr<;>try exact zx))
    refine z_retT 56 (hv := ?_) (ho := ?_) <;> rfl
instance (priority := 2000) : Con Tryz.prog 9 (orS basis_no2_S basis_yes2_S) := con2 basis_no2 basis_yes2 Tryz.func9
end Go.Proofs.Tryz
