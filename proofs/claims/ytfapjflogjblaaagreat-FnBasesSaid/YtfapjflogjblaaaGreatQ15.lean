import Derived.Test.YtfapjflogjblaaaGreatR3
import Derived.Test.YtfapjflogjblaaaGreatG5
set_option maxHeartbeats 16000000
set_option maxRecDepth 20000
set_option linter.unusedVariables false
set_option linter.unusedSimpArgs false
set_option linter.unnecessarySimpa false
namespace Go.Proofs.Tryz
open Go Go.Eng
def tabR (r z : Int) (es : List Ed) : List (Option (List El)) := (List.range z.toNat).map fun n : Nat => some (ints (twd r z es (n : Int)))
theorem tabR_len (r z : Int) (es : List Ed) : (tabR r z es).length = z.toNat := by simp [tabR]
theorem tabR_at {r z v : Int} {es : List Ed} (h0 : 0 ≤ v) (h1 : v < z) : (tabR r z es)[v.toNat]? = some (some (ints (twd r z es v))) := by
  have h : v.toNat < z.toNat := by omega
  simp only [tabR, List.getElem?_map, List.getElem?_range h, Option.map_some]
  rw [show ((v.toNat : Nat) : Int) = v by omega]
attribute [go_sem] tabR_len tabR_at
theorem tabR_eq {r z : Int} {es : List Ed} (hf : isF r z es = true) (ha : allB r z es) : tabO z (wf (bfs r z es 0)) = tabR r z es := by
  unfold tabO tabR
  refine List.map_congr_left fun n hn => ?_
  rw [List.mem_range] at hn
  obtain ⟨j, hj, ej⟩ := ha n (by omega) (by omega)
  rw [← ej, twd_at hf hj, wf_at (BF_bfs hf).nd hj]; rfl
@[go_sem] def K_basis_no (i : Nat) : List Nat := ([[1],[1,3],[1,3,11],[2],[1,3,5],[3,5,19,20,21],[3,5,19,20,21,22],[3,5,7,19,20,21],[3,5,19,20,21],[3,5,19,20,21],[2]]).getD i []
def basis_no_S : Eng.Spec := fun args av objs => ∃ (r z : Int) (es : List Ed), (es.length ≤ 1048576 ∧ isC r z es = false) ∧ args = [grA r z es] ∧ av = aR 0 ∧ objs = [.rows 35 3 (.own true) (osW [])]
theorem basis_no : Sat Tryz.prog 7 basis_no_S := by
  refine sat_of tok okr mixed K_basis_no Tryz.func7 rfl (rs := [.tmp 2]) rfl Tryz.ntmps7 ?_
  rintro args av objs ⟨r, z, es, hpre, rfl, rfl, rfl⟩
  refine ⟨by show 1 ≤ 46; decide, ?_⟩
  obtain ⟨hes, hok⟩ := hpre
  repeat' (first|(refine ya ?_;first|refine yc ?_|refine ye ?_)|refine yz ?_|(refine yA ?_;first|refine yC ?_|refine yE ?_)|refine yZ ?_|refine zst ?_|refine zo ?_|(refine zk ?_ ?_<;>intro hc hr<;>try exact zx))
  refine z_retT 64 (hv := ?_) (ho := ?_) <;> rfl
instance : Con Tryz.prog 7 basis_no_S := con basis_no Tryz.func7
@[go_sem] def K_basis_yes (i : Nat) : List Nat := ([[1],[1,3],[1,3,11],[2],[1,3,5],[3,5,19,20,21],[3,5,19,20,21,22],[3,5,7,19,20,21],[3,5,19,20,21],[3,5,19,20,21],[2]]).getD i []
def basis_yes_S : Eng.Spec := fun args av objs => ∃ (r z : Int) (es : List Ed), (es.length ≤ 1048576 ∧ isC r z es = true) ∧ args = [grA r z es] ∧ av = aR 0 ∧ objs = [.rows 35 3 (.own false) (osW (bsW r z es))]
theorem basis_yes : Sat Tryz.prog 7 basis_yes_S := by
  refine sat_of tok okr mixed K_basis_yes Tryz.func7 rfl (rs := [.tmp 2]) rfl Tryz.ntmps7 ?_
  rintro args av objs ⟨r, z, es, hpre, rfl, rfl, rfl⟩
  refine ⟨by show 1 ≤ 46; decide, ?_⟩
  obtain ⟨hes, hok⟩ := hpre
  have hf := isC_f hok
  have hG := isF_g hf
  have hz := isG_z hG
  have hxl := extL_len (r := r) (z := z) (es := es)
  have hall := gone_all hf (isC_gone hok)
  have hxm := fun i (h : i < (extL r z es).length) => ((extL_mem hf).1 (ed_mem h)).1
  unfold bsW
  have hW := tabR_eq hf hall
  repeat' (first|(refine ya ?_;first|refine yc ?_|refine ye ?_)|refine yz ?_|(refine yA ?_;first|refine yC ?_|refine yE ?_)|refine yZ ?_|refine zst ?_|refine zo ?_|(refine zk ?_ ?_<;>intro hc hr<;>try exact zx))
  generalize hX : extL r z es = xs at *
  refine z_loop (fun i : Nat => [(21, aI i)]) (fun i : Nat => [.obj 5 (.rows 35 3 (.loc true) (tabR r z es)), .obj 3 (.rows 35 3 (.loc false) (osW (bsN r z es xs i)))]) (fun i : Nat => i ≤ xs.length) (fun i : Nat => xs.length - i) (0) (h0 := ?_) (henv := ?_) (hobj := ?_) (h := ?_)
  · omega
  · simp [go_sem, AVm, CVm, lookS, bsN, osW_nil, hW]
  · simp [go_sem, OBm, CVm, lookS, All2, bsN, osW_nil, hW]
  intro i hi
  have hbl := bsN_len r z es xs i
  rcases Nat.lt_or_ge i xs.length with hlt | hge
  · have hm := hxm i hlt
    have h3 := (isG_iff.1 hG).2.2 _ hm
    unfold inR at h3
    have l1 := twd_len (v := (ed xs i).1) hf
    have l2 := twd_len (v := (ed xs i).2.2) hf
    have l3 := ivW_len (twd r z es (ed xs i).2.2)
    have g1 := twd_small (v := (ed xs i).1) hf
    have g2 := twd_small (v := (ed xs i).2.2) hf
    have g3 : ∀ x ∈ twd r z es (ed xs i).1, rg x := fun x hx => by have := g1 x hx; unfold rg; omega
    have g4 : ∀ x ∈ twd r z es (ed xs i).2.2, rg x := fun x hx => by have := g2 x hx; unfold rg; omega
    have hpp := PW3 (a := twd r z es (ed xs i).1) (b := [(ed xs i).2.1]) (c := ivW (twd r z es (ed xs i).2.2)) ⟨by omega, g3⟩ ⟨by simp, by intro n hn; rw [List.mem_singleton] at hn; subst hn; unfold rg; omega⟩ ⟨by omega, ivW_rg⟩
    have hs : bsN r z es xs (i + 1) = bsN r z es xs i ++ [red (twd r z es (ed xs i).1 ++ [(ed xs i).2.1] ++ ivW (twd r z es (ed xs i).2.2))] := rfl
    clear hxm hall g1 g2 hW
    repeat' (first|(refine ya ?_;first|refine yc ?_|refine ye ?_)|refine yz ?_|(refine yA ?_;first|refine yC ?_|refine yE ?_)|refine yZ ?_|refine zst ?_|refine zo ?_|(refine zk ?_ ?_<;>intro hc hr<;>try exact zx))
    (refine zm (i + 1) ?_ ?_ <;> simp [go_sem, AVm, OBm, CVm, All2, lookS, hs, *] <;> exact zt)
  · have hii : i = xs.length := by omega
    subst hii
    repeat' (first|(refine ya ?_;first|refine yc ?_|refine ye ?_)|refine yz ?_|(refine yA ?_;first|refine yC ?_|refine yE ?_)|refine yZ ?_|refine zst ?_|refine zo ?_|(refine zk ?_ ?_<;>intro hc hr<;>try exact zx))
    refine z_retT 64 (hv := ?_) (ho := ?_) <;> rfl
instance (priority := 2000) : Con Tryz.prog 7 (orS basis_no_S basis_yes_S) := con2 basis_no basis_yes Tryz.func7
end Go.Proofs.Tryz
