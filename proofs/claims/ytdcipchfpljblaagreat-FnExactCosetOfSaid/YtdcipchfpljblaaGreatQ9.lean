import Derived.Test.YtdcipchfpljblaaGreatZ
import Derived.Test.YtdcipchfpljblaaGreatK
set_option linter.unusedVariables false
set_option linter.unusedSimpArgs false
set_option linter.unnecessarySimpa false
namespace Go.Proofs.Tryz
open Go Go.Eng
set_option linter.unnecessarySimpa false
set_option linter.unusedSimpArgs false
set_option maxHeartbeats 4000000
noncomputable def idxO (r z : Int) (es : List Ed) : Int := if isFi r z es = true then z else -1
/-- The word of the coset. -/
noncomputable def csW (r z : Int) (es : List Ed) (w : List Int) : List Int := if isC r z es = true then pw r z es 0 (rdV es 0 (red w)) ++ (red w).drop (rdL es 0 (red w)) else []
theorem vN_take {es : List Ed} {v : Int} {w : List Int} {n : Nat} : ∀ {i : Nat}, i ≤ n → vN es v (w.take n) i = vN es v w i
  | 0, _ => rfl
  | i + 1, h => by
    rw [vN_s, vN_s, vN_take (by omega), ix_take (by omega)]
theorem rdk_take {es : List Ed} {v : Int} {w : List Int} {n : Nat} : ∀ {i : Nat}, i ≤ n → rdk es v (w.take n) i = rdk es v w i
  | 0, _ => rfl
  | i + 1, h => by
    simp only [rdk]
    rw [rdk_take (by omega), vN_take (by omega), ix_take (by omega)]
theorem rdL_take {es : List Ed} {v : Int} {w : List Int} : rdL es v (w.take (rdL es v w)) = rdL es v w ∧ (w.take (rdL es v w)).length = rdL es v w ∧ rdV es v (w.take (rdL es v w)) = rdV es v w := by
  have h1 := rdL_le es v w
  have hl : (w.take (rdL es v w)).length = rdL es v w := by rw [List.length_take]; omega
  have h2 : rdL es v (w.take (rdL es v w)) = rdL es v w := by
    show rdk es v (w.take (rdL es v w)) (w.take (rdL es v w)).length = _
    rw [hl, rdk_take (Nat.le_refl _), rdL_at]
  refine ⟨h2, hl, ?_⟩
  unfold rdV
  rw [h2, vN_take (Nat.le_refl _)]
theorem rdV_in {r z : Int} {es : List Ed} {v : Int} {w : List Int} (hg : isG r z es = true) (hv : 0 ≤ v ∧ v < z) : 0 ≤ rdV es v w ∧ rdV es v w < z := vN_in hg hv (rdL_at es v w)
theorem csW_len {r z : Int} {es : List Ed} {w : List Int} (h : w.length ≤ 1048576) : (csW r z es w).length ≤ 1048616 := by
  unfold csW
  split
  · have h1 := red_len w
    have h2 := pw_len (r := r) (z := z) (es := es) (u := 0) (v := rdV es 0 (red w))
    rw [List.length_append, List.length_drop]
    omega
  · simp
theorem readL_y : Sat Tryz.prog 72 fun args av objs => ∃ (r z : Int) (es : List Ed) (v : Int) (w : List Int), (isF r z es = true ∧ 0 ≤ v ∧ v < z ∧ w.length ≤ 8388608 ∧ ∀ x ∈ w, rg x) ∧ args = [grA r z es, aI v, aL w] ∧ av = aI (rdL es v w) ∧ objs = [] := by
  rintro args av objs ⟨r, z, es, v, w, h, rfl, rfl, rfl⟩
  have hz := isG_z (isF_g h.1)
  exact readL_sat2 _ _ _ ⟨r, z, es, v, w, ⟨by omega, h.2.2.2⟩, rfl, by rw [rlO, if_pos ⟨h.1, h.2.1, h.2.2.1⟩], rfl⟩
instance (priority := 3000) : Con Tryz.prog 72 (specOf readL_y) := con readL_y Tryz.func72
def K_coset_sat : Nat → List Nat := fun i => ([[1, 2], [1, 2, 11], [4, 5], [2, 6], [2, 6, 7, 8], [4, 5]] : List (List Nat)).getD i []
attribute [go_sem] K_coset_sat
def coset_sat_S : Eng.Spec := fun args av objs => ∃ (r z : Int) (es : List Ed) (w : List Int), (es.length ≤ 1048576 ∧ w.length ≤ 1048576 ∧ (∀ x ∈ w, rg x)) ∧ args = [grA r z es, aL w] ∧ av = .tup [aR 0, aB (isC r z es)] ∧ objs = [oL 3 (csW r z es w)]
theorem coset_sat : Sat Tryz.prog 32 coset_sat_S := by
  refine sat_of tok okr mixed K_coset_sat Tryz.func32 rfl (rs := [.tmp 4, .tmp 5]) rfl Tryz.ntmps32 ?_
  rintro args av objs ⟨r, z, es, w, hpre, rfl, rfl, rfl⟩
  refine ⟨by show 2 ≤ 28; decide, ?_⟩
  obtain ⟨he, hw, hm⟩ := hpre
  have h1 := red_len w
  have h2 := red_rg hm
  have h3 := rdL_le es 0 (red w)
  have h4 := pw_len (r := r) (z := z) (es := es) (u := 0) (v := rdV es 0 (red w))
  unfold csW
  cases hok : isC r z es
  · repeat' (first|(refine ya ?_;first|(refine yb ?_;first|refine yc ?_)|refine ye ?_)|refine yz ?_|(refine yA ?_;first|(refine yB ?_;first|refine yC ?_)|refine yE ?_)|refine yZ ?_|refine zst ?_|refine k_blk_other rfl ?_|(refine zk ?_ ?_<;>intro hc hr<;>try first|contradiction|exfalso;omega))
    all_goals first | (refine z_ret (hv := ?_) (ho := ?_) <;> first | rfl | (simp [go_sem, *]; done) | (simp_all; done) | (simp_all; omega)) | skip
  · have hg := isF_g (isC_f hok)
    repeat' (first|(refine ya ?_;first|(refine yb ?_;first|refine yc ?_)|refine ye ?_)|refine yz ?_|(refine yA ?_;first|(refine yB ?_;first|refine yC ?_)|refine yE ?_)|refine yZ ?_|refine zst ?_|refine k_blk_other rfl ?_|(refine zk ?_ ?_<;>intro hc hr<;>try first|contradiction|exfalso;omega))
    all_goals first | (refine z_ret (hv := ?_) (ho := ?_) <;> first | rfl | (simp [go_sem, *]; done) | (simp_all; done) | (simp_all; omega)) | skip
instance : Con Tryz.prog 32 coset_sat_S := con coset_sat Tryz.func32
def K_coset_sat2 : Nat → List Nat := fun i => ([[1, 2], [1, 2, 12], [4, 5], [2, 6], [2, 6, 7], [2, 6, 7, 8], [4, 5]] : List (List Nat)).getD i []
attribute [go_sem] K_coset_sat2
def coset_sat2_S : Eng.Spec := fun args av objs => ∃ (r z : Int) (es : List Ed) (w : List Int), (es.length ≤ 1048576 ∧ w.length ≤ 1048576 ∧ (∀ x ∈ w, rg x)) ∧ args = [grA r z es, aL w] ∧ av = .tup [aR 0, aB (isC r z es)] ∧ objs = [oL 3 (csW r z es w)]
theorem coset_sat2 : Sat Tryz.prog 31 coset_sat2_S := by
  refine sat_of tok okr mixed K_coset_sat2 Tryz.func31 rfl (rs := [.tmp 4, .tmp 5]) rfl Tryz.ntmps31 ?_
  rintro args av objs ⟨r, z, es, w, hpre, rfl, rfl, rfl⟩
  refine ⟨by show 2 ≤ 34; decide, ?_⟩
  obtain ⟨he, hw, hm⟩ := hpre
  have h1 := red_len w
  have h2 := red_rg hm
  have h3 := rdL_le es 0 (red w)
  have h4 := pw_len (r := r) (z := z) (es := es) (u := 0) (v := rdV es 0 (red w))
  unfold csW
  cases hok : isC r z es
  · repeat' (first|(refine ya ?_;first|(refine yb ?_;first|refine yc ?_)|refine ye ?_)|refine yz ?_|(refine yA ?_;first|(refine yB ?_;first|refine yC ?_)|refine yE ?_)|refine yZ ?_|refine zst ?_|refine k_blk_other rfl ?_|(refine zk ?_ ?_<;>intro hc hr<;>try first|contradiction|exfalso;omega))
    all_goals first | (refine z_ret (hv := ?_) (ho := ?_) <;> first | rfl | (simp [go_sem, *]; done) | (simp_all; done) | (simp_all; omega)) | skip
  · have hf := isC_f hok
    have hz := isG_z (isF_g hf)
    obtain ⟨t1, t2, t3⟩ := rdL_take (es := es) (v := 0) (w := red w)
    have h5 : ∀ x ∈ (red w).take (rdL es 0 (red w)), rg x := fun x hx => h2 x (List.mem_of_mem_take hx)
    have hb : wkB r z es 0 ((red w).take (rdL es 0 (red w))) = true := by rw [wkB_yes ⟨hf, by omega, by omega⟩, t1, t2]; simp
    have hv : wkV r z es 0 ((red w).take (rdL es 0 (red w))) = rdV es 0 (red w) := by unfold wkV; rw [if_pos hb, t3]
    repeat' (first|(refine ya ?_;first|(refine yb ?_;first|refine yc ?_)|refine ye ?_)|refine yz ?_|(refine yA ?_;first|(refine yB ?_;first|refine yC ?_)|refine yE ?_)|refine yZ ?_|refine zst ?_|refine k_blk_other rfl ?_|(refine zk ?_ ?_<;>intro hc hr<;>try first|contradiction|exfalso;omega))
    all_goals first | (refine z_ret (hv := ?_) (ho := ?_) <;> first | rfl | (simp [go_sem, *]; done) | (simp_all; done) | (simp_all; omega)) | skip
instance : Con Tryz.prog 31 coset_sat2_S := con coset_sat2 Tryz.func31
end Go.Proofs.Tryz
