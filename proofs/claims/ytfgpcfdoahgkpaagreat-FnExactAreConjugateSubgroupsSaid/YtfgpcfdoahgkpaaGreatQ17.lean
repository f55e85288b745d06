import Derived.Test.YtfgpcfdoahgkpaaGreatQ10
import Derived.Test.YtfgpcfdoahgkpaaGreatT7
set_option linter.unusedVariables false
set_option linter.unusedSimpArgs false
set_option linter.unnecessarySimpa false
namespace Go.Proofs.Tryz
open Go Go.Eng
set_option linter.unnecessarySimpa false
set_option linter.unusedSimpArgs false
set_option maxHeartbeats 4000000
/-! ### Conjugate subgroups -/
noncomputable def acV (a b : Gr) : Int := if isC a.r a.z a.es = true ∧ isC b.r b.z b.es = true ∧ a.r = b.r then acF (cyG a).1 (cyG b).1 (cyG a).1.z.toNat else -1
noncomputable def acB (a b : Gr) : Bool := decide (0 ≤ acV a b)
noncomputable def acW (a b : Gr) : List Int := if 0 ≤ acV a b then red ((cyG a).2 ++ pw (cyG a).1.r (cyG a).1.z (cyG a).1.es 0 (acV a b) ++ ivW (cyG b).2) else []
theorem acW_len {a b : Gr} : (acW a b).length ≤ 200 := by
  unfold acW
  split
  · have h1 := red_len ((cyG a).2 ++ pw (cyG a).1.r (cyG a).1.z (cyG a).1.es 0 (acV a b) ++ ivW (cyG b).2)
    have h2 := cyG_len (g := a)
    have h3 := cyG_len (g := b)
    have h4 := pw_len (r := (cyG a).1.r) (z := (cyG a).1.z) (es := (cyG a).1.es) (u := 0) (v := acV a b)
    simp only [List.length_append, ivW_len] at h1
    omega
  · simp
theorem ac_no {a b : Gr} (h : ¬ (isC a.r a.z a.es = true ∧ isC b.r b.z b.es = true ∧ a.r = b.r)) : acB a b = false ∧ acW a b = [] := by
  have h1 : acV a b = -1 := by unfold acV; rw [if_neg h]
  exact ⟨by unfold acB; rw [h1]; rfl, by unfold acW; rw [h1, if_neg (by omega)]⟩
theorem ac_hit {a b : Gr} (h : isC a.r a.z a.es = true ∧ isC b.r b.z b.es = true ∧ a.r = b.r) {v : Nat} (hv : v < (cyG a).1.z.toNat) (h1 : acF (cyG a).1 (cyG b).1 v < 0) (h2 : eqG (movG (cyG a).1 v) (cyG b).1) :
    acB a b = true ∧ acW a b = red ((cyG a).2 ++ pw (cyG a).1.r (cyG a).1.z (cyG a).1.es 0 v ++ ivW (cyG b).2) := by
  have h3 : acV a b = v := by unfold acV; rw [if_pos h]; exact acF_at hv h1 h2
  exact ⟨by unfold acB; rw [h3]; simp, by unfold acW; rw [h3, if_pos (by omega)]⟩
theorem ac_end {a b : Gr} (h : isC a.r a.z a.es = true ∧ isC b.r b.z b.es = true ∧ a.r = b.r) (h1 : acF (cyG a).1 (cyG b).1 (cyG a).1.z.toNat < 0) : acB a b = false ∧ acW a b = [] := by
  have h3 : acV a b = -1 := by unfold acV; rw [if_pos h]; exact acF_no h1
  exact ⟨by unfold acB; rw [h3]; rfl, by unfold acW; rw [h3, if_neg (by omega)]⟩
theorem ac_size {a b : Gr} (h : isC a.r a.z a.es = true ∧ isC b.r b.z b.es = true ∧ a.r = b.r) (hs : (cyG a).1.z ≠ (cyG b).1.z ∨ ((cyG a).1.es.length : Int) ≠ (cyG b).1.es.length) : acB a b = false ∧ acW a b = [] := by
  refine ac_end h ?_
  have hz := isG_z (isF_g (cyG_F h.1))
  rw [acF_none]
  · omega
  · intro k hk he
    have hm := movG_same (r := (cyG a).1.r) (v := k) (cyG_F h.1) (cyG_gone h.1) (cyG_off h.1) (by omega)
    have h1 : (movG (cyG a).1 k).z = (cyG a).1.z := hm.1
    have h2 : (movG (cyG a).1 k).es.length = (cyG a).1.es.length := hm.2
    rcases hs with hs | hs
    · apply hs; rw [← h1, he.2.1]
    · apply hs; rw [← h2, he.2.2]
theorem rg_small {w : List Int} (h : ∀ x ∈ w, -3 ≤ x ∧ x ≤ 3) : ∀ x ∈ w, rg x := fun x hx => by have := h x hx; unfold rg; omega
def K_conj_sat : Nat → List Nat := fun i => ([[2, 3], [2, 3, 27], [4, 5], [3, 6, 7], [6, 7, 8, 9], [6, 7, 8, 9, 10], [6, 7, 8, 9, 10, 42], [6, 7, 8, 9, 10], [6, 7, 8, 9, 10, 11], [6, 7, 8, 9, 10, 53], [4, 5], [4, 5]] : List (List Nat)).getD i []
attribute [go_sem] K_conj_sat
def conj_sat_S : Eng.Spec := fun args av objs => ∃ (r z : Int) (es : List Ed) (r' z' : Int) (es' : List Ed), (es.length ≤ 1048576 ∧ es'.length ≤ 1048576) ∧ args = [grA r z es, grA r' z' es'] ∧ av = .tup [aR 0, aB (acB ⟨r, z, es⟩ ⟨r', z', es'⟩)] ∧ objs = [oL 3 (acW ⟨r, z, es⟩ ⟨r', z', es'⟩)]
theorem conj_sat : Sat Tryz.prog 13 conj_sat_S := by
  refine sat_of tok okr mixed K_conj_sat Tryz.func13 rfl (rs := [.tmp 4, .tmp 5]) rfl Tryz.ntmps13 ?_
  rintro args av objs ⟨r, z, es, r', z', es', hpre, rfl, rfl, rfl⟩
  refine ⟨by show 2 ≤ 63; decide, ?_⟩
  obtain ⟨he, he'⟩ := hpre
  by_cases hab : isC r z es = true ∧ isC r' z' es' = true ∧ r = r'
  · have hC : isC (⟨r, z, es⟩ : Gr).r (⟨r, z, es⟩ : Gr).z (⟨r, z, es⟩ : Gr).es = true ∧ isC (⟨r', z', es'⟩ : Gr).r (⟨r', z', es'⟩ : Gr).z (⟨r', z', es'⟩ : Gr).es = true ∧ (⟨r, z, es⟩ : Gr).r = (⟨r', z', es'⟩ : Gr).r := hab
    obtain ⟨h1, h2, h3⟩ := hab
    subst h3
    have hf1 := cyG_F (g := ⟨r, z, es⟩) h1
    have hl1 := cyG_len (g := ⟨r, z, es⟩)
    have hl2 := cyG_len (g := ⟨r, z', es'⟩)
    have hm1 := rg_small (cyG_mem (g := ⟨r, z, es⟩))
    have hm2 := rg_small (cyG_mem (g := ⟨r, z', es'⟩))
    have hes1 := cyG_es (g := ⟨r, z, es⟩) (n := 1048576) he (by omega)
    have hes2 := cyG_es (g := ⟨r, z', es'⟩) (n := 1048576) he' (by omega)
    have hhit := fun (v : Nat) => ac_hit hC (v := v)
    have hend := ac_end hC
    clear hC
    repeat' (first|(refine ya ?_;first|(refine yb ?_;first|refine yc ?_)|refine ye ?_)|(refine yg ?_;intro hgs;first|(replace hgs:=zgy hgs;first|(refine yb ?_;first|refine yc ?_)|refine yy hgs ?_;clear hgs)|(refine yn (zgn hgs) ?_;clear hgs)|((fail_if_success have:=zgy hgs);refine z_spl hgs (h1:=?_) (h2:=?_)<;>clear hgs<;>intro hg hr<;>try first|contradiction|exfalso;omega))|refine yz ?_|refine zst ?_|refine k_blk_other rfl ?_|(refine zk ?_ ?_<;>intro hc hr<;>try first|contradiction|exfalso;omega))
    generalize hx : cyG ⟨r, z, es⟩ = X at *
    generalize hy : cyG ⟨r, z', es'⟩ = Y at *
    obtain ⟨⟨r1, z1, es1⟩, l1⟩ := X
    obtain ⟨⟨r2, z2, es2⟩, l2⟩ := Y
    simp only at hf1 hl1 hl2 hm1 hm2 hes1 hes2 hhit hend ⊢
    have hz1 := isG_z (isF_g hf1)
    clear hx hy
    refine z_loop (fun v : Nat => [(10, aI v)]) (fun v : Nat => []) (fun v : Nat => v ≤ z1.toNat ∧ acF ⟨r1, z1, es1⟩ ⟨r2, z2, es2⟩ v < 0) (fun v : Nat => z1.toNat - v) (0) (h0 := ?_) (henv := ?_) (hobj := ?_) (h := ?_)
    · exact ⟨by omega, by simp [acF]⟩
    · simp [go_sem, AVm, CVm, lookS]
    · simp [go_sem, OBm, CVm, lookS, All2]
    rintro v ⟨hv, hV⟩
    rcases Nat.lt_or_ge v z1.toNat with hlt | hge
    · have hme := movG_es (g := ⟨r1, z1, es1⟩) (v := v) (n := 1048576) hes1 (by omega)
      by_cases hq : eqG (movG ⟨r1, z1, es1⟩ v) ⟨r2, z2, es2⟩
      · obtain ⟨e1, e2⟩ := hhit v hlt hV hq
        rw [e1, e2]
        have hpl := pw_len (r := r1) (z := z1) (es := es1) (u := 0) (v := v)
        have hpr := pw_rg (r := r1) (z := z1) (es := es1) (u := 0) (v := v)
        have hil := ivW_len l2
        have hir := ivW_rg (w := l2)
        have hpp := PW3 (a := l1) (b := pw r1 z1 es1 0 v) (c := ivW l2) ⟨by omega, hm1⟩ ⟨by omega, hpr⟩ ⟨by omega, hir⟩
        have hq2 : (movG ⟨r1, z1, es1⟩ v).r = r2 ∧ (movG ⟨r1, z1, es1⟩ v).z = z2 ∧ (movG ⟨r1, z1, es1⟩ v).es = es2 := hq
        clear hhit hend hq e1 e2
        repeat' (first|(refine ya ?_;first|(refine yb ?_;first|refine yc ?_)|refine ye ?_)|(refine yg ?_;intro hgs;first|(replace hgs:=zgy hgs;first|(refine yb ?_;first|refine yc ?_)|refine yy hgs ?_;clear hgs)|(refine yn (zgn hgs) ?_;clear hgs)|((fail_if_success have:=zgy hgs);refine z_spl hgs (h1:=?_) (h2:=?_)<;>clear hgs<;>intro hg hr<;>try first|contradiction|exfalso;omega))|refine yz ?_|refine zst ?_|refine k_blk_other rfl ?_|(refine zk ?_ ?_<;>intro hc hr<;>try first|contradiction|exfalso;omega))
        all_goals first | (refine z_ret (hv := ?_) (ho := ?_) <;> first | rfl | (simp [go_sem, *]; done) | (simp_all; done) | (simp_all; omega)) | skip
      · have hq2 : ¬ ((movG ⟨r1, z1, es1⟩ v).r = r2 ∧ (movG ⟨r1, z1, es1⟩ v).z = z2 ∧ (movG ⟨r1, z1, es1⟩ v).es = es2) := hq
        have hV2 := acF_next hV hq
        clear hhit hend hq
        repeat' (first|(refine ya ?_;first|(refine yb ?_;first|refine yc ?_)|refine ye ?_)|(refine yg ?_;intro hgs;first|(replace hgs:=zgy hgs;first|(refine yb ?_;first|refine yc ?_)|refine yy hgs ?_;clear hgs)|(refine yn (zgn hgs) ?_;clear hgs)|((fail_if_success have:=zgy hgs);refine z_spl hgs (h1:=?_) (h2:=?_)<;>clear hgs<;>intro hg hr<;>try first|contradiction|exfalso;omega))|refine yz ?_|refine zst ?_|refine k_blk_other rfl ?_|(refine zk ?_ ?_<;>intro hc hr<;>try first|contradiction|exfalso;omega))
        exact zl (v + 1) (hj := by exact ⟨by omega, hV2⟩)
    · have hvv : v = z1.toNat := by omega
      subst hvv
      obtain ⟨e1, e2⟩ := hend hV
      rw [e1, e2]
      clear hhit hend e1 e2
      repeat' (first|(refine ya ?_;first|(refine yb ?_;first|refine yc ?_)|refine ye ?_)|(refine yg ?_;intro hgs;first|(replace hgs:=zgy hgs;first|(refine yb ?_;first|refine yc ?_)|refine yy hgs ?_;clear hgs)|(refine yn (zgn hgs) ?_;clear hgs)|((fail_if_success have:=zgy hgs);refine z_spl hgs (h1:=?_) (h2:=?_)<;>clear hgs<;>intro hg hr<;>try first|contradiction|exfalso;omega))|refine yz ?_|refine zst ?_|refine k_blk_other rfl ?_|(refine zk ?_ ?_<;>intro hc hr<;>try first|contradiction|exfalso;omega))
      all_goals first | (refine z_ret (hv := ?_) (ho := ?_) <;> first | rfl | (simp [go_sem, *]; done) | (simp_all; done) | (simp_all; omega)) | skip
  · have hno := ac_no (a := ⟨r, z, es⟩) (b := ⟨r', z', es'⟩) hab
    rw [hno.1, hno.2]
    cases hok : isC r z es
    · repeat' (first|(refine ya ?_;first|(refine yb ?_;first|refine yc ?_)|refine ye ?_)|(refine yg ?_;intro hgs;first|(replace hgs:=zgy hgs;first|(refine yb ?_;first|refine yc ?_)|refine yy hgs ?_;clear hgs)|(refine yn (zgn hgs) ?_;clear hgs)|((fail_if_success have:=zgy hgs);refine z_spl hgs (h1:=?_) (h2:=?_)<;>clear hgs<;>intro hg hr<;>try first|contradiction|exfalso;omega))|refine yz ?_|refine zst ?_|refine k_blk_other rfl ?_|(refine zk ?_ ?_<;>intro hc hr<;>try first|contradiction|exfalso;omega))
      all_goals first | (refine z_ret (hv := ?_) (ho := ?_) <;> first | rfl | (simp [go_sem, *]; done) | (simp_all; done) | (simp_all; omega)) | skip
    · cases hok' : isC r' z' es'
      · repeat' (first|(refine ya ?_;first|(refine yb ?_;first|refine yc ?_)|refine ye ?_)|(refine yg ?_;intro hgs;first|(replace hgs:=zgy hgs;first|(refine yb ?_;first|refine yc ?_)|refine yy hgs ?_;clear hgs)|(refine yn (zgn hgs) ?_;clear hgs)|((fail_if_success have:=zgy hgs);refine z_spl hgs (h1:=?_) (h2:=?_)<;>clear hgs<;>intro hg hr<;>try first|contradiction|exfalso;omega))|refine yz ?_|refine zst ?_|refine k_blk_other rfl ?_|(refine zk ?_ ?_<;>intro hc hr<;>try first|contradiction|exfalso;omega))
        all_goals first | (refine z_ret (hv := ?_) (ho := ?_) <;> first | rfl | (simp [go_sem, *]; done) | (simp_all; done) | (simp_all; omega)) | skip
      · have hne : ¬ r = r' := fun h => hab ⟨hok, hok', h⟩
        repeat' (first|(refine ya ?_;first|(refine yb ?_;first|refine yc ?_)|refine ye ?_)|(refine yg ?_;intro hgs;first|(replace hgs:=zgy hgs;first|(refine yb ?_;first|refine yc ?_)|refine yy hgs ?_;clear hgs)|(refine yn (zgn hgs) ?_;clear hgs)|((fail_if_success have:=zgy hgs);refine z_spl hgs (h1:=?_) (h2:=?_)<;>clear hgs<;>intro hg hr<;>try first|contradiction|exfalso;omega))|refine yz ?_|refine zst ?_|refine k_blk_other rfl ?_|(refine zk ?_ ?_<;>intro hc hr<;>try first|contradiction|exfalso;omega))
        all_goals first | (refine z_ret (hv := ?_) (ho := ?_) <;> first | rfl | (simp [go_sem, *]; done) | (simp_all; done) | (simp_all; omega)) | skip
instance : Con Tryz.prog 13 conj_sat_S := con conj_sat Tryz.func13
def K_conj_sat2 : Nat → List Nat := fun i => ([[2, 3], [2, 3, 27], [4, 5], [3, 6, 7], [6, 7, 8, 9], [6, 7, 8, 9, 52], [4, 5], [6, 7, 8, 9, 10], [6, 7, 8, 9, 10, 57], [6, 7, 8, 9, 10], [6, 7, 8, 9, 10, 11], [6, 7, 8, 9, 10, 68], [4, 5], [4, 5]] : List (List Nat)).getD i []
attribute [go_sem] K_conj_sat2
def conj_sat2_S : Eng.Spec := fun args av objs => ∃ (r z : Int) (es : List Ed) (r' z' : Int) (es' : List Ed), (es.length ≤ 1048576 ∧ es'.length ≤ 1048576) ∧ args = [grA r z es, grA r' z' es'] ∧ av = .tup [aR 0, aB (acB ⟨r, z, es⟩ ⟨r', z', es'⟩)] ∧ objs = [oL 3 (acW ⟨r, z, es⟩ ⟨r', z', es'⟩)]
theorem conj_sat2 : Sat Tryz.prog 11 conj_sat2_S := by
  refine sat_of tok okr mixed K_conj_sat2 Tryz.func11 rfl (rs := [.tmp 4, .tmp 5]) rfl Tryz.ntmps11 ?_
  rintro args av objs ⟨r, z, es, r', z', es', hpre, rfl, rfl, rfl⟩
  refine ⟨by show 2 ≤ 78; decide, ?_⟩
  obtain ⟨he, he'⟩ := hpre
  by_cases hab : isC r z es = true ∧ isC r' z' es' = true ∧ r = r'
  · have hC : isC (⟨r, z, es⟩ : Gr).r (⟨r, z, es⟩ : Gr).z (⟨r, z, es⟩ : Gr).es = true ∧ isC (⟨r', z', es'⟩ : Gr).r (⟨r', z', es'⟩ : Gr).z (⟨r', z', es'⟩ : Gr).es = true ∧ (⟨r, z, es⟩ : Gr).r = (⟨r', z', es'⟩ : Gr).r := hab
    obtain ⟨h1, h2, h3⟩ := hab
    subst h3
    have hf1 := cyG_F (g := ⟨r, z, es⟩) h1
    have hl1 := cyG_len (g := ⟨r, z, es⟩)
    have hl2 := cyG_len (g := ⟨r, z', es'⟩)
    have hm1 := rg_small (cyG_mem (g := ⟨r, z, es⟩))
    have hm2 := rg_small (cyG_mem (g := ⟨r, z', es'⟩))
    have hes1 := cyG_es (g := ⟨r, z, es⟩) (n := 1048576) he (by omega)
    have hes2 := cyG_es (g := ⟨r, z', es'⟩) (n := 1048576) he' (by omega)
    have hhit := fun (v : Nat) => ac_hit hC (v := v)
    have hend := ac_end hC
    have hsize := ac_size hC
    clear hC
    by_cases hsz : (cyG ⟨r, z, es⟩).1.z = (cyG ⟨r, z', es'⟩).1.z ∧ (cyG ⟨r, z, es⟩).1.es.length = (cyG ⟨r, z', es'⟩).1.es.length
    case neg =>
      have hsz2 : ¬ (cyG ⟨r, z, es⟩).1.z = (cyG ⟨r, z', es'⟩).1.z ∨ ¬ ((cyG ⟨r, z, es⟩).1.es.length : Int) = (cyG ⟨r, z', es'⟩).1.es.length := by
        by_cases h : (cyG ⟨r, z, es⟩).1.z = (cyG ⟨r, z', es'⟩).1.z
        · exact .inr fun h5 => hsz ⟨h, by omega⟩
        · exact .inl h
      obtain ⟨e1, e2⟩ := hsize hsz2
      rw [e1, e2]
      clear hhit hend hsize e1 e2 hsz
      repeat' (first|(refine ya ?_;first|(refine yb ?_;first|refine yc ?_)|refine ye ?_)|(refine yg ?_;intro hgs;first|(replace hgs:=zgy hgs;first|(refine yb ?_;first|refine yc ?_)|refine yy hgs ?_;clear hgs)|(refine yn (zgn hgs) ?_;clear hgs)|((fail_if_success have:=zgy hgs);refine z_spl hgs (h1:=?_) (h2:=?_)<;>clear hgs<;>intro hg hr<;>try first|contradiction|exfalso;omega))|refine yz ?_|refine zst ?_|refine k_blk_other rfl ?_|(refine zk ?_ ?_<;>intro hc hr<;>try first|contradiction|exfalso;omega))
      all_goals first | (refine z_ret (hv := ?_) (ho := ?_) <;> first | rfl | (simp [go_sem, *]; done) | (simp_all; done) | (simp_all; omega)) | skip
    obtain ⟨hsz1, hsz2⟩ := hsz
    clear hsize
    repeat' (first|(refine ya ?_;first|(refine yb ?_;first|refine yc ?_)|refine ye ?_)|(refine yg ?_;intro hgs;first|(replace hgs:=zgy hgs;first|(refine yb ?_;first|refine yc ?_)|refine yy hgs ?_;clear hgs)|(refine yn (zgn hgs) ?_;clear hgs)|((fail_if_success have:=zgy hgs);refine z_spl hgs (h1:=?_) (h2:=?_)<;>clear hgs<;>intro hg hr<;>try first|contradiction|exfalso;omega))|refine yz ?_|refine zst ?_|refine k_blk_other rfl ?_|(refine zk ?_ ?_<;>intro hc hr<;>try first|contradiction|exfalso;omega))
    generalize hx : cyG ⟨r, z, es⟩ = X at *
    generalize hy : cyG ⟨r, z', es'⟩ = Y at *
    obtain ⟨⟨r1, z1, es1⟩, l1⟩ := X
    obtain ⟨⟨r2, z2, es2⟩, l2⟩ := Y
    simp only at hf1 hl1 hl2 hm1 hm2 hes1 hes2 hhit hend ⊢
    have hz1 := isG_z (isF_g hf1)
    clear hx hy hsz1 hsz2
    refine z_loop (fun v : Nat => [(10, aI v)]) (fun v : Nat => []) (fun v : Nat => v ≤ z1.toNat ∧ acF ⟨r1, z1, es1⟩ ⟨r2, z2, es2⟩ v < 0) (fun v : Nat => z1.toNat - v) (0) (h0 := ?_) (henv := ?_) (hobj := ?_) (h := ?_)
    · exact ⟨by omega, by simp [acF]⟩
    · simp [go_sem, AVm, CVm, lookS]
    · simp [go_sem, OBm, CVm, lookS, All2]
    rintro v ⟨hv, hV⟩
    rcases Nat.lt_or_ge v z1.toNat with hlt | hge
    · have hme := movG_es (g := ⟨r1, z1, es1⟩) (v := v) (n := 1048576) hes1 (by omega)
      by_cases hq : eqG (movG ⟨r1, z1, es1⟩ v) ⟨r2, z2, es2⟩
      · obtain ⟨e1, e2⟩ := hhit v hlt hV hq
        rw [e1, e2]
        have hpl := pw_len (r := r1) (z := z1) (es := es1) (u := 0) (v := v)
        have hpr := pw_rg (r := r1) (z := z1) (es := es1) (u := 0) (v := v)
        have hil := ivW_len l2
        have hir := ivW_rg (w := l2)
        have hra : red (red (l1 ++ pw r1 z1 es1 0 v) ++ ivW l2) = red (l1 ++ pw r1 z1 es1 0 v ++ ivW l2) := red_app _ _
        have hrl := red_len (l1 ++ pw r1 z1 es1 0 v)
        rw [List.length_append] at hrl
        have hrr : ∀ x ∈ red (l1 ++ pw r1 z1 es1 0 v), rg x := red_rg fun x hx => (List.mem_append.1 hx).elim (hm1 x) (hpr x)
        have hq2 : (movG ⟨r1, z1, es1⟩ v).r = r2 ∧ (movG ⟨r1, z1, es1⟩ v).z = z2 ∧ (movG ⟨r1, z1, es1⟩ v).es = es2 := hq
        clear hhit hend hq e1 e2
        repeat' (first|(refine ya ?_;first|(refine yb ?_;first|refine yc ?_)|refine ye ?_)|(refine yg ?_;intro hgs;first|(replace hgs:=zgy hgs;first|(refine yb ?_;first|refine yc ?_)|refine yy hgs ?_;clear hgs)|(refine yn (zgn hgs) ?_;clear hgs)|((fail_if_success have:=zgy hgs);refine z_spl hgs (h1:=?_) (h2:=?_)<;>clear hgs<;>intro hg hr<;>try first|contradiction|exfalso;omega))|refine yz ?_|refine zst ?_|refine k_blk_other rfl ?_|(refine zk ?_ ?_<;>intro hc hr<;>try first|contradiction|exfalso;omega))
        all_goals first | (refine z_ret (hv := ?_) (ho := ?_) <;> first | rfl | (simp [go_sem, *]; done) | (simp_all; done) | (simp_all; omega)) | skip
      · have hq2 : ¬ ((movG ⟨r1, z1, es1⟩ v).r = r2 ∧ (movG ⟨r1, z1, es1⟩ v).z = z2 ∧ (movG ⟨r1, z1, es1⟩ v).es = es2) := hq
        have hV2 := acF_next hV hq
        clear hhit hend hq
        repeat' (first|(refine ya ?_;first|(refine yb ?_;first|refine yc ?_)|refine ye ?_)|(refine yg ?_;intro hgs;first|(replace hgs:=zgy hgs;first|(refine yb ?_;first|refine yc ?_)|refine yy hgs ?_;clear hgs)|(refine yn (zgn hgs) ?_;clear hgs)|((fail_if_success have:=zgy hgs);refine z_spl hgs (h1:=?_) (h2:=?_)<;>clear hgs<;>intro hg hr<;>try first|contradiction|exfalso;omega))|refine yz ?_|refine zst ?_|refine k_blk_other rfl ?_|(refine zk ?_ ?_<;>intro hc hr<;>try first|contradiction|exfalso;omega))
        exact zl (v + 1) (hj := by exact ⟨by omega, hV2⟩)
    · have hvv : v = z1.toNat := by omega
      subst hvv
      obtain ⟨e1, e2⟩ := hend hV
      rw [e1, e2]
      clear hhit hend e1 e2
      repeat' (first|(refine ya ?_;first|(refine yb ?_;first|refine yc ?_)|refine ye ?_)|(refine yg ?_;intro hgs;first|(replace hgs:=zgy hgs;first|(refine yb ?_;first|refine yc ?_)|refine yy hgs ?_;clear hgs)|(refine yn (zgn hgs) ?_;clear hgs)|((fail_if_success have:=zgy hgs);refine z_spl hgs (h1:=?_) (h2:=?_)<;>clear hgs<;>intro hg hr<;>try first|contradiction|exfalso;omega))|refine yz ?_|refine zst ?_|refine k_blk_other rfl ?_|(refine zk ?_ ?_<;>intro hc hr<;>try first|contradiction|exfalso;omega))
      all_goals first | (refine z_ret (hv := ?_) (ho := ?_) <;> first | rfl | (simp [go_sem, *]; done) | (simp_all; done) | (simp_all; omega)) | skip
  · have hno := ac_no (a := ⟨r, z, es⟩) (b := ⟨r', z', es'⟩) hab
    rw [hno.1, hno.2]
    cases hok : isC r z es
    · repeat' (first|(refine ya ?_;first|(refine yb ?_;first|refine yc ?_)|refine ye ?_)|(refine yg ?_;intro hgs;first|(replace hgs:=zgy hgs;first|(refine yb ?_;first|refine yc ?_)|refine yy hgs ?_;clear hgs)|(refine yn (zgn hgs) ?_;clear hgs)|((fail_if_success have:=zgy hgs);refine z_spl hgs (h1:=?_) (h2:=?_)<;>clear hgs<;>intro hg hr<;>try first|contradiction|exfalso;omega))|refine yz ?_|refine zst ?_|refine k_blk_other rfl ?_|(refine zk ?_ ?_<;>intro hc hr<;>try first|contradiction|exfalso;omega))
      all_goals first | (refine z_ret (hv := ?_) (ho := ?_) <;> first | rfl | (simp [go_sem, *]; done) | (simp_all; done) | (simp_all; omega)) | skip
    · cases hok' : isC r' z' es'
      · repeat' (first|(refine ya ?_;first|(refine yb ?_;first|refine yc ?_)|refine ye ?_)|(refine yg ?_;intro hgs;first|(replace hgs:=zgy hgs;first|(refine yb ?_;first|refine yc ?_)|refine yy hgs ?_;clear hgs)|(refine yn (zgn hgs) ?_;clear hgs)|((fail_if_success have:=zgy hgs);refine z_spl hgs (h1:=?_) (h2:=?_)<;>clear hgs<;>intro hg hr<;>try first|contradiction|exfalso;omega))|refine yz ?_|refine zst ?_|refine k_blk_other rfl ?_|(refine zk ?_ ?_<;>intro hc hr<;>try first|contradiction|exfalso;omega))
        all_goals first | (refine z_ret (hv := ?_) (ho := ?_) <;> first | rfl | (simp [go_sem, *]; done) | (simp_all; done) | (simp_all; omega)) | skip
      · have hne : ¬ r = r' := fun h => hab ⟨hok, hok', h⟩
        repeat' (first|(refine ya ?_;first|(refine yb ?_;first|refine yc ?_)|refine ye ?_)|(refine yg ?_;intro hgs;first|(replace hgs:=zgy hgs;first|(refine yb ?_;first|refine yc ?_)|refine yy hgs ?_;clear hgs)|(refine yn (zgn hgs) ?_;clear hgs)|((fail_if_success have:=zgy hgs);refine z_spl hgs (h1:=?_) (h2:=?_)<;>clear hgs<;>intro hg hr<;>try first|contradiction|exfalso;omega))|refine yz ?_|refine zst ?_|refine k_blk_other rfl ?_|(refine zk ?_ ?_<;>intro hc hr<;>try first|contradiction|exfalso;omega))
        all_goals first | (refine z_ret (hv := ?_) (ho := ?_) <;> first | rfl | (simp [go_sem, *]; done) | (simp_all; done) | (simp_all; omega)) | skip
instance : Con Tryz.prog 11 conj_sat2_S := con conj_sat2 Tryz.func11
end Go.Proofs.Tryz
