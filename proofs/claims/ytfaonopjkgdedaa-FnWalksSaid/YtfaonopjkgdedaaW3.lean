import Derived.Test.YtfaonopjkgdedaaR
set_option linter.unusedVariables false
set_option linter.unusedSimpArgs false
set_option linter.unnecessarySimpa false
/- The vertices that can be reached from any vertex. -/
namespace Go.Proofs.Try
open Go Go.Eng
set_option linter.unnecessarySimpa false
set_option linter.unusedSimpArgs false
set_option maxHeartbeats 4000000
def rcB (r z : Int) (es : List Ed) (v : Int) : Bool := isG r z es && decide (0 ≤ v ∧ v < z)
noncomputable def rcL (r z : Int) (es : List Ed) (v : Int) : List Int := if rcB r z es v then rl es v z else []
def K_reachV_sat : Nat → List Nat := fun i => ([[1, 2], [1, 2, 5], [1, 2, 5, 17], [4], [5, 21, 22, 23], [5, 21, 22, 23, 24], [5, 6, 7, 21, 22, 23], [5, 6, 21, 22, 23, 28], [5, 21, 22, 23], [5, 21, 22, 23], [4]] : List (List Nat)).getD i []
attribute [go_sem] K_reachV_sat
def reachV_sat_S : Eng.Spec := fun args av objs => ∃ (r z : Int) (es : List Ed) (v : Int), (es.length ≤ 1048576) ∧ args = [grA r z es, aI v] ∧ av = aR 0 ∧ objs = [oL 3 (rcL r z es v)]
theorem reachV_sat : Sat Try.prog 22 reachV_sat_S := by
  refine sat_of tok okr mixed K_reachV_sat Try.func22 rfl (rs := [.tmp 4]) rfl Try.ntmps22 ?_
  rintro args av objs ⟨r, z, es, v, hpre, rfl, rfl, rfl⟩
  refine ⟨by show 2 ≤ 35; decide, ?_⟩
  cases hG : isG r z es
  · have e0 : rcL r z es v = [] := by unfold rcL rcB; rw [hG]; rfl
    rw [e0]
    repeat' (first|(refine ya ?_;first|(refine yb ?_;first|refine yc ?_)|refine ye ?_)|(refine yg ?_;intro hgs;first|(replace hgs:=zgy hgs;first|(refine yb ?_;first|refine yc ?_)|refine yy hgs ?_;clear hgs)|(refine yn (zgn hgs) ?_;clear hgs)|((fail_if_success have:=zgy hgs);refine z_spl hgs (h1:=?_) (h2:=?_)<;>clear hgs<;>intro hg hr<;>try first|contradiction|exfalso;omega))|refine yz ?_|refine zst ?_|refine k_blk_other rfl ?_|(refine zk ?_ ?_<;>intro hc hr<;>try first|contradiction|exfalso;omega))
    all_goals first | (refine z_ret (hv := ?_) (ho := ?_) <;> first | rfl | (simp [go_sem, *]; done) | (simp_all; done) | (simp_all; omega)) | skip
  · have hz := isG_z hG
    by_cases hv : 0 ≤ v ∧ v < z
    · have e0 : rcL r z es v = rl es v z := by unfold rcL rcB; rw [hG, decide_eq_true hv]; rfl
      rw [e0]
      clear e0
      have hl := jn_len es v z
      repeat' (first|(refine ya ?_;first|(refine yb ?_;first|refine yc ?_)|refine ye ?_)|(refine yg ?_;intro hgs;first|(replace hgs:=zgy hgs;first|(refine yb ?_;first|refine yc ?_)|refine yy hgs ?_;clear hgs)|(refine yn (zgn hgs) ?_;clear hgs)|((fail_if_success have:=zgy hgs);refine z_spl hgs (h1:=?_) (h2:=?_)<;>clear hgs<;>intro hg hr<;>try first|contradiction|exfalso;omega))|refine yz ?_|refine zst ?_|refine k_blk_other rfl ?_|(refine zk ?_ ?_<;>intro hc hr<;>try first|contradiction|exfalso;omega))
      refine z_loop (fun i : Nat => [(23, aI i)]) (fun i : Nat => [.obj 5 (oL 3 (mk1 (jn es v z) i))]) (fun i : Nat => i ≤ z.toNat) (fun i : Nat => z.toNat - i) (0) (h0 := ?_) (henv := ?_) (hobj := ?_) (h := ?_)
      · omega
      · simp [go_sem, AVm, CVm, lookS, mk1]
      · simp [go_sem, OBm, CVm, lookS, All2, mk1]
      intro i hi
      have hm := mk1_len (jn es v z) i
      rcases Nat.lt_or_ge i z.toNat with hlt | hge
      · repeat' (first|(refine ya ?_;first|(refine yb ?_;first|refine yc ?_)|refine ye ?_)|(refine yg ?_;intro hgs;first|(replace hgs:=zgy hgs;first|(refine yb ?_;first|refine yc ?_)|refine yy hgs ?_;clear hgs)|(refine yn (zgn hgs) ?_;clear hgs)|((fail_if_success have:=zgy hgs);refine z_spl hgs (h1:=?_) (h2:=?_)<;>clear hgs<;>intro hg hr<;>try first|contradiction|exfalso;omega))|refine yz ?_|refine zst ?_|refine k_blk_other rfl ?_|(refine zk ?_ ?_<;>intro hc hr<;>try first|contradiction|exfalso;omega))
        · (refine z_lop (i + 1) (hj := ?_) (hmu := ?_) (henv := ?_) (hobj := ?_); (· omega); (· first | omega | (simp only; omega)); (· first | (simp [go_sem, AVm, CVm, lookS, mk1, *]; done) | (simp [go_sem, AVm, CVm, lookS, mk1, *] <;> (repeat' split) <;> first | omega | (simp_all; done) | (exfalso; omega) | (simp_all; omega))); (· first | (simp [go_sem, OBm, CVm, All2, lookS, mk1, *]; done) | (simp [go_sem, OBm, CVm, All2, lookS, mk1, *] <;> (repeat' split) <;> first | omega | (simp_all; done) | (exfalso; omega) | (simp_all; omega))))
        · (refine z_lop (i + 1) (hj := ?_) (hmu := ?_) (henv := ?_) (hobj := ?_); (· omega); (· first | omega | (simp only; omega)); (· first | (simp [go_sem, AVm, CVm, lookS, mk1, *]; done) | (simp [go_sem, AVm, CVm, lookS, mk1, *] <;> (repeat' split) <;> first | omega | (simp_all; done) | (exfalso; omega) | (simp_all; omega))); (· first | (simp [go_sem, OBm, CVm, All2, lookS, mk1, *]; done) | (simp [go_sem, OBm, CVm, All2, lookS, mk1, *] <;> (repeat' split) <;> first | omega | (simp_all; done) | (exfalso; omega) | (simp_all; omega))))
      · have hii : i = z.toNat := by omega
        subst hii
        rw [mk1_jn]
        repeat' (first|(refine ya ?_;first|(refine yb ?_;first|refine yc ?_)|refine ye ?_)|(refine yg ?_;intro hgs;first|(replace hgs:=zgy hgs;first|(refine yb ?_;first|refine yc ?_)|refine yy hgs ?_;clear hgs)|(refine yn (zgn hgs) ?_;clear hgs)|((fail_if_success have:=zgy hgs);refine z_spl hgs (h1:=?_) (h2:=?_)<;>clear hgs<;>intro hg hr<;>try first|contradiction|exfalso;omega))|refine yz ?_|refine zst ?_|refine k_blk_other rfl ?_|(refine zk ?_ ?_<;>intro hc hr<;>try first|contradiction|exfalso;omega))
        all_goals first | (refine z_ret (hv := ?_) (ho := ?_) <;> first | rfl | (simp [go_sem, *]; done) | (simp_all; done) | (simp_all; omega)) | skip
    · have e0 : rcL r z es v = [] := by unfold rcL rcB; rw [decide_eq_false hv, Bool.and_false]; rfl
      rw [e0]
      clear e0
      repeat' (first|(refine ya ?_;first|(refine yb ?_;first|refine yc ?_)|refine ye ?_)|(refine yg ?_;intro hgs;first|(replace hgs:=zgy hgs;first|(refine yb ?_;first|refine yc ?_)|refine yy hgs ?_;clear hgs)|(refine yn (zgn hgs) ?_;clear hgs)|((fail_if_success have:=zgy hgs);refine z_spl hgs (h1:=?_) (h2:=?_)<;>clear hgs<;>intro hg hr<;>try first|contradiction|exfalso;omega))|refine yz ?_|refine zst ?_|refine k_blk_other rfl ?_|(refine zk ?_ ?_<;>intro hc hr<;>try first|contradiction|exfalso;omega))
      all_goals first | (refine z_ret (hv := ?_) (ho := ?_) <;> first | rfl | (simp [go_sem, *]; done) | (simp_all; done) | (simp_all; omega)) | skip
instance : Con Try.prog 22 reachV_sat_S := con reachV_sat Try.func22
def K_reachV_sat2 : Nat → List Nat := fun i => ([[1, 2], [1, 2, 19], [4], [2, 5], [2, 5, 6], [2, 5, 6, 28], [2, 5, 6], [2, 5, 6, 7], [2, 5, 6, 7, 35], [2, 5, 6, 7], [2, 5, 6, 7, 8], [2, 5, 6, 7, 8, 46], [2, 5, 6, 7, 8], [2, 5, 6, 7, 8, 54], [2, 5, 6, 7], [4]] : List (List Nat)).getD i []
attribute [go_sem] K_reachV_sat2
def reachV_sat2_S : Eng.Spec := fun args av objs => ∃ (r z : Int) (es : List Ed) (v : Int), (es.length ≤ 1048576) ∧ args = [grA r z es, aI v] ∧ av = aR 0 ∧ objs = [oL 3 (rcL r z es v)]
theorem reachV_sat2 : Sat Try.prog 23 reachV_sat2_S := by
  refine sat_of tok okr mixed K_reachV_sat2 Try.func23 rfl (rs := [.tmp 4]) rfl Try.ntmps23 ?_
  rintro args av objs ⟨r, z, es, v, hpre, rfl, rfl, rfl⟩
  refine ⟨by show 2 ≤ 60; decide, ?_⟩
  cases hG : isG r z es
  · have e0 : rcL r z es v = [] := by unfold rcL rcB; rw [hG]; rfl
    rw [e0]
    repeat' (first|(refine ya ?_;first|(refine yb ?_;first|refine yc ?_)|refine ye ?_)|(refine yg ?_;intro hgs;first|(replace hgs:=zgy hgs;first|(refine yb ?_;first|refine yc ?_)|refine yy hgs ?_;clear hgs)|(refine yn (zgn hgs) ?_;clear hgs)|((fail_if_success have:=zgy hgs);refine z_spl hgs (h1:=?_) (h2:=?_)<;>clear hgs<;>intro hg hr<;>try first|contradiction|exfalso;omega))|refine yz ?_|refine zst ?_|refine k_blk_other rfl ?_|(refine zk ?_ ?_<;>intro hc hr<;>try first|contradiction|exfalso;omega))
    all_goals first | (refine z_ret (hv := ?_) (ho := ?_) <;> first | rfl | (simp [go_sem, *]; done) | (simp_all; done) | (simp_all; omega)) | skip
  · have hz := isG_z hG
    obtain ⟨_, _, hR⟩ := isG_iff.1 hG
    by_cases hv : 0 ≤ v ∧ v < z
    · have e0 : rcL r z es v = rl es v z := by unfold rcL rcB; rw [hG, decide_eq_true hv]; rfl
      rw [e0]
      clear e0
      repeat' (first|(refine ya ?_;first|(refine yb ?_;first|refine yc ?_)|refine ye ?_)|(refine yg ?_;intro hgs;first|(replace hgs:=zgy hgs;first|(refine yb ?_;first|refine yc ?_)|refine yy hgs ?_;clear hgs)|(refine yn (zgn hgs) ?_;clear hgs)|((fail_if_success have:=zgy hgs);refine z_spl hgs (h1:=?_) (h2:=?_)<;>clear hgs<;>intro hg hr<;>try first|contradiction|exfalso;omega))|refine yz ?_|refine zst ?_|refine k_blk_other rfl ?_|(refine zk ?_ ?_<;>intro hc hr<;>try first|contradiction|exfalso;omega))
      refine z_loop (fun p : Nat × List Int => [(6, aI p.1)]) (fun p : Nat × List Int => [.obj 5 (oL 3 p.2)]) (fun p : Nat × List Int => p.1 ≤ es.length + 1 ∧ RI es v z p.2 ∧ RK es p.2 p.1) (fun p : Nat × List Int => es.length + 1 - p.1) ((0, [v])) (h0 := ?_) (henv := ?_) (hobj := ?_) (h := ?_)
      · exact ⟨by omega, RI_0 (by omega), .inr (by omega)⟩
      · simp [go_sem, AVm, CVm, lookS, ints]
      · simp [go_sem, OBm, CVm, lookS, All2, ints]
      rintro ⟨k, l⟩ ⟨hk, hI, hK⟩
      have hl := RI_len hI (by omega)
      simp only at hk hI hK hl ⊢
      repeat' (first|(refine ya ?_;first|(refine yb ?_;first|refine yc ?_)|refine ye ?_)|(refine yg ?_;intro hgs;first|(replace hgs:=zgy hgs;first|(refine yb ?_;first|refine yc ?_)|refine yy hgs ?_;clear hgs)|(refine yn (zgn hgs) ?_;clear hgs)|((fail_if_success have:=zgy hgs);refine z_spl hgs (h1:=?_) (h2:=?_)<;>clear hgs<;>intro hg hr<;>try first|contradiction|exfalso;omega))|refine yz ?_|refine zst ?_|refine k_blk_other rfl ?_|(refine zk ?_ ?_<;>intro hc hr<;>try first|contradiction|exfalso;omega))
      · refine z_loop (fun q : Nat × List Int => [(7, aI q.1)]) (fun q : Nat × List Int => [.obj 5 (oL 3 q.2)]) (fun q : Nat × List Int => q.1 ≤ es.length ∧ RI es v z q.2 ∧ RR es l q.2 q.1) (fun q : Nat × List Int => es.length - q.1) ((0, l)) (h0 := ?_) (henv := ?_) (hobj := ?_) (h := ?_)
        · exact ⟨by omega, hI, RR_0 es l⟩
        · simp [go_sem, AVm, CVm, lookS]
        · simp [go_sem, OBm, CVm, lookS, All2]
        rintro ⟨i, m⟩ ⟨hi, hI2, hR2⟩
        have hl2 := RI_len hI2 (by omega)
        simp only at hi hI2 hR2 hl2 ⊢
        rcases Nat.lt_or_ge i es.length with hlt | hge
        · have hin := hR _ (ed_mem hlt)
          unfold inR at hin
          have h3 := RI_stp hR hI2 (ed_mem hlt)
          have h4 := RR_stp hR2 hlt
          have h5 := insI_len (ed es i).2.2 m
          repeat' (first|(refine ya ?_;first|(refine yb ?_;first|refine yc ?_)|refine ye ?_)|(refine yg ?_;intro hgs;first|(replace hgs:=zgy hgs;first|(refine yb ?_;first|refine yc ?_)|refine yy hgs ?_;clear hgs)|(refine yn (zgn hgs) ?_;clear hgs)|((fail_if_success have:=zgy hgs);refine z_spl hgs (h1:=?_) (h2:=?_)<;>clear hgs<;>intro hg hr<;>try first|contradiction|exfalso;omega))|refine yz ?_|refine zst ?_|refine k_blk_other rfl ?_|(refine zk ?_ ?_<;>intro hc hr<;>try first|contradiction|exfalso;omega))
          all_goals (refine z_lop ((i + 1, stp m (ed es i))) (hj := ?_) (hmu := ?_) (henv := ?_) (hobj := ?_); (· exact ⟨by simp only; omega, h3, h4⟩); (· first | omega | (simp only; omega)); (· first | (simp [go_sem, AVm, CVm, lookS, stp, *]; done) | (simp [go_sem, AVm, CVm, lookS, stp, *] <;> (repeat' split) <;> first | omega | (simp_all; done) | (exfalso; omega) | (simp_all; omega))); (· first | (simp [go_sem, OBm, CVm, All2, lookS, stp, *]; done) | (simp [go_sem, OBm, CVm, All2, lookS, stp, *] <;> (repeat' split) <;> first | omega | (simp_all; done) | (exfalso; omega) | (simp_all; omega))))
        · have hii : i = es.length := by omega
          subst hii
          repeat' (first|(refine ya ?_;first|(refine yb ?_;first|refine yc ?_)|refine ye ?_)|(refine yg ?_;intro hgs;first|(replace hgs:=zgy hgs;first|(refine yb ?_;first|refine yc ?_)|refine yy hgs ?_;clear hgs)|(refine yn (zgn hgs) ?_;clear hgs)|((fail_if_success have:=zgy hgs);refine z_spl hgs (h1:=?_) (h2:=?_)<;>clear hgs<;>intro hg hr<;>try first|contradiction|exfalso;omega))|refine yz ?_|refine zst ?_|refine k_blk_other rfl ?_|(refine zk ?_ ?_<;>intro hc hr<;>try first|contradiction|exfalso;omega))
          exact zl ((k + 1, m)) (hj := by exact ⟨by simp only; omega, hI2, RK_next hK hR2⟩)
      · have hke : k = es.length + 1 := by omega
        subst hke
        have := rl_uniq hR ⟨by omega, by omega⟩ hI.asc hI.rch hI.has (RK_end hK)
        all_goals first | (refine z_ret (hv := ?_) (ho := ?_) <;> first | rfl | (simp [go_sem, *]; done) | (simp_all; done) | (simp_all; omega)) | skip
    · have e0 : rcL r z es v = [] := by unfold rcL rcB; rw [decide_eq_false hv, Bool.and_false]; rfl
      rw [e0]
      clear e0
      repeat' (first|(refine ya ?_;first|(refine yb ?_;first|refine yc ?_)|refine ye ?_)|(refine yg ?_;intro hgs;first|(replace hgs:=zgy hgs;first|(refine yb ?_;first|refine yc ?_)|refine yy hgs ?_;clear hgs)|(refine yn (zgn hgs) ?_;clear hgs)|((fail_if_success have:=zgy hgs);refine z_spl hgs (h1:=?_) (h2:=?_)<;>clear hgs<;>intro hg hr<;>try first|contradiction|exfalso;omega))|refine yz ?_|refine zst ?_|refine k_blk_other rfl ?_|(refine zk ?_ ?_<;>intro hc hr<;>try first|contradiction|exfalso;omega))
      all_goals first | (refine z_ret (hv := ?_) (ho := ?_) <;> first | rfl | (simp [go_sem, *]; done) | (simp_all; done) | (simp_all; omega)) | skip
instance : Con Try.prog 23 reachV_sat2_S := con reachV_sat2 Try.func23
end Go.Proofs.Try
