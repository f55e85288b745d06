import Derived.Test.YtfaonopjkgdedaaX
import Derived.Test.YtfaonopjkgdedaaW
set_option linter.unusedVariables false
set_option linter.unusedSimpArgs false
set_option linter.unnecessarySimpa false
namespace Go.Proofs.Try
open Go Go.Eng
set_option linter.unnecessarySimpa false
set_option linter.unusedSimpArgs false
set_option maxHeartbeats 4000000
theorem tg_big {v x : Int} {e : Ed} (h : x ≤ -1000001) (h2 : e.2.1 ≤ 3) : tg v x e = [] := tg0 (by omega) (by omega)
def K_stepsA_sat : Nat → List Nat := fun i => ([[1, 2, 3], [1, 2, 3, 7], [1, 2, 7, 12, 13, 14], [1, 2, 7, 12, 13, 14, 15], [1, 2, 7, 9, 12, 13, 14], [1, 2, 7, 9, 12, 13, 14, 18], [1, 2, 7, 12, 13, 14], [1, 2, 7, 9, 12, 13, 14, 38], [1, 2, 7, 12, 13, 14], [1, 2, 7, 12, 13, 14], [7], [6]] : List (List Nat)).getD i []
attribute [go_sem] K_stepsA_sat
def stepsA_sat_S : Eng.Spec := fun args av objs => ∃ (r z : Int) (es : List Ed) (v x : Int), (isG r z es = true ∧ rg x) ∧ args = [grA r z es, aI v, aI x] ∧ av = aR 0 ∧ objs = [oL 3 (stL es v x)]
theorem stepsA_sat : Sat Try.prog 45 stepsA_sat_S := by
  refine sat_of tok okr mixed K_stepsA_sat Try.func45 rfl (rs := [.tmp 6]) rfl Try.ntmps45 ?_
  rintro args av objs ⟨r, z, es, v, x, hpre, rfl, rfl, rfl⟩
  refine ⟨by show 3 ≤ 68; decide, ?_⟩
  obtain ⟨hg, hx⟩ := hpre
  have hz := isG_z hg
  unfold rg at hx
  repeat' (first|(refine ya ?_;first|(refine yb ?_;first|refine yx ?_|refine yv ?_)|refine ye ?_)|(refine yg ?_;intro hgs;first|(replace hgs:=zgy hgs;first|(refine yb ?_;first|refine yx ?_|refine yv ?_)|refine yy hgs ?_;clear hgs)|(refine yn (zgn hgs) ?_;clear hgs)|((fail_if_success have:=zgy hgs);refine z_spl hgs (h1:=?_) (h2:=?_)<;>clear hgs<;>intro hg hr<;>try first|contradiction|exfalso;omega))|refine yz ?_|refine zst ?_|refine k_blk_other rfl ?_|(refine zk ?_ ?_<;>intro hc hr<;>try first|contradiction|exfalso;omega))
  refine z_loop (fun i : Nat => [(14, aI i)]) (fun i : Nat => [.obj 7 (oL 3 (stN es v x i))]) (fun i : Nat => i ≤ es.length) (fun i : Nat => es.length - i) (0) (h0 := ?_) (henv := ?_) (hobj := ?_) (h := ?_)
  · omega
  · simp [go_sem, AVm, CVm, lookS, stN]
  · simp [go_sem, OBm, CVm, lookS, All2, stN]
  intro i hi
  have hl := stN_len es v x i
  rcases Nat.lt_or_ge i es.length with hlt | hge
  · have hb := isG_at hg hlt
    by_cases hm : x = -9223372036854775808
    · have ht : tg v x (ed es i) = [] := tg_big (by omega) (by omega)
      have hs : stN es v x (i + 1) = stN es v x i := by rw [stN, ht, List.append_nil]
      repeat' (first|(refine ya ?_;first|(refine yb ?_;first|refine yx ?_|refine yv ?_)|refine ye ?_)|(refine yg ?_;intro hgs;first|(replace hgs:=zgy hgs;first|(refine yb ?_;first|refine yx ?_|refine yv ?_)|refine yy hgs ?_;clear hgs)|(refine yn (zgn hgs) ?_;clear hgs)|((fail_if_success have:=zgy hgs);refine z_spl hgs (h1:=?_) (h2:=?_)<;>clear hgs<;>intro hg hr<;>try first|contradiction|exfalso;omega))|refine yz ?_|refine zst ?_|refine k_blk_other rfl ?_|(refine zk ?_ ?_<;>intro hc hr<;>try first|contradiction|exfalso;omega))
      all_goals (refine z_lop (i + 1) (hj := ?_) (hmu := ?_) (henv := ?_) (hobj := ?_); (· omega); (· first | omega | (simp only; omega)); (· first | (simp [go_sem, AVm, CVm, lookS, hs, *]; done) | (simp [go_sem, AVm, CVm, lookS, hs, *] <;> (repeat' split) <;> first | omega | (simp_all; done) | (exfalso; omega) | (simp_all; omega))); (· first | (simp [go_sem, OBm, CVm, All2, lookS, hs, *]; done) | (simp [go_sem, OBm, CVm, All2, lookS, hs, *] <;> (repeat' split) <;> first | omega | (simp_all; done) | (exfalso; omega) | (simp_all; omega))))
    · repeat' (first|(refine ya ?_;first|(refine yb ?_;first|refine yx ?_|refine yv ?_)|refine ye ?_)|(refine yg ?_;intro hgs;first|(replace hgs:=zgy hgs;first|(refine yb ?_;first|refine yx ?_|refine yv ?_)|refine yy hgs ?_;clear hgs)|(refine yn (zgn hgs) ?_;clear hgs)|((fail_if_success have:=zgy hgs);refine z_spl hgs (h1:=?_) (h2:=?_)<;>clear hgs<;>intro hg hr<;>try first|contradiction|exfalso;omega))|refine yz ?_|refine zst ?_|refine k_blk_other rfl ?_|(refine zk ?_ ?_<;>intro hc hr<;>try first|contradiction|exfalso;omega))
      all_goals first
        | (have ht : tg v x (ed es i) = [(ed es i).2.2] := tgP (by omega)
           (refine z_lop (i + 1) (hj := ?_) (hmu := ?_) (henv := ?_) (hobj := ?_); (· omega); (· first | omega | (simp only; omega)); (· first | (simp [go_sem, AVm, CVm, lookS, stN, nI_snoc, *]; done) | (simp [go_sem, AVm, CVm, lookS, stN, nI_snoc, *] <;> (repeat' split) <;> first | omega | (simp_all; done) | (exfalso; omega) | (simp_all; omega))); (· first | (simp [go_sem, OBm, CVm, All2, lookS, stN, nI_snoc, *]; done) | (simp [go_sem, OBm, CVm, All2, lookS, stN, nI_snoc, *] <;> (repeat' split) <;> first | omega | (simp_all; done) | (exfalso; omega) | (simp_all; omega)))))
        | (have ht : tg v x (ed es i) = [(ed es i).1] := tgN (by omega)
           (refine z_lop (i + 1) (hj := ?_) (hmu := ?_) (henv := ?_) (hobj := ?_); (· omega); (· first | omega | (simp only; omega)); (· first | (simp [go_sem, AVm, CVm, lookS, stN, nI_snoc, *]; done) | (simp [go_sem, AVm, CVm, lookS, stN, nI_snoc, *] <;> (repeat' split) <;> first | omega | (simp_all; done) | (exfalso; omega) | (simp_all; omega))); (· first | (simp [go_sem, OBm, CVm, All2, lookS, stN, nI_snoc, *]; done) | (simp [go_sem, OBm, CVm, All2, lookS, stN, nI_snoc, *] <;> (repeat' split) <;> first | omega | (simp_all; done) | (exfalso; omega) | (simp_all; omega)))))
        | (have ht : tg v x (ed es i) = [] := tg0 (by omega) (by omega)
           (refine z_lop (i + 1) (hj := ?_) (hmu := ?_) (henv := ?_) (hobj := ?_); (· omega); (· first | omega | (simp only; omega)); (· first | (simp [go_sem, AVm, CVm, lookS, stN, nI_snoc, *]; done) | (simp [go_sem, AVm, CVm, lookS, stN, nI_snoc, *] <;> (repeat' split) <;> first | omega | (simp_all; done) | (exfalso; omega) | (simp_all; omega))); (· first | (simp [go_sem, OBm, CVm, All2, lookS, stN, nI_snoc, *]; done) | (simp [go_sem, OBm, CVm, All2, lookS, stN, nI_snoc, *] <;> (repeat' split) <;> first | omega | (simp_all; done) | (exfalso; omega) | (simp_all; omega)))))
  · have hii : i = es.length := by omega
    subst hii
    have hl3 := srtI_len (stN es v x es.length)
    repeat' (first|(refine ya ?_;first|(refine yb ?_;first|refine yx ?_|refine yv ?_)|refine ye ?_)|(refine yg ?_;intro hgs;first|(replace hgs:=zgy hgs;first|(refine yb ?_;first|refine yx ?_|refine yv ?_)|refine yy hgs ?_;clear hgs)|(refine yn (zgn hgs) ?_;clear hgs)|((fail_if_success have:=zgy hgs);refine z_spl hgs (h1:=?_) (h2:=?_)<;>clear hgs<;>intro hg hr<;>try first|contradiction|exfalso;omega))|refine yz ?_|refine zst ?_|refine k_blk_other rfl ?_|(refine zk ?_ ?_<;>intro hc hr<;>try first|contradiction|exfalso;omega))
    all_goals simp only [srtI_cpt]
    all_goals first | (refine z_ret (hv := ?_) (ho := ?_) <;> first | rfl | (simp [go_sem, *]; done) | (simp_all; done) | (simp_all; omega)) | skip
instance : Con Try.prog 45 stepsA_sat_S := con stepsA_sat Try.func45
def K_stepsA_sat2 : Nat → List Nat := fun i => ([[1, 2, 3], [1, 2, 3, 7], [1, 2, 3, 7, 8], [1, 2, 3, 7, 8, 15], [1, 2, 3, 7, 8], [1, 2, 3, 7, 8, 9], [1, 2, 3, 7, 8, 9, 36], [1, 2, 3, 7, 8, 9], [1, 2, 3, 7, 8, 9, 55], [1, 2, 3, 7, 8], [6]] : List (List Nat)).getD i []
attribute [go_sem] K_stepsA_sat2
def stepsA_sat2_S : Eng.Spec := fun args av objs => ∃ (r z : Int) (es : List Ed) (v x : Int), (isG r z es = true ∧ rg x) ∧ args = [grA r z es, aI v, aI x] ∧ av = aR 0 ∧ objs = [oL 3 (stL es v x)]
theorem stepsA_sat2 : Sat Try.prog 46 stepsA_sat2_S := by
  refine sat_of tok okr mixed K_stepsA_sat2 Try.func46 rfl (rs := [.tmp 6]) rfl Try.ntmps46 ?_
  rintro args av objs ⟨r, z, es, v, x, hpre, rfl, rfl, rfl⟩
  refine ⟨by show 3 ≤ 61; decide, ?_⟩
  obtain ⟨hg, hx⟩ := hpre
  have hz := isG_z hg
  unfold rg at hx
  by_cases hm : x = -9223372036854775808
  · have hw : w64 9223372036854775808 = -9223372036854775808 := by decide
    repeat' (first|(refine ya ?_;first|(refine yb ?_;first|refine yc ?_)|refine ye ?_)|(refine yg ?_;intro hgs;first|(replace hgs:=zgy hgs;first|(refine yb ?_;first|refine yc ?_)|refine yy hgs ?_;clear hgs)|(refine yn (zgn hgs) ?_;clear hgs)|((fail_if_success have:=zgy hgs);refine z_spl hgs (h1:=?_) (h2:=?_)<;>clear hgs<;>intro hg hr<;>try first|contradiction|exfalso;omega))|refine yz ?_|refine zst ?_|refine k_blk_other rfl ?_|(refine zk ?_ ?_<;>intro hc hr<;>try first|contradiction|exfalso;omega))
    refine z_loop (fun i : Nat => [(8, aI i)]) (fun i : Nat => [.obj 7 (oL 3 (nI (stN es v x i)))]) (fun i : Nat => i ≤ es.length) (fun i : Nat => es.length - i) (0) (h0 := ?_) (henv := ?_) (hobj := ?_) (h := ?_)
    · omega
    · simp [go_sem, AVm, CVm, lookS, stN, nI_nil]
    · simp [go_sem, OBm, CVm, lookS, All2, stN, nI_nil]
    intro i hi
    have hl := stN_len es v x i
    have hl2 := nI_len (stN es v x i)
    rcases Nat.lt_or_ge i es.length with hlt | hge
    · have hb := isG_at hg hlt
      have ht : tg v x (ed es i) = [] := tg_big (by omega) (by omega)
      have hs : stN es v x (i + 1) = stN es v x i := by rw [stN, ht, List.append_nil]
      repeat' (first|(refine ya ?_;first|(refine yb ?_;first|refine yc ?_)|refine ye ?_)|(refine yg ?_;intro hgs;first|(replace hgs:=zgy hgs;first|(refine yb ?_;first|refine yc ?_)|refine yy hgs ?_;clear hgs)|(refine yn (zgn hgs) ?_;clear hgs)|((fail_if_success have:=zgy hgs);refine z_spl hgs (h1:=?_) (h2:=?_)<;>clear hgs<;>intro hg hr<;>try first|contradiction|exfalso;omega))|refine yz ?_|refine zst ?_|refine k_blk_other rfl ?_|(refine zk ?_ ?_<;>intro hc hr<;>try first|contradiction|exfalso;omega))
      all_goals (refine z_lop (i + 1) (hj := ?_) (hmu := ?_) (henv := ?_) (hobj := ?_); (· omega); (· first | omega | (simp only; omega)); (· first | (simp [go_sem, AVm, CVm, lookS, hs, *]; done) | (simp [go_sem, AVm, CVm, lookS, hs, *] <;> (repeat' split) <;> first | omega | (simp_all; done) | (exfalso; omega) | (simp_all; omega))); (· first | (simp [go_sem, OBm, CVm, All2, lookS, hs, *]; done) | (simp [go_sem, OBm, CVm, All2, lookS, hs, *] <;> (repeat' split) <;> first | omega | (simp_all; done) | (exfalso; omega) | (simp_all; omega))))
    · have hii : i = es.length := by omega
      subst hii
      repeat' (first|(refine ya ?_;first|(refine yb ?_;first|refine yc ?_)|refine ye ?_)|(refine yg ?_;intro hgs;first|(replace hgs:=zgy hgs;first|(refine yb ?_;first|refine yc ?_)|refine yy hgs ?_;clear hgs)|(refine yn (zgn hgs) ?_;clear hgs)|((fail_if_success have:=zgy hgs);refine z_spl hgs (h1:=?_) (h2:=?_)<;>clear hgs<;>intro hg hr<;>try first|contradiction|exfalso;omega))|refine yz ?_|refine zst ?_|refine k_blk_other rfl ?_|(refine zk ?_ ?_<;>intro hc hr<;>try first|contradiction|exfalso;omega))
      all_goals first | (refine z_ret (hv := ?_) (ho := ?_) <;> first | rfl | (simp [go_sem, *]; done) | (simp_all; done) | (simp_all; omega)) | skip
  · have hw : w64 (-x) = -x := w64Id ⟨by omega, by omega⟩
    repeat' (first|(refine ya ?_;first|(refine yb ?_;first|refine yc ?_)|refine ye ?_)|(refine yg ?_;intro hgs;first|(replace hgs:=zgy hgs;first|(refine yb ?_;first|refine yc ?_)|refine yy hgs ?_;clear hgs)|(refine yn (zgn hgs) ?_;clear hgs)|((fail_if_success have:=zgy hgs);refine z_spl hgs (h1:=?_) (h2:=?_)<;>clear hgs<;>intro hg hr<;>try first|contradiction|exfalso;omega))|refine yz ?_|refine zst ?_|refine k_blk_other rfl ?_|(refine zk ?_ ?_<;>intro hc hr<;>try first|contradiction|exfalso;omega))
    refine z_loop (fun i : Nat => [(8, aI i)]) (fun i : Nat => [.obj 7 (oL 3 (nI (stN es v x i)))]) (fun i : Nat => i ≤ es.length) (fun i : Nat => es.length - i) (0) (h0 := ?_) (henv := ?_) (hobj := ?_) (h := ?_)
    · omega
    · simp [go_sem, AVm, CVm, lookS, stN, nI_nil]
    · simp [go_sem, OBm, CVm, lookS, All2, stN, nI_nil]
    intro i hi
    have hl := stN_len es v x i
    have hl2 := nI_len (stN es v x i)
    rcases Nat.lt_or_ge i es.length with hlt | hge
    · have hb := isG_at hg hlt
      repeat' (first|(refine ya ?_;first|(refine yb ?_;first|refine yc ?_)|refine ye ?_)|(refine yg ?_;intro hgs;first|(replace hgs:=zgy hgs;first|(refine yb ?_;first|refine yc ?_)|refine yy hgs ?_;clear hgs)|(refine yn (zgn hgs) ?_;clear hgs)|((fail_if_success have:=zgy hgs);refine z_spl hgs (h1:=?_) (h2:=?_)<;>clear hgs<;>intro hg hr<;>try first|contradiction|exfalso;omega))|refine yz ?_|refine zst ?_|refine k_blk_other rfl ?_|(refine zk ?_ ?_<;>intro hc hr<;>try first|contradiction|exfalso;omega))
      all_goals first
        | (have ht : tg v x (ed es i) = [(ed es i).2.2] := tgP (by omega)
           (refine z_lop (i + 1) (hj := ?_) (hmu := ?_) (henv := ?_) (hobj := ?_); (· omega); (· first | omega | (simp only; omega)); (· first | (simp [go_sem, AVm, CVm, lookS, stN, nI_snoc, *]; done) | (simp [go_sem, AVm, CVm, lookS, stN, nI_snoc, *] <;> (repeat' split) <;> first | omega | (simp_all; done) | (exfalso; omega) | (simp_all; omega))); (· first | (simp [go_sem, OBm, CVm, All2, lookS, stN, nI_snoc, *]; done) | (simp [go_sem, OBm, CVm, All2, lookS, stN, nI_snoc, *] <;> (repeat' split) <;> first | omega | (simp_all; done) | (exfalso; omega) | (simp_all; omega)))))
        | (have ht : tg v x (ed es i) = [(ed es i).1] := tgN (by omega)
           (refine z_lop (i + 1) (hj := ?_) (hmu := ?_) (henv := ?_) (hobj := ?_); (· omega); (· first | omega | (simp only; omega)); (· first | (simp [go_sem, AVm, CVm, lookS, stN, nI_snoc, *]; done) | (simp [go_sem, AVm, CVm, lookS, stN, nI_snoc, *] <;> (repeat' split) <;> first | omega | (simp_all; done) | (exfalso; omega) | (simp_all; omega))); (· first | (simp [go_sem, OBm, CVm, All2, lookS, stN, nI_snoc, *]; done) | (simp [go_sem, OBm, CVm, All2, lookS, stN, nI_snoc, *] <;> (repeat' split) <;> first | omega | (simp_all; done) | (exfalso; omega) | (simp_all; omega)))))
        | (have ht : tg v x (ed es i) = [] := tg0 (by omega) (by omega)
           (refine z_lop (i + 1) (hj := ?_) (hmu := ?_) (henv := ?_) (hobj := ?_); (· omega); (· first | omega | (simp only; omega)); (· first | (simp [go_sem, AVm, CVm, lookS, stN, nI_snoc, *]; done) | (simp [go_sem, AVm, CVm, lookS, stN, nI_snoc, *] <;> (repeat' split) <;> first | omega | (simp_all; done) | (exfalso; omega) | (simp_all; omega))); (· first | (simp [go_sem, OBm, CVm, All2, lookS, stN, nI_snoc, *]; done) | (simp [go_sem, OBm, CVm, All2, lookS, stN, nI_snoc, *] <;> (repeat' split) <;> first | omega | (simp_all; done) | (exfalso; omega) | (simp_all; omega)))))
    · have hii : i = es.length := by omega
      subst hii
      repeat' (first|(refine ya ?_;first|(refine yb ?_;first|refine yc ?_)|refine ye ?_)|(refine yg ?_;intro hgs;first|(replace hgs:=zgy hgs;first|(refine yb ?_;first|refine yc ?_)|refine yy hgs ?_;clear hgs)|(refine yn (zgn hgs) ?_;clear hgs)|((fail_if_success have:=zgy hgs);refine z_spl hgs (h1:=?_) (h2:=?_)<;>clear hgs<;>intro hg hr<;>try first|contradiction|exfalso;omega))|refine yz ?_|refine zst ?_|refine k_blk_other rfl ?_|(refine zk ?_ ?_<;>intro hc hr<;>try first|contradiction|exfalso;omega))
      all_goals first | (refine z_ret (hv := ?_) (ho := ?_) <;> first | rfl | (simp [go_sem, *]; done) | (simp_all; done) | (simp_all; omega)) | skip
instance (priority := 3000) : Con Try.prog 45 (orS (specOf steps_sat) (specOf stepsA_sat)) := con2 steps_sat stepsA_sat Try.func45
instance (priority := 3000) : Con Try.prog 46 (orS (specOf steps_sat2) (specOf stepsA_sat2)) := con2 steps_sat2 stepsA_sat2 Try.func46
instance : Con Try.prog 46 stepsA_sat2_S := con stepsA_sat2 Try.func46
def K_nextA_sat : Nat → List Nat := fun i => ([[1, 2, 3], [7], [7, 14], [6], [6]] : List (List Nat)).getD i []
attribute [go_sem] K_nextA_sat
def nextA_sat_S : Eng.Spec := fun args av objs => ∃ (r z : Int) (es : List Ed) (v x : Int), (isG r z es = true ∧ rg x) ∧ args = [grA r z es, aI v, aI x] ∧ av = aI (nx es v x) ∧ objs = []
theorem nextA_sat : Sat Try.prog 26 nextA_sat_S := by
  refine sat_of tok okr mixed K_nextA_sat Try.func26 rfl (rs := [.tmp 6]) rfl Try.ntmps26 ?_
  rintro args av objs ⟨r, z, es, v, x, hpre, rfl, rfl, rfl⟩
  refine ⟨by show 3 ≤ 18; decide, ?_⟩
  have hl := stL_len es v x
  have hz := isG_z hpre.1
  repeat' (first|(refine ya ?_;first|(refine yb ?_;first|refine yc ?_)|refine ye ?_)|refine yz ?_|refine zst ?_|refine k_blk_other rfl ?_|(refine zk ?_ ?_<;>intro hc hr<;>try first|contradiction|exfalso;omega))
  · rw [nx_no (by omega)]
    all_goals first | (refine z_ret (hv := ?_) (ho := ?_) <;> first | rfl | (simp [go_sem, *]; done) | (simp_all; done) | (simp_all; omega)) | skip
  · rw [nx_yes (by omega)]
    all_goals first | (refine z_ret (hv := ?_) (ho := ?_) <;> first | rfl | (simp [go_sem, *]; done) | (simp_all; done) | (simp_all; omega)) | skip
instance : Con Try.prog 26 nextA_sat_S := con nextA_sat Try.func26
def K_nextA_sat2 : Nat → List Nat := fun i => ([[1, 2, 3], [7], [7, 14], [6], [6]] : List (List Nat)).getD i []
attribute [go_sem] K_nextA_sat2
def nextA_sat2_S : Eng.Spec := fun args av objs => ∃ (r z : Int) (es : List Ed) (v x : Int), (isG r z es = true ∧ rg x) ∧ args = [grA r z es, aI v, aI x] ∧ av = aI (nx es v x) ∧ objs = []
theorem nextA_sat2 : Sat Try.prog 27 nextA_sat2_S := by
  refine sat_of tok okr mixed K_nextA_sat2 Try.func27 rfl (rs := [.tmp 6]) rfl Try.ntmps27 ?_
  rintro args av objs ⟨r, z, es, v, x, hpre, rfl, rfl, rfl⟩
  refine ⟨by show 3 ≤ 18; decide, ?_⟩
  have hl := stL_len es v x
  have hz := isG_z hpre.1
  repeat' (first|(refine ya ?_;first|(refine yb ?_;first|refine yc ?_)|refine ye ?_)|refine yz ?_|refine zst ?_|refine k_blk_other rfl ?_|(refine zk ?_ ?_<;>intro hc hr<;>try first|contradiction|exfalso;omega))
  · rw [nx_no (by omega)]
    all_goals first | (refine z_ret (hv := ?_) (ho := ?_) <;> first | rfl | (simp [go_sem, *]; done) | (simp_all; done) | (simp_all; omega)) | skip
  · rw [nx_yes (by omega)]
    all_goals first | (refine z_ret (hv := ?_) (ho := ?_) <;> first | rfl | (simp [go_sem, *]; done) | (simp_all; done) | (simp_all; omega)) | skip
instance (priority := 3000) : Con Try.prog 26 (orS (specOf next_sat) (specOf nextA_sat)) := con2 next_sat nextA_sat Try.func26
instance (priority := 3000) : Con Try.prog 27 (orS (specOf next_sat2) (specOf nextA_sat2)) := con2 next_sat2 nextA_sat2 Try.func27
instance : Con Try.prog 27 nextA_sat2_S := con nextA_sat2 Try.func27
end Go.Proofs.Try
namespace Go.Proofs.Try
open Go Go.Eng
set_option linter.unnecessarySimpa false
set_option linter.unusedSimpArgs false
set_option maxHeartbeats 4000000
theorem rdk_0 (es : List Ed) (v : Int) (w : List Int) : rdk es v w 0 = 0 := rfl
theorem vN_0 (es : List Ed) (v : Int) (w : List Int) : vN es v w 0 = v := rfl
theorem vN_s (es : List Ed) (v : Int) (w : List Int) (i : Nat) : vN es v w (i + 1) = nx es (vN es v w i) (ix w i) := rfl
/-- The vertex to which a word leads as far as it can be read. -/
def rdV (es : List Ed) (v : Int) (w : List Int) : Int := vN es v w (rdL es v w)
/-- The walk along a whole word, -1 if there is none. -/
def wkB (r z : Int) (es : List Ed) (v : Int) (w : List Int) : Bool := isF r z es && decide (0 ≤ v ∧ v < z) && decide (rdL es v w = w.length)
def wkV (r z : Int) (es : List Ed) (v : Int) (w : List Int) : Int := if wkB r z es v w = true then rdV es v w else -1
def rlO (r z : Int) (es : List Ed) (v : Int) (w : List Int) : Int := if isF r z es = true ∧ 0 ≤ v ∧ v < z then (rdL es v w : Int) else 0
theorem wkB_no {r z : Int} {es : List Ed} {v : Int} {w : List Int} (h : ¬ (isF r z es = true ∧ 0 ≤ v ∧ v < z)) : wkB r z es v w = false := by
  rw [← Bool.not_eq_true]
  intro h2
  simp only [wkB, Bool.and_eq_true, decide_eq_true_eq] at h2
  exact h h2.1
theorem wkB_yes {r z : Int} {es : List Ed} {v : Int} {w : List Int} (h : isF r z es = true ∧ 0 ≤ v ∧ v < z) : wkB r z es v w = decide (rdL es v w = w.length) := by
  simp [wkB, h]
theorem rdL_lt {es : List Ed} {v : Int} {w : List Int} {i : Nat} (hi : i < w.length) (hI : rdk es v w i = i) (h : nx es (vN es v w i) (ix w i) < 0) : rdL es v w = i ∧ rdV es v w = vN es v w i := by
  have h1 := rdL_stop hi hI h
  exact ⟨h1, by unfold rdV; rw [h1]⟩
theorem rdL_all {es : List Ed} {v : Int} {w : List Int} (hI : rdk es v w w.length = w.length) : rdL es v w = w.length ∧ rdV es v w = vN es v w w.length := by
  have h1 : rdL es v w = w.length := hI
  exact ⟨h1, by unfold rdV; rw [h1]⟩
/-- Whether a list leads from the base to the base. -/
def lpB (es : List Ed) (w : List Int) : Bool := decide (rdL es 0 w = w.length) && decide (rdV es 0 w = 0)
def K_read_sat : Nat → List Nat := fun i => ([[1, 2, 3], [1, 2, 3, 11, 12, 13], [1, 2, 3, 11, 12, 13, 14], [1, 2, 3, 8, 9, 11, 12, 13], [1, 2, 3, 8, 10, 11, 12, 13], [1, 2, 3, 8, 10, 11, 12, 13, 23], [6, 7], [1, 2, 3, 11, 12, 13], [1, 2, 3, 11, 12, 13], [6, 7]] : List (List Nat)).getD i []
attribute [go_sem] K_read_sat
def read_sat_S : Eng.Spec := fun args av objs => ∃ (r z : Int) (es : List Ed) (v : Int) (w : List Int), (isG r z es = true ∧ (w.length ≤ 8388608 ∧ ∀ x ∈ w, rg x)) ∧ args = [grA r z es, aI v, aL w] ∧ av = .tup [aI (rdV es v w), aI (rdL es v w)] ∧ objs = []
theorem read_sat : Sat Try.prog 33 read_sat_S := by
  refine sat_of tok okr mixed K_read_sat Try.func33 rfl (rs := [.tmp 6, .tmp 7]) rfl Try.ntmps33 ?_
  rintro args av objs ⟨r, z, es, v, w, hpre, rfl, rfl, rfl⟩
  refine ⟨by show 3 ≤ 31; decide, ?_⟩
  obtain ⟨hg, hw, hm⟩ := hpre
  repeat' (first|(refine ya ?_;first|(refine yb ?_;first|refine yc ?_)|refine ye ?_)|refine yz ?_|refine zst ?_|refine k_blk_other rfl ?_|(refine zk ?_ ?_<;>intro hc hr<;>try first|contradiction|exfalso;omega))
  refine z_loop (fun i : Nat => [(13, aI i), (1, aI (vN es v w i))]) (fun i : Nat => []) (fun i : Nat => i ≤ w.length ∧ rdk es v w i = i) (fun i : Nat => w.length - i) (0) (h0 := ?_) (henv := ?_) (hobj := ?_) (h := ?_)
  · exact ⟨by omega, rfl⟩
  · simp [go_sem, AVm, CVm, lookS, vN_0]
  · simp [go_sem, OBm, CVm, lookS, All2, vN_0]
  rintro i ⟨hi, hI⟩
  rcases Nat.lt_or_ge i w.length with hlt | hge
  · have hx : isG r z es = true ∧ rg (ix w i) := ⟨hg, hm _ (ix_mem hlt)⟩
    have hs := vN_s es v w i
    repeat' (first|(refine ya ?_;first|(refine yb ?_;first|refine yc ?_)|refine ye ?_)|refine yz ?_|refine zst ?_|refine k_blk_other rfl ?_|(refine zk ?_ ?_<;>intro hc hr<;>try first|contradiction|exfalso;omega))
    · obtain ⟨h1, h2⟩ := rdL_lt hlt hI (by omega)
      rw [h1, h2]
      all_goals first | (refine z_ret (hv := ?_) (ho := ?_) <;> first | rfl | (simp [go_sem, *]; done) | (simp_all; done) | (simp_all; omega)) | skip
    · (refine z_lop (i + 1) (hj := ?_) (hmu := ?_) (henv := ?_) (hobj := ?_); (· exact ⟨by omega, rdk_go hI (by omega)⟩); (· first | omega | (simp only; omega)); (· first | (simp [go_sem, AVm, CVm, lookS, hs, *]; done) | (simp [go_sem, AVm, CVm, lookS, hs, *] <;> (repeat' split) <;> first | omega | (simp_all; done) | (exfalso; omega) | (simp_all; omega))); (· first | (simp [go_sem, OBm, CVm, All2, lookS, hs, *]; done) | (simp [go_sem, OBm, CVm, All2, lookS, hs, *] <;> (repeat' split) <;> first | omega | (simp_all; done) | (exfalso; omega) | (simp_all; omega))))
  · have hii : i = w.length := by omega
    subst hii
    obtain ⟨h1, h2⟩ := rdL_all hI
    rw [h1, h2]
    repeat' (first|(refine ya ?_;first|(refine yb ?_;first|refine yc ?_)|refine ye ?_)|refine yz ?_|refine zst ?_|refine k_blk_other rfl ?_|(refine zk ?_ ?_<;>intro hc hr<;>try first|contradiction|exfalso;omega))
    all_goals first | (refine z_ret (hv := ?_) (ho := ?_) <;> first | rfl | (simp [go_sem, *]; done) | (simp_all; done) | (simp_all; omega)) | skip
instance : Con Try.prog 33 read_sat_S := con read_sat Try.func33
def K_walk_sat : Nat → List Nat := fun i => ([[1, 2, 3], [1, 2, 3, 18], [6, 7], [2, 8, 9], [8, 29], [6, 7], [6, 7]] : List (List Nat)).getD i []
attribute [go_sem] K_walk_sat
def walk_sat_S : Eng.Spec := fun args av objs => ∃ (r z : Int) (es : List Ed) (v : Int) (w : List Int), (es.length ≤ 1048576 ∧ (w.length ≤ 8388608 ∧ ∀ x ∈ w, rg x)) ∧ args = [grA r z es, aI v, aL w] ∧ av = .tup [aI (wkV r z es v w), aB (wkB r z es v w)] ∧ objs = []
theorem walk_sat : Sat Try.prog 6 walk_sat_S := by
  refine sat_of tok okr mixed K_walk_sat Try.func6 rfl (rs := [.tmp 6, .tmp 7]) rfl Try.ntmps6 ?_
  rintro args av objs ⟨r, z, es, v, w, hpre, rfl, rfl, rfl⟩
  refine ⟨by show 3 ≤ 31; decide, ?_⟩
  obtain ⟨he, hw, hm⟩ := hpre
  have h1 := rdL_le es v w
  by_cases hb : isF r z es = true ∧ 0 ≤ v ∧ v < z
  · have hg := isF_g hb.1
    have hz := isG_z hg
    obtain ⟨hb1, hb2, hb3⟩ := hb
    unfold wkV
    rw [wkB_yes ⟨hb1, hb2, hb3⟩]
    repeat' (first|(refine ya ?_;first|(refine yb ?_;first|refine yc ?_)|refine ye ?_)|(refine yg ?_;intro hgs;first|(replace hgs:=zgy hgs;first|(refine yb ?_;first|refine yc ?_)|refine yy hgs ?_;clear hgs)|(refine yn (zgn hgs) ?_;clear hgs)|((fail_if_success have:=zgy hgs);refine z_spl hgs (h1:=?_) (h2:=?_)<;>clear hgs<;>intro hg hr<;>try first|contradiction|exfalso;omega))|refine yz ?_|refine zst ?_|refine k_blk_other rfl ?_|(refine zk ?_ ?_<;>intro hc hr<;>try first|contradiction|exfalso;omega))
    all_goals first | (refine z_ret (hv := ?_) (ho := ?_) <;> first | rfl | (simp [go_sem, *]; done) | (simp_all; done) | (simp_all; omega)) | skip
  · unfold wkV
    rw [wkB_no hb]
    cases hok : isF r z es
    · repeat' (first|(refine ya ?_;first|(refine yb ?_;first|refine yc ?_)|refine ye ?_)|(refine yg ?_;intro hgs;first|(replace hgs:=zgy hgs;first|(refine yb ?_;first|refine yc ?_)|refine yy hgs ?_;clear hgs)|(refine yn (zgn hgs) ?_;clear hgs)|((fail_if_success have:=zgy hgs);refine z_spl hgs (h1:=?_) (h2:=?_)<;>clear hgs<;>intro hg hr<;>try first|contradiction|exfalso;omega))|refine yz ?_|refine zst ?_|refine k_blk_other rfl ?_|(refine zk ?_ ?_<;>intro hc hr<;>try first|contradiction|exfalso;omega))
      all_goals first | (refine z_ret (hv := ?_) (ho := ?_) <;> first | rfl | (simp [go_sem, *]; done) | (simp_all; done) | (simp_all; omega)) | skip
    · have hz := isG_z (isF_g hok)
      have hb2 : ¬ (0 ≤ v ∧ v < z) := fun h => hb ⟨hok, h⟩
      repeat' (first|(refine ya ?_;first|(refine yb ?_;first|refine yc ?_)|refine ye ?_)|(refine yg ?_;intro hgs;first|(replace hgs:=zgy hgs;first|(refine yb ?_;first|refine yc ?_)|refine yy hgs ?_;clear hgs)|(refine yn (zgn hgs) ?_;clear hgs)|((fail_if_success have:=zgy hgs);refine z_spl hgs (h1:=?_) (h2:=?_)<;>clear hgs<;>intro hg hr<;>try first|contradiction|exfalso;omega))|refine yz ?_|refine zst ?_|refine k_blk_other rfl ?_|(refine zk ?_ ?_<;>intro hc hr<;>try first|contradiction|exfalso;omega))
      all_goals first | (refine z_ret (hv := ?_) (ho := ?_) <;> first | rfl | (simp [go_sem, *]; done) | (simp_all; done) | (simp_all; omega)) | skip
instance : Con Try.prog 6 walk_sat_S := con walk_sat Try.func6
def K_walk_sat2 : Nat → List Nat := fun i => ([[1, 2, 3], [1, 2, 3, 19], [6, 7], [1, 2, 3, 8], [1, 2, 3, 8, 23], [1, 2, 3, 8], [1, 2, 3, 8], [1, 2, 3, 8, 34], [6, 7], [6, 7]] : List (List Nat)).getD i []
attribute [go_sem] K_walk_sat2
def walk_sat2_S : Eng.Spec := fun args av objs => ∃ (r z : Int) (es : List Ed) (v : Int) (w : List Int), (es.length ≤ 1048576 ∧ (w.length ≤ 8388608 ∧ ∀ x ∈ w, rg x)) ∧ args = [grA r z es, aI v, aL w] ∧ av = .tup [aI (wkV r z es v w), aB (wkB r z es v w)] ∧ objs = []
theorem walk_sat2 : Sat Try.prog 7 walk_sat2_S := by
  refine sat_of tok okr mixed K_walk_sat2 Try.func7 rfl (rs := [.tmp 6, .tmp 7]) rfl Try.ntmps7 ?_
  rintro args av objs ⟨r, z, es, v, w, hpre, rfl, rfl, rfl⟩
  refine ⟨by show 3 ≤ 36; decide, ?_⟩
  obtain ⟨he, hw, hm⟩ := hpre
  by_cases hb : isF r z es = true ∧ 0 ≤ v ∧ v < z
  · have hg := isF_g hb.1
    have hz := isG_z hg
    obtain ⟨hb1, hb2, hb3⟩ := hb
    unfold wkV
    rw [wkB_yes ⟨hb1, hb2, hb3⟩]
    repeat' (first|(refine ya ?_;first|(refine yb ?_;first|refine yc ?_)|refine ye ?_)|(refine yg ?_;intro hgs;first|(replace hgs:=zgy hgs;first|(refine yb ?_;first|refine yc ?_)|refine yy hgs ?_;clear hgs)|(refine yn (zgn hgs) ?_;clear hgs)|((fail_if_success have:=zgy hgs);refine z_spl hgs (h1:=?_) (h2:=?_)<;>clear hgs<;>intro hg hr<;>try first|contradiction|exfalso;omega))|refine yz ?_|(refine yA ?_;first|(refine yB ?_;first|refine yC ?_)|refine yE ?_)|(refine yG ?_;intro hgs;first|(replace hgs:=zgy hgs;first|(refine yB ?_;first|refine yC ?_)|refine yY hgs ?_;clear hgs)|(refine yN (zgn hgs) ?_;clear hgs)|((fail_if_success have:=zgy hgs);refine z_spll hgs (h1:=?_) (h2:=?_)<;>clear hgs<;>intro hg hr<;>try first|contradiction|exfalso;omega))|refine yZ ?_|refine zst ?_|refine k_blk_other rfl ?_|(refine zk ?_ ?_<;>intro hc hr<;>try first|contradiction|exfalso;omega))
    refine z_loop (fun i : Nat => [(8, aI i), (1, aI (vN es v w i))]) (fun i : Nat => []) (fun i : Nat => i ≤ w.length ∧ rdk es v w i = i) (fun i : Nat => w.length - i) (0) (h0 := ?_) (henv := ?_) (hobj := ?_) (h := ?_)
    · exact ⟨by omega, rfl⟩
    · simp [go_sem, AVm, CVm, lookS, vN_0]
    · simp [go_sem, OBm, CVm, lookS, All2, vN_0]
    rintro i ⟨hi, hI⟩
    rcases Nat.lt_or_ge i w.length with hlt | hge
    · have hx : isG r z es = true ∧ rg (ix w i) := ⟨hg, hm _ (ix_mem hlt)⟩
      have hs := vN_s es v w i
      repeat' (first|(refine ya ?_;first|(refine yb ?_;first|refine yc ?_)|refine ye ?_)|(refine yg ?_;intro hgs;first|(replace hgs:=zgy hgs;first|(refine yb ?_;first|refine yc ?_)|refine yy hgs ?_;clear hgs)|(refine yn (zgn hgs) ?_;clear hgs)|((fail_if_success have:=zgy hgs);refine z_spl hgs (h1:=?_) (h2:=?_)<;>clear hgs<;>intro hg hr<;>try first|contradiction|exfalso;omega))|refine yz ?_|(refine yA ?_;first|(refine yB ?_;first|refine yC ?_)|refine yE ?_)|(refine yG ?_;intro hgs;first|(replace hgs:=zgy hgs;first|(refine yB ?_;first|refine yC ?_)|refine yY hgs ?_;clear hgs)|(refine yN (zgn hgs) ?_;clear hgs)|((fail_if_success have:=zgy hgs);refine z_spll hgs (h1:=?_) (h2:=?_)<;>clear hgs<;>intro hg hr<;>try first|contradiction|exfalso;omega))|refine yZ ?_|refine zst ?_|refine k_blk_other rfl ?_|(refine zk ?_ ?_<;>intro hc hr<;>try first|contradiction|exfalso;omega))
      · obtain ⟨h1, h2⟩ := rdL_lt hlt hI (by omega)
        rw [h1, h2]
        have h3 : ¬ i = w.length := by omega
        all_goals first | (refine z_ret (hv := ?_) (ho := ?_) <;> first | rfl | (simp [go_sem, *]; done) | (simp_all; done) | (simp_all; omega)) | skip
      · (refine z_lop (i + 1) (hj := ?_) (hmu := ?_) (henv := ?_) (hobj := ?_); (· exact ⟨by omega, rdk_go hI (by omega)⟩); (· first | omega | (simp only; omega)); (· first | (simp [go_sem, AVm, CVm, lookS, hs, *]; done) | (simp [go_sem, AVm, CVm, lookS, hs, *] <;> (repeat' split) <;> first | omega | (simp_all; done) | (exfalso; omega) | (simp_all; omega))); (· first | (simp [go_sem, OBm, CVm, All2, lookS, hs, *]; done) | (simp [go_sem, OBm, CVm, All2, lookS, hs, *] <;> (repeat' split) <;> first | omega | (simp_all; done) | (exfalso; omega) | (simp_all; omega))))
    · have hii : i = w.length := by omega
      subst hii
      obtain ⟨h1, h2⟩ := rdL_all hI
      rw [h1, h2]
      repeat' (first|(refine ya ?_;first|(refine yb ?_;first|refine yc ?_)|refine ye ?_)|(refine yg ?_;intro hgs;first|(replace hgs:=zgy hgs;first|(refine yb ?_;first|refine yc ?_)|refine yy hgs ?_;clear hgs)|(refine yn (zgn hgs) ?_;clear hgs)|((fail_if_success have:=zgy hgs);refine z_spl hgs (h1:=?_) (h2:=?_)<;>clear hgs<;>intro hg hr<;>try first|contradiction|exfalso;omega))|refine yz ?_|(refine yA ?_;first|(refine yB ?_;first|refine yC ?_)|refine yE ?_)|(refine yG ?_;intro hgs;first|(replace hgs:=zgy hgs;first|(refine yB ?_;first|refine yC ?_)|refine yY hgs ?_;clear hgs)|(refine yN (zgn hgs) ?_;clear hgs)|((fail_if_success have:=zgy hgs);refine z_spll hgs (h1:=?_) (h2:=?_)<;>clear hgs<;>intro hg hr<;>try first|contradiction|exfalso;omega))|refine yZ ?_|refine zst ?_|refine k_blk_other rfl ?_|(refine zk ?_ ?_<;>intro hc hr<;>try first|contradiction|exfalso;omega))
      all_goals first | (refine z_ret (hv := ?_) (ho := ?_) <;> first | rfl | (simp [go_sem, *]; done) | (simp_all; done) | (simp_all; omega)) | skip
  · unfold wkV
    rw [wkB_no hb]
    cases hok : isF r z es
    · repeat' (first|(refine ya ?_;first|(refine yb ?_;first|refine yc ?_)|refine ye ?_)|(refine yg ?_;intro hgs;first|(replace hgs:=zgy hgs;first|(refine yb ?_;first|refine yc ?_)|refine yy hgs ?_;clear hgs)|(refine yn (zgn hgs) ?_;clear hgs)|((fail_if_success have:=zgy hgs);refine z_spl hgs (h1:=?_) (h2:=?_)<;>clear hgs<;>intro hg hr<;>try first|contradiction|exfalso;omega))|refine yz ?_|(refine yA ?_;first|(refine yB ?_;first|refine yC ?_)|refine yE ?_)|(refine yG ?_;intro hgs;first|(replace hgs:=zgy hgs;first|(refine yB ?_;first|refine yC ?_)|refine yY hgs ?_;clear hgs)|(refine yN (zgn hgs) ?_;clear hgs)|((fail_if_success have:=zgy hgs);refine z_spll hgs (h1:=?_) (h2:=?_)<;>clear hgs<;>intro hg hr<;>try first|contradiction|exfalso;omega))|refine yZ ?_|refine zst ?_|refine k_blk_other rfl ?_|(refine zk ?_ ?_<;>intro hc hr<;>try first|contradiction|exfalso;omega))
      all_goals first | (refine z_ret (hv := ?_) (ho := ?_) <;> first | rfl | (simp [go_sem, *]; done) | (simp_all; done) | (simp_all; omega)) | skip
    · have hz := isG_z (isF_g hok)
      have hb2 : ¬ (0 ≤ v ∧ v < z) := fun h => hb ⟨hok, h⟩
      repeat' (first|(refine ya ?_;first|(refine yb ?_;first|refine yc ?_)|refine ye ?_)|(refine yg ?_;intro hgs;first|(replace hgs:=zgy hgs;first|(refine yb ?_;first|refine yc ?_)|refine yy hgs ?_;clear hgs)|(refine yn (zgn hgs) ?_;clear hgs)|((fail_if_success have:=zgy hgs);refine z_spl hgs (h1:=?_) (h2:=?_)<;>clear hgs<;>intro hg hr<;>try first|contradiction|exfalso;omega))|refine yz ?_|(refine yA ?_;first|(refine yB ?_;first|refine yC ?_)|refine yE ?_)|(refine yG ?_;intro hgs;first|(replace hgs:=zgy hgs;first|(refine yB ?_;first|refine yC ?_)|refine yY hgs ?_;clear hgs)|(refine yN (zgn hgs) ?_;clear hgs)|((fail_if_success have:=zgy hgs);refine z_spll hgs (h1:=?_) (h2:=?_)<;>clear hgs<;>intro hg hr<;>try first|contradiction|exfalso;omega))|refine yZ ?_|refine zst ?_|refine k_blk_other rfl ?_|(refine zk ?_ ?_<;>intro hc hr<;>try first|contradiction|exfalso;omega))
      all_goals first | (refine z_ret (hv := ?_) (ho := ?_) <;> first | rfl | (simp [go_sem, *]; done) | (simp_all; done) | (simp_all; omega)) | skip
instance : Con Try.prog 7 walk_sat2_S := con walk_sat2 Try.func7
def K_readL_sat : Nat → List Nat := fun i => ([[1, 2, 3], [1, 2, 3, 17], [6], [8], [6]] : List (List Nat)).getD i []
attribute [go_sem] K_readL_sat
def readL_sat_S : Eng.Spec := fun args av objs => ∃ (r z : Int) (es : List Ed) (v : Int) (w : List Int), (es.length ≤ 1048576 ∧ (w.length ≤ 8388608 ∧ ∀ x ∈ w, rg x)) ∧ args = [grA r z es, aI v, aL w] ∧ av = aI (rlO r z es v w) ∧ objs = []
theorem readL_sat : Sat Try.prog 10 readL_sat_S := by
  refine sat_of tok okr mixed K_readL_sat Try.func10 rfl (rs := [.tmp 6]) rfl Try.ntmps10 ?_
  rintro args av objs ⟨r, z, es, v, w, hpre, rfl, rfl, rfl⟩
  refine ⟨by show 3 ≤ 26; decide, ?_⟩
  obtain ⟨he, hw, hm⟩ := hpre
  have h1 := rdL_le es v w
  by_cases hb : isF r z es = true ∧ 0 ≤ v ∧ v < z
  · have hg := isF_g hb.1
    have hz := isG_z hg
    unfold rlO
    rw [if_pos hb]
    obtain ⟨hb1, hb2, hb3⟩ := hb
    repeat' (first|(refine ya ?_;first|(refine yb ?_;first|refine yc ?_)|refine ye ?_)|(refine yg ?_;intro hgs;first|(replace hgs:=zgy hgs;first|(refine yb ?_;first|refine yc ?_)|refine yy hgs ?_;clear hgs)|(refine yn (zgn hgs) ?_;clear hgs)|((fail_if_success have:=zgy hgs);refine z_spl hgs (h1:=?_) (h2:=?_)<;>clear hgs<;>intro hg hr<;>try first|contradiction|exfalso;omega))|refine yz ?_|refine zst ?_|refine k_blk_other rfl ?_|(refine zk ?_ ?_<;>intro hc hr<;>try first|contradiction|exfalso;omega))
    all_goals first | (refine z_ret (hv := ?_) (ho := ?_) <;> first | rfl | (simp [go_sem, *]; done) | (simp_all; done) | (simp_all; omega)) | skip
  · unfold rlO
    rw [if_neg hb]
    cases hok : isF r z es
    · repeat' (first|(refine ya ?_;first|(refine yb ?_;first|refine yc ?_)|refine ye ?_)|(refine yg ?_;intro hgs;first|(replace hgs:=zgy hgs;first|(refine yb ?_;first|refine yc ?_)|refine yy hgs ?_;clear hgs)|(refine yn (zgn hgs) ?_;clear hgs)|((fail_if_success have:=zgy hgs);refine z_spl hgs (h1:=?_) (h2:=?_)<;>clear hgs<;>intro hg hr<;>try first|contradiction|exfalso;omega))|refine yz ?_|refine zst ?_|refine k_blk_other rfl ?_|(refine zk ?_ ?_<;>intro hc hr<;>try first|contradiction|exfalso;omega))
      all_goals first | (refine z_ret (hv := ?_) (ho := ?_) <;> first | rfl | (simp [go_sem, *]; done) | (simp_all; done) | (simp_all; omega)) | skip
    · have hz := isG_z (isF_g hok)
      have hb2 : ¬ (0 ≤ v ∧ v < z) := fun h => hb ⟨hok, h⟩
      repeat' (first|(refine ya ?_;first|(refine yb ?_;first|refine yc ?_)|refine ye ?_)|(refine yg ?_;intro hgs;first|(replace hgs:=zgy hgs;first|(refine yb ?_;first|refine yc ?_)|refine yy hgs ?_;clear hgs)|(refine yn (zgn hgs) ?_;clear hgs)|((fail_if_success have:=zgy hgs);refine z_spl hgs (h1:=?_) (h2:=?_)<;>clear hgs<;>intro hg hr<;>try first|contradiction|exfalso;omega))|refine yz ?_|refine zst ?_|refine k_blk_other rfl ?_|(refine zk ?_ ?_<;>intro hc hr<;>try first|contradiction|exfalso;omega))
      all_goals first | (refine z_ret (hv := ?_) (ho := ?_) <;> first | rfl | (simp [go_sem, *]; done) | (simp_all; done) | (simp_all; omega)) | skip
instance : Con Try.prog 10 readL_sat_S := con readL_sat Try.func10
def K_readL_sat2 : Nat → List Nat := fun i => ([[1, 2, 3], [1, 2, 3, 18], [6], [1, 2, 3, 7], [1, 2, 3, 7, 22], [1, 2, 3, 7], [1, 2, 3, 7], [1, 2, 3, 7, 33], [6], [6]] : List (List Nat)).getD i []
attribute [go_sem] K_readL_sat2
def readL_sat2_S : Eng.Spec := fun args av objs => ∃ (r z : Int) (es : List Ed) (v : Int) (w : List Int), (es.length ≤ 1048576 ∧ (w.length ≤ 8388608 ∧ ∀ x ∈ w, rg x)) ∧ args = [grA r z es, aI v, aL w] ∧ av = aI (rlO r z es v w) ∧ objs = []
theorem readL_sat2 : Sat Try.prog 11 readL_sat2_S := by
  refine sat_of tok okr mixed K_readL_sat2 Try.func11 rfl (rs := [.tmp 6]) rfl Try.ntmps11 ?_
  rintro args av objs ⟨r, z, es, v, w, hpre, rfl, rfl, rfl⟩
  refine ⟨by show 3 ≤ 37; decide, ?_⟩
  obtain ⟨he, hw, hm⟩ := hpre
  by_cases hb : isF r z es = true ∧ 0 ≤ v ∧ v < z
  · have hg := isF_g hb.1
    have hz := isG_z hg
    unfold rlO
    rw [if_pos hb]
    obtain ⟨hb1, hb2, hb3⟩ := hb
    repeat' (first|(refine ya ?_;first|(refine yb ?_;first|refine yc ?_)|refine ye ?_)|(refine yg ?_;intro hgs;first|(replace hgs:=zgy hgs;first|(refine yb ?_;first|refine yc ?_)|refine yy hgs ?_;clear hgs)|(refine yn (zgn hgs) ?_;clear hgs)|((fail_if_success have:=zgy hgs);refine z_spl hgs (h1:=?_) (h2:=?_)<;>clear hgs<;>intro hg hr<;>try first|contradiction|exfalso;omega))|refine yz ?_|(refine yA ?_;first|(refine yB ?_;first|refine yC ?_)|refine yE ?_)|(refine yG ?_;intro hgs;first|(replace hgs:=zgy hgs;first|(refine yB ?_;first|refine yC ?_)|refine yY hgs ?_;clear hgs)|(refine yN (zgn hgs) ?_;clear hgs)|((fail_if_success have:=zgy hgs);refine z_spll hgs (h1:=?_) (h2:=?_)<;>clear hgs<;>intro hg hr<;>try first|contradiction|exfalso;omega))|refine yZ ?_|refine zst ?_|refine k_blk_other rfl ?_|(refine zk ?_ ?_<;>intro hc hr<;>try first|contradiction|exfalso;omega))
    refine z_loop (fun i : Nat => [(7, aI i), (1, aI (vN es v w i))]) (fun i : Nat => []) (fun i : Nat => i ≤ w.length ∧ rdk es v w i = i) (fun i : Nat => w.length - i) (0) (h0 := ?_) (henv := ?_) (hobj := ?_) (h := ?_)
    · exact ⟨by omega, rfl⟩
    · simp [go_sem, AVm, CVm, lookS, vN_0]
    · simp [go_sem, OBm, CVm, lookS, All2, vN_0]
    rintro i ⟨hi, hI⟩
    rcases Nat.lt_or_ge i w.length with hlt | hge
    · have hx : isG r z es = true ∧ rg (ix w i) := ⟨hg, hm _ (ix_mem hlt)⟩
      have hs := vN_s es v w i
      repeat' (first|(refine ya ?_;first|(refine yb ?_;first|refine yc ?_)|refine ye ?_)|(refine yg ?_;intro hgs;first|(replace hgs:=zgy hgs;first|(refine yb ?_;first|refine yc ?_)|refine yy hgs ?_;clear hgs)|(refine yn (zgn hgs) ?_;clear hgs)|((fail_if_success have:=zgy hgs);refine z_spl hgs (h1:=?_) (h2:=?_)<;>clear hgs<;>intro hg hr<;>try first|contradiction|exfalso;omega))|refine yz ?_|(refine yA ?_;first|(refine yB ?_;first|refine yC ?_)|refine yE ?_)|(refine yG ?_;intro hgs;first|(replace hgs:=zgy hgs;first|(refine yB ?_;first|refine yC ?_)|refine yY hgs ?_;clear hgs)|(refine yN (zgn hgs) ?_;clear hgs)|((fail_if_success have:=zgy hgs);refine z_spll hgs (h1:=?_) (h2:=?_)<;>clear hgs<;>intro hg hr<;>try first|contradiction|exfalso;omega))|refine yZ ?_|refine zst ?_|refine k_blk_other rfl ?_|(refine zk ?_ ?_<;>intro hc hr<;>try first|contradiction|exfalso;omega))
      · obtain ⟨h1, h2⟩ := rdL_lt hlt hI (by omega)
        rw [h1]
        all_goals first | (refine z_ret (hv := ?_) (ho := ?_) <;> first | rfl | (simp [go_sem, *]; done) | (simp_all; done) | (simp_all; omega)) | skip
      · (refine z_lop (i + 1) (hj := ?_) (hmu := ?_) (henv := ?_) (hobj := ?_); (· exact ⟨by omega, rdk_go hI (by omega)⟩); (· first | omega | (simp only; omega)); (· first | (simp [go_sem, AVm, CVm, lookS, hs, *]; done) | (simp [go_sem, AVm, CVm, lookS, hs, *] <;> (repeat' split) <;> first | omega | (simp_all; done) | (exfalso; omega) | (simp_all; omega))); (· first | (simp [go_sem, OBm, CVm, All2, lookS, hs, *]; done) | (simp [go_sem, OBm, CVm, All2, lookS, hs, *] <;> (repeat' split) <;> first | omega | (simp_all; done) | (exfalso; omega) | (simp_all; omega))))
    · have hii : i = w.length := by omega
      subst hii
      obtain ⟨h1, h2⟩ := rdL_all hI
      rw [h1]
      repeat' (first|(refine ya ?_;first|(refine yb ?_;first|refine yc ?_)|refine ye ?_)|(refine yg ?_;intro hgs;first|(replace hgs:=zgy hgs;first|(refine yb ?_;first|refine yc ?_)|refine yy hgs ?_;clear hgs)|(refine yn (zgn hgs) ?_;clear hgs)|((fail_if_success have:=zgy hgs);refine z_spl hgs (h1:=?_) (h2:=?_)<;>clear hgs<;>intro hg hr<;>try first|contradiction|exfalso;omega))|refine yz ?_|(refine yA ?_;first|(refine yB ?_;first|refine yC ?_)|refine yE ?_)|(refine yG ?_;intro hgs;first|(replace hgs:=zgy hgs;first|(refine yB ?_;first|refine yC ?_)|refine yY hgs ?_;clear hgs)|(refine yN (zgn hgs) ?_;clear hgs)|((fail_if_success have:=zgy hgs);refine z_spll hgs (h1:=?_) (h2:=?_)<;>clear hgs<;>intro hg hr<;>try first|contradiction|exfalso;omega))|refine yZ ?_|refine zst ?_|refine k_blk_other rfl ?_|(refine zk ?_ ?_<;>intro hc hr<;>try first|contradiction|exfalso;omega))
      all_goals first | (refine z_ret (hv := ?_) (ho := ?_) <;> first | rfl | (simp [go_sem, *]; done) | (simp_all; done) | (simp_all; omega)) | skip
  · unfold rlO
    rw [if_neg hb]
    cases hok : isF r z es
    · repeat' (first|(refine ya ?_;first|(refine yb ?_;first|refine yc ?_)|refine ye ?_)|(refine yg ?_;intro hgs;first|(replace hgs:=zgy hgs;first|(refine yb ?_;first|refine yc ?_)|refine yy hgs ?_;clear hgs)|(refine yn (zgn hgs) ?_;clear hgs)|((fail_if_success have:=zgy hgs);refine z_spl hgs (h1:=?_) (h2:=?_)<;>clear hgs<;>intro hg hr<;>try first|contradiction|exfalso;omega))|refine yz ?_|(refine yA ?_;first|(refine yB ?_;first|refine yC ?_)|refine yE ?_)|(refine yG ?_;intro hgs;first|(replace hgs:=zgy hgs;first|(refine yB ?_;first|refine yC ?_)|refine yY hgs ?_;clear hgs)|(refine yN (zgn hgs) ?_;clear hgs)|((fail_if_success have:=zgy hgs);refine z_spll hgs (h1:=?_) (h2:=?_)<;>clear hgs<;>intro hg hr<;>try first|contradiction|exfalso;omega))|refine yZ ?_|refine zst ?_|refine k_blk_other rfl ?_|(refine zk ?_ ?_<;>intro hc hr<;>try first|contradiction|exfalso;omega))
      all_goals first | (refine z_ret (hv := ?_) (ho := ?_) <;> first | rfl | (simp [go_sem, *]; done) | (simp_all; done) | (simp_all; omega)) | skip
    · have hz := isG_z (isF_g hok)
      have hb2 : ¬ (0 ≤ v ∧ v < z) := fun h => hb ⟨hok, h⟩
      repeat' (first|(refine ya ?_;first|(refine yb ?_;first|refine yc ?_)|refine ye ?_)|(refine yg ?_;intro hgs;first|(replace hgs:=zgy hgs;first|(refine yb ?_;first|refine yc ?_)|refine yy hgs ?_;clear hgs)|(refine yn (zgn hgs) ?_;clear hgs)|((fail_if_success have:=zgy hgs);refine z_spl hgs (h1:=?_) (h2:=?_)<;>clear hgs<;>intro hg hr<;>try first|contradiction|exfalso;omega))|refine yz ?_|(refine yA ?_;first|(refine yB ?_;first|refine yC ?_)|refine yE ?_)|(refine yG ?_;intro hgs;first|(replace hgs:=zgy hgs;first|(refine yB ?_;first|refine yC ?_)|refine yY hgs ?_;clear hgs)|(refine yN (zgn hgs) ?_;clear hgs)|((fail_if_success have:=zgy hgs);refine z_spll hgs (h1:=?_) (h2:=?_)<;>clear hgs<;>intro hg hr<;>try first|contradiction|exfalso;omega))|refine yZ ?_|refine zst ?_|refine k_blk_other rfl ?_|(refine zk ?_ ?_<;>intro hc hr<;>try first|contradiction|exfalso;omega))
      all_goals first | (refine z_ret (hv := ?_) (ho := ?_) <;> first | rfl | (simp [go_sem, *]; done) | (simp_all; done) | (simp_all; omega)) | skip
theorem red_rg {w : List Int} (h : ∀ x ∈ w, rg x) : ∀ x ∈ red w, rg x := fun x hx => h x (red_mem hx)
/-- Membership. -/
noncomputable def ctB (r z : Int) (es : List Ed) (w : List Int) : Bool := isC r z es && lpB es (red w)
instance : Con Try.prog 11 readL_sat2_S := con readL_sat2 Try.func11
end Go.Proofs.Try
