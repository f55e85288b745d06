import Derived.Test.YtfapjflogjblaaaGreatX
import Derived.Test.YtfapjflogjblaaaGreatW
set_option maxHeartbeats 16000000
set_option maxRecDepth 20000
set_option linter.unusedVariables false
set_option linter.unusedSimpArgs false
set_option linter.unnecessarySimpa false
namespace Go.Proofs.Tryz
open Go Go.Eng
theorem tg_big {v x : Int} {e : Ed} (h : x ≤ -1000001) (h2 : e.2.1 ≤ 3) : tg v x e = [] := tg0 (by omega) (by omega)
@[go_sem] def K_stepsA_sat (i : Nat) : List Nat := ([[1,2,3],[1,2,3,7],[1,2,7,12,13,14],[1,2,7,12,13,14,15],[1,2,7,9,12,13,14],[1,2,7,9,12,13,14,18],[1,2,7,12,13,14],[1,2,7,9,12,13,14,38],[1,2,7,12,13,14],[1,2,7,12,13,14],[7],[6]]).getD i []
def stepsA_sat_S : Eng.Spec := fun args av objs => ∃ (r z : Int) (es : List Ed) (v x : Int), (isG r z es = true ∧ rg x) ∧ args = [grA r z es, aI v, aI x] ∧ av = aR 0 ∧ objs = [oL 3 (stL es v x)]
theorem stepsA_sat : Sat Tryz.prog 116 stepsA_sat_S := by
  refine sat_of tok okr mixed K_stepsA_sat Tryz.func116 rfl (rs := [.tmp 6]) rfl Tryz.ntmps116 ?_
  rintro args av objs ⟨r, z, es, v, x, hpre, rfl, rfl, rfl⟩
  refine ⟨by show 3 ≤ 68; decide, ?_⟩
  obtain ⟨hg, hx⟩ := hpre
  have hz := isG_z hg
  unfold rg at hx
  repeat' (first|(refine ya ?_;first|(refine yb ?_;first|refine yx ?_|refine yv ?_)|refine ye ?_)|(refine yg ?_;intro hq;first|(replace hq:=zgy hq;first|(refine yb ?_;first|refine yx ?_|refine yv ?_)|refine yy hq ?_;clear hq)|(refine yn (zgn hq) ?_;clear hq)|((fail_if_success have:=zgy hq);refine zs hq ?_ ?_<;>clear hq<;>intro hg hr<;>try exact zx))|refine yz ?_|refine zst ?_|refine zo ?_|(refine zk ?_ ?_<;>intro hc hr<;>try exact zx))
  refine z_loop (fun i : Nat => [(14, aI i)]) (fun i : Nat => [.obj 7 (oL 3 (stN es v x i))]) (fun i : Nat => i ≤ es.length) (fun i : Nat => es.length - i) (0) (h0 := ?_) (henv := ?_) (hobj := ?_) (h := ?_)
  · omega
  · simp [go_sem, AVm, CVm, lookS, stN]
  · simp [go_sem, OBm, CVm, lookS, All2, stN]
  intro i hi
  have hl := stN_len es v x i
  rcases Nat.lt_or_ge i es.length with hlt | hge
  · have hb := isG_at hg hlt
    by_cases hm : x = -9223372036854775808
    · have ht : tg v x (ed es i) = [] := tg_big (by omega) (by omega)
      have hs : stN es v x (i + 1) = stN es v x i := by rw [stN, ht, List.append_nil]
      repeat' (first|(refine ya ?_;first|(refine yb ?_;first|refine yx ?_|refine yv ?_)|refine ye ?_)|(refine yg ?_;intro hq;first|(replace hq:=zgy hq;first|(refine yb ?_;first|refine yx ?_|refine yv ?_)|refine yy hq ?_;clear hq)|(refine yn (zgn hq) ?_;clear hq)|((fail_if_success have:=zgy hq);refine zs hq ?_ ?_<;>clear hq<;>intro hg hr<;>try exact zx))|refine yz ?_|refine zst ?_|refine zo ?_|(refine zk ?_ ?_<;>intro hc hr<;>try exact zx))
      all_goals (refine zm (i + 1) ?_ ?_ <;> simp [go_sem, AVm, OBm, CVm, All2, lookS, hs, *] <;> exact zt)
    · repeat' (first|(refine ya ?_;first|(refine yb ?_;first|refine yx ?_|refine yv ?_)|refine ye ?_)|(refine yg ?_;intro hq;first|(replace hq:=zgy hq;first|(refine yb ?_;first|refine yx ?_|refine yv ?_)|refine yy hq ?_;clear hq)|(refine yn (zgn hq) ?_;clear hq)|((fail_if_success have:=zgy hq);refine zs hq ?_ ?_<;>clear hq<;>intro hg hr<;>try exact zx))|refine yz ?_|refine zst ?_|refine zo ?_|(refine zk ?_ ?_<;>intro hc hr<;>try exact zx))
      all_goals first
        | (have ht : tg v x (ed es i) = [(ed es i).2.2] := tgP (by omega)
           (refine zm (i + 1) ?_ ?_ <;> simp [go_sem, AVm, OBm, CVm, All2, lookS, stN, nI_snoc, *] <;> exact zt))
        | (have ht : tg v x (ed es i) = [(ed es i).1] := tgN (by omega)
           (refine zm (i + 1) ?_ ?_ <;> simp [go_sem, AVm, OBm, CVm, All2, lookS, stN, nI_snoc, *] <;> exact zt))
        | (have ht : tg v x (ed es i) = [] := tg0 (by omega) (by omega)
           (refine zm (i + 1) ?_ ?_ <;> simp [go_sem, AVm, OBm, CVm, All2, lookS, stN, nI_snoc, *] <;> exact zt))
  · have hii : i = es.length := by omega
    subst hii
    have hl3 := srtI_len (stN es v x es.length)
    repeat' (first|(refine ya ?_;first|(refine yb ?_;first|refine yx ?_|refine yv ?_)|refine ye ?_)|(refine yg ?_;intro hq;first|(replace hq:=zgy hq;first|(refine yb ?_;first|refine yx ?_|refine yv ?_)|refine yy hq ?_;clear hq)|(refine yn (zgn hq) ?_;clear hq)|((fail_if_success have:=zgy hq);refine zs hq ?_ ?_<;>clear hq<;>intro hg hr<;>try exact zx))|refine yz ?_|refine zst ?_|refine zo ?_|(refine zk ?_ ?_<;>intro hc hr<;>try exact zx))
    all_goals simp only [srtI_cpt]
    all_goals try exact zv
instance : Con Tryz.prog 116 stepsA_sat_S := con stepsA_sat Tryz.func116
@[go_sem] def K_stepsA_sat2 (i : Nat) : List Nat := ([[1,2,3],[1,2,3,7],[1,2,3,7,8],[1,2,3,7,8,15],[1,2,3,7,8],[1,2,3,7,8,9],[1,2,3,7,8,9,36],[1,2,3,7,8,9],[1,2,3,7,8,9,55],[1,2,3,7,8],[6]]).getD i []
def stepsA_sat2_S : Eng.Spec := fun args av objs => ∃ (r z : Int) (es : List Ed) (v x : Int), (isG r z es = true ∧ rg x) ∧ args = [grA r z es, aI v, aI x] ∧ av = aR 0 ∧ objs = [oL 3 (stL es v x)]
theorem stepsA_sat2 : Sat Tryz.prog 117 stepsA_sat2_S := by
  refine sat_of tok okr mixed K_stepsA_sat2 Tryz.func117 rfl (rs := [.tmp 6]) rfl Tryz.ntmps117 ?_
  rintro args av objs ⟨r, z, es, v, x, hpre, rfl, rfl, rfl⟩
  refine ⟨by show 3 ≤ 61; decide, ?_⟩
  obtain ⟨hg, hx⟩ := hpre
  have hz := isG_z hg
  unfold rg at hx
  by_cases hm : x = -9223372036854775808
  · have hw : w64 9223372036854775808 = -9223372036854775808 := by decide
    repeat' (first|(refine ya ?_;first|refine yc ?_|refine ye ?_)|(refine yg ?_;intro hq;first|(replace hq:=zgy hq;first|refine yc ?_|refine yy hq ?_;clear hq)|(refine yn (zgn hq) ?_;clear hq)|((fail_if_success have:=zgy hq);refine zs hq ?_ ?_<;>clear hq<;>intro hg hr<;>try exact zx))|refine yz ?_|refine zst ?_|refine zo ?_|(refine zk ?_ ?_<;>intro hc hr<;>try exact zx))
    refine z_loop (fun i : Nat => [(8, aI i)]) (fun i : Nat => [.obj 7 (oL 3 (nI (stN es v x i)))]) (fun i : Nat => i ≤ es.length) (fun i : Nat => es.length - i) (0) (h0 := ?_) (henv := ?_) (hobj := ?_) (h := ?_)
    · omega
    · simp [go_sem, AVm, CVm, lookS, stN, nI_nil]
    · simp [go_sem, OBm, CVm, lookS, All2, stN, nI_nil]
    intro i hi
    have hl := stN_len es v x i
    have hl2 := nI_len (stN es v x i)
    rcases Nat.lt_or_ge i es.length with hlt | hge
    · have hb := isG_at hg hlt
      have ht : tg v x (ed es i) = [] := tg_big (by omega) (by omega)
      have hs : stN es v x (i + 1) = stN es v x i := by rw [stN, ht, List.append_nil]
      repeat' (first|(refine ya ?_;first|refine yc ?_|refine ye ?_)|(refine yg ?_;intro hq;first|(replace hq:=zgy hq;first|refine yc ?_|refine yy hq ?_;clear hq)|(refine yn (zgn hq) ?_;clear hq)|((fail_if_success have:=zgy hq);refine zs hq ?_ ?_<;>clear hq<;>intro hg hr<;>try exact zx))|refine yz ?_|refine zst ?_|refine zo ?_|(refine zk ?_ ?_<;>intro hc hr<;>try exact zx))
      all_goals (refine zm (i + 1) ?_ ?_ <;> simp [go_sem, AVm, OBm, CVm, All2, lookS, hs, *] <;> exact zt)
    · have hii : i = es.length := by omega
      subst hii
      repeat' (first|(refine ya ?_;first|refine yc ?_|refine ye ?_)|(refine yg ?_;intro hq;first|(replace hq:=zgy hq;first|refine yc ?_|refine yy hq ?_;clear hq)|(refine yn (zgn hq) ?_;clear hq)|((fail_if_success have:=zgy hq);refine zs hq ?_ ?_<;>clear hq<;>intro hg hr<;>try exact zx))|refine yz ?_|refine zst ?_|refine zo ?_|(refine zk ?_ ?_<;>intro hc hr<;>try exact zx))
      all_goals try exact zv
  · have hw : w64 (-x) = -x := w64Id ⟨by omega, by omega⟩
    repeat' (first|(refine ya ?_;first|refine yc ?_|refine ye ?_)|(refine yg ?_;intro hq;first|(replace hq:=zgy hq;first|refine yc ?_|refine yy hq ?_;clear hq)|(refine yn (zgn hq) ?_;clear hq)|((fail_if_success have:=zgy hq);refine zs hq ?_ ?_<;>clear hq<;>intro hg hr<;>try exact zx))|refine yz ?_|refine zst ?_|refine zo ?_|(refine zk ?_ ?_<;>intro hc hr<;>try exact zx))
    refine z_loop (fun i : Nat => [(8, aI i)]) (fun i : Nat => [.obj 7 (oL 3 (nI (stN es v x i)))]) (fun i : Nat => i ≤ es.length) (fun i : Nat => es.length - i) (0) (h0 := ?_) (henv := ?_) (hobj := ?_) (h := ?_)
    · omega
    · simp [go_sem, AVm, CVm, lookS, stN, nI_nil]
    · simp [go_sem, OBm, CVm, lookS, All2, stN, nI_nil]
    intro i hi
    have hl := stN_len es v x i
    have hl2 := nI_len (stN es v x i)
    rcases Nat.lt_or_ge i es.length with hlt | hge
    · have hb := isG_at hg hlt
      repeat' (first|(refine ya ?_;first|refine yc ?_|refine ye ?_)|(refine yg ?_;intro hq;first|(replace hq:=zgy hq;first|refine yc ?_|refine yy hq ?_;clear hq)|(refine yn (zgn hq) ?_;clear hq)|((fail_if_success have:=zgy hq);refine zs hq ?_ ?_<;>clear hq<;>intro hg hr<;>try exact zx))|refine yz ?_|refine zst ?_|refine zo ?_|(refine zk ?_ ?_<;>intro hc hr<;>try exact zx))
      all_goals first
        | (have ht : tg v x (ed es i) = [(ed es i).2.2] := tgP (by omega)
           (refine zm (i + 1) ?_ ?_ <;> simp [go_sem, AVm, OBm, CVm, All2, lookS, stN, nI_snoc, *] <;> exact zt))
        | (have ht : tg v x (ed es i) = [(ed es i).1] := tgN (by omega)
           (refine zm (i + 1) ?_ ?_ <;> simp [go_sem, AVm, OBm, CVm, All2, lookS, stN, nI_snoc, *] <;> exact zt))
        | (have ht : tg v x (ed es i) = [] := tg0 (by omega) (by omega)
           (refine zm (i + 1) ?_ ?_ <;> simp [go_sem, AVm, OBm, CVm, All2, lookS, stN, nI_snoc, *] <;> exact zt))
    · have hii : i = es.length := by omega
      subst hii
      repeat' (first|(refine ya ?_;first|refine yc ?_|refine ye ?_)|(refine yg ?_;intro hq;first|(replace hq:=zgy hq;first|refine yc ?_|refine yy hq ?_;clear hq)|(refine yn (zgn hq) ?_;clear hq)|((fail_if_success have:=zgy hq);refine zs hq ?_ ?_<;>clear hq<;>intro hg hr<;>try exact zx))|refine yz ?_|refine zst ?_|refine zo ?_|(refine zk ?_ ?_<;>intro hc hr<;>try exact zx))
      all_goals try exact zv
instance (priority := 3000) : Con Tryz.prog 116 (orS (specOf steps_sat) (specOf stepsA_sat)) := con2 steps_sat stepsA_sat Tryz.func116
instance (priority := 3000) : Con Tryz.prog 117 (orS (specOf steps_sat2) (specOf stepsA_sat2)) := con2 steps_sat2 stepsA_sat2 Tryz.func117
instance : Con Tryz.prog 117 stepsA_sat2_S := con stepsA_sat2 Tryz.func117
@[go_sem] def K_nextA_sat (i : Nat) : List Nat := ([[1,2,3],[7],[7,14],[6],[6]]).getD i []
def nextA_sat_S : Eng.Spec := fun args av objs => ∃ (r z : Int) (es : List Ed) (v x : Int), (isG r z es = true ∧ rg x) ∧ args = [grA r z es, aI v, aI x] ∧ av = aI (nx es v x) ∧ objs = []
theorem nextA_sat : Sat Tryz.prog 74 nextA_sat_S := by
  refine sat_of tok okr mixed K_nextA_sat Tryz.func74 rfl (rs := [.tmp 6]) rfl Tryz.ntmps74 ?_
  rintro args av objs ⟨r, z, es, v, x, hpre, rfl, rfl, rfl⟩
  refine ⟨by show 3 ≤ 18; decide, ?_⟩
  have hl := stL_len es v x
  have hz := isG_z hpre.1
  repeat' (first|(refine ya ?_;first|refine yc ?_|refine ye ?_)|refine yz ?_|refine zst ?_|refine zo ?_|(refine zk ?_ ?_<;>intro hc hr<;>try exact zx))
  · rw [nx_no (by omega)]
    all_goals try exact zv
  · rw [nx_yes (by omega)]
    all_goals try exact zv
instance : Con Tryz.prog 74 nextA_sat_S := con nextA_sat Tryz.func74
@[go_sem] def K_nextA_sat2 (i : Nat) : List Nat := ([[1,2,3],[7],[7,14],[6],[6]]).getD i []
def nextA_sat2_S : Eng.Spec := fun args av objs => ∃ (r z : Int) (es : List Ed) (v x : Int), (isG r z es = true ∧ rg x) ∧ args = [grA r z es, aI v, aI x] ∧ av = aI (nx es v x) ∧ objs = []
theorem nextA_sat2 : Sat Tryz.prog 77 nextA_sat2_S := by
  refine sat_of tok okr mixed K_nextA_sat2 Tryz.func77 rfl (rs := [.tmp 6]) rfl Tryz.ntmps77 ?_
  rintro args av objs ⟨r, z, es, v, x, hpre, rfl, rfl, rfl⟩
  refine ⟨by show 3 ≤ 18; decide, ?_⟩
  have hl := stL_len es v x
  have hz := isG_z hpre.1
  repeat' (first|(refine ya ?_;first|refine yc ?_|refine ye ?_)|refine yz ?_|refine zst ?_|refine zo ?_|(refine zk ?_ ?_<;>intro hc hr<;>try exact zx))
  · rw [nx_no (by omega)]
    all_goals try exact zv
  · rw [nx_yes (by omega)]
    all_goals try exact zv
instance (priority := 3000) : Con Tryz.prog 74 (orS (specOf next_sat) (specOf nextA_sat)) := con2 next_sat nextA_sat Tryz.func74
instance (priority := 3000) : Con Tryz.prog 77 (orS (specOf next_sat2) (specOf nextA_sat2)) := con2 next_sat2 nextA_sat2 Tryz.func77
instance : Con Tryz.prog 77 nextA_sat2_S := con nextA_sat2 Tryz.func77
end Go.Proofs.Tryz
namespace Go.Proofs.Tryz
open Go Go.Eng
theorem vN_0 (es : List Ed) (v : Int) (w : List Int) : vN es v w 0 = v := rfl
theorem vN_s (es : List Ed) (v : Int) (w : List Int) (i : Nat) : vN es v w (i + 1) = nx es (vN es v w i) (ix w i) := rfl
def rdV (es : List Ed) (v : Int) (w : List Int) : Int := vN es v w (rdL es v w)
def wkB (r z : Int) (es : List Ed) (v : Int) (w : List Int) : Bool := isF r z es && decide (0 ≤ v ∧ v < z) && decide (rdL es v w = w.length)
def wkV (r z : Int) (es : List Ed) (v : Int) (w : List Int) : Int := if wkB r z es v w = true then rdV es v w else -1
theorem wkB_no {r z : Int} {es : List Ed} {v : Int} {w : List Int} (h : ¬ (isF r z es = true ∧ 0 ≤ v ∧ v < z)) : wkB r z es v w = false := by
  rw [← Bool.not_eq_true]
  intro h2
  simp only [wkB, Bool.and_eq_true, decide_eq_true_eq] at h2
  exact h h2.1
theorem wkB_yes {r z : Int} {es : List Ed} {v : Int} {w : List Int} (h : isF r z es = true ∧ 0 ≤ v ∧ v < z) : wkB r z es v w = decide (rdL es v w = w.length) := by
  simp [wkB, h]
theorem rdL_lt {es : List Ed} {v : Int} {w : List Int} {i : Nat} (hi : i < w.length) (hI : rdk es v w i = i) (h : nx es (vN es v w i) (ix w i) < 0) : rdL es v w = i ∧ rdV es v w = vN es v w i := by
  have h1 := rdL_stop hi hI h
  exact ⟨h1, by unfold rdV; rw [h1]⟩
theorem rdL_all {es : List Ed} {v : Int} {w : List Int} (hI : rdk es v w w.length = w.length) : rdL es v w = w.length ∧ rdV es v w = vN es v w w.length := by
  have h1 : rdL es v w = w.length := hI
  exact ⟨h1, by unfold rdV; rw [h1]⟩
def lpB (es : List Ed) (w : List Int) : Bool := decide (rdL es 0 w = w.length) && decide (rdV es 0 w = 0)
@[go_sem] def K_read_sat (i : Nat) : List Nat := ([[1,2,3],[1,2,3,11,12,13],[1,2,3,11,12,13,14],[1,2,3,8,9,11,12,13],[1,2,3,8,10,11,12,13],[1,2,3,8,10,11,12,13,23],[6,7],[1,2,3,11,12,13],[1,2,3,11,12,13],[6,7]]).getD i []

def read_sat_S : Eng.Spec := fun args av objs => ∃ (r z : Int) (es : List Ed) (v : Int) (w : List Int), (isG r z es = true ∧ (w.length ≤ 8388608 ∧ ∀ x ∈ w, rg x)) ∧ args = [grA r z es, aI v, aL w] ∧ av = .tup [aI (rdV es v w), aI (rdL es v w)] ∧ objs = []
theorem read_sat : Sat Tryz.prog 112 read_sat_S := by
  refine sat_of tok okr mixed K_read_sat Tryz.func112 rfl (rs := [.tmp 6, .tmp 7]) rfl Tryz.ntmps112 ?_
  rintro args av objs ⟨r, z, es, v, w, hpre, rfl, rfl, rfl⟩
  refine ⟨by show 3 ≤ 31; decide, ?_⟩
  obtain ⟨hg, hw, hm⟩ := hpre
  repeat' (first|(refine ya ?_;first|refine yc ?_|refine ye ?_)|refine yz ?_|refine zst ?_|refine zo ?_|(refine zk ?_ ?_<;>intro hc hr<;>try exact zx))
  refine z_loop (fun i : Nat => [(13, aI i), (1, aI (vN es v w i))]) (fun i : Nat => []) (fun i : Nat => i ≤ w.length ∧ rdk es v w i = i) (fun i : Nat => w.length - i) (0) (h0 := ?_) (henv := ?_) (hobj := ?_) (h := ?_)
  · exact ⟨by omega, rfl⟩
  · simp [go_sem, AVm, CVm, lookS, vN_0]
  · simp [go_sem, OBm, CVm, lookS, All2, vN_0]
  rintro i ⟨hi, hI⟩
  rcases Nat.lt_or_ge i w.length with hlt | hge
  · have hx : isG r z es = true ∧ rg (ix w i) := ⟨hg, hm _ (ix_mem hlt)⟩
    have hs := vN_s es v w i
    repeat' (first|(refine ya ?_;first|refine yc ?_|refine ye ?_)|refine yz ?_|refine zst ?_|refine zo ?_|(refine zk ?_ ?_<;>intro hc hr<;>try exact zx))
    · obtain ⟨h1, h2⟩ := rdL_lt hlt hI (by omega)
      rw [h1, h2]
      all_goals try exact zv
    · (refine z_lop (i + 1) (hj := ?_) (hmu := ?_) (henv := ?_) (hobj := ?_); (· exact ⟨by omega, rdk_go hI (by omega)⟩); (· first | omega | (simp only; omega)); (· first | (simp [go_sem, AVm, CVm, lookS, hs, *]; done) | (simp [go_sem, AVm, CVm, lookS, hs, *] <;> (repeat' split) <;> first | omega | (simp_all; done) | (exfalso; omega) | (simp_all; omega))); (· first | (simp [go_sem, OBm, CVm, All2, lookS, hs, *]; done) | (simp [go_sem, OBm, CVm, All2, lookS, hs, *] <;> (repeat' split) <;> first | omega | (simp_all; done) | (exfalso; omega) | (simp_all; omega))))
  · have hii : i = w.length := by omega
    subst hii
    obtain ⟨h1, h2⟩ := rdL_all hI
    rw [h1, h2]
    repeat' (first|(refine ya ?_;first|refine yc ?_|refine ye ?_)|refine yz ?_|refine zst ?_|refine zo ?_|(refine zk ?_ ?_<;>intro hc hr<;>try exact zx))
    all_goals try exact zv
instance : Con Tryz.prog 112 read_sat_S := con read_sat Tryz.func112
@[go_sem] def K_loops_sat (i : Nat) : List Nat := ([[1,2],[1,5,6],[4]]).getD i []

def loops_sat_S : Eng.Spec := fun args av objs => ∃ (r z : Int) (es : List Ed) (w : List Int), (isG r z es = true ∧ (w.length ≤ 8388608 ∧ ∀ x ∈ w, rg x)) ∧ args = [grA r z es, aL w] ∧ av = aB (lpB es w) ∧ objs = []
theorem loops_sat : Sat Tryz.prog 67 loops_sat_S := by
  refine sat_of tok okr mixed K_loops_sat Tryz.func67 rfl (rs := [.tmp 4]) rfl Tryz.ntmps67 ?_
  rintro args av objs ⟨r, z, es, w, hpre, rfl, rfl, rfl⟩
  refine ⟨by show 2 ≤ 21; decide, ?_⟩
  have h1 := rdL_le es 0 w
  by_cases hr : rdL es 0 w = w.length
  · have hl : lpB es w = decide (rdV es 0 w = 0) := by simp [lpB, hr]
    rw [hl]
    repeat' (first|(refine ya ?_;first|refine yc ?_|refine ye ?_)|(refine yg ?_;intro hq;first|(replace hq:=zgy hq;first|refine yc ?_|refine yy hq ?_;clear hq)|(refine yn (zgn hq) ?_;clear hq)|((fail_if_success have:=zgy hq);refine zs hq ?_ ?_<;>clear hq<;>intro hg hr<;>try exact zx))|refine yz ?_|refine zst ?_|refine zo ?_|(refine zk ?_ ?_<;>intro hc hr<;>try exact zx))
    all_goals refine z_ret (hv := ?_) (ho := ?_)
    all_goals first | rfl | (simp [hr, Bool.beq_eq_decide_eq]; done)
  · have hl : lpB es w = false := by simp [lpB, hr]
    rw [hl]
    repeat' (first|(refine ya ?_;first|refine yc ?_|refine ye ?_)|(refine yg ?_;intro hq;first|(replace hq:=zgy hq;first|refine yc ?_|refine yy hq ?_;clear hq)|(refine yn (zgn hq) ?_;clear hq)|((fail_if_success have:=zgy hq);refine zs hq ?_ ?_<;>clear hq<;>intro hg hr<;>try exact zx))|refine yz ?_|refine zst ?_|refine zo ?_|(refine zk ?_ ?_<;>intro hc hr<;>try exact zx))
    all_goals try exact zv
instance : Con Tryz.prog 67 loops_sat_S := con loops_sat Tryz.func67
@[go_sem] def K_walk_sat2 (i : Nat) : List Nat := ([[1,2,3],[1,2,3,19],[6,7],[1,2,3,8],[1,2,3,8,23],[1,2,3,8],[1,2,3,8],[1,2,3,8,34],[6,7],[6,7]]).getD i []

def walk_sat2_S : Eng.Spec := fun args av objs => ∃ (r z : Int) (es : List Ed) (v : Int) (w : List Int), (es.length ≤ 1048576 ∧ (w.length ≤ 8388608 ∧ ∀ x ∈ w, rg x)) ∧ args = [grA r z es, aI v, aL w] ∧ av = .tup [aI (wkV r z es v w), aB (wkB r z es v w)] ∧ objs = []
theorem walk_sat2 : Sat Tryz.prog 88 walk_sat2_S := by
  refine sat_of tok okr mixed K_walk_sat2 Tryz.func88 rfl (rs := [.tmp 6, .tmp 7]) rfl Tryz.ntmps88 ?_
  rintro args av objs ⟨r, z, es, v, w, hpre, rfl, rfl, rfl⟩
  refine ⟨by show 3 ≤ 36; decide, ?_⟩
  obtain ⟨he, hw, hm⟩ := hpre
  by_cases hb : isF r z es = true ∧ 0 ≤ v ∧ v < z
  · have hg := isF_g hb.1
    have hz := isG_z hg
    obtain ⟨hb1, hb2, hb3⟩ := hb
    unfold wkV
    rw [wkB_yes ⟨hb1, hb2, hb3⟩]
    repeat' (first|(refine ya ?_;first|refine yc ?_|refine ye ?_)|((first|refine yg ?_|refine yG ?_);intro hq;first|(replace hq:=zgy hq;first|refine yc ?_|refine yC ?_|refine yy hq ?_|refine yY hq ?_;clear hq)|((first|refine yn (zgn hq) ?_|refine yN (zgn hq) ?_);clear hq)|((fail_if_success have:=zgy hq);(first|refine zs hq ?_ ?_|refine zS hq ?_ ?_)<;>clear hq<;>intro hg hr<;>try exact zx))|refine yz ?_|(refine yA ?_;first|refine yC ?_|refine yE ?_)|refine yZ ?_|refine zst ?_|refine zo ?_|(refine zk ?_ ?_<;>intro hc hr<;>try exact zx))
    refine z_loop (fun i : Nat => [(8, aI i), (1, aI (vN es v w i))]) (fun i : Nat => []) (fun i : Nat => i ≤ w.length ∧ rdk es v w i = i) (fun i : Nat => w.length - i) (0) (h0 := ?_) (henv := ?_) (hobj := ?_) (h := ?_)
    · exact ⟨by omega, rfl⟩
    · simp [go_sem, AVm, CVm, lookS, vN_0]
    · simp [go_sem, OBm, CVm, lookS, All2, vN_0]
    rintro i ⟨hi, hI⟩
    rcases Nat.lt_or_ge i w.length with hlt | hge
    · have hx : isG r z es = true ∧ rg (ix w i) := ⟨hg, hm _ (ix_mem hlt)⟩
      have hs := vN_s es v w i
      repeat' (first|(refine ya ?_;first|refine yc ?_|refine ye ?_)|((first|refine yg ?_|refine yG ?_);intro hq;first|(replace hq:=zgy hq;first|refine yc ?_|refine yC ?_|refine yy hq ?_|refine yY hq ?_;clear hq)|((first|refine yn (zgn hq) ?_|refine yN (zgn hq) ?_);clear hq)|((fail_if_success have:=zgy hq);(first|refine zs hq ?_ ?_|refine zS hq ?_ ?_)<;>clear hq<;>intro hg hr<;>try exact zx))|refine yz ?_|(refine yA ?_;first|refine yC ?_|refine yE ?_)|refine yZ ?_|refine zst ?_|refine zo ?_|(refine zk ?_ ?_<;>intro hc hr<;>try exact zx))
      · obtain ⟨h1, h2⟩ := rdL_lt hlt hI (by omega)
        rw [h1, h2]
        have h3 : ¬ i = w.length := by omega
        all_goals try exact zv
      · (refine z_lop (i + 1) (hj := ?_) (hmu := ?_) (henv := ?_) (hobj := ?_); (· exact ⟨by omega, rdk_go hI (by omega)⟩); (· first | omega | (simp only; omega)); (· first | (simp [go_sem, AVm, CVm, lookS, hs, *]; done) | (simp [go_sem, AVm, CVm, lookS, hs, *] <;> (repeat' split) <;> first | omega | (simp_all; done) | (exfalso; omega) | (simp_all; omega))); (· first | (simp [go_sem, OBm, CVm, All2, lookS, hs, *]; done) | (simp [go_sem, OBm, CVm, All2, lookS, hs, *] <;> (repeat' split) <;> first | omega | (simp_all; done) | (exfalso; omega) | (simp_all; omega))))
    · have hii : i = w.length := by omega
      subst hii
      obtain ⟨h1, h2⟩ := rdL_all hI
      rw [h1, h2]
      repeat' (first|(refine ya ?_;first|refine yc ?_|refine ye ?_)|((first|refine yg ?_|refine yG ?_);intro hq;first|(replace hq:=zgy hq;first|refine yc ?_|refine yC ?_|refine yy hq ?_|refine yY hq ?_;clear hq)|((first|refine yn (zgn hq) ?_|refine yN (zgn hq) ?_);clear hq)|((fail_if_success have:=zgy hq);(first|refine zs hq ?_ ?_|refine zS hq ?_ ?_)<;>clear hq<;>intro hg hr<;>try exact zx))|refine yz ?_|(refine yA ?_;first|refine yC ?_|refine yE ?_)|refine yZ ?_|refine zst ?_|refine zo ?_|(refine zk ?_ ?_<;>intro hc hr<;>try exact zx))
      all_goals try exact zv
  · unfold wkV
    rw [wkB_no hb]
    cases hok : isF r z es
    · repeat' (first|(refine ya ?_;first|refine yc ?_|refine ye ?_)|((first|refine yg ?_|refine yG ?_);intro hq;first|(replace hq:=zgy hq;first|refine yc ?_|refine yC ?_|refine yy hq ?_|refine yY hq ?_;clear hq)|((first|refine yn (zgn hq) ?_|refine yN (zgn hq) ?_);clear hq)|((fail_if_success have:=zgy hq);(first|refine zs hq ?_ ?_|refine zS hq ?_ ?_)<;>clear hq<;>intro hg hr<;>try exact zx))|refine yz ?_|(refine yA ?_;first|refine yC ?_|refine yE ?_)|refine yZ ?_|refine zst ?_|refine zo ?_|(refine zk ?_ ?_<;>intro hc hr<;>try exact zx))
      all_goals try exact zv
    · have hz := isG_z (isF_g hok)
      have hb2 : ¬ (0 ≤ v ∧ v < z) := fun h => hb ⟨hok, h⟩
      repeat' (first|(refine ya ?_;first|refine yc ?_|refine ye ?_)|((first|refine yg ?_|refine yG ?_);intro hq;first|(replace hq:=zgy hq;first|refine yc ?_|refine yC ?_|refine yy hq ?_|refine yY hq ?_;clear hq)|((first|refine yn (zgn hq) ?_|refine yN (zgn hq) ?_);clear hq)|((fail_if_success have:=zgy hq);(first|refine zs hq ?_ ?_|refine zS hq ?_ ?_)<;>clear hq<;>intro hg hr<;>try exact zx))|refine yz ?_|(refine yA ?_;first|refine yC ?_|refine yE ?_)|refine yZ ?_|refine zst ?_|refine zo ?_|(refine zk ?_ ?_<;>intro hc hr<;>try exact zx))
      all_goals try exact zv
theorem red_rg {w : List Int} (h : ∀ x ∈ w, rg x) : ∀ x ∈ red w, rg x := fun x hx => h x (red_mem hx)
noncomputable def ctB (r z : Int) (es : List Ed) (w : List Int) : Bool := isC r z es && lpB es (red w)
instance : Con Tryz.prog 88 walk_sat2_S := con walk_sat2 Tryz.func88
@[go_sem] def K_contains_sat (i : Nat) : List Nat := ([[1,2],[4]]).getD i []

def contains_sat_S : Eng.Spec := fun args av objs => ∃ (r z : Int) (es : List Ed) (w : List Int), (es.length ≤ 1048576 ∧ w.length ≤ 4194304 ∧ (∀ x ∈ w, rg x)) ∧ args = [grA r z es, aL w] ∧ av = aB (ctB r z es w) ∧ objs = []
theorem contains_sat : Sat Tryz.prog 35 contains_sat_S := by
  refine sat_of tok okr mixed K_contains_sat Tryz.func35 rfl (rs := [.tmp 4]) rfl Tryz.ntmps35 ?_
  rintro args av objs ⟨r, z, es, w, hpre, rfl, rfl, rfl⟩
  refine ⟨by show 2 ≤ 13; decide, ?_⟩
  obtain ⟨he, hw, hm⟩ := hpre
  have h1 := red_len w
  have h2 := red_rg hm
  unfold ctB
  cases hok : isC r z es
  · repeat' (first|(refine ya ?_;first|refine yc ?_|refine ye ?_)|((first|refine yg ?_|refine yG ?_);intro hq;first|(replace hq:=zgy hq;first|refine yc ?_|refine yC ?_|refine yy hq ?_|refine yY hq ?_;clear hq)|((first|refine yn (zgn hq) ?_|refine yN (zgn hq) ?_);clear hq)|((fail_if_success have:=zgy hq);(first|refine zs hq ?_ ?_|refine zS hq ?_ ?_)<;>clear hq<;>intro hg hr<;>try exact zx))|refine yz ?_|(refine yA ?_;first|refine yC ?_|refine yE ?_)|refine yZ ?_|refine zst ?_|refine zo ?_|(refine zk ?_ ?_<;>intro hc hr<;>try exact zx))
    all_goals try exact zv
  · have hg := isF_g (isC_f hok)
    repeat' (first|(refine ya ?_;first|refine yc ?_|refine ye ?_)|((first|refine yg ?_|refine yG ?_);intro hq;first|(replace hq:=zgy hq;first|refine yc ?_|refine yC ?_|refine yy hq ?_|refine yY hq ?_;clear hq)|((first|refine yn (zgn hq) ?_|refine yN (zgn hq) ?_);clear hq)|((fail_if_success have:=zgy hq);(first|refine zs hq ?_ ?_|refine zS hq ?_ ?_)<;>clear hq<;>intro hg hr<;>try exact zx))|refine yz ?_|(refine yA ?_;first|refine yC ?_|refine yE ?_)|refine yZ ?_|refine zst ?_|refine zo ?_|(refine zk ?_ ?_<;>intro hc hr<;>try exact zx))
    all_goals try exact zv
instance : Con Tryz.prog 35 contains_sat_S := con contains_sat Tryz.func35
@[go_sem] def K_contains_sat2 (i : Nat) : List Nat := ([[1,2],[2,5,6],[4]]).getD i []

def contains_sat2_S : Eng.Spec := fun args av objs => ∃ (r z : Int) (es : List Ed) (w : List Int), (es.length ≤ 1048576 ∧ w.length ≤ 4194304 ∧ (∀ x ∈ w, rg x)) ∧ args = [grA r z es, aL w] ∧ av = aB (ctB r z es w) ∧ objs = []
theorem contains_sat2 : Sat Tryz.prog 36 contains_sat2_S := by
  refine sat_of tok okr mixed K_contains_sat2 Tryz.func36 rfl (rs := [.tmp 4]) rfl Tryz.ntmps36 ?_
  rintro args av objs ⟨r, z, es, w, hpre, rfl, rfl, rfl⟩
  refine ⟨by show 2 ≤ 23; decide, ?_⟩
  obtain ⟨he, hw, hm⟩ := hpre
  have h1 := red_len w
  have h2 := red_rg hm
  unfold ctB
  cases hok : isC r z es
  · repeat' (first|(refine ya ?_;first|refine yc ?_|refine ye ?_)|((first|refine yg ?_|refine yG ?_);intro hq;first|(replace hq:=zgy hq;first|refine yc ?_|refine yC ?_|refine yy hq ?_|refine yY hq ?_;clear hq)|((first|refine yn (zgn hq) ?_|refine yN (zgn hq) ?_);clear hq)|((fail_if_success have:=zgy hq);(first|refine zs hq ?_ ?_|refine zS hq ?_ ?_)<;>clear hq<;>intro hg hr<;>try exact zx))|refine yz ?_|(refine yA ?_;first|refine yC ?_|refine yE ?_)|refine yZ ?_|refine zst ?_|refine zo ?_|(refine zk ?_ ?_<;>intro hc hr<;>try exact zx))
    all_goals try exact zv
  · have hf := isC_f hok
    have hz := isG_z (isF_g hf)
    have hw1 : wkB r z es 0 (red w) = decide (rdL es 0 (red w) = (red w).length) := wkB_yes ⟨hf, by omega, by omega⟩
    have hw2 : wkV r z es 0 (red w) = if wkB r z es 0 (red w) = true then rdV es 0 (red w) else -1 := rfl
    rw [hw1] at hw2
    by_cases hr : rdL es 0 (red w) = (red w).length
    · simp only [hr, decide_true, if_true] at hw1 hw2
      have hl : lpB es (red w) = (rdV es 0 (red w) == 0) := by simp [lpB, hr, Bool.beq_eq_decide_eq]
      rw [hl]
      repeat' (first|(refine ya ?_;first|refine yc ?_|refine ye ?_)|((first|refine yg ?_|refine yG ?_);intro hq;first|(replace hq:=zgy hq;first|refine yc ?_|refine yC ?_|refine yy hq ?_|refine yY hq ?_;clear hq)|((first|refine yn (zgn hq) ?_|refine yN (zgn hq) ?_);clear hq)|((fail_if_success have:=zgy hq);(first|refine zs hq ?_ ?_|refine zS hq ?_ ?_)<;>clear hq<;>intro hg hr<;>try exact zx))|refine yz ?_|(refine yA ?_;first|refine yC ?_|refine yE ?_)|refine yZ ?_|refine zst ?_|refine zo ?_|(refine zk ?_ ?_<;>intro hc hr<;>try exact zx))
      all_goals try exact zv
    · simp only [hr, decide_false, Bool.false_eq_true, if_false] at hw1 hw2
      repeat' (first|(refine ya ?_;first|refine yc ?_|refine ye ?_)|((first|refine yg ?_|refine yG ?_);intro hq;first|(replace hq:=zgy hq;first|refine yc ?_|refine yC ?_|refine yy hq ?_|refine yY hq ?_;clear hq)|((first|refine yn (zgn hq) ?_|refine yN (zgn hq) ?_);clear hq)|((fail_if_success have:=zgy hq);(first|refine zs hq ?_ ?_|refine zS hq ?_ ?_)<;>clear hq<;>intro hg hr<;>try exact zx))|refine yz ?_|(refine yA ?_;first|refine yC ?_|refine yE ?_)|refine yZ ?_|refine zst ?_|refine zo ?_|(refine zk ?_ ?_<;>intro hc hr<;>try exact zx))
      all_goals first | (refine z_ret (hv := ?_) (ho := ?_) <;> first | rfl | (simp [go_sem, lpB, *]; done) | (simp_all [lpB]; done) | (simp_all [lpB]; omega)) | skip
instance : Con Tryz.prog 36 contains_sat2_S := con contains_sat2 Tryz.func36
end Go.Proofs.Tryz
