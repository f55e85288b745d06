import Derived.Test.YtfapjflogjblaaaGreatZ
import Derived.Test.YtfapjflogjblaaaGreatW
set_option maxHeartbeats 16000000
set_option maxRecDepth 20000
set_option linter.unusedVariables false
set_option linter.unusedSimpArgs false
set_option linter.unnecessarySimpa false
namespace Go.Proofs.Tryz
open Go Go.Eng
theorem idE_get {a : List Ed} {e : Ed} : ∀ {n : Nat}, 0 ≤ idE a e n → ed a (idE a e n).toNat = e ∧ (idE a e n).toNat < n
  | 0, h => by simp [idE] at h
  | n + 1, h => by
    unfold idE at h ⊢
    by_cases h1 : 0 ≤ idE a e n
    · rw [if_pos h1]; have := idE_get h1; exact ⟨this.1, by omega⟩
    · rw [if_neg h1] at h ⊢
      split at h
      · rename_i h2; rw [if_pos h2]; exact ⟨by simpa using h2, by simp⟩
      · omega
theorem nodup_ed {a : List Ed} (hn : a.Nodup) {i j : Nat} (hi : i < a.length) (hj : j < a.length) (h : ed a i = ed a j) : i = j := by
  have h1 : ed a i = a[i] := by simp [ed, hi]
  have h2 : ed a j = a[j] := by simp [ed, hj]
  rw [h1, h2] at h
  rcases Nat.lt_trichotomy i j with h3 | h3 | h3
  · exact (List.pairwise_iff_getElem.1 hn i j hi hj h3 h).elim
  · exact h3
  · exact (List.pairwise_iff_getElem.1 hn j i hj hi h3 h.symm).elim
theorem xtN_sub {es ts : List Ed} : ∀ {n : Nat}, n ≤ es.length → (xtN es ts n).Sublist (es.take n)
  | 0, _ => by simp [xtN]
  | n + 1, h => by
    have ih := xtN_sub (es := es) (ts := ts) (n := n) (by omega)
    have ht : es.take (n + 1) = es.take n ++ [ed es n] := by rw [List.take_add_one]; simp [ed, show n < es.length by omega]
    unfold xtN
    rw [ht]
    split
    · exact ih.trans (List.sublist_append_left ..)
    · exact ih.append (List.Sublist.refl _)
theorem extL_nodup {r z : Int} {es : List Ed} : (extL r z es).Nodup := by
  cases h : isF r z es
  · rw [extL_no h]; exact List.nodup_nil
  · rw [extL_yes h]
    have h1 := xtN_sub (es := es) (ts := treeL r z es) (Nat.le_refl _)
    rw [List.take_length] at h1
    exact h1.nodup (asc_nodupE (isG_iff.1 (isF_g h)).2.1)
def rwV (x k : Int) : Int := if 0 < x then k + 1 else -k - 1
def rwK (xs : List Ed) (e : Ed) (x : Int) (k : Nat) : List Int := if 0 ≤ idE xs e k then [rwV x (idE xs e k)] else []
def rwN (es xs : List Ed) (w : List Int) : Nat → List Int
  | 0 => []
  | i + 1 => rwN es xs w i ++ rwK xs (stE (vN es 0 w i) (ix w i) (vN es 0 w (i + 1))) (ix w i) xs.length
theorem rwK_len (xs : List Ed) (e : Ed) (x : Int) (k : Nat) : (rwK xs e x k).length ≤ 1 := by
  unfold rwK; split <;> simp
theorem rwN_len (es xs : List Ed) (w : List Int) (i : Nat) : (rwN es xs w i).length ≤ i := by
  induction i with
  | zero => simp [rwN]
  | succ i ih =>
    have := rwK_len xs (stE (vN es 0 w i) (ix w i) (vN es 0 w (i + 1))) (ix w i) xs.length
    simp only [rwN, List.length_append]; omega
theorem rwK_mem {xs : List Ed} {e : Ed} {x : Int} {k : Nat} (hk : k ≤ 1000) : ∀ y ∈ rwK xs e x k, rg y := fun y hy => by
  have := idE_le xs e k
  unfold rwK at hy
  split at hy
  · rw [List.mem_singleton] at hy
    subst hy
    unfold rwV rg
    split <;> omega
  · cases hy
theorem rwN_mem {es xs : List Ed} {w : List Int} (hx : xs.length ≤ 1000) : ∀ i, ∀ y ∈ rwN es xs w i, rg y
  | 0, y, hy => by cases hy
  | i + 1, y, hy => by
    rcases List.mem_append.1 hy with hy | hy
    · exact rwN_mem hx i y hy
    · exact rwK_mem hx y hy
theorem rwK_0 (xs : List Ed) (e : Ed) (x : Int) : rwK xs e x 0 = [] := by simp [rwK, idE]
theorem rwK_hit {xs : List Ed} {e : Ed} {x : Int} {k : Nat} (hn : xs.Nodup) (hk : k < xs.length) (h : ed xs k = e) : rwK xs e x k = [] ∧ rwK xs e x (k + 1) = [rwV x k] := by
  have h1 : idE xs e k < 0 := by
    rcases (show idE xs e k < 0 ∨ 0 ≤ idE xs e k by omega) with h1 | h1
    · exact h1
    · have := idE_get h1
      have := nodup_ed hn (i := (idE xs e k).toNat) (j := k) (by omega) hk (by rw [this.1, h])
      omega
  have h2 : idE xs e (k + 1) = k := by rw [idE, if_neg (by omega), if_pos h]
  refine ⟨by unfold rwK; rw [if_neg (by omega)], ?_⟩
  unfold rwK
  rw [h2, if_pos (by omega)]
theorem rwK_miss {xs : List Ed} {e : Ed} {x : Int} {k : Nat} (h : ed xs k ≠ e) : rwK xs e x (k + 1) = rwK xs e x k := by
  unfold rwK
  by_cases h3 : 0 ≤ idE xs e k
  · have h4 : idE xs e (k + 1) = idE xs e k := by rw [idE, if_pos h3]
    rw [h4]
  · have h4 : idE xs e (k + 1) = -1 := by rw [idE, if_neg h3, if_neg h]
    rw [h4, if_neg h3, if_neg (by omega)]
theorem rdk_nx {es : List Ed} {v : Int} {w : List Int} {n i : Nat} (h : rdk es v w n = n) (hi : i < n) : 0 ≤ nx es (vN es v w i) (ix w i) := by
  have h1 := rdk_mono h (i + 1) (by omega)
  unfold rdk at h1
  split at h1
  · rename_i hc; exact hc.2
  · have := rdk_le es v w i; omega
noncomputable def rwO (r z : Int) (es : List Ed) (w : List Int) : List Int := if ctB r z es w = true then red (rwN es (extL r z es) (red w) (red w).length) else []
theorem rwO_len {r z : Int} {es : List Ed} {w : List Int} : (rwO r z es w).length ≤ w.length := by
  unfold rwO
  split
  · have h1 := red_len (rwN es (extL r z es) (red w) (red w).length)
    have h2 := rwN_len es (extL r z es) (red w) (red w).length
    have h3 := red_len w
    omega
  · simp
@[go_sem] def K_rewr_sat (i : Nat) : List Nat := ([[1,2],[1,2,16],[4,5],[1,2,6],[1,2,6,7],[1,2,6,7,8],[2,6,7,8,22,23,24],[2,6,7,8,22,23,24,25],[2,6,7,8,10,22,23,24],[2,6,7,8,10,11,22,23,24],[2,6,7,10,11,12,22,23,24],[2,6,7,10,11,12,22,23,24,39],[2,6,7,11,12,22,23,24,41],[2,6,7,11,22,23,24],[2,6,7,11,22,23,24],[2,6,7,8,22,23,24],[2,6,7,8,22,23,24],[4,5]]).getD i []
def rewr_sat_S : Eng.Spec := fun args av objs => ∃ (r z : Int) (es : List Ed) (w : List Int), (es.length ≤ 1048576 ∧ w.length ≤ 1048576 ∧ (∀ x ∈ w, rg x)) ∧ args = [grA r z es, aL w] ∧ av = .tup [aR 0, aB (ctB r z es w)] ∧ objs = [oL 3 (rwO r z es w)]
theorem rewr_sat : Sat Tryz.prog 20 rewr_sat_S := by
  refine sat_of tok okr mixed K_rewr_sat Tryz.func20 rfl (rs := [.tmp 4, .tmp 5]) rfl Tryz.ntmps20 ?_
  rintro args av objs ⟨r, z, es, w, hpre, rfl, rfl, rfl⟩
  refine ⟨by show 2 ≤ 58; decide, ?_⟩
  obtain ⟨he, hw, hm⟩ := hpre
  unfold rwO
  cases hct : ctB r z es w
  · repeat' (first|(refine ya ?_;first|refine yc ?_|refine ye ?_)|refine yz ?_|refine zst ?_|refine zo ?_|(refine zk ?_ ?_<;>intro hc hr<;>try exact zx))
    all_goals try exact zv
  · have hct2 := hct
    unfold ctB lpB at hct2
    simp only [Bool.and_eq_true, decide_eq_true_eq] at hct2
    obtain ⟨hC, hL, hV⟩ := hct2
    have hf := isC_f hC
    have hG := isF_g hf
    have hz := isG_z hG
    have h1 := red_len w
    have hxl := extL_len (r := r) (z := z) (es := es)
    have hk : rdk es 0 (red w) (red w).length = (red w).length := hL
    clear hV
    repeat' (first|(refine ya ?_;first|refine yc ?_|refine ye ?_)|refine yz ?_|refine zst ?_|refine zo ?_|(refine zk ?_ ?_<;>intro hc hr<;>try exact zx))
    generalize hR : red w = R at *
    generalize hX : extL r z es = xs at *
    refine z_loop (fun i : Nat => [(24, aI i), (8, aI (vN es 0 R i))]) (fun i : Nat => [.obj 7 (oL 3 (rwN es xs R i))]) (fun i : Nat => i ≤ R.length) (fun i : Nat => R.length - i) (0) (h0 := ?_) (henv := ?_) (hobj := ?_) (h := ?_)
    · omega
    · simp [go_sem, AVm, CVm, lookS, vN_0, rwN]
    · simp [go_sem, OBm, CVm, lookS, All2, vN_0, rwN]
    intro i hi
    have hnl := rwN_len es xs R i
    rcases Nat.lt_or_ge i R.length with hlt | hge
    · have hnx := rdk_nx hk hlt
      have hv := nx_v hG hnx
      have hs := vN_s es 0 R i
      have hx : isG r z es = true ∧ rg (ix R i) := ⟨hG, by unfold rg; omega⟩
      obtain ⟨kk, hkk⟩ : ∃ kk, kk = idE xs (stE (vN es 0 R i) (ix R i) (nx es (vN es 0 R i) (ix R i))) xs.length := ⟨_, rfl⟩
      have hid := idE_le xs (stE (vN es 0 R i) (ix R i) (nx es (vN es 0 R i) (ix R i))) xs.length
      have hrw : rwN es xs R (i + 1) = rwN es xs R i ++ rwK xs (stE (vN es 0 R i) (ix R i) (nx es (vN es 0 R i) (ix R i))) (ix R i) xs.length := rfl
      unfold rwK rwV at hrw
      have hkk2 : idE xs ((stE (vN es 0 R i) (ix R i) (nx es (vN es 0 R i) (ix R i))).1, (stE (vN es 0 R i) (ix R i) (nx es (vN es 0 R i) (ix R i))).2.1, (stE (vN es 0 R i) (ix R i) (nx es (vN es 0 R i) (ix R i))).2.2) xs.length = kk := hkk.symm
      rw [← hkk] at hid hrw
      clear hkk
      by_cases hp : 0 ≤ kk
      · by_cases hx0 : 0 < ix R i
        · have hs2 : rwN es xs R (i + 1) = rwN es xs R i ++ [kk + 1] := by rw [hrw, if_pos hp, if_pos hx0]
          clear hrw
          repeat' (first|(refine ya ?_;first|refine yc ?_|refine ye ?_)|refine yz ?_|refine zst ?_|refine zo ?_|(refine zk ?_ ?_<;>intro hc hr<;>try exact zx))
          (refine zm (i + 1) ?_ ?_ <;> simp [go_sem, AVm, OBm, CVm, All2, lookS, hs2, hs, *] <;> exact zt)
        · have hs2 : rwN es xs R (i + 1) = rwN es xs R i ++ [-kk - 1] := by rw [hrw, if_pos hp, if_neg hx0]
          clear hrw
          repeat' (first|(refine ya ?_;first|refine yc ?_|refine ye ?_)|refine yz ?_|refine zst ?_|refine zo ?_|(refine zk ?_ ?_<;>intro hc hr<;>try exact zx))
          (refine zm (i + 1) ?_ ?_ <;> simp [go_sem, AVm, OBm, CVm, All2, lookS, hs2, hs, *] <;> exact zt)
      · have hs2 : rwN es xs R (i + 1) = rwN es xs R i := by rw [hrw, if_neg hp, List.append_nil]
        clear hrw
        repeat' (first|(refine ya ?_;first|refine yc ?_|refine ye ?_)|refine yz ?_|refine zst ?_|refine zo ?_|(refine zk ?_ ?_<;>intro hc hr<;>try exact zx))
        (refine zm (i + 1) ?_ ?_ <;> simp [go_sem, AVm, OBm, CVm, All2, lookS, hs2, hs, *] <;> exact zt)
    · have hii : i = R.length := by omega
      subst hii
      have hpp := PW1 (a := rwN es xs R R.length) ⟨by omega, rwN_mem (by omega) _⟩
      repeat' (first|(refine ya ?_;first|refine yc ?_|refine ye ?_)|refine yz ?_|refine zst ?_|refine zo ?_|(refine zk ?_ ?_<;>intro hc hr<;>try exact zx))
      all_goals try exact zv
instance : Con Tryz.prog 20 rewr_sat_S := con rewr_sat Tryz.func20
@[go_sem] def K_rewr_sat2 (i : Nat) : List Nat := ([[1,2],[1,2,6],[2,6,7],[2,6,7,19],[4,5],[2,6,7,8],[2,6,7,8,9],[2,6,7,8,9,10],[2,6,7,8,9,10,26],[2,6,7,8,9,10],[2,6,7,8,9,10,11],[2,6,7,8,9,10,11,12],[2,6,7,8,9,10,11,12,39],[2,6,7,8,9,10,11,12],[2,6,7,8,9,10,11,12,60],[2,6,7,8,9,10,11,12],[2,6,7,8,9,10,11,12,85],[2,6,7,8,9,10,11,12],[2,6,7,8,9,10],[4,5]]).getD i []
def rewr_sat2_S : Eng.Spec := fun args av objs => ∃ (r z : Int) (es : List Ed) (w : List Int), (es.length ≤ 1048576 ∧ w.length ≤ 1048576 ∧ (∀ x ∈ w, rg x)) ∧ args = [grA r z es, aL w] ∧ av = .tup [aR 0, aB (ctB r z es w)] ∧ objs = [oL 3 (rwO r z es w)]
theorem rewr_sat2 : Sat Tryz.prog 21 rewr_sat2_S := by
  refine sat_of tok okr mixed K_rewr_sat2 Tryz.func21 rfl (rs := [.tmp 4, .tmp 5]) rfl Tryz.ntmps21 ?_
  rintro args av objs ⟨r, z, es, w, hpre, rfl, rfl, rfl⟩
  refine ⟨by show 2 ≤ 95; decide, ?_⟩
  obtain ⟨he, hw, hm⟩ := hpre
  have h1 := red_len w
  have hrm := red_rg hm
  have hcr : ctB r z es (red w) = ctB r z es w := by unfold ctB; rw [red_red (red_rd w)]
  unfold rwO
  rw [← hcr]
  clear hcr
  cases hct : ctB r z es (red w)
  · repeat' (first|(refine ya ?_;first|refine yc ?_|refine ye ?_)|((first|refine yg ?_|refine yG ?_);intro hq;first|(replace hq:=zgy hq;first|refine yc ?_|refine yC ?_|refine yy hq ?_|refine yY hq ?_;clear hq)|((first|refine yn (zgn hq) ?_|refine yN (zgn hq) ?_);clear hq)|((fail_if_success have:=zgy hq);(first|refine zs hq ?_ ?_|refine zS hq ?_ ?_)<;>clear hq<;>intro hg hr<;>try exact zx))|refine yz ?_|(refine yA ?_;first|refine yC ?_|refine yE ?_)|refine yZ ?_|refine zst ?_|refine zo ?_|(refine zk ?_ ?_<;>intro hc hr<;>try exact zx))
    all_goals try exact zv
  · have hct2 := hct
    unfold ctB lpB at hct2
    rw [red_red (red_rd w)] at hct2
    simp only [Bool.and_eq_true, decide_eq_true_eq] at hct2
    obtain ⟨hC, hL, hV⟩ := hct2
    have hf := isC_f hC
    have hG := isF_g hf
    have hz := isG_z hG
    have hxl := extL_len (r := r) (z := z) (es := es)
    have hxn := extL_nodup (r := r) (z := z) (es := es)
    have hk : rdk es 0 (red w) (red w).length = (red w).length := hL
    clear hV
    repeat' (first|(refine ya ?_;first|refine yc ?_|refine ye ?_)|((first|refine yg ?_|refine yG ?_);intro hq;first|(replace hq:=zgy hq;first|refine yc ?_|refine yC ?_|refine yy hq ?_|refine yY hq ?_;clear hq)|((first|refine yn (zgn hq) ?_|refine yN (zgn hq) ?_);clear hq)|((fail_if_success have:=zgy hq);(first|refine zs hq ?_ ?_|refine zS hq ?_ ?_)<;>clear hq<;>intro hg hr<;>try exact zx))|refine yz ?_|(refine yA ?_;first|refine yC ?_|refine yE ?_)|refine yZ ?_|refine zst ?_|refine zo ?_|(refine zk ?_ ?_<;>intro hc hr<;>try exact zx))
    generalize hR : red w = R at *
    generalize hX : extL r z es = xs at *
    refine z_loop (fun i : Nat => [(10, aI i), (9, aI (vN es 0 R i))]) (fun i : Nat => [.obj 6 (oL 3 (rwN es xs R i))]) (fun i : Nat => i ≤ R.length) (fun i : Nat => R.length - i) (0) (h0 := ?_) (henv := ?_) (hobj := ?_) (h := ?_)
    · omega
    · simp [go_sem, AVm, CVm, lookS, vN_0, rwN]
    · simp [go_sem, OBm, CVm, lookS, All2, vN_0, rwN]
    intro i hi
    have hnl := rwN_len es xs R i
    rcases Nat.lt_or_ge i R.length with hlt | hge
    · have hnx := rdk_nx hk hlt
      have hv := nx_v hG hnx
      have hs := vN_s es 0 R i
      have hx : isG r z es = true ∧ rg (ix R i) := ⟨hG, by unfold rg; omega⟩
      have hrw : rwN es xs R (i + 1) = rwN es xs R i ++ rwK xs (stE (vN es 0 R i) (ix R i) (nx es (vN es 0 R i) (ix R i))) (ix R i) xs.length := rfl
      by_cases hx0 : 0 < ix R i
      · have hst : stE (vN es 0 R i) (ix R i) (nx es (vN es 0 R i) (ix R i)) = (vN es 0 R i, ix R i, nx es (vN es 0 R i) (ix R i)) := by unfold stE; rw [if_neg (by omega)]
        rw [hst] at hrw
        repeat' (first|(refine ya ?_;first|refine yc ?_|refine ye ?_)|((first|refine yg ?_|refine yG ?_);intro hq;first|(replace hq:=zgy hq;first|refine yc ?_|refine yC ?_|refine yy hq ?_|refine yY hq ?_;clear hq)|((first|refine yn (zgn hq) ?_|refine yN (zgn hq) ?_);clear hq)|((fail_if_success have:=zgy hq);(first|refine zs hq ?_ ?_|refine zS hq ?_ ?_)<;>clear hq<;>intro hg hr<;>try exact zx))|refine yz ?_|(refine yA ?_;first|refine yC ?_|refine yE ?_)|refine yZ ?_|refine zst ?_|refine zo ?_|(refine zk ?_ ?_<;>intro hc hr<;>try exact zx))
        refine z_loop (fun k : Nat => [(12, aI k)]) (fun k : Nat => [.obj 6 (oL 3 (rwN es xs R i ++ rwK xs (vN es 0 R i, ix R i, nx es (vN es 0 R i) (ix R i)) (ix R i) k))]) (fun k : Nat => k ≤ xs.length) (fun k : Nat => xs.length - k) (0) (h0 := ?_) (henv := ?_) (hobj := ?_) (h := ?_)
        · omega
        · simp [go_sem, AVm, CVm, lookS, rwK_0]
        · simp [go_sem, OBm, CVm, lookS, All2, rwK_0]
        intro k hk2
        have hkl := rwK_len xs (vN es 0 R i, ix R i, nx es (vN es 0 R i) (ix R i)) (ix R i) k
        rcases Nat.lt_or_ge k xs.length with hlt2 | hge2
        · by_cases he2 : ed xs k = (vN es 0 R i, ix R i, nx es (vN es 0 R i) (ix R i))
          · obtain ⟨a1, a2⟩ := rwK_hit (x := ix R i) hxn hlt2 he2
            have a3 : rwV (ix R i) k = (k : Int) + 1 := by unfold rwV; rw [if_pos hx0]
            rw [a3] at a2
            rw [a1]
            repeat' (first|(refine ya ?_;first|refine yc ?_|refine ye ?_)|((first|refine yg ?_|refine yG ?_);intro hq;first|(replace hq:=zgy hq;first|refine yc ?_|refine yC ?_|refine yy hq ?_|refine yY hq ?_;clear hq)|((first|refine yn (zgn hq) ?_|refine yN (zgn hq) ?_);clear hq)|((fail_if_success have:=zgy hq);(first|refine zs hq ?_ ?_|refine zS hq ?_ ?_)<;>clear hq<;>intro hg hr<;>try exact zx))|refine yz ?_|(refine yA ?_;first|refine yC ?_|refine yE ?_)|refine yZ ?_|refine zst ?_|refine zo ?_|(refine zk ?_ ?_<;>intro hc hr<;>try exact zx))
            (refine zm (k + 1) ?_ ?_ <;> simp [go_sem, AVm, OBm, CVm, All2, lookS, a2, *] <;> exact zt)
          · have a2 := rwK_miss (x := ix R i) he2
            have he3 : ¬ ((ed xs k).1 = vN es 0 R i ∧ (ed xs k).2.1 = ix R i ∧ (ed xs k).2.2 = nx es (vN es 0 R i) (ix R i)) := fun h => he2 (Prod.ext h.1 (Prod.ext h.2.1 h.2.2))
            clear he2
            repeat' (first|(refine ya ?_;first|refine yc ?_|refine ye ?_)|((first|refine yg ?_|refine yG ?_);intro hq;first|(replace hq:=zgy hq;first|refine yc ?_|refine yC ?_|refine yy hq ?_|refine yY hq ?_;clear hq)|((first|refine yn (zgn hq) ?_|refine yN (zgn hq) ?_);clear hq)|((fail_if_success have:=zgy hq);(first|refine zs hq ?_ ?_|refine zS hq ?_ ?_)<;>clear hq<;>intro hg hr<;>try exact zx))|refine yz ?_|(refine yA ?_;first|refine yC ?_|refine yE ?_)|refine yZ ?_|refine zst ?_|refine zo ?_|(refine zk ?_ ?_<;>intro hc hr<;>try exact zx))
            all_goals (refine zm (k + 1) ?_ ?_ <;> simp [go_sem, AVm, OBm, CVm, All2, lookS, a2, *] <;> exact zt)
        · have hkk : k = xs.length := by omega
          subst hkk
          repeat' (first|(refine ya ?_;first|refine yc ?_|refine ye ?_)|((first|refine yg ?_|refine yG ?_);intro hq;first|(replace hq:=zgy hq;first|refine yc ?_|refine yC ?_|refine yy hq ?_|refine yY hq ?_;clear hq)|((first|refine yn (zgn hq) ?_|refine yN (zgn hq) ?_);clear hq)|((fail_if_success have:=zgy hq);(first|refine zs hq ?_ ?_|refine zS hq ?_ ?_)<;>clear hq<;>intro hg hr<;>try exact zx))|refine yz ?_|(refine yA ?_;first|refine yC ?_|refine yE ?_)|refine yZ ?_|refine zst ?_|refine zo ?_|(refine zk ?_ ?_<;>intro hc hr<;>try exact zx))
          (refine zm (i + 1) ?_ ?_ <;> simp [go_sem, AVm, OBm, CVm, All2, lookS, hrw, hs, *] <;> exact zt)
      · have hst : stE (vN es 0 R i) (ix R i) (nx es (vN es 0 R i) (ix R i)) = (nx es (vN es 0 R i) (ix R i), -ix R i, vN es 0 R i) := by unfold stE; rw [if_pos (by omega)]
        rw [hst] at hrw
        repeat' (first|(refine ya ?_;first|refine yc ?_|refine ye ?_)|((first|refine yg ?_|refine yG ?_);intro hq;first|(replace hq:=zgy hq;first|refine yc ?_|refine yC ?_|refine yy hq ?_|refine yY hq ?_;clear hq)|((first|refine yn (zgn hq) ?_|refine yN (zgn hq) ?_);clear hq)|((fail_if_success have:=zgy hq);(first|refine zs hq ?_ ?_|refine zS hq ?_ ?_)<;>clear hq<;>intro hg hr<;>try exact zx))|refine yz ?_|(refine yA ?_;first|refine yC ?_|refine yE ?_)|refine yZ ?_|refine zst ?_|refine zo ?_|(refine zk ?_ ?_<;>intro hc hr<;>try exact zx))
        refine z_loop (fun k : Nat => [(12, aI k)]) (fun k : Nat => [.obj 6 (oL 3 (rwN es xs R i ++ rwK xs (nx es (vN es 0 R i) (ix R i), -ix R i, vN es 0 R i) (ix R i) k))]) (fun k : Nat => k ≤ xs.length) (fun k : Nat => xs.length - k) (0) (h0 := ?_) (henv := ?_) (hobj := ?_) (h := ?_)
        · omega
        · simp [go_sem, AVm, CVm, lookS, rwK_0]
        · simp [go_sem, OBm, CVm, lookS, All2, rwK_0]
        intro k hk2
        have hkl := rwK_len xs (nx es (vN es 0 R i) (ix R i), -ix R i, vN es 0 R i) (ix R i) k
        rcases Nat.lt_or_ge k xs.length with hlt2 | hge2
        · by_cases he2 : ed xs k = (nx es (vN es 0 R i) (ix R i), -ix R i, vN es 0 R i)
          · obtain ⟨a1, a2⟩ := rwK_hit (x := ix R i) hxn hlt2 he2
            have a3 : rwV (ix R i) k = -(k : Int) - 1 := by unfold rwV; rw [if_neg hx0]
            rw [a3] at a2
            rw [a1]
            repeat' (first|(refine ya ?_;first|refine yc ?_|refine ye ?_)|((first|refine yg ?_|refine yG ?_);intro hq;first|(replace hq:=zgy hq;first|refine yc ?_|refine yC ?_|refine yy hq ?_|refine yY hq ?_;clear hq)|((first|refine yn (zgn hq) ?_|refine yN (zgn hq) ?_);clear hq)|((fail_if_success have:=zgy hq);(first|refine zs hq ?_ ?_|refine zS hq ?_ ?_)<;>clear hq<;>intro hg hr<;>try exact zx))|refine yz ?_|(refine yA ?_;first|refine yC ?_|refine yE ?_)|refine yZ ?_|refine zst ?_|refine zo ?_|(refine zk ?_ ?_<;>intro hc hr<;>try exact zx))
            (refine zm (k + 1) ?_ ?_ <;> simp [go_sem, AVm, OBm, CVm, All2, lookS, a2, *] <;> exact zt)
          · have a2 := rwK_miss (x := ix R i) he2
            have he3 : ¬ ((ed xs k).1 = nx es (vN es 0 R i) (ix R i) ∧ (ed xs k).2.1 = -ix R i ∧ (ed xs k).2.2 = vN es 0 R i) := fun h => he2 (Prod.ext h.1 (Prod.ext h.2.1 h.2.2))
            clear he2
            repeat' (first|(refine ya ?_;first|refine yc ?_|refine ye ?_)|((first|refine yg ?_|refine yG ?_);intro hq;first|(replace hq:=zgy hq;first|refine yc ?_|refine yC ?_|refine yy hq ?_|refine yY hq ?_;clear hq)|((first|refine yn (zgn hq) ?_|refine yN (zgn hq) ?_);clear hq)|((fail_if_success have:=zgy hq);(first|refine zs hq ?_ ?_|refine zS hq ?_ ?_)<;>clear hq<;>intro hg hr<;>try exact zx))|refine yz ?_|(refine yA ?_;first|refine yC ?_|refine yE ?_)|refine yZ ?_|refine zst ?_|refine zo ?_|(refine zk ?_ ?_<;>intro hc hr<;>try exact zx))
            all_goals (refine zm (k + 1) ?_ ?_ <;> simp [go_sem, AVm, OBm, CVm, All2, lookS, a2, *] <;> exact zt)
        · have hkk : k = xs.length := by omega
          subst hkk
          repeat' (first|(refine ya ?_;first|refine yc ?_|refine ye ?_)|((first|refine yg ?_|refine yG ?_);intro hq;first|(replace hq:=zgy hq;first|refine yc ?_|refine yC ?_|refine yy hq ?_|refine yY hq ?_;clear hq)|((first|refine yn (zgn hq) ?_|refine yN (zgn hq) ?_);clear hq)|((fail_if_success have:=zgy hq);(first|refine zs hq ?_ ?_|refine zS hq ?_ ?_)<;>clear hq<;>intro hg hr<;>try exact zx))|refine yz ?_|(refine yA ?_;first|refine yC ?_|refine yE ?_)|refine yZ ?_|refine zst ?_|refine zo ?_|(refine zk ?_ ?_<;>intro hc hr<;>try exact zx))
          (refine zm (i + 1) ?_ ?_ <;> simp [go_sem, AVm, OBm, CVm, All2, lookS, hrw, hs, *] <;> exact zt)
    · have hii : i = R.length := by omega
      subst hii
      have hrl := rwN_mem (es := es) (xs := xs) (w := R) (by omega) R.length
      repeat' (first|(refine ya ?_;first|refine yc ?_|refine ye ?_)|((first|refine yg ?_|refine yG ?_);intro hq;first|(replace hq:=zgy hq;first|refine yc ?_|refine yC ?_|refine yy hq ?_|refine yY hq ?_;clear hq)|((first|refine yn (zgn hq) ?_|refine yN (zgn hq) ?_);clear hq)|((fail_if_success have:=zgy hq);(first|refine zs hq ?_ ?_|refine zS hq ?_ ?_)<;>clear hq<;>intro hg hr<;>try exact zx))|refine yz ?_|(refine yA ?_;first|refine yC ?_|refine yE ?_)|refine yZ ?_|refine zst ?_|refine zo ?_|(refine zk ?_ ?_<;>intro hc hr<;>try exact zx))
      all_goals try exact zv
instance : Con Tryz.prog 21 rewr_sat2_S := con rewr_sat2 Tryz.func21
end Go.Proofs.Tryz
