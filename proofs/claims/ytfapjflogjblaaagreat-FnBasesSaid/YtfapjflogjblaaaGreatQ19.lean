import Derived.Test.YtfapjflogjblaaaGreatW
import Derived.Test.YtfapjflogjblaaaGreatC
import Derived.Test.YtfapjflogjblaaaGreatG6
set_option maxHeartbeats 16000000
set_option maxRecDepth 20000
set_option linter.unusedVariables false
set_option linter.unusedSimpArgs false
set_option linter.unnecessarySimpa false
namespace Go.Proofs.Tryz
open Go Go.Eng
def exL (ws : List (List Int)) (k : Int) : List (List Int) := if 1 ≤ k ∧ k ≤ ws.length then [wx ws (k - 1).toNat] else if -(ws.length : Int) ≤ k ∧ k ≤ -1 then [ivW (wx ws (-k - 1).toNat)] else []
def exN (ws : List (List Int)) (l : List Int) : Nat → List (List Int)
  | 0 => []
  | i + 1 => exN ws l i ++ exL ws (ix l i)
def exV (ws : List (List Int)) (l : List Int) : List Int := red (exN ws l (min l.length 200)).flatten
theorem exL_ok {ws : List (List Int)} {k : Int} (h : ∀ w ∈ ws, w.length ≤ 1048576) (hr : ∀ w ∈ ws, ∀ x ∈ w, rg x) : (exL ws k).length ≤ 1 ∧ ∀ w ∈ exL ws k, w.length ≤ 1048576 ∧ ∀ x ∈ w, rg x := by
  unfold exL
  split
  · rename_i h1
    have hm := wx_mem (ws := ws) (i := (k - 1).toNat) (by omega)
    exact ⟨by simp, by intro w hw; rw [List.mem_singleton] at hw; subst hw; exact ⟨h _ hm, hr _ hm⟩⟩
  · split
    · rename_i h1
      have hm := wx_mem (ws := ws) (i := (-k - 1).toNat) (by omega)
      exact ⟨by simp, by intro w hw; rw [List.mem_singleton] at hw; subst hw; exact ⟨by rw [ivW_len]; exact h _ hm, ivW_rg⟩⟩
    · exact ⟨by simp, by simp⟩
theorem exN_ok {ws : List (List Int)} {l : List Int} (h : ∀ w ∈ ws, w.length ≤ 1048576) (hr : ∀ w ∈ ws, ∀ x ∈ w, rg x) : ∀ i, (exN ws l i).length ≤ i ∧ ∀ w ∈ exN ws l i, w.length ≤ 1048576 ∧ ∀ x ∈ w, rg x
  | 0 => ⟨by simp [exN], by simp [exN]⟩
  | i + 1 => by
    obtain ⟨h1, h2⟩ := exN_ok (l := l) h hr i
    obtain ⟨h3, h4⟩ := exL_ok (k := ix l i) h hr
    refine ⟨by simp only [exN, List.length_append]; omega, fun w hw => ?_⟩
    rcases List.mem_append.1 hw with hw | hw
    · exact h2 w hw
    · exact h4 w hw
theorem flat_len {ws : List (List Int)} (h : ∀ w ∈ ws, w.length ≤ 1048576) : ws.flatten.length ≤ ws.length * 1048576 := by
  induction ws with
  | nil => simp
  | cons w r ih =>
    have h1 := h w (by simp)
    have h2 := ih fun x hx => h x (by simp [hx])
    simp only [List.flatten_cons, List.length_append, List.length_cons, Nat.succ_mul]
    omega
theorem flat_rg {ws : List (List Int)} (h : ∀ w ∈ ws, ∀ x ∈ w, rg x) : ∀ x ∈ ws.flatten, rg x := fun x hx => by
  obtain ⟨w, hw, hx⟩ := List.mem_flatten.1 hx
  exact h w hw x hx
theorem exN_flat {ws : List (List Int)} {l : List Int} (h : ∀ w ∈ ws, w.length ≤ 1048576) (hr : ∀ w ∈ ws, ∀ x ∈ w, rg x) {i : Nat} (hi : i ≤ 200) : ((exN ws l i).flatten.length : Int) ≤ 209715200 ∧ ∀ x ∈ (exN ws l i).flatten, rg x := by
  obtain ⟨h1, h2⟩ := exN_ok (l := l) h hr i
  have h3 := flat_len fun w hw => (h2 w hw).1
  have h4 : (exN ws l i).length * 1048576 ≤ 200 * 1048576 := Nat.mul_le_mul_right _ (by omega)
  exact ⟨by omega, flat_rg fun w hw => (h2 w hw).2⟩
theorem exV_len {ws : List (List Int)} {l : List Int} (h : ∀ w ∈ ws, w.length ≤ 1048576) (hr : ∀ w ∈ ws, ∀ x ∈ w, rg x) : ((exV ws l).length : Int) ≤ 209715200 := by
  have h1 := (exN_flat (l := l) h hr (i := min l.length 200) (by omega)).1
  have := red_len (exN ws l (min l.length 200)).flatten
  unfold exV
  omega
theorem exN_s (ws : List (List Int)) (l : List Int) (i : Nat) : exN ws l (i + 1) = exN ws l i ++ exL ws (ix l i) := rfl
theorem exN_take {ws : List (List Int)} {l : List Int} {m : Nat} : ∀ {i : Nat}, i ≤ m → exN ws (l.take m) i = exN ws l i
  | 0, _ => rfl
  | i + 1, h => by rw [exN_s, exN_s, exN_take (by omega), ix_take (by omega)]
@[go_sem] def K_expand_sat (i : Nat) : List Nat := ([[0,1],[0,1,5],[0,5,13,14,15],[0,5,13,14,15,16],[0,5,7,13,14,15],[0,5,7,13,14,15,19],[0,5,13,14,15],[0,5,7,13,14,15,32],[0,5,13,14,15],[0,5,13,14,15],[4]]).getD i []
def expand_sat_S : Eng.Spec := fun args av objs => ∃ (ws : List (List Int)) (l : List Int), (ws.length ≤ 1048576 ∧ (∀ w ∈ ws, w.length ≤ 1048576) ∧ (∀ w ∈ ws, ∀ x ∈ w, rg x) ∧ l.length ≤ 1048576 ∧ (∀ x ∈ l, rg x)) ∧ args = [aW ws, aL l] ∧ av = aR 0 ∧ objs = [oL 3 (exV ws l)]
theorem expand_sat : Sat Tryz.prog 23 expand_sat_S := by
  refine sat_of tok okr mixed K_expand_sat Tryz.func23 rfl (rs := [.tmp 4]) rfl Tryz.ntmps23 ?_
  rintro args av objs ⟨ws, l, hpre, rfl, rfl, rfl⟩
  refine ⟨by show 2 ≤ 51; decide, ?_⟩
  obtain ⟨hl, hw, hm, hll, hlm⟩ := hpre
  obtain ⟨L, hL0⟩ : ∃ L, L = l.take (min l.length 200) := ⟨_, rfl⟩
  have hLl : L.length = min l.length 200 := by rw [hL0, List.length_take]; omega
  have hLm : ∀ x ∈ L, rg x := fun x hx => hlm x (by rw [hL0] at hx; exact List.mem_of_mem_take hx)
  have hL2 : L.length ≤ 200 := by omega
  have hmi : (if (200 : Int) < l.length then (200 : Int) else l.length) = (L.length : Int) := by rw [hLl]; split <;> omega
  have hmt : List.take (if (200 : Int) < l.length then (200 : Int) else l.length).toNat l = L := by rw [hmi, hL0]; congr 1; rw [List.length_take]; omega
  have hmt2 : List.take L.length l = L := by rw [hmi] at hmt; simpa using hmt
  have hex : exV ws l = red (exN ws L L.length).flatten := by
    unfold exV
    rw [hLl, hL0, exN_take (Nat.le_refl _)]
  rw [hex]
  clear hex hL0 hLl
  repeat' (first|(refine ya ?_;first|refine yc ?_|refine ye ?_)|refine yz ?_|refine zst ?_|refine zo ?_|(refine zk ?_ ?_<;>intro hc hr<;>try exact zx))
  refine z_loop (fun i : Nat => [(15, aI i), (13, .one (.imm 1 (ints L))), (14, aI L.length)]) (fun i : Nat => [.obj 5 (.rows 35 3 .any (osW (exN ws L i)))]) (fun i : Nat => i ≤ L.length) (fun i : Nat => L.length - i) (0) (h0 := ?_) (henv := ?_) (hobj := ?_) (h := ?_)
  · omega
  · simp [go_sem, AVm, CVm, lookS, exN, osW_nil, hmt, hmi, hmt2]
  · simp [go_sem, OBm, CVm, lookS, All2, exN, osW_nil, hmt, hmi, hmt2]
  intro i hi
  clear hmi hmt hmt2
  have hel := (exN_ok (l := L) hw hm i).1
  rcases Nat.lt_or_ge i L.length with hlt | hge
  · have hr := hLm _ (ix_mem (l := L) (i := i) (by omega))
    unfold rg at hr
    by_cases c1 : 1 ≤ ix L i ∧ ix L i ≤ ws.length
    · have hs : exN ws L (i + 1) = exN ws L i ++ [wx ws (ix L i - 1).toNat] := by rw [exN_s, exL, if_pos c1]
      repeat' (first|(refine ya ?_;first|refine yc ?_|refine ye ?_)|refine yz ?_|refine zst ?_|refine zo ?_|(refine zk ?_ ?_<;>intro hc hr<;>try exact zx))
      (refine zm (i + 1) ?_ ?_ <;> simp [go_sem, AVm, OBm, CVm, All2, lookS, hs, *] <;> exact zt)
    · by_cases c2 : -(ws.length : Int) ≤ ix L i ∧ ix L i ≤ -1
      · have hs : exN ws L (i + 1) = exN ws L i ++ [ivW (wx ws (-ix L i - 1).toNat)] := by rw [exN_s, exL, if_neg c1, if_pos c2]
        have hmem := wx_mem (ws := ws) (i := (-ix L i - 1).toNat) (by omega)
        have h1 := hw _ hmem
        have h2 := hm _ hmem
        have e : (-ix L i - 1).toNat = (-ix L i).toNat - 1 := by omega
        rw [e] at hs h1 h2
        repeat' (first|(refine ya ?_;first|refine yc ?_|refine ye ?_)|refine yz ?_|refine zst ?_|refine zo ?_|(refine zk ?_ ?_<;>intro hc hr<;>try exact zx))
        (refine zm (i + 1) ?_ ?_ <;> simp [go_sem, AVm, OBm, CVm, All2, lookS, hs, *] <;> exact zt)
      · have hs : exN ws L (i + 1) = exN ws L i := by rw [exN_s, exL, if_neg c1, if_neg c2, List.append_nil]
        repeat' (first|(refine ya ?_;first|refine yc ?_|refine ye ?_)|refine yz ?_|refine zst ?_|refine zo ?_|(refine zk ?_ ?_<;>intro hc hr<;>try exact zx))
        (refine zm (i + 1) ?_ ?_ <;> simp [go_sem, AVm, OBm, CVm, All2, lookS, hs, *] <;> exact zt)
  · have hii : i = L.length := by omega
    subst hii
    have hpp : PW (intss (exN ws L L.length)) := PW_of (by have := (exN_ok (l := L) hw hm L.length).1; omega) fun w hw2 => by
      have := (exN_ok (l := L) hw hm L.length).2 w hw2
      exact ⟨by omega, this.2⟩
    repeat' (first|(refine ya ?_;first|refine yc ?_|refine ye ?_)|refine yz ?_|refine zst ?_|refine zo ?_|(refine zk ?_ ?_<;>intro hc hr<;>try exact zx))
    all_goals first | (refine z_ret (hv := ?_) (ho := ?_) <;> first | rfl | (simp [go_sem, unI_ss, *]; done) | (simp_all [unI_ss]; done) | (simp_all [unI_ss]; omega)) | skip
def exF (ws : List (List Int)) (l : List Int) (i : Nat) : List Int := (exN ws l i).flatten
theorem exF_0 (ws : List (List Int)) (l : List Int) : exF ws l 0 = [] := rfl
theorem exV_F (ws : List (List Int)) (l : List Int) : exV ws l = red (exF ws l (min l.length 200)) := rfl
instance : Con Tryz.prog 23 expand_sat_S := con expand_sat Tryz.func23
@[go_sem] def K_expand_sat2 (i : Nat) : List Nat := ([[0,1],[0,1,5],[0,1,5,6],[0,1,5,6,15],[0,1,5,6],[0,1,5,6,18],[0,1,5,6],[0,1,5,6,43],[0,1,5,6],[4]]).getD i []
def expand_sat2_S : Eng.Spec := fun args av objs => ∃ (ws : List (List Int)) (l : List Int), (ws.length ≤ 1048576 ∧ (∀ w ∈ ws, w.length ≤ 1048576) ∧ (∀ w ∈ ws, ∀ x ∈ w, rg x) ∧ l.length ≤ 1048576 ∧ (∀ x ∈ l, rg x)) ∧ args = [aW ws, aL l] ∧ av = aR 0 ∧ objs = [oL 3 (exV ws l)]
theorem expand_sat2 : Sat Tryz.prog 31 expand_sat2_S := by
  refine sat_of tok okr mixed K_expand_sat2 Tryz.func31 rfl (rs := [.tmp 4]) rfl Tryz.ntmps31 ?_
  rintro args av objs ⟨ws, l, hpre, rfl, rfl, rfl⟩
  refine ⟨by show 2 ≤ 73; decide, ?_⟩
  obtain ⟨hl, hw, hm, hll, hlm⟩ := hpre
  obtain ⟨m, hm0⟩ : ∃ m, m = min l.length 200 := ⟨_, rfl⟩
  rw [exV_F, ← hm0]
  repeat' (first|(refine ya ?_;first|refine yc ?_|refine ye ?_)|(refine yg ?_;intro hq;first|(replace hq:=zgy hq;first|refine yc ?_|refine yy hq ?_;clear hq)|(refine yn (zgn hq) ?_;clear hq)|((fail_if_success have:=zgy hq);refine zs hq ?_ ?_<;>clear hq<;>intro hg hr<;>try exact zx))|refine yz ?_|refine zst ?_|refine zo ?_|(refine zk ?_ ?_<;>intro hc hr<;>try exact zx))
  refine z_loop (fun i : Nat => [(6, aI i)]) (fun i : Nat => [.obj 5 (oL 3 (exF ws l i))]) (fun i : Nat => i ≤ m) (fun i : Nat => m - i) (0) (h0 := ?_) (henv := ?_) (hobj := ?_) (h := ?_)
  · omega
  · simp [go_sem, AVm, CVm, lookS, exF_0]
  · simp [go_sem, OBm, CVm, lookS, All2, exF_0]
  intro i hi
  have hfl : ((exF ws l i).length : Int) ≤ 209715200 := (exN_flat (l := l) hw hm (i := i) (by omega)).1
  rcases Nat.lt_or_ge i m with hlt | hge
  · have hr := hlm _ (ix_mem (l := l) (i := i) (by omega))
    unfold rg at hr
    have hil : i < l.length := by omega
    have hi2 : (i : Int) < 200 := by omega
    clear hm0
    by_cases c1 : 1 ≤ ix l i ∧ ix l i ≤ ws.length
    · have hs : exF ws l (i + 1) = exF ws l i ++ wx ws (ix l i - 1).toNat := by unfold exF; rw [exN_s, exL, if_pos c1]; simp
      have hmem := wx_mem (ws := ws) (i := (ix l i - 1).toNat) (by omega)
      have h1 := hw _ hmem
      have e : (ix l i - 1).toNat = (ix l i).toNat - 1 := by omega
      rw [e] at hs h1
      clear hmem
      repeat' (first|(refine ya ?_;first|refine yc ?_|refine ye ?_)|(refine yg ?_;intro hq;first|(replace hq:=zgy hq;first|refine yc ?_|refine yy hq ?_;clear hq)|(refine yn (zgn hq) ?_;clear hq)|((fail_if_success have:=zgy hq);refine zs hq ?_ ?_<;>clear hq<;>intro hg hr<;>try exact zx))|refine yz ?_|refine zst ?_|refine zo ?_|(refine zk ?_ ?_<;>intro hc hr<;>try exact zx))
      (refine zm (i + 1) ?_ ?_ <;> simp [go_sem, AVm, OBm, CVm, All2, lookS, hs, *] <;> exact zt)
    · by_cases c2 : -(ws.length : Int) ≤ ix l i ∧ ix l i ≤ -1
      · have hs : exF ws l (i + 1) = exF ws l i ++ ivW (wx ws (-ix l i - 1).toNat) := by unfold exF; rw [exN_s, exL, if_neg c1, if_pos c2]; simp
        have hmem := wx_mem (ws := ws) (i := (-ix l i - 1).toNat) (by omega)
        have h1 := hw _ hmem
        have h2 := hm _ hmem
        have e : (-ix l i - 1).toNat = (-ix l i).toNat - 1 := by omega
        rw [e] at hs h1 h2
        have h3 := ivW_len (wx ws ((-ix l i).toNat - 1))
        clear hmem
        repeat' (first|(refine ya ?_;first|refine yc ?_|refine ye ?_)|(refine yg ?_;intro hq;first|(replace hq:=zgy hq;first|refine yc ?_|refine yy hq ?_;clear hq)|(refine yn (zgn hq) ?_;clear hq)|((fail_if_success have:=zgy hq);refine zs hq ?_ ?_<;>clear hq<;>intro hg hr<;>try exact zx))|refine yz ?_|refine zst ?_|refine zo ?_|(refine zk ?_ ?_<;>intro hc hr<;>try exact zx))
        (refine zm (i + 1) ?_ ?_ <;> simp [go_sem, AVm, OBm, CVm, All2, lookS, hs, *] <;> exact zt)
      · have hs : exF ws l (i + 1) = exF ws l i := by unfold exF; rw [exN_s, exL, if_neg c1, if_neg c2, List.append_nil]
        repeat' (first|(refine ya ?_;first|refine yc ?_|refine ye ?_)|(refine yg ?_;intro hq;first|(replace hq:=zgy hq;first|refine yc ?_|refine yy hq ?_;clear hq)|(refine yn (zgn hq) ?_;clear hq)|((fail_if_success have:=zgy hq);refine zs hq ?_ ?_<;>clear hq<;>intro hg hr<;>try exact zx))|refine yz ?_|refine zst ?_|refine zo ?_|(refine zk ?_ ?_<;>intro hc hr<;>try exact zx))
        all_goals (refine zm (i + 1) ?_ ?_ <;> simp [go_sem, AVm, OBm, CVm, All2, lookS, hs, *] <;> exact zt)
  · have hii : i = m := by omega
    subst hii
    have hor : ¬ i < l.length ∨ ¬ (i : Int) < 200 := by omega
    have hfr : ∀ x ∈ exF ws l i, rg x := (exN_flat (l := l) hw hm (i := i) (by omega)).2
    clear hm0
    repeat' (first|(refine ya ?_;first|refine yc ?_|refine ye ?_)|(refine yg ?_;intro hq;first|(replace hq:=zgy hq;first|refine yc ?_|refine yy hq ?_;clear hq)|(refine yn (zgn hq) ?_;clear hq)|((fail_if_success have:=zgy hq);refine zs hq ?_ ?_<;>clear hq<;>intro hg hr<;>try exact zx))|refine yz ?_|refine zst ?_|refine zo ?_|(refine zk ?_ ?_<;>intro hc hr<;>try exact zx))
    all_goals try exact zv
instance : Con Tryz.prog 31 expand_sat2_S := con expand_sat2 Tryz.func31
end Go.Proofs.Tryz
