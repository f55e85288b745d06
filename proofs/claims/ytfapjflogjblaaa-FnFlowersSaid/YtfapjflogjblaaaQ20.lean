import Derived.Test.YtfapjflogjblaaaS
import Derived.Test.YtfapjflogjblaaaG5
set_option linter.unusedVariables false
set_option linter.unusedSimpArgs false
set_option linter.unnecessarySimpa false
namespace Go.Proofs.Try
open Go Go.Eng
set_option linter.unnecessarySimpa false
set_option linter.unusedSimpArgs false
set_option maxHeartbeats 4000000
/-! ### Lists of words -/
def tlN (ws : List (List Int)) : Nat → Nat
  | 0 => 0
  | i + 1 => tlN ws i + (wx ws i).length
theorem tlN_le {ws : List (List Int)} {M : Nat} (h : ∀ w ∈ ws, w.length ≤ M) : ∀ i, i ≤ ws.length → tlN ws i ≤ i * M
  | 0, _ => by simp [tlN]
  | i + 1, hi => by
    have ih := tlN_le h i (by omega)
    have := h _ (wx_mem (ws := ws) (i := i) (by omega))
    rw [tlN, Nat.succ_mul]; omega
theorem tlN_big {ws : List (List Int)} (h : ∀ w ∈ ws, w.length ≤ 1048576) {i : Nat} (hi : i ≤ ws.length) (hl : ws.length ≤ 1048576) : tlN ws i ≤ 1099511627776 := by
  have h1 := tlN_le h i hi
  have h2 : i * 1048576 ≤ 1048576 * 1048576 := Nat.mul_le_mul_right _ (by omega)
  omega
def tlW (ws : List (List Int)) : Nat := tlN ws ws.length
def awA (r : Int) (ws : List (List Int)) : Bool := ws.all (isW r)
theorem awA_bad {r : Int} {ws : List (List Int)} {i : Nat} (hi : i < ws.length) (h : isW r (wx ws i) = false) : awA r ws = false := by
  rw [← Bool.not_eq_true]
  intro h2
  have := List.all_eq_true.1 h2 _ (wx_mem hi)
  rw [h] at this; cases this
theorem awA_all {r : Int} {ws : List (List Int)} (h : ∀ j, j < ws.length → isW r (wx ws j) = true) : awA r ws = true := by
  refine List.all_eq_true.2 fun w hw => ?_
  obtain ⟨i, hi, rfl⟩ := wx_of hw
  exact h i hi
def awB (r : Int) (ws : List (List Int)) : Bool := decide (1 ≤ r ∧ r ≤ 3 ∧ ws.length ≤ 6) && (awA r ws && decide (tlW ws < 40))
theorem awB_no {r : Int} {ws : List (List Int)} (h : ¬ (1 ≤ r ∧ r ≤ 3 ∧ ws.length ≤ 6)) : awB r ws = false := by unfold awB; rw [decide_eq_false h]; rfl
theorem awB_bad {r : Int} {ws : List (List Int)} (h : awA r ws = false) : awB r ws = false := by unfold awB; rw [h]; simp
theorem awB_yes {r : Int} {ws : List (List Int)} (h : 1 ≤ r ∧ r ≤ 3 ∧ ws.length ≤ 6) (h2 : awA r ws = true) : awB r ws = decide (tlW ws < 40) := by unfold awB; rw [decide_eq_true h, h2]; rfl
theorem awB_iff {r : Int} {ws : List (List Int)} (h : awB r ws = true) : 1 ≤ r ∧ r ≤ 3 ∧ ws.length ≤ 6 := by
  simp only [awB, Bool.and_eq_true, decide_eq_true_eq] at h; exact h.1
def K_tot_sat : Nat → List Nat := fun i => ([[0], [0, 3], [3, 6, 7, 8], [3, 6, 7, 8, 9], [3, 5, 6, 7, 8], [3, 6, 7, 8], [3, 6, 7, 8], [2]] : List (List Nat)).getD i []
attribute [go_sem] K_tot_sat
def tot_sat_S : Eng.Spec := fun args av objs => ∃ (ws : List (List Int)), (ws.length ≤ 1048576 ∧ (∀ w ∈ ws, w.length ≤ 1048576)) ∧ args = [aW ws] ∧ av = aI (tlW ws) ∧ objs = []
theorem tot_sat : Sat Try.prog 26 tot_sat_S := by
  refine sat_of tok okr mixed K_tot_sat Try.func26 rfl (rs := [.tmp 2]) rfl Try.ntmps26 ?_
  rintro args av objs ⟨ws, hpre, rfl, rfl, rfl⟩
  refine ⟨by show 1 ≤ 18; decide, ?_⟩
  obtain ⟨hl, hw⟩ := hpre
  repeat' (first|(refine ya ?_;first|refine ye ?_)|refine yz ?_|refine zst ?_|refine k_blk_other rfl ?_|(refine zk ?_ ?_<;>intro hc hr<;>try first|contradiction|exfalso;omega))
  refine z_loop (fun i : Nat => [(8, aI i), (3, aI (tlN ws i))]) (fun i : Nat => []) (fun i : Nat => i ≤ ws.length) (fun i : Nat => ws.length - i) (0) (h0 := ?_) (henv := ?_) (hobj := ?_) (h := ?_)
  · omega
  · simp [go_sem, AVm, CVm, lookS, tlN]
  · simp [go_sem, OBm, CVm, lookS, All2, tlN]
  intro i hi
  have h1 := tlN_big hw hi hl
  rcases Nat.lt_or_ge i ws.length with hlt | hge
  · have hwl := hw _ (wx_mem hlt)
    have hs : tlN ws (i + 1) = tlN ws i + (wx ws i).length := rfl
    repeat' (first|(refine ya ?_;first|refine ye ?_)|refine yz ?_|refine zst ?_|refine k_blk_other rfl ?_|(refine zk ?_ ?_<;>intro hc hr<;>try first|contradiction|exfalso;omega))
    (refine z_lop (i + 1) (hj := ?_) (hmu := ?_) (henv := ?_) (hobj := ?_); (· omega); (· first | omega | (simp only; omega)); (· first | (simp [go_sem, AVm, CVm, lookS, hs, *]; done) | (simp [go_sem, AVm, CVm, lookS, hs, *] <;> (repeat' split) <;> first | omega | (simp_all; done) | (exfalso; omega) | (simp_all; omega))); (· first | (simp [go_sem, OBm, CVm, All2, lookS, hs, *]; done) | (simp [go_sem, OBm, CVm, All2, lookS, hs, *] <;> (repeat' split) <;> first | omega | (simp_all; done) | (exfalso; omega) | (simp_all; omega))))
  · have hii : i = ws.length := by omega
    subst hii
    have h2 : tlN ws ws.length = tlW ws := rfl
    repeat' (first|(refine ya ?_;first|refine ye ?_)|refine yz ?_|refine zst ?_|refine k_blk_other rfl ?_|(refine zk ?_ ?_<;>intro hc hr<;>try first|contradiction|exfalso;omega))
    all_goals first | (refine z_ret (hv := ?_) (ho := ?_) <;> first | rfl | (simp [go_sem, *]; done) | (simp_all; done) | (simp_all; omega)) | skip
instance : Con Try.prog 26 tot_sat_S := con tot_sat Try.func26
def K_tot_sat2 : Nat → List Nat := fun i => ([[0], [0, 3], [0, 3, 4], [0, 3, 4, 8], [0, 3, 4], [0, 3, 4], [2]] : List (List Nat)).getD i []
attribute [go_sem] K_tot_sat2
def tot_sat2_S : Eng.Spec := fun args av objs => ∃ (ws : List (List Int)), (ws.length ≤ 1048576 ∧ (∀ w ∈ ws, w.length ≤ 1048576)) ∧ args = [aW ws] ∧ av = aI (tlW ws) ∧ objs = []
theorem tot_sat2 : Sat Try.prog 27 tot_sat2_S := by
  refine sat_of tok okr mixed K_tot_sat2 Try.func27 rfl (rs := [.tmp 2]) rfl Try.ntmps27 ?_
  rintro args av objs ⟨ws, hpre, rfl, rfl, rfl⟩
  refine ⟨by show 1 ≤ 19; decide, ?_⟩
  obtain ⟨hl, hw⟩ := hpre
  repeat' (first|(refine ya ?_;first|refine ye ?_)|refine yz ?_|refine zst ?_|refine k_blk_other rfl ?_|(refine zk ?_ ?_<;>intro hc hr<;>try first|contradiction|exfalso;omega))
  refine z_loop (fun i : Nat => [(4, aI i), (3, aI (tlN ws i))]) (fun i : Nat => []) (fun i : Nat => i ≤ ws.length) (fun i : Nat => ws.length - i) (0) (h0 := ?_) (henv := ?_) (hobj := ?_) (h := ?_)
  · omega
  · simp [go_sem, AVm, CVm, lookS, tlN]
  · simp [go_sem, OBm, CVm, lookS, All2, tlN]
  intro i hi
  have h1 := tlN_big hw hi hl
  rcases Nat.lt_or_ge i ws.length with hlt | hge
  · have hwl := hw _ (wx_mem hlt)
    have hs : tlN ws (i + 1) = tlN ws i + (wx ws i).length := rfl
    repeat' (first|(refine ya ?_;first|refine ye ?_)|refine yz ?_|refine zst ?_|refine k_blk_other rfl ?_|(refine zk ?_ ?_<;>intro hc hr<;>try first|contradiction|exfalso;omega))
    (refine z_lop (i + 1) (hj := ?_) (hmu := ?_) (henv := ?_) (hobj := ?_); (· omega); (· first | omega | (simp only; omega)); (· first | (simp [go_sem, AVm, CVm, lookS, hs, *]; done) | (simp [go_sem, AVm, CVm, lookS, hs, *] <;> (repeat' split) <;> first | omega | (simp_all; done) | (exfalso; omega) | (simp_all; omega))); (· first | (simp [go_sem, OBm, CVm, All2, lookS, hs, *]; done) | (simp [go_sem, OBm, CVm, All2, lookS, hs, *] <;> (repeat' split) <;> first | omega | (simp_all; done) | (exfalso; omega) | (simp_all; omega))))
  · have hii : i = ws.length := by omega
    subst hii
    have h2 : tlN ws ws.length = tlW ws := rfl
    repeat' (first|(refine ya ?_;first|refine ye ?_)|refine yz ?_|refine zst ?_|refine k_blk_other rfl ?_|(refine zk ?_ ?_<;>intro hc hr<;>try first|contradiction|exfalso;omega))
    all_goals first | (refine z_ret (hv := ?_) (ho := ?_) <;> first | rfl | (simp [go_sem, *]; done) | (simp_all; done) | (simp_all; omega)) | skip
instance : Con Try.prog 27 tot_sat2_S := con tot_sat2 Try.func27
def K_areW_sat : Nat → List Nat := fun i => ([[0, 1], [0, 1, 14], [4], [0, 1, 15, 16, 17], [0, 1, 15, 16, 17, 18], [0, 1, 6, 15, 16, 17], [0, 1, 15, 16, 17, 24], [4], [0, 1, 15, 16, 17], [4]] : List (List Nat)).getD i []
attribute [go_sem] K_areW_sat
def areW_sat_S : Eng.Spec := fun args av objs => ∃ (r : Int) (ws : List (List Int)), (ws.length ≤ 1048576 ∧ (∀ w ∈ ws, w.length ≤ 1048576)) ∧ args = [aI r, aW ws] ∧ av = aB (awB r ws) ∧ objs = []
theorem areW_sat : Sat Try.prog 9 areW_sat_S := by
  refine sat_of tok okr mixed K_areW_sat Try.func9 rfl (rs := [.tmp 4]) rfl Try.ntmps9 ?_
  rintro args av objs ⟨r, ws, hpre, rfl, rfl, rfl⟩
  refine ⟨by show 2 ≤ 29; decide, ?_⟩
  obtain ⟨hl, hw⟩ := hpre
  by_cases hb : 1 ≤ r ∧ r ≤ 3 ∧ ws.length ≤ 6
  · repeat' (first|(refine ya ?_;first|(refine yb ?_;first|refine yc ?_)|refine ye ?_)|(refine yg ?_;intro hgs;first|(replace hgs:=zgy hgs;first|(refine yb ?_;first|refine yc ?_)|refine yy hgs ?_;clear hgs)|(refine yn (zgn hgs) ?_;clear hgs)|((fail_if_success have:=zgy hgs);refine z_spl hgs (h1:=?_) (h2:=?_)<;>clear hgs<;>intro hg hr<;>try first|contradiction|exfalso;omega))|refine yz ?_|refine zst ?_|refine k_blk_other rfl ?_|(refine zk ?_ ?_<;>intro hc hr<;>try first|contradiction|exfalso;omega))
    refine z_loop (fun i : Nat => [(17, aI i)]) (fun i : Nat => []) (fun i : Nat => i ≤ ws.length ∧ ∀ j, j < i → isW r (wx ws j) = true) (fun i : Nat => ws.length - i) (0) (h0 := ?_) (henv := ?_) (hobj := ?_) (h := ?_)
    · exact ⟨by omega, fun j hj => by omega⟩
    · simp [go_sem, AVm, CVm, lookS]
    · simp [go_sem, OBm, CVm, lookS, All2]
    rintro i ⟨hi, hall⟩
    rcases Nat.lt_or_ge i ws.length with hlt | hge
    · have hwl := hw _ (wx_mem hlt)
      cases hww : isW r (wx ws i)
      · rw [awB_bad (awA_bad hlt hww)]
        repeat' (first|(refine ya ?_;first|(refine yb ?_;first|refine yc ?_)|refine ye ?_)|(refine yg ?_;intro hgs;first|(replace hgs:=zgy hgs;first|(refine yb ?_;first|refine yc ?_)|refine yy hgs ?_;clear hgs)|(refine yn (zgn hgs) ?_;clear hgs)|((fail_if_success have:=zgy hgs);refine z_spl hgs (h1:=?_) (h2:=?_)<;>clear hgs<;>intro hg hr<;>try first|contradiction|exfalso;omega))|refine yz ?_|refine zst ?_|refine k_blk_other rfl ?_|(refine zk ?_ ?_<;>intro hc hr<;>try first|contradiction|exfalso;omega))
        all_goals first | (refine z_ret (hv := ?_) (ho := ?_) <;> first | rfl | (simp [go_sem, *]; done) | (simp_all; done) | (simp_all; omega)) | skip
      · repeat' (first|(refine ya ?_;first|(refine yb ?_;first|refine yc ?_)|refine ye ?_)|(refine yg ?_;intro hgs;first|(replace hgs:=zgy hgs;first|(refine yb ?_;first|refine yc ?_)|refine yy hgs ?_;clear hgs)|(refine yn (zgn hgs) ?_;clear hgs)|((fail_if_success have:=zgy hgs);refine z_spl hgs (h1:=?_) (h2:=?_)<;>clear hgs<;>intro hg hr<;>try first|contradiction|exfalso;omega))|refine yz ?_|refine zst ?_|refine k_blk_other rfl ?_|(refine zk ?_ ?_<;>intro hc hr<;>try first|contradiction|exfalso;omega))
        exact zl (i + 1) (hj := by exact ⟨by omega, fun j hj => (Nat.lt_or_ge j i).elim (hall j) fun h => by rw [show j = i by omega]; exact hww⟩)
    · rw [awB_yes hb (awA_all fun j hj => hall j (by omega))]
      repeat' (first|(refine ya ?_;first|(refine yb ?_;first|refine yc ?_)|refine ye ?_)|(refine yg ?_;intro hgs;first|(replace hgs:=zgy hgs;first|(refine yb ?_;first|refine yc ?_)|refine yy hgs ?_;clear hgs)|(refine yn (zgn hgs) ?_;clear hgs)|((fail_if_success have:=zgy hgs);refine z_spl hgs (h1:=?_) (h2:=?_)<;>clear hgs<;>intro hg hr<;>try first|contradiction|exfalso;omega))|refine yz ?_|refine zst ?_|refine k_blk_other rfl ?_|(refine zk ?_ ?_<;>intro hc hr<;>try first|contradiction|exfalso;omega))
      all_goals first | (refine z_ret (hv := ?_) (ho := ?_) <;> first | rfl | (simp [go_sem, *]; done) | (simp_all; done) | (simp_all; omega)) | skip
  · rw [awB_no hb]
    repeat' (first|(refine ya ?_;first|(refine yb ?_;first|refine yc ?_)|refine ye ?_)|(refine yg ?_;intro hgs;first|(replace hgs:=zgy hgs;first|(refine yb ?_;first|refine yc ?_)|refine yy hgs ?_;clear hgs)|(refine yn (zgn hgs) ?_;clear hgs)|((fail_if_success have:=zgy hgs);refine z_spl hgs (h1:=?_) (h2:=?_)<;>clear hgs<;>intro hg hr<;>try first|contradiction|exfalso;omega))|refine yz ?_|refine zst ?_|refine k_blk_other rfl ?_|(refine zk ?_ ?_<;>intro hc hr<;>try first|contradiction|exfalso;omega))
    all_goals first | (refine z_ret (hv := ?_) (ho := ?_) <;> first | rfl | (simp [go_sem, *]; done) | (simp_all; done) | (simp_all; omega)) | skip
instance : Con Try.prog 9 areW_sat_S := con areW_sat Try.func9
def K_areW_sat2 : Nat → List Nat := fun i => ([[0, 1], [0, 1, 5], [0, 1, 5, 9], [0, 1, 5], [0, 1, 5, 18], [4], [4]] : List (List Nat)).getD i []
attribute [go_sem] K_areW_sat2
def areW_sat2_S : Eng.Spec := fun args av objs => ∃ (r : Int) (ws : List (List Int)), (ws.length ≤ 1048576 ∧ (∀ w ∈ ws, w.length ≤ 1048576)) ∧ args = [aI r, aW ws] ∧ av = aB (awB r ws) ∧ objs = []
theorem areW_sat2 : Sat Try.prog 10 areW_sat2_S := by
  refine sat_of tok okr mixed K_areW_sat2 Try.func10 rfl (rs := [.tmp 4]) rfl Try.ntmps10 ?_
  rintro args av objs ⟨r, ws, hpre, rfl, rfl, rfl⟩
  refine ⟨by show 2 ≤ 31; decide, ?_⟩
  obtain ⟨hl, hw⟩ := hpre
  repeat' (first|(refine ya ?_;first|(refine yb ?_;first|refine yc ?_)|refine ye ?_)|(refine yg ?_;intro hgs;first|(replace hgs:=zgy hgs;first|(refine yb ?_;first|refine yc ?_)|refine yy hgs ?_;clear hgs)|(refine yn (zgn hgs) ?_;clear hgs)|((fail_if_success have:=zgy hgs);refine z_spl hgs (h1:=?_) (h2:=?_)<;>clear hgs<;>intro hg hr<;>try first|contradiction|exfalso;omega))|refine yz ?_|refine zst ?_|refine k_blk_other rfl ?_|(refine zk ?_ ?_<;>intro hc hr<;>try first|contradiction|exfalso;omega))
  refine z_loop (fun i : Nat => [(5, aI i)]) (fun i : Nat => []) (fun i : Nat => i ≤ ws.length ∧ ∀ j, j < i → isW r (wx ws j) = true) (fun i : Nat => ws.length - i) (0) (h0 := ?_) (henv := ?_) (hobj := ?_) (h := ?_)
  · exact ⟨by omega, fun j hj => by omega⟩
  · simp [go_sem, AVm, CVm, lookS]
  · simp [go_sem, OBm, CVm, lookS, All2]
  rintro i ⟨hi, hall⟩
  rcases Nat.lt_or_ge i ws.length with hlt | hge
  · have hwl := hw _ (wx_mem hlt)
    cases hww : isW r (wx ws i)
    · rw [awB_bad (awA_bad hlt hww)]
      repeat' (first|(refine ya ?_;first|(refine yb ?_;first|refine yc ?_)|refine ye ?_)|(refine yg ?_;intro hgs;first|(replace hgs:=zgy hgs;first|(refine yb ?_;first|refine yc ?_)|refine yy hgs ?_;clear hgs)|(refine yn (zgn hgs) ?_;clear hgs)|((fail_if_success have:=zgy hgs);refine z_spl hgs (h1:=?_) (h2:=?_)<;>clear hgs<;>intro hg hr<;>try first|contradiction|exfalso;omega))|refine yz ?_|refine zst ?_|refine k_blk_other rfl ?_|(refine zk ?_ ?_<;>intro hc hr<;>try first|contradiction|exfalso;omega))
      all_goals first | (refine z_ret (hv := ?_) (ho := ?_) <;> first | rfl | (simp [go_sem, *]; done) | (simp_all; done) | (simp_all; omega)) | skip
    · repeat' (first|(refine ya ?_;first|(refine yb ?_;first|refine yc ?_)|refine ye ?_)|(refine yg ?_;intro hgs;first|(replace hgs:=zgy hgs;first|(refine yb ?_;first|refine yc ?_)|refine yy hgs ?_;clear hgs)|(refine yn (zgn hgs) ?_;clear hgs)|((fail_if_success have:=zgy hgs);refine z_spl hgs (h1:=?_) (h2:=?_)<;>clear hgs<;>intro hg hr<;>try first|contradiction|exfalso;omega))|refine yz ?_|refine zst ?_|refine k_blk_other rfl ?_|(refine zk ?_ ?_<;>intro hc hr<;>try first|contradiction|exfalso;omega))
      exact zl (i + 1) (hj := by exact ⟨by omega, fun j hj => (Nat.lt_or_ge j i).elim (hall j) fun h => by rw [show j = i by omega]; exact hww⟩)
  · by_cases hb : 1 ≤ r ∧ r ≤ 3 ∧ ws.length ≤ 6
    · rw [awB_yes hb (awA_all fun j hj => hall j (by omega))]
      repeat' (first|(refine ya ?_;first|(refine yb ?_;first|refine yc ?_)|refine ye ?_)|(refine yg ?_;intro hgs;first|(replace hgs:=zgy hgs;first|(refine yb ?_;first|refine yc ?_)|refine yy hgs ?_;clear hgs)|(refine yn (zgn hgs) ?_;clear hgs)|((fail_if_success have:=zgy hgs);refine z_spl hgs (h1:=?_) (h2:=?_)<;>clear hgs<;>intro hg hr<;>try first|contradiction|exfalso;omega))|refine yz ?_|refine zst ?_|refine k_blk_other rfl ?_|(refine zk ?_ ?_<;>intro hc hr<;>try first|contradiction|exfalso;omega))
      all_goals first | (refine z_ret (hv := ?_) (ho := ?_) <;> first | rfl | (simp [go_sem, *]; done) | (simp_all; done) | (simp_all; omega)) | skip
    · rw [awB_no hb]
      repeat' (first|(refine ya ?_;first|(refine yb ?_;first|refine yc ?_)|refine ye ?_)|(refine yg ?_;intro hgs;first|(replace hgs:=zgy hgs;first|(refine yb ?_;first|refine yc ?_)|refine yy hgs ?_;clear hgs)|(refine yn (zgn hgs) ?_;clear hgs)|((fail_if_success have:=zgy hgs);refine z_spl hgs (h1:=?_) (h2:=?_)<;>clear hgs<;>intro hg hr<;>try first|contradiction|exfalso;omega))|refine yz ?_|refine zst ?_|refine k_blk_other rfl ?_|(refine zk ?_ ?_<;>intro hc hr<;>try first|contradiction|exfalso;omega))
      all_goals first | (refine z_ret (hv := ?_) (ho := ?_) <;> first | rfl | (simp [go_sem, *]; done) | (simp_all; done) | (simp_all; omega)) | skip
/-! ### Flowers -/
def flN (r : Int) (ws : List (List Int)) : Nat → Gr
  | 0 => ⟨r, 1, []⟩
  | i + 1 => pth (flN r ws i) 0 (wx ws i) 0
def flG (r : Int) (ws : List (List Int)) : Gr := flN r ws ws.length
theorem pth_r (g : Gr) (u : Int) (w : List Int) (v : Int) : (pth g u w v).r = g.r := by unfold pth; split <;> rfl
theorem flN_r (r : Int) (ws : List (List Int)) : ∀ i, (flN r ws i).r = r
  | 0 => rfl
  | i + 1 => by rw [flN, pth_r, flN_r]
theorem flN_es (r : Int) (ws : List (List Int)) : ∀ i, (flN r ws i).es.length ≤ 1048576
  | 0 => by simp [flN]
  | i + 1 => pth_es (flN_es r ws i) (by omega)
theorem flG_es (r : Int) (ws : List (List Int)) : (flG r ws).es.length ≤ 1048576 := flN_es r ws _
theorem pth_nil (g : Gr) : pth g 0 [] 0 = g := pth_no (by simp [pthOk])
theorem edsNil' : eds [] = [] := rfl
instance : Con Try.prog 10 areW_sat2_S := con areW_sat2 Try.func10
def K_newG_yes : Nat → List Nat := fun i => ([[0, 2], [0, 2, 6], [2, 3], [2, 3]] : List (List Nat)).getD i []
attribute [go_sem] K_newG_yes
def newG_yes_S : Eng.Spec := fun args av objs => ∃ (r : Int), (1 ≤ r ∧ r ≤ 3) ∧ args = [aI r] ∧ av = .tup [.agg [.sc (.int r), .sc (.int 1), .nil], aB true] ∧ objs = []
theorem newG_yes : Sat Try.prog 32 newG_yes_S := by
  refine sat_of tok okr mixed K_newG_yes Try.func32 rfl (rs := [.cell 2 29, .tmp 3]) rfl Try.ntmps32 ?_
  rintro args av objs ⟨r, hpre, rfl, rfl, rfl⟩
  refine ⟨by show 1 ≤ 10; decide, ?_⟩
  repeat' (first|(refine ya ?_;first|(refine yb ?_;first|refine yc ?_)|refine ye ?_)|refine yz ?_|refine zst ?_|refine k_blk_other rfl ?_|(refine zk ?_ ?_<;>intro hc hr<;>try first|contradiction|exfalso;omega))
  all_goals first | (refine z_ret (hv := ?_) (ho := ?_) <;> first | rfl | (simp [go_sem, *]; done) | (simp_all; done) | (simp_all; omega)) | skip
instance : Con Try.prog 32 newG_yes_S := con newG_yes Try.func32
def K_flower_no : Nat → List Nat := fun i => ([[0, 1, 4], [0, 1, 4, 13], [4, 5], [1, 4, 6], [4, 6, 20, 21, 22], [4, 6, 20, 21, 22, 23], [4, 6, 9, 20, 21, 22], [4, 6, 9, 20, 21, 22, 28], [4, 6, 20, 21, 22], [4, 6, 20, 21, 22], [4, 5]] : List (List Nat)).getD i []
attribute [go_sem] K_flower_no
def flower_no_S : Eng.Spec := fun args av objs => ∃ (r : Int) (ws : List (List Int)), (ws.length ≤ 1048576 ∧ (∀ w ∈ ws, w.length ≤ 1048576) ∧ awB r ws = false) ∧ args = [aI r, aW ws] ∧ av = .tup [.agg [.sc (.int 0), .sc (.int 0), .nil], aB false] ∧ objs = []
theorem flower_no : Sat Try.prog 6 flower_no_S := by
  refine sat_of tok okr mixed K_flower_no Try.func6 rfl (rs := [.cell 4 29, .tmp 5]) rfl Try.ntmps6 ?_
  rintro args av objs ⟨r, ws, hpre, rfl, rfl, rfl⟩
  refine ⟨by show 2 ≤ 37; decide, ?_⟩
  obtain ⟨hl, hw, hok⟩ := hpre
  repeat' (first|(refine ya ?_;first|(refine yb ?_;first|refine yc ?_)|refine ye ?_)|refine yz ?_|refine zst ?_|refine k_blk_other rfl ?_|(refine zk ?_ ?_<;>intro hc hr<;>try first|contradiction|exfalso;omega))
  all_goals first | (refine z_ret (hv := ?_) (ho := ?_) <;> first | rfl | (simp [go_sem, *]; done) | (simp_all; done) | (simp_all; omega)) | skip
instance : Con Try.prog 6 flower_no_S := con flower_no Try.func6
def K_flower_yes : Nat → List Nat := fun i => ([[0, 1, 4], [0, 1, 4, 13], [4, 5], [1, 4, 6], [4, 6, 20, 21, 22], [4, 6, 20, 21, 22, 23], [4, 6, 9, 20, 21, 22], [4, 6, 9, 20, 21, 22, 28], [4, 6, 20, 21, 22], [4, 6, 20, 21, 22], [4, 5]] : List (List Nat)).getD i []
attribute [go_sem] K_flower_yes
def flower_yes_S : Eng.Spec := fun args av objs => ∃ (r : Int) (ws : List (List Int)), (ws.length ≤ 1048576 ∧ (∀ w ∈ ws, w.length ≤ 1048576) ∧ awB r ws = true) ∧ args = [aI r, aW ws] ∧ av = .tup [gT (flG r ws), aB true] ∧ objs = [oE 56 (flG r ws).es]
theorem flower_yes : Sat Try.prog 6 flower_yes_S := by
  refine sat_of tok okr mixed K_flower_yes Try.func6 rfl (rs := [.cell 4 29, .tmp 5]) rfl Try.ntmps6 ?_
  rintro args av objs ⟨r, ws, hpre, rfl, rfl, rfl⟩
  refine ⟨by show 2 ≤ 37; decide, ?_⟩
  obtain ⟨hl, hw, hok⟩ := hpre
  have hb := awB_iff hok
  have hfr := fun i => flN_r r ws i
  repeat' (first|(refine ya ?_;first|(refine yb ?_;first|refine yc ?_)|refine ye ?_)|refine yz ?_|refine zst ?_|refine k_blk_other rfl ?_|(refine zk ?_ ?_<;>intro hc hr<;>try first|contradiction|exfalso;omega))
  refine z_loop (fun i : Nat => [(22, aI i)]) (fun i : Nat => [.cell 6 0 (.sc (.int (flN r ws i).r)), .cell 6 1 (.sc (.int (flN r ws i).z)), .cell 6 2 (.ref 900), .inner 6 (oE 56 (flN r ws i).es)]) (fun i : Nat => i ≤ ws.length) (fun i : Nat => ws.length - i) (0) (h0 := ?_) (henv := ?_) (hobj := ?_) (h := ?_)
  · omega
  · simp [go_sem, AVm, CVm, lookS, flN, edsNil']
  · simp [go_sem, OBm, CVm, lookS, All2, flN, edsNil']
  intro i hi
  have hes := flN_es r ws i
  rcases Nat.lt_or_ge i ws.length with hlt | hge
  · have hwl := hw _ (wx_mem hlt)
    have hs : flN r ws (i + 1) = pth (flN r ws i) 0 (wx ws i) 0 := rfl
    rcases Nat.eq_zero_or_pos (wx ws i).length with h0 | h0
    · have hs2 : flN r ws (i + 1) = flN r ws i := by rw [hs, List.eq_nil_of_length_eq_zero h0, pth_nil]
      clear hs hfr
      repeat' (first|(refine ya ?_;first|(refine yb ?_;first|refine yc ?_)|refine ye ?_)|refine yz ?_|refine zst ?_|refine k_blk_other rfl ?_|(refine zk ?_ ?_<;>intro hc hr<;>try first|contradiction|exfalso;omega))
      (refine z_lop (i + 1) (hj := ?_) (hmu := ?_) (henv := ?_) (hobj := ?_); (· omega); (· first | omega | (simp only; omega)); (· first | (simp [go_sem, AVm, CVm, lookS, hs2, *]; done) | (simp [go_sem, AVm, CVm, lookS, hs2, *] <;> (repeat' split) <;> first | omega | (simp_all; done) | (exfalso; omega) | (simp_all; omega))); (· first | (simp [go_sem, OBm, CVm, All2, lookS, hs2, *]; done) | (simp [go_sem, OBm, CVm, All2, lookS, hs2, *] <;> (repeat' split) <;> first | omega | (simp_all; done) | (exfalso; omega) | (simp_all; omega))))
    · clear hfr
      repeat' (first|(refine ya ?_;first|(refine yb ?_;first|refine yc ?_)|refine ye ?_)|refine yz ?_|refine zst ?_|refine k_blk_other rfl ?_|(refine zk ?_ ?_<;>intro hc hr<;>try first|contradiction|exfalso;omega))
      (refine z_lop (i + 1) (hj := ?_) (hmu := ?_) (henv := ?_) (hobj := ?_); (· omega); (· first | omega | (simp only; omega)); (· first | (simp [go_sem, AVm, CVm, lookS, hs, *]; done) | (simp [go_sem, AVm, CVm, lookS, hs, *] <;> (repeat' split) <;> first | omega | (simp_all; done) | (exfalso; omega) | (simp_all; omega))); (· first | (simp [go_sem, OBm, CVm, All2, lookS, hs, *]; done) | (simp [go_sem, OBm, CVm, All2, lookS, hs, *] <;> (repeat' split) <;> first | omega | (simp_all; done) | (exfalso; omega) | (simp_all; omega))))
  · have hii : i = ws.length := by omega
    subst hii
    clear hfr
    repeat' (first|(refine ya ?_;first|(refine yb ?_;first|refine yc ?_)|refine ye ?_)|refine yz ?_|refine zst ?_|refine k_blk_other rfl ?_|(refine zk ?_ ?_<;>intro hc hr<;>try first|contradiction|exfalso;omega))
    all_goals first | (refine z_ret (hv := ?_) (ho := ?_) <;> first | rfl | (simp [go_sem, flG, *]; done) | (simp_all [flG]; done) | (simp_all [flG]; omega)) | skip
instance (priority := 2000) : Con Try.prog 6 (orS flower_no_S flower_yes_S) := con2 flower_no flower_yes Try.func6
def K_newG_yes2 : Nat → List Nat := fun i => ([[0, 2], [0, 2, 6], [2, 3], [2, 3]] : List (List Nat)).getD i []
attribute [go_sem] K_newG_yes2
def newG_yes2_S : Eng.Spec := fun args av objs => ∃ (r : Int), (1 ≤ r ∧ r ≤ 3) ∧ args = [aI r] ∧ av = .tup [.agg [.sc (.int r), .sc (.int 1), .nil], aB true] ∧ objs = []
theorem newG_yes2 : Sat Try.prog 33 newG_yes2_S := by
  refine sat_of tok okr mixed K_newG_yes2 Try.func33 rfl (rs := [.cell 2 29, .tmp 3]) rfl Try.ntmps33 ?_
  rintro args av objs ⟨r, hpre, rfl, rfl, rfl⟩
  refine ⟨by show 1 ≤ 10; decide, ?_⟩
  repeat' (first|(refine ya ?_;first|(refine yb ?_;first|refine yc ?_)|refine ye ?_)|refine yz ?_|refine zst ?_|refine k_blk_other rfl ?_|(refine zk ?_ ?_<;>intro hc hr<;>try first|contradiction|exfalso;omega))
  all_goals first | (refine z_ret (hv := ?_) (ho := ?_) <;> first | rfl | (simp [go_sem, *]; done) | (simp_all; done) | (simp_all; omega)) | skip
instance : Con Try.prog 33 newG_yes2_S := con newG_yes2 Try.func33
def K_flower_no2 : Nat → List Nat := fun i => ([[0, 1, 4], [0, 1, 4, 14], [4, 5], [1, 4, 6], [1, 4, 6, 8], [1, 4, 6, 8, 24], [1, 4, 6, 8], [1, 4, 6, 8, 9], [1, 4, 6, 8], [4, 5]] : List (List Nat)).getD i []
attribute [go_sem] K_flower_no2
def flower_no2_S : Eng.Spec := fun args av objs => ∃ (r : Int) (ws : List (List Int)), (ws.length ≤ 1048576 ∧ (∀ w ∈ ws, w.length ≤ 1048576) ∧ awB r ws = false) ∧ args = [aI r, aW ws] ∧ av = .tup [.agg [.sc (.int 0), .sc (.int 0), .nil], aB false] ∧ objs = []
theorem flower_no2 : Sat Try.prog 7 flower_no2_S := by
  refine sat_of tok okr mixed K_flower_no2 Try.func7 rfl (rs := [.cell 4 29, .tmp 5]) rfl Try.ntmps7 ?_
  rintro args av objs ⟨r, ws, hpre, rfl, rfl, rfl⟩
  refine ⟨by show 2 ≤ 38; decide, ?_⟩
  obtain ⟨hl, hw, hok⟩ := hpre
  repeat' (first|(refine ya ?_;first|(refine yb ?_;first|refine yc ?_)|refine ye ?_)|refine yz ?_|(refine yA ?_;first|(refine yB ?_;first|refine yC ?_)|refine yE ?_)|refine yZ ?_|refine zst ?_|refine k_blk_other rfl ?_|(refine zk ?_ ?_<;>intro hc hr<;>try first|contradiction|exfalso;omega))
  all_goals first | (refine z_ret (hv := ?_) (ho := ?_) <;> first | rfl | (simp [go_sem, *]; done) | (simp_all; done) | (simp_all; omega)) | skip
instance : Con Try.prog 7 flower_no2_S := con flower_no2 Try.func7
def K_flower_yes2 : Nat → List Nat := fun i => ([[0, 1, 4], [0, 1, 4, 14], [4, 5], [1, 4, 6], [1, 4, 6, 8], [1, 4, 6, 8, 24], [1, 4, 6, 8], [1, 4, 6, 8, 9], [1, 4, 6, 8], [4, 5]] : List (List Nat)).getD i []
attribute [go_sem] K_flower_yes2
def flower_yes2_S : Eng.Spec := fun args av objs => ∃ (r : Int) (ws : List (List Int)), (ws.length ≤ 1048576 ∧ (∀ w ∈ ws, w.length ≤ 1048576) ∧ awB r ws = true) ∧ args = [aI r, aW ws] ∧ av = .tup [gT (flG r ws), aB true] ∧ objs = [oE 56 (flG r ws).es]
theorem flower_yes2 : Sat Try.prog 7 flower_yes2_S := by
  refine sat_of tok okr mixed K_flower_yes2 Try.func7 rfl (rs := [.cell 4 29, .tmp 5]) rfl Try.ntmps7 ?_
  rintro args av objs ⟨r, ws, hpre, rfl, rfl, rfl⟩
  refine ⟨by show 2 ≤ 38; decide, ?_⟩
  obtain ⟨hl, hw, hok⟩ := hpre
  have hb := awB_iff hok
  repeat' (first|(refine ya ?_;first|(refine yb ?_;first|refine yc ?_)|refine ye ?_)|refine yz ?_|(refine yA ?_;first|(refine yB ?_;first|refine yC ?_)|refine yE ?_)|refine yZ ?_|refine zst ?_|refine k_blk_other rfl ?_|(refine zk ?_ ?_<;>intro hc hr<;>try first|contradiction|exfalso;omega))
  refine z_loop (fun i : Nat => [(8, aI i)]) (fun i : Nat => [.cell 6 0 (.sc (.int (flN r ws i).r)), .cell 6 1 (.sc (.int (flN r ws i).z)), .cell 6 2 (.ref 900), .inner 6 (oE 56 (flN r ws i).es)]) (fun i : Nat => i ≤ ws.length) (fun i : Nat => ws.length - i) (0) (h0 := ?_) (henv := ?_) (hobj := ?_) (h := ?_)
  · omega
  · simp [go_sem, AVm, CVm, lookS, flN, edsNil']
  · simp [go_sem, OBm, CVm, lookS, All2, flN, edsNil']
  intro i hi
  have hes := flN_es r ws i
  rcases Nat.lt_or_ge i ws.length with hlt | hge
  · have hwl := hw _ (wx_mem hlt)
    have hs : flN r ws (i + 1) = pth (flN r ws i) 0 (wx ws i) 0 := rfl
    repeat' (first|(refine ya ?_;first|(refine yb ?_;first|refine yc ?_)|refine ye ?_)|refine yz ?_|(refine yA ?_;first|(refine yB ?_;first|refine yC ?_)|refine yE ?_)|refine yZ ?_|refine zst ?_|refine k_blk_other rfl ?_|(refine zk ?_ ?_<;>intro hc hr<;>try first|contradiction|exfalso;omega))
    (refine z_lop (i + 1) (hj := ?_) (hmu := ?_) (henv := ?_) (hobj := ?_); (· omega); (· first | omega | (simp only; omega)); (· first | (simp [go_sem, AVm, CVm, lookS, hs, *]; done) | (simp [go_sem, AVm, CVm, lookS, hs, *] <;> (repeat' split) <;> first | omega | (simp_all; done) | (exfalso; omega) | (simp_all; omega))); (· first | (simp [go_sem, OBm, CVm, All2, lookS, hs, *]; done) | (simp [go_sem, OBm, CVm, All2, lookS, hs, *] <;> (repeat' split) <;> first | omega | (simp_all; done) | (exfalso; omega) | (simp_all; omega))))
  · have hii : i = ws.length := by omega
    subst hii
    repeat' (first|(refine ya ?_;first|(refine yb ?_;first|refine yc ?_)|refine ye ?_)|refine yz ?_|(refine yA ?_;first|(refine yB ?_;first|refine yC ?_)|refine yE ?_)|refine yZ ?_|refine zst ?_|refine k_blk_other rfl ?_|(refine zk ?_ ?_<;>intro hc hr<;>try first|contradiction|exfalso;omega))
    all_goals first | (refine z_ret (hv := ?_) (ho := ?_) <;> first | rfl | (simp [go_sem, flG, *]; done) | (simp_all [flG]; done) | (simp_all [flG]; omega)) | skip
instance (priority := 2000) : Con Try.prog 7 (orS flower_no2_S flower_yes2_S) := con2 flower_no2 flower_yes2 Try.func7
end Go.Proofs.Try
