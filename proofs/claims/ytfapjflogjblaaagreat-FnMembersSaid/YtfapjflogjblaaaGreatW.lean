import Derived.Test.YtfapjflogjblaaaGreatC
import Derived.Test.YtfapjflogjblaaaGreatS
import Derived.Test.YtfapjflogjblaaaGreatK
set_option linter.unusedVariables false
set_option linter.unusedSimpArgs false
set_option linter.unnecessarySimpa false
namespace Go.Proofs.Tryz
open Go Go.Eng
set_option linter.unnecessarySimpa false
set_option linter.unusedSimpArgs false
set_option maxHeartbeats 4000000
theorem sp_inv {a x : Int} (ha : -9223372036854775808 ≤ a ∧ a ≤ 9223372036854775807) (hx : -9223372036854775808 ≤ x ∧ x ≤ 9223372036854775807) (h0 : ¬ x = 0) (h1 : a = w64 (-x)) (h2 : ¬ w64 (-x) = x) : inv2 a x = true := by
  have h3 : ¬ x = -9223372036854775808 := by
    rintro rfl
    exact h2 (by decide)
  rw [w64Id ⟨by omega, by omega⟩] at h1
  simp [inv2]; omega
def K_areInv_sat : Nat → List Nat := fun i => ([[0, 1], [4]] : List (List Nat)).getD i []
attribute [go_sem] K_areInv_sat
def areInv_sat_S : Eng.Spec := fun args av objs => ∃ (a b : Int), (rg a ∧ rg b) ∧ args = [aI a, aI b] ∧ av = aB (inv2 a b) ∧ objs = []
theorem areInv_sat : Sat Tryz.prog 103 areInv_sat_S := by
  refine sat_of tok okr mixed K_areInv_sat Tryz.func103 rfl (rs := [.tmp 4]) rfl Tryz.ntmps103 ?_
  rintro args av objs ⟨a, b, hpre, rfl, rfl, rfl⟩
  refine ⟨by show 2 ≤ 17; decide, ?_⟩
  unfold rg at hpre
  by_cases ha : a = -9223372036854775808
  · subst ha
    have : inv2 (-9223372036854775808) b = false := by simp [inv2]
    rw [this]
    repeat' (first|(refine ya ?_;first|refine ye ?_)|(refine yg ?_;intro hgs;first|(replace hgs:=zgy hgs;first|refine yy hgs ?_;clear hgs)|(refine yn (zgn hgs) ?_;clear hgs)|((fail_if_success have:=zgy hgs);refine z_spl hgs (h1:=?_) (h2:=?_)<;>clear hgs<;>intro hg hr<;>try first|contradiction|exfalso;omega))|refine yz ?_|refine zst ?_|refine k_blk_other rfl ?_|(refine zk ?_ ?_<;>intro hc hr<;>try first|contradiction|exfalso;omega))
    all_goals first | (refine z_ret (hv := ?_) (ho := ?_) <;> first | rfl | (simp [go_sem, *]; done) | (simp_all; done) | (simp_all; omega)) | skip
  · have : inv2 a b = (decide (a ≠ 0) && decide (b = -a)) := by simp [inv2, ha]
    rw [this]
    repeat' (first|(refine ya ?_;first|refine ye ?_)|(refine yg ?_;intro hgs;first|(replace hgs:=zgy hgs;first|refine yy hgs ?_;clear hgs)|(refine yn (zgn hgs) ?_;clear hgs)|((fail_if_success have:=zgy hgs);refine z_spl hgs (h1:=?_) (h2:=?_)<;>clear hgs<;>intro hg hr<;>try first|contradiction|exfalso;omega))|refine yz ?_|refine zst ?_|refine k_blk_other rfl ?_|(refine zk ?_ ?_<;>intro hc hr<;>try first|contradiction|exfalso;omega))
    all_goals refine z_ret (hv := ?_) (ho := ?_)
    all_goals first | rfl | (simp_all; done) | (congr 3; rw [Bool.eq_iff_iff]; simp_all)
instance (priority := 3000) : Con Tryz.prog 103 (orS (specOf areInverse_sat) (specOf areInv_sat)) := con2 areInverse_sat areInv_sat Tryz.func103
/-- Lists of words as an argument: the words; that they are words of ints. -/
def unI (xss : List (List El)) : List Int := xss.flatten.map fun x => match x with | [.int n] => n | _ => 0
def PW (xss : List (List El)) : Prop := ∃ ws : List (List Int), xss = intss ws ∧ ws.length ≤ 1024 ∧ (∀ i, i < ws.length → (wx ws i).length ≤ 4194304) ∧ ∀ w ∈ ws, ∀ x ∈ w, rg x
theorem unI_ints (l : List Int) : (ints l).map (fun x : El => match x with | [.int n] => n | _ => 0) = l := by
  induction l with
  | nil => rfl
  | cons x r ih => simpa [ints] using ih
theorem unI_cons (l : List Int) (r : List (List El)) : unI (ints l :: r) = l ++ unI r := by
  simp only [unI, List.flatten_cons, List.map_append, unI_ints]
theorem unI_nil : unI [] = [] := rfl
theorem unI_ss (ws : List (List Int)) : unI (intss ws) = ws.flatten := by
  induction ws with
  | nil => rfl
  | cons w r ih => rw [show intss (w :: r) = ints w :: intss r from rfl, unI_cons, ih]; rfl
theorem PW_of {ws : List (List Int)} (h0 : ws.length ≤ 1024) (h : ∀ w ∈ ws, w.length ≤ 4194304 ∧ ∀ x ∈ w, rg x) : PW (intss ws) :=
  ⟨ws, rfl, h0, fun i hi => (h _ (wx_mem hi)).1, fun w hw => (h w hw).2⟩
theorem PW1 {a : List Int} (ha : a.length ≤ 4194304 ∧ ∀ x ∈ a, rg x) : PW [ints a] := PW_of (ws := [a]) (by simp) (by simpa using ha)
theorem unI_one (y : Int) (r : List (List El)) : unI ([[.int y]] :: r) = [y] ++ unI r := unI_cons [y] r
attribute [go_sem] unI_cons unI_nil unI_one
instance : Con Tryz.prog 103 areInv_sat_S := con areInv_sat Tryz.func103
def K_product_sat : Nat → List Nat := fun i => ([[0], [0, 3], [3, 9, 10, 11], [3, 9, 10, 11, 12], [3, 5, 9, 10, 11], [3, 9, 10, 11, 15, 16, 17], [3, 9, 10, 11, 15, 16, 17, 18], [3, 7, 9, 10, 11, 15, 16, 17], [3, 7, 9, 10, 11, 15, 16, 17, 33], [3, 9, 10, 11, 15, 16, 17], [3, 9, 10, 11, 15, 16, 17], [3, 9, 10, 11, 15, 16, 17], [3, 9, 10, 11], [2]] : List (List Nat)).getD i []
attribute [go_sem] K_product_sat
def product_sat_S : Eng.Spec := fun args av objs => ∃ (xss : List (List El)), (PW xss) ∧ args = [.one (.imm2 xss)] ∧ av = aR 0 ∧ objs = [oL 3 (red (unI xss))]
theorem product_sat : Sat Tryz.prog 60 product_sat_S := by
  refine sat_of tok okr mixed K_product_sat Tryz.func60 rfl (rs := [.tmp 2]) rfl Tryz.ntmps60 ?_
  rintro args av objs ⟨xss, hpre, rfl, rfl, rfl⟩
  refine ⟨by show 1 ≤ 46; decide, ?_⟩
  obtain ⟨ws, rfl, hp1, hp2, hp3⟩ := hpre
  rw [unI_ss]
  repeat' (first|(refine ya ?_;first|(refine yb ?_;first|refine yc ?_)|refine ye ?_)|(refine yg ?_;intro hgs;first|(replace hgs:=zgy hgs;first|(refine yb ?_;first|refine yc ?_)|refine yy hgs ?_;clear hgs)|(refine yn (zgn hgs) ?_;clear hgs)|((fail_if_success have:=zgy hgs);refine z_spl hgs (h1:=?_) (h2:=?_)<;>clear hgs<;>intro hg hr<;>try first|contradiction|exfalso;omega))|refine yz ?_|refine zst ?_|refine k_blk_other rfl ?_|(refine zk ?_ ?_<;>intro hc hr<;>try first|contradiction|exfalso;omega))
  refine z_loop (fun i : Nat => [(11, aI i)]) (fun i : Nat => [.obj 3 (oL 3 (prN ws i))]) (fun i : Nat => i ≤ ws.length) (fun i : Nat => ws.length - i) (0) (h0 := ?_) (henv := ?_) (hobj := ?_) (h := ?_)
  · omega
  · simp [go_sem, AVm, CVm, lookS, prN_0]
  · simp [go_sem, OBm, CVm, lookS, All2, prN_0]
  intro i hi
  rcases Nat.lt_or_ge i ws.length with hlt | hge
  · repeat' (first|(refine ya ?_;first|(refine yb ?_;first|refine yc ?_)|refine ye ?_)|(refine yg ?_;intro hgs;first|(replace hgs:=zgy hgs;first|(refine yb ?_;first|refine yc ?_)|refine yy hgs ?_;clear hgs)|(refine yn (zgn hgs) ?_;clear hgs)|((fail_if_success have:=zgy hgs);refine z_spl hgs (h1:=?_) (h2:=?_)<;>clear hgs<;>intro hg hr<;>try first|contradiction|exfalso;omega))|refine yz ?_|refine zst ?_|refine k_blk_other rfl ?_|(refine zk ?_ ?_<;>intro hc hr<;>try first|contradiction|exfalso;omega))
    refine z_loop (fun k : Nat => [(17, aI k)]) (fun k : Nat => [.obj 3 (oL 3 (rdN (wx ws i) (prN ws i) k))]) (fun k : Nat => k ≤ (wx ws i).length) (fun k : Nat => (wx ws i).length - k) (0) (h0 := ?_) (henv := ?_) (hobj := ?_) (h := ?_)
    · omega
    · simp [go_sem, AVm, CVm, lookS, rdN_0]
    · simp [go_sem, OBm, CVm, lookS, All2, rdN_0]
    intro k hk
    have hpl := prN_len hp2 i (by omega)
    have hwl := hp2 i hlt
    have hrl := rdN_len (wx ws i) (prN ws i) k
    have hpl2 : (prN ws i).length ≤ 4290772992 := Nat.le_trans hpl (Nat.mul_le_mul_right 4194304 (show i ≤ 1023 by omega))
    clear hpl
    have hm := rdN_mem (w := wx ws i) (out := prN ws i) (i := k) (prN_mem hp3) (hp3 _ (wx_mem hlt))
    rcases Nat.lt_or_ge k (wx ws i).length with hlt2 | hge2
    · have hs := rdN_s (out := prN ws i) hlt2
      generalize hR : rdN (wx ws i) (prN ws i) k = R at *
      have hxr := hp3 _ (wx_mem hlt) _ (ix_mem hlt2)
      by_cases h0 : 0 < R.length
      · have hlr := hm _ (ix_mem (l := R) (i := R.length - 1) (by omega))
        unfold rg at hlr hxr
        repeat' (first|(refine ya ?_;first|(refine yb ?_;first|refine yc ?_)|refine ye ?_)|(refine yg ?_;intro hgs;first|(replace hgs:=zgy hgs;first|(refine yb ?_;first|refine yc ?_)|refine yy hgs ?_;clear hgs)|(refine yn (zgn hgs) ?_;clear hgs)|((fail_if_success have:=zgy hgs);refine z_spl hgs (h1:=?_) (h2:=?_)<;>clear hgs<;>intro hg hr<;>try first|contradiction|exfalso;omega))|refine yz ?_|refine zst ?_|refine k_blk_other rfl ?_|(refine zk ?_ ?_<;>intro hc hr<;>try first|contradiction|exfalso;omega))
        · rw [rdS_cut h0 (by assumption)] at hs
          have e2 : ((R.length : Int) - 1).toNat = R.length - 1 := by omega
          (refine z_lop (k + 1) (hj := ?_) (hmu := ?_) (henv := ?_) (hobj := ?_); (· omega); (· first | omega | (simp only; omega)); (· first | (simp [go_sem, AVm, CVm, lookS, hs, exFlat, *]; done) | (simp [go_sem, AVm, CVm, lookS, hs, exFlat, *] <;> (repeat' split) <;> first | omega | (simp_all; done) | (exfalso; omega) | (simp_all; omega))); (· first | (simp [go_sem, OBm, CVm, All2, lookS, hs, exFlat, *]; done) | (simp [go_sem, OBm, CVm, All2, lookS, hs, exFlat, *] <;> (repeat' split) <;> first | omega | (simp_all; done) | (exfalso; omega) | (simp_all; omega))))
        · rw [rdS_put (fun h => by simp_all)] at hs
          (refine z_lop (k + 1) (hj := ?_) (hmu := ?_) (henv := ?_) (hobj := ?_); (· omega); (· first | omega | (simp only; omega)); (· first | (simp [go_sem, AVm, CVm, lookS, hs, *]; done) | (simp [go_sem, AVm, CVm, lookS, hs, *] <;> (repeat' split) <;> first | omega | (simp_all; done) | (exfalso; omega) | (simp_all; omega))); (· first | (simp [go_sem, OBm, CVm, All2, lookS, hs, *]; done) | (simp [go_sem, OBm, CVm, All2, lookS, hs, *] <;> (repeat' split) <;> first | omega | (simp_all; done) | (exfalso; omega) | (simp_all; omega))))
      · rw [rdS_put (fun h => h0 h.1)] at hs
        repeat' (first|(refine ya ?_;first|(refine yb ?_;first|refine yc ?_)|refine ye ?_)|(refine yg ?_;intro hgs;first|(replace hgs:=zgy hgs;first|(refine yb ?_;first|refine yc ?_)|refine yy hgs ?_;clear hgs)|(refine yn (zgn hgs) ?_;clear hgs)|((fail_if_success have:=zgy hgs);refine z_spl hgs (h1:=?_) (h2:=?_)<;>clear hgs<;>intro hg hr<;>try first|contradiction|exfalso;omega))|refine yz ?_|refine zst ?_|refine k_blk_other rfl ?_|(refine zk ?_ ?_<;>intro hc hr<;>try first|contradiction|exfalso;omega))
        (refine z_lop (k + 1) (hj := ?_) (hmu := ?_) (henv := ?_) (hobj := ?_); (· omega); (· first | omega | (simp only; omega)); (· first | (simp [go_sem, AVm, CVm, lookS, hs, *]; done) | (simp [go_sem, AVm, CVm, lookS, hs, *] <;> (repeat' split) <;> first | omega | (simp_all; done) | (exfalso; omega) | (simp_all; omega))); (· first | (simp [go_sem, OBm, CVm, All2, lookS, hs, *]; done) | (simp [go_sem, OBm, CVm, All2, lookS, hs, *] <;> (repeat' split) <;> first | omega | (simp_all; done) | (exfalso; omega) | (simp_all; omega))))
    · have hkk : k = (wx ws i).length := by omega
      subst hkk
      repeat' (first|(refine ya ?_;first|(refine yb ?_;first|refine yc ?_)|refine ye ?_)|(refine yg ?_;intro hgs;first|(replace hgs:=zgy hgs;first|(refine yb ?_;first|refine yc ?_)|refine yy hgs ?_;clear hgs)|(refine yn (zgn hgs) ?_;clear hgs)|((fail_if_success have:=zgy hgs);refine z_spl hgs (h1:=?_) (h2:=?_)<;>clear hgs<;>intro hg hr<;>try first|contradiction|exfalso;omega))|refine yz ?_|refine zst ?_|refine k_blk_other rfl ?_|(refine zk ?_ ?_<;>intro hc hr<;>try first|contradiction|exfalso;omega))
      (refine z_lop (i + 1) (hj := ?_) (hmu := ?_) (henv := ?_) (hobj := ?_); (· omega); (· first | omega | (simp only; omega)); (· first | (simp [go_sem, AVm, CVm, lookS, prN_s hlt, *]; done) | (simp [go_sem, AVm, CVm, lookS, prN_s hlt, *] <;> (repeat' split) <;> first | omega | (simp_all; done) | (exfalso; omega) | (simp_all; omega))); (· first | (simp [go_sem, OBm, CVm, All2, lookS, prN_s hlt, *]; done) | (simp [go_sem, OBm, CVm, All2, lookS, prN_s hlt, *] <;> (repeat' split) <;> first | omega | (simp_all; done) | (exfalso; omega) | (simp_all; omega))))
  · have hii : i = ws.length := by omega
    subst hii
    repeat' (first|(refine ya ?_;first|(refine yb ?_;first|refine yc ?_)|refine ye ?_)|(refine yg ?_;intro hgs;first|(replace hgs:=zgy hgs;first|(refine yb ?_;first|refine yc ?_)|refine yy hgs ?_;clear hgs)|(refine yn (zgn hgs) ?_;clear hgs)|((fail_if_success have:=zgy hgs);refine z_spl hgs (h1:=?_) (h2:=?_)<;>clear hgs<;>intro hg hr<;>try first|contradiction|exfalso;omega))|refine yz ?_|refine zst ?_|refine k_blk_other rfl ?_|(refine zk ?_ ?_<;>intro hc hr<;>try first|contradiction|exfalso;omega))
    all_goals first | (refine z_ret (hv := ?_) (ho := ?_) <;> first | rfl | (simp [go_sem, prN_all, *]; done) | (simp_all [prN_all]; done) | (simp_all [prN_all]; omega)) | skip
instance : Con Tryz.prog 60 product_sat_S := con product_sat Tryz.func60
def K_reduce_sat : Nat → List Nat := fun i => ([[0], [2]] : List (List Nat)).getD i []
attribute [go_sem] K_reduce_sat
def reduce_sat_S : Eng.Spec := fun args av objs => ∃ (w : List Int), (w.length ≤ 4194304 ∧ (∀ x ∈ w, rg x)) ∧ args = [aL w] ∧ av = aR 0 ∧ objs = [oL 3 (red w)]
theorem reduce_sat : Sat Tryz.prog 68 reduce_sat_S := by
  refine sat_of tok okr mixed K_reduce_sat Tryz.func68 rfl (rs := [.tmp 2]) rfl Tryz.ntmps68 ?_
  rintro args av objs ⟨w, hpre, rfl, rfl, rfl⟩
  refine ⟨by show 1 ≤ 6; decide, ?_⟩
  have hpp := PW1 hpre
  repeat' (first|(refine ya ?_;first|(refine yb ?_;first|refine yc ?_)|refine ye ?_)|refine yz ?_|refine zst ?_|refine k_blk_other rfl ?_|(refine zk ?_ ?_<;>intro hc hr<;>try first|contradiction|exfalso;omega))
  all_goals first | (refine z_ret (hv := ?_) (ho := ?_) <;> first | rfl | (simp [go_sem, *]; done) | (simp_all; done) | (simp_all; omega)) | skip
instance : Con Tryz.prog 68 reduce_sat_S := con reduce_sat Tryz.func68
def K_reduce_sat2 : Nat → List Nat := fun i => ([[0], [0, 3], [0, 3, 4], [0, 3, 4, 10], [0, 3, 4], [0, 3, 4, 5], [0, 3, 4, 5, 48], [0, 3, 4], [0, 3, 4], [2]] : List (List Nat)).getD i []
attribute [go_sem] K_reduce_sat2
def reduce_sat2_S : Eng.Spec := fun args av objs => ∃ (w : List Int), (w.length ≤ 1099511627776 ∧ (∀ x ∈ w, rg x)) ∧ args = [aL w] ∧ av = aR 0 ∧ objs = [oL 3 (red w)]
theorem reduce_sat2 : Sat Tryz.prog 24 reduce_sat2_S := by
  refine sat_of tok okr mixed K_reduce_sat2 Tryz.func24 rfl (rs := [.tmp 2]) rfl Tryz.ntmps24 ?_
  rintro args av objs ⟨w, hpre, rfl, rfl, rfl⟩
  refine ⟨by show 1 ≤ 63; decide, ?_⟩
  repeat' (first|(refine ya ?_;first|refine ye ?_)|(refine yg ?_;intro hgs;first|(replace hgs:=zgy hgs;first|refine yy hgs ?_;clear hgs)|(refine yn (zgn hgs) ?_;clear hgs)|((fail_if_success have:=zgy hgs);refine z_spl hgs (h1:=?_) (h2:=?_)<;>clear hgs<;>intro hg hr<;>try first|contradiction|exfalso;omega))|refine yz ?_|(refine yA ?_;first|refine yE ?_)|(refine yG ?_;intro hgs;first|(replace hgs:=zgy hgs;first|refine yY hgs ?_;clear hgs)|(refine yN (zgn hgs) ?_;clear hgs)|((fail_if_success have:=zgy hgs);refine z_spll hgs (h1:=?_) (h2:=?_)<;>clear hgs<;>intro hg hr<;>try first|contradiction|exfalso;omega))|refine yZ ?_|refine zst ?_|refine k_blk_other rfl ?_|(refine zk ?_ ?_<;>intro hc hr<;>try first|contradiction|exfalso;omega))
  refine z_loop (fun i : Nat => [(4, aI i)]) (fun i : Nat => [.obj 3 (oL 3 (rdN w [] i))]) (fun i : Nat => i ≤ w.length) (fun i : Nat => w.length - i) (0) (h0 := ?_) (henv := ?_) (hobj := ?_) (h := ?_)
  · omega
  · simp [go_sem, AVm, CVm, lookS, rdN_0]
  · simp [go_sem, OBm, CVm, lookS, All2, rdN_0]
  intro i hi
  have hl : (rdN w [] i).length ≤ i := by simpa using rdN_len w [] i
  have hm := rdN_mem (w := w) (out := []) (i := i) (by simp) hpre.2
  rcases Nat.lt_or_ge i w.length with hlt | hge
  · have hs := rdN_s (out := []) hlt
    generalize hR : rdN w [] i = R at *
    have hxr := hpre.2 _ (ix_mem hlt)
    unfold rg at hxr
    by_cases h0 : 0 < R.length
    · have hlr := hm _ (ix_mem (l := R) (i := R.length - 1) (by omega))
      unfold rg at hlr
      by_cases hinv : inv2 (ix R (R.length - 1)) (ix w i) = true
      · rw [rdS_cut h0 hinv] at hs
        have hi2 := hinv
        simp only [inv2, decide_eq_true_eq] at hi2
        have e1 : ix R (R.length - 1) = -ix w i := by omega
        have e3 : ¬ ix w i = 0 := by omega
        have e4 : -9223372036854775808 < ix w i := by omega
        have e5 : ¬ -ix w i = ix w i := by omega
        clear hi2 hinv
        repeat' (first|(refine ya ?_;first|refine ye ?_)|(refine yg ?_;intro hgs;first|(replace hgs:=zgy hgs;first|refine yy hgs ?_;clear hgs)|(refine yn (zgn hgs) ?_;clear hgs)|((fail_if_success have:=zgy hgs);refine z_spl hgs (h1:=?_) (h2:=?_)<;>clear hgs<;>intro hg hr<;>try first|contradiction|exfalso;omega))|refine yz ?_|(refine yA ?_;first|refine yE ?_)|(refine yG ?_;intro hgs;first|(replace hgs:=zgy hgs;first|refine yY hgs ?_;clear hgs)|(refine yN (zgn hgs) ?_;clear hgs)|((fail_if_success have:=zgy hgs);refine z_spll hgs (h1:=?_) (h2:=?_)<;>clear hgs<;>intro hg hr<;>try first|contradiction|exfalso;omega))|refine yZ ?_|refine zst ?_|refine k_blk_other rfl ?_|(refine zk ?_ ?_<;>intro hc hr<;>try first|contradiction|exfalso;omega))
        (refine z_lop (i + 1) (hj := ?_) (hmu := ?_) (henv := ?_) (hobj := ?_); (· omega); (· first | omega | (simp only; omega)); (· first | (simp [go_sem, AVm, CVm, lookS, hs, exFlat, *]; done) | (simp [go_sem, AVm, CVm, lookS, hs, exFlat, *] <;> (repeat' split) <;> first | omega | (simp_all; done) | (exfalso; omega) | (simp_all; omega))); (· first | (simp [go_sem, OBm, CVm, All2, lookS, hs, exFlat, *]; done) | (simp [go_sem, OBm, CVm, All2, lookS, hs, exFlat, *] <;> (repeat' split) <;> first | omega | (simp_all; done) | (exfalso; omega) | (simp_all; omega))))
      · rw [rdS_put (fun h => hinv h.2)] at hs
        repeat' (first|(refine ya ?_;first|refine ye ?_)|(refine yg ?_;intro hgs;first|(replace hgs:=zgy hgs;first|refine yy hgs ?_;clear hgs)|(refine yn (zgn hgs) ?_;clear hgs)|((fail_if_success have:=zgy hgs);refine z_spl hgs (h1:=?_) (h2:=?_)<;>clear hgs<;>intro hg hr<;>try first|contradiction|exfalso;omega))|refine yz ?_|(refine yA ?_;first|refine yE ?_)|(refine yG ?_;intro hgs;first|(replace hgs:=zgy hgs;first|refine yY hgs ?_;clear hgs)|(refine yN (zgn hgs) ?_;clear hgs)|((fail_if_success have:=zgy hgs);refine z_spll hgs (h1:=?_) (h2:=?_)<;>clear hgs<;>intro hg hr<;>try first|contradiction|exfalso;omega))|refine yZ ?_|refine zst ?_|refine k_blk_other rfl ?_|(refine zk ?_ ?_<;>intro hc hr<;>try first|contradiction|exfalso;omega))
        all_goals first
          | (exfalso; exact hinv (sp_inv hlr hxr (by assumption) (by assumption) (by assumption)); done)
          | (refine z_lop (i + 1) (hj := ?_) (hmu := ?_) (henv := ?_) (hobj := ?_); (· omega); (· first | omega | (simp only; omega)); (· first | (simp [go_sem, AVm, CVm, lookS, hs, *]; done) | (simp [go_sem, AVm, CVm, lookS, hs, *] <;> (repeat' split) <;> first | omega | (simp_all; done) | (exfalso; omega) | (simp_all; omega))); (· first | (simp [go_sem, OBm, CVm, All2, lookS, hs, *]; done) | (simp [go_sem, OBm, CVm, All2, lookS, hs, *] <;> (repeat' split) <;> first | omega | (simp_all; done) | (exfalso; omega) | (simp_all; omega))))
          | trace_state
    · rw [rdS_put (fun h => h0 h.1)] at hs
      repeat' (first|(refine ya ?_;first|refine ye ?_)|(refine yg ?_;intro hgs;first|(replace hgs:=zgy hgs;first|refine yy hgs ?_;clear hgs)|(refine yn (zgn hgs) ?_;clear hgs)|((fail_if_success have:=zgy hgs);refine z_spl hgs (h1:=?_) (h2:=?_)<;>clear hgs<;>intro hg hr<;>try first|contradiction|exfalso;omega))|refine yz ?_|(refine yA ?_;first|refine yE ?_)|(refine yG ?_;intro hgs;first|(replace hgs:=zgy hgs;first|refine yY hgs ?_;clear hgs)|(refine yN (zgn hgs) ?_;clear hgs)|((fail_if_success have:=zgy hgs);refine z_spll hgs (h1:=?_) (h2:=?_)<;>clear hgs<;>intro hg hr<;>try first|contradiction|exfalso;omega))|refine yZ ?_|refine zst ?_|refine k_blk_other rfl ?_|(refine zk ?_ ?_<;>intro hc hr<;>try first|contradiction|exfalso;omega))
      (refine z_lop (i + 1) (hj := ?_) (hmu := ?_) (henv := ?_) (hobj := ?_); (· omega); (· first | omega | (simp only; omega)); (· first | (simp [go_sem, AVm, CVm, lookS, hs, *]; done) | (simp [go_sem, AVm, CVm, lookS, hs, *] <;> (repeat' split) <;> first | omega | (simp_all; done) | (exfalso; omega) | (simp_all; omega))); (· first | (simp [go_sem, OBm, CVm, All2, lookS, hs, *]; done) | (simp [go_sem, OBm, CVm, All2, lookS, hs, *] <;> (repeat' split) <;> first | omega | (simp_all; done) | (exfalso; omega) | (simp_all; omega))))
  · have hii : i = w.length := by omega
    subst hii
    rw [rdN_all] at hl hm ⊢
    repeat' (first|(refine ya ?_;first|refine ye ?_)|(refine yg ?_;intro hgs;first|(replace hgs:=zgy hgs;first|refine yy hgs ?_;clear hgs)|(refine yn (zgn hgs) ?_;clear hgs)|((fail_if_success have:=zgy hgs);refine z_spl hgs (h1:=?_) (h2:=?_)<;>clear hgs<;>intro hg hr<;>try first|contradiction|exfalso;omega))|refine yz ?_|(refine yA ?_;first|refine yE ?_)|(refine yG ?_;intro hgs;first|(replace hgs:=zgy hgs;first|refine yY hgs ?_;clear hgs)|(refine yN (zgn hgs) ?_;clear hgs)|((fail_if_success have:=zgy hgs);refine z_spll hgs (h1:=?_) (h2:=?_)<;>clear hgs<;>intro hg hr<;>try first|contradiction|exfalso;omega))|refine yZ ?_|refine zst ?_|refine k_blk_other rfl ?_|(refine zk ?_ ?_<;>intro hc hr<;>try first|contradiction|exfalso;omega))
    all_goals first | (refine z_ret (hv := ?_) (ho := ?_) <;> first | rfl | (simp [go_sem, red, *]; done) | (simp_all [red]; done) | (simp_all [red]; omega)) | skip
instance : Con Tryz.prog 24 reduce_sat2_S := con reduce_sat2 Tryz.func24
def K_invert_sat2 : Nat → List Nat := fun i => ([[0], [0, 3], [0, 3, 4], [0, 3, 4, 10], [0, 3, 4], [0, 3, 4], [2]] : List (List Nat)).getD i []
attribute [go_sem] K_invert_sat2
def invert_sat2_S : Eng.Spec := fun args av objs => ∃ (w : List Int), (w.length ≤ 4194304 ∧ (∀ x ∈ w, rg x)) ∧ args = [aL w] ∧ av = aR 0 ∧ objs = [oL 3 (ivW w)]
theorem invert_sat2 : Sat Tryz.prog 39 invert_sat2_S := by
  refine sat_of tok okr mixed K_invert_sat2 Tryz.func39 rfl (rs := [.tmp 2]) rfl Tryz.ntmps39 ?_
  rintro args av objs ⟨w, hpre, rfl, rfl, rfl⟩
  refine ⟨by show 1 ≤ 22; decide, ?_⟩
  repeat' (first|(refine ya ?_;first|refine ye ?_)|refine yz ?_|refine zst ?_|refine k_blk_other rfl ?_|(refine zk ?_ ?_<;>intro hc hr<;>try first|contradiction|exfalso;omega))
  refine z_loop (fun k : Nat => [(4, aI ((w.length : Int) - 1 - k))]) (fun k : Nat => [.obj 3 (oL 3 (ivN w k))]) (fun k : Nat => k ≤ w.length) (fun k : Nat => w.length - k) (0) (h0 := ?_) (henv := ?_) (hobj := ?_) (h := ?_)
  · omega
  · simp [go_sem, AVm, CVm, lookS, ivN]
  · simp [go_sem, OBm, CVm, lookS, All2, ivN]
  intro k hk
  have hil := ivN_len w k
  rcases Nat.lt_or_ge k w.length with hlt | hge
  · have e1 : ((w.length : Int) - 1 - k).toNat = w.length - 1 - k := by omega
    have hr := hpre.2 _ (ix_mem (l := w) (i := w.length - 1 - k) (by omega))
    unfold rg at hr
    repeat' (first|(refine ya ?_;first|refine ye ?_)|refine yz ?_|refine zst ?_|refine k_blk_other rfl ?_|(refine zk ?_ ?_<;>intro hc hr<;>try first|contradiction|exfalso;omega))
    (refine z_lop (k + 1) (hj := ?_) (hmu := ?_) (henv := ?_) (hobj := ?_); (· omega); (· first | omega | (simp only; omega)); (· first | (simp [go_sem, AVm, CVm, lookS, ivN, ngI, *]; done) | (simp [go_sem, AVm, CVm, lookS, ivN, ngI, *] <;> (repeat' split) <;> first | omega | (simp_all; done) | (exfalso; omega) | (simp_all; omega))); (· first | (simp [go_sem, OBm, CVm, All2, lookS, ivN, ngI, *]; done) | (simp [go_sem, OBm, CVm, All2, lookS, ivN, ngI, *] <;> (repeat' split) <;> first | omega | (simp_all; done) | (exfalso; omega) | (simp_all; omega))))
  · have hkk : k = w.length := by omega
    subst hkk
    repeat' (first|(refine ya ?_;first|refine ye ?_)|refine yz ?_|refine zst ?_|refine k_blk_other rfl ?_|(refine zk ?_ ?_<;>intro hc hr<;>try first|contradiction|exfalso;omega))
    all_goals first | (refine z_ret (hv := ?_) (ho := ?_) <;> first | rfl | (simp [go_sem, ivW, *]; done) | (simp_all [ivW]; done) | (simp_all [ivW]; omega)) | skip
instance : Con Tryz.prog 39 invert_sat2_S := con invert_sat2 Tryz.func39
def K_multiply_sat2 : Nat → List Nat := fun i => ([[0, 1], [4]] : List (List Nat)).getD i []
attribute [go_sem] K_multiply_sat2
def multiply_sat2_S : Eng.Spec := fun args av objs => ∃ (a b : List Int), (a.length ≤ 4194304 ∧ b.length ≤ 4194304 ∧ (∀ x ∈ a, rg x) ∧ (∀ x ∈ b, rg x)) ∧ args = [aL a, aL b] ∧ av = aR 0 ∧ objs = [oL 3 (red (a ++ b))]
theorem multiply_sat2 : Sat Tryz.prog 40 multiply_sat2_S := by
  refine sat_of tok okr mixed K_multiply_sat2 Tryz.func40 rfl (rs := [.tmp 4]) rfl Tryz.ntmps40 ?_
  rintro args av objs ⟨a, b, hpre, rfl, rfl, rfl⟩
  refine ⟨by show 2 ≤ 11; decide, ?_⟩
  have hm : ∀ x ∈ a ++ b, rg x := fun x hx => (List.mem_append.1 hx).elim (hpre.2.2.1 x) (hpre.2.2.2 x)
  repeat' (first|(refine ya ?_;first|(refine yb ?_;first|refine yc ?_)|refine ye ?_)|refine yz ?_|refine zst ?_|refine k_blk_other rfl ?_|(refine zk ?_ ?_<;>intro hc hr<;>try first|contradiction|exfalso;omega))
  all_goals first | (refine z_ret (hv := ?_) (ho := ?_) <;> first | rfl | (simp [go_sem, *]; done) | (simp_all; done) | (simp_all; omega)) | skip
instance : Con Tryz.prog 40 multiply_sat2_S := con multiply_sat2 Tryz.func40
end Go.Proofs.Tryz
namespace Go.Proofs.Tryz
open Go Go.Eng
set_option linter.unnecessarySimpa false
set_option linter.unusedSimpArgs false
set_option maxHeartbeats 4000000
end Go.Proofs.Tryz
