import Derived.Test.YtfapjflogjblaaaGreatC
import Derived.Test.YtfapjflogjblaaaGreatS
import Derived.Test.YtfapjflogjblaaaGreatK
set_option maxHeartbeats 16000000
set_option maxRecDepth 20000
set_option linter.unusedVariables false
set_option linter.unusedSimpArgs false
set_option linter.unnecessarySimpa false
namespace Go.Proofs.Tryz
open Go Go.Eng
theorem sp_inv {a x : Int} (ha : -9223372036854775808 ≤ a ∧ a ≤ 9223372036854775807) (hx : -9223372036854775808 ≤ x ∧ x ≤ 9223372036854775807) (h0 : ¬ x = 0) (h1 : a = w64 (-x)) (h2 : ¬ w64 (-x) = x) : inv2 a x = true := by
  have h3 : ¬ x = -9223372036854775808 := by
    rintro rfl
    exact h2 (by decide)
  rw [w64Id ⟨by omega, by omega⟩] at h1
  simp [inv2]; omega
@[go_sem] def K_areInv_sat (i : Nat) : List Nat := ([[0,1],[4]]).getD i []

def areInv_sat_S : Eng.Spec := fun args av objs => ∃ (a b : Int), (rg a ∧ rg b) ∧ args = [aI a, aI b] ∧ av = aB (inv2 a b) ∧ objs = []
theorem areInv_sat : Sat Tryz.prog 103 areInv_sat_S := by
  refine sat_of tok okr mixed K_areInv_sat Tryz.func103 rfl (rs := [.tmp 4]) rfl Tryz.ntmps103 ?_
  rintro args av objs ⟨a, b, hpre, rfl, rfl, rfl⟩
  refine ⟨by show 2 ≤ 17; decide, ?_⟩
  unfold rg at hpre
  by_cases ha : a = -9223372036854775808
  · subst ha
    have : inv2 (-9223372036854775808) b = false := by simp [inv2]
    rw [this]
    repeat' (first|(refine ya ?_;first|refine ye ?_)|(refine yg ?_;intro hq;first|(replace hq:=zgy hq;first|refine yy hq ?_;clear hq)|(refine yn (zgn hq) ?_;clear hq)|((fail_if_success have:=zgy hq);refine zs hq ?_ ?_<;>clear hq<;>intro hg hr<;>try exact zx))|refine yz ?_|refine zst ?_|refine zo ?_|(refine zk ?_ ?_<;>intro hc hr<;>try exact zx))
    all_goals try exact zv
  · have : inv2 a b = (decide (a ≠ 0) && decide (b = -a)) := by simp [inv2, ha]
    rw [this]
    repeat' (first|(refine ya ?_;first|refine ye ?_)|(refine yg ?_;intro hq;first|(replace hq:=zgy hq;first|refine yy hq ?_;clear hq)|(refine yn (zgn hq) ?_;clear hq)|((fail_if_success have:=zgy hq);refine zs hq ?_ ?_<;>clear hq<;>intro hg hr<;>try exact zx))|refine yz ?_|refine zst ?_|refine zo ?_|(refine zk ?_ ?_<;>intro hc hr<;>try exact zx))
    all_goals refine z_ret (hv := ?_) (ho := ?_)
    all_goals first | rfl | (simp_all; done) | (congr 3; rw [Bool.eq_iff_iff]; simp_all)
instance (priority := 3000) : Con Tryz.prog 103 (orS (specOf areInverse_sat) (specOf areInv_sat)) := con2 areInverse_sat areInv_sat Tryz.func103
def unI (xss : List (List El)) : List Int := xss.flatten.map fun x => match x with | [.int n] => n | _ => 0
def PW (xss : List (List El)) : Prop := ∃ ws : List (List Int), xss = intss ws ∧ ws.length ≤ 1024 ∧ (∀ i, i < ws.length → (wx ws i).length ≤ 4194304) ∧ ∀ w ∈ ws, ∀ x ∈ w, rg x
theorem unI_ints (l : List Int) : (ints l).map (fun x : El => match x with | [.int n] => n | _ => 0) = l := by
  induction l with
  | nil => rfl
  | cons x r ih => simpa [ints] using ih
theorem unI_cons (l : List Int) (r : List (List El)) : unI (ints l :: r) = l ++ unI r := by
  simp only [unI, List.flatten_cons, List.map_append, unI_ints]
theorem unI_nil : unI [] = [] := rfl
theorem unI_ss (ws : List (List Int)) : unI (intss ws) = ws.flatten := by
  induction ws with
  | nil => rfl
  | cons w r ih => rw [show intss (w :: r) = ints w :: intss r from rfl, unI_cons, ih]; rfl
theorem PW_of {ws : List (List Int)} (h0 : ws.length ≤ 1024) (h : ∀ w ∈ ws, w.length ≤ 4194304 ∧ ∀ x ∈ w, rg x) : PW (intss ws) :=
  ⟨ws, rfl, h0, fun i hi => (h _ (wx_mem hi)).1, fun w hw => (h w hw).2⟩
theorem PW1 {a : List Int} (ha : a.length ≤ 4194304 ∧ ∀ x ∈ a, rg x) : PW [ints a] := PW_of (ws := [a]) (by simp) (by simpa using ha)
theorem PW3 {a b c : List Int} (ha : a.length ≤ 4194304 ∧ ∀ x ∈ a, rg x) (hb : b.length ≤ 4194304 ∧ ∀ x ∈ b, rg x) (hc : c.length ≤ 4194304 ∧ ∀ x ∈ c, rg x) : PW [ints a, ints b, ints c] := PW_of (ws := [a, b, c]) (by simp) (by
  intro w hw
  simp only [List.mem_cons, List.not_mem_nil, or_false] at hw
  rcases hw with rfl | rfl | rfl
  · exact ha
  · exact hb
  · exact hc)
theorem unI_one (y : Int) (r : List (List El)) : unI ([[.int y]] :: r) = [y] ++ unI r := unI_cons [y] r
attribute [go_sem] unI_cons unI_nil unI_one

instance : Con Tryz.prog 103 areInv_sat_S := con areInv_sat Tryz.func103
@[go_sem] def K_product_sat (i : Nat) : List Nat := ([[0],[0,3],[3,9,10,11],[3,9,10,11,12],[3,5,9,10,11],[3,9,10,11,15,16,17],[3,9,10,11,15,16,17,18],[3,7,9,10,11,15,16,17],[3,7,9,10,11,15,16,17,33],[3,9,10,11,15,16,17],[3,9,10,11,15,16,17],[3,9,10,11,15,16,17],[3,9,10,11],[2]]).getD i []

def product_sat_S : Eng.Spec := fun args av objs => ∃ (xss : List (List El)), (PW xss) ∧ args = [.one (.imm2 xss)] ∧ av = aR 0 ∧ objs = [oL 3 (red (unI xss))]
theorem product_sat : Sat Tryz.prog 60 product_sat_S := by
  refine sat_of tok okr mixed K_product_sat Tryz.func60 rfl (rs := [.tmp 2]) rfl Tryz.ntmps60 ?_
  rintro args av objs ⟨xss, hpre, rfl, rfl, rfl⟩
  refine ⟨by show 1 ≤ 46; decide, ?_⟩
  obtain ⟨ws, rfl, hp1, hp2, hp3⟩ := hpre
  rw [unI_ss]
  repeat' (first|(refine ya ?_;first|refine yc ?_|refine ye ?_)|(refine yg ?_;intro hq;first|(replace hq:=zgy hq;first|refine yc ?_|refine yy hq ?_;clear hq)|(refine yn (zgn hq) ?_;clear hq)|((fail_if_success have:=zgy hq);refine zs hq ?_ ?_<;>clear hq<;>intro hg hr<;>try exact zx))|refine yz ?_|refine zst ?_|refine zo ?_|(refine zk ?_ ?_<;>intro hc hr<;>try exact zx))
  refine z_loop (fun i : Nat => [(11, aI i)]) (fun i : Nat => [.obj 3 (oL 3 (prN ws i))]) (fun i : Nat => i ≤ ws.length) (fun i : Nat => ws.length - i) (0) (h0 := ?_) (henv := ?_) (hobj := ?_) (h := ?_)
  · omega
  · simp [go_sem, AVm, CVm, lookS, prN_0]
  · simp [go_sem, OBm, CVm, lookS, All2, prN_0]
  intro i hi
  rcases Nat.lt_or_ge i ws.length with hlt | hge
  · repeat' (first|(refine ya ?_;first|refine yc ?_|refine ye ?_)|(refine yg ?_;intro hq;first|(replace hq:=zgy hq;first|refine yc ?_|refine yy hq ?_;clear hq)|(refine yn (zgn hq) ?_;clear hq)|((fail_if_success have:=zgy hq);refine zs hq ?_ ?_<;>clear hq<;>intro hg hr<;>try exact zx))|refine yz ?_|refine zst ?_|refine zo ?_|(refine zk ?_ ?_<;>intro hc hr<;>try exact zx))
    refine z_loop (fun k : Nat => [(17, aI k)]) (fun k : Nat => [.obj 3 (oL 3 (rdN (wx ws i) (prN ws i) k))]) (fun k : Nat => k ≤ (wx ws i).length) (fun k : Nat => (wx ws i).length - k) (0) (h0 := ?_) (henv := ?_) (hobj := ?_) (h := ?_)
    · omega
    · simp [go_sem, AVm, CVm, lookS, rdN_0]
    · simp [go_sem, OBm, CVm, lookS, All2, rdN_0]
    intro k hk
    have hpl := prN_len hp2 i (by omega)
    have hwl := hp2 i hlt
    have hrl := rdN_len (wx ws i) (prN ws i) k
    have hpl2 : (prN ws i).length ≤ 4290772992 := Nat.le_trans hpl (Nat.mul_le_mul_right 4194304 (show i ≤ 1023 by omega))
    clear hpl
    have hm := rdN_mem (w := wx ws i) (out := prN ws i) (i := k) (prN_mem hp3) (hp3 _ (wx_mem hlt))
    rcases Nat.lt_or_ge k (wx ws i).length with hlt2 | hge2
    · have hs := rdN_s (out := prN ws i) hlt2
      generalize hR : rdN (wx ws i) (prN ws i) k = R at *
      have hxr := hp3 _ (wx_mem hlt) _ (ix_mem hlt2)
      by_cases h0 : 0 < R.length
      · have hlr := hm _ (ix_mem (l := R) (i := R.length - 1) (by omega))
        unfold rg at hlr hxr
        repeat' (first|(refine ya ?_;first|refine yc ?_|refine ye ?_)|(refine yg ?_;intro hq;first|(replace hq:=zgy hq;first|refine yc ?_|refine yy hq ?_;clear hq)|(refine yn (zgn hq) ?_;clear hq)|((fail_if_success have:=zgy hq);refine zs hq ?_ ?_<;>clear hq<;>intro hg hr<;>try exact zx))|refine yz ?_|refine zst ?_|refine zo ?_|(refine zk ?_ ?_<;>intro hc hr<;>try exact zx))
        · rw [rdS_cut h0 (by assumption)] at hs
          have e2 : ((R.length : Int) - 1).toNat = R.length - 1 := by omega
          (refine zm (k + 1) ?_ ?_ <;> simp [go_sem, AVm, OBm, CVm, All2, lookS, hs, exFlat, *] <;> exact zt)
        · rw [rdS_put (fun h => by simp_all)] at hs
          (refine zm (k + 1) ?_ ?_ <;> simp [go_sem, AVm, OBm, CVm, All2, lookS, hs, *] <;> exact zt)
      · rw [rdS_put (fun h => h0 h.1)] at hs
        repeat' (first|(refine ya ?_;first|refine yc ?_|refine ye ?_)|(refine yg ?_;intro hq;first|(replace hq:=zgy hq;first|refine yc ?_|refine yy hq ?_;clear hq)|(refine yn (zgn hq) ?_;clear hq)|((fail_if_success have:=zgy hq);refine zs hq ?_ ?_<;>clear hq<;>intro hg hr<;>try exact zx))|refine yz ?_|refine zst ?_|refine zo ?_|(refine zk ?_ ?_<;>intro hc hr<;>try exact zx))
        (refine zm (k + 1) ?_ ?_ <;> simp [go_sem, AVm, OBm, CVm, All2, lookS, hs, *] <;> exact zt)
    · have hkk : k = (wx ws i).length := by omega
      subst hkk
      repeat' (first|(refine ya ?_;first|refine yc ?_|refine ye ?_)|(refine yg ?_;intro hq;first|(replace hq:=zgy hq;first|refine yc ?_|refine yy hq ?_;clear hq)|(refine yn (zgn hq) ?_;clear hq)|((fail_if_success have:=zgy hq);refine zs hq ?_ ?_<;>clear hq<;>intro hg hr<;>try exact zx))|refine yz ?_|refine zst ?_|refine zo ?_|(refine zk ?_ ?_<;>intro hc hr<;>try exact zx))
      (refine zm (i + 1) ?_ ?_ <;> simp [go_sem, AVm, OBm, CVm, All2, lookS, prN_s hlt, *] <;> exact zt)
  · have hii : i = ws.length := by omega
    subst hii
    repeat' (first|(refine ya ?_;first|refine yc ?_|refine ye ?_)|(refine yg ?_;intro hq;first|(replace hq:=zgy hq;first|refine yc ?_|refine yy hq ?_;clear hq)|(refine yn (zgn hq) ?_;clear hq)|((fail_if_success have:=zgy hq);refine zs hq ?_ ?_<;>clear hq<;>intro hg hr<;>try exact zx))|refine yz ?_|refine zst ?_|refine zo ?_|(refine zk ?_ ?_<;>intro hc hr<;>try exact zx))
    all_goals first | (refine z_ret (hv := ?_) (ho := ?_) <;> first | rfl | (simp [go_sem, prN_all, *]; done) | (simp_all [prN_all]; done) | (simp_all [prN_all]; omega)) | skip
instance : Con Tryz.prog 60 product_sat_S := con product_sat Tryz.func60
@[go_sem] def K_reduce_sat (i : Nat) : List Nat := ([[0],[2]]).getD i []

def reduce_sat_S : Eng.Spec := fun args av objs => ∃ (w : List Int), (w.length ≤ 4194304 ∧ (∀ x ∈ w, rg x)) ∧ args = [aL w] ∧ av = aR 0 ∧ objs = [oL 3 (red w)]
theorem reduce_sat : Sat Tryz.prog 68 reduce_sat_S := by
  refine sat_of tok okr mixed K_reduce_sat Tryz.func68 rfl (rs := [.tmp 2]) rfl Tryz.ntmps68 ?_
  rintro args av objs ⟨w, hpre, rfl, rfl, rfl⟩
  refine ⟨by show 1 ≤ 6; decide, ?_⟩
  have hpp := PW1 hpre
  repeat' (first|(refine ya ?_;first|refine yc ?_|refine ye ?_)|refine yz ?_|refine zst ?_|refine zo ?_|(refine zk ?_ ?_<;>intro hc hr<;>try exact zx))
  all_goals try exact zv
instance : Con Tryz.prog 68 reduce_sat_S := con reduce_sat Tryz.func68
@[go_sem] def K_reduce_sat2 (i : Nat) : List Nat := ([[0],[0,3],[0,3,4],[0,3,4,10],[0,3,4],[0,3,4,5],[0,3,4,5,48],[0,3,4],[0,3,4],[2]]).getD i []

def reduce_sat2_S : Eng.Spec := fun args av objs => ∃ (w : List Int), (w.length ≤ 1099511627776 ∧ (∀ x ∈ w, rg x)) ∧ args = [aL w] ∧ av = aR 0 ∧ objs = [oL 3 (red w)]
theorem reduce_sat2 : Sat Tryz.prog 24 reduce_sat2_S := by
  refine sat_of tok okr mixed K_reduce_sat2 Tryz.func24 rfl (rs := [.tmp 2]) rfl Tryz.ntmps24 ?_
  rintro args av objs ⟨w, hpre, rfl, rfl, rfl⟩
  refine ⟨by show 1 ≤ 63; decide, ?_⟩
  repeat' (first|(refine ya ?_;first|refine ye ?_)|((first|refine yg ?_|refine yG ?_);intro hq;first|(replace hq:=zgy hq;first|refine yy hq ?_|refine yY hq ?_;clear hq)|((first|refine yn (zgn hq) ?_|refine yN (zgn hq) ?_);clear hq)|((fail_if_success have:=zgy hq);(first|refine zs hq ?_ ?_|refine zS hq ?_ ?_)<;>clear hq<;>intro hg hr<;>try exact zx))|refine yz ?_|(refine yA ?_;first|refine yE ?_)|refine yZ ?_|refine zst ?_|refine zo ?_|(refine zk ?_ ?_<;>intro hc hr<;>try exact zx))
  refine z_loop (fun i : Nat => [(4, aI i)]) (fun i : Nat => [.obj 3 (oL 3 (rdN w [] i))]) (fun i : Nat => i ≤ w.length) (fun i : Nat => w.length - i) (0) (h0 := ?_) (henv := ?_) (hobj := ?_) (h := ?_)
  · omega
  · simp [go_sem, AVm, CVm, lookS, rdN_0]
  · simp [go_sem, OBm, CVm, lookS, All2, rdN_0]
  intro i hi
  have hl : (rdN w [] i).length ≤ i := by simpa using rdN_len w [] i
  have hm := rdN_mem (w := w) (out := []) (i := i) (by simp) hpre.2
  rcases Nat.lt_or_ge i w.length with hlt | hge
  · have hs := rdN_s (out := []) hlt
    generalize hR : rdN w [] i = R at *
    have hxr := hpre.2 _ (ix_mem hlt)
    unfold rg at hxr
    by_cases h0 : 0 < R.length
    · have hlr := hm _ (ix_mem (l := R) (i := R.length - 1) (by omega))
      unfold rg at hlr
      by_cases hinv : inv2 (ix R (R.length - 1)) (ix w i) = true
      · rw [rdS_cut h0 hinv] at hs
        have hi2 := hinv
        simp only [inv2, decide_eq_true_eq] at hi2
        have e1 : ix R (R.length - 1) = -ix w i := by omega
        have e3 : ¬ ix w i = 0 := by omega
        have e4 : -9223372036854775808 < ix w i := by omega
        have e5 : ¬ -ix w i = ix w i := by omega
        clear hi2 hinv
        repeat' (first|(refine ya ?_;first|refine ye ?_)|((first|refine yg ?_|refine yG ?_);intro hq;first|(replace hq:=zgy hq;first|refine yy hq ?_|refine yY hq ?_;clear hq)|((first|refine yn (zgn hq) ?_|refine yN (zgn hq) ?_);clear hq)|((fail_if_success have:=zgy hq);(first|refine zs hq ?_ ?_|refine zS hq ?_ ?_)<;>clear hq<;>intro hg hr<;>try exact zx))|refine yz ?_|(refine yA ?_;first|refine yE ?_)|refine yZ ?_|refine zst ?_|refine zo ?_|(refine zk ?_ ?_<;>intro hc hr<;>try exact zx))
        (refine zm (i + 1) ?_ ?_ <;> simp [go_sem, AVm, OBm, CVm, All2, lookS, hs, exFlat, *] <;> exact zt)
      · rw [rdS_put (fun h => hinv h.2)] at hs
        repeat' (first|(refine ya ?_;first|refine ye ?_)|((first|refine yg ?_|refine yG ?_);intro hq;first|(replace hq:=zgy hq;first|refine yy hq ?_|refine yY hq ?_;clear hq)|((first|refine yn (zgn hq) ?_|refine yN (zgn hq) ?_);clear hq)|((fail_if_success have:=zgy hq);(first|refine zs hq ?_ ?_|refine zS hq ?_ ?_)<;>clear hq<;>intro hg hr<;>try exact zx))|refine yz ?_|(refine yA ?_;first|refine yE ?_)|refine yZ ?_|refine zst ?_|refine zo ?_|(refine zk ?_ ?_<;>intro hc hr<;>try exact zx))
        all_goals first
          | (exfalso; exact hinv (sp_inv hlr hxr (by assumption) (by assumption) (by assumption)); done)
          | (refine zm (i + 1) ?_ ?_ <;> simp [go_sem, AVm, OBm, CVm, All2, lookS, hs, *] <;> exact zt)
          | trace_state
    · rw [rdS_put (fun h => h0 h.1)] at hs
      repeat' (first|(refine ya ?_;first|refine ye ?_)|((first|refine yg ?_|refine yG ?_);intro hq;first|(replace hq:=zgy hq;first|refine yy hq ?_|refine yY hq ?_;clear hq)|((first|refine yn (zgn hq) ?_|refine yN (zgn hq) ?_);clear hq)|((fail_if_success have:=zgy hq);(first|refine zs hq ?_ ?_|refine zS hq ?_ ?_)<;>clear hq<;>intro hg hr<;>try exact zx))|refine yz ?_|(refine yA ?_;first|refine yE ?_)|refine yZ ?_|refine zst ?_|refine zo ?_|(refine zk ?_ ?_<;>intro hc hr<;>try exact zx))
      (refine zm (i + 1) ?_ ?_ <;> simp [go_sem, AVm, OBm, CVm, All2, lookS, hs, *] <;> exact zt)
  · have hii : i = w.length := by omega
    subst hii
    rw [rdN_all] at hl hm ⊢
    repeat' (first|(refine ya ?_;first|refine ye ?_)|((first|refine yg ?_|refine yG ?_);intro hq;first|(replace hq:=zgy hq;first|refine yy hq ?_|refine yY hq ?_;clear hq)|((first|refine yn (zgn hq) ?_|refine yN (zgn hq) ?_);clear hq)|((fail_if_success have:=zgy hq);(first|refine zs hq ?_ ?_|refine zS hq ?_ ?_)<;>clear hq<;>intro hg hr<;>try exact zx))|refine yz ?_|(refine yA ?_;first|refine yE ?_)|refine yZ ?_|refine zst ?_|refine zo ?_|(refine zk ?_ ?_<;>intro hc hr<;>try exact zx))
    all_goals first | (refine z_ret (hv := ?_) (ho := ?_) <;> first | rfl | (simp [go_sem, red, *]; done) | (simp_all [red]; done) | (simp_all [red]; omega)) | skip
instance : Con Tryz.prog 24 reduce_sat2_S := con reduce_sat2 Tryz.func24
@[go_sem] def K_invert_sat (i : Nat) : List Nat := ([[0],[0,3],[0,3,4],[0,3,4,12],[0,3,4],[0,3,4],[2]]).getD i []

def invert_sat_S : Eng.Spec := fun args av objs => ∃ (w : List Int), (w.length ≤ 4194304 ∧ (∀ x ∈ w, rg x)) ∧ args = [aL w] ∧ av = aR 0 ∧ objs = [oL 3 (ivW w)]
theorem invert_sat : Sat Tryz.prog 61 invert_sat_S := by
  refine sat_of tok okr mixed K_invert_sat Tryz.func61 rfl (rs := [.tmp 2]) rfl Tryz.ntmps61 ?_
  rintro args av objs ⟨w, hpre, rfl, rfl, rfl⟩
  refine ⟨by show 1 ≤ 24; decide, ?_⟩
  repeat' (first|(refine ya ?_;first|refine ye ?_)|refine yz ?_|refine zst ?_|refine zo ?_|(refine zk ?_ ?_<;>intro hc hr<;>try exact zx))
  refine z_loop (fun k : Nat => [(4, aI ((w.length : Int) - 1 - k))]) (fun k : Nat => [.obj 3 (oL 3 (ivN w k))]) (fun k : Nat => k ≤ w.length) (fun k : Nat => w.length - k) (0) (h0 := ?_) (henv := ?_) (hobj := ?_) (h := ?_)
  · omega
  · simp [go_sem, AVm, CVm, lookS, ivN]
  · simp [go_sem, OBm, CVm, lookS, All2, ivN]
  intro k hk
  have hil := ivN_len w k
  rcases Nat.lt_or_ge k w.length with hlt | hge
  · have e1 : ((w.length : Int) - 1 - k).toNat = w.length - 1 - k := by omega
    have hr := hpre.2 _ (ix_mem (l := w) (i := w.length - 1 - k) (by omega))
    unfold rg at hr
    repeat' (first|(refine ya ?_;first|refine ye ?_)|refine yz ?_|refine zst ?_|refine zo ?_|(refine zk ?_ ?_<;>intro hc hr<;>try exact zx))
    (refine zm (k + 1) ?_ ?_ <;> simp [go_sem, AVm, OBm, CVm, All2, lookS, ivN, ngI, *] <;> exact zt)
  · have hkk : k = w.length := by omega
    subst hkk
    repeat' (first|(refine ya ?_;first|refine ye ?_)|refine yz ?_|refine zst ?_|refine zo ?_|(refine zk ?_ ?_<;>intro hc hr<;>try exact zx))
    all_goals first | (refine z_ret (hv := ?_) (ho := ?_) <;> first | rfl | (simp [go_sem, ivW, *]; done) | (simp_all [ivW]; done) | (simp_all [ivW]; omega)) | skip
instance : Con Tryz.prog 61 invert_sat_S := con invert_sat Tryz.func61
@[go_sem] def K_invert_sat2 (i : Nat) : List Nat := ([[0],[0,3],[0,3,4],[0,3,4,10],[0,3,4],[0,3,4],[2]]).getD i []

def invert_sat2_S : Eng.Spec := fun args av objs => ∃ (w : List Int), (w.length ≤ 4194304 ∧ (∀ x ∈ w, rg x)) ∧ args = [aL w] ∧ av = aR 0 ∧ objs = [oL 3 (ivW w)]
theorem invert_sat2 : Sat Tryz.prog 39 invert_sat2_S := by
  refine sat_of tok okr mixed K_invert_sat2 Tryz.func39 rfl (rs := [.tmp 2]) rfl Tryz.ntmps39 ?_
  rintro args av objs ⟨w, hpre, rfl, rfl, rfl⟩
  refine ⟨by show 1 ≤ 22; decide, ?_⟩
  repeat' (first|(refine ya ?_;first|refine ye ?_)|refine yz ?_|refine zst ?_|refine zo ?_|(refine zk ?_ ?_<;>intro hc hr<;>try exact zx))
  refine z_loop (fun k : Nat => [(4, aI ((w.length : Int) - 1 - k))]) (fun k : Nat => [.obj 3 (oL 3 (ivN w k))]) (fun k : Nat => k ≤ w.length) (fun k : Nat => w.length - k) (0) (h0 := ?_) (henv := ?_) (hobj := ?_) (h := ?_)
  · omega
  · simp [go_sem, AVm, CVm, lookS, ivN]
  · simp [go_sem, OBm, CVm, lookS, All2, ivN]
  intro k hk
  have hil := ivN_len w k
  rcases Nat.lt_or_ge k w.length with hlt | hge
  · have e1 : ((w.length : Int) - 1 - k).toNat = w.length - 1 - k := by omega
    have hr := hpre.2 _ (ix_mem (l := w) (i := w.length - 1 - k) (by omega))
    unfold rg at hr
    repeat' (first|(refine ya ?_;first|refine ye ?_)|refine yz ?_|refine zst ?_|refine zo ?_|(refine zk ?_ ?_<;>intro hc hr<;>try exact zx))
    (refine zm (k + 1) ?_ ?_ <;> simp [go_sem, AVm, OBm, CVm, All2, lookS, ivN, ngI, *] <;> exact zt)
  · have hkk : k = w.length := by omega
    subst hkk
    repeat' (first|(refine ya ?_;first|refine ye ?_)|refine yz ?_|refine zst ?_|refine zo ?_|(refine zk ?_ ?_<;>intro hc hr<;>try exact zx))
    all_goals first | (refine z_ret (hv := ?_) (ho := ?_) <;> first | rfl | (simp [go_sem, ivW, *]; done) | (simp_all [ivW]; done) | (simp_all [ivW]; omega)) | skip
instance : Con Tryz.prog 39 invert_sat2_S := con invert_sat2 Tryz.func39
@[go_sem] def K_multiply_sat2 (i : Nat) : List Nat := ([[0,1],[4]]).getD i []

def multiply_sat2_S : Eng.Spec := fun args av objs => ∃ (a b : List Int), (a.length ≤ 4194304 ∧ b.length ≤ 4194304 ∧ (∀ x ∈ a, rg x) ∧ (∀ x ∈ b, rg x)) ∧ args = [aL a, aL b] ∧ av = aR 0 ∧ objs = [oL 3 (red (a ++ b))]
theorem multiply_sat2 : Sat Tryz.prog 40 multiply_sat2_S := by
  refine sat_of tok okr mixed K_multiply_sat2 Tryz.func40 rfl (rs := [.tmp 4]) rfl Tryz.ntmps40 ?_
  rintro args av objs ⟨a, b, hpre, rfl, rfl, rfl⟩
  refine ⟨by show 2 ≤ 11; decide, ?_⟩
  have hm : ∀ x ∈ a ++ b, rg x := fun x hx => (List.mem_append.1 hx).elim (hpre.2.2.1 x) (hpre.2.2.2 x)
  repeat' (first|(refine ya ?_;first|refine yc ?_|refine ye ?_)|refine yz ?_|refine zst ?_|refine zo ?_|(refine zk ?_ ?_<;>intro hc hr<;>try exact zx))
  all_goals try exact zv
instance : Con Tryz.prog 40 multiply_sat2_S := con multiply_sat2 Tryz.func40
end Go.Proofs.Tryz
namespace Go.Proofs.Tryz
open Go Go.Eng
def inE (ts : List Ed) (e : Ed) (k : Nat) : Bool := decide (e ∈ ts.take k)
theorem inE_0 (ts : List Ed) (e : Ed) : inE ts e 0 = false := by simp [inE]
theorem inE_s {ts : List Ed} {e : Ed} {k : Nat} (h : k < ts.length) : inE ts e (k + 1) = (inE ts e k || decide (ed ts k = e)) := by
  have ht : ts.take (k + 1) = ts.take k ++ [ed ts k] := by rw [List.take_add_one]; simp [ed, h]
  rw [Bool.eq_iff_iff]
  simp only [inE, ht, decide_eq_true_eq, List.mem_append, List.mem_singleton, Bool.or_eq_true]
  exact or_congr Iff.rfl eq_comm
theorem inE_all (ts : List Ed) (e : Ed) : inE ts e ts.length = decide (e ∈ ts) := by simp [inE]
theorem edEqB (a : Ed) (x y w : Int) : (a.1 == x && (a.2.1 == y && a.2.2 == w)) = decide (a = (x, y, w)) := by
  rw [Bool.eq_iff_iff]
  obtain ⟨p, q, s⟩ := a
  simp
theorem edEqB2 (a b : Ed) : (a.1 == b.1 && (a.2.1 == b.2.1 && a.2.2 == b.2.2)) = decide (a = b) := by
  rw [Bool.eq_iff_iff]
  obtain ⟨p, q, s⟩ := a
  obtain ⟨p', q', s'⟩ := b
  simp
theorem norm_nil : norm [] = [] := rfl
@[go_sem] def K_treeE_sat (i : Nat) : List Nat := ([[1],[1,3],[1,3,4,5],[1,3,5,18,19,20],[1,3,5,18,19,20,21],[1,3,5,7,18,19,20],[1,3,5,7,8,18,19,20],[1,3,5,7,9,18,19,20],[1,3,5,7,9,10,18,19,20],[1,3,5,18,19,20],[1,3,5,18,19,20],[2]]).getD i []

def treeE_sat_S : Eng.Spec := fun args av objs => ∃ (r z : Int) (es : List Ed), (isF r z es = true) ∧ args = [grA r z es] ∧ av = aR 0 ∧ objs = [oE 65 (treeL r z es)]
theorem treeE_sat : Sat Tryz.prog 101 treeE_sat_S := by
  refine sat_of tok okr mixed K_treeE_sat Tryz.func101 rfl (rs := [.tmp 2]) rfl Tryz.ntmps101 ?_
  rintro args av objs ⟨r, z, es, hpre, rfl, rfl, rfl⟩
  refine ⟨by show 1 ≤ 49; decide, ?_⟩
  have hG := isF_g hpre
  have hz := isG_z hG
  rw [treeL_yes hpre]
  have hB := BI_bfs (v := 0) hG (by omega)
  have hL : BL r (bfs r z es 0) := BL_out hG (by omega) _
  have hvl := vxs_len (bfs r z es 0)
  have hpos := hB.pos
  have hbl := bfs_len (v := 0) hG (by omega)
  repeat' (first|(refine ya ?_;first|refine yc ?_|refine ye ?_)|refine yz ?_|refine zst ?_|refine zo ?_|(refine zk ?_ ?_<;>intro hc hr<;>try exact zx))
  generalize bfs r z es 0 = st at *
  refine z_loop (fun j : Nat => [(20, aI j)]) (fun j : Nat => [.obj 5 (.rows 35 3 (.loc true) (tabO z (wf st))), .obj 3 (oE 65 (teN es st j))]) (fun j : Nat => j ≤ st.length - 1) (fun j : Nat => st.length - 1 - j) (0) (h0 := ?_) (henv := ?_) (hobj := ?_) (h := ?_)
  · omega
  · simp [go_sem, AVm, CVm, lookS, teN]
  · simp [go_sem, OBm, CVm, lookS, All2, teN]
  intro j hj
  have htl := teN_len es st j
  rcases Nat.lt_or_ge j (st.length - 1) with hlt | hge
  · have hx := vxs_ix (st := st) (i := 1 + j)
    have hw : wf st (bsa st (1 + j)).1 = some (bsa st (1 + j)).2 := wf_at hB.nd (by omega)
    have hll := lastI_let hL (i := 1 + j) (by omega) (by omega)
    have hp1 := hB.inz _ (vxs_at (st := st) (i := 1 + j) (by omega))
    have hne := hL.ne (1 + j) (by omega) (by omega)
    have hnl : 0 < (bsa st (1 + j)).2.length := List.length_pos_iff.2 hne
    have hnl2 := wf_len hG hB hw
    have hs : teN es st (j + 1) = teN es st j ++ [stE (nx es (bsa st (1 + j)).1 (-lastI (bsa st (1 + j)).2)) (lastI (bsa st (1 + j)).2) (bsa st (1 + j)).1] := by rw [Nat.add_comm 1 j]; rfl
    have hG2 : (wf st (ix (vxs st) (1 + j))).getD [] = (bsa st (1 + j)).2 := by rw [hx, hw]; rfl
    rw [← hG2] at hs hll hnl hnl2
    rw [← hx] at hs hp1
    unfold lastI at hs hll
    clear hw hne hx hG2
    repeat' (first|(refine ya ?_;first|refine yc ?_|refine ye ?_)|refine yz ?_|refine zst ?_|refine zo ?_|(refine zk ?_ ?_<;>intro hc hr<;>try exact zx))
    exact zl (j + 1)
  · have hjj : j = st.length - 1 := by omega
    subst hjj
    repeat' (first|(refine ya ?_;first|refine yc ?_|refine ye ?_)|refine yz ?_|refine zst ?_|refine zo ?_|(refine zk ?_ ?_<;>intro hc hr<;>try exact zx))
    all_goals first | (refine z_ret (hv := ?_) (ho := ?_) <;> first | rfl | (simp [go_sem, teL, *]; done) | (simp_all [teL]; done) | (simp_all [teL]; omega)) | skip
instance : Con Tryz.prog 101 treeE_sat_S := con treeE_sat Tryz.func101
@[go_sem] def K_tree_sat2 (i : Nat) : List Nat := ([[1],[1,3],[1,3,12],[2],[1,3,4],[1,3,4,5],[1,3,4,5,6],[1,3,4,5,6,21],[1,3,4,5,6],[1,3,4,5,6,7],[1,3,4,5,6,7,27],[1,3,4,5,6,7],[1,3,4,5,6,7,8],[1,3,4,5,6,7,8,46],[1,3,4,5,6,7,8],[1,3,4,5,6,7,8,55],[1,3,4,5,6,7],[1,3,4,5,6,7],[2]]).getD i []

def tree_sat2_S : Eng.Spec := fun args av objs => ∃ (r z : Int) (es : List Ed), (es.length ≤ 1048576) ∧ args = [grA r z es] ∧ av = aR 0 ∧ objs = [oE 65 (treeL r z es)]
theorem tree_sat2 : Sat Tryz.prog 104 tree_sat2_S := by
  refine sat_of tok okr mixed K_tree_sat2 Tryz.func104 rfl (rs := [.tmp 2]) rfl Tryz.ntmps104 ?_
  rintro args av objs ⟨r, z, es, hpre, rfl, rfl, rfl⟩
  refine ⟨by show 1 ≤ 82; decide, ?_⟩
  cases hok : isF r z es
  · rw [treeL_no hok]
    repeat' (first|(refine ya ?_;first|refine yc ?_|refine ye ?_)|((first|refine yg ?_|refine yG ?_);intro hq;first|(replace hq:=zgy hq;first|refine yc ?_|refine yC ?_|refine yy hq ?_|refine yY hq ?_;clear hq)|((first|refine yn (zgn hq) ?_|refine yN (zgn hq) ?_);clear hq)|((fail_if_success have:=zgy hq);(first|refine zs hq ?_ ?_|refine zS hq ?_ ?_)<;>clear hq<;>intro hg hr<;>try exact zx))|refine yz ?_|(refine yA ?_;first|refine yC ?_|refine yE ?_)|refine yZ ?_|refine zst ?_|refine zo ?_|(refine zk ?_ ?_<;>intro hc hr<;>try exact zx))
    all_goals try exact zv
  · have hG := isF_g hok
    have hz := isG_z hG
    rw [treeL_yes hok]
    repeat' (first|(refine ya ?_;first|refine yc ?_|refine ye ?_)|((first|refine yg ?_|refine yG ?_);intro hq;first|(replace hq:=zgy hq;first|refine yc ?_|refine yC ?_|refine yy hq ?_|refine yY hq ?_;clear hq)|((first|refine yn (zgn hq) ?_|refine yN (zgn hq) ?_);clear hq)|((fail_if_success have:=zgy hq);(first|refine zs hq ?_ ?_|refine zS hq ?_ ?_)<;>clear hq<;>intro hg hr<;>try exact zx))|refine yz ?_|(refine yA ?_;first|refine yC ?_|refine yE ?_)|refine yZ ?_|refine zst ?_|refine zo ?_|(refine zk ?_ ?_<;>intro hc hr<;>try exact zx))
    refine z_loop (fun i : Nat => [(6, aI i)]) (fun i : Nat => [.obj 4 (oL 3 (vxs (bOut es (lts r.toNat) 0 i))), .obj 3 (oE 65 (norm (teL es (bOut es (lts r.toNat) 0 i))))]) (fun i : Nat => i ≤ (bOut es (lts r.toNat) 0 i).length) (fun i : Nat => z.toNat - i) (0) (h0 := ?_) (henv := ?_) (hobj := ?_) (h := ?_)
    · simp [bOut]
    · simp [go_sem, AVm, CVm, lookS, bOut, vxs, intsOne, teL, teN, norm_nil]
    · simp [go_sem, OBm, CVm, lookS, All2, bOut, vxs, intsOne, teL, teN, norm_nil]
    intro i hi
    have hB := BI_out (ls := lts r.toNat) hG (v := 0) (by omega) i
    have hBl := hB.len (by omega)
    have hvl := vxs_len (bOut es (lts r.toNat) 0 i)
    have hll := lts_len r.toNat
    rcases Nat.lt_or_ge i (bOut es (lts r.toNat) 0 i).length with hlt | hge
    · have hx := vxs_ix (st := bOut es (lts r.toNat) 0 i) (i := i)
      have hbo : bOut es (lts r.toNat) 0 (i + 1) = bIn es (lts r.toNat) (bsa (bOut es (lts r.toNat) 0 i) i) (bOut es (lts r.toNat) 0 i) (lts r.toNat).length := by rw [bOut, if_pos hlt]
      generalize hst : bOut es (lts r.toNat) 0 i = st at *
      repeat' (first|(refine ya ?_;first|refine yc ?_|refine ye ?_)|((first|refine yg ?_|refine yG ?_);intro hq;first|(replace hq:=zgy hq;first|refine yc ?_|refine yC ?_|refine yy hq ?_|refine yY hq ?_;clear hq)|((first|refine yn (zgn hq) ?_|refine yN (zgn hq) ?_);clear hq)|((fail_if_success have:=zgy hq);(first|refine zs hq ?_ ?_|refine zS hq ?_ ?_)<;>clear hq<;>intro hg hr<;>try exact zx))|refine yz ?_|(refine yA ?_;first|refine yC ?_|refine yE ?_)|refine yZ ?_|refine zst ?_|refine zo ?_|(refine zk ?_ ?_<;>intro hc hr<;>try exact zx))
      refine z_loop (fun k : Nat => [(7, aI k)]) (fun k : Nat => [.obj 4 (oL 3 (vxs (bIn es (lts r.toNat) (bsa st i) st k))), .obj 3 (oE 65 (norm (teL es (bIn es (lts r.toNat) (bsa st i) st k))))]) (fun k : Nat => k ≤ 2 * r.toNat) (fun k : Nat => 2 * r.toNat - k) (0) (h0 := ?_) (henv := ?_) (hobj := ?_) (h := ?_)
      · omega
      · simp [go_sem, AVm, CVm, lookS, bIn]
      · simp [go_sem, OBm, CVm, lookS, All2, bIn]
      intro k hk
      obtain ⟨hB2, hp2, hl2⟩ := BI_in (ls := lts r.toNat) hG hB hlt k
      have hBl2 := hB2.len (by omega)
      have hvl2 := vxs_len (bIn es (lts r.toNat) (bsa st i) st k)
      have htl2 := teN_len es (bIn es (lts r.toNat) (bsa st i) st k) ((bIn es (lts r.toNat) (bsa st i) st k).length - 1)
      have htl3 := norm_len (teL es (bIn es (lts r.toNat) (bsa st i) st k))
      rcases Nat.lt_or_ge k (2 * r.toNat) with hlt2 | hge2
      · have hstep : bIn es (lts r.toNat) (bsa st i) st (k + 1) = bStep es (bsa st i) (ix (lts r.toNat) k) (bIn es (lts r.toNat) (bsa st i) st k) := rfl
        have hx2 : ix (vxs (bIn es (lts r.toNat) (bsa st i) st k)) i = (bsa st i).1 := by rw [vxs_ix, hp2]
        generalize hst2 : bIn es (lts r.toNat) (bsa st i) st k = st2 at *
        have htl4 : (norm (teL es st2)).length ≤ 40 := by unfold teL at htl3 ⊢; omega
        clear htl3 htl2
        have hlx := lts_ix hlt2
        have hlt3 : k < (lts r.toNat).length := by omega
        have hp1 := hB.inz _ (show (bsa st i).1 ∈ vxs st by rw [← hx]; exact ix_mem (by omega))
        have hnin := nx_in (v := (bsa st i).1) (x := ix (lts r.toNat) k) hG
        have hpos2 := hB2.pos
        by_cases hc1 : 0 ≤ nx es (bsa st i).1 (ix (lts r.toNat) k) ∧ nx es (bsa st i).1 (ix (lts r.toNat) k) ∉ vxs st2
        · have hbs : bIn es (lts r.toNat) (bsa st i) st (k + 1) = st2 ++ [(nx es (bsa st i).1 (ix (lts r.toNat) k), (bsa st i).2 ++ [ix (lts r.toNat) k])] := by rw [hstep, bStep, if_pos hc1]
          have hte : norm (teL es (st2 ++ [(nx es (bsa st i).1 (ix (lts r.toNat) k), (bsa st i).2 ++ [ix (lts r.toNat) k])])) = put (norm (teL es st2)) (stE (bsa st i).1 (ix (lts r.toNat) k) (nx es (bsa st i).1 (ix (lts r.toNat) k))) := by
            rw [teL_app hpos2, tE_step hok hc1.1, norm_snoc]
          obtain ⟨hc1, hc2⟩ := hc1
          have hx3 : ix (vxs st2 ++ [nx es (bsa st i).1 (ix (lts r.toNat) k)]) i = (bsa st i).1 := by rw [ix_app (by omega)]; exact hx2
          clear hstep hst2 hst hbo
          by_cases hneg : ix (lts r.toNat) k < 0
          · rw [show stE (bsa st i).1 (ix (lts r.toNat) k) (nx es (bsa st i).1 (ix (lts r.toNat) k)) = (nx es (bsa st i).1 (ix (lts r.toNat) k), -ix (lts r.toNat) k, (bsa st i).1) by simp [stE, hneg]] at hte
            repeat' (first|(refine ya ?_;first|refine yc ?_|refine ye ?_)|((first|refine yg ?_|refine yG ?_);intro hq;first|(replace hq:=zgy hq;first|refine yc ?_|refine yC ?_|refine yy hq ?_|refine yY hq ?_;clear hq)|((first|refine yn (zgn hq) ?_|refine yN (zgn hq) ?_);clear hq)|((fail_if_success have:=zgy hq);(first|refine zs hq ?_ ?_|refine zS hq ?_ ?_)<;>clear hq<;>intro hg hr<;>try exact zx))|refine yz ?_|(refine yA ?_;first|refine yC ?_|refine yE ?_)|refine yZ ?_|refine zst ?_|refine zo ?_|(refine zk ?_ ?_<;>intro hc hr<;>try exact zx))
            (refine zm (k + 1) ?_ ?_ <;> simp [go_sem, AVm, OBm, CVm, All2, lookS, vxs_app, *] <;> exact zt)
          · rw [show stE (bsa st i).1 (ix (lts r.toNat) k) (nx es (bsa st i).1 (ix (lts r.toNat) k)) = ((bsa st i).1, ix (lts r.toNat) k, nx es (bsa st i).1 (ix (lts r.toNat) k)) by simp [stE, hneg]] at hte
            repeat' (first|(refine ya ?_;first|refine yc ?_|refine ye ?_)|((first|refine yg ?_|refine yG ?_);intro hq;first|(replace hq:=zgy hq;first|refine yc ?_|refine yC ?_|refine yy hq ?_|refine yY hq ?_;clear hq)|((first|refine yn (zgn hq) ?_|refine yN (zgn hq) ?_);clear hq)|((fail_if_success have:=zgy hq);(first|refine zs hq ?_ ?_|refine zS hq ?_ ?_)<;>clear hq<;>intro hg hr<;>try exact zx))|refine yz ?_|(refine yA ?_;first|refine yC ?_|refine yE ?_)|refine yZ ?_|refine zst ?_|refine zo ?_|(refine zk ?_ ?_<;>intro hc hr<;>try exact zx))
            (refine zm (k + 1) ?_ ?_ <;> simp [go_sem, AVm, OBm, CVm, All2, lookS, vxs_app, *] <;> exact zt)
        · have hbs : bIn es (lts r.toNat) (bsa st i) st (k + 1) = st2 := by rw [hstep, bStep, if_neg hc1]
          by_cases hc2 : 0 ≤ nx es (bsa st i).1 (ix (lts r.toNat) k)
          · have hc3 : nx es (bsa st i).1 (ix (lts r.toNat) k) ∈ vxs st2 := Decidable.byContradiction fun h => hc1 ⟨hc2, h⟩
            clear hc1 hstep hst2 hst hbo
            repeat' (first|(refine ya ?_;first|refine yc ?_|refine ye ?_)|((first|refine yg ?_|refine yG ?_);intro hq;first|(replace hq:=zgy hq;first|refine yc ?_|refine yC ?_|refine yy hq ?_|refine yY hq ?_;clear hq)|((first|refine yn (zgn hq) ?_|refine yN (zgn hq) ?_);clear hq)|((fail_if_success have:=zgy hq);(first|refine zs hq ?_ ?_|refine zS hq ?_ ?_)<;>clear hq<;>intro hg hr<;>try exact zx))|refine yz ?_|(refine yA ?_;first|refine yC ?_|refine yE ?_)|refine yZ ?_|refine zst ?_|refine zo ?_|(refine zk ?_ ?_<;>intro hc hr<;>try exact zx))
            exact zl (k + 1)
          · clear hc1 hstep hst2 hst hbo
            repeat' (first|(refine ya ?_;first|refine yc ?_|refine ye ?_)|((first|refine yg ?_|refine yG ?_);intro hq;first|(replace hq:=zgy hq;first|refine yc ?_|refine yC ?_|refine yy hq ?_|refine yY hq ?_;clear hq)|((first|refine yn (zgn hq) ?_|refine yN (zgn hq) ?_);clear hq)|((fail_if_success have:=zgy hq);(first|refine zs hq ?_ ?_|refine zS hq ?_ ?_)<;>clear hq<;>intro hg hr<;>try exact zx))|refine yz ?_|(refine yA ?_;first|refine yC ?_|refine yE ?_)|refine yZ ?_|refine zst ?_|refine zo ?_|(refine zk ?_ ?_<;>intro hc hr<;>try exact zx))
            exact zl (k + 1)
      · have hkk : k = (lts r.toNat).length := by omega
        subst hkk
        rw [← hbo] at hl2
        repeat' (first|(refine ya ?_;first|refine yc ?_|refine ye ?_)|((first|refine yg ?_|refine yG ?_);intro hq;first|(replace hq:=zgy hq;first|refine yc ?_|refine yC ?_|refine yy hq ?_|refine yY hq ?_;clear hq)|((first|refine yn (zgn hq) ?_|refine yN (zgn hq) ?_);clear hq)|((fail_if_success have:=zgy hq);(first|refine zs hq ?_ ?_|refine zS hq ?_ ?_)<;>clear hq<;>intro hg hr<;>try exact zx))|refine yz ?_|(refine yA ?_;first|refine yC ?_|refine yE ?_)|refine yZ ?_|refine zst ?_|refine zo ?_|(refine zk ?_ ?_<;>intro hc hr<;>try exact zx))
        (refine zm (i + 1) ?_ ?_ <;> simp [go_sem, AVm, OBm, CVm, All2, lookS, hbo, *] <;> exact zt)
    · have hfin := bfs_at hG (v := 0) (by omega) (show i = (bOut es (lts r.toNat) 0 i).length by omega)
      rw [hfin]
      generalize bOut es (lts r.toNat) 0 i = st at *
      repeat' (first|(refine ya ?_;first|refine yc ?_|refine ye ?_)|((first|refine yg ?_|refine yG ?_);intro hq;first|(replace hq:=zgy hq;first|refine yc ?_|refine yC ?_|refine yy hq ?_|refine yY hq ?_;clear hq)|((first|refine yn (zgn hq) ?_|refine yN (zgn hq) ?_);clear hq)|((fail_if_success have:=zgy hq);(first|refine zs hq ?_ ?_|refine zS hq ?_ ?_)<;>clear hq<;>intro hg hr<;>try exact zx))|refine yz ?_|(refine yA ?_;first|refine yC ?_|refine yE ?_)|refine yZ ?_|refine zst ?_|refine zo ?_|(refine zk ?_ ?_<;>intro hc hr<;>try exact zx))
      all_goals try exact zv
instance : Con Tryz.prog 104 tree_sat2_S := con tree_sat2 Tryz.func104
@[go_sem] def K_extra_sat (i : Nat) : List Nat := ([[1],[1,3],[1,3,10],[2],[1,3,4],[3,4,15,16,17],[3,4,15,16,17,18],[3,4,6,15,16,17],[3,4,6,15,16,17,24],[3,4,15,16,17],[3,4,15,16,17],[2]]).getD i []

def extra_sat_S : Eng.Spec := fun args av objs => ∃ (r z : Int) (es : List Ed), (es.length ≤ 1048576) ∧ args = [grA r z es] ∧ av = aR 0 ∧ objs = [oE 65 (extL r z es)]
theorem extra_sat : Sat Tryz.prog 59 extra_sat_S := by
  refine sat_of tok okr mixed K_extra_sat Tryz.func59 rfl (rs := [.tmp 2]) rfl Tryz.ntmps59 ?_
  rintro args av objs ⟨r, z, es, hpre, rfl, rfl, rfl⟩
  refine ⟨by show 1 ≤ 31; decide, ?_⟩
  have htl := treeL_len (r := r) (z := z) (es := es)
  cases hok : isF r z es
  · rw [extL_no hok]
    repeat' (first|(refine ya ?_;first|refine yc ?_|refine ye ?_)|refine yz ?_|refine zst ?_|refine zo ?_|(refine zk ?_ ?_<;>intro hc hr<;>try exact zx))
    all_goals try exact zv
  · have hz := isG_z (isF_g hok)
    rw [extL_yes hok]
    repeat' (first|(refine ya ?_;first|refine yc ?_|refine ye ?_)|refine yz ?_|refine zst ?_|refine zo ?_|(refine zk ?_ ?_<;>intro hc hr<;>try exact zx))
    refine z_loop (fun i : Nat => [(17, aI i)]) (fun i : Nat => [.obj 3 (oE 65 (xtN es (treeL r z es) i))]) (fun i : Nat => i ≤ es.length) (fun i : Nat => es.length - i) (0) (h0 := ?_) (henv := ?_) (hobj := ?_) (h := ?_)
    · omega
    · simp [go_sem, AVm, CVm, lookS, xtN]
    · simp [go_sem, OBm, CVm, lookS, All2, xtN]
    intro i hi
    have hxl := xtN_len es (treeL r z es) i
    rcases Nat.lt_or_ge i es.length with hlt | hge
    · by_cases hm : ed es i ∈ treeL r z es
      · have hs : xtN es (treeL r z es) (i + 1) = xtN es (treeL r z es) i := by rw [xtN, if_pos hm]
        repeat' (first|(refine ya ?_;first|refine yc ?_|refine ye ?_)|refine yz ?_|refine zst ?_|refine zo ?_|(refine zk ?_ ?_<;>intro hc hr<;>try exact zx))
        exact zl (i + 1)
      · have hs : xtN es (treeL r z es) (i + 1) = xtN es (treeL r z es) i ++ [ed es i] := by rw [xtN, if_neg hm]
        repeat' (first|(refine ya ?_;first|refine yc ?_|refine ye ?_)|refine yz ?_|refine zst ?_|refine zo ?_|(refine zk ?_ ?_<;>intro hc hr<;>try exact zx))
        exact zl (i + 1)
    · have hii : i = es.length := by omega
      subst hii
      repeat' (first|(refine ya ?_;first|refine yc ?_|refine ye ?_)|refine yz ?_|refine zst ?_|refine zo ?_|(refine zk ?_ ?_<;>intro hc hr<;>try exact zx))
      all_goals try exact zv
instance : Con Tryz.prog 59 extra_sat_S := con extra_sat Tryz.func59
@[go_sem] def K_extra_sat2 (i : Nat) : List Nat := ([[1],[1,3],[1,3,4],[1,3,4,5],[1,3,4,5,19],[1,3,4,5],[1,3,4,5,6],[1,3,4,5,6,7],[1,3,4,5,6,7,25],[1,3,4,5,6,7],[1,3,4,5,6,7],[1,3,4,5,42],[1,3,4,5],[2]]).getD i []

def extra_sat2_S : Eng.Spec := fun args av objs => ∃ (r z : Int) (es : List Ed), (es.length ≤ 1048576) ∧ args = [grA r z es] ∧ av = aR 0 ∧ objs = [oE 65 (extL r z es)]
theorem extra_sat2 : Sat Tryz.prog 62 extra_sat2_S := by
  refine sat_of tok okr mixed K_extra_sat2 Tryz.func62 rfl (rs := [.tmp 2]) rfl Tryz.ntmps62 ?_
  rintro args av objs ⟨r, z, es, hpre, rfl, rfl, rfl⟩
  refine ⟨by show 1 ≤ 52; decide, ?_⟩
  have htl := treeL_len (r := r) (z := z) (es := es)
  cases hok : isF r z es
  · rw [extL_no hok]
    repeat' (first|(refine ya ?_;first|refine yc ?_|refine ye ?_)|((first|refine yg ?_|refine yG ?_);intro hq;first|(replace hq:=zgy hq;first|refine yc ?_|refine yC ?_|refine yy hq ?_|refine yY hq ?_;clear hq)|((first|refine yn (zgn hq) ?_|refine yN (zgn hq) ?_);clear hq)|((fail_if_success have:=zgy hq);(first|refine zs hq ?_ ?_|refine zS hq ?_ ?_)<;>clear hq<;>intro hg hr<;>try exact zx))|refine yz ?_|(refine yA ?_;first|refine yC ?_|refine yE ?_)|refine yZ ?_|refine zst ?_|refine zo ?_|(refine zk ?_ ?_<;>intro hc hr<;>try exact zx))
    refine zu (fun i : Nat => []) (fun i : Nat => []) (fun i : Nat => i = 0) (fun i : Nat => 0 - i) (0) ?_
    intro i hi
    subst hi
    repeat' (first|(refine ya ?_;first|refine yc ?_|refine ye ?_)|((first|refine yg ?_|refine yG ?_);intro hq;first|(replace hq:=zgy hq;first|refine yc ?_|refine yC ?_|refine yy hq ?_|refine yY hq ?_;clear hq)|((first|refine yn (zgn hq) ?_|refine yN (zgn hq) ?_);clear hq)|((fail_if_success have:=zgy hq);(first|refine zs hq ?_ ?_|refine zS hq ?_ ?_)<;>clear hq<;>intro hg hr<;>try exact zx))|refine yz ?_|(refine yA ?_;first|refine yC ?_|refine yE ?_)|refine yZ ?_|refine zst ?_|refine zo ?_|(refine zk ?_ ?_<;>intro hc hr<;>try exact zx))
    all_goals try exact zv
  · have hz := isG_z (isF_g hok)
    rw [extL_yes hok]
    repeat' (first|(refine ya ?_;first|refine yc ?_|refine ye ?_)|((first|refine yg ?_|refine yG ?_);intro hq;first|(replace hq:=zgy hq;first|refine yc ?_|refine yC ?_|refine yy hq ?_|refine yY hq ?_;clear hq)|((first|refine yn (zgn hq) ?_|refine yN (zgn hq) ?_);clear hq)|((fail_if_success have:=zgy hq);(first|refine zs hq ?_ ?_|refine zS hq ?_ ?_)<;>clear hq<;>intro hg hr<;>try exact zx))|refine yz ?_|(refine yA ?_;first|refine yC ?_|refine yE ?_)|refine yZ ?_|refine zst ?_|refine zo ?_|(refine zk ?_ ?_<;>intro hc hr<;>try exact zx))
    refine z_loop (fun i : Nat => [(5, aI i)]) (fun i : Nat => [.obj 4 (oE 65 (xtN es (treeL r z es) i))]) (fun i : Nat => i ≤ es.length) (fun i : Nat => es.length - i) (0) (h0 := ?_) (henv := ?_) (hobj := ?_) (h := ?_)
    · omega
    · simp [go_sem, AVm, CVm, lookS, xtN]
    · simp [go_sem, OBm, CVm, lookS, All2, xtN]
    intro i hi
    have hxl := xtN_len es (treeL r z es) i
    rcases Nat.lt_or_ge i es.length with hlt | hge
    · repeat' (first|(refine ya ?_;first|refine yc ?_|refine ye ?_)|((first|refine yg ?_|refine yG ?_);intro hq;first|(replace hq:=zgy hq;first|refine yc ?_|refine yC ?_|refine yy hq ?_|refine yY hq ?_;clear hq)|((first|refine yn (zgn hq) ?_|refine yN (zgn hq) ?_);clear hq)|((fail_if_success have:=zgy hq);(first|refine zs hq ?_ ?_|refine zS hq ?_ ?_)<;>clear hq<;>intro hg hr<;>try exact zx))|refine yz ?_|(refine yA ?_;first|refine yC ?_|refine yE ?_)|refine yZ ?_|refine zst ?_|refine zo ?_|(refine zk ?_ ?_<;>intro hc hr<;>try exact zx))
      refine z_loop (fun k : Nat => [(7, aI k), (6, aB (inE (treeL r z es) (ed es i) k))]) (fun k : Nat => []) (fun k : Nat => k ≤ (treeL r z es).length) (fun k : Nat => (treeL r z es).length - k) (0) (h0 := ?_) (henv := ?_) (hobj := ?_) (h := ?_)
      · omega
      · simp [go_sem, AVm, CVm, lookS, inE_0]
      · simp [go_sem, OBm, CVm, lookS, All2, inE_0]
      intro k hk
      rcases Nat.lt_or_ge k (treeL r z es).length with hlt2 | hge2
      · have hs := inE_s (e := ed es i) hlt2
        repeat' (first|(refine ya ?_;first|refine yc ?_|refine ye ?_)|((first|refine yg ?_|refine yG ?_);intro hq;first|(replace hq:=zgy hq;first|refine yc ?_|refine yC ?_|refine yy hq ?_|refine yY hq ?_;clear hq)|((first|refine yn (zgn hq) ?_|refine yN (zgn hq) ?_);clear hq)|((fail_if_success have:=zgy hq);(first|refine zs hq ?_ ?_|refine zS hq ?_ ?_)<;>clear hq<;>intro hg hr<;>try exact zx))|refine yz ?_|(refine yA ?_;first|refine yC ?_|refine yE ?_)|refine yZ ?_|refine zst ?_|refine zo ?_|(refine zk ?_ ?_<;>intro hc hr<;>try exact zx))
        all_goals (refine zm (k + 1) ?_ ?_ <;> simp [go_sem, AVm, OBm, CVm, All2, lookS, edEqB2, hs, *] <;> exact zt)
      · have hkk : k = (treeL r z es).length := by omega
        subst hkk
        rw [inE_all]
        by_cases hm : ed es i ∈ treeL r z es
        · have hs : xtN es (treeL r z es) (i + 1) = xtN es (treeL r z es) i := by rw [xtN, if_pos hm]
          repeat' (first|(refine ya ?_;first|refine yc ?_|refine ye ?_)|((first|refine yg ?_|refine yG ?_);intro hq;first|(replace hq:=zgy hq;first|refine yc ?_|refine yC ?_|refine yy hq ?_|refine yY hq ?_;clear hq)|((first|refine yn (zgn hq) ?_|refine yN (zgn hq) ?_);clear hq)|((fail_if_success have:=zgy hq);(first|refine zs hq ?_ ?_|refine zS hq ?_ ?_)<;>clear hq<;>intro hg hr<;>try exact zx))|refine yz ?_|(refine yA ?_;first|refine yC ?_|refine yE ?_)|refine yZ ?_|refine zst ?_|refine zo ?_|(refine zk ?_ ?_<;>intro hc hr<;>try exact zx))
          exact zl (i + 1)
        · have hs : xtN es (treeL r z es) (i + 1) = xtN es (treeL r z es) i ++ [ed es i] := by rw [xtN, if_neg hm]
          repeat' (first|(refine ya ?_;first|refine yc ?_|refine ye ?_)|((first|refine yg ?_|refine yG ?_);intro hq;first|(replace hq:=zgy hq;first|refine yc ?_|refine yC ?_|refine yy hq ?_|refine yY hq ?_;clear hq)|((first|refine yn (zgn hq) ?_|refine yN (zgn hq) ?_);clear hq)|((fail_if_success have:=zgy hq);(first|refine zs hq ?_ ?_|refine zS hq ?_ ?_)<;>clear hq<;>intro hg hr<;>try exact zx))|refine yz ?_|(refine yA ?_;first|refine yC ?_|refine yE ?_)|refine yZ ?_|refine zst ?_|refine zo ?_|(refine zk ?_ ?_<;>intro hc hr<;>try exact zx))
          exact zl (i + 1)
    · have hii : i = es.length := by omega
      subst hii
      repeat' (first|(refine ya ?_;first|refine yc ?_|refine ye ?_)|((first|refine yg ?_|refine yG ?_);intro hq;first|(replace hq:=zgy hq;first|refine yc ?_|refine yC ?_|refine yy hq ?_|refine yY hq ?_;clear hq)|((first|refine yn (zgn hq) ?_|refine yN (zgn hq) ?_);clear hq)|((fail_if_success have:=zgy hq);(first|refine zs hq ?_ ?_|refine zS hq ?_ ?_)<;>clear hq<;>intro hg hr<;>try exact zx))|refine yz ?_|(refine yA ?_;first|refine yC ?_|refine yE ?_)|refine yZ ?_|refine zst ?_|refine zo ?_|(refine zk ?_ ?_<;>intro hc hr<;>try exact zx))
      all_goals try exact zv
def lpO (r z : Int) (es : List Ed) (e : Ed) : List Int := if isF r z es = true ∧ e ∈ es then red (pw r z es 0 e.1 ++ [e.2.1] ++ ivW (pw r z es 0 e.2.2)) else []
theorem lpO_no {r z : Int} {es : List Ed} {e : Ed} (h : ¬ (isF r z es = true ∧ e ∈ es)) : lpO r z es e = [] := by unfold lpO; rw [if_neg h]
theorem lpO_yes {r z : Int} {es : List Ed} {e : Ed} (h : isF r z es = true ∧ e ∈ es) : lpO r z es e = red (pw r z es 0 e.1 ++ [e.2.1] ++ ivW (pw r z es 0 e.2.2)) := by unfold lpO; rw [if_pos h]
instance : Con Tryz.prog 62 extra_sat2_S := con extra_sat2 Tryz.func62
@[go_sem] def K_loop_sat2 (i : Nat) : List Nat := ([[2,3],[2,3,5],[2,3,5,6],[2,3,5,6,11],[2,3,5,6],[2,3,5,6],[2,3,30],[4],[4]]).getD i []

def loop_sat2_S : Eng.Spec := fun args av objs => ∃ (r z : Int) (es : List Ed) (x y w : Int), (es.length ≤ 1048576) ∧ args = [grA r z es, .agg [.sc (.int x), .sc (.int y), .sc (.int w)]] ∧ av = aR 0 ∧ objs = [oL 3 (lpO r z es (x, y, w))]
theorem loop_sat2 : Sat Tryz.prog 63 loop_sat2_S := by
  refine sat_of tok okr mixed K_loop_sat2 Tryz.func63 rfl (rs := [.tmp 4]) rfl Tryz.ntmps63 ?_
  rintro args av objs ⟨r, z, es, x, y, w, hpre, rfl, rfl, rfl⟩
  refine ⟨by show 2 ≤ 46; decide, ?_⟩
  repeat' (first|(refine ya ?_;first|refine yc ?_|refine ye ?_)|((first|refine yg ?_|refine yG ?_);intro hq;first|(replace hq:=zgy hq;first|refine yc ?_|refine yC ?_|refine yy hq ?_|refine yY hq ?_;clear hq)|((first|refine yn (zgn hq) ?_|refine yN (zgn hq) ?_);clear hq)|((fail_if_success have:=zgy hq);(first|refine zs hq ?_ ?_|refine zS hq ?_ ?_)<;>clear hq<;>intro hg hr<;>try exact zx))|refine yz ?_|(refine yA ?_;first|refine yC ?_|refine yE ?_)|refine yZ ?_|refine zst ?_|refine zo ?_|(refine zk ?_ ?_<;>intro hc hr<;>try exact zx))
  refine z_loop (fun i : Nat => [(6, aI i), (5, aB (inE es (x, y, w) i))]) (fun i : Nat => []) (fun i : Nat => i ≤ es.length) (fun i : Nat => es.length - i) (0) (h0 := ?_) (henv := ?_) (hobj := ?_) (h := ?_)
  · omega
  · simp [go_sem, AVm, CVm, lookS, inE_0]
  · simp [go_sem, OBm, CVm, lookS, All2, inE_0]
  intro i hi
  rcases Nat.lt_or_ge i es.length with hlt | hge
  · have hs := inE_s (e := (x, y, w)) hlt
    repeat' (first|(refine ya ?_;first|refine yc ?_|refine ye ?_)|((first|refine yg ?_|refine yG ?_);intro hq;first|(replace hq:=zgy hq;first|refine yc ?_|refine yC ?_|refine yy hq ?_|refine yY hq ?_;clear hq)|((first|refine yn (zgn hq) ?_|refine yN (zgn hq) ?_);clear hq)|((fail_if_success have:=zgy hq);(first|refine zs hq ?_ ?_|refine zS hq ?_ ?_)<;>clear hq<;>intro hg hr<;>try exact zx))|refine yz ?_|(refine yA ?_;first|refine yC ?_|refine yE ?_)|refine yZ ?_|refine zst ?_|refine zo ?_|(refine zk ?_ ?_<;>intro hc hr<;>try exact zx))
    all_goals (refine zm (i + 1) ?_ ?_ <;> simp [go_sem, AVm, OBm, CVm, All2, lookS, edEqB, hs, *] <;> exact zt)
  · have hii : i = es.length := by omega
    subst hii
    rw [inE_all]
    cases hok : isF r z es
    · rw [lpO_no (by simp [hok])]
      repeat' (first|(refine ya ?_;first|refine yc ?_|refine ye ?_)|((first|refine yg ?_|refine yG ?_);intro hq;first|(replace hq:=zgy hq;first|refine yc ?_|refine yC ?_|refine yy hq ?_|refine yY hq ?_;clear hq)|((first|refine yn (zgn hq) ?_|refine yN (zgn hq) ?_);clear hq)|((fail_if_success have:=zgy hq);(first|refine zs hq ?_ ?_|refine zS hq ?_ ?_)<;>clear hq<;>intro hg hr<;>try exact zx))|refine yz ?_|(refine yA ?_;first|refine yC ?_|refine yE ?_)|refine yZ ?_|refine zst ?_|refine zo ?_|(refine zk ?_ ?_<;>intro hc hr<;>try exact zx))
      all_goals try exact zv
    · by_cases hm : (x, y, w) ∈ es
      · rw [lpO_yes ⟨hok, hm⟩]
        have hz := isG_z (isF_g hok)
        have hp1 := pw_len (r := r) (z := z) (es := es) (u := 0) (v := x)
        have hp2 := pw_len (r := r) (z := z) (es := es) (u := 0) (v := w)
        have hr1 := pw_rg (r := r) (z := z) (es := es) (u := 0) (v := x)
        have hr2 := pw_rg (r := r) (z := z) (es := es) (u := 0) (v := w)
        have hr3 := ivW_rg (w := pw r z es 0 w)
        have hl3 := ivW_len (pw r z es 0 w)
        have hyr : rg y := by have := (isG_iff.1 (isF_g hok)).2.2 _ hm; unfold inR at this; simp only at this; unfold rg; omega
        have hr4 : ∀ n ∈ pw r z es 0 x ++ [y], rg n := fun n hn => (List.mem_append.1 hn).elim (hr1 n) fun h => by rw [List.mem_singleton] at h; rw [h]; exact hyr
        have hl4 : (pw r z es 0 x ++ [y]).length ≤ 1048576 := by rw [List.length_append, List.length_singleton]; omega
        repeat' (first|(refine ya ?_;first|refine yc ?_|refine ye ?_)|((first|refine yg ?_|refine yG ?_);intro hq;first|(replace hq:=zgy hq;first|refine yc ?_|refine yC ?_|refine yy hq ?_|refine yY hq ?_;clear hq)|((first|refine yn (zgn hq) ?_|refine yN (zgn hq) ?_);clear hq)|((fail_if_success have:=zgy hq);(first|refine zs hq ?_ ?_|refine zS hq ?_ ?_)<;>clear hq<;>intro hg hr<;>try exact zx))|refine yz ?_|(refine yA ?_;first|refine yC ?_|refine yE ?_)|refine yZ ?_|refine zst ?_|refine zo ?_|(refine zk ?_ ?_<;>intro hc hr<;>try exact zx))
        all_goals try exact zv
      · rw [lpO_no (fun h => hm h.2)]
        repeat' (first|(refine ya ?_;first|refine yc ?_|refine ye ?_)|((first|refine yg ?_|refine yG ?_);intro hq;first|(replace hq:=zgy hq;first|refine yc ?_|refine yC ?_|refine yy hq ?_|refine yY hq ?_;clear hq)|((first|refine yn (zgn hq) ?_|refine yN (zgn hq) ?_);clear hq)|((fail_if_success have:=zgy hq);(first|refine zs hq ?_ ?_|refine zS hq ?_ ?_)<;>clear hq<;>intro hg hr<;>try exact zx))|refine yz ?_|(refine yA ?_;first|refine yC ?_|refine yE ?_)|refine yZ ?_|refine zst ?_|refine zo ?_|(refine zk ?_ ?_<;>intro hc hr<;>try exact zx))
        all_goals try exact zv
instance : Con Tryz.prog 63 loop_sat2_S := con loop_sat2 Tryz.func63
end Go.Proofs.Tryz
