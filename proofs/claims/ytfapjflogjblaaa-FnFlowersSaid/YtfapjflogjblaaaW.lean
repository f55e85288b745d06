import Derived.Test.YtfapjflogjblaaaC
import Derived.Test.YtfapjflogjblaaaS
set_option linter.unusedVariables false
set_option linter.unusedSimpArgs false
set_option linter.unnecessarySimpa false
namespace Go.Proofs.Try
open Go Go.Eng
set_option linter.unnecessarySimpa false
set_option linter.unusedSimpArgs false
set_option maxHeartbeats 4000000
theorem sp_inv {a x : Int} (ha : -9223372036854775808 ≤ a ∧ a ≤ 9223372036854775807) (hx : -9223372036854775808 ≤ x ∧ x ≤ 9223372036854775807) (h0 : ¬ x = 0) (h1 : a = w64 (-x)) (h2 : ¬ w64 (-x) = x) : inv2 a x = true := by
  have h3 : ¬ x = -9223372036854775808 := by
    rintro rfl
    exact h2 (by decide)
  rw [w64Id ⟨by omega, by omega⟩] at h1
  simp [inv2]; omega
def K_areInv_sat : Nat → List Nat := fun i => ([[0, 1], [4]] : List (List Nat)).getD i []
attribute [go_sem] K_areInv_sat
def areInv_sat_S : Eng.Spec := fun args av objs => ∃ (a b : Int), (rg a ∧ rg b) ∧ args = [aI a, aI b] ∧ av = aB (inv2 a b) ∧ objs = []
theorem areInv_sat : Sat Try.prog 67 areInv_sat_S := by
  refine sat_of tok okr mixed K_areInv_sat Try.func67 rfl (rs := [.tmp 4]) rfl Try.ntmps67 ?_
  rintro args av objs ⟨a, b, hpre, rfl, rfl, rfl⟩
  refine ⟨by show 2 ≤ 17; decide, ?_⟩
  unfold rg at hpre
  by_cases ha : a = -9223372036854775808
  · subst ha
    have : inv2 (-9223372036854775808) b = false := by simp [inv2]
    rw [this]
    repeat' (first|(refine ya ?_;first|refine ye ?_)|(refine yg ?_;intro hgs;first|(replace hgs:=zgy hgs;first|refine yy hgs ?_;clear hgs)|(refine yn (zgn hgs) ?_;clear hgs)|((fail_if_success have:=zgy hgs);refine z_spl hgs (h1:=?_) (h2:=?_)<;>clear hgs<;>intro hg hr<;>try first|contradiction|exfalso;omega))|refine yz ?_|refine zst ?_|refine k_blk_other rfl ?_|(refine zk ?_ ?_<;>intro hc hr<;>try first|contradiction|exfalso;omega))
    all_goals first | (refine z_ret (hv := ?_) (ho := ?_) <;> first | rfl | (simp [go_sem, *]; done) | (simp_all; done) | (simp_all; omega)) | skip
  · have : inv2 a b = (decide (a ≠ 0) && decide (b = -a)) := by simp [inv2, ha]
    rw [this]
    repeat' (first|(refine ya ?_;first|refine ye ?_)|(refine yg ?_;intro hgs;first|(replace hgs:=zgy hgs;first|refine yy hgs ?_;clear hgs)|(refine yn (zgn hgs) ?_;clear hgs)|((fail_if_success have:=zgy hgs);refine z_spl hgs (h1:=?_) (h2:=?_)<;>clear hgs<;>intro hg hr<;>try first|contradiction|exfalso;omega))|refine yz ?_|refine zst ?_|refine k_blk_other rfl ?_|(refine zk ?_ ?_<;>intro hc hr<;>try first|contradiction|exfalso;omega))
    all_goals refine z_ret (hv := ?_) (ho := ?_)
    all_goals first | rfl | (simp_all; done) | (congr 3; rw [Bool.eq_iff_iff]; simp_all)
instance (priority := 3000) : Con Try.prog 67 (orS (specOf areInverse_sat) (specOf areInv_sat)) := con2 areInverse_sat areInv_sat Try.func67
/-- Lists of words as an argument: the words; that they are words of ints. -/
def unI (xss : List (List El)) : List Int := xss.flatten.map fun x => match x with | [.int n] => n | _ => 0
def PW (xss : List (List El)) : Prop := ∃ ws : List (List Int), xss = intss ws ∧ ws.length ≤ 1024 ∧ (∀ i, i < ws.length → (wx ws i).length ≤ 4194304) ∧ ∀ w ∈ ws, ∀ x ∈ w, rg x
theorem unI_ints (l : List Int) : (ints l).map (fun x : El => match x with | [.int n] => n | _ => 0) = l := by
  induction l with
  | nil => rfl
  | cons x r ih => simpa [ints] using ih
theorem unI_cons (l : List Int) (r : List (List El)) : unI (ints l :: r) = l ++ unI r := by
  simp only [unI, List.flatten_cons, List.map_append, unI_ints]
theorem unI_nil : unI [] = [] := rfl
theorem unI_ss (ws : List (List Int)) : unI (intss ws) = ws.flatten := by
  induction ws with
  | nil => rfl
  | cons w r ih => rw [show intss (w :: r) = ints w :: intss r from rfl, unI_cons, ih]; rfl
theorem PW_of {ws : List (List Int)} (h0 : ws.length ≤ 1024) (h : ∀ w ∈ ws, w.length ≤ 4194304 ∧ ∀ x ∈ w, rg x) : PW (intss ws) :=
  ⟨ws, rfl, h0, fun i hi => (h _ (wx_mem hi)).1, fun w hw => (h w hw).2⟩
theorem PW1 {a : List Int} (ha : a.length ≤ 4194304 ∧ ∀ x ∈ a, rg x) : PW [ints a] := PW_of (ws := [a]) (by simp) (by simpa using ha)
theorem PW2 {a b : List Int} (ha : a.length ≤ 4194304 ∧ ∀ x ∈ a, rg x) (hb : b.length ≤ 4194304 ∧ ∀ x ∈ b, rg x) : PW [ints a, ints b] := PW_of (ws := [a, b]) (by simp) (by
  intro w hw
  simp only [List.mem_cons, List.not_mem_nil, or_false] at hw
  rcases hw with rfl | rfl
  · exact ha
  · exact hb)
theorem PW3 {a b c : List Int} (ha : a.length ≤ 4194304 ∧ ∀ x ∈ a, rg x) (hb : b.length ≤ 4194304 ∧ ∀ x ∈ b, rg x) (hc : c.length ≤ 4194304 ∧ ∀ x ∈ c, rg x) : PW [ints a, ints b, ints c] := PW_of (ws := [a, b, c]) (by simp) (by
  intro w hw
  simp only [List.mem_cons, List.not_mem_nil, or_false] at hw
  rcases hw with rfl | rfl | rfl
  · exact ha
  · exact hb
  · exact hc)
theorem unI_one (y : Int) (r : List (List El)) : unI ([[.int y]] :: r) = [y] ++ unI r := unI_cons [y] r
attribute [go_sem] unI_cons unI_nil unI_one
instance : Con Try.prog 67 areInv_sat_S := con areInv_sat Try.func67
def K_reduce_sat2 : Nat → List Nat := fun i => ([[0], [0, 3], [0, 3, 4], [0, 3, 4, 10], [0, 3, 4], [0, 3, 4, 5], [0, 3, 4, 5, 48], [0, 3, 4], [0, 3, 4], [2]] : List (List Nat)).getD i []
attribute [go_sem] K_reduce_sat2
def reduce_sat2_S : Eng.Spec := fun args av objs => ∃ (w : List Int), (w.length ≤ 1099511627776 ∧ (∀ x ∈ w, rg x)) ∧ args = [aL w] ∧ av = aR 0 ∧ objs = [oL 3 (red w)]
theorem reduce_sat2 : Sat Try.prog 72 reduce_sat2_S := by
  refine sat_of tok okr mixed K_reduce_sat2 Try.func72 rfl (rs := [.tmp 2]) rfl Try.ntmps72 ?_
  rintro args av objs ⟨w, hpre, rfl, rfl, rfl⟩
  refine ⟨by show 1 ≤ 63; decide, ?_⟩
  repeat' (first|(refine ya ?_;first|refine ye ?_)|(refine yg ?_;intro hgs;first|(replace hgs:=zgy hgs;first|refine yy hgs ?_;clear hgs)|(refine yn (zgn hgs) ?_;clear hgs)|((fail_if_success have:=zgy hgs);refine z_spl hgs (h1:=?_) (h2:=?_)<;>clear hgs<;>intro hg hr<;>try first|contradiction|exfalso;omega))|refine yz ?_|(refine yA ?_;first|refine yE ?_)|(refine yG ?_;intro hgs;first|(replace hgs:=zgy hgs;first|refine yY hgs ?_;clear hgs)|(refine yN (zgn hgs) ?_;clear hgs)|((fail_if_success have:=zgy hgs);refine z_spll hgs (h1:=?_) (h2:=?_)<;>clear hgs<;>intro hg hr<;>try first|contradiction|exfalso;omega))|refine yZ ?_|refine zst ?_|refine k_blk_other rfl ?_|(refine zk ?_ ?_<;>intro hc hr<;>try first|contradiction|exfalso;omega))
  refine z_loop (fun i : Nat => [(4, aI i)]) (fun i : Nat => [.obj 3 (oL 3 (rdN w [] i))]) (fun i : Nat => i ≤ w.length) (fun i : Nat => w.length - i) (0) (h0 := ?_) (henv := ?_) (hobj := ?_) (h := ?_)
  · omega
  · simp [go_sem, AVm, CVm, lookS, rdN_0]
  · simp [go_sem, OBm, CVm, lookS, All2, rdN_0]
  intro i hi
  have hl : (rdN w [] i).length ≤ i := by simpa using rdN_len w [] i
  have hm := rdN_mem (w := w) (out := []) (i := i) (by simp) hpre.2
  rcases Nat.lt_or_ge i w.length with hlt | hge
  · have hs := rdN_s (out := []) hlt
    generalize hR : rdN w [] i = R at *
    have hxr := hpre.2 _ (ix_mem hlt)
    unfold rg at hxr
    by_cases h0 : 0 < R.length
    · have hlr := hm _ (ix_mem (l := R) (i := R.length - 1) (by omega))
      unfold rg at hlr
      by_cases hinv : inv2 (ix R (R.length - 1)) (ix w i) = true
      · rw [rdS_cut h0 hinv] at hs
        have hi2 := hinv
        simp only [inv2, decide_eq_true_eq] at hi2
        have e1 : ix R (R.length - 1) = -ix w i := by omega
        have e3 : ¬ ix w i = 0 := by omega
        have e4 : -9223372036854775808 < ix w i := by omega
        have e5 : ¬ -ix w i = ix w i := by omega
        clear hi2 hinv
        repeat' (first|(refine ya ?_;first|refine ye ?_)|(refine yg ?_;intro hgs;first|(replace hgs:=zgy hgs;first|refine yy hgs ?_;clear hgs)|(refine yn (zgn hgs) ?_;clear hgs)|((fail_if_success have:=zgy hgs);refine z_spl hgs (h1:=?_) (h2:=?_)<;>clear hgs<;>intro hg hr<;>try first|contradiction|exfalso;omega))|refine yz ?_|(refine yA ?_;first|refine yE ?_)|(refine yG ?_;intro hgs;first|(replace hgs:=zgy hgs;first|refine yY hgs ?_;clear hgs)|(refine yN (zgn hgs) ?_;clear hgs)|((fail_if_success have:=zgy hgs);refine z_spll hgs (h1:=?_) (h2:=?_)<;>clear hgs<;>intro hg hr<;>try first|contradiction|exfalso;omega))|refine yZ ?_|refine zst ?_|refine k_blk_other rfl ?_|(refine zk ?_ ?_<;>intro hc hr<;>try first|contradiction|exfalso;omega))
        (refine z_lop (i + 1) (hj := ?_) (hmu := ?_) (henv := ?_) (hobj := ?_); (· omega); (· first | omega | (simp only; omega)); (· first | (simp [go_sem, AVm, CVm, lookS, hs, exFlat, *]; done) | (simp [go_sem, AVm, CVm, lookS, hs, exFlat, *] <;> (repeat' split) <;> first | omega | (simp_all; done) | (exfalso; omega) | (simp_all; omega))); (· first | (simp [go_sem, OBm, CVm, All2, lookS, hs, exFlat, *]; done) | (simp [go_sem, OBm, CVm, All2, lookS, hs, exFlat, *] <;> (repeat' split) <;> first | omega | (simp_all; done) | (exfalso; omega) | (simp_all; omega))))
      · rw [rdS_put (fun h => hinv h.2)] at hs
        repeat' (first|(refine ya ?_;first|refine ye ?_)|(refine yg ?_;intro hgs;first|(replace hgs:=zgy hgs;first|refine yy hgs ?_;clear hgs)|(refine yn (zgn hgs) ?_;clear hgs)|((fail_if_success have:=zgy hgs);refine z_spl hgs (h1:=?_) (h2:=?_)<;>clear hgs<;>intro hg hr<;>try first|contradiction|exfalso;omega))|refine yz ?_|(refine yA ?_;first|refine yE ?_)|(refine yG ?_;intro hgs;first|(replace hgs:=zgy hgs;first|refine yY hgs ?_;clear hgs)|(refine yN (zgn hgs) ?_;clear hgs)|((fail_if_success have:=zgy hgs);refine z_spll hgs (h1:=?_) (h2:=?_)<;>clear hgs<;>intro hg hr<;>try first|contradiction|exfalso;omega))|refine yZ ?_|refine zst ?_|refine k_blk_other rfl ?_|(refine zk ?_ ?_<;>intro hc hr<;>try first|contradiction|exfalso;omega))
        all_goals first
          | (exfalso; exact hinv (sp_inv hlr hxr (by assumption) (by assumption) (by assumption)); done)
          | (refine z_lop (i + 1) (hj := ?_) (hmu := ?_) (henv := ?_) (hobj := ?_); (· omega); (· first | omega | (simp only; omega)); (· first | (simp [go_sem, AVm, CVm, lookS, hs, *]; done) | (simp [go_sem, AVm, CVm, lookS, hs, *] <;> (repeat' split) <;> first | omega | (simp_all; done) | (exfalso; omega) | (simp_all; omega))); (· first | (simp [go_sem, OBm, CVm, All2, lookS, hs, *]; done) | (simp [go_sem, OBm, CVm, All2, lookS, hs, *] <;> (repeat' split) <;> first | omega | (simp_all; done) | (exfalso; omega) | (simp_all; omega))))
          | trace_state
    · rw [rdS_put (fun h => h0 h.1)] at hs
      repeat' (first|(refine ya ?_;first|refine ye ?_)|(refine yg ?_;intro hgs;first|(replace hgs:=zgy hgs;first|refine yy hgs ?_;clear hgs)|(refine yn (zgn hgs) ?_;clear hgs)|((fail_if_success have:=zgy hgs);refine z_spl hgs (h1:=?_) (h2:=?_)<;>clear hgs<;>intro hg hr<;>try first|contradiction|exfalso;omega))|refine yz ?_|(refine yA ?_;first|refine yE ?_)|(refine yG ?_;intro hgs;first|(replace hgs:=zgy hgs;first|refine yY hgs ?_;clear hgs)|(refine yN (zgn hgs) ?_;clear hgs)|((fail_if_success have:=zgy hgs);refine z_spll hgs (h1:=?_) (h2:=?_)<;>clear hgs<;>intro hg hr<;>try first|contradiction|exfalso;omega))|refine yZ ?_|refine zst ?_|refine k_blk_other rfl ?_|(refine zk ?_ ?_<;>intro hc hr<;>try first|contradiction|exfalso;omega))
      (refine z_lop (i + 1) (hj := ?_) (hmu := ?_) (henv := ?_) (hobj := ?_); (· omega); (· first | omega | (simp only; omega)); (· first | (simp [go_sem, AVm, CVm, lookS, hs, *]; done) | (simp [go_sem, AVm, CVm, lookS, hs, *] <;> (repeat' split) <;> first | omega | (simp_all; done) | (exfalso; omega) | (simp_all; omega))); (· first | (simp [go_sem, OBm, CVm, All2, lookS, hs, *]; done) | (simp [go_sem, OBm, CVm, All2, lookS, hs, *] <;> (repeat' split) <;> first | omega | (simp_all; done) | (exfalso; omega) | (simp_all; omega))))
  · have hii : i = w.length := by omega
    subst hii
    rw [rdN_all] at hl hm ⊢
    repeat' (first|(refine ya ?_;first|refine ye ?_)|(refine yg ?_;intro hgs;first|(replace hgs:=zgy hgs;first|refine yy hgs ?_;clear hgs)|(refine yn (zgn hgs) ?_;clear hgs)|((fail_if_success have:=zgy hgs);refine z_spl hgs (h1:=?_) (h2:=?_)<;>clear hgs<;>intro hg hr<;>try first|contradiction|exfalso;omega))|refine yz ?_|(refine yA ?_;first|refine yE ?_)|(refine yG ?_;intro hgs;first|(replace hgs:=zgy hgs;first|refine yY hgs ?_;clear hgs)|(refine yN (zgn hgs) ?_;clear hgs)|((fail_if_success have:=zgy hgs);refine z_spll hgs (h1:=?_) (h2:=?_)<;>clear hgs<;>intro hg hr<;>try first|contradiction|exfalso;omega))|refine yZ ?_|refine zst ?_|refine k_blk_other rfl ?_|(refine zk ?_ ?_<;>intro hc hr<;>try first|contradiction|exfalso;omega))
    all_goals first | (refine z_ret (hv := ?_) (ho := ?_) <;> first | rfl | (simp [go_sem, red, *]; done) | (simp_all [red]; done) | (simp_all [red]; omega)) | skip
instance : Con Try.prog 72 reduce_sat2_S := con reduce_sat2 Try.func72
end Go.Proofs.Try
