import Derived.Test.YtfapjflogjblaaaS1
import Derived.Test.YtfapjflogjblaaaD9
set_option linter.unusedVariables false
set_option linter.unusedSimpArgs false
set_option linter.unnecessarySimpa false
/- Words as texts; equal words. -/
namespace Go.Proofs.Try
open Go Go.Eng
set_option linter.unnecessarySimpa false
set_option linter.unusedSimpArgs false
set_option maxHeartbeats 8000000
set_option maxRecDepth 20000
theorem fwS_nil : fwS [] = [49] := rfl
theorem fwS_bad {w : List Int} {i : Nat} (hi : i < w.length) (h : ltB (ix w i) = false) : fwS w = [] := by
  unfold fwS
  rw [if_neg (fun e => by rw [e] at hi; simp at hi), all_bad hi h]; rfl
theorem fwS_good {w : List Int} (h0 : w ≠ []) (h : ∀ j, j < w.length → ltB (ix w j) = true) : fwS w = fwN w w.length := by
  unfold fwS
  rw [if_neg h0, all_good h]; rfl
theorem ltx_no {x : Int} (h : ltB x = false) : ltx x = [] := by
  have := ltx_len x
  rw [h] at this
  exact List.eq_nil_of_length_eq_zero this
theorem ltx_ne {x : Int} (h : ltB x = true) : ltx x ≠ [] := fun e => by
  have := ltx_len x
  rw [h, e] at this
  cases this
theorem fwN_s (w : List Int) (i : Nat) : fwN w (i + 1) = fwN w i ++ ltx (ix w i) := rfl
attribute [local irreducible] ltx ltB fwN
def K_fmtW_sat : Nat → List Nat := fun i => ([[0], [0, 9], [2], [0, 3], [3, 10, 11, 12], [3, 10, 11, 12, 13], [3, 5, 10, 11, 12], [3, 6, 10, 11, 12], [3, 6, 10, 11, 12, 19], [2], [3, 10, 11, 12], [3, 10, 11, 12], [2]] : List (List Nat)).getD i []
attribute [go_sem] K_fmtW_sat
def fmtW_sat_S : Eng.Spec := fun args av objs => ∃ (w : List Int), (w.length ≤ 1048576 ∧ (∀ x ∈ w, rg x)) ∧ args = [aL w] ∧ av = aS (strI (fwS w)) ∧ objs = []
theorem fmtW_sat : Sat Try.prog 51 fmtW_sat_S := by
  refine sat_of tok okr mixed K_fmtW_sat Try.func51 rfl (rs := [.tmp 2]) rfl Try.ntmps51 ?_
  rintro args av objs ⟨w, hpre, rfl, rfl, rfl⟩
  refine ⟨by show 1 ≤ 25; decide, ?_⟩
  obtain ⟨hl, hrg⟩ := hpre
  by_cases h0 : w.length = 0
  · have hw : w = [] := nil_of h0
    subst hw
    rw [fwS_nil]
    repeat' (first|(refine ya ?_;first|(refine yb ?_;first|refine yc ?_)|refine ye ?_)|refine yz ?_|refine zst ?_|refine k_blk_other rfl ?_|(refine zk ?_ ?_<;>intro hc hr<;>try first|contradiction|exfalso;omega))
    all_goals first | (refine z_ret (hv := ?_) (ho := ?_) <;> first | rfl | (simp [go_sem, *]; done) | (simp_all; done) | (simp_all; omega)) | skip
  · have hw0 : w ≠ [] := fun e => h0 (by rw [e]; rfl)
    repeat' (first|(refine ya ?_;first|(refine yb ?_;first|refine yc ?_)|refine ye ?_)|refine yz ?_|refine zst ?_|refine k_blk_other rfl ?_|(refine zk ?_ ?_<;>intro hc hr<;>try first|contradiction|exfalso;omega))
    refine z_loop (fun i : Nat => [(12, aI i), (3, aS (strI (fwN w i)))]) (fun i : Nat => []) (fun i : Nat => i ≤ w.length ∧ ∀ j, j < i → ltB (ix w j) = true) (fun i : Nat => w.length - i) (0) (h0 := ?_) (henv := ?_) (hobj := ?_) (h := ?_)
    · exact ⟨by omega, fun j hj => by omega⟩
    · simp [go_sem, AVm, CVm, lookS, fwN, strI_nil]
    · simp [go_sem, OBm, CVm, lookS, All2, fwN, strI_nil]
    rintro i ⟨hi, hall⟩
    have hfl := fwN_len w i
    rcases Nat.lt_or_ge i w.length with hlt | hge
    · have hx : rg (ix w i) := hrg _ (ix_mem hlt)
      cases hb : ltB (ix w i)
      · have he := ltx_no hb
        have e2 := fwS_bad hlt hb
        rw [e2]
        clear hb hall e2
        repeat' (first|(refine ya ?_;first|(refine yb ?_;first|refine yc ?_)|refine ye ?_)|refine yz ?_|refine zst ?_|refine k_blk_other rfl ?_|(refine zk ?_ ?_<;>intro hc hr<;>try first|contradiction|exfalso;omega))
        all_goals first | (refine z_ret (hv := ?_) (ho := ?_) <;> first | rfl | (simp [go_sem, *]; done) | (simp_all; done) | (simp_all; omega)) | skip
      · have he := ltx_ne hb
        have hn : fwN w (i + 1) = fwN w i ++ ltx (ix w i) := fwN_s w i
        have hl1 : (ltx (ix w i)).length = 1 := by rw [ltx_len, hb]; rfl
        have hI : ∀ j, j < i + 1 → ltB (ix w j) = true := fun j hj => (Nat.lt_or_ge j i).elim (hall j) fun h => by rw [show j = i by omega]; exact hb
        clear hb hall
        repeat' (first|(refine ya ?_;first|(refine yb ?_;first|refine yc ?_)|refine ye ?_)|refine yz ?_|refine zst ?_|refine k_blk_other rfl ?_|(refine zk ?_ ?_<;>intro hc hr<;>try first|contradiction|exfalso;omega))
        (refine z_lop (i + 1) (hj := ?_) (hmu := ?_) (henv := ?_) (hobj := ?_); (· exact ⟨by omega, hI⟩); (· first | omega | (simp only; omega)); (· first | (simp [go_sem, AVm, CVm, lookS, hn, *]; done) | (simp [go_sem, AVm, CVm, lookS, hn, *] <;> (repeat' split) <;> first | omega | (simp_all; done) | (exfalso; omega) | (simp_all; omega))); (· first | (simp [go_sem, OBm, CVm, All2, lookS, hn, *]; done) | (simp [go_sem, OBm, CVm, All2, lookS, hn, *] <;> (repeat' split) <;> first | omega | (simp_all; done) | (exfalso; omega) | (simp_all; omega))))
    · have hii : i = w.length := by omega
      subst hii
      rw [fwS_good hw0 hall]
      clear hall
      repeat' (first|(refine ya ?_;first|(refine yb ?_;first|refine yc ?_)|refine ye ?_)|refine yz ?_|refine zst ?_|refine k_blk_other rfl ?_|(refine zk ?_ ?_<;>intro hc hr<;>try first|contradiction|exfalso;omega))
      all_goals first | (refine z_ret (hv := ?_) (ho := ?_) <;> first | rfl | (simp [go_sem, *]; done) | (simp_all; done) | (simp_all; omega)) | skip
instance : Con Try.prog 51 fmtW_sat_S := con fmtW_sat Try.func51
def K_fmtW_sat2 : Nat → List Nat := fun i => ([[0], [0, 3], [0, 3, 4], [0, 3, 4, 8], [0, 3, 4], [0, 3, 4, 16], [2], [0, 3, 4], [3, 25], [2], [2]] : List (List Nat)).getD i []
attribute [go_sem] K_fmtW_sat2
def fmtW_sat2_S : Eng.Spec := fun args av objs => ∃ (w : List Int), (w.length ≤ 1048576 ∧ (∀ x ∈ w, rg x)) ∧ args = [aL w] ∧ av = aS (strI (fwS w)) ∧ objs = []
theorem fmtW_sat2 : Sat Try.prog 60 fmtW_sat2_S := by
  refine sat_of tok okr mixed K_fmtW_sat2 Try.func60 rfl (rs := [.tmp 2]) rfl Try.ntmps60 ?_
  rintro args av objs ⟨w, hpre, rfl, rfl, rfl⟩
  refine ⟨by show 1 ≤ 27; decide, ?_⟩
  obtain ⟨hl, hrg⟩ := hpre
  repeat' (first|(refine ya ?_;first|(refine yb ?_;first|refine yc ?_)|refine ye ?_)|refine yz ?_|refine zst ?_|refine k_blk_other rfl ?_|(refine zk ?_ ?_<;>intro hc hr<;>try first|contradiction|exfalso;omega))
  refine z_loop (fun i : Nat => [(4, aI i), (3, aS (strI (fwN w i)))]) (fun i : Nat => []) (fun i : Nat => i ≤ w.length ∧ ∀ j, j < i → ltB (ix w j) = true) (fun i : Nat => w.length - i) (0) (h0 := ?_) (henv := ?_) (hobj := ?_) (h := ?_)
  · exact ⟨by omega, fun j hj => by omega⟩
  · simp [go_sem, AVm, CVm, lookS, fwN, strI_nil]
  · simp [go_sem, OBm, CVm, lookS, All2, fwN, strI_nil]
  rintro i ⟨hi, hall⟩
  have hfl := fwN_len w i
  rcases Nat.lt_or_ge i w.length with hlt | hge
  · have hx : rg (ix w i) := hrg _ (ix_mem hlt)
    cases hb : ltB (ix w i)
    · have e2 := fwS_bad hlt hb
      rw [e2]
      clear hall e2
      repeat' (first|(refine ya ?_;first|(refine yb ?_;first|refine yc ?_)|refine ye ?_)|refine yz ?_|refine zst ?_|refine k_blk_other rfl ?_|(refine zk ?_ ?_<;>intro hc hr<;>try first|contradiction|exfalso;omega))
      all_goals first | (refine z_ret (hv := ?_) (ho := ?_) <;> first | rfl | (simp [go_sem, *]; done) | (simp_all; done) | (simp_all; omega)) | skip
    · have hn : fwN w (i + 1) = fwN w i ++ ltx (ix w i) := fwN_s w i
      have hl1 : (ltx (ix w i)).length = 1 := by rw [ltx_len, hb]; rfl
      have hI : ∀ j, j < i + 1 → ltB (ix w j) = true := fun j hj => (Nat.lt_or_ge j i).elim (hall j) fun h => by rw [show j = i by omega]; exact hb
      clear hall
      repeat' (first|(refine ya ?_;first|(refine yb ?_;first|refine yc ?_)|refine ye ?_)|refine yz ?_|refine zst ?_|refine k_blk_other rfl ?_|(refine zk ?_ ?_<;>intro hc hr<;>try first|contradiction|exfalso;omega))
      (refine z_lop (i + 1) (hj := ?_) (hmu := ?_) (henv := ?_) (hobj := ?_); (· exact ⟨by omega, hI⟩); (· first | omega | (simp only; omega)); (· first | (simp [go_sem, AVm, CVm, lookS, hn, *]; done) | (simp [go_sem, AVm, CVm, lookS, hn, *] <;> (repeat' split) <;> first | omega | (simp_all; done) | (exfalso; omega) | (simp_all; omega))); (· first | (simp [go_sem, OBm, CVm, All2, lookS, hn, *]; done) | (simp [go_sem, OBm, CVm, All2, lookS, hn, *] <;> (repeat' split) <;> first | omega | (simp_all; done) | (exfalso; omega) | (simp_all; omega))))
  · have hii : i = w.length := by omega
    subst hii
    have hfl2 := fwN_len2 hall
    by_cases h0 : w = []
    · subst h0
      rw [fwS_nil]
      clear hall
      repeat' (first|(refine ya ?_;first|(refine yb ?_;first|refine yc ?_)|refine ye ?_)|refine yz ?_|refine zst ?_|refine k_blk_other rfl ?_|(refine zk ?_ ?_<;>intro hc hr<;>try first|contradiction|exfalso;omega))
      all_goals first | (refine z_ret (hv := ?_) (ho := ?_) <;> first | rfl | (simp [go_sem, *]; done) | (simp_all; done) | (simp_all; omega)) | skip
    · rw [fwS_good h0 hall]
      have hne : fwN w w.length ≠ [] := fun e => h0 (nil_of (by rw [← hfl2, e]; rfl))
      clear hall
      repeat' (first|(refine ya ?_;first|(refine yb ?_;first|refine yc ?_)|refine ye ?_)|refine yz ?_|refine zst ?_|refine k_blk_other rfl ?_|(refine zk ?_ ?_<;>intro hc hr<;>try first|contradiction|exfalso;omega))
      all_goals first | (refine z_ret (hv := ?_) (ho := ?_) <;> first | rfl | (simp [go_sem, *]; done) | (simp_all; done) | (simp_all; omega)) | skip
/-! ### Equal words, equal lists of words -/
instance : Con Try.prog 60 fmtW_sat2_S := con fmtW_sat2 Try.func60
def K_eqW_sat : Nat → List Nat := fun i => ([[0, 1], [0, 1, 10], [4], [0, 1, 12, 13], [0, 1, 12, 13, 14], [0, 1, 5, 12, 13], [0, 1, 12, 13, 24], [4], [0, 1, 12, 13], [4]] : List (List Nat)).getD i []
attribute [go_sem] K_eqW_sat
def eqW_sat_S : Eng.Spec := fun args av objs => ∃ (xs ys : List Int), (xs.length ≤ 1099511627776) ∧ args = [aL xs, aL ys] ∧ av = aB (decide (xs = ys)) ∧ objs = []
theorem eqW_sat : Sat Try.prog 62 eqW_sat_S := by
  refine sat_of tok okr mixed K_eqW_sat Try.func62 rfl (rs := [.tmp 4]) rfl Try.ntmps62 ?_
  rintro args av objs ⟨xs, ys, hpre, rfl, rfl, rfl⟩
  refine ⟨by show 2 ≤ 26; decide, ?_⟩
  by_cases hl : xs.length = ys.length
  · repeat' (first|(refine ya ?_;first|refine ye ?_)|refine yz ?_|(refine yA ?_;first|refine yE ?_)|refine yZ ?_|refine zst ?_|refine k_blk_other rfl ?_|(refine zk ?_ ?_<;>intro hc hr<;>try first|contradiction|exfalso;omega))
    refine z_loop (fun i : Nat => [(13, aI i)]) (fun i : Nat => []) (fun i : Nat => i ≤ xs.length ∧ ∀ j, j < i → ix xs j = ix ys j) (fun i : Nat => xs.length - i) (0) (h0 := ?_) (henv := ?_) (hobj := ?_) (h := ?_)
    · exact ⟨by omega, fun j hj => by omega⟩
    · simp [go_sem, AVm, CVm, lookS]
    · simp [go_sem, OBm, CVm, lookS, All2]
    rintro i ⟨hi, hall⟩
    rcases Nat.lt_or_ge i xs.length with hlt | hge
    · have hlt2 : i < ys.length := by omega
      by_cases he : ix xs i = ix ys i
      · repeat' (first|(refine ya ?_;first|refine ye ?_)|refine yz ?_|(refine yA ?_;first|refine yE ?_)|refine yZ ?_|refine zst ?_|refine k_blk_other rfl ?_|(refine zk ?_ ?_<;>intro hc hr<;>try first|contradiction|exfalso;omega))
        exact zl (i + 1) (hj := by exact ⟨by omega, fun j hj => (Nat.lt_or_ge j i).elim (hall j) fun h => by rw [show j = i by omega]; exact he⟩)
      · have hne : ¬ xs = ys := fun h => he (by rw [h])
        repeat' (first|(refine ya ?_;first|refine ye ?_)|refine yz ?_|(refine yA ?_;first|refine yE ?_)|refine yZ ?_|refine zst ?_|refine k_blk_other rfl ?_|(refine zk ?_ ?_<;>intro hc hr<;>try first|contradiction|exfalso;omega))
        all_goals first | (refine z_ret (hv := ?_) (ho := ?_) <;> first | rfl | (simp [go_sem, *]; done) | (simp_all; done) | (simp_all; omega)) | skip
    · have hx : xs = ys := ints_ext2 hl fun j hj => hall j (by omega)
      have hd : decide (xs = ys) = true := by simp [hx]
      rw [hd]
      have hi2 : ¬ i < xs.length := by omega
      clear hall hd hx
      repeat' (first|(refine ya ?_;first|refine ye ?_)|refine yz ?_|(refine yA ?_;first|refine yE ?_)|refine yZ ?_|refine zst ?_|refine k_blk_other rfl ?_|(refine zk ?_ ?_<;>intro hc hr<;>try first|contradiction|exfalso;omega))
      all_goals first | (refine z_ret (hv := ?_) (ho := ?_) <;> first | rfl | (simp [go_sem, *]; done) | (simp_all; done) | (simp_all; omega)) | skip
  · have hne : ¬ xs = ys := fun h => hl (by rw [h])
    repeat' (first|(refine ya ?_;first|refine ye ?_)|refine yz ?_|(refine yA ?_;first|refine yE ?_)|refine yZ ?_|refine zst ?_|refine k_blk_other rfl ?_|(refine zk ?_ ?_<;>intro hc hr<;>try first|contradiction|exfalso;omega))
    all_goals first | (refine z_ret (hv := ?_) (ho := ?_) <;> first | rfl | (simp [go_sem, *]; done) | (simp_all; done) | (simp_all; omega)) | skip
instance : Con Try.prog 62 eqW_sat_S := con eqW_sat Try.func62
def K_eqW_sat2 : Nat → List Nat := fun i => ([[0, 1], [0, 1, 10], [4], [0, 1, 5], [0, 1, 5, 14], [0, 1, 5], [0, 1, 5, 25], [4], [4]] : List (List Nat)).getD i []
attribute [go_sem] K_eqW_sat2
def eqW_sat2_S : Eng.Spec := fun args av objs => ∃ (xs ys : List Int), (xs.length ≤ 1099511627776) ∧ args = [aL xs, aL ys] ∧ av = aB (decide (xs = ys)) ∧ objs = []
theorem eqW_sat2 : Sat Try.prog 63 eqW_sat2_S := by
  refine sat_of tok okr mixed K_eqW_sat2 Try.func63 rfl (rs := [.tmp 4]) rfl Try.ntmps63 ?_
  rintro args av objs ⟨xs, ys, hpre, rfl, rfl, rfl⟩
  refine ⟨by show 2 ≤ 26; decide, ?_⟩
  by_cases hl : xs.length = ys.length
  · repeat' (first|(refine ya ?_;first|refine ye ?_)|refine yz ?_|(refine yA ?_;first|refine yE ?_)|refine yZ ?_|refine zst ?_|refine k_blk_other rfl ?_|(refine zk ?_ ?_<;>intro hc hr<;>try first|contradiction|exfalso;omega))
    refine z_loop (fun i : Nat => [(5, aI i)]) (fun i : Nat => []) (fun i : Nat => i ≤ xs.length ∧ ∀ j, j < i → ix xs j = ix ys j) (fun i : Nat => xs.length - i) (0) (h0 := ?_) (henv := ?_) (hobj := ?_) (h := ?_)
    · exact ⟨by omega, fun j hj => by omega⟩
    · simp [go_sem, AVm, CVm, lookS]
    · simp [go_sem, OBm, CVm, lookS, All2]
    rintro i ⟨hi, hall⟩
    rcases Nat.lt_or_ge i xs.length with hlt | hge
    · have hlt2 : i < ys.length := by omega
      by_cases he : ix xs i = ix ys i
      · repeat' (first|(refine ya ?_;first|refine ye ?_)|refine yz ?_|(refine yA ?_;first|refine yE ?_)|refine yZ ?_|refine zst ?_|refine k_blk_other rfl ?_|(refine zk ?_ ?_<;>intro hc hr<;>try first|contradiction|exfalso;omega))
        exact zl (i + 1) (hj := by exact ⟨by omega, fun j hj => (Nat.lt_or_ge j i).elim (hall j) fun h => by rw [show j = i by omega]; exact he⟩)
      · have hne : ¬ xs = ys := fun h => he (by rw [h])
        repeat' (first|(refine ya ?_;first|refine ye ?_)|refine yz ?_|(refine yA ?_;first|refine yE ?_)|refine yZ ?_|refine zst ?_|refine k_blk_other rfl ?_|(refine zk ?_ ?_<;>intro hc hr<;>try first|contradiction|exfalso;omega))
        all_goals first | (refine z_ret (hv := ?_) (ho := ?_) <;> first | rfl | (simp [go_sem, *]; done) | (simp_all; done) | (simp_all; omega)) | skip
    · have hx : xs = ys := ints_ext2 hl fun j hj => hall j (by omega)
      have hd : decide (xs = ys) = true := by simp [hx]
      rw [hd]
      have hi2 : ¬ i < xs.length := by omega
      clear hall hd hx
      repeat' (first|(refine ya ?_;first|refine ye ?_)|refine yz ?_|(refine yA ?_;first|refine yE ?_)|refine yZ ?_|refine zst ?_|refine k_blk_other rfl ?_|(refine zk ?_ ?_<;>intro hc hr<;>try first|contradiction|exfalso;omega))
      all_goals first | (refine z_ret (hv := ?_) (ho := ?_) <;> first | rfl | (simp [go_sem, *]; done) | (simp_all; done) | (simp_all; omega)) | skip
  · have hne : ¬ xs = ys := fun h => hl (by rw [h])
    repeat' (first|(refine ya ?_;first|refine ye ?_)|refine yz ?_|(refine yA ?_;first|refine yE ?_)|refine yZ ?_|refine zst ?_|refine k_blk_other rfl ?_|(refine zk ?_ ?_<;>intro hc hr<;>try first|contradiction|exfalso;omega))
    all_goals first | (refine z_ret (hv := ?_) (ho := ?_) <;> first | rfl | (simp [go_sem, *]; done) | (simp_all; done) | (simp_all; omega)) | skip
theorem wxs_ext3 {xs ys : List (List Int)} (hl : xs.length = ys.length) (h : ∀ j, j < xs.length → wx xs j = wx ys j) : xs = ys := by
  apply List.ext_getElem hl
  intro i h1 h2
  have := h i h1
  simpa [wx, h1, h2] using this
instance : Con Try.prog 63 eqW_sat2_S := con eqW_sat2 Try.func63
def K_eqL_sat : Nat → List Nat := fun i => ([[0, 1], [0, 1, 10], [4], [0, 1, 12, 13], [0, 1, 12, 13, 14], [0, 1, 5, 12, 13], [0, 1, 12, 13, 25], [4], [0, 1, 12, 13], [4]] : List (List Nat)).getD i []
attribute [go_sem] K_eqL_sat
def eqL_sat_S : Eng.Spec := fun args av objs => ∃ (a b : List (List Int)), (a.length ≤ 1048576 ∧ b.length ≤ 1048576 ∧ (∀ w ∈ a, w.length ≤ 1048576) ∧ (∀ w ∈ b, w.length ≤ 1048576)) ∧ args = [aW a, aW b] ∧ av = aB (decide (a = b)) ∧ objs = []
theorem eqL_sat : Sat Try.prog 28 eqL_sat_S := by
  refine sat_of tok okr mixed K_eqL_sat Try.func28 rfl (rs := [.tmp 4]) rfl Try.ntmps28 ?_
  rintro args av objs ⟨a, b, hpre, rfl, rfl, rfl⟩
  refine ⟨by show 2 ≤ 27; decide, ?_⟩
  obtain ⟨ha, hb, hma, hmb⟩ := hpre
  by_cases hl : a.length = b.length
  · repeat' (first|(refine ya ?_;first|(refine yb ?_;first|refine yc ?_)|refine ye ?_)|refine yz ?_|(refine yA ?_;first|(refine yB ?_;first|refine yC ?_)|refine yE ?_)|refine yZ ?_|refine zst ?_|refine k_blk_other rfl ?_|(refine zk ?_ ?_<;>intro hc hr<;>try first|contradiction|exfalso;omega))
    refine z_loop (fun i : Nat => [(13, aI i)]) (fun i : Nat => []) (fun i : Nat => i ≤ a.length ∧ ∀ j, j < i → wx a j = wx b j) (fun i : Nat => a.length - i) (0) (h0 := ?_) (henv := ?_) (hobj := ?_) (h := ?_)
    · exact ⟨by omega, fun j hj => by omega⟩
    · simp [go_sem, AVm, CVm, lookS]
    · simp [go_sem, OBm, CVm, lookS, All2]
    rintro i ⟨hi, hall⟩
    rcases Nat.lt_or_ge i a.length with hlt | hge
    · have hlt2 : i < b.length := by omega
      have m1 := hma _ (wx_mem hlt)
      have m3 : (wx a i).length ≤ 1099511627776 := by omega
      by_cases he : wx a i = wx b i
      · have hd : decide (wx a i = wx b i) = true := decide_eq_true he
        repeat' (first|(refine ya ?_;first|(refine yb ?_;first|refine yc ?_)|refine ye ?_)|refine yz ?_|(refine yA ?_;first|(refine yB ?_;first|refine yC ?_)|refine yE ?_)|refine yZ ?_|refine zst ?_|refine k_blk_other rfl ?_|(refine zk ?_ ?_<;>intro hc hr<;>try first|contradiction|exfalso;omega))
        exact zl (i + 1) (hj := by exact ⟨by omega, fun j hj => (Nat.lt_or_ge j i).elim (hall j) fun h => by rw [show j = i by omega]; exact he⟩)
      · have hd : decide (wx a i = wx b i) = false := decide_eq_false he
        have hne : ¬ a = b := fun h => he (by rw [h])
        repeat' (first|(refine ya ?_;first|(refine yb ?_;first|refine yc ?_)|refine ye ?_)|refine yz ?_|(refine yA ?_;first|(refine yB ?_;first|refine yC ?_)|refine yE ?_)|refine yZ ?_|refine zst ?_|refine k_blk_other rfl ?_|(refine zk ?_ ?_<;>intro hc hr<;>try first|contradiction|exfalso;omega))
        all_goals first | (refine z_ret (hv := ?_) (ho := ?_) <;> first | rfl | (simp [go_sem, *]; done) | (simp_all; done) | (simp_all; omega)) | skip
    · have hx : a = b := wxs_ext3 hl fun j hj => hall j (by omega)
      have hd : decide (a = b) = true := by simp [hx]
      rw [hd]
      have hi2 : ¬ i < a.length := by omega
      clear hall hd hx
      repeat' (first|(refine ya ?_;first|(refine yb ?_;first|refine yc ?_)|refine ye ?_)|refine yz ?_|(refine yA ?_;first|(refine yB ?_;first|refine yC ?_)|refine yE ?_)|refine yZ ?_|refine zst ?_|refine k_blk_other rfl ?_|(refine zk ?_ ?_<;>intro hc hr<;>try first|contradiction|exfalso;omega))
      all_goals first | (refine z_ret (hv := ?_) (ho := ?_) <;> first | rfl | (simp [go_sem, *]; done) | (simp_all; done) | (simp_all; omega)) | skip
  · have hne : ¬ a = b := fun h => hl (by rw [h])
    repeat' (first|(refine ya ?_;first|(refine yb ?_;first|refine yc ?_)|refine ye ?_)|refine yz ?_|(refine yA ?_;first|(refine yB ?_;first|refine yC ?_)|refine yE ?_)|refine yZ ?_|refine zst ?_|refine k_blk_other rfl ?_|(refine zk ?_ ?_<;>intro hc hr<;>try first|contradiction|exfalso;omega))
    all_goals first | (refine z_ret (hv := ?_) (ho := ?_) <;> first | rfl | (simp [go_sem, *]; done) | (simp_all; done) | (simp_all; omega)) | skip
instance : Con Try.prog 28 eqL_sat_S := con eqL_sat Try.func28
def K_eqL_sat2 : Nat → List Nat := fun i => ([[0, 1], [0, 1, 10], [4], [0, 1, 5], [0, 1, 5, 14], [0, 1, 5], [0, 1, 5, 26], [4], [4]] : List (List Nat)).getD i []
attribute [go_sem] K_eqL_sat2
def eqL_sat2_S : Eng.Spec := fun args av objs => ∃ (a b : List (List Int)), (a.length ≤ 1048576 ∧ b.length ≤ 1048576 ∧ (∀ w ∈ a, w.length ≤ 1048576) ∧ (∀ w ∈ b, w.length ≤ 1048576)) ∧ args = [aW a, aW b] ∧ av = aB (decide (a = b)) ∧ objs = []
theorem eqL_sat2 : Sat Try.prog 29 eqL_sat2_S := by
  refine sat_of tok okr mixed K_eqL_sat2 Try.func29 rfl (rs := [.tmp 4]) rfl Try.ntmps29 ?_
  rintro args av objs ⟨a, b, hpre, rfl, rfl, rfl⟩
  refine ⟨by show 2 ≤ 27; decide, ?_⟩
  obtain ⟨ha, hb, hma, hmb⟩ := hpre
  by_cases hl : a.length = b.length
  · repeat' (first|(refine ya ?_;first|(refine yb ?_;first|refine yc ?_)|refine ye ?_)|refine yz ?_|(refine yA ?_;first|(refine yB ?_;first|refine yC ?_)|refine yE ?_)|refine yZ ?_|refine zst ?_|refine k_blk_other rfl ?_|(refine zk ?_ ?_<;>intro hc hr<;>try first|contradiction|exfalso;omega))
    refine z_loop (fun i : Nat => [(5, aI i)]) (fun i : Nat => []) (fun i : Nat => i ≤ a.length ∧ ∀ j, j < i → wx a j = wx b j) (fun i : Nat => a.length - i) (0) (h0 := ?_) (henv := ?_) (hobj := ?_) (h := ?_)
    · exact ⟨by omega, fun j hj => by omega⟩
    · simp [go_sem, AVm, CVm, lookS]
    · simp [go_sem, OBm, CVm, lookS, All2]
    rintro i ⟨hi, hall⟩
    rcases Nat.lt_or_ge i a.length with hlt | hge
    · have hlt2 : i < b.length := by omega
      have m1 := hma _ (wx_mem hlt)
      have m3 : (wx a i).length ≤ 1099511627776 := by omega
      by_cases he : wx a i = wx b i
      · have hd : decide (wx a i = wx b i) = true := decide_eq_true he
        repeat' (first|(refine ya ?_;first|(refine yb ?_;first|refine yc ?_)|refine ye ?_)|refine yz ?_|(refine yA ?_;first|(refine yB ?_;first|refine yC ?_)|refine yE ?_)|refine yZ ?_|refine zst ?_|refine k_blk_other rfl ?_|(refine zk ?_ ?_<;>intro hc hr<;>try first|contradiction|exfalso;omega))
        exact zl (i + 1) (hj := by exact ⟨by omega, fun j hj => (Nat.lt_or_ge j i).elim (hall j) fun h => by rw [show j = i by omega]; exact he⟩)
      · have hd : decide (wx a i = wx b i) = false := decide_eq_false he
        have hne : ¬ a = b := fun h => he (by rw [h])
        repeat' (first|(refine ya ?_;first|(refine yb ?_;first|refine yc ?_)|refine ye ?_)|refine yz ?_|(refine yA ?_;first|(refine yB ?_;first|refine yC ?_)|refine yE ?_)|refine yZ ?_|refine zst ?_|refine k_blk_other rfl ?_|(refine zk ?_ ?_<;>intro hc hr<;>try first|contradiction|exfalso;omega))
        all_goals first | (refine z_ret (hv := ?_) (ho := ?_) <;> first | rfl | (simp [go_sem, *]; done) | (simp_all; done) | (simp_all; omega)) | skip
    · have hx : a = b := wxs_ext3 hl fun j hj => hall j (by omega)
      have hd : decide (a = b) = true := by simp [hx]
      rw [hd]
      have hi2 : ¬ i < a.length := by omega
      clear hall hd hx
      repeat' (first|(refine ya ?_;first|(refine yb ?_;first|refine yc ?_)|refine ye ?_)|refine yz ?_|(refine yA ?_;first|(refine yB ?_;first|refine yC ?_)|refine yE ?_)|refine yZ ?_|refine zst ?_|refine k_blk_other rfl ?_|(refine zk ?_ ?_<;>intro hc hr<;>try first|contradiction|exfalso;omega))
      all_goals first | (refine z_ret (hv := ?_) (ho := ?_) <;> first | rfl | (simp [go_sem, *]; done) | (simp_all; done) | (simp_all; omega)) | skip
  · have hne : ¬ a = b := fun h => hl (by rw [h])
    repeat' (first|(refine ya ?_;first|(refine yb ?_;first|refine yc ?_)|refine ye ?_)|refine yz ?_|(refine yA ?_;first|(refine yB ?_;first|refine yC ?_)|refine yE ?_)|refine yZ ?_|refine zst ?_|refine k_blk_other rfl ?_|(refine zk ?_ ?_<;>intro hc hr<;>try first|contradiction|exfalso;omega))
    all_goals first | (refine z_ret (hv := ?_) (ho := ?_) <;> first | rfl | (simp [go_sem, *]; done) | (simp_all; done) | (simp_all; omega)) | skip
instance : Con Try.prog 29 eqL_sat2_S := con eqL_sat2 Try.func29
end Go.Proofs.Try
