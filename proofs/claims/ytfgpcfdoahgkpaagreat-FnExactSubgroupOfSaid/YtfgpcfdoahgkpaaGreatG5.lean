import Derived.Test.YtfgpcfdoahgkpaaGreatB
import Derived.Test.YtfgpcfdoahgkpaaGreatC
import Derived.Test.YtfgpcfdoahgkpaaGreatA
set_option linter.unusedVariables false
set_option linter.unusedSimpArgs false
set_option linter.unnecessarySimpa false
/- The laws' helpers at lists of words. -/
namespace Go.Proofs.Tryz
open Go Go.Eng
set_option linter.unnecessarySimpa false
set_option linter.unusedSimpArgs false
set_option maxHeartbeats 4000000
theorem shIntSS {a : AV} (h : ShA T 38 a) : ∃ ws : List (List Int), a = aW ws ∧ ws.length ≤ 9223372036854775807 ∧ ∀ w ∈ ws, w.length ≤ 9223372036854775807 ∧ ∀ n ∈ w, rg n := by
  simp only [ShA, T38] at h
  obtain ⟨c, rfl, h⟩ := h
  simp only [ShC, T38, T26] at h
  obtain ⟨xss, rfl, hl, h⟩ := h
  have : ∃ ws : List (List Int), xss = intss ws ∧ ∀ w ∈ ws, w.length ≤ 9223372036854775807 ∧ ∀ n ∈ w, rg n := by
    clear hl
    induction xss with
    | nil => exact ⟨[], rfl, by simp⟩
    | cons x xs ih =>
      obtain ⟨ws, rfl, hw⟩ := ih (fun y hy => h y (by simp [hy]))
      obtain ⟨h1, h2⟩ := h x (by simp)
      have : ∃ l : List Int, x = ints l ∧ ∀ n ∈ l, rg n := by
        clear h1 h ih hw
        induction x with
        | nil => exact ⟨[], rfl, by simp⟩
        | cons y ys ih =>
          obtain ⟨l, rfl, hl⟩ := ih (fun el hel => h2 el (by simp [hel]))
          obtain ⟨n, rfl, hn⟩ := shEInt T3 (h2 y (by simp))
          exact ⟨n :: l, rfl, by simp [hn]; exact hl⟩
      obtain ⟨l, rfl, hl⟩ := this
      refine ⟨l :: ws, rfl, ?_⟩
      intro w hw2
      rcases List.mem_cons.1 hw2 with rfl | hw2
      · exact ⟨by rw [intsLen] at h1; rw [← maxLen_eq]; exact h1, hl⟩
      · exact hw w hw2
  obtain ⟨ws, rfl, hw⟩ := this
  exact ⟨ws, rfl, by rw [intssLen] at hl; rw [← maxLen_eq]; exact hl, hw⟩
/-! ### Sizes -/
def totN (ws : List (List Int)) : Nat → Nat
  | 0 => ws.length
  | i + 1 => totN ws i + (wx ws i).length
def totW (ws : List (List Int)) : Nat := totN ws ws.length
theorem totN_mono (ws : List (List Int)) : ∀ {i j : Nat}, i ≤ j → totN ws i ≤ totN ws j := by
  intro i j h
  induction j with
  | zero => have : i = 0 := by omega
            subst this; exact Nat.le_refl _
  | succ j ih =>
    rcases Nat.lt_or_ge i (j + 1) with h1 | h1
    · have := ih (by omega)
      simp only [totN]; omega
    · have : i = j + 1 := by omega
      subst this; exact Nat.le_refl _
theorem totN_w {ws : List (List Int)} {i : Nat} (h : i ≤ ws.length) : totN ws i ≤ totW ws := totN_mono ws h
theorem tot_len {ws : List (List Int)} {n : Nat} (h : totW ws ≤ n) : ws.length ≤ n := by
  have := totN_w (ws := ws) (i := 0) (by omega)
  simp only [totN] at this; omega
theorem tot_at {ws : List (List Int)} {n i : Nat} (h : totW ws ≤ n) (hi : i < ws.length) : (wx ws i).length ≤ n := by
  have := totN_w (ws := ws) (i := i + 1) (by omega)
  simp only [totN] at this; omega
theorem wx_of {ws : List (List Int)} {w : List Int} (h : w ∈ ws) : ∃ i, i < ws.length ∧ wx ws i = w := by
  obtain ⟨i, hi, rfl⟩ := List.mem_iff_getElem.1 h
  exact ⟨i, hi, by simp [wx, hi]⟩
theorem tot_mem {ws : List (List Int)} {n : Nat} (h : totW ws ≤ n) : ∀ w ∈ ws, w.length ≤ n := fun w hw => by
  obtain ⟨i, hi, rfl⟩ := wx_of hw
  exact tot_at h hi
def K_szIntSS_y : Nat → List Nat := fun i => ([[0, 1], [0, 1], [0, 1, 11], [4], [0, 1, 5], [0, 1, 5, 15], [0, 1, 5], [0, 1, 5], [0, 1, 5, 25], [4], [4]] : List (List Nat)).getD i []
attribute [go_sem] K_szIntSS_y
def szIntSS_y_S : Eng.Spec := fun args av objs => ∃ (ws : List (List Int)) (k : Int), ((totW ws : Int) ≤ k ∧ k ≤ 1048576) ∧ args = [aW ws, aI k] ∧ av = aI (k - totW ws) ∧ objs = []
theorem szIntSS_y : Sat Tryz.prog 28 szIntSS_y_S := by
  refine sat_of tok okr mixed K_szIntSS_y Tryz.func28 rfl (rs := [.tmp 4]) rfl Tryz.ntmps28 ?_
  rintro args av objs ⟨ws, k, hpre, rfl, rfl, rfl⟩
  refine ⟨by show 2 ≤ 27; decide, ?_⟩
  have h0 := totN_w (ws := ws) (i := 0) (by omega)
  have h00 : totN ws 0 = ws.length := rfl
  repeat' (first|(refine ya ?_;first|(refine yb ?_;first|refine yc ?_)|refine ye ?_)|refine yz ?_|refine zst ?_|refine k_blk_other rfl ?_|(refine zk ?_ ?_<;>intro hc hr<;>try first|contradiction|exfalso;omega))
  refine z_loop (fun i : Nat => [(5, aI i), (1, aI (k - totN ws i))]) (fun i : Nat => []) (fun i : Nat => i ≤ ws.length) (fun i : Nat => ws.length - i) (0) (h0 := ?_) (henv := ?_) (hobj := ?_) (h := ?_)
  · omega
  · simp [go_sem, AVm, CVm, lookS, totN]
  · simp [go_sem, OBm, CVm, lookS, All2, totN]
  intro i hi
  have h1 := totN_w hi
  rcases Nat.lt_or_ge i ws.length with hlt | hge
  · have h2 := totN_w (ws := ws) (i := i + 1) (by omega)
    have hs : totN ws (i + 1) = totN ws i + (wx ws i).length := rfl
    have e1 : k - ↑(totN ws i) - ↑(wx ws i).length = k - ↑(totN ws (i + 1)) := by omega
    repeat' (first|(refine ya ?_;first|(refine yb ?_;first|refine yc ?_)|refine ye ?_)|refine yz ?_|refine zst ?_|refine k_blk_other rfl ?_|(refine zk ?_ ?_<;>intro hc hr<;>try first|contradiction|exfalso;omega))
    (refine z_lop (i + 1) (hj := ?_) (hmu := ?_) (henv := ?_) (hobj := ?_); (· omega); (· first | omega | (simp only; omega)); (· first | (simp [go_sem, AVm, CVm, lookS, e1, *]; done) | (simp [go_sem, AVm, CVm, lookS, e1, *] <;> (repeat' split) <;> first | omega | (simp_all; done) | (exfalso; omega) | (simp_all; omega))); (· first | (simp [go_sem, OBm, CVm, All2, lookS, e1, *]; done) | (simp [go_sem, OBm, CVm, All2, lookS, e1, *] <;> (repeat' split) <;> first | omega | (simp_all; done) | (exfalso; omega) | (simp_all; omega))))
  · have hii : i = ws.length := by omega
    subst hii
    have h2 : totN ws ws.length = totW ws := rfl
    repeat' (first|(refine ya ?_;first|(refine yb ?_;first|refine yc ?_)|refine ye ?_)|refine yz ?_|refine zst ?_|refine k_blk_other rfl ?_|(refine zk ?_ ?_<;>intro hc hr<;>try first|contradiction|exfalso;omega))
    all_goals first | (refine z_ret (hv := ?_) (ho := ?_) <;> first | rfl | (simp [go_sem, *]; done) | (simp_all; done) | (simp_all; omega)) | skip
instance : Con Tryz.prog 28 szIntSS_y_S := con szIntSS_y Tryz.func28
def K_szIntSS_n : Nat → List Nat := fun i => ([[0, 1], [0, 1], [0, 1, 11], [4], [0, 1, 5], [0, 1, 5, 15], [0, 1, 5], [0, 1, 5], [0, 1, 5, 25], [4], [4]] : List (List Nat)).getD i []
attribute [go_sem] K_szIntSS_n
def szIntSS_n_S : Eng.Spec := fun args av objs => ∃ (ws : List (List Int)) (k : Int), ((k < totW ws ∧ 0 ≤ k ∧ k ≤ 1048576) ∧ ws.length ≤ 9223372036854775807 ∧ (∀ w ∈ ws, w.length ≤ 9223372036854775807)) ∧ args = [aW ws, aI k] ∧ av = aI (-1) ∧ objs = []
theorem szIntSS_n : Sat Tryz.prog 28 szIntSS_n_S := by
  refine sat_of tok okr mixed K_szIntSS_n Tryz.func28 rfl (rs := [.tmp 4]) rfl Tryz.ntmps28 ?_
  rintro args av objs ⟨ws, k, hpre, rfl, rfl, rfl⟩
  refine ⟨by show 2 ≤ 27; decide, ?_⟩
  obtain ⟨hk, hl, hw⟩ := hpre
  have h00 : totN ws 0 = ws.length := rfl
  by_cases hb : k < ws.length
  · repeat' (first|(refine ya ?_;first|(refine yb ?_;first|refine yc ?_)|refine ye ?_)|refine yz ?_|refine zst ?_|refine k_blk_other rfl ?_|(refine zk ?_ ?_<;>intro hc hr<;>try first|contradiction|exfalso;omega))
    all_goals first | (refine z_ret (hv := ?_) (ho := ?_) <;> first | rfl | (simp [go_sem, *]; done) | (simp_all; done) | (simp_all; omega)) | skip
  · repeat' (first|(refine ya ?_;first|(refine yb ?_;first|refine yc ?_)|refine ye ?_)|refine yz ?_|refine zst ?_|refine k_blk_other rfl ?_|(refine zk ?_ ?_<;>intro hc hr<;>try first|contradiction|exfalso;omega))
    refine z_loop (fun i : Nat => [(5, aI i), (1, aI (k - totN ws i))]) (fun i : Nat => []) (fun i : Nat => i ≤ ws.length ∧ (totN ws i : Int) ≤ k) (fun i : Nat => ws.length - i) (0) (h0 := ?_) (henv := ?_) (hobj := ?_) (h := ?_)
    · exact ⟨by omega, by omega⟩
    · simp [go_sem, AVm, CVm, lookS, totN]
    · simp [go_sem, OBm, CVm, lookS, All2, totN]
    rintro i ⟨hi, hI⟩
    rcases Nat.lt_or_ge i ws.length with hlt | hge
    · have hs : totN ws (i + 1) = totN ws i + (wx ws i).length := rfl
      have hwl := hw _ (wx_mem hlt)
      have e1 : k - ↑(totN ws i) - ↑(wx ws i).length = k - ↑(totN ws (i + 1)) := by omega
      by_cases hck : (totN ws (i + 1) : Int) ≤ k
      · repeat' (first|(refine ya ?_;first|(refine yb ?_;first|refine yc ?_)|refine ye ?_)|refine yz ?_|refine zst ?_|refine k_blk_other rfl ?_|(refine zk ?_ ?_<;>intro hc hr<;>try first|contradiction|exfalso;omega))
        (refine z_lop (i + 1) (hj := ?_) (hmu := ?_) (henv := ?_) (hobj := ?_); (· exact ⟨by omega, hck⟩); (· first | omega | (simp only; omega)); (· first | (simp [go_sem, AVm, CVm, lookS, e1, *]; done) | (simp [go_sem, AVm, CVm, lookS, e1, *] <;> (repeat' split) <;> first | omega | (simp_all; done) | (exfalso; omega) | (simp_all; omega))); (· first | (simp [go_sem, OBm, CVm, All2, lookS, e1, *]; done) | (simp [go_sem, OBm, CVm, All2, lookS, e1, *] <;> (repeat' split) <;> first | omega | (simp_all; done) | (exfalso; omega) | (simp_all; omega))))
      · repeat' (first|(refine ya ?_;first|(refine yb ?_;first|refine yc ?_)|refine ye ?_)|refine yz ?_|refine zst ?_|refine k_blk_other rfl ?_|(refine zk ?_ ?_<;>intro hc hr<;>try first|contradiction|exfalso;omega))
        all_goals first | (refine z_ret (hv := ?_) (ho := ?_) <;> first | rfl | (simp [go_sem, *]; done) | (simp_all; done) | (simp_all; omega)) | skip
    · exfalso
      have hii : i = ws.length := by omega
      subst hii
      have h2 : totN ws ws.length = totW ws := rfl
      omega
instance (priority := 3000) : Con Tryz.prog 28 (orS (specOf szIntSS_y) (specOf szIntSS_n)) := con2 szIntSS_y szIntSS_n Tryz.func28
/-! ### Copies -/
def osW (ws : List (List Int)) : List (Option (List El)) := ws.map fun w => some (ints w)
theorem osW_len (ws : List (List Int)) : (osW ws).length = ws.length := by simp [osW]
theorem osW_nil : osW [] = [] := rfl
theorem osW_app (ws : List (List Int)) (w : List Int) : osW ws ++ [some (ints w)] = osW (ws ++ [w]) := by simp [osW]
theorem osW_get (ws : List (List Int)) : (osW ws).map (·.getD []) = intss ws := by simp [osW, intss]
theorem osW_at {ws : List (List Int)} {i : Nat} (h : i < ws.length) : (osW ws)[i]? = some (some (ints (wx ws i))) := by simp [osW, wx, h]
attribute [go_sem] osW_len osW_app osW_get osW_at
def cpS (ws : List (List Int)) (i : Nat) : List (Option (List El)) := osW (ws.take i) ++ List.replicate (ws.length - i) none
theorem cpS_len {ws : List (List Int)} {i : Nat} (h : i ≤ ws.length) : (cpS ws i).length = ws.length := by simp [cpS, osW]; omega
theorem cpS_0 (ws : List (List Int)) : cpS ws 0 = List.replicate ws.length none := by simp [cpS, osW]
theorem cpS_all (ws : List (List Int)) : cpS ws ws.length = osW ws := by simp [cpS]
theorem cpS_set {ws : List (List Int)} {i : Nat} (h : i < ws.length) : (cpS ws i).set i (some (ints (wx ws i))) = cpS ws (i + 1) := by
  have e1 : List.replicate (ws.length - i) (none : Option (List El)) = none :: List.replicate (ws.length - (i + 1)) none := by
    have : ws.length - i = (ws.length - (i + 1)) + 1 := by omega
    rw [this]; rfl
  have e2 : osW (ws.take (i + 1)) = osW (ws.take i) ++ [some (ints (wx ws i))] := by
    rw [List.take_add_one, osW_app]; simp [wx, h]
  have hl : (osW (ws.take i)).length = i := by rw [osW_len, List.length_take]; omega
  unfold cpS
  rw [e1, e2, List.set_append_right _ _ (by omega), hl, Nat.sub_self, List.set_cons_zero, List.append_assoc]
  rfl
instance (priority := 2000) : Con Tryz.prog 28 (orS szIntSS_y_S szIntSS_n_S) := con2 szIntSS_y szIntSS_n Tryz.func28
def K_toIntSS_sat : Nat → List Nat := fun i => ([[0], [0, 3], [0, 3, 4], [0, 3, 4, 11], [0, 3, 4], [0, 3, 4], [2]] : List (List Nat)).getD i []
attribute [go_sem] K_toIntSS_sat
def toIntSS_sat_S : Eng.Spec := fun args av objs => ∃ (ws : List (List Int)), (ws.length ≤ 1048576 ∧ (∀ w ∈ ws, w.length ≤ 1048576)) ∧ args = [aW ws] ∧ av = aR 0 ∧ objs = [.rows 26 3 (.own false) (osW ws)]
theorem toIntSS_sat : Sat Tryz.prog 30 toIntSS_sat_S := by
  refine sat_of tok okr mixed K_toIntSS_sat Tryz.func30 rfl (rs := [.tmp 2]) rfl Tryz.ntmps30 ?_
  rintro args av objs ⟨ws, hpre, rfl, rfl, rfl⟩
  refine ⟨by show 1 ≤ 23; decide, ?_⟩
  obtain ⟨hl, hw⟩ := hpre
  repeat' (first|(refine ya ?_;first|(refine yb ?_;first|refine yc ?_)|refine ye ?_)|refine yz ?_|refine zst ?_|refine k_blk_other rfl ?_|(refine zk ?_ ?_<;>intro hc hr<;>try first|contradiction|exfalso;omega))
  refine z_loop (fun i : Nat => [(4, aI i)]) (fun i : Nat => [.obj 3 (.rows 26 3 (.loc false) (cpS ws i))]) (fun i : Nat => i ≤ ws.length) (fun i : Nat => ws.length - i) (0) (h0 := ?_) (henv := ?_) (hobj := ?_) (h := ?_)
  · omega
  · simp [go_sem, AVm, CVm, lookS, cpS_0]
  · simp [go_sem, OBm, CVm, lookS, All2, cpS_0]
  intro i hi
  have hlen := cpS_len hi
  rcases Nat.lt_or_ge i ws.length with hlt | hge
  · have hs := cpS_set hlt
    have hwl := hw _ (wx_mem hlt)
    repeat' (first|(refine ya ?_;first|(refine yb ?_;first|refine yc ?_)|refine ye ?_)|refine yz ?_|refine zst ?_|refine k_blk_other rfl ?_|(refine zk ?_ ?_<;>intro hc hr<;>try first|contradiction|exfalso;omega))
    (refine z_lop (i + 1) (hj := ?_) (hmu := ?_) (henv := ?_) (hobj := ?_); (· omega); (· first | omega | (simp only; omega)); (· first | (simp [go_sem, AVm, CVm, lookS, hs, *]; done) | (simp [go_sem, AVm, CVm, lookS, hs, *] <;> (repeat' split) <;> first | omega | (simp_all; done) | (exfalso; omega) | (simp_all; omega))); (· first | (simp [go_sem, OBm, CVm, All2, lookS, hs, *]; done) | (simp [go_sem, OBm, CVm, All2, lookS, hs, *] <;> (repeat' split) <;> first | omega | (simp_all; done) | (exfalso; omega) | (simp_all; omega))))
  · have hii : i = ws.length := by omega
    subst hii
    rw [cpS_all]
    repeat' (first|(refine ya ?_;first|(refine yb ?_;first|refine yc ?_)|refine ye ?_)|refine yz ?_|refine zst ?_|refine k_blk_other rfl ?_|(refine zk ?_ ?_<;>intro hc hr<;>try first|contradiction|exfalso;omega))
    refine z_retT 56 (hv := ?_) (ho := ?_) <;> rfl
theorem wss_eq {xs ys : List (List Int)} (hl : xs.length = ys.length) (h : ∀ j, j < xs.length → wx xs j = wx ys j) : xs = ys := by
  apply List.ext_getElem hl
  intro i h1 h2
  have := h i h1
  simpa [wx, h1, h2] using this
instance : Con Tryz.prog 30 toIntSS_sat_S := con toIntSS_sat Tryz.func30
def K_eqIntSS_sat : Nat → List Nat := fun i => ([[0, 1], [0, 1, 10], [4], [0, 1, 5], [0, 1, 5, 14], [0, 1, 5], [0, 1, 5, 26], [4], [4]] : List (List Nat)).getD i []
attribute [go_sem] K_eqIntSS_sat
def eqIntSS_sat_S : Eng.Spec := fun args av objs => ∃ (xs ys : List (List Int)), (xs.length ≤ 1048576 ∧ (∀ w ∈ xs, w.length ≤ 1099511627776)) ∧ args = [aW xs, aW ys] ∧ av = aB (decide (xs = ys)) ∧ objs = []
theorem eqIntSS_sat : Sat Tryz.prog 21 eqIntSS_sat_S := by
  refine sat_of tok okr mixed K_eqIntSS_sat Tryz.func21 rfl (rs := [.tmp 4]) rfl Tryz.ntmps21 ?_
  rintro args av objs ⟨xs, ys, hpre, rfl, rfl, rfl⟩
  refine ⟨by show 2 ≤ 27; decide, ?_⟩
  obtain ⟨hl0, hw⟩ := hpre
  repeat' (first|(refine ya ?_;first|(refine yb ?_;first|refine yc ?_)|refine ye ?_)|refine yz ?_|(refine yA ?_;first|(refine yB ?_;first|refine yC ?_)|refine yE ?_)|refine yZ ?_|refine zst ?_|refine k_blk_other rfl ?_|(refine zk ?_ ?_<;>intro hc hr<;>try first|contradiction|exfalso;omega))
  · have : ¬ xs = ys := by rintro rfl; simp at hc
    all_goals first | (refine z_ret (hv := ?_) (ho := ?_) <;> first | rfl | (simp [go_sem, *]; done) | (simp_all; done) | (simp_all; omega)) | skip
  · have hl : xs.length = ys.length := by omega
    refine z_loop (fun i : Nat => [(5, aI i)]) (fun i : Nat => []) (fun i : Nat => i ≤ xs.length ∧ ∀ j, j < i → wx xs j = wx ys j) (fun i : Nat => xs.length - i) (0) (h0 := ?_) (henv := ?_) (hobj := ?_) (h := ?_)
    · exact ⟨by omega, fun j hj => by omega⟩
    · simp [go_sem, AVm, CVm, lookS]
    · simp [go_sem, OBm, CVm, lookS, All2]
    rintro i ⟨hi, hall⟩
    rcases Nat.lt_or_ge i xs.length with hlt | hge
    · have hlt2 : i < ys.length := by omega
      have hwl := hw _ (wx_mem hlt)
      by_cases he : wx xs i = wx ys i
      · repeat' (first|(refine ya ?_;first|(refine yb ?_;first|refine yc ?_)|refine ye ?_)|refine yz ?_|(refine yA ?_;first|(refine yB ?_;first|refine yC ?_)|refine yE ?_)|refine yZ ?_|refine zst ?_|refine k_blk_other rfl ?_|(refine zk ?_ ?_<;>intro hc hr<;>try first|contradiction|exfalso;omega))
        exact zl (i + 1) (hj := by exact ⟨by omega, fun j hj => (Nat.lt_or_ge j i).elim (hall j) fun h => by rw [show j = i by omega]; exact he⟩)
      · have : ¬ xs = ys := by rintro rfl; exact he rfl
        repeat' (first|(refine ya ?_;first|(refine yb ?_;first|refine yc ?_)|refine ye ?_)|refine yz ?_|(refine yA ?_;first|(refine yB ?_;first|refine yC ?_)|refine yE ?_)|refine yZ ?_|refine zst ?_|refine k_blk_other rfl ?_|(refine zk ?_ ?_<;>intro hc hr<;>try first|contradiction|exfalso;omega))
        all_goals first | (refine z_ret (hv := ?_) (ho := ?_) <;> first | rfl | (simp [go_sem, *]; done) | (simp_all; done) | (simp_all; omega)) | skip
    · have : xs = ys := wss_eq hl (fun j hj => hall j (by omega))
      repeat' (first|(refine ya ?_;first|(refine yb ?_;first|refine yc ?_)|refine ye ?_)|refine yz ?_|(refine yA ?_;first|(refine yB ?_;first|refine yC ?_)|refine yE ?_)|refine yZ ?_|refine zst ?_|refine k_blk_other rfl ?_|(refine zk ?_ ?_<;>intro hc hr<;>try first|contradiction|exfalso;omega))
      all_goals first | (refine z_ret (hv := ?_) (ho := ?_) <;> first | rfl | (simp [go_sem, *]; done) | (simp_all; done) | (simp_all; omega)) | skip
instance : Con Tryz.prog 21 eqIntSS_sat_S := con eqIntSS_sat Tryz.func21
end Go.Proofs.Tryz
