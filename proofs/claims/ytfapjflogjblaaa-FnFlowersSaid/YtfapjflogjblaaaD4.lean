import Derived.Test.YtfapjflogjblaaaD3
import Derived.Test.YtfapjflogjblaaaQ20
import Derived.Test.YtfapjflogjblaaaW
set_option linter.unusedVariables false
set_option linter.unusedSimpArgs false
set_option linter.unnecessarySimpa false
/- The specification's draws: words, lists of words, flowers. -/
namespace Go.Proofs.Try
open Go Go.Eng
set_option linter.unnecessarySimpa false
set_option linter.unusedSimpArgs false
set_option maxHeartbeats 4000000
def l2E (cd : List Int) (r : Int) (c : Cu) : Int × Cu := (if beV cd (beS cd c r) 2 = 0 then -(1 + beV cd c r) else 1 + beV cd c r, beS cd (beS cd c r) 2)
def l2N (cd : List Int) (r : Int) (c : Cu) : Nat → List Int × Cu
  | 0 => ([], c)
  | i + 1 => ((l2N cd r c i).1 ++ [(l2E cd r (l2N cd r c i).2).1], (l2E cd r (l2N cd r c i).2).2)
def l2P (cd : List Int) (r m : Int) (cu : Cu) : List Int × Cu := l2N cd r (beS cd cu (m + 1)) (beV cd cu (m + 1)).toNat
def l2W (cd : List Int) (r m : Int) (cu : Cu) : List Int × Cu := (red (l2P cd r m cu).1, (l2P cd r m cu).2)
theorem l2E_rg (cd : List Int) {r : Int} (c : Cu) (h : 1 ≤ r) : -r ≤ (l2E cd r c).1 ∧ (l2E cd r c).1 ≤ r ∧ (l2E cd r c).1 ≠ 0 := by
  have := beV_rg cd c (n := r) (by omega)
  unfold l2E
  simp only
  split <;> omega
theorem l2N_ok (cd : List Int) {r : Int} (c : Cu) (h : 1 ≤ r) : ∀ i, (l2N cd r c i).1.length = i ∧ ∀ x ∈ (l2N cd r c i).1, -r ≤ x ∧ x ≤ r ∧ x ≠ 0
  | 0 => ⟨rfl, by simp [l2N]⟩
  | i + 1 => by
    obtain ⟨h1, h2⟩ := l2N_ok cd c h i
    refine ⟨by simp [l2N, h1], fun x hx => ?_⟩
    rcases List.mem_append.1 hx with hx | hx
    · exact h2 x hx
    · rw [List.mem_singleton] at hx; subst hx; exact l2E_rg cd _ h
theorem l2P_ok (cd : List Int) {r m : Int} (cu : Cu) (h : 1 ≤ r) (hm : 0 ≤ m) : ((l2P cd r m cu).1.length : Int) ≤ m ∧ ∀ x ∈ (l2P cd r m cu).1, -r ≤ x ∧ x ≤ r ∧ x ≠ 0 := by
  obtain ⟨h1, h2⟩ := l2N_ok cd (beS cd cu (m + 1)) h (beV cd cu (m + 1)).toNat
  have := beV_rg cd cu (n := m + 1) (by omega)
  exact ⟨by unfold l2P; rw [h1]; omega, h2⟩
theorem l2W_ok (cd : List Int) {r m : Int} (cu : Cu) (h : 1 ≤ r) (hm : 0 ≤ m) : ((l2W cd r m cu).1.length : Int) ≤ m ∧ (∀ x ∈ (l2W cd r m cu).1, -r ≤ x ∧ x ≤ r ∧ x ≠ 0) ∧ isRd (l2W cd r m cu).1 := by
  obtain ⟨h1, h2⟩ := l2P_ok cd cu h hm
  have := red_len (l2P cd r m cu).1
  exact ⟨by show ((red (l2P cd r m cu).1).length : Int) ≤ m; omega, fun x hx => h2 x (red_mem hx), red_rd _⟩
theorem inv2_of {a b : Int} (h : a ≠ 0 ∧ a ≠ -9223372036854775808 ∧ b = -a) : inv2 a b = true := by unfold inv2; simp [h.1, h.2.1, h.2.2]
theorem isW_of {r : Int} {w : List Int} (hr : 1 ≤ r ∧ r ≤ 3) (hl : w.length ≤ 24) (h : ∀ x ∈ w, -r ≤ x ∧ x ≤ r ∧ x ≠ 0) (hd : isRd w) : isW r w = true := by
  have key : ∀ n, n ≤ w.length → wOk r w n = true := by
    intro n
    induction n with
    | zero => intro _; rfl
    | succ n ih =>
      intro hn
      have hx := h _ (ix_mem (l := w) (i := n) (by omega))
      refine wOk_step (ih (by omega)) ⟨hx.2.2, hx.1, hx.2.1, ?_⟩
      rcases Nat.eq_zero_or_pos n with h0 | h0
      · exact .inl h0
      · right
        intro he
        have h1 := hd (n - 1) (by omega)
        have hy := h _ (ix_mem (l := w) (i := n - 1) (by omega))
        rw [show n - 1 + 1 = n by omega] at h1
        have : inv2 (ix w (n - 1)) (ix w n) = true := inv2_of ⟨hy.2.2, by omega, by omega⟩
        rw [this] at h1; cases h1
  unfold isW
  rw [key _ (Nat.le_refl _)]
  simp [hr.1, hr.2, hl]
def K_l2_sat : Nat → List Nat := fun i => ([[0, 1, 2], [0, 1, 2, 7], [0, 1, 7, 8], [0, 1, 7, 8, 16], [0, 1, 7, 8], [0, 1, 7, 8, 9], [0, 1, 7, 8, 9, 24], [0, 1, 7, 8, 9], [0, 1, 7, 8], [6]] : List (List Nat)).getD i []
attribute [go_sem] K_l2_sat
def l2_sat_S : SpecB := fun args bs i h av objs i' h' => ∃ (cd : List Int) (cu : Cu) (r m : Int), (cd.length ≤ 1048576 ∧ 1 ≤ r ∧ r ≤ 3 ∧ 0 ≤ m ∧ m ≤ 20) ∧ args = [aC, aI r, aI m] ∧ bs = bys cd ∧ i = (cu.p : Int) ∧ h = cu.q ∧ av = aR 0 ∧ objs = [oL 3 (l2W cd r m cu).1] ∧ i' = (((l2W cd r m cu).2).p : Int) ∧ h' = ((l2W cd r m cu).2).q
theorem l2_sat : SatB Try.prog 43 83 l2_sat_S := by
  refine satB_of tok okr mixed K_l2_sat Try.func43 rfl (rs := [.tmp 6]) rfl Try.ntmps43 ?_
  rintro args bs i h av objs i' h' ⟨cd, cu, r, m, hpre, rfl, rfl, rfl, rfl, rfl, rfl, rfl, rfl⟩
  refine ⟨by show 3 ≤ 33; decide, fun u S W pv => ?_⟩
  obtain ⟨hcd, hr, hr2, hm, hm2⟩ := hpre
  have h2 := beV_rg cd cu (n := m + 1) (by omega)
  have hP := l2P_ok cd cu hr hm
  unfold l2W l2P at *
  obtain ⟨k, hk⟩ : ∃ k : Nat, (k : Int) = beV cd cu (m + 1) := ⟨_, Int.toNat_of_nonneg h2.1⟩
  have hkn : (beV cd cu (m + 1)).toNat = k := by omega
  rw [hkn] at *
  repeat' (first|(refine ya ?_;first|(refine yb ?_;first|refine yc ?_|refine yq ?_)|refine ye ?_)|refine yz ?_|refine zst ?_|refine k_blk_other rfl ?_|(refine zk ?_ ?_<;>intro hc hr<;>try first|contradiction|exfalso;omega))
  refine z_loop (fun i : Nat => [(8, aI ((k : Int) - i))]) (fun i : Nat => [.obj 7 (oL 3 (l2N cd r (beS cd cu (m + 1)) i).1), .cell 0 1 (.sc (.int ((l2N cd r (beS cd cu (m + 1)) i).2.p : Int))), .cell 0 2 (.sc (.int (l2N cd r (beS cd cu (m + 1)) i).2.q))]) (fun i : Nat => i ≤ k) (fun i : Nat => k - i) (0) (h0 := ?_) (henv := ?_) (hobj := ?_) (h := ?_)
  · omega
  · simp [go_sem, AVm, CVm, lookS, l2N, hk]
  · simp [go_sem, OBm, CVm, lookS, All2, l2N, hk]
  intro i hi
  obtain ⟨hl, hx⟩ := l2N_ok cd (beS cd cu (m + 1)) hr i
  have hn : l2N cd r (beS cd cu (m + 1)) (i + 1) = ((l2N cd r (beS cd cu (m + 1)) i).1 ++ [(l2E cd r (l2N cd r (beS cd cu (m + 1)) i).2).1], (l2E cd r (l2N cd r (beS cd cu (m + 1)) i).2).2) := rfl
  generalize hT : l2N cd r (beS cd cu (m + 1)) i = t at *
  obtain ⟨w, c⟩ := t
  simp only at hl hx hn ⊢
  have hb := beV_rg cd c (n := r) (by omega)
  rcases Nat.lt_or_ge i k with hlt | hge
  · by_cases k0 : beV cd (beS cd c r) 2 = 0
    · have e1 : l2E cd r c = (-(1 + beV cd c r), beS cd (beS cd c r) 2) := by unfold l2E; rw [if_pos k0]
      rw [e1] at hn
      repeat' (first|(refine ya ?_;first|(refine yb ?_;first|refine yc ?_|refine yq ?_)|refine ye ?_)|refine yz ?_|refine zst ?_|refine k_blk_other rfl ?_|(refine zk ?_ ?_<;>intro hc hr<;>try first|contradiction|exfalso;omega))
      (refine z_lop (i + 1) (hj := ?_) (hmu := ?_) (henv := ?_) (hobj := ?_); (· omega); (· first | omega | (simp only; omega)); (· first | (simp [go_sem, AVm, CVm, lookS, hn, *]; done) | (simp [go_sem, AVm, CVm, lookS, hn, *] <;> (repeat' split) <;> first | omega | (simp_all; done) | (exfalso; omega) | (simp_all; omega))); (· first | (simp [go_sem, OBm, CVm, All2, lookS, hn, *]; done) | (simp [go_sem, OBm, CVm, All2, lookS, hn, *] <;> (repeat' split) <;> first | omega | (simp_all; done) | (exfalso; omega) | (simp_all; omega))))
    · have e1 : l2E cd r c = (1 + beV cd c r, beS cd (beS cd c r) 2) := by unfold l2E; rw [if_neg k0]
      rw [e1] at hn
      repeat' (first|(refine ya ?_;first|(refine yb ?_;first|refine yc ?_|refine yq ?_)|refine ye ?_)|refine yz ?_|refine zst ?_|refine k_blk_other rfl ?_|(refine zk ?_ ?_<;>intro hc hr<;>try first|contradiction|exfalso;omega))
      (refine z_lop (i + 1) (hj := ?_) (hmu := ?_) (henv := ?_) (hobj := ?_); (· omega); (· first | omega | (simp only; omega)); (· first | (simp [go_sem, AVm, CVm, lookS, hn, *]; done) | (simp [go_sem, AVm, CVm, lookS, hn, *] <;> (repeat' split) <;> first | omega | (simp_all; done) | (exfalso; omega) | (simp_all; omega))); (· first | (simp [go_sem, OBm, CVm, All2, lookS, hn, *]; done) | (simp [go_sem, OBm, CVm, All2, lookS, hn, *] <;> (repeat' split) <;> first | omega | (simp_all; done) | (exfalso; omega) | (simp_all; omega))))
  · have hii : i = k := by omega
    subst hii
    have hrg : ∀ x ∈ w, rg x := fun x h => by have := hx x h; unfold rg; omega
    have hwl : w.length ≤ 100 := by omega
    clear hP hx hn
    rw [hT]
    clear hk hkn hT
    repeat' (first|(refine ya ?_;first|(refine yb ?_;first|refine yc ?_|refine yq ?_)|refine ye ?_)|refine yz ?_|refine zst ?_|refine k_blk_other rfl ?_|(refine zk ?_ ?_<;>intro hc hr<;>try first|contradiction|exfalso;omega))
    all_goals first | (refine z_retB (hv := ?_) (ho := ?_) (hc := ?_) <;> first | rfl | (simp [go_sem, *]; done) | (simp_all; done) | (simp_all; omega)) | skip
def l6N (cd : List Int) (r : Int) (c : Cu) : Nat → List (List Int) × Cu
  | 0 => ([], c)
  | i + 1 => ((l6N cd r c i).1 ++ [(l2W cd r 5 (l6N cd r c i).2).1], (l2W cd r 5 (l6N cd r c i).2).2)
def l6W (cd : List Int) (r : Int) (cu : Cu) : List (List Int) × Cu := l6N cd r (beS cd cu 4) (beV cd cu 4).toNat
theorem l6N_ok (cd : List Int) {r : Int} (c : Cu) (h : 1 ≤ r ∧ r ≤ 3) : ∀ i, (l6N cd r c i).1.length = i ∧ ∀ w ∈ (l6N cd r c i).1, w.length ≤ 5 ∧ isW r w = true
  | 0 => ⟨rfl, by simp [l6N]⟩
  | i + 1 => by
    obtain ⟨h1, h2⟩ := l6N_ok cd c h i
    refine ⟨by simp [l6N, h1], fun x hx => ?_⟩
    rcases List.mem_append.1 hx with hx | hx
    · exact h2 x hx
    · rw [List.mem_singleton] at hx; subst hx
      obtain ⟨h3, h4, h5⟩ := l2W_ok cd (m := 5) (l6N cd r c i).2 h.1 (by omega)
      exact ⟨by omega, isW_of h (by omega) h4 h5⟩
theorem tlW_le {ws : List (List Int)} {M : Nat} (h : ∀ w ∈ ws, w.length ≤ M) : tlW ws ≤ ws.length * M := tlN_le h _ (Nat.le_refl _)
theorem l6W_ok (cd : List Int) {r : Int} (cu : Cu) (h : 1 ≤ r ∧ r ≤ 3) : (l6W cd r cu).1.length ≤ 3 ∧ (∀ w ∈ (l6W cd r cu).1, w.length ≤ 5) ∧ awB r (l6W cd r cu).1 = true := by
  obtain ⟨h1, h2⟩ := l6N_ok cd (beS cd cu 4) h (beV cd cu 4).toNat
  have hb := beV_rg cd cu (n := 4) (by decide)
  unfold l6W at *
  have hl : (l6N cd r (beS cd cu 4) (beV cd cu 4).toNat).1.length ≤ 3 := by rw [h1]; omega
  have hw : ∀ w ∈ (l6N cd r (beS cd cu 4) (beV cd cu 4).toNat).1, w.length ≤ 5 := fun w hw => (h2 w hw).1
  refine ⟨hl, hw, ?_⟩
  rw [awB_yes ⟨h.1, h.2, by omega⟩ (List.all_eq_true.2 fun w hw => (h2 w hw).2), decide_eq_true_eq]
  have := tlW_le hw
  omega
instance : ConB Try.prog 43 83 l2_sat_S := conB l2_sat Try.func43
def K_l6_sat : Nat → List Nat := fun i => ([[0, 1], [0, 1, 5], [0, 1, 5, 6], [0, 1, 5, 6, 12], [0, 1, 5, 6], [0, 1, 5, 6, 7], [0, 1, 5, 6], [4]] : List (List Nat)).getD i []
attribute [go_sem] K_l6_sat
def l6_sat_S : SpecB := fun args bs i h av objs i' h' => ∃ (cd : List Int) (cu : Cu) (r : Int), (cd.length ≤ 1048576 ∧ 1 ≤ r ∧ r ≤ 3) ∧ args = [aC, aI r] ∧ bs = bys cd ∧ i = (cu.p : Int) ∧ h = cu.q ∧ av = aR 0 ∧ objs = [.rows 34 3 (.own false) (osW (l6W cd r cu).1)] ∧ i' = (((l6W cd r cu).2).p : Int) ∧ h' = ((l6W cd r cu).2).q
theorem l6_sat : SatB Try.prog 65 83 l6_sat_S := by
  refine satB_ofR tok okr mixed K_l6_sat Try.func65 rfl (rs := [.tmp 4]) rfl Try.ntmps65 ?_
  rintro args bs i h av objs i' h' ⟨cd, cu, r, hpre, rfl, rfl, rfl, rfl, rfl, rfl, rfl, rfl⟩
  refine ⟨by show 2 ≤ 23; decide, rfl, fun u S W L pv him => ?_⟩
  obtain ⟨hcd, hr⟩ := hpre
  have h2 := beV_rg cd cu (n := 4) (by omega)
  unfold l6W
  obtain ⟨k, hk⟩ : ∃ k : Nat, (k : Int) = beV cd cu 4 := ⟨_, Int.toNat_of_nonneg h2.1⟩
  have hkn : (beV cd cu 4).toNat = k := by omega
  rw [hkn]
  repeat' (first|(refine ya ?_;first|(refine yb ?_;first|refine yh ?_)|refine ye ?_)|refine yz ?_|refine zst ?_|refine k_blk_other rfl ?_|(refine zk ?_ ?_<;>intro hc hr<;>try first|contradiction|exfalso;omega))
  refine z_loop (fun i : Nat => [(6, aI ((k : Int) - i))]) (fun i : Nat => [.obj 5 (.rows 34 3 (.loc false) (osW (l6N cd r (beS cd cu 4) i).1)), .cell 0 1 (.sc (.int ((l6N cd r (beS cd cu 4) i).2.p : Int))), .cell 0 2 (.sc (.int (l6N cd r (beS cd cu 4) i).2.q))]) (fun i : Nat => i ≤ k) (fun i : Nat => k - i) (0) (h0 := ?_) (henv := ?_) (hobj := ?_) (h := ?_)
  · omega
  · simp [go_sem, AVm, CVm, lookS, l6N, hk, osW_nil]
  · simp [go_sem, OBm, CVm, lookS, All2, l6N, hk, osW_nil]
  intro i hi
  have hl := (l6N_ok cd (beS cd cu 4) hr i).1
  have hk3 : k ≤ 3 := by omega
  have hn : l6N cd r (beS cd cu 4) (i + 1) = ((l6N cd r (beS cd cu 4) i).1 ++ [(l2W cd r 5 (l6N cd r (beS cd cu 4) i).2).1], (l2W cd r 5 (l6N cd r (beS cd cu 4) i).2).2) := rfl
  generalize hT : l6N cd r (beS cd cu 4) i = t at *
  obtain ⟨ws, c⟩ := t
  simp only at hl hn ⊢
  rcases Nat.lt_or_ge i k with hlt | hge
  · clear hk hkn
    repeat' (first|(refine ya ?_;first|(refine yb ?_;first|refine yh ?_)|refine ye ?_)|refine yz ?_|refine zst ?_|refine k_blk_other rfl ?_|(refine zk ?_ ?_<;>intro hc hr<;>try first|contradiction|exfalso;omega))
    (refine z_lop (i + 1) (hj := ?_) (hmu := ?_) (henv := ?_) (hobj := ?_); (· omega); (· first | omega | (simp only; omega)); (· first | (simp [go_sem, AVm, CVm, lookS, hn, *]; done) | (simp [go_sem, AVm, CVm, lookS, hn, *] <;> (repeat' split) <;> first | omega | (simp_all; done) | (exfalso; omega) | (simp_all; omega))); (· first | (simp [go_sem, OBm, CVm, All2, lookS, hn, *]; done) | (simp [go_sem, OBm, CVm, All2, lookS, hn, *] <;> (repeat' split) <;> first | omega | (simp_all; done) | (exfalso; omega) | (simp_all; omega))))
  · have hii : i = k := by omega
    subst hii
    rw [hT]
    clear hk hkn hT
    repeat' (first|(refine ya ?_;first|(refine yb ?_;first|refine yh ?_)|refine ye ?_)|refine yz ?_|refine zst ?_|refine k_blk_other rfl ?_|(refine zk ?_ ?_<;>intro hc hr<;>try first|contradiction|exfalso;omega))
    refine z_retR 64 (hv := ?_) (ho := ?_) (hc := ?_) <;> rfl
instance : ConB Try.prog 65 83 l6_sat_S := conB l6_sat Try.func65
end Go.Proofs.Try
