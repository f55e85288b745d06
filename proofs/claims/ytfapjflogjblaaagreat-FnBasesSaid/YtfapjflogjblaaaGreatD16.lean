import Derived.Test.YtfapjflogjblaaaGreatD12
import Derived.Test.YtfapjflogjblaaaGreatQ14
import Derived.Test.YtfapjflogjblaaaGreatD15
set_option maxHeartbeats 16000000
set_option maxRecDepth 20000
set_option linter.unusedVariables false
set_option linter.unusedSimpArgs false
set_option linter.unnecessarySimpa false
namespace Go.Proofs.Tryz
open Go Go.Eng
def Pt (es : List Ed) : Int → List Int → Int → Prop
  | v, [], u => v = u
  | v, x :: w, u => ∃ t, stE v x t ∈ es ∧ Pt es t w u
theorem Pt_snoc {es : List Ed} {x u : Int} : ∀ {w : List Int} {v : Int}, Pt es v (w ++ [x]) u ↔ ∃ t, Pt es v w t ∧ stE t x u ∈ es
  | [], v => by simp [Pt]
  | y :: w, v => by
    show (∃ t, stE v y t ∈ es ∧ Pt es t (w ++ [x]) u) ↔ ∃ t, (∃ s, stE v y s ∈ es ∧ Pt es s w t) ∧ stE t x u ∈ es
    constructor
    · rintro ⟨s, h1, h2⟩
      obtain ⟨t, h3, h4⟩ := Pt_snoc.1 h2
      exact ⟨t, ⟨s, h1, h3⟩, h4⟩
    · rintro ⟨t, ⟨s, h1, h2⟩, h3⟩
      exact ⟨s, h1, Pt_snoc.2 ⟨t, h2, h3⟩⟩
theorem Pt.mono {a b : List Ed} (h : ∀ e ∈ a, e ∈ b) : ∀ {w : List Int} {v u : Int}, Pt a v w u → Pt b v w u
  | [], _, _, hp => hp
  | _ :: _, _, _, ⟨t, h1, h2⟩ => ⟨t, h _ h1, Pt.mono h h2⟩
theorem EH.st {a b : List Ed} {q : Int → Int} (h : EH a b q) {v x u : Int} (he : stE v x u ∈ a) : stE (q v) x (q u) ∈ b := by
  have := h.ed _ he
  unfold stE at *
  split <;> rename_i hx
  · rw [if_pos hx] at this; exact this
  · rw [if_neg hx] at this; exact this
theorem EH.pt {a b : List Ed} {q : Int → Int} (h : EH a b q) : ∀ {w : List Int} {v u : Int}, Pt a v w u → Pt b (q v) w (q u)
  | [], _, _, hp => congrArg q hp
  | _ :: _, _, _, ⟨_, h1, h2⟩ => ⟨_, h.st h1, h.pt h2⟩
theorem st_nx {r z : Int} {es : List Ed} (hf : isF r z es = true) {v x u : Int} (h0 : x ≠ 0) (h : stE v x u ∈ es) : 0 ≤ nx es v x ∧ nx es v x = u := by
  have h3 := (isG_iff.1 (isF_g hf)).2.2 _ h
  unfold inR stE at h3
  have hu : 0 ≤ u := by split at h3 <;> simp only at h3 <;> omega
  have : nx es v x = u := (nx_iff hf hu).2 ⟨h0, h⟩
  exact ⟨by omega, this⟩
theorem Pt.wk {r z : Int} {es : List Ed} (hf : isF r z es = true) : ∀ {w : List Int} {v u : Int}, (∀ x ∈ w, x ≠ 0) → Pt es v w u → Go.Proofs.Tryz.wk es v w = some u
  | [], _, _, _, hp => congrArg some hp
  | x :: w, v, u, h0, ⟨t, h1, h2⟩ => by
    obtain ⟨h3, h4⟩ := st_nx hf (h0 x (by simp)) h1
    simp only [Go.Proofs.Tryz.wk]
    rw [if_pos h3, h4]
    exact Pt.wk hf (fun y hy => h0 y (by simp [hy])) h2
theorem pthN_has {u v z : Int} {w : List Int} {k : Nat} : ∀ {n : Nat}, k < n → stE (vtx u v z w.length k) (ix w k) (vtx u v z w.length (k + 1)) ∈ pthN u v z w n
  | 0, h => by omega
  | n + 1, h => by
    rw [pthN]
    rcases Nat.lt_or_ge k n with h1 | h1
    · exact List.mem_append.2 (.inl (pthN_has h1))
    · have : k = n := by omega
      subst this
      exact List.mem_append.2 (.inr (by simp))
theorem pthN_mem {u v z : Int} {w : List Int} {e : Ed} : ∀ {n : Nat}, e ∈ pthN u v z w n → ∃ k, k < n ∧ e = stE (vtx u v z w.length k) (ix w k) (vtx u v z w.length (k + 1))
  | 0, h => by cases h
  | n + 1, h => by
    rcases List.mem_append.1 h with h | h
    · obtain ⟨k, h1, h2⟩ := pthN_mem h; exact ⟨k, by omega, h2⟩
    · exact ⟨n, by omega, by simpa using h⟩
theorem pth_Pt {es : List Ed} {u v z : Int} {w : List Int} (h : ∀ e ∈ pthN u v z w w.length, e ∈ es) : ∀ n, n ≤ w.length → Pt es (vtx u v z w.length 0) (w.take n) (vtx u v z w.length n)
  | 0, _ => rfl
  | n + 1, hn => by
    have ht : w.take (n + 1) = w.take n ++ [ix w n] := by rw [List.take_add_one]; simp [ix, show n < w.length by omega]
    rw [ht]
    exact Pt_snoc.2 ⟨_, pth_Pt h n (by omega), h _ (pthN_has (by omega))⟩
theorem pth_EH {r z : Int} {es b : List Ed} {w : List Int} {q : Int → Int} (hk : pthOk ⟨r, z, es⟩ 0 w 0 = true) (h : EH es b q) (hl : rdk b 0 w w.length = w.length) (h0 : vN b 0 w w.length = 0) : ∃ q', EH (pth ⟨r, z, es⟩ 0 w 0).es b q' := by
  obtain ⟨hG, h1, h2⟩ := pthOk_iff.1 hk
  have hR := (isG_iff.1 hG).2.2
  have hz := isG_z hG
  let q' : Int → Int := fun v => if v < z then q v else vN b 0 w (v - z + 1).toNat
  have hq : ∀ k, k ≤ w.length → q' (vtx 0 0 z w.length k) = vN b 0 w k := fun k hk => by
    unfold vtx
    split
    · rename_i hk0; subst hk0
      show (if (0 : Int) < z then q 0 else _) = _
      rw [if_pos (by omega), h.z0]; rfl
    · split
      · rename_i hkn; rw [hkn, h0]
        show (if (0 : Int) < z then q 0 else _) = _
        rw [if_pos (by omega), h.z0]
      · show (if z + (k : Int) - 1 < z then _ else vN b 0 w (z + (k : Int) - 1 - z + 1).toNat) = _
        rw [if_neg (by omega)]
        congr 1; omega
  refine ⟨q', ?_, fun e he => ?_⟩
  · show (if (0 : Int) < z then q 0 else _) = _
    rw [if_pos (by omega), h.z0]
  · rw [pth_yes hk] at he
    rcases List.mem_append.1 (norm_mem.1 he) with he | he
    · have := hR e he
      unfold inR at this
      show ((if e.1 < z then q e.1 else _), e.2.1, (if e.2.2 < z then q e.2.2 else _)) ∈ b
      rw [if_pos (by omega), if_pos (by omega)]
      exact h.ed e he
    · obtain ⟨k, hk, rfl⟩ := pthN_mem he
      have h3 := nx_stE (rdk_nx hl hk)
      have e1 := hq k (by omega)
      have e2 := hq (k + 1) (by omega)
      have e3 : vN b 0 w (k + 1) = nx b (vN b 0 w k) (ix w k) := rfl
      rw [← e3, ← e1, ← e2] at h3
      unfold stE at h3 ⊢
      split <;> rename_i hx
      · rw [if_pos hx] at h3; exact h3
      · rw [if_neg hx] at h3; exact h3
theorem wOk_nz {r : Int} {w : List Int} (h : isW r w = true) : ∀ x ∈ w, x ≠ 0 := fun x hx => by
  obtain ⟨i, hi, rfl⟩ := List.mem_iff_getElem.1 hx
  have := (isW_at h hi).1
  simpa [ix, hi] using this
theorem flN_all {r : Int} {ws : List (List Int)} (h : awB r ws = true) : ∀ i, i ≤ ws.length →
    isG r (flN r ws i).z (flN r ws i).es = true ∧ (flN r ws i).z ≤ 1 + tlN ws i ∧ (flN r ws i).es.length ≤ tlN ws i ∧
    (∀ j, j < i → Pt (flN r ws i).es 0 (wx ws j) 0) ∧
    ∀ b : List Ed, (∀ j, j < i → rdk b 0 (wx ws j) (wx ws j).length = (wx ws j).length ∧ vN b 0 (wx ws j) (wx ws j).length = 0) → ∃ q, EH (flN r ws i).es b q
  | 0, _ => by
    have hr := awB_iff h
    exact ⟨by show isG r 1 [] = true; exact isG_iff.2 ⟨⟨hr.1, hr.2.1, by omega, by omega, by simp⟩, List.Pairwise.nil, fun e he => by cases he⟩, by simp [flN, tlN], by simp [flN, tlN], fun j hj => by omega, fun b _ => ⟨fun v => v, rfl, fun e he => by cases he⟩⟩
  | i + 1, hi => by
    have hr := awB_iff h
    obtain ⟨h1, h2, h3, h4, h5⟩ := flN_all h i (by omega)
    have hrr := flN_r r ws i
    have ht : tlN ws (i + 1) = tlN ws i + (wx ws i).length := rfl
    have hw : isW r (wx ws i) = true ∧ tlN ws (i + 1) < 40 := by
      simp only [awB, awA, Bool.and_eq_true, decide_eq_true_eq, List.all_eq_true] at h
      refine ⟨h.2.1 _ (wx_mem (by omega)), ?_⟩
      have : ∀ k, tlN ws (i + 1) ≤ tlN ws (i + 1 + k) := fun k => by
        induction k with
        | zero => exact Nat.le_refl _
        | succ k ih => exact Nat.le_trans ih (Nat.le_add_right _ _)
      have := this (ws.length - (i + 1))
      rw [show i + 1 + (ws.length - (i + 1)) = ws.length by omega] at this
      have h9 : tlN ws ws.length < 40 := h.2.2
      omega
    have e : flN r ws (i + 1) = pth (flN r ws i) 0 (wx ws i) 0 := rfl
    rw [e, ht]
    rw [ht] at hw
    generalize flN r ws i = F at *
    obtain ⟨r', z, es⟩ := F
    simp only at hrr h1 h2 h3 h4 h5
    subst hrr
    have hz := isG_z h1
    rcases Nat.eq_zero_or_pos (wx ws i).length with h0 | h0
    · have hn : wx ws i = [] := List.eq_nil_of_length_eq_zero h0
      rw [hn, pth_nil]
      refine ⟨h1, by simp only; omega, by simp only; omega, fun j hj => ?_, fun b hb => h5 b fun j hj => hb j (by omega)⟩
      rcases Nat.lt_or_ge j i with h6 | h6
      · exact h4 j h6
      · rw [show j = i by omega, hn]; rfl
    · have hk : pthOk ⟨r', z, es⟩ 0 (wx ws i) 0 = true := pthOk_iff.2 ⟨h1, by omega, hw.1⟩
      have hok := pth_ok (g := ⟨r', z, es⟩) (u := 0) (w := wx ws i) (v := 0) h1
      have hye := pth_yes hk
      have hsub : ∀ x, x ∈ es → x ∈ (pth ⟨r', z, es⟩ 0 (wx ws i) 0).es := fun x hx => by rw [hye]; exact norm_mem.2 (List.mem_append.2 (.inl hx))
      have hsub2 : ∀ x, x ∈ pthN 0 0 z (wx ws i) (wx ws i).length → x ∈ (pth ⟨r', z, es⟩ 0 (wx ws i) 0).es := fun x hx => by rw [hye]; exact norm_mem.2 (List.mem_append.2 (.inr hx))
      have hG : isG r' (pth ⟨r', z, es⟩ 0 (wx ws i) 0).z (pth ⟨r', z, es⟩ 0 (wx ws i) 0).es = true := by
        have := pth_r ⟨r', z, es⟩ 0 (wx ws i) 0
        unfold Gr.ok at hok
        rwa [this] at hok
      refine ⟨hG, ?_, ?_, fun j hj => ?_, fun b hb => ?_⟩
      · rw [hye]; simp only; omega
      · rw [hye]
        have := norm_len (es ++ pthN 0 0 z (wx ws i) (wx ws i).length)
        simp only [List.length_append, pthN_len] at this
        simp only; omega
      · rcases Nat.lt_or_ge j i with h6 | h6
        · exact (h4 j h6).mono hsub
        · have hji : j = i := by omega
          subst hji
          have := pth_Pt hsub2 _ (Nat.le_refl _)
          rw [List.take_length, vtx_0, vtx_n h0] at this
          exact this
      · obtain ⟨q, hq⟩ := h5 b fun j hj => hb j (by omega)
        obtain ⟨h7, h8⟩ := hb i (by omega)
        exact pth_EH hk hq h7 h8
theorem flG_ok {r : Int} {ws : List (List Int)} (h : awB r ws = true) : (flG r ws).ok = true := by
  have := (flN_all h ws.length (Nat.le_refl _)).1
  unfold Gr.ok
  have hr : (flG r ws).r = r := flN_r r ws _
  rw [hr]; exact this
theorem eh_of_hom {r z r' z' : Int} {a b : List Ed} {f : Int → Int} (ha : isF r z a = true) (f0 : f 0 = 0) (h : ∀ v x, 0 ≤ nx a v x → 0 ≤ nx b (f v) x ∧ nx b (f v) x = f (nx a v x)) : EH a b f := by
  refine ⟨f0, fun e he => ?_⟩
  have hR := (isG_iff.1 (isF_g ha)).2.2 _ he
  unfold inR at hR
  have h1 := (edge_nx ha he).1
  obtain ⟨h2, h3⟩ := h e.1 e.2.1 (by omega)
  have := nx_stE h2
  rw [h3, h1] at this
  unfold stE at this
  rwa [if_neg (by omega)] at this
theorem sgG_eq {r z : Int} {es : List Ed} (hc : isC r z es = true) (hw : awB r (bsW r z es) = true) : sgG r (bsW r z es) = ⟨r, z, es⟩ := by
  have hf := isC_f hc
  have hg := isC_gone hc
  have hF := flG_ok hw
  obtain ⟨h1, h2, h3, h4, h5⟩ := flN_all hw _ (Nat.le_refl _)
  have hr : (flG r (bsW r z es)).r = r := flN_r ..
  have hbl : (bsW r z es).length = (extL r z es).length := bsN_len ..
  obtain ⟨⟨p, hp⟩, _, hxr, hfac⟩ := foldO_maps hF []
  have hX := foldO_F (cs := []) hF
  have hread : ∀ j, j < (bsW r z es).length → wk es 0 (wx (bsW r z es) j) = some 0 := fun j hj => by
    have : wx (bsW r z es) j = red (bwd r z es (Go.Proofs.Tryz.ed (extL r z es) j)) := bsN_wx (by omega)
    rw [this]
    exact wk_red hf (bwd_wk hf (gone_all hf hg) ((extL_mem hf).1 (ed_mem (by omega))).1)
  obtain ⟨q, hq⟩ := h5 es fun j hj => by
    obtain ⟨a, b⟩ := wk_rd.1 (hread j hj)
    have a' : rdk es 0 (wx (bsW r z es) j) (wx (bsW r z es) j).length = (wx (bsW r z es) j).length := a
    have := rdL_all a'
    exact ⟨a', by rw [← this.2]; exact b⟩
  obtain ⟨q1, hq1⟩ := hfac hf (show EH (flG r (bsW r z es)).es es q from hq)
  have hh : Hom es (foldO [] (flG r (bsW r z es))).1.es := hom_of hf hg hX fun e he => by
    obtain ⟨j, hj, rfl⟩ := mem_ed he
    have e1 : wx (bsW r z es) j = red (bwd r z es (Go.Proofs.Tryz.ed (extL r z es) j)) := bsN_wx (by omega)
    rw [← e1]
    have hpt := hp.pt (show Pt (flG r (bsW r z es)).es 0 (wx (bsW r z es) j) 0 from h4 j (by omega))
    rw [hp.z0] at hpt
    refine hpt.wk hX (wOk_nz (r := r) ?_)
    simp only [awB, awA, Bool.and_eq_true, decide_eq_true_eq, List.all_eq_true] at hw
    exact hw.2.1 _ (wx_mem (by omega))
  obtain ⟨f, f0, hfm⟩ := hh
  have hE : EH es (foldO [] (flG r (bsW r z es))).1.es f := eh_of_hom (r' := 0) (z' := 0) hf f0 hfm
  obtain ⟨s, hs⟩ := (trim_maps hX).2 hf hg hE
  obtain ⟨⟨p2, hp2⟩, _⟩ := trim_maps hX
  have hT := trim_F hX
  have htr : (trimG (foldO [] (flG r (bsW r z es))).1).1.r = r := by rw [trim_r (isF_g hX), hxr, hr]
  have := can_of (a := (trimG (foldO [] (flG r (bsW r z es))).1).1) (b := ⟨r, z, es⟩) htr hT hf ((hp2.comp hq1).mp hf) (hs.mp hT)
  rw [isC_can hc] at this
  exact this
theorem ext_rank {r z : Int} {es : List Ed} (hc : isC r z es = true) : ((bsW r z es).length : Int) = es.length - z + 1 := by
  have hf := isC_f hc
  have h1 := treeL_all hf (gone_all hf (isC_gone hc))
  have h2 := tree_ext hf
  have hbl : (bsW r z es).length = (extL r z es).length := bsN_len ..
  omega
end Go.Proofs.Tryz
