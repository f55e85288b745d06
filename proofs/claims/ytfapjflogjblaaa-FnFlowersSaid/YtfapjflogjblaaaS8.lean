import Derived.Test.YtfapjflogjblaaaS6
import Derived.Test.YtfapjflogjblaaaR
set_option linter.unusedVariables false
set_option linter.unusedSimpArgs false
set_option linter.unnecessarySimpa false
/- Words come back out of their texts; the size and the shape of a flower. Plain. -/
namespace Go.Proofs.Try
open Go Go.Eng
set_option linter.unnecessarySimpa false
set_option linter.unusedSimpArgs false
set_option maxHeartbeats 4000000
/-! ### Cutting what was joined -/
def cutR (c : Int) : List Int → List Int → List (List Int)
  | [], acc => [acc]
  | x :: s, acc => if x = c then acc :: cutR c s [] else cutR c s (acc ++ [x])
theorem cutR_at {c : Int} {s : List Int} : ∀ i, i ≤ s.length → (cutN c s i).1 ++ cutR c (s.drop i) ((s.take i).drop (cutN c s i).2) = cutR c s []
  | 0, _ => by simp [cutN]
  | i + 1, h => by
    have ih := cutR_at (c := c) (s := s) i (by omega)
    have hd : s.drop i = ix s i :: s.drop (i + 1) := by rw [List.drop_eq_getElem_cons (by omega)]; simp [ix, show i < s.length by omega]
    have hle := (cutN_le c s i).1
    rw [hd] at ih
    rw [cutR] at ih
    rw [cutN]
    split
    · rename_i hc
      rw [if_pos hc] at ih
      have e0 : (s.take (i + 1)).drop (i + 1) = [] := List.drop_eq_nil_of_le (by rw [List.length_take]; omega)
      rw [← ih]
      simp only [List.append_assoc, List.singleton_append]
      rw [e0]
    · rename_i hc
      rw [if_neg hc] at ih
      rw [← ih, part_next (by omega) hle]
theorem cutL_R (c : Int) (s : List Int) : cutL c s = cutR c s [] := by
  have := cutR_at (c := c) (s := s) s.length (Nat.le_refl _)
  rw [List.drop_length] at this
  rw [← this]; rfl
theorem cutR_free {c : Int} : ∀ {p acc : List Int}, (∀ x ∈ p, x ≠ c) → cutR c p acc = [acc ++ p]
  | [], acc, _ => by simp [cutR]
  | x :: p, acc, h => by
    rw [cutR, if_neg (h x (by simp)), cutR_free (fun y hy => h y (by simp [hy]))]
    simp
theorem cutR_snoc {c : Int} {p : List Int} (hp : ∀ x ∈ p, x ≠ c) : ∀ {s acc : List Int}, cutR c (s ++ [c] ++ p) acc = cutR c s acc ++ [p]
  | [], acc => by simp [cutR, cutR_free hp]
  | x :: s, acc => by
    have ih := fun a => cutR_snoc hp (s := s) (acc := a)
    simp only [List.cons_append, cutR]
    split
    · rw [ih]; rfl
    · rw [ih]
theorem cut_join {c : Int} {l : List (List Int)} (h : ∀ i, i < l.length → ∀ x ∈ sx l i, x ≠ c) : ∀ n, n < l.length → cutR c (joinS c l (n + 1)) [] = l.take (n + 1)
  | 0, hn => by
    have e : joinS c l 1 = sx l 0 := by rw [joinS, if_pos rfl]; rfl
    rw [e, cutR_free (h 0 hn), List.take_add_one]
    simp [sx, hn]
  | n + 1, hn => by
    have e : joinS c l (n + 1 + 1) = joinS c l (n + 1) ++ [c] ++ sx l (n + 1) := by rw [joinS, if_neg (by omega)]
    rw [e, cutR_snoc (h _ hn), cut_join h n (by omega), List.take_add_one (i := n + 1)]
    simp [sx, hn]
/-! ### A word's text -/
theorem ltx_ch {x : Int} (h : ltB x = true) : ∃ n, ltx x = [n] ∧ gdc n ∧ lof n = x := by
  rcases ltB_iff.1 h with rfl | rfl | rfl | rfl | rfl | rfl
  · exact ⟨97, by decide, by unfold gdc; omega, by decide⟩
  · exact ⟨98, by decide, by unfold gdc; omega, by decide⟩
  · exact ⟨99, by decide, by unfold gdc; omega, by decide⟩
  · exact ⟨65, by decide, by unfold gdc; omega, by decide⟩
  · exact ⟨66, by decide, by unfold gdc; omega, by decide⟩
  · exact ⟨67, by decide, by unfold gdc; omega, by decide⟩
theorem fwN_ch {w : List Int} : ∀ {i : Nat}, i ≤ w.length → (∀ j, j < i → ltB (ix w j) = true) → (∀ x ∈ fwN w i, gdc x) ∧ (fwN w i).map lof = w.take i
  | 0, _, _ => ⟨(fun x hx => by cases hx), by simp [fwN]⟩
  | i + 1, hi, h => by
    obtain ⟨h1, h2⟩ := fwN_ch (w := w) (i := i) (by omega) (fun j hj => h j (by omega))
    obtain ⟨n, e1, e2, e3⟩ := ltx_ch (h i (by omega))
    rw [fwN, e1]
    refine ⟨fun x hx => ?_, by rw [List.map_append, h2, take_ix2 (by omega), ← e3]; rfl⟩
    rcases List.mem_append.1 hx with hx | hx
    · exact h1 x hx
    · rw [List.mem_singleton] at hx; subst hx; exact e2
theorem fwS_ch {w : List Int} (h : smallW w) : (∀ x ∈ fwS w, x = 49 ∨ gdc x) ∧ pwW (fwS w) = w := by
  by_cases h0 : w = []
  · subst h0
    exact ⟨fun x hx => by rw [fwS_nil, List.mem_singleton] at hx; exact .inl hx, rfl⟩
  · obtain ⟨h1, h2⟩ := fwN_ch (Nat.le_refl _) (small_ltB h)
    rw [fwS_good h0 (small_ltB h)]
    refine ⟨fun x hx => .inr (h1 x hx), ?_⟩
    have hne : fwN w w.length ≠ [49] := fun e => by
      have := h1 49 (by rw [e]; simp)
      unfold gdc at this; omega
    rw [pwW_else hne, h2, List.take_length]
theorem pwB_fw {r : Int} {w : List Int} (h : smallW w) : pwB r (fwS w) = isW r w := by
  unfold pwB
  rw [(fwS_ch h).2]
  simp
/-! ### There and back -/
theorem pmN_fm {ws : List (List Int)} (h : ∀ w ∈ ws, smallW w) : ∀ i, i ≤ ws.length → pmN (fmN ws ws.length) i = ws.take i
  | 0, _ => by simp [pmN]
  | i + 1, hi => by
    rw [pmN, pmN_fm h i (by omega), fmN_at (by omega), (fwS_ch (h _ (wx_mem (by omega)))).2, List.take_add_one]
    simp [wx, show i < ws.length by omega]
theorem fws_cut {ws : List (List Int)} (h : ∀ w ∈ ws, smallW w) (h0 : ws ≠ []) : cutL 44 (fwsS ws) = fmN ws ws.length ∧ fwsS ws ≠ noneT := by
  have hl := fmN_len ws ws.length
  have hn : ws.length ≠ 0 := fun e => h0 (List.eq_nil_of_length_eq_zero e)
  have hch : ∀ i, i < (fmN ws ws.length).length → ∀ x ∈ sx (fmN ws ws.length) i, x = 49 ∨ gdc x := fun i hi x hx => by
    rw [fmN_at (by omega)] at hx
    exact (fwS_ch (h _ (wx_mem (by omega)))).1 x hx
  have e : fwsS ws = joinS 44 (fmN ws ws.length) (fmN ws ws.length).length := by unfold fwsS gluC; rw [if_neg (by omega)]
  obtain ⟨k, hk⟩ : ∃ k, (fmN ws ws.length).length = k + 1 := ⟨ws.length - 1, by omega⟩
  constructor
  · rw [e, hk, cutL_R, cut_join (fun i hi x hx => by have := hch i hi x hx; unfold gdc at this; omega) k (by omega), ← hk, List.take_length]
  · intro en
    have hj : ∀ n, n ≤ (fmN ws ws.length).length → ∀ x ∈ joinS 44 (fmN ws ws.length) n, x = 44 ∨ x = 49 ∨ gdc x := by
      intro n
      induction n with
      | zero => intro _ x hx; cases hx
      | succ n ih =>
        intro hn x hx
        unfold joinS at hx
        rcases List.mem_append.1 hx with hx | hx
        · split at hx
          · cases hx
          · rcases List.mem_append.1 hx with hx | hx
            · exact ih (by omega) x hx
            · rw [List.mem_singleton] at hx; exact .inl hx
        · exact .inr (hch n (by omega) x hx)
    have := hj _ (Nat.le_refl _) 110 (by rw [← e, en]; decide)
    unfold gdc at this; omega
theorem all_wx {ws : List (List Int)} {p : List Int → Bool} (h : ∀ j, j < ws.length → p (wx ws j) = true) : ws.all p = true := by
  refine List.all_eq_true.2 fun x hx => ?_
  obtain ⟨i, hi, rfl⟩ := List.mem_iff_getElem.1 hx
  have := h i hi
  simpa [wx, hi] using this
theorem back_law {r : Int} {ws : List (List Int)} (h : ∀ w ∈ ws, smallW w) : psB r (fwsS ws) = awB r ws ∧ (awB r ws = true → psR r (fwsS ws) = ws) := by
  by_cases h0 : ws = []
  · subst h0
    have e : fwsS [] = noneT := rfl
    obtain ⟨e1, e2, _⟩ := ps_none (r := r) e
    exact ⟨by rw [e1, awB_nil], fun _ => e2⟩
  · obtain ⟨h1, h2⟩ := fws_cut h h0
    have hl := fmN_len ws ws.length
    have hp := pmN_fm h ws.length (Nat.le_refl _)
    rw [List.take_length] at hp
    have hB : psB r (fwsS ws) = awB r ws := by
      unfold psB
      rw [if_neg h2, h1, hl, hp]
      cases ha : awB r ws
      · rw [Bool.and_false]
      · have : (fmN ws ws.length).all (pwB r) = true := by
          refine List.all_eq_true.2 fun x hx => ?_
          obtain ⟨i, hi, rfl⟩ := List.mem_iff_getElem.1 hx
          have e := fmN_at (ws := ws) (i := ws.length) (j := i) (by omega)
          have e2 : (fmN ws ws.length)[i] = sx (fmN ws ws.length) i := by simp [sx, hi]
          rw [e2, e, pwB_fw (h _ (wx_mem (by omega)))]
          simp only [awB, awA, Bool.and_eq_true, decide_eq_true_eq, List.all_eq_true] at ha
          exact ha.2.1 _ (wx_mem (by omega))
        rw [this]; rfl
    refine ⟨hB, fun ha => ?_⟩
    unfold psR
    rw [if_neg h2, hB, ha, h1, hl, hp]
    rfl
/-! ### Flowers -/
def szF (ws : List (List Int)) : Nat → Int
  | 0 => 1
  | i + 1 => szF ws i + (if 0 < ((wx ws i).length : Int) - 1 then ((wx ws i).length : Int) - 1 else 0)
theorem szF0 (ws : List (List Int)) : szF ws 0 = 1 := rfl
theorem szF_s (ws : List (List Int)) (i : Nat) : szF ws (i + 1) = szF ws i + (if 0 < ((wx ws i).length : Int) - 1 then ((wx ws i).length : Int) - 1 else 0) := rfl
theorem Rch.more {a b : List Ed} (h : ∀ e ∈ a, e ∈ b) {v u : Int} (hr : Rch a v u) : Rch b v u := by
  induction hr with
  | base => exact .base
  | fwd he _ ih => exact .fwd (h _ he) ih
  | bwd he _ ih => exact .bwd (h _ he) ih
theorem pthN_at {u v z : Int} {w : List Int} {k : Nat} : ∀ {n : Nat}, k < n → stE (vtx u v z w.length k) (ix w k) (vtx u v z w.length (k + 1)) ∈ pthN u v z w n
  | 0, h => by omega
  | n + 1, h => by
    rw [pthN, List.mem_append, List.mem_singleton]
    rcases Nat.lt_or_ge k n with h1 | h1
    · exact .inl (pthN_at h1)
    · exact .inr (by rw [show k = n by omega])
theorem pth_rch {es : List Ed} {z : Int} {w : List Int} (h : ∀ e ∈ pthN 0 0 z w w.length, e ∈ es) : ∀ i, i ≤ w.length → Rch es 0 (vtx 0 0 z w.length i)
  | 0, _ => by unfold vtx; rw [if_pos rfl]; exact .base
  | i + 1, hi => by
    have ih := pth_rch h i (by omega)
    have he := h _ (pthN_at (u := 0) (v := 0) (z := z) (w := w) (k := i) (n := w.length) (by omega))
    unfold stE at he
    split at he
    · exact Rch.bwd (e := (_, _, _)) he ih
    · exact Rch.fwd (e := (_, _, _)) he ih
theorem flN_sm {r : Int} {ws : List (List Int)} (h : awB r ws = true) : ∀ i, i ≤ ws.length →
    isG r (flN r ws i).z (flN r ws i).es = true ∧ (flN r ws i).z = szF ws i ∧ (flN r ws i).z ≤ 1 + tlN ws i ∧ (flN r ws i).es.length ≤ tlN ws i ∧ ∀ v, 0 ≤ v → v < (flN r ws i).z → Rch (flN r ws i).es 0 v
  | 0, _ => by
    simp only [awB, Bool.and_eq_true, decide_eq_true_eq] at h
    refine ⟨by show isG r 1 [] = true; exact isG_iff.2 ⟨⟨h.1.1, h.1.2.1, by omega, by omega, by simp⟩, List.Pairwise.nil, fun e he => by cases he⟩, rfl, by simp [flN, tlN], by simp [flN, tlN], fun v h0 h1 => ?_⟩
    have : v = 0 := by have h1 : v < 1 := h1; omega
    subst this; exact .base
  | i + 1, hi => by
    obtain ⟨h1, h2, h3, h4, h5⟩ := flN_sm h i (by omega)
    have hrr := flN_r r ws i
    have ht : tlN ws (i + 1) = tlN ws i + (wx ws i).length := rfl
    have hw : isW r (wx ws i) = true ∧ tlN ws (i + 1) < 40 := by
      simp only [awB, awA, Bool.and_eq_true, decide_eq_true_eq, List.all_eq_true] at h
      refine ⟨h.2.1 _ (wx_mem (by omega)), ?_⟩
      have : ∀ k, tlN ws (i + 1) ≤ tlN ws (i + 1 + k) := fun k => by
        induction k with
        | zero => exact Nat.le_refl _
        | succ k ih => exact Nat.le_trans ih (Nat.le_add_right _ _)
      have := this (ws.length - (i + 1))
      rw [show i + 1 + (ws.length - (i + 1)) = ws.length by omega] at this
      have h9 : tlN ws ws.length < 40 := h.2.2
      omega
    have e : flN r ws (i + 1) = pth (flN r ws i) 0 (wx ws i) 0 := rfl
    have es : szF ws (i + 1) = szF ws i + (if 0 < ((wx ws i).length : Int) - 1 then ((wx ws i).length : Int) - 1 else 0) := rfl
    rw [e, es, ht]
    rw [ht] at hw
    generalize flN r ws i = F at *
    obtain ⟨r', z, es'⟩ := F
    simp only at hrr h1 h2 h3 h4 h5
    subst hrr
    have hz := isG_z h1
    rcases Nat.eq_zero_or_pos (wx ws i).length with h0 | h0
    · have e0 : wx ws i = [] := List.eq_nil_of_length_eq_zero h0
      rw [e0, pth_nil]
      simp only [List.length_nil]
      exact ⟨h1, by simpa using h2, by simpa using h3, by simpa using h4, h5⟩
    · have hk : pthOk ⟨r', z, es'⟩ 0 (wx ws i) 0 = true := pthOk_iff.2 ⟨h1, ⟨by omega, by omega, by omega, by omega, by omega, by omega, by omega⟩, hw.1⟩
      have hok := pth_ok (u := 0) (v := 0) (w := wx ws i) (show (⟨r', z, es'⟩ : Gr).ok = true from h1)
      rw [pth_yes hk] at hok ⊢
      simp only at hok ⊢
      have hnl := norm_len (es' ++ pthN 0 0 z (wx ws i) (wx ws i).length)
      rw [List.length_append, pthN_len] at hnl
      refine ⟨hok, ?_, by omega, by omega, fun v v0 v1 => ?_⟩
      · split <;> omega
      · rcases Int.lt_or_le v z with hv | hv
        · exact (h5 v v0 hv).more fun e he => norm_mem.2 (List.mem_append.2 (.inl he))
        · have hp := pth_rch (es := norm (es' ++ pthN 0 0 z (wx ws i) (wx ws i).length)) (z := z) (w := wx ws i) (fun e he => norm_mem.2 (List.mem_append.2 (.inr he))) (v - z + 1).toNat (by omega)
          have : vtx 0 0 z (wx ws i).length (v - z + 1).toNat = v := by
            unfold vtx
            rw [if_neg (by omega), if_neg (by omega)]
            omega
          rw [this] at hp
          exact hp
theorem flower_law {r : Int} {ws : List (List Int)} (h : awB r ws = true) : (flG r ws).z = szF ws ws.length ∧ isG (flG r ws).r (flG r ws).z (flG r ws).es = true ∧ conn (flG r ws) = true ∧ szF ws ws.length ≤ 41 := by
  obtain ⟨h1, h2, h3, h4, h5⟩ := flN_sm h ws.length (Nat.le_refl _)
  have hr : (flN r ws ws.length).r = r := flN_r ..
  have hg : isG (flG r ws).r (flG r ws).z (flG r ws).es = true := by show isG (flN r ws ws.length).r _ _ = true; rw [hr]; exact h1
  have hz := isG_z h1
  refine ⟨h2, hg, ?_, by omega⟩
  have hc : rl (flN r ws ws.length).es 0 (flN r ws ws.length).z = (List.range (flN r ws ws.length).z.toNat).map (fun n : Nat => (n : Int)) := by
    unfold rl
    refine List.filter_eq_self.2 fun u hu => ?_
    obtain ⟨n, hn, rfl⟩ := List.mem_map.1 hu
    rw [List.mem_range] at hn
    have hr := h5 (n : Int) (by omega) (by omega)
    classical
    first | exact decide_eq_true hr | (simp only [decide_eq_true_eq]; exact hr) | simp [hr]
  show conn (flN r ws ws.length) = true
  unfold conn
  rw [hc]
  simp only [List.length_map, List.length_range, Bool.and_eq_true, decide_eq_true_eq]
  exact ⟨by show isG _ _ _ = true; rw [hr]; exact h1, by omega⟩
theorem szF_rg {ws : List (List Int)} (h1 : ws.length ≤ 4) (h2 : ∀ w ∈ ws, w.length ≤ 5) : ∀ i, i ≤ ws.length → 1 ≤ szF ws i ∧ szF ws i ≤ 1 + 5 * (i : Int)
  | 0, _ => by simp [szF]
  | i + 1, hi => by
    have ih := szF_rg h1 h2 i (by omega)
    have := h2 _ (wx_mem (ws := ws) (i := i) (by omega))
    rw [szF]
    split <;> omega
end Go.Proofs.Try
