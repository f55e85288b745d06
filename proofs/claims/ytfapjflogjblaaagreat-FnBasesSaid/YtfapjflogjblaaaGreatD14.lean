import Derived.Test.YtfapjflogjblaaaGreatR3
import Derived.Test.YtfapjflogjblaaaGreatQ19
set_option maxHeartbeats 16000000
set_option maxRecDepth 20000
set_option linter.unusedVariables false
set_option linter.unusedSimpArgs false
set_option linter.unnecessarySimpa false
namespace Go.Proofs.Tryz
open Go Go.Eng
def gdW (w : List Int) : Prop := ∀ x ∈ w, x ≠ 0 ∧ -1000000 ≤ x ∧ x ≤ 1000000
theorem smallW.gd {w : List Int} (h : smallW w) : gdW w := fun x hx => by have := h x hx; omega
theorem gdW.app {a b : List Int} (ha : gdW a) (hb : gdW b) : gdW (a ++ b) := fun x hx => (List.mem_append.1 hx).elim (ha x) (hb x)
theorem gdW.left {a b : List Int} (h : gdW (a ++ b)) : gdW a := fun x hx => h x (List.mem_append.2 (.inl hx))
theorem gdW.right {a b : List Int} (h : gdW (a ++ b)) : gdW b := fun x hx => h x (List.mem_append.2 (.inr hx))
theorem gdW.red {w : List Int} (h : gdW w) : gdW (red w) := fun x hx => h x (red_mem hx)
theorem gdW.rev {w : List Int} (h : gdW w) : gdW (w.reverse.map fun x => -x) := fun x hx => by
  obtain ⟨y, hy, rfl⟩ := List.mem_map.1 hx
  have := h y (List.mem_reverse.1 hy); omega
theorem rdS_back {t : List Int} {x : Int} (ht : isRd t) (h0 : x ≠ 0) (h1 : -1000000 ≤ x ∧ x ≤ 1000000) : rdS (rdS t (-x)) x = t := by
  by_cases hc : 0 < t.length ∧ inv2 (ix t (t.length - 1)) (-x) = true
  · rw [rdS_cut hc.1 hc.2]
    have hl := inv2_iff.1 hc.2
    have e := cut_last hc.1
    have hx : ix t (t.length - 1) = x := by omega
    rw [hx] at e
    rw [rdS_put, ← e]
    rintro ⟨h2, h3⟩
    rw [List.length_take] at h2 h3
    have h4 := ht (t.length - 1 - 1) (by omega)
    rw [show t.length - 1 - 1 + 1 = t.length - 1 by omega, hx] at h4
    rw [ix_take (by omega), show min (t.length - 1) t.length - 1 = t.length - 1 - 1 by omega, h4] at h3
    cases h3
  · rw [rdS_put hc, rdS_cut (by simp)]
    · simp
    · have : ix (t ++ [-x]) ((t ++ [-x]).length - 1) = -x := lastI_app t (-x)
      rw [this]
      exact inv2_iff.2 ⟨by omega, by omega, by omega⟩
theorem fold_rd {w : List Int} : ∀ {s : List Int}, isRd s → isRd (w.foldl rdS s) := by
  induction w with
  | nil => exact fun h => h
  | cons x w ih => exact fun h => ih (rdS_rd h)
theorem rev_ind {P : List Int → Prop} (h0 : P []) (h1 : ∀ l x, P l → P (l ++ [x])) (l : List Int) : P l := by
  have : ∀ n, ∀ l : List Int, l.length ≤ n → P l := by
    intro n
    induction n with
    | zero =>
      intro l hl
      have : l = [] := List.eq_nil_of_length_eq_zero (by omega)
      rw [this]; exact h0
    | succ n ih =>
      intro l hl
      rcases List.eq_nil_or_concat l with rfl | ⟨l', x, rfl⟩
      · exact h0
      · rw [List.concat_eq_append] at hl ⊢
        exact h1 _ _ (ih _ (by simp at hl; omega))
  exact this _ l (Nat.le_refl _)
theorem red_snoc (w : List Int) (x : Int) : red (w ++ [x]) = rdS (red w) x := by simp [red]
theorem fold_red {s : List Int} (hs : isRd s) (w : List Int) : gdW w → w.foldl rdS s = (red w).foldl rdS s := by
  refine rev_ind (P := fun w => gdW w → w.foldl rdS s = (red w).foldl rdS s) (fun _ => rfl) (fun l x ih hw => ?_) w
  have hx := hw x (by simp)
  rw [List.foldl_append, ih hw.left, red_snoc]
  show rdS ((red l).foldl rdS s) x = _
  by_cases hc : 0 < (red l).length ∧ inv2 (ix (red l) ((red l).length - 1)) x = true
  · rw [rdS_cut hc.1 hc.2]
    have hl := inv2_iff.1 hc.2
    have e := cut_last hc.1
    rw [show ix (red l) ((red l).length - 1) = -x by omega] at e
    conv => lhs; rw [e, List.foldl_append]
    exact rdS_back (fold_rd hs) hx.1 ⟨hx.2.1, hx.2.2⟩
  · rw [rdS_put hc, List.foldl_append]; rfl
theorem red_app2 (a : List Int) {b : List Int} (hb : gdW b) : red (a ++ red b) = red (a ++ b) := by
  have h := fold_red (red_rd a) b hb
  have e : ∀ c, red (a ++ c) = c.foldl rdS (red a) := fun c => by simp [red]
  rw [e, e, h]
theorem red_pair (a b : List Int) {x : Int} (h0 : x ≠ 0) (h1 : -1000000 ≤ x ∧ x ≤ 1000000) : red (a ++ ([-x, x] ++ b)) = red (a ++ b) := by
  have h := rdS_back (red_rd a) h0 h1
  have e : ∀ c, red (a ++ c) = c.foldl rdS (red a) := fun c => by simp [red]
  rw [e, e]
  show b.foldl rdS (rdS (rdS (red a) (-x)) x) = _
  rw [h]
theorem red_inv {w : List Int} : gdW w → red ((w.reverse.map fun x => -x) ++ w) = [] := by
  induction w with
  | nil => intro _; rfl
  | cons x w ih =>
    intro h
    have hx := h x (by simp)
    have := red_pair (w.reverse.map fun x => -x) w hx.1 ⟨hx.2.1, hx.2.2⟩
    have e : ((x :: w).reverse.map fun x => -x) ++ (x :: w) = (w.reverse.map fun x => -x) ++ ([-x, x] ++ w) := by simp
    rw [e, this]
    exact ih fun y hy => h y (by simp [hy])
theorem red_inv2 {w : List Int} (h : gdW w) : red (w ++ w.reverse.map fun x => -x) = [] := by
  have := red_inv h.rev
  rwa [rev_rev] at this
theorem ct_iff {r z : Int} {es : List Ed} {w : List Int} (hc : isC r z es = true) : ctB r z es w = true ↔ wk es 0 (red w) = some 0 := by
  unfold ctB
  rw [hc, Bool.true_and, lpB_wk]
def exW (ws : List (List Int)) (k : Int) : List Int := (exL ws k).flatten
def exA (ws : List (List Int)) (l : List Int) : List Int := (l.map (exW ws)).flatten
theorem exA_app (ws : List (List Int)) (a b : List Int) : exA ws (a ++ b) = exA ws a ++ exA ws b := by simp [exA]
theorem exA_one (ws : List (List Int)) (k : Int) : exA ws [k] = exW ws k := by simp [exA]
theorem exN_A (ws : List (List Int)) (l : List Int) : ∀ i, i ≤ l.length → (exN ws l i).flatten = exA ws (l.take i)
  | 0, _ => rfl
  | i + 1, h => by
    have ht : l.take (i + 1) = l.take i ++ [ix l i] := by rw [List.take_add_one]; simp [ix, show i < l.length by omega]
    rw [exN, List.flatten_append, exN_A ws l i (by omega), ht, exA_app, exA_one]; rfl
theorem exV_A {ws : List (List Int)} {l : List Int} (h : l.length ≤ 200) : exV ws l = red (exA ws l) := by
  unfold exV
  rw [show min l.length 200 = l.length by omega, exN_A ws l _ (Nat.le_refl _), List.take_length]
theorem ivN_rev {w : List Int} (h : gdW w) : ivW w = w.reverse.map fun x => -x := by
  have key : ∀ n, n ≤ w.length → ivN w n = ((w.drop (w.length - n)).reverse.map fun x => -x) := by
    intro n
    induction n with
    | zero => intro _; simp [ivN]
    | succ n ih =>
      intro hn
      have hm := h _ (ix_mem (l := w) (i := w.length - (n + 1)) (by omega))
      have e : w.drop (w.length - (n + 1)) = ix w (w.length - (n + 1)) :: w.drop (w.length - n) := by
        rw [List.drop_eq_getElem_cons (by omega), show w.length - (n + 1) + 1 = w.length - n by omega]
        simp [ix, show w.length - (n + 1) < w.length by omega]
      rw [e, List.reverse_cons, List.map_append, ← ih (by omega), ivN]
      simp only [List.map_cons, List.map_nil]
      rw [show w.length - 1 - n = w.length - (n + 1) by omega, ngI_small ⟨hm.2.1, hm.2.2⟩]
  have := key w.length (Nat.le_refl _)
  simpa [ivW] using this
theorem exW_inv {ws : List (List Int)} (hw : ∀ w ∈ ws, gdW w) (k : Int) : gdW (exW ws k) ∧ red (exW ws k ++ exW ws (-k)) = [] := by
  unfold exW exL
  by_cases h1 : 1 ≤ k ∧ k ≤ ws.length
  · have hm := hw _ (wx_mem (ws := ws) (i := (k - 1).toNat) (by omega))
    rw [if_pos h1, if_neg (by omega), if_pos (by omega), Int.neg_neg, ivN_rev hm]
    simp only [List.flatten_cons, List.flatten_nil, List.append_nil]
    exact ⟨hm, red_inv2 hm⟩
  · rw [if_neg h1]
    by_cases h2 : -(ws.length : Int) ≤ k ∧ k ≤ -1
    · have hm := hw _ (wx_mem (ws := ws) (i := (-k - 1).toNat) (by omega))
      rw [if_pos h2, if_pos (by omega), ivN_rev hm]
      simp only [List.flatten_cons, List.flatten_nil, List.append_nil]
      exact ⟨hm.rev, red_inv hm⟩
    · rw [if_neg h2, if_neg (by omega), if_neg (by omega)]
      exact ⟨by intro x hx; simp at hx, rfl⟩
theorem exA_red {ws : List (List Int)} (hw : ∀ w ∈ ws, gdW w) (l : List Int) : red (exA ws (red l)) = red (exA ws l) := by
  refine rev_ind (P := fun l => red (exA ws (red l)) = red (exA ws l)) rfl (fun l x ih => ?_) l
  rw [red_snoc, exA_app ws l, exA_one, ← red_app, ← ih, red_app]
  by_cases hc : 0 < (red l).length ∧ inv2 (ix (red l) ((red l).length - 1)) x = true
  · rw [rdS_cut hc.1 hc.2]
    have hl := inv2_iff.1 hc.2
    have e := cut_last hc.1
    rw [show ix (red l) ((red l).length - 1) = -x by omega] at e
    generalize (red l).take ((red l).length - 1) = c at *
    rw [e, exA_app, exA_one, List.append_assoc]
    have h1 := (exW_inv hw (-x)).2
    rw [Int.neg_neg] at h1
    have g1 : gdW (exW ws (-x) ++ exW ws x) := (exW_inv hw (-x)).1.app (exW_inv hw x).1
    rw [← red_app2 _ g1, h1, List.append_nil]
  · rw [rdS_put hc, exA_app, exA_one]
end Go.Proofs.Tryz
