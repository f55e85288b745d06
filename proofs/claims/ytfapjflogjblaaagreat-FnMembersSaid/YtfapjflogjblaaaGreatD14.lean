import Derived.Test.YtfapjflogjblaaaGreatR3
import Derived.Test.YtfapjflogjblaaaGreatQ19
set_option linter.unusedVariables false
set_option linter.unusedSimpArgs false
set_option linter.unnecessarySimpa false
/- Plain: words and their reduced forms; what a subgroup contains; words of a basis put in again. -/
namespace Go.Proofs.Tryz
open Go Go.Eng
set_option linter.unnecessarySimpa false
set_option linter.unusedSimpArgs false
set_option maxHeartbeats 4000000
/-- Letters that have an inverse. -/
def gdW (w : List Int) : Prop := ∀ x ∈ w, x ≠ 0 ∧ -1000000 ≤ x ∧ x ≤ 1000000
theorem smallW.gd {w : List Int} (h : smallW w) : gdW w := fun x hx => by have := h x hx; omega
theorem gdW.app {a b : List Int} (ha : gdW a) (hb : gdW b) : gdW (a ++ b) := fun x hx => (List.mem_append.1 hx).elim (ha x) (hb x)
theorem gdW.left {a b : List Int} (h : gdW (a ++ b)) : gdW a := fun x hx => h x (List.mem_append.2 (.inl hx))
theorem gdW.right {a b : List Int} (h : gdW (a ++ b)) : gdW b := fun x hx => h x (List.mem_append.2 (.inr hx))
theorem gdW.red {w : List Int} (h : gdW w) : gdW (red w) := fun x hx => h x (red_mem hx)
theorem rdS_back {t : List Int} {x : Int} (ht : isRd t) (h0 : x ≠ 0) (h1 : -1000000 ≤ x ∧ x ≤ 1000000) : rdS (rdS t (-x)) x = t := by
  by_cases hc : 0 < t.length ∧ inv2 (ix t (t.length - 1)) (-x) = true
  · rw [rdS_cut hc.1 hc.2]
    have hl := inv2_iff.1 hc.2
    have e := cut_last hc.1
    have hx : ix t (t.length - 1) = x := by omega
    rw [hx] at e
    rw [rdS_put, ← e]
    rintro ⟨h2, h3⟩
    rw [List.length_take] at h2 h3
    have h4 := ht (t.length - 1 - 1) (by omega)
    rw [show t.length - 1 - 1 + 1 = t.length - 1 by omega, hx] at h4
    rw [ix_take (by omega), show min (t.length - 1) t.length - 1 = t.length - 1 - 1 by omega, h4] at h3
    cases h3
  · rw [rdS_put hc, rdS_cut (by simp)]
    · simp
    · have : ix (t ++ [-x]) ((t ++ [-x]).length - 1) = -x := lastI_app t (-x)
      rw [this]
      exact inv2_iff.2 ⟨by omega, by omega, by omega⟩
theorem fold_rd {w : List Int} : ∀ {s : List Int}, isRd s → isRd (w.foldl rdS s) := by
  induction w with
  | nil => exact fun h => h
  | cons x w ih => exact fun h => ih (rdS_rd h)
theorem rev_ind {P : List Int → Prop} (h0 : P []) (h1 : ∀ l x, P l → P (l ++ [x])) (l : List Int) : P l := by
  have : ∀ n, ∀ l : List Int, l.length ≤ n → P l := by
    intro n
    induction n with
    | zero =>
      intro l hl
      have : l = [] := List.eq_nil_of_length_eq_zero (by omega)
      rw [this]; exact h0
    | succ n ih =>
      intro l hl
      rcases List.eq_nil_or_concat l with rfl | ⟨l', x, rfl⟩
      · exact h0
      · rw [List.concat_eq_append] at hl ⊢
        exact h1 _ _ (ih _ (by simp at hl; omega))
  exact this _ l (Nat.le_refl _)
theorem red_snoc (w : List Int) (x : Int) : red (w ++ [x]) = rdS (red w) x := by simp [red]
theorem fold_red {s : List Int} (hs : isRd s) (w : List Int) : gdW w → w.foldl rdS s = (red w).foldl rdS s := by
  refine rev_ind (P := fun w => gdW w → w.foldl rdS s = (red w).foldl rdS s) (fun _ => rfl) (fun l x ih hw => ?_) w
  have hx := hw x (by simp)
  rw [List.foldl_append, ih hw.left, red_snoc]
  show rdS ((red l).foldl rdS s) x = _
  by_cases hc : 0 < (red l).length ∧ inv2 (ix (red l) ((red l).length - 1)) x = true
  · rw [rdS_cut hc.1 hc.2]
    have hl := inv2_iff.1 hc.2
    have e := cut_last hc.1
    rw [show ix (red l) ((red l).length - 1) = -x by omega] at e
    conv => lhs; rw [e, List.foldl_append]
    exact rdS_back (fold_rd hs) hx.1 ⟨hx.2.1, hx.2.2⟩
  · rw [rdS_put hc, List.foldl_append]; rfl
theorem red_app2 (a : List Int) {b : List Int} (hb : gdW b) : red (a ++ red b) = red (a ++ b) := by
  have h := fold_red (red_rd a) b hb
  have e : ∀ c, red (a ++ c) = c.foldl rdS (red a) := fun c => by simp [red]
  rw [e, e, h]
theorem red_pair (a b : List Int) {x : Int} (h0 : x ≠ 0) (h1 : -1000000 ≤ x ∧ x ≤ 1000000) : red (a ++ ([-x, x] ++ b)) = red (a ++ b) := by
  have h := rdS_back (red_rd a) h0 h1
  have e : ∀ c, red (a ++ c) = c.foldl rdS (red a) := fun c => by simp [red]
  rw [e, e]
  show b.foldl rdS (rdS (rdS (red a) (-x)) x) = _
  rw [h]
theorem red_inv {w : List Int} : gdW w → red ((w.reverse.map fun x => -x) ++ w) = [] := by
  induction w with
  | nil => intro _; rfl
  | cons x w ih =>
    intro h
    have hx := h x (by simp)
    have := red_pair (w.reverse.map fun x => -x) w hx.1 ⟨hx.2.1, hx.2.2⟩
    have e : ((x :: w).reverse.map fun x => -x) ++ (x :: w) = (w.reverse.map fun x => -x) ++ ([-x, x] ++ w) := by simp
    rw [e, this]
    exact ih fun y hy => h y (by simp [hy])
/-! ### What a subgroup contains -/
theorem wk_mul {r z : Int} {es : List Ed} {l w : List Int} (hf : isF r z es = true) (hl : wk es 0 l = some 0) (gl : gdW l) (gw : gdW w) : wk es 0 (red (l ++ w)) = some 0 ↔ wk es 0 (red w) = some 0 := by
  constructor
  · intro h
    have h1 : wk es 0 ((l.reverse.map fun x => -x) ++ red (l ++ w)) = some 0 := by
      rw [wk_app, wk_back hf hl]; exact h
    have h2 := wk_red hf h1
    rwa [red_app2 _ (gl.app gw), ← List.append_assoc, ← red_app, red_inv gl, List.nil_append] at h2
  · intro h
    have h1 : wk es 0 (l ++ red w) = some 0 := by rw [wk_app, hl]; exact h
    have h2 := wk_red hf h1
    rwa [red_app2 _ gw] at h2
theorem ct_iff {r z : Int} {es : List Ed} {w : List Int} (hc : isC r z es = true) : ctB r z es w = true ↔ wk es 0 (red w) = some 0 := by
  unfold ctB
  rw [hc, Bool.true_and, lpB_wk]
theorem ct_loop {r z : Int} {es : List Ed} {l : List Int} (hc : isC r z es = true) (hl : wk es 0 l = some 0) : ctB r z es l = true := (ct_iff hc).2 (wk_red (isC_f hc) hl)
theorem ct_inv {r z : Int} {es : List Ed} {l : List Int} (hc : isC r z es = true) (hl : wk es 0 l = some 0) (gl : smallW l) : ctB r z es (ivW l) = true := by
  rw [ivW_rev gl]
  exact (ct_iff hc).2 (wk_red (isC_f hc) (wk_back (isC_f hc) hl))
theorem ct_mul {r z : Int} {es : List Ed} {l w : List Int} (hc : isC r z es = true) (hl : wk es 0 l = some 0) (gl : smallW l) (gw : smallW w) : ctB r z es (red (l ++ w)) = ctB r z es w := by
  rw [Bool.eq_iff_iff, ct_iff hc, ct_iff hc, red_red (red_rd _)]
  exact wk_mul (isC_f hc) hl gl.gd gw.gd
/-! ### Words of a basis put in -/
def exW (ws : List (List Int)) (k : Int) : List Int := (exL ws k).flatten
end Go.Proofs.Tryz
