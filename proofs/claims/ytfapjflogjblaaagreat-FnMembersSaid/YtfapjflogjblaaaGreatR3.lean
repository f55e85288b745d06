import Derived.Test.YtfapjflogjblaaaGreatY
import Derived.Test.YtfapjflogjblaaaGreatK
import Derived.Test.YtfapjflogjblaaaGreatQ13
import Derived.Test.YtfapjflogjblaaaGreatQ12
set_option linter.unusedVariables false
set_option linter.unusedSimpArgs false
set_option linter.unnecessarySimpa false
/- Plain: the search with images in another graph; what a basis' words do there. -/
namespace Go.Proofs.Tryz
open Go Go.Eng
theorem wk_vN {es : List Ed} {v : Int} {w : List Int} : ∀ {i : Nat} {u : Int}, i ≤ w.length → (wk es v (w.take i) = some u ↔ rdk es v w i = i ∧ vN es v w i = u)
  | 0, u, _ => by simp [wk, rdk, vN]
  | i + 1, u, h => by
    have ht : w.take (i + 1) = w.take i ++ [ix w i] := by rw [List.take_add_one]; simp [ix, show i < w.length by omega]
    rw [ht, wk_snoc]
    constructor
    · rintro ⟨t, h1, h2, h3⟩
      obtain ⟨h4, h5⟩ := (wk_vN (by omega)).1 h1
      subst h5
      exact ⟨rdk_go h4 h2, h3.symm⟩
    · rintro ⟨h1, h2⟩
      have h3 := rdk_mono h1 i (by omega)
      have h4 := rdk_nx h1 (i := i) (by omega)
      exact ⟨vN es v w i, (wk_vN (by omega)).2 ⟨h3, rfl⟩, h4, h2.symm⟩
theorem wk_rd {es : List Ed} {v u : Int} {w : List Int} : wk es v w = some u ↔ rdL es v w = w.length ∧ rdV es v w = u := by
  have := wk_vN (es := es) (v := v) (w := w) (u := u) (Nat.le_refl _)
  rw [List.take_length] at this
  rw [this]
  constructor
  · rintro ⟨h1, h2⟩; have := rdL_all h1; exact ⟨h1, by rw [this.2, h2]⟩
  · rintro ⟨h1, h2⟩
    have h3 : rdk es v w w.length = w.length := h1
    have := rdL_all h3
    exact ⟨h3, by rw [← h2, this.2]⟩
theorem lpB_wk {es : List Ed} {w : List Int} : lpB es w = true ↔ wk es 0 w = some 0 := by
  rw [wk_rd]
  simp only [lpB, Bool.and_eq_true, decide_eq_true_eq]
/-! ### A basis -/
def bsN (r z : Int) (es xs : List Ed) : Nat → List (List Int)
  | 0 => []
  | i + 1 => bsN r z es xs i ++ [red (bwd r z es (ed xs i))]
/-! ### Images -/
def imF (b : List Ed) (st : BS) (u : Int) : Int := match wf st u with
  | some w => (wk b 0 w).getD 0
  | none => 0
/-- What has been found so far: every word leads somewhere in the other graph, and every step that has been looked at agrees. -/
structure CSt (a b : List Ed) (ls : List Int) (i k : Nat) (st : BS) : Prop where
  rd : ∀ j, j < st.length → ∃ u, wk b 0 (bsa st j).2 = some u
  cs : ∀ j m, (j < i ∨ (j = i ∧ m < k)) → j < st.length → m < ls.length → 0 ≤ nx a (bsa st j).1 (ix ls m) →
    ∃ t, t < st.length ∧ (bsa st t).1 = nx a (bsa st j).1 (ix ls m) ∧ ∃ u, wk b 0 (bsa st j).2 = some u ∧ 0 ≤ nx b u (ix ls m) ∧ wk b 0 (bsa st t).2 = some (nx b u (ix ls m))
theorem CSt.turn {a b : List Ed} {ls : List Int} {i k : Nat} {st : BS} (h : CSt a b ls i k st) (hk : ls.length ≤ k) : CSt a b ls (i + 1) 0 st :=
  ⟨h.rd, fun j m hjm hj hm h0 => h.cs j m (by omega) hj hm h0⟩
/-- Where a map would send an entry. -/
theorem hom_at {a b : List Ed} {f : Int → Int} {st : BS} (h0 : bsa st 0 = (0, [])) (hp : BP a st) (f0 : f 0 = 0) (h : ∀ v x, 0 ≤ nx a v x → 0 ≤ nx b (f v) x ∧ nx b (f v) x = f (nx a v x)) {j : Nat} (hj : j < st.length) {u : Int} (hu : wk b 0 (bsa st j).2 = some u) : u = f (bsa st j).1 := by
  have h1 := hom_wk h (wk_BP h0 hp (j + 1) j (by omega) hj)
  rw [f0, hu] at h1
  exact Option.some.inj h1
end Go.Proofs.Tryz
