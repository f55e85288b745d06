import Derived.Test.YtfaonopjkgdedaaY
import Derived.Test.YtfaonopjkgdedaaK
import Derived.Test.YtfaonopjkgdedaaQ13
import Derived.Test.YtfaonopjkgdedaaQ12
set_option linter.unusedVariables false
set_option linter.unusedSimpArgs false
set_option linter.unnecessarySimpa false
/- Plain: the search with images in another graph; what a basis' words do there. -/
namespace Go.Proofs.Try
open Go Go.Eng
theorem wk_vN {es : List Ed} {v : Int} {w : List Int} : ∀ {i : Nat} {u : Int}, i ≤ w.length → (wk es v (w.take i) = some u ↔ rdk es v w i = i ∧ vN es v w i = u)
  | 0, u, _ => by simp [wk, rdk, vN]
  | i + 1, u, h => by
    have ht : w.take (i + 1) = w.take i ++ [ix w i] := by rw [List.take_add_one]; simp [ix, show i < w.length by omega]
    rw [ht, wk_snoc]
    constructor
    · rintro ⟨t, h1, h2, h3⟩
      obtain ⟨h4, h5⟩ := (wk_vN (by omega)).1 h1
      subst h5
      exact ⟨rdk_go h4 h2, h3.symm⟩
    · rintro ⟨h1, h2⟩
      have h3 := rdk_mono h1 i (by omega)
      have h4 := rdk_nx h1 (i := i) (by omega)
      exact ⟨vN es v w i, (wk_vN (by omega)).2 ⟨h3, rfl⟩, h4, h2.symm⟩
theorem wk_rd {es : List Ed} {v u : Int} {w : List Int} : wk es v w = some u ↔ rdL es v w = w.length ∧ rdV es v w = u := by
  have := wk_vN (es := es) (v := v) (w := w) (u := u) (Nat.le_refl _)
  rw [List.take_length] at this
  rw [this]
  constructor
  · rintro ⟨h1, h2⟩; have := rdL_all h1; exact ⟨h1, by rw [this.2, h2]⟩
  · rintro ⟨h1, h2⟩
    have h3 : rdk es v w w.length = w.length := h1
    have := rdL_all h3
    exact ⟨h3, by rw [← h2, this.2]⟩
theorem lpB_wk {es : List Ed} {w : List Int} : lpB es w = true ↔ wk es 0 w = some 0 := by
  rw [wk_rd]
  simp only [lpB, Bool.and_eq_true, decide_eq_true_eq]
/-! ### A basis -/
def bsN (r z : Int) (es xs : List Ed) : Nat → List (List Int)
  | 0 => []
  | i + 1 => bsN r z es xs i ++ [red (bwd r z es (ed xs i))]
theorem bsN_len (r z : Int) (es xs : List Ed) (i : Nat) : (bsN r z es xs i).length = i := by
  induction i with
  | zero => rfl
  | succ i ih => simp [bsN, ih]
theorem bsN_mem {r z : Int} {es xs : List Ed} {w : List Int} : ∀ {n : Nat}, w ∈ bsN r z es xs n ↔ ∃ i, i < n ∧ w = red (bwd r z es (ed xs i))
  | 0 => by simp [bsN]
  | n + 1 => by
    simp only [bsN, List.mem_append, List.mem_singleton, bsN_mem]
    constructor
    · rintro (⟨i, h1, h2⟩ | h)
      · exact ⟨i, by omega, h2⟩
      · exact ⟨n, by omega, h⟩
    · rintro ⟨i, h1, h2⟩
      rcases Nat.lt_or_ge i n with h3 | h3
      · exact .inl ⟨i, h3, h2⟩
      · have : i = n := by omega
        subst this; exact .inr h2
def bsW (r z : Int) (es : List Ed) : List (List Int) := bsN r z es (extL r z es) (extL r z es).length
theorem twd_len {r z : Int} {es : List Ed} {v : Int} (hf : isF r z es = true) : (twd r z es v).length ≤ 40 := by
  have hz := isG_z (isF_g hf)
  unfold twd
  cases hw : wf (bfs r z es 0) v with
  | none => simp
  | some w => exact wf_len (isF_g hf) (BI_bfs (isF_g hf) (by omega)) hw
theorem twd_small {r z : Int} {es : List Ed} {v : Int} (hf : isF r z es = true) : smallW (twd r z es v) := by
  unfold twd
  cases hw : wf (bfs r z es 0) v with
  | none => intro x hx; cases hx
  | some w =>
    have hm := wf_mem hw
    obtain ⟨i, hi, he⟩ := List.mem_iff_getElem.1 hm
    have := (BF_bfs hf).sm i hi
    simp only [bsa, List.getD_eq_getElem?_getD, List.getElem?_eq_getElem hi, he, Option.getD_some] at this
    exact this
theorem bwd_len {r z : Int} {es : List Ed} {e : Ed} (hf : isF r z es = true) : (bwd r z es e).length ≤ 81 := by
  have h1 := twd_len (v := e.1) hf
  have h2 := twd_len (v := e.2.2) hf
  simp only [bwd, List.length_append, List.length_singleton, ivW_len]
  omega
theorem bwd_rg {r z : Int} {es : List Ed} {e : Ed} (hf : isF r z es = true) (he : e ∈ es) : ∀ x ∈ bwd r z es e, rg x := fun x hx => by
  have h0 := isG_z (isF_g hf)
  have h3 := (isG_iff.1 (isF_g hf)).2.2 _ he
  unfold inR at h3
  unfold bwd at hx
  rcases List.mem_append.1 hx with hx | hx
  · rcases List.mem_append.1 hx with hx | hx
    · have := twd_small hf x hx; unfold rg; omega
    · rw [List.mem_singleton] at hx; subst hx; unfold rg; omega
  · exact ivW_rg x hx
theorem bsW_len {r z : Int} {es : List Ed} : (bsW r z es).length ≤ 120 := by
  unfold bsW; rw [bsN_len]; exact extL_len
theorem bsW_ok {r z : Int} {es : List Ed} (hf : isF r z es = true) : ∀ w ∈ bsW r z es, w.length ≤ 81 ∧ ∀ x ∈ w, rg x := fun w hw => by
  obtain ⟨i, hi, rfl⟩ := bsN_mem.1 hw
  have h1 := red_len (bwd r z es (ed (extL r z es) i))
  have h2 := bwd_len (e := ed (extL r z es) i) hf
  have h3 := ((extL_mem hf).1 (ed_mem hi)).1
  exact ⟨by omega, red_rg (bwd_rg hf h3)⟩
noncomputable def homB (a b : List Ed) : Bool := @decide (Hom a b) (Classical.propDecidable _)
theorem homB_iff {a b : List Ed} : homB a b = true ↔ Hom a b := by unfold homB; exact @decide_eq_true_iff _ (Classical.propDecidable _)
theorem homB_not {a b : List Ed} (h : ¬ Hom a b) : homB a b = false := by rw [← Bool.not_eq_true, homB_iff]; exact h
theorem caL_hom {r z r' z' : Int} {es es' : List Ed} (hf : isF r z es = true) (hg : gone ⟨r, z, es⟩ = 0) (hf' : isF r' z' es' = true) : caL es' (bsW r z es) = homB es es' := by
  rw [Bool.eq_iff_iff, homB_iff, hom_iff hf hg hf']
  unfold caL
  rw [List.all_eq_true]
  constructor
  · intro h e he
    obtain ⟨i, hi, rfl⟩ := mem_ed he
    have := h _ (bsN_mem.2 ⟨i, hi, rfl⟩)
    rw [red_red (red_rd _)] at this
    exact lpB_wk.1 this
  · intro h w hw
    obtain ⟨i, hi, rfl⟩ := bsN_mem.1 hw
    rw [red_red (red_rd _)]
    exact lpB_wk.2 (h _ (ed_mem hi))
/-! ### Images -/
def imF (b : List Ed) (st : BS) (u : Int) : Int := match wf st u with
  | some w => (wk b 0 w).getD 0
  | none => 0
theorem imF_at {b : List Ed} {st : BS} {u c : Int} {w : List Int} (h : wf st u = some w) (h2 : wk b 0 w = some c) : imF b st u = c := by simp [imF, h, h2]
theorem imF_0 (b : List Ed) : imF b [(0, [])] = fun _ => 0 := by
  funext u
  unfold imF
  have : wf [(0, [])] u = if u = 0 then some [] else none := by
    have := wf_app (st := []) (t := 0) (w := []) (by simp [vxs]) u
    simpa [wf] using this
  rw [this]
  by_cases h : u = 0
  · rw [if_pos h]; rfl
  · rw [if_neg h]
theorem imF_app {b : List Ed} {st : BS} {t c : Int} {w : List Int} (h : t ∉ vxs st) (h2 : wk b 0 w = some c) : imF b (st ++ [(t, w)]) = fun u => if u = t then c else imF b st u := by
  funext u
  unfold imF
  rw [wf_app h]
  by_cases hu : u = t
  · rw [if_pos hu, if_pos hu]; simp [h2]
  · rw [if_neg hu, if_neg hu]
/-- What has been found so far: every word leads somewhere in the other graph, and every step that has been looked at agrees. -/
structure CSt (a b : List Ed) (ls : List Int) (i k : Nat) (st : BS) : Prop where
  rd : ∀ j, j < st.length → ∃ u, wk b 0 (bsa st j).2 = some u
  cs : ∀ j m, (j < i ∨ (j = i ∧ m < k)) → j < st.length → m < ls.length → 0 ≤ nx a (bsa st j).1 (ix ls m) →
    ∃ t, t < st.length ∧ (bsa st t).1 = nx a (bsa st j).1 (ix ls m) ∧ ∃ u, wk b 0 (bsa st j).2 = some u ∧ 0 ≤ nx b u (ix ls m) ∧ wk b 0 (bsa st t).2 = some (nx b u (ix ls m))
theorem CSt_0 (a b : List Ed) (ls : List Int) : CSt a b ls 0 0 [(0, [])] := ⟨fun j hj => by
    have : j = 0 := by simpa using hj
    subst this; exact ⟨0, rfl⟩, fun j m h => by omega⟩
theorem CSt.next {a b : List Ed} {ls : List Int} {i k : Nat} {st st' : BS} (h : CSt a b ls i k st) (hp : st <+: st') (hrd : ∀ j, st.length ≤ j → j < st'.length → ∃ u, wk b 0 (bsa st' j).2 = some u)
    (hi : i < st.length) (hs : k < ls.length → 0 ≤ nx a (bsa st i).1 (ix ls k) → ∃ t, t < st'.length ∧ (bsa st' t).1 = nx a (bsa st i).1 (ix ls k) ∧ ∃ u, wk b 0 (bsa st i).2 = some u ∧ 0 ≤ nx b u (ix ls k) ∧ wk b 0 (bsa st' t).2 = some (nx b u (ix ls k))) : CSt a b ls i (k + 1) st' := by
  have hl := pre_len hp
  refine ⟨fun j hj => ?_, fun j m hjm hj hm h0 => ?_⟩
  · rcases Nat.lt_or_ge j st.length with h1 | h1
    · rw [pre_bsa hp h1]; exact h.rd j h1
    · exact hrd j h1 hj
  · have hjst : j < st.length := by omega
    rw [pre_bsa hp hjst] at h0 ⊢
    by_cases hc : j < i ∨ (j = i ∧ m < k)
    · obtain ⟨t, h1, h2, u, h3, h4, h5⟩ := h.cs j m hc hjst hm h0
      exact ⟨t, by omega, by rw [pre_bsa hp h1]; exact h2, u, h3, h4, by rw [pre_bsa hp h1]; exact h5⟩
    · have hj2 : j = i := by omega
      have hm2 : m = k := by omega
      subst hj2; subst hm2
      exact hs hm h0
theorem CSt.turn {a b : List Ed} {ls : List Int} {i k : Nat} {st : BS} (h : CSt a b ls i k st) (hk : ls.length ≤ k) : CSt a b ls (i + 1) 0 st :=
  ⟨h.rd, fun j m hjm hj hm h0 => h.cs j m (by omega) hj hm h0⟩
theorem CSt.hom {r z : Int} {a b : List Ed} {i : Nat} (hf : isF r z a = true) (ha : allB r z a) (h : CSt a b (lts r.toNat) i 0 (bfs r z a 0)) (hi : (bfs r z a 0).length ≤ i) : Hom a b := by
  have hB := BF_bfs hf
  have hG := isF_g hf
  refine ⟨fun v => (wk b 0 (twd r z a v)).getD 0, ?_, fun v x hx => ?_⟩
  · have : twd r z a 0 = [] := by
      have := twd_at hf hB.pos
      rwa [hB.z0] at this
    simp only [this]
    rfl
  · have hv := nx_v hG hx
    have ht := (nx_in (v := v) (x := x) hG).2
    obtain ⟨j, hj, ej⟩ := ha v hv.1 hv.2.1
    obtain ⟨m, hm, em⟩ := List.mem_iff_getElem.1 (lts_mem (n := r.toNat) (x := x) |>.2 ⟨hv.2.2.2.2, by omega, by omega⟩)
    have em2 : ix (lts r.toNat) m = x := by simp [ix, hm, em]
    obtain ⟨t, h1, h2, u, h3, h4, h5⟩ := h.cs j m (by omega) hj hm (by rw [ej, em2]; exact hx)
    rw [ej, em2] at h2
    rw [em2] at h4 h5
    have e1 : wk b 0 (twd r z a v) = some u := by rw [← ej, twd_at hf hj]; exact h3
    have e2 : wk b 0 (twd r z a (nx a v x)) = some (nx b u x) := by rw [← h2, twd_at hf h1]; exact h5
    simp only [e1, e2, Option.getD_some]
    exact ⟨h4, trivial⟩
/-- Where a map would send an entry. -/
theorem hom_at {a b : List Ed} {f : Int → Int} {st : BS} (h0 : bsa st 0 = (0, [])) (hp : BP a st) (f0 : f 0 = 0) (h : ∀ v x, 0 ≤ nx a v x → 0 ≤ nx b (f v) x ∧ nx b (f v) x = f (nx a v x)) {j : Nat} (hj : j < st.length) {u : Int} (hu : wk b 0 (bsa st j).2 = some u) : u = f (bsa st j).1 := by
  have h1 := hom_wk h (wk_BP h0 hp (j + 1) j (by omega) hj)
  rw [f0, hu] at h1
  exact Option.some.inj h1
end Go.Proofs.Try
