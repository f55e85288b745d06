import Derived.Test.YtfgpcfdoahgkpaaK
import Derived.Test.YtfgpcfdoahgkpaaS
import Derived.Test.YtfgpcfdoahgkpaaN
set_option linter.unusedVariables false
set_option linter.unusedSimpArgs false
set_option linter.unnecessarySimpa false
/- Plain: words: products, inverses; where a word leads. -/
namespace Go.Proofs.Try
open Go Go.Eng
/-! ### Lists of words -/
def intss (ws : List (List Int)) : List (List El) := ws.map ints
def wx (ws : List (List Int)) (i : Nat) : List Int := ws.getD i []
theorem intssLen (ws : List (List Int)) : (intss ws).length = ws.length := by simp [intss]
theorem intssAt {ws : List (List Int)} {i : Nat} (h : i < ws.length) : (intss ws)[i]? = some (ints (wx ws i)) := by
  simp [intss, wx, h]
attribute [go_sem] intssLen intssAt
abbrev aW (ws : List (List Int)) : AV := .one (.imm2 (intss ws))
theorem wx_mem {ws : List (List Int)} {i : Nat} (h : i < ws.length) : wx ws i ∈ ws := by
  simp only [wx]
  rw [List.getD_eq_getElem?_getD, List.getElem?_eq_getElem h]
  simp
theorem exFlat {P : Nat → Nat → List El → Prop} {a b : Nat} {l : List El} : (∃ e k xs, (a = e ∧ b = k ∧ l = xs) ∧ P e k xs) ↔ P a b l := ⟨fun ⟨_, _, _, ⟨h1, h2, h3⟩, h⟩ => by subst h1; subst h2; subst h3; exact h, fun h => ⟨_, _, _, ⟨rfl, rfl, rfl⟩, h⟩⟩
/-! ### Reduced products -/
def inv2 (a b : Int) : Bool := decide (a ≠ 0 ∧ a ≠ -9223372036854775808 ∧ b = -a)
def rdS (out : List Int) (x : Int) : List Int := if 0 < out.length ∧ inv2 (ix out (out.length - 1)) x = true then out.take (out.length - 1) else out ++ [x]
def rdN (w out : List Int) (i : Nat) : List Int := (w.take i).foldl rdS out
theorem rdN_0 (w out : List Int) : rdN w out 0 = out := rfl
theorem rdN_s {w out : List Int} {i : Nat} (h : i < w.length) : rdN w out (i + 1) = rdS (rdN w out i) (ix w i) := by
  simp only [rdN]
  rw [List.take_add_one, List.foldl_append]
  simp [ix, h]
theorem rdN_all (w out : List Int) : rdN w out w.length = w.foldl rdS out := by simp [rdN]
def red (w : List Int) : List Int := w.foldl rdS []
def prN (ws : List (List Int)) (i : Nat) : List Int := (ws.take i).flatten.foldl rdS []
theorem prN_s {ws : List (List Int)} {i : Nat} (h : i < ws.length) : prN ws (i + 1) = rdN (wx ws i) (prN ws i) (wx ws i).length := by
  simp only [prN]
  rw [rdN_all, List.take_add_one, List.flatten_append, List.foldl_append]
  simp [wx, h]
theorem prN_0 (ws : List (List Int)) : prN ws 0 = [] := rfl
theorem prN_all (ws : List (List Int)) : prN ws ws.length = red ws.flatten := by simp [prN, red]
theorem rdS_len (out : List Int) (x : Int) : (rdS out x).length ≤ out.length + 1 := by
  unfold rdS; split
  · rw [List.length_take]; omega
  · simp
theorem rdF_len (w : List Int) : ∀ out : List Int, (w.foldl rdS out).length ≤ out.length + w.length := by
  induction w with
  | nil => intro out; simp
  | cons x r ih => intro out; have := ih (rdS out x); have := rdS_len out x; simp only [List.foldl_cons, List.length_cons]; omega
theorem rdN_len (w out : List Int) (i : Nat) : (rdN w out i).length ≤ out.length + i := by
  have := rdF_len (w.take i) out
  have h : (w.take i).length ≤ i := List.length_take_le ..
  simp only [rdN]; omega
theorem red_len (w : List Int) : (red w).length ≤ w.length := by simpa [red] using rdF_len w []
theorem rdF_mem {w : List Int} {x : Int} : ∀ {out : List Int}, x ∈ w.foldl rdS out → x ∈ out ∨ x ∈ w := by
  induction w with
  | nil => intro out h; exact .inl h
  | cons y r ih =>
    intro out h
    rcases ih h with h | h
    · unfold rdS at h
      split at h
      · exact .inl (List.mem_of_mem_take h)
      · rcases List.mem_append.1 h with h | h
        · exact .inl h
        · exact .inr (by simp at h; simp [h])
    · exact .inr (List.mem_cons_of_mem _ h)
theorem red_mem {w : List Int} {x : Int} (h : x ∈ red w) : x ∈ w := by
  rcases rdF_mem h with h | h
  · cases h
  · exact h
theorem rdN_mem {w out : List Int} {i : Nat} (h1 : ∀ x ∈ out, rg x) (h2 : ∀ x ∈ w, rg x) : ∀ x ∈ rdN w out i, rg x := fun x hx => by
  rcases rdF_mem hx with h | h
  · exact h1 x h
  · exact h2 x (List.mem_of_mem_take h)
theorem prN_len {ws : List (List Int)} {M : Nat} (h : ∀ i, i < ws.length → (wx ws i).length ≤ M) : ∀ i, i ≤ ws.length → (prN ws i).length ≤ i * M
  | 0, _ => by simp [prN]
  | i + 1, hi => by
    have ih := prN_len h i (by omega)
    have h1 := rdN_len (wx ws i) (prN ws i) (wx ws i).length
    have h2 := h i (by omega)
    rw [prN_s (by omega), Nat.succ_mul]
    omega
theorem prN_mem {ws : List (List Int)} (h : ∀ w ∈ ws, ∀ x ∈ w, rg x) {i : Nat} : ∀ x ∈ prN ws i, rg x := fun x hx => by
  rcases rdF_mem hx with h1 | h1
  · cases h1
  · obtain ⟨w, hw, hx⟩ := List.mem_flatten.1 h1
    exact h w (List.mem_of_mem_take hw) x hx
theorem rdS_cut {R : List Int} {x : Int} (h0 : 0 < R.length) (h : inv2 (ix R (R.length - 1)) x = true) : rdS R x = R.take (R.length - 1) := by
  unfold rdS; rw [if_pos ⟨h0, h⟩]
theorem rdS_put {R : List Int} {x : Int} (h : ¬ (0 < R.length ∧ inv2 (ix R (R.length - 1)) x = true)) : rdS R x = R ++ [x] := by
  unfold rdS; rw [if_neg h]
/-- No two neighbours are inverse. -/
def isRd (w : List Int) : Prop := ∀ i, i + 1 < w.length → inv2 (ix w i) (ix w (i + 1)) = false
theorem ix_app {a b : List Int} {i : Nat} (h : i < a.length) : ix (a ++ b) i = ix a i := by
  simp [ix, List.getElem?_append_left h]
theorem ix_app2 {a b : List Int} {i : Nat} (h : a.length ≤ i) : ix (a ++ b) i = ix b (i - a.length) := by
  simp [ix, List.getElem?_append_right h]
theorem ix_take {a : List Int} {i n : Nat} (h : i < n) : ix (a.take n) i = ix a i := by
  simp [ix, List.getElem?_take_of_lt h]
theorem rdS_rd {out : List Int} {x : Int} (h : isRd out) : isRd (rdS out x) := by
  unfold rdS
  split
  · intro i hi
    rw [List.length_take] at hi
    rw [ix_take (by omega), ix_take (by omega)]
    exact h i (by omega)
  · rename_i hc
    intro i hi
    rw [List.length_append, List.length_singleton] at hi
    rw [ix_app (by omega)]
    rcases Nat.lt_or_ge (i + 1) out.length with h1 | h1
    · rw [ix_app h1]; exact h i h1
    · rw [ix_app2 h1, show i + 1 - out.length = 0 by omega]
      have : i = out.length - 1 := by omega
      subst this
      rw [← Bool.not_eq_true]
      intro h2
      exact hc ⟨by omega, by simpa [ix] using h2⟩
theorem red_rd (w : List Int) : isRd (red w) := by
  suffices H : ∀ out : List Int, isRd out → isRd (w.foldl rdS out) from H [] (fun i hi => by simp at hi)
  induction w with
  | nil => intro out h; exact h
  | cons x r ih => intro out h; exact ih _ (rdS_rd h)
theorem rd_fix {w : List Int} (h : isRd w) : ∀ i, i ≤ w.length → rdN w [] i = w.take i
  | 0, _ => by simp [rdN]
  | i + 1, hi => by
    rw [rdN_s (by omega), rd_fix h i (by omega)]
    unfold rdS
    rw [if_neg, List.take_add_one]
    · simp [ix, show i < w.length by omega]
    · rintro ⟨h1, h2⟩
      rw [List.length_take] at h1 h2
      rw [show min i w.length - 1 = i - 1 by omega, ix_take (by omega)] at h2
      have := h (i - 1) (by omega)
      rw [show i - 1 + 1 = i by omega, h2] at this
      cases this
theorem red_red {w : List Int} (h : isRd w) : red w = w := by
  have := rd_fix h w.length (Nat.le_refl _)
  rw [rdN_all] at this
  simpa [red] using this
theorem red_app (a b : List Int) : red (red a ++ b) = red (a ++ b) := by
  have h1 : red (a ++ b) = b.foldl rdS (red a) := by simp [red]
  have h2 : red (red a ++ b) = b.foldl rdS (red (red a)) := by simp [red]
  rw [h1, h2, red_red (red_rd a)]
/-! ### Inverses -/
def ngI (x : Int) : Int := w64 (-x)
def ivN (w : List Int) : Nat → List Int
  | 0 => []
  | k + 1 => ivN w k ++ [ngI (ix w (w.length - 1 - k))]
theorem ivN_len (w : List Int) (k : Nat) : (ivN w k).length = k := by
  induction k with
  | zero => rfl
  | succ k ih => simp [ivN, ih]
def ivW (w : List Int) : List Int := ivN w w.length
theorem ivW_len (w : List Int) : (ivW w).length = w.length := ivN_len ..
/-! ### Where a word leads -/
def vN (es : List Ed) (v : Int) (w : List Int) : Nat → Int
  | 0 => v
  | i + 1 => nx es (vN es v w i) (ix w i)
def rdk (es : List Ed) (v : Int) (w : List Int) : Nat → Nat
  | 0 => 0
  | n + 1 => if rdk es v w n = n ∧ 0 ≤ nx es (vN es v w n) (ix w n) then n + 1 else rdk es v w n
def rdL (es : List Ed) (v : Int) (w : List Int) : Nat := rdk es v w w.length
theorem rdk_le (es : List Ed) (v : Int) (w : List Int) (n : Nat) : rdk es v w n ≤ n := by
  induction n with
  | zero => simp [rdk]
  | succ n ih => unfold rdk; split <;> omega
theorem rdk_go {es : List Ed} {v : Int} {w : List Int} {n : Nat} (h : rdk es v w n = n) (h2 : 0 ≤ nx es (vN es v w n) (ix w n)) : rdk es v w (n + 1) = n + 1 := by
  unfold rdk; rw [if_pos ⟨h, h2⟩]
theorem rdk_stop {es : List Ed} {v : Int} {w : List Int} {n : Nat} (h : rdk es v w n = n) (h2 : nx es (vN es v w n) (ix w n) < 0) : ∀ k, rdk es v w (n + 1 + k) = n
  | 0 => by show rdk es v w (n + 1) = n; unfold rdk; rw [if_neg (by omega)]; exact h
  | k + 1 => by
    have ih := rdk_stop h h2 k
    show rdk es v w (n + 1 + k + 1) = n
    unfold rdk
    rw [ih, if_neg (by omega)]
theorem rdL_stop {es : List Ed} {v : Int} {w : List Int} {n : Nat} (hn : n < w.length) (h : rdk es v w n = n) (h2 : nx es (vN es v w n) (ix w n) < 0) : rdL es v w = n := by
  have := rdk_stop h h2 (w.length - (n + 1))
  rw [← this, rdL]
  congr 1; omega
theorem rdL_le (es : List Ed) (v : Int) (w : List Int) : rdL es v w ≤ w.length := rdk_le ..
theorem rdk_mono {es : List Ed} {v : Int} {w : List Int} {n : Nat} (h : rdk es v w n = n) : ∀ k, k ≤ n → rdk es v w k = k := by
  induction n with
  | zero => intro k hk; have : k = 0 := by omega
            subst this; rfl
  | succ n ih =>
    unfold rdk at h
    split at h
    · rename_i hc
      intro k hk
      rcases Nat.lt_or_ge k (n + 1) with h1 | h1
      · exact ih hc.1 k (by omega)
      · have : k = n + 1 := by omega
        subst this
        unfold rdk; rw [if_pos hc]
    · have := rdk_le es v w n; omega
theorem vN_in {r z : Int} {es : List Ed} {v : Int} {w : List Int} (hg : isG r z es = true) (hv : 0 ≤ v ∧ v < z) {n : Nat} (h : rdk es v w n = n) : 0 ≤ vN es v w n ∧ vN es v w n < z := by
  cases n with
  | zero => exact hv
  | succ n =>
    unfold rdk at h
    split at h
    · rename_i hc
      exact ⟨hc.2, (nx_in hg).2⟩
    · have := rdk_le es v w n; omega
theorem rdL_at (es : List Ed) (v : Int) (w : List Int) : rdk es v w (rdL es v w) = rdL es v w := by
  suffices H : ∀ n, rdk es v w (rdk es v w n) = rdk es v w n from H _
  intro n
  induction n with
  | zero => rfl
  | succ n ih =>
    by_cases h : rdk es v w n = n ∧ 0 ≤ nx es (vN es v w n) (ix w n)
    · have h1 := rdk_go h.1 h.2
      rw [h1, h1]
    · have h1 : rdk es v w (n + 1) = rdk es v w n := by rw [rdk, if_neg h]
      rw [h1]; exact ih
end Go.Proofs.Try
/- Plain: the edges of the search's tree; the other edges. -/
namespace Go.Proofs.Try
open Go Go.Eng
/-- The edge through which the search found entry j: by the last letter of its word, backwards. -/
def lastI (w : List Int) : Int := ix w (w.length - 1)
def tE (es : List Ed) (p : Int × List Int) : Ed := stE (nx es p.1 (-lastI p.2)) (lastI p.2) p.1
def teN (es : List Ed) (st : BS) : Nat → List Ed
  | 0 => []
  | j + 1 => teN es st j ++ [tE es (bsa st (j + 1))]
def teL (es : List Ed) (st : BS) : List Ed := teN es st (st.length - 1)
theorem teN_len (es : List Ed) (st : BS) (j : Nat) : (teN es st j).length = j := by
  induction j with
  | zero => rfl
  | succ j ih => simp [teN, ih]
theorem teN_app {es : List Ed} {st : BS} {q : Int × List Int} : ∀ {j : Nat}, j + 1 ≤ st.length → teN es (st ++ [q]) j = teN es st j
  | 0, _ => rfl
  | j + 1, h => by
    simp only [teN]
    rw [teN_app (by omega), bsa_app (by omega)]
theorem teL_app {es : List Ed} {st : BS} {q : Int × List Int} (h : 0 < st.length) : teL es (st ++ [q]) = teL es st ++ [tE es q] := by
  unfold teL
  rw [List.length_append, List.length_singleton, show st.length + 1 - 1 = (st.length - 1) + 1 by omega]
  simp only [teN]
  rw [teN_app (by omega), show st.length - 1 + 1 = st.length by omega]
  congr 2
  simp [bsa]
theorem lastI_app (w : List Int) (x : Int) : lastI (w ++ [x]) = x := by simp [lastI, ix]
theorem tE_step {r z : Int} {es : List Ed} {u x : Int} {w : List Int} (hf : isF r z es = true) (h : 0 ≤ nx es u x) : tE es (nx es u x, w ++ [x]) = stE u x (nx es u x) := by
  unfold tE
  simp only [lastI_app]
  rw [nx_back hf h]
/-- The tree's edges in order, of a folded graph. -/
def treeL (r z : Int) (es : List Ed) : List Ed := if isF r z es then norm (teL es (bfs r z es 0)) else []
theorem treeL_no {r z : Int} {es : List Ed} (h : isF r z es = false) : treeL r z es = [] := by simp [treeL, h]
theorem treeL_yes {r z : Int} {es : List Ed} (h : isF r z es = true) : treeL r z es = norm (teL es (bfs r z es 0)) := by simp [treeL, h]
theorem treeL_len {r z : Int} {es : List Ed} : (treeL r z es).length ≤ 40 := by
  cases h : isF r z es
  · rw [treeL_no h]; simp
  · rw [treeL_yes h]
    have hz := isG_z (isF_g h)
    have h1 := norm_len (teL es (bfs r z es 0))
    have h2 := teN_len es (bfs r z es 0) ((bfs r z es 0).length - 1)
    have h3 := bfs_len (v := 0) (isF_g h) (by omega)
    simp only [teL] at h1 ⊢
    omega
def xtN (es ts : List Ed) : Nat → List Ed
  | 0 => []
  | i + 1 => if ed es i ∈ ts then xtN es ts i else xtN es ts i ++ [ed es i]
theorem xtN_len (es ts : List Ed) (i : Nat) : (xtN es ts i).length ≤ i := by
  induction i with
  | zero => simp [xtN]
  | succ i ih =>
    unfold xtN
    split
    · omega
    · simp only [List.length_append, List.length_cons, List.length_nil]; omega
def extL (r z : Int) (es : List Ed) : List Ed := if isF r z es then xtN es (treeL r z es) es.length else []
theorem extL_no {r z : Int} {es : List Ed} (h : isF r z es = false) : extL r z es = [] := by simp [extL, h]
theorem extL_yes {r z : Int} {es : List Ed} (h : isF r z es = true) : extL r z es = xtN es (treeL r z es) es.length := by simp [extL, h]
theorem extL_len {r z : Int} {es : List Ed} : (extL r z es).length ≤ 120 := by
  cases h : isF r z es
  · rw [extL_no h]; simp
  · rw [extL_yes h]
    have hz := isG_z (isF_g h)
    have := xtN_len es (treeL r z es) es.length
    omega
/-- A word of the search is made of letters. -/
structure BL (r : Int) (st : BS) : Prop where
  let_ : ∀ i, i < st.length → ∀ x ∈ (bsa st i).2, -r ≤ x ∧ x ≤ r ∧ x ≠ 0
  ne : ∀ i, 0 < i → i < st.length → (bsa st i).2 ≠ []
theorem BL_0 (r v : Int) : BL r [(v, [])] := ⟨fun i hi x hx => by have : i = 0 := by simpa using hi
                                                                  subst this; simp [bsa] at hx, fun i h0 hi => by simp at hi; omega⟩
theorem BL_step {r z : Int} {es : List Ed} {x : Int} {st : BS} {i : Nat} (hg : isG r z es = true) (h : BL r st) (hi : i < st.length) : BL r (bStep es (bsa st i) x st) := by
  unfold bStep
  split
  · rename_i hc
    have hx := nx_v hg hc.1
    refine ⟨fun j hj y hy => ?_, fun j h0 hj => ?_⟩
    · rcases Nat.lt_or_ge j st.length with h1 | h1
      · rw [bsa_app h1] at hy; exact h.let_ j h1 y hy
      · have : j = st.length := by simp at hj; omega
        subst this
        simp [bsa] at hy
        rcases hy with hy | rfl
        · exact h.let_ i hi y (by simpa [bsa] using hy)
        · exact ⟨hx.2.2.1, hx.2.2.2.1, hx.2.2.2.2⟩
    · rcases Nat.lt_or_ge j st.length with h1 | h1
      · rw [bsa_app h1]; exact h.ne j h0 h1
      · have : j = st.length := by simp at hj; omega
        subst this
        simp [bsa]
  · exact h
theorem BL_in {r z : Int} {es : List Ed} {ls : List Int} {v : Int} {st : BS} {i : Nat} (hg : isG r z es = true) (hB : BI r z es v st) (h : BL r st) (hi : i < st.length) (k : Nat) : BL r (bIn es ls (bsa st i) st k) := by
  induction k with
  | zero => exact h
  | succ k ih =>
    have h1 := BI_in (ls := ls) hg hB hi k
    have := BL_step (x := ix ls k) hg ih (i := i) (by omega)
    rw [h1.2.1] at this
    exact this
theorem BL_out {r z : Int} {es : List Ed} {ls : List Int} {v : Int} (hg : isG r z es = true) (hv : 0 ≤ v ∧ v < z) (n : Nat) : BL r (bOut es ls v n) := by
  induction n with
  | zero => exact BL_0 r v
  | succ n ih =>
    unfold bOut
    split
    · rename_i h; exact BL_in hg (BI_out hg hv n) ih h _
    · exact ih
theorem lastI_let {r : Int} {st : BS} (h : BL r st) {i : Nat} (h0 : 0 < i) (hi : i < st.length) : -r ≤ lastI (bsa st i).2 ∧ lastI (bsa st i).2 ≤ r ∧ lastI (bsa st i).2 ≠ 0 := by
  have hne := h.ne i h0 hi
  have : 0 < (bsa st i).2.length := List.length_pos_iff.2 hne
  exact h.let_ i hi _ (ix_mem (by omega))
theorem pw_rg {r z : Int} {es : List Ed} {u v : Int} : ∀ x ∈ pw r z es u v, rg x := by
  unfold pw
  by_cases h : isF r z es = true ∧ 0 ≤ u ∧ u < z ∧ 0 ≤ v ∧ v < z
  · have hG := isF_g h.1
    have hz := isG_z hG
    rw [pwO_yes h]
    cases hw : wf (bfs r z es u) v with
    | none => simp
    | some w =>
      have hm := wf_mem hw
      obtain ⟨i, hi, he⟩ := List.mem_iff_getElem.1 hm
      have hL : BL r (bfs r z es u) := BL_out hG ⟨h.2.1, h.2.2.1⟩ _
      intro x hx
      have := hL.let_ i hi x (by simp [bsa, hi, he]; exact hx)
      unfold rg; omega
  · rw [pwO_no h]; simp
theorem w64_rg (x : Int) : rg (w64 x) := by
  unfold rg w64
  rw [IntKind.wrap_i64]
  omega
theorem ivN_rg {w : List Int} : ∀ {k : Nat}, ∀ x ∈ ivN w k, rg x
  | 0, x, h => by cases h
  | k + 1, x, h => by
    simp only [ivN, List.mem_append, List.mem_singleton] at h
    rcases h with h | rfl
    · exact ivN_rg x h
    · exact w64_rg _
theorem ivW_rg {w : List Int} : ∀ x ∈ ivW w, rg x := ivN_rg
end Go.Proofs.Try
