import Derived.Test.YtfapjflogjblaaaC
set_option linter.unusedVariables false
set_option linter.unusedSimpArgs false
set_option linter.unnecessarySimpa false
namespace Go.Proofs.Try
open Go Go.Eng
set_option linter.unnecessarySimpa false
set_option linter.unusedSimpArgs false
set_option maxHeartbeats 4000000
/-! ### Words as partial maps of the vertices -/
def wk (es : List Ed) : Int → List Int → Option Int
  | v, [] => some v
  | v, x :: w => if 0 ≤ nx es v x then wk es (nx es v x) w else none
theorem wk_app {es : List Ed} {b : List Int} : ∀ {a : List Int} {v : Int}, wk es v (a ++ b) = (wk es v a).bind fun u => wk es u b
  | [], v => rfl
  | x :: a, v => by
    simp only [List.cons_append, wk]
    split
    · exact wk_app
    · rfl
theorem wk_one {es : List Ed} {v x : Int} : wk es v [x] = if 0 ≤ nx es v x then some (nx es v x) else none := rfl
theorem wk_snoc {es : List Ed} {w : List Int} {v x u : Int} : wk es v (w ++ [x]) = some u ↔ ∃ t, wk es v w = some t ∧ 0 ≤ nx es t x ∧ u = nx es t x := by
  rw [wk_app]
  cases wk es v w with
  | none => simp
  | some t =>
    simp only [Option.bind_some, wk_one]
    split
    · constructor
      · intro h; exact ⟨t, rfl, by assumption, (Option.some.inj h).symm⟩
      · rintro ⟨t', h1, h2, h3⟩; rw [h3, ← Option.some.inj h1]
    · constructor
      · intro h; exact absurd h (by simp)
      · rintro ⟨t', h1, h2, h3⟩; rw [← Option.some.inj h1] at h2; omega
/-- Backwards: in a folded graph the inverse word leads back. -/
theorem wk_back {r z : Int} {es : List Ed} (hf : isF r z es = true) : ∀ {w : List Int} {v u : Int}, wk es v w = some u → wk es u (w.reverse.map fun x => -x) = some v
  | [], v, u, h => by cases h; rfl
  | x :: w, v, u, h => by
    simp only [wk] at h
    split at h
    · rename_i hc
      rw [List.reverse_cons, List.map_append, wk_app, wk_back hf h]
      have hb := nx_back hf hc
      have hv := nx_v (isF_g hf) hc
      show (if 0 ≤ nx es (nx es v x) (-x) then some (nx es (nx es v x) (-x)) else none) = some v
      rw [hb, if_pos hv.1]
    · exact absurd h (by simp)
theorem cut_last {l : List Int} (h : 0 < l.length) : l = l.take (l.length - 1) ++ [ix l (l.length - 1)] := by
  have h1 := List.take_add_one (l := l) (i := l.length - 1)
  rw [show l.length - 1 + 1 = l.length by omega, List.take_length] at h1
  simpa [ix, show l.length - 1 < l.length by omega] using h1
/-- Reading is not changed by reducing. -/
theorem wk_fold {r z : Int} {es : List Ed} (hf : isF r z es = true) : ∀ {w out : List Int} {v u : Int}, wk es v (out ++ w) = some u → wk es v (w.foldl rdS out) = some u
  | [], out, v, u, h => by simpa using h
  | x :: w, out, v, u, h => by
    rw [List.foldl_cons]
    refine wk_fold hf ?_
    unfold rdS
    split
    · rename_i hc
      have hi := hc.2
      simp only [inv2, decide_eq_true_eq] at hi
      rw [cut_last hc.1, List.append_assoc, wk_app] at h
      rw [wk_app]
      cases ht : wk es v (out.take (out.length - 1)) with
      | none => rw [ht] at h; exact absurd h (by simp)
      | some t =>
        rw [ht] at h
        simp only [Option.bind_some, List.singleton_append, wk] at h ⊢
        split at h
        · rename_i h1
          rw [hi.2.2, nx_back hf h1] at h
          split at h
          · exact h
          · exact absurd h (by simp)
        · exact absurd h (by simp)
    · rw [List.append_assoc]; exact h
theorem wk_red {r z : Int} {es : List Ed} (hf : isF r z es = true) {w : List Int} {v u : Int} (h : wk es v w = some u) : wk es v (red w) = some u := wk_fold hf (out := []) h
theorem wk_in {r z : Int} {es : List Ed} (hg : isG r z es = true) : ∀ {w : List Int} {v u : Int}, (0 ≤ v ∧ v < z) → wk es v w = some u → 0 ≤ u ∧ u < z
  | [], v, u, hv, h => by cases h; exact hv
  | x :: w, v, u, hv, h => by
    simp only [wk] at h
    split at h
    · rename_i hc
      exact wk_in hg ⟨hc, (nx_in hg).2⟩ h
    · exact absurd h (by simp)
/-- The tree's word leads to its vertex. -/
theorem wk_BP {es : List Ed} {st : BS} {v : Int} (h0 : bsa st 0 = (v, [])) (h : BP es st) : ∀ n j, j < n → j < st.length → wk es v (bsa st j).2 = some (bsa st j).1
  | 0, j, hn, _ => absurd hn (by omega)
  | n + 1, j, hn, hj => by
    rcases Nat.eq_zero_or_pos j with h1 | h1
    · subst h1; rw [h0]; rfl
    · obtain ⟨i, x, h2, h3, h4⟩ := h j h1 hj
      rw [h4]
      exact wk_snoc.2 ⟨_, wk_BP h0 h n i (by omega) (by omega), h3, rfl⟩
end Go.Proofs.Try
/- Plain: the tail at the base; the base moved in graphs without leaves; reachability under new numbers. -/
namespace Go.Proofs.Try
open Go Go.Eng
/-! ### The first letter that leads on -/
def fxN (es : List Ed) (v : Int) (ls : List Int) : Nat → Int
  | 0 => 0
  | k + 1 => if fxN es v ls k ≠ 0 then fxN es v ls k else if 0 ≤ nx es v (ix ls k) then ix ls k else 0
theorem fxN_keep {es : List Ed} {v : Int} {ls : List Int} {n : Nat} (h : fxN es v ls n ≠ 0) : ∀ k, fxN es v ls (n + k) = fxN es v ls n
  | 0 => rfl
  | k + 1 => by
    have ih := fxN_keep h k
    show fxN es v ls (n + k + 1) = _
    rw [fxN, ih, if_pos h]
def fx (r : Int) (es : List Ed) (v : Int) : Int := fxN es v (lts r.toNat) (lts r.toNat).length
theorem fx_at {r : Int} {es : List Ed} {v : Int} {k : Nat} (hk : k < (lts r.toNat).length) (h : fxN es v (lts r.toNat) k = 0) (h2 : 0 ≤ nx es v (ix (lts r.toNat) k)) (h3 : ix (lts r.toNat) k ≠ 0) : fx r es v = ix (lts r.toNat) k := by
  have h4 : fxN es v (lts r.toNat) (k + 1) = ix (lts r.toNat) k := by rw [fxN, if_neg (by omega), if_pos h2]
  have := fxN_keep (n := k + 1) (es := es) (v := v) (ls := lts r.toNat) (by omega) ((lts r.toNat).length - (k + 1))
  rw [show k + 1 + ((lts r.toNat).length - (k + 1)) = (lts r.toNat).length by omega] at this
  rw [fx, this, h4]
theorem fxN_next {es : List Ed} {v : Int} {ls : List Int} {k : Nat} (h : fxN es v ls k = 0) (h2 : nx es v (ix ls k) < 0) : fxN es v ls (k + 1) = 0 := by
  rw [fxN, if_neg (by omega), if_neg (by omega)]
theorem fxN_no {es : List Ed} {v : Int} {ls : List Int} : ∀ {n : Nat}, fxN es v ls n = 0 → ∀ k, k < n → ix ls k ≠ 0 → nx es v (ix ls k) < 0
  | 0, _, k, hk, _ => by omega
  | n + 1, h, k, hk, h0 => by
    unfold fxN at h
    by_cases h1 : fxN es v ls n = 0
    · rw [if_neg (by omega)] at h
      rcases Nat.lt_or_ge k n with h2 | h2
      · exact fxN_no h1 k h2 h0
      · have : k = n := by omega
        subst this
        split at h
        · exact (h0 h).elim
        · omega
    · rw [if_pos h1] at h; exact (h1 h).elim
theorem cnt_pos {es : List Ed} {v : Int} : 0 < deg es v ↔ ∃ e ∈ es, e.1 = v ∨ e.2.2 = v := by
  rw [deg_cnt]
  unfold cnt
  constructor
  · intro h
    rcases (show 0 < (es.countP fun e => decide (e.1 = v)) ∨ 0 < (es.countP fun e => decide (e.2.2 = v)) by omega) with h1 | h1
    · obtain ⟨e, he, h2⟩ := List.countP_pos_iff.1 h1
      exact ⟨e, he, .inl (by simpa using h2)⟩
    · obtain ⟨e, he, h2⟩ := List.countP_pos_iff.1 h1
      exact ⟨e, he, .inr (by simpa using h2)⟩
  · rintro ⟨e, he, h | h⟩
    · have : 0 < (es.countP fun e => decide (e.1 = v)) := List.countP_pos_iff.2 ⟨e, he, by simpa using h⟩
      omega
    · have : 0 < (es.countP fun e => decide (e.2.2 = v)) := List.countP_pos_iff.2 ⟨e, he, by simpa using h⟩
      omega
theorem deg_nx {r z : Int} {es : List Ed} {v : Int} (hf : isF r z es = true) (h : 0 < deg es v) : ∃ x, 0 ≤ nx es v x := by
  obtain ⟨e, he, h⟩ := cnt_pos.1 h
  have h1 := edge_nx hf he
  have h2 := (isG_iff.1 (isF_g hf)).2.2 _ he
  unfold inR at h2
  rcases h with h | h
  · exact ⟨e.2.1, by rw [← h, h1.1]; omega⟩
  · exact ⟨-e.2.1, by rw [← h, h1.2]; omega⟩
theorem fx_has {r z : Int} {es : List Ed} {v : Int} (hf : isF r z es = true) (h : 0 < deg es v) : fx r es v ≠ 0 := by
  intro h0
  obtain ⟨x, hx⟩ := deg_nx hf h
  have h1 := nx_v (isF_g hf) hx
  obtain ⟨j, hj, he⟩ := List.mem_iff_getElem.1 (lts_mem (n := r.toNat) (x := x) |>.2 ⟨h1.2.2.2.2, by omega, by omega⟩)
  have he2 : ix (lts r.toNat) j = x := by simp [ix, hj, he]
  have := fxN_no h0 j hj (by rw [he2]; exact h1.2.2.2.2)
  rw [he2] at this
  omega
theorem deg_loop {es : List Ed} {v x : Int} (h : 0 ≤ nx es v x) (h2 : nx es v x = v) : 2 ≤ deg es v := by
  obtain ⟨_, he⟩ := nx_edge h
  rw [h2] at he
  have hm : ∃ y, (v, y, v) ∈ es := by
    split at he
    · exact ⟨_, he⟩
    · exact ⟨_, he⟩
  obtain ⟨y, hy⟩ := hm
  rw [deg_cnt]
  unfold cnt
  have h3 : 0 < (es.countP fun e => decide (e.1 = v)) := List.countP_pos_iff.2 ⟨_, hy, by simp⟩
  have h4 : 0 < (es.countP fun e => decide (e.2.2 = v)) := List.countP_pos_iff.2 ⟨_, hy, by simp⟩
  omega
/-! ### Along the tail -/
def cyOn (g : Gr) : Prop := 1 < g.z ∧ deg g.es 0 = 1
instance (g : Gr) : Decidable (cyOn g) := inferInstanceAs (Decidable (_ ∧ _))
noncomputable def cyN (g : Gr) : Nat → Gr × List Int
  | 0 => (g, [])
  | i + 1 => if cyOn (cyN g i).1 then (movG (cyN g i).1 (nx (cyN g i).1.es 0 (fx (cyN g i).1.r (cyN g i).1.es 0)), (cyN g i).2 ++ [fx (cyN g i).1.r (cyN g i).1.es 0]) else cyN g i
theorem cyN_stop {g : Gr} {i : Nat} (h : ¬ cyOn (cyN g i).1) : ∀ k, cyN g (i + k) = cyN g i
  | 0 => rfl
  | k + 1 => by
    have ih := cyN_stop h k
    show cyN g (i + k + 1) = _
    rw [cyN, ih, if_neg h]
theorem cyN_on {g : Gr} {i : Nat} (h : cyOn (cyN g i).1) : cyN g (i + 1) = (movG (cyN g i).1 (nx (cyN g i).1.es 0 (fx (cyN g i).1.r (cyN g i).1.es 0)), (cyN g i).2 ++ [fx (cyN g i).1.r (cyN g i).1.es 0]) := by
  rw [cyN, if_pos h]
theorem fx_nx {r z : Int} {es : List Ed} (hf : isF r z es = true) (hd : deg es 0 = 1) : 0 < nx es 0 (fx r es 0) ∧ nx es 0 (fx r es 0) < z ∧ -r ≤ fx r es 0 ∧ fx r es 0 ≤ r ∧ fx r es 0 ≠ 0 := by
  have h0 := fx_has hf (v := 0) (by omega)
  have h1 : 0 ≤ nx es 0 (fx r es 0) := by
    suffices H : ∀ n, fxN es 0 (lts r.toNat) n ≠ 0 → 0 ≤ nx es 0 (fxN es 0 (lts r.toNat) n) from H _ h0
    intro n
    induction n with
    | zero => intro h; exact (h rfl).elim
    | succ n ih =>
      intro h
      unfold fxN at h ⊢
      by_cases h2 : fxN es 0 (lts r.toNat) n ≠ 0
      · rw [if_pos h2]; exact ih h2
      · rw [if_neg h2] at h ⊢
        split
        · assumption
        · rename_i h3; rw [if_neg h3] at h; exact (h rfl).elim
  have h2 := nx_v (isF_g hf) h1
  have h3 := (nx_in (v := 0) (x := fx r es 0) (isF_g hf)).2
  refine ⟨?_, h3, h2.2.2.1, h2.2.2.2.1, h0⟩
  rcases (show nx es 0 (fx r es 0) = 0 ∨ 0 < nx es 0 (fx r es 0) by omega) with h4 | h4
  · have := deg_loop h1 h4; omega
  · exact h4
theorem cyN_ok {g : Gr} (h : isF g.r g.z g.es = true) : ∀ i, isF (cyN g i).1.r (cyN g i).1.z (cyN g i).1.es = true ∧ (cyN g i).1.z ≤ g.z ∧ (cyN g i).2.length ≤ i ∧ (∀ x ∈ (cyN g i).2, -3 ≤ x ∧ x ≤ 3) ∧ (cyOn (cyN g i).1 → (cyN g i).1.z + i ≤ g.z)
  | 0 => ⟨h, Int.le_refl _, by simp [cyN], by simp [cyN], fun _ => by simp [cyN]⟩
  | i + 1 => by
    obtain ⟨h1, h2, h3, h4, h5⟩ := cyN_ok h i
    by_cases hc : cyOn (cyN g i).1
    · rw [cyN_on hc]
      have hz := isG_z (isF_g h1)
      have hn := fx_nx h1 hc.2
      have hm := movG_less (v := nx (cyN g i).1.es 0 (fx (cyN g i).1.r (cyN g i).1.es 0)) h1 ⟨hn.1, hn.2.1⟩ (by have := hc.2; omega)
      have hm : (movG (cyN g i).1 (nx (cyN g i).1.es 0 (fx (cyN g i).1.r (cyN g i).1.es 0))).z < (cyN g i).1.z := hm
      have h6 := h5 hc
      refine ⟨movG_F h1, by show (movG _ _).z ≤ g.z; omega, ?_, ?_, fun _ => ?_⟩
      · simp only [List.length_append, List.length_cons, List.length_nil]; omega
      · intro x hx
        rcases List.mem_append.1 hx with hx | hx
        · exact h4 x hx
        · rw [List.mem_singleton] at hx; subst hx; omega
      · show (movG _ _).z + ((i + 1 : Nat) : Int) ≤ g.z
        omega
    · have : cyN g (i + 1) = cyN g i := cyN_stop hc 1
      rw [this]
      exact ⟨h1, h2, by omega, h4, fun h6 => (hc h6).elim⟩
theorem cyN_lt {g : Gr} (h : isF g.r g.z g.es = true) {i : Nat} (hc : cyOn (cyN g i).1) : i < 39 := by
  have h1 := (cyN_ok h i).2.2.2.2 hc
  have hz := isG_z (isF_g h)
  have := hc.1
  omega
noncomputable def cyG (g : Gr) : Gr × List Int := if isC g.r g.z g.es = true then cyN g 40 else (g, [])
theorem cyG_at {g : Gr} (h : isC g.r g.z g.es = true) {i : Nat} (hc : ¬ cyOn (cyN g i).1) (hi : i ≤ 40) : cyG g = cyN g i := by
  unfold cyG
  rw [if_pos h, ← cyN_stop hc (40 - i)]
  congr 1; omega
theorem cyG_no {g : Gr} (h : isC g.r g.z g.es = false) : cyG g = (g, []) := by unfold cyG; rw [if_neg (by simp [h])]
theorem cyG_F {g : Gr} (h : isC g.r g.z g.es = true) : isF (cyG g).1.r (cyG g).1.z (cyG g).1.es = true := by
  unfold cyG; rw [if_pos h]; exact (cyN_ok (isC_f h) 40).1
theorem cyG_es {g : Gr} {n : Nat} (h : g.es.length ≤ n) (hn : 120 ≤ n) : (cyG g).1.es.length ≤ n := by
  cases hc : isC g.r g.z g.es
  · rw [cyG_no hc]; exact h
  · have := isG_z (isF_g (cyG_F hc)); omega
theorem cyG_len {g : Gr} : (cyG g).2.length ≤ 40 := by
  cases hc : isC g.r g.z g.es
  · rw [cyG_no hc]; simp
  · unfold cyG; rw [if_pos hc]; exact (cyN_ok (isC_f hc) 40).2.2.1
theorem cyG_mem {g : Gr} : ∀ x ∈ (cyG g).2, -3 ≤ x ∧ x ≤ 3 := by
  cases hc : isC g.r g.z g.es
  · rw [cyG_no hc]; simp
  · unfold cyG; rw [if_pos hc]; exact (cyN_ok (isC_f hc) 40).2.2.2.1
theorem cyG_off {g : Gr} (h : isC g.r g.z g.es = true) : ¬ cyOn (cyG g).1 := by
  unfold cyG
  rw [if_pos h]
  intro hc
  have := cyN_lt (isC_f h) hc
  omega
/-! ### The words of the moves that leave the graph as it is -/
noncomputable def nzN (r z : Int) (es : List Ed) : Nat → List (List Int)
  | 0 => []
  | v + 1 => if (movG ⟨r, z, es⟩ v).r = r ∧ (movG ⟨r, z, es⟩ v).z = z ∧ (movG ⟨r, z, es⟩ v).es = es then nzN r z es v ++ [pw r z es 0 v] else nzN r z es v
theorem nzN_len (r z : Int) (es : List Ed) (n : Nat) : (nzN r z es n).length ≤ n := by
  induction n with
  | zero => simp [nzN]
  | succ n ih => unfold nzN; split; · simp only [List.length_append, List.length_cons, List.length_nil]; omega
                 omega
end Go.Proofs.Try
/- Plain: one subgroup inside another one, told by a map of the graphs. -/
namespace Go.Proofs.Try
open Go Go.Eng
/-! ### Two ways out -/
theorem count_one {α : Type} {l : List α} {p : α → Bool} (hn : l.Nodup) (h : ∀ a ∈ l, ∀ b ∈ l, p a = true → p b = true → a = b) : l.countP p ≤ 1 := by
  rw [List.countP_eq_length_filter]
  have h1 : (l.filter p).Nodup := hn.filter _
  have h2 : ∀ a ∈ l.filter p, ∀ b ∈ l.filter p, a = b := fun a ha b hb => by
    rw [List.mem_filter] at ha hb
    exact h a ha.1 b hb.1 ha.2 hb.2
  generalize l.filter p = m at *
  match m, h1, h2 with
  | [], _, _ => simp
  | [a], _, _ => simp
  | a :: b :: r, h1, h2 =>
    have := h2 a (by simp) b (by simp)
    subst this
    simp at h1
theorem deg_two {r z : Int} {es : List Ed} {v y0 : Int} (hf : isF r z es = true) (h : 2 ≤ deg es v) : ∃ y, y ≠ y0 ∧ 0 ≤ nx es v y := by
  refine Classical.byContradiction fun hno => ?_
  have hno' : ∀ y, 0 ≤ nx es v y → y = y0 := fun y hy => Classical.byContradiction fun hne => hno ⟨y, hne, hy⟩
  have hG := isG_iff.1 (isF_g hf)
  have hn := asc_nodupE hG.2.1
  have hp : ∀ e ∈ es, 1 ≤ e.2.1 ∧ 0 ≤ e.1 ∧ 0 ≤ e.2.2 := fun e he => by
    have := hG.2.2 e he
    unfold inR at this
    omega
  have h1 : ∀ e ∈ es, e.1 = v → e.2.1 = y0 ∧ e.2.2 = nx es v y0 := fun e he hv => by
    have h2 := (edge_nx hf he).1
    have h3 := hp e he
    rw [hv] at h2
    have h4 := hno' _ (by rw [h2]; omega)
    exact ⟨h4, by rw [← h4, h2]⟩
  have h2 : ∀ e ∈ es, e.2.2 = v → -e.2.1 = y0 ∧ e.1 = nx es v y0 := fun e he hv => by
    have h2 := (edge_nx hf he).2
    have h3 := hp e he
    rw [hv] at h2
    have h4 := hno' _ (by rw [h2]; omega)
    exact ⟨h4, by rw [← h4, h2]⟩
  rw [deg_cnt] at h
  unfold cnt at h
  have c1 : (es.countP fun e => decide (e.1 = v)) ≤ 1 := count_one hn fun a ha b hb h3 h4 => by
    have h3 := of_decide_eq_true h3
    have h4 := of_decide_eq_true h4
    have h5 := h1 a ha h3
    have h6 := h1 b hb h4
    exact Prod.ext (by omega) (Prod.ext (by omega) (by omega))
  have c2 : (es.countP fun e => decide (e.2.2 = v)) ≤ 1 := count_one hn fun a ha b hb h3 h4 => by
    have h3 := of_decide_eq_true h3
    have h4 := of_decide_eq_true h4
    have h5 := h2 a ha h3
    have h6 := h2 b hb h4
    exact Prod.ext (by omega) (Prod.ext (by omega) (by omega))
  have d1 : 0 < (es.countP fun e => decide (e.1 = v)) := by omega
  have d2 : 0 < (es.countP fun e => decide (e.2.2 = v)) := by omega
  obtain ⟨a, ha, ha2⟩ := List.countP_pos_iff.1 d1
  obtain ⟨b, hb, hb2⟩ := List.countP_pos_iff.1 d2
  have e1 := h1 a ha (of_decide_eq_true ha2)
  have e2 := h2 b hb (of_decide_eq_true hb2)
  have e3 := hp a ha
  have e4 := hp b hb
  omega
/-! ### Reduced words -/
theorem inv2_iff {a b : Int} : inv2 a b = true ↔ a ≠ 0 ∧ a ≠ -9223372036854775808 ∧ b = -a := by
  simp only [inv2, decide_eq_true_eq]
theorem rd_app {u v : List Int} (hu : isRd u) (hv : isRd v) (h : 0 < u.length → 0 < v.length → inv2 (lastI u) (ix v 0) = false) : isRd (u ++ v) := by
  intro i hi
  rw [List.length_append] at hi
  rcases Nat.lt_or_ge (i + 1) u.length with h1 | h1
  · rw [ix_app (by omega), ix_app h1]; exact hu i h1
  · rcases Nat.lt_or_ge i u.length with h2 | h2
    · rw [ix_app h2, ix_app2 h1]
      have e1 : i + 1 - u.length = 0 := by omega
      have e2 : i = u.length - 1 := by omega
      rw [e1, e2]
      exact h (by omega) (by omega)
    · rw [ix_app2 h2, ix_app2 h1]
      have := hv (i - u.length) (by omega)
      rwa [show i - u.length + 1 = i + 1 - u.length by omega] at this
theorem rd_pre {u v : List Int} (h : isRd (u ++ v)) : isRd u := fun i hi => by
  have := h i (by rw [List.length_append]; omega)
  rwa [ix_app (by omega), ix_app hi] at this
theorem rd_nil : isRd [] := fun i hi => by simp at hi
theorem rd_one (x : Int) : isRd [x] := fun i hi => by simp at hi
/-- Letters that are small. -/
def smallW (w : List Int) : Prop := ∀ x ∈ w, -3 ≤ x ∧ x ≤ 3 ∧ x ≠ 0
theorem ngI_small {x : Int} (h : -1000000 ≤ x ∧ x ≤ 1000000) : ngI x = -x := by
  unfold ngI; rw [w64Id ⟨by omega, by omega⟩]
theorem ivN_ix {w : List Int} (h : smallW w) : ∀ {n k : Nat}, n ≤ w.length → k < n → ix (ivN w n) k = -ix w (w.length - 1 - k)
  | 0, k, _, hk => by omega
  | n + 1, k, hn, hk => by
    unfold ivN
    rcases Nat.lt_or_ge k n with h1 | h1
    · rw [ix_app (by rw [ivN_len]; exact h1)]
      exact ivN_ix h (by omega) h1
    · have : k = n := by omega
      subst this
      rw [ix_app2 (by rw [ivN_len]; exact Nat.le_refl _), ivN_len, Nat.sub_self]
      have := h _ (ix_mem (l := w) (i := w.length - 1 - k) (by omega))
      show ngI _ = _
      exact ngI_small (by omega)
theorem ivW_ix {w : List Int} (h : smallW w) {k : Nat} (hk : k < w.length) : ix (ivW w) k = -ix w (w.length - 1 - k) := ivN_ix h (Nat.le_refl _) hk
theorem ivW_rev {w : List Int} (h : smallW w) : ivW w = w.reverse.map fun x => -x := by
  refine ints_eq (by rw [ivW_len, List.length_map, List.length_reverse]) fun j hj => ?_
  rw [ivW_len] at hj
  rw [ivW_ix h hj]
  simp only [ix]
  simp only [List.getD_eq_getElem?_getD, List.getElem?_map, List.getElem?_reverse hj]
  rw [List.getElem?_eq_getElem (by omega)]
  rfl
theorem rd_inv {w : List Int} (hw : smallW w) (h : isRd w) : isRd (ivW w) := fun i hi => by
  rw [ivW_len] at hi
  rw [ivW_ix hw (by omega), ivW_ix hw hi]
  have h1 := h (w.length - 1 - (i + 1)) (by omega)
  rw [show w.length - 1 - (i + 1) + 1 = w.length - 1 - i by omega] at h1
  have h2 := hw _ (ix_mem (l := w) (i := w.length - 1 - (i + 1)) (by omega))
  have h3 := hw _ (ix_mem (l := w) (i := w.length - 1 - i) (by omega))
  rw [← Bool.not_eq_true] at h1 ⊢
  rw [inv2_iff] at h1 ⊢
  omega
/-! ### The tree's words and edges -/
theorem stE_inj {a x b c y d : Int} (hx : x ≠ 0) (hy : y ≠ 0) (h : stE a x b = stE c y d) : (a = c ∧ x = y ∧ b = d) ∨ (a = d ∧ x = -y ∧ b = c) := by
  unfold stE at h
  split at h <;> split at h <;> simp only [Prod.mk.injEq] at h <;> omega
theorem bsa_inj {st : BS} (hn : (vxs st).Nodup) {i j : Nat} (hi : i < st.length) (hj : j < st.length) (h : (bsa st i).1 = (bsa st j).1) : i = j := by
  rcases Nat.lt_trichotomy i j with h1 | h1 | h1
  · exfalso
    have := List.pairwise_iff_getElem.1 hn i j (by rw [vxs_len]; exact hi) (by rw [vxs_len]; exact hj) h1
    apply this
    have e1 : (vxs st)[i]'(by rw [vxs_len]; exact hi) = (bsa st i).1 := by simp [vxs, bsa, hi]
    have e2 : (vxs st)[j]'(by rw [vxs_len]; exact hj) = (bsa st j).1 := by simp [vxs, bsa, hj]
    rw [e1, e2, h]
  · exact h1
  · exfalso
    have := List.pairwise_iff_getElem.1 hn j i (by rw [vxs_len]; exact hj) (by rw [vxs_len]; exact hi) h1
    apply this
    have e1 : (vxs st)[i]'(by rw [vxs_len]; exact hi) = (bsa st i).1 := by simp [vxs, bsa, hi]
    have e2 : (vxs st)[j]'(by rw [vxs_len]; exact hj) = (bsa st j).1 := by simp [vxs, bsa, hj]
    rw [e1, e2, h]
/-- What holds of the search from the base of a folded graph. -/
structure BF (r z : Int) (es : List Ed) (st : BS) : Prop where
  f : isF r z es = true
  nd : (vxs st).Nodup
  z0 : bsa st 0 = (0, [])
  pos : 0 < st.length
  bp : BP es st
  sm : ∀ j, j < st.length → smallW (bsa st j).2
theorem BF_bfs {r z : Int} {es : List Ed} (hf : isF r z es = true) : BF r z es (bfs r z es 0) := by
  have hG := isF_g hf
  have hz := isG_z hG
  have hB := BI_bfs (v := 0) hG (by omega)
  have hL : BL r (bfs r z es 0) := BL_out hG (by omega) _
  exact ⟨hf, hB.nd, bfs_bsa0, hB.pos, BP_bfs hG (by omega), fun j hj x hx => by have := hL.let_ j hj x hx; omega⟩
section
variable {r z : Int} {es : List Ed} {st : BS}
theorem BF.rd (h : BF r z es st) : ∀ n j, j < n → j < st.length → isRd (bsa st j).2
  | 0, j, hn, _ => by omega
  | n + 1, j, hn, hj => by
    rcases Nat.eq_zero_or_pos j with h0 | h0
    · subst h0; rw [h.z0]; exact rd_nil
    · obtain ⟨i, x, h1, h2, h3⟩ := h.bp j h0 hj
      rw [h3]
      refine rd_app (BF.rd h n i (by omega) (by omega)) (rd_one x) fun h4 _ => ?_
      rcases Nat.eq_zero_or_pos i with h5 | h5
      · subst h5; rw [h.z0] at h4; simp at h4
      · obtain ⟨k, y, g1, g2, g3⟩ := h.bp i h5 (by omega)
        show inv2 (lastI (bsa st i).2) x = false
        rw [show (bsa st i).2 = (bsa st k).2 ++ [y] by rw [g3], lastI_app, ← Bool.not_eq_true]
        intro hi
        have hi := inv2_iff.1 hi
        have e1 : (bsa st j).1 = (bsa st k).1 := by
          rw [h3]
          show nx es (bsa st i).1 x = _
          rw [show (bsa st i).1 = nx es (bsa st k).1 y by rw [g3], hi.2.2, nx_back h.f g2]
        have := bsa_inj h.nd hj (by omega) e1
        omega
theorem BF.rdj (h : BF r z es st) {j : Nat} (hj : j < st.length) : isRd (bsa st j).2 := BF.rd h (j + 1) j (by omega) hj
theorem tE_at (h : BF r z es st) {j : Nat} (h0 : 0 < j) (hj : j < st.length) : ∃ i x, i < j ∧ 0 ≤ nx es (bsa st i).1 x ∧ x ≠ 0 ∧ bsa st j = (nx es (bsa st i).1 x, (bsa st i).2 ++ [x]) ∧ tE es (bsa st j) = stE (bsa st i).1 x (bsa st j).1 := by
  obtain ⟨i, x, h1, h2, h3⟩ := h.bp j h0 hj
  refine ⟨i, x, h1, h2, (nx_v (isF_g h.f) h2).2.2.2.2, h3, ?_⟩
  rw [h3]
  exact tE_step h.f h2
theorem teN_mem {e : Ed} : ∀ {n : Nat}, e ∈ teN es st n ↔ ∃ j, 0 < j ∧ j ≤ n ∧ e = tE es (bsa st j)
  | 0 => by simp only [teN, List.not_mem_nil, false_iff]; rintro ⟨j, h1, h2, _⟩; omega
  | n + 1 => by
    simp only [teN, List.mem_append, List.mem_singleton, teN_mem]
    constructor
    · rintro (⟨j, h1, h2, h3⟩ | h)
      · exact ⟨j, h1, by omega, h3⟩
      · exact ⟨n + 1, by omega, by omega, h⟩
    · rintro ⟨j, h1, h2, h3⟩
      rcases Nat.lt_or_ge j (n + 1) with h4 | h4
      · exact .inl ⟨j, h1, by omega, h3⟩
      · have : j = n + 1 := by omega
        subst this; exact .inr h3
end
theorem treeL_mem {r z : Int} {es : List Ed} {e : Ed} (hf : isF r z es = true) : e ∈ treeL r z es ↔ ∃ j, 0 < j ∧ j < (bfs r z es 0).length ∧ e = tE es (bsa (bfs r z es 0) j) := by
  have hp := (BF_bfs hf).pos
  rw [treeL_yes hf, norm_mem, teL, teN_mem]
  constructor
  · rintro ⟨j, h1, h2, h3⟩; exact ⟨j, h1, by omega, h3⟩
  · rintro ⟨j, h1, h2, h3⟩; exact ⟨j, h1, by omega, h3⟩
theorem xtN_mem {es ts : List Ed} {e : Ed} : ∀ {n : Nat}, e ∈ xtN es ts n ↔ e ∉ ts ∧ ∃ i, i < n ∧ ed es i = e
  | 0 => by simp [xtN]
  | n + 1 => by
    unfold xtN
    split
    · rename_i h
      rw [xtN_mem]
      constructor
      · rintro ⟨h1, i, h2, h3⟩; exact ⟨h1, i, by omega, h3⟩
      · rintro ⟨h1, i, h2, h3⟩
        refine ⟨h1, i, ?_, h3⟩
        rcases Nat.lt_or_ge i n with h4 | h4
        · exact h4
        · have : i = n := by omega
          subst this; rw [h3] at h; exact (h1 h).elim
    · rename_i h
      rw [List.mem_append, List.mem_singleton, xtN_mem]
      constructor
      · rintro (⟨h1, i, h2, h3⟩ | rfl)
        · exact ⟨h1, i, by omega, h3⟩
        · exact ⟨h, n, by omega, rfl⟩
      · rintro ⟨h1, i, h2, h3⟩
        rcases Nat.lt_or_ge i n with h4 | h4
        · exact .inl ⟨h1, i, h4, h3⟩
        · have : i = n := by omega
          subst this; exact .inr h3.symm
theorem extL_mem {r z : Int} {es : List Ed} {e : Ed} (hf : isF r z es = true) : e ∈ extL r z es ↔ e ∈ es ∧ e ∉ treeL r z es := by
  rw [extL_yes hf, xtN_mem]
  constructor
  · rintro ⟨h1, i, h2, rfl⟩; exact ⟨ed_mem h2, h1⟩
  · rintro ⟨h1, h2⟩
    obtain ⟨i, h3, h4⟩ := mem_ed h1
    exact ⟨h2, i, h3, h4⟩
/-- The word of the tree that leads to a vertex. -/
def twd (r z : Int) (es : List Ed) (v : Int) : List Int := (wf (bfs r z es 0) v).getD []
theorem twd_at {r z : Int} {es : List Ed} (hf : isF r z es = true) {j : Nat} (hj : j < (bfs r z es 0).length) : twd r z es (bsa (bfs r z es 0) j).1 = (bsa (bfs r z es 0) j).2 := by
  unfold twd
  rw [wf_at (BF_bfs hf).nd hj]; rfl
theorem twd_pw {r z : Int} {es : List Ed} {v : Int} (hf : isF r z es = true) (hv : 0 ≤ v ∧ v < z) : pw r z es 0 v = twd r z es v := by
  unfold pw twd
  have hz := isG_z (isF_g hf)
  rw [pwO_yes ⟨hf, by omega, by omega, hv.1, hv.2⟩]
/-- The word of a basis that an edge outside the tree makes. -/
def bwd (r z : Int) (es : List Ed) (e : Ed) : List Int := twd r z es e.1 ++ [e.2.1] ++ ivW (twd r z es e.2.2)
/-- Every vertex is found. -/
def allB (r z : Int) (es : List Ed) : Prop := ∀ v, 0 ≤ v → v < z → ∃ j, j < (bfs r z es 0).length ∧ (bsa (bfs r z es 0) j).1 = v
theorem gone_all {r z : Int} {es : List Ed} (hf : isF r z es = true) (hg : gone ⟨r, z, es⟩ = 0) : allB r z es := fun v h0 h1 => by
  classical
  have hz := isG_z (isF_g hf)
  rcases (show v = 0 ∨ 1 ≤ v by omega) with h2 | h2
  · exact ⟨0, (BF_bfs hf).pos, by rw [h2, (BF_bfs hf).z0]⟩
  · have hl := gone_no hg h2 h1
    simp only [lf, Bool.or_eq_false_iff, Bool.not_eq_false'] at hl
    have hr : Rch es 0 v := (rl_mem.1 (by simpa using hl.2)).2
    exact at_vxs (rch_bfs hf (by omega) hr)
theorem gone_deg {r z : Int} {es : List Ed} (hg : gone ⟨r, z, es⟩ = 0) {v : Int} (h1 : 1 ≤ v) (h2 : v < z) : 2 ≤ deg es v := by
  have hl := gone_no hg h1 h2
  simp only [lf, Bool.or_eq_false_iff, decide_eq_false_iff_not] at hl
  have : ¬ deg es v < 2 := hl.1
  omega
theorem wk_tree {r z : Int} {es : List Ed} (hf : isF r z es = true) {j : Nat} (hj : j < (bfs r z es 0).length) : wk es 0 (bsa (bfs r z es 0) j).2 = some (bsa (bfs r z es 0) j).1 :=
  wk_BP (BF_bfs hf).z0 (BF_bfs hf).bp (j + 1) j (by omega) hj
theorem nx_stE {es : List Ed} {v x : Int} (h : 0 ≤ nx es v x) : stE v x (nx es v x) ∈ es := by
  obtain ⟨_, he⟩ := nx_edge h
  unfold stE
  exact he
/-- The word of an edge outside the tree is reduced. -/
theorem bwd_rd {r z : Int} {es : List Ed} {e : Ed} (hf : isF r z es = true) (ha : allB r z es) (he : e ∈ extL r z es) : isRd (bwd r z es e) := by
  have hB := BF_bfs hf
  obtain ⟨h1, h2⟩ := (extL_mem hf).1 he
  have h3 := (isG_iff.1 (isF_g hf)).2.2 _ h1
  unfold inR at h3
  have h4 := edge_nx hf h1
  obtain ⟨i, hi, ei⟩ := ha e.1 (by omega) (by omega)
  obtain ⟨j, hj, ej⟩ := ha e.2.2 (by omega) (by omega)
  have hst : e = stE e.1 e.2.1 e.2.2 := by unfold stE; rw [if_neg (by omega)]
  unfold bwd
  rw [← ei, ← ej, twd_at hf hi, twd_at hf hj]
  have hsj := hB.sm j hj
  refine rd_app (rd_app (hB.rdj hi) (rd_one _) fun h5 _ => ?_) (rd_inv hsj (hB.rdj hj)) fun _ h5 => ?_
  · -- the edge would be the one through which its start was found
    rcases Nat.eq_zero_or_pos i with h0 | h0
    · subst h0; rw [hB.z0] at h5; simp at h5
    · obtain ⟨k, x, g1, g2, g0, g3, g4⟩ := tE_at hB h0 hi
      show inv2 (lastI (bsa (bfs r z es 0) i).2) e.2.1 = false
      rw [show (bsa (bfs r z es 0) i).2 = (bsa (bfs r z es 0) k).2 ++ [x] by rw [g3], lastI_app, ← Bool.not_eq_true]
      intro hv
      have hv := inv2_iff.1 hv
      apply h2
      rw [treeL_mem hf]
      refine ⟨i, h0, hi, ?_⟩
      rw [g4, hst]
      have e1 : (bsa (bfs r z es 0) i).1 = nx es (bsa (bfs r z es 0) k).1 x := by rw [g3]
      have e2 : e.2.2 = (bsa (bfs r z es 0) k).1 := by
        rw [← h4.1, hv.2.2, ← ei, e1, nx_back hf g2]
      rw [← ei, e2, hv.2.2]
      unfold stE
      rw [if_neg (by omega), if_pos (by omega)]
  · rw [ivW_len] at h5
    rcases Nat.eq_zero_or_pos j with h0 | h0
    · subst h0; rw [hB.z0] at h5; simp at h5
    · obtain ⟨k, x, g1, g2, g0, g3, g4⟩ := tE_at hB h0 hj
      rw [lastI_app, ivW_ix hsj h5, ← Bool.not_eq_true]
      intro hv
      have hv := inv2_iff.1 hv
      have hlast : ix (bsa (bfs r z es 0) j).2 ((bsa (bfs r z es 0) j).2.length - 1 - 0) = x := by
        have := lastI_app (bsa (bfs r z es 0) k).2 x
        rw [← this, show (bsa (bfs r z es 0) k).2 ++ [x] = (bsa (bfs r z es 0) j).2 by rw [g3]]
        rfl
      rw [hlast] at hv
      apply h2
      rw [treeL_mem hf]
      refine ⟨j, h0, hj, ?_⟩
      rw [g4, hst]
      have e1 : (bsa (bfs r z es 0) j).1 = nx es (bsa (bfs r z es 0) k).1 x := by rw [g3]
      have e2 : e.1 = (bsa (bfs r z es 0) k).1 := by
        rw [← h4.2, ← ej, e1, show -e.2.1 = -x by omega, nx_back hf g2]
      rw [e2, ej, show e.2.1 = x by omega]
/-- Every word of the tree begins one that ends at an edge outside the tree. -/
theorem pre_ext {r z : Int} {es : List Ed} (hf : isF r z es = true) (hg : gone ⟨r, z, es⟩ = 0) : ∀ n j, (bfs r z es 0).length - j ≤ n → 0 < j → j < (bfs r z es 0).length →
    ∃ k t, k < (bfs r z es 0).length ∧ (bsa (bfs r z es 0) k).2 = (bsa (bfs r z es 0) j).2 ++ t ∧ ∃ e, e ∈ extL r z es ∧ (e.1 = (bsa (bfs r z es 0) k).1 ∨ e.2.2 = (bsa (bfs r z es 0) k).1)
  | 0, j, hn, _, hj => by omega
  | n + 1, j, hn, h0, hj => by
    have hB := BF_bfs hf
    have hG := isF_g hf
    have hz := isG_z hG
    obtain ⟨i, x, h1, h2, h3, h4, h5⟩ := tE_at hB h0 hj
    have hin := (BI_bfs (v := 0) hG (by omega)).inz _ (vxs_at hj)
    have hne : (bsa (bfs r z es 0) j).1 ≠ 0 := fun h => by
      have := bsa_inj hB.nd hj hB.pos (by rw [h, hB.z0])
      omega
    obtain ⟨y, hy, hy2⟩ := deg_two (y0 := -x) hf (gone_deg hg (v := (bsa (bfs r z es 0) j).1) (by omega) hin.2)
    have hy0 := (nx_v hG hy2).2.2.2.2
    by_cases ht : stE (bsa (bfs r z es 0) j).1 y (nx es (bsa (bfs r z es 0) j).1 y) ∈ treeL r z es
    · obtain ⟨s, s0, s1, s2⟩ := (treeL_mem hf).1 ht
      obtain ⟨p, w, q1, q2, q3, q4, q5⟩ := tE_at hB s0 s1
      rw [q5] at s2
      rcases stE_inj hy0 q3 s2 with ⟨a1, a2, a3⟩ | ⟨a1, a2, a3⟩
      · have hpj := bsa_inj hB.nd hj (by omega) a1
        subst hpj
        obtain ⟨k, t, k1, k2, k3⟩ := pre_ext hf hg n s (by omega) s0 s1
        refine ⟨k, w :: t, k1, ?_, k3⟩
        rw [k2, show (bsa (bfs r z es 0) s).2 = (bsa (bfs r z es 0) j).2 ++ [w] by rw [q4]]
        simp
      · have hsj := bsa_inj hB.nd hj s1 a1
        subst hsj
        rw [h4] at q4
        have := congrArg (fun p : Int × List Int => lastI p.2) q4
        simp only [lastI_app] at this
        omega
    · refine ⟨j, [], hj, by simp, _, (extL_mem hf).2 ⟨nx_stE hy2, ht⟩, ?_⟩
      unfold stE
      split
      · exact .inr rfl
      · exact .inl rfl
/-! ### Maps of graphs -/
def Hom (a b : List Ed) : Prop := ∃ f : Int → Int, f 0 = 0 ∧ ∀ v x, 0 ≤ nx a v x → 0 ≤ nx b (f v) x ∧ nx b (f v) x = f (nx a v x)
theorem hom_wk {a b : List Ed} {f : Int → Int} (h : ∀ v x, 0 ≤ nx a v x → 0 ≤ nx b (f v) x ∧ nx b (f v) x = f (nx a v x)) : ∀ {w : List Int} {v u : Int}, wk a v w = some u → wk b (f v) w = some (f u)
  | [], v, u, hw => by cases hw; rfl
  | x :: w, v, u, hw => by
    simp only [wk] at hw ⊢
    split at hw
    · rename_i hc
      obtain ⟨h1, h2⟩ := h v x hc
      rw [if_pos h1, h2]
      exact hom_wk h hw
    · cases hw
theorem bwd_wk {r z : Int} {es : List Ed} {e : Ed} (hf : isF r z es = true) (ha : allB r z es) (he : e ∈ es) : wk es 0 (bwd r z es e) = some 0 := by
  have hB := BF_bfs hf
  have h3 := (isG_iff.1 (isF_g hf)).2.2 _ he
  unfold inR at h3
  have h4 := edge_nx hf he
  obtain ⟨i, hi, ei⟩ := ha e.1 (by omega) (by omega)
  obtain ⟨j, hj, ej⟩ := ha e.2.2 (by omega) (by omega)
  unfold bwd
  rw [← ei, ← ej, twd_at hf hi, twd_at hf hj, wk_app, wk_app, wk_tree hf hi]
  show ((wk es (bsa (bfs r z es 0) i).1 [e.2.1]).bind fun u => wk es u (ivW (bsa (bfs r z es 0) j).2)) = some 0
  rw [wk_one, ei, h4.1, if_pos (by omega)]
  show wk es e.2.2 (ivW (bsa (bfs r z es 0) j).2) = some 0
  rw [ivW_rev (hB.sm j hj), ← ej]
  exact wk_back hf (wk_tree hf hj)
theorem rev_rev (w : List Int) : ((w.reverse.map fun x => -x).reverse.map fun x => -x) = w := by
  rw [← List.map_reverse, List.reverse_reverse, List.map_map]
  conv => rhs; rw [← List.map_id w]
  refine List.map_congr_left fun x _ => ?_
  simp
/-- What a basis says, read in the other graph. -/
theorem bwd_ends {r z r' z' : Int} {es es' : List Ed} {e : Ed} (hf : isF r z es = true) (hf' : isF r' z' es' = true) (ha : allB r z es) (he : e ∈ es) (h : wk es' 0 (bwd r z es e) = some 0) :
    ∃ p, wk es' 0 (twd r z es e.1) = some p ∧ 0 ≤ nx es' p e.2.1 ∧ wk es' 0 (twd r z es e.2.2) = some (nx es' p e.2.1) := by
  have hB := BF_bfs hf
  have h3 := (isG_iff.1 (isF_g hf)).2.2 _ he
  unfold inR at h3
  obtain ⟨j, hj, ej⟩ := ha e.2.2 (by omega) (by omega)
  unfold bwd at h
  rw [wk_app, wk_app] at h
  cases hp : wk es' 0 (twd r z es e.1) with
  | none => rw [hp] at h; cases h
  | some p =>
    rw [hp] at h
    simp only [Option.bind_some, wk_one] at h
    by_cases hc : 0 ≤ nx es' p e.2.1
    · rw [if_pos hc] at h
      simp only [Option.bind_some] at h
      refine ⟨p, rfl, hc, ?_⟩
      have h5 := wk_back hf' h
      rw [← ej, twd_at hf hj] at h5 ⊢
      rwa [ivW_rev (hB.sm j hj), rev_rev] at h5
    · rw [if_neg hc] at h; cases h
theorem hom_of {r z r' z' : Int} {es es' : List Ed} (hf : isF r z es = true) (hg : gone ⟨r, z, es⟩ = 0) (hf' : isF r' z' es' = true) (h : ∀ e ∈ extL r z es, wk es' 0 (red (bwd r z es e)) = some 0) : Hom es es' := by
  have hB := BF_bfs hf
  have hG := isF_g hf
  have ha := gone_all hf hg
  have h' : ∀ e ∈ extL r z es, wk es' 0 (bwd r z es e) = some 0 := fun e he => by
    have := h e he
    rwa [red_red (bwd_rd hf ha he)] at this
  have hsome : ∀ j, j < (bfs r z es 0).length → ∃ u, wk es' 0 (bsa (bfs r z es 0) j).2 = some u := fun j hj => by
    rcases Nat.eq_zero_or_pos j with h0 | h0
    · subst h0; rw [hB.z0]; exact ⟨0, rfl⟩
    · obtain ⟨k, t, k1, k2, e, he, k3⟩ := pre_ext hf hg _ j (Nat.le_refl _) h0 hj
      obtain ⟨p, p1, p2, p3⟩ := bwd_ends hf hf' ha ((extL_mem hf).1 he).1 (h' e he)
      have hk : ∃ u, wk es' 0 (bsa (bfs r z es 0) k).2 = some u := by
        rcases k3 with k3 | k3
        · rw [k3, twd_at hf k1] at p1; exact ⟨_, p1⟩
        · rw [k3, twd_at hf k1] at p3; exact ⟨_, p3⟩
      obtain ⟨u, hu⟩ := hk
      rw [k2, wk_app] at hu
      cases hw : wk es' 0 (bsa (bfs r z es 0) j).2 with
      | none => rw [hw] at hu; cases hu
      | some v => exact ⟨v, rfl⟩
  refine ⟨fun v => (wk es' 0 (twd r z es v)).getD 0, ?_, fun v x hx => ?_⟩
  · have : twd r z es 0 = [] := by
      have := twd_at hf hB.pos
      rwa [hB.z0] at this
    simp only [this]
    rfl
  · have hv := nx_v hG hx
    have ht := (nx_in (v := v) (x := x) hG).2
    obtain ⟨i, hi, ei⟩ := ha v hv.1 hv.2.1
    obtain ⟨j, hj, ej⟩ := ha (nx es v x) hx ht
    obtain ⟨a, ha1⟩ := hsome i hi
    obtain ⟨b, hb1⟩ := hsome j hj
    have ea : wk es' 0 (twd r z es v) = some a := by rw [← ei, twd_at hf hi]; exact ha1
    have eb : wk es' 0 (twd r z es (nx es v x)) = some b := by rw [← ej, twd_at hf hj]; exact hb1
    simp only [ea, eb, Option.getD_some]
    by_cases htr : stE v x (nx es v x) ∈ treeL r z es
    · obtain ⟨s, s0, s1, s2⟩ := (treeL_mem hf).1 htr
      obtain ⟨p, w, q1, q2, q3, q4, q5⟩ := tE_at hB s0 s1
      rw [q5] at s2
      have hs := hsome s s1
      obtain ⟨c, hc⟩ := hs
      have hc2 := hc
      rw [show (bsa (bfs r z es 0) s).2 = (bsa (bfs r z es 0) p).2 ++ [w] by rw [q4]] at hc2
      obtain ⟨t', t1, t2, t3⟩ := wk_snoc.1 hc2
      rcases stE_inj hv.2.2.2.2 q3 s2 with ⟨a1, a2, a3⟩ | ⟨a1, a2, a3⟩
      · have e1 : i = p := bsa_inj hB.nd hi (by omega) (by rw [ei, a1])
        have e2 : j = s := bsa_inj hB.nd hj s1 (by rw [ej, a3])
        subst e1; subst e2
        rw [ha1] at t1; cases t1
        rw [hb1] at hc; cases hc
        rw [a2]
        exact ⟨t2, t3.symm⟩
      · have e1 : i = s := bsa_inj hB.nd hi s1 (by rw [ei, a1])
        have e2 : j = p := bsa_inj hB.nd hj (by omega) (by rw [ej, a3])
        subst e1; subst e2
        rw [ha1] at hc; cases hc
        rw [hb1] at t1; cases t1
        have hb := nx_back hf' t2
        rw [← t3] at hb
        rw [a2, hb]
        exact ⟨by have := wk_in (isF_g hf') (v := 0) (by have := isG_z (isF_g hf'); omega) hb1; omega, rfl⟩
    · have hex := (extL_mem hf).2 ⟨nx_stE hx, htr⟩
      obtain ⟨p, p1, p2, p3⟩ := bwd_ends hf hf' ha (nx_stE hx) (h' _ hex)
      by_cases hn : x < 0
      · have hst : stE v x (nx es v x) = (nx es v x, -x, v) := by unfold stE; rw [if_pos hn]
        rw [hst] at p1 p2 p3
        simp only at p1 p2 p3
        rw [eb] at p1; cases p1
        rw [ea] at p3
        have h5 := Option.some.inj p3
        have hb := nx_back hf' p2
        rw [Int.neg_neg, ← h5] at hb
        rw [hb]
        exact ⟨by have := wk_in (isF_g hf') (v := 0) (by have := isG_z (isF_g hf'); omega) hb1; omega, rfl⟩
      · have hst : stE v x (nx es v x) = (v, x, nx es v x) := by unfold stE; rw [if_neg hn]
        rw [hst] at p1 p2 p3
        simp only at p1 p2 p3
        rw [ea] at p1; cases p1
        rw [eb] at p3
        exact ⟨p2, (Option.some.inj p3).symm⟩
/-- Inclusion, told by a map. -/
theorem hom_iff {r z r' z' : Int} {es es' : List Ed} (hf : isF r z es = true) (hg : gone ⟨r, z, es⟩ = 0) (hf' : isF r' z' es' = true) : Hom es es' ↔ ∀ e ∈ extL r z es, wk es' 0 (red (bwd r z es e)) = some 0 := by
  refine ⟨?_, hom_of hf hg hf'⟩
  rintro ⟨f, f0, h⟩ e he
  have h1 := hom_wk h (bwd_wk hf (gone_all hf hg) ((extL_mem hf).1 he).1)
  rw [f0] at h1
  exact wk_red hf' h1
end Go.Proofs.Try
