import Derived.Test.YtfapjflogjblaaaGreatY
import Derived.Test.YtfapjflogjblaaaGreatT7
set_option maxHeartbeats 16000000
set_option maxRecDepth 20000
set_option linter.unusedVariables false
set_option linter.unusedSimpArgs false
set_option linter.unnecessarySimpa false
namespace Go.Proofs.Tryz
open Go Go.Eng
def Rw (a : List Ed) (v : Int) : Prop := ∃ w, wk a 0 w = some v
def Mp (a b : List Ed) (f : Int → Int) : Prop := f 0 = 0 ∧ ∀ v x, Rw a v → 0 ≤ nx a v x → 0 ≤ nx b (f v) x ∧ nx b (f v) x = f (nx a v x)
theorem Mp.of {a b : List Ed} {f : Int → Int} (h0 : f 0 = 0) (h : ∀ v x, 0 ≤ nx a v x → 0 ≤ nx b (f v) x ∧ nx b (f v) x = f (nx a v x)) : Mp a b f := ⟨h0, fun v x _ => h v x⟩
theorem Rw.zero (a : List Ed) : Rw a 0 := ⟨[], rfl⟩
theorem Rw.next {a : List Ed} {v x : Int} (h : Rw a v) (hx : 0 ≤ nx a v x) : Rw a (nx a v x) := by
  obtain ⟨w, hw⟩ := h
  exact ⟨w ++ [x], by rw [wk_app, hw]; simp [wk, hx]⟩
theorem Mp.rwN {a b : List Ed} {f : Int → Int} (h : Mp a b f) : ∀ (n : Nat) {w : List Int} {v : Int}, w.length ≤ n → wk a 0 w = some v → wk b 0 w = some (f v)
  | 0, w, v, hl, hw => by
    have : w = [] := List.eq_nil_of_length_eq_zero (by omega)
    subst this
    cases hw
    show some 0 = some (f 0)
    rw [h.1]
  | n + 1, w, v, hl, hw => by
    rcases List.eq_nil_or_concat w with rfl | ⟨w', x, rfl⟩
    · cases hw
      show some 0 = some (f 0)
      rw [h.1]
    · rw [List.concat_eq_append] at hw hl ⊢
      obtain ⟨t, h1, h2, rfl⟩ := wk_snoc.1 hw
      have h3 := h.rwN n (w := w') (by simp at hl; omega) h1
      obtain ⟨h4, h5⟩ := h.2 t x ⟨w', h1⟩ h2
      exact wk_snoc.2 ⟨f t, h3, h4, h5.symm⟩
theorem Mp.rw {a b : List Ed} {f : Int → Int} (h : Mp a b f) {w : List Int} {v : Int} (hw : wk a 0 w = some v) : wk b 0 w = some (f v) := h.rwN _ (Nat.le_refl _) hw
theorem Mp.rR {a b : List Ed} {f : Int → Int} (h : Mp a b f) {v : Int} (hv : Rw a v) : Rw b (f v) := by
  obtain ⟨w, hw⟩ := hv
  exact ⟨w, h.rw hw⟩
theorem Mp.id_ {a : List Ed} {f : Int → Int} (h : Mp a a f) {v : Int} (hv : Rw a v) : f v = v := by
  obtain ⟨w, hw⟩ := hv
  have h1 := h.rw hw
  rw [hw] at h1; exact (Option.some.inj h1).symm
theorem Mp.inv {a b : List Ed} {f g : Int → Int} (h : Mp a b f) (h' : Mp b a g) {v : Int} (hv : Rw a v) : g (f v) = v := by
  obtain ⟨w, hw⟩ := hv
  have h1 := h'.rw (h.rw hw)
  rw [hw] at h1; exact (Option.some.inj h1).symm
theorem Mp.inj {a b : List Ed} {f g : Int → Int} (h : Mp a b f) (h' : Mp b a g) {v u : Int} (hv : Rw a v) (hu : Rw a u) (e : f v = f u) : v = u := by
  rw [← h.inv h' hv, ← h.inv h' hu, e]
theorem Mp.back {a b : List Ed} {f g : Int → Int} (h : Mp a b f) (h' : Mp b a g) {v x : Int} (hv : Rw a v) (hx : 0 ≤ nx b (f v) x) : 0 ≤ nx a v x := by
  have := (h'.2 _ _ (h.rR hv) hx).1
  rwa [h.inv h' hv] at this
def mpB (f : Int → Int) (st : BS) : BS := st.map fun p => (f p.1, p.2)
theorem mpB_len (f : Int → Int) (st : BS) : (mpB f st).length = st.length := by simp [mpB]
theorem mpB_vxs (f : Int → Int) (st : BS) : vxs (mpB f st) = (vxs st).map f := by simp [mpB, vxs, Function.comp_def]
theorem mpB_at {f : Int → Int} {st : BS} {i : Nat} (h : i < st.length) : bsa (mpB f st) i = (f (bsa st i).1, (bsa st i).2) := by
  simp [bsa, mpB, h]
def AllR (a : List Ed) (st : BS) : Prop := ∀ u ∈ vxs st, Rw a u
theorem bsa_mem {st : BS} {i : Nat} (h : i < st.length) : (bsa st i).1 ∈ vxs st := by
  rw [← vxs_ix]; exact ix_mem (by rw [vxs_len]; exact h)
theorem step_mp {a b : List Ed} {f g : Int → Int} (h : Mp a b f) (h' : Mp b a g) {p : Int × List Int} {x : Int} {st : BS} (hp : Rw a p.1) (hst : AllR a st) :
    bStep b (f p.1, p.2) x (mpB f st) = mpB f (bStep a p x st) ∧ AllR a (bStep a p x st) := by
  unfold bStep
  by_cases hx : 0 ≤ nx a p.1 x
  · obtain ⟨h1, h2⟩ := h.2 _ _ hp hx
    have hn := hp.next hx
    by_cases hm : nx a p.1 x ∈ vxs st
    · rw [if_neg (fun hh => hh.2 (by rw [mpB_vxs, h2]; exact List.mem_map.2 ⟨_, hm, rfl⟩)), if_neg (fun hh => hh.2 hm)]
      exact ⟨rfl, hst⟩
    · rw [if_pos ⟨h1, fun hh => by
        rw [mpB_vxs, h2] at hh
        obtain ⟨u, hu, e⟩ := List.mem_map.1 hh
        exact hm ((h.inj h' (hst u hu) hn e) ▸ hu)⟩, if_pos ⟨hx, hm⟩]
      refine ⟨by simp [mpB, h2], fun u hu => ?_⟩
      rw [vxs_app] at hu
      rcases List.mem_append.1 hu with hu | hu
      · exact hst u hu
      · rw [List.mem_singleton] at hu; subst hu; exact hn
  · rw [if_neg (fun hh => hx (h.back h' hp hh.1)), if_neg (fun hh => hx hh.1)]
    exact ⟨rfl, hst⟩
theorem in_mp {a b : List Ed} {f g : Int → Int} {ls : List Int} (h : Mp a b f) (h' : Mp b a g) {p : Int × List Int} {st : BS} (hp : Rw a p.1) (hst : AllR a st) : ∀ k,
    bIn b ls (f p.1, p.2) (mpB f st) k = mpB f (bIn a ls p st k) ∧ AllR a (bIn a ls p st k)
  | 0 => ⟨rfl, hst⟩
  | k + 1 => by
    obtain ⟨h1, h2⟩ := in_mp (ls := ls) h h' hp hst k
    rw [bIn, bIn, h1]
    exact step_mp h h' hp h2
theorem out_mp {a b : List Ed} {f g : Int → Int} {ls : List Int} (h : Mp a b f) (h' : Mp b a g) : ∀ n, bOut b ls 0 n = mpB f (bOut a ls 0 n) ∧ AllR a (bOut a ls 0 n)
  | 0 => ⟨by simp [bOut, mpB, h.1], fun u hu => by
    simp [bOut, vxs] at hu; subst hu; exact Rw.zero a⟩
  | n + 1 => by
    obtain ⟨h1, h2⟩ := out_mp (ls := ls) h h' n
    rw [bOut, bOut, h1, mpB_len]
    by_cases hn : n < (bOut a ls 0 n).length
    · rw [if_pos hn, if_pos hn, mpB_at hn]
      exact in_mp h h' (h2 _ (bsa_mem hn)) h2 _
    · rw [if_neg hn, if_neg hn]; exact ⟨rfl, h2⟩
theorem bfs_mp {r z z' : Int} {a b : List Ed} {f g : Int → Int} (h : Mp a b f) (h' : Mp b a g) (ha : isG r z a = true) (hb : isG r z' b = true) : bfs r z' b 0 = mpB f (bfs r z a 0) := by
  have hz := isG_z ha
  have hz' := isG_z hb
  have e1 : ∀ {r z : Int} {es : List Ed} (n : Nat), isG r z es = true → z.toNat ≤ n → bOut es (lts r.toNat) 0 n = bfs r z es 0 := by
    intro r z es n hg hn
    have hzz := isG_z hg
    have hl := (BI_bfs (v := 0) hg (by omega)).len (by omega)
    unfold bfs at hl ⊢
    obtain ⟨k, rfl⟩ : ∃ k, n = z.toNat + k := ⟨n - z.toNat, by omega⟩
    clear hn
    induction k with
    | zero => rfl
    | succ k ih =>
      rw [← Nat.add_assoc, bOut, ih, if_neg (by omega)]
  rw [← e1 (z.toNat + z'.toNat) hb (by omega), ← e1 (z.toNat + z'.toNat) ha (by omega)]
  exact (out_mp h h' _).1
end Go.Proofs.Tryz
