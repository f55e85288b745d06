import Derived.Test.YtdhnpicnaajdfaaGreatY
set_option linter.unusedVariables false
set_option linter.unusedSimpArgs false
set_option linter.unnecessarySimpa false
/- Plain: graphs without leaves under new numbers; the base moved in a graph without a tail. -/
namespace Go.Proofs.Tryz
open Go Go.Eng
theorem Rch.trans {es : List Ed} {a b c : Int} (h : Rch es a b) (h2 : Rch es b c) : Rch es a c := by
  induction h2 with
  | base => exact h
  | fwd he _ ih => exact .fwd he ih
  | bwd he _ ih => exact .bwd he ih
theorem Rch.symm {es : List Ed} {a b : Int} (h : Rch es a b) : Rch es b a := by
  induction h with
  | base => exact .base
  | fwd he _ ih => exact Rch.trans (.bwd he .base) ih
  | bwd he _ ih => exact Rch.trans (.fwd he .base) ih
/-- No leaves but b; everything can be reached from b. -/
structure Lfs (g : Gr) (b : Int) : Prop where
  dg : ∀ v, 0 ≤ v → v < g.z → v ≠ b → 2 ≤ deg g.es v
  rc : ∀ v, 0 ≤ v → v < g.z → Rch g.es b v
theorem lfs_iff {g : Gr} (hg : g.ok = true) : gone g = 0 ↔ Lfs g 0 := by
  classical
  have hz := ok_z hg
  constructor
  · intro h
    refine ⟨fun v h0 h1 hv => ?_, fun v h0 h1 => ?_⟩
    · have hl := gone_no h (v := v) (by omega) h1
      simp only [lf, Bool.or_eq_false_iff, decide_eq_false_iff_not] at hl
      have : ¬ deg g.es v < 2 := hl.1
      omega
    · rcases (show v = 0 ∨ 1 ≤ v by omega) with h2 | h2
      · rw [h2]; exact .base
      · have hl := gone_no h h2 h1
        simp only [lf, Bool.or_eq_false_iff, Bool.not_eq_false'] at hl
        exact (rl_mem.1 (by simpa using hl.2)).2
  · rintro ⟨h1, h2⟩
    refine Decidable.byContradiction fun hne => ?_
    have hin := gone_in (g := g)
    have hlf : lf g (gone g) = true := goneN_lf hne
    have h3 := h1 _ hin.1 (hin.2 hne) hne
    have h4 := h2 _ hin.1 (hin.2 hne)
    have h5 : gone g ∈ rl g.es 0 g.z := rl_mem.2 ⟨⟨hin.1, hin.2 hne⟩, h4⟩
    unfold lf at hlf
    rw [Bool.or_eq_true] at hlf
    rcases hlf with h | h
    · have := of_decide_eq_true h; omega
    · simp [h5] at h
theorem ix_get {o : List Int} {i : Nat} (h : i < o.length) : ix o i = o[i] := by simp [ix, h]
theorem pos_ix {o : List Int} (hn : o.Nodup) {i : Nat} (hi : i < o.length) : pos o o.length (ix o i) = i := by
  have h0 : 0 ≤ pos o o.length (ix o i) := by
    rcases (show pos o o.length (ix o i) < 0 ∨ 0 ≤ pos o o.length (ix o i) by omega) with h | h
    · have := (pos_neg (Nat.le_refl _)).1 h
      rw [List.take_length] at this
      exact (this (ix_mem hi)).elim
    · exact h
  have h1 := pos_at h0
  have h2 : (pos o o.length (ix o i)).toNat = i := by
    have e1 : ix o (pos o o.length (ix o i)).toNat = o[(pos o o.length (ix o i)).toNat]'h1.2 := ix_get h1.2
    have e2 : ix o i = o[i] := ix_get hi
    rcases Nat.lt_trichotomy (pos o o.length (ix o i)).toNat i with h3 | h3 | h3
    · exact (List.pairwise_iff_getElem.1 hn _ _ h1.2 hi h3 (by rw [← e1, ← e2, ← h1.1])).elim
    · exact h3
    · exact (List.pairwise_iff_getElem.1 hn _ _ hi h1.2 h3 (by rw [← e1, ← e2, ← h1.1])).elim
  omega
theorem full_rch {r z b v : Int} {es : List Ed} {o : List Int} (hg : isG r z es = true) (h : Full_ o z) (hr : Rch es b v) : Rch (prt o ⟨r, z, es⟩).es (pos o o.length b) (pos o o.length v) := by
  have hR := (isG_iff.1 hg).2.2
  induction hr with
  | base => exact .base
  | fwd he _ ih =>
    have h3 := hR _ he
    unfold inR at h3
    exact Rch.fwd (prt_mem.2 ⟨_, he, full_pos h ⟨h3.1, h3.2.1⟩, full_pos h ⟨h3.2.2.1, h3.2.2.2.1⟩, rfl⟩) ih
  | bwd he _ ih =>
    have h3 := hR _ he
    unfold inR at h3
    exact Rch.bwd (prt_mem.2 ⟨_, he, full_pos h ⟨h3.1, h3.2.1⟩, full_pos h ⟨h3.2.2.1, h3.2.2.2.1⟩, rfl⟩) ih
theorem full_at {o : List Int} {z v : Int} (h : Full_ o z) (hz : 0 ≤ z) (h0 : 0 ≤ v) (h1 : v < z) : 0 ≤ ix o v.toNat ∧ ix o v.toNat < z ∧ pos o o.length (ix o v.toNat) = v := by
  have hl := full_len h hz
  have hi : v.toNat < o.length := by omega
  have hm := (h.mem _).1 (ix_mem hi)
  have := pos_ix h.nd hi
  exact ⟨hm.1, hm.2, by omega⟩
theorem full_lfs {r z b : Int} {es : List Ed} {o : List Int} (hg : isG r z es = true) (h : Full_ o z) (hl : Lfs ⟨r, z, es⟩ b) (hb : pos o o.length b = 0) : Lfs (prt o ⟨r, z, es⟩) 0 := by
  have hz := isG_z hg
  have hlen := full_len h (by omega)
  have hz2 : (prt o ⟨r, z, es⟩).z = z := hlen
  refine ⟨fun v h0 h1 hv => ?_, fun v h0 h1 => ?_⟩
  · rw [hz2] at h1
    obtain ⟨a1, a2, a3⟩ := full_at h (by omega) h0 h1
    rw [← a3, full_deg hg h ⟨a1, a2⟩]
    exact hl.dg _ a1 a2 fun e => by rw [e, hb] at a3; omega
  · rw [hz2] at h1
    obtain ⟨a1, a2, a3⟩ := full_at h (by omega) h0 h1
    have := full_rch hg h (hl.rc _ a1 a2)
    rwa [hb, a3] at this
/-- The canonical order of a graph in which everything can be reached. -/
theorem canO_full {r z : Int} {es : List Ed} (hf : isF r z es = true) (hr : ∀ v, 0 ≤ v → v < z → Rch es 0 v) : Full_ (canO r z es) z ∧ pos (canO r z es) (canO r z es).length 0 = 0 := by
  have hz := isG_z (isF_g hf)
  have hB := BI_bfs (v := 0) (isF_g hf) (by omega)
  rw [canO_yes hf]
  have hfull : Full_ (vxs (bfs r z es 0)) z := ⟨hB.nd, fun u => ⟨fun h => hB.inz _ h, fun h => rch_bfs hf (by omega) (hr u h.1 h.2)⟩⟩
  refine ⟨hfull, ?_⟩
  have h0 : ix (vxs (bfs r z es 0)) 0 = 0 := by rw [vxs_ix, bfs_bsa0]
  have := pos_ix hfull.nd (i := 0) (by rw [vxs_len]; exact hB.pos)
  rw [h0] at this
  exact this
theorem canG_lfs {r z : Int} {es : List Ed} (hf : isF r z es = true) (hl : Lfs ⟨r, z, es⟩ 0) : Lfs (canG ⟨r, z, es⟩) 0 ∧ (canG ⟨r, z, es⟩).z = z ∧ (canG ⟨r, z, es⟩).es.length = es.length := by
  have hz := isG_z (isF_g hf)
  obtain ⟨h1, h2⟩ := canO_full hf hl.rc
  rw [canG_yes hf]
  exact ⟨full_lfs (isF_g hf) h1 hl h2, full_len h1 (by omega), full_eslen (isF_g hf) h1⟩
theorem rch_no {es : List Ed} {v : Int} (h : deg es 0 = 0) (hr : Rch es 0 v) : v = 0 := by
  induction hr with
  | base => rfl
  | fwd he _ ih =>
    have := cnt_pos.2 ⟨_, he, .inl ih⟩
    omega
  | bwd he _ ih =>
    have := cnt_pos.2 ⟨_, he, .inr ih⟩
    omega
/-- The base moved: no vertex and no edge is lost where there is no tail. -/
theorem movG_same {r z v : Int} {es : List Ed} (hf : isF r z es = true) (hg : gone ⟨r, z, es⟩ = 0) (hc : ¬ cyOn ⟨r, z, es⟩) (hv : 0 ≤ v ∧ v < z) : (movG ⟨r, z, es⟩ v).z = z ∧ (movG ⟨r, z, es⟩ v).es.length = es.length := by
  have hG := isF_g hf
  have hz := isG_z hG
  have hl := (lfs_iff (g := ⟨r, z, es⟩) hG).1 hg
  have hlv : Lfs ⟨r, z, es⟩ v := by
    refine ⟨fun u h0 h1 hu => ?_, fun u h0 h1 => (hl.rc v hv.1 hv.2).symm.trans (hl.rc u h0 h1)⟩
    by_cases h2 : u = 0
    · have hz1 : 1 < z := by have : u < z := h1; omega
      have hd1 : ¬ deg es 0 = 1 := fun h => hc ⟨hz1, h⟩
      have hd0 : ¬ deg es 0 = 0 := fun h => by
        have := rch_no h (hl.rc 1 (by omega) hz1)
        omega
      have hd2 : 0 ≤ deg es 0 := by rw [deg_cnt]; omega
      rw [h2]
      show 2 ≤ deg es 0
      omega
    · exact hl.dg u h0 h1 h2
  rw [movG_yes hf hv]
  have hfull := mvO_full hv
  have hlen := full_len hfull (by omega)
  have hF := prt_F hf (mvO_ren hG hv)
  have hp0 : pos (mvO z v) (mvO z v).length v = 0 := by
    have := pos_ix hfull.nd (i := 0) (by simp [mvO])
    have hx : ix (mvO z v) 0 = v := by simp [mvO, ix]
    rw [hx] at this
    exact this
  have hl1 := full_lfs hG hfull hlv hp0
  have he1 := full_eslen hG hfull
  generalize hg1 : prt (mvO z v) ⟨r, z, es⟩ = g1 at *
  have hz1 : g1.z = z := by rw [← hg1]; exact hlen
  have hok : g1.ok = true := isF_g hF
  have h1 : (foldO [] g1).1 = g1 := by
    have := foldO_self hF
    rw [show (⟨g1.r, g1.z, g1.es⟩ : Gr) = g1 from rfl] at this
    rw [this]
  unfold coreG
  rw [h1, trim_self hok ((lfs_iff hok).2 hl1)]
  have h2 := canG_lfs (r := g1.r) (z := g1.z) (es := g1.es) hF hl1
  have h3 : (canG g1).z = g1.z := h2.2.1
  have h4 : (canG g1).es.length = g1.es.length := h2.2.2
  exact ⟨by rw [h3, hz1], by rw [h4, he1]⟩
/-! ### The first vertex to which the base may be moved -/
def eqG (a b : Gr) : Prop := a.r = b.r ∧ a.z = b.z ∧ a.es = b.es
instance (a b : Gr) : Decidable (eqG a b) := inferInstanceAs (Decidable (_ ∧ _ ∧ _))
end Go.Proofs.Tryz
