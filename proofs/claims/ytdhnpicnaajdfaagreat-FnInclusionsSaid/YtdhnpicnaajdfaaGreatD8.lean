import Derived.Test.YtdhnpicnaajdfaaGreatD7
import Derived.Test.YtdhnpicnaajdfaaGreatD5
set_option linter.unusedVariables false
set_option linter.unusedSimpArgs false
set_option linter.unnecessarySimpa false
/- Plain: canonical numbers. -/
namespace Go.Proofs.Tryz
open Go Go.Eng
set_option linter.unnecessarySimpa false
set_option linter.unusedSimpArgs false
set_option maxHeartbeats 4000000
theorem rw_bfs {r z v : Int} {es : List Ed} (hf : isF r z es = true) (h : Rw es v) : v ∈ vxs (bfs r z es 0) := by
  have hz := isG_z (isF_g hf)
  obtain ⟨w, hw⟩ := h
  have key : ∀ (n : Nat) {w : List Int} {v : Int}, w.length ≤ n → wk es 0 w = some v → v ∈ vxs (bfs r z es 0) := by
    intro n
    induction n with
    | zero =>
      intro w v hl hw
      have : w = [] := List.eq_nil_of_length_eq_zero (by omega)
      subst this; cases hw; exact bfs_0
    | succ n ih =>
      intro w v hl hw
      rcases List.eq_nil_or_concat w with rfl | ⟨w', x, rfl⟩
      · cases hw; exact bfs_0
      · rw [List.concat_eq_append] at hw hl
        obtain ⟨t, h1, h2, rfl⟩ := wk_snoc.1 hw
        exact bfs_step (isF_g hf) (by omega) (ih (by simp at hl; omega) h1) h2
  exact key _ (Nat.le_refl _) hw
theorem bfs_rw {r z v : Int} {es : List Ed} (hf : isF r z es = true) (h : v ∈ vxs (bfs r z es 0)) : Rw es v := by
  obtain ⟨j, hj, e⟩ := List.mem_iff_getElem.1 h
  rw [vxs_len] at hj
  refine ⟨(bsa (bfs r z es 0) j).2, ?_⟩
  · rw [wk_tree hf hj, ← vxs_ix, ix, List.getD_eq_getElem?_getD, List.getElem?_eq_getElem (by rw [vxs_len]; exact hj), e]; rfl
theorem bfs_renV {r z : Int} {es : List Ed} (hf : isF r z es = true) : renV ⟨r, z, es⟩ (vxs (bfs r z es 0)) = true := by
  have hz := isG_z (isF_g hf)
  have hB := BI_bfs (v := 0) (isF_g hf) (by omega)
  have hl := hB.len (by omega)
  rw [renV_iff]
  refine ⟨isF_g hf, ⟨by rw [vxs_len]; exact hB.pos, by rw [vxs_len]; omega⟩, renOk_of hB.nd hB.inz (Nat.le_refl _)⟩
/-- The renumbering by the search, both ways. -/
theorem can_mp {r z : Int} {es : List Ed} (hf : isF r z es = true) : Mp es (canG ⟨r, z, es⟩).es (pos (vxs (bfs r z es 0)) (bfs r z es 0).length) ∧ Mp (canG ⟨r, z, es⟩).es es (fun i => ix (vxs (bfs r z es 0)) i.toNat) := by
  have hz := isG_z (isF_g hf)
  have hB := BI_bfs (v := 0) (isF_g hf) (by omega)
  have hV := bfs_renV hf
  have hF := prt_F hf hV
  rw [canG_yes hf, canO_yes hf]
  have hol := vxs_len (bfs r z es 0)
  have hnd : (vxs (bfs r z es 0)).Nodup := hB.nd
  rw [← hol]
  generalize ho : vxs (bfs r z es 0) = o at *
  have hpos : ∀ {i : Nat}, i < o.length → pos o o.length (ix o i) = i := fun hi => pos_ix hnd hi
  have hin : ∀ {v : Int}, v ∈ o → ∃ i, i < o.length ∧ ix o i = v := fun hv => by
    obtain ⟨j, hj, e⟩ := List.mem_iff_getElem.1 hv
    exact ⟨j, hj, by rw [ix_get hj]; exact e⟩
  have h00 : ix o 0 = 0 := by rw [← ho, vxs_ix, bfs_bsa0]
  have hp0 : pos o o.length 0 = 0 := by
    have := hpos (i := 0) (by rw [hol]; exact hB.pos)
    rw [h00] at this; exact this
  have hposm : ∀ {v : Int}, v ∈ o → 0 ≤ pos o o.length v ∧ ix o (pos o o.length v).toNat = v := fun hv => by
    obtain ⟨i, hi, rfl⟩ := hin hv
    rw [hpos hi]
    exact ⟨by omega, by rw [show ((i : Int)).toNat = i by omega]⟩
  constructor
  · refine ⟨hp0, fun v x hv hx => ?_⟩
    have hvo : v ∈ o := ho ▸ rw_bfs hf hv
    have huo : nx es v x ∈ o := ho ▸ rw_bfs hf (hv.next hx)
    have hvp := hposm hvo
    have hup := hposm huo
    obtain ⟨hx0, hxe⟩ := nx_edge hx
    have hn : nx (prt o ⟨r, z, es⟩).es (pos o o.length v) x = pos o o.length (nx es v x) := by
      refine (nx_iff hF hup.1).2 ⟨hx0, ?_⟩
      split
      · rename_i hneg
        rw [if_pos hneg] at hxe
        exact prt_mem.2 ⟨_, hxe, hup.1, hvp.1, rfl⟩
      · rename_i hneg
        rw [if_neg hneg] at hxe
        exact prt_mem.2 ⟨_, hxe, hvp.1, hup.1, rfl⟩
    exact ⟨by rw [hn]; exact hup.1, hn⟩
  · refine ⟨h00, fun v x _ hx => ?_⟩
    obtain ⟨hx0, hxe⟩ := nx_edge hx
    generalize hu : nx (prt o ⟨r, z, es⟩).es v x = u at *
    have back : ∀ {p : Int}, 0 ≤ pos o o.length p → ix o (pos o o.length p).toNat = p := fun {p} h => (pos_at h).1.symm
    split at hxe
    · rename_i hneg
      obtain ⟨⟨a, l, b⟩, hm, h1, h2, e⟩ := prt_mem.1 hxe
      simp only [mvE, Prod.mk.injEq] at e
      obtain ⟨rfl, e2, rfl⟩ := e
      simp only at h1 h2
      have hR := (isG_iff.1 (isF_g hf)).2.2 _ hm
      unfold inR at hR
      simp only at hR
      have : nx es b x = a := (nx_iff hf (by omega)).2 ⟨hx0, by rw [if_pos hneg, e2]; exact hm⟩
      simp only [back h1, back h2]
      rw [this]
      exact ⟨by omega, rfl⟩
    · rename_i hneg
      obtain ⟨⟨a, l, b⟩, hm, h1, h2, e⟩ := prt_mem.1 hxe
      simp only [mvE, Prod.mk.injEq] at e
      obtain ⟨rfl, e2, rfl⟩ := e
      simp only at h1 h2
      have hR := (isG_iff.1 (isF_g hf)).2.2 _ hm
      unfold inR at hR
      simp only at hR
      have : nx es a x = b := (nx_iff hf (by omega)).2 ⟨hx0, by rw [if_neg hneg, e2]; exact hm⟩
      simp only [back h1, back h2]
      rw [this]
      exact ⟨by omega, rfl⟩
end Go.Proofs.Tryz
