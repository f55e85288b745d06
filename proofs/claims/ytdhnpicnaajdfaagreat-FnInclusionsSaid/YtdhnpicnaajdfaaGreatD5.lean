import Derived.Test.YtdhnpicnaajdfaaGreatR3
import Derived.Test.YtdhnpicnaajdfaaGreatT7
import Derived.Test.YtdhnpicnaajdfaaGreatR
set_option linter.unusedVariables false
set_option linter.unusedSimpArgs false
set_option linter.unnecessarySimpa false
/- Plain: trees of connected folded graphs. -/
namespace Go.Proofs.Tryz
open Go Go.Eng
set_option linter.unnecessarySimpa false
set_option linter.unusedSimpArgs false
set_option maxHeartbeats 4000000
theorem conn_rch {r z v : Int} {es : List Ed} (h : conn ⟨r, z, es⟩ = true) (h0 : 0 ≤ v) (h1 : v < z) : Rch es 0 v := by
  have hl : ((rl es 0 z).length : Int) = z := by
    simp only [conn, Bool.and_eq_true, decide_eq_true_eq] at h; exact h.2
  by_cases hc : Rch es 0 v
  · exact hc
  · exfalso
    have hn := asc_nodup (rl_asc es 0 z)
    have hm : ∀ u ∈ rl es 0 z, 0 ≤ u ∧ u < z := fun u hu => (rl_mem.1 hu).1
    have hv : v ∉ rl es 0 z := fun hu => hc (rl_mem.1 hu).2
    have := nodup_len (l := v :: rl es 0 z) (z := z) (by omega) (List.nodup_cons.2 ⟨hv, hn⟩) (fun u hu => by
      rcases List.mem_cons.1 hu with rfl | hu
      · exact ⟨h0, h1⟩
      · exact hm u hu)
    simp only [List.length_cons] at this
    omega
theorem conn_all {r z : Int} {es : List Ed} (hf : isF r z es = true) (h : conn ⟨r, z, es⟩ = true) : allB r z es := fun v h0 h1 => by
  have hz := isG_z (isF_g hf)
  have := rch_bfs hf (v := 0) (by omega) (conn_rch h h0 h1)
  obtain ⟨j, hj, e⟩ := List.mem_iff_getElem.1 this
  rw [vxs_len] at hj
  refine ⟨j, hj, ?_⟩
  rw [← vxs_ix, ix, List.getD_eq_getElem?_getD, List.getElem?_eq_getElem (by rw [vxs_len]; exact hj), e]; rfl
theorem allB_len {r z : Int} {es : List Ed} (hf : isF r z es = true) (ha : allB r z es) : ((bfs r z es 0).length : Int) = z := by
  have hz := isG_z (isF_g hf)
  have hB := BF_bfs hf
  have h1 := bfs_len (v := 0) (isF_g hf) (by omega)
  have hfull : Full_ (vxs (bfs r z es 0)) z := ⟨hB.nd, fun u => ⟨fun hu => by
    exact (BI_bfs (v := 0) (isF_g hf) (by omega)).inz u hu, fun ⟨h0, h2⟩ => by
    obtain ⟨j, hj, e⟩ := ha u h0 h2
    rw [← e, ← vxs_ix]; exact ix_mem (by rw [vxs_len]; exact hj)⟩⟩
  have := full_len hfull (by omega)
  rwa [vxs_len] at this
theorem lpO_wk {r z : Int} {es : List Ed} {e : Ed} (hf : isF r z es = true) (ha : allB r z es) : wk es 0 (lpO r z es e) = some 0 := by
  by_cases he : e ∈ es
  · have h3 := (isG_iff.1 (isF_g hf)).2.2 _ he
    unfold inR at h3
    rw [lpO_yes ⟨hf, he⟩, twd_pw hf ⟨by omega, by omega⟩, twd_pw hf ⟨by omega, by omega⟩]
    exact wk_red hf (bwd_wk hf ha he)
  · rw [lpO_no (fun h => he h.2)]; rfl
/-- The loop of an edge reads from the base to the base. -/
theorem trees_loop {r z : Int} {es : List Ed} {e : Ed} (hf : isF r z es = true) (h : conn ⟨r, z, es⟩ = true) : wkB r z es 0 (lpO r z es e) = true ∧ wkV r z es 0 (lpO r z es e) = 0 := by
  have hz := isG_z (isF_g hf)
  obtain ⟨h1, h2⟩ := wk_rd.1 (lpO_wk (e := e) hf (conn_all hf h))
  have hb : wkB r z es 0 (lpO r z es e) = true := by
    simp only [wkB, Bool.and_eq_true, decide_eq_true_eq]
    exact ⟨⟨hf, by omega, by omega⟩, h1⟩
  exact ⟨hb, by unfold wkV; rw [if_pos hb, h2]⟩
end Go.Proofs.Tryz
