import Derived.Test.YtdhnpicnaajdfaaGreatD11
set_option linter.unusedVariables false
set_option linter.unusedSimpArgs false
set_option linter.unnecessarySimpa false
/- Plain: cores, orders of folds, inclusions both ways. -/
namespace Go.Proofs.Tryz
open Go Go.Eng
set_option linter.unnecessarySimpa false
set_option linter.unusedSimpArgs false
set_option maxHeartbeats 4000000
theorem foldO_id {g : Gr} (hf : isF g.r g.z g.es = true) : (foldO [] g).1 = g := by
  obtain ⟨r, z, es⟩ := g
  rw [foldO_self hf]
theorem trim_r {g : Gr} (hg : g.ok = true) : (trimG g).1.r = g.r := by
  unfold trimG
  rw [if_pos hg]
  exact (trm_ok hg 40).2.2.1
theorem canG_all {g : Gr} (hf : isF g.r g.z g.es = true) (ha : allR g.z g.es) : (canG g).z = g.z := by
  rw [canG_z hf, canO_yes hf, vxs_len]
  exact allB_len hf (allR_allB hf ha)
theorem trim_eq {a b : Gr} {f g : Int → Int} (hr : a.r = b.r) (ha : isF a.r a.z a.es = true) (hb : isF b.r b.z b.es = true) (h : EH a.es b.es f) (h' : EH b.es a.es g) : canG (trimG a).1 = canG (trimG b).1 := by
  have ta := trim_F ha
  have tb := trim_F hb
  obtain ⟨⟨p, hp⟩, _⟩ := trim_maps ha
  obtain ⟨⟨p', hp'⟩, _⟩ := trim_maps hb
  obtain ⟨s, hs⟩ := (trim_maps hb).2 ta (trim_done (isF_g ha)) (hp.comp h)
  obtain ⟨s', hs'⟩ := (trim_maps ha).2 tb (trim_done (isF_g hb)) (hp'.comp h')
  have e : (trimG b).1.r = (trimG a).1.r := by rw [trim_r (isF_g ha), trim_r (isF_g hb), hr]
  exact can_of e.symm ta tb (hs.mp tb) (hs'.mp ta)
theorem orders {g : Gr} (hc : conn g = true) (cs : List Int) : (foldO cs g).2.length = (foldO [] g).2.length ∧ canG (foldO cs g).1 = canG (foldO [] g).1 ∧ coreG g = coreG (foldO cs g).1 := by
  have hg : g.ok = true := by simp only [conn, Bool.and_eq_true] at hc; exact hc.1
  have ha : allR g.z g.es := conn_allR (r := g.r) hc
  obtain ⟨⟨p, hp⟩, a1, r1, u1⟩ := foldO_maps hg cs
  obtain ⟨⟨p', hp'⟩, a2, r2, u2⟩ := foldO_maps hg []
  have f1 := foldO_F (cs := cs) hg
  have f2 := foldO_F (cs := []) hg
  have s1 := foldO_size hg cs
  have s2 := foldO_size hg []
  obtain ⟨q, hq⟩ := u1 f2 hp'
  obtain ⟨q', hq'⟩ := u2 f1 hp
  have hcan : canG (foldO cs g).1 = canG (foldO [] g).1 := by
    exact can_of (r1.trans r2.symm) f1 f2 (hq.mp f2) (hq'.mp f1)
  have hz : (foldO cs g).1.z = (foldO [] g).1.z := by
    rw [← canG_all f1 (a1 ha), ← canG_all f2 (a2 ha), hcan]
  refine ⟨by omega, hcan, ?_⟩
  unfold coreG
  rw [foldO_id f1]
  exact trim_eq (r2.trans r1.symm) f2 f1 hq' hq
/-- Two cores that map to each other are the same. -/
theorem incl_eq {r z z' : Int} {a b : List Ed} (ha : isC r z a = true) (hb : isC r z' b = true) (h : Hom a b) (h' : Hom b a) : z = z' ∧ a = b := by
  obtain ⟨f, f0, hf⟩ := h
  obtain ⟨g, g0, hg⟩ := h'
  have := can_eq (isC_f ha) (isC_f hb) (Mp.of f0 hf) (Mp.of g0 hg)
  rw [isC_can ha, isC_can hb] at this
  exact ⟨congrArg Gr.z this, congrArg Gr.es this⟩
end Go.Proofs.Tryz
