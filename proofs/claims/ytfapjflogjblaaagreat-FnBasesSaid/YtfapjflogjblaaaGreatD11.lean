import Derived.Test.YtfapjflogjblaaaGreatD8
import Derived.Test.YtfapjflogjblaaaGreatD6
set_option maxHeartbeats 16000000
set_option maxRecDepth 20000
set_option linter.unusedVariables false
set_option linter.unusedSimpArgs false
set_option linter.unnecessarySimpa false
namespace Go.Proofs.Tryz
open Go Go.Eng
structure EH (a b : List Ed) (q : Int → Int) : Prop where
  z0 : q 0 = 0
  ed : ∀ e ∈ a, (q e.1, e.2.1, q e.2.2) ∈ b
theorem EH.comp {a b c : List Ed} {q p : Int → Int} (h : EH a b q) (h' : EH b c p) : EH a c (fun v => p (q v)) :=
  ⟨by show p (q 0) = 0; rw [h.z0, h'.z0], fun e he => h'.ed _ (h.ed e he)⟩
theorem EH.id_ (a : List Ed) : EH a a fun v => v := ⟨rfl, fun _ he => he⟩
theorem EH.nx {r z : Int} {a b : List Ed} {q : Int → Int} (hb : isF r z b = true) (h : EH a b q) (v x : Int) (hx : 0 ≤ nx a v x) : 0 ≤ nx b (q v) x ∧ nx b (q v) x = q (nx a v x) := by
  obtain ⟨h0, h1⟩ := nx_edge hx
  generalize Go.Proofs.Tryz.nx a v x = u at *
  split at h1
  · rename_i hn
    have h2 := h.ed _ h1
    have h3 := (isG_iff.1 (isF_g hb)).2.2 _ h2
    unfold inR at h3
    simp only at h3 h2
    have : Go.Proofs.Tryz.nx b (q v) x = q u := (nx_iff hb (by omega)).2 ⟨h0, by rw [if_pos hn]; exact h2⟩
    exact ⟨by omega, this⟩
  · rename_i hn
    have h2 := h.ed _ h1
    have h3 := (isG_iff.1 (isF_g hb)).2.2 _ h2
    unfold inR at h3
    simp only at h3 h2
    have : Go.Proofs.Tryz.nx b (q v) x = q u := (nx_iff hb (by omega)).2 ⟨h0, by rw [if_neg hn]; exact h2⟩
    exact ⟨by omega, this⟩
theorem EH.mp {r z : Int} {a b : List Ed} {q : Int → Int} (hb : isF r z b = true) (h : EH a b q) : Mp a b q := Mp.of h.z0 (h.nx hb)
theorem EH.rch {a b : List Ed} {q : Int → Int} (h : EH a b q) {v u : Int} (hr : Rch a v u) : Rch b (q v) (q u) := by
  induction hr with
  | base => exact .base
  | fwd he _ ih => exact Rch.fwd (h.ed _ he) ih
  | bwd he _ ih => exact Rch.bwd (h.ed _ he) ih
theorem merge_EH {g : Gr} {k d : Int} (h : mergeOk g k d = true) : EH g.es (merge g k d).es (fun v => newV v k d) := by
  obtain ⟨r, z, es⟩ := g
  obtain ⟨_, h0, h1, h2⟩ := mergeOk_iff.1 h
  rw [merge_yes h]
  exact ⟨by show newV 0 k d = 0; unfold newV; rw [if_neg (by omega), if_neg (by omega)], fun e he => norm_mem.2 (List.mem_map.2 ⟨e, he, rfl⟩)⟩
theorem fold_eq {r z : Int} {es b : List Ed} {f : Fd} {q : Int → Int} (hb : isF r z b = true) (hf : f ∈ foldsOf es) (h : EH es b q) : q f.1 = q f.2 := by
  obtain ⟨i, j, hij, hj, hm⟩ := foldsOf_mem hf
  have h1 := h.ed _ (ed_mem (show i < es.length by omega))
  have h2 := h.ed _ (ed_mem hj)
  generalize Go.Proofs.Tryz.ed es i = x at *
  generalize Go.Proofs.Tryz.ed es j = y at *
  have hmn : ∀ s t : Int, q s = q t → q (mnI s t) = q (mxI s t) := fun s t hh => by
    unfold mnI mxI; split <;> split <;> simp [hh]
  unfold pairF at hm
  split at hm
  · rename_i hl
    rcases List.mem_append.1 hm with hm | hm
    · split at hm
      · rename_i he
        rw [List.mem_singleton] at hm
        subst hm
        have := prF_mem (isF_p hb) h1 h2 (by simp [fd2, hl, he])
        exact hmn _ _ (congrArg (fun e : Ed => e.2.2) this)
      · cases hm
    · split at hm
      · rename_i he
        rw [List.mem_singleton] at hm
        subst hm
        have := prF_mem (isF_p hb) h1 h2 (by simp [fd2, hl, he])
        exact hmn _ _ (congrArg (fun e : Ed => e.1) this)
      · cases hm
  · cases hm
theorem EH.fac {g : Gr} {r z : Int} {b : List Ed} {f : Fd} {q : Int → Int} (hb : isF r z b = true) (hg : g.ok = true) (hf : f ∈ foldsOf g.es) (h : EH g.es b q) : ∃ q', EH (merge g f.1 f.2).es b q' := by
  have hk := folds_ok hg hf
  have he := fold_eq hb hf h
  obtain ⟨r1, z1, es⟩ := g
  obtain ⟨_, h0, h1, h2⟩ := mergeOk_iff.1 hk
  have hq : ∀ u, q (if f.2 ≤ newV u f.1 f.2 then newV u f.1 f.2 + 1 else newV u f.1 f.2) = q u := fun u => by
    unfold newV
    split
    · rename_i hu
      rw [if_neg (by omega), he, hu]
    · split
      · rw [if_pos (by omega), Int.sub_add_cancel]
      · rw [if_neg (by omega)]
  refine ⟨fun v => q (if f.2 ≤ v then v + 1 else v), by show q (if f.2 ≤ 0 then (0 : Int) + 1 else 0) = 0; rw [if_neg (by omega)]; exact h.z0, fun e hm => ?_⟩
  rw [merge_yes hk] at hm
  obtain ⟨x, hx, rfl⟩ := List.mem_map.1 (norm_mem.1 hm)
  show (q (if f.2 ≤ newV x.1 f.1 f.2 then newV x.1 f.1 f.2 + 1 else newV x.1 f.1 f.2), x.2.1, q (if f.2 ≤ newV x.2.2 f.1 f.2 then newV x.2.2 f.1 f.2 + 1 else newV x.2.2 f.1 f.2)) ∈ b
  rw [hq, hq]
  exact h.ed x hx
def allR (z : Int) (es : List Ed) : Prop := ∀ v, 0 ≤ v → v < z → Rch es 0 v
theorem merge_allR {g : Gr} {k d : Int} (h : mergeOk g k d = true) (ha : allR g.z g.es) : allR (merge g k d).z (merge g k d).es := fun v h0 h1 => by
  have hE := merge_EH h
  rw [merge_z h] at h1
  obtain ⟨r, z, es⟩ := g
  obtain ⟨_, k0, k1, k2⟩ := mergeOk_iff.1 h
  have e : newV (if d ≤ v then v + 1 else v) k d = v := by
    unfold newV
    split
    · rw [if_neg (by omega), if_pos (by omega)]; omega
    · rw [if_neg (by omega), if_neg (by omega)]
  have := hE.rch (ha (if d ≤ v then v + 1 else v) (by split <;> omega) (by simp only at h1; split <;> simp only <;> omega))
  rw [hE.z0] at this
  simp only [e] at this
  exact this
theorem fio_maps {g : Gr} (hg : g.ok = true) (cs : List Int) : ∀ i, (∃ p, EH g.es (fio cs g i).1.es p) ∧ (allR g.z g.es → allR (fio cs g i).1.z (fio cs g i).1.es) ∧ (fio cs g i).1.r = g.r ∧
    ∀ {r z : Int} {b : List Ed} {q : Int → Int}, isF r z b = true → EH g.es b q → ∃ q', EH (fio cs g i).1.es b q'
  | 0 => ⟨⟨_, EH.id_ _⟩, fun h => h, rfl, fun _ h => ⟨_, h⟩⟩
  | i + 1 => by
    obtain ⟨⟨p, h1⟩, h2, h3, h4⟩ := fio_maps hg cs i
    by_cases h : (foldsOf (fio cs g i).1.es).length = 0
    · have e := fio_stop h 1
      rw [e]; exact ⟨⟨p, h1⟩, h2, h3, h4⟩
    · have hok := (fio_ok (cs := cs) hg i).1
      rw [fio_succ h]
      have hm := fd_mem (pickF_lt (cs := cs) (i := i) (lenPos h))
      generalize fd (foldsOf (fio cs g i).1.es) (pickF cs (foldsOf (fio cs g i).1.es).length i) = f at *
      have hk := folds_ok hok hm
      refine ⟨⟨_, h1.comp (merge_EH hk)⟩, fun ha => merge_allR hk (h2 ha), merge_r.trans h3, fun hb hq => ?_⟩
      obtain ⟨q', hq'⟩ := h4 hb hq
      exact hq'.fac hb hok hm
theorem foldO_maps {g : Gr} (hg : g.ok = true) (cs : List Int) : (∃ p, EH g.es (foldO cs g).1.es p) ∧ (allR g.z g.es → allR (foldO cs g).1.z (foldO cs g).1.es) ∧ (foldO cs g).1.r = g.r ∧
    ∀ {r z : Int} {b : List Ed} {q : Int → Int}, isF r z b = true → EH g.es b q → ∃ q', EH (foldO cs g).1.es b q' := by
  rw [foldO_yes hg]; exact fio_maps hg cs 40
theorem prt_sub {r z z' : Int} {a b : List Ed} {f g : Int → Int} (ha : isF r z a = true) (hb : isF r z' b = true) (h : Mp a b f) (h' : Mp b a g) {e : Ed} (he : e ∈ (prt (vxs (bfs r z a 0)) ⟨r, z, a⟩).es) : e ∈ (prt (vxs (bfs r z' b 0)) ⟨r, z', b⟩).es := by
  have hz := isG_z (isF_g ha)
  have hz' := isG_z (isF_g hb)
  have hna : (vxs (bfs r z a 0)).Nodup := (BI_bfs (v := 0) (isF_g ha) (by omega)).nd
  have hnb : (vxs (bfs r z' b 0)).Nodup := (BI_bfs (v := 0) (isF_g hb) (by omega)).nd
  obtain ⟨⟨v, l, u⟩, hm, hv, hu, rfl⟩ := prt_mem.1 he
  simp only at hv hu
  have hR := (isG_iff.1 (isF_g ha)).2.2 _ hm
  unfold inR at hR
  simp only at hR
  have key : ∀ {v : Int}, 0 ≤ pos (vxs (bfs r z a 0)) (vxs (bfs r z a 0)).length v → Rw a v ∧ pos (vxs (bfs r z' b 0)) (vxs (bfs r z' b 0)).length (f v) = pos (vxs (bfs r z a 0)) (vxs (bfs r z a 0)).length v := fun {v} hv => by
    obtain ⟨e1, e2⟩ := pos_at hv
    have hi := pos_ix hna e2
    refine ⟨bfs_rw ha (by rw [e1]; exact ix_mem e2), ?_⟩
    have e3 : f v = ix (vxs (bfs r z' b 0)) (pos (vxs (bfs r z a 0)) (vxs (bfs r z a 0)).length v).toNat := by
      rw [bfs_mp h h' (isF_g ha) (isF_g hb), mpB_vxs]
      generalize (pos (vxs (bfs r z a 0)) (vxs (bfs r z a 0)).length v).toNat = n at *
      rw [e1]
      simp [ix, e2]
    rw [e3, pos_ix hnb (by rw [bfs_mp h h' (isF_g ha) (isF_g hb), mpB_vxs, List.length_map]; exact e2)]
    omega
  obtain ⟨r1, k1⟩ := key hv
  obtain ⟨r2, k2⟩ := key hu
  have h4 := edge_nx ha hm
  simp only at h4
  obtain ⟨h5, h6⟩ := h.2 v l r1 (by omega)
  obtain ⟨h7, h8⟩ := nx_edge h5
  rw [h6, h4.1, if_neg (by omega)] at h8
  refine prt_mem.2 ⟨_, h8, by simp only; omega, by simp only; omega, ?_⟩
  simp only [mvE, k1, k2]
theorem can_eq {r z z' : Int} {a b : List Ed} {f g : Int → Int} (ha : isF r z a = true) (hb : isF r z' b = true) (h : Mp a b f) (h' : Mp b a g) : canG ⟨r, z, a⟩ = canG ⟨r, z', b⟩ := by
  have hl : (vxs (bfs r z' b 0)).length = (vxs (bfs r z a 0)).length := by
    rw [bfs_mp h h' (isF_g ha) (isF_g hb), mpB_vxs, List.length_map]
  have he : (prt (vxs (bfs r z a 0)) ⟨r, z, a⟩).es = (prt (vxs (bfs r z' b 0)) ⟨r, z', b⟩).es :=
    asc_ext (norm_asc _) (norm_asc _) fun e => ⟨prt_sub ha hb h h', prt_sub hb ha h' h⟩
  rw [canG_yes ha, canG_yes hb, canO_yes ha, canO_yes hb]
  have e1 : ∀ (o : List Int) (g : Gr), prt o g = ⟨g.r, o.length, (prt o g).es⟩ := fun _ _ => rfl
  rw [e1 (vxs (bfs r z a 0)), e1 (vxs (bfs r z' b 0)), hl, he]
theorem can_of {a b : Gr} {f g : Int → Int} (hr : a.r = b.r) (ha : isF a.r a.z a.es = true) (hb : isF b.r b.z b.es = true) (h : Mp a.es b.es f) (h' : Mp b.es a.es g) : canG a = canG b := by
  obtain ⟨r, z, es⟩ := a
  obtain ⟨r', z', es'⟩ := b
  simp only at hr ha hb h h'
  subst hr
  exact can_eq ha hb h h'
theorem countP_two {α : Type} {l : List α} {p : α → Bool} {a b : α} (ha : a ∈ l) (hb : b ∈ l) (pa : p a = true) (pb : p b = true) (h : a ≠ b) : 2 ≤ l.countP p := by
  rw [List.countP_eq_length_filter]
  have h1 : a ∈ l.filter p := List.mem_filter.2 ⟨ha, pa⟩
  have h2 : b ∈ l.filter p := List.mem_filter.2 ⟨hb, pb⟩
  generalize l.filter p = m at *
  match m with
  | [] => cases h1
  | [x] => rw [List.mem_singleton] at h1 h2; exact absurd (h1.trans h2.symm) h
  | x :: y :: m => simp
theorem deg_ge {es : List Ed} {v x y : Int} (hx : 0 ≤ nx es v x) (hy : 0 ≤ nx es v y) (h : x ≠ y) : 2 ≤ deg es v := by
  obtain ⟨x0, hx⟩ := nx_edge hx
  obtain ⟨y0, hy⟩ := nx_edge hy
  rw [deg_cnt]
  unfold cnt
  split at hx <;> split at hy
  · have := countP_two (p := fun e : Ed => decide (e.2.2 = v)) hx hy (by simp) (by simp) (by simp; omega)
    omega
  · have h3 : 0 < (es.countP fun e => decide (e.1 = v)) := List.countP_pos_iff.2 ⟨_, hy, by simp⟩
    have h4 : 0 < (es.countP fun e => decide (e.2.2 = v)) := List.countP_pos_iff.2 ⟨_, hx, by simp⟩
    omega
  · have h3 : 0 < (es.countP fun e => decide (e.1 = v)) := List.countP_pos_iff.2 ⟨_, hx, by simp⟩
    have h4 : 0 < (es.countP fun e => decide (e.2.2 = v)) := List.countP_pos_iff.2 ⟨_, hy, by simp⟩
    omega
  · have := countP_two (p := fun e : Ed => decide (e.1 = v)) hx hy (by simp) (by simp) (by simp; omega)
    omega
theorem EH.leaf {r z r' z' : Int} {a es : List Ed} {q : Int → Int} (ha : isF r' z' a = true) (h0 : gone ⟨r', z', a⟩ = 0) (hf : isF r z es = true) (h : EH a es q) {v : Int} (hv : 1 ≤ v) (hl : lf ⟨r, z, es⟩ v = true) {s : Int} (hs : 0 ≤ s ∧ s < z') : q s ≠ v := by
  intro e
  have hs0 : s ≠ 0 := fun hh => by rw [hh, h.z0] at e; omega
  have hd := gone_deg h0 (v := s) (by omega) hs.2
  obtain ⟨j, hj, ej⟩ := gone_all ha h0 s hs.1 hs.2
  have hz' := isG_z (isF_g ha)
  have hr : Rch a 0 s := bfs_rch (isF_g ha) (by omega) (by rw [← ej]; exact vxs_at hj)
  have hr2 := h.rch hr
  rw [h.z0, e] at hr2
  obtain ⟨y1, _, k1⟩ := deg_two (y0 := 0) ha hd
  obtain ⟨y2, hy, k2⟩ := deg_two (y0 := y1) ha hd
  have d1 := (h.nx hf _ _ k1).1
  have d2 := (h.nx hf _ _ k2).1
  rw [e] at d1 d2
  have d3 := deg_ge d1 d2 (Ne.symm hy)
  have d4 := (isG_iff.1 (isF_g hf)).2.2
  simp only [lf, Bool.or_eq_true, decide_eq_true_eq, Bool.not_eq_true', decide_eq_false_iff_not] at hl
  rcases hl with hl | hl
  · omega
  · exact hl (rl_mem.2 ⟨by have := nx_v (isF_g hf) d1; omega, hr2⟩)
theorem oth_0 {v z : Int} (hv : 1 ≤ v) (hz : v < z) : ix (othN v z.toNat) 0 = 0 := by
  have key : ∀ n : Nat, 1 ≤ n → ix (othN v n) 0 = 0 ∧ 0 < (othN v n).length := by
    intro n
    induction n with
    | zero => intro h; omega
    | succ n ih =>
      intro _
      rcases Nat.eq_zero_or_pos n with h0 | h0
      · subst h0
        have : othN v 1 = [0] := by simp [othN]; omega
        rw [this]; exact ⟨rfl, by simp⟩
      · obtain ⟨i1, i2⟩ := ih h0
        rw [othN]
        split
        · exact ⟨i1, i2⟩
        · exact ⟨by rw [ix_app i2]; exact i1, by simp⟩
  exact (key _ (by omega)).1
theorem trm_maps {g : Gr} (hf : isF g.r g.z g.es = true) : ∀ i, (∃ p, EH (trm g i).1.es g.es p) ∧ ∀ {r z : Int} {a : List Ed} {q : Int → Int}, isF r z a = true → gone ⟨r, z, a⟩ = 0 → EH a g.es q → ∃ q', EH a (trm g i).1.es q'
  | 0 => ⟨⟨_, EH.id_ _⟩, fun _ _ h => ⟨_, h⟩⟩
  | i + 1 => by
    obtain ⟨⟨p, h1⟩, h2⟩ := trm_maps hf i
    have hF := trm_F hf i
    by_cases hg : gone (trm g i).1 = 0
    · have e := trm_stop hg 1
      rw [e]; exact ⟨⟨p, h1⟩, h2⟩
    · have e : (trm g (i + 1)).1 = prt (othN (gone (trm g i).1) (trm g i).1.z.toNat) (trm g i).1 := by rw [trm, if_neg hg]
      rw [e]
      have hin := gone_in (g := (trm g i).1)
      have hlf := goneN_lf (g := (trm g i).1) hg
      have hlf : lf (trm g i).1 (gone (trm g i).1) = true := hlf
      generalize (trm g i).1 = x at *
      obtain ⟨r1, z1, es1⟩ := x
      simp only at *
      generalize gone ⟨r1, z1, es1⟩ = v at *
      have hv : 1 ≤ v ∧ v < z1 := by have := hin.2 hg; omega
      have ho : (othN v z1.toNat).Nodup := asc_nodup (othN_asc _ _)
      have h00 := oth_0 hv.1 hv.2
      have hR := (isG_iff.1 (isF_g hF)).2.2
      have hlen := othN_len (v := v) (n := z1.toNat) (by omega) (by omega)
      have hp0 : pos (othN v z1.toNat) (othN v z1.toNat).length 0 = 0 := by
        have := pos_ix ho (i := 0) (by omega)
        rw [h00] at this; exact this
      have hpos : ∀ {u : Int}, 0 ≤ u → u < z1 → u ≠ v → 0 ≤ pos (othN v z1.toNat) (othN v z1.toNat).length u := fun {u} a b c => by
        have hm : u ∈ othN v z1.toNat := othN_mem.2 ⟨a, by omega, c⟩
        rcases Int.lt_or_le (pos (othN v z1.toNat) (othN v z1.toNat).length u) 0 with hn | hn
        · have := (pos_neg (o := othN v z1.toNat) (v := u) (Nat.le_refl _)).1 hn
          rw [List.take_length] at this
          exact absurd hm this
        · exact hn
      refine ⟨⟨_, EH.comp (q := fun i => ix (othN v z1.toNat) i.toNat) ⟨h00, fun e he => ?_⟩ h1⟩, fun {r z a q} ha h0 hq => ?_⟩
      · obtain ⟨⟨s, l, t⟩, hm, k1, k2, rfl⟩ := prt_mem.1 he
        simp only at k1 k2
        simp only [mvE]
        rw [← (pos_at k1).1, ← (pos_at k2).1]
        exact hm
      · obtain ⟨q', hq'⟩ := h2 ha h0 hq
        refine ⟨fun t => pos (othN v z1.toNat) (othN v z1.toNat).length (q' t), by show pos _ _ (q' 0) = 0; rw [hq'.z0]; exact hp0, fun e he => ?_⟩
        have hm := hq'.ed e he
        have hi := hR _ hm
        have hj := (isG_iff.1 (isF_g ha)).2.2 _ he
        unfold inR at hi hj
        simp only at hi
        exact prt_mem.2 ⟨_, hm, hpos hi.1 hi.2.1 (hq'.leaf ha h0 hF hv.1 hlf ⟨hj.1, hj.2.1⟩), hpos hi.2.2.1 hi.2.2.2.1 (hq'.leaf ha h0 hF hv.1 hlf ⟨hj.2.2.1, hj.2.2.2.1⟩), rfl⟩
theorem trim_maps {g : Gr} (hf : isF g.r g.z g.es = true) : (∃ p, EH (trimG g).1.es g.es p) ∧ ∀ {r z : Int} {a : List Ed} {q : Int → Int}, isF r z a = true → gone ⟨r, z, a⟩ = 0 → EH a g.es q → ∃ q', EH a (trimG g).1.es q' := by
  have hg : g.ok = true := isF_g hf
  unfold trimG
  rw [if_pos hg]
  exact trm_maps hf 40
end Go.Proofs.Tryz
