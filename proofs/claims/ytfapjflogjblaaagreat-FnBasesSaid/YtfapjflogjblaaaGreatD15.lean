import Derived.Test.YtfapjflogjblaaaGreatD14
set_option maxHeartbeats 16000000
set_option maxRecDepth 20000
set_option linter.unusedVariables false
set_option linter.unusedSimpArgs false
set_option linter.unnecessarySimpa false
namespace Go.Proofs.Tryz
open Go Go.Eng
theorem wx_app {a b : List (List Int)} {i : Nat} (h : i < a.length) : wx (a ++ b) i = wx a i := by
  unfold wx; rw [List.getD_eq_getElem?_getD, List.getD_eq_getElem?_getD, List.getElem?_append_left h]
theorem wx_app2 (a : List (List Int)) (w : List Int) : wx (a ++ [w]) a.length = w := by simp [wx]
theorem bsN_wx {r z : Int} {es xs : List Ed} {k : Nat} : ∀ {n : Nat}, k < n → wx (bsN r z es xs n) k = red (bwd r z es (ed xs k))
  | 0, h => by omega
  | n + 1, h => by
    have hl := bsN_len r z es xs n
    rw [bsN]
    rcases Nat.lt_or_ge k n with h1 | h1
    · rw [wx_app (by omega), bsN_wx h1]
    · have : k = n := by omega
      subst this
      have := wx_app2 (bsN r z es xs k) (red (bwd r z es (ed xs k)))
      rwa [hl] at this
theorem idE_in {a : List Ed} {e : Ed} : ∀ {n : Nat} {i : Nat}, i < n → ed a i = e → 0 ≤ idE a e n
  | 0, _, h, _ => by omega
  | n + 1, i, h, he => by
    unfold idE
    by_cases h1 : 0 ≤ idE a e n
    · rw [if_pos h1]; exact h1
    · rw [if_neg h1]
      rcases Nat.lt_or_ge i n with h2 | h2
      · exact absurd (idE_in h2 he) h1
      · have : i = n := by omega
        subst this
        rw [if_pos he]; omega
abbrev iv (w : List Int) : List Int := w.reverse.map fun x => -x
theorem iv_app (a b : List Int) : iv (a ++ b) = iv b ++ iv a := by simp [iv]
theorem red_mid (a b c : List Int) {t : List Int} (ht : gdW t) (hc : gdW c) (h : red b = red (a ++ iv t)) : red (b ++ (t ++ c)) = red (a ++ c) := by
  have g : gdW (t ++ c) := ht.app hc
  rw [← red_app b, h, red_app, List.append_assoc, ← List.append_assoc (iv t), ← red_app2 a ((ht.rev.app ht).app hc)]
  rw [← red_app (iv t ++ t) c, red_inv ht, List.nil_append, red_app2 a hc]
theorem bwd_eq {r z : Int} {es : List Ed} {e : Ed} (hf : isF r z es = true) : bwd r z es e = twd r z es e.1 ++ ([e.2.1] ++ iv (twd r z es e.2.2)) := by
  unfold bwd
  rw [ivN_rev (twd_small hf).gd, List.append_assoc]
theorem tele {r z : Int} {es : List Ed} {w : List Int} (hf : isF r z es = true) (hg : gone ⟨r, z, es⟩ = 0) (hl : rdk es 0 w w.length = w.length) : ∀ i, i ≤ w.length →
    red (exA (bsW r z es) (rwN es (extL r z es) w i)) = red (w.take i ++ iv (twd r z es (vN es 0 w i)))
  | 0, _ => by
    have hB := BF_bfs hf
    have : twd r z es 0 = [] := by
      have := twd_at hf hB.pos
      rwa [hB.z0] at this
    simp [rwN, exA, vN, this, red, iv]
  | i + 1, hi => by
    have ih := tele hf hg hl i (by omega)
    have hB := BF_bfs hf
    have ha := gone_all hf hg
    have hG := isF_g hf
    have hz := isG_z hG
    have hx := rdk_nx hl (i := i) (by omega)
    have hxv := nx_v hG hx
    have ht : w.take (i + 1) = w.take i ++ [ix w i] := by rw [List.take_add_one]; simp [ix, show i < w.length by omega]
    have hv1 : vN es 0 w (i + 1) = nx es (vN es 0 w i) (ix w i) := rfl
    have hsm : ∀ v, gdW (twd r z es v) := fun v => (twd_small hf).gd
    rw [rwN, exA_app, hv1, ht]
    generalize hvv : vN es 0 w i = v at *
    generalize hxx : ix w i = x at *
    have hst := nx_stE hx
    generalize huu : nx es v x = u at *
    have g1 : gdW ([x] ++ iv (twd r z es u)) := gdW.app (fun y hy => by rw [List.mem_singleton] at hy; subst hy; omega) (hsm u).rev
    by_cases he : stE v x u ∈ extL r z es
    · obtain ⟨k0, hk0, ek0⟩ := mem_ed he
      have hid := idE_in hk0 ek0
      obtain ⟨e1, e2⟩ := idE_get hid
      have hK : rwK (extL r z es) (stE v x u) x (extL r z es).length = [rwV x (idE (extL r z es) (stE v x u) (extL r z es).length)] := by unfold rwK; rw [if_pos hid]
      rw [hK, exA_one]
      generalize idE (extL r z es) (stE v x u) (extL r z es).length = k at *
      have hwx : wx (bsW r z es) k.toNat = bwd r z es (stE v x u) := by
        unfold bsW
        rw [bsN_wx e2, e1, red_red (bwd_rd hf ha he)]
      have hbl : (bsW r z es).length = (extL r z es).length := bsN_len ..
      have hexW : exW (bsW r z es) (rwV x k) = twd r z es v ++ ([x] ++ iv (twd r z es u)) := by
        unfold rwV
        by_cases hp : 0 < x
        · rw [if_pos hp]
          unfold exW exL
          rw [if_pos (by omega), show (k + 1 - 1).toNat = k.toNat by omega, hwx, bwd_eq hf]
          unfold stE
          rw [if_neg (by omega)]
          simp
        · rw [if_neg hp]
          unfold exW exL
          rw [if_neg (by omega), if_pos (by omega), show (-(-k - 1) - 1).toNat = k.toNat by omega, hwx, bwd_eq hf]
          unfold stE
          rw [if_pos (by omega)]
          simp only [List.flatten_cons, List.flatten_nil, List.append_nil]
          rw [ivN_rev ((hsm u).app (gdW.app (fun y hy => by rw [List.mem_singleton] at hy; subst hy; omega) (hsm v).rev))]
          show iv (twd r z es u ++ ([-x] ++ iv (twd r z es v))) = _
          rw [iv_app, iv_app, show iv (iv (twd r z es v)) = twd r z es v from rev_rev _, List.append_assoc]
          simp [iv]
      rw [hexW, red_mid (w.take i) _ _ (hsm v) g1 ih, List.append_assoc]
    · have hK : rwK (extL r z es) (stE v x u) x (extL r z es).length = [] := by
        unfold rwK
        rw [if_neg]
        intro h
        obtain ⟨e1, e2⟩ := idE_get h
        exact he (e1 ▸ ed_mem e2)
      rw [hK]
      show red (exA (bsW r z es) (rwN es (extL r z es) w i) ++ []) = _
      rw [List.append_nil, ih]
      have htr : stE v x u ∈ treeL r z es := Decidable.byContradiction fun hh => he ((extL_mem hf).2 ⟨hst, hh⟩)
      obtain ⟨s, s0, s1, s2⟩ := (treeL_mem hf).1 htr
      obtain ⟨p, y, q1, q2, q3, q4, q5⟩ := tE_at hB s0 s1
      rw [q5] at s2
      have ts : twd r z es (bsa (bfs r z es 0) s).1 = twd r z es (bsa (bfs r z es 0) p).1 ++ [y] := by
        rw [twd_at hf s1, twd_at hf (show p < _ by omega), show (bsa (bfs r z es 0) s).2 = (bsa (bfs r z es 0) p).2 ++ [y] by rw [q4]]
      rcases stE_inj hxv.2.2.2.2 q3 s2 with ⟨a1, a2, a3⟩ | ⟨a1, a2, a3⟩
      · rw [← a1, ← a2, ← a3] at ts
        rw [ts, iv_app, List.append_assoc]
        have := red_pair (w.take i) (iv (twd r z es v)) (x := -x) (by omega) (by omega)
        rw [Int.neg_neg] at this
        have e : iv [x] = [-x] := rfl
        rw [e, ← List.append_assoc [x]]
        exact this.symm
      · rw [← a1, show y = -x by omega, ← a3] at ts
        rw [ts, iv_app, List.append_assoc]
        have e : iv [-x] = [x] := by simp [iv]
        rw [e]
theorem rw_ex {r z : Int} {es : List Ed} {w : List Int} (hc : isC r z es = true) (h : ctB r z es w = true) (hl : w.length ≤ 200) : exV (bsW r z es) (rwO r z es w) = red w := by
  have hf := isC_f hc
  have hg := isC_gone hc
  have hB := BF_bfs hf
  obtain ⟨h1, h2⟩ := wk_rd.1 ((ct_iff hc).1 h)
  have hk : rdk es 0 (red w) (red w).length = (red w).length := h1
  have hv : vN es 0 (red w) (red w).length = 0 := by
    have := rdL_all hk
    rw [← this.2]; exact h2
  have h0 : twd r z es 0 = [] := by
    have := twd_at hf hB.pos
    rwa [hB.z0] at this
  have hlen := rwO_len (r := r) (z := z) (es := es) (w := w)
  rw [exV_A (by omega)]
  unfold rwO
  rw [if_pos h]
  have hgd : ∀ u ∈ bsW r z es, gdW u := fun u hu => by
    obtain ⟨i, hi, rfl⟩ := bsN_mem.1 hu
    have hm := ((extL_mem hf).1 (ed_mem hi)).1
    have h3 := (isG_iff.1 (isF_g hf)).2.2 _ hm
    have hz := isG_z (isF_g hf)
    unfold inR at h3
    refine gdW.red ?_
    rw [bwd_eq hf]
    exact (twd_small hf).gd.app (gdW.app (fun y hy => by rw [List.mem_singleton] at hy; subst hy; omega) (twd_small hf).gd.rev)
  rw [exA_red hgd, tele hf hg hk _ (Nat.le_refl _), hv, h0, List.take_length]
  show red (red w ++ []) = red w
  rw [List.append_nil, red_red (red_rd _)]
end Go.Proofs.Tryz
