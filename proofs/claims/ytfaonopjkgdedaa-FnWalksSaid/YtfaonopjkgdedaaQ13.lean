import Derived.Test.YtfaonopjkgdedaaZ
import Derived.Test.YtfaonopjkgdedaaW
set_option linter.unusedVariables false
set_option linter.unusedSimpArgs false
set_option linter.unnecessarySimpa false
namespace Go.Proofs.Try
open Go Go.Eng
set_option linter.unnecessarySimpa false
set_option linter.unusedSimpArgs false
set_option maxHeartbeats 4000000
/-! ### Words rewritten -/
theorem idE_get {a : List Ed} {e : Ed} : ∀ {n : Nat}, 0 ≤ idE a e n → ed a (idE a e n).toNat = e ∧ (idE a e n).toNat < n
  | 0, h => by simp [idE] at h
  | n + 1, h => by
    unfold idE at h ⊢
    by_cases h1 : 0 ≤ idE a e n
    · rw [if_pos h1]; have := idE_get h1; exact ⟨this.1, by omega⟩
    · rw [if_neg h1] at h ⊢
      split at h
      · rename_i h2; rw [if_pos h2]; exact ⟨by simpa using h2, by simp⟩
      · omega
theorem nodup_ed {a : List Ed} (hn : a.Nodup) {i j : Nat} (hi : i < a.length) (hj : j < a.length) (h : ed a i = ed a j) : i = j := by
  have h1 : ed a i = a[i] := by simp [ed, hi]
  have h2 : ed a j = a[j] := by simp [ed, hj]
  rw [h1, h2] at h
  rcases Nat.lt_trichotomy i j with h3 | h3 | h3
  · exact (List.pairwise_iff_getElem.1 hn i j hi hj h3 h).elim
  · exact h3
  · exact (List.pairwise_iff_getElem.1 hn j i hj hi h3 h.symm).elim
theorem xtN_sub {es ts : List Ed} : ∀ {n : Nat}, n ≤ es.length → (xtN es ts n).Sublist (es.take n)
  | 0, _ => by simp [xtN]
  | n + 1, h => by
    have ih := xtN_sub (es := es) (ts := ts) (n := n) (by omega)
    have ht : es.take (n + 1) = es.take n ++ [ed es n] := by rw [List.take_add_one]; simp [ed, show n < es.length by omega]
    unfold xtN
    rw [ht]
    split
    · exact ih.trans (List.sublist_append_left ..)
    · exact ih.append (List.Sublist.refl _)
theorem extL_nodup {r z : Int} {es : List Ed} : (extL r z es).Nodup := by
  cases h : isF r z es
  · rw [extL_no h]; exact List.nodup_nil
  · rw [extL_yes h]
    have h1 := xtN_sub (es := es) (ts := treeL r z es) (Nat.le_refl _)
    rw [List.take_length] at h1
    exact h1.nodup (asc_nodupE (isG_iff.1 (isF_g h)).2.1)
def rwV (x k : Int) : Int := if 0 < x then k + 1 else -k - 1
def rwK (xs : List Ed) (e : Ed) (x : Int) (k : Nat) : List Int := if 0 ≤ idE xs e k then [rwV x (idE xs e k)] else []
def rwN (es xs : List Ed) (w : List Int) : Nat → List Int
  | 0 => []
  | i + 1 => rwN es xs w i ++ rwK xs (stE (vN es 0 w i) (ix w i) (vN es 0 w (i + 1))) (ix w i) xs.length
theorem rwK_len (xs : List Ed) (e : Ed) (x : Int) (k : Nat) : (rwK xs e x k).length ≤ 1 := by
  unfold rwK; split <;> simp
theorem rwN_len (es xs : List Ed) (w : List Int) (i : Nat) : (rwN es xs w i).length ≤ i := by
  induction i with
  | zero => simp [rwN]
  | succ i ih =>
    have := rwK_len xs (stE (vN es 0 w i) (ix w i) (vN es 0 w (i + 1))) (ix w i) xs.length
    simp only [rwN, List.length_append]; omega
theorem rwK_mem {xs : List Ed} {e : Ed} {x : Int} {k : Nat} (hk : k ≤ 1000) : ∀ y ∈ rwK xs e x k, rg y := fun y hy => by
  have := idE_le xs e k
  unfold rwK at hy
  split at hy
  · rw [List.mem_singleton] at hy
    subst hy
    unfold rwV rg
    split <;> omega
  · cases hy
theorem rwN_mem {es xs : List Ed} {w : List Int} (hx : xs.length ≤ 1000) : ∀ i, ∀ y ∈ rwN es xs w i, rg y
  | 0, y, hy => by cases hy
  | i + 1, y, hy => by
    rcases List.mem_append.1 hy with hy | hy
    · exact rwN_mem hx i y hy
    · exact rwK_mem hx y hy
theorem rwK_0 (xs : List Ed) (e : Ed) (x : Int) : rwK xs e x 0 = [] := by simp [rwK, idE]
theorem rwK_hit {xs : List Ed} {e : Ed} {x : Int} {k : Nat} (hn : xs.Nodup) (hk : k < xs.length) (h : ed xs k = e) : rwK xs e x k = [] ∧ rwK xs e x (k + 1) = [rwV x k] := by
  have h1 : idE xs e k < 0 := by
    rcases (show idE xs e k < 0 ∨ 0 ≤ idE xs e k by omega) with h1 | h1
    · exact h1
    · have := idE_get h1
      have := nodup_ed hn (i := (idE xs e k).toNat) (j := k) (by omega) hk (by rw [this.1, h])
      omega
  have h2 : idE xs e (k + 1) = k := by rw [idE, if_neg (by omega), if_pos h]
  refine ⟨by unfold rwK; rw [if_neg (by omega)], ?_⟩
  unfold rwK
  rw [h2, if_pos (by omega)]
theorem rwK_miss {xs : List Ed} {e : Ed} {x : Int} {k : Nat} (h : ed xs k ≠ e) : rwK xs e x (k + 1) = rwK xs e x k := by
  unfold rwK
  by_cases h3 : 0 ≤ idE xs e k
  · have h4 : idE xs e (k + 1) = idE xs e k := by rw [idE, if_pos h3]
    rw [h4]
  · have h4 : idE xs e (k + 1) = -1 := by rw [idE, if_neg h3, if_neg h]
    rw [h4, if_neg h3, if_neg (by omega)]
theorem rdk_nx {es : List Ed} {v : Int} {w : List Int} {n i : Nat} (h : rdk es v w n = n) (hi : i < n) : 0 ≤ nx es (vN es v w i) (ix w i) := by
  have h1 := rdk_mono h (i + 1) (by omega)
  unfold rdk at h1
  split at h1
  · rename_i hc; exact hc.2
  · have := rdk_le es v w i; omega
noncomputable def rwO (r z : Int) (es : List Ed) (w : List Int) : List Int := if ctB r z es w = true then red (rwN es (extL r z es) (red w) (red w).length) else []
theorem rwO_len {r z : Int} {es : List Ed} {w : List Int} : (rwO r z es w).length ≤ w.length := by
  unfold rwO
  split
  · have h1 := red_len (rwN es (extL r z es) (red w) (red w).length)
    have h2 := rwN_len es (extL r z es) (red w) (red w).length
    have h3 := red_len w
    omega
  · simp
end Go.Proofs.Try
