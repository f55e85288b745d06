import Derived.Test.YtfapjflogjblaaaGreatR3
import Derived.Test.YtfapjflogjblaaaGreatT7
import Derived.Test.YtfapjflogjblaaaGreatR
set_option maxHeartbeats 16000000
set_option maxRecDepth 20000
set_option linter.unusedVariables false
set_option linter.unusedSimpArgs false
set_option linter.unnecessarySimpa false
namespace Go.Proofs.Tryz
open Go Go.Eng
theorem allB_len {r z : Int} {es : List Ed} (hf : isF r z es = true) (ha : allB r z es) : ((bfs r z es 0).length : Int) = z := by
  have hz := isG_z (isF_g hf)
  have hB := BF_bfs hf
  have h1 := bfs_len (v := 0) (isF_g hf) (by omega)
  have hfull : Full_ (vxs (bfs r z es 0)) z := ⟨hB.nd, fun u => ⟨fun hu => by
    exact (BI_bfs (v := 0) (isF_g hf) (by omega)).inz u hu, fun ⟨h0, h2⟩ => by
    obtain ⟨j, hj, e⟩ := ha u h0 h2
    rw [← e, ← vxs_ix]; exact ix_mem (by rw [vxs_len]; exact hj)⟩⟩
  have := full_len hfull (by omega)
  rwa [vxs_len] at this
theorem tE_ne {r z : Int} {es : List Ed} (hf : isF r z es = true) {j k : Nat} (h0 : 0 < j) (hj : j < (bfs r z es 0).length) (k0 : 0 < k) (hk : k < (bfs r z es 0).length) (h : tE es (bsa (bfs r z es 0) j) = tE es (bsa (bfs r z es 0) k)) : j = k := by
  have hB := BF_bfs hf
  obtain ⟨i, x, hi, hx, hx0, e1, e2⟩ := tE_at hB h0 hj
  obtain ⟨i', x', hi', hx', hx0', e1', e2'⟩ := tE_at hB k0 hk
  rw [e2, e2'] at h
  have hin : ∀ {a b : Nat}, a < (bfs r z es 0).length → b < (bfs r z es 0).length → (bsa (bfs r z es 0) a).1 = (bsa (bfs r z es 0) b).1 → a = b := fun ha hb hh => bsa_inj hB.nd ha hb hh
  have v1 : (bsa (bfs r z es 0) j).1 = nx es (bsa (bfs r z es 0) i).1 x := by rw [e1]
  have v2 : (bsa (bfs r z es 0) k).1 = nx es (bsa (bfs r z es 0) i').1 x' := by rw [e1']
  rcases stE_inj hx0 hx0' h with ⟨a1, a2, a3⟩ | ⟨a1, a2, a3⟩
  · exact hin hj hk a3
  · have b1 := hin (show i < _ by omega) hk a1
    have b2 := hin hj (show i' < _ by omega) a3
    omega
theorem teN_nd {r z : Int} {es : List Ed} (hf : isF r z es = true) : ∀ n, n < (bfs r z es 0).length → (teN es (bfs r z es 0) n).Nodup
  | 0, _ => List.nodup_nil
  | n + 1, h => by
    rw [teN, List.nodup_append]
    refine ⟨teN_nd hf n (by omega), by simp, ?_⟩
    intro a ha b hb hab
    rw [List.mem_singleton] at hb
    subst hb; subst hab
    obtain ⟨j, h0, hj, e⟩ := teN_mem.1 ha
    have := tE_ne hf (by omega) h h0 (by omega) e
    omega
theorem treeL_all {r z : Int} {es : List Ed} (hf : isF r z es = true) (ha : allB r z es) : ((treeL r z es).length : Int) = z - 1 := by
  have hl := allB_len hf ha
  have hz := isG_z (isF_g hf)
  rw [treeL_yes hf, teL, (norm_perm (teN_nd hf _ (by omega))).length_eq, teN_len]
  omega
theorem treeL_sub {r z : Int} {es : List Ed} (hf : isF r z es = true) {e : Ed} (he : e ∈ treeL r z es) : e ∈ es := by
  obtain ⟨j, h0, hj, rfl⟩ := (treeL_mem hf).1 he
  obtain ⟨i, x, hi, hx, hx0, e1, e2⟩ := tE_at (BF_bfs hf) h0 hj
  rw [e2, show (bsa (bfs r z es 0) j).1 = nx es (bsa (bfs r z es 0) i).1 x by rw [e1]]; exact nx_stE hx
theorem xtN_split (es ts : List Ed) : ∀ n, n ≤ es.length → (xtN es ts n).length + ((es.take n).filter fun e => decide (e ∈ ts)).length = n
  | 0, _ => rfl
  | n + 1, h => by
    have ih := xtN_split es ts n (by omega)
    have hlt : n < es.length := by omega
    have e1 : es.take (n + 1) = es.take n ++ [ed es n] := by rw [List.take_add_one, List.getElem?_eq_getElem hlt]; simp [ed, hlt]
    rw [e1, List.filter_append, xtN]
    by_cases hm : ed es n ∈ ts
    · rw [if_pos hm]; simp [hm]; omega
    · rw [if_neg hm]; simp [hm]; omega
theorem tree_ext {r z : Int} {es : List Ed} (hf : isF r z es = true) : (treeL r z es).length + (extL r z es).length = es.length := by
  have h1 := xtN_split es (treeL r z es) es.length (Nat.le_refl _)
  rw [List.take_length] at h1
  have hA : asc es := (isG_iff.1 (isF_g hf)).2.1
  have e : (es.filter fun e => decide (e ∈ treeL r z es)) = treeL r z es := by
    refine asc_ext (hA.filter _) (by rw [treeL_yes hf]; exact norm_asc _) fun x => ?_
    rw [List.mem_filter, decide_eq_true_eq]
    exact ⟨fun h => h.2, fun h => ⟨treeL_sub hf h, h⟩⟩
  rw [e] at h1
  rw [extL_yes hf]; omega
end Go.Proofs.Tryz
