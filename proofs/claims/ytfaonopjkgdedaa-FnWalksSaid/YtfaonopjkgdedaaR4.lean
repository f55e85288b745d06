import Derived.Test.YtfaonopjkgdedaaR5
set_option linter.unusedVariables false
set_option linter.unusedSimpArgs false
set_option linter.unnecessarySimpa false
/- All reduced words; a word's way back; the search's words from any vertex. Plain. -/
namespace Go.Proofs.Try
open Go Go.Eng
set_option linter.unnecessarySimpa false
set_option linter.unusedSimpArgs false
set_option maxHeartbeats 4000000
/-! ### All reduced words of a rank, layer by layer -/
def wuOn (w : List Int) (x : Int) : Bool := decide (w.length = 0 ∨ x ≠ -lastI w)
def wuK (ls : List Int) (w : List Int) : Nat → List (List Int)
  | 0 => []
  | k + 1 => if wuOn w (ix ls k) then wuK ls w k ++ [w ++ [ix ls k]] else wuK ls w k
def wuN (ls : List Int) (L : List (List Int)) : Nat → List (List Int)
  | 0 => []
  | i + 1 => wuN ls L i ++ wuK ls (wx L i) ls.length
def wuL (ls : List Int) : Nat → List (List Int)
  | 0 => [[]]
  | n + 1 => wuN ls (wuL ls n) (wuL ls n).length
/-- The layers ahead of the n-th. -/
def wuT (ls : List Int) : Nat → List (List Int)
  | 0 => []
  | n + 1 => wuT ls n ++ wuL ls n
/-- The loops among the first i words of a list. -/
def ipO (es : List Ed) (v : Int) (L : List (List Int)) : Nat → List (List Int)
  | 0 => []
  | i + 1 => if rdL es v (wx L i) = (wx L i).length ∧ rdV es v (wx L i) = v then ipO es v L i ++ [wx L i] else ipO es v L i
/-! In lists. -/
theorem take_ix {l : List Int} {k : Nat} (h : k < l.length) : l.take (k + 1) = l.take k ++ [ix l k] := by rw [List.take_add_one]; simp [ix, h]
theorem take_wx {L : List (List Int)} {k : Nat} (h : k < L.length) : L.take (k + 1) = L.take k ++ [wx L k] := by rw [List.take_add_one]; simp [wx, h]
theorem wuK_eq {ls w : List Int} : ∀ {k : Nat}, k ≤ ls.length → wuK ls w k = ((ls.take k).filter (wuOn w)).map fun x => w ++ [x]
  | 0, _ => by simp [wuK]
  | k + 1, h => by
    rw [take_ix (by omega), List.filter_append, List.map_append, ← wuK_eq (by omega)]
    rw [wuK]
    cases hc : wuOn w (ix ls k) <;> simp [hc]
theorem lwK_eq {es : List Ed} {ls : List Int} {e : Int} {w : List Int} : ∀ {k : Nat}, k ≤ ls.length → lwK es ls e w k = ((ls.take k).filter (lwOn es e w)).map fun x => w ++ [x]
  | 0, _ => by simp [lwK]
  | k + 1, h => by
    rw [take_ix (by omega), List.filter_append, List.map_append, ← lwK_eq (by omega)]
    rw [lwK]
    cases hc : lwOn es e w (ix ls k) <;> simp [hc]
theorem wuN_eq {ls : List Int} {L : List (List Int)} : ∀ {i : Nat}, i ≤ L.length → wuN ls L i = (L.take i).flatMap fun w => (ls.filter (wuOn w)).map fun x => w ++ [x]
  | 0, _ => by simp [wuN]
  | i + 1, h => by
    rw [take_wx (by omega), List.flatMap_append, ← wuN_eq (by omega), wuN, wuK_eq (Nat.le_refl _)]
    simp
theorem lwN_eq {r z : Int} {es : List Ed} {v : Int} {ls : List Int} {L : List (List Int)} : ∀ {i : Nat}, i ≤ L.length → lwN r z es v ls L i = (L.take i).flatMap fun w => (ls.filter (lwOn es (wkV r z es v w) w)).map fun x => w ++ [x]
  | 0, _ => by simp [lwN]
  | i + 1, h => by
    rw [take_wx (by omega), List.flatMap_append, ← lwN_eq (by omega), lwN, lwK_eq (Nat.le_refl _)]
    simp
theorem ipO_eq {es : List Ed} {v : Int} {L : List (List Int)} : ∀ {i : Nat}, i ≤ L.length → ipO es v L i = (L.take i).filter fun w => decide (rdL es v w = w.length ∧ rdV es v w = v)
  | 0, _ => by simp [ipO]
  | i + 1, h => by
    rw [take_wx (by omega), List.filter_append, ← ipO_eq (by omega)]
    rw [ipO]
    split
    · rename_i hc; simp [hc]
    · rename_i hc; simp [hc]
theorem lwO_eq {r z : Int} {es : List Ed} {v : Int} {L : List (List Int)} : ∀ {i : Nat}, i ≤ L.length → lwO r z es v L i = (L.take i).filter fun w => decide (wkV r z es v w = v)
  | 0, _ => by simp [lwO]
  | i + 1, h => by
    rw [take_wx (by omega), List.filter_append, ← lwO_eq (by omega)]
    rw [lwO]
    split
    · rename_i hc; simp [hc]
    · rename_i hc; simp [hc]
/-- The word can be read from v. -/
def okW (es : List Ed) (v : Int) (w : List Int) : Bool := (wk es v w).isSome
theorem okW_iff {es : List Ed} {v : Int} {w : List Int} : okW es v w = true ↔ rdL es v w = w.length := by
  unfold okW
  rw [Option.isSome_iff_exists]
  constructor
  · rintro ⟨u, h⟩; exact (wk_rd.1 h).1
  · intro h; exact ⟨_, wk_rd.2 ⟨h, rfl⟩⟩
theorem okW_snoc {es : List Ed} {v x : Int} {w : List Int} : okW es v (w ++ [x]) = (okW es v w && decide (0 ≤ nx es (rdV es v w) x)) := by
  rw [Bool.eq_iff_iff, Bool.and_eq_true, decide_eq_true_eq]
  unfold okW
  rw [Option.isSome_iff_exists, Option.isSome_iff_exists]
  constructor
  · rintro ⟨u, h⟩
    obtain ⟨t, h1, h2, _⟩ := wk_snoc.1 h
    exact ⟨⟨t, h1⟩, by rw [(wk_rd.1 h1).2]; exact h2⟩
  · rintro ⟨⟨t, h1⟩, h2⟩
    rw [(wk_rd.1 h1).2] at h2
    exact ⟨_, wk_snoc.2 ⟨t, h1, h2, rfl⟩⟩
theorem wkV_ok {r z : Int} {es : List Ed} {v : Int} {w : List Int} (hf : isF r z es = true) (hv : 0 ≤ v ∧ v < z) (h : okW es v w = true) : wkV r z es v w = rdV es v w := by
  unfold wkV wkB
  rw [hf, decide_eq_true hv, decide_eq_true (okW_iff.1 h)]
  rfl
theorem wkV_bad {r z : Int} {es : List Ed} {v : Int} {w : List Int} (hv : 0 ≤ v) (h : okW es v w = false) : wkV r z es v w ≠ v := by
  unfold wkV wkB
  have : ¬ rdL es v w = w.length := fun e => by rw [okW_iff.2 e] at h; cases h
  rw [decide_eq_false this, Bool.and_false]
  simp; omega
theorem flat_ok {r z : Int} {es : List Ed} {v : Int} {ls : List Int} (hf : isF r z es = true) (hv : 0 ≤ v ∧ v < z) : ∀ L : List (List Int),
    (L.flatMap fun w => (ls.filter (wuOn w)).map fun x => w ++ [x]).filter (okW es v) = (L.filter (okW es v)).flatMap fun w => (ls.filter (lwOn es (wkV r z es v w) w)).map fun x => w ++ [x]
  | [] => rfl
  | w :: L => by
    rw [List.flatMap_cons, List.filter_append, flat_ok hf hv L, List.filter_map]
    have e1 : (okW es v ∘ fun x => w ++ [x]) = fun x => okW es v w && decide (0 ≤ nx es (rdV es v w) x) := funext fun x => okW_snoc
    rw [e1, List.filter_filter]
    cases h : okW es v w
    · rw [List.filter_cons_of_neg (by simp [h])]
      simp
    · rw [List.filter_cons_of_pos h, List.flatMap_cons, wkV_ok hf hv h]
      congr 2
      refine List.filter_congr fun x _ => ?_
      unfold lwOn wuOn
      rw [Bool.true_and, Bool.and_comm, ← Bool.decide_and]
theorem lwL_ok2 {r z : Int} {es : List Ed} {v : Int} (hf : isF r z es = true) (hv : 0 ≤ v ∧ v < z) : ∀ n, lwL r z es v n = (wuL (lts r.toNat) n).filter (okW es v)
  | 0 => by
    show [[]] = List.filter (okW es v) [[]]
    rw [List.filter_cons_of_pos (show okW es v [] = true from rfl), List.filter_nil]
  | n + 1 => by
    rw [lwL, wuL, lwN_eq (Nat.le_refl _), wuN_eq (Nat.le_refl _), List.take_length, List.take_length, flat_ok hf hv, lwL_ok2 hf hv n]
theorem loops_eq {r z : Int} {es : List Ed} {v : Int} (hf : isF r z es = true) (hv : 0 ≤ v ∧ v < z) : ∀ n, (wuT (lts r.toNat) n).filter (fun w => decide (rdL es v w = w.length ∧ rdV es v w = v)) = lwT r z es v n
  | 0 => rfl
  | n + 1 => by
    rw [wuT, lwT, List.filter_append, loops_eq hf hv n, lwO_eq (Nat.le_refl _), List.take_length, lwL_ok2 hf hv n, List.filter_filter]
    congr 1
    refine List.filter_congr fun w _ => ?_
    cases h : okW es v w
    · have h1 : ¬ rdL es v w = w.length := fun e => by rw [okW_iff.2 e] at h; cases h
      simp [h1]
    · rw [wkV_ok hf hv h]
      have := okW_iff.1 h
      simp [this]
/-- Both lists of loops are the same. -/
theorem ipO_all {r z : Int} {es : List Ed} {v : Int} (hf : isF r z es = true) (hv : 0 ≤ v ∧ v < z) (n : Nat) : ipO es v (wuT (lts r.toNat) n) (wuT (lts r.toNat) n).length = lwT r z es v n := by
  rw [ipO_eq (Nat.le_refl _), List.take_length, loops_eq hf hv]
/-! ### How many words, how long, of which letters -/
theorem wuK_ok {ls w : List Int} (k : Nat) (h : k ≤ ls.length) : (wuK ls w k).length ≤ k ∧ ∀ u ∈ wuK ls w k, ∃ x ∈ ls, u = w ++ [x] ∧ wuOn w x = true := by
  rw [wuK_eq h]
  refine ⟨?_, fun u hu => ?_⟩
  · rw [List.length_map]
    have := List.length_filter_le (wuOn w) (ls.take k)
    rw [List.length_take] at this; omega
  · obtain ⟨x, hx, rfl⟩ := List.mem_map.1 hu
    obtain ⟨h1, h2⟩ := List.mem_filter.1 hx
    exact ⟨x, List.mem_of_mem_take h1, rfl, h2⟩
theorem wuN_ok {ls : List Int} {L : List (List Int)} : ∀ i, i ≤ L.length → (wuN ls L i).length ≤ i * ls.length ∧ ∀ u ∈ wuN ls L i, ∃ w ∈ L, ∃ x ∈ ls, u = w ++ [x]
  | 0, _ => by simp [wuN]
  | i + 1, h => by
    obtain ⟨h1, h2⟩ := wuN_ok (ls := ls) (L := L) i (by omega)
    obtain ⟨h3, h4⟩ := wuK_ok (ls := ls) (w := wx L i) ls.length (Nat.le_refl _)
    refine ⟨by rw [wuN, List.length_append, Nat.succ_mul]; omega, fun u hu => ?_⟩
    rcases List.mem_append.1 hu with hu | hu
    · exact h2 u hu
    · obtain ⟨x, hx, e, _⟩ := h4 u hu; exact ⟨_, wx_mem (by omega), x, hx, e⟩
theorem wuL_ok {r : Int} (hr : 1 ≤ r ∧ r ≤ 3) : ∀ n, (wuL (lts r.toNat) n).length ≤ 6 ^ n ∧ ∀ u ∈ wuL (lts r.toNat) n, u.length = n ∧ ∀ x ∈ u, x ∈ lts r.toNat
  | 0 => ⟨by simp [wuL], fun u hu => by simp [wuL] at hu; subst hu; exact ⟨rfl, fun x hx => by cases hx⟩⟩
  | n + 1 => by
    obtain ⟨h1, h2⟩ := wuL_ok hr n
    obtain ⟨h3, h4⟩ := wuN_ok (ls := lts r.toNat) (L := wuL (lts r.toNat) n) _ (Nat.le_refl _)
    have h5 := lts_len2 hr
    refine ⟨?_, fun u hu => ?_⟩
    · rw [wuL, Nat.pow_succ]
      exact Nat.le_trans h3 (Nat.mul_le_mul h1 h5)
    · obtain ⟨w, hw, x, hx, rfl⟩ := h4 u hu
      obtain ⟨d, e⟩ := h2 w hw
      refine ⟨by rw [List.length_append, List.length_singleton]; omega, fun y hy => ?_⟩
      rcases List.mem_append.1 hy with hy | hy
      · exact e y hy
      · rw [List.mem_singleton] at hy; subst hy; exact hx
theorem wuT_ok {r : Int} (hr : 1 ≤ r ∧ r ≤ 3) : ∀ n, (wuT (lts r.toNat) n).length ≤ 6 ^ n ∧ ∀ u ∈ wuT (lts r.toNat) n, u.length < n ∧ ∀ x ∈ u, x ∈ lts r.toNat
  | 0 => ⟨by simp [wuT], by simp [wuT]⟩
  | n + 1 => by
    obtain ⟨h1, h2⟩ := wuT_ok hr n
    obtain ⟨h3, h4⟩ := wuL_ok hr n
    refine ⟨?_, fun u hu => ?_⟩
    · rw [wuT, List.length_append, Nat.pow_succ]; omega
    · rcases List.mem_append.1 hu with hu | hu
      · have := h2 u hu; exact ⟨by omega, this.2⟩
      · have := h4 u hu; exact ⟨by omega, this.2⟩
/-! ### The way back -/
theorem walk_back {r z : Int} {es : List Ed} {v : Int} {w : List Int} (hw : smallW w) (hb : wkB r z es v w = true) : wkB r z es (wkV r z es v w) (ivW w) = true ∧ wkV r z es (wkV r z es v w) (ivW w) = v := by
  have hb0 := hb
  simp only [wkB, Bool.and_eq_true, decide_eq_true_eq] at hb
  obtain ⟨⟨hf, hv⟩, hl⟩ := hb
  have e1 : wkV r z es v w = rdV es v w := by unfold wkV; rw [if_pos hb0]
  have h1 : wk es v w = some (rdV es v w) := wk_rd.2 ⟨hl, rfl⟩
  have h2 := wk_in (isF_g hf) hv h1
  have h3 := wk_back hf h1
  rw [← ivW_rev hw] at h3
  have h4 := wk_rd.1 h3
  have hb2 : wkB r z es (rdV es v w) (ivW w) = true := by
    simp only [wkB, Bool.and_eq_true, decide_eq_true_eq]
    exact ⟨⟨hf, h2⟩, h4.1⟩
  rw [e1]
  exact ⟨hb2, by unfold wkV; rw [if_pos hb2]; exact h4.2⟩
/-! ### The search's words from any vertex -/
theorem bfs_rd {r z : Int} {es : List Ed} {v : Int} (hf : isF r z es = true) (hv : 0 ≤ v ∧ v < z) : ∀ n j, j < n → j < (bfs r z es v).length → isRd (bsa (bfs r z es v) j).2
  | 0, j, hn, _ => by omega
  | n + 1, j, hn, hj => by
    have hG := isF_g hf
    have hB := BI_bfs hG hv
    have hP := BP_bfs hG hv
    have z0 : bsa (bfs r z es v) 0 = (v, []) := bfs_bsa0
    rcases Nat.eq_zero_or_pos j with h0 | h0
    · subst h0; rw [z0]; exact rd_nil
    · obtain ⟨i, x, h1, h2, h3⟩ := hP j h0 hj
      rw [h3]
      refine rd_app (bfs_rd hf hv n i (by omega) (by omega)) (rd_one x) fun h4 _ => ?_
      rcases Nat.eq_zero_or_pos i with h5 | h5
      · subst h5; rw [z0] at h4; simp at h4
      · obtain ⟨k, y, g1, g2, g3⟩ := hP i h5 (by omega)
        show inv2 (lastI (bsa (bfs r z es v) i).2) x = false
        rw [show (bsa (bfs r z es v) i).2 = (bsa (bfs r z es v) k).2 ++ [y] by rw [g3], lastI_app, ← Bool.not_eq_true]
        intro hi
        have hi := inv2_iff.1 hi
        have e1 : (bsa (bfs r z es v) j).1 = (bsa (bfs r z es v) k).1 := by
          rw [h3]
          show nx es (bsa (bfs r z es v) i).1 x = _
          rw [show (bsa (bfs r z es v) i).1 = nx es (bsa (bfs r z es v) k).1 y by rw [g3], hi.2.2, nx_back hf g2]
        have := bsa_inj hB.nd hj (by omega) e1
        omega
/-- The path's word leads there, and is reduced. -/
theorem path_law {r z : Int} {es : List Ed} {u v : Int} (h : (pwO r z es u v).isSome = true) : wkB r z es u (pw r z es u v) = true ∧ wkV r z es u (pw r z es u v) = v ∧ red (pw r z es u v) = pw r z es u v := by
  by_cases hc : isF r z es = true ∧ 0 ≤ u ∧ u < z ∧ 0 ≤ v ∧ v < z
  · obtain ⟨w, hw⟩ := Option.isSome_iff_exists.1 h
    have ew : pw r z es u v = w := by unfold pw; rw [hw]; rfl
    rw [pwO_yes hc] at hw
    obtain ⟨hf, hu0, hu1, hv0, hv1⟩ := hc
    have hG := isF_g hf
    obtain ⟨j, hj, e⟩ := List.mem_iff_getElem.1 (wf_mem hw)
    have eb : bsa (bfs r z es u) j = (v, w) := by simp [bsa, hj, e]
    have h1 := wk_BP bfs_bsa0 (BP_bfs hG ⟨hu0, hu1⟩) (j + 1) j (by omega) hj
    have h2 := bfs_rd hf ⟨hu0, hu1⟩ (j + 1) j (by omega) hj
    rw [eb] at h1 h2
    have h3 := wk_rd.1 h1
    have hb : wkB r z es u w = true := by
      simp only [wkB, Bool.and_eq_true, decide_eq_true_eq]
      exact ⟨⟨hf, hu0, hu1⟩, h3.1⟩
    rw [ew]
    exact ⟨hb, by unfold wkV; rw [if_pos hb]; exact h3.2, red_red h2⟩
  · rw [pwO_no hc] at h; cases h
end Go.Proofs.Try
