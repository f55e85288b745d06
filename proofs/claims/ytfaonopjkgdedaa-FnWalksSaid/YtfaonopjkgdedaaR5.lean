import Derived.Test.YtfaonopjkgdedaaZ
import Derived.Test.YtfaonopjkgdedaaX
import Derived.Test.YtfaonopjkgdedaaR3
import Derived.Test.YtfaonopjkgdedaaQ21
set_option linter.unusedVariables false
set_option linter.unusedSimpArgs false
set_option linter.unnecessarySimpa false
/- The specification's layers of words, read letter by letter. Plain. -/
namespace Go.Proofs.Try
open Go Go.Eng
set_option linter.unnecessarySimpa false
set_option linter.unusedSimpArgs false
set_option maxHeartbeats 4000000
set_option maxRecDepth 20000
/-! ### Words letter by letter -/
def lwOn (es : List Ed) (e : Int) (w : List Int) (x : Int) : Bool := decide ((w.length = 0 ∨ x ≠ -lastI w) ∧ 0 ≤ nx es e x)
def lwK (es : List Ed) (ls : List Int) (e : Int) (w : List Int) : Nat → List (List Int)
  | 0 => []
  | k + 1 => if lwOn es e w (ix ls k) then lwK es ls e w k ++ [w ++ [ix ls k]] else lwK es ls e w k
def lwN (r z : Int) (es : List Ed) (v : Int) (ls : List Int) (L : List (List Int)) : Nat → List (List Int)
  | 0 => []
  | i + 1 => lwN r z es v ls L i ++ lwK es ls (wkV r z es v (wx L i)) (wx L i) ls.length
def lwO (r z : Int) (es : List Ed) (v : Int) (L : List (List Int)) : Nat → List (List Int)
  | 0 => []
  | i + 1 => if wkV r z es v (wx L i) = v then lwO r z es v L i ++ [wx L i] else lwO r z es v L i
def lwL (r z : Int) (es : List Ed) (v : Int) : Nat → List (List Int)
  | 0 => [[]]
  | n + 1 => lwN r z es v (lts r.toNat) (lwL r z es v n) (lwL r z es v n).length
def lwT (r z : Int) (es : List Ed) (v : Int) : Nat → List (List Int)
  | 0 => []
  | n + 1 => lwT r z es v n ++ lwO r z es v (lwL r z es v n) (lwL r z es v n).length
def lwB (r z : Int) (es : List Ed) (v m : Int) : Bool := isF r z es && decide ((0 ≤ v ∧ v < z) ∧ 0 ≤ m ∧ m ≤ 4)
def lpW (r z : Int) (es : List Ed) (v m : Int) : List (List Int) := if lwB r z es v m then lwT r z es v (m.toNat + 1) else []
theorem lwK_ok {es : List Ed} {ls : List Int} {e : Int} {w : List Int} : ∀ k, (lwK es ls e w k).length ≤ k ∧ ∀ u ∈ lwK es ls e w k, ∃ j, j < k ∧ u = w ++ [ix ls j] ∧ lwOn es e w (ix ls j) = true
  | 0 => ⟨Nat.le_refl _, by simp [lwK]⟩
  | k + 1 => by
    obtain ⟨h1, h2⟩ := lwK_ok (es := es) (ls := ls) (e := e) (w := w) k
    unfold lwK
    split
    · rename_i hc
      refine ⟨by rw [List.length_append, List.length_singleton]; omega, fun u hu => ?_⟩
      rcases List.mem_append.1 hu with hu | hu
      · obtain ⟨j, a, b⟩ := h2 u hu; exact ⟨j, by omega, b⟩
      · rw [List.mem_singleton] at hu; exact ⟨k, by omega, hu, hc⟩
    · exact ⟨by omega, fun u hu => by obtain ⟨j, a, b⟩ := h2 u hu; exact ⟨j, by omega, b⟩⟩
theorem lwN_ok {r z : Int} {es : List Ed} {v : Int} {ls : List Int} {L : List (List Int)} : ∀ i, (lwN r z es v ls L i).length ≤ i * ls.length ∧ ∀ u ∈ lwN r z es v ls L i, ∃ j k, j < i ∧ k < ls.length ∧ u = wx L j ++ [ix ls k] ∧ lwOn es (wkV r z es v (wx L j)) (wx L j) (ix ls k) = true
  | 0 => ⟨by simp [lwN], by simp [lwN]⟩
  | i + 1 => by
    obtain ⟨h1, h2⟩ := lwN_ok (r := r) (z := z) (es := es) (v := v) (ls := ls) (L := L) i
    obtain ⟨h3, h4⟩ := lwK_ok (es := es) (ls := ls) (e := wkV r z es v (wx L i)) (w := wx L i) ls.length
    refine ⟨by rw [lwN, List.length_append, Nat.succ_mul]; omega, fun u hu => ?_⟩
    rcases List.mem_append.1 hu with hu | hu
    · obtain ⟨j, k, a, b⟩ := h2 u hu; exact ⟨j, k, by omega, b⟩
    · obtain ⟨k, a, b⟩ := h4 u hu; exact ⟨i, k, by omega, a, b⟩
theorem lwO_ok {r z : Int} {es : List Ed} {v : Int} {L : List (List Int)} : ∀ i, (lwO r z es v L i).length ≤ i ∧ ∀ u ∈ lwO r z es v L i, ∃ j, j < i ∧ u = wx L j ∧ wkV r z es v (wx L j) = v
  | 0 => ⟨Nat.le_refl _, by simp [lwO]⟩
  | i + 1 => by
    obtain ⟨h1, h2⟩ := lwO_ok (r := r) (z := z) (es := es) (v := v) (L := L) i
    unfold lwO
    split
    · rename_i hc
      refine ⟨by rw [List.length_append, List.length_singleton]; omega, fun u hu => ?_⟩
      rcases List.mem_append.1 hu with hu | hu
      · obtain ⟨j, a, b⟩ := h2 u hu; exact ⟨j, by omega, b⟩
      · rw [List.mem_singleton] at hu; exact ⟨i, by omega, hu, hc⟩
    · exact ⟨by omega, fun u hu => by obtain ⟨j, a, b⟩ := h2 u hu; exact ⟨j, by omega, b⟩⟩
theorem lts_len2 {r : Int} (h : 1 ≤ r ∧ r ≤ 3) : (lts r.toNat).length ≤ 6 := by
  have : r.toNat = 1 ∨ r.toNat = 2 ∨ r.toNat = 3 := by omega
  rcases this with h | h | h <;> rw [h] <;> decide
theorem lwK_less {es : List Ed} {ls : List Int} {e : Int} {w : List Int} {j : Nat} (h0 : w.length ≠ 0) (hj : ix ls j = -lastI w) : ∀ k, j < k → (lwK es ls e w k).length + 1 ≤ k
  | 0, h => by omega
  | k + 1, h => by
    rcases Nat.lt_or_ge j k with h1 | h1
    · have := lwK_less (es := es) (e := e) h0 hj k h1
      unfold lwK
      split
      · rw [List.length_append, List.length_singleton]; omega
      · omega
    · have hjk : j = k := by omega
      subst hjk
      have h2 := (lwK_ok (es := es) (ls := ls) (e := e) (w := w) j).1
      have : lwOn es e w (ix ls j) = false := by
        unfold lwOn
        rw [decide_eq_false_iff_not]
        rintro ⟨h3 | h3, _⟩
        · exact h0 h3
        · exact h3 hj
      unfold lwK
      rw [this]
      simp only [Bool.false_eq_true, if_false]
      omega
theorem lwN_less {r z : Int} {es : List Ed} {v : Int} {ls : List Int} {L : List (List Int)} {m : Nat} (h : ∀ i, i < L.length → (lwK es ls (wkV r z es v (wx L i)) (wx L i) ls.length).length ≤ m) : ∀ i, i ≤ L.length → (lwN r z es v ls L i).length ≤ i * m
  | 0, _ => by simp [lwN]
  | i + 1, hi => by
    have h1 := lwN_less h i (by omega)
    have h2 := h i (by omega)
    rw [lwN, List.length_append, Nat.succ_mul]; omega
/-- How many reduced words of a length there are at most. -/
def lwC : Nat → Nat
  | 0 => 1
  | 1 => 6
  | n + 2 => lwC (n + 1) * 5
theorem lwL_ok {r z : Int} {es : List Ed} {v : Int} (hr : 1 ≤ r ∧ r ≤ 3) : ∀ n, (lwL r z es v n).length ≤ lwC n ∧ ∀ u ∈ lwL r z es v n, u.length = n ∧ ∀ x ∈ u, x ∈ lts r.toNat
  | 0 => ⟨by simp [lwL, lwC], fun u hu => by simp [lwL] at hu; subst hu; exact ⟨rfl, fun x hx => by cases hx⟩⟩
  | n + 1 => by
    obtain ⟨h1, h2⟩ := lwL_ok (z := z) (es := es) (v := v) hr n
    obtain ⟨h3, h4⟩ := lwN_ok (r := r) (z := z) (es := es) (v := v) (ls := lts r.toNat) (L := lwL r z es v n) (lwL r z es v n).length
    have h5 := lts_len2 hr
    refine ⟨?_, fun u hu => ?_⟩
    · match n with
      | 0 =>
        show (lwN r z es v (lts r.toNat) (lwL r z es v 0) (lwL r z es v 0).length).length ≤ 6
        have : (lwL r z es v 0).length = 1 := rfl
        rw [this] at h3 ⊢
        omega
      | n + 1 =>
        have h6 := lwN_less (r := r) (z := z) (es := es) (v := v) (ls := lts r.toNat) (L := lwL r z es v (n + 1)) (m := 5) (fun i hi => by
          obtain ⟨a, b⟩ := h2 _ (wx_mem hi)
          have hw0 : (wx (lwL r z es v (n + 1)) i).length ≠ 0 := by omega
          have hlm : lastI (wx (lwL r z es v (n + 1)) i) ∈ lts r.toNat := b _ (ix_mem (by omega))
          have hl := lts_mem.1 hlm
          obtain ⟨j, hj, ej⟩ := List.mem_iff_getElem.1 (lts_mem (n := r.toNat) (x := -lastI (wx (lwL r z es v (n + 1)) i)) |>.2 (by omega))
          have := lwK_less (es := es) (e := wkV r z es v (wx (lwL r z es v (n + 1)) i)) hw0 (j := j) (ls := lts r.toNat) (by rw [← ej]; simp [ix, hj]) _ hj
          omega) _ (Nat.le_refl _)
        show (lwN r z es v (lts r.toNat) (lwL r z es v (n + 1)) (lwL r z es v (n + 1)).length).length ≤ lwC (n + 1) * 5
        have h7 := Nat.mul_le_mul_right 5 h1
        omega
    · obtain ⟨j, k, a, b, rfl, c⟩ := h4 u hu
      obtain ⟨d, e⟩ := h2 _ (wx_mem a)
      refine ⟨by rw [List.length_append, List.length_singleton]; omega, fun x hx => ?_⟩
      rcases List.mem_append.1 hx with hx | hx
      · exact e x hx
      · rw [List.mem_singleton] at hx; subst hx; exact ix_mem b
def lwD : Nat → Nat
  | 0 => 0
  | n + 1 => lwD n + lwC n
theorem lwT_ok {r z : Int} {es : List Ed} {v : Int} (hr : 1 ≤ r ∧ r ≤ 3) : ∀ n, (lwT r z es v n).length ≤ lwD n ∧ ∀ u ∈ lwT r z es v n, u.length ≤ n ∧ (∀ x ∈ u, x ∈ lts r.toNat) ∧ wkV r z es v u = v
  | 0 => ⟨by simp [lwT], by simp [lwT]⟩
  | n + 1 => by
    obtain ⟨h1, h2⟩ := lwT_ok (z := z) (es := es) (v := v) hr n
    obtain ⟨h3, h4⟩ := lwO_ok (r := r) (z := z) (es := es) (v := v) (L := lwL r z es v n) (lwL r z es v n).length
    obtain ⟨h5, h6⟩ := lwL_ok (z := z) (es := es) (v := v) hr n
    refine ⟨by rw [lwT, List.length_append, lwD]; omega, fun u hu => ?_⟩
    rcases List.mem_append.1 hu with hu | hu
    · have := h2 u hu; exact ⟨by omega, this.2⟩
    · obtain ⟨j, a, rfl, b⟩ := h4 u hu
      have := h6 _ (wx_mem a)
      exact ⟨by omega, this.2, b⟩
theorem lwD_mono {n m : Nat} (h : n ≤ m) : lwD n ≤ lwD m := by
  induction m with
  | zero => rw [show n = 0 by omega]; exact Nat.le_refl _
  | succ m ih =>
    rcases Nat.lt_or_ge n (m + 1) with h1 | h1
    · exact Nat.le_trans (ih (by omega)) (Nat.le_add_right _ _)
    · rw [show n = m + 1 by omega]; exact Nat.le_refl _
/-- The loops: few, short, of small letters, read from v to v. -/
theorem lpW_ok {r z : Int} {es : List Ed} {v m : Int} (hm : m ≤ 4) : (lpW r z es v m).length ≤ lwD (m.toNat + 1) ∧ ∀ u ∈ lpW r z es v m, u.length ≤ 5 ∧ smallW u ∧ wk es v u = some v := by
  unfold lpW
  split
  · rename_i h
    simp only [lwB, Bool.and_eq_true, decide_eq_true_eq] at h
    have hz := isG_z (isF_g h.1)
    obtain ⟨h1, h2⟩ := lwT_ok (z := z) (es := es) (v := v) (show 1 ≤ r ∧ r ≤ 3 by omega) (m.toNat + 1)
    refine ⟨h1, fun u hu => ?_⟩
    obtain ⟨a, b, c⟩ := h2 u hu
    refine ⟨by omega, fun x hx => by have := lts_mem.1 (b x hx); omega, ?_⟩
    unfold wkV at c
    split at c
    · rename_i hb
      simp only [wkB, Bool.and_eq_true, decide_eq_true_eq] at hb
      exact wk_rd.2 ⟨hb.2, c⟩
    · omega
  · exact ⟨by simp, by simp⟩
theorem osW_one (w : List Int) : osW [w] = [some (ints w)] := rfl
theorem lwOn_iff {es : List Ed} {e : Int} {w : List Int} {x : Int} : lwOn es e w x = true ↔ (w.length = 0 ∨ x ≠ -ix w (w.length - 1)) ∧ 0 ≤ nx es e x := decide_eq_true_iff
end Go.Proofs.Try
