import Derived.Test.YtfapjflogjblaaaR
import Derived.Test.YtfapjflogjblaaaA
import Derived.Test.YtfapjflogjblaaaD
set_option linter.unusedVariables false
set_option linter.unusedSimpArgs false
set_option linter.unnecessarySimpa false
namespace Go.Proofs.Try
open Go Go.Eng
set_option linter.unnecessarySimpa false
set_option linter.unusedSimpArgs false
set_option maxHeartbeats 4000000

/-! ### Lists of ints: compacted, sorted -/
def cptI (l : List Int) : Nat → List Int
  | 0 => []
  | n + 1 => if n ≠ 0 ∧ ix l n = ix l (n - 1) then cptI l n else cptI l n ++ [ix l n]
theorem cptI_len (l : List Int) : ∀ n, (cptI l n).length ≤ n
  | 0 => by simp [cptI]
  | n + 1 => by
    have := cptI_len l n
    unfold cptI
    split
    · omega
    · simp; omega
theorem cptI_mem {l : List Int} {x : Int} : ∀ {n : Nat}, x ∈ cptI l n ↔ ∃ i, i < n ∧ x = ix l i
  | 0 => by simp [cptI]
  | n + 1 => by
    unfold cptI
    split
    · rename_i h
      rw [cptI_mem]
      constructor
      · rintro ⟨i, hi, rfl⟩; exact ⟨i, by omega, rfl⟩
      · rintro ⟨i, hi, rfl⟩
        by_cases hin : i = n
        · subst hin; exact ⟨i - 1, by omega, h.2⟩
        · exact ⟨i, by omega, rfl⟩
    · rw [List.mem_append, cptI_mem, List.mem_singleton]
      constructor
      · rintro (⟨i, hi, rfl⟩ | rfl)
        · exact ⟨i, by omega, rfl⟩
        · exact ⟨n, by omega, rfl⟩
      · rintro ⟨i, hi, rfl⟩
        by_cases hin : i = n
        · subst hin; exact .inr rfl
        · exact .inl ⟨i, by omega, rfl⟩
theorem cptI_asc {l : List Int} (hs : ∀ i j, i < j → j < l.length → ix l i ≤ ix l j) : ∀ n, n ≤ l.length → ascI (cptI l n)
  | 0, _ => List.Pairwise.nil
  | n + 1, hn => by
    have ih := cptI_asc hs n (by omega)
    unfold cptI
    split
    · exact ih
    · rename_i h
      refine List.pairwise_append.2 ⟨ih, by simp, fun x hx y hy => ?_⟩
      rw [List.mem_singleton] at hy
      subst hy
      obtain ⟨i, hi, rfl⟩ := cptI_mem.1 hx
      have h1 : ix l n ≠ ix l (n - 1) := fun e => h ⟨by omega, e⟩
      have h2 := hs (n - 1) n (by omega) (by omega)
      by_cases hi2 : i = n - 1
      · subst hi2; omega
      · have h3 := hs i (n - 1) (by omega) (by omega)
        omega
theorem cptI_all {l : List Int} : ∀ {n : Nat}, (∀ i, 1 ≤ i → i < n → ix l i ≠ ix l (i - 1)) → n ≤ l.length → cptI l n = l.take n
  | 0, _, _ => by simp [cptI]
  | n + 1, h, hn => by
    unfold cptI
    rw [if_neg (fun hh => h n (by omega) (by omega) hh.2), cptI_all (n := n) (fun i h1 h2 => h i h1 (by omega)) (by omega), List.take_add_one]
    simp [ix, show n < l.length by omega]
def CIi (l : List Int) (k0 k j : Nat) (M : List Int) : Prop := 1 ≤ j ∧ k0 + j ≤ l.length ∧ k0 ≤ k ∧ k + 1 ≤ k0 + j ∧ M.length = l.length ∧ M.take k = cptI l (k0 + j) ∧ ∀ x, k0 + j ≤ x + 1 → ix M x = ix l x
theorem CIi_0 {l : List Int} {k0 : Nat} (h0 : 1 ≤ k0) (h : k0 < l.length) (he : ix l k0 = ix l (k0 - 1)) (hn : ∀ i, 1 ≤ i → i < k0 → ix l i ≠ ix l (i - 1)) : CIi l k0 k0 1 l := by
  refine ⟨by omega, by omega, by omega, by omega, rfl, ?_, fun x _ => rfl⟩
  rw [show cptI l (k0 + 1) = cptI l k0 from by conv => lhs; unfold cptI; rw [if_pos ⟨by omega, he⟩], cptI_all hn (by omega)]
theorem ix_seti {l : List Int} {i j : Nat} {a : Int} (h : i < l.length) : ix (l.set i a) j = if i = j then a else ix l j := by
  simp only [ix, List.getD_eq_getElem?_getD, List.getElem?_set]
  by_cases hij : i = j
  · subst hij; simp [h]
  · simp [hij]
theorem CIi_same {l M : List Int} {k0 k j : Nat} (h : CIi l k0 k j M) (hj : k0 + j < l.length) (he : ix M (k0 + j) = ix M (k0 + j - 1)) : CIi l k0 k (j + 1) M := by
  obtain ⟨h1, h2, h3, h4, h5, h6, h7⟩ := h
  refine ⟨by omega, by omega, h3, by omega, h5, ?_, fun x hx => h7 x (by omega)⟩
  rw [h7 _ (by omega), h7 _ (by omega)] at he
  rw [h6, show k0 + (j + 1) = (k0 + j) + 1 by omega]
  conv => rhs; unfold cptI
  rw [if_pos ⟨by omega, he⟩]
theorem CIi_next {l M : List Int} {k0 k j : Nat} (h : CIi l k0 k j M) (hj : k0 + j < l.length) (he : ix M (k0 + j) ≠ ix M (k0 + j - 1)) : CIi l k0 (k + 1) (j + 1) (M.set k (ix M (k0 + j))) := by
  obtain ⟨h1, h2, h3, h4, h5, h6, h7⟩ := h
  refine ⟨by omega, by omega, by omega, by omega, by simp [h5], ?_, fun x hx => ?_⟩
  · rw [h7 _ (by omega), h7 _ (by omega)] at he
    rw [show k0 + (j + 1) = (k0 + j) + 1 by omega]
    conv => rhs; unfold cptI
    rw [if_neg (fun hh => he hh.2), ← h6, h7 _ (by omega), List.take_add_one]
    rw [List.take_set_of_le (by omega)]
    simp [show k < M.length by omega]
  · rw [ix_seti (by omega), if_neg (by omega)]
    exact h7 x (by omega)
/-- In order, each once. -/
def nI (l : List Int) : List Int := l.foldl (fun a x => insI x a) []
theorem nIf (l : List Int) : ∀ a, ascI a → ascI (l.foldl (fun a x => insI x a) a) ∧ ∀ x, x ∈ l.foldl (fun a x => insI x a) a ↔ x ∈ a ∨ x ∈ l := by
  induction l with
  | nil => intro a h; exact ⟨h, by simp⟩
  | cons y r ih =>
    intro a h
    obtain ⟨h1, h2⟩ := ih (insI y a) (insI_asc h)
    refine ⟨h1, fun x => ?_⟩
    rw [List.foldl_cons, h2, insI_mem, List.mem_cons]
    constructor
    · rintro ((h | h) | h)
      · exact .inr (.inl h)
      · exact .inl h
      · exact .inr (.inr h)
    · rintro (h | h | h)
      · exact .inl (.inr h)
      · exact .inl (.inl h)
      · exact .inr h
theorem nI_asc (l : List Int) : ascI (nI l) := (nIf l [] List.Pairwise.nil).1
theorem nI_mem {l : List Int} {x : Int} : x ∈ nI l ↔ x ∈ l := by simpa [nI] using (nIf l [] List.Pairwise.nil).2 x
theorem nI_snoc (l : List Int) (x : Int) : nI (l ++ [x]) = insI x (nI l) := by simp [nI]
theorem nI_nil : nI [] = [] := rfl
theorem nI_len (l : List Int) : (nI l).length ≤ l.length := by
  suffices h : ∀ a : List Int, (l.foldl (fun a x => insI x a) a).length ≤ a.length + l.length by simpa [nI] using h []
  induction l with
  | nil => intro a; simp
  | cons y r ih => intro a; have := ih (insI y a); have := insI_len y a; simp only [List.foldl_cons, List.length_cons]; omega
def srtI (l : List Int) : List Int := l.mergeSort fun x y => decide (x ≤ y)
theorem srtI_len (l : List Int) : (srtI l).length = l.length := by simp [srtI]
theorem srtI_cpt (l : List Int) : cptI (srtI l) (srtI l).length = nI l := by
  have hp : (srtI l).Perm l := List.mergeSort_perm l _
  have hs : (srtI l).Pairwise fun a b => decide (a ≤ b) = true := List.pairwise_mergeSort (fun a b c h1 h2 => by simp at *; omega) (fun a b => by simp; omega) l
  refine ascI_ext (cptI_asc (fun i j hij hj => ?_) _ (Nat.le_refl _)) (nI_asc l) fun x => ?_
  · have := List.pairwise_iff_getElem.1 hs i j (by omega) hj hij
    simpa [ix, hj, show i < (srtI l).length by omega] using this
  · rw [cptI_mem, nI_mem, ← hp.mem_iff, List.mem_iff_getElem]
    constructor
    · rintro ⟨i, hi, rfl⟩; exact ⟨i, hi, by simp [ix, hi]⟩
    · rintro ⟨i, hi, rfl⟩; exact ⟨i, hi, by simp [ix, hi]⟩
end Go.Proofs.Try
namespace Go.Proofs.Try
end Go.Proofs.Try
/- Plain: folded graphs; where a letter leads. -/
namespace Go.Proofs.Try
open Go Go.Eng
def fd2 (a b : Ed) : Bool := decide (a.2.1 = b.2.1) && (decide (a.1 = b.1) || decide (a.2.2 = b.2.2))
theorem fd2_comm (a b : Ed) : fd2 a b = fd2 b a := by simp only [fd2, eq_comm]
def prF (es : List Ed) : Bool := (List.range es.length).all fun j => (List.range j).all fun i => !fd2 (ed es i) (ed es j)
theorem prF_iff {es : List Ed} : prF es = true ↔ ∀ i j, i < j → j < es.length → fd2 (ed es i) (ed es j) = false := by
  simp only [prF, List.all_eq_true, List.mem_range, Bool.not_eq_true']
  exact ⟨fun h i j hij hj => h j hj i hij, fun h j hj i hij => h i j hij hj⟩
theorem prF_bad {es : List Ed} {i j : Nat} (hij : i < j) (hj : j < es.length) (h : fd2 (ed es i) (ed es j) = true) : prF es = false := by
  rw [← Bool.not_eq_true]
  intro hp
  have := prF_iff.1 hp i j hij hj
  rw [h] at this; cases this
def pr1 (es : List Ed) (i : Nat) : Prop := ∀ a b, a < i → a < b → b < es.length → fd2 (ed es a) (ed es b) = false
def pr2 (es : List Ed) (i j : Nat) : Prop := ∀ b, i < b → b < i + 1 + j → fd2 (ed es i) (ed es b) = false
theorem pr1_all {es : List Ed} (h : pr1 es es.length) : prF es = true := prF_iff.2 fun a b hab hb => h a b (by omega) hab hb
theorem pr1_next {es : List Ed} {i j : Nat} (h : pr1 es i) (h2 : pr2 es i j) (hj : es.length ≤ i + 1 + j) : pr1 es (i + 1) := fun a b ha hab hb => by
  rcases Nat.lt_or_ge a i with h3 | h3
  · exact h a b h3 hab hb
  · have : a = i := by omega
    subst this; exact h2 b hab (by omega)
theorem pr2_next {es : List Ed} {i j : Nat} (h2 : pr2 es i j) (h : fd2 (ed es i) (ed es (i + 1 + j)) = false) : pr2 es i (j + 1) := fun b hb hj => by
  rcases Nat.lt_or_ge b (i + 1 + j) with h3 | h3
  · exact h2 b hb h3
  · have : b = i + 1 + j := by omega
    subst this; exact h
def ps1 (es : List Ed) (i : Nat) : Prop := ∀ a b, a < b → b < i → fd2 (ed es a) (ed es b) = false
def ps2 (es : List Ed) (i k : Nat) : Prop := ∀ a, a < k → fd2 (ed es a) (ed es i) = false
theorem ps1_all {es : List Ed} (h : ps1 es es.length) : prF es = true := prF_iff.2 fun a b hab hb => h a b hab hb
theorem ps1_next {es : List Ed} {i : Nat} (h : ps1 es i) (h2 : ps2 es i i) : ps1 es (i + 1) := fun a b hab hb => by
  rcases Nat.lt_or_ge b i with h3 | h3
  · exact h a b hab h3
  · have : b = i := by omega
    subst this; exact h2 a hab
theorem ps2_next {es : List Ed} {i k : Nat} (h2 : ps2 es i k) (h : fd2 (ed es k) (ed es i) = false) : ps2 es i (k + 1) := fun a ha => by
  rcases Nat.lt_or_ge a k with h3 | h3
  · exact h2 a h3
  · have : a = k := by omega
    subst this; exact h
def isF (r z : Int) (es : List Ed) : Bool := isG r z es && prF es
theorem isF_no {r z : Int} {es : List Ed} (h : isG r z es = false) : isF r z es = false := by simp [isF, h]
theorem isF_bad {r z : Int} {es : List Ed} (h : prF es = false) : isF r z es = false := by simp [isF, h]
theorem isF_yes {r z : Int} {es : List Ed} (h : isG r z es = true) (hp : prF es = true) : isF r z es = true := by simp [isF, h, hp]
theorem isF_g {r z : Int} {es : List Ed} (h : isF r z es = true) : isG r z es = true := by
  simp only [isF, Bool.and_eq_true] at h; exact h.1
theorem isF_p {r z : Int} {es : List Ed} (h : isF r z es = true) : prF es = true := by
  simp only [isF, Bool.and_eq_true] at h; exact h.2

/-- Where an edge leads from v by the letter x. -/
def tg (v x : Int) (e : Ed) : List Int := if 0 < x ∧ e.2.1 = x ∧ e.1 = v then [e.2.2] else if x < 0 ∧ e.2.1 = -x ∧ e.2.2 = v then [e.1] else []
theorem tgP {v x : Int} {e : Ed} (h : 0 < x ∧ e.2.1 = x ∧ e.1 = v) : tg v x e = [e.2.2] := by unfold tg; rw [if_pos h]
theorem tgN {v x : Int} {e : Ed} (h : x < 0 ∧ e.2.1 = -x ∧ e.2.2 = v) : tg v x e = [e.1] := by unfold tg; rw [if_neg (by omega), if_pos h]
theorem tg0 {v x : Int} {e : Ed} (h : ¬ (0 < x ∧ e.2.1 = x ∧ e.1 = v)) (h2 : ¬ (x < 0 ∧ e.2.1 = -x ∧ e.2.2 = v)) : tg v x e = [] := by unfold tg; rw [if_neg h, if_neg h2]
def stN (es : List Ed) (v x : Int) : Nat → List Int
  | 0 => []
  | n + 1 => stN es v x n ++ tg v x (ed es n)
theorem stN_len (es : List Ed) (v x : Int) (n : Nat) : (stN es v x n).length ≤ n := by
  induction n with
  | zero => simp [stN]
  | succ n ih =>
    have : (tg v x (ed es n)).length ≤ 1 := by unfold tg; split; · simp
                                               split <;> simp
    simp only [stN, List.length_append]; omega
theorem stN_mem {es : List Ed} {v x u : Int} : ∀ {n : Nat}, u ∈ stN es v x n ↔ ∃ i, i < n ∧ u ∈ tg v x (ed es i)
  | 0 => by simp [stN]
  | n + 1 => by
    simp only [stN, List.mem_append, stN_mem]
    constructor
    · rintro (⟨i, hi, h⟩ | h)
      · exact ⟨i, by omega, h⟩
      · exact ⟨n, by omega, h⟩
    · rintro ⟨i, hi, h⟩
      by_cases hin : i = n
      · subst hin; exact .inr h
      · exact .inl ⟨i, by omega, h⟩
def stL (es : List Ed) (v x : Int) : List Int := nI (stN es v x es.length)
theorem stL_len (es : List Ed) (v x : Int) : (stL es v x).length ≤ es.length := Nat.le_trans (nI_len _) (stN_len ..)
def nx (es : List Ed) (v x : Int) : Int := if (stL es v x).length = 0 then -1 else ix (stL es v x) 0
theorem nx_no {es : List Ed} {v x : Int} (h : (stL es v x).length = 0) : nx es v x = -1 := by simp [nx, h]
theorem nx_yes {es : List Ed} {v x : Int} (h : ¬ (stL es v x).length = 0) : nx es v x = ix (stL es v x) 0 := by simp [nx, h]
/-- The edge that is passed by a letter. -/
theorem tg_mem {v x u : Int} {e : Ed} : u ∈ tg v x e ↔ x ≠ 0 ∧ e = (if x < 0 then (u, -x, v) else (v, x, u)) := by
  obtain ⟨a, l, b⟩ := e
  unfold tg
  by_cases h1 : 0 < x
  · by_cases h2 : l = x ∧ a = v
    · rw [if_pos ⟨h1, h2⟩]
      rw [if_neg (by omega)]
      simp only [List.mem_singleton, Prod.mk.injEq, ne_eq]
      omega
    · rw [if_neg (fun h => h2 h.2), if_neg (by omega), if_neg (by omega)]
      simp only [List.not_mem_nil, Prod.mk.injEq, ne_eq, false_iff]
      omega
  · rw [if_neg (fun h => h1 h.1)]
    by_cases h3 : x < 0 ∧ l = -x ∧ b = v
    · rw [if_pos h3, if_pos h3.1]
      simp only [List.mem_singleton, Prod.mk.injEq, ne_eq]
      omega
    · rw [if_neg h3]
      by_cases h4 : x < 0
      · rw [if_pos h4]
        simp only [List.not_mem_nil, Prod.mk.injEq, ne_eq, false_iff]
        omega
      · simp only [List.not_mem_nil, ne_eq, false_iff]
        omega
theorem stL_mem {es : List Ed} {v x u : Int} : u ∈ stL es v x ↔ x ≠ 0 ∧ (if x < 0 then (u, -x, v) else (v, x, u)) ∈ es := by
  rw [stL, nI_mem, stN_mem]
  constructor
  · rintro ⟨i, hi, h⟩
    obtain ⟨h1, h2⟩ := tg_mem.1 h
    exact ⟨h1, by rw [← h2]; exact ed_mem hi⟩
  · rintro ⟨h1, h2⟩
    obtain ⟨i, hi, he⟩ := mem_ed h2
    exact ⟨i, hi, tg_mem.2 ⟨h1, he⟩⟩
theorem nx_mem {es : List Ed} {v x : Int} (h : 0 ≤ nx es v x) : nx es v x ∈ stL es v x := by
  by_cases hl : (stL es v x).length = 0
  · rw [nx_no hl] at h; omega
  · rw [nx_yes hl]
    simp only [ix]
    rw [List.getD_eq_getElem?_getD, List.getElem?_eq_getElem (by omega)]
    simp
/-- The edge behind a step. -/
theorem nx_edge {es : List Ed} {v x : Int} (h : 0 ≤ nx es v x) : x ≠ 0 ∧ (if x < 0 then (nx es v x, -x, v) else (v, x, nx es v x)) ∈ es := stL_mem.1 (nx_mem h)
theorem nx_in {r z : Int} {es : List Ed} {v x : Int} (hg : isG r z es = true) : -1 ≤ nx es v x ∧ nx es v x < z := by
  by_cases hl : (stL es v x).length = 0
  · rw [nx_no hl]
    have := isG_z hg
    omega
  · have hm : nx es v x ∈ stL es v x := by
      rw [nx_yes hl]
      simp only [ix]
      rw [List.getD_eq_getElem?_getD, List.getElem?_eq_getElem (by omega)]
      simp
    obtain ⟨h1, h2⟩ := stL_mem.1 hm
    have h3 := (isG_iff.1 hg).2.2 _ h2
    unfold inR at h3
    split at h3 <;> simp only at h3 <;> omega
theorem nx_v {r z : Int} {es : List Ed} {v x : Int} (hg : isG r z es = true) (h : 0 ≤ nx es v x) : 0 ≤ v ∧ v < z ∧ -r ≤ x ∧ x ≤ r ∧ x ≠ 0 := by
  obtain ⟨h1, h2⟩ := nx_edge h
  have h3 := (isG_iff.1 hg).2.2 _ h2
  unfold inR at h3
  split at h3 <;> simp only at h3 <;> omega
theorem nx_neg {r z : Int} {es : List Ed} {v x : Int} (hg : isG r z es = true) (h : nx es v x < 0) (u : Int) : x = 0 ∨ (if x < 0 then (u, -x, v) else (v, x, u)) ∉ es := by
  by_cases hx : x = 0
  · exact .inl hx
  · refine .inr fun hm => ?_
    have h1 : u ∈ stL es v x := stL_mem.2 ⟨hx, hm⟩
    have hl : ¬ (stL es v x).length = 0 := fun h0 => by
      rw [List.eq_nil_of_length_eq_zero h0] at h1; cases h1
    have hm2 : nx es v x ∈ stL es v x := by
      rw [nx_yes hl]
      simp only [ix]
      rw [List.getD_eq_getElem?_getD, List.getElem?_eq_getElem (by omega)]
      simp
    obtain ⟨h4, h5⟩ := stL_mem.1 hm2
    have h3 := (isG_iff.1 hg).2.2 _ h5
    unfold inR at h3
    split at h3 <;> simp only at h3 <;> omega
/-- In a folded graph a letter leads to one vertex at most. -/
theorem stL_one {es : List Ed} {v x u w : Int} (hp : prF es = true) (h1 : u ∈ stL es v x) (h2 : w ∈ stL es v x) : u = w := by
  obtain ⟨hx, h1⟩ := stL_mem.1 h1
  obtain ⟨_, h2⟩ := stL_mem.1 h2
  obtain ⟨i, hi, he⟩ := mem_ed h1
  obtain ⟨j, hj, hf⟩ := mem_ed h2
  rcases Nat.lt_trichotomy i j with h | h | h
  · have := prF_iff.1 hp i j h hj
    rw [he, hf] at this
    split at this <;> simp [fd2] at this
  · subst h
    rw [he] at hf
    split at hf <;> simp only [Prod.mk.injEq] at hf <;> omega
  · have := prF_iff.1 hp j i h hi
    rw [he, hf] at this
    split at this <;> simp [fd2] at this
theorem nx_iff {r z : Int} {es : List Ed} {v x u : Int} (hf : isF r z es = true) (hu : 0 ≤ u) : nx es v x = u ↔ x ≠ 0 ∧ (if x < 0 then (u, -x, v) else (v, x, u)) ∈ es := by
  constructor
  · rintro rfl; exact nx_edge hu
  · intro h
    have h1 : u ∈ stL es v x := stL_mem.2 h
    have h2 : 0 ≤ nx es v x := by
      rcases (show nx es v x < 0 ∨ 0 ≤ nx es v x by omega) with hn | hn
      · rcases nx_neg (isF_g hf) hn u with h3 | h3
        · exact absurd h3 h.1
        · exact absurd h.2 h3
      · exact hn
    exact stL_one (isF_p hf) (nx_mem h2) h1
/-- Backwards it leads back. -/
theorem nx_back {r z : Int} {es : List Ed} {v x : Int} (hf : isF r z es = true) (h : 0 ≤ nx es v x) : nx es (nx es v x) (-x) = v := by
  obtain ⟨h1, h2⟩ := nx_edge h
  have hv := nx_v (isF_g hf) h
  refine (nx_iff hf hv.1).2 ⟨by omega, ?_⟩
  by_cases hx : x < 0
  · rw [if_pos hx] at h2; rw [if_neg (by omega)]; exact h2
  · rw [if_neg hx] at h2; rw [if_pos (by omega)]; simpa using h2
end Go.Proofs.Try
namespace Go.Proofs.Try
open Go Go.Eng
set_option linter.unnecessarySimpa false
set_option linter.unusedSimpArgs false
set_option maxHeartbeats 4000000
end Go.Proofs.Try
/- Plain: missing steps; the search by breadth. -/
namespace Go.Proofs.Try
open Go Go.Eng
/-! ### Missing steps -/
def msK (es : List Ed) (ls : List Int) (v : Int) : Nat → List Ed
  | 0 => []
  | k + 1 => if nx es v (ix ls k) < 0 then msK es ls v k ++ [(v, ix ls k, -1)] else msK es ls v k
def msV (es : List Ed) (ls : List Int) : Nat → List Ed
  | 0 => []
  | v + 1 => msV es ls v ++ msK es ls v ls.length
theorem msK_len (es : List Ed) (ls : List Int) (v : Int) (k : Nat) : (msK es ls v k).length ≤ k := by
  induction k with
  | zero => simp [msK]
  | succ k ih =>
    unfold msK
    split
    · simp only [List.length_append, List.length_cons, List.length_nil]; omega
    · omega
theorem msV_len (es : List Ed) (ls : List Int) (v : Nat) : (msV es ls v).length ≤ v * ls.length := by
  induction v with
  | zero => simp [msV]
  | succ v ih => have := msK_len es ls v ls.length; simp only [msV, List.length_append, Nat.succ_mul]; omega
def miss (r z : Int) (es : List Ed) : List Ed := if isF r z es then msV es (lts r.toNat) z.toNat else []
theorem miss_no {r z : Int} {es : List Ed} (h : isF r z es = false) : miss r z es = [] := by simp [miss, h]
theorem miss_yes {r z : Int} {es : List Ed} (h : isF r z es = true) : miss r z es = msV es (lts r.toNat) z.toNat := by simp [miss, h]
theorem lts_ix {n k : Nat} (h : k < 2 * n) : -(n : Int) ≤ ix (lts n) k ∧ ix (lts n) k ≤ n ∧ ix (lts n) k ≠ 0 := by
  induction n with
  | zero => omega
  | succ n ih =>
    have hl := lts_len n
    rcases Nat.lt_or_ge k (2 * n) with h1 | h1
    · have := ih h1
      have he : ix (lts (n + 1)) k = ix (lts n) k := by
        simp only [ix, lts, List.getD_eq_getElem?_getD]
        rw [List.getElem?_append_left (by omega)]
      rw [he]; omega
    · have he : ix (lts (n + 1)) k = if k = 2 * n then (n + 1 : Int) else -(n + 1 : Int) := by
        simp only [ix, lts, List.getD_eq_getElem?_getD]
        rw [List.getElem?_append_right (by omega), hl]
        rcases (show k = 2 * n ∨ k = 2 * n + 1 by omega) with rfl | rfl
        · simp
        · simp [show 2 * n + 1 - 2 * n = 1 by omega]
      rw [he]; split <;> omega
theorem lts_mem {n : Nat} {x : Int} : x ∈ lts n ↔ x ≠ 0 ∧ -(n : Int) ≤ x ∧ x ≤ n := by
  induction n with
  | zero => simp [lts]; omega
  | succ n ih => simp only [lts, List.mem_append, ih, List.mem_cons, List.not_mem_nil, or_false]; omega

/-! ### The search -/
theorem ix_mem {l : List Int} {i : Nat} (h : i < l.length) : ix l i ∈ l := by
  simp only [ix]
  rw [List.getD_eq_getElem?_getD, List.getElem?_eq_getElem h]
  simp
abbrev BS := List (Int × List Int)
def vxs (st : BS) : List Int := st.map (·.1)
theorem vxs_len (st : BS) : (vxs st).length = st.length := by simp [vxs]
def wf : BS → Int → Option (List Int)
  | [], _ => none
  | (t, w) :: r, u => if t = u then some w else wf r u
def bsa (st : BS) (i : Nat) : Int × List Int := st.getD i (0, [])
theorem vxs_ix {st : BS} {i : Nat} : ix (vxs st) i = (bsa st i).1 := by
  simp only [ix, vxs, bsa, List.getD_eq_getElem?_getD, List.getElem?_map]
  cases st[i]? <;> rfl
theorem wf_none {st : BS} {t : Int} : wf st t = none ↔ t ∉ vxs st := by
  induction st with
  | nil => simp [wf, vxs]
  | cons p r ih =>
    obtain ⟨a, w⟩ := p
    unfold wf
    by_cases h : a = t
    · subst h; simp [vxs]
    · rw [if_neg h, ih]
      simp only [vxs, List.map_cons, List.mem_cons, not_or]
      exact ⟨fun h2 => ⟨fun e => h e.symm, h2⟩, fun h2 => h2.2⟩
theorem wf_mem {st : BS} {t : Int} {w : List Int} (h : wf st t = some w) : (t, w) ∈ st := by
  induction st with
  | nil => cases h
  | cons p r ih =>
    obtain ⟨a, w'⟩ := p
    unfold wf at h
    split at h
    · rename_i e; subst e; cases h; simp
    · exact List.mem_cons_of_mem _ (ih h)
theorem wf_at {st : BS} (hn : (vxs st).Nodup) {i : Nat} (hi : i < st.length) : wf st (bsa st i).1 = some (bsa st i).2 := by
  induction st generalizing i with
  | nil => simp at hi
  | cons p r ih =>
    obtain ⟨a, w⟩ := p
    have hn' := List.nodup_cons.1 hn
    cases i with
    | zero => simp [bsa, wf]
    | succ i =>
      have h1 : bsa ((a, w) :: r) (i + 1) = bsa r i := by simp [bsa]
      rw [h1]
      have h2 := ih hn'.2 (i := i) (by simpa using hi)
      unfold wf
      rw [if_neg, h2]
      intro e
      apply hn'.1
      rw [e]
      have : (bsa r i) ∈ r := by
        have hi' : i < r.length := by simpa using hi
        simp [bsa, hi']
      exact List.mem_map.2 ⟨_, this, rfl⟩
theorem wf_app {st : BS} {t : Int} {w : List Int} (h : t ∉ vxs st) (u : Int) : wf (st ++ [(t, w)]) u = if u = t then some w else wf st u := by
  induction st with
  | nil => simp [wf, eq_comm]
  | cons p r ih =>
    obtain ⟨a, w'⟩ := p
    simp only [vxs, List.map_cons, List.mem_cons, not_or] at h
    have h2 := ih h.2
    simp only [List.cons_append]
    rw [wf, wf, h2]
    by_cases h3 : a = u
    · subst h3; rw [if_pos rfl, if_pos rfl, if_neg (fun e => h.1 e.symm)]
    · rw [if_neg h3, if_neg h3]
def bStep (es : List Ed) (p : Int × List Int) (x : Int) (st : BS) : BS := if 0 ≤ nx es p.1 x ∧ nx es p.1 x ∉ vxs st then st ++ [(nx es p.1 x, p.2 ++ [x])] else st
def bIn (es : List Ed) (ls : List Int) (p : Int × List Int) (st : BS) : Nat → BS
  | 0 => st
  | k + 1 => bStep es p (ix ls k) (bIn es ls p st k)
def bOut (es : List Ed) (ls : List Int) (v : Int) : Nat → BS
  | 0 => [(v, [])]
  | i + 1 => if i < (bOut es ls v i).length then bIn es ls (bsa (bOut es ls v i) i) (bOut es ls v i) ls.length else bOut es ls v i
def bfs (r z : Int) (es : List Ed) (v : Int) : BS := bOut es (lts r.toNat) v z.toNat

theorem insI_new {x : Int} : ∀ {l : List Int}, x ∉ l → (insI x l).length = l.length + 1
  | [], _ => rfl
  | y :: r, h => by
    simp only [List.mem_cons, not_or] at h
    unfold insI
    rw [if_neg (fun e => h.1 e.symm)]
    split
    · simp
    · simp [insI_new h.2]
theorem nI_nodup {l : List Int} (h : l.Nodup) : (nI l).length = l.length := by
  suffices H : ∀ a : List Int, (∀ x ∈ l, x ∉ a) → (l.foldl (fun a x => insI x a) a).length = a.length + l.length by simpa [nI] using H [] (by simp)
  induction l with
  | nil => intro a _; simp
  | cons y r ih =>
    intro a ha
    have h' := List.nodup_cons.1 h
    rw [List.foldl_cons, ih h'.2, insI_new (ha y (by simp)), List.length_cons]
    · omega
    · intro x hx hm
      rcases insI_mem.1 hm with rfl | hm
      · exact h'.1 hx
      · exact ha x (List.mem_cons_of_mem _ hx) hm
theorem nodup_len {l : List Int} {z : Int} (hz : 0 ≤ z) (h : l.Nodup) (hb : ∀ u ∈ l, 0 ≤ u ∧ u < z) : l.length ≤ z.toNat := by
  rw [← nI_nodup h]
  exact asc_len (a := 0) (nI_asc l) fun u hu => by have := hb u (nI_mem.1 hu); omega

/-- What holds of the search at every time. -/
structure BI (r z : Int) (es : List Ed) (v : Int) (st : BS) : Prop where
  nd : (vxs st).Nodup
  inz : ∀ u ∈ vxs st, 0 ≤ u ∧ u < z
  pos : 0 < st.length
  wl : ∀ i, i < st.length → (bsa st i).2.length ≤ i
theorem BI.len {r z : Int} {es : List Ed} {v : Int} {st : BS} (h : BI r z es v st) (hz : 0 ≤ z) : st.length ≤ z.toNat := by
  rw [← vxs_len]; exact nodup_len hz h.nd h.inz
theorem BI_0 {r z : Int} {es : List Ed} {v : Int} (h : 0 ≤ v ∧ v < z) : BI r z es v [(v, [])] :=
  ⟨by simp [vxs], by simpa [vxs] using h, by simp, fun i hi => by have : i = 0 := by simpa using hi
                                                                  subst this; simp [bsa]⟩
theorem bsa_app {st : BS} {q : Int × List Int} {i : Nat} (h : i < st.length) : bsa (st ++ [q]) i = bsa st i := by
  simp [bsa, List.getElem?_append_left h]
theorem BI_step {r z : Int} {es : List Ed} {v x : Int} {st : BS} {i : Nat} (hg : isG r z es = true) (h : BI r z es v st) (hi : i < st.length) : BI r z es v (bStep es (bsa st i) x st) ∧ bsa (bStep es (bsa st i) x st) i = bsa st i ∧ st.length ≤ (bStep es (bsa st i) x st).length := by
  unfold bStep
  split
  · rename_i hc
    have hin := nx_in (v := (bsa st i).1) (x := x) hg
    refine ⟨⟨?_, ?_, by simp, ?_⟩, bsa_app hi, by simp⟩
    · simp only [vxs, List.map_append, List.map_cons, List.map_nil]
      refine List.nodup_append.2 ⟨h.nd, by simp, ?_⟩
      intro a ha b hb
      rw [List.mem_singleton] at hb
      subst hb
      intro e; subst e; exact hc.2 ha
    · intro u hu
      simp only [vxs, List.map_append, List.map_cons, List.map_nil, List.mem_append, List.mem_singleton] at hu
      rcases hu with hu | rfl
      · exact h.inz u hu
      · omega
    · intro j hj
      rcases Nat.lt_or_ge j st.length with h1 | h1
      · rw [bsa_app h1]; exact h.wl j h1
      · have : j = st.length := by simp at hj; omega
        subst this
        have := h.wl i hi
        simp [bsa] at this ⊢
        omega
  · exact ⟨h, rfl, Nat.le_refl _⟩
theorem BI_in {r z : Int} {es : List Ed} {ls : List Int} {v : Int} {st : BS} {i : Nat} (hg : isG r z es = true) (h : BI r z es v st) (hi : i < st.length) (k : Nat) :
    BI r z es v (bIn es ls (bsa st i) st k) ∧ bsa (bIn es ls (bsa st i) st k) i = bsa st i ∧ st.length ≤ (bIn es ls (bsa st i) st k).length := by
  induction k with
  | zero => exact ⟨h, rfl, Nat.le_refl _⟩
  | succ k ih =>
    obtain ⟨h1, h2, h3⟩ := ih
    have := BI_step (x := ix ls k) hg h1 (i := i) (by omega)
    rw [h2] at this
    exact ⟨this.1, this.2.1, by unfold bIn; omega⟩
theorem BI_out {r z : Int} {es : List Ed} {ls : List Int} {v : Int} (hg : isG r z es = true) (hv : 0 ≤ v ∧ v < z) (n : Nat) : BI r z es v (bOut es ls v n) := by
  induction n with
  | zero => exact BI_0 hv
  | succ n ih =>
    unfold bOut
    split
    · rename_i h; exact (BI_in hg ih h _).1
    · exact ih
theorem bOut_stop {es : List Ed} {ls : List Int} {v : Int} {i : Nat} (h : (bOut es ls v i).length ≤ i) : ∀ k, bOut es ls v (i + k) = bOut es ls v i
  | 0 => rfl
  | k + 1 => by
    have ih := bOut_stop h k
    show bOut es ls v ((i + k) + 1) = _
    rw [bOut, ih, if_neg (by omega)]
theorem bfs_at {r z : Int} {es : List Ed} {v : Int} {i : Nat} (hg : isG r z es = true) (hv : 0 ≤ v ∧ v < z) (hi : i = (bOut es (lts r.toNat) v i).length) : bfs r z es v = bOut es (lts r.toNat) v i := by
  have hz := isG_z hg
  have hl := (BI_out (ls := lts r.toNat) hg hv i).len (by omega)
  have := bOut_stop (es := es) (ls := lts r.toNat) (v := v) (i := i) (by omega) (z.toNat - i)
  rw [← this, bfs]
  congr 1
  omega
theorem BI_bfs {r z : Int} {es : List Ed} {v : Int} (hg : isG r z es = true) (hv : 0 ≤ v ∧ v < z) : BI r z es v (bfs r z es v) := BI_out hg hv _
theorem bfs_len {r z : Int} {es : List Ed} {v : Int} (hg : isG r z es = true) (hv : 0 ≤ v ∧ v < z) : (bfs r z es v).length ≤ 40 := by
  have hz := isG_z hg
  have := (BI_bfs hg hv).len (by omega)
  omega
theorem wf_len {r z : Int} {es : List Ed} {v t : Int} {w : List Int} {st : BS} (hg : isG r z es = true) (h : BI r z es v st) (hw : wf st t = some w) : w.length ≤ 40 := by
  have hz := isG_z hg
  have hl := h.len (by omega)
  obtain ⟨i, hi, he⟩ := List.mem_iff_getElem.1 (wf_mem hw)
  have := h.wl i hi
  rw [show bsa st i = (t, w) by simp [bsa, hi, he]] at this
  simp only at this
  omega

/-! ### Tables of lists, of truths -/
def tabO (z : Int) (f : Int → Option (List Int)) : List (Option (List El)) := (List.range z.toNat).map fun n : Nat => (f (n : Int)).map ints
theorem tabO_len (z : Int) (f : Int → Option (List Int)) : (tabO z f).length = z.toNat := by simp [tabO]
theorem tabO_at {z v : Int} (f : Int → Option (List Int)) (h0 : 0 ≤ v) (h1 : v < z) : (tabO z f)[v.toNat]? = some ((f v).map ints) := by
  have : v.toNat < z.toNat := by omega
  simp only [tabO]
  rw [List.getElem?_map, List.getElem?_range this]
  simp only [Option.map_some]
  congr 3
  omega
theorem tabO_set {z v : Int} (f : Int → Option (List Int)) (x : List Int) (h0 : 0 ≤ v) : (tabO z f).set v.toNat (some (ints x)) = tabO z fun u => if u = v then some x else f u := by
  apply List.ext_getElem?
  intro i
  by_cases hi : i < z.toNat
  · simp only [tabO, List.getElem?_set, List.getElem?_map, List.getElem?_range hi, Option.map_some, List.length_map, List.length_range]
    by_cases hv : v.toNat = i
    · have : (i : Int) = v := by omega
      have hz2 : v < z := by omega
      simp [hv, this, hz2]
    · simp [hv, show ¬ (i : Int) = v by omega]
  · have h1 : ((tabO z f).set v.toNat (some (ints x))).length ≤ i := by simp [tabO]; omega
    have h2 : (tabO z fun u => if u = v then some x else f u).length ≤ i := by simp [tabO]; omega
    rw [List.getElem?_eq_none h1, List.getElem?_eq_none h2]
theorem tabO_const (z : Int) : tabO z (fun _ => none) = List.replicate z.toNat none := by
  apply List.ext_getElem
  · simp [tabO]
  · intro i h1 h2; simp [tabO]
theorem tabO_wf {z t : Int} {w : List Int} {st : BS} (h0 : 0 ≤ t) (h : t ∉ vxs st) : (tabO z (wf st)).set t.toNat (some (ints w)) = tabO z (wf (st ++ [(t, w)])) := by
  rw [tabO_set _ _ h0]
  congr 1
  funext u
  rw [wf_app h]
theorem tabO_0 {z v : Int} (h : 0 ≤ v) : (List.replicate z.toNat none).set v.toNat (some []) = tabO z (wf [(v, [])]) := by
  have := tabO_wf (z := z) (st := []) (w := []) h (by simp [vxs])
  rw [← show List.replicate z.toNat none = tabO z (wf []) from (tabO_const z).symm] at this
  exact this
theorem optInts (o : Option (List Int)) : (Option.map ints o).getD [] = ints (o.getD []) := by cases o <;> rfl
theorem intsOne (v : Int) : ints [v] = [[Sc.int v]] := rfl
theorem vxs_app (st : BS) (p : Int × List Int) : vxs (st ++ [p]) = vxs st ++ [p.1] := by simp [vxs]
theorem wf_in {st : BS} {t : Int} (h : wf st t ≠ none) : t ∈ vxs st := Decidable.byContradiction fun h2 => h (wf_none.2 h2)
attribute [go_sem] tabO_len tabO_at optInts
def tabB (z : Int) (f : Int → Bool) : List Bool := (List.range z.toNat).map fun n : Nat => f (n : Int)
theorem tabB_len (z : Int) (f : Int → Bool) : (tabB z f).length = z.toNat := by simp [tabB]
theorem tabB_ix {z v : Int} (f : Int → Bool) (h0 : 0 ≤ v) (h1 : v < z) : bx (tabB z f) v.toNat = f v := by
  have : v.toNat < z.toNat := by omega
  simp only [bx, tabB]
  rw [List.getD_eq_getElem?_getD, List.getElem?_map, List.getElem?_range this]
  simp only [Option.map_some, Option.getD_some]
  congr 1
  omega
theorem tabB_set {z v : Int} (f : Int → Bool) (x : Bool) (h0 : 0 ≤ v) : (tabB z f).set v.toNat x = tabB z fun u => if u = v then x else f u := by
  apply List.ext_getElem?
  intro i
  by_cases hi : i < z.toNat
  · simp only [tabB, List.getElem?_set, List.getElem?_map, List.getElem?_range hi, Option.map_some, List.length_map, List.length_range]
    by_cases hv : v.toNat = i
    · have : (i : Int) = v := by omega
      have hz2 : v < z := by omega
      simp [hv, this, hz2]
    · simp [hv, show ¬ (i : Int) = v by omega]
  · have h1 : ((tabB z f).set v.toNat x).length ≤ i := by simp [tabB]; omega
    have h2 : (tabB z fun u => if u = v then x else f u).length ≤ i := by simp [tabB]; omega
    rw [List.getElem?_eq_none h1, List.getElem?_eq_none h2]
theorem tabB_const (z : Int) (x : Bool) : tabB z (fun _ => x) = List.replicate z.toNat x := by
  apply List.ext_getElem
  · simp [tabB]
  · intro i h1 h2; simp [tabB]
def sw (st : BS) (t : Int) : Bool := (wf st t).isSome
theorem tabB_sw {z t : Int} {w : List Int} {st : BS} (h0 : 0 ≤ t) (h : t ∉ vxs st) : (tabB z (sw st)).set t.toNat true = tabB z (sw (st ++ [(t, w)])) := by
  rw [tabB_set _ _ h0]
  congr 1
  funext u
  unfold sw
  rw [wf_app h]
  split <;> simp
theorem tabB_0 {z v : Int} (h : 0 ≤ v) : (List.replicate z.toNat false).set v.toNat true = tabB z (sw [(v, [])]) := by
  have := tabB_sw (z := z) (st := []) (w := []) h (by simp [vxs])
  rw [← show List.replicate z.toNat false = tabB z (sw []) from (tabB_const z false).symm] at this
  exact this
theorem tabB_at {z v : Int} {st : BS} (h0 : 0 ≤ v) (h1 : v < z) : (bls (tabB z (sw st)))[v.toNat]? = some [.bool (sw st v)] := by
  rw [blsAt (by rw [tabB_len]; omega), tabB_ix _ h0 h1]
attribute [go_sem] tabB_len tabB_at
def canO (r z : Int) (es : List Ed) : List Int := if isF r z es then vxs (bfs r z es 0) else []
theorem canO_no {r z : Int} {es : List Ed} (h : isF r z es = false) : canO r z es = [] := by simp [canO, h]
theorem canO_yes {r z : Int} {es : List Ed} (h : isF r z es = true) : canO r z es = vxs (bfs r z es 0) := by simp [canO, h]
/-! ### The word of a path -/
def pwO (r z : Int) (es : List Ed) (u v : Int) : Option (List Int) := if isF r z es = true ∧ 0 ≤ u ∧ u < z ∧ 0 ≤ v ∧ v < z then wf (bfs r z es u) v else none
def pw (r z : Int) (es : List Ed) (u v : Int) : List Int := (pwO r z es u v).getD []
theorem pwO_no {r z : Int} {es : List Ed} {u v : Int} (h : ¬ (isF r z es = true ∧ 0 ≤ u ∧ u < z ∧ 0 ≤ v ∧ v < z)) : pwO r z es u v = none := by unfold pwO; rw [if_neg h]
theorem pwO_yes {r z : Int} {es : List Ed} {u v : Int} (h : isF r z es = true ∧ 0 ≤ u ∧ u < z ∧ 0 ≤ v ∧ v < z) : pwO r z es u v = wf (bfs r z es u) v := by unfold pwO; rw [if_pos h]
theorem pw_len {r z : Int} {es : List Ed} {u v : Int} : (pw r z es u v).length ≤ 40 := by
  unfold pw
  by_cases h : isF r z es = true ∧ 0 ≤ u ∧ u < z ∧ 0 ≤ v ∧ v < z
  · rw [pwO_yes h]
    cases hw : wf (bfs r z es u) v with
    | none => simp
    | some w => exact wf_len (isF_g h.1) (BI_bfs (isF_g h.1) ⟨h.2.1, h.2.2.1⟩) hw
  · rw [pwO_no h]; simp
end Go.Proofs.Try
namespace Go.Proofs.Try
open Go Go.Eng
set_option linter.unnecessarySimpa false
set_option linter.unusedSimpArgs false
set_option maxHeartbeats 4000000
end Go.Proofs.Try
/- Plain: vertices numbered anew. -/
namespace Go.Proofs.Try
open Go Go.Eng
/-! ### A table over the vertices -/
def tabV (z : Int) (f : Int → Int) : List Int := (List.range z.toNat).map fun n : Nat => f (n : Int)
theorem tab_len (z : Int) (f : Int → Int) : (tabV z f).length = z.toNat := by simp [tabV]
theorem tab_ix {z v : Int} (f : Int → Int) (h0 : 0 ≤ v) (h1 : v < z) : ix (tabV z f) v.toNat = f v := by
  have : v.toNat < z.toNat := by omega
  simp only [ix, tabV]
  rw [List.getD_eq_getElem?_getD, List.getElem?_map, List.getElem?_range this]
  simp only [Option.map_some, Option.getD_some]
  congr 1
  omega
theorem tab_set {z v : Int} (f : Int → Int) (x : Int) (h0 : 0 ≤ v) : (tabV z f).set v.toNat x = tabV z fun u => if u = v then x else f u := by
  apply List.ext_getElem?
  intro i
  by_cases hi : i < z.toNat
  · simp only [tabV, List.getElem?_set, List.getElem?_map, List.getElem?_range hi, Option.map_some, List.length_map, List.length_range, hi]
    by_cases hv : v.toNat = i
    · have : (i : Int) = v := by omega
      simp [hv, this, hi]
    · simp [hv, show ¬ (i : Int) = v by omega]
  · have h1 : ((tabV z f).set v.toNat x).length ≤ i := by simp [tabV]; omega
    have h2 : (tabV z fun u => if u = v then x else f u).length ≤ i := by simp [tabV]; omega
    rw [List.getElem?_eq_none h1, List.getElem?_eq_none h2]
theorem tab_const (z x : Int) : tabV z (fun _ => x) = List.replicate z.toNat x := by
  apply List.ext_getElem
  · simp [tabV]
  · intro i h1 h2; simp [tabV]
/-- The place of a vertex among the first ones of an order. -/
def pos (o : List Int) : Nat → Int → Int
  | 0, _ => -1
  | i + 1, v => if v = ix o i then (i : Int) else pos o i v
theorem pos_le (o : List Int) (n : Nat) (v : Int) : -1 ≤ pos o n v ∧ pos o n v < n := by
  induction n with
  | zero => simp [pos]
  | succ n ih => unfold pos; split <;> omega
theorem pos_tab (o : List Int) (z : Int) (i : Nat) (h : 0 ≤ ix o i) : (tabV z (pos o i)).set (ix o i).toNat (i : Int) = tabV z (pos o (i + 1)) := by
  rw [tab_set _ _ h]; rfl
theorem pos_tab1 (o : List Int) (z : Int) (i : Nat) (h : 0 ≤ ix o i) : (tabV z (fun v => pos o i v + 1)).set (ix o i).toNat ((i : Int) + 1) = tabV z (fun v => pos o (i + 1) v + 1) := by
  rw [tab_set _ _ h]
  congr 1
  funext u
  conv => rhs; rw [pos]
  split <;> rfl
def renOk (o : List Int) (z : Int) : Nat → Bool
  | 0 => true
  | i + 1 => renOk o z i && decide (0 ≤ ix o i ∧ ix o i < z ∧ pos o i (ix o i) < 0)
theorem renOk_mono {o : List Int} {z : Int} {i j : Nat} (hij : i ≤ j) (h : renOk o z j = true) : renOk o z i = true := by
  induction j with
  | zero => have : i = 0 := by omega
            subst this; exact h
  | succ j ih =>
    rcases Nat.lt_or_ge i (j + 1) with h1 | h1
    · simp only [renOk, Bool.and_eq_true] at h
      exact ih (by omega) h.1
    · have : i = j + 1 := by omega
      subst this; exact h
theorem renOk_bad {o : List Int} {z : Int} {i : Nat} (hi : i < o.length) (h : ¬ (0 ≤ ix o i ∧ ix o i < z ∧ pos o i (ix o i) < 0)) : renOk o z o.length = false := by
  rw [← Bool.not_eq_true]
  intro h2
  have := renOk_mono (show i + 1 ≤ o.length from hi) h2
  simp only [renOk, Bool.and_eq_true, decide_eq_true_eq] at this
  exact h this.2
theorem renOk_at {o : List Int} {z : Int} {i : Nat} (h : renOk o z o.length = true) (hi : i < o.length) : 0 ≤ ix o i ∧ ix o i < z ∧ pos o i (ix o i) < 0 := by
  have := renOk_mono (show i + 1 ≤ o.length from hi) h
  simp only [renOk, Bool.and_eq_true, decide_eq_true_eq] at this
  exact this.2
/-- The edges between the vertices of an order, renumbered. -/
def mvE (o : List Int) (e : Ed) : Ed := (pos o o.length e.1, e.2.1, pos o o.length e.2.2)
def prtN (o : List Int) (es : List Ed) : Nat → List Ed
  | 0 => []
  | i + 1 => if 0 ≤ pos o o.length (ed es i).1 ∧ 0 ≤ pos o o.length (ed es i).2.2 then prtN o es i ++ [mvE o (ed es i)] else prtN o es i
theorem prtN_len (o : List Int) (es : List Ed) (i : Nat) : (prtN o es i).length ≤ i := by
  induction i with
  | zero => simp [prtN]
  | succ i ih => unfold prtN; split <;> first | omega | (simp; omega)
def prt (o : List Int) (g : Gr) : Gr := ⟨g.r, o.length, norm (prtN o g.es g.es.length)⟩
def renV (g : Gr) (o : List Int) : Bool := g.ok && decide (0 < o.length ∧ (o.length : Int) ≤ g.z) && renOk o g.z o.length
def ren (g : Gr) (o : List Int) : Gr := if renV g o then prt o g else g
theorem renV_iff {r z : Int} {es : List Ed} {o : List Int} : renV ⟨r, z, es⟩ o = true ↔ isG r z es = true ∧ (0 < o.length ∧ (o.length : Int) ≤ z) ∧ renOk o z o.length = true := by
  unfold renV
  rw [Bool.and_eq_true, Bool.and_eq_true, decide_eq_true_eq, and_assoc]
  rfl
theorem ren_yes {g : Gr} {o : List Int} (h : renV g o = true) : ren g o = prt o g := by simp [ren, h]
theorem ren_no {g : Gr} {o : List Int} (h : renV g o = false) : ren g o = g := by simp [ren, h]
theorem prtN_mem {o : List Int} {es : List Ed} {e : Ed} {n : Nat} (h : e ∈ prtN o es n) (hn : n ≤ es.length) : ∃ x ∈ es, 0 ≤ pos o o.length x.1 ∧ 0 ≤ pos o o.length x.2.2 ∧ e = mvE o x := by
  induction n with
  | zero => cases h
  | succ n ih =>
    unfold prtN at h
    split at h
    · rename_i hp
      rcases List.mem_append.1 h with h | h
      · exact ih h (by omega)
      · exact ⟨_, ed_mem (by omega), hp.1, hp.2, by simpa using h⟩
    · exact ih h (by omega)
theorem prt_ok {g : Gr} {o : List Int} (hg : g.ok = true) (h0 : 0 < o.length) (h1 : (o.length : Int) ≤ g.z) : (prt o g).ok = true := by
  obtain ⟨hz, _, hr⟩ := ok_iff.1 hg
  have hl := prtN_len o g.es g.es.length
  show isG g.r o.length (norm (prtN o g.es g.es.length)) = true
  refine norm_ok ⟨hz.1, hz.2.1⟩ ⟨by omega, by omega⟩ (by omega) fun e he => ?_
  obtain ⟨x, hx, hx1, hx2, rfl⟩ := prtN_mem he (Nat.le_refl _)
  have hi := hr x hx
  have p1 := pos_le o o.length x.1
  have p2 := pos_le o o.length x.2.2
  unfold inR at hi ⊢
  simp only [mvE]
  omega
theorem ren_ok {g : Gr} {o : List Int} (hg : g.ok = true) : (ren g o).ok = true := by
  unfold ren
  split
  · rename_i h
    obtain ⟨r, z, es⟩ := g
    have := renV_iff.1 h
    exact prt_ok hg this.2.1.1 this.2.1.2
  · exact hg
theorem ren_es {g : Gr} {o : List Int} {n : Nat} (h : g.es.length ≤ n) (hn : 120 ≤ n) : (ren g o).es.length ≤ n := by
  unfold ren
  split
  · have h1 := prtN_len o g.es g.es.length
    have h2 := norm_len (prtN o g.es g.es.length)
    simp only [prt]; omega
  · exact h
end Go.Proofs.Try
namespace Go.Proofs.Try
open Go Go.Eng
set_option linter.unnecessarySimpa false
set_option linter.unusedSimpArgs false
set_option maxHeartbeats 4000000

end Go.Proofs.Try
namespace Go.Proofs.Try
open Go Go.Eng
set_option linter.unnecessarySimpa false
set_option linter.unusedSimpArgs false
set_option maxHeartbeats 4000000
def sn (o : List Int) (i : Nat) (v : Int) : Bool := decide (0 ≤ pos o i v)
theorem sn_set (o : List Int) (z : Int) (i : Nat) (h : 0 ≤ ix o i) : (tabB z (sn o i)).set (ix o i).toNat true = tabB z (sn o (i + 1)) := by
  rw [tabB_set _ _ h]
  congr 1
  funext u
  unfold sn
  conv => rhs; rw [pos]
  split <;> simp_all
theorem sn_0 (o : List Int) (z : Int) : List.replicate z.toNat false = tabB z (sn o 0) := by
  rw [← tabB_const]; rfl
theorem renV_no {r z : Int} {es : List Ed} {o : List Int} (h : ¬ (isG r z es = true ∧ 0 < o.length ∧ (o.length : Int) ≤ z)) : renV ⟨r, z, es⟩ o = false := by
  rw [← Bool.not_eq_true]
  intro h2
  have := renV_iff.1 h2
  exact h ⟨this.1, this.2.1.1, this.2.1.2⟩
theorem renV_bad {r z : Int} {es : List Ed} {o : List Int} {i : Nat} (hi : i < o.length) (h : ¬ (0 ≤ ix o i ∧ ix o i < z ∧ pos o i (ix o i) < 0)) : renV ⟨r, z, es⟩ o = false := by
  have := renOk_bad hi h
  simp [renV, this]
end Go.Proofs.Try
namespace Go.Proofs.Try
open Go Go.Eng
set_option linter.unnecessarySimpa false
set_option linter.unusedSimpArgs false
set_option maxHeartbeats 4000000
def p1 (o : List Int) (i : Nat) (v : Int) : Int := pos o i v + 1
theorem p1_0 (o : List Int) (z : Int) : List.replicate z.toNat [Sc.int 0] = ints (tabV z (p1 o 0)) := by
  rw [zI_eq, ← tab_const]; rfl
theorem p1_set (o : List Int) (z : Int) (i : Nat) (h : 0 ≤ ix o i) : (tabV z (p1 o i)).set (ix o i).toNat ((i : Int) + 1) = tabV z (p1 o (i + 1)) := pos_tab1 o z i h
def prS (o : List Int) (es : List Ed) (i : Nat) : List Ed := norm (prtN o es i)
theorem prS_0 (o : List Int) (es : List Ed) : prS o es 0 = [] := rfl
theorem prS_yes {o : List Int} {es : List Ed} {i : Nat} (h : 0 ≤ pos o o.length (ed es i).1 ∧ 0 ≤ pos o o.length (ed es i).2.2) : put (prS o es i) (pos o o.length (ed es i).1, (ed es i).2.1, pos o o.length (ed es i).2.2) = prS o es (i + 1) := by
  simp only [prS, prtN]
  rw [norm_snoc, if_pos h]
  rfl
theorem prS_no {o : List Int} {es : List Ed} {i : Nat} (h : ¬ (0 ≤ pos o o.length (ed es i).1 ∧ 0 ≤ pos o o.length (ed es i).2.2)) : prS o es (i + 1) = prS o es i := by
  simp only [prS, prtN]
  rw [if_neg h]
theorem prS_len (o : List Int) (es : List Ed) (i : Nat) : (prS o es i).length ≤ i := Nat.le_trans (norm_len _) (prtN_len ..)
end Go.Proofs.Try
