import Derived.Test.YtfapjflogjblaaaA
import Derived.Shelf.SlSortCmp.WholeK
import Derived.Ground.SlsfProg
import Derived.WalkKit
import Derived.ProofKit
import Derived.Shelf.Small.Bits
import Derived.Shelf.SlSortCmp.NoneTotal
set_option linter.unusedVariables false
set_option linter.unusedSimpArgs false
set_option linter.unnecessarySimpa false
/- Plain: ascending lists of edges; putting in, sorting and compacting come to the same. -/
namespace Go.Proofs.Try
open Go Go.Eng

theorem cmpE_0 {p q : Ed} : cmpE p q = 0 ↔ p = q := by
  obtain ⟨a, b, c⟩ := p
  obtain ⟨a', b', c'⟩ := q
  simp only [cmpE, cmpI, Prod.mk.injEq]
  repeat' split
  all_goals omega
/-- The order by its places. -/
def ltE (p q : Ed) : Prop := p.1 < q.1 ∨ (p.1 = q.1 ∧ (p.2.1 < q.2.1 ∨ (p.2.1 = q.2.1 ∧ p.2.2 < q.2.2)))
theorem cmpE_lt {p q : Ed} : cmpE p q < 0 ↔ ltE p q := by
  simp only [cmpE, cmpI, ltE]
  repeat' split
  all_goals first | omega | (constructor <;> intro h <;> omega)
theorem cmpE_gt {p q : Ed} : 0 < cmpE p q ↔ ltE q p := by
  simp only [cmpE, cmpI, ltE]
  repeat' split
  all_goals first | omega | (constructor <;> intro h <;> omega)
theorem ltE_trans {p q r : Ed} (h1 : ltE p q) (h2 : ltE q r) : ltE p r := by unfold ltE at *; omega
theorem ltE_irr {p : Ed} : ¬ ltE p p := by unfold ltE; omega
theorem ltE_total {p q : Ed} (h : ¬ ltE p q) (h2 : p ≠ q) : ltE q p := by
  rcases Int.lt_trichotomy (cmpE p q) 0 with h3 | h3 | h3
  · exact absurd (cmpE_lt.1 h3) h
  · exact absurd (cmpE_0.1 h3) h2
  · exact cmpE_gt.1 h3

def asc (l : List Ed) : Prop := l.Pairwise ltE
def ins (e : Ed) : List Ed → List Ed
  | [] => [e]
  | x :: r => if cmpE e x = 0 then x :: r else if cmpE e x < 0 then e :: x :: r else x :: ins e r
theorem put_true (e : Ed) : ∀ (es acc : List Ed), es.foldl (putStep e) (acc, true) = (acc ++ es, true)
  | [], acc => by simp
  | x :: r, acc => by
    rw [List.foldl_cons]
    have : putStep e (acc, true) x = (acc ++ [x], true) := by unfold putStep; split <;> simp
    rw [this, put_true e r]
    simp
def fin (e : Ed) (r : List Ed × Bool) : List Ed := if r.2 then r.1 else r.1 ++ [e]
theorem put_false (e : Ed) : ∀ (es acc : List Ed), fin e (es.foldl (putStep e) (acc, false)) = acc ++ ins e es
  | [], acc => by simp [ins, fin]
  | x :: r, acc => by
    rw [List.foldl_cons]
    by_cases h0 : cmpE e x = 0
    · rw [show putStep e (acc, false) x = (acc ++ [x], true) from by simp [putStep, h0], put_true]
      simp [fin, ins, h0]
    · by_cases h1 : cmpE e x < 0
      · rw [show putStep e (acc, false) x = (acc ++ [e] ++ [x], true) from by simp [putStep, h0, h1], put_true]
        simp [fin, ins, h0, h1]
      · rw [show putStep e (acc, false) x = (acc ++ [x], false) from by simp [putStep, h0, h1], put_false e r]
        simp [ins, h0, h1]
theorem put_ins (es : List Ed) (e : Ed) : put es e = ins e es := by
  have := put_false e es []
  simp only [put, putN, List.take_length]
  simpa [fin] using this
theorem ins_mem {e x : Ed} : ∀ {es : List Ed}, x ∈ ins e es ↔ x = e ∨ x ∈ es
  | [] => by simp [ins]
  | y :: r => by
    unfold ins
    split
    · rename_i h; rw [cmpE_0] at h; subst h; simp
    · split
      · simp
      · simp only [List.mem_cons, ins_mem (es := r)]
        constructor <;> (rintro (h | h | h) <;> simp [h])
theorem ins_asc {e : Ed} : ∀ {es : List Ed}, asc es → asc (ins e es)
  | [], _ => by simp [ins, asc]
  | y :: r, h => by
    unfold ins
    unfold asc at h ⊢
    rw [List.pairwise_cons] at h
    split
    · exact List.pairwise_cons.2 h
    · rename_i h0
      split
      · rename_i h1
        rw [cmpE_lt] at h1
        refine List.pairwise_cons.2 ⟨fun z hz => ?_, List.pairwise_cons.2 h⟩
        rcases List.mem_cons.1 hz with rfl | hz
        · exact h1
        · exact ltE_trans h1 (h.1 z hz)
      · rename_i h1
        rw [cmpE_lt] at h1
        refine List.pairwise_cons.2 ⟨fun z hz => ?_, ins_asc h.2⟩
        rcases ins_mem.1 hz with rfl | hz
        · exact ltE_total h1 (fun e => h0 (cmpE_0.2 e))
        · exact h.1 z hz
/-- The list in order, each once. -/
def norm (l : List Ed) : List Ed := l.foldl (fun a e => ins e a) []
theorem norm_go : ∀ (l a : List Ed), asc a → asc (l.foldl (fun a e => ins e a) a) ∧ ∀ x, x ∈ l.foldl (fun a e => ins e a) a ↔ x ∈ a ∨ x ∈ l
  | [], a, h => ⟨h, by simp⟩
  | e :: l, a, h => by
    obtain ⟨h1, h2⟩ := norm_go l (ins e a) (ins_asc h)
    refine ⟨h1, fun x => ?_⟩
    rw [List.foldl_cons, h2, ins_mem, List.mem_cons]
    constructor
    · rintro ((h | h) | h)
      · exact .inr (.inl h)
      · exact .inl h
      · exact .inr (.inr h)
    · rintro (h | h | h)
      · exact .inl (.inr h)
      · exact .inl (.inl h)
      · exact .inr h
theorem norm_asc (l : List Ed) : asc (norm l) := (norm_go l [] List.Pairwise.nil).1
theorem norm_mem {l : List Ed} {x : Ed} : x ∈ norm l ↔ x ∈ l := by
  have := (norm_go l [] List.Pairwise.nil).2 x
  simpa [norm] using this
theorem asc_ext : ∀ {a b : List Ed}, asc a → asc b → (∀ x, x ∈ a ↔ x ∈ b) → a = b
  | [], [], _, _, _ => rfl
  | [], y :: b, _, _, h => by have := (h y).2 (by simp); simp at this
  | x :: a, [], _, _, h => by have := (h x).1 (by simp); simp at this
  | x :: a, y :: b, ha, hb, h => by
    unfold asc at ha hb
    rw [List.pairwise_cons] at ha hb
    have hxy : x = y := by
      rcases List.mem_cons.1 ((h x).1 (by simp)) with e | h1
      · exact e
      rcases List.mem_cons.1 ((h y).2 (by simp)) with e | h2
      · exact e.symm
      exact absurd (ltE_trans (ha.1 y h2) (hb.1 x h1)) ltE_irr
    subst hxy
    rw [asc_ext (a := a) (b := b) ha.2 hb.2 fun z => ?_]
    constructor
    · intro hz
      rcases List.mem_cons.1 ((h z).1 (by simp [hz])) with e | h1
      · subst e; exact absurd (ha.1 z hz) ltE_irr
      · exact h1
    · intro hz
      rcases List.mem_cons.1 ((h z).2 (by simp [hz])) with e | h1
      · subst e; exact absurd (hb.1 z hz) ltE_irr
      · exact h1
theorem norm_uniq {a l : List Ed} (h : asc a) (hm : ∀ x, x ∈ a ↔ x ∈ l) : a = norm l := asc_ext h (norm_asc l) fun x => (hm x).trans norm_mem.symm
theorem norm_put (l : List Ed) : l.foldl put [] = norm l := by
  unfold norm
  congr 1
  funext a e
  exact put_ins a e

/-! ### Compacting a sorted list -/
def cpt : List Ed → List Ed
  | [] => []
  | [x] => [x]
  | x :: y :: r => if x = y then cpt (y :: r) else x :: cpt (y :: r)
theorem cpt_mem {x : Ed} : ∀ {l : List Ed}, x ∈ cpt l ↔ x ∈ l
  | [] => by simp [cpt]
  | [y] => by simp [cpt]
  | y :: z :: r => by
    unfold cpt
    split
    · rename_i h; subst h; rw [cpt_mem]; simp
    · rw [List.mem_cons, cpt_mem, List.mem_cons]
      simp
theorem cpt_asc : ∀ {l : List Ed}, l.Pairwise (fun a b => ¬ ltE b a) → asc (cpt l)
  | [], _ => by simp [cpt, asc]
  | [y], _ => by simp [cpt, asc]
  | y :: z :: r, h => by
    unfold cpt
    have h' := List.pairwise_cons.1 h
    split
    · exact cpt_asc h'.2
    · rename_i hne
      unfold asc
      refine List.pairwise_cons.2 ⟨fun x hx => ?_, cpt_asc h'.2⟩
      have hyz : ltE y z := ltE_total (h'.1 z (by simp)) (fun e => hne e.symm)
      rcases List.mem_cons.1 (cpt_mem.1 hx) with rfl | hx
      · exact hyz
      · by_cases hzx : z = x
        · subst hzx; exact hyz
        · exact ltE_trans hyz (ltE_total ((List.pairwise_cons.1 h'.2).1 x hx) (fun e => hzx e.symm))
theorem cpt_norm {d l : List Ed} (hs : d.Pairwise (fun a b => ¬ ltE b a)) (hp : d.Perm l) : cpt d = norm l :=
  norm_uniq (cpt_asc hs) fun x => cpt_mem.trans hp.mem_iff
end Go.Proofs.Try
/- Plain: the sorted list (with what stands twice) is one only. -/
namespace Go.Proofs.Try
open Go Go.Eng

def leE (a b : Ed) : Prop := ¬ ltE b a
theorem leE_trans {a b c : Ed} (h1 : leE a b) (h2 : leE b c) : leE a c := by unfold leE ltE at *; omega
theorem leE_anti {a b : Ed} (h1 : leE a b) (h2 : leE b a) : a = b := by
  by_cases h : a = b
  · exact h
  · exact absurd (ltE_total h2 h) h1
theorem leE_refl (a : Ed) : leE a a := ltE_irr
def insD (e : Ed) : List Ed → List Ed
  | [] => [e]
  | x :: r => if cmpE e x ≤ 0 then e :: x :: r else x :: insD e r
def sortE (l : List Ed) : List Ed := l.foldr insD []
theorem insD_perm (e : Ed) : ∀ l : List Ed, (insD e l).Perm (e :: l)
  | [] => List.Perm.refl _
  | x :: r => by
    unfold insD
    split
    · exact List.Perm.refl _
    · exact ((insD_perm e r).cons x).trans (List.Perm.swap e x r)
theorem insD_sorted (e : Ed) : ∀ {l : List Ed}, l.Pairwise leE → (insD e l).Pairwise leE
  | [], _ => by simp [insD]
  | x :: r, h => by
    have h' := List.pairwise_cons.1 h
    unfold insD
    split
    · rename_i hc
      have hex : leE e x := by
        unfold leE
        intro hh
        have := cmpE_gt.2 hh
        omega
      refine List.pairwise_cons.2 ⟨fun y hy => ?_, h⟩
      rcases List.mem_cons.1 hy with rfl | hy
      · exact hex
      · exact leE_trans hex (h'.1 y hy)
    · rename_i hc
      have hxe : leE x e := by
        unfold leE
        intro hh
        have := cmpE_lt.2 hh
        omega
      refine List.pairwise_cons.2 ⟨fun y hy => ?_, insD_sorted e h'.2⟩
      rcases List.mem_cons.1 ((insD_perm e r).mem_iff.1 hy) with rfl | hy
      · exact hxe
      · exact h'.1 y hy
theorem sortE_perm (l : List Ed) : (sortE l).Perm l := by
  induction l with
  | nil => exact List.Perm.refl _
  | cons e l ih => exact (insD_perm e _).trans (ih.cons e)
theorem sortE_sorted (l : List Ed) : (sortE l).Pairwise leE := by
  induction l with
  | nil => exact List.Pairwise.nil
  | cons e l ih => exact insD_sorted e ih
theorem sorted_uniq : ∀ {a b : List Ed}, a.Pairwise leE → b.Pairwise leE → a.Perm b → a = b
  | [], b, _, _, h => by simpa using h.symm.eq_nil
  | x :: a, [], _, _, h => by have := h.eq_nil; simp at this
  | x :: a, y :: b, ha, hb, h => by
    have ha' := List.pairwise_cons.1 ha
    have hb' := List.pairwise_cons.1 hb
    have hxy : x = y := by
      have h1 : x ∈ y :: b := h.mem_iff.1 (by simp)
      have h2 : y ∈ x :: a := h.mem_iff.2 (by simp)
      rcases List.mem_cons.1 h1 with e | h1
      · exact e
      rcases List.mem_cons.1 h2 with e | h2
      · exact e.symm
      exact leE_anti (ha'.1 y h2) (hb'.1 x h1)
    subst hxy
    rw [sorted_uniq ha'.2 hb'.2 (List.Perm.cons_inv h)]
theorem sortE_uniq {d l : List Ed} (hs : d.Pairwise leE) (hp : d.Perm l) : d = sortE l :=
  sorted_uniq hs (sortE_sorted l) (hp.trans (sortE_perm l).symm)
end Go.Proofs.Try
namespace Go.Proofs.Try
open Go Go.Eng
set_option linter.unnecessarySimpa false
set_option linter.unusedSimpArgs false
set_option maxHeartbeats 4000000

/-- Compacted: the first n. -/
def cptN (es : List Ed) : Nat → List Ed
  | 0 => []
  | n + 1 => if n ≠ 0 ∧ ed es n = ed es (n - 1) then cptN es n else cptN es n ++ [ed es n]
theorem cptN_len (es : List Ed) : ∀ n, (cptN es n).length ≤ n
  | 0 => by simp [cptN]
  | n + 1 => by
    have := cptN_len es n
    unfold cptN
    split
    · omega
    · simp; omega
theorem cptN_mem {es : List Ed} {x : Ed} : ∀ {n : Nat}, x ∈ cptN es n ↔ ∃ i, i < n ∧ x = ed es i
  | 0 => by simp [cptN]
  | n + 1 => by
    unfold cptN
    split
    · rename_i h
      rw [cptN_mem]
      constructor
      · rintro ⟨i, hi, rfl⟩; exact ⟨i, by omega, rfl⟩
      · rintro ⟨i, hi, rfl⟩
        by_cases hin : i = n
        · subst hin; exact ⟨i - 1, by omega, h.2⟩
        · exact ⟨i, by omega, rfl⟩
    · rw [List.mem_append, cptN_mem, List.mem_singleton]
      constructor
      · rintro (⟨i, hi, rfl⟩ | rfl)
        · exact ⟨i, by omega, rfl⟩
        · exact ⟨n, by omega, rfl⟩
      · rintro ⟨i, hi, rfl⟩
        by_cases hin : i = n
        · subst hin; exact .inr rfl
        · exact .inl ⟨i, by omega, rfl⟩
theorem cptN_asc {es : List Ed} (hs : ∀ i j, i < j → j < es.length → ¬ ltE (ed es j) (ed es i)) : ∀ n, n ≤ es.length → asc (cptN es n)
  | 0, _ => List.Pairwise.nil
  | n + 1, hn => by
    have ih := cptN_asc hs n (by omega)
    unfold cptN
    split
    · exact ih
    · rename_i h
      refine List.pairwise_append.2 ⟨ih, by simp, fun x hx y hy => ?_⟩
      rw [List.mem_singleton] at hy
      subst hy
      obtain ⟨i, hi, rfl⟩ := cptN_mem.1 hx
      have h1 : ed es n ≠ ed es (n - 1) := fun e => h ⟨by omega, e⟩
      have h2 : ltE (ed es (n - 1)) (ed es n) := ltE_total (hs (n - 1) n (by omega) (by omega)) h1
      by_cases hi2 : i = n - 1
      · subst hi2; exact h2
      · have h3 := hs i (n - 1) (by omega) (by omega)
        by_cases he : ed es (n - 1) = ed es i
        · rw [← he]; exact h2
        · exact ltE_trans (ltE_total h3 he) h2
theorem cptN_all {es : List Ed} : ∀ {n : Nat}, (∀ i, 1 ≤ i → i < n → ed es i ≠ ed es (i - 1)) → n ≤ es.length → cptN es n = es.take n
  | 0, _, _ => by simp [cptN]
  | n + 1, h, hn => by
    unfold cptN
    rw [if_neg (fun hh => h n (by omega) (by omega) hh.2), cptN_all (n := n) (fun i h1 h2 => h i h1 (by omega)) (by omega), List.take_add_one]
    simp [ed, show n < es.length by omega]
def CI (es : List Ed) (k0 k j : Nat) (M : List Ed) : Prop := 1 ≤ j ∧ k0 + j ≤ es.length ∧ k0 ≤ k ∧ k + 1 ≤ k0 + j ∧ M.length = es.length ∧ M.take k = cptN es (k0 + j) ∧ ∀ x, k0 + j ≤ x + 1 → ed M x = ed es x
theorem CI_0 {es : List Ed} {k0 : Nat} (h0 : 1 ≤ k0) (h : k0 < es.length) (he : ed es k0 = ed es (k0 - 1)) (hn : ∀ i, 1 ≤ i → i < k0 → ed es i ≠ ed es (i - 1)) : CI es k0 k0 1 es := by
  refine ⟨by omega, by omega, by omega, by omega, rfl, ?_, fun x _ => rfl⟩
  rw [show cptN es (k0 + 1) = cptN es k0 from by conv => lhs; unfold cptN; rw [if_pos ⟨by omega, he⟩], cptN_all hn (by omega)]
theorem ed_set {l : List Ed} {i j : Nat} {a : Ed} (h : i < l.length) : ed (l.set i a) j = if i = j then a else ed l j := by
  simp only [ed, List.getD_eq_getElem?_getD, List.getElem?_set]
  by_cases hij : i = j
  · subst hij; simp [h]
  · simp [hij]
theorem CI_same {es M : List Ed} {k0 k j : Nat} (h : CI es k0 k j M) (hj : k0 + j < es.length) (he : ed M (k0 + j) = ed M (k0 + j - 1)) : CI es k0 k (j + 1) M := by
  obtain ⟨h1, h2, h3, h4, h5, h6, h7⟩ := h
  refine ⟨by omega, by omega, h3, by omega, h5, ?_, fun x hx => h7 x (by omega)⟩
  rw [h7 _ (by omega), h7 _ (by omega)] at he
  rw [h6, show k0 + (j + 1) = (k0 + j) + 1 by omega]
  conv => rhs; unfold cptN
  rw [if_pos ⟨by omega, he⟩]
theorem CI_next {es M : List Ed} {k0 k j : Nat} (h : CI es k0 k j M) (hj : k0 + j < es.length) (he : ed M (k0 + j) ≠ ed M (k0 + j - 1)) : CI es k0 (k + 1) (j + 1) (M.set k (ed M (k0 + j))) := by
  obtain ⟨h1, h2, h3, h4, h5, h6, h7⟩ := h
  refine ⟨by omega, by omega, by omega, by omega, by simp [h5], ?_, fun x hx => ?_⟩
  · rw [h7 _ (by omega), h7 _ (by omega)] at he
    rw [show k0 + (j + 1) = (k0 + j) + 1 by omega]
    conv => rhs; unfold cptN
    rw [if_neg (fun hh => he hh.2), ← h6, h7 _ (by omega), List.take_add_one]
    rw [List.take_set_of_le (by omega)]
    simp [show k < M.length by omega]
  · rw [ed_set (by omega), if_neg (by omega)]
    exact h7 x (by omega)
def compact_S : SpecX := fun args o o' => ∃ (e : Nat) (es : List Ed), es.length ≤ 1099511627776 ∧ args = [AV.one (.ref 0)] ∧ o = .flat e 3 (eds es) ∧ o' = .flat e 3 (eds (cptN es es.length))
def K74 : Nat → List Nat := fun i => ([[0], [0, 8], [2], [0, 3], [0, 3, 13], [0, 3], [0, 3, 25], [0, 3, 4], [0, 3, 4, 5], [0, 3, 4, 5, 32], [0, 3, 4, 5], [0, 3, 4, 5, 44], [0, 3, 4, 5], [0, 3, 4, 5], [0, 3], [2], [2]] : List (List Nat)).getD i []
theorem compact_sat : SatX Try.prog 74 compact_S := by
  refine satX_of tok okr mixed K74 Try.func74 rfl (r := .tmp 2) rfl rfl ?_
  rintro args o o' ⟨e, es, hl, rfl, rfl, rfl⟩
  refine ⟨by show 1 ≤ 61; decide, rfl, rfl, fun S W pv => ?_⟩
  repeat' (first
    | refine w_op rfl (by simp (disch := first | omega | (simp; omega)) [go_sem, entryM, Try.ntmps74, -Option.map_eq_some_iff]; rfl) ?_
    | refine l_op rfl (by simp (disch := first | omega | (simp; omega)) [go_sem, entryM, Try.ntmps74, -Option.map_eq_some_iff]; exact ⟨rfl, rfl⟩) ?_
    | refine w_end (by simp [go_sem, K74]; rfl) ?_
    | refine l_end (by kernel_rfl) (by simp [go_sem, K74]; rfl) ?_
    | refine w_clr tok rfl (by first | rfl | (simpa [go_sem, *] using trivial)) rfl rfl (by simp (disch := first | omega | (simp; omega)) [go_sem, -Option.map_eq_some_iff]; rfl) (by simp [go_sem]; rfl) ?_
    | refine w_yes' (by simpa [go_sem, *] using trivial) rfl (by simp (disch := first | omega | (simp; omega)) [go_sem, entryM, Try.ntmps74, -Option.map_eq_some_iff]; rfl) ?_
    | refine w_no' (by simpa [go_sem, *] using trivial) rfl rfl (by simp [go_sem, skipE]; rfl) ?_
    | refine w_op rfl (by simp (disch := first | omega | (simp; omega)) [go_sem, entryM, Try.ntmps74, -Option.map_eq_some_iff, *]; rfl) ?_
    | refine l_op' (by simpa [go_sem, *] using trivial) rfl (by simp (disch := first | omega | (simp; omega)) [go_sem, entryM, Try.ntmps74, -Option.map_eq_some_iff, *]; exact ⟨rfl, rfl⟩) ?_
    | refine l_no' (by simpa [go_sem, *] using trivial) rfl rfl (by simp [go_sem, skipE]; rfl) ?_
    | refine k_seq ?_
    | refine a_seq ?_
    | refine a_reg ?_
    | refine a_draw ?_
    | refine k_seq_exit ?_
    | refine k_seq_ret ?_
    | refine k_blk ?_
    | refine k_blk_exit ?_
    | refine k_blk_other rfl ?_
    | refine k_blk_ret ?_
    | refine k_lop_exit ?_
    | refine k_lop_ret ?_
    | refine a_skip ?_
    | refine a_ret ?_
    | refine a_exit ?_
    | refine a_block ?_
    | (refine a_cond (by simp [go_sem, *, -Bool.not_eq_eq_eq_not]; rfl) (fun hr => ?_) (fun hr => ?_) <;> (have hc := hr) <;> (try simp only [Bool.not_eq_true', Bool.not_eq_false', Bool.and_eq_true, Bool.and_eq_false_imp, Bool.or_eq_true, Bool.or_eq_false_iff, Bool.not_eq_true, Bool.not_eq_false, decide_eq_true_eq, decide_eq_false_iff_not, Int.not_lt, Int.not_le, ge_iff_le, gt_iff_lt, decide_true, decide_false, Bool.false_eq_true, reduceCtorEq, beq_iff_eq, beq_eq_false_iff_ne, ne_eq, bne_iff_ne, bne_eq_false_iff_eq, and_true, true_and, and_false, false_and] at hc) <;> (try (exfalso; omega)))
    | ((fail_if_success (refine w_same (by simpa [go_sem, *] using trivial) rfl ?_)); refine w_splv rfl (by simp [go_sem, *, -Bool.not_eq_eq_eq_not]; rfl) (fun hr => ?_) (fun hr => ?_) <;> (have hg := hr) <;> (try simp only [Bool.not_eq_true', Bool.not_eq_false', Bool.and_eq_true, Bool.and_eq_false_imp, Bool.or_eq_true, Bool.or_eq_false_iff, Bool.not_eq_true, Bool.not_eq_false, decide_eq_true_eq, decide_eq_false_iff_not, Int.not_lt, Int.not_le, ge_iff_le, gt_iff_lt, decide_true, decide_false, Bool.false_eq_true, reduceCtorEq, beq_iff_eq, beq_eq_false_iff_ne, ne_eq, bne_iff_ne, bne_eq_false_iff_eq, and_true, true_and, and_false, false_and] at hg) <;> (try (exfalso; omega)))
    | ((fail_if_success (refine l_same (by simpa [go_sem, *] using trivial) rfl ?_)); refine l_splv rfl (by simp [go_sem, *, -Bool.not_eq_eq_eq_not]; rfl) (fun hr => ?_) (fun hr => ?_) <;> (have hg := hr) <;> (try simp only [Bool.not_eq_true', Bool.not_eq_false', Bool.and_eq_true, Bool.and_eq_false_imp, Bool.or_eq_true, Bool.or_eq_false_iff, Bool.not_eq_true, Bool.not_eq_false, decide_eq_true_eq, decide_eq_false_iff_not, Int.not_lt, Int.not_le, ge_iff_le, gt_iff_lt, decide_true, decide_false, Bool.false_eq_true, reduceCtorEq, beq_iff_eq, beq_eq_false_iff_ne, ne_eq, bne_iff_ne, bne_eq_false_iff_eq, and_true, true_and, and_false, false_and] at hg) <;> (try (exfalso; omega))))
  · have : cptN es es.length = es := by
      rw [cptN_all (fun i h1 h2 => by omega) (Nat.le_refl _)]; simp
    rw [this]
    exact ⟨rfl, .inl ⟨0, rfl, rfl⟩⟩
  refine a_loop (fun k : Nat => ⟨61, [(0, AV.one (.ref 0)), (3, AV.one (.sc (.int k)))], [(0, some (.flat e 3 (eds es))), (1, some (.pin S W)), (3, some (.stay 0 pv))], [0, 1, 3]⟩) (fun k => 1 ≤ k ∧ k ≤ es.length ∧ ∀ i, 1 ≤ i → i < k → ed es i ≠ ed es (i - 1)) (fun k => es.length - k) 1 ⟨by omega, by omega, fun i h1 h2 => by omega⟩ (Weak.refl _) ?_
  rintro k0 ⟨h0, hk0, hno⟩
  have e1 : ((k0 : Int) - 1).toNat = k0 - 1 := by omega
  repeat' (first
    | refine w_op rfl (by simp (disch := first | omega | (simp; omega)) [go_sem, e1, eqScs, TI.allInt, Try.ntmps74, -Option.map_eq_some_iff]; rfl) ?_
    | refine l_op rfl (by simp (disch := first | omega | (simp; omega)) [go_sem, e1, eqScs, TI.allInt, Try.ntmps74, -Option.map_eq_some_iff]; exact ⟨rfl, rfl⟩) ?_
    | refine w_end (by simp [go_sem, K74]; rfl) ?_
    | refine l_end (by kernel_rfl) (by simp [go_sem, K74]; rfl) ?_
    | refine w_clr tok rfl (by first | rfl | (simpa [go_sem, *] using trivial)) rfl rfl (by simp (disch := first | omega | (simp; omega)) [go_sem, -Option.map_eq_some_iff]; rfl) (by simp [go_sem]; rfl) ?_
    | refine w_yes' (by simpa [go_sem, *] using trivial) rfl (by simp (disch := first | omega | (simp; omega)) [go_sem, e1, eqScs, TI.allInt, Try.ntmps74, -Option.map_eq_some_iff]; rfl) ?_
    | refine w_no' (by simpa [go_sem, *] using trivial) rfl rfl (by simp [go_sem, skipE]; rfl) ?_
    | refine w_op rfl (by simp (disch := first | omega | (simp; omega)) [go_sem, e1, eqScs, TI.allInt, Try.ntmps74, -Option.map_eq_some_iff, *]; rfl) ?_
    | refine l_op' (by simpa [go_sem, *] using trivial) rfl (by simp (disch := first | omega | (simp; omega)) [go_sem, e1, eqScs, TI.allInt, Try.ntmps74, -Option.map_eq_some_iff, *]; exact ⟨rfl, rfl⟩) ?_
    | refine l_no' (by simpa [go_sem, *] using trivial) rfl rfl (by simp [go_sem, skipE]; rfl) ?_
    | refine k_seq ?_
    | refine a_seq ?_
    | refine a_reg ?_
    | refine a_draw ?_
    | refine k_seq_exit ?_
    | refine k_seq_ret ?_
    | refine k_blk ?_
    | refine k_blk_exit ?_
    | refine k_blk_other rfl ?_
    | refine k_blk_ret ?_
    | refine k_lop_exit ?_
    | refine k_lop_ret ?_
    | refine a_skip ?_
    | refine a_ret ?_
    | refine a_exit ?_
    | refine a_block ?_
    | (refine a_cond (by simp [go_sem, *, -Bool.not_eq_eq_eq_not]; rfl) (fun hr => ?_) (fun hr => ?_) <;> (have hc := hr) <;> (try simp only [Bool.not_eq_true', Bool.not_eq_false', Bool.and_eq_true, Bool.and_eq_false_imp, Bool.or_eq_true, Bool.or_eq_false_iff, Bool.not_eq_true, Bool.not_eq_false, decide_eq_true_eq, decide_eq_false_iff_not, Int.not_lt, Int.not_le, ge_iff_le, gt_iff_lt, decide_true, decide_false, Bool.false_eq_true, reduceCtorEq, beq_iff_eq, beq_eq_false_iff_ne, ne_eq, bne_iff_ne, bne_eq_false_iff_eq, and_true, true_and, and_false, false_and] at hc) <;> (try (exfalso; omega)))
    | ((fail_if_success (refine w_same (by simpa [go_sem, *] using trivial) rfl ?_)); refine w_splv rfl (by simp [go_sem, *, -Bool.not_eq_eq_eq_not]; rfl) (fun hr => ?_) (fun hr => ?_) <;> (have hg := hr) <;> (try simp only [Bool.not_eq_true', Bool.not_eq_false', Bool.and_eq_true, Bool.and_eq_false_imp, Bool.or_eq_true, Bool.or_eq_false_iff, Bool.not_eq_true, Bool.not_eq_false, decide_eq_true_eq, decide_eq_false_iff_not, Int.not_lt, Int.not_le, ge_iff_le, gt_iff_lt, decide_true, decide_false, Bool.false_eq_true, reduceCtorEq, beq_iff_eq, beq_eq_false_iff_ne, ne_eq, bne_iff_ne, bne_eq_false_iff_eq, and_true, true_and, and_false, false_and] at hg) <;> (try (exfalso; omega)))
    | ((fail_if_success (refine l_same (by simpa [go_sem, *] using trivial) rfl ?_)); refine l_splv rfl (by simp [go_sem, *, -Bool.not_eq_eq_eq_not]; rfl) (fun hr => ?_) (fun hr => ?_) <;> (have hg := hr) <;> (try simp only [Bool.not_eq_true', Bool.not_eq_false', Bool.and_eq_true, Bool.and_eq_false_imp, Bool.or_eq_true, Bool.or_eq_false_iff, Bool.not_eq_true, Bool.not_eq_false, decide_eq_true_eq, decide_eq_false_iff_not, Int.not_lt, Int.not_le, ge_iff_le, gt_iff_lt, decide_true, decide_false, Bool.false_eq_true, reduceCtorEq, beq_iff_eq, beq_eq_false_iff_ne, ne_eq, bne_iff_ne, bne_eq_false_iff_eq, and_true, true_and, and_false, false_and] at hg) <;> (try (exfalso; omega))))
  · have he : ed es k0 = ed es (k0 - 1) := Prod.ext hc.1 (Prod.ext hc.2.1 hc.2.2)
    have hk : k0 < es.length := by assumption
    refine a_loop (fun p : Nat × Nat × List Ed => ⟨61, [(0, AV.one (.ref 0)), (3, AV.one (.sc (.int p.1))), (4, AV.one (.win 0 3 k0 (es.length - k0))), (5, AV.one (.sc (.int p.2.1)))], [(0, some (.flat e 3 (eds p.2.2))), (1, some (.pin S W)), (3, some (.stay 0 pv))], [0, 1, 3]⟩) (fun p => CI es k0 p.1 p.2.1 p.2.2) (fun p => es.length - (k0 + p.2.1)) (k0, 1, es) (CI_0 h0 hk he hno) (Weak.refl _) ?_
    rintro ⟨k, j, M⟩ hI
    have hI' := hI
    obtain ⟨h1, h2, h3, h4, h5, h6, h7⟩ := hI'
    simp only at h1 h2 h3 h4 h5 ⊢
    clear h6 h7 hno he hc hr
    have e2 : ((j : Int) - 1).toNat = j - 1 := by omega
    have e3 : k0 + (j - 1) = k0 + j - 1 := by omega
    repeat' (first
    | refine w_op rfl (by simp (disch := first | omega | (simp; omega)) [go_sem, e2, e3, eqScs, TI.allInt, h5, Try.ntmps74, -Option.map_eq_some_iff]; rfl) ?_
    | refine l_op rfl (by simp (disch := first | omega | (simp; omega)) [go_sem, e2, e3, eqScs, TI.allInt, h5, Try.ntmps74, -Option.map_eq_some_iff]; exact ⟨rfl, rfl⟩) ?_
    | refine w_end (by simp [go_sem, K74]; rfl) ?_
    | refine l_end (by kernel_rfl) (by simp [go_sem, K74]; rfl) ?_
    | refine w_clr tok rfl (by first | rfl | (simpa [go_sem, *] using trivial)) rfl rfl (by simp (disch := first | omega | (simp; omega)) [go_sem, -Option.map_eq_some_iff]; rfl) (by simp [go_sem]; rfl) ?_
    | refine w_yes' (by simpa [go_sem, *] using trivial) rfl (by simp (disch := first | omega | (simp; omega)) [go_sem, e2, e3, eqScs, TI.allInt, h5, Try.ntmps74, -Option.map_eq_some_iff]; rfl) ?_
    | refine w_no' (by simpa [go_sem, *] using trivial) rfl rfl (by simp [go_sem, skipE]; rfl) ?_
    | refine w_op rfl (by simp (disch := first | omega | (simp; omega)) [go_sem, e2, e3, eqScs, TI.allInt, h5, Try.ntmps74, -Option.map_eq_some_iff, *]; rfl) ?_
    | refine l_op' (by simpa [go_sem, *] using trivial) rfl (by simp (disch := first | omega | (simp; omega)) [go_sem, e2, e3, eqScs, TI.allInt, h5, Try.ntmps74, -Option.map_eq_some_iff, *]; exact ⟨rfl, rfl⟩) ?_
    | refine l_no' (by simpa [go_sem, *] using trivial) rfl rfl (by simp [go_sem, skipE]; rfl) ?_
    | refine k_seq ?_
    | refine a_seq ?_
    | refine a_reg ?_
    | refine a_draw ?_
    | refine k_seq_exit ?_
    | refine k_seq_ret ?_
    | refine k_blk ?_
    | refine k_blk_exit ?_
    | refine k_blk_other rfl ?_
    | refine k_blk_ret ?_
    | refine k_lop_exit ?_
    | refine k_lop_ret ?_
    | refine a_skip ?_
    | refine a_ret ?_
    | refine a_exit ?_
    | refine a_block ?_
    | (refine a_cond (by simp [go_sem, *, -Bool.not_eq_eq_eq_not]; rfl) (fun hr => ?_) (fun hr => ?_) <;> (have hc := hr) <;> (try simp only [Bool.not_eq_true', Bool.not_eq_false', Bool.and_eq_true, Bool.and_eq_false_imp, Bool.or_eq_true, Bool.or_eq_false_iff, Bool.not_eq_true, Bool.not_eq_false, decide_eq_true_eq, decide_eq_false_iff_not, Int.not_lt, Int.not_le, ge_iff_le, gt_iff_lt, decide_true, decide_false, Bool.false_eq_true, reduceCtorEq, beq_iff_eq, beq_eq_false_iff_ne, ne_eq, bne_iff_ne, bne_eq_false_iff_eq, and_true, true_and, and_false, false_and] at hc) <;> (try (exfalso; omega)))
    | ((fail_if_success (refine w_same (by simpa [go_sem, *] using trivial) rfl ?_)); refine w_splv rfl (by simp [go_sem, *, -Bool.not_eq_eq_eq_not]; rfl) (fun hr => ?_) (fun hr => ?_) <;> (have hg := hr) <;> (try simp only [Bool.not_eq_true', Bool.not_eq_false', Bool.and_eq_true, Bool.and_eq_false_imp, Bool.or_eq_true, Bool.or_eq_false_iff, Bool.not_eq_true, Bool.not_eq_false, decide_eq_true_eq, decide_eq_false_iff_not, Int.not_lt, Int.not_le, ge_iff_le, gt_iff_lt, decide_true, decide_false, Bool.false_eq_true, reduceCtorEq, beq_iff_eq, beq_eq_false_iff_ne, ne_eq, bne_iff_ne, bne_eq_false_iff_eq, and_true, true_and, and_false, false_and] at hg) <;> (try (exfalso; omega)))
    | ((fail_if_success (refine l_same (by simpa [go_sem, *] using trivial) rfl ?_)); refine l_splv rfl (by simp [go_sem, *, -Bool.not_eq_eq_eq_not]; rfl) (fun hr => ?_) (fun hr => ?_) <;> (have hg := hr) <;> (try simp only [Bool.not_eq_true', Bool.not_eq_false', Bool.and_eq_true, Bool.and_eq_false_imp, Bool.or_eq_true, Bool.or_eq_false_iff, Bool.not_eq_true, Bool.not_eq_false, decide_eq_true_eq, decide_eq_false_iff_not, Int.not_lt, Int.not_le, ge_iff_le, gt_iff_lt, decide_true, decide_false, Bool.false_eq_true, reduceCtorEq, beq_iff_eq, beq_eq_false_iff_ne, ne_eq, bne_iff_ne, bne_eq_false_iff_eq, and_true, true_and, and_false, false_and] at hg) <;> (try (exfalso; omega))))
    · have he : ed M (k0 + j) ≠ ed M (k0 + j - 1) := fun h => by rw [h] at hc; simp at hc
      refine k_lop (k + 1, j + 1, M.set k (ed M (k0 + j))) (CI_next hI (by omega) he) (by simp only; omega) (weak_of [(0, .obj 0), (1, .obj 1), (3, .obj 3)] rfl (by decide) ?_ ?_ rfl)
      · simp [go_sem, AVm, CVm, lookS]
      · simp [go_sem, OBm, lookS]
    · have he : ed M (k0 + j) = ed M (k0 + j - 1) := Prod.ext hc.1 (Prod.ext hc.2.1 hc.2.2)
      refine k_lop (k, j + 1, M) (CI_same hI (by omega) he) (by simp only; omega) (weak_of [(0, .obj 0), (1, .obj 1), (3, .obj 3)] rfl (by decide) ?_ ?_ rfl)
      · simp [go_sem, AVm, CVm, lookS]
      · simp [go_sem, OBm, lookS]
    · have hj : k0 + j = es.length := by omega
      have h6 := hI.2.2.2.2.2.1
      simp only at h6
      rw [hj] at h6
      refine ⟨rfl, .inr ⟨0, k, e, 3, _, rfl, rfl, ?_⟩⟩
      rw [← h6]
      have hl2 : (M.take k).length = k := by rw [List.length_take]; omega
      have ht : (eds M).take k = eds (M.take k) := by simp [eds, List.map_take]
      simp only [Obj.flat.injEq, true_and]
      rw [ht]
      exact (List.take_left' (by rw [edsLen, hl2])).symm
  · have hk : k0 < es.length := by assumption
    have he : ed es k0 ≠ ed es (k0 - 1) := fun h => by rw [h] at hc; simp at hc
    refine k_lop (k0 + 1) ⟨by omega, by omega, fun i h1 h2 => ?_⟩ (by omega) (Weak.refl _)
    by_cases hi : i = k0
    · subst hi; exact he
    · exact hno i h1 (by omega)
  · have hk : k0 = es.length := by omega
    have : cptN es es.length = es := by
      rw [cptN_all (fun i h1 h2 => hno i h1 (by omega)) (Nat.le_refl _)]; simp
    rw [this]
    exact ⟨rfl, .inl ⟨0, rfl, rfl⟩⟩
end Go.Proofs.Try
namespace Go.Proofs
open Go.Shelf
def Try.laidSort_ren : Go.Shelf.Ren := ⟨fun | 6 => 73 | 15 => 84 | 14 => 83 | 28 => 93 | 29 => 94 | 20 => 85 | 21 => 86 | 22 => 87 | 23 => 88 | 24 => 89 | 25 => 90 | 26 => 91 | 27 => 92 | 46 => 95 | 47 => 96 | 48 => 97 | 49 => 98 | 50 => 99 | 57 => 100 | n => n, fun | 22 => 27 | 24 => 56 | 25 => 60 | 3 => 3 | 39 => 96 | 0 => 0 | 53 => 108 | 55 => 110 | 4 => 4 | 46 => 101 | 45 => 100 | 50 => 105 | 5 => 5 | 9 => 9 | 66 => 111 | 70 => 115 | 76 => 117 | 77 => 118 | n => n, fun | n => n⟩
theorem Try.laidSort : Go.Proofs.SlLaysF0.n6 Try.prog Try.laidSort_ren := {
  mixed := by kernel_rfl
  f6 := ⟨Try.f73.name, by decide, Try.func73.trans (congrArg some (by kernel_rfl))⟩
  f14 := ⟨Try.f83.name, by decide, Try.func83.trans (congrArg some (by kernel_rfl))⟩
  f15 := Try.func84.trans (congrArg some (by kernel_rfl))
  f20 := ⟨Try.f85.name, by decide, Try.func85.trans (congrArg some (by kernel_rfl))⟩
  f21 := ⟨Try.f86.name, by decide, Try.func86.trans (congrArg some (by kernel_rfl))⟩
  f22 := ⟨Try.f87.name, by decide, Try.func87.trans (congrArg some (by kernel_rfl))⟩
  f23 := ⟨Try.f88.name, by decide, Try.func88.trans (congrArg some (by kernel_rfl))⟩
  f24 := ⟨Try.f89.name, by decide, Try.func89.trans (congrArg some (by kernel_rfl))⟩
  f25 := ⟨Try.f90.name, by decide, Try.func90.trans (congrArg some (by kernel_rfl))⟩
  f26 := ⟨Try.f91.name, by decide, Try.func91.trans (congrArg some (by kernel_rfl))⟩
  f27 := ⟨Try.f92.name, by decide, Try.func92.trans (congrArg some (by kernel_rfl))⟩
  f28 := Try.func93.trans (congrArg some (by kernel_rfl))
  f29 := Try.func94.trans (congrArg some (by kernel_rfl))
  f46 := ⟨Try.f95.name, by decide, Try.func95.trans (congrArg some (by kernel_rfl))⟩
  f47 := Try.func96.trans (congrArg some (by kernel_rfl))
  f48 := Try.func97.trans (congrArg some (by kernel_rfl))
  f49 := ⟨Try.f98.name, by decide, Try.func98.trans (congrArg some (by kernel_rfl))⟩
  f50 := ⟨Try.f99.name, by decide, Try.func99.trans (congrArg some (by kernel_rfl))⟩
  f57 := ⟨Try.f100.name, by decide, Try.func100.trans (congrArg some (by kernel_rfl))⟩
  t0 := Try.underlying0
  a0 := Try.isAgg0
  z0 := Try.sizeOf0
  v0 := Try.zeroValue0
  t3 := Try.underlying3
  a3 := Try.isAgg3
  z3 := Try.sizeOf3
  v3 := Try.zeroValue3
  t4 := Try.underlying4
  a4 := Try.isAgg4
  z4 := Try.sizeOf4
  v4 := Try.zeroValue4
  t5 := Try.underlying5
  a5 := Try.isAgg5
  z5 := Try.sizeOf5
  v5 := Try.zeroValue5
  t9 := Try.underlying9
  a9 := Try.isAgg9
  z9 := Try.sizeOf9
  v9 := Try.zeroValue9
  t22 := Try.underlying27
  a22 := Try.isAgg27
  z22 := Try.sizeOf27
  v22 := Try.zeroValue27
  t25 := Try.underlying60
  a25 := Try.isAgg60
  z25 := Try.sizeOf60
  v25 := Try.zeroValue60
  t39 := Try.underlying96
  a39 := Try.isAgg96
  z39 := Try.sizeOf96
  v39 := Try.zeroValue96
  t45 := Try.underlying100
  a45 := Try.isAgg100
  z45 := Try.sizeOf100
  v45 := Try.zeroValue100
  t46 := Try.underlying101
  a46 := Try.isAgg101
  z46 := Try.sizeOf101
  v46 := Try.zeroValue101
  t50 := Try.underlying105
  a50 := Try.isAgg105
  z50 := Try.sizeOf105
  v50 := Try.zeroValue105
  t53 := Try.underlying108
  a53 := Try.isAgg108
  z53 := Try.sizeOf108
  v53 := Try.zeroValue108
  t55 := Try.underlying110
  a55 := Try.isAgg110
  z55 := Try.sizeOf110
  v55 := Try.zeroValue110
  t66 := Try.underlying111
  a66 := Try.isAgg111
  z66 := Try.sizeOf111
  v66 := Try.zeroValue111
  t70 := Try.underlying115
  a70 := Try.isAgg115
  z70 := Try.sizeOf115
  v70 := Try.zeroValue115
  t76 := Try.underlying117
  a76 := Try.isAgg117
  z76 := Try.sizeOf117
  v76 := Try.zeroValue117
  t77 := Try.underlying118
  a77 := Try.isAgg118
  z77 := Try.sizeOf118
  v77 := Try.zeroValue118 }
end Go.Proofs
namespace Go.Proofs
open Go Go.Shelf Go.RowKit Go.Lib Go.Sort
set_option maxHeartbeats 1000000
theorem Try.cmpInts (a b : Int) (W : World) : Calls Try.prog 68 #[.int .i64 a, .int .i64 b] W fun e w' => e = .returned (.int .i64 (Try.cmpI a b)) ∧ W = w' := by
  unfold Try.cmpI
  by_cases h1 : a < b
  · simp only [if_pos h1]
    go_enter Try.func68, Try.ntmps68
    go_wp2
    go_ret
    exact ⟨rfl, rfl⟩
  · by_cases h2 : b < a
    · simp only [if_neg h1, if_pos h2]
      go_enter Try.func68, Try.ntmps68
      go_wp2
      go_ret
      exact ⟨rfl, rfl⟩
    · simp only [if_neg h1, if_neg h2]
      go_enter Try.func68, Try.ntmps68
      go_wp2
      go_ret
      exact ⟨rfl, rfl⟩
end Go.Proofs
namespace Go.Proofs
open Go Go.Shelf Go.RowKit Go.Lib Go.Sort
set_option maxHeartbeats 400000
theorem Try.cmpEdges (p q : Try.Ed) (W : World) : Calls Try.prog 39 #[.agg #[.int .i64 p.1, .int .i64 p.2.1, .int .i64 p.2.2], .agg #[.int .i64 q.1, .int .i64 q.2.1, .int .i64 q.2.2]] W fun e w' => e = .returned (.int .i64 (Try.cmpE p q)) ∧ ∃ n os', w' = grow (W.drewN n) os' := by
  obtain ⟨p0, p1, p2⟩ := p
  obtain ⟨q0, q1, q2⟩ := q
  unfold Try.cmpE
  have c1 := fun W' => Try.cmpInts p0 q0 W'
  have c2 := fun W' => Try.cmpInts p1 q1 W'
  have c3 := fun W' => Try.cmpInts p2 q2 W'
  simp only
  generalize Try.cmpI p0 q0 = r1 at c1 ⊢
  generalize Try.cmpI p1 q1 = r2 at c2 ⊢
  generalize Try.cmpI p2 q2 = r3 at c3 ⊢
  by_cases h1 : r1 = 0
  · by_cases h2 : r2 = 0
    · subst h1; subst h2
      simp only [ne_eq, not_true, if_false]
      go_enter Try.func39, Try.ntmps39
      go_wp2_with (go_at_call 68; (first | ((with_reducible refine (c1 _).mono ?_); rintro e w' ⟨rfl, rfl⟩) | ((with_reducible refine (c2 _).mono ?_); rintro e w' ⟨rfl, rfl⟩) | ((with_reducible refine (c3 _).mono ?_); rintro e w' ⟨rfl, rfl⟩)))
      go_ret
      exact ⟨rfl, 0, _, by rw [alloc_eq_grow, alloc_eq_grow, grow_grow]; rfl⟩
    · have h2' : (r2 != 0) = true := by simpa using h2
      subst h1
      rw [if_neg (by simp), if_pos h2]
      go_enter Try.func39, Try.ntmps39
      go_wp2_with (go_at_call 68; (first | ((with_reducible refine (c1 _).mono ?_); rintro e w' ⟨rfl, rfl⟩) | ((with_reducible refine (c2 _).mono ?_); rintro e w' ⟨rfl, rfl⟩) | ((with_reducible refine (c3 _).mono ?_); rintro e w' ⟨rfl, rfl⟩)))
      go_ret
      exact ⟨rfl, 0, _, by rw [alloc_eq_grow, alloc_eq_grow, grow_grow]; rfl⟩
  · have h1' : (r1 != 0) = true := by simpa using h1
    rw [if_pos h1]
    go_enter Try.func39, Try.ntmps39
    go_wp2_with (go_at_call 68; (first | ((with_reducible refine (c1 _).mono ?_); rintro e w' ⟨rfl, rfl⟩) | ((with_reducible refine (c2 _).mono ?_); rintro e w' ⟨rfl, rfl⟩) | ((with_reducible refine (c3 _).mono ?_); rintro e w' ⟨rfl, rfl⟩)))
    go_ret
    exact ⟨rfl, 0, _, by rw [alloc_eq_grow, alloc_eq_grow, grow_grow]; rfl⟩
end Go.Proofs
namespace Go.Proofs
open Go Go.Shelf Go.RowKit Go.Lib Go.Sort
set_option maxHeartbeats 1000000
def Try.encE (x : Try.Ed) : List Value := [.int .i64 x.1, .int .i64 x.2.1, .int .i64 x.2.2]
theorem Try.ltE_of (x y : Try.Ed) : ltOf Try.cmpE x y = true ↔ Try.ltE x y := by
  unfold ltOf
  rw [decide_eq_true_eq]
  exact Try.cmpE_lt
theorem Try.ltE_of' (x y : Try.Ed) : ltOf Try.cmpE x y = false ↔ ¬ Try.ltE x y := by
  rw [← Try.ltE_of]; simp
theorem Try.swoE : SWO (ltOf Try.cmpE) where
  irrefl x := (Try.ltE_of' x x).2 Try.ltE_irr
  trans x y z h1 h2 := (Try.ltE_of x z).2 (Try.ltE_trans ((Try.ltE_of x y).1 h1) ((Try.ltE_of y z).1 h2))
  ntrans x y z h1 h2 := (Try.ltE_of' x z).2 (by
    have h1 := (Try.ltE_of' x y).1 h1
    have h2 := (Try.ltE_of' y z).1 h2
    unfold Try.ltE at *
    omega)
theorem Try.cmpLaysE (blk off size : Nat) (w : World) : CmpLays Try.prog 39 #[] Try.encE 3 Try.cmpE blk off size w :=
  fun _ _ _ _ x y => Try.cmpEdges x y _
#check Try.isAgg56
#check Try.sizeOf56
end Go.Proofs
namespace Go.Proofs
open Go Go.Shelf Go.RowKit Go.Lib Go.Sort
set_option maxHeartbeats 1000000
theorem Try.sorted_of {es : List Try.Ed} {d' : Array Try.Ed} (hp : PermIn 0 es.toArray.size es.toArray d') (hs : SortedIn (ltOf Try.cmpE) 0 es.toArray.size d') : d' = (Try.sortE es).toArray := by
  obtain ⟨h1, _, h3⟩ := hp
  have e1 : d'.extract 0 es.toArray.size = d' := by rw [← h1]; simp
  have e2 : es.toArray.extract 0 es.toArray.size = es.toArray := by simp
  rw [e1, e2] at h3
  have h4 : d'.toList.Pairwise Try.leE := by
    rw [List.pairwise_iff_getElem]
    intro i j hi hj hij
    have hi' : i < d'.size := by simpa using hi
    have hj' : j < d'.size := by simpa using hj
    have := (Try.ltE_of' _ _).1 (hs i j (Nat.zero_le _) hij (by rw [← h1]; exact hj'))
    rw [getElem!_pos d' j hj', getElem!_pos d' i hi'] at this
    simpa [Try.leE] using this
  have h5 := Try.sortE_uniq h4 (by simpa using h3)
  rw [← h5]
theorem Try.sortCalls (blk cap : Nat) (es : List Try.Ed) (w : World) (hH : HoldsK Try.encE 3 w blk 0 es.toArray) (hblk : blk < w.heap.size) (hsz : es.length < 4611686018427387904) :
    Calls Try.prog 73 #[.slice (some ⟨blk, 0, none⟩) es.length cap, .func (.func 39) #[] #[]] w fun e w' => e = .returned (.tuple #[]) ∧ ∃ n os, w' = sortWorldK Try.encE 3 w blk 0 n (Try.sortE es).toArray os := by
  have eg : ∀ args w, (callFunc 39 args).run Try.prog w = .ok (.enter 39 args) w := enters_of Try.func39 (by kernel_rfl) rfl
  have hcon := AnyQ.slices_SortFunc Try.laidSort 3 Try.isAgg56 Try.sizeOf56 Try.encE (fun _ => rfl) (fun x v hv => by simp [Try.encE] at hv; rcases hv with rfl | rfl | rfl <;> rfl) Try.cmpE Try.swoE 39 #[] blk 0 cap es.toArray w eg (Try.cmpLaysE blk 0 _ w) hH hblk (by simpa using hsz)
  change Calls Try.prog 73 _ _ _ at hcon
  rw [List.size_toArray] at hcon
  refine hcon.mono ?_
  rintro e w' ⟨rfl, d', n, os, hp, hs, rfl⟩
  refine ⟨rfl, n, os, ?_⟩
  have hp' : PermIn 0 es.toArray.size es.toArray d' := by rw [List.size_toArray]; exact hp
  have hs' : SortedIn (ltOf Try.cmpE) 0 es.toArray.size d' := by rw [List.size_toArray]; exact hs
  rw [Try.sorted_of hp' hs']
end Go.Proofs
namespace Go.Proofs
open Go Go.Shelf Go.RowKit Go.Lib Go.Sort
theorem Try.eds_flat (es : List Try.Ed) : Go.Eng.Flat 3 (Try.eds es) := by
  intro x hx
  simp only [Try.eds, List.mem_map] at hx
  obtain ⟨p, _, rfl⟩ := hx
  rfl
/-- The sort's cells are the row's cells. -/
theorem Try.flatE (es : List Try.Ed) : (flatK Try.encE 3 es.toArray).toList = Go.Eng.cellsOf (Try.eds es) := by
  apply List.ext_getElem?
  intro j
  have e1 : (j / 3) * 3 + j % 3 = j := by omega
  have hg := Go.Eng.cellsOf_get (xs := Try.eds es) (k := 3) (j / 3) (j % 3) (Try.eds_flat es) (by omega)
  rw [e1] at hg
  rw [hg]
  by_cases hj : j < es.length * 3
  · have hd : j / 3 < es.length := by omega
    rw [Try.edsAt hd]
    have hl : (flatK Try.encE 3 es.toArray)[j]! = (Try.encE (es.toArray[j / 3]!))[j % 3]! := get_flatK _ _ _ _ (by simpa using hj)
    have hsz : j < (flatK Try.encE 3 es.toArray).size := by rw [size_flatK]; simpa using hj
    rw [getElem!_pos _ j hsz] at hl
    rw [List.getElem?_eq_getElem (by simpa using hsz), Array.getElem_toList, hl]
    have he : es.toArray[j / 3]! = Try.ed es (j / 3) := by simp [Try.ed, hd]
    rw [he]
    rcases (show j % 3 = 0 ∨ j % 3 = 1 ∨ j % 3 = 2 by omega) with h | h | h <;> rw [h] <;> rfl
  · have hd : es.length ≤ j / 3 := by omega
    rw [List.getElem?_eq_none (by simp [size_flatK]; omega), List.getElem?_eq_none (by rw [Try.edsLen]; exact hd)]
    rfl
end Go.Proofs
namespace Go.Proofs
open Go Go.Shelf Go.RowKit Go.Lib Go.Sort
theorem Try.holdsE {w : World} {g e : Nat} {cur : Array Value} {es : List Try.Ed} (hg : w.heap[g]? = some (.cells cur e (0, 0))) (ht : cur.toList.take (es.length * 3) = Go.Eng.cellsOf (Try.eds es)) : HoldsK Try.encE 3 w g 0 es.toArray := by
  intro j hj
  have hj' : j < es.length * 3 := by simpa [size_flatK] using hj
  have h1 : cur[j]? = some (flatK Try.encE 3 es.toArray)[j]! := by
    have h2 : (cur.toList.take (es.length * 3))[j]? = (flatK Try.encE 3 es.toArray).toList[j]? := by rw [ht, Try.flatE]
    rw [List.getElem?_take_of_lt hj'] at h2
    rw [getElem!_pos _ j hj]
    rw [← Array.getElem?_eq_getElem hj]
    simpa using h2
  constructor
  · unfold World.cell?
    simp only [hg, Nat.zero_add]
    simpa using h1
  · simp [World.frozen?, hg]
end Go.Proofs
namespace Go.Proofs
open Go Go.Shelf Go.RowKit Go.Lib Go.Sort
theorem Try.sortW {w : World} {g e n : Nat} {cur : Array Value} {d : Array Try.Ed} {os : Array Obj} (hg : w.heap[g]? = some (.cells cur e (0, 0))) :
    (sortWorldK Try.encE 3 w g 0 n d os).os = w.os ∧ (sortWorldK Try.encE 3 w g 0 n d os).tape = w.tape ∧ (sortWorldK Try.encE 3 w g 0 n d os).output = w.output ∧ w.heap.size ≤ (sortWorldK Try.encE 3 w g 0 n d os).heap.size ∧
    (∀ b, b < w.heap.size → b ≠ g → (sortWorldK Try.encE 3 w g 0 n d os).heap[b]? = w.heap[b]?) ∧
    (sortWorldK Try.encE 3 w g 0 n d os).heap[g]? = some (.cells (putCells id 0 (flatK Try.encE 3 d) cur) e (0, 0)) := by
  have hlt : g < w.heap.size := by
    by_cases h : g < w.heap.size
    · exact h
    · rw [Array.getElem?_eq_none (by omega)] at hg; cases hg
  refine ⟨rfl, rfl, rfl, ?_, fun b hb hne => ?_, ?_⟩
  · simp [sortWorldK, grow, putRowK, putRow, mapBlock, Sort.ahead]
  · show ((w.heap.modify g (onCells (putCells id 0 (flatK Try.encE 3 d)))) ++ os)[b]? = _
    rw [Array.getElem?_append_left (by simpa using hb), Array.getElem?_modify, if_neg (fun h => hne h.symm)]
  · show ((w.heap.modify g (onCells (putCells id 0 (flatK Try.encE 3 d)))) ++ os)[g]? = _
    rw [Array.getElem?_append_left (by simpa using hlt), Array.getElem?_modify, if_pos rfl, hg]
    rfl
end Go.Proofs
namespace Go.Proofs
open Go Go.Shelf Go.RowKit Go.Lib Go.Sort
theorem Try.putTake {d cur : Array Value} (h : d.size ≤ cur.size) : (putCells id 0 d cur).toList.take d.size = d.toList := by
  apply List.ext_getElem?
  intro j
  by_cases hj : j < d.size
  · rw [List.getElem?_take_of_lt hj, Array.getElem?_toList, Array.getElem?_toList]
    simp only [putCells, Array.getElem?_mapIdx]
    rw [Array.getElem?_eq_getElem (show j < cur.size by omega), Array.getElem?_eq_getElem hj]
    simp only [Option.map_some, Nat.zero_le, true_and, Nat.zero_add, Nat.sub_zero, id]
    rw [if_pos hj, getElem!_pos d j hj]
  · rw [List.getElem?_eq_none (by rw [List.length_take]; omega), List.getElem?_eq_none (by simpa using Nat.le_of_not_lt hj)]
def Try.sort_S : Go.Eng.SpecX := fun args o o' => ∃ (e : Nat) (es : List Try.Ed), es.length ≤ 1099511627776 ∧ args = [Go.Eng.AV.one (.ref 0), Go.Eng.AV.one (.fn 39)] ∧ o = .flat e 3 (Try.eds es) ∧ o' = .flat e 3 (Try.eds (Try.sortE es))
theorem Try.sortE_len (es : List Try.Ed) : (Try.sortE es).length = es.length := (Try.sortE_perm es).length_eq
theorem Try.sort_sat : Go.Eng.SatV Try.prog 73 Try.sort_S := by
  rintro args o o' ⟨e, es, hl, rfl, rfl, rfl⟩ N0 w vals pv vs hN ho hbl hargs
  match vals, hargs with
  | [v0, v1], ⟨h0, h1, _⟩ =>
    obtain ⟨us, hat, hone⟩ := h0
    have hv0 : pv = v0 := by simp [Go.Eng.at0] at hat; exact hat.1
    have hv1 : v1 = .func (.func 39) #[] #[] := h1
    subst hv0; subst hv1
    obtain ⟨hown, hflat⟩ := ho
    rcases hown.2 with ⟨hnil, hz⟩ | ⟨g, cap, cur, hpv, hbg, hg, hc, hm, hs, ht⟩
    · rw [Try.edsLen] at hz
      have he : es = [] := List.eq_nil_of_length_eq_zero hz
      subst he
      subst hnil
      have hcon := AnyF.slices_SortFunc_none Try.laidSort none 0 (.func (.func 39) #[] #[]) w
      change Calls Try.prog 73 _ _ _ at hcon
      refine hcon.mono ?_
      rintro e1 w' ⟨rfl, rfl⟩
      exact ⟨rfl, vs, ⟨rfl, rfl, rfl, Nat.le_refl _, fun b hb => rfl, ⟨hown, hflat⟩, fun b hb => ⟨(hbl b hb).2, .inr hb⟩⟩⟩
    · rw [Try.edsLen] at hpv hc ht
      subst hpv
      have hlt : g < w.heap.size := (hbl g (.inl rfl)).2
      refine (Try.sortCalls g cap es w (Try.holdsE hg ht) hlt (by omega)).mono ?_
      rintro e1 w' ⟨rfl, n, os, rfl⟩
      obtain ⟨f1, f2, f3, f4, f5, f6⟩ := Try.sortW (n := n) (d := (Try.sortE es).toArray) (os := os) hg
      have hsz : (flatK Try.encE 3 (Try.sortE es).toArray).size = es.length * 3 := by rw [size_flatK]; simp [Try.sortE_len]
      have hle : es.length * 3 ≤ cap * 3 := Nat.mul_le_mul_right _ hc
      refine ⟨rfl, vs, ⟨f1, f2, f3, f4, fun b hb => f5 b hb.1 (fun h => hb.2 (.inl (by rw [h]; rfl))), ⟨⟨Go.Eng.flat_len (Try.eds_flat _), .inr ⟨g, cap, _, by rw [Try.edsLen, Try.sortE_len], hbg, f6, by rw [Try.edsLen, Try.sortE_len]; exact hc, hm, ?_, ?_⟩⟩, Try.eds_flat _⟩, fun b hb => ?_⟩⟩
      · simp only [putCells, Array.size_mapIdx]; exact hs
      · have hpt := Try.putTake (d := flatK Try.encE 3 (Try.sortE es).toArray) (cur := cur) (by rw [hsz, hs]; exact hle)
        rw [hsz] at hpt
        rw [Try.edsLen, Try.sortE_len, ← Try.flatE]
        exact hpt
      · rcases hb with hb | ⟨hb, _⟩
        · have : b = g := by cases hb; rfl
          subst this
          exact ⟨by omega, .inr (.inl rfl)⟩
        · cases hb
end Go.Proofs
namespace Go.Proofs.Try
open Go Go.Eng
set_option linter.unnecessarySimpa false
set_option linter.unusedSimpArgs false
set_option maxHeartbeats 2000000
theorem cptN_sort (es : List Ed) : cptN (sortE es) (sortE es).length = norm es := by
  refine norm_uniq (cptN_asc (fun i j hij hj => ?_) _ (Nat.le_refl _)) fun x => ?_
  · have := List.pairwise_iff_getElem.1 (sortE_sorted es) i j (by omega) hj hij
    simpa [ed, leE, hj, show i < (sortE es).length by omega] using this
  · rw [cptN_mem, ← (sortE_perm es).mem_iff, List.mem_iff_getElem]
    constructor
    · rintro ⟨i, hi, rfl⟩; exact ⟨i, hi, by simp [ed, hi]⟩
    · rintro ⟨i, hi, rfl⟩; exact ⟨i, hi, by simp [ed, hi]⟩
def sorted_S : Eng.Spec := fun args av objs => ∃ es : List Ed, es.length ≤ 1099511627776 ∧ args = [AV.one (.imm 3 (eds es))] ∧ av = AV.one (.ref 0) ∧ objs = [.flat 56 3 (eds (norm es))]
def K47 : Nat → List Nat := fun i => ([[0], [3], [3], [2]] : List (List Nat)).getD i []
theorem sorted_sat : Sat Try.prog 47 sorted_S := by
  refine sat_of tok okr mixed K47 Try.func47 rfl (rs := [.tmp 2]) rfl rfl ?_
  rintro args av objs ⟨es, hl, rfl, rfl, rfl⟩
  refine ⟨by show 1 ≤ 11; decide, ?_⟩
  repeat' (first
    | refine w_op rfl (by simp (disch := first | omega | (simp; omega)) [go_sem, Try.ntmps47, -Option.map_eq_some_iff]; rfl) ?_
    | refine l_op rfl (by simp (disch := first | omega | (simp; omega)) [go_sem, Try.ntmps47, -Option.map_eq_some_iff]; exact ⟨rfl, rfl⟩) ?_
    | refine w_end (by simp [go_sem, K47]; rfl) ?_
    | refine l_end (by kernel_rfl) (by simp [go_sem, K47]; rfl) ?_
    | refine w_fnX compact_sat rfl Try.func74 rfl rfl (by first | rfl | (simpa [go_sem, *] using trivial)) rfl rfl (by simp [go_sem]; rfl) (by simp [go_sem]; rfl) (by simp [go_sem]; rfl) (by exact ⟨_, sortE es, by rw [sortE_len]; exact hl, rfl, rfl, rfl⟩) rfl rfl (by rfl) (by simp [go_sem]; rfl) ?_
    | refine l_fnX compact_sat rfl Try.func74 rfl rfl (by first | rfl | (simpa [go_sem, *] using trivial)) rfl rfl (by simp [go_sem]; rfl) (by simp [go_sem]; rfl) (by simp [go_sem]; rfl) (by exact ⟨_, sortE es, by rw [sortE_len]; exact hl, rfl, rfl, rfl⟩) rfl rfl (by rfl) (by simp [go_sem]; rfl) ?_
    | refine w_fnV sort_sat rfl Try.func73 rfl rfl (by first | rfl | (simpa [go_sem, *] using trivial)) rfl rfl (by simp [go_sem]; rfl) (by simp [go_sem]; rfl) (by simp [go_sem]; rfl) (by exact ⟨_, es, hl, rfl, rfl, rfl⟩) rfl rfl (by simp [go_sem]; rfl) ?_
    | refine w_yes' (by simpa [go_sem, *] using trivial) rfl (by simp (disch := first | omega | (simp; omega)) [go_sem, Try.ntmps47, -Option.map_eq_some_iff]; rfl) ?_
    | refine w_no' (by simpa [go_sem, *] using trivial) rfl rfl (by simp [go_sem, skipE]; rfl) ?_
    | refine w_op rfl (by simp (disch := first | omega | (simp; omega)) [go_sem, Try.ntmps47, -Option.map_eq_some_iff, *]; rfl) ?_
    | refine l_op' (by simpa [go_sem, *] using trivial) rfl (by simp (disch := first | omega | (simp; omega)) [go_sem, Try.ntmps47, -Option.map_eq_some_iff, *]; exact ⟨rfl, rfl⟩) ?_
    | refine l_no' (by simpa [go_sem, *] using trivial) rfl rfl (by simp [go_sem, skipE]; rfl) ?_
    | refine k_seq ?_
    | refine a_seq ?_
    | refine a_reg ?_
    | refine a_draw ?_
    | refine k_seq_exit ?_
    | refine k_seq_ret ?_
    | refine k_blk ?_
    | refine k_blk_exit ?_
    | refine k_blk_other rfl ?_
    | refine k_blk_ret ?_
    | refine k_lop_exit ?_
    | refine k_lop_ret ?_
    | refine a_skip ?_
    | refine a_ret ?_
    | refine a_exit ?_
    | refine a_block ?_
    | (refine a_cond (by simp [go_sem, *, -Bool.not_eq_eq_eq_not]; rfl) (fun hr => ?_) (fun hr => ?_) <;> (have hc := hr) <;> (try simp only [Bool.not_eq_true', Bool.not_eq_false', Bool.and_eq_true, Bool.and_eq_false_imp, Bool.or_eq_true, Bool.or_eq_false_iff, Bool.not_eq_true, Bool.not_eq_false, decide_eq_true_eq, decide_eq_false_iff_not, Int.not_lt, Int.not_le, ge_iff_le, gt_iff_lt, decide_true, decide_false, Bool.false_eq_true, reduceCtorEq, beq_iff_eq, beq_eq_false_iff_ne, ne_eq, bne_iff_ne, bne_eq_false_iff_eq, and_true, true_and, and_false, false_and] at hc) <;> (try (exfalso; omega)))
    | ((fail_if_success (refine w_same (by simpa [go_sem, *] using trivial) rfl ?_)); refine w_splv rfl (by simp [go_sem, *, -Bool.not_eq_eq_eq_not]; rfl) (fun hr => ?_) (fun hr => ?_) <;> (have hg := hr) <;> (try simp only [Bool.not_eq_true', Bool.not_eq_false', Bool.and_eq_true, Bool.and_eq_false_imp, Bool.or_eq_true, Bool.or_eq_false_iff, Bool.not_eq_true, Bool.not_eq_false, decide_eq_true_eq, decide_eq_false_iff_not, Int.not_lt, Int.not_le, ge_iff_le, gt_iff_lt, decide_true, decide_false, Bool.false_eq_true, reduceCtorEq, beq_iff_eq, beq_eq_false_iff_ne, ne_eq, bne_iff_ne, bne_eq_false_iff_eq, and_true, true_and, and_false, false_and] at hg) <;> (try (exfalso; omega)))
    | ((fail_if_success (refine l_same (by simpa [go_sem, *] using trivial) rfl ?_)); refine l_splv rfl (by simp [go_sem, *, -Bool.not_eq_eq_eq_not]; rfl) (fun hr => ?_) (fun hr => ?_) <;> (have hg := hr) <;> (try simp only [Bool.not_eq_true', Bool.not_eq_false', Bool.and_eq_true, Bool.and_eq_false_imp, Bool.or_eq_true, Bool.or_eq_false_iff, Bool.not_eq_true, Bool.not_eq_false, decide_eq_true_eq, decide_eq_false_iff_not, Int.not_lt, Int.not_le, ge_iff_le, gt_iff_lt, decide_true, decide_false, Bool.false_eq_true, reduceCtorEq, beq_iff_eq, beq_eq_false_iff_ne, ne_eq, bne_iff_ne, bne_eq_false_iff_eq, and_true, true_and, and_false, false_and] at hg) <;> (try (exfalso; omega))))
  refine k_ret (by simp [go_sem]; first | exact ⟨rfl, rfl⟩ | rfl) ?_ ?_
  · rfl
  · simp [cptN_sort]
end Go.Proofs.Try

namespace Go.Proofs.Try
open Go Go.Eng
instance : Con Try.prog 47 (specOf sorted_sat) := con sorted_sat Try.func47
end Go.Proofs.Try
