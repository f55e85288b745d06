import Derived.Test.YtfapjflogjblaaaGreatA
import Derived.Shelf.SlSortCmp.WholeK
import Derived.Ground.SlsfProg
import Derived.WalkKit
import Derived.ProofKit
import Derived.Shelf.Small.Bits
import Derived.Shelf.SlSortCmp.NoneTotal
set_option maxHeartbeats 16000000
set_option maxRecDepth 20000
set_option linter.unusedVariables false
set_option linter.unusedSimpArgs false
set_option linter.unnecessarySimpa false
namespace Go.Proofs.Tryz
open Go Go.Eng

theorem cmpE_0 {p q : Ed} : cmpE p q = 0 ↔ p = q := by
  obtain ⟨a, b, c⟩ := p
  obtain ⟨a', b', c'⟩ := q
  simp only [cmpE, cmpI, Prod.mk.injEq]
  repeat' split
  all_goals omega
def ltE (p q : Ed) : Prop := p.1 < q.1 ∨ (p.1 = q.1 ∧ (p.2.1 < q.2.1 ∨ (p.2.1 = q.2.1 ∧ p.2.2 < q.2.2)))
theorem cmpE_lt {p q : Ed} : cmpE p q < 0 ↔ ltE p q := by
  simp only [cmpE, cmpI, ltE]
  repeat' split
  all_goals first | omega | (constructor <;> intro h <;> omega)
theorem cmpE_gt {p q : Ed} : 0 < cmpE p q ↔ ltE q p := by
  simp only [cmpE, cmpI, ltE]
  repeat' split
  all_goals first | omega | (constructor <;> intro h <;> omega)
theorem ltE_trans {p q r : Ed} (h1 : ltE p q) (h2 : ltE q r) : ltE p r := by unfold ltE at *; omega
theorem ltE_irr {p : Ed} : ¬ ltE p p := by unfold ltE; omega
theorem ltE_total {p q : Ed} (h : ¬ ltE p q) (h2 : p ≠ q) : ltE q p := by
  rcases Int.lt_trichotomy (cmpE p q) 0 with h3 | h3 | h3
  · exact absurd (cmpE_lt.1 h3) h
  · exact absurd (cmpE_0.1 h3) h2
  · exact cmpE_gt.1 h3

def asc (l : List Ed) : Prop := l.Pairwise ltE
def ins (e : Ed) : List Ed → List Ed
  | [] => [e]
  | x :: r => if cmpE e x = 0 then x :: r else if cmpE e x < 0 then e :: x :: r else x :: ins e r
theorem put_true (e : Ed) : ∀ (es acc : List Ed), es.foldl (putStep e) (acc, true) = (acc ++ es, true)
  | [], acc => by simp
  | x :: r, acc => by
    rw [List.foldl_cons]
    have : putStep e (acc, true) x = (acc ++ [x], true) := by unfold putStep; split <;> simp
    rw [this, put_true e r]
    simp
def fin (e : Ed) (r : List Ed × Bool) : List Ed := if r.2 then r.1 else r.1 ++ [e]
theorem put_false (e : Ed) : ∀ (es acc : List Ed), fin e (es.foldl (putStep e) (acc, false)) = acc ++ ins e es
  | [], acc => by simp [ins, fin]
  | x :: r, acc => by
    rw [List.foldl_cons]
    by_cases h0 : cmpE e x = 0
    · rw [show putStep e (acc, false) x = (acc ++ [x], true) from by simp [putStep, h0], put_true]
      simp [fin, ins, h0]
    · by_cases h1 : cmpE e x < 0
      · rw [show putStep e (acc, false) x = (acc ++ [e] ++ [x], true) from by simp [putStep, h0, h1], put_true]
        simp [fin, ins, h0, h1]
      · rw [show putStep e (acc, false) x = (acc ++ [x], false) from by simp [putStep, h0, h1], put_false e r]
        simp [ins, h0, h1]
theorem put_ins (es : List Ed) (e : Ed) : put es e = ins e es := by
  have := put_false e es []
  simp only [put, putN, List.take_length]
  simpa [fin] using this
theorem ins_mem {e x : Ed} : ∀ {es : List Ed}, x ∈ ins e es ↔ x = e ∨ x ∈ es
  | [] => by simp [ins]
  | y :: r => by
    unfold ins
    split
    · rename_i h; rw [cmpE_0] at h; subst h; simp
    · split
      · simp
      · simp only [List.mem_cons, ins_mem (es := r)]
        constructor <;> (rintro (h | h | h) <;> simp [h])
theorem ins_asc {e : Ed} : ∀ {es : List Ed}, asc es → asc (ins e es)
  | [], _ => by simp [ins, asc]
  | y :: r, h => by
    unfold ins
    unfold asc at h ⊢
    rw [List.pairwise_cons] at h
    split
    · exact List.pairwise_cons.2 h
    · rename_i h0
      split
      · rename_i h1
        rw [cmpE_lt] at h1
        refine List.pairwise_cons.2 ⟨fun z hz => ?_, List.pairwise_cons.2 h⟩
        rcases List.mem_cons.1 hz with rfl | hz
        · exact h1
        · exact ltE_trans h1 (h.1 z hz)
      · rename_i h1
        rw [cmpE_lt] at h1
        refine List.pairwise_cons.2 ⟨fun z hz => ?_, ins_asc h.2⟩
        rcases ins_mem.1 hz with rfl | hz
        · exact ltE_total h1 (fun e => h0 (cmpE_0.2 e))
        · exact h.1 z hz
def norm (l : List Ed) : List Ed := l.foldl (fun a e => ins e a) []
theorem norm_go : ∀ (l a : List Ed), asc a → asc (l.foldl (fun a e => ins e a) a) ∧ ∀ x, x ∈ l.foldl (fun a e => ins e a) a ↔ x ∈ a ∨ x ∈ l
  | [], a, h => ⟨h, by simp⟩
  | e :: l, a, h => by
    obtain ⟨h1, h2⟩ := norm_go l (ins e a) (ins_asc h)
    refine ⟨h1, fun x => ?_⟩
    rw [List.foldl_cons, h2, ins_mem, List.mem_cons]
    constructor
    · rintro ((h | h) | h)
      · exact .inr (.inl h)
      · exact .inl h
      · exact .inr (.inr h)
    · rintro (h | h | h)
      · exact .inl (.inr h)
      · exact .inl (.inl h)
      · exact .inr h
theorem norm_asc (l : List Ed) : asc (norm l) := (norm_go l [] List.Pairwise.nil).1
theorem norm_mem {l : List Ed} {x : Ed} : x ∈ norm l ↔ x ∈ l := by
  have := (norm_go l [] List.Pairwise.nil).2 x
  simpa [norm] using this
theorem asc_ext : ∀ {a b : List Ed}, asc a → asc b → (∀ x, x ∈ a ↔ x ∈ b) → a = b
  | [], [], _, _, _ => rfl
  | [], y :: b, _, _, h => by have := (h y).2 (by simp); simp at this
  | x :: a, [], _, _, h => by have := (h x).1 (by simp); simp at this
  | x :: a, y :: b, ha, hb, h => by
    unfold asc at ha hb
    rw [List.pairwise_cons] at ha hb
    have hxy : x = y := by
      rcases List.mem_cons.1 ((h x).1 (by simp)) with e | h1
      · exact e
      rcases List.mem_cons.1 ((h y).2 (by simp)) with e | h2
      · exact e.symm
      exact absurd (ltE_trans (ha.1 y h2) (hb.1 x h1)) ltE_irr
    subst hxy
    rw [asc_ext (a := a) (b := b) ha.2 hb.2 fun z => ?_]
    constructor
    · intro hz
      rcases List.mem_cons.1 ((h z).1 (by simp [hz])) with e | h1
      · subst e; exact absurd (ha.1 z hz) ltE_irr
      · exact h1
    · intro hz
      rcases List.mem_cons.1 ((h z).2 (by simp [hz])) with e | h1
      · subst e; exact absurd (hb.1 z hz) ltE_irr
      · exact h1
theorem norm_uniq {a l : List Ed} (h : asc a) (hm : ∀ x, x ∈ a ↔ x ∈ l) : a = norm l := asc_ext h (norm_asc l) fun x => (hm x).trans norm_mem.symm
theorem norm_put (l : List Ed) : l.foldl put [] = norm l := by
  unfold norm
  congr 1
  funext a e
  exact put_ins a e

end Go.Proofs.Tryz
namespace Go.Proofs.Tryz
open Go Go.Eng

def leE (a b : Ed) : Prop := ¬ ltE b a
theorem leE_trans {a b c : Ed} (h1 : leE a b) (h2 : leE b c) : leE a c := by unfold leE ltE at *; omega
theorem leE_anti {a b : Ed} (h1 : leE a b) (h2 : leE b a) : a = b := by
  by_cases h : a = b
  · exact h
  · exact absurd (ltE_total h2 h) h1
def insD (e : Ed) : List Ed → List Ed
  | [] => [e]
  | x :: r => if cmpE e x ≤ 0 then e :: x :: r else x :: insD e r
def sortE (l : List Ed) : List Ed := l.foldr insD []
theorem insD_perm (e : Ed) : ∀ l : List Ed, (insD e l).Perm (e :: l)
  | [] => List.Perm.refl _
  | x :: r => by
    unfold insD
    split
    · exact List.Perm.refl _
    · exact ((insD_perm e r).cons x).trans (List.Perm.swap e x r)
theorem insD_sorted (e : Ed) : ∀ {l : List Ed}, l.Pairwise leE → (insD e l).Pairwise leE
  | [], _ => by simp [insD]
  | x :: r, h => by
    have h' := List.pairwise_cons.1 h
    unfold insD
    split
    · rename_i hc
      have hex : leE e x := by
        unfold leE
        intro hh
        have := cmpE_gt.2 hh
        omega
      refine List.pairwise_cons.2 ⟨fun y hy => ?_, h⟩
      rcases List.mem_cons.1 hy with rfl | hy
      · exact hex
      · exact leE_trans hex (h'.1 y hy)
    · rename_i hc
      have hxe : leE x e := by
        unfold leE
        intro hh
        have := cmpE_lt.2 hh
        omega
      refine List.pairwise_cons.2 ⟨fun y hy => ?_, insD_sorted e h'.2⟩
      rcases List.mem_cons.1 ((insD_perm e r).mem_iff.1 hy) with rfl | hy
      · exact hxe
      · exact h'.1 y hy
theorem sortE_perm (l : List Ed) : (sortE l).Perm l := by
  induction l with
  | nil => exact List.Perm.refl _
  | cons e l ih => exact (insD_perm e _).trans (ih.cons e)
theorem sortE_sorted (l : List Ed) : (sortE l).Pairwise leE := by
  induction l with
  | nil => exact List.Pairwise.nil
  | cons e l ih => exact insD_sorted e ih
theorem sorted_uniq : ∀ {a b : List Ed}, a.Pairwise leE → b.Pairwise leE → a.Perm b → a = b
  | [], b, _, _, h => by simpa using h.symm.eq_nil
  | x :: a, [], _, _, h => by have := h.eq_nil; simp at this
  | x :: a, y :: b, ha, hb, h => by
    have ha' := List.pairwise_cons.1 ha
    have hb' := List.pairwise_cons.1 hb
    have hxy : x = y := by
      have h1 : x ∈ y :: b := h.mem_iff.1 (by simp)
      have h2 : y ∈ x :: a := h.mem_iff.2 (by simp)
      rcases List.mem_cons.1 h1 with e | h1
      · exact e
      rcases List.mem_cons.1 h2 with e | h2
      · exact e.symm
      exact leE_anti (ha'.1 y h2) (hb'.1 x h1)
    subst hxy
    rw [sorted_uniq ha'.2 hb'.2 (List.Perm.cons_inv h)]
theorem sortE_uniq {d l : List Ed} (hs : d.Pairwise leE) (hp : d.Perm l) : d = sortE l :=
  sorted_uniq hs (sortE_sorted l) (hp.trans (sortE_perm l).symm)
end Go.Proofs.Tryz
namespace Go.Proofs.Tryz
open Go Go.Eng

def cptN (es : List Ed) : Nat → List Ed
  | 0 => []
  | n + 1 => if n ≠ 0 ∧ ed es n = ed es (n - 1) then cptN es n else cptN es n ++ [ed es n]
theorem cptN_mem {es : List Ed} {x : Ed} : ∀ {n : Nat}, x ∈ cptN es n ↔ ∃ i, i < n ∧ x = ed es i
  | 0 => by simp [cptN]
  | n + 1 => by
    unfold cptN
    split
    · rename_i h
      rw [cptN_mem]
      constructor
      · rintro ⟨i, hi, rfl⟩; exact ⟨i, by omega, rfl⟩
      · rintro ⟨i, hi, rfl⟩
        by_cases hin : i = n
        · subst hin; exact ⟨i - 1, by omega, h.2⟩
        · exact ⟨i, by omega, rfl⟩
    · rw [List.mem_append, cptN_mem, List.mem_singleton]
      constructor
      · rintro (⟨i, hi, rfl⟩ | rfl)
        · exact ⟨i, by omega, rfl⟩
        · exact ⟨n, by omega, rfl⟩
      · rintro ⟨i, hi, rfl⟩
        by_cases hin : i = n
        · subst hin; exact .inr rfl
        · exact .inl ⟨i, by omega, rfl⟩
theorem cptN_asc {es : List Ed} (hs : ∀ i j, i < j → j < es.length → ¬ ltE (ed es j) (ed es i)) : ∀ n, n ≤ es.length → asc (cptN es n)
  | 0, _ => List.Pairwise.nil
  | n + 1, hn => by
    have ih := cptN_asc hs n (by omega)
    unfold cptN
    split
    · exact ih
    · rename_i h
      refine List.pairwise_append.2 ⟨ih, by simp, fun x hx y hy => ?_⟩
      rw [List.mem_singleton] at hy
      subst hy
      obtain ⟨i, hi, rfl⟩ := cptN_mem.1 hx
      have h1 : ed es n ≠ ed es (n - 1) := fun e => h ⟨by omega, e⟩
      have h2 : ltE (ed es (n - 1)) (ed es n) := ltE_total (hs (n - 1) n (by omega) (by omega)) h1
      by_cases hi2 : i = n - 1
      · subst hi2; exact h2
      · have h3 := hs i (n - 1) (by omega) (by omega)
        by_cases he : ed es (n - 1) = ed es i
        · rw [← he]; exact h2
        · exact ltE_trans (ltE_total h3 he) h2
theorem cptN_all {es : List Ed} : ∀ {n : Nat}, (∀ i, 1 ≤ i → i < n → ed es i ≠ ed es (i - 1)) → n ≤ es.length → cptN es n = es.take n
  | 0, _, _ => by simp [cptN]
  | n + 1, h, hn => by
    unfold cptN
    rw [if_neg (fun hh => h n (by omega) (by omega) hh.2), cptN_all (n := n) (fun i h1 h2 => h i h1 (by omega)) (by omega), List.take_add_one]
    simp [ed, show n < es.length by omega]
def CI (es : List Ed) (k0 k j : Nat) (M : List Ed) : Prop := 1 ≤ j ∧ k0 + j ≤ es.length ∧ k0 ≤ k ∧ k + 1 ≤ k0 + j ∧ M.length = es.length ∧ M.take k = cptN es (k0 + j) ∧ ∀ x, k0 + j ≤ x + 1 → ed M x = ed es x
theorem CI_0 {es : List Ed} {k0 : Nat} (h0 : 1 ≤ k0) (h : k0 < es.length) (he : ed es k0 = ed es (k0 - 1)) (hn : ∀ i, 1 ≤ i → i < k0 → ed es i ≠ ed es (i - 1)) : CI es k0 k0 1 es := by
  refine ⟨by omega, by omega, by omega, by omega, rfl, ?_, fun x _ => rfl⟩
  rw [show cptN es (k0 + 1) = cptN es k0 from by conv => lhs; unfold cptN; rw [if_pos ⟨by omega, he⟩], cptN_all hn (by omega)]
theorem ed_set {l : List Ed} {i j : Nat} {a : Ed} (h : i < l.length) : ed (l.set i a) j = if i = j then a else ed l j := by
  simp only [ed, List.getD_eq_getElem?_getD, List.getElem?_set]
  by_cases hij : i = j
  · subst hij; simp [h]
  · simp [hij]
theorem CI_same {es M : List Ed} {k0 k j : Nat} (h : CI es k0 k j M) (hj : k0 + j < es.length) (he : ed M (k0 + j) = ed M (k0 + j - 1)) : CI es k0 k (j + 1) M := by
  obtain ⟨h1, h2, h3, h4, h5, h6, h7⟩ := h
  refine ⟨by omega, by omega, h3, by omega, h5, ?_, fun x hx => h7 x (by omega)⟩
  rw [h7 _ (by omega), h7 _ (by omega)] at he
  rw [h6, show k0 + (j + 1) = (k0 + j) + 1 by omega]
  conv => rhs; unfold cptN
  rw [if_pos ⟨by omega, he⟩]
theorem CI_next {es M : List Ed} {k0 k j : Nat} (h : CI es k0 k j M) (hj : k0 + j < es.length) (he : ed M (k0 + j) ≠ ed M (k0 + j - 1)) : CI es k0 (k + 1) (j + 1) (M.set k (ed M (k0 + j))) := by
  obtain ⟨h1, h2, h3, h4, h5, h6, h7⟩ := h
  refine ⟨by omega, by omega, by omega, by omega, by simp [h5], ?_, fun x hx => ?_⟩
  · rw [h7 _ (by omega), h7 _ (by omega)] at he
    rw [show k0 + (j + 1) = (k0 + j) + 1 by omega]
    conv => rhs; unfold cptN
    rw [if_neg (fun hh => he hh.2), ← h6, h7 _ (by omega), List.take_add_one]
    rw [List.take_set_of_le (by omega)]
    simp [show k < M.length by omega]
  · rw [ed_set (by omega), if_neg (by omega)]
    exact h7 x (by omega)
def compact_S : SpecX := fun args o o' => ∃ (e : Nat) (es : List Ed), es.length ≤ 1099511627776 ∧ args = [AV.one (.ref 0)] ∧ o = .flat e 3 (eds es) ∧ o' = .flat e 3 (eds (cptN es es.length))
def K150 : Nat → List Nat := fun i => ([[0],[0,8],[2],[0,3],[0,3,13],[0,3],[0,3,25],[0,3,4],[0,3,4,5],[0,3,4,5,32],[0,3,4,5],[0,3,4,5,44],[0,3,4,5],[0,3,4,5],[0,3],[2],[2]] : List (List Nat)).getD i []
theorem compact_sat : SatX Tryz.prog 150 compact_S := by
  refine satX_of tok okr mixed K150 Tryz.func150 rfl (r := .tmp 2) rfl rfl ?_
  rintro args o o' ⟨e, es, hl, rfl, rfl, rfl⟩
  refine ⟨by show 1 ≤ 61; decide, rfl, rfl, fun S W pv => ?_⟩
  repeat' (first
    | refine w_op rfl (by simp (disch := first | omega | (simp; omega)) [go_sem, entryM, Tryz.ntmps150, -Option.map_eq_some_iff]; rfl) ?_
    | refine l_op rfl (by simp (disch := first | omega | (simp; omega)) [go_sem, entryM, Tryz.ntmps150, -Option.map_eq_some_iff]; exact ⟨rfl, rfl⟩) ?_
    | refine w_end (by simp [go_sem, K150]; rfl) ?_
    | refine l_end (by kernel_rfl) (by simp [go_sem, K150]; rfl) ?_
    | refine w_clr tok rfl (by first | rfl | (simpa [go_sem, *] using trivial)) rfl rfl (by simp (disch := first | omega | (simp; omega)) [go_sem, -Option.map_eq_some_iff]; rfl) (by simp [go_sem]; rfl) ?_
    | refine w_op rfl (by simp (disch := first | omega | (simp; omega)) [go_sem, entryM, Tryz.ntmps150, -Option.map_eq_some_iff, *]; rfl) ?_
    | refine zst ?_
    | refine zo ?_
    | (refine zk ?_ ?_<;>intro hc hr<;>try exact zx))
  · have : cptN es es.length = es := by
      rw [cptN_all (fun i h1 h2 => by omega) (Nat.le_refl _)]; simp
    rw [this]
    exact ⟨rfl, .inl ⟨0, rfl, rfl⟩⟩
  refine a_loop (fun k : Nat => ⟨61, [(0, AV.one (.ref 0)), (3, AV.one (.sc (.int k)))], [(0, some (.flat e 3 (eds es))), (1, some (.pin S W)), (3, some (.stay 0 pv))], [0, 1, 3]⟩) (fun k => 1 ≤ k ∧ k ≤ es.length ∧ ∀ i, 1 ≤ i → i < k → ed es i ≠ ed es (i - 1)) (fun k => es.length - k) 1 ⟨by omega, by omega, fun i h1 h2 => by omega⟩ (Weak.refl _) ?_
  rintro k0 ⟨h0, hk0, hno⟩
  have e1 : ((k0 : Int) - 1).toNat = k0 - 1 := by omega
  repeat' (first
    | refine w_op rfl (by simp (disch := first | omega | (simp; omega)) [go_sem, e1, eqScs, TI.allInt, Tryz.ntmps150, -Option.map_eq_some_iff]; rfl) ?_
    | refine l_op rfl (by simp (disch := first | omega | (simp; omega)) [go_sem, e1, eqScs, TI.allInt, Tryz.ntmps150, -Option.map_eq_some_iff]; exact ⟨rfl, rfl⟩) ?_
    | refine w_end (by simp [go_sem, K150]; rfl) ?_
    | refine l_end (by kernel_rfl) (by simp [go_sem, K150]; rfl) ?_
    | refine w_clr tok rfl (by first | rfl | (simpa [go_sem, *] using trivial)) rfl rfl (by simp (disch := first | omega | (simp; omega)) [go_sem, -Option.map_eq_some_iff]; rfl) (by simp [go_sem]; rfl) ?_
    | refine w_op rfl (by simp (disch := first | omega | (simp; omega)) [go_sem, e1, eqScs, TI.allInt, Tryz.ntmps150, -Option.map_eq_some_iff, *]; rfl) ?_
    | refine zst ?_
    | refine zo ?_
    | (refine zk ?_ ?_<;>intro hc hr<;>try exact zx))
  · have he : ed es k0 = ed es (k0 - 1) := Prod.ext hc.1 (Prod.ext hc.2.1 hc.2.2)
    have hk : k0 < es.length := by assumption
    refine a_loop (fun p : Nat × Nat × List Ed => ⟨61, [(0, AV.one (.ref 0)), (3, AV.one (.sc (.int p.1))), (4, AV.one (.win 0 3 k0 (es.length - k0))), (5, AV.one (.sc (.int p.2.1)))], [(0, some (.flat e 3 (eds p.2.2))), (1, some (.pin S W)), (3, some (.stay 0 pv))], [0, 1, 3]⟩) (fun p => CI es k0 p.1 p.2.1 p.2.2) (fun p => es.length - (k0 + p.2.1)) (k0, 1, es) (CI_0 h0 hk he hno) (Weak.refl _) ?_
    rintro ⟨k, j, M⟩ hI
    have hI' := hI
    obtain ⟨h1, h2, h3, h4, h5, h6, h7⟩ := hI'
    simp only at h1 h2 h3 h4 h5 ⊢
    clear h6 h7 hno he hc hr
    have e2 : ((j : Int) - 1).toNat = j - 1 := by omega
    have e3 : k0 + (j - 1) = k0 + j - 1 := by omega
    repeat' (first
    | refine w_op rfl (by simp (disch := first | omega | (simp; omega)) [go_sem, e2, e3, eqScs, TI.allInt, h5, Tryz.ntmps150, -Option.map_eq_some_iff]; rfl) ?_
    | refine l_op rfl (by simp (disch := first | omega | (simp; omega)) [go_sem, e2, e3, eqScs, TI.allInt, h5, Tryz.ntmps150, -Option.map_eq_some_iff]; exact ⟨rfl, rfl⟩) ?_
    | refine w_end (by simp [go_sem, K150]; rfl) ?_
    | refine l_end (by kernel_rfl) (by simp [go_sem, K150]; rfl) ?_
    | refine w_clr tok rfl (by first | rfl | (simpa [go_sem, *] using trivial)) rfl rfl (by simp (disch := first | omega | (simp; omega)) [go_sem, -Option.map_eq_some_iff]; rfl) (by simp [go_sem]; rfl) ?_
    | refine w_op rfl (by simp (disch := first | omega | (simp; omega)) [go_sem, e2, e3, eqScs, TI.allInt, h5, Tryz.ntmps150, -Option.map_eq_some_iff, *]; rfl) ?_
    | refine zst ?_
    | refine zo ?_
    | (refine zk ?_ ?_<;>intro hc hr<;>try exact zx))
    · have he : ed M (k0 + j) ≠ ed M (k0 + j - 1) := fun h => by rw [h] at hc; simp at hc
      refine k_lop (k + 1, j + 1, M.set k (ed M (k0 + j))) (CI_next hI (by omega) he) (by simp only; omega) (weak_of [(0, .obj 0), (1, .obj 1), (3, .obj 3)] rfl (by decide) ?_ ?_ rfl)
      · simp [go_sem, AVm, CVm, lookS]
      · simp [go_sem, OBm, lookS]
    · have he : ed M (k0 + j) = ed M (k0 + j - 1) := Prod.ext hc.1 (Prod.ext hc.2.1 hc.2.2)
      refine k_lop (k, j + 1, M) (CI_same hI (by omega) he) (by simp only; omega) (weak_of [(0, .obj 0), (1, .obj 1), (3, .obj 3)] rfl (by decide) ?_ ?_ rfl)
      · simp [go_sem, AVm, CVm, lookS]
      · simp [go_sem, OBm, lookS]
    · have hj : k0 + j = es.length := by omega
      have h6 := hI.2.2.2.2.2.1
      simp only at h6
      rw [hj] at h6
      refine ⟨rfl, .inr ⟨0, k, e, 3, _, rfl, rfl, ?_⟩⟩
      rw [← h6]
      have hl2 : (M.take k).length = k := by rw [List.length_take]; omega
      have ht : (eds M).take k = eds (M.take k) := by simp [eds, List.map_take]
      simp only [Obj.flat.injEq, true_and]
      rw [ht]
      exact (List.take_left' (by rw [edsLen, hl2])).symm
  · have hk : k0 < es.length := by assumption
    have he : ed es k0 ≠ ed es (k0 - 1) := fun h => by rw [h] at hc; simp at hc
    refine k_lop (k0 + 1) ⟨by omega, by omega, fun i h1 h2 => ?_⟩ (by omega) (Weak.refl _)
    by_cases hi : i = k0
    · subst hi; exact he
    · exact hno i h1 (by omega)
  · have hk : k0 = es.length := by omega
    have : cptN es es.length = es := by
      rw [cptN_all (fun i h1 h2 => hno i h1 (by omega)) (Nat.le_refl _)]; simp
    rw [this]
    exact ⟨rfl, .inl ⟨0, rfl, rfl⟩⟩
end Go.Proofs.Tryz
namespace Go.Proofs
open Go.Shelf
def Tryz.laidSort_ren : Go.Shelf.Ren := ⟨fun | 6 => 149 | 15 => 157 | 14 => 160 | 28 => 173 | 29 => 174 | 20 => 177 | 21 => 178 | 22 => 179 | 23 => 180 | 24 => 181 | 25 => 182 | 26 => 183 | 27 => 184 | 46 => 195 | 47 => 188 | 48 => 189 | 49 => 196 | 50 => 197 | 57 => 199 | n => n, fun | 22 => 24 | 24 => 65 | 25 => 96 | 3 => 3 | 39 => 122 | 0 => 0 | 53 => 145 | 55 => 147 | 4 => 4 | 46 => 139 | 45 => 138 | 50 => 84 | 5 => 5 | 9 => 9 | 66 => 155 | 70 => 159 | 76 => 164 | 77 => 98 | n => n, fun | n => n⟩
theorem Tryz.laidSort : Go.Proofs.SlLaysF0.n6 Tryz.prog Tryz.laidSort_ren := {
  mixed := by kernel_rfl
  f6 := ⟨Tryz.f149.name, by decide, Tryz.func149.trans (congrArg some (by kernel_rfl))⟩
  f14 := ⟨Tryz.f160.name, by decide, Tryz.func160.trans (congrArg some (by kernel_rfl))⟩
  f15 := Tryz.func157.trans (congrArg some (by kernel_rfl))
  f20 := ⟨Tryz.f177.name, by decide, Tryz.func177.trans (congrArg some (by kernel_rfl))⟩
  f21 := ⟨Tryz.f178.name, by decide, Tryz.func178.trans (congrArg some (by kernel_rfl))⟩
  f22 := ⟨Tryz.f179.name, by decide, Tryz.func179.trans (congrArg some (by kernel_rfl))⟩
  f23 := ⟨Tryz.f180.name, by decide, Tryz.func180.trans (congrArg some (by kernel_rfl))⟩
  f24 := ⟨Tryz.f181.name, by decide, Tryz.func181.trans (congrArg some (by kernel_rfl))⟩
  f25 := ⟨Tryz.f182.name, by decide, Tryz.func182.trans (congrArg some (by kernel_rfl))⟩
  f26 := ⟨Tryz.f183.name, by decide, Tryz.func183.trans (congrArg some (by kernel_rfl))⟩
  f27 := ⟨Tryz.f184.name, by decide, Tryz.func184.trans (congrArg some (by kernel_rfl))⟩
  f28 := Tryz.func173.trans (congrArg some (by kernel_rfl))
  f29 := Tryz.func174.trans (congrArg some (by kernel_rfl))
  f46 := ⟨Tryz.f195.name, by decide, Tryz.func195.trans (congrArg some (by kernel_rfl))⟩
  f47 := Tryz.func188.trans (congrArg some (by kernel_rfl))
  f48 := Tryz.func189.trans (congrArg some (by kernel_rfl))
  f49 := ⟨Tryz.f196.name, by decide, Tryz.func196.trans (congrArg some (by kernel_rfl))⟩
  f50 := ⟨Tryz.f197.name, by decide, Tryz.func197.trans (congrArg some (by kernel_rfl))⟩
  f57 := ⟨Tryz.f199.name, by decide, Tryz.func199.trans (congrArg some (by kernel_rfl))⟩
  t0 := Tryz.underlying0
  a0 := Tryz.isAgg0
  z0 := Tryz.sizeOf0
  v0 := Tryz.zeroValue0
  t3 := Tryz.underlying3
  a3 := Tryz.isAgg3
  z3 := Tryz.sizeOf3
  v3 := Tryz.zeroValue3
  t4 := Tryz.underlying4
  a4 := Tryz.isAgg4
  z4 := Tryz.sizeOf4
  v4 := Tryz.zeroValue4
  t5 := Tryz.underlying5
  a5 := Tryz.isAgg5
  z5 := Tryz.sizeOf5
  v5 := Tryz.zeroValue5
  t9 := Tryz.underlying9
  a9 := Tryz.isAgg9
  z9 := Tryz.sizeOf9
  v9 := Tryz.zeroValue9
  t22 := Tryz.underlying24
  a22 := Tryz.isAgg24
  z22 := Tryz.sizeOf24
  v22 := Tryz.zeroValue24
  t25 := Tryz.underlying96
  a25 := Tryz.isAgg96
  z25 := Tryz.sizeOf96
  v25 := Tryz.zeroValue96
  t39 := Tryz.underlying122
  a39 := Tryz.isAgg122
  z39 := Tryz.sizeOf122
  v39 := Tryz.zeroValue122
  t45 := Tryz.underlying138
  a45 := Tryz.isAgg138
  z45 := Tryz.sizeOf138
  v45 := Tryz.zeroValue138
  t46 := Tryz.underlying139
  a46 := Tryz.isAgg139
  z46 := Tryz.sizeOf139
  v46 := Tryz.zeroValue139
  t50 := Tryz.underlying84
  a50 := Tryz.isAgg84
  z50 := Tryz.sizeOf84
  v50 := Tryz.zeroValue84
  t53 := Tryz.underlying145
  a53 := Tryz.isAgg145
  z53 := Tryz.sizeOf145
  v53 := Tryz.zeroValue145
  t55 := Tryz.underlying147
  a55 := Tryz.isAgg147
  z55 := Tryz.sizeOf147
  v55 := Tryz.zeroValue147
  t66 := Tryz.underlying155
  a66 := Tryz.isAgg155
  z66 := Tryz.sizeOf155
  v66 := Tryz.zeroValue155
  t70 := Tryz.underlying159
  a70 := Tryz.isAgg159
  z70 := Tryz.sizeOf159
  v70 := Tryz.zeroValue159
  t76 := Tryz.underlying164
  a76 := Tryz.isAgg164
  z76 := Tryz.sizeOf164
  v76 := Tryz.zeroValue164
  t77 := Tryz.underlying98
  a77 := Tryz.isAgg98
  z77 := Tryz.sizeOf98
  v77 := Tryz.zeroValue98 }
end Go.Proofs
namespace Go.Proofs
open Go Go.Shelf Go.RowKit Go.Lib Go.Sort
theorem Tryz.cmpInts (a b : Int) (W : World) : Calls Tryz.prog 135 #[.int .i64 a, .int .i64 b] W fun e w' => e = .returned (.int .i64 (Tryz.cmpI a b)) ∧ W = w' := by
  unfold Tryz.cmpI
  by_cases h1 : a < b
  · simp only [if_pos h1]
    go_enter Tryz.func135, Tryz.ntmps135
    go_wp2
    go_ret
    exact ⟨rfl, rfl⟩
  · by_cases h2 : b < a
    · simp only [if_neg h1, if_pos h2]
      go_enter Tryz.func135, Tryz.ntmps135
      go_wp2
      go_ret
      exact ⟨rfl, rfl⟩
    · simp only [if_neg h1, if_neg h2]
      go_enter Tryz.func135, Tryz.ntmps135
      go_wp2
      go_ret
      exact ⟨rfl, rfl⟩
end Go.Proofs
namespace Go.Proofs
open Go Go.Shelf Go.RowKit Go.Lib Go.Sort
theorem Tryz.cmpEdges (p q : Tryz.Ed) (W : World) : Calls Tryz.prog 107 #[.agg #[.int .i64 p.1, .int .i64 p.2.1, .int .i64 p.2.2], .agg #[.int .i64 q.1, .int .i64 q.2.1, .int .i64 q.2.2]] W fun e w' => e = .returned (.int .i64 (Tryz.cmpE p q)) ∧ ∃ n os', w' = grow (W.drewN n) os' := by
  obtain ⟨p0, p1, p2⟩ := p
  obtain ⟨q0, q1, q2⟩ := q
  unfold Tryz.cmpE
  have c1 := fun W' => Tryz.cmpInts p0 q0 W'
  have c2 := fun W' => Tryz.cmpInts p1 q1 W'
  have c3 := fun W' => Tryz.cmpInts p2 q2 W'
  simp only
  generalize Tryz.cmpI p0 q0 = r1 at c1 ⊢
  generalize Tryz.cmpI p1 q1 = r2 at c2 ⊢
  generalize Tryz.cmpI p2 q2 = r3 at c3 ⊢
  by_cases h1 : r1 = 0
  · by_cases h2 : r2 = 0
    · subst h1; subst h2
      simp only [ne_eq, not_true, if_false]
      go_enter Tryz.func107, Tryz.ntmps107
      go_wp2_with (go_at_call 135; (first | ((with_reducible refine (c1 _).mono ?_); rintro e w' ⟨rfl, rfl⟩) | ((with_reducible refine (c2 _).mono ?_); rintro e w' ⟨rfl, rfl⟩) | ((with_reducible refine (c3 _).mono ?_); rintro e w' ⟨rfl, rfl⟩)))
      go_ret
      exact ⟨rfl, 0, _, by rw [alloc_eq_grow, alloc_eq_grow, grow_grow]; rfl⟩
    · have h2' : (r2 != 0) = true := by simpa using h2
      subst h1
      rw [if_neg (by simp), if_pos h2]
      go_enter Tryz.func107, Tryz.ntmps107
      go_wp2_with (go_at_call 135; (first | ((with_reducible refine (c1 _).mono ?_); rintro e w' ⟨rfl, rfl⟩) | ((with_reducible refine (c2 _).mono ?_); rintro e w' ⟨rfl, rfl⟩) | ((with_reducible refine (c3 _).mono ?_); rintro e w' ⟨rfl, rfl⟩)))
      go_ret
      exact ⟨rfl, 0, _, by rw [alloc_eq_grow, alloc_eq_grow, grow_grow]; rfl⟩
  · have h1' : (r1 != 0) = true := by simpa using h1
    rw [if_pos h1]
    go_enter Tryz.func107, Tryz.ntmps107
    go_wp2_with (go_at_call 135; (first | ((with_reducible refine (c1 _).mono ?_); rintro e w' ⟨rfl, rfl⟩) | ((with_reducible refine (c2 _).mono ?_); rintro e w' ⟨rfl, rfl⟩) | ((with_reducible refine (c3 _).mono ?_); rintro e w' ⟨rfl, rfl⟩)))
    go_ret
    exact ⟨rfl, 0, _, by rw [alloc_eq_grow, alloc_eq_grow, grow_grow]; rfl⟩
end Go.Proofs
namespace Go.Proofs
open Go Go.Shelf Go.RowKit Go.Lib Go.Sort
def Tryz.encE (x : Tryz.Ed) : List Value := [.int .i64 x.1, .int .i64 x.2.1, .int .i64 x.2.2]
theorem Tryz.ltE_of (x y : Tryz.Ed) : ltOf Tryz.cmpE x y = true ↔ Tryz.ltE x y := by
  unfold ltOf
  rw [decide_eq_true_eq]
  exact Tryz.cmpE_lt
theorem Tryz.ltE_of' (x y : Tryz.Ed) : ltOf Tryz.cmpE x y = false ↔ ¬ Tryz.ltE x y := by
  rw [← Tryz.ltE_of]; simp
theorem Tryz.swoE : SWO (ltOf Tryz.cmpE) where
  irrefl x := (Tryz.ltE_of' x x).2 Tryz.ltE_irr
  trans x y z h1 h2 := (Tryz.ltE_of x z).2 (Tryz.ltE_trans ((Tryz.ltE_of x y).1 h1) ((Tryz.ltE_of y z).1 h2))
  ntrans x y z h1 h2 := (Tryz.ltE_of' x z).2 (by
    have h1 := (Tryz.ltE_of' x y).1 h1
    have h2 := (Tryz.ltE_of' y z).1 h2
    unfold Tryz.ltE at *
    omega)
theorem Tryz.cmpLaysE (blk off size : Nat) (w : World) : CmpLays Tryz.prog 107 #[] Tryz.encE 3 Tryz.cmpE blk off size w :=
  fun _ _ _ _ x y => Tryz.cmpEdges x y _
#check Tryz.isAgg65
#check Tryz.sizeOf65
end Go.Proofs
namespace Go.Proofs
open Go Go.Shelf Go.RowKit Go.Lib Go.Sort
theorem Tryz.sorted_of {es : List Tryz.Ed} {d' : Array Tryz.Ed} (hp : PermIn 0 es.toArray.size es.toArray d') (hs : SortedIn (ltOf Tryz.cmpE) 0 es.toArray.size d') : d' = (Tryz.sortE es).toArray := by
  obtain ⟨h1, _, h3⟩ := hp
  have e1 : d'.extract 0 es.toArray.size = d' := by rw [← h1]; simp
  have e2 : es.toArray.extract 0 es.toArray.size = es.toArray := by simp
  rw [e1, e2] at h3
  have h4 : d'.toList.Pairwise Tryz.leE := by
    rw [List.pairwise_iff_getElem]
    intro i j hi hj hij
    have hi' : i < d'.size := by simpa using hi
    have hj' : j < d'.size := by simpa using hj
    have := (Tryz.ltE_of' _ _).1 (hs i j (Nat.zero_le _) hij (by rw [← h1]; exact hj'))
    rw [getElem!_pos d' j hj', getElem!_pos d' i hi'] at this
    simpa [Tryz.leE] using this
  have h5 := Tryz.sortE_uniq h4 (by simpa using h3)
  rw [← h5]
theorem Tryz.sortCalls (blk cap : Nat) (es : List Tryz.Ed) (w : World) (hH : HoldsK Tryz.encE 3 w blk 0 es.toArray) (hblk : blk < w.heap.size) (hsz : es.length < 4611686018427387904) :
    Calls Tryz.prog 149 #[.slice (some ⟨blk, 0, none⟩) es.length cap, .func (.func 107) #[] #[]] w fun e w' => e = .returned (.tuple #[]) ∧ ∃ n os, w' = sortWorldK Tryz.encE 3 w blk 0 n (Tryz.sortE es).toArray os := by
  have eg : ∀ args w, (callFunc 107 args).run Tryz.prog w = .ok (.enter 107 args) w := enters_of Tryz.func107 (by kernel_rfl) rfl
  have hcon := AnyQ.slices_SortFunc Tryz.laidSort 3 Tryz.isAgg65 Tryz.sizeOf65 Tryz.encE (fun _ => rfl) (fun x v hv => by simp [Tryz.encE] at hv; rcases hv with rfl | rfl | rfl <;> rfl) Tryz.cmpE Tryz.swoE 107 #[] blk 0 cap es.toArray w eg (Tryz.cmpLaysE blk 0 _ w) hH hblk (by simpa using hsz)
  change Calls Tryz.prog 149 _ _ _ at hcon
  rw [List.size_toArray] at hcon
  refine hcon.mono ?_
  rintro e w' ⟨rfl, d', n, os, hp, hs, rfl⟩
  refine ⟨rfl, n, os, ?_⟩
  have hp' : PermIn 0 es.toArray.size es.toArray d' := by rw [List.size_toArray]; exact hp
  have hs' : SortedIn (ltOf Tryz.cmpE) 0 es.toArray.size d' := by rw [List.size_toArray]; exact hs
  rw [Tryz.sorted_of hp' hs']
end Go.Proofs
namespace Go.Proofs
open Go Go.Shelf Go.RowKit Go.Lib Go.Sort
theorem Tryz.eds_flat (es : List Tryz.Ed) : Go.Eng.Flat 3 (Tryz.eds es) := by
  intro x hx
  simp only [Tryz.eds, List.mem_map] at hx
  obtain ⟨p, _, rfl⟩ := hx
  rfl
theorem Tryz.flatE (es : List Tryz.Ed) : (flatK Tryz.encE 3 es.toArray).toList = Go.Eng.cellsOf (Tryz.eds es) := by
  apply List.ext_getElem?
  intro j
  have e1 : (j / 3) * 3 + j % 3 = j := by omega
  have hg := Go.Eng.cellsOf_get (xs := Tryz.eds es) (k := 3) (j / 3) (j % 3) (Tryz.eds_flat es) (by omega)
  rw [e1] at hg
  rw [hg]
  by_cases hj : j < es.length * 3
  · have hd : j / 3 < es.length := by omega
    rw [Tryz.edsAt hd]
    have hl : (flatK Tryz.encE 3 es.toArray)[j]! = (Tryz.encE (es.toArray[j / 3]!))[j % 3]! := get_flatK _ _ _ _ (by simpa using hj)
    have hsz : j < (flatK Tryz.encE 3 es.toArray).size := by rw [size_flatK]; simpa using hj
    rw [getElem!_pos _ j hsz] at hl
    rw [List.getElem?_eq_getElem (by simpa using hsz), Array.getElem_toList, hl]
    have he : es.toArray[j / 3]! = Tryz.ed es (j / 3) := by simp [Tryz.ed, hd]
    rw [he]
    rcases (show j % 3 = 0 ∨ j % 3 = 1 ∨ j % 3 = 2 by omega) with h | h | h <;> rw [h] <;> rfl
  · have hd : es.length ≤ j / 3 := by omega
    rw [List.getElem?_eq_none (by simp [size_flatK]; omega), List.getElem?_eq_none (by rw [Tryz.edsLen]; exact hd)]
    rfl
end Go.Proofs
namespace Go.Proofs
open Go Go.Shelf Go.RowKit Go.Lib Go.Sort
theorem Tryz.holdsE {w : World} {g e : Nat} {cur : Array Value} {es : List Tryz.Ed} (hg : w.heap[g]? = some (.cells cur e (0, 0))) (ht : cur.toList.take (es.length * 3) = Go.Eng.cellsOf (Tryz.eds es)) : HoldsK Tryz.encE 3 w g 0 es.toArray := by
  intro j hj
  have hj' : j < es.length * 3 := by simpa [size_flatK] using hj
  have h1 : cur[j]? = some (flatK Tryz.encE 3 es.toArray)[j]! := by
    have h2 : (cur.toList.take (es.length * 3))[j]? = (flatK Tryz.encE 3 es.toArray).toList[j]? := by rw [ht, Tryz.flatE]
    rw [List.getElem?_take_of_lt hj'] at h2
    rw [getElem!_pos _ j hj]
    rw [← Array.getElem?_eq_getElem hj]
    simpa using h2
  constructor
  · unfold World.cell?
    simp only [hg, Nat.zero_add]
    simpa using h1
  · simp [World.frozen?, hg]
end Go.Proofs
namespace Go.Proofs
open Go Go.Shelf Go.RowKit Go.Lib Go.Sort
theorem Tryz.sortW {w : World} {g e n : Nat} {cur : Array Value} {d : Array Tryz.Ed} {os : Array Obj} (hg : w.heap[g]? = some (.cells cur e (0, 0))) :
    (sortWorldK Tryz.encE 3 w g 0 n d os).os = w.os ∧ (sortWorldK Tryz.encE 3 w g 0 n d os).tape = w.tape ∧ (sortWorldK Tryz.encE 3 w g 0 n d os).output = w.output ∧ w.heap.size ≤ (sortWorldK Tryz.encE 3 w g 0 n d os).heap.size ∧
    (∀ b, b < w.heap.size → b ≠ g → (sortWorldK Tryz.encE 3 w g 0 n d os).heap[b]? = w.heap[b]?) ∧
    (sortWorldK Tryz.encE 3 w g 0 n d os).heap[g]? = some (.cells (putCells id 0 (flatK Tryz.encE 3 d) cur) e (0, 0)) := by
  have hlt : g < w.heap.size := by
    by_cases h : g < w.heap.size
    · exact h
    · rw [Array.getElem?_eq_none (by omega)] at hg; cases hg
  refine ⟨rfl, rfl, rfl, ?_, fun b hb hne => ?_, ?_⟩
  · simp [sortWorldK, grow, putRowK, putRow, mapBlock, Sort.ahead]
  · show ((w.heap.modify g (onCells (putCells id 0 (flatK Tryz.encE 3 d)))) ++ os)[b]? = _
    rw [Array.getElem?_append_left (by simpa using hb), Array.getElem?_modify, if_neg (fun h => hne h.symm)]
  · show ((w.heap.modify g (onCells (putCells id 0 (flatK Tryz.encE 3 d)))) ++ os)[g]? = _
    rw [Array.getElem?_append_left (by simpa using hlt), Array.getElem?_modify, if_pos rfl, hg]
    rfl
end Go.Proofs
namespace Go.Proofs
open Go Go.Shelf Go.RowKit Go.Lib Go.Sort
theorem Tryz.putTake {d cur : Array Value} (h : d.size ≤ cur.size) : (putCells id 0 d cur).toList.take d.size = d.toList := by
  apply List.ext_getElem?
  intro j
  by_cases hj : j < d.size
  · rw [List.getElem?_take_of_lt hj, Array.getElem?_toList, Array.getElem?_toList]
    simp only [putCells, Array.getElem?_mapIdx]
    rw [Array.getElem?_eq_getElem (show j < cur.size by omega), Array.getElem?_eq_getElem hj]
    simp only [Option.map_some, Nat.zero_le, true_and, Nat.zero_add, Nat.sub_zero, id]
    rw [if_pos hj, getElem!_pos d j hj]
  · rw [List.getElem?_eq_none (by rw [List.length_take]; omega), List.getElem?_eq_none (by simpa using Nat.le_of_not_lt hj)]
def Tryz.sort_S : Go.Eng.SpecX := fun args o o' => ∃ (e : Nat) (es : List Tryz.Ed), es.length ≤ 1099511627776 ∧ args = [Go.Eng.AV.one (.ref 0), Go.Eng.AV.one (.fn 107)] ∧ o = .flat e 3 (Tryz.eds es) ∧ o' = .flat e 3 (Tryz.eds (Tryz.sortE es))
theorem Tryz.sortE_len (es : List Tryz.Ed) : (Tryz.sortE es).length = es.length := (Tryz.sortE_perm es).length_eq
theorem Tryz.sort_sat : Go.Eng.SatV Tryz.prog 149 Tryz.sort_S := by
  rintro args o o' ⟨e, es, hl, rfl, rfl, rfl⟩ N0 w vals pv vs hN ho hbl hargs
  match vals, hargs with
  | [v0, v1], ⟨h0, h1, _⟩ =>
    obtain ⟨us, hat, hone⟩ := h0
    have hv0 : pv = v0 := by simp [Go.Eng.at0] at hat; exact hat.1
    have hv1 : v1 = .func (.func 107) #[] #[] := h1
    subst hv0; subst hv1
    obtain ⟨hown, hflat⟩ := ho
    rcases hown.2 with ⟨hnil, hz⟩ | ⟨g, cap, cur, hpv, hbg, hg, hc, hm, hs, ht⟩
    · rw [Tryz.edsLen] at hz
      have he : es = [] := List.eq_nil_of_length_eq_zero hz
      subst he
      subst hnil
      have hcon := AnyF.slices_SortFunc_none Tryz.laidSort none 0 (.func (.func 107) #[] #[]) w
      change Calls Tryz.prog 149 _ _ _ at hcon
      refine hcon.mono ?_
      rintro e1 w' ⟨rfl, rfl⟩
      exact ⟨rfl, vs, ⟨rfl, rfl, rfl, Nat.le_refl _, fun b hb => rfl, ⟨hown, hflat⟩, fun b hb => ⟨(hbl b hb).2, .inr hb⟩⟩⟩
    · rw [Tryz.edsLen] at hpv hc ht
      subst hpv
      have hlt : g < w.heap.size := (hbl g (.inl rfl)).2
      refine (Tryz.sortCalls g cap es w (Tryz.holdsE hg ht) hlt (by omega)).mono ?_
      rintro e1 w' ⟨rfl, n, os, rfl⟩
      obtain ⟨f1, f2, f3, f4, f5, f6⟩ := Tryz.sortW (n := n) (d := (Tryz.sortE es).toArray) (os := os) hg
      have hsz : (flatK Tryz.encE 3 (Tryz.sortE es).toArray).size = es.length * 3 := by rw [size_flatK]; simp [Tryz.sortE_len]
      have hle : es.length * 3 ≤ cap * 3 := Nat.mul_le_mul_right _ hc
      refine ⟨rfl, vs, ⟨f1, f2, f3, f4, fun b hb => f5 b hb.1 (fun h => hb.2 (.inl (by rw [h]; rfl))), ⟨⟨Go.Eng.flat_len (Tryz.eds_flat _), .inr ⟨g, cap, _, by rw [Tryz.edsLen, Tryz.sortE_len], hbg, f6, by rw [Tryz.edsLen, Tryz.sortE_len]; exact hc, hm, ?_, ?_⟩⟩, Tryz.eds_flat _⟩, fun b hb => ?_⟩⟩
      · simp only [putCells, Array.size_mapIdx]; exact hs
      · have hpt := Tryz.putTake (d := flatK Tryz.encE 3 (Tryz.sortE es).toArray) (cur := cur) (by rw [hsz, hs]; exact hle)
        rw [hsz] at hpt
        rw [Tryz.edsLen, Tryz.sortE_len, ← Tryz.flatE]
        exact hpt
      · rcases hb with hb | ⟨hb, _⟩
        · have : b = g := by cases hb; rfl
          subst this
          exact ⟨by omega, .inr (.inl rfl)⟩
        · cases hb
end Go.Proofs
namespace Go.Proofs.Tryz
open Go Go.Eng
theorem cptN_sort (es : List Ed) : cptN (sortE es) (sortE es).length = norm es := by
  refine norm_uniq (cptN_asc (fun i j hij hj => ?_) _ (Nat.le_refl _)) fun x => ?_
  · have := List.pairwise_iff_getElem.1 (sortE_sorted es) i j (by omega) hj hij
    simpa [ed, leE, hj, show i < (sortE es).length by omega] using this
  · rw [cptN_mem, ← (sortE_perm es).mem_iff, List.mem_iff_getElem]
    constructor
    · rintro ⟨i, hi, rfl⟩; exact ⟨i, hi, by simp [ed, hi]⟩
    · rintro ⟨i, hi, rfl⟩; exact ⟨i, hi, by simp [ed, hi]⟩
def sorted_S : Eng.Spec := fun args av objs => ∃ es : List Ed, es.length ≤ 1099511627776 ∧ args = [AV.one (.imm 3 (eds es))] ∧ av = AV.one (.ref 0) ∧ objs = [.flat 65 3 (eds (norm es))]
def K131 : Nat → List Nat := fun i => ([[0],[3],[3],[2]] : List (List Nat)).getD i []
theorem sorted_sat : Sat Tryz.prog 131 sorted_S := by
  refine sat_of tok okr mixed K131 Tryz.func131 rfl (rs := [.tmp 2]) rfl rfl ?_
  rintro args av objs ⟨es, hl, rfl, rfl, rfl⟩
  refine ⟨by show 1 ≤ 11; decide, ?_⟩
  repeat' (first
    | refine w_op rfl (by simp (disch := first | omega | (simp; omega)) [go_sem, Tryz.ntmps131, -Option.map_eq_some_iff]; rfl) ?_
    | refine w_end (by simp [go_sem, K131]; rfl) ?_
    | refine w_fnX compact_sat rfl Tryz.func150 rfl rfl (by first | rfl | (simpa [go_sem, *] using trivial)) rfl rfl (by simp [go_sem]; rfl) (by simp [go_sem]; rfl) (by simp [go_sem]; rfl) (by exact ⟨_, sortE es, by rw [sortE_len]; exact hl, rfl, rfl, rfl⟩) rfl rfl (by rfl) (by simp [go_sem]; rfl) ?_
    | refine l_fnX compact_sat rfl Tryz.func150 rfl rfl (by first | rfl | (simpa [go_sem, *] using trivial)) rfl rfl (by simp [go_sem]; rfl) (by simp [go_sem]; rfl) (by simp [go_sem]; rfl) (by exact ⟨_, sortE es, by rw [sortE_len]; exact hl, rfl, rfl, rfl⟩) rfl rfl (by rfl) (by simp [go_sem]; rfl) ?_
    | refine w_fnV sort_sat rfl Tryz.func149 rfl rfl (by first | rfl | (simpa [go_sem, *] using trivial)) rfl rfl (by simp [go_sem]; rfl) (by simp [go_sem]; rfl) (by simp [go_sem]; rfl) (by exact ⟨_, es, hl, rfl, rfl, rfl⟩) rfl rfl (by simp [go_sem]; rfl) ?_
    | refine w_op rfl (by simp (disch := first | omega | (simp; omega)) [go_sem, Tryz.ntmps131, -Option.map_eq_some_iff, *]; rfl) ?_
    | refine zst ?_
    | refine zo ?_
    | (refine zk ?_ ?_<;>intro hc hr<;>try exact zx))
  refine k_ret (by simp [go_sem]; first | exact ⟨rfl, rfl⟩ | rfl) ?_ ?_
  · rfl
  · simp [cptN_sort]
end Go.Proofs.Tryz

namespace Go.Proofs.Tryz
open Go Go.Eng
instance : Con Tryz.prog 131 (specOf sorted_sat) := con sorted_sat Tryz.func131
end Go.Proofs.Tryz
