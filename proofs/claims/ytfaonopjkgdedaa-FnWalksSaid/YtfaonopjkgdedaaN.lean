import Derived.Test.YtfaonopjkgdedaaA
set_option linter.unusedVariables false
set_option linter.unusedSimpArgs false
set_option linter.unnecessarySimpa false
/- Plain: ascending lists of edges; putting in, sorting and compacting come to the same. -/
namespace Go.Proofs.Try
open Go Go.Eng

theorem cmpE_0 {p q : Ed} : cmpE p q = 0 ↔ p = q := by
  obtain ⟨a, b, c⟩ := p
  obtain ⟨a', b', c'⟩ := q
  simp only [cmpE, cmpI, Prod.mk.injEq]
  repeat' split
  all_goals omega
/-- The order by its places. -/
def ltE (p q : Ed) : Prop := p.1 < q.1 ∨ (p.1 = q.1 ∧ (p.2.1 < q.2.1 ∨ (p.2.1 = q.2.1 ∧ p.2.2 < q.2.2)))
theorem cmpE_lt {p q : Ed} : cmpE p q < 0 ↔ ltE p q := by
  simp only [cmpE, cmpI, ltE]
  repeat' split
  all_goals first | omega | (constructor <;> intro h <;> omega)
theorem cmpE_gt {p q : Ed} : 0 < cmpE p q ↔ ltE q p := by
  simp only [cmpE, cmpI, ltE]
  repeat' split
  all_goals first | omega | (constructor <;> intro h <;> omega)
theorem ltE_trans {p q r : Ed} (h1 : ltE p q) (h2 : ltE q r) : ltE p r := by unfold ltE at *; omega
theorem ltE_irr {p : Ed} : ¬ ltE p p := by unfold ltE; omega
theorem ltE_total {p q : Ed} (h : ¬ ltE p q) (h2 : p ≠ q) : ltE q p := by
  rcases Int.lt_trichotomy (cmpE p q) 0 with h3 | h3 | h3
  · exact absurd (cmpE_lt.1 h3) h
  · exact absurd (cmpE_0.1 h3) h2
  · exact cmpE_gt.1 h3

def asc (l : List Ed) : Prop := l.Pairwise ltE
def ins (e : Ed) : List Ed → List Ed
  | [] => [e]
  | x :: r => if cmpE e x = 0 then x :: r else if cmpE e x < 0 then e :: x :: r else x :: ins e r
theorem put_true (e : Ed) : ∀ (es acc : List Ed), es.foldl (putStep e) (acc, true) = (acc ++ es, true)
  | [], acc => by simp
  | x :: r, acc => by
    rw [List.foldl_cons]
    have : putStep e (acc, true) x = (acc ++ [x], true) := by unfold putStep; split <;> simp
    rw [this, put_true e r]
    simp
def fin (e : Ed) (r : List Ed × Bool) : List Ed := if r.2 then r.1 else r.1 ++ [e]
theorem put_false (e : Ed) : ∀ (es acc : List Ed), fin e (es.foldl (putStep e) (acc, false)) = acc ++ ins e es
  | [], acc => by simp [ins, fin]
  | x :: r, acc => by
    rw [List.foldl_cons]
    by_cases h0 : cmpE e x = 0
    · rw [show putStep e (acc, false) x = (acc ++ [x], true) from by simp [putStep, h0], put_true]
      simp [fin, ins, h0]
    · by_cases h1 : cmpE e x < 0
      · rw [show putStep e (acc, false) x = (acc ++ [e] ++ [x], true) from by simp [putStep, h0, h1], put_true]
        simp [fin, ins, h0, h1]
      · rw [show putStep e (acc, false) x = (acc ++ [x], false) from by simp [putStep, h0, h1], put_false e r]
        simp [ins, h0, h1]
theorem put_ins (es : List Ed) (e : Ed) : put es e = ins e es := by
  have := put_false e es []
  simp only [put, putN, List.take_length]
  simpa [fin] using this
theorem ins_mem {e x : Ed} : ∀ {es : List Ed}, x ∈ ins e es ↔ x = e ∨ x ∈ es
  | [] => by simp [ins]
  | y :: r => by
    unfold ins
    split
    · rename_i h; rw [cmpE_0] at h; subst h; simp
    · split
      · simp
      · simp only [List.mem_cons, ins_mem (es := r)]
        constructor <;> (rintro (h | h | h) <;> simp [h])
theorem ins_asc {e : Ed} : ∀ {es : List Ed}, asc es → asc (ins e es)
  | [], _ => by simp [ins, asc]
  | y :: r, h => by
    unfold ins
    unfold asc at h ⊢
    rw [List.pairwise_cons] at h
    split
    · exact List.pairwise_cons.2 h
    · rename_i h0
      split
      · rename_i h1
        rw [cmpE_lt] at h1
        refine List.pairwise_cons.2 ⟨fun z hz => ?_, List.pairwise_cons.2 h⟩
        rcases List.mem_cons.1 hz with rfl | hz
        · exact h1
        · exact ltE_trans h1 (h.1 z hz)
      · rename_i h1
        rw [cmpE_lt] at h1
        refine List.pairwise_cons.2 ⟨fun z hz => ?_, ins_asc h.2⟩
        rcases ins_mem.1 hz with rfl | hz
        · exact ltE_total h1 (fun e => h0 (cmpE_0.2 e))
        · exact h.1 z hz
/-- The list in order, each once. -/
def norm (l : List Ed) : List Ed := l.foldl (fun a e => ins e a) []
theorem norm_go : ∀ (l a : List Ed), asc a → asc (l.foldl (fun a e => ins e a) a) ∧ ∀ x, x ∈ l.foldl (fun a e => ins e a) a ↔ x ∈ a ∨ x ∈ l
  | [], a, h => ⟨h, by simp⟩
  | e :: l, a, h => by
    obtain ⟨h1, h2⟩ := norm_go l (ins e a) (ins_asc h)
    refine ⟨h1, fun x => ?_⟩
    rw [List.foldl_cons, h2, ins_mem, List.mem_cons]
    constructor
    · rintro ((h | h) | h)
      · exact .inr (.inl h)
      · exact .inl h
      · exact .inr (.inr h)
    · rintro (h | h | h)
      · exact .inl (.inr h)
      · exact .inl (.inl h)
      · exact .inr h
theorem norm_asc (l : List Ed) : asc (norm l) := (norm_go l [] List.Pairwise.nil).1
theorem norm_mem {l : List Ed} {x : Ed} : x ∈ norm l ↔ x ∈ l := by
  have := (norm_go l [] List.Pairwise.nil).2 x
  simpa [norm] using this
theorem asc_ext : ∀ {a b : List Ed}, asc a → asc b → (∀ x, x ∈ a ↔ x ∈ b) → a = b
  | [], [], _, _, _ => rfl
  | [], y :: b, _, _, h => by have := (h y).2 (by simp); simp at this
  | x :: a, [], _, _, h => by have := (h x).1 (by simp); simp at this
  | x :: a, y :: b, ha, hb, h => by
    unfold asc at ha hb
    rw [List.pairwise_cons] at ha hb
    have hxy : x = y := by
      rcases List.mem_cons.1 ((h x).1 (by simp)) with e | h1
      · exact e
      rcases List.mem_cons.1 ((h y).2 (by simp)) with e | h2
      · exact e.symm
      exact absurd (ltE_trans (ha.1 y h2) (hb.1 x h1)) ltE_irr
    subst hxy
    rw [asc_ext (a := a) (b := b) ha.2 hb.2 fun z => ?_]
    constructor
    · intro hz
      rcases List.mem_cons.1 ((h z).1 (by simp [hz])) with e | h1
      · subst e; exact absurd (ha.1 z hz) ltE_irr
      · exact h1
    · intro hz
      rcases List.mem_cons.1 ((h z).2 (by simp [hz])) with e | h1
      · subst e; exact absurd (hb.1 z hz) ltE_irr
      · exact h1
theorem norm_uniq {a l : List Ed} (h : asc a) (hm : ∀ x, x ∈ a ↔ x ∈ l) : a = norm l := asc_ext h (norm_asc l) fun x => (hm x).trans norm_mem.symm
theorem norm_put (l : List Ed) : l.foldl put [] = norm l := by
  unfold norm
  congr 1
  funext a e
  exact put_ins a e

/-! ### Compacting a sorted list -/
def cpt : List Ed → List Ed
  | [] => []
  | [x] => [x]
  | x :: y :: r => if x = y then cpt (y :: r) else x :: cpt (y :: r)
theorem cpt_mem {x : Ed} : ∀ {l : List Ed}, x ∈ cpt l ↔ x ∈ l
  | [] => by simp [cpt]
  | [y] => by simp [cpt]
  | y :: z :: r => by
    unfold cpt
    split
    · rename_i h; subst h; rw [cpt_mem]; simp
    · rw [List.mem_cons, cpt_mem, List.mem_cons]
      simp
theorem cpt_asc : ∀ {l : List Ed}, l.Pairwise (fun a b => ¬ ltE b a) → asc (cpt l)
  | [], _ => by simp [cpt, asc]
  | [y], _ => by simp [cpt, asc]
  | y :: z :: r, h => by
    unfold cpt
    have h' := List.pairwise_cons.1 h
    split
    · exact cpt_asc h'.2
    · rename_i hne
      unfold asc
      refine List.pairwise_cons.2 ⟨fun x hx => ?_, cpt_asc h'.2⟩
      have hyz : ltE y z := ltE_total (h'.1 z (by simp)) (fun e => hne e.symm)
      rcases List.mem_cons.1 (cpt_mem.1 hx) with rfl | hx
      · exact hyz
      · by_cases hzx : z = x
        · subst hzx; exact hyz
        · exact ltE_trans hyz (ltE_total ((List.pairwise_cons.1 h'.2).1 x hx) (fun e => hzx e.symm))
theorem cpt_norm {d l : List Ed} (hs : d.Pairwise (fun a b => ¬ ltE b a)) (hp : d.Perm l) : cpt d = norm l :=
  norm_uniq (cpt_asc hs) fun x => cpt_mem.trans hp.mem_iff
end Go.Proofs.Try
/- Plain: the sorted list (with what stands twice) is one only. -/
namespace Go.Proofs.Try
open Go Go.Eng

def leE (a b : Ed) : Prop := ¬ ltE b a
theorem leE_trans {a b c : Ed} (h1 : leE a b) (h2 : leE b c) : leE a c := by unfold leE ltE at *; omega
theorem leE_anti {a b : Ed} (h1 : leE a b) (h2 : leE b a) : a = b := by
  by_cases h : a = b
  · exact h
  · exact absurd (ltE_total h2 h) h1
theorem leE_refl (a : Ed) : leE a a := ltE_irr
def insD (e : Ed) : List Ed → List Ed
  | [] => [e]
  | x :: r => if cmpE e x ≤ 0 then e :: x :: r else x :: insD e r
def sortE (l : List Ed) : List Ed := l.foldr insD []
theorem insD_perm (e : Ed) : ∀ l : List Ed, (insD e l).Perm (e :: l)
  | [] => List.Perm.refl _
  | x :: r => by
    unfold insD
    split
    · exact List.Perm.refl _
    · exact ((insD_perm e r).cons x).trans (List.Perm.swap e x r)
theorem insD_sorted (e : Ed) : ∀ {l : List Ed}, l.Pairwise leE → (insD e l).Pairwise leE
  | [], _ => by simp [insD]
  | x :: r, h => by
    have h' := List.pairwise_cons.1 h
    unfold insD
    split
    · rename_i hc
      have hex : leE e x := by
        unfold leE
        intro hh
        have := cmpE_gt.2 hh
        omega
      refine List.pairwise_cons.2 ⟨fun y hy => ?_, h⟩
      rcases List.mem_cons.1 hy with rfl | hy
      · exact hex
      · exact leE_trans hex (h'.1 y hy)
    · rename_i hc
      have hxe : leE x e := by
        unfold leE
        intro hh
        have := cmpE_lt.2 hh
        omega
      refine List.pairwise_cons.2 ⟨fun y hy => ?_, insD_sorted e h'.2⟩
      rcases List.mem_cons.1 ((insD_perm e r).mem_iff.1 hy) with rfl | hy
      · exact hxe
      · exact h'.1 y hy
theorem sortE_perm (l : List Ed) : (sortE l).Perm l := by
  induction l with
  | nil => exact List.Perm.refl _
  | cons e l ih => exact (insD_perm e _).trans (ih.cons e)
theorem sortE_sorted (l : List Ed) : (sortE l).Pairwise leE := by
  induction l with
  | nil => exact List.Pairwise.nil
  | cons e l ih => exact insD_sorted e ih
theorem sorted_uniq : ∀ {a b : List Ed}, a.Pairwise leE → b.Pairwise leE → a.Perm b → a = b
  | [], b, _, _, h => by simpa using h.symm.eq_nil
  | x :: a, [], _, _, h => by have := h.eq_nil; simp at this
  | x :: a, y :: b, ha, hb, h => by
    have ha' := List.pairwise_cons.1 ha
    have hb' := List.pairwise_cons.1 hb
    have hxy : x = y := by
      have h1 : x ∈ y :: b := h.mem_iff.1 (by simp)
      have h2 : y ∈ x :: a := h.mem_iff.2 (by simp)
      rcases List.mem_cons.1 h1 with e | h1
      · exact e
      rcases List.mem_cons.1 h2 with e | h2
      · exact e.symm
      exact leE_anti (ha'.1 y h2) (hb'.1 x h1)
    subst hxy
    rw [sorted_uniq ha'.2 hb'.2 (List.Perm.cons_inv h)]
theorem sortE_uniq {d l : List Ed} (hs : d.Pairwise leE) (hp : d.Perm l) : d = sortE l :=
  sorted_uniq hs (sortE_sorted l) (hp.trans (sortE_perm l).symm)
end Go.Proofs.Try
namespace Go.Proofs.Try
end Go.Proofs.Try
