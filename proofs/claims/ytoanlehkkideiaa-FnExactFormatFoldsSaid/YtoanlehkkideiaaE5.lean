/- The engine, part 5: a region's operations, in the order of the text; and a region that draws its order. -/
import Derived.Test.YtoanlehkkideiaaE4
import Derived.Orders
set_option linter.unusedVariables false
namespace Go.Eng
open Go Go.RowKit

section
variable {N0 : Nat} {W0 : World} {s s' : AS} {β β' : Plc} {a : Act} {w w' : World} {P : Program}

/-- What a guard's operation has left. -/
def guardAV (ops : Array Oper) (s : AS) (j : Nat) : AV :=
  match (ops[j]?).bind (·.dst) with
  | some d => s.get d
  | none => .dead

def skipE : Eff := { val := .tup [] }

/-- The operation is carried out (A), or passed over (B). -/
def gwhen (ops : Array Oper) (s : AS) (o : Oper) (A B : Prop) : Prop :=
  match o.guard with
  | none => A
  | some (j, want) =>
    match guardAV ops s j with
    | .one (.sc (.bool b)) => (b = want → A) ∧ (b ≠ want → B)
    | .tup [] => B
    | _ => False

inductive Says (ops : Array Oper) (s : AS) (o : Oper) : Bool → Prop where
  | plain (h : o.guard = none) : Says ops s o true
  | yes (j : Nat) (want : Bool) (h : o.guard = some (j, want)) (hg : guardAV ops s j = .one (.sc (.bool want))) : Says ops s o true
  | no (j : Nat) (want b : Bool) (h : o.guard = some (j, want)) (hg : guardAV ops s j = .one (.sc (.bool b))) (hb : b ≠ want) : Says ops s o false
  | out (j : Nat) (want : Bool) (h : o.guard = some (j, want)) (hg : guardAV ops s j = .tup []) : Says ops s o false

theorem gwhen_says {ops : Array Oper} {o : Oper} {A B : Prop} (h : gwhen ops s o A B) : (Says ops s o true ∧ A) ∨ (Says ops s o false ∧ B) := by
  unfold gwhen at h
  split at h
  · rename_i hg; exact .inl ⟨.plain hg, h⟩
  · rename_i j want hg
    split at h
    · rename_i b hav
      by_cases hb : b = want
      · subst hb; exact .inl ⟨.yes j b hg hav, h.1 rfl⟩
      · exact .inr ⟨.no j want b hg hav hb, h.2 hb⟩
    · rename_i hav; exact .inr ⟨.out j want hg hav, h⟩
    · exact h.elim

theorem says_wanted {ops : Array Oper} {o : Oper} {b : Bool} (r : Rel N0 W0 s β a w) (h : Says ops s o b) : Region.wanted o (yielded ops a.tmps) = b := by
  have key : ∀ j av, guardAV ops s j = av → (∃ d, (ops[j]?).bind (·.dst) = some d ∧ AR N0 β (Free s β w) w av (a.tmps.getD d undef)) ∨ av = .dead := by
    intro j av hav
    unfold guardAV at hav
    split at hav
    · rename_i d hd
      exact .inl ⟨d, hd, hav ▸ r.env d⟩
    · exact .inr hav.symm
  have hy : ∀ j d v, (ops[j]?).bind (·.dst) = some d → a.tmps.getD d undef = v → yielded ops a.tmps j = match v with | .bool b => some b | _ => none := by
    intro j d v hd hv
    unfold yielded
    rw [hd]
    simp only [Option.bind_some]
    rw [Array.getD_eq_getD_getElem?] at hv
    cases hq : a.tmps[d]? with
    | none => rw [hq] at hv; subst hv; rfl
    | some u => rw [hq] at hv; simp at hv; subst hv; cases u <;> rfl
  unfold Region.wanted
  cases h with
  | plain h => rw [h]
  | yes j want h hg =>
    rw [h]
    rcases key j _ hg with ⟨d, hd, hv⟩ | hx
    · have hv' : a.tmps.getD d undef = .bool want := hv
      show (yielded ops a.tmps j == some want) = true
      rw [hy j d _ hd hv']; simp
    · cases hx
  | no j want b h hg hb =>
    rw [h]
    rcases key j _ hg with ⟨d, hd, hv⟩ | hx
    · have hv' : a.tmps.getD d undef = .bool b := hv
      show (yielded ops a.tmps j == some want) = false
      rw [hy j d _ hd hv']; simpa using hb
    · cases hx
  | out j want h hg =>
    rw [h]
    rcases key j _ hg with ⟨d, hd, hv⟩ | hx
    · obtain ⟨us, hu, hall⟩ := hv
      have hus : us = [] := by cases us with | nil => rfl | cons _ _ => exact hall.elim
      subst hus
      show (yielded ops a.tmps j == some want) = false
      rw [hy j d _ hd hu]; rfl
    · cases hx

theorem rel_skip (r : Rel N0 W0 s β a w) {o : Oper} (hd : Oper.dstOk o s.n = true) : Rel N0 W0 (s.app o.dst skipE) β (a.put o.dst undef) w := by
  have h := Oper.dstOk_spec hd
  cases hdst : o.dst with
  | none => exact r
  | some d => exact r.put (h d hdst) ⟨[], rfl, trivial⟩

/-- One step: carried out with an effect, or passed over. -/
def StepC (P : Program) (ops : Array Oper) (o : Oper) (s : AS) (x : Option Eff) : Prop :=
  match x with
  | some e => Says ops s o true ∧ EffU P o s e ∧ ∀ i ∈ e.fresh, i ∉ s.used
  | none => Says ops s o false ∧ Oper.dstOk o s.n = true

def effOf (x : Option Eff) : Eff := x.getD skipE

def Cert (P : Program) (ops : Array Oper) : List Oper → AS → List (Option Eff) → AS → Prop
  | [], s, [], t => s = t
  | o :: r, s, x :: xs, t => StepC P ops o s x ∧ Cert P ops r (s.app o.dst (effOf x)) xs t
  | _, _, _, _ => False

theorem stepC_ok {ops : Array Oper} {o : Oper} {x : Option Eff} (h : StepC P ops o s x) (r : Rel N0 W0 s β a w) (K : Act → World → Prop) (Q : Exit → Act → World → Prop)
    (hK : ∀ β' a' w', Rel N0 W0 (s.app o.dst (effOf x)) β' a' w' → K a' w') :
    if Region.wanted o (yielded ops a.tmps) then o.wp P a w K Q else K (a.put o.dst undef) w := by
  cases x with
  | some e =>
    obtain ⟨h1, h2, h3⟩ := h
    rw [if_pos (says_wanted r h1)]
    exact h2 s rfl (fun _ _ => rfl) (fun _ _ => rfl) h3 N0 W0 β a w r K Q hK
  | none =>
    obtain ⟨h1, h2⟩ := h
    rw [if_neg (by rw [says_wanted r h1]; simp)]
    exact hK β _ w (rel_skip r h2)

theorem cert_list {ops : Array Oper} {Q : Exit → Act → World → Prop} : ∀ {l : List Oper} {s t : AS} {xs : List (Option Eff)} {β : Plc} {a : Act} {w : World}, Cert P ops l s xs t → Rel N0 W0 s β a w →
    (∀ β' a' w', Rel N0 W0 t β' a' w' → Q .normal a' w') → wpList P ops Q l a w
  | [], s, t, [], β, a, w, h, r, hQ => by cases h; exact hQ β a w r
  | o :: l, s, t, x :: xs, β, a, w, ⟨h1, h2⟩, r, hQ => wpList_step fun K hK =>
      stepC_ok h1 r K Q fun β' a' w' r' => hK a' w' (cert_list h2 r' hQ)
  | [], _, _, _ :: _, _, _, _, h, _, _ => h.elim
  | _ :: _, _, _, [], _, _, _, h, _, _ => h.elim

/-! ### A region that draws its order -/

def looks (ops : Array Oper) (o : Oper) : List Nat :=
  slots o ++ (match o.guard with
    | some (j, _) => ((ops[j]?).bind (·.dst)).toList
    | none => [])

def doms (x : Option Eff) : List Nat := (effOf x).sets.map (·.1)

/-- The two steps have nothing to do with each other. -/
def apartB (ops : Array Oper) (o o' : Oper) (x x' : Option Eff) : Bool :=
  (match o.dst with
    | some d => !(looks ops o').contains d && o'.dst != some d
    | none => true) &&
  (match o'.dst with
    | some d => !(looks ops o).contains d
    | none => true) &&
  (doms x).all (fun i => !(doms x').contains i && !(effOf x').log.contains i) &&
  (doms x').all (fun i => !(effOf x).log.contains i) &&
  (effOf x).fresh.all (fun i => !(effOf x').fresh.contains i)

structure Apart (ops : Array Oper) (o o' : Oper) (x x' : Option Eff) : Prop where
  d1 : ∀ d, o.dst = some d → d ∉ looks ops o' ∧ o'.dst ≠ some d
  d2 : ∀ d, o'.dst = some d → d ∉ looks ops o ∧ o.dst ≠ some d
  s1 : ∀ i ∈ doms x, i ∉ doms x' ∧ i ∉ (effOf x').log
  s2 : ∀ i ∈ doms x', i ∉ doms x ∧ i ∉ (effOf x).log
  f1 : ∀ i ∈ (effOf x).fresh, i ∉ (effOf x').fresh
  f2 : ∀ i ∈ (effOf x').fresh, i ∉ (effOf x).fresh

theorem apartB_spec {ops : Array Oper} {o o' : Oper} {x x' : Option Eff} (h : apartB ops o o' x x' = true) : Apart ops o o' x x' := by
  unfold apartB at h
  simp only [Bool.and_eq_true, List.all_eq_true, Bool.not_eq_true', List.contains_eq_mem, decide_eq_false_iff_not] at h
  obtain ⟨⟨⟨⟨h1, h2⟩, h3⟩, h4⟩, h5⟩ := h
  have e1 : ∀ d, o.dst = some d → d ∉ looks ops o' ∧ o'.dst ≠ some d := fun d hd => by
    rw [hd] at h1
    simpa using h1
  refine ⟨e1, fun d hd => ⟨by rw [hd] at h2; simpa using h2, fun e => (e1 d e).2 hd⟩, h3, fun i hi => ⟨fun hh => (h3 i hh).1 hi, h4 i hi⟩, h5, fun i hi hh => h5 i hh hi⟩

theorem Apart.symm {ops : Array Oper} {o o' : Oper} {x x' : Option Eff} (h : Apart ops o o' x x') : Apart ops o' o x' x := ⟨h.d2, h.d1, h.s2, h.s1, h.f2, h.f1⟩

theorem app_get (s : AS) (d : Option Nat) (e : Eff) (t : Nat) : (s.app d e).get t = if d = some t then e.val else s.get t := by
  cases d with
  | none => simp [AS.app, putD, AS.get]
  | some d => simp only [AS.app, putD, AS.get, look_cons, Option.some.injEq]

theorem lookO_append (l m : List (Nat × Option Obj)) (i : Nat) : lookO (l ++ m) i = if i ∈ l.map (·.1) then lookO l i else lookO m i := by
  induction l with
  | nil => simp
  | cons p l ih =>
    obtain ⟨j, v⟩ := p
    simp only [List.cons_append, lookO_cons, List.map_cons, List.mem_cons]
    by_cases h : j = i
    · simp [h]
    · rw [if_neg h, if_neg h, ih]
      have : (i = j ∨ i ∈ l.map (·.1)) ↔ i ∈ l.map (·.1) := ⟨fun hh => hh.resolve_left (fun e => h e.symm), .inr⟩
      simp only [this]

theorem app_obj (s : AS) (d : Option Nat) (e : Eff) (i : Nat) : (s.app d e).obj i = if i ∈ e.sets.map (·.1) then lookO e.sets i else s.obj i := lookO_append _ _ _

theorem app_used (s : AS) (d : Option Nat) (e : Eff) (i : Nat) : i ∈ (s.app d e).used ↔ i ∈ e.fresh ∨ i ∈ s.used := by
  simp [AS.app]

theorem Same.app (h : Same s s') (d : Option Nat) (e : Eff) : Same (s.app d e) (s'.app d e) where
  n := h.n
  get := fun k => by rw [app_get, app_get, h.get]
  obj := fun i => by rw [app_obj, app_obj, h.obj]
  used := fun i => by rw [app_used, app_used, h.used]

/-- Two steps that are apart may be told in either order. -/
theorem Same.comm {ops : Array Oper} {o o' : Oper} {x x' : Option Eff} (h : Apart ops o o' x x') (s : AS) :
    Same ((s.app o.dst (effOf x)).app o'.dst (effOf x')) ((s.app o'.dst (effOf x')).app o.dst (effOf x)) where
  n := rfl
  get := fun k => by
    simp only [app_get]
    by_cases h1 : o'.dst = some k
    · rw [if_pos h1, if_neg (h.d2 k h1).2, if_pos h1]
    · simp [h1]
  obj := fun i => by
    simp only [app_obj]
    by_cases h1 : i ∈ (effOf x').sets.map (·.1)
    · have h2 : ¬ i ∈ (effOf x).sets.map (·.1) := (h.s2 i h1).1
      rw [if_pos h1, if_neg h2, if_pos h1]
    · simp [h1]
  used := fun i => by
    simp only [app_used]
    constructor <;> (intro hh; rcases hh with hh | hh | hh <;> simp [hh])

/-- The steps that f lets by, told in the text's order. -/
def foldS : List (Oper × Option Eff) → (Nat → Bool) → Nat → AS → AS
  | [], _, _, s => s
  | (o, x) :: r, f, k, s => foldS r f (k + 1) (if f k then s.app o.dst (effOf x) else s)

theorem foldS_same {l : List (Oper × Option Eff)} : ∀ {f : Nat → Bool} {k : Nat} {s s' : AS}, Same s s' → Same (foldS l f k s) (foldS l f k s') := by
  induction l with
  | nil => intro f k s s' h; exact h
  | cons p r ih =>
    obtain ⟨o, x⟩ := p
    intro f k s s' h
    simp only [foldS]
    split
    · exact ih (h.app _ _)
    · exact ih h

theorem foldS_append (l m : List (Oper × Option Eff)) : ∀ (f : Nat → Bool) (k : Nat) (s : AS), foldS (l ++ m) f k s = foldS m f (k + l.length) (foldS l f k s) := by
  induction l with
  | nil => intro f k s; rfl
  | cons p r ih =>
    obtain ⟨o, x⟩ := p
    intro f k s
    simp only [List.cons_append, foldS, ih, List.length_cons]
    congr 1
    omega

theorem foldS_congr {l : List (Oper × Option Eff)} : ∀ {f g : Nat → Bool} {k : Nat} {s : AS}, (∀ j, k ≤ j → j < k + l.length → f j = g j) → foldS l f k s = foldS l g k s := by
  induction l with
  | nil => intro f g k s _; rfl
  | cons p r ih =>
    obtain ⟨o, x⟩ := p
    intro f g k s h
    simp only [foldS]
    rw [h k (Nat.le_refl _) (by simp), ih (f := f) (g := g) (fun j h1 h2 => h j (by omega) (by simp at *; omega))]

/-- A step that is apart from all that follows may be told last. -/
theorem foldS_comm {ops : Array Oper} {o : Oper} {x : Option Eff} : ∀ {l : List (Oper × Option Eff)} {f : Nat → Bool} {k : Nat} {s : AS},
    (∀ j o' x', l[j]? = some (o', x') → f (k + j) = true → Apart ops o o' x x') → Same (foldS l f k (s.app o.dst (effOf x))) ((foldS l f k s).app o.dst (effOf x)) := by
  intro l
  induction l with
  | nil => intro f k s _; exact Same.refl _
  | cons p r ih =>
    obtain ⟨o', x'⟩ := p
    intro f k s h
    have h' : ∀ j o' x', r[j]? = some (o', x') → f (k + 1 + j) = true → Apart ops o o' x x' := fun j o' x' hj hf =>
      h (j + 1) o' x' (by simpa using hj) (by rw [show k + (j + 1) = k + 1 + j by omega]; exact hf)
    simp only [foldS]
    split
    · rename_i hk
      refine Same.trans (foldS_same ?_) (ih h')
      exact Same.comm (h 0 o' x' (by simp) (by simpa using hk)) s
    · exact ih h'

/-- What the steps that are told in one list and not in the other do not touch. -/
theorem foldS_look {l : List (Oper × Option Eff)} : ∀ {f g : Nat → Bool} {k : Nat} {s s' : AS} (t : Nat),
    (∀ j o x, l[j]? = some (o, x) → f (k + j) ≠ g (k + j) → o.dst ≠ some t) → s.get t = s'.get t → (foldS l f k s).get t = (foldS l g k s').get t := by
  induction l with
  | nil => intro f g k s s' t _ h; exact h
  | cons p r ih =>
    obtain ⟨o, x⟩ := p
    intro f g k s s' t h hs
    simp only [foldS]
    refine ih t (fun j o' x' hj hne => h (j + 1) o' x' (by simpa using hj) (by rw [show k + (j + 1) = k + 1 + j by omega]; exact hne)) ?_
    have h0 := h 0 o x (by simp)
    rw [Nat.add_zero] at h0
    cases hf : f k <;> cases hg : g k <;> simp only [if_true, if_false, Bool.false_eq_true, app_get]
    · exact hs
    · rw [if_neg (h0 (by simp [hf, hg]))]; exact hs
    · rw [if_neg (h0 (by simp [hf, hg]))]; exact hs
    · rw [hs]

theorem foldS_obj {l : List (Oper × Option Eff)} : ∀ {f g : Nat → Bool} {k : Nat} {s s' : AS} (i : Nat),
    (∀ j o x, l[j]? = some (o, x) → f (k + j) ≠ g (k + j) → i ∉ doms x) → s.obj i = s'.obj i → (foldS l f k s).obj i = (foldS l g k s').obj i := by
  induction l with
  | nil => intro f g k s s' t _ h; exact h
  | cons p r ih =>
    obtain ⟨o, x⟩ := p
    intro f g k s s' t h hs
    simp only [foldS]
    refine ih t (fun j o' x' hj hne => h (j + 1) o' x' (by simpa using hj) (by rw [show k + (j + 1) = k + 1 + j by omega]; exact hne)) ?_
    have h0 : f k ≠ g k → ¬ t ∈ (effOf x).sets.map (·.1) := fun hne => h 0 o x (by simp) (by simpa using hne)
    cases hf : f k <;> cases hg : g k <;> simp only [if_true, if_false, Bool.false_eq_true, app_obj]
    · exact hs
    · rw [if_neg (h0 (by simp [hf, hg]))]; exact hs
    · rw [if_neg (h0 (by simp [hf, hg]))]; exact hs
    · rw [hs]

theorem foldS_used {l : List (Oper × Option Eff)} : ∀ {f g : Nat → Bool} {k : Nat} {s s' : AS} (i : Nat),
    (∀ j o x, l[j]? = some (o, x) → f (k + j) ≠ g (k + j) → i ∉ (effOf x).fresh) → (i ∈ s.used ↔ i ∈ s'.used) → (i ∈ (foldS l f k s).used ↔ i ∈ (foldS l g k s').used) := by
  induction l with
  | nil => intro f g k s s' t _ h; exact h
  | cons p r ih =>
    obtain ⟨o, x⟩ := p
    intro f g k s s' t h hs
    simp only [foldS]
    refine ih t (fun j o' x' hj hne => h (j + 1) o' x' (by simpa using hj) (by rw [show k + (j + 1) = k + 1 + j by omega]; exact hne)) ?_
    have h0 := h 0 o x (by simp)
    rw [Nat.add_zero] at h0
    cases hf : f k <;> cases hg : g k <;> simp only [if_true, if_false, Bool.false_eq_true, app_used]
    · exact hs
    · have := h0 (by simp [hf, hg]); rw [hs]; constructor
      · exact .inr
      · rintro (hh | hh); exact (this hh).elim; exact hh
    · have := h0 (by simp [hf, hg]); rw [← hs]; constructor
      · rintro (hh | hh); exact (this hh).elim; exact hh
      · exact .inr
    · rw [hs]

theorem foldS_n {l : List (Oper × Option Eff)} : ∀ {f : Nat → Bool} {k : Nat} {s : AS}, (foldS l f k s).n = s.n := by
  induction l with
  | nil => intros; rfl
  | cons p r ih => obtain ⟨o, x⟩ := p; intro f k s; simp only [foldS]; rw [ih]; split <;> rfl

/-! ### Who waits for whom -/

/-- masks: for each operation (in order) the bits of those that it waits for, through others too. -/
def maskOk (ops : Array Oper) (M : List Nat) : Bool :=
  (List.range ops.size).all fun j =>
    match ops[j]? with
    | none => true
    | some o => o.after.toList.all (fun e => !Region.binds .any e || decide (e.on < j)) &&
      (List.range ops.size).all fun i => !(M.getD j 0).testBit i || o.after.toList.any (fun e => Region.binds .any e && (e.on == i || (M.getD e.on 0).testBit i))

def Closed (ops : Array Oper) (f : Nat → Bool) : Prop := ∀ j o, ops[j]? = some o → f j = true → ∀ e ∈ o.after, Region.binds .any e = true → f e.on = true

theorem maskOk_edge {ops : Array Oper} {M : List Nat} (h : maskOk ops M = true) {j : Nat} {o : Oper} (ho : ops[j]? = some o) : ∀ e ∈ o.after, Region.binds .any e = true → e.on < j := by
  unfold maskOk at h
  rw [List.all_eq_true] at h
  have h1 := h j (List.mem_range.2 (Array.getElem?_eq_some_iff.1 ho).1)
  simp only [ho, Bool.and_eq_true, List.all_eq_true] at h1
  intro e he hb
  have h2 := h1.1 e (Array.mem_toList_iff.2 he)
  rw [hb] at h2
  simpa using h2

theorem maskOk_bit {ops : Array Oper} {M : List Nat} (h : maskOk ops M = true) {j : Nat} {o : Oper} (ho : ops[j]? = some o) {i : Nat} (hi : i < ops.size) (hb : (M.getD j 0).testBit i = true) :
    ∃ e ∈ o.after, Region.binds .any e = true ∧ (e.on = i ∨ (M.getD e.on 0).testBit i = true) := by
  unfold maskOk at h
  rw [List.all_eq_true] at h
  have h1 := h j (List.mem_range.2 (Array.getElem?_eq_some_iff.1 ho).1)
  simp only [ho, Bool.and_eq_true, List.all_eq_true] at h1
  have h2 := h1.2 i (List.mem_range.2 hi)
  rw [hb] at h2
  simp only [Bool.not_true, Bool.false_or, List.any_eq_true, Bool.and_eq_true, Bool.or_eq_true, beq_iff_eq] at h2
  obtain ⟨e, he, hbe, hor⟩ := h2
  exact ⟨e, Array.mem_toList_iff.1 he, hbe, hor⟩

theorem closed_anc {ops : Array Oper} {M : List Nat} (h : maskOk ops M = true) {f : Nat → Bool} (hc : Closed ops f) : ∀ (j : Nat) (o : Oper) (i : Nat), ops[j]? = some o → i < ops.size → (M.getD j 0).testBit i = true →
    (∀ e ∈ o.after, Region.binds .any e = true → f e.on = true) → f i = true := by
  intro j
  induction j using Nat.strongRecOn with
  | _ j ih =>
    intro o i ho hi hb hall
    obtain ⟨e, he, hbe, hor⟩ := maskOk_bit h ho hi hb
    have hf := hall e he hbe
    rcases hor with rfl | hbit
    · exact hf
    · have hlt := maskOk_edge h ho e he hbe
      have hjs := (Array.getElem?_eq_some_iff.1 ho).1
      have ho' : ops[e.on]? = some ops[e.on] := Array.getElem?_eq_getElem (by omega)
      exact ih e.on hlt _ i ho' hi hbit (fun e' he' hb' => hc e.on _ ho' hf e' he' hb')

def zipE (l : List Oper) (xs : List (Option Eff)) : List (Oper × Option Eff) := l.zip xs

def traceOk (ops : Array Oper) (M : List Nat) (lx : List (Oper × Option Eff)) : Bool :=
  maskOk ops M && (List.range lx.length).all fun j => (List.range j).all fun i =>
    (M.getD j 0).testBit i ||
    match lx[i]?, lx[j]? with
    | some (o, x), some (o', x') => apartB ops o o' x x'
    | _, _ => true

theorem traceOk_apart {ops : Array Oper} {M : List Nat} {lx : List (Oper × Option Eff)} (h : traceOk ops M lx = true) {i j : Nat} {o o' : Oper} {x x' : Option Eff} (hij : i < j)
    (hi : lx[i]? = some (o, x)) (hj : lx[j]? = some (o', x')) : (M.getD j 0).testBit i = true ∨ Apart ops o o' x x' := by
  unfold traceOk at h
  simp only [Bool.and_eq_true, List.all_eq_true] at h
  have h1 := h.2 j (List.mem_range.2 (List.getElem?_eq_some_iff.1 hj).1) i (List.mem_range.2 hij)
  simp only [hi, hj, Bool.or_eq_true] at h1
  exact h1.imp id apartB_spec

theorem cert_len {ops : Array Oper} : ∀ {l : List Oper} {s t : AS} {xs : List (Option Eff)}, Cert P ops l s xs t → xs.length = l.length
  | [], _, _, [], _ => rfl
  | _ :: _, _, _, _ :: _, ⟨_, h⟩ => by simp [cert_len h]
  | [], _, _, _ :: _, h => h.elim
  | _ :: _, _, _, [], h => h.elim

theorem cert_end {ops : Array Oper} : ∀ {l : List Oper} {s t : AS} {xs : List (Option Eff)} {k : Nat}, Cert P ops l s xs t → foldS (zipE l xs) (fun _ => true) k s = t
  | [], _, _, [], _, h => h
  | o :: l, s, t, x :: xs, k, ⟨_, h⟩ => by
    show foldS (zipE l xs) _ (k + 1) (if true = true then _ else _) = t
    rw [if_pos rfl]
    exact cert_end h
  | [], _, _, _ :: _, _, h => h.elim
  | _ :: _, _, _, [], _, h => h.elim

theorem cert_step {ops : Array Oper} : ∀ {l : List Oper} {s t : AS} {xs : List (Option Eff)} {k : Nat}, Cert P ops l s xs t → ∀ (i : Nat) (o : Oper) (x : Option Eff), (zipE l xs)[i]? = some (o, x) →
    StepC P ops o (foldS ((zipE l xs).take i) (fun _ => true) k s) x
  | [], _, _, [], _, _, i, o, x, h => by simp [zipE] at h
  | o' :: l, s, t, x' :: xs, k, ⟨h1, h2⟩, 0, o, x, h => by
    simp [zipE] at h
    obtain ⟨rfl, rfl⟩ := h
    simpa [zipE, foldS] using h1
  | o' :: l, s, t, x' :: xs, k, ⟨h1, h2⟩, i + 1, o, x, h => by
    have := cert_step (k := k + 1) h2 i o x (by simpa [zipE] using h)
    simpa [zipE, foldS] using this
  | [], _, _, _ :: _, _, h, _, _, _, _ => h.elim
  | _ :: _, _, _, [], _, h, _, _, _, _ => h.elim

def unl (n : Nat) (f : Nat → Bool) : Nat := ((List.range n).filter fun i => !f i).length

theorem unl_set {n i : Nat} {f g : Nat → Bool} (hi : i < n) (hf : f i = false) (hg : ∀ j, g j = (f j || j == i)) : unl n g < unl n f := by
  unfold unl
  have key : ∀ l : List Nat, (l.filter fun j => !g j).length ≤ (l.filter fun j => !f j).length ∧ (i ∈ l → (l.filter fun j => !g j).length < (l.filter fun j => !f j).length) := by
    intro l
    induction l with
    | nil => exact ⟨Nat.le_refl _, fun h => by simp at h⟩
    | cons x l ih =>
      by_cases hx : x = i
      · subst hx
        have h1 : g x = true := by rw [hg]; simp
        simp only [List.filter_cons, hf, h1, Bool.not_false, Bool.not_true, if_true, Bool.false_eq_true, if_false, List.length_cons]
        exact ⟨by have := ih.1; omega, fun _ => by have := ih.1; omega⟩
      · have h1 : g x = f x := by rw [hg]; simp [hx]
        simp only [List.filter_cons, h1]
        split
        · simp only [List.length_cons]
          exact ⟨by have := ih.1; omega, fun hm => by
            have := ih.2 (by simpa [Ne.symm hx] using hm)
            omega⟩
        · exact ⟨ih.1, fun hm => ih.2 (by simpa [Ne.symm hx] using hm)⟩
  exact (key _).2 (List.mem_range.2 hi)

theorem getD_set {listed : Array Bool} {i : Nat} (hi : i < listed.size) (j : Nat) : (listed.setIfInBounds i true).getD j false = (listed.getD j false || j == i) := by
  simp only [Array.getD_eq_getD_getElem?, Array.getElem?_setIfInBounds]
  by_cases h : i = j
  · subst h; simp [hi]
  · simp [h, Ne.symm h]

theorem cert_any {ops : Array Oper} {Q : Exit → Act → World → Prop} {M : List Nat} {s0 t : AS} {xs : List (Option Eff)} (hc : Cert P ops ops.toList s0 xs t) (ht : traceOk ops M (zipE ops.toList xs) = true)
    (hQ : ∀ β' a' w', Rel N0 W0 t β' a' w' → Q .normal a' w') : ∀ (fuel : Nat) (listed : Array Bool) (β : Plc) (a : Act) (w : World), listed.size = ops.size → Closed ops (fun i => listed.getD i false) →
    unl ops.size (fun i => listed.getD i false) ≤ fuel → Rel N0 W0 (foldS (zipE ops.toList xs) (fun i => listed.getD i false) 0 s0) β a w → wpAny P .any ops Q fuel listed a w := by
  have hlen := cert_len hc
  have hzl : (zipE ops.toList xs).length = ops.size := by simp [zipE, hlen]
  have hmask : maskOk ops M = true := by unfold traceOk at ht; simp only [Bool.and_eq_true] at ht; exact ht.1
  have hzip : ∀ (i : Nat) (o : Oper), ops[i]? = some o → ∃ x, (zipE ops.toList xs)[i]? = some (o, x) := by
    intro i o ho
    have hi := (Array.getElem?_eq_some_iff.1 ho).1
    have h1 : i < xs.length := by rw [hlen]; simpa using hi
    refine ⟨xs[i], ?_⟩
    unfold zipE
    rw [List.getElem?_zip_eq_some]
    exact ⟨by simpa using ho, List.getElem?_eq_getElem h1⟩
  have hzop : ∀ (i : Nat) (o : Oper) (x : Option Eff), (zipE ops.toList xs)[i]? = some (o, x) → ops[i]? = some o := by
    intro i o x h
    unfold zipE at h
    rw [List.getElem?_zip_eq_some] at h
    simpa using h.1
  -- nothing is ready: all is told
  have hend : ∀ (listed : Array Bool) (β : Plc) (a : Act) (w : World), listed.size = ops.size → Region.ready .any ops listed = [] → Rel N0 W0 (foldS (zipE ops.toList xs) (fun i => listed.getD i false) 0 s0) β a w → Q .normal a w := by
    intro listed β a w hsz hr r
    have hall : ∀ j, j < ops.size → listed.getD j false = true := by
      intro j
      induction j using Nat.strongRecOn with
      | _ j ih =>
        intro hj
        cases hl : listed.getD j false with
        | true => rfl
        | false =>
          exfalso
          have ho : ops[j]? = some ops[j] := Array.getElem?_eq_getElem hj
          have : j ∈ Region.ready .any ops listed := mem_ready.2 ⟨by
            rw [Array.getD_eq_getD_getElem?, Array.getElem?_eq_getElem (by omega)] at hl ⊢; simpa using hl, ops[j], ho, fun e he hb => by
            have hlt := maskOk_edge hmask ho e he hb
            exact ih e.on hlt (by omega)⟩
          rw [hr] at this
          cases this
    rw [foldS_congr (g := fun _ => true) (fun j _ hj => hall j (by rw [hzl] at hj; omega)), cert_end hc] at r
    exact hQ β a w r
  intro fuel
  induction fuel with
  | zero =>
    intro listed β a w hsz hcl hu r
    have hr : Region.ready .any ops listed = [] := by
      cases hr : Region.ready .any ops listed with
      | nil => rfl
      | cons j js =>
        exfalso
        have hj : j ∈ Region.ready .any ops listed := by rw [hr]; simp
        obtain ⟨h0, o, ho, _⟩ := mem_ready.1 hj
        have hjs := (Array.getElem?_eq_some_iff.1 ho).1
        have hmem : j ∈ (List.range ops.size).filter (fun i => !listed.getD i false) := by
          rw [List.mem_filter]
          refine ⟨List.mem_range.2 hjs, ?_⟩
          rw [Array.getD_eq_getD_getElem?, Array.getElem?_eq_getElem (by omega)] at h0 ⊢
          simpa using h0
        have := List.length_pos_of_mem hmem
        have hu2 : ((List.range ops.size).filter fun i => !listed.getD i false).length ≤ 0 := hu
        omega
    exact ⟨hr, hend listed β a w hsz hr r⟩
  | succ fuel ih =>
    intro listed β a w hsz hcl hu r
    refine ⟨fun hr => hend listed β a w hsz hr r, fun i hi => ?_⟩
    obtain ⟨h0, o, ho, hpre⟩ := mem_ready.1 hi
    have his := (Array.getElem?_eq_some_iff.1 ho).1
    have hfi : listed.getD i false = false := by
      rw [Array.getD_eq_getD_getElem?, Array.getElem?_eq_getElem (by omega)] at h0 ⊢
      simpa using h0
    obtain ⟨x, hx⟩ := hzip i o ho
    have hst := cert_step (k := 0) hc i o x hx
    let f : Nat → Bool := fun i => listed.getD i false
    let lx := zipE ops.toList xs
    have hil : i < lx.length := (List.getElem?_eq_some_iff.1 hx).1
    -- whoever has been told and stands behind, whoever has not and stands ahead, is apart
    have hbehind : ∀ (j : Nat) (o' : Oper) (x' : Option Eff), lx[j]? = some (o', x') → i < j → f j = true → Apart ops o o' x x' := by
      intro j o' x' hj hij hfj
      rcases traceOk_apart ht hij hx hj with hb | hap
      · have := closed_anc hmask hcl j o' i (hzop _ _ _ hj) his hb (fun e he hbe => hcl j o' (hzop _ _ _ hj) hfj e he hbe)
        rw [hfi] at this; cases this
      · exact hap
    have hahead : ∀ (j : Nat) (o' : Oper) (x' : Option Eff), lx[j]? = some (o', x') → j < i → f j = false → Apart ops o' o x' x := by
      intro j o' x' hj hij hfj
      rcases traceOk_apart ht hij hj hx with hb | hap
      · have := closed_anc hmask hcl i o j ho (by omega) hb hpre
        have hfj' : listed.getD j false = false := hfj
        rw [hfj'] at this; cases this
      · exact hap
    have hsplit : lx = lx.take i ++ (o, x) :: lx.drop (i + 1) := by
      have h1 : lx[i] = (o, x) := by have := hx; rw [List.getElem?_eq_getElem hil] at this; simpa using this
      have h2 := List.drop_eq_getElem_cons hil
      rw [h1] at h2
      rw [← h2, List.take_append_drop]
    have hS : foldS lx f 0 s0 = foldS (lx.drop (i + 1)) f (i + 1) (foldS (lx.take i) f 0 s0) := by
      conv => lhs; rw [hsplit]
      rw [foldS_append]
      simp only [foldS]
      have : f (0 + (lx.take i).length) = false := by
        have : (lx.take i).length = i := by simp; omega
        rw [this, Nat.zero_add]; exact hfi
      rw [this]
      simp only [Bool.false_eq_true, if_false]
      congr 1
      simp; omega
    have hS' : foldS lx (fun j => f j || j == i) 0 s0 = foldS (lx.drop (i + 1)) f (i + 1) ((foldS (lx.take i) f 0 s0).app o.dst (effOf x)) := by
      conv => lhs; rw [hsplit]
      rw [foldS_append]
      have hl : (lx.take i).length = i := by simp; omega
      simp only [foldS]
      rw [hl, Nat.zero_add]
      simp only [beq_self_eq_true, Bool.or_true, if_true]
      rw [foldS_congr (l := lx.take i) (g := f) (fun j _ hj => by
        rw [hl] at hj
        have : (j == i) = false := by simp; omega
        simp [this])]
      exact foldS_congr (fun j hj _ => by
        have : (j == i) = false := by simp; omega
        simp [this])
    -- the state here and the text's state agree on what the operation looks at
    have hget : ∀ t ∈ looks ops o, (foldS lx f 0 s0).get t = (foldS (lx.take i) (fun _ => true) 0 s0).get t := by
      intro t ht'
      rw [hS]
      have e1 : (foldS (lx.drop (i + 1)) f (i + 1) (foldS (lx.take i) f 0 s0)).get t = (foldS (lx.drop (i + 1)) (fun _ => false) (i + 1) (foldS (lx.take i) (fun _ => true) 0 s0)).get t := by
        refine foldS_look t (fun j o' x' hj hne hd => ?_) (foldS_look t (fun j o' x' hj hne hd => ?_) rfl)
        · have hj' : lx[i + 1 + j]? = some (o', x') := by rw [List.getElem?_drop] at hj; exact hj
          have hf : f (i + 1 + j) = true := by simpa using hne
          exact ((hbehind _ _ _ hj' (by omega) hf).d2 t hd).1 ht'
        · have hji : j < i := by
            have := (List.getElem?_eq_some_iff.1 hj).1
            simp at this; omega
          have hj' : lx[j]? = some (o', x') := by rw [List.getElem?_take, if_pos hji] at hj; exact hj
          have hf : f j = false := by simpa using hne
          exact ((hahead _ _ _ hj' hji hf).d1 t hd).1 ht'
      rw [e1]
      clear e1
      have : ∀ (l : List (Oper × Option Eff)) (k : Nat) (s : AS), foldS l (fun _ => false) k s = s := by
        intro l
        induction l with
        | nil => intros; rfl
        | cons p r ih => obtain ⟨o, x⟩ := p; intro k s; simp only [foldS, Bool.false_eq_true, if_false]; exact ih _ _
      rw [this]
    have hobj : ∀ id ∈ (effOf x).log, (foldS lx f 0 s0).obj id = (foldS (lx.take i) (fun _ => true) 0 s0).obj id := by
      intro id hid
      rw [hS]
      have e1 : (foldS (lx.drop (i + 1)) f (i + 1) (foldS (lx.take i) f 0 s0)).obj id = (foldS (lx.drop (i + 1)) (fun _ => false) (i + 1) (foldS (lx.take i) (fun _ => true) 0 s0)).obj id := by
        refine foldS_obj id (fun j o' x' hj hne hd => ?_) (foldS_obj id (fun j o' x' hj hne hd => ?_) rfl)
        · have hj' : lx[i + 1 + j]? = some (o', x') := by rw [List.getElem?_drop] at hj; exact hj
          have hf : f (i + 1 + j) = true := by simpa using hne
          exact ((hbehind _ _ _ hj' (by omega) hf).s2 id hd).2 hid
        · have hji : j < i := by
            have := (List.getElem?_eq_some_iff.1 hj).1
            simp at this; omega
          have hj' : lx[j]? = some (o', x') := by rw [List.getElem?_take, if_pos hji] at hj; exact hj
          have hf : f j = false := by simpa using hne
          exact ((hahead _ _ _ hj' hji hf).s1 id hd).2 hid
      rw [e1]
      have : ∀ (l : List (Oper × Option Eff)) (k : Nat) (s : AS), foldS l (fun _ => false) k s = s := by
        intro l
        induction l with
        | nil => intros; rfl
        | cons p r ih => obtain ⟨o, x⟩ := p; intro k s; simp only [foldS, Bool.false_eq_true, if_false]; exact ih _ _
      rw [this]
    have hused : ∀ id ∈ (effOf x).fresh, (id ∈ (foldS lx f 0 s0).used ↔ id ∈ (foldS (lx.take i) (fun _ => true) 0 s0).used) := by
      intro id hid
      rw [hS]
      have e1 : (id ∈ (foldS (lx.drop (i + 1)) f (i + 1) (foldS (lx.take i) f 0 s0)).used) ↔ (id ∈ (foldS (lx.drop (i + 1)) (fun _ => false) (i + 1) (foldS (lx.take i) (fun _ => true) 0 s0)).used) := by
        refine foldS_used id (fun j o' x' hj hne hd => ?_) (foldS_used id (fun j o' x' hj hne hd => ?_) Iff.rfl)
        · have hj' : lx[i + 1 + j]? = some (o', x') := by rw [List.getElem?_drop] at hj; exact hj
          have hf : f (i + 1 + j) = true := by simpa using hne
          exact (hbehind _ _ _ hj' (by omega) hf).f2 id hd hid
        · have hji : j < i := by
            have := (List.getElem?_eq_some_iff.1 hj).1
            simp at this; omega
          have hj' : lx[j]? = some (o', x') := by rw [List.getElem?_take, if_pos hji] at hj; exact hj
          have hf : f j = false := by simpa using hne
          exact (hahead _ _ _ hj' hji hf).f1 id hd hid
      rw [e1]
      have : ∀ (l : List (Oper × Option Eff)) (k : Nat) (s : AS), foldS l (fun _ => false) k s = s := by
        intro l
        induction l with
        | nil => intros; rfl
        | cons p r ih => obtain ⟨o, x⟩ := p; intro k s; simp only [foldS, Bool.false_eq_true, if_false]; exact ih _ _
      rw [this]
    have hn : (foldS lx f 0 s0).n = (foldS (lx.take i) (fun _ => true) 0 s0).n := by rw [foldS_n, foldS_n]
    have hguard : ∀ j want, o.guard = some (j, want) → guardAV ops (foldS lx f 0 s0) j = guardAV ops (foldS (lx.take i) (fun _ => true) 0 s0) j := by
      intro j want hg
      unfold guardAV
      cases hd : (ops[j]?).bind (·.dst) with
      | none => rfl
      | some d => exact hget d (by unfold looks; rw [hg]; simp [hd])
    have hsays : ∀ b, Says ops (foldS (lx.take i) (fun _ => true) 0 s0) o b → Says ops (foldS lx f 0 s0) o b := by
      intro b hb
      cases hb with
      | plain h => exact .plain h
      | yes j want h hg => exact .yes j want h (by rw [hguard j want h]; exact hg)
      | no j want b h hg hb => exact .no j want b h (by rw [hguard j want h]; exact hg) hb
      | out j want h hg => exact .out j want h (by rw [hguard j want h]; exact hg)
    have hstep : StepC P ops o (foldS lx f 0 s0) x := by
      cases x with
      | none => exact ⟨hsays _ hst.1, by rw [hn]; exact hst.2⟩
      | some e =>
        obtain ⟨h1, h2, h3⟩ := hst
        refine ⟨hsays _ h1, ?_, fun id hid => fun hh => h3 id hid ((hused id hid).1 hh)⟩
        intro s' hs1 hs2 hs3 hs4
        exact h2 s' (hs1.trans hn) (fun t ht' => (hs2 t ht').trans (hget t (List.mem_append_left _ ht'))) (fun id hid => (hs3 id hid).trans (hobj id hid)) hs4
    unfold wpOp
    simp only [ho]
    have hk := stepC_ok hstep r (wpAny P .any ops Q fuel (listed.setIfInBounds i true)) Q ?_
    · split
      · rename_i hw; rw [if_pos hw] at hk; exact .inl hk
      · rename_i hw; rw [if_neg hw] at hk; exact hk
    · intro β' a' w' r'
      have hgs : ∀ j, (listed.setIfInBounds i true).getD j false = (f j || j == i) := fun j => getD_set (by omega) j
      refine ih (listed.setIfInBounds i true) β' a' w' (by simpa using hsz) ?_ ?_ ?_
      · intro j o' ho' hj e he hb
        show (listed.setIfInBounds i true).getD e.on false = true
        have hj' : (listed.setIfInBounds i true).getD j false = true := hj
        rw [hgs] at hj' ⊢
        by_cases hji : j = i
        · subst hji
          rw [ho] at ho'; cases ho'
          have : f e.on = true := hpre e he hb
          simp [this]
        · have hfj : f j = true := by simpa [hji] using hj'
          have : f e.on = true := hcl j o' ho' hfj e he hb
          simp [this]
      · have hlt := unl_set (n := ops.size) (i := i) (f := f) (g := fun j => (listed.setIfInBounds i true).getD j false) his hfi hgs
        have hu' : unl ops.size f ≤ fuel + 1 := hu
        omega
      · have heq : (fun j => (listed.setIfInBounds i true).getD j false) = fun j => (f j || j == i) := funext hgs
        rw [heq, hS']
        refine Rel.same ?_ r'
        have hcomm := foldS_comm (ops := ops) (o := o) (x := x) (l := lx.drop (i + 1)) (f := f) (k := i + 1) (s := foldS (lx.take i) f 0 s0) (fun j o' x' hj hf => by
          have hj' : lx[i + 1 + j]? = some (o', x') := by rw [List.getElem?_drop] at hj; exact hj
          exact hbehind _ _ _ hj' (by omega) hf)
        show Same ((foldS lx f 0 s0).app o.dst (effOf x)) _
        rw [hS]
        exact hcomm.symm

end
end Go.Eng
