/- The engine, part 2: how the relation is carried over a step. -/
import Derived.Test.YtoanlehkkideiaaE1
set_option linter.unusedVariables false
namespace Go.Eng
open Go Go.RowKit

theorem look_cons (j : Nat) (v : AV) (r : List (Nat × AV)) (k : Nat) : look ((j, v) :: r) k = if j = k then v else look r k := rfl
theorem lookO_cons (j : Nat) (v : Option Obj) (r : List (Nat × Option Obj)) (k : Nat) : lookO ((j, v) :: r) k = if j = k then v else lookO r k := rfl

variable {N0 : Nat} {W0 : World} {s s' : AS} {β β' : Plc} {a : Act} {w w' : World}

theorem Act.put_get (a : Act) (d : Nat) (v : Value) (hd : d < a.tmps.size) (k : Nat) : (a.put (some d) v).tmps.getD k undef = if d = k then v else a.tmps.getD k undef := by
  simp only [Act.put, Array.getD_eq_getD_getElem?, Array.getElem?_setIfInBounds]
  split
  · simp
  · rfl

theorem Rel.put (r : Rel N0 W0 s β a w) {d : Nat} {av : AV} {v : Value} (hd : d < s.n) (h : AR N0 β (Free s β w) w av v) : Rel N0 W0 (s.put d av) β (a.put (some d) v) w where
  below := r.below
  size0 := r.size0
  size := by simp [Act.put, AS.put, r.size]
  defers := r.defers
  env := fun k => by
    rw [Act.put_get a d v (by rw [r.size]; exact hd)]
    show AR N0 β (Free s β w) w (look ((d, av) :: s.env) k) _
    rw [look_cons]
    split
    · exact h
    · exact r.env k
  dom := r.dom
  hdom := r.hdom
  obj := r.obj
  disj := r.disj

theorem Rel.master (r : Rel N0 W0 s β a w)
    (hn : s'.n = s.n) (henv : s'.env = s.env) (hbelow : Below N0 W0 w') (hsz : w.heap.size ≤ w'.heap.size)
    (hβ : ∀ id pv vs, β id = some (pv, vs) → ∃ vs', β' id = some (pv, vs'))
    (hdom : ∀ id, id ∉ s'.used → β' id = none ∧ s'.obj id = none)
    (hkeep : ∀ b, b < w.heap.size → ¬ Held s β b → w'.heap[b]? = w.heap[b]? ∧ ¬ Held s' β' b)
    (hold : ∀ id o, s'.obj id = some o →
      (s.obj id = some o ∧ β' id = β id ∧ ∀ pv vs b, β id = some (pv, vs) → blks o.own pv vs b → w'.heap[b]? = w.heap[b]?) ∨
      (∃ pv vs, β' id = some (pv, vs) ∧ ObjAt N0 β' (Free s' β' w') w' pv vs o ∧ ∀ b, blks o.own pv vs b → N0 ≤ b ∧ b < w'.heap.size))
    (hdisj : ∀ id id' o o' pv vs pv' vs' b, s'.obj id = some o → s'.obj id' = some o' → β' id = some (pv, vs) → β' id' = some (pv', vs') → blks o.own pv vs b → blks o'.own pv' vs' b → id = id') :
    Rel N0 W0 s' β' a w' := by
  have hk : Keep (Free s β w) (Free s' β' w') w w' := fun b hb => ⟨⟨Nat.lt_of_lt_of_le hb.1 hsz, (hkeep b hb.1 hb.2).2⟩, (hkeep b hb.1 hb.2).1⟩
  exact {
    below := hbelow
    size0 := Nat.le_trans r.size0 hsz
    size := by rw [hn]; exact r.size
    defers := r.defers
    env := fun k => by
      have := r.env k
      show AR N0 β' _ w' (look s'.env k) _
      rw [henv]
      exact AR.keep hβ hk this
    dom := fun id h => (hdom id h).1
    hdom := fun id h => (hdom id h).2
    obj := fun id o ho => by
      rcases hold id o ho with ⟨h1, h2, h3⟩ | h
      · obtain ⟨pv, vs, hp, hat, hr⟩ := r.obj id o h1
        exact ⟨pv, vs, by rw [h2]; exact hp, hat.keep hβ hk (fun b hb => h3 pv vs b hp hb), fun b hb => ⟨(hr b hb).1, Nat.lt_of_lt_of_le (hr b hb).2 hsz⟩⟩
      · exact h
    disj := hdisj }

/-- The world has grown; nothing that was there has turned. -/
theorem Rel.grow (r : Rel N0 W0 s β a w) (h : Below w.heap.size w w') : Rel N0 W0 s β a w' := by
  have hb : ∀ b, b < w.heap.size → w'.heap[b]? = w.heap[b]? := h.block
  refine r.master (s' := s) (β' := β) rfl rfl (r.below.trans (h.mono r.size0)) h.size (fun id pv vs h => ⟨vs, h⟩) (fun id hi => ⟨r.dom id hi, r.hdom id hi⟩) (fun b hlt hn => ⟨hb b hlt, hn⟩) ?_ r.disj
  intro id o ho
  refine .inl ⟨ho, rfl, fun pv vs b hp hbl => ?_⟩
  obtain ⟨pv', vs', hp', _, hr⟩ := r.obj id o ho
  rw [hp] at hp'
  cases hp'
  exact hb b (hr b hbl).2

/-- An object is let go. -/
theorem Rel.drop (r : Rel N0 W0 s β a w) (id : Nat) : Rel N0 W0 (s.kill id) β a w := by
  have hobj : ∀ id' o, (s.kill id).obj id' = some o → s.obj id' = some o := fun id' o ho => by
    have : (s.kill id).obj id' = if id = id' then none else s.obj id' := rfl
    rw [this] at ho
    split at ho
    · cases ho
    · exact ho
  refine r.master (s' := s.kill id) (β' := β) rfl rfl r.below (Nat.le_refl _) (fun id pv vs h => ⟨vs, h⟩) (fun i hi => ⟨r.dom i hi, ?_⟩) (fun b hlt hn => ⟨rfl, ?_⟩) (fun id' o ho => .inl ⟨hobj _ _ ho, rfl, fun _ _ _ _ _ => rfl⟩) ?_
  · have : (s.kill id).obj i = if id = i then none else s.obj i := rfl
    rw [this]; split
    · rfl
    · exact r.hdom i hi
  · rintro ⟨id', o, pv, vs, ho, hp, hbl⟩
    exact hn ⟨id', o, pv, vs, hobj _ _ ho, hp, hbl⟩
  · intro id1 id2 o1 o2 pv vs pv' vs' b h1 h2
    exact r.disj id1 id2 o1 o2 pv vs pv' vs' b (hobj _ _ h1) (hobj _ _ h2)

def Plc.set (β : Plc) (id : Nat) (x : Value × List Value) : Plc := fun i => if i = id then some x else β i

theorem Rel.fresh_of (r : Rel N0 W0 s β a w) {id : Nat} (h : s.used.contains id = false) : β id = none ∧ s.obj id = none := by
  have h' : id ∉ s.used := by simpa using h
  exact ⟨r.dom _ h', r.hdom _ h'⟩

/-- A new object, in blocks that were not there. -/
theorem Rel.alloc (r : Rel N0 W0 s β a w) (h : Below w.heap.size w w') {id : Nat} (hid : s.used.contains id = false) {o : Obj} {pv : Value} {vs : List Value}
    (hat : ∀ F : Nat → Prop, ∀ β' : Plc, (∀ b, Free s β w b → F b) → (∀ i x, β i = some x → β' i = some x) → ObjAt N0 β' F w' pv vs o) (hbl : ∀ b, blks o.own pv vs b → w.heap.size ≤ b ∧ b < w'.heap.size) :
    Rel N0 W0 (s.new id o) (β.set id (pv, vs)) a w' := by
  have hb : ∀ b, b < w.heap.size → w'.heap[b]? = w.heap[b]? := h.block
  obtain ⟨hβn, hOn⟩ := r.fresh_of hid
  have hset : ∀ i, i ≠ id → β.set id (pv, vs) i = β i := fun i hi => by simp [Plc.set, hi]
  have hsame : β.set id (pv, vs) id = some (pv, vs) := by simp [Plc.set]
  have hobj : ∀ i, (s.new id o).obj i = if id = i then some o else s.obj i := fun _ => rfl
  have hext : ∀ i x, β i = some x → β.set id (pv, vs) i = some x := fun i x hx => by
    by_cases hi : i = id
    · subst hi; rw [hβn] at hx; cases hx
    · rw [hset i hi]; exact hx
  have hheld : ∀ b, b < w.heap.size → ¬ Held s β b → ¬ Held (s.new id o) (β.set id (pv, vs)) b := by
    rintro b hlt hn ⟨i, o', pv', vs', ho', hp', hbl'⟩
    rw [hobj] at ho'
    split at ho'
    · rename_i hi; subst hi; cases ho'
      rw [hsame] at hp'; cases hp'
      have := (hbl b hbl').1; omega
    · rename_i hi
      rw [hset i (fun e => hi e.symm)] at hp'
      exact hn ⟨i, o', pv', vs', ho', hp', hbl'⟩
  have hsz := h.size
  refine r.master (s' := s.new id o) (β' := β.set id (pv, vs)) rfl rfl (r.below.trans (h.mono r.size0)) h.size (fun i pv' vs' h => ⟨vs', hext _ _ h⟩) ?_ (fun b hlt hn => ⟨hb b hlt, hheld b hlt hn⟩) ?_ ?_
  · intro i hi
    have hi' : i ≠ id ∧ i ∉ s.used := by simpa [AS.new] using hi
    exact ⟨by rw [hset i hi'.1]; exact r.dom i hi'.2, by rw [hobj, if_neg (Ne.symm hi'.1)]; exact r.hdom i hi'.2⟩
  · intro i o' ho'
    rw [hobj] at ho'
    split at ho'
    · rename_i hi; subst hi; cases ho'
      refine .inr ⟨pv, vs, hsame, hat _ _ (fun b hf => ⟨Nat.lt_of_lt_of_le hf.1 hsz, hheld b hf.1 hf.2⟩) hext, fun b hbb => ⟨Nat.le_trans r.size0 (hbl b hbb).1, (hbl b hbb).2⟩⟩
    · rename_i hi
      refine .inl ⟨ho', hset i (fun e => hi e.symm), fun pv' vs' b hp' hbl' => ?_⟩
      obtain ⟨pv2, vs2, hp2, _, hr⟩ := r.obj i o' ho'
      rw [hp'] at hp2; cases hp2
      exact hb b (hr b hbl').2
  · intro i1 i2 o1 o2 pv1 vs1 pv2 vs2 b h1 h2 p1 p2 b1 b2
    rw [hobj] at h1 h2
    by_cases e1 : id = i1 <;> by_cases e2 : id = i2
    · exact e1.symm.trans e2
    · subst e1
      rw [if_pos rfl] at h1; cases h1
      rw [if_neg e2] at h2
      rw [hsame] at p1; cases p1
      rw [hset i2 (fun e => e2 e.symm)] at p2
      obtain ⟨pv3, vs3, hp3, _, hr⟩ := r.obj i2 o2 h2
      rw [p2] at hp3; cases hp3
      have := (hbl b b1).1; have := (hr b b2).2; omega
    · subst e2
      rw [if_pos rfl] at h2; cases h2
      rw [if_neg e1] at h1
      rw [hsame] at p2; cases p2
      rw [hset i1 (fun e => e1 e.symm)] at p1
      obtain ⟨pv3, vs3, hp3, _, hr⟩ := r.obj i1 o1 h1
      rw [p1] at hp3; cases hp3
      have := (hbl b b2).1; have := (hr b b1).2; omega
    · rw [if_neg e1] at h1; rw [if_neg e2] at h2
      rw [hset i1 (fun e => e1 e.symm)] at p1
      rw [hset i2 (fun e => e2 e.symm)] at p2
      exact r.disj i1 i2 o1 o2 pv1 vs1 pv2 vs2 b h1 h2 p1 p2 b1 b2

/-- An owned object is written and handed on under another number: its blocks are the old one's or new ones. 'row': the one block that may have been written. -/
theorem Rel.rewrite (r : Rel N0 W0 s β a w) {id id' : Nat} {o o' : Obj} {pv pv' : Value} {vs vs' : List Value} (ho : s.obj id = some o) (hp : β id = some (pv, vs))
    (hg : w.grownBy w' (blockOf pv)) (hid : s.used.contains id' = false)
    (hat : ∀ F : Nat → Prop, ∀ β' : Plc, (∀ b, Free s β w b → F b) → (∀ i x, β i = some x → β' i = some x) → ObjAt N0 β' F w' pv' vs' o')
    (hbl : ∀ b, blks o'.own pv' vs' b → b < w'.heap.size ∧ (w.heap.size ≤ b ∨ blks o.own pv vs b)) :
    Rel N0 W0 ((s.kill id).new id' o') (β.set id' (pv', vs')) a w' := by
  obtain ⟨hβn, hOn⟩ := r.fresh_of hid
  have hne : id ≠ id' := fun e => by subst e; rw [hβn] at hp; cases hp
  obtain ⟨pv0, vs0, hp0, _, hr0⟩ := r.obj id o ho
  rw [hp] at hp0; cases hp0
  have hrow : ∀ b, blockOf pv = some b → N0 ≤ b := fun b hb => (hr0 b (.inl hb)).1
  have hb : ∀ b, b < w.heap.size → ¬ blockOf pv = some b → w'.heap[b]? = w.heap[b]? := fun b hlt hn => hg.block b hlt (fun e => hn e.symm)
  have hset : ∀ i, i ≠ id' → β.set id' (pv', vs') i = β i := fun i hi => by simp [Plc.set, hi]
  have hsame : β.set id' (pv', vs') id' = some (pv', vs') := by simp [Plc.set]
  have hobj : ∀ i, ((s.kill id).new id' o').obj i = if id' = i then some o' else if id = i then none else s.obj i := fun _ => rfl
  have hext : ∀ i x, β i = some x → β.set id' (pv', vs') i = some x := fun i x hx => by
    by_cases hi : i = id'
    · subst hi; rw [hβn] at hx; cases hx
    · rw [hset i hi]; exact hx
  have hsz := hg.size
  have hheld : ∀ b, b < w.heap.size → ¬ Held s β b → ¬ Held ((s.kill id).new id' o') (β.set id' (pv', vs')) b := by
    rintro b hlt hn ⟨i, o2, pv2, vs2, ho2, hp2, hbl2⟩
    rw [hobj] at ho2
    split at ho2
    · rename_i hi; subst hi; cases ho2
      rw [hsame] at hp2; cases hp2
      rcases (hbl b hbl2).2 with h | h
      · omega
      · exact hn ⟨id, o, pv, vs, ho, hp, h⟩
    · rename_i hi
      split at ho2
      · cases ho2
      · rw [hset i (fun e => hi e.symm)] at hp2
        exact hn ⟨i, o2, pv2, vs2, ho2, hp2, hbl2⟩
  have hbelow : Below N0 W0 w' := r.below.trans ⟨hg.os, hg.tape, hg.output, hg.size, fun k hk => hb k (by have := r.size0; omega) (fun e => by have := hrow k e; omega)⟩
  refine r.master (s' := (s.kill id).new id' o') (β' := β.set id' (pv', vs')) rfl rfl hbelow hsz (fun i pv2 vs2 h => ⟨vs2, hext _ _ h⟩) ?_ (fun b hlt hn => ⟨hb b hlt (fun e => hn ⟨id, o, pv, vs, ho, hp, .inl e⟩), hheld b hlt hn⟩) ?_ ?_
  · intro i hi
    have hi' : i ≠ id' ∧ i ∉ s.used := by simpa [AS.new, AS.kill] using hi
    refine ⟨by rw [hset i hi'.1]; exact r.dom i hi'.2, ?_⟩
    rw [hobj, if_neg (Ne.symm hi'.1)]
    split
    · rfl
    · exact r.hdom i hi'.2
  · intro i o2 ho2
    rw [hobj] at ho2
    split at ho2
    · rename_i hi; subst hi; cases ho2
      refine .inr ⟨pv', vs', hsame, hat _ _ (fun b hf => ⟨Nat.lt_of_lt_of_le hf.1 hsz, hheld b hf.1 hf.2⟩) hext, fun b hbb => ⟨?_, (hbl b hbb).1⟩⟩
      rcases (hbl b hbb).2 with h | h
      · exact Nat.le_trans r.size0 h
      · exact (hr0 b h).1
    · rename_i hi
      split at ho2
      · cases ho2
      · rename_i hi2
        refine .inl ⟨ho2, hset i (fun e => hi e.symm), fun pv2 vs2 b hp2 hbl2 => ?_⟩
        obtain ⟨pv3, vs3, hp3, _, hr⟩ := r.obj i o2 ho2
        rw [hp2] at hp3; cases hp3
        exact hb b (hr b hbl2).2 (fun e => hi2 (r.disj id i o o2 pv vs pv2 vs2 b ho ho2 hp hp2 (.inl e) hbl2))
  · have key : ∀ i o2 pv2 vs2 b, i ≠ id' → ((s.kill id).new id' o').obj i = some o2 → β.set id' (pv', vs') i = some (pv2, vs2) → blks o2.own pv2 vs2 b → blks o'.own pv' vs' b → False := by
      intro i o2 pv2 vs2 b hi h2 p2 b2 b1
      rw [hobj, if_neg (fun e => hi e.symm)] at h2
      split at h2
      · cases h2
      · rename_i hi2
        rw [hset i hi] at p2
        obtain ⟨pv3, vs3, hp3, _, hr⟩ := r.obj i o2 h2
        rw [p2] at hp3; cases hp3
        rcases (hbl b b1).2 with h | h
        · have := (hr b b2).2; omega
        · exact hi2 (r.disj id i o o2 pv vs pv2 vs2 b ho h2 hp p2 h b2)
    intro i1 i2 o1 o2 pv1 vs1 pv2 vs2 b h1 h2 p1 p2 b1 b2
    by_cases e1 : i1 = id' <;> by_cases e2 : i2 = id'
    · exact e1.trans e2.symm
    · subst e1
      have hh : o1 = o' := by rw [hobj, if_pos rfl] at h1; cases h1; rfl
      rw [hsame] at p1; cases p1; subst hh
      exact (key i2 o2 pv2 vs2 b e2 h2 p2 b2 b1).elim
    · subst e2
      have hh : o2 = o' := by rw [hobj, if_pos rfl] at h2; cases h2; rfl
      rw [hsame] at p2; cases p2; subst hh
      exact (key i1 o1 pv1 vs1 b e1 h1 p1 b1 b2).elim
    · rw [hobj, if_neg (fun e => e1 e.symm)] at h1
      rw [hobj, if_neg (fun e => e2 e.symm)] at h2
      rw [hset i1 e1] at p1
      rw [hset i2 e2] at p2
      split at h1
      · cases h1
      · split at h2
        · cases h2
        · exact r.disj i1 i2 o1 o2 pv1 vs1 pv2 vs2 b h1 h2 p1 p2 b1 b2

/-- An owned object is written in place: the same number, the same value. -/
theorem Rel.store (r : Rel N0 W0 s β a w) {id : Nat} {o o' : Obj} {pv : Value} {vs vs' : List Value} (ho : s.obj id = some o) (hp : β id = some (pv, vs))
    (hg : w.grownBy w' (blockOf pv))
    (hat : ∀ F : Nat → Prop, ∀ β' : Plc, (∀ b, Free s β w b → F b) → (∀ i pv2 vs2, β i = some (pv2, vs2) → ∃ vs3, β' i = some (pv2, vs3)) → ObjAt N0 β' F w' pv vs' o')
    (hbl : ∀ b, blks o'.own pv vs' b → blks o.own pv vs b) :
    Rel N0 W0 (s.setO id o') (β.set id (pv, vs')) a w' := by
  obtain ⟨pv0, vs0, hp0, _, hr0⟩ := r.obj id o ho
  rw [hp] at hp0; cases hp0
  have hused : id ∈ s.used := by
    by_cases h : id ∈ s.used
    · exact h
    · rw [r.dom id h] at hp; cases hp
  have hrow : ∀ b, blockOf pv = some b → N0 ≤ b := fun b hb => (hr0 b (.inl hb)).1
  have hb : ∀ b, b < w.heap.size → ¬ blockOf pv = some b → w'.heap[b]? = w.heap[b]? := fun b hlt hn => hg.block b hlt (fun e => hn e.symm)
  have hset : ∀ i, i ≠ id → β.set id (pv, vs') i = β i := fun i hi => by simp [Plc.set, hi]
  have hsame : β.set id (pv, vs') id = some (pv, vs') := by simp [Plc.set]
  have hobj : ∀ i, (s.setO id o').obj i = if id = i then some o' else s.obj i := fun _ => rfl
  have hext : ∀ i pv2 vs2, β i = some (pv2, vs2) → ∃ vs3, β.set id (pv, vs') i = some (pv2, vs3) := fun i pv2 vs2 hx => by
    by_cases hi : i = id
    · subst hi; rw [hp] at hx; cases hx; exact ⟨vs', hsame⟩
    · exact ⟨vs2, by rw [hset i hi]; exact hx⟩
  have hsz := hg.size
  have hheld : ∀ b, ¬ Held s β b → ¬ Held (s.setO id o') (β.set id (pv, vs')) b := by
    rintro b hn ⟨i, o2, pv2, vs2, ho2, hp2, hbl2⟩
    rw [hobj] at ho2
    split at ho2
    · rename_i hi; subst hi; cases ho2
      rw [hsame] at hp2; cases hp2
      exact hn ⟨id, o, pv, vs, ho, hp, hbl b hbl2⟩
    · rename_i hi
      rw [hset i (fun e => hi e.symm)] at hp2
      exact hn ⟨i, o2, pv2, vs2, ho2, hp2, hbl2⟩
  have hbelow : Below N0 W0 w' := r.below.trans ⟨hg.os, hg.tape, hg.output, hg.size, fun k hk => hb k (by have := r.size0; omega) (fun e => by have := hrow k e; omega)⟩
  refine r.master (s' := s.setO id o') (β' := β.set id (pv, vs')) rfl rfl hbelow hsz hext ?_ (fun b hlt hn => ⟨hb b hlt (fun e => hn ⟨id, o, pv, vs, ho, hp, .inl e⟩), hheld b hn⟩) ?_ ?_
  · intro i hi
    have hi' : i ∉ s.used := hi
    have hne : i ≠ id := fun e => hi' (e ▸ hused)
    exact ⟨by rw [hset i hne]; exact r.dom i hi', by rw [hobj, if_neg (Ne.symm hne)]; exact r.hdom i hi'⟩
  · intro i o2 ho2
    rw [hobj] at ho2
    split at ho2
    · rename_i hi; subst hi; cases ho2
      refine .inr ⟨pv, vs', hsame, hat _ _ (fun b hf => ⟨Nat.lt_of_lt_of_le hf.1 hsz, hheld b hf.2⟩) hext, fun b hbb => ⟨(hr0 b (hbl b hbb)).1, Nat.lt_of_lt_of_le (hr0 b (hbl b hbb)).2 hsz⟩⟩
    · rename_i hi
      refine .inl ⟨ho2, hset i (fun e => hi e.symm), fun pv2 vs2 b hp2 hbl2 => ?_⟩
      obtain ⟨pv3, vs3, hp3, _, hr⟩ := r.obj i o2 ho2
      rw [hp2] at hp3; cases hp3
      exact hb b (hr b hbl2).2 (fun e => hi (r.disj id i o o2 pv vs pv2 vs2 b ho ho2 hp hp2 (.inl e) hbl2))
  · have key : ∀ i o2 pv2 vs2 b, i ≠ id → (s.setO id o').obj i = some o2 → β.set id (pv, vs') i = some (pv2, vs2) → blks o2.own pv2 vs2 b → blks o'.own pv vs' b → False := by
      intro i o2 pv2 vs2 b hi h2 p2 b2 b1
      rw [hobj, if_neg (fun e => hi e.symm)] at h2
      rw [hset i hi] at p2
      exact hi (r.disj id i o o2 pv vs pv2 vs2 b ho h2 hp p2 (hbl b b1) b2).symm
    intro i1 i2 o1 o2 pv1 vs1 pv2 vs2 b h1 h2 p1 p2 b1 b2
    by_cases e1 : i1 = id <;> by_cases e2 : i2 = id
    · exact e1.trans e2.symm
    · subst e1
      have hh : o1 = o' := by rw [hobj, if_pos rfl] at h1; cases h1; rfl
      rw [hsame] at p1; cases p1; subst hh
      exact (key i2 o2 pv2 vs2 b e2 h2 p2 b2 b1).elim
    · subst e2
      have hh : o2 = o' := by rw [hobj, if_pos rfl] at h2; cases h2; rfl
      rw [hsame] at p2; cases p2; subst hh
      exact (key i1 o1 pv1 vs1 b e1 h1 p1 b1 b2).elim
    · rw [hobj, if_neg (fun e => e1 e.symm)] at h1
      rw [hobj, if_neg (fun e => e2 e.symm)] at h2
      rw [hset i1 e1] at p1
      rw [hset i2 e2] at p2
      exact r.disj i1 i2 o1 o2 pv1 vs1 pv2 vs2 b h1 h2 p1 p2 b1 b2

end Go.Eng
