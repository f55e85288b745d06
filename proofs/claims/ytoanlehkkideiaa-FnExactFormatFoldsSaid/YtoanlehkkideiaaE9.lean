/- The engine, part 9: contracts of functions; a function's proof; a call. -/
import Derived.Test.YtoanlehkkideiaaE8
set_option linter.unusedVariables false
namespace Go.Eng
open Go Go.RowKit

section
variable {N0 : Nat} {W0 : World} {s s' : AS} {β β' : Plc} {a : Act} {w w' : World} {P : Program} {T : Tys}

def Args (w : World) (args : List AV) (vals : List Value) : Prop := All2 (AR w.heap.size (fun _ => none) (fun b => b < w.heap.size) w) args vals

abbrev Ps := List (Value × List Value)

/-- What a call hands back: new memory. -/
def Fresh (B : Nat) (w' : World) (v : Value) (av : AV) (objs : List Obj) : Prop :=
  ∃ ps : Ps, ps.length = objs.length ∧ AR B (fun j => ps[j]?) (fun _ => False) w' av v ∧
    (∀ (j : Nat) (o : Obj) (p : Value × List Value), objs[j]? = some o → ps[j]? = some p → ObjAt B (fun _ => none) (fun _ => False) w' p.1 p.2 o ∧ ∀ b, blks o.own p.1 p.2 b → B ≤ b ∧ b < w'.heap.size) ∧
    (∀ (j j' : Nat) (o o' : Obj) (p p' : Value × List Value) (b : Nat), objs[j]? = some o → objs[j']? = some o' → ps[j]? = some p → ps[j']? = some p' → blks o.own p.1 p.2 b → blks o'.own p'.1 p'.2 b → j = j')

abbrev Spec := List AV → AV → List Obj → Prop

/-- Function f keeps contract S: it returns, its result is new memory, nothing that was there has turned. -/
def Sat (P : Program) (f : FuncId) (S : Spec) : Prop :=
  ∀ args av objs, S args av objs → ∀ w vals, Args w args vals → Calls P f vals.toArray w fun e w' => ∃ v, e = .returned v ∧ Below w.heap.size w w' ∧ Fresh w.heap.size w' v av objs

/-! ### The start -/

def numb : List AV → Nat → List (Nat × AV)
  | [], _ => []
  | v :: r, k => (k, v) :: numb r (k + 1)

def entryS (n : Nat) (args : List AV) : AS := { n := n, env := numb args 0, H := [], used := [] }

theorem look_numb (args : List AV) : ∀ (k j : Nat), look (numb args k) j = if k ≤ j then (args[j - k]?).getD .dead else .dead := by
  induction args with
  | nil => intro k j; simp [numb, look]
  | cons v r ih =>
    intro k j
    simp only [numb, look_cons, ih]
    by_cases h : k = j
    · subst h; simp
    · rw [if_neg h]
      by_cases h2 : k + 1 ≤ j
      · rw [if_pos h2, if_pos (by omega)]
        have : j - k = (j - (k + 1)) + 1 := by omega
        rw [this, List.getElem?_cons_succ]
      · rw [if_neg h2, if_neg (by omega)]

theorem rel_entry {n : Nat} {args : List AV} {vals : List Value} (h : Args w args vals) (hn : args.length ≤ n) :
    Rel w.heap.size w (entryS n args) (fun _ => none) { tmps := vals.toArray ++ Array.replicate (n - vals.toArray.size) undef, defers := [] } w where
  below := Below.refl _ _
  size0 := Nat.le_refl _
  size := by
    have := h.length
    simp [entryS]
    omega
  defers := rfl
  env := fun k => by
    show AR _ _ _ w (look (numb args 0) k) _
    rw [look_numb, if_pos (Nat.zero_le _), Nat.sub_zero]
    cases hk : args[k]? with
    | none => trivial
    | some v =>
      obtain ⟨u, hu, hr⟩ := All2.get k h hk
      have hu' : (vals.toArray ++ Array.replicate (n - vals.toArray.size) undef).getD k undef = u := by
        have hlt := (List.getElem?_eq_some_iff.1 hu).1
        simp only [Array.getD_eq_getD_getElem?]
        rw [Array.getElem?_append_left (by simpa using hlt)]
        simp [hu]
      rw [hu']
      simp only [Option.getD_some]
      have hk' : Keep (fun b => b < w.heap.size) (Free (entryS n args) (fun _ => none) w) w w := fun b hb => ⟨⟨hb, by rintro ⟨id, o, pv, vs, _, hp, _⟩; cases hp⟩, rfl⟩
      exact AR.keep (fun _ _ _ h => by cases h) hk' hr
  dom := fun _ _ => rfl
  hdom := fun _ _ => rfl
  obj := fun id o h => by cases h
  disj := fun id id' o o' pv vs pv' vs' b h => by cases h

/-! ### The end -/

def resC (T : Tys) (s : AS) : ResultVar → AV
  | .tmp t => s.get t
  | .cell t ty =>
    match s.get t with
    | .one (.ptr id _ 0 0) =>
      match s.obj id with
      | some (.box _ cs) =>
        match T ty with
        | .st fs => if fs.length = cs.length then .agg cs else .dead
        | .oth => .dead
        | _ => match cs with | [c] => .one c | _ => .dead
      | _ => .dead
    | _ => .dead

abbrev Acc := List (Obj × Option Nat)

def retC (s : AS) (acc : Acc) : CV → Option (CV × Acc)
  | .sc x => some (.sc x, acc)
  | .nil => some (.nil, acc)
  | .ref id =>
    match s.obj id with
    | some (.flat e k xs) => if acc.any (fun p => p.2 == some id) then none else some (.ref acc.length, acc ++ [(.flat e k xs, some id)])
    | some (.rows e e' .own xss) => if acc.any (fun p => p.2 == some id) then none else some (.ref acc.length, acc ++ [(.rows e e' .own xss, some id)])
    | some (.zrow e k) => if acc.any (fun p => p.2 == some id) then none else some (.ref acc.length, acc ++ [(.flat e k [], some id)])
    | _ => none
  | .row e (some xs) => if acc.any (fun p => p.2 == none) then none else some (.ref acc.length, acc ++ [(.flat e 1 xs, none)])
  | .row _ none => some (.nil, acc)
  | _ => none

def retL (s : AS) : Acc → List CV → Option (List CV × Acc)
  | acc, [] => some ([], acc)
  | acc, c :: r => (retC s acc c).bind fun x => (retL s x.2 r).map fun y => (x.1 :: y.1, y.2)

def retD (s : AS) (acc : Acc) : AV → Option (AV × Acc)
  | .one c => (retC s acc c).map fun x => (.one x.1, x.2)
  | .agg cs => (retL s acc cs).map fun x => (.agg x.1, x.2)
  | _ => none

def retT (s : AS) : Acc → List AV → Option (List AV × Acc)
  | acc, [] => some ([], acc)
  | acc, c :: r => (retD s acc c).bind fun x => (retT s x.2 r).map fun y => (x.1 :: y.1, y.2)

/-- What the function hands back. -/
def retA (T : Tys) (s : AS) (rs : List ResultVar) : Option (AV × Acc) :=
  match rs with
  | [r] => retD s [] (resC T s r)
  | rs => (retT s [] (rs.map (resC T s))).map fun x => (.tup x.1, x.2)

structure Good (N0 : Nat) (s : AS) (β : Plc) (w : World) (acc : Acc) (ps : Ps) : Prop where
  len : ps.length = acc.length
  at_ : ∀ (j : Nat) (q : Obj × Option Nat) (p : Value × List Value), acc[j]? = some q → ps[j]? = some p →
    ObjAt N0 (fun _ => none) (fun _ => False) w p.1 p.2 q.1 ∧ (∀ b, blks q.1.own p.1 p.2 b → N0 ≤ b ∧ b < w.heap.size) ∧
      match q.2 with
      | some id => (∃ o, s.obj id = some o ∧ o.own = q.1.own) ∧ β id = some p
      | none => ∀ b, blks q.1.own p.1 p.2 b → ¬ Held s β b
  nd : ∀ (j j' : Nat) (q q' : Obj × Option Nat), acc[j]? = some q → acc[j']? = some q' → q.2 = q'.2 → j = j'

theorem Good.push {acc : Acc} {ps : Ps} (g : Good N0 s β w acc ps) {q : Obj × Option Nat} {p : Value × List Value} (hq : acc.any (fun p => p.2 == q.2) = false)
    (h1 : ObjAt N0 (fun _ => none) (fun _ => False) w p.1 p.2 q.1) (h2 : ∀ b, blks q.1.own p.1 p.2 b → N0 ≤ b ∧ b < w.heap.size)
    (h3 : match q.2 with | some id => (∃ o, s.obj id = some o ∧ o.own = q.1.own) ∧ β id = some p | none => ∀ b, blks q.1.own p.1 p.2 b → ¬ Held s β b) :
    Good N0 s β w (acc ++ [q]) (ps ++ [p]) where
  len := by simp [g.len]
  at_ := fun j q' p' hj hp => by
    by_cases h : j < acc.length
    · rw [List.getElem?_append_left h] at hj
      rw [List.getElem?_append_left (by rw [g.len]; exact h)] at hp
      exact g.at_ j q' p' hj hp
    · have hj2 : j = acc.length := by
        have := (List.getElem?_eq_some_iff.1 hj).1
        simp at this; omega
      subst hj2
      rw [List.getElem?_append_right (Nat.le_refl _)] at hj
      rw [List.getElem?_append_right (by rw [g.len]; exact Nat.le_refl _)] at hp
      simp [g.len] at hj hp
      subst hj; subst hp
      exact ⟨h1, h2, h3⟩
  nd := fun j j' q1 q2 hj hj' he => by
    have key : ∀ (i : Nat) (x : Obj × Option Nat), (acc ++ [q])[i]? = some x → (acc[i]? = some x) ∨ (i = acc.length ∧ x = q) := by
      intro i x hx
      by_cases h : i < acc.length
      · rw [List.getElem?_append_left h] at hx; exact .inl hx
      · have hi : i = acc.length := by
          have := (List.getElem?_eq_some_iff.1 hx).1
          simp at this; omega
        subst hi
        rw [List.getElem?_append_right (Nat.le_refl _)] at hx
        simp at hx
        exact .inr ⟨rfl, hx.symm⟩
    have hno : ∀ (i : Nat) (x : Obj × Option Nat), acc[i]? = some x → x.2 ≠ q.2 := by
      intro i x hx e
      have := List.any_eq_false.1 hq x (List.mem_of_getElem? hx)
      simp [e] at this
    rcases key j q1 hj with h | ⟨rfl, rfl⟩ <;> rcases key j' q2 hj' with h' | ⟨rfl, rfl⟩
    · exact g.nd j j' q1 q2 h h' he
    · exact (hno j q1 h he).elim
    · exact (hno j' q2 h' he.symm).elim
    · rfl

theorem objAt_plain {o : Obj} {pv : Value} {vs : List Value} {F : Nat → Prop} (ho : (∃ e k xs, o = .flat e k xs) ∨ ∃ e e' xss, o = .rows e e' .own xss) (h : ObjAt N0 β F w pv vs o) : ObjAt N0 β' (fun _ => False) w pv vs o := by
  rcases ho with ⟨e, k, xs, rfl⟩ | ⟨e, e', xss, rfl⟩ <;> exact h

theorem CR.more {ps qs : Ps} {F : Nat → Prop} {c : CV} {v : Value} (h : CR N0 (fun j => ps[j]?) F w c v) : CR N0 (fun j => (ps ++ qs)[j]?) F w c v :=
  CR.keep (fun id pv vs hp => ⟨vs, by
    have := (List.getElem?_eq_some_iff.1 hp).1
    rw [List.getElem?_append_left this]; exact hp⟩) (fun b hb => ⟨hb, rfl⟩) h

theorem retC_ok (r : Rel N0 W0 s β a w) {acc acc' : Acc} {ps : Ps} {c c' : CV} {v : Value} (g : Good N0 s β w acc ps) (h : retC s acc c = some (c', acc')) (hc : CR N0 β (Free s β w) w c v) :
    ∃ qs, Good N0 s β w acc' (ps ++ qs) ∧ CR N0 (fun j => (ps ++ qs)[j]?) (fun _ => False) w c' v := by
  have own : ∀ id o, s.obj id = some o → ((∃ e k xs, o = .flat e k xs) ∨ ∃ e e' xss, o = .rows e e' .own xss) → acc.any (fun p => p.2 == some id) = false → c = .ref id →
      ∃ qs, Good N0 s β w (acc ++ [(o, some id)]) (ps ++ qs) ∧ CR N0 (fun j => (ps ++ qs)[j]?) (fun _ => False) w (.ref acc.length) v := by
    rintro id o ho hk hn rfl
    obtain ⟨pv, vs, hp, hat, hb⟩ := r.obj id o ho
    obtain ⟨vs', hv, h1c⟩ := hc
    rw [hp] at hv; cases hv
    refine ⟨[(v, vs)], g.push (q := (o, some id)) hn (objAt_plain hk hat) hb ⟨⟨o, ho, rfl⟩, hp⟩, vs, ?_, h1c⟩
    show (ps ++ [(v, vs)])[acc.length]? = _
    rw [List.getElem?_append_right (by rw [g.len]; exact Nat.le_refl _)]
    simp [g.len]
  cases c with
  | sc x => cases h; exact ⟨[], by simpa using g, hc⟩
  | nil => cases h; exact ⟨[], by simpa using g, hc⟩
  | ref id =>
    simp only [retC] at h
    split at h
    · rename_i e k xs ho
      split at h
      · cases h
      · rename_i hn; cases h
        exact own id _ ho (.inl ⟨_, _, _, rfl⟩) (Bool.eq_false_iff.2 hn) rfl
    · rename_i e e' xss ho
      split at h
      · cases h
      · rename_i hn; cases h
        exact own id _ ho (.inr ⟨_, _, _, rfl⟩) (Bool.eq_false_iff.2 hn) rfl
    · rename_i e k ho
      split at h
      · cases h
      · rename_i hn; cases h
        obtain ⟨pv, vs, hp, hat, hb⟩ := r.obj id _ ho
        obtain ⟨vs', hv, h1c⟩ := hc
        rw [hp] at hv; cases hv
        refine ⟨[(v, vs)], g.push (q := (.flat e k [], some id)) (Bool.eq_false_iff.2 hn) ⟨hat.1, fun e he => by cases he⟩ hb ⟨⟨_, ho, rfl⟩, hp⟩, vs, ?_, h1c⟩
        show (ps ++ [(v, vs)])[acc.length]? = _
        rw [List.getElem?_append_right (by rw [g.len]; exact Nat.le_refl _)]
        simp [g.len]
    · cases h
  | row e o =>
    cases o with
    | none => cases h; exact ⟨[], by simpa using g, hc⟩
    | some xs =>
      simp only [retC] at h
      split at h
      · cases h
      · rename_i hn; cases h
        obtain ⟨h1, h2, b, n, cap, h3, h4⟩ := hc
        have hlt := h1.lt
        refine ⟨[(v, [])], g.push (q := (.flat e 1 xs, none)) (Bool.eq_false_iff.2 hn) ⟨h1, h2⟩ ?_ ?_, [], ?_⟩
        · rintro b' (hb' | ⟨hb', _⟩)
          · rw [h3] at hb'; cases hb'
            exact ⟨(hlt b (by rw [h3]; rfl)).1, h4.1⟩
          · cases hb'
        · rintro b' (hb' | ⟨hb', _⟩)
          · rw [h3] at hb'; cases hb'
            exact h4.2
          · cases hb'
        · refine ⟨?_, by rw [h3]; rfl⟩
          show (ps ++ [(v, [])])[acc.length]? = _
          rw [List.getElem?_append_right (by rw [g.len]; exact Nat.le_refl _)]
          simp [g.len]
  | _ => simp [retC] at h

theorem retL_ok (r : Rel N0 W0 s β a w) : ∀ {cs cs' : List CV} {acc acc' : Acc} {ps : Ps} {vs : List Value}, Good N0 s β w acc ps → retL s acc cs = some (cs', acc') → All2 (CR N0 β (Free s β w) w) cs vs →
    ∃ qs, Good N0 s β w acc' (ps ++ qs) ∧ All2 (CR N0 (fun j => (ps ++ qs)[j]?) (fun _ => False) w) cs' vs
  | [], cs', acc, acc', ps, [], g, h, _ => by cases h; exact ⟨[], by simpa using g, trivial⟩
  | c :: cs, cs', acc, acc', ps, v :: vs, g, h, ⟨h1, h2⟩ => by
    simp only [retL, Option.bind_eq_some_iff, Option.map_eq_some_iff] at h
    obtain ⟨⟨c1, acc1⟩, hc1, ⟨cs1, acc2⟩, hcs1, he⟩ := h
    cases he
    obtain ⟨qs1, g1, r1⟩ := retC_ok r g hc1 h1
    obtain ⟨qs2, g2, r2⟩ := retL_ok r g1 hcs1 h2
    refine ⟨qs1 ++ qs2, by rw [← List.append_assoc]; exact g2, ?_, ?_⟩
    · rw [← List.append_assoc]; exact r1.more
    · rw [← List.append_assoc]; exact r2
  | [], _, _, _, _, _ :: _, _, _, h => h.elim
  | _ :: _, _, _, _, _, [], _, _, h => h.elim

theorem retD_ok (r : Rel N0 W0 s β a w) {acc acc' : Acc} {ps : Ps} {c c' : AV} {v : Value} (g : Good N0 s β w acc ps) (h : retD s acc c = some (c', acc')) (hc : AR N0 β (Free s β w) w c v) :
    ∃ qs, Good N0 s β w acc' (ps ++ qs) ∧ DR N0 (fun j => (ps ++ qs)[j]?) (fun _ => False) w c' v ∧ AR N0 (fun j => (ps ++ qs)[j]?) (fun _ => False) w c' v := by
  cases c with
  | one c =>
    simp only [retD, Option.map_eq_some_iff] at h
    obtain ⟨⟨c1, acc1⟩, hc1, he⟩ := h
    cases he
    obtain ⟨qs, g1, r1⟩ := retC_ok r g hc1 hc
    exact ⟨qs, g1, r1, r1⟩
  | agg cs =>
    simp only [retD, Option.map_eq_some_iff] at h
    obtain ⟨⟨c1, acc1⟩, hc1, he⟩ := h
    cases he
    obtain ⟨vs, hv, hall⟩ := hc
    obtain ⟨qs, g1, r1⟩ := retL_ok r g hc1 hall
    exact ⟨qs, g1, ⟨vs, hv, r1⟩, ⟨vs, hv, r1⟩⟩
  | _ => simp [retD] at h

theorem DR.more {ps qs : Ps} {F : Nat → Prop} {c : AV} {v : Value} (h : DR N0 (fun j => ps[j]?) F w c v) : DR N0 (fun j => (ps ++ qs)[j]?) F w c v :=
  DR.keep (fun id pv vs hp => ⟨vs, by
    have := (List.getElem?_eq_some_iff.1 hp).1
    rw [List.getElem?_append_left this]; exact hp⟩) (fun b hb => ⟨hb, rfl⟩) h

theorem retT_ok (r : Rel N0 W0 s β a w) : ∀ {cs cs' : List AV} {acc acc' : Acc} {ps : Ps} {vs : List Value}, Good N0 s β w acc ps → retT s acc cs = some (cs', acc') → All2 (AR N0 β (Free s β w) w) cs vs →
    ∃ qs, Good N0 s β w acc' (ps ++ qs) ∧ All2 (DR N0 (fun j => (ps ++ qs)[j]?) (fun _ => False) w) cs' vs
  | [], cs', acc, acc', ps, [], g, h, _ => by cases h; exact ⟨[], by simpa using g, trivial⟩
  | c :: cs, cs', acc, acc', ps, v :: vs, g, h, ⟨h1, h2⟩ => by
    simp only [retT, Option.bind_eq_some_iff, Option.map_eq_some_iff] at h
    obtain ⟨⟨c1, acc1⟩, hc1, ⟨cs1, acc2⟩, hcs1, he⟩ := h
    cases he
    obtain ⟨qs1, g1, r1, _⟩ := retD_ok r g hc1 h1
    obtain ⟨qs2, g2, r2⟩ := retT_ok r g1 hcs1 h2
    refine ⟨qs1 ++ qs2, by rw [← List.append_assoc]; exact g2, ?_, ?_⟩
    · rw [← List.append_assoc]; exact r1.more
    · rw [← List.append_assoc]; exact r2
  | [], _, _, _, _, _ :: _, _, _, h => h.elim
  | _ :: _, _, _, _, _, [], _, _, h => h.elim

theorem good_nil : Good N0 s β w [] [] := ⟨rfl, fun j q p h => by simp at h, fun j j' q q' h => by simp at h⟩

theorem Good.fresh (r : Rel N0 W0 s β a w) {acc : Acc} {ps : Ps} {av : AV} {v : Value} (g : Good N0 s β w acc ps) (h : AR N0 (fun j => ps[j]?) (fun _ => False) w av v) : Fresh N0 w v av (acc.map (·.1)) := by
  refine ⟨ps, by simp [g.len], h, ?_, ?_⟩
  · intro j o p hj hp
    rw [List.getElem?_map, Option.map_eq_some_iff] at hj
    obtain ⟨q, hq, rfl⟩ := hj
    obtain ⟨h1, h2, _⟩ := g.at_ j q p hq hp
    exact ⟨h1, h2⟩
  · intro j j' o o' p p' b hj hj' hp hp' hb hb'
    rw [List.getElem?_map, Option.map_eq_some_iff] at hj hj'
    obtain ⟨q, hq, rfl⟩ := hj
    obtain ⟨q', hq', rfl⟩ := hj'
    obtain ⟨_, _, h3⟩ := g.at_ j q p hq hp
    obtain ⟨_, _, h3'⟩ := g.at_ j' q' p' hq' hp'
    refine g.nd j j' q q' hq hq' ?_
    cases e : q.2 with
    | none =>
      cases e' : q'.2 with
      | none => rfl
      | some id' =>
        rw [e] at h3; rw [e'] at h3'
        obtain ⟨⟨o', ho', how'⟩, hβ'⟩ := h3'
        exact (h3 b hb ⟨id', o', p'.1, p'.2, ho', hβ', by rw [how']; exact hb'⟩).elim
    | some id =>
      rw [e] at h3
      cases e' : q'.2 with
      | none =>
        rw [e'] at h3'
        obtain ⟨⟨o', ho', how'⟩, hβ'⟩ := h3
        exact (h3' b hb' ⟨id, o', p.1, p.2, ho', hβ', by rw [how']; exact hb⟩).elim
      | some id' =>
        rw [e'] at h3'
        obtain ⟨⟨o1, ho1, how1⟩, hβ1⟩ := h3
        obtain ⟨⟨o2, ho2, how2⟩, hβ2⟩ := h3'
        rw [r.disj id id' o1 o2 p.1 p.2 p'.1 p'.2 b ho1 ho2 hβ1 hβ2 (by rw [how1]; exact hb) (by rw [how2]; exact hb')]

theorem resC_ok (hT : TOk P T) (r : Rel N0 W0 s β a w) (x : ResultVar) (hnd : resC T s x ≠ .dead) :
    ∃ v, (match x with | .tmp t => (pure (a.tmps.getD t undef) : Sem Value) | .cell t ty => (do loadVar ty (← asAddr (a.tmps.getD t undef)))).run P w = .ok v w ∧ AR N0 β (Free s β w) w (resC T s x) v := by
  cases x with
  | tmp t => exact ⟨_, rfl, r.env t⟩
  | cell t ty =>
    simp only [resC] at hnd ⊢
    split at hnd
    · rename_i id k hg
      have hv := r.env t
      rw [hg] at hv
      obtain ⟨pv, vs, b, hp, hpv, hval⟩ := hv
      rw [hval]
      simp only [Nat.zero_mul, Nat.add_zero]
      split at hnd
      · rename_i e cs ho
        obtain ⟨pv2, vs2, hp2, hat, _⟩ := r.obj id _ ho
        rw [hp] at hp2; cases hp2
        obtain ⟨b2, arr, h1, h2, h3, h4⟩ := hat
        have hb : b2 = b := by
          rcases hpv with ⟨n, c, e⟩ | e
          · rw [h1] at e; cases e
          · rw [h1] at e; cases e; rfl
        subst hb
        have hcell : ∀ j u, arr.toList[j]? = some u → w.cell? ⟨b2, 0 + j, none⟩ = some u := fun j u hu => by
          rw [Nat.zero_add, cell_of_row w b2 j arr e (0, 0) h3]
          simpa using hu
        have hlen := h4.length
        split at hnd
        · rename_i fs hfs
          split at hnd
          · rename_i hl
            rw [if_pos hl]
            have := run_load_st (P := P) (w := w) hT hfs (b := b2) (o := 0) (us := arr.toList) (by rw [← hlen]; exact hl.symm) hcell
            refine ⟨.agg arr, ?_, arr.toList, rfl, h4⟩
            simpa [Instr.loadAt, Instr.sureAddr, asAddr] using this
          · exact (hnd rfl).elim
        · exact (hnd rfl).elim
        · rename_i hst hoth
          have hone : (T ty).one = true := by
            cases hty : T ty <;> simp [TI.one]
            · rename_i fs; exact hst fs hty
            · exact hoth hty
          split at hnd
          · rename_i c
            cases hal : arr.toList with
            | nil => rw [hal] at h4; exact h4.elim
            | cons u us =>
              rw [hal] at h4 hcell
              have := run_load_one (P := P) (w := w) hT hone (b := b2) (o := 0) (u := u) (by have := hcell 0 u (by simp); simpa using this)
              refine ⟨u, ?_, h4.1⟩
              simpa [Instr.loadAt, Instr.sureAddr, asAddr] using this
          · exact (hnd rfl).elim
      · exact (hnd rfl).elim
    · exact (hnd rfl).elim

end
end Go.Eng
