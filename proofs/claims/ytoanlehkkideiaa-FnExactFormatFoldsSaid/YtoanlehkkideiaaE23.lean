/- The engine, part 23: functions that write into one object that they are handed. -/
import Derived.Test.YtoanlehkkideiaaE22
set_option linter.unusedVariables false
namespace Go.Eng
open Go Go.RowKit

section
variable {N0 : Nat} {W0 : World} {s s' : AS} {β β' : Plc} {a : Act} {w w' : World} {P : Program} {T : Tys}

/-- The arguments (the object under the number 0), the object, what comes back, the object behind the call. -/
abbrev SpecM := List AV → Obj → Sc → Obj → Prop

def at0 (pv : Value) (vs : List Value) : Plc := fun i => if i = 0 then some (pv, vs) else none
def apart (w : World) (o : Obj) (pv : Value) (vs : List Value) : Nat → Prop := fun b => b < w.heap.size ∧ ¬ blks o.own pv vs b

/-- Behind a call that has written into one object: the rest is as it was. -/
structure Wrote (N0 : Nat) (w w' : World) (o o' : Obj) (pv : Value) (vs vs' : List Value) : Prop where
  os : w'.os = w.os
  tape : w'.tape = w.tape
  output : w'.output = w.output
  size : w.heap.size ≤ w'.heap.size
  rest : ∀ b, apart w o pv vs b → w'.heap[b]? = w.heap[b]?
  obj : ObjAt N0 (fun _ => none) (fun _ => False) w' pv vs' o'
  blk : ∀ b, blks o'.own pv vs' b → b < w'.heap.size ∧ (w.heap.size ≤ b ∨ blks o.own pv vs b)

def SatM (P : Program) (f : FuncId) (S : SpecM) : Prop :=
  ∀ args o x o', S args o x o' → ∀ N0 w vals pv vs, N0 ≤ w.heap.size → ObjAt N0 (at0 pv vs) (apart w o pv vs) w pv vs o → (∀ b, blks o.own pv vs b → N0 ≤ b ∧ b < w.heap.size) →
    All2 (AR N0 (at0 pv vs) (apart w o pv vs) w) args vals → Calls P f vals.toArray w fun e w' => e = .returned x.val ∧ ∃ vs', Wrote N0 w w' o o' pv vs vs'

/-! ### The proof of such a function -/

def entryM (n : Nat) (args : List AV) (o : Obj) (S : Nat → Prop) (W : World) (pv : Value) : AS :=
  { n := n, env := numb args 0, H := [(0, some o), (1, some (.pin S W)), (3, some (.stay 0 pv))], used := [0, 1, 3] }

def entryP (pv : Value) (vs : List Value) : Plc := fun i => if i = 0 then some (pv, vs) else if i = 1 ∨ i = 3 then some (.slice none 0 0, []) else none

def retOKM (T : Tys) (r : ResultVar) (x : Sc) (o' : Obj) (S : Nat → Prop) (W : World) (pv : Value) (e : Exit) (t : AS) : Prop :=
  match e with
  | .ret => resC T t r = .one (.sc x) ∧ t.obj 0 = some o' ∧ t.obj 1 = some (.pin S W) ∧ t.obj 3 = some (.stay 0 pv)
  | _ => False

theorem entryM_obj {n : Nat} {args : List AV} {o : Obj} {S : Nat → Prop} {W : World} {pv : Value} (i : Nat) : (entryM n args o S W pv).obj i = if 0 = i then some o else if 1 = i then some (.pin S W) else if 3 = i then some (.stay 0 pv) else none := by
  unfold AS.obj entryM
  simp only [lookO]

theorem rel_entryM {n : Nat} {args : List AV} {vals : List Value} {o : Obj} {pv : Value} {vs : List Value} (hN : N0 ≤ w.heap.size) (ho : ObjAt N0 (at0 pv vs) (apart w o pv vs) w pv vs o) (hb : ∀ b, blks o.own pv vs b → N0 ≤ b ∧ b < w.heap.size)
    (h : All2 (AR N0 (at0 pv vs) (apart w o pv vs) w) args vals) (hn : args.length ≤ n) :
    Rel N0 w (entryM n args o (apart w o pv vs) w pv) (entryP pv vs) { tmps := vals.toArray ++ Array.replicate (n - vals.toArray.size) undef, defers := [] } w := by
  have hno : ∀ (S : Nat → Prop) (b : Nat), ¬ blks (Obj.pin S w).own (.slice none 0 0) [] b := by
    rintro S b (h | ⟨h, _⟩) <;> cases h
  have hno2 : ∀ (b : Nat), ¬ blks (Obj.stay 0 pv).own (.slice none 0 0) [] b := by
    rintro b (h | ⟨h, _⟩) <;> cases h
  have held : ∀ b, Held (entryM n args o (apart w o pv vs) w pv) (entryP pv vs) b → blks o.own pv vs b := by
    rintro b ⟨i, o', pv', vs', hi, hp, hbl⟩
    rw [entryM_obj] at hi
    unfold entryP at hp
    split at hi
    · rename_i h0; subst h0; cases hi; simp at hp; obtain ⟨rfl, rfl⟩ := hp; exact hbl
    · rename_i h0
      split at hi
      · rename_i h1; subst h1; cases hi; simp at hp; obtain ⟨rfl, rfl⟩ := hp; exact (hno _ _ hbl).elim
      · split at hi
        · rename_i h3; subst h3; cases hi; simp at hp; obtain ⟨rfl, rfl⟩ := hp; exact (hno2 _ hbl).elim
        · cases hi
  have hF : ∀ b, apart w o pv vs b → Free (entryM n args o (apart w o pv vs) w pv) (entryP pv vs) w b := fun b h => ⟨h.1, fun hh => h.2 (held b hh)⟩
  have hk : Keep (apart w o pv vs) (Free (entryM n args o (apart w o pv vs) w pv) (entryP pv vs) w) w w := fun b h => ⟨hF b h, rfl⟩
  have hβ : ∀ id pv' vs', at0 pv vs id = some (pv', vs') → ∃ vs'', entryP pv vs id = some (pv', vs'') := by
    intro id pv' vs' h
    unfold at0 at h
    split at h
    · rename_i h0; cases h; exact ⟨vs, by simp [entryP, h0]⟩
    · cases h
  exact {
    below := Below.refl _ _
    size0 := hN
    size := by
      have := h.length
      simp [entryM]
      omega
    defers := rfl
    env := fun k => by
      show AR _ _ _ w (look (numb args 0) k) _
      rw [look_numb, if_pos (Nat.zero_le _), Nat.sub_zero]
      cases hk' : args[k]? with
      | none => trivial
      | some v =>
        obtain ⟨u, hu, hr⟩ := All2.get k h hk'
        have hu' : (vals.toArray ++ Array.replicate (n - vals.toArray.size) undef).getD k undef = u := by
          have hlt := (List.getElem?_eq_some_iff.1 hu).1
          simp only [Array.getD_eq_getD_getElem?]
          rw [Array.getElem?_append_left (by simpa using hlt)]
          simp [hu]
        rw [hu']
        simp only [Option.getD_some]
        exact AR.keep hβ hk hr
    dom := fun id hid => by
      unfold entryM at hid
      simp at hid
      unfold entryP
      rw [if_neg hid.1, if_neg (by rintro (h | h); exact hid.2.1 h; exact hid.2.2 h)]
    hdom := fun id hid => by
      unfold entryM at hid
      simp at hid
      rw [entryM_obj, if_neg (fun h => hid.1 h.symm), if_neg (fun h => hid.2.1 h.symm), if_neg (fun h => hid.2.2 h.symm)]
    obj := fun id o' hi => by
      rw [entryM_obj] at hi
      split at hi
      · rename_i h0; subst h0; cases hi
        exact ⟨pv, vs, rfl, ho.keep hβ hk (fun _ _ => rfl), hb⟩
      · split at hi
        · rename_i h0 h1; subst h1; cases hi
          exact ⟨_, [], rfl, ⟨rfl, fun b hs => ⟨hF b hs, rfl⟩⟩, fun b hbl => (hno _ _ hbl).elim⟩
        · split at hi
          · rename_i h0 h1 h3; subst h3; cases hi
            exact ⟨_, [], rfl, ⟨rfl, vs, rfl⟩, fun b hbl => (hno2 _ hbl).elim⟩
          · cases hi
    disj := fun i i' o1 o2 pv1 vs1 pv2 vs2 b h1 h2 p1 p2 b1 b2 => by
      have key : ∀ i o1 pv1 vs1, (entryM n args o (apart w o pv vs) w pv).obj i = some o1 → entryP pv vs i = some (pv1, vs1) → blks o1.own pv1 vs1 b → i = 0 := by
        intro i o1 pv1 vs1 h1 p1 b1
        rw [entryM_obj] at h1
        unfold entryP at p1
        split at h1
        · rename_i h0; exact h0.symm
        · split at h1
          · rename_i h0; subst h0; cases h1; simp at p1; obtain ⟨rfl, rfl⟩ := p1; exact (hno _ _ b1).elim
          · split at h1
            · rename_i h0; subst h0; cases h1; simp at p1; obtain ⟨rfl, rfl⟩ := p1; exact (hno2 _ b1).elim
            · cases h1
      rw [key i _ _ _ h1 p1 b1, key i' _ _ _ h2 p2 b2] }

theorem satM_of {E : Reck} (hT : TOk P T) (hE : E.Ok P) (hm : P.follows .mixedOrders = true) {f : FuncId} {fn : Func} {c : Code} {r : ResultVar} {n : Nat} {S : SpecM} (K : Nat → List Nat)
    (hf : P.funcs[f]? = some fn) (hb : fn.body = some c) (hrs : fn.results = #[r]) (hn : fn.ntmps = n)
    (h : ∀ args o x o', S args o x o' → args.length ≤ n ∧ plainO o' = true ∧ ∀ S W pv, awp P E K c (retOKM T r x o' S W pv) (entryM n args o S W pv)) : SatM P f S := by
  intro args o x o' hS N0 w vals pv vs hN ho hbl hargs
  obtain ⟨hlen, hpl, hw⟩ := h args o x o' hS
  refine calls_of_wp hf hb ?_
  rw [hn]
  have r0 := rel_entryM (n := n) hN ho hbl hargs hlen
  refine wp_mono (awp_sound hE hm c (hw _ _ _) r0) ?_
  rintro e a' w' ⟨t, β', r', hq⟩
  cases e with
  | ret =>
    obtain ⟨h1, h2, h3, h4⟩ := hq
    obtain ⟨v, h5, h6⟩ := resC_ok hT r' r (by rw [h1]; intro h; cases h)
    rw [h1] at h6
    have hv : v = x.val := h6
    subst hv
    have hres := results_ok (P := P) (w := w') (fn := fn) (rs := [r]) (tmps := a'.tmps) (vs := [x.val]) hrs ⟨h5, trivial⟩
    obtain ⟨pv1, vs1, p1, at1, b1⟩ := r'.obj 0 _ h2
    obtain ⟨pv3, vs3, p3, at3, _⟩ := r'.obj 3 _ h4
    obtain ⟨_, us, p4⟩ := at3
    rw [p1] at p4
    cases p4
    obtain ⟨pv2, vs2, p2, at2, _⟩ := r'.obj 1 _ h3
    refine ⟨r'.defers, x.val, hres, rfl, vs1, r'.below.os, r'.below.tape, r'.below.output, r'.below.size, fun b hb => (at2.2 b hb).2, objAt_base (Nat.le_refl _) hpl at1, fun b hb => ⟨(b1 b hb).2, ?_⟩⟩
    by_cases hlt : w.heap.size ≤ b
    · exact .inl hlt
    · right
      by_cases hbb : blks o.own pv vs b
      · exact hbb
      · exfalso
        exact (at2.2 b ⟨by omega, hbb⟩).1.2 ⟨0, o', pv, vs1, h2, p1, hb⟩
  | normal => exact hq.elim
  | exit id => exact hq.elim
  | goto l => exact hq.elim
  | panic ch => exact hq.elim
  | outgrown => exact hq.elim

/-! ### A call of such a function -/

theorem Rel.turn (r : Rel N0 W0 s β a w) {id : Nat} {o o' : Obj} {pv : Value} {vs vs' : List Value} (ho : s.obj id = some o) (hp : β id = some (pv, vs)) (hw : Wrote N0 w w' o o' pv vs vs') (hpl : plainO o' = true) :
    Rel N0 W0 (s.setO id o') (β.set id (pv, vs')) a w' := by
  obtain ⟨pv0, vs0, hp0, _, hr0⟩ := r.obj id o ho
  rw [hp] at hp0; cases hp0
  have hused : id ∈ s.used := by
    by_cases h : id ∈ s.used
    · exact h
    · rw [r.dom id h] at hp; cases hp
  have hset : ∀ i, i ≠ id → β.set id (pv, vs') i = β i := fun i hi => by simp [Plc.set, hi]
  have hsame : β.set id (pv, vs') id = some (pv, vs') := by simp [Plc.set]
  have hobj : ∀ i, (s.setO id o').obj i = if id = i then some o' else s.obj i := fun _ => rfl
  have hbelow : Below N0 W0 w' := ⟨hw.os.trans r.below.os, hw.tape.trans r.below.tape, hw.output.trans r.below.output, Nat.le_trans r.below.size hw.size, fun b hb => by
    rw [hw.rest b ⟨Nat.lt_of_lt_of_le hb r.size0, fun hh => by have := (hr0 b hh).1; omega⟩]
    exact r.below.block b hb⟩
  refine r.master (s' := s.setO id o') (β' := β.set id (pv, vs')) rfl rfl hbelow hw.size ?_ ?_ ?_ ?_ ?_
  · intro i pv1 vs1 h1
    by_cases hi : i = id
    · subst hi; rw [hp] at h1; cases h1; exact ⟨vs', hsame⟩
    · exact ⟨vs1, by rw [hset i hi]; exact h1⟩
  · intro i hi
    have hne : i ≠ id := fun e => hi (e ▸ hused)
    exact ⟨by rw [hset i hne]; exact r.dom i hi, by rw [hobj, if_neg (fun e => hne e.symm)]; exact r.hdom i hi⟩
  · intro b hlt hn
    refine ⟨hw.rest b ⟨hlt, fun hh => hn ⟨id, o, pv, vs, ho, hp, hh⟩⟩, ?_⟩
    rintro ⟨i, o1, pv1, vs1, h1, p1, b1⟩
    rw [hobj] at h1
    split at h1
    · rename_i hi; subst hi; cases h1
      rw [hsame] at p1; cases p1
      rcases (hw.blk b b1).2 with h | h
      · omega
      · exact hn ⟨id, o, pv, vs, ho, hp, h⟩
    · rename_i hi
      rw [hset i (fun e => hi e.symm)] at p1
      exact hn ⟨i, o1, pv1, vs1, h1, p1, b1⟩
  · intro i o1 h1
    rw [hobj] at h1
    split at h1
    · rename_i hi; subst hi; cases h1
      refine .inr ⟨pv, vs', hsame, objAt_base (Nat.le_refl _) hpl hw.obj, fun b hb => ⟨?_, (hw.blk b hb).1⟩⟩
      rcases (hw.blk b hb).2 with h | h
      · exact Nat.le_trans r.size0 h
      · exact (hr0 b h).1
    · rename_i hi
      refine .inl ⟨h1, hset i (fun e => hi e.symm), fun pv1 vs1 b p1 b1 => ?_⟩
      obtain ⟨pv2, vs2, p2, _, hr2⟩ := r.obj i o1 h1
      rw [p1] at p2; cases p2
      exact hw.rest b ⟨(hr2 b b1).2, fun hh => hi (r.disj id i o o1 pv vs pv1 vs1 b ho h1 hp p1 hh b1)⟩
  · intro i1 i2 o1 o2 pv1 vs1 pv2 vs2 b g1 g2 p1 p2 b1 b2
    have key : ∀ i o1 pv1 vs1, (s.setO id o').obj i = some o1 → β.set id (pv, vs') i = some (pv1, vs1) → blks o1.own pv1 vs1 b → (i = id ∧ w.heap.size ≤ b) ∨ ∃ o2 vs2, s.obj i = some o2 ∧ β i = some (pv1, vs2) ∧ blks o2.own pv1 vs2 b := by
      intro i o1 pv1 vs1 g1 p1 b1
      rw [hobj] at g1
      split at g1
      · rename_i hi; subst hi; cases g1
        rw [hsame] at p1; cases p1
        rcases (hw.blk b b1).2 with h | h
        · exact .inl ⟨rfl, h⟩
        · exact .inr ⟨o, vs, ho, hp, h⟩
      · rename_i hi
        rw [hset i (fun e => hi e.symm)] at p1
        exact .inr ⟨o1, vs1, g1, p1, b1⟩
    have hlt : ∀ i o1 pv1 vs1, s.obj i = some o1 → β i = some (pv1, vs1) → blks o1.own pv1 vs1 b → b < w.heap.size := by
      intro i o1 pv1 vs1 g1 p1 b1
      obtain ⟨pv2, vs2, p2, _, hr2⟩ := r.obj i o1 g1
      rw [p1] at p2; cases p2
      exact (hr2 b b1).2
    rcases key i1 o1 pv1 vs1 g1 p1 b1 with ⟨rfl, h⟩ | ⟨o3, vs3, c1, c2, c3⟩ <;> rcases key i2 o2 pv2 vs2 g2 p2 b2 with ⟨rfl, h'⟩ | ⟨o4, vs4, d1, d2, d3⟩
    · rfl
    · have := hlt _ _ _ _ d1 d2 d3; omega
    · have := hlt _ _ _ _ c1 c2 c3; omega
    · exact r.disj i1 i2 o3 o4 pv1 vs3 pv2 vs4 b c1 d1 c2 d2 c3 d3

/-- The arguments as the function sees them. -/
def mC (id : Nat) : CV → Option CV
  | .sc x => some (.sc x)
  | .nil => some .nil
  | .imm k xs => some (.imm k xs)
  | .ref i => if i = id then some (.ref 0) else none
  | _ => none

def mL (id : Nat) : List CV → Option (List CV)
  | [] => some []
  | c :: r => (mC id c).bind fun d => (mL id r).map (d :: ·)

def mA (id : Nat) : AV → Option AV
  | .one c => (mC id c).map .one
  | .agg cs => (mL id cs).map .agg
  | _ => none

def mAs (id : Nat) : List AV → Option (List AV)
  | [] => some []
  | c :: r => (mA id c).bind fun d => (mAs id r).map (d :: ·)

theorem mC_ok {F F' : Nat → Prop} {pv : Value} {vs : List Value} {id : Nat} (hF : ∀ b, F b → F' b) (hp : β id = some (pv, vs)) {c d : CV} {v : Value} (h : mC id c = some d) (hc : CR N0 β F w c v) : CR N0 (at0 pv vs) F' w d v := by
  cases c with
  | sc x => cases h; exact hc
  | nil => cases h; exact hc
  | imm k xs => cases h; exact Imm.keep (fun b hb => ⟨hF b hb, rfl⟩) hc
  | ref i =>
    simp only [mC] at h
    split at h
    · rename_i hi; subst hi; cases h
      obtain ⟨us, hu, h1⟩ := hc
      rw [hp] at hu; cases hu
      exact ⟨vs, rfl, h1⟩
    · cases h
  | _ => simp [mC] at h

theorem mL_ok {F F' : Nat → Prop} {pv : Value} {vs : List Value} {id : Nat} (hF : ∀ b, F b → F' b) (hp : β id = some (pv, vs)) : ∀ {cs ds : List CV} {us : List Value}, mL id cs = some ds → All2 (CR N0 β F w) cs us → All2 (CR N0 (at0 pv vs) F' w) ds us
  | [], ds, [], h, _ => by cases h; trivial
  | c :: cs, ds, u :: us, h, ⟨h1, h2⟩ => by
    simp only [mL, Option.bind_eq_some_iff, Option.map_eq_some_iff] at h
    obtain ⟨d, hd, ds', hds, rfl⟩ := h
    exact ⟨mC_ok hF hp hd h1, mL_ok hF hp hds h2⟩
  | [], _, _ :: _, _, h => h.elim
  | _ :: _, _, [], _, h => h.elim

theorem mA_ok {F F' : Nat → Prop} {pv : Value} {vs : List Value} {id : Nat} (hF : ∀ b, F b → F' b) (hp : β id = some (pv, vs)) {c d : AV} {v : Value} (h : mA id c = some d) (hc : AR N0 β F w c v) : AR N0 (at0 pv vs) F' w d v := by
  cases c with
  | one c =>
    simp only [mA, Option.map_eq_some_iff] at h
    obtain ⟨d', hd, rfl⟩ := h
    exact mC_ok hF hp hd hc
  | agg cs =>
    simp only [mA, Option.map_eq_some_iff] at h
    obtain ⟨d', hd, rfl⟩ := h
    obtain ⟨us, h1, h2⟩ := hc
    exact ⟨us, h1, mL_ok hF hp hd h2⟩
  | _ => cases h

theorem mAs_ok {F F' : Nat → Prop} {pv : Value} {vs : List Value} {id : Nat} (hF : ∀ b, F b → F' b) (hp : β id = some (pv, vs)) : ∀ {cs ds : List AV} {us : List Value}, mAs id cs = some ds → All2 (AR N0 β F w) cs us → All2 (AR N0 (at0 pv vs) F' w) ds us
  | [], ds, [], h, _ => by cases h; trivial
  | c :: cs, ds, u :: us, h, ⟨h1, h2⟩ => by
    simp only [mAs, Option.bind_eq_some_iff, Option.map_eq_some_iff] at h
    obtain ⟨d, hd, ds', hds, rfl⟩ := h
    exact ⟨mA_ok hF hp hd h1, mAs_ok hF hp hds h2⟩
  | [], _, _ :: _, _, h => h.elim
  | _ :: _, _, [], _, h => h.elim

theorem EffU_callM (f : FuncId) (fn : Func) (xs : List Operand) (ts : List Nat) (S : SpecM) {o : Oper} (ho : Oper.isCall o f xs ts) (hS : SatM P f S) (hf : P.funcs[f]? = some fn) (hb : fn.body.isNone = false) (hn : (fn.name == "runtime.NumGoroutine") = false)
    (hd : Oper.dstOk o s.n = true) (id : Nat) (ob ob' : Obj) (hob : s.obj id = some ob) (args : List AV) (hargs : mAs id (xs.map s.ev) = some args) (x : Sc) (hSp : S args ob x ob') (hpo : plainO ob = true) (hpo' : plainO ob' = true) :
    EffU P o s { val := .one (.sc x), sets := [(id, some ob')], log := [id] } := by
  intro s2 h1 h2 h3 h4 N0 W0 β a w r K Q hK
  have hops : ∀ x ∈ xs, x ∈ o.op.operands := fun x hx => by
    rw [show o.op = _ from ho]
    simp [Op.operands, Call.operands, hx]
  have hob2 : s2.obj id = some ob := by rw [h3 id (by simp)]; exact hob
  obtain ⟨pv, vs, hp, hat, hbl⟩ := r.obj id ob hob2
  have hF : ∀ b, Free s2 β w b → apart w ob pv vs b := fun b hb => ⟨hb.1, fun hh => hb.2 ⟨id, ob, pv, vs, hob2, hp, hh⟩⟩
  have hall := mAs_ok (id := id) hF hp (by rw [← list_evs h2 hops] at hargs; exact hargs) (all2_ev r xs)
  have hrun : (execOp a.eval o).run P w = .ok (.enter f (xs.map a.eval).toArray) w := by
    have he : execOp a.eval o = callFunc f (#[] ++ (xs.map a.eval).toArray ++ #[]) := by
      unfold execOp
      rw [show o.op = _ from ho]
      simp only [resolve, Act.eval, Deferred.ofValue, List.map_toArray]
      rfl
    rw [he, run_callFunc hf hb hn]
    simp
  unfold Oper.wp
  rw [hrun, Oper.upon_enter]
  refine (hS args ob x ob' hSp N0 w (xs.map a.eval) pv vs r.size0 (objAt_base (Nat.le_refl _) hpo hat) hbl hall).mono ?_
  rintro e w' ⟨rfl, vs', hw⟩
  have r' := r.turn hob2 hp hw hpo'
  refine hK (β.set id (pv, vs')) _ w' ?_
  cases hdst : o.dst with
  | none => exact r'
  | some d =>
    have hv : AR N0 (β.set id (pv, vs')) (Free (s2.setO id ob') (β.set id (pv, vs')) w') w' (.one (.sc x)) x.val := rfl
    exact r'.put (d := d) (by have := Oper.dstOk_spec hd d hdst; show d < s2.n; rw [h1]; exact this) hv

end
end Go.Eng
