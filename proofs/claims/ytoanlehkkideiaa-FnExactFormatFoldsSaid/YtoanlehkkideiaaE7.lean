/- The engine, part 7: a state that says less, its objects under other numbers. -/
import Derived.Test.YtoanlehkkideiaaE6
set_option linter.unusedVariables false
namespace Go.Eng
open Go Go.RowKit

section
variable {N0 : Nat} {W0 : World} {s s' : AS} {β β' : Plc} {a : Act} {w w' : World} {P : Program}

/-- Where an object of the new state comes from: an object of the old one, its first n elements, nil. -/
inductive Src where
  | obj (id : Nat)
  | cut (id n : Nat)
  | nil

def lookS : List (Nat × Src) → Nat → Option Src
  | [], _ => none
  | (j, v) :: r, k => if j = k then some v else lookS r k

/-- c' of the new state says no more than c of the old one. -/
def CVm (m : List (Nat × Src)) (c c' : CV) : Prop :=
  match c' with
  | .ref i => match lookS m i with
    | some (.obj id) => c = .ref id
    | some (.cut id n) => c = .pre id n
    | some .nil => c = .nil
    | none => False
  | .ptr i k x y => match lookS m i with
    | some (.obj id) => c = .ptr id k x y
    | _ => False
  | .pre .. => False
  | .win .. => False
  | .imm k xs => c = .imm k xs ∨ (k = 1 ∧ ∃ e, c = .row e (some xs)) ∨ (c = .nil ∧ xs = [])
  | c' => c = c'

def AVm (m : List (Nat × Src)) (v v' : AV) : Prop :=
  match v' with
  | .dead => True
  | .one c' => ∃ c, v = .one c ∧ CVm m c c'
  | .agg cs' => ∃ cs, v = .agg cs ∧ All2 (CVm m) cs cs'
  | .tup _ => False

def OBm (m : List (Nat × Src)) (s : AS) (src : Src) (o' : Obj) : Prop :=
  match src with
  | .obj id => match o' with
    | .flat e k xs => s.obj id = some (.flat e k xs) ∨ (s.obj id = some (.zrow e k) ∧ xs = [])
    | .zrow e k => s.obj id = some (.zrow e k)
    | .rows e e' md xss => s.obj id = some (.rows e e' md xss)
    | .cvs e cs' => ∃ cs, s.obj id = some (.cvs e cs) ∧ All2 (CVm m) cs cs'
    | .box e cs' => ∃ cs, s.obj id = some (.box e cs) ∧ All2 (CVm m) cs cs'
    | .pin S W => s.obj id = some (.pin S W)
    | .stay i v => ∃ i0, lookS m i = some (.obj i0) ∧ s.obj id = some (.stay i0 v)
  | .cut id n => ∃ e k xs, s.obj id = some (.flat e k xs) ∧ n ≤ xs.length ∧ o' = .flat e k (xs.take n)
  | .nil => ∃ e k, o' = .flat e k []

def Src.old : Src → Option Nat
  | .obj id => some id
  | .cut id _ => some id
  | .nil => none

/-- Each old object is taken once at most. -/
def distinctB : List (Nat × Src) → Bool
  | [] => true
  | (j, v) :: r => (match v.old with
      | some id => r.all fun p => p.2.old != some id
      | none => true) && r.all (fun p => p.1 != j) && distinctB r

def shorten (n : Nat) : Value → Value
  | .slice p _ c => .slice p n c
  | v => v

def Plc.src (β : Plc) (m : List (Nat × Src)) : Plc := fun i =>
  match lookS m i with
  | some (.obj id) => β id
  | some (.cut id n) => (β id).map fun x => (shorten n x.1, x.2)
  | some .nil => some (.slice none 0 0, [])
  | none => none

theorem lookS_mem {m : List (Nat × Src)} {i : Nat} {x : Src} (h : lookS m i = some x) : (i, x) ∈ m := by
  induction m with
  | nil => cases h
  | cons p r ih =>
    obtain ⟨j, v⟩ := p
    simp only [lookS] at h
    split at h
    · rename_i hj; subst hj; cases h; simp
    · exact List.mem_cons_of_mem _ (ih h)

theorem distinct_old : ∀ {m : List (Nat × Src)}, distinctB m = true → ∀ i i' x x' id, lookS m i = some x → lookS m i' = some x' → x.old = some id → x'.old = some id → i = i' := by
  intro m
  induction m with
  | nil => intro _ i i' x x' id h; cases h
  | cons p r ih =>
    obtain ⟨j, v⟩ := p
    intro hd i i' x x' id h h' ho ho'
    simp only [distinctB, Bool.and_eq_true] at hd
    obtain ⟨⟨h1, h2⟩, h3⟩ := hd
    simp only [lookS] at h h'
    split at h
    · rename_i hj
      cases h
      split at h'
      · rename_i hj'; exact hj.symm.trans hj'
      · exfalso
        rw [ho] at h1
        have := List.all_eq_true.1 h1 _ (lookS_mem h')
        simp [ho'] at this
    · split at h'
      · cases h'
        exfalso
        rw [ho'] at h1
        have := List.all_eq_true.1 h1 _ (lookS_mem h)
        simp [ho] at this
      · exact ih h3 i i' x x' id h h' ho ho'

theorem ownsRow_take {base e k : Nat} {v : Value} {m n : Nat} {xs : List Value} (h : w.ownsRow base e k v m xs) (hn : n ≤ m) : w.ownsRow base e k (shorten n v) n (xs.take (n * k)) := by
  obtain ⟨h1, h2⟩ := h
  refine ⟨by rw [List.length_take, h1]; exact Nat.min_eq_left (Nat.mul_le_mul_right _ hn), ?_⟩
  rcases h2 with ⟨rfl, h0⟩ | ⟨g, cap, cur, rfl, hb, hg, hc, hm, hs, ht⟩
  · have : n = 0 := by omega
    subst this
    exact .inl ⟨rfl, rfl⟩
  · refine .inr ⟨g, cap, cur, rfl, hb, hg, by omega, hm, hs, ?_⟩
    rw [← ht, List.take_take, Nat.min_eq_left (Nat.mul_le_mul_right _ hn)]

theorem cellsOf_take {k : Nat} : ∀ {xs : List El} (n : Nat), Flat k xs → cellsOf (xs.take n) = (cellsOf xs).take (n * k)
  | [], n, _ => by simp [cellsOf]
  | x :: xs, 0, _ => by simp [cellsOf]
  | x :: xs, n + 1, h => by
    have hx : x.length = k := h x (by simp)
    have ih := cellsOf_take (xs := xs) n (fun e he => h e (by simp [he]))
    simp only [cellsOf, List.take_succ_cons, List.flatten_cons, List.map_append] at ih ⊢
    rw [ih, List.take_append, List.length_map, hx]
    have e1 : (n + 1) * k - k = n * k := by rw [Nat.add_mul]; omega
    rw [e1, List.take_of_length_le (l := List.map Sc.val x) (by rw [List.length_map, hx, Nat.add_mul]; omega)]

theorem Flat.take {k : Nat} {xs : List El} (h : Flat k xs) (n : Nat) : Flat k (xs.take n) := fun e he => h e (List.mem_of_mem_take he)

theorem blockOf_shorten (n : Nat) (v : Value) : blockOf (shorten n v) = blockOf v := by
  unfold shorten
  split
  · rename_i p m c; cases p <;> rfl
  · rfl

theorem imm_of_rowL {B e : Nat} {F : Nat → Prop} {v : Value} {xs : List El} (h : RowL B F w e v (some xs)) : Imm F w 1 v xs := by
  obtain ⟨h1, h2, b, n, c, h3, h4⟩ := h
  refine ⟨?_, h2⟩
  rcases h1.2 with ⟨h, _⟩ | ⟨g, cap, cur, hv, hb, hg, hc, hm, hs, ht⟩
  · rw [h3] at h; cases h
  · rw [h3] at hv
    cases hv
    refine ⟨_, _, h3, hc, ?_⟩
    by_cases h0 : xs.length = 0
    · exact .inl h0
    · refine .inr ⟨b, 0, rfl, h4, fun j u hu => ?_⟩
      have hcells := h1.cells (g := b) (by rw [h3]; rfl) j u hu
      have : (⟨b, 0, none⟩ : Addr).add j = ⟨b, 0 + j, none⟩ := Addr.add_lit _ _ _
      rw [this] at hcells
      exact hcells

theorem crm {m : List (Nat × Src)} {B : Nat} {F F' : Nat → Prop} (hF : ∀ b, F b → F' b) {c c' : CV} {v : Value} (hm : CVm m c c') (h : CR B β F w c v) : CR B (β.src m) F' w c' v := by
  have hk : Keep F F' w w := fun b hb => ⟨hF b hb, rfl⟩
  have same : ∀ c, (∀ id, c ≠ .ref id) → (∀ id k i j, c ≠ .ptr id k i j) → (∀ id n, c ≠ .pre id n) → (∀ id k l n, c ≠ .win id k l n) → CR B β F w c v → CR B (β.src m) F' w c v := by
    intro c h1 h2 h3 h4 hc
    cases c with
    | ref id => exact (h1 _ rfl).elim
    | ptr id k i j => exact (h2 _ _ _ _ rfl).elim
    | pre id n => exact (h3 _ _ rfl).elim
    | win id k l n => exact (h4 _ _ _ _ rfl).elim
    | sc s => exact hc
    | nil => exact hc
    | imm k xs => exact Imm.keep hk hc
    | imm2 xss => obtain ⟨vs, a1, a2, a3⟩ := hc; exact ⟨vs, a1, a2.keep hk, fun i u xs hu hx => (a3 i u xs hu hx).keep hk⟩
    | row e o => exact RowL.keep hk hc
    | iptr cs => obtain ⟨b, o, a1, a2, a3⟩ := hc; exact ⟨b, o, a1, hF b a2, a3⟩
    | iprow xs => obtain ⟨b, o, u, a1, a2, a3, a4⟩ := hc; exact ⟨b, o, u, a1, hF b a2, a3, a4.keep hk⟩
    | fn f => exact hc
  cases c' with
  | ref i =>
    simp only [CVm] at hm
    split at hm
    · rename_i id hl
      subst hm
      obtain ⟨vs, hv, h1c⟩ := h
      exact ⟨vs, by simp only [Plc.src, hl]; exact hv, h1c⟩
    · rename_i id n hl
      subst hm
      obtain ⟨p, m', cap, vs, hv, he, hn⟩ := h
      exact ⟨vs, by simp only [Plc.src, hl, hv, Option.map_some, shorten, he], by rw [he]; rfl⟩
    · rename_i hl
      subst hm
      exact ⟨[], by simp only [Plc.src, hl]; rw [show v = _ from h], by rw [show v = _ from h]; rfl⟩
    · exact hm.elim
  | ptr i k x y =>
    simp only [CVm] at hm
    split at hm
    · rename_i id hl
      subst hm
      obtain ⟨pv, vs, b, hv, h2⟩ := h
      exact ⟨pv, vs, b, by simp only [Plc.src, hl]; exact hv, h2⟩
    · exact hm.elim
  | pre id n => exact hm.elim
  | win id k l n => exact hm.elim
  | imm k xs =>
    rcases hm with rfl | ⟨rfl, e, rfl⟩ | ⟨rfl, rfl⟩
    · exact Imm.keep hk h
    · exact Imm.keep hk (imm_of_rowL h)
    · exact ⟨⟨none, 0, h, Nat.zero_le _, .inl rfl⟩, fun e he => by cases he⟩
  | sc s => cases hm; exact h
  | nil => cases hm; exact h
  | imm2 xss => cases hm; exact same _ (by simp) (by simp) (by simp) (by simp) h
  | row e o => cases hm; exact same _ (by simp) (by simp) (by simp) (by simp) h
  | iptr cs => cases hm; exact same _ (by simp) (by simp) (by simp) (by simp) h
  | iprow xs => cases hm; exact same _ (by simp) (by simp) (by simp) (by simp) h
  | fn f => cases hm; exact h

theorem All2.comp {α β γ : Type} {R : α → β → Prop} {S : α → γ → Prop} {T : β → γ → Prop} (h : ∀ a b c, R a b → S a c → T b c) : ∀ {l : List α} {m : List β} {n : List γ}, All2 R l m → All2 S l n → All2 T m n
  | [], [], [], _, _ => trivial
  | _ :: _, _ :: _, _ :: _, ⟨h1, h2⟩, ⟨h3, h4⟩ => ⟨h _ _ _ h1 h3, All2.comp h h2 h4⟩
  | [], [], _ :: _, _, h => h.elim
  | [], _ :: _, _, h, _ => h.elim
  | _ :: _, [], _, h, _ => h.elim
  | _ :: _, _ :: _, [], _, h => h.elim

theorem weak_of (m : List (Nat × Src)) (hn : s'.n = s.n) (hd : distinctB m = true)
    (henv : ∀ p ∈ s'.env, AVm m (s.get p.1) p.2)
    (hobj : ∀ p ∈ s'.H, match p.2 with | none => True | some o' => ∃ src, lookS m p.1 = some src ∧ OBm m s src o')
    (hused : s'.used = m.map (·.1)) : Weak s s' := by
  intro N0 W0 β a w r
  -- the new objects
  have hO : ∀ i o', s'.obj i = some o' → ∃ src, lookS m i = some src ∧ OBm m s src o' := by
    intro i o' h
    unfold AS.obj at h
    generalize hH : s'.H = H at h hobj
    clear hH
    induction H with
    | nil => cases h
    | cons p H ih =>
      obtain ⟨j, v⟩ := p
      rw [lookO_cons] at h
      split at h
      · rename_i hj; subst hj; subst h; exact hobj (j, some o') (by simp)
      · exact ih h (fun p hp => hobj p (by simp [hp]))
  have hE : ∀ k, AVm m (s.get k) (s'.get k) := by
    intro k
    unfold AS.get
    generalize hH : s'.env = E at henv
    clear hH
    induction E with
    | nil => trivial
    | cons p E ih =>
      obtain ⟨j, v⟩ := p
      rw [look_cons]
      split
      · rename_i hj; subst hj; exact henv (j, v) (by simp)
      · exact ih fun p hp => henv p (by simp [hp])
  -- what each new object was
  have hold : ∀ i o', s'.obj i = some o' → ∀ pv vs, (β.src m) i = some (pv, vs) → (∃ e k, pv = .slice none 0 0 ∧ o' = .flat e k []) ∨
      ∃ id o pv0, (lookS m i).bind Src.old = some id ∧ s.obj id = some o ∧ β id = some (pv0, vs) ∧ blockOf pv = blockOf pv0 ∧ o'.own = o.own := by
    intro i o' h pv vs hp
    obtain ⟨src, hl, hm⟩ := hO i o' h
    cases src with
    | obj id =>
      simp only [Plc.src, hl] at hp
      refine .inr ⟨id, ?_⟩
      cases o' with
      | flat e k xs =>
        rcases hm with hm | ⟨hm, _⟩
        · exact ⟨_, pv, by rw [hl]; rfl, hm, hp, rfl, rfl⟩
        · exact ⟨_, pv, by rw [hl]; rfl, hm, hp, rfl, rfl⟩
      | zrow e k => exact ⟨_, pv, by rw [hl]; rfl, hm, hp, rfl, rfl⟩
      | rows e e' md xss => exact ⟨_, pv, by rw [hl]; rfl, hm, hp, rfl, rfl⟩
      | cvs e cs => obtain ⟨cs0, h1, _⟩ := hm; exact ⟨_, pv, by rw [hl]; rfl, h1, hp, rfl, rfl⟩
      | box e cs => obtain ⟨cs0, h1, _⟩ := hm; exact ⟨_, pv, by rw [hl]; rfl, h1, hp, rfl, rfl⟩
      | pin S W => exact ⟨_, pv, by rw [hl]; rfl, hm, hp, rfl, rfl⟩
      | stay i v => obtain ⟨i0, _, hm⟩ := hm; exact ⟨_, pv, by rw [hl]; rfl, hm, hp, rfl, rfl⟩
    | cut id n =>
      obtain ⟨e, k, xs, h1, h2, rfl⟩ := hm
      obtain ⟨pv0, vs0, hp0, _⟩ := r.obj id _ h1
      simp only [Plc.src, hl, hp0, Option.map_some, Option.some.injEq, Prod.mk.injEq] at hp
      obtain ⟨rfl, rfl⟩ := hp
      exact .inr ⟨id, _, pv0, by rw [hl]; rfl, h1, hp0, blockOf_shorten _ _, rfl⟩
    | nil =>
      obtain ⟨e, k, rfl⟩ := hm
      simp only [Plc.src, hl, Option.some.injEq, Prod.mk.injEq] at hp
      exact .inl ⟨e, k, hp.1.symm, rfl⟩
  have hheld : ∀ b, Held s' (β.src m) b → Held s β b := by
    rintro b ⟨i, o', pv, vs, h, hp, hb⟩
    rcases hold i o' h pv vs hp with ⟨e, k, rfl, rfl⟩ | ⟨id, o, pv0, hl, ho, hp0, hbl, hown⟩
    · rcases hb with hb | ⟨hb, _⟩
      · cases hb
      · cases hb
    · refine ⟨id, o, pv0, vs, ho, hp0, ?_⟩
      unfold blks at hb ⊢
      rw [← hbl, ← hown]
      exact hb
  have hF : ∀ b, Free s β w b → Free s' (β.src m) w b := fun b hb => ⟨hb.1, fun hh => hb.2 (hheld b hh)⟩
  have hlnone : ∀ i, i ∉ s'.used → lookS m i = none := by
    intro i hi
    cases hl : lookS m i with
    | none => rfl
    | some src => exfalso; apply hi; rw [hused]; exact List.mem_map.2 ⟨_, lookS_mem hl, rfl⟩
  refine ⟨β.src m, ?_⟩
  exact {
    below := r.below
    size0 := r.size0
    size := by rw [hn]; exact r.size
    defers := r.defers
    env := fun k => by
      have h1 := hE k
      have h2 := r.env k
      cases hv : s'.get k with
      | dead => trivial
      | one c' =>
        rw [hv] at h1
        obtain ⟨c, hc, hm⟩ := h1
        rw [hc] at h2
        exact crm hF hm h2
      | agg cs' =>
        rw [hv] at h1
        obtain ⟨cs, hc, hm⟩ := h1
        rw [hc] at h2
        obtain ⟨vs, h3, h4⟩ := h2
        exact ⟨vs, h3, All2.comp (R := CVm m) (S := CR N0 β (Free s β w) w) (T := CR N0 (β.src m) (Free s' (β.src m) w) w) (fun a b c h5 h6 => crm hF h5 h6) hm h4⟩
      | tup vs => rw [hv] at h1; exact h1.elim
    dom := fun i hi => by simp only [Plc.src, hlnone i hi]
    hdom := fun i hi => by
      cases ho : s'.obj i with
      | none => rfl
      | some o' => obtain ⟨src, hl, _⟩ := hO i o' ho; rw [hlnone i hi] at hl; cases hl
    obj := fun i o' h => by
      obtain ⟨src, hl, hm⟩ := hO i o' h
      have hk : Keep (Free s β w) (Free s' (β.src m) w) w w := fun b hb => ⟨hF b hb, rfl⟩
      cases src with
      | obj id =>
        have hβ : (β.src m) i = β id := by simp only [Plc.src, hl]
        cases o' with
        | flat e k xs =>
          rcases hm with hm | ⟨hm, rfl⟩
          · obtain ⟨pv, vs, hp, hat, hb⟩ := r.obj id _ hm; exact ⟨pv, vs, by rw [hβ]; exact hp, hat, hb⟩
          · obtain ⟨pv, vs, hp, hat, hb⟩ := r.obj id _ hm; exact ⟨pv, vs, by rw [hβ]; exact hp, ⟨hat.1, fun e he => by cases he⟩, hb⟩
        | zrow e k => obtain ⟨pv, vs, hp, hat, hb⟩ := r.obj id _ hm; exact ⟨pv, vs, by rw [hβ]; exact hp, hat, hb⟩
        | rows e e' md xss =>
          obtain ⟨pv, vs, hp, hat, hb⟩ := r.obj id _ hm
          refine ⟨pv, vs, by rw [hβ]; exact hp, ?_, hb⟩
          cases md with
          | own => exact hat
          | loc => exact ⟨hat.1, hat.2.mono fun _ _ _ _ => RowL.keep hk⟩
          | any => exact ⟨hat.1, hat.2.mono fun _ _ _ _ => RowA.keep hk⟩
        | cvs e cs' =>
          obtain ⟨cs, h1, h2⟩ := hm
          obtain ⟨pv, vs, hp, hat, hb⟩ := r.obj id _ h1
          have hat2 : w.ownsRow N0 e 1 pv cs'.length vs := by rw [← h2.length]; exact hat.1
          exact ⟨pv, vs, by rw [hβ]; exact hp, ⟨hat2, All2.comp (R := CVm m) (S := CR N0 β (Free s β w) w) (T := CR N0 (β.src m) (Free s' (β.src m) w) w) (fun a b c h5 h6 => crm hF h5 h6) h2 hat.2⟩, hb⟩
        | box e cs' =>
          obtain ⟨cs, h1, h2⟩ := hm
          obtain ⟨pv, vs, hp, hat, hb⟩ := r.obj id _ h1
          obtain ⟨b, arr, a1, a2, a3, a4⟩ := hat
          exact ⟨pv, vs, by rw [hβ]; exact hp, ⟨b, arr, a1, a2, a3, All2.comp (R := CVm m) (S := CR N0 β (Free s β w) w) (T := CR N0 (β.src m) (Free s' (β.src m) w) w) (fun a b c h5 h6 => crm hF h5 h6) h2 a4⟩, hb⟩
        | pin S W =>
          obtain ⟨pv, vs, hp, hat, hb⟩ := r.obj id _ hm
          exact ⟨pv, vs, by rw [hβ]; exact hp, ⟨hat.1, fun b hs => ⟨hF b (hat.2 b hs).1, (hat.2 b hs).2⟩⟩, hb⟩
        | stay i v =>
          obtain ⟨i0, hi, hm⟩ := hm
          obtain ⟨pv, vs, hp, hat, hb⟩ := r.obj id _ hm
          obtain ⟨h1, us, h2⟩ := hat
          exact ⟨pv, vs, by rw [hβ]; exact hp, ⟨h1, us, by simp only [Plc.src, hi]; exact h2⟩, hb⟩
      | cut id n =>
        obtain ⟨e, k, xs, h1, h2, rfl⟩ := hm
        obtain ⟨pv, vs, hp, hat, hb⟩ := r.obj id _ h1
        refine ⟨shorten n pv, vs, by simp only [Plc.src, hl, hp, Option.map_some], ⟨?_, hat.2.take n⟩, fun b hbb => hb b ?_⟩
        · rw [cellsOf_take n hat.2]
          have := ownsRow_take hat.1 h2
          have hlen : (xs.take n).length = n := by simp; omega
          rw [hlen]
          exact this
        · unfold blks at hbb ⊢
          rw [blockOf_shorten] at hbb
          exact hbb
      | nil =>
        obtain ⟨e, k, rfl⟩ := hm
        refine ⟨.slice none 0 0, [], by simp only [Plc.src, hl], ⟨World.ownsRow_nil w N0 e k, fun e he => by cases he⟩, fun b hb => ?_⟩
        rcases hb with hb | ⟨hb, _⟩
        · cases hb
        · cases hb
    disj := fun i i' o o' pv vs pv' vs' b h h' hp hp' hb hb' => by
      rcases hold i o h pv vs hp with ⟨e, k, rfl, rfl⟩ | ⟨id, o1, pv1, hl1, ho1, hp1, hbl1, hown1⟩
      · rcases hb with hb | ⟨hb, _⟩
        · cases hb
        · cases hb
      · rcases hold i' o' h' pv' vs' hp' with ⟨e, k, rfl, rfl⟩ | ⟨id2, o2, pv2, hl2, ho2, hp2, hbl2, hown2⟩
        · rcases hb' with hb' | ⟨hb', _⟩
          · cases hb'
          · cases hb'
        · have e1 : id = id2 := r.disj id id2 o1 o2 pv1 vs pv2 vs' b ho1 ho2 hp1 hp2 (by unfold blks at hb ⊢; rw [← hbl1, ← hown1]; exact hb) (by unfold blks at hb' ⊢; rw [← hbl2, ← hown2]; exact hb')
          subst e1
          obtain ⟨x, hx, hxo⟩ := Option.bind_eq_some_iff.1 hl1
          obtain ⟨x', hx', hxo'⟩ := Option.bind_eq_some_iff.1 hl2
          exact distinct_old hd i i' x x' id hx hx' hxo hxo' }

end
end Go.Eng
