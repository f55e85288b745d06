/- The engine, part 1: abstract values, abstract states, and the relation between an abstract state and a frame with its world. No statement of the seed is proved here. -/
import Derived.WalkKit
import Derived.OpenShut
set_option linter.unusedVariables false
namespace Go.Eng
open Go Go.RowKit

/-- One cell of plain data. -/
inductive Sc where
  | int (n : Int)
  | bool (b : Bool)
  | str (s : ByteArray)
  | u8 (n : Int)

def Sc.val : Sc → Value
  | .int n => .int .i64 n
  | .bool b => .bool b
  | .str s => .string s
  | .u8 n => .int .u8 n

abbrev El := List Sc

/-- What one cell may hold. -/
inductive CV where
  | sc (s : Sc)
  | nil
  | imm (k : Nat) (xs : List El)
  | imm2 (xss : List (List El))
  | row (e : Nat) (o : Option (List El))
  | ref (id : Nat)
  | pre (id n : Nat)
  | win (id k l n : Nat)
  | ptr (id k i j : Nat)
  | iptr (cs : List Sc)
  | iprow (xs : List El)
  | fn (f : Nat)

inductive AV where
  | one (c : CV)
  | agg (cs : List CV)
  | tup (vs : List AV)
  | dead

/-- Rows that are the call's alone; rows that the call has made; rows of whatever make. -/
inductive Md where
  | own
  | loc
  | any

inductive Obj where
  | flat (e k : Nat) (xs : List El)
  | rows (e e' : Nat) (m : Md) (xss : List (Option (List El)))
  | cvs (e : Nat) (cs : List CV)
  | zrow (e k : Nat)
  | box (e : Nat) (cs : List CV)
  | pin (S : Nat → Prop) (W : World)
  | stay (id : Nat) (v : Value)

structure AS where
  n : Nat
  env : List (Nat × AV)
  H : List (Nat × Option Obj)
  used : List Nat

def look : List (Nat × AV) → Nat → AV
  | [], _ => .dead
  | (j, v) :: r, k => if j = k then v else look r k

def lookO : List (Nat × Option Obj) → Nat → Option Obj
  | [], _ => none
  | (j, v) :: r, k => if j = k then v else lookO r k

def AS.get (s : AS) (k : Nat) : AV := look s.env k
def AS.obj (s : AS) (id : Nat) : Option Obj := lookO s.H id
def AS.put (s : AS) (d : Nat) (v : AV) : AS := { s with env := (d, v) :: s.env }
def AS.kill (s : AS) (id : Nat) : AS := { s with H := (id, none) :: s.H }
def AS.setO (s : AS) (id : Nat) (o : Obj) : AS := { s with H := (id, some o) :: s.H }
def AS.new (s : AS) (id : Nat) (o : Obj) : AS := { s with H := (id, some o) :: s.H, used := id :: s.used }

abbrev Plc := Nat → Option (Value × List Value)

def cellsOf (xs : List El) : List Value := xs.flatten.map Sc.val

/-- The slice value v: n elements whose cells are cs, read from a block that F lets by. -/
def ImmC (F : Nat → Prop) (w : World) (v : Value) (n : Nat) (cs : List Value) : Prop :=
  ∃ p cap, v = .slice p n cap ∧ n ≤ cap ∧
    (n = 0 ∨ ∃ b off, p = some ⟨b, off, none⟩ ∧ F b ∧ ∀ j u, cs[j]? = some u → w.cell? ⟨b, off + j, none⟩ = some u)

def Flat (k : Nat) (xs : List El) : Prop := ∀ e ∈ xs, e.length = k

def Imm (F : Nat → Prop) (w : World) (k : Nat) (v : Value) (xs : List El) : Prop := ImmC F w v xs.length (cellsOf xs) ∧ Flat k xs

/-- A row that the call has made, read only from now on; strict about nil. -/
def RowL (B : Nat) (F : Nat → Prop) (w : World) (e : Nat) (v : Value) : Option (List El) → Prop
  | none => v = .slice none 0 0
  | some xs => w.ownsRow B e 1 v xs.length (cellsOf xs) ∧ Flat 1 xs ∧ ∃ b n c, v = .slice (some ⟨b, 0, none⟩) n c ∧ F b

/-- A row of whatever make. -/
def RowA (F : Nat → Prop) (w : World) (v : Value) : Option (List El) → Prop
  | none => v = .slice none 0 0
  | some xs => Imm F w 1 v xs

/-- A row that an object holds for itself. -/
def RowO (B : Nat) (w : World) (e : Nat) (v : Value) : Option (List El) → Prop
  | none => v = .slice none 0 0
  | some xs => w.ownsRow B e 1 v xs.length (cellsOf xs) ∧ Flat 1 xs ∧ ∃ b n c, v = .slice (some ⟨b, 0, none⟩) n c

def blockOf : Value → Option Nat
  | .slice (some a) _ _ => some a.block
  | .pointer (some a) => some a.block
  | _ => none

def CR (B : Nat) (β : Plc) (F : Nat → Prop) (w : World) : CV → Value → Prop
  | .sc s, v => v = s.val
  | .nil, v => v = .slice none 0 0
  | .imm k xs, v => Imm F w k v xs
  | .imm2 xss, v => ∃ vs : List Value, vs.length = xss.length ∧ ImmC F w v xss.length vs ∧ ∀ (i : Nat) (u : Value) (xs : List El), vs[i]? = some u → xss[i]? = some xs → Imm F w 1 u xs
  | .row e o, v => RowL B F w e v o
  | .ref id, v => ∃ vs, β id = some (v, vs) ∧ v.oneCell' = true
  | .pre id n, v => ∃ p m cap vs, β id = some (.slice p m cap, vs) ∧ v = .slice p n cap ∧ n ≤ m
  | .win id k l n, v => ∃ p m cap vs, β id = some (.slice p m cap, vs) ∧ l + n ≤ m ∧ ∃ p' cap', v = .slice p' n cap' ∧ n ≤ cap' ∧ (n = 0 ∨ ∃ b, p = some ⟨b, 0, none⟩ ∧ p' = some ⟨b, l * k, none⟩)
  | .ptr id k i j, v => ∃ pv vs b, β id = some (pv, vs) ∧ ((∃ n c, pv = .slice (some ⟨b, 0, none⟩) n c) ∨ pv = .pointer (some ⟨b, 0, none⟩)) ∧ v = .pointer (some ⟨b, i * k + j, none⟩)
  | .iptr cs, v => ∃ b o, v = .pointer (some ⟨b, o, none⟩) ∧ F b ∧ ∀ j s, cs[j]? = some s → w.cell? ⟨b, o + j, none⟩ = some s.val
  | .iprow xs, v => ∃ b o u, v = .pointer (some ⟨b, o, none⟩) ∧ F b ∧ w.cell? ⟨b, o, none⟩ = some u ∧ Imm F w 1 u xs
  | .fn f, v => v = .func (.func f) #[] #[]

/-- Two lists, cell by cell. -/
def All2 {α β : Type} (R : α → β → Prop) : List α → List β → Prop
  | [], [] => True
  | a :: l, b :: m => R a b ∧ All2 R l m
  | _, _ => False

def DR (B : Nat) (β : Plc) (F : Nat → Prop) (w : World) : AV → Value → Prop
  | .one c, v => CR B β F w c v
  | .agg cs, v => ∃ vs : List Value, v = .agg vs.toArray ∧ All2 (CR B β F w) cs vs
  | .tup _, _ => False
  | .dead, _ => True

def AR (B : Nat) (β : Plc) (F : Nat → Prop) (w : World) : AV → Value → Prop
  | .tup vs, v => ∃ us : List Value, v = .tuple us.toArray ∧ All2 (DR B β F w) vs us
  | .one c, v => CR B β F w c v
  | .agg cs, v => ∃ vs : List Value, v = .agg vs.toArray ∧ All2 (CR B β F w) cs vs
  | .dead, _ => True

/-- The blocks that an object holds for itself. -/
def blks (own : Bool) (pv : Value) (vs : List Value) (b : Nat) : Prop :=
  blockOf pv = some b ∨ (own = true ∧ ∃ v ∈ vs, blockOf v = some b)

def Obj.own : Obj → Bool
  | .rows _ _ .own _ => true
  | _ => false

def ObjAt (B : Nat) (β : Plc) (F : Nat → Prop) (w : World) (pv : Value) (vs : List Value) : Obj → Prop
  | .flat e k xs => w.ownsRow B e k pv xs.length (cellsOf xs) ∧ Flat k xs
  | .rows e e' .own xss => w.ownsRow B e 1 pv xss.length vs ∧ All2 (fun o v => RowO B w e' v o) xss vs ∧
      (∀ (i j : Nat) (u v : Value), vs[i]? = some u → vs[j]? = some v → i ≠ j → blockOf u ≠ none → blockOf u ≠ blockOf v) ∧ (∀ v ∈ vs, blockOf v ≠ none → blockOf v ≠ blockOf pv)
  | .rows e e' .loc xss => w.ownsRow B e 1 pv xss.length vs ∧ All2 (fun o v => RowL B F w e' v o) xss vs
  | .rows e _ .any xss => w.ownsRow B e 1 pv xss.length vs ∧ All2 (fun o v => RowA F w v o) xss vs
  | .cvs e cs => w.ownsRow B e 1 pv cs.length vs ∧ All2 (CR B β F w) cs vs
  | .zrow e k => w.ownsRow B e k pv 0 [] ∧ ∃ b n c, pv = .slice (some ⟨b, 0, none⟩) n c
  | .box e cs => ∃ b arr, pv = .pointer (some ⟨b, 0, none⟩) ∧ B ≤ b ∧ w.heap[b]? = some (.cells arr e (0, 0)) ∧ All2 (CR B β F w) cs arr.toList

  | .pin S W => blockOf pv = none ∧ ∀ b, S b → F b ∧ w.heap[b]? = W.heap[b]?
  | .stay id v => blockOf pv = none ∧ ∃ us, β id = some (v, us)

/-- Block b is held by a live object of s. -/
def Held (s : AS) (β : Plc) (b : Nat) : Prop := ∃ id o pv vs, s.obj id = some o ∧ β id = some (pv, vs) ∧ blks o.own pv vs b

def Free (s : AS) (β : Plc) (w : World) (b : Nat) : Prop := b < w.heap.size ∧ ¬ Held s β b

structure Rel (N0 : Nat) (W0 : World) (s : AS) (β : Plc) (a : Act) (w : World) : Prop where
  below : Below N0 W0 w
  size0 : N0 ≤ w.heap.size
  size : a.tmps.size = s.n
  defers : a.defers = []
  env : ∀ k, AR N0 β (Free s β w) w (s.get k) (a.tmps.getD k undef)
  dom : ∀ id, id ∉ s.used → β id = none
  hdom : ∀ id, id ∉ s.used → s.obj id = none
  obj : ∀ id o, s.obj id = some o → ∃ pv vs, β id = some (pv, vs) ∧ ObjAt N0 β (Free s β w) w pv vs o ∧ ∀ b, blks o.own pv vs b → N0 ≤ b ∧ b < w.heap.size
  disj : ∀ id id' o o' pv vs pv' vs' b, s.obj id = some o → s.obj id' = some o' → β id = some (pv, vs) → β id' = some (pv', vs') → blks o.own pv vs b → blks o'.own pv' vs' b → id = id'

/-! ### Small facts -/

theorem All2.mono {α β : Type} {R R' : α → β → Prop} : ∀ {l : List α} {m : List β}, (∀ a b, a ∈ l → b ∈ m → R a b → R' a b) → All2 R l m → All2 R' l m
  | [], [], _, _ => trivial
  | _ :: _, _ :: _, h, ⟨h1, h2⟩ => ⟨h _ _ (by simp) (by simp) h1, All2.mono (fun a b ha hb => h a b (by simp [ha]) (by simp [hb])) h2⟩
  | [], _ :: _, _, h => h.elim
  | _ :: _, [], _, h => h.elim

theorem All2.length {α β : Type} {R : α → β → Prop} : ∀ {l : List α} {m : List β}, All2 R l m → l.length = m.length
  | [], [], _ => rfl
  | _ :: _, _ :: _, ⟨_, h2⟩ => by simp [All2.length h2]
  | [], _ :: _, h => h.elim
  | _ :: _, [], h => h.elim

theorem All2.get {α β : Type} {R : α → β → Prop} : ∀ {l : List α} {m : List β} (i : Nat) {x : α}, All2 R l m → l[i]? = some x → ∃ y, m[i]? = some y ∧ R x y
  | a :: l, b :: m, 0, x, ⟨h1, _⟩, h => by simp at h; subst h; exact ⟨b, by simp, h1⟩
  | a :: l, b :: m, i + 1, x, ⟨_, h2⟩, h => by
    obtain ⟨y, hy, hr⟩ := All2.get (l := l) (m := m) i h2 (by simpa using h)
    exact ⟨y, by simpa using hy, hr⟩
  | [], [], i, x, _, h => by simp at h
  | [], _ :: _, _, _, h, _ => h.elim
  | _ :: _, [], _, _, h, _ => h.elim

theorem All2.set {α β : Type} {R : α → β → Prop} : ∀ {l : List α} {m : List β} (i : Nat) {x : α} {y : β}, All2 R l m → R x y → All2 R (l.set i x) (m.set i y)
  | a :: l, b :: m, 0, x, y, ⟨_, h2⟩, h => ⟨h, h2⟩
  | a :: l, b :: m, i + 1, x, y, ⟨h1, h2⟩, h => ⟨h1, All2.set i h2 h⟩
  | [], [], _, _, _, _, _ => trivial
  | [], _ :: _, _, _, _, h, _ => h.elim
  | _ :: _, [], _, _, _, h, _ => h.elim

theorem All2.app {α β : Type} {R : α → β → Prop} : ∀ {l l' : List α} {m m' : List β}, All2 R l m → All2 R l' m' → All2 R (l ++ l') (m ++ m')
  | [], _, [], _, _, h => h
  | _ :: _, _, _ :: _, _, ⟨h1, h2⟩, h => ⟨h1, All2.app h2 h⟩
  | [], _, _ :: _, _, h, _ => h.elim
  | _ :: _, _, [], _, h, _ => h.elim

section mono
variable {β β' : Plc} {F F' : Nat → Prop} {w w' : World}

/-- What is asked of two places in memory so that all that F lets by reads the same. -/
def Keep (F F' : Nat → Prop) (w w' : World) : Prop := ∀ b, F b → F' b ∧ w'.heap[b]? = w.heap[b]?

theorem Keep.cell (h : Keep F F' w w') {b o : Nat} (hb : F b) : w'.cell? ⟨b, o, none⟩ = w.cell? ⟨b, o, none⟩ :=
  World.cell?_of_block (w := w) (h b hb).2

theorem ImmC.keep (h : Keep F F' w w') {v : Value} {n : Nat} {cs : List Value} (hi : ImmC F w v n cs) : ImmC F' w' v n cs := by
  obtain ⟨p, cap, hv, hn, hc⟩ := hi
  refine ⟨p, cap, hv, hn, hc.imp id ?_⟩
  rintro ⟨b, off, hp, hF, hr⟩
  exact ⟨b, off, hp, (h b hF).1, fun j u hu => by rw [h.cell hF]; exact hr j u hu⟩

theorem Imm.keep (h : Keep F F' w w') {k : Nat} {v : Value} {xs : List El} (hi : Imm F w k v xs) : Imm F' w' k v xs := ⟨hi.1.keep h, hi.2⟩

theorem ownsRow_keep {base e k : Nat} {v : Value} {n : Nat} {xs : List Value} (hk : ∀ b, blockOf v = some b → w'.heap[b]? = w.heap[b]?)
    (h : w.ownsRow base e k v n xs) : w'.ownsRow base e k v n xs := by
  refine ⟨h.1, ?_⟩
  rcases h.2 with hn | ⟨g, cap, cur, hv, hb, hg, rest⟩
  · exact .inl hn
  · exact .inr ⟨g, cap, cur, hv, hb, by rw [hk g (by rw [hv]; rfl)]; exact hg, rest⟩

theorem RowL.keep {B e : Nat} (h : Keep F F' w w') {v : Value} {o : Option (List El)} (hi : RowL B F w e v o) : RowL B F' w' e v o := by
  cases o with
  | none => exact hi
  | some xs =>
    obtain ⟨h1, h2, b, n, c, h3, h4⟩ := hi
    exact ⟨ownsRow_keep (fun b' hb' => by rw [h3] at hb'; cases hb'; exact (h _ h4).2) h1, h2, b, n, c, h3, (h b h4).1⟩

theorem RowA.keep (h : Keep F F' w w') {v : Value} {o : Option (List El)} (hi : RowA F w v o) : RowA F' w' v o := by
  cases o with
  | none => exact hi
  | some xs => exact Imm.keep h hi

theorem CR.keep {B : Nat} (hβ : ∀ id pv vs, β id = some (pv, vs) → ∃ vs', β' id = some (pv, vs')) (h : Keep F F' w w') {c : CV} {v : Value} (hc : CR B β F w c v) : CR B β' F' w' c v := by
  cases c with
  | sc s => exact hc
  | nil => exact hc
  | imm k xs => exact Imm.keep h hc
  | imm2 xss =>
    obtain ⟨vs, h1, h2, h3⟩ := hc
    exact ⟨vs, h1, h2.keep h, fun i u xs hu hx => (h3 i u xs hu hx).keep h⟩
  | row e o => exact RowL.keep h hc
  | ref id => obtain ⟨vs, h1, h2⟩ := hc; obtain ⟨vs', h1'⟩ := hβ _ _ _ h1; exact ⟨vs', h1', h2⟩
  | pre id n => obtain ⟨p, m, cap, vs, h1, h2⟩ := hc; obtain ⟨vs', h1'⟩ := hβ _ _ _ h1; exact ⟨p, m, cap, vs', h1', h2⟩
  | win id k l n => obtain ⟨p, m, cap, vs, h1, h2⟩ := hc; obtain ⟨vs', h1'⟩ := hβ _ _ _ h1; exact ⟨p, m, cap, vs', h1', h2⟩
  | ptr id k i j => obtain ⟨pv, vs, b, h1, h2⟩ := hc; obtain ⟨vs', h1'⟩ := hβ _ _ _ h1; exact ⟨pv, vs', b, h1', h2⟩
  | iptr cs => obtain ⟨b, o, h1, h2, h3⟩ := hc; exact ⟨b, o, h1, (h b h2).1, fun j s hs => by rw [h.cell h2]; exact h3 j s hs⟩
  | iprow xs => obtain ⟨b, o, u, h1, h2, h3, h4⟩ := hc; exact ⟨b, o, u, h1, (h b h2).1, by rw [h.cell h2]; exact h3, h4.keep h⟩
  | fn f => exact hc

theorem DR.keep {B : Nat} (hβ : ∀ id pv vs, β id = some (pv, vs) → ∃ vs', β' id = some (pv, vs')) (h : Keep F F' w w') {c : AV} {v : Value} (hc : DR B β F w c v) : DR B β' F' w' c v := by
  cases c with
  | one c => exact CR.keep hβ h hc
  | agg cs => obtain ⟨vs, h1, h2⟩ := hc; exact ⟨vs, h1, h2.mono fun _ _ _ _ => CR.keep hβ h⟩
  | tup vs => exact hc
  | dead => trivial

theorem AR.keep {B : Nat} (hβ : ∀ id pv vs, β id = some (pv, vs) → ∃ vs', β' id = some (pv, vs')) (h : Keep F F' w w') {c : AV} {v : Value} (hc : AR B β F w c v) : AR B β' F' w' c v := by
  cases c with
  | one c => exact CR.keep hβ h hc
  | agg cs => obtain ⟨vs, h1, h2⟩ := hc; exact ⟨vs, h1, h2.mono fun _ _ _ _ => CR.keep hβ h⟩
  | tup vs => obtain ⟨us, h1, h2⟩ := hc; exact ⟨us, h1, h2.mono fun _ _ _ _ => DR.keep hβ h⟩
  | dead => trivial

theorem ObjAt.keep {B : Nat} (hβ : ∀ id pv vs, β id = some (pv, vs) → ∃ vs', β' id = some (pv, vs')) (h : Keep F F' w w') {pv : Value} {vs : List Value} {o : Obj}
    (hb : ∀ b, blks o.own pv vs b → w'.heap[b]? = w.heap[b]?) (ho : ObjAt B β F w pv vs o) : ObjAt B β' F' w' pv vs o := by
  have hpv : ∀ b, blockOf pv = some b → w'.heap[b]? = w.heap[b]? := fun b hbl => hb b (.inl hbl)
  cases o with
  | flat e k xs => exact ⟨ownsRow_keep hpv ho.1, ho.2⟩
  | rows e e' m xss =>
    cases m with
    | own =>
      obtain ⟨h1, h2, h3, h4⟩ := ho
      refine ⟨ownsRow_keep hpv h1, ?_, h3, h4⟩
      refine h2.mono fun o v ho hv hr => ?_
      cases o with
      | none => exact hr
      | some xs => exact ⟨ownsRow_keep (fun b hbl => hb b (.inr ⟨rfl, v, hv, hbl⟩)) hr.1, hr.2⟩
    | loc => exact ⟨ownsRow_keep hpv ho.1, ho.2.mono fun _ _ _ _ => RowL.keep h⟩
    | any => exact ⟨ownsRow_keep hpv ho.1, ho.2.mono fun _ _ _ _ => RowA.keep h⟩
  | cvs e cs => exact ⟨ownsRow_keep hpv ho.1, ho.2.mono fun _ _ _ _ => CR.keep hβ h⟩
  | zrow e k => exact ⟨ownsRow_keep hpv ho.1, ho.2⟩
  | box e cs =>
    obtain ⟨b, arr, h1, h2, h3, h4⟩ := ho
    refine ⟨b, arr, h1, h2, by rw [hb b (.inl (by rw [h1]; rfl))]; exact h3, h4.mono fun _ _ _ _ => CR.keep hβ h⟩
  | pin S W => exact ⟨ho.1, fun b hs => ⟨(h b (ho.2 b hs).1).1, by rw [(h b (ho.2 b hs).1).2]; exact (ho.2 b hs).2⟩⟩
  | stay id v =>
    obtain ⟨h1, us, h2⟩ := ho
    obtain ⟨us', h3⟩ := hβ _ _ _ h2
    exact ⟨h1, us', h3⟩
end mono

end Go.Eng
