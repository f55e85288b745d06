import Derived.WalkKit
import Derived.OpenShut
import Derived.Orders
import Derived.Deep.LoopGhost
import Derived.WalkSpells
import Derived.WalkLawsBesides
set_option linter.unusedVariables false
set_option linter.unusedSimpArgs false
set_option linter.unnecessarySimpa false
/- The engine, part 1: abstract values, abstract states, and the relation between an abstract state and a frame with its world. No statement of the seed is proved here. -/
set_option linter.unusedVariables false
namespace Go.Eng
open Go Go.RowKit

/-- One cell of plain data. -/
inductive Sc where
  | int (n : Int)
  | bool (b : Bool)
  | str (s : ByteArray)
  | u8 (n : Int)

def Sc.val : Sc → Value
  | .int n => .int .i64 n
  | .bool b => .bool b
  | .str s => .string s
  | .u8 n => .int .u8 n

abbrev El := List Sc

/-- What one cell may hold. -/
inductive CV where
  | sc (s : Sc)
  | nil
  | imm (k : Nat) (xs : List El)
  | imm2 (xss : List (List El))
  | row (e : Nat) (o : Option (List El))
  | ref (id : Nat)
  | pre (id n : Nat)
  | win (id k l n : Nat)
  | ptr (id k i j : Nat)
  | iptr (cs : List Sc)
  | iprow (xs : List El)
  | fn (f : Nat)
  | clo (f id : Nat)
  | val (v : Value)
  | iv (u : Value) (k : Nat) (xs : List El)

inductive AV where
  | one (c : CV)
  | agg (cs : List CV)
  | tup (vs : List AV)
  | dead

/-- Rows that are the call's alone; rows that the call has made; rows of whatever make. -/
inductive Md where
  | own (st : Bool)
  | loc (st : Bool)
  | any

inductive Obj where
  | flat (e k : Nat) (xs : List El)
  | rows (e e' : Nat) (m : Md) (xss : List (Option (List El)))
  | cvs (e : Nat) (cs : List CV)
  | zrow (e k : Nat)
  | box (e : Nat) (cs : List CV)
  | pin (S : Nat → Prop) (W : World)
  | stay (id : Nat) (v : Value)
  | rowsV (e e' : Nat) (st : Bool) (xss : List (Option (List El))) (vs : List Value)
  | res (L : List Nat) (W : World)
  | rowsS (e e' : Nat) (u : Value) (l n : Nat) (xss : List (Option (List El)))
  | rowsD (e e' : Nat) (xss : List (Option (List El)))

structure AS where
  n : Nat
  env : List (Nat × AV)
  H : List (Nat × Option Obj)
  used : List Nat

def look : List (Nat × AV) → Nat → AV
  | [], _ => .dead
  | (j, v) :: r, k => if j = k then v else look r k

def lookO : List (Nat × Option Obj) → Nat → Option Obj
  | [], _ => none
  | (j, v) :: r, k => if j = k then v else lookO r k

def AS.get (s : AS) (k : Nat) : AV := look s.env k
def AS.obj (s : AS) (id : Nat) : Option Obj := lookO s.H id
def AS.put (s : AS) (d : Nat) (v : AV) : AS := { s with env := (d, v) :: s.env }
def AS.kill (s : AS) (id : Nat) : AS := { s with H := (id, none) :: s.H }
def AS.setO (s : AS) (id : Nat) (o : Obj) : AS := { s with H := (id, some o) :: s.H }
def AS.new (s : AS) (id : Nat) (o : Obj) : AS := { s with H := (id, some o) :: s.H, used := id :: s.used }

abbrev Plc := Nat → Option (Value × List Value)

def cellsOf (xs : List El) : List Value := xs.flatten.map Sc.val

/-- The slice value v: n elements whose cells are cs, read from a block that F lets by. -/
def ImmC (F : Nat → Prop) (w : World) (v : Value) (n : Nat) (cs : List Value) : Prop :=
  ∃ p cap, v = .slice p n cap ∧ n ≤ cap ∧
    (n = 0 ∨ ∃ b off, p = some ⟨b, off, none⟩ ∧ F b ∧ ∀ j u, cs[j]? = some u → w.cell? ⟨b, off + j, none⟩ = some u)

def Flat (k : Nat) (xs : List El) : Prop := ∀ e ∈ xs, e.length = k

def Imm (F : Nat → Prop) (w : World) (k : Nat) (v : Value) (xs : List El) : Prop := ImmC F w v xs.length (cellsOf xs) ∧ Flat k xs

/-- Not nil. -/
def Full (v : Value) : Prop := ∃ b n c, v = .slice (some ⟨b, 0, none⟩) n c

def blockOf : Value → Option Nat
  | .slice (some a) _ _ => some a.block
  | .pointer (some a) => some a.block
  | _ => none

/-- A row that the call has made, read only from now on; st: strict about nil. -/
def RowL (B : Nat) (F : Nat → Prop) (w : World) (e : Nat) (st : Bool) (v : Value) : Option (List El) → Prop
  | none => v = .slice none 0 0
  | some xs => w.ownsRow B e 1 v xs.length (cellsOf xs) ∧ Flat 1 xs ∧ (st = true → Full v) ∧ ∀ b, blockOf v = some b → F b

/-- A row of whatever make. -/
def RowA (F : Nat → Prop) (w : World) (v : Value) : Option (List El) → Prop
  | none => v = .slice none 0 0
  | some xs => Imm F w 1 v xs

/-- A row that an object holds for itself. -/
def RowO (B : Nat) (w : World) (e : Nat) (st : Bool) (v : Value) : Option (List El) → Prop
  | none => v = .slice none 0 0
  | some xs => w.ownsRow B e 1 v xs.length (cellsOf xs) ∧ Flat 1 xs ∧ (st = true → Full v)

def CR (B : Nat) (β : Plc) (F : Nat → Prop) (w : World) : CV → Value → Prop
  | .sc s, v => v = s.val
  | .nil, v => v = .slice none 0 0
  | .imm k xs, v => Imm F w k v xs
  | .imm2 xss, v => ∃ vs : List Value, vs.length = xss.length ∧ ImmC F w v xss.length vs ∧ ∀ (i : Nat) (u : Value) (xs : List El), vs[i]? = some u → xss[i]? = some xs → Imm F w 1 u xs
  | .row e o, v => RowL B F w e true v o
  | .ref id, v => ∃ vs, β id = some (v, vs) ∧ v.oneCell' = true
  | .pre id n, v => ∃ p m cap vs, β id = some (.slice p m cap, vs) ∧ v = .slice p n cap ∧ n ≤ m
  | .win id k l n, v => ∃ p m cap vs, β id = some (.slice p m cap, vs) ∧ l + n ≤ m ∧ ∃ p' cap', v = .slice p' n cap' ∧ n ≤ cap' ∧ (n = 0 ∨ ∃ b, p = some ⟨b, 0, none⟩ ∧ p' = some ⟨b, l * k, none⟩)
  | .ptr id k i j, v => ∃ pv vs b, β id = some (pv, vs) ∧ ((∃ n c, pv = .slice (some ⟨b, 0, none⟩) n c) ∨ pv = .pointer (some ⟨b, 0, none⟩)) ∧ v = .pointer (some ⟨b, i * k + j, none⟩)
  | .iptr cs, v => ∃ b o, v = .pointer (some ⟨b, o, none⟩) ∧ F b ∧ ∀ j s, cs[j]? = some s → w.cell? ⟨b, o + j, none⟩ = some s.val
  | .iprow xs, v => ∃ b o u, v = .pointer (some ⟨b, o, none⟩) ∧ F b ∧ w.cell? ⟨b, o, none⟩ = some u ∧ Imm F w 1 u xs
  | .fn f, v => v = .func (.func f) #[] #[]
  | .clo f id, v => ∃ pv vs b, β id = some (pv, vs) ∧ pv = .pointer (some ⟨b, 0, none⟩) ∧ v = .func (.func f) #[] #[.pointer (some ⟨b, 0, none⟩)]
  | .val u, v => v = u ∧ u.oneCell' = true
  | .iv u k xs, v => v = u ∧ Imm F w k v xs

/-- Two lists, cell by cell. -/
def All2 {α β : Type} (R : α → β → Prop) : List α → List β → Prop
  | [], [] => True
  | a :: l, b :: m => R a b ∧ All2 R l m
  | _, _ => False

def DR (B : Nat) (β : Plc) (F : Nat → Prop) (w : World) : AV → Value → Prop
  | .one c, v => CR B β F w c v
  | .agg cs, v => ∃ vs : List Value, v = .agg vs.toArray ∧ All2 (CR B β F w) cs vs
  | .tup _, _ => False
  | .dead, _ => True

def AR (B : Nat) (β : Plc) (F : Nat → Prop) (w : World) : AV → Value → Prop
  | .tup vs, v => ∃ us : List Value, v = .tuple us.toArray ∧ All2 (DR B β F w) vs us
  | .one c, v => CR B β F w c v
  | .agg cs, v => ∃ vs : List Value, v = .agg vs.toArray ∧ All2 (CR B β F w) cs vs
  | .dead, _ => True

/-- The blocks that an object holds for itself. -/
def blks (own : Bool) (pv : Value) (vs : List Value) (b : Nat) : Prop :=
  blockOf pv = some b ∨ (own = true ∧ ∃ v ∈ vs, blockOf v = some b)

def Obj.own : Obj → Bool
  | .rows _ _ (.own _) _ => true
  | .rowsV _ _ _ _ _ => true
  | .res _ _ => true
  | _ => false

/-- No two of the rows lie in one block. -/
def Asunder (vs : List Value) : Prop := ∀ (i j : Nat) (u v : Value), vs[i]? = some u → vs[j]? = some v → i ≠ j → blockOf u ≠ none → blockOf u ≠ blockOf v

def ObjAt (B : Nat) (β : Plc) (F : Nat → Prop) (w : World) (pv : Value) (vs : List Value) : Obj → Prop
  | .flat e k xs => w.ownsRow B e k pv xs.length (cellsOf xs) ∧ Flat k xs
  | .rows e e' (.own st) xss => w.ownsRow B e 1 pv xss.length vs ∧ All2 (fun o v => RowO B w e' st v o) xss vs ∧
      Asunder vs ∧ (∀ v ∈ vs, blockOf v ≠ none → blockOf v ≠ blockOf pv)
  | .rows e e' (.loc st) xss => w.ownsRow B e 1 pv xss.length vs ∧ All2 (fun o v => RowL B F w e' st v o) xss vs ∧ Asunder vs
  | .rows e _ .any xss => w.ownsRow B e 1 pv xss.length vs ∧ All2 (fun o v => RowA F w v o) xss vs
  | .cvs e cs => w.ownsRow B e 1 pv cs.length vs ∧ All2 (CR B β F w) cs vs
  | .zrow e k => w.ownsRow B e k pv 0 [] ∧ ∃ b n c, pv = .slice (some ⟨b, 0, none⟩) n c
  | .box e cs => ∃ b arr, pv = .pointer (some ⟨b, 0, none⟩) ∧ B ≤ b ∧ w.heap[b]? = some (.cells arr e (0, 0)) ∧ All2 (CR B β F w) cs arr.toList

  | .pin S W => blockOf pv = none ∧ ∀ b, S b → F b ∧ w.heap[b]? = W.heap[b]?
  | .stay id v => blockOf pv = none ∧ ∃ us, β id = some (v, us)
  | .res L W => blockOf pv = none ∧ vs = L.map (fun b => .pointer (some ⟨b, 0, none⟩)) ∧ ∀ b ∈ L, w.heap[b]? = W.heap[b]?
  | .rowsV e e' st xss us => vs = us ∧ w.ownsRow B e 1 pv xss.length vs ∧ All2 (fun o v => RowO B w e' st v o) xss vs ∧
      Asunder vs ∧ (∀ v ∈ vs, blockOf v ≠ none → blockOf v ≠ blockOf pv)
  | .rowsD e e' xss => w.ownsRow B e 1 pv xss.length vs ∧ All2 (fun o v => RowL B F w e' false v o) xss vs
  | .rowsS e e' u l n xss => (w.ownsRow B e 1 pv xss.length vs ∧ All2 (fun o v => RowL B F w e' true v o) xss vs ∧ Asunder vs) ∧ l + n ≤ xss.length ∧
      ∃ p cap, u = .slice p n cap ∧ n ≤ cap ∧ (n = 0 ∨ ∃ b off, p = some ⟨b, off, none⟩ ∧ ((blockOf pv = some b ∧ off = l) ∨ (F b ∧ ∀ j x, j < n → vs[l + j]? = some x → w.cell? ⟨b, off + j, none⟩ = some x)))

/-- Block b is held by a live object of s. -/
def Held (s : AS) (β : Plc) (b : Nat) : Prop := ∃ id o pv vs, s.obj id = some o ∧ β id = some (pv, vs) ∧ blks o.own pv vs b

def Free (s : AS) (β : Plc) (w : World) (b : Nat) : Prop := b < w.heap.size ∧ ¬ Held s β b

structure Rel (N0 : Nat) (W0 : World) (s : AS) (β : Plc) (a : Act) (w : World) : Prop where
  below : Below N0 W0 w
  size0 : N0 ≤ w.heap.size
  size : a.tmps.size = s.n
  defers : a.defers = []
  env : ∀ k, AR N0 β (Free s β w) w (s.get k) (a.tmps.getD k undef)
  dom : ∀ id, id ∉ s.used → β id = none
  hdom : ∀ id, id ∉ s.used → s.obj id = none
  obj : ∀ id o, s.obj id = some o → ∃ pv vs, β id = some (pv, vs) ∧ ObjAt N0 β (Free s β w) w pv vs o ∧ ∀ b, blks o.own pv vs b → N0 ≤ b ∧ b < w.heap.size
  disj : ∀ id id' o o' pv vs pv' vs' b, s.obj id = some o → s.obj id' = some o' → β id = some (pv, vs) → β id' = some (pv', vs') → blks o.own pv vs b → blks o'.own pv' vs' b → id = id'

/-! ### Small facts -/

theorem All2.mono {α β : Type} {R R' : α → β → Prop} : ∀ {l : List α} {m : List β}, (∀ a b, a ∈ l → b ∈ m → R a b → R' a b) → All2 R l m → All2 R' l m
  | [], [], _, _ => trivial
  | _ :: _, _ :: _, h, ⟨h1, h2⟩ => ⟨h _ _ (by simp) (by simp) h1, All2.mono (fun a b ha hb => h a b (by simp [ha]) (by simp [hb])) h2⟩
  | [], _ :: _, _, h => h.elim
  | _ :: _, [], _, h => h.elim

theorem All2.length {α β : Type} {R : α → β → Prop} : ∀ {l : List α} {m : List β}, All2 R l m → l.length = m.length
  | [], [], _ => rfl
  | _ :: _, _ :: _, ⟨_, h2⟩ => by simp [All2.length h2]
  | [], _ :: _, h => h.elim
  | _ :: _, [], h => h.elim

theorem All2.get {α β : Type} {R : α → β → Prop} : ∀ {l : List α} {m : List β} (i : Nat) {x : α}, All2 R l m → l[i]? = some x → ∃ y, m[i]? = some y ∧ R x y
  | a :: l, b :: m, 0, x, ⟨h1, _⟩, h => by simp at h; subst h; exact ⟨b, by simp, h1⟩
  | a :: l, b :: m, i + 1, x, ⟨_, h2⟩, h => by
    obtain ⟨y, hy, hr⟩ := All2.get (l := l) (m := m) i h2 (by simpa using h)
    exact ⟨y, by simpa using hy, hr⟩
  | [], [], i, x, _, h => by simp at h
  | [], _ :: _, _, _, h, _ => h.elim
  | _ :: _, [], _, _, h, _ => h.elim

theorem All2.set {α β : Type} {R : α → β → Prop} : ∀ {l : List α} {m : List β} (i : Nat) {x : α} {y : β}, All2 R l m → R x y → All2 R (l.set i x) (m.set i y)
  | a :: l, b :: m, 0, x, y, ⟨_, h2⟩, h => ⟨h, h2⟩
  | a :: l, b :: m, i + 1, x, y, ⟨h1, h2⟩, h => ⟨h1, All2.set i h2 h⟩
  | [], [], _, _, _, _, _ => trivial
  | [], _ :: _, _, _, _, h, _ => h.elim
  | _ :: _, [], _, _, _, h, _ => h.elim

theorem All2.app {α β : Type} {R : α → β → Prop} : ∀ {l l' : List α} {m m' : List β}, All2 R l m → All2 R l' m' → All2 R (l ++ l') (m ++ m')
  | [], _, [], _, _, h => h
  | _ :: _, _, _ :: _, _, ⟨h1, h2⟩, h => ⟨h1, All2.app h2 h⟩
  | [], _, _ :: _, _, h, _ => h.elim
  | _ :: _, _, [], _, h, _ => h.elim

section mono
variable {β β' : Plc} {F F' : Nat → Prop} {w w' : World}

/-- What is asked of two places in memory so that all that F lets by reads the same. -/
def Keep (F F' : Nat → Prop) (w w' : World) : Prop := ∀ b, F b → F' b ∧ w'.heap[b]? = w.heap[b]?

theorem Keep.cell (h : Keep F F' w w') {b o : Nat} (hb : F b) : w'.cell? ⟨b, o, none⟩ = w.cell? ⟨b, o, none⟩ :=
  World.cell?_of_block (w := w) (h b hb).2

theorem ImmC.keep (h : Keep F F' w w') {v : Value} {n : Nat} {cs : List Value} (hi : ImmC F w v n cs) : ImmC F' w' v n cs := by
  obtain ⟨p, cap, hv, hn, hc⟩ := hi
  refine ⟨p, cap, hv, hn, hc.imp id ?_⟩
  rintro ⟨b, off, hp, hF, hr⟩
  exact ⟨b, off, hp, (h b hF).1, fun j u hu => by rw [h.cell hF]; exact hr j u hu⟩

theorem Imm.keep (h : Keep F F' w w') {k : Nat} {v : Value} {xs : List El} (hi : Imm F w k v xs) : Imm F' w' k v xs := ⟨hi.1.keep h, hi.2⟩

theorem ownsRow_keep {base e k : Nat} {v : Value} {n : Nat} {xs : List Value} (hk : ∀ b, blockOf v = some b → w'.heap[b]? = w.heap[b]?)
    (h : w.ownsRow base e k v n xs) : w'.ownsRow base e k v n xs := by
  refine ⟨h.1, ?_⟩
  rcases h.2 with hn | ⟨g, cap, cur, hv, hb, hg, rest⟩
  · exact .inl hn
  · exact .inr ⟨g, cap, cur, hv, hb, by rw [hk g (by rw [hv]; rfl)]; exact hg, rest⟩

theorem RowL.keep {B e : Nat} {st : Bool} (h : Keep F F' w w') {v : Value} {o : Option (List El)} (hi : RowL B F w e st v o) : RowL B F' w' e st v o := by
  cases o with
  | none => exact hi
  | some xs =>
    obtain ⟨h1, h2, h3, h4⟩ := hi
    exact ⟨ownsRow_keep (fun b' hb' => (h _ (h4 b' hb')).2) h1, h2, h3, fun b hb => (h b (h4 b hb)).1⟩

theorem RowA.keep (h : Keep F F' w w') {v : Value} {o : Option (List El)} (hi : RowA F w v o) : RowA F' w' v o := by
  cases o with
  | none => exact hi
  | some xs => exact Imm.keep h hi

theorem CR.keep {B : Nat} (hβ : ∀ id pv vs, β id = some (pv, vs) → ∃ vs', β' id = some (pv, vs')) (h : Keep F F' w w') {c : CV} {v : Value} (hc : CR B β F w c v) : CR B β' F' w' c v := by
  cases c with
  | sc s => exact hc
  | nil => exact hc
  | imm k xs => exact Imm.keep h hc
  | imm2 xss =>
    obtain ⟨vs, h1, h2, h3⟩ := hc
    exact ⟨vs, h1, h2.keep h, fun i u xs hu hx => (h3 i u xs hu hx).keep h⟩
  | row e o => exact RowL.keep h hc
  | ref id => obtain ⟨vs, h1, h2⟩ := hc; obtain ⟨vs', h1'⟩ := hβ _ _ _ h1; exact ⟨vs', h1', h2⟩
  | pre id n => obtain ⟨p, m, cap, vs, h1, h2⟩ := hc; obtain ⟨vs', h1'⟩ := hβ _ _ _ h1; exact ⟨p, m, cap, vs', h1', h2⟩
  | win id k l n => obtain ⟨p, m, cap, vs, h1, h2⟩ := hc; obtain ⟨vs', h1'⟩ := hβ _ _ _ h1; exact ⟨p, m, cap, vs', h1', h2⟩
  | ptr id k i j => obtain ⟨pv, vs, b, h1, h2⟩ := hc; obtain ⟨vs', h1'⟩ := hβ _ _ _ h1; exact ⟨pv, vs', b, h1', h2⟩
  | iptr cs => obtain ⟨b, o, h1, h2, h3⟩ := hc; exact ⟨b, o, h1, (h b h2).1, fun j s hs => by rw [h.cell h2]; exact h3 j s hs⟩
  | iprow xs => obtain ⟨b, o, u, h1, h2, h3, h4⟩ := hc; exact ⟨b, o, u, h1, (h b h2).1, by rw [h.cell h2]; exact h3, h4.keep h⟩
  | fn f => exact hc
  | clo f id => obtain ⟨pv, vs, b, h1, h2⟩ := hc; obtain ⟨vs', h1'⟩ := hβ _ _ _ h1; exact ⟨pv, vs', b, h1', h2⟩
  | val u => exact hc
  | iv u k xs => exact ⟨hc.1, hc.2.keep h⟩

theorem DR.keep {B : Nat} (hβ : ∀ id pv vs, β id = some (pv, vs) → ∃ vs', β' id = some (pv, vs')) (h : Keep F F' w w') {c : AV} {v : Value} (hc : DR B β F w c v) : DR B β' F' w' c v := by
  cases c with
  | one c => exact CR.keep hβ h hc
  | agg cs => obtain ⟨vs, h1, h2⟩ := hc; exact ⟨vs, h1, h2.mono fun _ _ _ _ => CR.keep hβ h⟩
  | tup vs => exact hc
  | dead => trivial

theorem AR.keep {B : Nat} (hβ : ∀ id pv vs, β id = some (pv, vs) → ∃ vs', β' id = some (pv, vs')) (h : Keep F F' w w') {c : AV} {v : Value} (hc : AR B β F w c v) : AR B β' F' w' c v := by
  cases c with
  | one c => exact CR.keep hβ h hc
  | agg cs => obtain ⟨vs, h1, h2⟩ := hc; exact ⟨vs, h1, h2.mono fun _ _ _ _ => CR.keep hβ h⟩
  | tup vs => obtain ⟨us, h1, h2⟩ := hc; exact ⟨us, h1, h2.mono fun _ _ _ _ => DR.keep hβ h⟩
  | dead => trivial

theorem ObjAt.keep {B : Nat} (hβ : ∀ id pv vs, β id = some (pv, vs) → ∃ vs', β' id = some (pv, vs')) (h : Keep F F' w w') {pv : Value} {vs : List Value} {o : Obj}
    (hb : ∀ b, blks o.own pv vs b → w'.heap[b]? = w.heap[b]?) (ho : ObjAt B β F w pv vs o) : ObjAt B β' F' w' pv vs o := by
  have hpv : ∀ b, blockOf pv = some b → w'.heap[b]? = w.heap[b]? := fun b hbl => hb b (.inl hbl)
  cases o with
  | flat e k xs => exact ⟨ownsRow_keep hpv ho.1, ho.2⟩
  | rows e e' m xss =>
    cases m with
    | own st =>
      obtain ⟨h1, h2, h3, h4⟩ := ho
      refine ⟨ownsRow_keep hpv h1, ?_, h3, h4⟩
      refine h2.mono fun o v ho hv hr => ?_
      cases o with
      | none => exact hr
      | some xs => exact ⟨ownsRow_keep (fun b hbl => hb b (.inr ⟨rfl, v, hv, hbl⟩)) hr.1, hr.2⟩
    | loc st => exact ⟨ownsRow_keep hpv ho.1, ho.2.1.mono fun _ _ _ _ => RowL.keep h, ho.2.2⟩
    | any => exact ⟨ownsRow_keep hpv ho.1, ho.2.mono fun _ _ _ _ => RowA.keep h⟩
  | rowsV e e' st xss us =>
    obtain ⟨h0, h1, h2, h3, h4⟩ := ho
    refine ⟨h0, ownsRow_keep hpv h1, ?_, h3, h4⟩
    refine h2.mono fun o v ho hv hr => ?_
    cases o with
    | none => exact hr
    | some xs => exact ⟨ownsRow_keep (fun b hbl => hb b (.inr ⟨rfl, v, hv, hbl⟩)) hr.1, hr.2⟩
  | rowsD e e' xss => exact ⟨ownsRow_keep hpv ho.1, ho.2.mono fun _ _ _ _ => RowL.keep h⟩
  | rowsS e e' u l n xss =>
    obtain ⟨h1, h2, p, cap, h3, h4, h5⟩ := ho
    refine ⟨⟨ownsRow_keep hpv h1.1, h1.2.1.mono fun _ _ _ _ => RowL.keep h, h1.2.2⟩, h2, p, cap, h3, h4, h5.imp id ?_⟩
    rintro ⟨b, off, h6, h7⟩
    refine ⟨b, off, h6, h7.imp id fun ⟨hF, hc⟩ => ⟨(h b hF).1, fun j x hj hx => by rw [h.cell hF]; exact hc j x hj hx⟩⟩
  | cvs e cs => exact ⟨ownsRow_keep hpv ho.1, ho.2.mono fun _ _ _ _ => CR.keep hβ h⟩
  | zrow e k => exact ⟨ownsRow_keep hpv ho.1, ho.2⟩
  | box e cs =>
    obtain ⟨b, arr, h1, h2, h3, h4⟩ := ho
    refine ⟨b, arr, h1, h2, by rw [hb b (.inl (by rw [h1]; rfl))]; exact h3, h4.mono fun _ _ _ _ => CR.keep hβ h⟩
  | res L W =>
    obtain ⟨h1, h2, h3⟩ := ho
    exact ⟨h1, h2, fun b hbL => by rw [hb b (.inr ⟨rfl, _, by rw [h2]; exact List.mem_map.2 ⟨b, hbL, rfl⟩, rfl⟩)]; exact h3 b hbL⟩
  | pin S W => exact ⟨ho.1, fun b hs => ⟨(h b (ho.2 b hs).1).1, by rw [(h b (ho.2 b hs).1).2]; exact (ho.2 b hs).2⟩⟩
  | stay id v =>
    obtain ⟨h1, us, h2⟩ := ho
    obtain ⟨us', h3⟩ := hβ _ _ _ h2
    exact ⟨h1, us', h3⟩
end mono

end Go.Eng
/- The engine, part 2: how the relation is carried over a step. -/
set_option linter.unusedVariables false
namespace Go.Eng
open Go Go.RowKit

theorem look_cons (j : Nat) (v : AV) (r : List (Nat × AV)) (k : Nat) : look ((j, v) :: r) k = if j = k then v else look r k := rfl
theorem lookO_cons (j : Nat) (v : Option Obj) (r : List (Nat × Option Obj)) (k : Nat) : lookO ((j, v) :: r) k = if j = k then v else lookO r k := rfl

variable {N0 : Nat} {W0 : World} {s s' : AS} {β β' : Plc} {a : Act} {w w' : World}

theorem Act.put_get (a : Act) (d : Nat) (v : Value) (hd : d < a.tmps.size) (k : Nat) : (a.put (some d) v).tmps.getD k undef = if d = k then v else a.tmps.getD k undef := by
  simp only [Act.put, Array.getD_eq_getD_getElem?, Array.getElem?_setIfInBounds]
  split
  · simp
  · rfl

theorem Rel.put (r : Rel N0 W0 s β a w) {d : Nat} {av : AV} {v : Value} (hd : d < s.n) (h : AR N0 β (Free s β w) w av v) : Rel N0 W0 (s.put d av) β (a.put (some d) v) w where
  below := r.below
  size0 := r.size0
  size := by simp [Act.put, AS.put, r.size]
  defers := r.defers
  env := fun k => by
    rw [Act.put_get a d v (by rw [r.size]; exact hd)]
    show AR N0 β (Free s β w) w (look ((d, av) :: s.env) k) _
    rw [look_cons]
    split
    · exact h
    · exact r.env k
  dom := r.dom
  hdom := r.hdom
  obj := r.obj
  disj := r.disj

theorem Rel.master (r : Rel N0 W0 s β a w)
    (hn : s'.n = s.n) (henv : s'.env = s.env) (hbelow : Below N0 W0 w') (hsz : w.heap.size ≤ w'.heap.size)
    (hβ : ∀ id pv vs, β id = some (pv, vs) → ∃ vs', β' id = some (pv, vs'))
    (hdom : ∀ id, id ∉ s'.used → β' id = none ∧ s'.obj id = none)
    (hkeep : ∀ b, b < w.heap.size → ¬ Held s β b → w'.heap[b]? = w.heap[b]? ∧ ¬ Held s' β' b)
    (hold : ∀ id o, s'.obj id = some o →
      (s.obj id = some o ∧ β' id = β id ∧ ∀ pv vs b, β id = some (pv, vs) → blks o.own pv vs b → w'.heap[b]? = w.heap[b]?) ∨
      (∃ pv vs, β' id = some (pv, vs) ∧ ObjAt N0 β' (Free s' β' w') w' pv vs o ∧ ∀ b, blks o.own pv vs b → N0 ≤ b ∧ b < w'.heap.size))
    (hdisj : ∀ id id' o o' pv vs pv' vs' b, s'.obj id = some o → s'.obj id' = some o' → β' id = some (pv, vs) → β' id' = some (pv', vs') → blks o.own pv vs b → blks o'.own pv' vs' b → id = id') :
    Rel N0 W0 s' β' a w' := by
  have hk : Keep (Free s β w) (Free s' β' w') w w' := fun b hb => ⟨⟨Nat.lt_of_lt_of_le hb.1 hsz, (hkeep b hb.1 hb.2).2⟩, (hkeep b hb.1 hb.2).1⟩
  exact {
    below := hbelow
    size0 := Nat.le_trans r.size0 hsz
    size := by rw [hn]; exact r.size
    defers := r.defers
    env := fun k => by
      have := r.env k
      show AR N0 β' _ w' (look s'.env k) _
      rw [henv]
      exact AR.keep hβ hk this
    dom := fun id h => (hdom id h).1
    hdom := fun id h => (hdom id h).2
    obj := fun id o ho => by
      rcases hold id o ho with ⟨h1, h2, h3⟩ | h
      · obtain ⟨pv, vs, hp, hat, hr⟩ := r.obj id o h1
        exact ⟨pv, vs, by rw [h2]; exact hp, hat.keep hβ hk (fun b hb => h3 pv vs b hp hb), fun b hb => ⟨(hr b hb).1, Nat.lt_of_lt_of_le (hr b hb).2 hsz⟩⟩
      · exact h
    disj := hdisj }

/-- The world has grown; nothing that was there has turned. -/
theorem Rel.grow (r : Rel N0 W0 s β a w) (h : Below w.heap.size w w') : Rel N0 W0 s β a w' := by
  have hb : ∀ b, b < w.heap.size → w'.heap[b]? = w.heap[b]? := h.block
  refine r.master (s' := s) (β' := β) rfl rfl (r.below.trans (h.mono r.size0)) h.size (fun id pv vs h => ⟨vs, h⟩) (fun id hi => ⟨r.dom id hi, r.hdom id hi⟩) (fun b hlt hn => ⟨hb b hlt, hn⟩) ?_ r.disj
  intro id o ho
  refine .inl ⟨ho, rfl, fun pv vs b hp hbl => ?_⟩
  obtain ⟨pv', vs', hp', _, hr⟩ := r.obj id o ho
  rw [hp] at hp'
  cases hp'
  exact hb b (hr b hbl).2

/-- An object is let go. -/
theorem Rel.drop (r : Rel N0 W0 s β a w) (id : Nat) : Rel N0 W0 (s.kill id) β a w := by
  have hobj : ∀ id' o, (s.kill id).obj id' = some o → s.obj id' = some o := fun id' o ho => by
    have : (s.kill id).obj id' = if id = id' then none else s.obj id' := rfl
    rw [this] at ho
    split at ho
    · cases ho
    · exact ho
  refine r.master (s' := s.kill id) (β' := β) rfl rfl r.below (Nat.le_refl _) (fun id pv vs h => ⟨vs, h⟩) (fun i hi => ⟨r.dom i hi, ?_⟩) (fun b hlt hn => ⟨rfl, ?_⟩) (fun id' o ho => .inl ⟨hobj _ _ ho, rfl, fun _ _ _ _ _ => rfl⟩) ?_
  · have : (s.kill id).obj i = if id = i then none else s.obj i := rfl
    rw [this]; split
    · rfl
    · exact r.hdom i hi
  · rintro ⟨id', o, pv, vs, ho, hp, hbl⟩
    exact hn ⟨id', o, pv, vs, hobj _ _ ho, hp, hbl⟩
  · intro id1 id2 o1 o2 pv vs pv' vs' b h1 h2
    exact r.disj id1 id2 o1 o2 pv vs pv' vs' b (hobj _ _ h1) (hobj _ _ h2)

def Plc.set (β : Plc) (id : Nat) (x : Value × List Value) : Plc := fun i => if i = id then some x else β i

theorem Rel.fresh_of (r : Rel N0 W0 s β a w) {id : Nat} (h : s.used.contains id = false) : β id = none ∧ s.obj id = none := by
  have h' : id ∉ s.used := by simpa using h
  exact ⟨r.dom _ h', r.hdom _ h'⟩

/-- A new object, in blocks that were not there. -/
theorem Rel.alloc (r : Rel N0 W0 s β a w) (h : Below w.heap.size w w') {id : Nat} (hid : s.used.contains id = false) {o : Obj} {pv : Value} {vs : List Value}
    (hat : ∀ F : Nat → Prop, ∀ β' : Plc, (∀ b, Free s β w b → F b) → (∀ i x, β i = some x → β' i = some x) → ObjAt N0 β' F w' pv vs o) (hbl : ∀ b, blks o.own pv vs b → w.heap.size ≤ b ∧ b < w'.heap.size) :
    Rel N0 W0 (s.new id o) (β.set id (pv, vs)) a w' := by
  have hb : ∀ b, b < w.heap.size → w'.heap[b]? = w.heap[b]? := h.block
  obtain ⟨hβn, hOn⟩ := r.fresh_of hid
  have hset : ∀ i, i ≠ id → β.set id (pv, vs) i = β i := fun i hi => by simp [Plc.set, hi]
  have hsame : β.set id (pv, vs) id = some (pv, vs) := by simp [Plc.set]
  have hobj : ∀ i, (s.new id o).obj i = if id = i then some o else s.obj i := fun _ => rfl
  have hext : ∀ i x, β i = some x → β.set id (pv, vs) i = some x := fun i x hx => by
    by_cases hi : i = id
    · subst hi; rw [hβn] at hx; cases hx
    · rw [hset i hi]; exact hx
  have hheld : ∀ b, b < w.heap.size → ¬ Held s β b → ¬ Held (s.new id o) (β.set id (pv, vs)) b := by
    rintro b hlt hn ⟨i, o', pv', vs', ho', hp', hbl'⟩
    rw [hobj] at ho'
    split at ho'
    · rename_i hi; subst hi; cases ho'
      rw [hsame] at hp'; cases hp'
      have := (hbl b hbl').1; omega
    · rename_i hi
      rw [hset i (fun e => hi e.symm)] at hp'
      exact hn ⟨i, o', pv', vs', ho', hp', hbl'⟩
  have hsz := h.size
  refine r.master (s' := s.new id o) (β' := β.set id (pv, vs)) rfl rfl (r.below.trans (h.mono r.size0)) h.size (fun i pv' vs' h => ⟨vs', hext _ _ h⟩) ?_ (fun b hlt hn => ⟨hb b hlt, hheld b hlt hn⟩) ?_ ?_
  · intro i hi
    have hi' : i ≠ id ∧ i ∉ s.used := by simpa [AS.new] using hi
    exact ⟨by rw [hset i hi'.1]; exact r.dom i hi'.2, by rw [hobj, if_neg (Ne.symm hi'.1)]; exact r.hdom i hi'.2⟩
  · intro i o' ho'
    rw [hobj] at ho'
    split at ho'
    · rename_i hi; subst hi; cases ho'
      refine .inr ⟨pv, vs, hsame, hat _ _ (fun b hf => ⟨Nat.lt_of_lt_of_le hf.1 hsz, hheld b hf.1 hf.2⟩) hext, fun b hbb => ⟨Nat.le_trans r.size0 (hbl b hbb).1, (hbl b hbb).2⟩⟩
    · rename_i hi
      refine .inl ⟨ho', hset i (fun e => hi e.symm), fun pv' vs' b hp' hbl' => ?_⟩
      obtain ⟨pv2, vs2, hp2, _, hr⟩ := r.obj i o' ho'
      rw [hp'] at hp2; cases hp2
      exact hb b (hr b hbl').2
  · intro i1 i2 o1 o2 pv1 vs1 pv2 vs2 b h1 h2 p1 p2 b1 b2
    rw [hobj] at h1 h2
    by_cases e1 : id = i1 <;> by_cases e2 : id = i2
    · exact e1.symm.trans e2
    · subst e1
      rw [if_pos rfl] at h1; cases h1
      rw [if_neg e2] at h2
      rw [hsame] at p1; cases p1
      rw [hset i2 (fun e => e2 e.symm)] at p2
      obtain ⟨pv3, vs3, hp3, _, hr⟩ := r.obj i2 o2 h2
      rw [p2] at hp3; cases hp3
      have := (hbl b b1).1; have := (hr b b2).2; omega
    · subst e2
      rw [if_pos rfl] at h2; cases h2
      rw [if_neg e1] at h1
      rw [hsame] at p2; cases p2
      rw [hset i1 (fun e => e1 e.symm)] at p1
      obtain ⟨pv3, vs3, hp3, _, hr⟩ := r.obj i1 o1 h1
      rw [p1] at hp3; cases hp3
      have := (hbl b b2).1; have := (hr b b1).2; omega
    · rw [if_neg e1] at h1; rw [if_neg e2] at h2
      rw [hset i1 (fun e => e1 e.symm)] at p1
      rw [hset i2 (fun e => e2 e.symm)] at p2
      exact r.disj i1 i2 o1 o2 pv1 vs1 pv2 vs2 b h1 h2 p1 p2 b1 b2

/-- An owned object is written and handed on under another number: its blocks are the old one's or new ones. 'row': the one block that may have been written. -/
theorem Rel.rewrite (r : Rel N0 W0 s β a w) {id id' : Nat} {o o' : Obj} {pv pv' : Value} {vs vs' : List Value} (ho : s.obj id = some o) (hp : β id = some (pv, vs))
    (hg : w.grownBy w' (blockOf pv)) (hid : s.used.contains id' = false)
    (hat : ∀ F : Nat → Prop, ∀ β' : Plc, (∀ b, Free s β w b → F b) → (∀ i x, β i = some x → β' i = some x) → ObjAt N0 β' F w' pv' vs' o')
    (hbl : ∀ b, blks o'.own pv' vs' b → b < w'.heap.size ∧ (w.heap.size ≤ b ∨ blks o.own pv vs b)) :
    Rel N0 W0 ((s.kill id).new id' o') (β.set id' (pv', vs')) a w' := by
  obtain ⟨hβn, hOn⟩ := r.fresh_of hid
  have hne : id ≠ id' := fun e => by subst e; rw [hβn] at hp; cases hp
  obtain ⟨pv0, vs0, hp0, _, hr0⟩ := r.obj id o ho
  rw [hp] at hp0; cases hp0
  have hrow : ∀ b, blockOf pv = some b → N0 ≤ b := fun b hb => (hr0 b (.inl hb)).1
  have hb : ∀ b, b < w.heap.size → ¬ blockOf pv = some b → w'.heap[b]? = w.heap[b]? := fun b hlt hn => hg.block b hlt (fun e => hn e.symm)
  have hset : ∀ i, i ≠ id' → β.set id' (pv', vs') i = β i := fun i hi => by simp [Plc.set, hi]
  have hsame : β.set id' (pv', vs') id' = some (pv', vs') := by simp [Plc.set]
  have hobj : ∀ i, ((s.kill id).new id' o').obj i = if id' = i then some o' else if id = i then none else s.obj i := fun _ => rfl
  have hext : ∀ i x, β i = some x → β.set id' (pv', vs') i = some x := fun i x hx => by
    by_cases hi : i = id'
    · subst hi; rw [hβn] at hx; cases hx
    · rw [hset i hi]; exact hx
  have hsz := hg.size
  have hheld : ∀ b, b < w.heap.size → ¬ Held s β b → ¬ Held ((s.kill id).new id' o') (β.set id' (pv', vs')) b := by
    rintro b hlt hn ⟨i, o2, pv2, vs2, ho2, hp2, hbl2⟩
    rw [hobj] at ho2
    split at ho2
    · rename_i hi; subst hi; cases ho2
      rw [hsame] at hp2; cases hp2
      rcases (hbl b hbl2).2 with h | h
      · omega
      · exact hn ⟨id, o, pv, vs, ho, hp, h⟩
    · rename_i hi
      split at ho2
      · cases ho2
      · rw [hset i (fun e => hi e.symm)] at hp2
        exact hn ⟨i, o2, pv2, vs2, ho2, hp2, hbl2⟩
  have hbelow : Below N0 W0 w' := r.below.trans ⟨hg.os, hg.tape, hg.output, hg.size, fun k hk => hb k (by have := r.size0; omega) (fun e => by have := hrow k e; omega)⟩
  refine r.master (s' := (s.kill id).new id' o') (β' := β.set id' (pv', vs')) rfl rfl hbelow hsz (fun i pv2 vs2 h => ⟨vs2, hext _ _ h⟩) ?_ (fun b hlt hn => ⟨hb b hlt (fun e => hn ⟨id, o, pv, vs, ho, hp, .inl e⟩), hheld b hlt hn⟩) ?_ ?_
  · intro i hi
    have hi' : i ≠ id' ∧ i ∉ s.used := by simpa [AS.new, AS.kill] using hi
    refine ⟨by rw [hset i hi'.1]; exact r.dom i hi'.2, ?_⟩
    rw [hobj, if_neg (Ne.symm hi'.1)]
    split
    · rfl
    · exact r.hdom i hi'.2
  · intro i o2 ho2
    rw [hobj] at ho2
    split at ho2
    · rename_i hi; subst hi; cases ho2
      refine .inr ⟨pv', vs', hsame, hat _ _ (fun b hf => ⟨Nat.lt_of_lt_of_le hf.1 hsz, hheld b hf.1 hf.2⟩) hext, fun b hbb => ⟨?_, (hbl b hbb).1⟩⟩
      rcases (hbl b hbb).2 with h | h
      · exact Nat.le_trans r.size0 h
      · exact (hr0 b h).1
    · rename_i hi
      split at ho2
      · cases ho2
      · rename_i hi2
        refine .inl ⟨ho2, hset i (fun e => hi e.symm), fun pv2 vs2 b hp2 hbl2 => ?_⟩
        obtain ⟨pv3, vs3, hp3, _, hr⟩ := r.obj i o2 ho2
        rw [hp2] at hp3; cases hp3
        exact hb b (hr b hbl2).2 (fun e => hi2 (r.disj id i o o2 pv vs pv2 vs2 b ho ho2 hp hp2 (.inl e) hbl2))
  · have key : ∀ i o2 pv2 vs2 b, i ≠ id' → ((s.kill id).new id' o').obj i = some o2 → β.set id' (pv', vs') i = some (pv2, vs2) → blks o2.own pv2 vs2 b → blks o'.own pv' vs' b → False := by
      intro i o2 pv2 vs2 b hi h2 p2 b2 b1
      rw [hobj, if_neg (fun e => hi e.symm)] at h2
      split at h2
      · cases h2
      · rename_i hi2
        rw [hset i hi] at p2
        obtain ⟨pv3, vs3, hp3, _, hr⟩ := r.obj i o2 h2
        rw [p2] at hp3; cases hp3
        rcases (hbl b b1).2 with h | h
        · have := (hr b b2).2; omega
        · exact hi2 (r.disj id i o o2 pv vs pv2 vs2 b ho h2 hp p2 h b2)
    intro i1 i2 o1 o2 pv1 vs1 pv2 vs2 b h1 h2 p1 p2 b1 b2
    by_cases e1 : i1 = id' <;> by_cases e2 : i2 = id'
    · exact e1.trans e2.symm
    · subst e1
      have hh : o1 = o' := by rw [hobj, if_pos rfl] at h1; cases h1; rfl
      rw [hsame] at p1; cases p1; subst hh
      exact (key i2 o2 pv2 vs2 b e2 h2 p2 b2 b1).elim
    · subst e2
      have hh : o2 = o' := by rw [hobj, if_pos rfl] at h2; cases h2; rfl
      rw [hsame] at p2; cases p2; subst hh
      exact (key i1 o1 pv1 vs1 b e1 h1 p1 b1 b2).elim
    · rw [hobj, if_neg (fun e => e1 e.symm)] at h1
      rw [hobj, if_neg (fun e => e2 e.symm)] at h2
      rw [hset i1 e1] at p1
      rw [hset i2 e2] at p2
      split at h1
      · cases h1
      · split at h2
        · cases h2
        · exact r.disj i1 i2 o1 o2 pv1 vs1 pv2 vs2 b h1 h2 p1 p2 b1 b2

/-- An owned object is written in place: the same number, the same value. -/
theorem Rel.store (r : Rel N0 W0 s β a w) {id : Nat} {o o' : Obj} {pv : Value} {vs vs' : List Value} (ho : s.obj id = some o) (hp : β id = some (pv, vs))
    (hg : w.grownBy w' (blockOf pv))
    (hat : ∀ F : Nat → Prop, ∀ β' : Plc, (∀ b, Free s β w b → F b) → (∀ i pv2 vs2, β i = some (pv2, vs2) → ∃ vs3, β' i = some (pv2, vs3)) → ObjAt N0 β' F w' pv vs' o')
    (hbl : ∀ b, blks o'.own pv vs' b → blks o.own pv vs b) :
    Rel N0 W0 (s.setO id o') (β.set id (pv, vs')) a w' := by
  obtain ⟨pv0, vs0, hp0, _, hr0⟩ := r.obj id o ho
  rw [hp] at hp0; cases hp0
  have hused : id ∈ s.used := by
    by_cases h : id ∈ s.used
    · exact h
    · rw [r.dom id h] at hp; cases hp
  have hrow : ∀ b, blockOf pv = some b → N0 ≤ b := fun b hb => (hr0 b (.inl hb)).1
  have hb : ∀ b, b < w.heap.size → ¬ blockOf pv = some b → w'.heap[b]? = w.heap[b]? := fun b hlt hn => hg.block b hlt (fun e => hn e.symm)
  have hset : ∀ i, i ≠ id → β.set id (pv, vs') i = β i := fun i hi => by simp [Plc.set, hi]
  have hsame : β.set id (pv, vs') id = some (pv, vs') := by simp [Plc.set]
  have hobj : ∀ i, (s.setO id o').obj i = if id = i then some o' else s.obj i := fun _ => rfl
  have hext : ∀ i pv2 vs2, β i = some (pv2, vs2) → ∃ vs3, β.set id (pv, vs') i = some (pv2, vs3) := fun i pv2 vs2 hx => by
    by_cases hi : i = id
    · subst hi; rw [hp] at hx; cases hx; exact ⟨vs', hsame⟩
    · exact ⟨vs2, by rw [hset i hi]; exact hx⟩
  have hsz := hg.size
  have hheld : ∀ b, ¬ Held s β b → ¬ Held (s.setO id o') (β.set id (pv, vs')) b := by
    rintro b hn ⟨i, o2, pv2, vs2, ho2, hp2, hbl2⟩
    rw [hobj] at ho2
    split at ho2
    · rename_i hi; subst hi; cases ho2
      rw [hsame] at hp2; cases hp2
      exact hn ⟨id, o, pv, vs, ho, hp, hbl b hbl2⟩
    · rename_i hi
      rw [hset i (fun e => hi e.symm)] at hp2
      exact hn ⟨i, o2, pv2, vs2, ho2, hp2, hbl2⟩
  have hbelow : Below N0 W0 w' := r.below.trans ⟨hg.os, hg.tape, hg.output, hg.size, fun k hk => hb k (by have := r.size0; omega) (fun e => by have := hrow k e; omega)⟩
  refine r.master (s' := s.setO id o') (β' := β.set id (pv, vs')) rfl rfl hbelow hsz hext ?_ (fun b hlt hn => ⟨hb b hlt (fun e => hn ⟨id, o, pv, vs, ho, hp, .inl e⟩), hheld b hn⟩) ?_ ?_
  · intro i hi
    have hi' : i ∉ s.used := hi
    have hne : i ≠ id := fun e => hi' (e ▸ hused)
    exact ⟨by rw [hset i hne]; exact r.dom i hi', by rw [hobj, if_neg (Ne.symm hne)]; exact r.hdom i hi'⟩
  · intro i o2 ho2
    rw [hobj] at ho2
    split at ho2
    · rename_i hi; subst hi; cases ho2
      refine .inr ⟨pv, vs', hsame, hat _ _ (fun b hf => ⟨Nat.lt_of_lt_of_le hf.1 hsz, hheld b hf.2⟩) hext, fun b hbb => ⟨(hr0 b (hbl b hbb)).1, Nat.lt_of_lt_of_le (hr0 b (hbl b hbb)).2 hsz⟩⟩
    · rename_i hi
      refine .inl ⟨ho2, hset i (fun e => hi e.symm), fun pv2 vs2 b hp2 hbl2 => ?_⟩
      obtain ⟨pv3, vs3, hp3, _, hr⟩ := r.obj i o2 ho2
      rw [hp2] at hp3; cases hp3
      exact hb b (hr b hbl2).2 (fun e => hi (r.disj id i o o2 pv vs pv2 vs2 b ho ho2 hp hp2 (.inl e) hbl2))
  · have key : ∀ i o2 pv2 vs2 b, i ≠ id → (s.setO id o').obj i = some o2 → β.set id (pv, vs') i = some (pv2, vs2) → blks o2.own pv2 vs2 b → blks o'.own pv vs' b → False := by
      intro i o2 pv2 vs2 b hi h2 p2 b2 b1
      rw [hobj, if_neg (fun e => hi e.symm)] at h2
      rw [hset i hi] at p2
      exact hi (r.disj id i o o2 pv vs pv2 vs2 b ho h2 hp p2 (hbl b b1) b2).symm
    intro i1 i2 o1 o2 pv1 vs1 pv2 vs2 b h1 h2 p1 p2 b1 b2
    by_cases e1 : i1 = id <;> by_cases e2 : i2 = id
    · exact e1.trans e2.symm
    · subst e1
      have hh : o1 = o' := by rw [hobj, if_pos rfl] at h1; cases h1; rfl
      rw [hsame] at p1; cases p1; subst hh
      exact (key i2 o2 pv2 vs2 b e2 h2 p2 b2 b1).elim
    · subst e2
      have hh : o2 = o' := by rw [hobj, if_pos rfl] at h2; cases h2; rfl
      rw [hsame] at p2; cases p2; subst hh
      exact (key i1 o1 pv1 vs1 b e1 h1 p1 b1 b2).elim
    · rw [hobj, if_neg (fun e => e1 e.symm)] at h1
      rw [hobj, if_neg (fun e => e2 e.symm)] at h2
      rw [hset i1 e1] at p1
      rw [hset i2 e2] at p2
      exact r.disj i1 i2 o1 o2 pv1 vs1 pv2 vs2 b h1 h2 p1 p2 b1 b2

end Go.Eng
/- The engine, part 3: types, the effect of an operation, and that the pure operations do what their effect says. -/
set_option linter.unusedVariables false
namespace Go.Eng
open Go Go.RowKit

/-- What is known of a type. -/
inductive TI where
  | int | u8 | bool | str
  | sl (e : Nat)
  | st (fs : List Nat)
  | oth

abbrev Tys := Nat → TI

def TI.one : TI → Bool
  | .int | .u8 | .bool | .str | .sl _ => true
  | _ => false

def zeroC (T : Tys) (t : Nat) : CV :=
  match T t with
  | .int => .sc (.int 0)
  | .u8 => .sc (.u8 0)
  | .bool => .sc (.bool false)
  | .str => .sc (.str ⟨#[]⟩)
  | _ => .nil

def zeroV : CV → Value
  | .sc s => s.val
  | _ => .slice none 0 0

/-- The cells of one element. -/
def kOf (T : Tys) (t : Nat) : Nat :=
  match T t with
  | .st fs => fs.length
  | _ => 1

structure TInfo (P : Program) (t size bytes : Nat) (z : Value) : Prop where
  info : ∃ i, P.info? t = some i ∧ i.size = size ∧ i.bytes = bytes ∧ i.zero = some z

def TOk (P : Program) (T : Tys) : Prop := ∀ t, match T t with
  | .int => P.underlying t = some (.int .i64) ∧ TInfo P t 1 8 (.int .i64 0)
  | .u8 => P.underlying t = some (.int .u8) ∧ TInfo P t 1 1 (.int .u8 0)
  | .bool => P.underlying t = some .bool ∧ TInfo P t 1 1 (.bool false)
  | .str => P.underlying t = some .string ∧ TInfo P t 1 16 (.string ⟨#[]⟩)
  | .sl e => P.underlying t = some (.slice e) ∧ TInfo P t 1 24 (.slice none 0 0)
  | .st fs => 0 < fs.length ∧ (∃ arr, P.underlying t = some (.struct arr) ∧ arr.size = fs.length ∧ ∀ (j f : Nat), fs[j]? = some f → ∃ fd, arr[j]? = some fd ∧ fd.type = f ∧ fd.offset = j ∧ fd.name ≠ "_" ∧ (T f).one = true) ∧ P.stoodInHeld t = false ∧ P.eqGuardType P.depth t = false ∧
      ∃ bytes, bytes ≤ 64 ∧ TInfo P t fs.length bytes (.agg (fs.map (fun f => zeroV (zeroC T f))).toArray)
  | .oth => True

abbrev w64 (n : Int) : Int := IntKind.i64.wrap n
abbrev w8 (n : Int) : Int := IntKind.u8.wrap n

def bAnd (a b : Int) : Int := IntKind.i64.wrap (BitVec.ofInt 64 a &&& BitVec.ofInt 64 b).toNat
def bXor (a b : Int) : Int := IntKind.i64.wrap (BitVec.ofInt 64 a ^^^ BitVec.ofInt 64 b).toNat
def bShr (a b : Int) : Int := a.fdiv (2 ^ min b.toNat 64)

def abin (ti : TI) (op : BinOp) (u v : Sc) : Option Sc :=
  match u, v with
  | .int a, .int b =>
    match op with
    | .add => some (.int (w64 (a + b)))
    | .sub => some (.int (w64 (a - b)))
    | .mul => some (.int (w64 (a * b)))
    | .quo => if b = 0 then none else some (.int (w64 (a.tdiv b)))
    | .rem => if b = 0 then none else some (.int (a.tmod b))
    | .eql => some (.bool (a == b))
    | .neq => some (.bool (a != b))
    | .lss => some (.bool (decide (a < b)))
    | .leq => some (.bool (decide (a ≤ b)))
    | .gtr => some (.bool (decide (a > b)))
    | .geq => some (.bool (decide (a ≥ b)))
    | .and => some (.int (bAnd a b))
    | .xor => some (.int (bXor a b))
    | .shr => if b < 0 then none else some (.int (bShr a b))
    | _ => none
  | .u8 a, .u8 b =>
    match op with
    | .add => some (.u8 (w8 (a + b)))
    | .sub => some (.u8 (w8 (a - b)))
    | .eql => some (.bool (a == b))
    | .neq => some (.bool (a != b))
    | .lss => some (.bool (decide (a < b)))
    | .leq => some (.bool (decide (a ≤ b)))
    | .gtr => some (.bool (decide (a > b)))
    | .geq => some (.bool (decide (a ≥ b)))
    | _ => none
  | .bool a, .bool b =>
    match ti, op with
    | .bool, .eql => some (.bool (a == b))
    | .bool, .neq => some (.bool (!(a == b)))
    | _, _ => none
  | .str a, .str b =>
    match op with
    | .add => if a.size + b.size ≤ 9223372036854775807 then some (.str (a ++ b)) else none
    | .eql => some (.bool (a.toList == b.toList))
    | .neq => some (.bool (!(a.toList == b.toList)))
    | _ => none
  | _, _ => none

theorem abin_sound {P : Program} {T : Tys} (hT : TOk P T) (w : World) (op : BinOp) (t : TypeId) (x y : Operand) (u v r : Sc) (h : abin (T t) op u v = some r) :
    (do eqGuard op t x y u.val v.val; binOp op t u.val v.val : Sem Value).run P w = .ok r.val w := by
  have hb := hT t
  cases u with
  | int a =>
    cases v with
    | int b =>
      cases op <;> simp only [abin] at h <;> (try cases h) <;> (try rfl)
      all_goals
        split at h
        · cases h
        · rename_i hb0
          cases h
          first
            | (simp [Sc.val, go_sem, binOp, Op.intDiv, hb0]; done)
            | (show (Op.shift .shr .i64 a .i64 b).run P w = _
               unfold Op.shift
               rw [if_neg hb0]
               rfl)
    | _ => simp [abin] at h
  | u8 a =>
    cases v with
    | u8 b => cases op <;> simp only [abin] at h <;> (try cases h) <;> (try rfl)
    | _ => simp [abin] at h
  | bool a =>
    cases v with
    | bool b =>
      cases hti : T t <;> rw [hti] at h hb <;> cases op <;> simp only [abin] at h <;> (try cases h)
      all_goals
        have h1 := run_equalIn_bool' (P := P) w 9999 t a b hb.1
        have h2 : (Op.equal t (.bool a) (.bool b)).run P w = .ok (a == b) w := h1
        have h3 : binOp .eql t (.bool a) (.bool b) = (do pure (.bool (← Op.equal t (.bool a) (.bool b)))) := rfl
        have h4 : binOp .neq t (.bool a) (.bool b) = (do pure (.bool (!(← Op.equal t (.bool a) (.bool b))))) := rfl
        simp only [Sc.val, eqGuard_at_bool, h3, h4, Sem.run_bind, h2, Result.andThen_ok, Sem.run_pure]
    | _ => simp [abin] at h
  | str a =>
    cases v with
    | str b =>
      cases op <;> simp only [abin] at h <;> (try cases h) <;> (try rfl)
      split at h
      · rename_i hle
        cases h
        have : ¬ (((a.size + b.size : Nat) : Int) > IntKind.i64.max) := by
          rw [IntKind.max_i64]; omega
        show (Op.stringOp .add a b).run P w = _
        unfold Op.stringOp
        simp only [this, if_false]
        rfl
      · cases h
    | _ => simp [abin] at h

def aun (op : UnOp) (u : Sc) : Option Sc :=
  match op, u with
  | .neg, .int a => some (.int (w64 (-a)))
  | .not, .bool b => some (.bool !b)
  | _, _ => none

theorem aun_sound {P : Program} (w : World) (op : UnOp) (u r : Sc) (h : aun op u = some r) : (Op.unary op u.val).run P w = .ok r.val w := by
  cases op <;> cases u <;> simp only [aun] at h <;> cases h
  · rename_i n
    show (Op.intArith .sub .i64 0 n).run P w = _
    simp [Op.intArith, Sc.val]
  · rfl

end Go.Eng
/- The engine, part 4: effects; the walk over the operations of a region, in the order of the text. -/
set_option linter.unusedVariables false
namespace Go.Eng
open Go Go.RowKit

structure Eff where
  val : AV
  sets : List (Nat × Option Obj) := []
  fresh : List Nat := []
  log : List Nat := []

def putD (o : Option Nat) (v : AV) (env : List (Nat × AV)) : List (Nat × AV) :=
  match o with
  | some d => (d, v) :: env
  | none => env

def AS.app (s : AS) (dst : Option Nat) (e : Eff) : AS := { s with env := putD dst e.val s.env, H := e.sets ++ s.H, used := e.fresh ++ s.used }

def constAV : Value → AV
  | .int .i64 n => .one (.sc (.int n))
  | .int .u8 n => .one (.sc (.u8 n))
  | .int .u64 n => .one (.val (.int .u64 n))
  | .bool b => .one (.sc (.bool b))
  | .string s => .one (.sc (.str s))
  | .slice none 0 0 => .one .nil
  | _ => .dead

def AS.ev (s : AS) : Operand → AV
  | .tmp t => s.get t
  | .const v => constAV v
  | .func f => .one (.fn f)
  | .global _ => .dead

section
variable {N0 : Nat} {W0 : World} {s s' : AS} {β β' : Plc} {a : Act} {w w' : World} {P : Program}

theorem constAV_ok (B : Nat) (F : Nat → Prop) (v : Value) : AR B β F w (constAV v) v := by
  unfold constAV
  split <;> first | rfl | exact ⟨rfl, rfl⟩ | trivial

theorem Rel.ev (r : Rel N0 W0 s β a w) (x : Operand) : AR N0 β (Free s β w) w (s.ev x) (a.eval x) := by
  cases x with
  | tmp t => exact r.env t
  | const v => exact constAV_ok _ _ v
  | func f => exact rfl
  | global g => trivial

/-- Carried out in state s, operation o ends in state s'. -/
def OpOK (P : Program) (o : Oper) (s s' : AS) : Prop :=
  ∀ N0 W0 β a w, Rel N0 W0 s β a w → ∀ (K : Act → World → Prop) (Q : Exit → Act → World → Prop), (∀ β' a' w', Rel N0 W0 s' β' a' w' → K a' w') → o.wp P a w K Q

/-- The slots that an operation looks at. -/
def slots (o : Oper) : List Nat := o.op.operands.toList.filterMap fun | .tmp t => some t | _ => none

/-- Effect e, in every state that agrees with s on what the operation looks at. -/
def EffU (P : Program) (o : Oper) (s : AS) (e : Eff) : Prop :=
  ∀ s' : AS, s'.n = s.n → (∀ t ∈ slots o, s'.get t = s.get t) → (∀ i ∈ e.log, s'.obj i = s.obj i) → (∀ i ∈ e.fresh, i ∉ s'.used) → OpOK P o s' (s'.app o.dst e)

/-- Two states of which the same is known. -/
structure Same (s s' : AS) : Prop where
  n : s.n = s'.n
  get : ∀ k, s.get k = s'.get k
  obj : ∀ i, s.obj i = s'.obj i
  used : ∀ i, i ∈ s.used ↔ i ∈ s'.used

theorem Same.refl (s : AS) : Same s s := ⟨rfl, fun _ => rfl, fun _ => rfl, fun _ => Iff.rfl⟩
theorem Same.symm (h : Same s s') : Same s' s := ⟨h.n.symm, fun k => (h.get k).symm, fun k => (h.obj k).symm, fun k => (h.used k).symm⟩
theorem Same.trans {t : AS} (h : Same s s') (h' : Same s' t) : Same s t := ⟨h.n.trans h'.n, fun k => (h.get k).trans (h'.get k), fun k => (h.obj k).trans (h'.obj k), fun k => (h.used k).trans (h'.used k)⟩

theorem Same.held (h : Same s s') (b : Nat) : Held s β b ↔ Held s' β b := by
  unfold Held
  simp only [h.obj]

theorem Rel.same (h : Same s s') (r : Rel N0 W0 s β a w) : Rel N0 W0 s' β a w := by
  have hF : Free s β w = Free s' β w := by
    funext b
    unfold Free
    rw [h.held b]
  exact {
    below := r.below
    size0 := r.size0
    size := by rw [← h.n]; exact r.size
    defers := r.defers
    env := fun k => by rw [← hF, ← h.get]; exact r.env k
    dom := fun id hi => r.dom id (fun hh => hi ((h.used id).1 hh))
    hdom := fun id hi => by rw [← h.obj]; exact r.hdom id (fun hh => hi ((h.used id).1 hh))
    obj := fun id o ho => by rw [← hF]; exact r.obj id o (by rw [h.obj]; exact ho)
    disj := fun id id' o o' pv vs pv' vs' b h1 h2 => r.disj id id' o o' pv vs pv' vs' b (by rw [h.obj]; exact h1) (by rw [h.obj]; exact h2) }

/-- An operation that yields a value and leaves the world alone. -/
theorem OpOK.val {o : Oper} {av : AV} (hd : ∀ d, o.dst = some d → d < s.n)
    (h : ∀ N0 W0 β a w, Rel N0 W0 s β a w → ∃ v, (execOp a.eval o).run P w = .ok (.value v) w ∧ AR N0 β (Free s β w) w av v) :
    OpOK P o s (s.app o.dst { val := av }) := by
  intro N0 W0 β a w r K Q hK
  obtain ⟨v, hr, hv⟩ := h N0 W0 β a w r
  unfold Oper.wp
  rw [hr, Oper.upon_value]
  refine hK β _ w ?_
  cases hdst : o.dst with
  | none => exact r
  | some d => exact r.put (hd d hdst) hv

def Oper.dstOk (o : Oper) (n : Nat) : Bool :=
  match o.dst with
  | some d => decide (d < n)
  | none => true

theorem Oper.dstOk_spec {o : Oper} {n : Nat} (h : Oper.dstOk o n = true) : ∀ d, o.dst = some d → d < n := by
  intro d hd
  unfold Oper.dstOk at h
  rw [hd] at h
  simpa using h

/-- The same, of every state that agrees. -/
theorem EffU.val {o : Oper} {av : AV} {n : Nat} (hd : Oper.dstOk o n = true) (hn : s.n = n)
    (h : ∀ s' : AS, s'.n = n → (∀ t ∈ slots o, s'.get t = s.get t) → ∀ N0 W0 β a w, Rel N0 W0 s' β a w → ∃ v, (execOp a.eval o).run P w = .ok (.value v) w ∧ AR N0 β (Free s' β w) w av v) :
    EffU P o s { val := av } := by
  intro s' h1 h2 h3 h4
  rw [hn] at h1
  exact OpOK.val (by rw [h1]; exact Oper.dstOk_spec hd) (h s' h1 h2)

end
end Go.Eng
/- The engine, part 5: a region's operations, in the order of the text; and a region that draws its order. -/
set_option linter.unusedVariables false
namespace Go.Eng
open Go Go.RowKit

section
variable {N0 : Nat} {W0 : World} {s s' : AS} {β β' : Plc} {a : Act} {w w' : World} {P : Program}

/-- What a guard's operation has left. -/
def guardAV (ops : Array Oper) (s : AS) (j : Nat) : AV :=
  match (ops[j]?).bind (·.dst) with
  | some d => s.get d
  | none => .dead

def skipE : Eff := { val := .tup [] }

/-- The operation is carried out (A), or passed over (B). -/
def gwhen (ops : Array Oper) (s : AS) (o : Oper) (A B : Prop) : Prop :=
  match o.guard with
  | none => A
  | some (j, want) =>
    match guardAV ops s j with
    | .one (.sc (.bool b)) => (b = want → A) ∧ (b ≠ want → B)
    | .tup [] => B
    | _ => False

inductive Says (ops : Array Oper) (s : AS) (o : Oper) : Bool → Prop where
  | plain (h : o.guard = none) : Says ops s o true
  | yes (j : Nat) (want : Bool) (h : o.guard = some (j, want)) (hg : guardAV ops s j = .one (.sc (.bool want))) : Says ops s o true
  | no (j : Nat) (want b : Bool) (h : o.guard = some (j, want)) (hg : guardAV ops s j = .one (.sc (.bool b))) (hb : b ≠ want) : Says ops s o false
  | out (j : Nat) (want : Bool) (h : o.guard = some (j, want)) (hg : guardAV ops s j = .tup []) : Says ops s o false

theorem gwhen_says {ops : Array Oper} {o : Oper} {A B : Prop} (h : gwhen ops s o A B) : (Says ops s o true ∧ A) ∨ (Says ops s o false ∧ B) := by
  unfold gwhen at h
  split at h
  · rename_i hg; exact .inl ⟨.plain hg, h⟩
  · rename_i j want hg
    split at h
    · rename_i b hav
      by_cases hb : b = want
      · subst hb; exact .inl ⟨.yes j b hg hav, h.1 rfl⟩
      · exact .inr ⟨.no j want b hg hav hb, h.2 hb⟩
    · rename_i hav; exact .inr ⟨.out j want hg hav, h⟩
    · exact h.elim

theorem says_wanted {ops : Array Oper} {o : Oper} {b : Bool} (r : Rel N0 W0 s β a w) (h : Says ops s o b) : Region.wanted o (yielded ops a.tmps) = b := by
  have key : ∀ j av, guardAV ops s j = av → (∃ d, (ops[j]?).bind (·.dst) = some d ∧ AR N0 β (Free s β w) w av (a.tmps.getD d undef)) ∨ av = .dead := by
    intro j av hav
    unfold guardAV at hav
    split at hav
    · rename_i d hd
      exact .inl ⟨d, hd, hav ▸ r.env d⟩
    · exact .inr hav.symm
  have hy : ∀ j d v, (ops[j]?).bind (·.dst) = some d → a.tmps.getD d undef = v → yielded ops a.tmps j = match v with | .bool b => some b | _ => none := by
    intro j d v hd hv
    unfold yielded
    rw [hd]
    simp only [Option.bind_some]
    rw [Array.getD_eq_getD_getElem?] at hv
    cases hq : a.tmps[d]? with
    | none => rw [hq] at hv; subst hv; rfl
    | some u => rw [hq] at hv; simp at hv; subst hv; cases u <;> rfl
  unfold Region.wanted
  cases h with
  | plain h => rw [h]
  | yes j want h hg =>
    rw [h]
    rcases key j _ hg with ⟨d, hd, hv⟩ | hx
    · have hv' : a.tmps.getD d undef = .bool want := hv
      show (yielded ops a.tmps j == some want) = true
      rw [hy j d _ hd hv']; simp
    · cases hx
  | no j want b h hg hb =>
    rw [h]
    rcases key j _ hg with ⟨d, hd, hv⟩ | hx
    · have hv' : a.tmps.getD d undef = .bool b := hv
      show (yielded ops a.tmps j == some want) = false
      rw [hy j d _ hd hv']; simpa using hb
    · cases hx
  | out j want h hg =>
    rw [h]
    rcases key j _ hg with ⟨d, hd, hv⟩ | hx
    · obtain ⟨us, hu, hall⟩ := hv
      have hus : us = [] := by cases us with | nil => rfl | cons _ _ => exact hall.elim
      subst hus
      show (yielded ops a.tmps j == some want) = false
      rw [hy j d _ hd hu]; rfl
    · cases hx

theorem rel_skip (r : Rel N0 W0 s β a w) {o : Oper} (hd : Oper.dstOk o s.n = true) : Rel N0 W0 (s.app o.dst skipE) β (a.put o.dst undef) w := by
  have h := Oper.dstOk_spec hd
  cases hdst : o.dst with
  | none => exact r
  | some d => exact r.put (h d hdst) ⟨[], rfl, trivial⟩

/-- One step: carried out with an effect, or passed over. -/
def StepC (P : Program) (ops : Array Oper) (o : Oper) (s : AS) (x : Option Eff) : Prop :=
  match x with
  | some e => Says ops s o true ∧ EffU P o s e ∧ ∀ i ∈ e.fresh, i ∉ s.used
  | none => Says ops s o false ∧ Oper.dstOk o s.n = true

def effOf (x : Option Eff) : Eff := x.getD skipE

def Cert (P : Program) (ops : Array Oper) : List Oper → AS → List (Option Eff) → AS → Prop
  | [], s, [], t => s = t
  | o :: r, s, x :: xs, t => StepC P ops o s x ∧ Cert P ops r (s.app o.dst (effOf x)) xs t
  | _, _, _, _ => False

theorem stepC_ok {ops : Array Oper} {o : Oper} {x : Option Eff} (h : StepC P ops o s x) (r : Rel N0 W0 s β a w) (K : Act → World → Prop) (Q : Exit → Act → World → Prop)
    (hK : ∀ β' a' w', Rel N0 W0 (s.app o.dst (effOf x)) β' a' w' → K a' w') :
    if Region.wanted o (yielded ops a.tmps) then o.wp P a w K Q else K (a.put o.dst undef) w := by
  cases x with
  | some e =>
    obtain ⟨h1, h2, h3⟩ := h
    rw [if_pos (says_wanted r h1)]
    exact h2 s rfl (fun _ _ => rfl) (fun _ _ => rfl) h3 N0 W0 β a w r K Q hK
  | none =>
    obtain ⟨h1, h2⟩ := h
    rw [if_neg (by rw [says_wanted r h1]; simp)]
    exact hK β _ w (rel_skip r h2)

theorem cert_list {ops : Array Oper} {Q : Exit → Act → World → Prop} : ∀ {l : List Oper} {s t : AS} {xs : List (Option Eff)} {β : Plc} {a : Act} {w : World}, Cert P ops l s xs t → Rel N0 W0 s β a w →
    (∀ β' a' w', Rel N0 W0 t β' a' w' → Q .normal a' w') → wpList P ops Q l a w
  | [], s, t, [], β, a, w, h, r, hQ => by cases h; exact hQ β a w r
  | o :: l, s, t, x :: xs, β, a, w, ⟨h1, h2⟩, r, hQ => wpList_step fun K hK =>
      stepC_ok h1 r K Q fun β' a' w' r' => hK a' w' (cert_list h2 r' hQ)
  | [], _, _, _ :: _, _, _, _, h, _, _ => h.elim
  | _ :: _, _, _, [], _, _, _, h, _, _ => h.elim

/-! ### A region that draws its order -/

def looks (ops : Array Oper) (o : Oper) : List Nat :=
  slots o ++ (match o.guard with
    | some (j, _) => ((ops[j]?).bind (·.dst)).toList
    | none => [])

def doms (x : Option Eff) : List Nat := (effOf x).sets.map (·.1)

/-- The two steps have nothing to do with each other. -/
def apartB (ops : Array Oper) (o o' : Oper) (x x' : Option Eff) : Bool :=
  (match o.dst with
    | some d => !(looks ops o').contains d && o'.dst != some d
    | none => true) &&
  (match o'.dst with
    | some d => !(looks ops o).contains d
    | none => true) &&
  (doms x).all (fun i => !(doms x').contains i && !(effOf x').log.contains i) &&
  (doms x').all (fun i => !(effOf x).log.contains i) &&
  (effOf x).fresh.all (fun i => !(effOf x').fresh.contains i)

structure Apart (ops : Array Oper) (o o' : Oper) (x x' : Option Eff) : Prop where
  d1 : ∀ d, o.dst = some d → d ∉ looks ops o' ∧ o'.dst ≠ some d
  d2 : ∀ d, o'.dst = some d → d ∉ looks ops o ∧ o.dst ≠ some d
  s1 : ∀ i ∈ doms x, i ∉ doms x' ∧ i ∉ (effOf x').log
  s2 : ∀ i ∈ doms x', i ∉ doms x ∧ i ∉ (effOf x).log
  f1 : ∀ i ∈ (effOf x).fresh, i ∉ (effOf x').fresh
  f2 : ∀ i ∈ (effOf x').fresh, i ∉ (effOf x).fresh

theorem apartB_spec {ops : Array Oper} {o o' : Oper} {x x' : Option Eff} (h : apartB ops o o' x x' = true) : Apart ops o o' x x' := by
  unfold apartB at h
  simp only [Bool.and_eq_true, List.all_eq_true, Bool.not_eq_true', List.contains_eq_mem, decide_eq_false_iff_not] at h
  obtain ⟨⟨⟨⟨h1, h2⟩, h3⟩, h4⟩, h5⟩ := h
  have e1 : ∀ d, o.dst = some d → d ∉ looks ops o' ∧ o'.dst ≠ some d := fun d hd => by
    rw [hd] at h1
    simpa using h1
  refine ⟨e1, fun d hd => ⟨by rw [hd] at h2; simpa using h2, fun e => (e1 d e).2 hd⟩, h3, fun i hi => ⟨fun hh => (h3 i hh).1 hi, h4 i hi⟩, h5, fun i hi hh => h5 i hh hi⟩

theorem Apart.symm {ops : Array Oper} {o o' : Oper} {x x' : Option Eff} (h : Apart ops o o' x x') : Apart ops o' o x' x := ⟨h.d2, h.d1, h.s2, h.s1, h.f2, h.f1⟩

theorem app_get (s : AS) (d : Option Nat) (e : Eff) (t : Nat) : (s.app d e).get t = if d = some t then e.val else s.get t := by
  cases d with
  | none => simp [AS.app, putD, AS.get]
  | some d => simp only [AS.app, putD, AS.get, look_cons, Option.some.injEq]

theorem lookO_append (l m : List (Nat × Option Obj)) (i : Nat) : lookO (l ++ m) i = if i ∈ l.map (·.1) then lookO l i else lookO m i := by
  induction l with
  | nil => simp
  | cons p l ih =>
    obtain ⟨j, v⟩ := p
    simp only [List.cons_append, lookO_cons, List.map_cons, List.mem_cons]
    by_cases h : j = i
    · simp [h]
    · rw [if_neg h, if_neg h, ih]
      have : (i = j ∨ i ∈ l.map (·.1)) ↔ i ∈ l.map (·.1) := ⟨fun hh => hh.resolve_left (fun e => h e.symm), .inr⟩
      simp only [this]

theorem app_obj (s : AS) (d : Option Nat) (e : Eff) (i : Nat) : (s.app d e).obj i = if i ∈ e.sets.map (·.1) then lookO e.sets i else s.obj i := lookO_append _ _ _

theorem app_used (s : AS) (d : Option Nat) (e : Eff) (i : Nat) : i ∈ (s.app d e).used ↔ i ∈ e.fresh ∨ i ∈ s.used := by
  simp [AS.app]

theorem Same.app (h : Same s s') (d : Option Nat) (e : Eff) : Same (s.app d e) (s'.app d e) where
  n := h.n
  get := fun k => by rw [app_get, app_get, h.get]
  obj := fun i => by rw [app_obj, app_obj, h.obj]
  used := fun i => by rw [app_used, app_used, h.used]

/-- Two steps that are apart may be told in either order. -/
theorem Same.comm {ops : Array Oper} {o o' : Oper} {x x' : Option Eff} (h : Apart ops o o' x x') (s : AS) :
    Same ((s.app o.dst (effOf x)).app o'.dst (effOf x')) ((s.app o'.dst (effOf x')).app o.dst (effOf x)) where
  n := rfl
  get := fun k => by
    simp only [app_get]
    by_cases h1 : o'.dst = some k
    · rw [if_pos h1, if_neg (h.d2 k h1).2, if_pos h1]
    · simp [h1]
  obj := fun i => by
    simp only [app_obj]
    by_cases h1 : i ∈ (effOf x').sets.map (·.1)
    · have h2 : ¬ i ∈ (effOf x).sets.map (·.1) := (h.s2 i h1).1
      rw [if_pos h1, if_neg h2, if_pos h1]
    · simp [h1]
  used := fun i => by
    simp only [app_used]
    constructor <;> (intro hh; rcases hh with hh | hh | hh <;> simp [hh])

/-- The steps that f lets by, told in the text's order. -/
def foldS : List (Oper × Option Eff) → (Nat → Bool) → Nat → AS → AS
  | [], _, _, s => s
  | (o, x) :: r, f, k, s => foldS r f (k + 1) (if f k then s.app o.dst (effOf x) else s)

theorem foldS_same {l : List (Oper × Option Eff)} : ∀ {f : Nat → Bool} {k : Nat} {s s' : AS}, Same s s' → Same (foldS l f k s) (foldS l f k s') := by
  induction l with
  | nil => intro f k s s' h; exact h
  | cons p r ih =>
    obtain ⟨o, x⟩ := p
    intro f k s s' h
    simp only [foldS]
    split
    · exact ih (h.app _ _)
    · exact ih h

theorem foldS_append (l m : List (Oper × Option Eff)) : ∀ (f : Nat → Bool) (k : Nat) (s : AS), foldS (l ++ m) f k s = foldS m f (k + l.length) (foldS l f k s) := by
  induction l with
  | nil => intro f k s; rfl
  | cons p r ih =>
    obtain ⟨o, x⟩ := p
    intro f k s
    simp only [List.cons_append, foldS, ih, List.length_cons]
    congr 1
    omega

theorem foldS_congr {l : List (Oper × Option Eff)} : ∀ {f g : Nat → Bool} {k : Nat} {s : AS}, (∀ j, k ≤ j → j < k + l.length → f j = g j) → foldS l f k s = foldS l g k s := by
  induction l with
  | nil => intro f g k s _; rfl
  | cons p r ih =>
    obtain ⟨o, x⟩ := p
    intro f g k s h
    simp only [foldS]
    rw [h k (Nat.le_refl _) (by simp), ih (f := f) (g := g) (fun j h1 h2 => h j (by omega) (by simp at *; omega))]

/-- A step that is apart from all that follows may be told last. -/
theorem foldS_comm {ops : Array Oper} {o : Oper} {x : Option Eff} : ∀ {l : List (Oper × Option Eff)} {f : Nat → Bool} {k : Nat} {s : AS},
    (∀ j o' x', l[j]? = some (o', x') → f (k + j) = true → Apart ops o o' x x') → Same (foldS l f k (s.app o.dst (effOf x))) ((foldS l f k s).app o.dst (effOf x)) := by
  intro l
  induction l with
  | nil => intro f k s _; exact Same.refl _
  | cons p r ih =>
    obtain ⟨o', x'⟩ := p
    intro f k s h
    have h' : ∀ j o' x', r[j]? = some (o', x') → f (k + 1 + j) = true → Apart ops o o' x x' := fun j o' x' hj hf =>
      h (j + 1) o' x' (by simpa using hj) (by rw [show k + (j + 1) = k + 1 + j by omega]; exact hf)
    simp only [foldS]
    split
    · rename_i hk
      refine Same.trans (foldS_same ?_) (ih h')
      exact Same.comm (h 0 o' x' (by simp) (by simpa using hk)) s
    · exact ih h'

/-- What the steps that are told in one list and not in the other do not touch. -/
theorem foldS_look {l : List (Oper × Option Eff)} : ∀ {f g : Nat → Bool} {k : Nat} {s s' : AS} (t : Nat),
    (∀ j o x, l[j]? = some (o, x) → f (k + j) ≠ g (k + j) → o.dst ≠ some t) → s.get t = s'.get t → (foldS l f k s).get t = (foldS l g k s').get t := by
  induction l with
  | nil => intro f g k s s' t _ h; exact h
  | cons p r ih =>
    obtain ⟨o, x⟩ := p
    intro f g k s s' t h hs
    simp only [foldS]
    refine ih t (fun j o' x' hj hne => h (j + 1) o' x' (by simpa using hj) (by rw [show k + (j + 1) = k + 1 + j by omega]; exact hne)) ?_
    have h0 := h 0 o x (by simp)
    rw [Nat.add_zero] at h0
    cases hf : f k <;> cases hg : g k <;> simp only [if_true, if_false, Bool.false_eq_true, app_get]
    · exact hs
    · rw [if_neg (h0 (by simp [hf, hg]))]; exact hs
    · rw [if_neg (h0 (by simp [hf, hg]))]; exact hs
    · rw [hs]

theorem foldS_obj {l : List (Oper × Option Eff)} : ∀ {f g : Nat → Bool} {k : Nat} {s s' : AS} (i : Nat),
    (∀ j o x, l[j]? = some (o, x) → f (k + j) ≠ g (k + j) → i ∉ doms x) → s.obj i = s'.obj i → (foldS l f k s).obj i = (foldS l g k s').obj i := by
  induction l with
  | nil => intro f g k s s' t _ h; exact h
  | cons p r ih =>
    obtain ⟨o, x⟩ := p
    intro f g k s s' t h hs
    simp only [foldS]
    refine ih t (fun j o' x' hj hne => h (j + 1) o' x' (by simpa using hj) (by rw [show k + (j + 1) = k + 1 + j by omega]; exact hne)) ?_
    have h0 : f k ≠ g k → ¬ t ∈ (effOf x).sets.map (·.1) := fun hne => h 0 o x (by simp) (by simpa using hne)
    cases hf : f k <;> cases hg : g k <;> simp only [if_true, if_false, Bool.false_eq_true, app_obj]
    · exact hs
    · rw [if_neg (h0 (by simp [hf, hg]))]; exact hs
    · rw [if_neg (h0 (by simp [hf, hg]))]; exact hs
    · rw [hs]

theorem foldS_used {l : List (Oper × Option Eff)} : ∀ {f g : Nat → Bool} {k : Nat} {s s' : AS} (i : Nat),
    (∀ j o x, l[j]? = some (o, x) → f (k + j) ≠ g (k + j) → i ∉ (effOf x).fresh) → (i ∈ s.used ↔ i ∈ s'.used) → (i ∈ (foldS l f k s).used ↔ i ∈ (foldS l g k s').used) := by
  induction l with
  | nil => intro f g k s s' t _ h; exact h
  | cons p r ih =>
    obtain ⟨o, x⟩ := p
    intro f g k s s' t h hs
    simp only [foldS]
    refine ih t (fun j o' x' hj hne => h (j + 1) o' x' (by simpa using hj) (by rw [show k + (j + 1) = k + 1 + j by omega]; exact hne)) ?_
    have h0 := h 0 o x (by simp)
    rw [Nat.add_zero] at h0
    cases hf : f k <;> cases hg : g k <;> simp only [if_true, if_false, Bool.false_eq_true, app_used]
    · exact hs
    · have := h0 (by simp [hf, hg]); rw [hs]; constructor
      · exact .inr
      · rintro (hh | hh); exact (this hh).elim; exact hh
    · have := h0 (by simp [hf, hg]); rw [← hs]; constructor
      · rintro (hh | hh); exact (this hh).elim; exact hh
      · exact .inr
    · rw [hs]

theorem foldS_n {l : List (Oper × Option Eff)} : ∀ {f : Nat → Bool} {k : Nat} {s : AS}, (foldS l f k s).n = s.n := by
  induction l with
  | nil => intros; rfl
  | cons p r ih => obtain ⟨o, x⟩ := p; intro f k s; simp only [foldS]; rw [ih]; split <;> rfl

/-! ### Who waits for whom -/

/-- masks: for each operation (in order) the bits of those that it waits for, through others too. -/
def maskOk (ops : Array Oper) (M : List Nat) : Bool :=
  (List.range ops.size).all fun j =>
    match ops[j]? with
    | none => true
    | some o => o.after.toList.all (fun e => !Region.binds .any e || decide (e.on < j)) &&
      (List.range ops.size).all fun i => !(M.getD j 0).testBit i || o.after.toList.any (fun e => Region.binds .any e && (e.on == i || (M.getD e.on 0).testBit i))

def Closed (ops : Array Oper) (f : Nat → Bool) : Prop := ∀ j o, ops[j]? = some o → f j = true → ∀ e ∈ o.after, Region.binds .any e = true → f e.on = true

theorem maskOk_edge {ops : Array Oper} {M : List Nat} (h : maskOk ops M = true) {j : Nat} {o : Oper} (ho : ops[j]? = some o) : ∀ e ∈ o.after, Region.binds .any e = true → e.on < j := by
  unfold maskOk at h
  rw [List.all_eq_true] at h
  have h1 := h j (List.mem_range.2 (Array.getElem?_eq_some_iff.1 ho).1)
  simp only [ho, Bool.and_eq_true, List.all_eq_true] at h1
  intro e he hb
  have h2 := h1.1 e (Array.mem_toList_iff.2 he)
  rw [hb] at h2
  simpa using h2

theorem maskOk_bit {ops : Array Oper} {M : List Nat} (h : maskOk ops M = true) {j : Nat} {o : Oper} (ho : ops[j]? = some o) {i : Nat} (hi : i < ops.size) (hb : (M.getD j 0).testBit i = true) :
    ∃ e ∈ o.after, Region.binds .any e = true ∧ (e.on = i ∨ (M.getD e.on 0).testBit i = true) := by
  unfold maskOk at h
  rw [List.all_eq_true] at h
  have h1 := h j (List.mem_range.2 (Array.getElem?_eq_some_iff.1 ho).1)
  simp only [ho, Bool.and_eq_true, List.all_eq_true] at h1
  have h2 := h1.2 i (List.mem_range.2 hi)
  rw [hb] at h2
  simp only [Bool.not_true, Bool.false_or, List.any_eq_true, Bool.and_eq_true, Bool.or_eq_true, beq_iff_eq] at h2
  obtain ⟨e, he, hbe, hor⟩ := h2
  exact ⟨e, Array.mem_toList_iff.1 he, hbe, hor⟩

theorem closed_anc {ops : Array Oper} {M : List Nat} (h : maskOk ops M = true) {f : Nat → Bool} (hc : Closed ops f) : ∀ (j : Nat) (o : Oper) (i : Nat), ops[j]? = some o → i < ops.size → (M.getD j 0).testBit i = true →
    (∀ e ∈ o.after, Region.binds .any e = true → f e.on = true) → f i = true := by
  intro j
  induction j using Nat.strongRecOn with
  | _ j ih =>
    intro o i ho hi hb hall
    obtain ⟨e, he, hbe, hor⟩ := maskOk_bit h ho hi hb
    have hf := hall e he hbe
    rcases hor with rfl | hbit
    · exact hf
    · have hlt := maskOk_edge h ho e he hbe
      have hjs := (Array.getElem?_eq_some_iff.1 ho).1
      have ho' : ops[e.on]? = some ops[e.on] := Array.getElem?_eq_getElem (by omega)
      exact ih e.on hlt _ i ho' hi hbit (fun e' he' hb' => hc e.on _ ho' hf e' he' hb')

def zipE (l : List Oper) (xs : List (Option Eff)) : List (Oper × Option Eff) := l.zip xs

def traceOk (ops : Array Oper) (M : List Nat) (lx : List (Oper × Option Eff)) : Bool :=
  maskOk ops M && (List.range lx.length).all fun j => (List.range j).all fun i =>
    (M.getD j 0).testBit i ||
    match lx[i]?, lx[j]? with
    | some (o, x), some (o', x') => apartB ops o o' x x'
    | _, _ => true

theorem traceOk_apart {ops : Array Oper} {M : List Nat} {lx : List (Oper × Option Eff)} (h : traceOk ops M lx = true) {i j : Nat} {o o' : Oper} {x x' : Option Eff} (hij : i < j)
    (hi : lx[i]? = some (o, x)) (hj : lx[j]? = some (o', x')) : (M.getD j 0).testBit i = true ∨ Apart ops o o' x x' := by
  unfold traceOk at h
  simp only [Bool.and_eq_true, List.all_eq_true] at h
  have h1 := h.2 j (List.mem_range.2 (List.getElem?_eq_some_iff.1 hj).1) i (List.mem_range.2 hij)
  simp only [hi, hj, Bool.or_eq_true] at h1
  exact h1.imp id apartB_spec

theorem cert_len {ops : Array Oper} : ∀ {l : List Oper} {s t : AS} {xs : List (Option Eff)}, Cert P ops l s xs t → xs.length = l.length
  | [], _, _, [], _ => rfl
  | _ :: _, _, _, _ :: _, ⟨_, h⟩ => by simp [cert_len h]
  | [], _, _, _ :: _, h => h.elim
  | _ :: _, _, _, [], h => h.elim

theorem cert_end {ops : Array Oper} : ∀ {l : List Oper} {s t : AS} {xs : List (Option Eff)} {k : Nat}, Cert P ops l s xs t → foldS (zipE l xs) (fun _ => true) k s = t
  | [], _, _, [], _, h => h
  | o :: l, s, t, x :: xs, k, ⟨_, h⟩ => by
    show foldS (zipE l xs) _ (k + 1) (if true = true then _ else _) = t
    rw [if_pos rfl]
    exact cert_end h
  | [], _, _, _ :: _, _, h => h.elim
  | _ :: _, _, _, [], _, h => h.elim

theorem cert_step {ops : Array Oper} : ∀ {l : List Oper} {s t : AS} {xs : List (Option Eff)} {k : Nat}, Cert P ops l s xs t → ∀ (i : Nat) (o : Oper) (x : Option Eff), (zipE l xs)[i]? = some (o, x) →
    StepC P ops o (foldS ((zipE l xs).take i) (fun _ => true) k s) x
  | [], _, _, [], _, _, i, o, x, h => by simp [zipE] at h
  | o' :: l, s, t, x' :: xs, k, ⟨h1, h2⟩, 0, o, x, h => by
    simp [zipE] at h
    obtain ⟨rfl, rfl⟩ := h
    simpa [zipE, foldS] using h1
  | o' :: l, s, t, x' :: xs, k, ⟨h1, h2⟩, i + 1, o, x, h => by
    have := cert_step (k := k + 1) h2 i o x (by simpa [zipE] using h)
    simpa [zipE, foldS] using this
  | [], _, _, _ :: _, _, h, _, _, _, _ => h.elim
  | _ :: _, _, _, [], _, h, _, _, _, _ => h.elim

def unl (n : Nat) (f : Nat → Bool) : Nat := ((List.range n).filter fun i => !f i).length

theorem unl_set {n i : Nat} {f g : Nat → Bool} (hi : i < n) (hf : f i = false) (hg : ∀ j, g j = (f j || j == i)) : unl n g < unl n f := by
  unfold unl
  have key : ∀ l : List Nat, (l.filter fun j => !g j).length ≤ (l.filter fun j => !f j).length ∧ (i ∈ l → (l.filter fun j => !g j).length < (l.filter fun j => !f j).length) := by
    intro l
    induction l with
    | nil => exact ⟨Nat.le_refl _, fun h => by simp at h⟩
    | cons x l ih =>
      by_cases hx : x = i
      · subst hx
        have h1 : g x = true := by rw [hg]; simp
        simp only [List.filter_cons, hf, h1, Bool.not_false, Bool.not_true, if_true, Bool.false_eq_true, if_false, List.length_cons]
        exact ⟨by have := ih.1; omega, fun _ => by have := ih.1; omega⟩
      · have h1 : g x = f x := by rw [hg]; simp [hx]
        simp only [List.filter_cons, h1]
        split
        · simp only [List.length_cons]
          exact ⟨by have := ih.1; omega, fun hm => by
            have := ih.2 (by simpa [Ne.symm hx] using hm)
            omega⟩
        · exact ⟨ih.1, fun hm => ih.2 (by simpa [Ne.symm hx] using hm)⟩
  exact (key _).2 (List.mem_range.2 hi)

theorem getD_set {listed : Array Bool} {i : Nat} (hi : i < listed.size) (j : Nat) : (listed.setIfInBounds i true).getD j false = (listed.getD j false || j == i) := by
  simp only [Array.getD_eq_getD_getElem?, Array.getElem?_setIfInBounds]
  by_cases h : i = j
  · subst h; simp [hi]
  · simp [h, Ne.symm h]

theorem cert_any {ops : Array Oper} {Q : Exit → Act → World → Prop} {M : List Nat} {s0 t : AS} {xs : List (Option Eff)} (hc : Cert P ops ops.toList s0 xs t) (ht : traceOk ops M (zipE ops.toList xs) = true)
    (hQ : ∀ β' a' w', Rel N0 W0 t β' a' w' → Q .normal a' w') : ∀ (fuel : Nat) (listed : Array Bool) (β : Plc) (a : Act) (w : World), listed.size = ops.size → Closed ops (fun i => listed.getD i false) →
    unl ops.size (fun i => listed.getD i false) ≤ fuel → Rel N0 W0 (foldS (zipE ops.toList xs) (fun i => listed.getD i false) 0 s0) β a w → wpAny P .any ops Q fuel listed a w := by
  have hlen := cert_len hc
  have hzl : (zipE ops.toList xs).length = ops.size := by simp [zipE, hlen]
  have hmask : maskOk ops M = true := by unfold traceOk at ht; simp only [Bool.and_eq_true] at ht; exact ht.1
  have hzip : ∀ (i : Nat) (o : Oper), ops[i]? = some o → ∃ x, (zipE ops.toList xs)[i]? = some (o, x) := by
    intro i o ho
    have hi := (Array.getElem?_eq_some_iff.1 ho).1
    have h1 : i < xs.length := by rw [hlen]; simpa using hi
    refine ⟨xs[i], ?_⟩
    unfold zipE
    rw [List.getElem?_zip_eq_some]
    exact ⟨by simpa using ho, List.getElem?_eq_getElem h1⟩
  have hzop : ∀ (i : Nat) (o : Oper) (x : Option Eff), (zipE ops.toList xs)[i]? = some (o, x) → ops[i]? = some o := by
    intro i o x h
    unfold zipE at h
    rw [List.getElem?_zip_eq_some] at h
    simpa using h.1
  -- nothing is ready: all is told
  have hend : ∀ (listed : Array Bool) (β : Plc) (a : Act) (w : World), listed.size = ops.size → Region.ready .any ops listed = [] → Rel N0 W0 (foldS (zipE ops.toList xs) (fun i => listed.getD i false) 0 s0) β a w → Q .normal a w := by
    intro listed β a w hsz hr r
    have hall : ∀ j, j < ops.size → listed.getD j false = true := by
      intro j
      induction j using Nat.strongRecOn with
      | _ j ih =>
        intro hj
        cases hl : listed.getD j false with
        | true => rfl
        | false =>
          exfalso
          have ho : ops[j]? = some ops[j] := Array.getElem?_eq_getElem hj
          have : j ∈ Region.ready .any ops listed := mem_ready.2 ⟨by
            rw [Array.getD_eq_getD_getElem?, Array.getElem?_eq_getElem (by omega)] at hl ⊢; simpa using hl, ops[j], ho, fun e he hb => by
            have hlt := maskOk_edge hmask ho e he hb
            exact ih e.on hlt (by omega)⟩
          rw [hr] at this
          cases this
    rw [foldS_congr (g := fun _ => true) (fun j _ hj => hall j (by rw [hzl] at hj; omega)), cert_end hc] at r
    exact hQ β a w r
  intro fuel
  induction fuel with
  | zero =>
    intro listed β a w hsz hcl hu r
    have hr : Region.ready .any ops listed = [] := by
      cases hr : Region.ready .any ops listed with
      | nil => rfl
      | cons j js =>
        exfalso
        have hj : j ∈ Region.ready .any ops listed := by rw [hr]; simp
        obtain ⟨h0, o, ho, _⟩ := mem_ready.1 hj
        have hjs := (Array.getElem?_eq_some_iff.1 ho).1
        have hmem : j ∈ (List.range ops.size).filter (fun i => !listed.getD i false) := by
          rw [List.mem_filter]
          refine ⟨List.mem_range.2 hjs, ?_⟩
          rw [Array.getD_eq_getD_getElem?, Array.getElem?_eq_getElem (by omega)] at h0 ⊢
          simpa using h0
        have := List.length_pos_of_mem hmem
        have hu2 : ((List.range ops.size).filter fun i => !listed.getD i false).length ≤ 0 := hu
        omega
    exact ⟨hr, hend listed β a w hsz hr r⟩
  | succ fuel ih =>
    intro listed β a w hsz hcl hu r
    refine ⟨fun hr => hend listed β a w hsz hr r, fun i hi => ?_⟩
    obtain ⟨h0, o, ho, hpre⟩ := mem_ready.1 hi
    have his := (Array.getElem?_eq_some_iff.1 ho).1
    have hfi : listed.getD i false = false := by
      rw [Array.getD_eq_getD_getElem?, Array.getElem?_eq_getElem (by omega)] at h0 ⊢
      simpa using h0
    obtain ⟨x, hx⟩ := hzip i o ho
    have hst := cert_step (k := 0) hc i o x hx
    let f : Nat → Bool := fun i => listed.getD i false
    let lx := zipE ops.toList xs
    have hil : i < lx.length := (List.getElem?_eq_some_iff.1 hx).1
    -- whoever has been told and stands behind, whoever has not and stands ahead, is apart
    have hbehind : ∀ (j : Nat) (o' : Oper) (x' : Option Eff), lx[j]? = some (o', x') → i < j → f j = true → Apart ops o o' x x' := by
      intro j o' x' hj hij hfj
      rcases traceOk_apart ht hij hx hj with hb | hap
      · have := closed_anc hmask hcl j o' i (hzop _ _ _ hj) his hb (fun e he hbe => hcl j o' (hzop _ _ _ hj) hfj e he hbe)
        rw [hfi] at this; cases this
      · exact hap
    have hahead : ∀ (j : Nat) (o' : Oper) (x' : Option Eff), lx[j]? = some (o', x') → j < i → f j = false → Apart ops o' o x' x := by
      intro j o' x' hj hij hfj
      rcases traceOk_apart ht hij hj hx with hb | hap
      · have := closed_anc hmask hcl i o j ho (by omega) hb hpre
        have hfj' : listed.getD j false = false := hfj
        rw [hfj'] at this; cases this
      · exact hap
    have hsplit : lx = lx.take i ++ (o, x) :: lx.drop (i + 1) := by
      have h1 : lx[i] = (o, x) := by have := hx; rw [List.getElem?_eq_getElem hil] at this; simpa using this
      have h2 := List.drop_eq_getElem_cons hil
      rw [h1] at h2
      rw [← h2, List.take_append_drop]
    have hS : foldS lx f 0 s0 = foldS (lx.drop (i + 1)) f (i + 1) (foldS (lx.take i) f 0 s0) := by
      conv => lhs; rw [hsplit]
      rw [foldS_append]
      simp only [foldS]
      have : f (0 + (lx.take i).length) = false := by
        have : (lx.take i).length = i := by simp; omega
        rw [this, Nat.zero_add]; exact hfi
      rw [this]
      simp only [Bool.false_eq_true, if_false]
      congr 1
      simp; omega
    have hS' : foldS lx (fun j => f j || j == i) 0 s0 = foldS (lx.drop (i + 1)) f (i + 1) ((foldS (lx.take i) f 0 s0).app o.dst (effOf x)) := by
      conv => lhs; rw [hsplit]
      rw [foldS_append]
      have hl : (lx.take i).length = i := by simp; omega
      simp only [foldS]
      rw [hl, Nat.zero_add]
      simp only [beq_self_eq_true, Bool.or_true, if_true]
      rw [foldS_congr (l := lx.take i) (g := f) (fun j _ hj => by
        rw [hl] at hj
        have : (j == i) = false := by simp; omega
        simp [this])]
      exact foldS_congr (fun j hj _ => by
        have : (j == i) = false := by simp; omega
        simp [this])
    -- the state here and the text's state agree on what the operation looks at
    have hget : ∀ t ∈ looks ops o, (foldS lx f 0 s0).get t = (foldS (lx.take i) (fun _ => true) 0 s0).get t := by
      intro t ht'
      rw [hS]
      have e1 : (foldS (lx.drop (i + 1)) f (i + 1) (foldS (lx.take i) f 0 s0)).get t = (foldS (lx.drop (i + 1)) (fun _ => false) (i + 1) (foldS (lx.take i) (fun _ => true) 0 s0)).get t := by
        refine foldS_look t (fun j o' x' hj hne hd => ?_) (foldS_look t (fun j o' x' hj hne hd => ?_) rfl)
        · have hj' : lx[i + 1 + j]? = some (o', x') := by rw [List.getElem?_drop] at hj; exact hj
          have hf : f (i + 1 + j) = true := by simpa using hne
          exact ((hbehind _ _ _ hj' (by omega) hf).d2 t hd).1 ht'
        · have hji : j < i := by
            have := (List.getElem?_eq_some_iff.1 hj).1
            simp at this; omega
          have hj' : lx[j]? = some (o', x') := by rw [List.getElem?_take, if_pos hji] at hj; exact hj
          have hf : f j = false := by simpa using hne
          exact ((hahead _ _ _ hj' hji hf).d1 t hd).1 ht'
      rw [e1]
      clear e1
      have : ∀ (l : List (Oper × Option Eff)) (k : Nat) (s : AS), foldS l (fun _ => false) k s = s := by
        intro l
        induction l with
        | nil => intros; rfl
        | cons p r ih => obtain ⟨o, x⟩ := p; intro k s; simp only [foldS, Bool.false_eq_true, if_false]; exact ih _ _
      rw [this]
    have hobj : ∀ id ∈ (effOf x).log, (foldS lx f 0 s0).obj id = (foldS (lx.take i) (fun _ => true) 0 s0).obj id := by
      intro id hid
      rw [hS]
      have e1 : (foldS (lx.drop (i + 1)) f (i + 1) (foldS (lx.take i) f 0 s0)).obj id = (foldS (lx.drop (i + 1)) (fun _ => false) (i + 1) (foldS (lx.take i) (fun _ => true) 0 s0)).obj id := by
        refine foldS_obj id (fun j o' x' hj hne hd => ?_) (foldS_obj id (fun j o' x' hj hne hd => ?_) rfl)
        · have hj' : lx[i + 1 + j]? = some (o', x') := by rw [List.getElem?_drop] at hj; exact hj
          have hf : f (i + 1 + j) = true := by simpa using hne
          exact ((hbehind _ _ _ hj' (by omega) hf).s2 id hd).2 hid
        · have hji : j < i := by
            have := (List.getElem?_eq_some_iff.1 hj).1
            simp at this; omega
          have hj' : lx[j]? = some (o', x') := by rw [List.getElem?_take, if_pos hji] at hj; exact hj
          have hf : f j = false := by simpa using hne
          exact ((hahead _ _ _ hj' hji hf).s1 id hd).2 hid
      rw [e1]
      have : ∀ (l : List (Oper × Option Eff)) (k : Nat) (s : AS), foldS l (fun _ => false) k s = s := by
        intro l
        induction l with
        | nil => intros; rfl
        | cons p r ih => obtain ⟨o, x⟩ := p; intro k s; simp only [foldS, Bool.false_eq_true, if_false]; exact ih _ _
      rw [this]
    have hused : ∀ id ∈ (effOf x).fresh, (id ∈ (foldS lx f 0 s0).used ↔ id ∈ (foldS (lx.take i) (fun _ => true) 0 s0).used) := by
      intro id hid
      rw [hS]
      have e1 : (id ∈ (foldS (lx.drop (i + 1)) f (i + 1) (foldS (lx.take i) f 0 s0)).used) ↔ (id ∈ (foldS (lx.drop (i + 1)) (fun _ => false) (i + 1) (foldS (lx.take i) (fun _ => true) 0 s0)).used) := by
        refine foldS_used id (fun j o' x' hj hne hd => ?_) (foldS_used id (fun j o' x' hj hne hd => ?_) Iff.rfl)
        · have hj' : lx[i + 1 + j]? = some (o', x') := by rw [List.getElem?_drop] at hj; exact hj
          have hf : f (i + 1 + j) = true := by simpa using hne
          exact (hbehind _ _ _ hj' (by omega) hf).f2 id hd hid
        · have hji : j < i := by
            have := (List.getElem?_eq_some_iff.1 hj).1
            simp at this; omega
          have hj' : lx[j]? = some (o', x') := by rw [List.getElem?_take, if_pos hji] at hj; exact hj
          have hf : f j = false := by simpa using hne
          exact (hahead _ _ _ hj' hji hf).f1 id hd hid
      rw [e1]
      have : ∀ (l : List (Oper × Option Eff)) (k : Nat) (s : AS), foldS l (fun _ => false) k s = s := by
        intro l
        induction l with
        | nil => intros; rfl
        | cons p r ih => obtain ⟨o, x⟩ := p; intro k s; simp only [foldS, Bool.false_eq_true, if_false]; exact ih _ _
      rw [this]
    have hn : (foldS lx f 0 s0).n = (foldS (lx.take i) (fun _ => true) 0 s0).n := by rw [foldS_n, foldS_n]
    have hguard : ∀ j want, o.guard = some (j, want) → guardAV ops (foldS lx f 0 s0) j = guardAV ops (foldS (lx.take i) (fun _ => true) 0 s0) j := by
      intro j want hg
      unfold guardAV
      cases hd : (ops[j]?).bind (·.dst) with
      | none => rfl
      | some d => exact hget d (by unfold looks; rw [hg]; simp [hd])
    have hsays : ∀ b, Says ops (foldS (lx.take i) (fun _ => true) 0 s0) o b → Says ops (foldS lx f 0 s0) o b := by
      intro b hb
      cases hb with
      | plain h => exact .plain h
      | yes j want h hg => exact .yes j want h (by rw [hguard j want h]; exact hg)
      | no j want b h hg hb => exact .no j want b h (by rw [hguard j want h]; exact hg) hb
      | out j want h hg => exact .out j want h (by rw [hguard j want h]; exact hg)
    have hstep : StepC P ops o (foldS lx f 0 s0) x := by
      cases x with
      | none => exact ⟨hsays _ hst.1, by rw [hn]; exact hst.2⟩
      | some e =>
        obtain ⟨h1, h2, h3⟩ := hst
        refine ⟨hsays _ h1, ?_, fun id hid => fun hh => h3 id hid ((hused id hid).1 hh)⟩
        intro s' hs1 hs2 hs3 hs4
        exact h2 s' (hs1.trans hn) (fun t ht' => (hs2 t ht').trans (hget t (List.mem_append_left _ ht'))) (fun id hid => (hs3 id hid).trans (hobj id hid)) hs4
    unfold wpOp
    simp only [ho]
    have hk := stepC_ok hstep r (wpAny P .any ops Q fuel (listed.setIfInBounds i true)) Q ?_
    · split
      · rename_i hw; rw [if_pos hw] at hk; exact .inl hk
      · rename_i hw; rw [if_neg hw] at hk; exact hk
    · intro β' a' w' r'
      have hgs : ∀ j, (listed.setIfInBounds i true).getD j false = (f j || j == i) := fun j => getD_set (by omega) j
      refine ih (listed.setIfInBounds i true) β' a' w' (by simpa using hsz) ?_ ?_ ?_
      · intro j o' ho' hj e he hb
        show (listed.setIfInBounds i true).getD e.on false = true
        have hj' : (listed.setIfInBounds i true).getD j false = true := hj
        rw [hgs] at hj' ⊢
        by_cases hji : j = i
        · subst hji
          rw [ho] at ho'; cases ho'
          have : f e.on = true := hpre e he hb
          simp [this]
        · have hfj : f j = true := by simpa [hji] using hj'
          have : f e.on = true := hcl j o' ho' hfj e he hb
          simp [this]
      · have hlt := unl_set (n := ops.size) (i := i) (f := f) (g := fun j => (listed.setIfInBounds i true).getD j false) his hfi hgs
        have hu' : unl ops.size f ≤ fuel + 1 := hu
        omega
      · have heq : (fun j => (listed.setIfInBounds i true).getD j false) = fun j => (f j || j == i) := funext hgs
        rw [heq, hS']
        refine Rel.same ?_ r'
        have hcomm := foldS_comm (ops := ops) (o := o) (x := x) (l := lx.drop (i + 1)) (f := f) (k := i + 1) (s := foldS (lx.take i) f 0 s0) (fun j o' x' hj hf => by
          have hj' : lx[i + 1 + j]? = some (o', x') := by rw [List.getElem?_drop] at hj; exact hj
          exact hbehind _ _ _ hj' (by omega) hf)
        show Same ((foldS lx f 0 s0).app o.dst (effOf x)) _
        rw [hS]
        exact hcomm.symm

end
end Go.Eng
/- The engine, part 6: the walk over code; contracts of functions. -/
set_option linter.unusedVariables false
namespace Go.Eng
open Go Go.RowKit

section
variable {N0 : Nat} {W0 : World} {s s' : AS} {β β' : Plc} {a : Act} {w w' : World} {P : Program}

/-- A reckoning of effects, and that it is right. -/
abbrev Reck := Oper → AS → Option Eff
def Reck.Ok (P : Program) (E : Reck) : Prop := ∀ o s e, E o s = some e → EffU P o s e

def freshB (s : AS) (e : Eff) : Bool := e.fresh.all fun i => !s.used.contains i

theorem freshB_spec {e : Eff} (h : freshB s e = true) : ∀ i ∈ e.fresh, i ∉ s.used := by
  unfold freshB at h
  simpa using h

/-- One operation: reckoned, or (a call) by whatever effect is shown. -/
def stepE (P : Program) (E : Reck) (o : Oper) (s : AS) (k : Eff → Prop) : Prop :=
  match E o s with
  | some e => freshB s e = true ∧ k e
  | none => ∃ e, EffU P o s e ∧ freshB s e = true ∧ k e

theorem stepE_ok {E : Reck} (hE : E.Ok P) {o : Oper} {k : Eff → Prop} (h : stepE P E o s k) : ∃ e, (EffU P o s e ∧ ∀ i ∈ e.fresh, i ∉ s.used) ∧ k e := by
  unfold stepE at h
  split at h
  · rename_i e he; exact ⟨e, ⟨hE o s e he, freshB_spec h.1⟩, h.2⟩
  · obtain ⟨e, h1, h2, h3⟩ := h; exact ⟨e, ⟨h1, freshB_spec h2⟩, h3⟩

/-- The operations of a region, in the text's order. -/
def walkN (P : Program) (E : Reck) (ops : Array Oper) : List Oper → AS → (AS → Prop) → Prop
  | [], s, k => k s
  | o :: r, s, k => gwhen ops s o (stepE P E o s fun e => walkN P E ops r (s.app o.dst e) k) (Oper.dstOk o s.n = true ∧ walkN P E ops r (s.app o.dst skipE) k)

/-- The same, with the effects noted down. -/
def walkL (P : Program) (E : Reck) (ops : Array Oper) : List Oper → AS → List (Option Eff) → (List (Option Eff) → AS → Prop) → Prop
  | [], s, tr, k => k tr s
  | o :: r, s, tr, k => gwhen ops s o (stepE P E o s fun e => walkL P E ops r (s.app o.dst e) (tr ++ [some e]) k) (Oper.dstOk o s.n = true ∧ walkL P E ops r (s.app o.dst skipE) (tr ++ [none]) k)

theorem walkN_cert {E : Reck} (hE : E.Ok P) {ops : Array Oper} : ∀ {l : List Oper} {s : AS} {k : AS → Prop}, walkN P E ops l s k → ∃ xs t, Cert P ops l s xs t ∧ k t
  | [], s, k, h => ⟨[], s, rfl, h⟩
  | o :: r, s, k, h => by
    rcases gwhen_says h with ⟨h1, h2⟩ | ⟨h1, h2, h3⟩
    · obtain ⟨e, he, hk⟩ := stepE_ok hE h2
      obtain ⟨xs, t, hc, hk'⟩ := walkN_cert hE hk
      exact ⟨some e :: xs, t, ⟨⟨h1, he⟩, hc⟩, hk'⟩
    · obtain ⟨xs, t, hc, hk'⟩ := walkN_cert hE h3
      exact ⟨none :: xs, t, ⟨⟨h1, h2⟩, hc⟩, hk'⟩

theorem walkL_cert {E : Reck} (hE : E.Ok P) {ops : Array Oper} : ∀ {l : List Oper} {s : AS} {tr : List (Option Eff)} {k : List (Option Eff) → AS → Prop}, walkL P E ops l s tr k → ∃ xs t, Cert P ops l s xs t ∧ k (tr ++ xs) t
  | [], s, tr, k, h => ⟨[], s, rfl, by rw [List.append_nil]; exact h⟩
  | o :: r, s, tr, k, h => by
    rcases gwhen_says h with ⟨h1, h2⟩ | ⟨h1, h2, h3⟩
    · obtain ⟨e, he, hk⟩ := stepE_ok hE h2
      obtain ⟨xs, t, hc, hk'⟩ := walkL_cert hE hk
      exact ⟨some e :: xs, t, ⟨⟨h1, he⟩, hc⟩, by simpa using hk'⟩
    · obtain ⟨xs, t, hc, hk'⟩ := walkL_cert hE h3
      exact ⟨none :: xs, t, ⟨⟨h1, h2⟩, hc⟩, by simpa using hk'⟩

/-- Only the slots of l are kept. -/
def AS.keep (l : List Nat) (s : AS) : AS := { s with env := l.map fun k => (k, look s.env k) }

theorem look_map (l : List Nat) (f : Nat → AV) (k : Nat) : look (l.map fun k => (k, f k)) k = if k ∈ l then f k else .dead := by
  induction l with
  | nil => rfl
  | cons j l ih =>
    simp only [List.map_cons, look_cons, ih, List.mem_cons]
    by_cases h : j = k
    · subst h; simp
    · simp [h, Ne.symm h]

theorem Rel.keep (r : Rel N0 W0 s β a w) (l : List Nat) : Rel N0 W0 (s.keep l) β a w where
  below := r.below
  size0 := r.size0
  size := r.size
  defers := r.defers
  env := fun k => by
    show AR N0 β _ w (look (l.map fun k => (k, look s.env k)) k) _
    rw [look_map]
    split
    · exact r.env k
    · trivial
  dom := r.dom
  hdom := r.hdom
  obj := r.obj
  disj := r.disj

/-- s' says no more than s. -/
def Weak (s s' : AS) : Prop := ∀ N0 W0 β a w, Rel N0 W0 s β a w → ∃ β', Rel N0 W0 s' β' a w

theorem Weak.refl (s : AS) : Weak s s := fun _ _ β _ _ r => ⟨β, r⟩
theorem Weak.trans {s s' s'' : AS} (h : Weak s s') (h' : Weak s' s'') : Weak s s'' := fun N0 W0 β a w r => let ⟨β', r'⟩ := h N0 W0 β a w r; h' N0 W0 β' a w r'

/-- A loop: what holds at each round's head, by an index that every round lowers. -/
def LoopW (body : (Exit → AS → Prop) → AS → Prop) (Q : Exit → AS → Prop) (s : AS) : Prop :=
  ∃ (ι : Type) (S : ι → AS) (I : ι → Prop) (μ : ι → Nat), (∀ N0 W0 β a w, Rel N0 W0 s β a w → ∃ i β', I i ∧ Rel N0 W0 (S i) β' a w) ∧
    ∀ i, I i → body (fun e t => match e with | .normal => ∃ j, I j ∧ μ j < μ i ∧ Weak t (S j) | e => Q e t) (S i)

/-- The walk over code. 'K': the slots that are kept behind a region. -/
def awp (P : Program) (E : Reck) (K : Nat → List Nat) : Code → (Exit → AS → Prop) → AS → Prop
  | .skip, Q, s => Q .normal s
  | .region id ops draw, Q, s =>
    if draw then walkL P E ops ops.toList s [] fun tr t => traceOk ops (Region.before ops).toList (zipE ops.toList tr) = true ∧ Q .normal (t.keep (K id))
    else walkN P E ops ops.toList s fun t => Q .normal (t.keep (K id))
  | .seq x y, Q, s => awp P E K x (fun e t => match e with | .normal => awp P E K y Q t | e => Q e t) s
  | .cond c x y, Q, s =>
    match s.ev c with
    | .one (.sc (.bool b)) => (b = true → awp P E K x Q s) ∧ (b = false → awp P E K y Q s)
    | _ => False
  | .block id c, Q, s => awp P E K c (fun e t => match e with | .exit id' => if id' = id then Q .normal t else Q (.exit id') t | e => Q e t) s
  | .loop c, Q, s => LoopW (awp P E K c) Q s
  | .exit id, Q, s => Q (.exit id) s
  | .ret, Q, s => Q .ret s
  | _, _, _ => False

def lift (N0 : Nat) (W0 : World) (Q : Exit → AS → Prop) : Exit → Act → World → Prop := fun e a w => ∃ s β, Rel N0 W0 s β a w ∧ Q e s

theorem awp_sound {E : Reck} (hE : E.Ok P) (hm : P.follows .mixedOrders = true) {K : Nat → List Nat} : ∀ (c : Code) {Q : Exit → AS → Prop} {s : AS} {β : Plc} {a : Act} {w : World},
    awp P E K c Q s → Rel N0 W0 s β a w → c.wp P (lift N0 W0 Q) a w
  | .skip, Q, s, β, a, w, h, r => wp_skip ⟨s, β, r, h⟩
  | .region id ops draw, Q, s, β, a, w, h, r => by
    unfold awp at h
    split at h
    · rename_i hd
      subst hd
      obtain ⟨xs, t, hc, htr, hq⟩ := walkL_cert hE h
      refine wp_region_any hm ?_
      have r' : Rel N0 W0 s β a { w with drawn := w.drawn + 1 } := r.grow ⟨rfl, rfl, rfl, Nat.le_refl _, fun _ _ => rfl⟩
      refine cert_any hc htr (fun β' a' w' r' => ⟨_, β', r'.keep (K id), hq⟩) ops.size _ β a _ (by simp) ?_ ?_ ?_
      · intro j o ho hj
        exfalso
        simp only [Array.getD_eq_getD_getElem?, Array.getElem?_replicate] at hj
        split at hj <;> simp at hj
      · unfold unl
        exact Nat.le_trans (List.length_filter_le _ _) (by simp)
      · rw [foldS_congr (g := fun _ => false) (fun j _ _ => by
          simp only [Array.getD_eq_getD_getElem?, Array.getElem?_replicate]; split <;> rfl)]
        have : ∀ (l : List (Oper × Option Eff)) (k : Nat) (s : AS), foldS l (fun _ => false) k s = s := by
          intro l
          induction l with
          | nil => intros; rfl
          | cons p r ih => obtain ⟨o, x⟩ := p; intro k s; simp only [foldS, Bool.false_eq_true, if_false]; exact ih _ _
        rw [this]
        exact r'
    · rename_i hd
      have hd' : draw = false := by simpa using hd
      subst hd'
      obtain ⟨xs, t, hc, hq⟩ := walkN_cert hE h
      exact wp_region_list (cert_list hc r fun β' a' w' r' => ⟨_, β', r'.keep (K id), hq⟩)
  | .seq x y, Q, s, β, a, w, h, r => by
    unfold awp at h
    refine wp_seq (wp_mono (awp_sound hE hm x h r) ?_)
    rintro e a' w' ⟨t, β', r', hq⟩
    cases e with
    | normal => exact awp_sound hE hm y hq r'
    | _ => exact ⟨t, β', r', hq⟩
  | .cond c x y, Q, s, β, a, w, h, r => by
    unfold awp at h
    split at h
    · rename_i b hb
      have hv := r.ev c
      rw [hb] at hv
      cases b with
      | true => exact wp_cond_true hv (awp_sound hE hm x (h.1 rfl) r)
      | false => exact wp_cond_false hv (awp_sound hE hm y (h.2 rfl) r)
    · exact h.elim
  | .block id c, Q, s, β, a, w, h, r => by
    unfold awp at h
    refine wp_block (wp_mono (awp_sound hE hm c h r) ?_)
    rintro e a' w' ⟨t, β', r', hq⟩
    cases e with
    | exit id' =>
      show if id' = id then _ else _
      dsimp only at hq
      split at hq
      · rename_i hid; rw [if_pos hid]; exact ⟨t, β', r', hq⟩
      · rename_i hid; rw [if_neg hid]; exact ⟨t, β', r', hq⟩
    | _ => exact ⟨t, β', r', hq⟩
  | .loop c, Q, s, β, a, w, h, r => by
    unfold awp at h
    obtain ⟨ι, S, I, μ, hent, hround⟩ := h
    obtain ⟨i0, β0, hi0, r0⟩ := hent N0 W0 β a w r
    refine wp_loop_ghost (fun n a w => ∃ i β, I i ∧ μ i = n ∧ Rel N0 W0 (S i) β a w) (μ i0) ?_ ?_
    · exact ⟨i0, β0, hi0, rfl, r0⟩
    · rintro n a w ⟨i, β, hi, rfl, r⟩
      refine wp_mono (awp_sound hE hm c (hround i hi) r) ?_
      rintro e a' w' ⟨t, β', r', hq⟩
      cases e with
      | normal =>
        obtain ⟨j, hj, hlt, hweak⟩ := hq
        obtain ⟨β2, r2⟩ := hweak N0 W0 β' a' w' r'
        exact ⟨μ j, hlt, j, β2, hj, rfl, r2⟩
      | _ => exact ⟨t, β', r', hq⟩
  | .exit id, Q, s, β, a, w, h, r => wp_exit ⟨s, β, r, h⟩
  | .ret, Q, s, β, a, w, h, r => wp_ret ⟨s, β, r, h⟩
  | .rangeFunc .., _, _, _, _, _, h, _ => h.elim
  | .scope .., _, _, _, _, _, h, _ => h.elim
  | .label .., _, _, _, _, _, h, _ => h.elim
  | .goto .., _, _, _, _, _, h, _ => h.elim
  | .refuse .., _, _, _, _, _, h, _ => h.elim

theorem walkN_nil {E : Reck} {ops : Array Oper} {k : AS → Prop} : walkN P E ops [] s k = k s := rfl
theorem walkN_cons {E : Reck} {ops : Array Oper} {o : Oper} {r : List Oper} {k : AS → Prop} : walkN P E ops (o :: r) s k = gwhen ops s o (stepE P E o s fun e => walkN P E ops r (s.app o.dst e) k) (Oper.dstOk o s.n = true ∧ walkN P E ops r (s.app o.dst skipE) k) := rfl
theorem walkL_nil {E : Reck} {ops : Array Oper} {tr : List (Option Eff)} {k : List (Option Eff) → AS → Prop} : walkL P E ops [] s tr k = k tr s := rfl
theorem walkL_cons {E : Reck} {ops : Array Oper} {o : Oper} {r : List Oper} {tr : List (Option Eff)} {k : List (Option Eff) → AS → Prop} : walkL P E ops (o :: r) s tr k = gwhen ops s o (stepE P E o s fun e => walkL P E ops r (s.app o.dst e) (tr ++ [some e]) k) (Oper.dstOk o s.n = true ∧ walkL P E ops r (s.app o.dst skipE) (tr ++ [none]) k) := rfl
section
variable {E : Reck} {K : Nat → List Nat} {Q : Exit → AS → Prop}
theorem awp_skip : awp P E K .skip Q s = Q .normal s := rfl
theorem awp_ret : awp P E K .ret Q s = Q .ret s := rfl
theorem awp_exit {id : Nat} : awp P E K (.exit id) Q s = Q (.exit id) s := rfl
theorem awp_region {id : Nat} {ops : Array Oper} : awp P E K (.region id ops false) Q s = walkN P E ops ops.toList s fun t => Q .normal (t.keep (K id)) := rfl
theorem awp_draw {id : Nat} {ops : Array Oper} : awp P E K (.region id ops true) Q s = walkL P E ops ops.toList s [] fun tr t => traceOk ops (Region.before ops).toList (zipE ops.toList tr) = true ∧ Q .normal (t.keep (K id)) := rfl
theorem awp_seq {x y : Code} : awp P E K (.seq x y) Q s = awp P E K x (fun e t => match e with | .normal => awp P E K y Q t | e => Q e t) s := rfl
theorem awp_block {id : Nat} {c : Code} : awp P E K (.block id c) Q s = awp P E K c (fun e t => match e with | .exit id' => if id' = id then Q .normal t else Q (.exit id') t | e => Q e t) s := rfl
theorem awp_loop {c : Code} : awp P E K (.loop c) Q s = LoopW (awp P E K c) Q s := rfl
theorem awp_cond {c : Operand} {x y : Code} : awp P E K (.cond c x y) Q s = (match s.ev c with | .one (.sc (.bool b)) => (b = true → awp P E K x Q s) ∧ (b = false → awp P E K y Q s) | _ => False) := rfl
end

end
attribute [irreducible] awp walkN walkL
end Go.Eng
/- The engine, part 7: a state that says less, its objects under other numbers. -/
set_option linter.unusedVariables false
namespace Go.Eng
open Go Go.RowKit

section
variable {N0 : Nat} {W0 : World} {s s' : AS} {β β' : Plc} {a : Act} {w w' : World} {P : Program}

/-- Where an object of the new state comes from: an object of the old one, its first n elements, nil. -/
inductive Src where
  | obj (id : Nat)
  | cut (id n : Nat)
  | nil

def lookS : List (Nat × Src) → Nat → Option Src
  | [], _ => none
  | (j, v) :: r, k => if j = k then some v else lookS r k

/-- c' of the new state says no more than c of the old one. -/
def CVm (m : List (Nat × Src)) (c c' : CV) : Prop :=
  match c' with
  | .ref i => match lookS m i with
    | some (.obj id) => c = .ref id
    | some (.cut id n) => c = .pre id n
    | some .nil => c = .nil
    | none => False
  | .ptr i k x y => match lookS m i with
    | some (.obj id) => c = .ptr id k x y
    | _ => False
  | .pre i n => match lookS m i with
    | some (.obj id) => c = .pre id n
    | _ => False
  | .win i k l n => match lookS m i with
    | some (.obj id) => c = .win id k l n
    | _ => False
  | .imm k xs => c = .imm k xs ∨ (k = 1 ∧ ∃ e, c = .row e (some xs)) ∨ (c = .nil ∧ xs = [])
  | .clo f i => match lookS m i with
    | some (.obj id) => c = .clo f id
    | _ => False
  | c' => c = c'

def AVm (m : List (Nat × Src)) (v v' : AV) : Prop :=
  match v' with
  | .dead => True
  | .one c' => ∃ c, v = .one c ∧ CVm m c c'
  | .agg cs' => ∃ cs, v = .agg cs ∧ All2 (CVm m) cs cs'
  | .tup _ => False

def OBm (m : List (Nat × Src)) (s : AS) (src : Src) (o' : Obj) : Prop :=
  match src with
  | .obj id => match o' with
    | .flat e k xs => s.obj id = some (.flat e k xs) ∨ (s.obj id = some (.zrow e k) ∧ xs = [])
    | .zrow e k => s.obj id = some (.zrow e k)
    | .rows e e' md xss => s.obj id = some (.rows e e' md xss) ∨ (md = .loc false ∧ s.obj id = some (.rows e e' (.loc true) xss)) ∨ (md = .any ∧ ∃ st, s.obj id = some (.rows e e' (.loc st) xss)) ∨ (∃ st st', md = .loc st' ∧ (st' = true → st = true) ∧ s.obj id = some (.rows e e' (.own st) xss)) ∨ ((∃ st, md = .loc st) ∧ ∃ u l n, s.obj id = some (.rowsS e e' u l n xss))
    | .cvs e cs' => ∃ cs, s.obj id = some (.cvs e cs) ∧ All2 (CVm m) cs cs'
    | .box e cs' => ∃ cs, s.obj id = some (.box e cs) ∧ All2 (CVm m) cs cs'
    | .pin S W => s.obj id = some (.pin S W)
    | .stay i v => ∃ i0, lookS m i = some (.obj i0) ∧ s.obj id = some (.stay i0 v)
    | .rowsV e e' st xss us => s.obj id = some (.rowsV e e' st xss us)
    | .res L W => s.obj id = some (.res L W)
    | .rowsS e e' u l n xss => s.obj id = some (.rowsS e e' u l n xss)
    | .rowsD e e' xss => s.obj id = some (.rowsD e e' xss) ∨ (∃ st, s.obj id = some (.rows e e' (.loc st) xss)) ∨ (xss = [] ∧ ∃ st, s.obj id = some (.rows e e' (.own st) []))
  | .cut id n => ∃ e k xs, s.obj id = some (.flat e k xs) ∧ n ≤ xs.length ∧ o' = .flat e k (xs.take n)
  | .nil => ∃ e k, o' = .flat e k []

def Src.old : Src → Option Nat
  | .obj id => some id
  | .cut id _ => some id
  | .nil => none

/-- Each old object is taken once at most. -/
def distinctB : List (Nat × Src) → Bool
  | [] => true
  | (j, v) :: r => (match v.old with
      | some id => r.all fun p => p.2.old != some id
      | none => true) && r.all (fun p => p.1 != j) && distinctB r

def shorten (n : Nat) : Value → Value
  | .slice p _ c => .slice p n c
  | v => v

def Plc.src (β : Plc) (m : List (Nat × Src)) : Plc := fun i =>
  match lookS m i with
  | some (.obj id) => β id
  | some (.cut id n) => (β id).map fun x => (shorten n x.1, x.2)
  | some .nil => some (.slice none 0 0, [])
  | none => none

theorem lookS_mem {m : List (Nat × Src)} {i : Nat} {x : Src} (h : lookS m i = some x) : (i, x) ∈ m := by
  induction m with
  | nil => cases h
  | cons p r ih =>
    obtain ⟨j, v⟩ := p
    simp only [lookS] at h
    split at h
    · rename_i hj; subst hj; cases h; simp
    · exact List.mem_cons_of_mem _ (ih h)

theorem distinct_old : ∀ {m : List (Nat × Src)}, distinctB m = true → ∀ i i' x x' id, lookS m i = some x → lookS m i' = some x' → x.old = some id → x'.old = some id → i = i' := by
  intro m
  induction m with
  | nil => intro _ i i' x x' id h; cases h
  | cons p r ih =>
    obtain ⟨j, v⟩ := p
    intro hd i i' x x' id h h' ho ho'
    simp only [distinctB, Bool.and_eq_true] at hd
    obtain ⟨⟨h1, h2⟩, h3⟩ := hd
    simp only [lookS] at h h'
    split at h
    · rename_i hj
      cases h
      split at h'
      · rename_i hj'; exact hj.symm.trans hj'
      · exfalso
        rw [ho] at h1
        have := List.all_eq_true.1 h1 _ (lookS_mem h')
        simp [ho'] at this
    · split at h'
      · cases h'
        exfalso
        rw [ho'] at h1
        have := List.all_eq_true.1 h1 _ (lookS_mem h)
        simp [ho] at this
      · exact ih h3 i i' x x' id h h' ho ho'

theorem ownsRow_take {base e k : Nat} {v : Value} {m n : Nat} {xs : List Value} (h : w.ownsRow base e k v m xs) (hn : n ≤ m) : w.ownsRow base e k (shorten n v) n (xs.take (n * k)) := by
  obtain ⟨h1, h2⟩ := h
  refine ⟨by rw [List.length_take, h1]; exact Nat.min_eq_left (Nat.mul_le_mul_right _ hn), ?_⟩
  rcases h2 with ⟨rfl, h0⟩ | ⟨g, cap, cur, rfl, hb, hg, hc, hm, hs, ht⟩
  · have : n = 0 := by omega
    subst this
    exact .inl ⟨rfl, rfl⟩
  · refine .inr ⟨g, cap, cur, rfl, hb, hg, by omega, hm, hs, ?_⟩
    rw [← ht, List.take_take, Nat.min_eq_left (Nat.mul_le_mul_right _ hn)]

theorem cellsOf_take {k : Nat} : ∀ {xs : List El} (n : Nat), Flat k xs → cellsOf (xs.take n) = (cellsOf xs).take (n * k)
  | [], n, _ => by simp [cellsOf]
  | x :: xs, 0, _ => by simp [cellsOf]
  | x :: xs, n + 1, h => by
    have hx : x.length = k := h x (by simp)
    have ih := cellsOf_take (xs := xs) n (fun e he => h e (by simp [he]))
    simp only [cellsOf, List.take_succ_cons, List.flatten_cons, List.map_append] at ih ⊢
    rw [ih, List.take_append, List.length_map, hx]
    have e1 : (n + 1) * k - k = n * k := by rw [Nat.add_mul]; omega
    rw [e1, List.take_of_length_le (l := List.map Sc.val x) (by rw [List.length_map, hx, Nat.add_mul]; omega)]

theorem Flat.take {k : Nat} {xs : List El} (h : Flat k xs) (n : Nat) : Flat k (xs.take n) := fun e he => h e (List.mem_of_mem_take he)

theorem blockOf_shorten (n : Nat) (v : Value) : blockOf (shorten n v) = blockOf v := by
  unfold shorten
  split
  · rename_i p m c; cases p <;> rfl
  · rfl

theorem imm_of_rowL {B e : Nat} {st : Bool} {F : Nat → Prop} {v : Value} {xs : List El} (h : RowL B F w e st v (some xs)) : Imm F w 1 v xs := by
  obtain ⟨h1, h2, h3, h4⟩ := h
  refine ⟨?_, h2⟩
  rcases h1.2 with ⟨h, h0⟩ | ⟨g, cap, cur, hv, hb, hg, hc, hm, hs, ht⟩
  · exact ⟨none, 0, by rw [h, h0], by omega, .inl h0⟩
  · refine ⟨_, _, hv, hc, ?_⟩
    by_cases h0 : xs.length = 0
    · exact .inl h0
    · refine .inr ⟨g, 0, rfl, h4 g (by rw [hv]; rfl), fun j u hu => ?_⟩
      have hcells := h1.cells (g := g) (by rw [hv]; rfl) j u hu
      have : (⟨g, 0, none⟩ : Addr).add j = ⟨g, 0 + j, none⟩ := Addr.add_lit _ _ _
      rw [this] at hcells
      exact hcells

theorem rowA_of_rowL {B e : Nat} {st : Bool} {F : Nat → Prop} {v : Value} {o : Option (List El)} (h : RowL B F w e st v o) : RowA F w v o := by
  cases o with
  | none => exact h
  | some xs => exact imm_of_rowL h

theorem RowL.lax {B e : Nat} {st : Bool} {F : Nat → Prop} {v : Value} {o : Option (List El)} (h : RowL B F w e st v o) : RowL B F w e false v o := by
  cases o with
  | none => exact h
  | some xs => exact ⟨h.1, h.2.1, (fun h => by cases h), h.2.2.2⟩

theorem crm {m : List (Nat × Src)} {B : Nat} {F F' : Nat → Prop} (hF : ∀ b, F b → F' b) {c c' : CV} {v : Value} (hm : CVm m c c') (h : CR B β F w c v) : CR B (β.src m) F' w c' v := by
  have hk : Keep F F' w w := fun b hb => ⟨hF b hb, rfl⟩
  have same : ∀ c, (∀ id, c ≠ .ref id) → (∀ id k i j, c ≠ .ptr id k i j) → (∀ id n, c ≠ .pre id n) → (∀ id k l n, c ≠ .win id k l n) → (∀ f id, c ≠ .clo f id) → CR B β F w c v → CR B (β.src m) F' w c v := by
    intro c h1 h2 h3 h4 h5 hc
    cases c with
    | ref id => exact (h1 _ rfl).elim
    | ptr id k i j => exact (h2 _ _ _ _ rfl).elim
    | pre id n => exact (h3 _ _ rfl).elim
    | win id k l n => exact (h4 _ _ _ _ rfl).elim
    | sc s => exact hc
    | nil => exact hc
    | imm k xs => exact Imm.keep hk hc
    | imm2 xss => obtain ⟨vs, a1, a2, a3⟩ := hc; exact ⟨vs, a1, a2.keep hk, fun i u xs hu hx => (a3 i u xs hu hx).keep hk⟩
    | row e o => exact RowL.keep hk hc
    | iptr cs => obtain ⟨b, o, a1, a2, a3⟩ := hc; exact ⟨b, o, a1, hF b a2, a3⟩
    | iprow xs => obtain ⟨b, o, u, a1, a2, a3, a4⟩ := hc; exact ⟨b, o, u, a1, hF b a2, a3, a4.keep hk⟩
    | fn f => exact hc
    | clo f id => exact (h5 _ _ rfl).elim
    | val u => exact hc
    | iv u k xs => exact ⟨hc.1, Imm.keep hk hc.2⟩
  cases c' with
  | ref i =>
    simp only [CVm] at hm
    split at hm
    · rename_i id hl
      subst hm
      obtain ⟨vs, hv, h1c⟩ := h
      exact ⟨vs, by simp only [Plc.src, hl]; exact hv, h1c⟩
    · rename_i id n hl
      subst hm
      obtain ⟨p, m', cap, vs, hv, he, hn⟩ := h
      exact ⟨vs, by simp only [Plc.src, hl, hv, Option.map_some, shorten, he], by rw [he]; rfl⟩
    · rename_i hl
      subst hm
      exact ⟨[], by simp only [Plc.src, hl]; rw [show v = _ from h], by rw [show v = _ from h]; rfl⟩
    · exact hm.elim
  | ptr i k x y =>
    simp only [CVm] at hm
    split at hm
    · rename_i id hl
      subst hm
      obtain ⟨pv, vs, b, hv, h2⟩ := h
      exact ⟨pv, vs, b, by simp only [Plc.src, hl]; exact hv, h2⟩
    · exact hm.elim
  | pre i n =>
    simp only [CVm] at hm
    split at hm
    · rename_i id hl
      subst hm
      obtain ⟨p, m', cap, vs, hv, he, hn⟩ := h
      exact ⟨p, m', cap, vs, by simp only [Plc.src, hl]; exact hv, he, hn⟩
    · exact hm.elim
  | win i k l n =>
    simp only [CVm] at hm
    split at hm
    · rename_i id hl
      subst hm
      obtain ⟨p, m', cap, vs, hv, hle, h3⟩ := h
      exact ⟨p, m', cap, vs, by simp only [Plc.src, hl]; exact hv, hle, h3⟩
    · exact hm.elim
  | imm k xs =>
    rcases hm with rfl | ⟨rfl, e, rfl⟩ | ⟨rfl, rfl⟩
    · exact Imm.keep hk h
    · exact Imm.keep hk (imm_of_rowL h)
    · exact ⟨⟨none, 0, h, Nat.zero_le _, .inl rfl⟩, fun e he => by cases he⟩
  | sc s => cases hm; exact h
  | nil => cases hm; exact h
  | imm2 xss => cases hm; exact same _ (by simp) (by simp) (by simp) (by simp) (by simp) h
  | row e o => cases hm; exact same _ (by simp) (by simp) (by simp) (by simp) (by simp) h
  | iptr cs => cases hm; exact same _ (by simp) (by simp) (by simp) (by simp) (by simp) h
  | iprow xs => cases hm; exact same _ (by simp) (by simp) (by simp) (by simp) (by simp) h
  | fn f => cases hm; exact h
  | val u => cases hm; exact h
  | iv u k xs => cases hm; exact ⟨h.1, Imm.keep hk h.2⟩
  | clo f i =>
    simp only [CVm] at hm
    split at hm
    · rename_i id hl
      subst hm
      obtain ⟨pv, vs, b, hv, h1, h2⟩ := h
      exact ⟨pv, vs, b, by simp only [Plc.src, hl]; exact hv, h1, h2⟩
    · exact hm.elim

theorem All2.comp {α β γ : Type} {R : α → β → Prop} {S : α → γ → Prop} {T : β → γ → Prop} (h : ∀ a b c, R a b → S a c → T b c) : ∀ {l : List α} {m : List β} {n : List γ}, All2 R l m → All2 S l n → All2 T m n
  | [], [], [], _, _ => trivial
  | _ :: _, _ :: _, _ :: _, ⟨h1, h2⟩, ⟨h3, h4⟩ => ⟨h _ _ _ h1 h3, All2.comp h h2 h4⟩
  | [], [], _ :: _, _, h => h.elim
  | [], _ :: _, _, h, _ => h.elim
  | _ :: _, [], _, h, _ => h.elim
  | _ :: _, _ :: _, [], _, h => h.elim

theorem blks_sub {own own' : Bool} {pv pv' : Value} {vs : List Value} {b : Nat} (h : blockOf pv' = blockOf pv) (ho : own' = true → own = true) (hb : blks own' pv' vs b) : blks own pv vs b := by
  unfold blks at *
  rcases hb with hb | ⟨h1, h2⟩
  · exact .inl (by rw [← h]; exact hb)
  · exact .inr ⟨ho h1, h2⟩

theorem weak_of (m : List (Nat × Src)) (hn : s'.n = s.n) (hd : distinctB m = true)
    (henv : ∀ p ∈ s'.env, AVm m (s.get p.1) p.2)
    (hobj : ∀ p ∈ s'.H, match p.2 with | none => True | some o' => ∃ src, lookS m p.1 = some src ∧ OBm m s src o')
    (hused : s'.used = m.map (·.1)) : Weak s s' := by
  intro N0 W0 β a w r
  -- the new objects
  have hO : ∀ i o', s'.obj i = some o' → ∃ src, lookS m i = some src ∧ OBm m s src o' := by
    intro i o' h
    unfold AS.obj at h
    generalize hH : s'.H = H at h hobj
    clear hH
    induction H with
    | nil => cases h
    | cons p H ih =>
      obtain ⟨j, v⟩ := p
      rw [lookO_cons] at h
      split at h
      · rename_i hj; subst hj; subst h; exact hobj (j, some o') (by simp)
      · exact ih h (fun p hp => hobj p (by simp [hp]))
  have hE : ∀ k, AVm m (s.get k) (s'.get k) := by
    intro k
    unfold AS.get
    generalize hH : s'.env = E at henv
    clear hH
    induction E with
    | nil => trivial
    | cons p E ih =>
      obtain ⟨j, v⟩ := p
      rw [look_cons]
      split
      · rename_i hj; subst hj; exact henv (j, v) (by simp)
      · exact ih fun p hp => henv p (by simp [hp])
  -- what each new object was
  have hold : ∀ i o', s'.obj i = some o' → ∀ pv vs, (β.src m) i = some (pv, vs) → (∃ e k, pv = .slice none 0 0 ∧ o' = .flat e k []) ∨
      ∃ id o pv0, (lookS m i).bind Src.old = some id ∧ s.obj id = some o ∧ β id = some (pv0, vs) ∧ blockOf pv = blockOf pv0 ∧ (o'.own = true → o.own = true) := by
    intro i o' h pv vs hp
    obtain ⟨src, hl, hm⟩ := hO i o' h
    cases src with
    | obj id =>
      simp only [Plc.src, hl] at hp
      refine .inr ⟨id, ?_⟩
      cases o' with
      | flat e k xs =>
        rcases hm with hm | ⟨hm, _⟩
        · exact ⟨_, pv, by rw [hl]; rfl, hm, hp, rfl, fun h => h⟩
        · exact ⟨_, pv, by rw [hl]; rfl, hm, hp, rfl, fun h => h⟩
      | zrow e k => exact ⟨_, pv, by rw [hl]; rfl, hm, hp, rfl, fun h => h⟩
      | rows e e' md xss =>
        rcases hm with hm | ⟨rfl, hm⟩ | ⟨rfl, st, hm⟩ | ⟨st, st', rfl, _, hm⟩ | ⟨⟨st, rfl⟩, u, l, n, hm⟩
        · exact ⟨_, pv, by rw [hl]; rfl, hm, hp, rfl, fun h => h⟩
        · exact ⟨_, pv, by rw [hl]; rfl, hm, hp, rfl, fun h => by cases h⟩
        · exact ⟨_, pv, by rw [hl]; rfl, hm, hp, rfl, fun h => by cases h⟩
        · exact ⟨_, pv, by rw [hl]; rfl, hm, hp, rfl, fun _ => rfl⟩
        · exact ⟨_, pv, by rw [hl]; rfl, hm, hp, rfl, fun h => by cases h⟩
      | cvs e cs => obtain ⟨cs0, h1, _⟩ := hm; exact ⟨_, pv, by rw [hl]; rfl, h1, hp, rfl, fun h => h⟩
      | box e cs => obtain ⟨cs0, h1, _⟩ := hm; exact ⟨_, pv, by rw [hl]; rfl, h1, hp, rfl, fun h => h⟩
      | pin S W => exact ⟨_, pv, by rw [hl]; rfl, hm, hp, rfl, fun h => h⟩
      | stay i v => obtain ⟨i0, _, hm⟩ := hm; exact ⟨_, pv, by rw [hl]; rfl, hm, hp, rfl, fun h => h⟩
      | rowsV e e' st xss us => exact ⟨_, pv, by rw [hl]; rfl, hm, hp, rfl, fun h => h⟩
      | res L W => exact ⟨_, pv, by rw [hl]; rfl, hm, hp, rfl, fun h => h⟩
      | rowsS e e' u l n xss => exact ⟨_, pv, by rw [hl]; rfl, hm, hp, rfl, fun h => h⟩
      | rowsD e e' xss =>
        rcases hm with hm | ⟨st, hm⟩ | ⟨_, st, hm⟩
        · exact ⟨_, pv, by rw [hl]; rfl, hm, hp, rfl, fun h => h⟩
        · exact ⟨_, pv, by rw [hl]; rfl, hm, hp, rfl, fun h => by cases h⟩
        · exact ⟨_, pv, by rw [hl]; rfl, hm, hp, rfl, fun h => by cases h⟩
    | cut id n =>
      obtain ⟨e, k, xs, h1, h2, rfl⟩ := hm
      obtain ⟨pv0, vs0, hp0, _⟩ := r.obj id _ h1
      simp only [Plc.src, hl, hp0, Option.map_some, Option.some.injEq, Prod.mk.injEq] at hp
      obtain ⟨rfl, rfl⟩ := hp
      exact .inr ⟨id, _, pv0, by rw [hl]; rfl, h1, hp0, blockOf_shorten _ _, fun h => h⟩
    | nil =>
      obtain ⟨e, k, rfl⟩ := hm
      simp only [Plc.src, hl, Option.some.injEq, Prod.mk.injEq] at hp
      exact .inl ⟨e, k, hp.1.symm, rfl⟩
  have hheld : ∀ b, Held s' (β.src m) b → Held s β b := by
    rintro b ⟨i, o', pv, vs, h, hp, hb⟩
    rcases hold i o' h pv vs hp with ⟨e, k, rfl, rfl⟩ | ⟨id, o, pv0, hl, ho, hp0, hbl, hown⟩
    · rcases hb with hb | ⟨hb, _⟩
      · cases hb
      · cases hb
    · refine ⟨id, o, pv0, vs, ho, hp0, ?_⟩
      exact blks_sub hbl hown hb
  have hF : ∀ b, Free s β w b → Free s' (β.src m) w b := fun b hb => ⟨hb.1, fun hh => hb.2 (hheld b hh)⟩
  have hlnone : ∀ i, i ∉ s'.used → lookS m i = none := by
    intro i hi
    cases hl : lookS m i with
    | none => rfl
    | some src => exfalso; apply hi; rw [hused]; exact List.mem_map.2 ⟨_, lookS_mem hl, rfl⟩
  refine ⟨β.src m, ?_⟩
  exact {
    below := r.below
    size0 := r.size0
    size := by rw [hn]; exact r.size
    defers := r.defers
    env := fun k => by
      have h1 := hE k
      have h2 := r.env k
      cases hv : s'.get k with
      | dead => trivial
      | one c' =>
        rw [hv] at h1
        obtain ⟨c, hc, hm⟩ := h1
        rw [hc] at h2
        exact crm hF hm h2
      | agg cs' =>
        rw [hv] at h1
        obtain ⟨cs, hc, hm⟩ := h1
        rw [hc] at h2
        obtain ⟨vs, h3, h4⟩ := h2
        exact ⟨vs, h3, All2.comp (R := CVm m) (S := CR N0 β (Free s β w) w) (T := CR N0 (β.src m) (Free s' (β.src m) w) w) (fun a b c h5 h6 => crm hF h5 h6) hm h4⟩
      | tup vs => rw [hv] at h1; exact h1.elim
    dom := fun i hi => by simp only [Plc.src, hlnone i hi]
    hdom := fun i hi => by
      cases ho : s'.obj i with
      | none => rfl
      | some o' => obtain ⟨src, hl, _⟩ := hO i o' ho; rw [hlnone i hi] at hl; cases hl
    obj := fun i o' h => by
      obtain ⟨src, hl, hm⟩ := hO i o' h
      have hk : Keep (Free s β w) (Free s' (β.src m) w) w w := fun b hb => ⟨hF b hb, rfl⟩
      cases src with
      | obj id =>
        have hβ : (β.src m) i = β id := by simp only [Plc.src, hl]
        cases o' with
        | flat e k xs =>
          rcases hm with hm | ⟨hm, rfl⟩
          · obtain ⟨pv, vs, hp, hat, hb⟩ := r.obj id _ hm; exact ⟨pv, vs, by rw [hβ]; exact hp, hat, hb⟩
          · obtain ⟨pv, vs, hp, hat, hb⟩ := r.obj id _ hm; exact ⟨pv, vs, by rw [hβ]; exact hp, ⟨hat.1, fun e he => by cases he⟩, hb⟩
        | zrow e k => obtain ⟨pv, vs, hp, hat, hb⟩ := r.obj id _ hm; exact ⟨pv, vs, by rw [hβ]; exact hp, hat, hb⟩
        | rowsV e e' st xss us => obtain ⟨pv, vs, hp, hat, hb⟩ := r.obj id _ hm; exact ⟨pv, vs, by rw [hβ]; exact hp, hat, hb⟩
        | res L W => obtain ⟨pv, vs, hp, hat, hb⟩ := r.obj id _ hm; exact ⟨pv, vs, by rw [hβ]; exact hp, hat, hb⟩
        | rowsD e e' xss =>
          rcases hm with hm | ⟨st, hm⟩ | ⟨rfl, st, hm⟩
          · obtain ⟨pv, vs, hp, hat, hb⟩ := r.obj id _ hm
            exact ⟨pv, vs, by rw [hβ]; exact hp, ⟨hat.1, hat.2.mono fun _ _ _ _ => RowL.keep hk⟩, hb⟩
          · obtain ⟨pv, vs, hp, hat, hb⟩ := r.obj id _ hm
            exact ⟨pv, vs, by rw [hβ]; exact hp, ⟨hat.1, hat.2.1.mono fun _ _ _ _ h => (RowL.keep hk h).lax⟩, hb⟩
          · obtain ⟨pv, vs, hp, hat, hb⟩ := r.obj id _ hm
            obtain ⟨h1, h2, h3, h4⟩ := hat
            exact ⟨pv, vs, by rw [hβ]; exact hp, ⟨h1, by cases vs with | nil => trivial | cons => exact h2.elim⟩, fun b hbb => hb b (blks_sub rfl (fun h => by cases h) hbb)⟩
        | rowsS e e' u l n xss =>
          obtain ⟨pv, vs, hp, hat, hb⟩ := r.obj id _ hm
          refine ⟨pv, vs, by rw [hβ]; exact hp, ?_, hb⟩
          obtain ⟨h1, h2, p, cap, h3, h4, h5⟩ := hat
          refine ⟨⟨h1.1, h1.2.1.mono fun _ _ _ _ => RowL.keep hk, h1.2.2⟩, h2, p, cap, h3, h4, h5.imp (fun h => h) ?_⟩
          rintro ⟨b, off, h6, h7⟩
          exact ⟨b, off, h6, h7.imp (fun h => h) fun ⟨hF, hc⟩ => ⟨(hk b hF).1, hc⟩⟩
        | rows e e' md xss =>
          rcases hm with hm | ⟨rfl, hm⟩ | ⟨rfl, st, hm⟩ | ⟨st, st', rfl, hst, hm⟩ | ⟨⟨st, rfl⟩, u, l, n, hm⟩
          · obtain ⟨pv, vs, hp, hat, hb⟩ := r.obj id _ hm
            refine ⟨pv, vs, by rw [hβ]; exact hp, ?_, hb⟩
            cases md with
            | own st => exact hat
            | loc st => exact ⟨hat.1, hat.2.1.mono fun _ _ _ _ => RowL.keep hk, hat.2.2⟩
            | any => exact ⟨hat.1, hat.2.mono fun _ _ _ _ => RowA.keep hk⟩
          · obtain ⟨pv, vs, hp, hat, hb⟩ := r.obj id _ hm
            exact ⟨pv, vs, by rw [hβ]; exact hp, ⟨hat.1, hat.2.1.mono fun _ _ _ _ h => (RowL.keep hk h).lax, hat.2.2⟩, hb⟩
          · obtain ⟨pv, vs, hp, hat, hb⟩ := r.obj id _ hm
            exact ⟨pv, vs, by rw [hβ]; exact hp, ⟨hat.1, hat.2.1.mono fun _ _ _ _ h => rowA_of_rowL (RowL.keep hk h)⟩, hb⟩
          · obtain ⟨pv, vs, hp, hat, hb⟩ := r.obj id _ hm
            obtain ⟨h1, h2, h3, h4⟩ := hat
            refine ⟨pv, vs, by rw [hβ]; exact hp, ⟨h1, h2.mono fun o v _ hv hr => ?_, h3⟩, fun b hbb => hb b (blks_sub rfl (fun h => by cases h) hbb)⟩
            cases o with
            | none => exact hr
            | some xs =>
              obtain ⟨a1, a2, a3⟩ := hr
              refine ⟨a1, a2, fun h => a3 (hst h), fun b hbv => ⟨(hb b (.inr ⟨rfl, v, hv, hbv⟩)).2, ?_⟩⟩
              rintro ⟨i2, o2, pv2, vs2, ho2, hp2, hbl2⟩
              rcases hold i2 o2 ho2 pv2 vs2 hp2 with ⟨e2, k2, rfl, rfl⟩ | ⟨id2, o3, pv3, hl3, ho3, hp3, hbl3, hown3⟩
              · rcases hbl2 with hb2 | ⟨hb2, _⟩
                · cases hb2
                · cases hb2
              · have hid := r.disj id id2 _ o3 pv vs pv3 vs2 b hm ho3 hp hp3 (.inr ⟨rfl, v, hv, hbv⟩) (blks_sub hbl3 hown3 hbl2)
                subst hid
                obtain ⟨x, hx, hxo⟩ := Option.bind_eq_some_iff.1 hl3
                have hii := distinct_old hd i2 i x _ id hx hl hxo rfl
                subst hii
                rw [h] at ho2; cases ho2
                rw [hp] at hp3; cases hp3
                rcases hbl2 with hb2 | ⟨hb2, _⟩
                · exact h4 v hv (by rw [hbv]; simp) (by rw [hbv, ← hbl3, hb2])
                · cases hb2
          · obtain ⟨pv, vs, hp, hat, hb⟩ := r.obj id _ hm
            refine ⟨pv, vs, by rw [hβ]; exact hp, ⟨hat.1.1, hat.1.2.1.mono fun _ _ _ _ hrl => ?_, hat.1.2.2⟩, hb⟩
            cases st with
            | true => exact RowL.keep hk hrl
            | false => exact (RowL.keep hk hrl).lax
        | cvs e cs' =>
          obtain ⟨cs, h1, h2⟩ := hm
          obtain ⟨pv, vs, hp, hat, hb⟩ := r.obj id _ h1
          have hat2 : w.ownsRow N0 e 1 pv cs'.length vs := by rw [← h2.length]; exact hat.1
          exact ⟨pv, vs, by rw [hβ]; exact hp, ⟨hat2, All2.comp (R := CVm m) (S := CR N0 β (Free s β w) w) (T := CR N0 (β.src m) (Free s' (β.src m) w) w) (fun a b c h5 h6 => crm hF h5 h6) h2 hat.2⟩, hb⟩
        | box e cs' =>
          obtain ⟨cs, h1, h2⟩ := hm
          obtain ⟨pv, vs, hp, hat, hb⟩ := r.obj id _ h1
          obtain ⟨b, arr, a1, a2, a3, a4⟩ := hat
          exact ⟨pv, vs, by rw [hβ]; exact hp, ⟨b, arr, a1, a2, a3, All2.comp (R := CVm m) (S := CR N0 β (Free s β w) w) (T := CR N0 (β.src m) (Free s' (β.src m) w) w) (fun a b c h5 h6 => crm hF h5 h6) h2 a4⟩, hb⟩
        | pin S W =>
          obtain ⟨pv, vs, hp, hat, hb⟩ := r.obj id _ hm
          exact ⟨pv, vs, by rw [hβ]; exact hp, ⟨hat.1, fun b hs => ⟨hF b (hat.2 b hs).1, (hat.2 b hs).2⟩⟩, hb⟩
        | stay i v =>
          obtain ⟨i0, hi, hm⟩ := hm
          obtain ⟨pv, vs, hp, hat, hb⟩ := r.obj id _ hm
          obtain ⟨h1, us, h2⟩ := hat
          exact ⟨pv, vs, by rw [hβ]; exact hp, ⟨h1, us, by simp only [Plc.src, hi]; exact h2⟩, hb⟩
      | cut id n =>
        obtain ⟨e, k, xs, h1, h2, rfl⟩ := hm
        obtain ⟨pv, vs, hp, hat, hb⟩ := r.obj id _ h1
        refine ⟨shorten n pv, vs, by simp only [Plc.src, hl, hp, Option.map_some], ⟨?_, hat.2.take n⟩, fun b hbb => hb b ?_⟩
        · rw [cellsOf_take n hat.2]
          have := ownsRow_take hat.1 h2
          have hlen : (xs.take n).length = n := by simp; omega
          rw [hlen]
          exact this
        · unfold blks at hbb ⊢
          rw [blockOf_shorten] at hbb
          exact hbb
      | nil =>
        obtain ⟨e, k, rfl⟩ := hm
        refine ⟨.slice none 0 0, [], by simp only [Plc.src, hl], ⟨World.ownsRow_nil w N0 e k, fun e he => by cases he⟩, fun b hb => ?_⟩
        rcases hb with hb | ⟨hb, _⟩
        · cases hb
        · cases hb
    disj := fun i i' o o' pv vs pv' vs' b h h' hp hp' hb hb' => by
      rcases hold i o h pv vs hp with ⟨e, k, rfl, rfl⟩ | ⟨id, o1, pv1, hl1, ho1, hp1, hbl1, hown1⟩
      · rcases hb with hb | ⟨hb, _⟩
        · cases hb
        · cases hb
      · rcases hold i' o' h' pv' vs' hp' with ⟨e, k, rfl, rfl⟩ | ⟨id2, o2, pv2, hl2, ho2, hp2, hbl2, hown2⟩
        · rcases hb' with hb' | ⟨hb', _⟩
          · cases hb'
          · cases hb'
        · have e1 : id = id2 := r.disj id id2 o1 o2 pv1 vs pv2 vs' b ho1 ho2 hp1 hp2 (blks_sub hbl1 hown1 hb) (blks_sub hbl2 hown2 hb')
          subst e1
          obtain ⟨x, hx, hxo⟩ := Option.bind_eq_some_iff.1 hl1
          obtain ⟨x', hx', hxo'⟩ := Option.bind_eq_some_iff.1 hl2
          exact distinct_old hd i i' x x' id hx hx' hxo hxo' }

end
end Go.Eng
/- The engine, part 8: several new objects at once; loads; contracts of functions; a call. -/
set_option linter.unusedVariables false
namespace Go.Eng
open Go Go.RowKit

section
variable {N0 : Nat} {W0 : World} {s s' : AS} {β β' : Plc} {a : Act} {w w' : World} {P : Program} {T : Tys}

abbrev News := List (Obj × Value × List Value)

/-- The new objects bear the numbers base, base + 1, .. -/
def newH (base : Nat) : News → List (Nat × Option Obj)
  | [] => []
  | x :: r => (base, some x.1) :: newH (base + 1) r

def objH (base : Nat) : List Obj → List (Nat × Option Obj)
  | [] => []
  | x :: r => (base, some x) :: objH (base + 1) r

def idsFrom (base : Nat) : Nat → List Nat
  | 0 => []
  | n + 1 => base :: idsFrom (base + 1) n

theorem mem_idsFrom {base n i : Nat} : i ∈ idsFrom base n ↔ base ≤ i ∧ i < base + n := by
  induction n generalizing base with
  | zero => simp only [idsFrom, List.not_mem_nil, false_iff]; omega
  | succ n ih => simp only [idsFrom, List.mem_cons, ih]; omega

theorem lookO_objH (objs : List Obj) : ∀ (base i : Nat) (H : List (Nat × Option Obj)), lookO (objH base objs ++ H) i = if base ≤ i ∧ i < base + objs.length then objs[i - base]? else lookO H i := by
  induction objs with
  | nil =>
    intro base i H
    have : ¬ (base ≤ i ∧ i < base + ([] : List Obj).length) := by simp
    rw [if_neg (by simp only [List.length_nil]; omega)]; rfl
  | cons x r ih =>
    intro base i H
    simp only [objH, List.cons_append, lookO_cons, ih, List.length_cons]
    by_cases h : base = i
    · subst h; simp
    · rw [if_neg h]
      by_cases h2 : base + 1 ≤ i ∧ i < base + 1 + r.length
      · rw [if_pos h2, if_pos (by omega)]
        have : i - base = (i - (base + 1)) + 1 := by omega
        rw [this, List.getElem?_cons_succ]
      · rw [if_neg h2, if_neg (by omega)]

def Plc.add (β : Plc) (base : Nat) (ps : List (Value × List Value)) : Plc := fun i => if base ≤ i ∧ i < base + ps.length then ps[i - base]? else β i

/-- New objects, in blocks that were not there. -/
theorem Rel.allocL (r : Rel N0 W0 s β a w) (h : Below w.heap.size w w') {base : Nat} {objs : List Obj} {ps : List (Value × List Value)} (hl : ps.length = objs.length)
    (hid : ∀ i ∈ idsFrom base objs.length, i ∉ s.used)
    (hat : ∀ (j : Nat) (o : Obj) (p : Value × List Value), objs[j]? = some o → ps[j]? = some p → (∀ β' F, (∀ b, Free s β w b → F b) → (∀ i x, β i = some x → β' i = some x) → (∀ j x, ps[j]? = some x → β' (base + j) = some x) → ObjAt N0 β' F w' p.1 p.2 o) ∧ ∀ b, blks o.own p.1 p.2 b → w.heap.size ≤ b ∧ b < w'.heap.size)
    (hdj : ∀ (j j' : Nat) (o o' : Obj) (p p' : Value × List Value) (b : Nat), objs[j]? = some o → objs[j']? = some o' → ps[j]? = some p → ps[j']? = some p' → blks o.own p.1 p.2 b → blks o'.own p'.1 p'.2 b → j = j') :
    Rel N0 W0 { s with H := objH base objs ++ s.H, used := idsFrom base objs.length ++ s.used } (β.add base ps) a w' ∧ (∀ i x, β i = some x → (β.add base ps) i = some x) ∧
      (∀ j x, ps[j]? = some x → (β.add base ps) (base + j) = some x) ∧
      Keep (Free s β w) (Free { s with H := objH base objs ++ s.H, used := idsFrom base objs.length ++ s.used } (β.add base ps) w') w w' := by
  have hb : ∀ b, b < w.heap.size → w'.heap[b]? = w.heap[b]? := h.block
  have hsz := h.size
  let S : AS := { s with H := objH base objs ++ s.H, used := idsFrom base objs.length ++ s.used }
  have hobj : ∀ i, S.obj i = if base ≤ i ∧ i < base + objs.length then objs[i - base]? else s.obj i := fun i => lookO_objH objs base i s.H
  have hfr : ∀ i, base ≤ i → i < base + objs.length → β i = none ∧ s.obj i = none := fun i h1 h2 => by
    have := hid i (mem_idsFrom.2 ⟨h1, h2⟩)
    exact ⟨r.dom i this, r.hdom i this⟩
  have hext : ∀ i x, β i = some x → (β.add base ps) i = some x := fun i x hx => by
    unfold Plc.add
    by_cases hi : base ≤ i ∧ i < base + ps.length
    · rw [(hfr i hi.1 (by omega)).1] at hx; cases hx
    · rw [if_neg hi]; exact hx
  have hnew : ∀ j x, ps[j]? = some x → (β.add base ps) (base + j) = some x := fun j x hx => by
    have := (List.getElem?_eq_some_iff.1 hx).1
    unfold Plc.add
    rw [if_pos (by omega), Nat.add_sub_cancel_left]
    exact hx
  have hwhat : ∀ i o, S.obj i = some o → (∃ j p, i = base + j ∧ objs[j]? = some o ∧ ps[j]? = some p ∧ (β.add base ps) i = some p) ∨ (s.obj i = some o ∧ (β.add base ps) i = β i) := by
    intro i o ho
    rw [hobj] at ho
    split at ho
    · rename_i hi
      have hj : i - base < ps.length := by omega
      refine .inl ⟨i - base, ps[i - base], by omega, ho, List.getElem?_eq_getElem hj, ?_⟩
      unfold Plc.add
      rw [if_pos (by omega)]
      exact List.getElem?_eq_getElem hj
    · rename_i hi
      refine .inr ⟨ho, ?_⟩
      unfold Plc.add
      rw [if_neg (by omega)]
  have hheld : ∀ b, b < w.heap.size → ¬ Held s β b → ¬ Held S (β.add base ps) b := by
    rintro b hlt hn ⟨i, o, pv, vs, ho, hp, hbl⟩
    rcases hwhat i o ho with ⟨j, p, rfl, h1, h2, h3⟩ | ⟨h1, h2⟩
    · rw [h3] at hp; cases hp
      have := ((hat j o _ h1 h2).2 b hbl).1
      omega
    · rw [h2] at hp
      exact hn ⟨i, o, pv, vs, h1, hp, hbl⟩
  have hF : ∀ b, Free s β w b → Free S (β.add base ps) w' b := fun b hf => ⟨Nat.lt_of_lt_of_le hf.1 hsz, hheld b hf.1 hf.2⟩
  refine ⟨?_, hext, hnew, fun b hf => ⟨hF b hf, hb b hf.1⟩⟩
  refine r.master (s' := S) (β' := β.add base ps) rfl rfl (r.below.trans (h.mono r.size0)) hsz (fun i pv vs hx => ⟨vs, hext _ _ hx⟩) ?_ (fun b hlt hn => ⟨hb b hlt, hheld b hlt hn⟩) ?_ ?_
  · intro i hi
    have hi' : ¬ (base ≤ i ∧ i < base + objs.length) ∧ i ∉ s.used := by
      have : i ∉ idsFrom base objs.length ∧ i ∉ s.used := by simpa [S] using hi
      exact ⟨fun hh => this.1 (mem_idsFrom.2 hh), this.2⟩
    refine ⟨?_, by rw [hobj, if_neg hi'.1]; exact r.hdom i hi'.2⟩
    unfold Plc.add
    rw [if_neg (by omega)]
    exact r.dom i hi'.2
  · intro i o ho
    rcases hwhat i o ho with ⟨j, p, rfl, h1, h2, h3⟩ | ⟨h1, h2⟩
    · obtain ⟨h4, h5⟩ := hat j o p h1 h2
      exact .inr ⟨p.1, p.2, h3, h4 _ _ hF hext hnew, fun b hbb => ⟨Nat.le_trans r.size0 (h5 b hbb).1, (h5 b hbb).2⟩⟩
    · refine .inl ⟨h1, h2, fun pv vs b hp hbl => ?_⟩
      obtain ⟨pv2, vs2, hp2, _, hr⟩ := r.obj i o h1
      rw [hp] at hp2; cases hp2
      exact hb b (hr b hbl).2
  · intro i1 i2 o1 o2 pv1 vs1 pv2 vs2 b h1 h2 p1 p2 b1 b2
    rcases hwhat i1 o1 h1 with ⟨j1, q1, rfl, a1, a2, a3⟩ | ⟨a1, a2⟩ <;> rcases hwhat i2 o2 h2 with ⟨j2, q2, rfl, c1, c2, c3⟩ | ⟨c1, c2⟩
    · rw [a3] at p1; cases p1
      rw [c3] at p2; cases p2
      have := hdj j1 j2 o1 o2 _ _ b a1 c1 a2 c2 b1 b2
      omega
    · rw [a3] at p1; cases p1
      rw [c2] at p2
      obtain ⟨pv3, vs3, hp3, _, hr⟩ := r.obj i2 o2 c1
      rw [p2] at hp3; cases hp3
      have := ((hat j1 o1 _ a1 a2).2 b b1).1
      have := (hr b b2).2
      omega
    · rw [c3] at p2; cases p2
      rw [a2] at p1
      obtain ⟨pv3, vs3, hp3, _, hr⟩ := r.obj i1 o1 a1
      rw [p1] at hp3; cases hp3
      have := ((hat j2 o2 _ c1 c2).2 b b2).1
      have := (hr b b1).2
      omega
    · rw [a2] at p1; rw [c2] at p2
      exact r.disj i1 i2 o1 o2 pv1 vs1 pv2 vs2 b a1 c1 p1 p2 b1 b2

/-! ### Loads -/

theorem TOk.size_one (hT : TOk P T) {t : Nat} (h : (T t).one = true) (w : World) : ∃ i, P.info? t = some i ∧ i.size = 1 := by
  have := hT t
  cases ht : T t <;> rw [ht] at this h <;> simp [TI.one] at h
  all_goals
    obtain ⟨_, ⟨i, h1, h2, _⟩⟩ := this
    exact ⟨i, h1, h2⟩

theorem TOk.agg_one (hT : TOk P T) {t : Nat} (h : (T t).one = true) (w : World) : (isAgg t).run P w = .ok false w := by
  have := hT t
  cases ht : T t <;> rw [ht] at this h <;> simp [TI.one] at h
  all_goals
    obtain ⟨hu, _⟩ := this
    simp [isAgg, run_underlying hu]

theorem run_load_one (hT : TOk P T) {t : Nat} (h : (T t).one = true) {b o : Nat} {u : Value} (hc : w.cell? ⟨b, o, none⟩ = some u) :
    (Instr.loadAt t (.pointer (some ⟨b, o, none⟩))).run P w = .ok u w := by
  simp [Instr.loadAt, Instr.sureAddr, loadVar, hT.agg_one h w, hc]

theorem run_load_st (hT : TOk P T) {t : Nat} {fs : List Nat} (h : T t = .st fs) {b o : Nat} {us : List Value} (hl : us.length = fs.length)
    (hc : ∀ j u, us[j]? = some u → w.cell? ⟨b, o + j, none⟩ = some u) :
    (Instr.loadAt t (.pointer (some ⟨b, o, none⟩))).run P w = .ok (.agg us.toArray) w := by
  have := hT t
  rw [h] at this
  obtain ⟨_, ⟨arr, hu, _⟩, _, _, bytes, _, i, hi, hsz, _⟩ := this
  have ha : (isAgg t).run P w = .ok true w := by simp [isAgg, run_underlying hu]
  have hs : (sizeOf t).run P w = .ok us.length w := by
    simp [sizeOf, typeInfo, hi, hsz, hl]
  have hcl : (loadCells ⟨b, o, none⟩ us.length).run P w = .ok us.toArray w := run_loadCells_list w ⟨b, o, none⟩ us (fun j v hv => by
    have : (⟨b, o, none⟩ : Addr).add j = ⟨b, o + j, none⟩ := Addr.add_lit _ _ _
    rw [this]; exact hc j v hv)
  simp [Instr.loadAt, Instr.sureAddr, loadVar, ha, hs, hcl]

end
end Go.Eng
/- The engine, part 9: contracts of functions; a function's proof; a call. -/
set_option linter.unusedVariables false
namespace Go.Eng
open Go Go.RowKit

section
variable {N0 : Nat} {W0 : World} {s s' : AS} {β β' : Plc} {a : Act} {w w' : World} {P : Program} {T : Tys}

def Args (w : World) (args : List AV) (vals : List Value) : Prop := All2 (AR w.heap.size (fun _ => none) (fun b => b < w.heap.size) w) args vals

abbrev Ps := List (Value × List Value)

/-- What a call hands back: new memory. -/
def Fresh (B : Nat) (w' : World) (v : Value) (av : AV) (objs : List Obj) : Prop :=
  ∃ ps : Ps, ps.length = objs.length ∧ AR B (fun j => ps[j]?) (fun _ => False) w' av v ∧
    (∀ (j : Nat) (o : Obj) (p : Value × List Value), objs[j]? = some o → ps[j]? = some p → ObjAt B (fun _ => none) (fun _ => False) w' p.1 p.2 o ∧ ∀ b, blks o.own p.1 p.2 b → B ≤ b ∧ b < w'.heap.size) ∧
    (∀ (j j' : Nat) (o o' : Obj) (p p' : Value × List Value) (b : Nat), objs[j]? = some o → objs[j']? = some o' → ps[j]? = some p → ps[j']? = some p' → blks o.own p.1 p.2 b → blks o'.own p'.1 p'.2 b → j = j')

abbrev Spec := List AV → AV → List Obj → Prop

/-- Function f keeps contract S: it returns, its result is new memory, nothing that was there has turned. -/
def Sat (P : Program) (f : FuncId) (S : Spec) : Prop :=
  ∀ args av objs, S args av objs → ∀ w vals, Args w args vals → Calls P f vals.toArray w fun e w' => ∃ v, e = .returned v ∧ Below w.heap.size w w' ∧ Fresh w.heap.size w' v av objs

/-! ### The start -/

def numb : List AV → Nat → List (Nat × AV)
  | [], _ => []
  | v :: r, k => (k, v) :: numb r (k + 1)

def entryS (n : Nat) (args : List AV) : AS := { n := n, env := numb args 0, H := [], used := [] }

theorem look_numb (args : List AV) : ∀ (k j : Nat), look (numb args k) j = if k ≤ j then (args[j - k]?).getD .dead else .dead := by
  induction args with
  | nil => intro k j; simp [numb, look]
  | cons v r ih =>
    intro k j
    simp only [numb, look_cons, ih]
    by_cases h : k = j
    · subst h; simp
    · rw [if_neg h]
      by_cases h2 : k + 1 ≤ j
      · rw [if_pos h2, if_pos (by omega)]
        have : j - k = (j - (k + 1)) + 1 := by omega
        rw [this, List.getElem?_cons_succ]
      · rw [if_neg h2, if_neg (by omega)]

theorem rel_entry {n : Nat} {args : List AV} {vals : List Value} (h : Args w args vals) (hn : args.length ≤ n) :
    Rel w.heap.size w (entryS n args) (fun _ => none) { tmps := vals.toArray ++ Array.replicate (n - vals.toArray.size) undef, defers := [] } w where
  below := Below.refl _ _
  size0 := Nat.le_refl _
  size := by
    have := h.length
    simp [entryS]
    omega
  defers := rfl
  env := fun k => by
    show AR _ _ _ w (look (numb args 0) k) _
    rw [look_numb, if_pos (Nat.zero_le _), Nat.sub_zero]
    cases hk : args[k]? with
    | none => trivial
    | some v =>
      obtain ⟨u, hu, hr⟩ := All2.get k h hk
      have hu' : (vals.toArray ++ Array.replicate (n - vals.toArray.size) undef).getD k undef = u := by
        have hlt := (List.getElem?_eq_some_iff.1 hu).1
        simp only [Array.getD_eq_getD_getElem?]
        rw [Array.getElem?_append_left (by simpa using hlt)]
        simp [hu]
      rw [hu']
      simp only [Option.getD_some]
      have hk' : Keep (fun b => b < w.heap.size) (Free (entryS n args) (fun _ => none) w) w w := fun b hb => ⟨⟨hb, by rintro ⟨id, o, pv, vs, _, hp, _⟩; cases hp⟩, rfl⟩
      exact AR.keep (fun _ _ _ h => by cases h) hk' hr
  dom := fun _ _ => rfl
  hdom := fun _ _ => rfl
  obj := fun id o h => by cases h
  disj := fun id id' o o' pv vs pv' vs' b h => by cases h

/-! ### The end -/

def resC (T : Tys) (s : AS) : ResultVar → AV
  | .tmp t => s.get t
  | .cell t ty =>
    match s.get t with
    | .one (.ptr id _ 0 0) =>
      match s.obj id with
      | some (.box _ cs) =>
        match T ty with
        | .st fs => if fs.length = cs.length then .agg cs else .dead
        | .oth => .dead
        | _ => match cs with | [c] => .one c | _ => .dead
      | _ => .dead
    | _ => .dead

abbrev Acc := List (Obj × Option Nat)

def retC (s : AS) (acc : Acc) : CV → Option (CV × Acc)
  | .sc x => some (.sc x, acc)
  | .nil => some (.nil, acc)
  | .ref id =>
    match s.obj id with
    | some (.flat e k xs) => if acc.any (fun p => p.2 == some id) then none else some (.ref acc.length, acc ++ [(.flat e k xs, some id)])
    | some (.rows e e' (.own st) xss) => if acc.any (fun p => p.2 == some id) then none else some (.ref acc.length, acc ++ [(.rows e e' (.own st) xss, some id)])
    | some (.zrow e k) => if acc.any (fun p => p.2 == some id) then none else some (.ref acc.length, acc ++ [(.flat e k [], some id)])
    | _ => none
  | .row e (some xs) => if acc.any (fun p => p.2 == none) then none else some (.ref acc.length, acc ++ [(.flat e 1 xs, none)])
  | .row _ none => some (.nil, acc)
  | _ => none

def retL (s : AS) : Acc → List CV → Option (List CV × Acc)
  | acc, [] => some ([], acc)
  | acc, c :: r => (retC s acc c).bind fun x => (retL s x.2 r).map fun y => (x.1 :: y.1, y.2)

def retD (s : AS) (acc : Acc) : AV → Option (AV × Acc)
  | .one c => (retC s acc c).map fun x => (.one x.1, x.2)
  | .agg cs => (retL s acc cs).map fun x => (.agg x.1, x.2)
  | _ => none

def retT (s : AS) : Acc → List AV → Option (List AV × Acc)
  | acc, [] => some ([], acc)
  | acc, c :: r => (retD s acc c).bind fun x => (retT s x.2 r).map fun y => (x.1 :: y.1, y.2)

/-- What the function hands back. -/
def retA (T : Tys) (s : AS) (rs : List ResultVar) : Option (AV × Acc) :=
  match rs with
  | [r] => retD s [] (resC T s r)
  | rs => (retT s [] (rs.map (resC T s))).map fun x => (.tup x.1, x.2)

structure Good (N0 : Nat) (s : AS) (β : Plc) (w : World) (acc : Acc) (ps : Ps) : Prop where
  len : ps.length = acc.length
  at_ : ∀ (j : Nat) (q : Obj × Option Nat) (p : Value × List Value), acc[j]? = some q → ps[j]? = some p →
    ObjAt N0 (fun _ => none) (fun _ => False) w p.1 p.2 q.1 ∧ (∀ b, blks q.1.own p.1 p.2 b → N0 ≤ b ∧ b < w.heap.size) ∧
      match q.2 with
      | some id => (∃ o, s.obj id = some o ∧ o.own = q.1.own) ∧ β id = some p
      | none => ∀ b, blks q.1.own p.1 p.2 b → ¬ Held s β b
  nd : ∀ (j j' : Nat) (q q' : Obj × Option Nat), acc[j]? = some q → acc[j']? = some q' → q.2 = q'.2 → j = j'

theorem Good.push {acc : Acc} {ps : Ps} (g : Good N0 s β w acc ps) {q : Obj × Option Nat} {p : Value × List Value} (hq : acc.any (fun p => p.2 == q.2) = false)
    (h1 : ObjAt N0 (fun _ => none) (fun _ => False) w p.1 p.2 q.1) (h2 : ∀ b, blks q.1.own p.1 p.2 b → N0 ≤ b ∧ b < w.heap.size)
    (h3 : match q.2 with | some id => (∃ o, s.obj id = some o ∧ o.own = q.1.own) ∧ β id = some p | none => ∀ b, blks q.1.own p.1 p.2 b → ¬ Held s β b) :
    Good N0 s β w (acc ++ [q]) (ps ++ [p]) where
  len := by simp [g.len]
  at_ := fun j q' p' hj hp => by
    by_cases h : j < acc.length
    · rw [List.getElem?_append_left h] at hj
      rw [List.getElem?_append_left (by rw [g.len]; exact h)] at hp
      exact g.at_ j q' p' hj hp
    · have hj2 : j = acc.length := by
        have := (List.getElem?_eq_some_iff.1 hj).1
        simp at this; omega
      subst hj2
      rw [List.getElem?_append_right (Nat.le_refl _)] at hj
      rw [List.getElem?_append_right (by rw [g.len]; exact Nat.le_refl _)] at hp
      simp [g.len] at hj hp
      subst hj; subst hp
      exact ⟨h1, h2, h3⟩
  nd := fun j j' q1 q2 hj hj' he => by
    have key : ∀ (i : Nat) (x : Obj × Option Nat), (acc ++ [q])[i]? = some x → (acc[i]? = some x) ∨ (i = acc.length ∧ x = q) := by
      intro i x hx
      by_cases h : i < acc.length
      · rw [List.getElem?_append_left h] at hx; exact .inl hx
      · have hi : i = acc.length := by
          have := (List.getElem?_eq_some_iff.1 hx).1
          simp at this; omega
        subst hi
        rw [List.getElem?_append_right (Nat.le_refl _)] at hx
        simp at hx
        exact .inr ⟨rfl, hx.symm⟩
    have hno : ∀ (i : Nat) (x : Obj × Option Nat), acc[i]? = some x → x.2 ≠ q.2 := by
      intro i x hx e
      have := List.any_eq_false.1 hq x (List.mem_of_getElem? hx)
      simp [e] at this
    rcases key j q1 hj with h | ⟨rfl, rfl⟩ <;> rcases key j' q2 hj' with h' | ⟨rfl, rfl⟩
    · exact g.nd j j' q1 q2 h h' he
    · exact (hno j q1 h he).elim
    · exact (hno j' q2 h' he.symm).elim
    · rfl

theorem objAt_plain {o : Obj} {pv : Value} {vs : List Value} {F : Nat → Prop} (ho : (∃ e k xs, o = .flat e k xs) ∨ ∃ e e' st xss, o = .rows e e' (.own st) xss) (h : ObjAt N0 β F w pv vs o) : ObjAt N0 β' (fun _ => False) w pv vs o := by
  rcases ho with ⟨e, k, xs, rfl⟩ | ⟨e, e', st, xss, rfl⟩ <;> exact h

theorem CR.more {ps qs : Ps} {F : Nat → Prop} {c : CV} {v : Value} (h : CR N0 (fun j => ps[j]?) F w c v) : CR N0 (fun j => (ps ++ qs)[j]?) F w c v :=
  CR.keep (fun id pv vs hp => ⟨vs, by
    have := (List.getElem?_eq_some_iff.1 hp).1
    rw [List.getElem?_append_left this]; exact hp⟩) (fun b hb => ⟨hb, rfl⟩) h

theorem retC_ok (r : Rel N0 W0 s β a w) {acc acc' : Acc} {ps : Ps} {c c' : CV} {v : Value} (g : Good N0 s β w acc ps) (h : retC s acc c = some (c', acc')) (hc : CR N0 β (Free s β w) w c v) :
    ∃ qs, Good N0 s β w acc' (ps ++ qs) ∧ CR N0 (fun j => (ps ++ qs)[j]?) (fun _ => False) w c' v := by
  have own : ∀ id o, s.obj id = some o → ((∃ e k xs, o = .flat e k xs) ∨ ∃ e e' st xss, o = .rows e e' (.own st) xss) → acc.any (fun p => p.2 == some id) = false → c = .ref id →
      ∃ qs, Good N0 s β w (acc ++ [(o, some id)]) (ps ++ qs) ∧ CR N0 (fun j => (ps ++ qs)[j]?) (fun _ => False) w (.ref acc.length) v := by
    rintro id o ho hk hn rfl
    obtain ⟨pv, vs, hp, hat, hb⟩ := r.obj id o ho
    obtain ⟨vs', hv, h1c⟩ := hc
    rw [hp] at hv; cases hv
    refine ⟨[(v, vs)], g.push (q := (o, some id)) hn (objAt_plain hk hat) hb ⟨⟨o, ho, rfl⟩, hp⟩, vs, ?_, h1c⟩
    show (ps ++ [(v, vs)])[acc.length]? = _
    rw [List.getElem?_append_right (by rw [g.len]; exact Nat.le_refl _)]
    simp [g.len]
  cases c with
  | sc x => cases h; exact ⟨[], by simpa using g, hc⟩
  | nil => cases h; exact ⟨[], by simpa using g, hc⟩
  | ref id =>
    simp only [retC] at h
    split at h
    · rename_i e k xs ho
      split at h
      · cases h
      · rename_i hn; cases h
        exact own id _ ho (.inl ⟨_, _, _, rfl⟩) (Bool.eq_false_iff.2 hn) rfl
    · rename_i e e' st xss ho
      split at h
      · cases h
      · rename_i hn; cases h
        exact own id _ ho (.inr ⟨_, _, _, _, rfl⟩) (Bool.eq_false_iff.2 hn) rfl
    · rename_i e k ho
      split at h
      · cases h
      · rename_i hn; cases h
        obtain ⟨pv, vs, hp, hat, hb⟩ := r.obj id _ ho
        obtain ⟨vs', hv, h1c⟩ := hc
        rw [hp] at hv; cases hv
        refine ⟨[(v, vs)], g.push (q := (.flat e k [], some id)) (Bool.eq_false_iff.2 hn) ⟨hat.1, fun e he => by cases he⟩ hb ⟨⟨_, ho, rfl⟩, hp⟩, vs, ?_, h1c⟩
        show (ps ++ [(v, vs)])[acc.length]? = _
        rw [List.getElem?_append_right (by rw [g.len]; exact Nat.le_refl _)]
        simp [g.len]
    · cases h
  | row e o =>
    cases o with
    | none => cases h; exact ⟨[], by simpa using g, hc⟩
    | some xs =>
      simp only [retC] at h
      split at h
      · cases h
      · rename_i hn; cases h
        obtain ⟨h1, h2, h30, h40⟩ := hc
        obtain ⟨b, n, cap, h3⟩ := h30 rfl
        have h4 := h40 b (by rw [h3]; rfl)
        have hlt := h1.lt
        refine ⟨[(v, [])], g.push (q := (.flat e 1 xs, none)) (Bool.eq_false_iff.2 hn) ⟨h1, h2⟩ ?_ ?_, [], ?_⟩
        · rintro b' (hb' | ⟨hb', _⟩)
          · rw [h3] at hb'; cases hb'
            exact ⟨(hlt b (by rw [h3]; rfl)).1, h4.1⟩
          · cases hb'
        · rintro b' (hb' | ⟨hb', _⟩)
          · rw [h3] at hb'; cases hb'
            exact h4.2
          · cases hb'
        · refine ⟨?_, by rw [h3]; rfl⟩
          show (ps ++ [(v, [])])[acc.length]? = _
          rw [List.getElem?_append_right (by rw [g.len]; exact Nat.le_refl _)]
          simp [g.len]
  | _ => simp [retC] at h

theorem retL_ok (r : Rel N0 W0 s β a w) : ∀ {cs cs' : List CV} {acc acc' : Acc} {ps : Ps} {vs : List Value}, Good N0 s β w acc ps → retL s acc cs = some (cs', acc') → All2 (CR N0 β (Free s β w) w) cs vs →
    ∃ qs, Good N0 s β w acc' (ps ++ qs) ∧ All2 (CR N0 (fun j => (ps ++ qs)[j]?) (fun _ => False) w) cs' vs
  | [], cs', acc, acc', ps, [], g, h, _ => by cases h; exact ⟨[], by simpa using g, trivial⟩
  | c :: cs, cs', acc, acc', ps, v :: vs, g, h, ⟨h1, h2⟩ => by
    simp only [retL, Option.bind_eq_some_iff, Option.map_eq_some_iff] at h
    obtain ⟨⟨c1, acc1⟩, hc1, ⟨cs1, acc2⟩, hcs1, he⟩ := h
    cases he
    obtain ⟨qs1, g1, r1⟩ := retC_ok r g hc1 h1
    obtain ⟨qs2, g2, r2⟩ := retL_ok r g1 hcs1 h2
    refine ⟨qs1 ++ qs2, by rw [← List.append_assoc]; exact g2, ?_, ?_⟩
    · rw [← List.append_assoc]; exact r1.more
    · rw [← List.append_assoc]; exact r2
  | [], _, _, _, _, _ :: _, _, _, h => h.elim
  | _ :: _, _, _, _, _, [], _, _, h => h.elim

theorem retD_ok (r : Rel N0 W0 s β a w) {acc acc' : Acc} {ps : Ps} {c c' : AV} {v : Value} (g : Good N0 s β w acc ps) (h : retD s acc c = some (c', acc')) (hc : AR N0 β (Free s β w) w c v) :
    ∃ qs, Good N0 s β w acc' (ps ++ qs) ∧ DR N0 (fun j => (ps ++ qs)[j]?) (fun _ => False) w c' v ∧ AR N0 (fun j => (ps ++ qs)[j]?) (fun _ => False) w c' v := by
  cases c with
  | one c =>
    simp only [retD, Option.map_eq_some_iff] at h
    obtain ⟨⟨c1, acc1⟩, hc1, he⟩ := h
    cases he
    obtain ⟨qs, g1, r1⟩ := retC_ok r g hc1 hc
    exact ⟨qs, g1, r1, r1⟩
  | agg cs =>
    simp only [retD, Option.map_eq_some_iff] at h
    obtain ⟨⟨c1, acc1⟩, hc1, he⟩ := h
    cases he
    obtain ⟨vs, hv, hall⟩ := hc
    obtain ⟨qs, g1, r1⟩ := retL_ok r g hc1 hall
    exact ⟨qs, g1, ⟨vs, hv, r1⟩, ⟨vs, hv, r1⟩⟩
  | _ => simp [retD] at h

theorem DR.more {ps qs : Ps} {F : Nat → Prop} {c : AV} {v : Value} (h : DR N0 (fun j => ps[j]?) F w c v) : DR N0 (fun j => (ps ++ qs)[j]?) F w c v :=
  DR.keep (fun id pv vs hp => ⟨vs, by
    have := (List.getElem?_eq_some_iff.1 hp).1
    rw [List.getElem?_append_left this]; exact hp⟩) (fun b hb => ⟨hb, rfl⟩) h

theorem retT_ok (r : Rel N0 W0 s β a w) : ∀ {cs cs' : List AV} {acc acc' : Acc} {ps : Ps} {vs : List Value}, Good N0 s β w acc ps → retT s acc cs = some (cs', acc') → All2 (AR N0 β (Free s β w) w) cs vs →
    ∃ qs, Good N0 s β w acc' (ps ++ qs) ∧ All2 (DR N0 (fun j => (ps ++ qs)[j]?) (fun _ => False) w) cs' vs
  | [], cs', acc, acc', ps, [], g, h, _ => by cases h; exact ⟨[], by simpa using g, trivial⟩
  | c :: cs, cs', acc, acc', ps, v :: vs, g, h, ⟨h1, h2⟩ => by
    simp only [retT, Option.bind_eq_some_iff, Option.map_eq_some_iff] at h
    obtain ⟨⟨c1, acc1⟩, hc1, ⟨cs1, acc2⟩, hcs1, he⟩ := h
    cases he
    obtain ⟨qs1, g1, r1, _⟩ := retD_ok r g hc1 h1
    obtain ⟨qs2, g2, r2⟩ := retT_ok r g1 hcs1 h2
    refine ⟨qs1 ++ qs2, by rw [← List.append_assoc]; exact g2, ?_, ?_⟩
    · rw [← List.append_assoc]; exact r1.more
    · rw [← List.append_assoc]; exact r2
  | [], _, _, _, _, _ :: _, _, _, h => h.elim
  | _ :: _, _, _, _, _, [], _, _, h => h.elim

theorem good_nil : Good N0 s β w [] [] := ⟨rfl, fun j q p h => by simp at h, fun j j' q q' h => by simp at h⟩

theorem Good.fresh (r : Rel N0 W0 s β a w) {acc : Acc} {ps : Ps} {av : AV} {v : Value} (g : Good N0 s β w acc ps) (h : AR N0 (fun j => ps[j]?) (fun _ => False) w av v) : Fresh N0 w v av (acc.map (·.1)) := by
  refine ⟨ps, by simp [g.len], h, ?_, ?_⟩
  · intro j o p hj hp
    rw [List.getElem?_map, Option.map_eq_some_iff] at hj
    obtain ⟨q, hq, rfl⟩ := hj
    obtain ⟨h1, h2, _⟩ := g.at_ j q p hq hp
    exact ⟨h1, h2⟩
  · intro j j' o o' p p' b hj hj' hp hp' hb hb'
    rw [List.getElem?_map, Option.map_eq_some_iff] at hj hj'
    obtain ⟨q, hq, rfl⟩ := hj
    obtain ⟨q', hq', rfl⟩ := hj'
    obtain ⟨_, _, h3⟩ := g.at_ j q p hq hp
    obtain ⟨_, _, h3'⟩ := g.at_ j' q' p' hq' hp'
    refine g.nd j j' q q' hq hq' ?_
    cases e : q.2 with
    | none =>
      cases e' : q'.2 with
      | none => rfl
      | some id' =>
        rw [e] at h3; rw [e'] at h3'
        obtain ⟨⟨o', ho', how'⟩, hβ'⟩ := h3'
        exact (h3 b hb ⟨id', o', p'.1, p'.2, ho', hβ', by rw [how']; exact hb'⟩).elim
    | some id =>
      rw [e] at h3
      cases e' : q'.2 with
      | none =>
        rw [e'] at h3'
        obtain ⟨⟨o', ho', how'⟩, hβ'⟩ := h3
        exact (h3' b hb' ⟨id, o', p.1, p.2, ho', hβ', by rw [how']; exact hb⟩).elim
      | some id' =>
        rw [e'] at h3'
        obtain ⟨⟨o1, ho1, how1⟩, hβ1⟩ := h3
        obtain ⟨⟨o2, ho2, how2⟩, hβ2⟩ := h3'
        rw [r.disj id id' o1 o2 p.1 p.2 p'.1 p'.2 b ho1 ho2 hβ1 hβ2 (by rw [how1]; exact hb) (by rw [how2]; exact hb')]

theorem resC_ok (hT : TOk P T) (r : Rel N0 W0 s β a w) (x : ResultVar) (hnd : resC T s x ≠ .dead) :
    ∃ v, (match x with | .tmp t => (pure (a.tmps.getD t undef) : Sem Value) | .cell t ty => (do loadVar ty (← asAddr (a.tmps.getD t undef)))).run P w = .ok v w ∧ AR N0 β (Free s β w) w (resC T s x) v := by
  cases x with
  | tmp t => exact ⟨_, rfl, r.env t⟩
  | cell t ty =>
    simp only [resC] at hnd ⊢
    split at hnd
    · rename_i id k hg
      have hv := r.env t
      rw [hg] at hv
      obtain ⟨pv, vs, b, hp, hpv, hval⟩ := hv
      rw [hval]
      simp only [Nat.zero_mul, Nat.add_zero]
      split at hnd
      · rename_i e cs ho
        obtain ⟨pv2, vs2, hp2, hat, _⟩ := r.obj id _ ho
        rw [hp] at hp2; cases hp2
        obtain ⟨b2, arr, h1, h2, h3, h4⟩ := hat
        have hb : b2 = b := by
          rcases hpv with ⟨n, c, e⟩ | e
          · rw [h1] at e; cases e
          · rw [h1] at e; cases e; rfl
        subst hb
        have hcell : ∀ j u, arr.toList[j]? = some u → w.cell? ⟨b2, 0 + j, none⟩ = some u := fun j u hu => by
          rw [Nat.zero_add, cell_of_row w b2 j arr e (0, 0) h3]
          simpa using hu
        have hlen := h4.length
        split at hnd
        · rename_i fs hfs
          split at hnd
          · rename_i hl
            rw [if_pos hl]
            have := run_load_st (P := P) (w := w) hT hfs (b := b2) (o := 0) (us := arr.toList) (by rw [← hlen]; exact hl.symm) hcell
            refine ⟨.agg arr, ?_, arr.toList, rfl, h4⟩
            simpa [Instr.loadAt, Instr.sureAddr, asAddr] using this
          · exact (hnd rfl).elim
        · exact (hnd rfl).elim
        · rename_i hst hoth
          have hone : (T ty).one = true := by
            cases hty : T ty <;> simp [TI.one]
            · rename_i fs; exact hst fs hty
            · exact hoth hty
          split at hnd
          · rename_i c
            cases hal : arr.toList with
            | nil => rw [hal] at h4; exact h4.elim
            | cons u us =>
              rw [hal] at h4 hcell
              have := run_load_one (P := P) (w := w) hT hone (b := b2) (o := 0) (u := u) (by have := hcell 0 u (by simp); simpa using this)
              refine ⟨u, ?_, h4.1⟩
              simpa [Instr.loadAt, Instr.sureAddr, asAddr] using this
          · exact (hnd rfl).elim
      · exact (hnd rfl).elim
    · exact (hnd rfl).elim

end
end Go.Eng
/- The engine, part 10: a function's proof out of the walk over its code; a call's effect. -/
set_option linter.unusedVariables false
namespace Go.Eng
open Go Go.RowKit

section
variable {N0 : Nat} {W0 : World} {s s' : AS} {β β' : Plc} {a : Act} {w w' : World} {P : Program} {T : Tys}

theorem run_mapM_list {α β : Type} (f : α → Sem β) (P : Program) (w : World) : ∀ (l : List α) (vs : List β), All2 (fun x v => (f x).run P w = .ok v w) l vs → (l.mapM f).run P w = .ok vs w
  | [], [], _ => rfl
  | x :: l, v :: vs, ⟨h1, h2⟩ => by
    simp only [List.mapM_cons, Sem.run_bind, h1, Result.andThen_ok, run_mapM_list f P w l vs h2, Sem.run_pure]
  | [], _ :: _, h => h.elim
  | _ :: _, [], h => h.elim

def packV : List Value → Value
  | [v] => v
  | vs => .tuple vs.toArray

theorem results_ok {fn : Func} {rs : List ResultVar} (h : fn.results = rs.toArray) {tmps : Array Value} {vs : List Value}
    (hv : All2 (fun x v => (match x with | .tmp t => (pure (tmps.getD t undef) : Sem Value) | .cell t ty => (do loadVar ty (← asAddr (tmps.getD t undef)))).run P w = .ok v w) rs vs) :
    (results fn tmps).run P w = .ok (packV vs) w := by
  have hm := run_mapM_list (fun x : ResultVar => match x with | .tmp t => (pure (tmps.getD t undef) : Sem Value) | .cell t ty => (do loadVar ty (← asAddr (tmps.getD t undef)))) P w rs vs hv
  unfold results
  rw [h, List.mapM_toArray]
  simp only [Sem.run_bind, Sem.run_map]
  refine Eq.trans (b := ((Result.ok vs w : Result (List Value)).andThen fun a w' => Result.ok a.toArray w').andThen fun a w' => (pure (if h : a.size = 1 then a[0] else Value.tuple a) : Sem Value).run P w') ?_ ?_
  · exact congrArg (fun x : Result (List Value) => (x.andThen fun a w' => Result.ok a.toArray w').andThen fun a w' => (pure (if h : a.size = 1 then a[0] else Value.tuple a) : Sem Value).run P w') hm
  · simp only [Result.andThen_ok, Sem.run_pure]
    congr 1
    match vs with
    | [] => rfl
    | [v] => rfl
    | v :: u :: r => simp [packV]

theorem all2_get' {α β : Type} {R : α → β → Prop} : ∀ {l : List α} {m : List β} (i : Nat) {y : β}, All2 R l m → m[i]? = some y → ∃ x, l[i]? = some x ∧ R x y
  | a :: l, b :: m, 0, y, ⟨h1, _⟩, h => by simp at h; subst h; exact ⟨a, by simp, h1⟩
  | a :: l, b :: m, i + 1, y, ⟨_, h2⟩, h => by
    obtain ⟨x, hx, hr⟩ := all2_get' (l := l) (m := m) i h2 (by simpa using h)
    exact ⟨x, by simpa using hx, hr⟩
  | [], [], i, y, _, h => by simp at h
  | [], _ :: _, _, _, h, _ => h.elim
  | _ :: _, [], _, _, h, _ => h.elim

/-! ### The end, for a function that hands back rows it has read -/

def plainR : AV → Bool
  | .one c => match c with
    | .sc _ | .nil | .ref _ | .ptr _ _ _ _ => true
    | _ => false
  | .agg cs => cs.all fun c => match c with
    | .sc _ | .nil | .ref _ => true
    | _ => false
  | _ => false

theorem plainC_any {B : Nat} {F F' : Nat → Prop} {c : CV} {v : Value} (hp : (match c with | .sc _ | .nil | .ref _ => true | _ => false) = true) (h : CR B β F w c v) : CR B β F' w c v := by
  cases c with
  | sc x => exact h
  | nil => exact h
  | ref id => exact h
  | _ => cases hp

theorem plainP_any {B : Nat} {F F' : Nat → Prop} {c : CV} {v : Value} (hp : (match c with | .sc _ | .nil | .ref _ | .ptr _ _ _ _ => true | _ => false) = true) (h : CR B β F w c v) : CR B β F' w c v := by
  cases c with
  | sc x => exact h
  | nil => exact h
  | ref id => exact h
  | ptr a b c d => exact h
  | _ => cases hp

/-- A struct's cells that lean on no free block. -/
def plainB (cs : List CV) : Bool := cs.all fun c => match c with
  | .sc _ | .nil | .ref _ => true
  | _ => false

theorem plainR_any {B : Nat} {F F' : Nat → Prop} {x : AV} {v : Value} (hp : plainR x = true) (h : AR B β F w x v) : AR B β F' w x v := by
  cases x with
  | one c => exact plainP_any hp h
  | agg cs =>
    obtain ⟨vs, h1, h2⟩ := h
    exact ⟨vs, h1, h2.mono fun c u hc _ hr => plainC_any (List.all_eq_true.1 hp c hc) hr⟩
  | tup _ => cases hp
  | dead => trivial

def plainE : List (Nat × AV) → List (Nat × AV)
  | [] => []
  | (k, v) :: r => (k, if plainR v then v else .dead) :: plainE r

theorem look_plainE : ∀ (l : List (Nat × AV)) (k : Nat), look (plainE l) k = look l k ∧ plainR (look l k) = true ∨ look (plainE l) k = .dead
  | [], k => .inr rfl
  | (j, v) :: r, k => by
    simp only [plainE, look_cons]
    by_cases h : j = k
    · rw [if_pos h, if_pos h]
      by_cases hp : plainR v = true
      · rw [if_pos hp]; exact .inl ⟨rfl, hp⟩
      · rw [if_neg hp]; exact .inr rfl
    · rw [if_neg h, if_neg h]; exact look_plainE r k

def thawO (id : Nat) : List (Nat × Option Obj) → List (Nat × Option Obj)
  | [] => []
  | (j, o) :: r => (j, match o with
      | some (.flat e k xs) => some (.flat e k xs)
      | some (.zrow e k) => some (.zrow e k)
      | some (.rows e e' (.loc st) xss) => if j = id then some (.rows e e' (.own st) xss) else none
      | some (.box e cs) => if plainB cs = true then some (.box e cs) else none
      | _ => none) :: thawO id r

theorem lookO_thawO (id : Nat) : ∀ (l : List (Nat × Option Obj)) (i : Nat) (o : Obj), lookO (thawO id l) i = some o →
    (lookO l i = some o ∧ ((∃ e k xs, o = .flat e k xs) ∨ (∃ e k, o = .zrow e k) ∨ ∃ e cs, o = .box e cs ∧ plainB cs = true)) ∨ (i = id ∧ ∃ e e' st xss, lookO l i = some (.rows e e' (.loc st) xss) ∧ o = .rows e e' (.own st) xss)
  | [], i, o, h => by cases h
  | (j, x) :: r, i, o, h => by
    simp only [thawO, lookO_cons] at h ⊢
    by_cases hj : j = i
    · rw [if_pos hj] at h
      rw [if_pos hj]
      split at h
      · cases h; exact .inl ⟨rfl, .inl ⟨_, _, _, rfl⟩⟩
      · cases h; exact .inl ⟨rfl, .inr (.inl ⟨_, _, rfl⟩)⟩
      · split at h
        · rename_i hid; cases h; exact .inr ⟨by rw [← hj, hid], _, _, _, _, rfl, rfl⟩
        · cases h
      · split at h
        · rename_i hc; cases h; exact .inl ⟨rfl, .inr (.inr ⟨_, _, rfl, hc⟩)⟩
        · cases h
      · cases h
    · rw [if_neg hj] at h
      rw [if_neg hj]
      exact lookO_thawO id r i o h

/-- The rows of object id are its own again; what leans on free blocks is forgotten. -/
def AS.thaw (s : AS) (id : Nat) : AS := { s with env := plainE s.env, H := thawO id s.H }

theorem Rel.thaw (r : Rel N0 W0 s β a w) (id : Nat) : Rel N0 W0 (s.thaw id) β a w where
  below := r.below
  size0 := r.size0
  size := r.size
  defers := r.defers
  env := fun k => by
    show AR N0 β _ w (look (plainE s.env) k) _
    rcases look_plainE s.env k with ⟨h1, h2⟩ | h1
    · rw [h1]; exact plainR_any h2 (r.env k)
    · rw [h1]; trivial
  dom := r.dom
  hdom := fun i hi => by
    cases h : (s.thaw id).obj i with
    | none => rfl
    | some o =>
      rcases lookO_thawO id s.H i o h with ⟨h1, _⟩ | ⟨_, e, e', st, xss, h1, _⟩
      · have := r.hdom i hi; rw [show s.obj i = _ from h1] at this; cases this
      · have := r.hdom i hi; rw [show s.obj i = _ from h1] at this; cases this
  obj := fun i o h => by
    rcases lookO_thawO id s.H i o h with ⟨h1, h2⟩ | ⟨hi, e, e', st, xss, h1, rfl⟩
    · obtain ⟨pv, vs, hp, hat, hb⟩ := r.obj i o h1
      refine ⟨pv, vs, hp, ?_, hb⟩
      rcases h2 with ⟨e, k, xs, rfl⟩ | ⟨e, k, rfl⟩ | ⟨e, cs, rfl, hc⟩
      · exact hat
      · exact hat
      · obtain ⟨b, arr, g1, g2, g3, g4⟩ := hat
        exact ⟨b, arr, g1, g2, g3, g4.mono fun c u hm _ hr => plainC_any (List.all_eq_true.1 hc c hm) hr⟩
    · obtain ⟨pv, vs, hp, hat, hb⟩ := r.obj i _ h1
      obtain ⟨a1, a2, a3⟩ := hat
      have hfr : ∀ v ∈ vs, ∀ b, blockOf v = some b → Free s β w b ∧ N0 ≤ b := by
        intro v hv b hbv
        obtain ⟨j, hj⟩ := List.getElem?_of_mem hv
        obtain ⟨o, _, hr⟩ := all2_get' j a2 hj
        cases o with
        | none => rw [show v = _ from hr] at hbv; cases hbv
        | some xs =>
          refine ⟨hr.2.2.2 b hbv, ?_⟩
          rcases hr.1.2 with ⟨h0, _⟩ | ⟨g, cap, cur, h0, hg, _⟩
          · rw [h0] at hbv; cases hbv
          · rw [h0] at hbv; cases hbv; exact hg
      refine ⟨pv, vs, hp, ⟨a1, a2.mono fun o v _ _ hr => ?_, a3, fun v hv hne he => ?_⟩, fun b hbb => ?_⟩
      · cases o with
        | none => exact hr
        | some xs => exact ⟨hr.1, hr.2.1, hr.2.2.1⟩
      · cases hbv : blockOf v with
        | none => exact hne hbv
        | some b => exact (hfr v hv b hbv).1.2 ⟨i, _, pv, vs, h1, hp, .inl (by rw [← he]; exact hbv)⟩
      · rcases hbb with hbb | ⟨_, v, hv, hbv⟩
        · exact hb b (.inl hbb)
        · exact ⟨(hfr v hv b hbv).2, (hfr v hv b hbv).1.1⟩
  disj := fun i i' o o' pv vs pv' vs' b h h' hp hp' hb hb' => by
    have key : ∀ i o pv vs, (s.thaw id).obj i = some o → β i = some (pv, vs) → blks o.own pv vs b → (∃ o1, s.obj i = some o1 ∧ blks o1.own pv vs b) ∨ (i = id ∧ Free s β w b) := by
      intro i o pv vs h hp hb
      rcases lookO_thawO id s.H i o h with ⟨h1, h2⟩ | ⟨hi, e, e', st, xss, h1, rfl⟩
      · exact .inl ⟨o, h1, hb⟩
      · rcases hb with hb | ⟨_, v, hv, hbv⟩
        · exact .inl ⟨_, h1, .inl hb⟩
        · obtain ⟨pv0, vs0, hp0, hat, _⟩ := r.obj i _ h1
          rw [hp] at hp0; cases hp0
          refine .inr ⟨hi, ?_⟩
          obtain ⟨j, hj⟩ := List.getElem?_of_mem hv
          obtain ⟨o, _, hr⟩ := all2_get' j hat.2.1 hj
          cases o with
          | none => rw [show v = _ from hr] at hbv; cases hbv
          | some xs => exact hr.2.2.2 b hbv
    rcases key i o pv vs h hp hb with ⟨o1, g1, g2⟩ | ⟨g1, g2⟩ <;> rcases key i' o' pv' vs' h' hp' hb' with ⟨o2, g3, g4⟩ | ⟨g3, g4⟩
    · exact r.disj i i' o1 o2 pv vs pv' vs' b g1 g3 hp hp' g2 g4
    · exact (g4.2 ⟨i, o1, pv, vs, g1, hp, g2⟩).elim
    · exact (g2.2 ⟨i', o2, pv', vs', g3, hp', g4⟩).elim
    · rw [g1, g3]

/-- Where a function's walk must end. -/
def retOK (T : Tys) (rs : List ResultVar) (av : AV) (objs : List Obj) (e : Exit) (t : AS) : Prop :=
  match e with
  | .ret | .normal => ∃ acc t', (t' = t ∨ ∃ id, t.thaw id = t') ∧ retA T t' rs = some (av, acc) ∧ acc.map (·.1) = objs
  | _ => False

theorem retD_dead {acc : Acc} : retD s acc .dead = none := rfl

theorem retT_nd : ∀ {cs cs' : List AV} {acc acc' : Acc}, retT s acc cs = some (cs', acc') → ∀ c ∈ cs, c ≠ .dead
  | [], _, _, _, _, c, hc => by cases hc
  | x :: cs, cs', acc, acc', h, c, hc => by
    simp only [retT, Option.bind_eq_some_iff, Option.map_eq_some_iff] at h
    obtain ⟨⟨c1, acc1⟩, hc1, ⟨cs1, acc2⟩, hcs1, he⟩ := h
    rcases List.mem_cons.1 hc with rfl | hc
    · rintro rfl; cases hc1
    · exact retT_nd hcs1 c hc

theorem resAll_ok (hT : TOk P T) (r : Rel N0 W0 s β a w) : ∀ (rs : List ResultVar), (∀ x ∈ rs, resC T s x ≠ .dead) →
    ∃ vs, All2 (fun x v => (match x with | .tmp t => (pure (a.tmps.getD t undef) : Sem Value) | .cell t ty => (do loadVar ty (← asAddr (a.tmps.getD t undef)))).run P w = .ok v w) rs vs ∧ All2 (AR N0 β (Free s β w) w) (rs.map (resC T s)) vs
  | [], _ => ⟨[], trivial, trivial⟩
  | x :: rs, h => by
    obtain ⟨v, h1, h2⟩ := resC_ok hT r x (h x (by simp))
    obtain ⟨vs, h3, h4⟩ := resAll_ok hT r rs (fun y hy => h y (by simp [hy]))
    exact ⟨v :: vs, ⟨h1, h3⟩, ⟨h2, h4⟩⟩

theorem ret_sound (hT : TOk P T) (r : Rel N0 W0 s β a w) {rs : List ResultVar} {av : AV} {acc : Acc} (h : retA T s rs = some (av, acc)) :
    ∃ vs, All2 (fun x v => (match x with | .tmp t => (pure (a.tmps.getD t undef) : Sem Value) | .cell t ty => (do loadVar ty (← asAddr (a.tmps.getD t undef)))).run P w = .ok v w) rs vs ∧ Fresh N0 w (packV vs) av (acc.map (·.1)) := by
  unfold retA at h
  split at h
  · rename_i x
    have hnd : resC T s x ≠ .dead := fun e => by rw [e] at h; cases h
    obtain ⟨v, h1, h2⟩ := resC_ok hT r x hnd
    obtain ⟨qs, g, _, h3⟩ := retD_ok r good_nil h h2
    exact ⟨[v], ⟨h1, trivial⟩, (g.fresh r h3)⟩
  · rename_i hsing
    simp only [Option.map_eq_some_iff] at h
    obtain ⟨⟨cs, acc1⟩, hcs, he⟩ := h
    cases he
    obtain ⟨vs, h1, h2⟩ := resAll_ok hT r rs (fun x hx => retT_nd hcs _ (List.mem_map.2 ⟨x, hx, rfl⟩))
    obtain ⟨qs, g, h3⟩ := retT_ok r good_nil hcs h2
    refine ⟨vs, h1, ?_⟩
    have hp : packV vs = .tuple vs.toArray := by
      have hl := h1.length
      match vs, rs, hl with
      | [], _, _ => rfl
      | [v], [x], _ => exact (hsing x rfl).elim
      | _ :: _ :: _, _, _ => rfl
    rw [hp]
    exact g.fresh r ⟨vs, rfl, h3⟩

/-- A FUNCTION's PROOF: the walk over its body, from its arguments to its end. -/
theorem sat_of {E : Reck} (hT : TOk P T) (hE : E.Ok P) (hm : P.follows .mixedOrders = true) {f : FuncId} {fn : Func} {c : Code} {rs : List ResultVar} {n : Nat} {S : Spec} (K : Nat → List Nat)
    (hf : P.funcs[f]? = some fn) (hb : fn.body = some c) (hrs : fn.results = rs.toArray) (hn : fn.ntmps = n)
    (h : ∀ args av objs, S args av objs → args.length ≤ n ∧ awp P E K c (retOK T rs av objs) (entryS n args)) : Sat P f S := by
  intro args av objs hS w vals hargs
  obtain ⟨hlen, hw⟩ := h args av objs hS
  refine calls_of_wp hf hb ?_
  rw [hn]
  have r := rel_entry (n := n) hargs hlen
  refine wp_mono (awp_sound hE hm c hw r) ?_
  rintro e a' w' ⟨t, β', r', hq⟩
  have fin : (∃ acc t', (t' = t ∨ ∃ id, t.thaw id = t') ∧ retA T t' rs = some (av, acc) ∧ acc.map (·.1) = objs) → a'.defers = [] ∧ ∃ v, (results fn a'.tmps).run P w' = .ok v w' ∧ ∃ v', Ending.returned v = .returned v' ∧ Below w.heap.size w w' ∧ Fresh w.heap.size w' v' av objs := by
    rintro ⟨acc, t', ht, h1, rfl⟩
    have r2 : Rel w.heap.size w t' β' a' w' := by
      rcases ht with rfl | ⟨id, rfl⟩
      · exact r'
      · exact r'.thaw id
    obtain ⟨vs, h2, h3⟩ := ret_sound hT r2 h1
    exact ⟨r'.defers, packV vs, results_ok hrs h2, packV vs, rfl, r'.below, h3⟩
  cases e with
  | normal => exact fin hq
  | ret => exact fin hq
  | exit id => exact hq.elim
  | goto l => exact hq.elim
  | panic ch => exact hq.elim
  | outgrown => exact hq.elim

/-! ### What a call's arguments read as -/

theorem imm_of_owns {B e k : Nat} {v : Value} {xs : List El} (h : w.ownsRow B e k v xs.length (cellsOf xs)) (hf : Flat k xs) : Imm (fun b => b < w.heap.size) w k v xs := by
  refine ⟨?_, hf⟩
  rcases h.2 with ⟨rfl, h0⟩ | ⟨g, cap, cur, rfl, hb, hg, hc, hm, hs, ht⟩
  · exact ⟨none, 0, by rw [h0], by omega, .inl h0⟩
  · refine ⟨_, _, rfl, hc, .inr ⟨g, 0, rfl, (Array.getElem?_eq_some_iff.1 hg).1, fun j u hu => ?_⟩⟩
    have := h.cells (g := g) rfl j u hu
    rwa [show (⟨g, 0, none⟩ : Addr).add j = ⟨g, 0 + j, none⟩ from Addr.add_lit _ _ _] at this

theorem immC_win {F : Nat → Prop} {b off n cap : Nat} {p : Option Addr} {cs : List Value} (hn : n ≤ cap) (hp : n = 0 ∨ p = some ⟨b, off, none⟩) (hF : F b) (hc : ∀ j u, cs[j]? = some u → w.cell? ⟨b, off + j, none⟩ = some u) :
    ImmC F w (.slice p n cap) n cs :=
  ⟨p, cap, rfl, hn, hp.imp id fun h => ⟨b, off, h, hF, hc⟩⟩

/-- One row. -/
def rowOf (s : AS) : CV → Option (List El × List Nat)
  | .nil => some ([], [])
  | .imm 1 xs => some (xs, [])
  | .row _ o => some (o.getD [], [])
  | .ref id => match s.obj id with
    | some (.flat _ 1 xs) => some (xs, [id])
    | some (.zrow _ 1) => some ([], [id])
    | _ => none
  | .pre id n => match s.obj id with
    | some (.flat _ 1 xs) => some (xs.take n, [id])
    | _ => none
  | .win id 1 l n => match s.obj id with
    | some (.flat _ 1 xs) => some ((xs.drop l).take n, [id])
    | _ => none
  | _ => none

def rowsOf (s : AS) : List CV → Option (List (List El) × List Nat)
  | [] => some ([], [])
  | c :: r => (rowOf s c).bind fun x => (rowsOf s r).map fun y => (x.1 :: y.1, x.2 ++ y.2)

def snapC (T : Tys) (s : AS) (ty : Nat) : CV → Option (CV × List Nat)
  | .sc x => some (.sc x, [])
  | .nil => match T ty with
    | .sl e => match T e with
      | .sl _ => some (.imm2 [], [])
      | _ => some (.imm (kOf T e) [], [])
    | _ => none
  | .imm k xs => some (.imm k xs, [])
  | .imm2 xss => some (.imm2 xss, [])
  | .row _ o => some (.imm 1 (o.getD []), [])
  | .ref id => match s.obj id with
    | some (.flat _ k xs) => some (.imm k xs, [id])
    | some (.zrow _ k) => some (.imm k [], [id])
    | some (.rows _ _ _ xss) => some (.imm2 (xss.map (·.getD [])), [id])
    | some (.cvs _ cs) => (rowsOf s cs).map fun x => (.imm2 x.1, id :: x.2)
    | _ => none
  | .pre id n => match s.obj id with
    | some (.flat _ k xs) => some (.imm k (xs.take n), [id])
    | _ => none
  | .win id k l n => match s.obj id with
    | some (.flat _ k' xs) => if k = k' then some (.imm k ((xs.drop l).take n), [id]) else none
    | _ => none
  | .fn f => some (.fn f, [])
  | _ => none

def snapL (T : Tys) (s : AS) : List Nat → List CV → Option (List CV × List Nat)
  | [], [] => some ([], [])
  | t :: ts, c :: r => (snapC T s t c).bind fun x => (snapL T s ts r).map fun y => (x.1 :: y.1, x.2 ++ y.2)
  | _, _ => none

def snapA (T : Tys) (s : AS) (ty : Nat) : AV → Option (AV × List Nat)
  | .one c => (snapC T s ty c).map fun x => (.one x.1, x.2)
  | .agg cs => match T ty with
    | .st fs => (snapL T s fs cs).map fun x => (.agg x.1, x.2)
    | _ => none
  | _ => none

def snapAs (T : Tys) (s : AS) : List Nat → List AV → Option (List AV × List Nat)
  | [], [] => some ([], [])
  | t :: ts, c :: r => (snapA T s t c).bind fun x => (snapAs T s ts r).map fun y => (x.1 :: y.1, x.2 ++ y.2)
  | _, _ => none

theorem cellsOf_get {k : Nat} : ∀ {xs : List El} (i j : Nat), Flat k xs → j < k → (cellsOf xs)[i * k + j]? = (xs[i]?).bind fun e => (e[j]?).map Sc.val
  | [], i, j, _, _ => by simp [cellsOf]
  | x :: xs, 0, j, h, hj => by
    have hx : x.length = k := h x (by simp)
    simp only [cellsOf, List.flatten_cons, List.map_append, Nat.zero_mul, Nat.zero_add, List.getElem?_cons_zero, Option.bind_some]
    rw [List.getElem?_append_left (by simp [hx]; omega), List.getElem?_map]
  | x :: xs, i + 1, j, h, hj => by
    have hx : x.length = k := h x (by simp)
    have ih := cellsOf_get (xs := xs) i j (fun e he => h e (by simp [he])) hj
    simp only [cellsOf, List.flatten_cons, List.map_append, List.getElem?_cons_succ] at ih ⊢
    have e1 : (i + 1) * k + j = k + (i * k + j) := by rw [Nat.add_mul]; omega
    rw [List.getElem?_append_right (by simp [hx, e1]), ← ih]
    congr 1
    simp [hx, e1]

theorem cellsOf_drop {k : Nat} : ∀ {xs : List El} (n : Nat), Flat k xs → cellsOf (xs.drop n) = (cellsOf xs).drop (n * k)
  | [], n, _ => by simp [cellsOf]
  | x :: xs, 0, _ => by simp [cellsOf]
  | x :: xs, n + 1, h => by
    have hx : x.length = k := h x (by simp)
    have ih := cellsOf_drop (xs := xs) n (fun e he => h e (by simp [he]))
    simp only [cellsOf, List.drop_succ_cons, List.flatten_cons, List.map_append] at ih ⊢
    rw [ih, List.drop_append]
    have e1 : (n + 1) * k - (List.map Sc.val x).length = n * k := by rw [List.length_map, hx, Nat.add_mul]; omega
    rw [e1, List.drop_eq_nil_of_le (as := List.map Sc.val x) (by rw [List.length_map, hx, Nat.add_mul]; omega), List.nil_append]

theorem Flat.drop {k : Nat} {xs : List El} (h : Flat k xs) (n : Nat) : Flat k (xs.drop n) := fun e he => h e (List.mem_of_mem_drop he)

theorem win_imm {B e k l n m : Nat} {pv v : Value} {xs : List El} {p : Option Addr} {cap : Nat} (hpv : pv = .slice p m cap) (h : w.ownsRow B e k pv xs.length (cellsOf xs)) (hf : Flat k xs) (hln : l + n ≤ m)
    {p' : Option Addr} {cap' : Nat} (hv : v = .slice p' n cap') (hnc : n ≤ cap') (hp' : n = 0 ∨ ∃ b, p = some ⟨b, 0, none⟩ ∧ p' = some ⟨b, l * k, none⟩) : Imm (fun b => b < w.heap.size) w k v ((xs.drop l).take n) := by
  have hm : m = xs.length := by
    rcases h.2 with ⟨h1, h0⟩ | ⟨g, cap2, cur, h1, _⟩
    · rw [h1] at hpv; cases hpv; exact h0.symm
    · rw [h1] at hpv; cases hpv; rfl
  have hl : ((xs.drop l).take n).length = n := by simp; omega
  refine ⟨?_, (hf.drop l).take n⟩
  rw [hl]
  refine ⟨p', cap', hv, hnc, ?_⟩
  rcases hp' with h0 | ⟨b, hb1, hb2⟩
  · exact .inl h0
  · by_cases hn0 : n = 0
    · exact .inl hn0
    · have hb : pv.ownBlock = some b := by rw [hpv, hb1]; rfl
      refine .inr ⟨b, l * k, hb2, (h.lt b hb).2, fun j u hu => ?_⟩
      rw [cellsOf_take n (hf.drop l), cellsOf_drop l hf, List.getElem?_take] at hu
      split at hu
      · rw [List.getElem?_drop] at hu
        have := h.cells hb (l * k + j) u hu
        rwa [show (⟨b, 0, none⟩ : Addr).add (l * k + j) = ⟨b, l * k + j, none⟩ by rw [Addr.add_lit, Nat.zero_add]] at this
      · cases hu

theorem pre_imm {B e k n m : Nat} {pv v : Value} {xs : List El} {p : Option Addr} {cap : Nat} (hpv : pv = .slice p m cap) (h : w.ownsRow B e k pv xs.length (cellsOf xs)) (hf : Flat k xs) (hn : n ≤ m) (hv : v = .slice p n cap) :
    Imm (fun b => b < w.heap.size) w k v (xs.take n) := by
  have hm : m = xs.length := by
    rcases h.2 with ⟨h1, h0⟩ | ⟨g, cap2, cur, h1, _⟩
    · rw [h1] at hpv; cases hpv; exact h0.symm
    · rw [h1] at hpv; cases hpv; rfl
  have ht := ownsRow_take h (n := n) (by omega)
  have hl : (xs.take n).length = n := by simp; omega
  have := imm_of_owns (w := w) (B := B) (e := e) (k := k) (v := v) (xs := xs.take n) (by rw [hl, cellsOf_take n hf, hv]; rw [hpv] at ht; exact ht) (hf.take n)
  exact this

theorem rowOf_ok (r : Rel N0 W0 s β a w) {c : CV} {x : List El × List Nat} {v : Value} (h : rowOf s c = some x) (hc : CR N0 β (Free s β w) w c v) : Imm (fun b => b < w.heap.size) w 1 v x.1 := by
  have hk : Keep (Free s β w) (fun b => b < w.heap.size) w w := fun b hb => ⟨hb.1, rfl⟩
  have hnil : v = .slice none 0 0 → Imm (fun b => b < w.heap.size) w 1 v [] := fun hv => ⟨⟨none, 0, hv, Nat.le_refl _, .inl rfl⟩, fun e he => by cases he⟩
  unfold rowOf at h
  split at h
  · cases h; exact hnil hc
  · cases h; exact Imm.keep hk hc
  · rename_i e o
    cases h
    cases o with
    | none => exact hnil hc
    | some xs => exact (imm_of_rowL hc).keep hk
  · rename_i id
    split at h
    · rename_i e xs ho
      cases h
      obtain ⟨pv, vs, hp, hat, _⟩ := r.obj id _ ho
      obtain ⟨vs', hv, h1c⟩ := hc
      rw [hp] at hv; cases hv
      exact imm_of_owns hat.1 hat.2
    · rename_i e ho
      cases h
      obtain ⟨pv, vs, hp, hat, _⟩ := r.obj id _ ho
      obtain ⟨vs', hv, h1c⟩ := hc
      rw [hp] at hv; cases hv
      exact imm_of_owns (xs := []) hat.1 (fun e he => by cases he)
    · cases h
  · rename_i id n
    split at h
    · rename_i e xs ho
      cases h
      obtain ⟨pv, vs, hp, hat, _⟩ := r.obj id _ ho
      obtain ⟨p, m, cap, vs', hv, he, hn⟩ := hc
      rw [hp] at hv; cases hv
      exact pre_imm rfl hat.1 hat.2 hn he
    · cases h
  · rename_i id l n
    split at h
    · rename_i e xs ho
      cases h
      obtain ⟨pv, vs, hp, hat, _⟩ := r.obj id _ ho
      obtain ⟨p, m, cap, vs', hv, hln, p', cap', he, hnc, hp'⟩ := hc
      rw [hp] at hv; cases hv
      exact win_imm rfl hat.1 hat.2 hln he hnc hp'
    · cases h
  · cases h

theorem rowsOf_ok (r : Rel N0 W0 s β a w) : ∀ {cs : List CV} {x : List (List El) × List Nat} {vs : List Value}, rowsOf s cs = some x → All2 (CR N0 β (Free s β w) w) cs vs → All2 (fun xs v => Imm (fun b => b < w.heap.size) w 1 v xs) x.1 vs
  | [], x, [], h, _ => by cases h; trivial
  | c :: cs, x, v :: vs, h, ⟨h1, h2⟩ => by
    simp only [rowsOf, Option.bind_eq_some_iff, Option.map_eq_some_iff] at h
    obtain ⟨y, hy, z, hz, rfl⟩ := h
    exact ⟨rowOf_ok r hy h1, rowsOf_ok r hz h2⟩
  | [], _, _ :: _, _, h => h.elim
  | _ :: _, _, [], _, h => h.elim

theorem imm2_of {B e : Nat} {v : Value} {vs : List Value} {xss : List (List El)} (h : w.ownsRow B e 1 v xss.length vs) (hall : All2 (fun xs u => Imm (fun b => b < w.heap.size) w 1 u xs) xss vs) : CR N0 (fun _ => none) (fun b => b < w.heap.size) w (.imm2 xss) v := by
  refine ⟨vs, hall.length.symm, ?_, fun i u xs hu hx => ?_⟩
  · rcases h.2 with ⟨rfl, h0⟩ | ⟨g, cap, cur, rfl, hb, hg, hc, hm, hs, ht⟩
    · exact ⟨none, 0, by rw [h0], by omega, .inl h0⟩
    · refine ⟨_, _, rfl, hc, .inr ⟨g, 0, rfl, (Array.getElem?_eq_some_iff.1 hg).1, fun j u hu => ?_⟩⟩
      have := h.cells (g := g) rfl j u hu
      rwa [show (⟨g, 0, none⟩ : Addr).add j = ⟨g, 0 + j, none⟩ from Addr.add_lit _ _ _] at this
  · obtain ⟨u', hu', him⟩ := All2.get i hall hx
    rw [hu] at hu'; cases hu'
    exact him

theorem snapC_ok (r : Rel N0 W0 s β a w) {ty : Nat} {c : CV} {x : CV × List Nat} {v : Value} (h : snapC T s ty c = some x) (hc : CR N0 β (Free s β w) w c v) : CR w.heap.size (fun _ => none) (fun b => b < w.heap.size) w x.1 v := by
  have hk : Keep (Free s β w) (fun b => b < w.heap.size) w w := fun b hb => ⟨hb.1, rfl⟩
  have hnil : ∀ k, v = .slice none 0 0 → Imm (fun b => b < w.heap.size) w k v [] := fun k hv => ⟨⟨none, 0, hv, Nat.le_refl _, .inl rfl⟩, fun e he => by cases he⟩
  unfold snapC at h
  split at h
  · cases h; exact hc
  · split at h
    · split at h
      · cases h
        exact ⟨[], rfl, ⟨none, 0, hc, Nat.le_refl _, .inl rfl⟩, fun i u xs hu => by simp at hu⟩
      · cases h; exact hnil _ hc
    · cases h
  · cases h; exact Imm.keep hk hc
  · cases h
    obtain ⟨vs, h1, h2, h3⟩ := hc
    exact ⟨vs, h1, h2.keep hk, fun i u xs hu hx => (h3 i u xs hu hx).keep hk⟩
  · rename_i e o
    cases h
    cases o with
    | none => exact hnil _ hc
    | some xs => exact (imm_of_rowL hc).keep hk
  · rename_i id
    obtain ⟨vs', hv, h1c⟩ := hc
    split at h
    · rename_i e k xs ho
      cases h
      obtain ⟨pv, vs, hp, hat, _⟩ := r.obj id _ ho
      rw [hp] at hv; cases hv
      exact imm_of_owns hat.1 hat.2
    · rename_i e k ho
      cases h
      obtain ⟨pv, vs, hp, hat, _⟩ := r.obj id _ ho
      rw [hp] at hv; cases hv
      exact imm_of_owns (xs := []) hat.1 (fun e he => by cases he)
    · rename_i e e' m xss ho
      cases h
      obtain ⟨pv, vs, hp, hat, _⟩ := r.obj id _ ho
      rw [hp] at hv; cases hv
      have key : ∀ (R : Option (List El) → Value → Prop), (∀ o u, R o u → Imm (fun b => b < w.heap.size) w 1 u (o.getD [])) → ∀ (l : List (Option (List El))) (us : List Value), All2 R l us → All2 (fun xs u => Imm (fun b => b < w.heap.size) w 1 u xs) (l.map (·.getD [])) us := by
        intro R hR l
        induction l with
        | nil => intro us h; cases us with | nil => trivial | cons _ _ => exact h.elim
        | cons o l ih => intro us h; cases us with | nil => exact h.elim | cons u us => exact ⟨hR o u h.1, ih us h.2⟩
      have hnil1 : ∀ u : Value, u = .slice none 0 0 → Imm (fun b => b < w.heap.size) w 1 u [] := fun u hu => ⟨⟨none, 0, hu, Nat.le_refl _, .inl rfl⟩, fun e he => by cases he⟩
      cases m with
      | own st =>
        refine imm2_of (B := N0) (e := e) (by rw [List.length_map]; exact hat.1) (key _ (fun o u ho => ?_) _ _ hat.2.1)
        cases o with
        | none => exact hnil1 u ho
        | some xs => exact imm_of_owns ho.1 ho.2.1
      | loc st =>
        refine imm2_of (B := N0) (e := e) (by rw [List.length_map]; exact hat.1) (key _ (fun o u ho => ?_) _ _ hat.2.1)
        cases o with
        | none => exact hnil1 u ho
        | some xs => exact (imm_of_rowL ho).keep hk
      | any =>
        refine imm2_of (B := N0) (e := e) (by rw [List.length_map]; exact hat.1) (key _ (fun o u ho => ?_) _ _ hat.2)
        cases o with
        | none => exact hnil1 u ho
        | some xs => exact Imm.keep hk ho
    · rename_i e cs ho
      simp only [Option.map_eq_some_iff] at h
      obtain ⟨y, hy, rfl⟩ := h
      obtain ⟨pv, vs, hp, hat, _⟩ := r.obj id _ ho
      rw [hp] at hv; cases hv
      have hall := rowsOf_ok r hy hat.2
      have hl1 := hall.length
      have hl2 := hat.2.length
      exact imm2_of (B := N0) (e := e) (by rw [hl1, ← hl2]; exact hat.1) hall
    · cases h
  · rename_i id n
    split at h
    · rename_i e k xs ho
      cases h
      obtain ⟨pv, vs, hp, hat, _⟩ := r.obj id _ ho
      obtain ⟨p, m, cap, vs', hv, he, hn⟩ := hc
      rw [hp] at hv; cases hv
      exact pre_imm rfl hat.1 hat.2 hn he
    · cases h
  · rename_i id k l n
    split at h
    · rename_i e k' xs ho
      split at h
      · rename_i hkk
        subst hkk
        cases h
        obtain ⟨pv, vs, hp, hat, _⟩ := r.obj id _ ho
        obtain ⟨p, m, cap, vs', hv, hln, p', cap', he, hnc, hp'⟩ := hc
        rw [hp] at hv; cases hv
        exact win_imm rfl hat.1 hat.2 hln he hnc hp'
      · cases h
    · cases h
  · cases h; exact hc
  · cases h

theorem snapL_ok (r : Rel N0 W0 s β a w) : ∀ {ts : List Nat} {cs : List CV} {x : List CV × List Nat} {vs : List Value}, snapL T s ts cs = some x → All2 (CR N0 β (Free s β w) w) cs vs → All2 (CR w.heap.size (fun _ => none) (fun b => b < w.heap.size) w) x.1 vs
  | [], [], x, [], h, _ => by cases h; trivial
  | t :: ts, c :: cs, x, v :: vs, h, ⟨h1, h2⟩ => by
    simp only [snapL, Option.bind_eq_some_iff, Option.map_eq_some_iff] at h
    obtain ⟨y, hy, z, hz, rfl⟩ := h
    exact ⟨snapC_ok r hy h1, snapL_ok r hz h2⟩
  | [], [], _, _ :: _, _, h => h.elim
  | _ :: _, _ :: _, _, [], _, h => h.elim
  | [], _ :: _, _, _, h, _ => by cases h
  | _ :: _, [], _, _, h, _ => by cases h

theorem snapA_ok (r : Rel N0 W0 s β a w) {ty : Nat} {c : AV} {x : AV × List Nat} {v : Value} (h : snapA T s ty c = some x) (hc : AR N0 β (Free s β w) w c v) : AR w.heap.size (fun _ => none) (fun b => b < w.heap.size) w x.1 v := by
  cases c with
  | one c =>
    simp only [snapA, Option.map_eq_some_iff] at h
    obtain ⟨y, hy, rfl⟩ := h
    exact snapC_ok r hy hc
  | agg cs =>
    simp only [snapA] at h
    split at h
    · simp only [Option.map_eq_some_iff] at h
      obtain ⟨y, hy, rfl⟩ := h
      obtain ⟨vs, h1, h2⟩ := hc
      exact ⟨vs, h1, snapL_ok r hy h2⟩
    · cases h
  | _ => cases h

theorem snapAs_ok (r : Rel N0 W0 s β a w) : ∀ {ts : List Nat} {cs : List AV} {x : List AV × List Nat} {vs : List Value}, snapAs T s ts cs = some x → All2 (AR N0 β (Free s β w) w) cs vs → Args w x.1 vs
  | [], [], x, [], h, _ => by cases h; trivial
  | t :: ts, c :: cs, x, v :: vs, h, ⟨h1, h2⟩ => by
    simp only [snapAs, Option.bind_eq_some_iff, Option.map_eq_some_iff] at h
    obtain ⟨y, hy, z, hz, rfl⟩ := h
    exact ⟨snapA_ok r hy h1, snapAs_ok r hz h2⟩
  | [], [], _, _ :: _, _, h => h.elim
  | _ :: _, _ :: _, _, [], _, h => h.elim
  | [], _ :: _, _, _, h, _ => by cases h
  | _ :: _, [], _, _, h, _ => by cases h

end
end Go.Eng
/- The engine, part 11: a call of a function that keeps a contract. -/
set_option linter.unusedVariables false
namespace Go.Eng
open Go Go.RowKit

section
variable {N0 : Nat} {W0 : World} {s s' : AS} {β β' : Plc} {a : Act} {w w' : World} {P : Program} {T : Tys}

/-- What is handed back, its objects under numbers from base on. -/
def shC (base : Nat) : CV → CV
  | .ref j => .ref (base + j)
  | c => c

def shA (base : Nat) : AV → AV
  | .one c => .one (shC base c)
  | .agg cs => .agg (cs.map (shC base))
  | v => v

def shT (base : Nat) : AV → AV
  | .tup vs => .tup (vs.map (shA base))
  | v => shA base v

/-- No numbers but plain references. -/
def plainC : CV → Bool
  | .sc _ | .nil | .ref _ | .fn _ => true
  | _ => false

def plainA : AV → Bool
  | .one c => plainC c
  | .agg cs => cs.all plainC
  | _ => false

def plainT : AV → Bool
  | .tup vs => vs.all plainA
  | v => plainA v

theorem shC_ok {B base : Nat} {ps : Ps} {F F' : Nat → Prop} (hβ : ∀ j x, ps[j]? = some x → β' (base + j) = some x) {c : CV} (hp : plainC c = true) {v : Value} (h : CR B (fun j => ps[j]?) F w c v) : CR N0 β' F' w (shC base c) v := by
  cases c with
  | sc x => exact h
  | nil => exact h
  | fn f => exact h
  | ref j => obtain ⟨vs, hv, h1c⟩ := h; exact ⟨vs, hβ j _ hv, h1c⟩
  | _ => cases hp

theorem shL_ok {B base : Nat} {ps : Ps} {F F' : Nat → Prop} (hβ : ∀ j x, ps[j]? = some x → β' (base + j) = some x) : ∀ {cs : List CV} {vs : List Value}, cs.all plainC = true → All2 (CR B (fun j => ps[j]?) F w) cs vs → All2 (CR N0 β' F' w) (cs.map (shC base)) vs
  | [], [], _, _ => trivial
  | c :: cs, v :: vs, hp, ⟨h1, h2⟩ => by
    simp only [List.all_cons, Bool.and_eq_true] at hp
    exact ⟨shC_ok hβ hp.1 h1, shL_ok hβ hp.2 h2⟩
  | [], _ :: _, _, h => h.elim
  | _ :: _, [], _, h => h.elim

theorem shA_ok {B base : Nat} {ps : Ps} {F F' : Nat → Prop} (hβ : ∀ j x, ps[j]? = some x → β' (base + j) = some x) {c : AV} (hp : plainA c = true) {v : Value} (h : DR B (fun j => ps[j]?) F w c v) : DR N0 β' F' w (shA base c) v ∧ AR N0 β' F' w (shA base c) v := by
  cases c with
  | one c => have := shC_ok (N0 := N0) (F' := F') hβ hp h; exact ⟨this, this⟩
  | agg cs => obtain ⟨vs, h1, h2⟩ := h; have := shL_ok (N0 := N0) (F' := F') hβ hp h2; exact ⟨⟨vs, h1, this⟩, ⟨vs, h1, this⟩⟩
  | tup _ => cases hp
  | dead => cases hp

theorem shT_ok {B base : Nat} {ps : Ps} {F F' : Nat → Prop} (hβ : ∀ j x, ps[j]? = some x → β' (base + j) = some x) {c : AV} (hp : plainT c = true) {v : Value} (h : AR B (fun j => ps[j]?) F w c v) : AR N0 β' F' w (shT base c) v := by
  cases c with
  | one c => exact shC_ok hβ hp h
  | agg cs => obtain ⟨vs, h1, h2⟩ := h; exact ⟨vs, h1, shL_ok hβ hp h2⟩
  | dead => cases hp
  | tup vs =>
    obtain ⟨us, h1, h2⟩ := h
    refine ⟨us, h1, ?_⟩
    clear h1
    have hp' : vs.all plainA = true := hp
    clear hp
    induction vs generalizing us with
    | nil => cases us with | nil => trivial | cons _ _ => exact h2.elim
    | cons c vs ih =>
      cases us with
      | nil => exact h2.elim
      | cons u us =>
        simp only [List.all_cons, Bool.and_eq_true] at hp'
        exact ⟨(shA_ok hβ hp'.1 h2.1).1, ih us h2.2 hp'.2⟩

theorem ownsRow_base {B B' e k : Nat} (hB : B' ≤ B) {v : Value} {n : Nat} {xs : List Value} (h : w.ownsRow B e k v n xs) : w.ownsRow B' e k v n xs := by
  refine ⟨h.1, h.2.imp id ?_⟩
  rintro ⟨g, cap, cur, h1, h2, h3⟩
  exact ⟨g, cap, cur, h1, Nat.le_trans hB h2, h3⟩

/-- The objects that a contract may hand back. -/
def plainO : Obj → Bool
  | .flat .. => true
  | .rows _ _ (.own _) _ => true
  | .rowsV _ _ _ _ _ => true
  | _ => false

theorem objAt_base {B : Nat} (hB : N0 ≤ B) {F F' : Nat → Prop} {pv : Value} {vs : List Value} {o : Obj} (hp : plainO o = true) (h : ObjAt B β F w pv vs o) : ObjAt N0 β' F' w pv vs o := by
  cases o with
  | flat e k xs => exact ⟨ownsRow_base hB h.1, h.2⟩
  | rows e e' m xss =>
    cases m with
    | own st =>
      obtain ⟨h1, h2, h3, h4⟩ := h
      refine ⟨ownsRow_base hB h1, h2.mono fun o v _ _ hr => ?_, h3, h4⟩
      cases o with
      | none => exact hr
      | some xs => exact ⟨ownsRow_base hB hr.1, hr.2⟩
    | _ => cases hp
  | rowsV e e' st xss us =>
    obtain ⟨h0, h1, h2, h3, h4⟩ := h
    refine ⟨h0, ownsRow_base hB h1, h2.mono fun o v _ _ hr => ?_, h3, h4⟩
    cases o with
    | none => exact hr
    | some xs => exact ⟨ownsRow_base hB hr.1, hr.2⟩
  | _ => cases hp

/-! ### What an argument reads as hangs on the noted objects alone -/

theorem rowOf_congr {c : CV} {x : List El × List Nat} (h : rowOf s c = some x) (ha : ∀ i ∈ x.2, s'.obj i = s.obj i) : rowOf s' c = some x := by
  unfold rowOf at h ⊢
  split at h <;> try (exact h)
  all_goals
    split at h
    all_goals first
      | (rename_i ho
         cases h
         simp only [ha _ List.mem_cons_self, ho])
      | cases h

theorem rowsOf_congr : ∀ {cs : List CV} {x : List (List El) × List Nat}, rowsOf s cs = some x → (∀ i ∈ x.2, s'.obj i = s.obj i) → rowsOf s' cs = some x
  | [], x, h, _ => h
  | c :: cs, x, h, ha => by
    simp only [rowsOf, Option.bind_eq_some_iff, Option.map_eq_some_iff] at h ⊢
    obtain ⟨y, hy, z, hz, rfl⟩ := h
    exact ⟨y, rowOf_congr hy (fun i hi => ha i (by simp [hi])), z, rowsOf_congr hz (fun i hi => ha i (by simp [hi])), rfl⟩

theorem snapC_congr {ty : Nat} {c : CV} {x : CV × List Nat} (h : snapC T s ty c = some x) (ha : ∀ i ∈ x.2, s'.obj i = s.obj i) : snapC T s' ty c = some x := by
  unfold snapC at h ⊢
  split at h <;> try (exact h)
  · split at h
    · rename_i ho; cases h; simp only [ha _ List.mem_cons_self, ho]
    · rename_i ho; cases h; simp only [ha _ List.mem_cons_self, ho]
    · rename_i ho; cases h; simp only [ha _ List.mem_cons_self, ho]
    · rename_i ho
      simp only [Option.map_eq_some_iff] at h
      obtain ⟨y, hy, rfl⟩ := h
      simp only [ha _ List.mem_cons_self, ho, rowsOf_congr hy (fun i hi => ha i (by simp [hi])), Option.map_some]
    · cases h
  · split at h
    · rename_i ho; cases h; simp only [ha _ List.mem_cons_self, ho]
    · cases h
  · split at h
    · rename_i ho
      split at h
      · rename_i hk; cases h; simp only [ha _ List.mem_cons_self, ho, hk, if_true]
      · cases h
    · cases h

theorem snapL_congr : ∀ {ts : List Nat} {cs : List CV} {x : List CV × List Nat}, snapL T s ts cs = some x → (∀ i ∈ x.2, s'.obj i = s.obj i) → snapL T s' ts cs = some x
  | [], [], x, h, _ => h
  | t :: ts, c :: cs, x, h, ha => by
    simp only [snapL, Option.bind_eq_some_iff, Option.map_eq_some_iff] at h ⊢
    obtain ⟨y, hy, z, hz, rfl⟩ := h
    exact ⟨y, snapC_congr hy (fun i hi => ha i (by simp [hi])), z, snapL_congr hz (fun i hi => ha i (by simp [hi])), rfl⟩
  | [], _ :: _, _, h, _ => h
  | _ :: _, [], _, h, _ => h

theorem snapA_congr {ty : Nat} {c : AV} {x : AV × List Nat} (h : snapA T s ty c = some x) (ha : ∀ i ∈ x.2, s'.obj i = s.obj i) : snapA T s' ty c = some x := by
  cases c with
  | one c =>
    simp only [snapA, Option.map_eq_some_iff] at h ⊢
    obtain ⟨y, hy, rfl⟩ := h
    exact ⟨y, snapC_congr hy ha, rfl⟩
  | agg cs =>
    simp only [snapA] at h ⊢
    split at h
    · simp only [Option.map_eq_some_iff] at h ⊢
      obtain ⟨y, hy, rfl⟩ := h
      exact ⟨y, snapL_congr hy ha, rfl⟩
    · cases h
  | _ => cases h

theorem snapAs_congr : ∀ {ts : List Nat} {cs : List AV} {x : List AV × List Nat}, snapAs T s ts cs = some x → (∀ i ∈ x.2, s'.obj i = s.obj i) → snapAs T s' ts cs = some x
  | [], [], x, h, _ => h
  | t :: ts, c :: cs, x, h, ha => by
    simp only [snapAs, Option.bind_eq_some_iff, Option.map_eq_some_iff] at h ⊢
    obtain ⟨y, hy, z, hz, rfl⟩ := h
    exact ⟨y, snapA_congr hy (fun i hi => ha i (by simp [hi])), z, snapAs_congr hz (fun i hi => ha i (by simp [hi])), rfl⟩
  | [], _ :: _, _, h, _ => h
  | _ :: _, [], _, h, _ => h

/-! ### The call -/

def callE (base : Nat) (av : AV) (objs : List Obj) (log : List Nat) : Eff :=
  { val := shT base av, sets := objH base objs, fresh := idsFrom base objs.length, log := log }

def Oper.isCall (o : Oper) (f : FuncId) (xs : List Operand) (ts : List Nat) : Prop := o.op = .call { callee := .value (.func f), args := xs.toArray, argTypes := ts.toArray }

theorem run_callFunc {f : FuncId} {fn : Func} (hf : P.funcs[f]? = some fn) (hb : fn.body.isNone = false) (hn : (fn.name == "runtime.NumGoroutine") = false) (args : Array Value) : (callFunc f args).run P w = .ok (.enter f args) w := by
  unfold callFunc
  simp only [Sem.run_bind, run_program, Result.andThen_ok, hf, hn, hb, Bool.false_eq_true, if_false, Sem.run_pure]

theorem slots_ev {o : Oper} (h : ∀ t ∈ slots o, s'.get t = s.get t) {x : Operand} (hx : x ∈ o.op.operands) : s'.ev x = s.ev x := by
  cases x with
  | tmp t => exact h t (List.mem_filterMap.2 ⟨.tmp t, by simpa using hx, rfl⟩)
  | _ => rfl

theorem list_evs {o : Oper} (h : ∀ t ∈ slots o, s'.get t = s.get t) {xs : List Operand} (hx : ∀ x ∈ xs, x ∈ o.op.operands) : xs.map s'.ev = xs.map s.ev :=
  List.map_congr_left fun x hxs => slots_ev h (hx x hxs)

theorem all2_ev (r : Rel N0 W0 s β a w) : ∀ xs : List Operand, All2 (AR N0 β (Free s β w) w) (xs.map s.ev) (xs.map a.eval)
  | [] => trivial
  | x :: xs => ⟨r.ev x, all2_ev r xs⟩

theorem EffU_call (f : FuncId) (fn : Func) (xs : List Operand) (ts : List Nat) (S : Spec) {o : Oper} (ho : Oper.isCall o f xs ts) (hS : Sat P f S) (hf : P.funcs[f]? = some fn) (hb : fn.body.isNone = false) (hn : (fn.name == "runtime.NumGoroutine") = false)
    (hd : Oper.dstOk o s.n = true) (base : Nat) (args : List AV) (log : List Nat) (hsn : snapAs T s ts (xs.map s.ev) = some (args, log)) (av : AV) (objs : List Obj) (hSp : S args av objs) (hpl : plainT av = true) (hpo : objs.all plainO = true) :
    EffU P o s (callE base av objs log) := by
  intro s2 h1 h2 h3 h4 N0 W0 β a w r K Q hK
  have hops : ∀ x ∈ xs, x ∈ o.op.operands := fun x hx => by
    rw [show o.op = _ from ho]
    simp [Op.operands, Call.operands, hx]
  have hsn2 : snapAs T s2 ts (xs.map s2.ev) = some (args, log) := by
    rw [list_evs h2 hops]
    exact snapAs_congr hsn h3
  have hargs := snapAs_ok r hsn2 (all2_ev r xs)
  have hrun : (execOp a.eval o).run P w = .ok (.enter f (xs.map a.eval).toArray) w := by
    have he : execOp a.eval o = callFunc f (#[] ++ (xs.map a.eval).toArray ++ #[]) := by
      unfold execOp
      rw [show o.op = _ from ho]
      simp only [resolve, Act.eval, Deferred.ofValue, List.map_toArray]
      rfl
    rw [he, run_callFunc hf hb hn]
    simp
  unfold Oper.wp
  rw [hrun, Oper.upon_enter]
  refine (hS args av objs hSp w (xs.map a.eval) hargs).mono ?_
  rintro e w' ⟨v, rfl, hbel, ps, hl, hv, hat, hdj⟩
  obtain ⟨r', hext, hnew, hkeep⟩ := r.allocL (base := base) (objs := objs) (ps := ps) hbel hl (fun i hi => h4 i hi) (fun j o' p hj hp => by
    obtain ⟨h5, h6⟩ := hat j o' p hj hp
    have hpo' : plainO o' = true := List.all_eq_true.1 hpo o' (List.mem_of_getElem? hj)
    exact ⟨fun β' F _ _ _ => objAt_base r.size0 hpo' h5, h6⟩) hdj
  have hav : AR N0 (β.add base ps) (Free { s2 with H := objH base objs ++ s2.H, used := idsFrom base objs.length ++ s2.used } (β.add base ps) w') w' (shT base av) v := shT_ok hnew hpl hv
  cases hdst : o.dst with
  | none => exact hK (β.add base ps) a w' (by rw [hdst]; exact r')
  | some d =>
    refine hK (β.add base ps) _ w' ?_
    rw [hdst]
    exact r'.put (d := d) (by have := Oper.dstOk_spec hd d hdst; rw [show s2.n = s.n from h1]; exact this) hav

end
end Go.Eng
/- The engine, part 12: the operations that leave the world alone. -/
set_option linter.unusedVariables false
namespace Go.Eng
open Go Go.RowKit

section
variable {N0 : Nat} {W0 : World} {s s' : AS} {β β' : Plc} {a : Act} {w w' : World} {P : Program} {T : Tys}

/-! ### What each reckons -/

def rPick (c x y : AV) : Option AV :=
  match c with
  | .one (.sc (.bool t)) =>
    match x, y with
    | .one (.sc (.bool u)), .one (.sc (.bool v)) => some (.one (.sc (.bool (if t then u else v))))
    | _, _ => match t with
      | true => some x
      | false => some y
  | _ => none

def eqScs : List CV → List CV → Option Bool
  | [], [] => some true
  | .sc (.int a) :: l, .sc (.int b) :: m => (eqScs l m).map fun r => a == b && r
  | _, _ => none

def TI.ok : TI → Bool
  | .oth => false
  | _ => true

def TI.allInt (T : Tys) (n : Nat) : TI → Bool
  | .st fs => fs.length == n && fs.all fun f => match T f with | .int => true | _ => false
  | _ => false

def rBin (T : Tys) (op : BinOp) (t : Nat) (x y : AV) : Option AV :=
  match x, y with
  | .one (.sc u), .one (.sc v) => (abin (T t) op u v).map fun r => .one (.sc r)
  | .one (.sc (.int a)), .one (.val (.int .u64 n)) =>
    match op with
    | .shr => if n < 0 then none else some (.one (.sc (.int (bShr a n))))
    | _ => none
  | .agg cs, .agg ds =>
    match op with
    | .eql => if (T t).allInt T cs.length then (eqScs cs ds).map fun r => .one (.sc (.bool r)) else none
    | .neq => if (T t).allInt T cs.length then (eqScs cs ds).map fun r => .one (.sc (.bool !r)) else none
    | _ => none
  | .one (.row _ o), .one .nil =>
    match T t, op with
    | .sl _, .eql => some (.one (.sc (.bool o.isNone)))
    | .sl _, .neq => some (.one (.sc (.bool !o.isNone)))
    | _, _ => none
  | .one .nil, .one .nil =>
    match T t, op with
    | .sl _, .eql => some (.one (.sc (.bool true)))
    | .sl _, .neq => some (.one (.sc (.bool false)))
    | _, _ => none
  | _, _ => none

def rUn (op : UnOp) (x : AV) : Option AV :=
  match x with
  | .one (.sc u) => (aun op u).map fun r => .one (.sc r)
  | _ => none

def rExtract (x : AV) (i : Nat) : Option AV :=
  match x with
  | .tup vs => vs[i]?
  | _ => none

/-- A value that is read, its name forgotten. -/
def CV.rd : CV → CV
  | .iv _ k xs => .imm k xs
  | .sc s => .sc s
  | .nil => .nil
  | .imm k xs => .imm k xs
  | .imm2 xss => .imm2 xss
  | .row e o => .row e o
  | .ref id => .ref id
  | .pre id n => .pre id n
  | .win id k l n => .win id k l n
  | .ptr id k i j => .ptr id k i j
  | .iptr cs => .iptr cs
  | .iprow xs => .iprow xs
  | .fn f => .fn f
  | .clo f id => .clo f id
  | .val v => .val v
def AV.rd : AV → AV
  | .one c => .one c.rd
  | .agg cs => .agg cs
  | .tup vs => .tup vs
  | .dead => .dead
theorem CV.rd_ok {B : Nat} {F : Nat → Prop} {c : CV} {v : Value} (h : CR B β F w c v) : CR B β F w c.rd v := by
  cases c <;> first | exact h | exact h.2
theorem AV.rd_ok {B : Nat} {F : Nat → Prop} {c : AV} {v : Value} (h : AR B β F w c v) : AR B β F w c.rd v := by
  cases c with
  | one c => exact CV.rd_ok h
  | _ => exact h

def rLen (T : Tys) (s : AS) (t : Nat) (x : AV) : Option (AV × List Nat) :=
  match T t, x with
  | .str, .one (.sc (.str b)) => some (.one (.sc (.int (b.size : Nat))), [])
  | .sl _, .one .nil => some (.one (.sc (.int 0)), [])
  | .sl _, .one (.imm _ xs) => some (.one (.sc (.int (xs.length : Nat))), [])
  | .sl _, .one (.imm2 xs) => some (.one (.sc (.int (xs.length : Nat))), [])
  | .sl _, .one (.row _ o) => some (.one (.sc (.int ((o.getD []).length : Nat))), [])
  | .sl _, .one (.pre _ n) => some (.one (.sc (.int (n : Nat))), [])
  | .sl _, .one (.win _ _ _ n) => some (.one (.sc (.int (n : Nat))), [])
  | .sl _, .one (.ref id) =>
    match s.obj id with
    | some (.flat _ _ xs) => some (.one (.sc (.int (xs.length : Nat))), [id])
    | some (.rows _ _ _ xs) => some (.one (.sc (.int (xs.length : Nat))), [id])
    | some (.cvs _ xs) => some (.one (.sc (.int (xs.length : Nat))), [id])
    | some (.zrow _ _) => some (.one (.sc (.int 0)), [id])
    | some (.rowsV _ _ _ xs _) => some (.one (.sc (.int (xs.length : Nat))), [id])
    | _ => none
  | _, _ => none

def scsOf : List CV → Option (List Sc)
  | [] => some []
  | .sc x :: r => (scsOf r).map (x :: ·)
  | _ => none

def rIndexAddr (T : Tys) (s : AS) (t : Nat) (x i : AV) : Option (AV × List Nat) :=
  match T t, i with
  | .sl e, .one (.sc (.int n)) =>
    if 0 ≤ n ∧ (T e).ok = true then
      match x with
      | .one (.imm k xs) => if kOf T e = k then (xs[n.toNat]?).map fun el => (.one (.iptr el), []) else none
      | .one (.imm2 xss) => if kOf T e = 1 then (xss[n.toNat]?).map fun xs => (.one (.iprow xs), []) else none
      | .one (.row _ o) => if kOf T e = 1 then ((o.getD [])[n.toNat]?).map fun el => (.one (.iptr el), []) else none
      | .one (.pre id m) =>
        match s.obj id with
        | some (.flat _ k _) => if n < m ∧ kOf T e = k then some (.one (.ptr id k n.toNat 0), [id]) else none
        | _ => none
      | .one (.win id k l m) => if n < m ∧ kOf T e = k then some (.one (.ptr id k (l + n.toNat) 0), []) else none
      | .one (.ref id) =>
        match s.obj id with
        | some (.flat _ k xs) => if n < xs.length ∧ kOf T e = k then some (.one (.ptr id k n.toNat 0), [id]) else none
        | some (.rows _ _ _ xs) => if n < xs.length ∧ kOf T e = 1 then some (.one (.ptr id 1 n.toNat 0), [id]) else none
        | some (.cvs _ xs) => if n < xs.length ∧ kOf T e = 1 then some (.one (.ptr id 1 n.toNat 0), [id]) else none
        | some (.rowsV _ _ _ xs _) => if n < xs.length ∧ kOf T e = 1 then some (.one (.ptr id 1 n.toNat 0), [id]) else none
        | _ => none
      | _ => none
    else none
  | _, _ => none

def rFieldAddr (T : Tys) (t : Nat) (x : AV) (f : Nat) : Option AV :=
  match T t, x with
  | .st fs, .one (.ptr id k i j) => if f < fs.length then some (.one (.ptr id k i (j + f))) else none
  | .st fs, .one (.iptr cs) => if f < fs.length then some (.one (.iptr (cs.drop f))) else none
  | _, _ => none

def rField (T : Tys) (t : Nat) (x : AV) (f : Nat) : Option AV :=
  match T t, x with
  | .st fs, .agg cs => if f < fs.length then (cs[f]?).map .one else none
  | _, _ => none

/-- A load from plain memory. -/
def rLoad (T : Tys) (s : AS) (t : Nat) (x : AV) : Option (AV × List Nat) :=
  match x with
  | .one (.iptr cs) =>
    match T t with
    | .st fs => if fs.length ≤ cs.length then some (.agg ((cs.take fs.length).map .sc), []) else none
    | .oth => none
    | _ => (cs[0]?).map fun c => (.one (.sc c), [])
  | .one (.iprow xs) =>
    match T t with
    | .sl _ => some (.one (.imm 1 xs), [])
    | _ => none
  | .one (.ptr id k i j) =>
    match s.obj id with
    | some (.box _ cs) =>
      match T t with
      | .st fs => if i = 0 ∧ j + fs.length ≤ cs.length then some (.agg ((cs.drop j).take fs.length), [id]) else none
      | .oth => none
      | _ => if i = 0 then (cs[j]?).map fun c => (.one c, [id]) else none
    | some (.flat _ k' xs) =>
      if k = k' then
        match T t with
        | .st fs => if j = 0 ∧ fs.length = k then (xs[i]?).map fun el => (.agg (el.map .sc), [id]) else none
        | .oth => none
        | _ => ((xs[i]?).bind (·[j]?)).map fun c => (.one (.sc c), [id])
      else none
    | some (.rows _ e' (.loc true) xss) => if k = 1 ∧ j = 0 ∧ (T t).one then (xss[i]?).map fun o => (.one (.row e' o), [id]) else none
    | some (.rows _ _ (.loc false) xss) => if k = 1 ∧ j = 0 ∧ (T t).one then (xss[i]?).map fun o => (.one (.imm 1 (o.getD [])), [id]) else none
    | some (.rows _ _ .any xss) => if k = 1 ∧ j = 0 ∧ (T t).one then (xss[i]?).map fun o => (.one (.imm 1 (o.getD [])), [id]) else none
    | some (.cvs _ cs) => if k = 1 ∧ j = 0 ∧ (T t).one then (cs[i]?).map fun c => (.one c, [id]) else none
    | some (.rowsV _ _ _ _ us) => if k = 1 ∧ j = 0 ∧ (T t).one then (us[i]?).map fun u => (.one (.val u), [id]) else none
    | _ => none
  | _ => none

def rMin (op : Bool) (x y : AV) : Option AV :=
  match x, y with
  | .one (.sc (.int a)), .one (.sc (.int b)) => some (.one (.sc (.int (if op then (if b > a then b else a) else (if b < a then b else a)))))
  | _, _ => none

/-! ### That it is so -/

theorem rPick_ok {c x y v : AV} {cv xv yv : Value} {B : Nat} {F : Nat → Prop} (h : rPick c x y = some v) (hc : AR B β F w c cv) (hx : AR B β F w x xv) (hy : AR B β F w y yv) :
    ∃ u, (do pure (if ← asBool cv then xv else yv) : Sem Value).run P w = .ok u w ∧ AR B β F w v u := by
  unfold rPick at h
  split at h
  · rename_i t
    have hc' : cv = .bool t := hc
    subst hc'
    refine ⟨if t then xv else yv, by simp [asBool], ?_⟩
    split at h
    · rename_i u1 v1
      cases h
      have hx' : xv = .bool u1 := hx
      have hy' : yv = .bool v1 := hy
      subst hx'; subst hy'
      cases t <;> rfl
    · cases t <;> (cases h; assumption)
  · cases h

theorem rUn_ok {op : UnOp} {x v : AV} {xv : Value} {B : Nat} {F : Nat → Prop} (h : rUn op x = some v) (hx : AR B β F w x xv) : ∃ u, (Op.unary op xv).run P w = .ok u w ∧ AR B β F w v u := by
  unfold rUn at h
  split at h
  · rename_i u
    simp only [Option.map_eq_some_iff] at h
    obtain ⟨r, hr, rfl⟩ := h
    have hx' : xv = u.val := hx
    subst hx'
    exact ⟨r.val, aun_sound w op u r hr, rfl⟩
  · cases h

theorem eqScs_vals : ∀ {cs ds : List CV} {r : Bool} {us vs : List Value} {B : Nat} {F : Nat → Prop}, eqScs cs ds = some r → All2 (CR B β F w) cs us → All2 (CR B β F w) ds vs →
    ∃ xs ys : List Int, us = xs.map (Value.int .i64) ∧ vs = ys.map (Value.int .i64) ∧ xs.length = ys.length ∧ r = (xs == ys)
  | [], [], r, [], [], _, _, h, _, _ => by cases h; exact ⟨[], [], rfl, rfl, rfl, rfl⟩
  | .sc (.int a) :: l, .sc (.int b) :: m, r, u :: us, v :: vs, _, _, h, ⟨h1, h2⟩, ⟨h3, h4⟩ => by
    simp only [eqScs, Option.map_eq_some_iff] at h
    obtain ⟨r', hr', rfl⟩ := h
    obtain ⟨xs, ys, rfl, rfl, hl, rfl⟩ := eqScs_vals hr' h2 h4
    have h1' : u = .int .i64 a := h1
    have h3' : v = .int .i64 b := h3
    exact ⟨a :: xs, b :: ys, by rw [h1']; rfl, by rw [h3']; rfl, by simp [hl], by simp⟩
  | [], _ :: _, _, _, _, _, _, h, _, _ => by cases h
  | _ :: _, [], _, _, _, _, _, h, _, _ => by simp [eqScs] at h
  | [], [], _, _ :: _, _, _, _, _, h, _ => h.elim
  | [], [], _, [], _ :: _, _, _, _, _, h => h.elim

theorem run_eqFields {d : Nat} : ∀ (fl : List Field) (k : Nat) (xs ys : List Int), (∀ j f, fl[j]? = some f → f.offset = k + j ∧ f.name ≠ "_" ∧ P.underlying f.type = some (.int .i64)) → xs.length = k + fl.length → ys.length = k + fl.length →
    (Op.eqFields (d + 1) (xs.map (Value.int .i64)).toArray (ys.map (Value.int .i64)).toArray fl).run P w = .ok (xs.drop k == ys.drop k) w
  | [], k, xs, ys, _, h1, h2 => by
    rw [List.drop_of_length_le (by simp at h1; omega), List.drop_of_length_le (by simp at h2; omega)]
    rfl
  | f :: fl, k, xs, ys, hf, h1, h2 => by
    obtain ⟨ho, hn, hu⟩ := hf 0 f (by simp)
    simp only [List.length_cons] at h1 h2
    have hx : k < xs.length := by omega
    have hy : k < ys.length := by omega
    have ha : (isAgg f.type).run P w = .ok false w := by simp [isAgg, run_underlying hu]
    have hpx : (part f.type (xs.map (Value.int .i64)).toArray f.offset).run P w = .ok (.int .i64 xs[k]) w := by
      simp [part, ha, ho, hx]
    have hpy : (part f.type (ys.map (Value.int .i64)).toArray f.offset).run P w = .ok (.int .i64 ys[k]) w := by
      simp [part, ha, ho, hy]
    have heq : (Op.equalIn (d + 1) f.type (.int .i64 xs[k]) (.int .i64 ys[k])).run P w = .ok (xs[k] == ys[k]) w := run_equalIn_int w d f.type .i64 .i64 _ _ hu
    have ih := run_eqFields (d := d) fl (k + 1) xs ys (fun j f' hj => by
      have := hf (j + 1) f' (by simpa using hj)
      exact ⟨by rw [this.1]; omega, this.2⟩) (by omega) (by omega)
    unfold Op.eqFields
    rw [if_pos hn]
    simp only [Sem.run_bind, hpx, hpy, heq, Result.andThen_ok, Sem.run_ite, ih]
    rw [List.drop_eq_getElem_cons hx, List.drop_eq_getElem_cons hy]
    have e : (xs[k] :: List.drop (k + 1) xs == ys[k] :: List.drop (k + 1) ys) = (xs[k] == ys[k] && (List.drop (k + 1) xs == List.drop (k + 1) ys)) := rfl
    rw [e]
    cases (xs[k] == ys[k]) <;> rfl

theorem rBin_ok (hT : TOk P T) {op : BinOp} {t : Nat} {x y v : AV} {xv yv : Value} {xo yo : Operand} {B : Nat} {F : Nat → Prop} (h : rBin T op t x y = some v) (hx : AR B β F w x xv) (hy : AR B β F w y yv) :
    ∃ u, (do eqGuard op t xo yo xv yv; binOp op t xv yv : Sem Value).run P w = .ok u w ∧ AR B β F w v u := by
  unfold rBin at h
  split at h
  · rename_i u1 v1
    simp only [Option.map_eq_some_iff] at h
    obtain ⟨r, hr, rfl⟩ := h
    have hx' : xv = u1.val := hx
    have hy' : yv = v1.val := hy
    subst hx'; subst hy'
    exact ⟨r.val, abin_sound hT w op t xo yo u1 v1 r hr, rfl⟩
  · rename_i a n
    have hx' : xv = .int .i64 a := hx
    have hy' : yv = .int .u64 n := hy.1
    subst hx'; subst hy'
    split at h
    · split at h
      · cases h
      · rename_i hb0
        cases h
        refine ⟨.int .i64 (bShr a n), ?_, rfl⟩
        show (Op.shift .shr .i64 a .u64 n).run P w = _
        unfold Op.shift
        rw [if_neg hb0]
        rfl
    · cases h
  · rename_i cs ds
    obtain ⟨us, rfl, hus⟩ := hx
    obtain ⟨vs, rfl, hvs⟩ := hy
    have key : (T t).allInt T cs.length = true → ∀ r, eqScs cs ds = some r → (op = .eql ∨ op = .neq) → (do eqGuard op t xo yo (.agg us.toArray) (.agg vs.toArray); binOp op t (.agg us.toArray) (.agg vs.toArray) : Sem Value).run P w = .ok (.bool (if op = .eql then r else !r)) w := by
      intro hint r hr hop
      have ht := hT t
      obtain ⟨xs, ys, hxs, hys, hl, hrr⟩ := eqScs_vals hr hus hvs
      cases hst : T t with
      | st fs =>
        rw [hst] at ht hint
        obtain ⟨hpos, ⟨arr, hu, hsz, hflds⟩, hstood, hguard, bytes, _, hinfo⟩ := ht
        have hfields : P.underlying t = some (.struct (P.fieldsOf t)) := by unfold Program.fieldsOf; rw [hu]
        have harr : P.fieldsOf t = arr := by unfold Program.fieldsOf; rw [hu]
        have hall : ∀ (j : Nat) (f : Field), (P.fieldsOf t).toList[j]? = some f → f.offset = 0 + j ∧ f.name ≠ "_" ∧ P.underlying f.type = some (.int .i64) := by
          intro j f hj
          rw [harr] at hj
          have hj' : arr[j]? = some f := by simpa using hj
          have hlt : j < fs.length := by rw [← hsz]; exact (Array.getElem?_eq_some_iff.1 hj').1
          obtain ⟨fd, h1, h2, h3, h4, _⟩ := hflds j fs[j] (List.getElem?_eq_getElem hlt)
          rw [hj'] at h1; cases h1
          refine ⟨by omega, h4, ?_⟩
          simp only [TI.allInt, Bool.and_eq_true] at hint
          have hi := List.all_eq_true.1 hint.2 fs[j] (List.getElem_mem hlt)
          have hty := hT fs[j]
          cases hf : T fs[j] <;> rw [hf] at hi hty <;> simp at hi
          rw [h2]; exact hty.1
        have hlen : (P.fieldsOf t).toList.length = fs.length := by rw [harr]; simpa using hsz
        have hcl : fs.length = cs.length := by
          simp only [TI.allInt, Bool.and_eq_true, beq_iff_eq] at hint
          exact hint.1
        have hxl : xs.length = 0 + (P.fieldsOf t).toList.length := by
          have h1 := hus.length
          rw [hxs, List.length_map] at h1
          omega
        have hrun := run_eqFields (P := P) (w := w) (d := 9998) (P.fieldsOf t).toList 0 xs ys hall hxl (by omega)
        have h1 := run_equalIn_agg (P := P) w 9999 t (xs.map (Value.int .i64)).toArray (ys.map (Value.int .i64)).toArray hfields hstood
        rw [hrun] at h1
        simp only [List.drop_zero] at h1
        have h2 : (Op.equalIn 10000 t (.agg us.toArray) (.agg vs.toArray)).run P w = .ok (xs == ys) w := by rw [hxs, hys]; exact h1
        have hg := run_eqGuard_agg (P := P) w op t xo yo us.toArray vs.toArray hguard
        rcases hop with rfl | rfl
        · have h3 := run_eql_struct (P := P) w t us.toArray vs.toArray
          simp only [Sem.run_bind, hg, Result.andThen_ok, h3, h2, if_true, hrr]
        · have h3 := run_neq_struct (P := P) w t us.toArray vs.toArray
          simp only [Sem.run_bind, hg, Result.andThen_ok, h3, h2, hrr]
          rfl
      | _ => rw [hst] at hint; cases hint
    split at h
    · split at h
      · rename_i hi
        simp only [Option.map_eq_some_iff] at h
        obtain ⟨r, hr, rfl⟩ := h
        exact ⟨_, key hi r hr (.inl rfl), rfl⟩
      · cases h
    · split at h
      · rename_i hi
        simp only [Option.map_eq_some_iff] at h
        obtain ⟨r, hr, rfl⟩ := h
        exact ⟨_, key hi r hr (.inr rfl), rfl⟩
      · cases h
    · cases h
  · rename_i e o
    have hy' : yv = .slice none 0 0 := hy
    subst hy'
    have hb : ∃ a n c, xv = .slice a n c ∧ (a.isNone = o.isNone) := by
      cases o with
      | none => exact ⟨none, 0, 0, hx, rfl⟩
      | some xs => obtain ⟨_, _, h0, _⟩ := hx; obtain ⟨b, n, c, h1⟩ := h0 rfl; exact ⟨_, n, c, h1, rfl⟩
    obtain ⟨p, n, c, rfl, hpo⟩ := hb
    split at h
    · rename_i e1 hte
      cases h
      have hu : P.underlying t = some (.slice e1) := by have := hT t; rw [hte] at this; exact this.1
      refine ⟨.bool o.isNone, ?_, rfl⟩
      have := Lib.run_eql_slice_nil (P := P) w t e1 p n c 0 0 hu
      simp only [Sem.run_bind, eqGuard_at_slice, Sem.run_pure, Result.andThen_ok]
      rw [this, hpo]
    · rename_i e1 hte
      cases h
      have hu : P.underlying t = some (.slice e1) := by have := hT t; rw [hte] at this; exact this.1
      refine ⟨.bool !o.isNone, ?_, rfl⟩
      have := run_neq_slice_nil_any (P := P) w t e1 p n c 0 0 hu
      simp only [Sem.run_bind, eqGuard_at_slice, Sem.run_pure, Result.andThen_ok]
      rw [this, hpo]
    · cases h
  · have hx' : xv = .slice none 0 0 := hx
    have hy' : yv = .slice none 0 0 := hy
    subst hx'; subst hy'
    split at h
    · rename_i e1 hte
      cases h
      have hu : P.underlying t = some (.slice e1) := by have := hT t; rw [hte] at this; exact this.1
      refine ⟨.bool true, ?_, rfl⟩
      have := Lib.run_eql_slice_nil (P := P) w t e1 none 0 0 0 0 hu
      simp only [Sem.run_bind, eqGuard_at_slice, Sem.run_pure, Result.andThen_ok]
      exact this
    · rename_i e1 hte
      cases h
      have hu : P.underlying t = some (.slice e1) := by have := hT t; rw [hte] at this; exact this.1
      refine ⟨.bool false, ?_, rfl⟩
      have := run_neq_slice_nil_any (P := P) w t e1 none 0 0 0 0 hu
      simp only [Sem.run_bind, eqGuard_at_slice, Sem.run_pure, Result.andThen_ok]
      exact this
    · cases h
  · cases h

theorem owns_len {B e k n : Nat} {v : Value} {cs : List Value} (h : w.ownsRow B e k v n cs) : ∃ p cap, v = .slice p n cap ∧ n ≤ cap := by
  rcases h.2 with ⟨rfl, rfl⟩ | ⟨g, cap, cur, rfl, _, _, hc, _⟩
  · exact ⟨none, 0, rfl, Nat.le_refl _⟩
  · exact ⟨_, cap, rfl, hc⟩

/-- An owned slice's cells. -/
theorem owns_cell {B e k n : Nat} {p : Option Addr} {m cap : Nat} {cs : List Value} (h : w.ownsRow B e k (.slice p m cap) n cs) {j : Nat} {u : Value} (hu : cs[j]? = some u) :
    ∃ b, p = some ⟨b, 0, none⟩ ∧ w.cell? ⟨b, j, none⟩ = some u ∧ w.frozen? ⟨b, j, none⟩ = false := by
  rcases h.2 with ⟨h1, h0⟩ | ⟨g, cap', cur, h1, hb, hg, hc, hm, hs, ht⟩
  · exfalso
    have hl := h.1
    rw [h0] at hl
    have : cs = [] := List.eq_nil_of_length_eq_zero (by simpa using hl)
    subst this
    simp at hu
  · cases h1
    have hcell := h.cells (g := g) rfl j u hu
    rw [show (⟨g, 0, none⟩ : Addr).add j = ⟨g, 0 + j, none⟩ from Addr.add_lit _ _ _, Nat.zero_add] at hcell
    refine ⟨g, rfl, hcell, ?_⟩
    simp [World.frozen?, hg]

theorem rLen_ok (hT : TOk P T) (r : Rel N0 W0 s β a w) {t ty : Nat} {x : AV} {y : AV × List Nat} {xv : Value} (h : rLen T s t x = some y) (hx : AR N0 β (Free s β w) w x xv) :
    ∃ u, (Builtin.len_ #[t] ty #[xv]).run P w = .ok u w ∧ AR N0 β (Free s β w) w y.1 u := by
  have ht := hT t
  have hsl : ∀ e, T t = .sl e → ∀ p n c, (Builtin.len_ #[t] ty #[.slice p n c]).run P w = .ok (.int .i64 (n : Nat)) w := by
    intro e he p n c
    rw [he] at ht
    simp [Builtin.len_, run_underlying ht.1, goInt]
  unfold rLen at h
  split at h
  · rename_i b hst
    cases h
    rw [hst] at ht
    have hx' : xv = .string b := hx
    subst hx'
    exact ⟨.int .i64 (b.size : Nat), by simp [Builtin.len_, run_underlying ht.1, goInt], rfl⟩
  · rename_i e hst
    cases h
    have hx' : xv = .slice none 0 0 := hx
    subst hx'
    exact ⟨_, hsl e hst _ _ _, rfl⟩
  · rename_i e k xs hst
    cases h
    obtain ⟨⟨p, cap, rfl, _⟩, _⟩ := hx
    exact ⟨_, hsl e hst _ _ _, rfl⟩
  · rename_i e xs hst
    cases h
    obtain ⟨vs, _, ⟨p, cap, rfl, _⟩, _⟩ := hx
    exact ⟨_, hsl e hst _ _ _, rfl⟩
  · rename_i e e' o hst
    cases h
    cases o with
    | none =>
      have hx' : xv = .slice none 0 0 := hx
      subst hx'
      exact ⟨_, hsl e hst _ _ _, rfl⟩
    | some xs =>
      obtain ⟨⟨p, cap, rfl, _⟩, _⟩ := imm_of_rowL hx
      exact ⟨_, hsl e hst _ _ _, rfl⟩
  · rename_i e id n hst
    cases h
    obtain ⟨p, m, cap, vs, h1, rfl, h2⟩ := hx
    exact ⟨_, hsl e hst _ _ _, rfl⟩
  · rename_i e id k l n hst
    cases h
    obtain ⟨p, m, cap, vs, h1, h2, p', cap', rfl, _⟩ := hx
    exact ⟨_, hsl e hst _ _ _, rfl⟩
  · rename_i e id hst
    obtain ⟨vs, hv, h1c⟩ := hx
    split at h
    · rename_i e1 k xs ho
      cases h
      obtain ⟨pv, vs', hp, hat, _⟩ := r.obj id _ ho
      rw [hp] at hv; cases hv
      obtain ⟨p, cap, rfl, _⟩ := owns_len hat.1
      exact ⟨_, hsl e hst _ _ _, rfl⟩
    · rename_i e1 e2 md xs ho
      cases h
      obtain ⟨pv, vs', hp, hat, _⟩ := r.obj id _ ho
      rw [hp] at hv; cases hv
      have hrow : w.ownsRow N0 e1 1 xv xs.length vs := by cases md <;> exact hat.1
      obtain ⟨p, cap, rfl, _⟩ := owns_len hrow
      exact ⟨_, hsl e hst _ _ _, rfl⟩
    · rename_i e1 xs ho
      cases h
      obtain ⟨pv, vs', hp, hat, _⟩ := r.obj id _ ho
      rw [hp] at hv; cases hv
      obtain ⟨p, cap, rfl, _⟩ := owns_len hat.1
      exact ⟨_, hsl e hst _ _ _, rfl⟩
    · rename_i e1 k1 ho
      cases h
      obtain ⟨pv, vs', hp, hat, _⟩ := r.obj id _ ho
      rw [hp] at hv; cases hv
      obtain ⟨p, cap, rfl, _⟩ := owns_len hat.1
      exact ⟨_, hsl e hst _ _ _, rfl⟩
    · rename_i e1 e2 st1 xs us1 ho
      cases h
      obtain ⟨pv, vs', hp, hat, _⟩ := r.obj id _ ho
      rw [hp] at hv; cases hv
      obtain ⟨p, cap, rfl, _⟩ := owns_len hat.2.1
      exact ⟨_, hsl e hst _ _ _, rfl⟩
    · cases h
  · cases h

theorem size_k (hT : TOk P T) {e : Nat} (h : (T e).ok = true) (w : World) : (sizeOf e).run P w = .ok (kOf T e) w := by
  have := hT e
  unfold kOf
  cases ht : T e <;> rw [ht] at this h
  all_goals first | (simp [TI.ok] at h; done) | skip
  all_goals first
    | (obtain ⟨_, hi⟩ := this; obtain ⟨i, h1, h2, _⟩ := hi.info; simp [sizeOf, typeInfo, h1, h2])
    | (obtain ⟨_, _, _, _, bytes, _, hi⟩ := this; obtain ⟨i, h1, h2, _⟩ := hi.info; simp [sizeOf, typeInfo, h1, h2])

theorem run_indexAt (hT : TOk P T) {t e : Nat} (ht : T t = .sl e) (hok : (T e).ok = true) {b off : Nat} {len cap : Nat} {n : Int} (h0 : 0 ≤ n) (h1 : n < len) :
    (Instr.indexAt t (.slice (some ⟨b, off, none⟩) len cap) (.int .i64 n)).run P w = .ok (.pointer (some ⟨b, off + n.toNat * kOf T e, none⟩)) w := by
  have hu : P.underlying t = some (.slice e) := by have := hT t; rw [ht] at this; exact this.1
  have hs := size_k hT hok w
  have hadd : (⟨b, off, none⟩ : Addr).add (n.toNat * kOf T e) = ⟨b, off + n.toNat * kOf T e, none⟩ := Addr.add_lit _ _ _
  simp [Instr.indexAt, asIntOf, run_underlying hu, hs, h0, h1, hadd]

theorem rIndexAddr_ok (hT : TOk P T) (r : Rel N0 W0 s β a w) {t : Nat} {x i : AV} {y : AV × List Nat} {xv iv : Value} (h : rIndexAddr T s t x i = some y) (hx : AR N0 β (Free s β w) w x xv) (hi : AR N0 β (Free s β w) w i iv) :
    ∃ u, (Instr.indexAt t xv iv).run P w = .ok u w ∧ AR N0 β (Free s β w) w y.1 u := by
  unfold rIndexAddr at h
  split at h
  · rename_i e n hst
    have hi' : iv = .int .i64 n := hi
    subst hi'
    split at h
    · rename_i hn
      obtain ⟨h0, hok⟩ := hn
      have hown : ∀ (B e' k n' m' cap : Nat) (p : Option Addr) {cs : List Value}, w.ownsRow B e' k (.slice p m' cap) n' cs → 0 < n' → ∃ b, p = some ⟨b, 0, none⟩ := by
        rintro B e' k n' m' cap p cs ⟨_, hh⟩ hpos
        rcases hh with ⟨_, h0'⟩ | ⟨g, cap', cur, hv, _⟩
        · omega
        · cases hv; exact ⟨g, rfl⟩
      -- immutable slices
      have himm : ∀ k xs el, Imm (Free s β w) w k xv xs → kOf T e = k → xs[n.toNat]? = some el → ∃ u, (Instr.indexAt t xv (.int .i64 n)).run P w = .ok u w ∧ AR N0 β (Free s β w) w (.one (.iptr el)) u := by
        rintro k xs el ⟨⟨p, cap, rfl, hc, hcells⟩, hf⟩ rfl hel
        have hlt := (List.getElem?_eq_some_iff.1 hel).1
        rcases hcells with h0' | ⟨b, off, rfl, hF, hr⟩
        · omega
        · refine ⟨_, run_indexAt hT hst hok h0 (by omega), b, off + n.toNat * kOf T e, rfl, hF, fun j sc hj => ?_⟩
          have hjl : j < kOf T e := by rw [← hf el (List.mem_of_getElem? hel)]; exact (List.getElem?_eq_some_iff.1 hj).1
          have := hr (n.toNat * kOf T e + j) sc.val (by rw [cellsOf_get _ _ hf hjl, hel]; simp [hj])
          rwa [← Nat.add_assoc] at this
      split at h
      · rename_i k xs
        split at h
        · rename_i hk
          simp only [Option.map_eq_some_iff] at h
          obtain ⟨el, hel, rfl⟩ := h
          exact himm k xs el hx hk hel
        · cases h
      · rename_i xss
        split at h
        · rename_i hk
          simp only [Option.map_eq_some_iff] at h
          obtain ⟨xs, hxs, rfl⟩ := h
          obtain ⟨vs, hl, ⟨p, cap, rfl, hc, hcells⟩, hrows⟩ := hx
          have hlt := (List.getElem?_eq_some_iff.1 hxs).1
          rcases hcells with h0' | ⟨b, off, rfl, hF, hr⟩
          · omega
          · have hv : vs[n.toNat]? = some vs[n.toNat] := List.getElem?_eq_getElem (by omega)
            refine ⟨_, run_indexAt hT hst hok h0 (by omega), b, off + n.toNat * kOf T e, _, rfl, hF, ?_, hrows _ _ _ hv hxs⟩
            rw [hk, Nat.mul_one]
            exact hr _ _ hv
        · cases h
      · rename_i e' o
        split at h
        · rename_i hk
          simp only [Option.map_eq_some_iff] at h
          obtain ⟨el, hel, rfl⟩ := h
          cases o with
          | none => simp at hel
          | some xs => exact himm 1 xs el (imm_of_rowL hx) hk hel
        · cases h
      · rename_i id m
        split at h
        · rename_i e' k xs ho
          split at h
          · rename_i hm
            cases h
            obtain ⟨p, m', cap, vs, h1, rfl, h2⟩ := hx
            obtain ⟨pv, vs', hp, hat, _⟩ := r.obj id _ ho
            rw [h1] at hp; cases hp
            obtain ⟨p0, cap0, he0, _⟩ := owns_len hat.1
            cases he0
            obtain ⟨b, rfl⟩ := hown _ _ _ _ _ _ _ hat.1 (by omega)
            refine ⟨_, run_indexAt hT hst hok h0 hm.1, _, vs, b, h1, .inl ⟨_, _, rfl⟩, ?_⟩
            rw [hm.2]; simp
          · cases h
        · cases h
      · rename_i id k l m
        split at h
        · rename_i hm
          cases h
          obtain ⟨p, m', cap, vs, h1, h2, p', cap', rfl, h3, h4⟩ := hx
          rcases h4 with h4 | ⟨b, rfl, rfl⟩
          · omega
          · refine ⟨_, run_indexAt hT hst hok h0 hm.1, _, vs, b, h1, .inl ⟨_, _, rfl⟩, ?_⟩
            rw [hm.2, Nat.add_mul]; simp
        · cases h
      · rename_i id
        obtain ⟨vs, hv, h1c⟩ := hx
        have fin : ∀ k' m' cap' b, xv = .slice (some ⟨b, 0, none⟩) m' cap' → n < (m' : Nat) → kOf T e = k' → ∃ u, (Instr.indexAt t xv (.int .i64 n)).run P w = .ok u w ∧ AR N0 β (Free s β w) w (.one (.ptr id k' n.toNat 0)) u := by
          rintro k' m' cap' b rfl hlt rfl
          exact ⟨_, run_indexAt hT hst hok h0 hlt, _, vs, b, hv, .inl ⟨_, _, rfl⟩, by simp⟩
        split at h
        · rename_i e1 k xs ho
          split at h
          · rename_i hm
            cases h
            obtain ⟨pv, vs', hp, hat, _⟩ := r.obj id _ ho
            rw [hp] at hv; cases hv
            obtain ⟨p, cap, rfl, _⟩ := owns_len hat.1
            obtain ⟨b, rfl⟩ := hown _ _ _ _ _ _ _ hat.1 (by omega)
            exact fin k _ _ b rfl hm.1 hm.2
          · cases h
        · rename_i e1 e2 md xs ho
          split at h
          · rename_i hm
            cases h
            obtain ⟨pv, vs', hp, hat, _⟩ := r.obj id _ ho
            rw [hp] at hv; cases hv
            have hrow : w.ownsRow N0 e1 1 xv xs.length vs := by cases md <;> exact hat.1
            obtain ⟨p, cap, rfl, _⟩ := owns_len hrow
            obtain ⟨b, rfl⟩ := hown _ _ _ _ _ _ _ hrow (by omega)
            exact fin 1 _ _ b rfl hm.1 hm.2
          · cases h
        · rename_i e1 xs ho
          split at h
          · rename_i hm
            cases h
            obtain ⟨pv, vs', hp, hat, _⟩ := r.obj id _ ho
            rw [hp] at hv; cases hv
            obtain ⟨p, cap, rfl, _⟩ := owns_len hat.1
            obtain ⟨b, rfl⟩ := hown _ _ _ _ _ _ _ hat.1 (by omega)
            exact fin 1 _ _ b rfl hm.1 hm.2
          · cases h
        · rename_i e1 e2 st1 xs us1 ho
          split at h
          · rename_i hm
            cases h
            obtain ⟨pv, vs', hp, hat, _⟩ := r.obj id _ ho
            rw [hp] at hv; cases hv
            obtain ⟨p, cap, rfl, _⟩ := owns_len hat.2.1
            obtain ⟨b, rfl⟩ := hown _ _ _ _ _ _ _ hat.2.1 (by omega)
            exact fin 1 _ _ b rfl hm.1 hm.2
          · cases h
        · cases h
      · cases h
    · cases h
  · cases h

theorem run_fieldAt (hT : TOk P T) {t f : Nat} {fs : List Nat} (ht : T t = .st fs) (hf : f < fs.length) {b off : Nat} : (Instr.fieldAt t (.pointer (some ⟨b, off, none⟩)) f).run P w = .ok (.pointer (some ⟨b, off + f, none⟩)) w := by
  have := hT t
  rw [ht] at this
  obtain ⟨_, ⟨arr, hu, hsz, hfl⟩, _⟩ := this
  obtain ⟨fd, h1, h2, h3, _, h5⟩ := hfl f fs[f] (List.getElem?_eq_getElem hf)
  obtain ⟨i, hi, hi1⟩ := hT.size_one h5 w
  have hs : (sizeOf fd.type).run P w = .ok 1 w := by rw [h2]; simp [sizeOf, typeInfo, hi, hi1]
  have hadd : (⟨b, off, none⟩ : Addr).add f = ⟨b, off + f, none⟩ := Addr.add_lit _ _ _
  simp [Instr.fieldAt, Instr.sureAddr, run_underlying hu, h1, fieldPlace, hs, h3, hadd]

theorem rFieldAddr_ok (hT : TOk P T) {t f : Nat} {x y : AV} {xv : Value} {B : Nat} {F : Nat → Prop} (h : rFieldAddr T t x f = some y) (hx : AR B β F w x xv) : ∃ u, (Instr.fieldAt t xv f).run P w = .ok u w ∧ AR B β F w y u := by
  unfold rFieldAddr at h
  split at h
  · rename_i fs id k i j hst
    split at h
    · rename_i hf
      cases h
      obtain ⟨pv, vs, b, h1, h2, rfl⟩ := hx
      exact ⟨_, run_fieldAt hT hst hf, pv, vs, b, h1, h2, by rw [Nat.add_assoc]⟩
    · cases h
  · rename_i fs cs hst
    split at h
    · rename_i hf
      cases h
      obtain ⟨b, o, rfl, hF, hc⟩ := hx
      refine ⟨_, run_fieldAt hT hst hf, b, o + f, rfl, hF, fun j s hj => ?_⟩
      rw [List.getElem?_drop] at hj
      have := hc (f + j) s hj
      rwa [← Nat.add_assoc] at this
    · cases h
  · cases h

theorem rField_ok (hT : TOk P T) {t f : Nat} {x y : AV} {xv : Value} {B : Nat} {F : Nat → Prop} (h : rField T t x f = some y) (hx : AR B β F w x xv) : ∃ u, (Instr.field t xv f).run P w = .ok u w ∧ AR B β F w y u := by
  unfold rField at h
  split at h
  · rename_i fs cs hst
    split at h
    · rename_i hf
      simp only [Option.map_eq_some_iff] at h
      obtain ⟨c, hc, rfl⟩ := h
      obtain ⟨vs, rfl, hall⟩ := hx
      obtain ⟨u, hu, hr⟩ := All2.get f hall hc
      have := hT t
      rw [hst] at this
      obtain ⟨_, ⟨arr, hun, hsz, hfl⟩, _⟩ := this
      obtain ⟨fd, h1, h2, h3, _, h5⟩ := hfl f fs[f] (List.getElem?_eq_getElem hf)
      have ha := hT.agg_one h5 w
      refine ⟨u, ?_, hr⟩
      simp [Instr.field, run_underlying hun, h1, part, h2, ha, h3, hu, asAgg]
    · cases h
  · cases h

theorem rMin_ok {m : Bool} {x y v : AV} {xv yv : Value} {B : Nat} {F : Nat → Prop} {ts : Array Nat} {ty : Nat} (h : rMin m x y = some v) (hx : AR B β F w x xv) (hy : AR B β F w y yv) :
    ∃ u, ((if m then Builtin.max_ else Builtin.min_) ts ty #[xv, yv]).run P w = .ok u w ∧ AR B β F w v u := by
  unfold rMin at h
  split at h
  · rename_i p q
    cases h
    have hx' : xv = .int .i64 p := hx
    have hy' : yv = .int .i64 q := hy
    subst hx'; subst hy'
    cases m
    · exact ⟨_, rfl, rfl⟩
    · exact ⟨_, rfl, rfl⟩
  · cases h

theorem rExtract_ok {x v : AV} {i : Nat} {xv : Value} {B : Nat} {F : Nat → Prop} (h : rExtract x i = some v) (hx : AR B β F w x xv) : ∃ u, (Instr.extract xv i).run P w = .ok u w ∧ AR B β F w v u := by
  unfold rExtract at h
  split at h
  · rename_i vs
    obtain ⟨us, rfl, hall⟩ := hx
    obtain ⟨u, hu, hr⟩ := All2.get i hall h
    refine ⟨u, by simp [Instr.extract, hu], ?_⟩
    cases v with
    | one c => exact hr
    | agg cs => exact hr
    | tup _ => exact hr.elim
    | dead => trivial
  · cases h

end
end Go.Eng
