/- The engine, part 12: the operations that leave the world alone. -/
import Derived.Test.YtoanlehkkideiaaE11
import Derived.WalkSpells
import Derived.WalkLawsBesides
set_option linter.unusedVariables false
namespace Go.Eng
open Go Go.RowKit

section
variable {N0 : Nat} {W0 : World} {s s' : AS} {β β' : Plc} {a : Act} {w w' : World} {P : Program} {T : Tys}

/-! ### What each reckons -/

def rPick (c x y : AV) : Option AV :=
  match c with
  | .one (.sc (.bool t)) =>
    match x, y with
    | .one (.sc (.bool u)), .one (.sc (.bool v)) => some (.one (.sc (.bool (if t then u else v))))
    | _, _ => match t with
      | true => some x
      | false => some y
  | _ => none

def eqScs : List CV → List CV → Option Bool
  | [], [] => some true
  | .sc (.int a) :: l, .sc (.int b) :: m => (eqScs l m).map fun r => a == b && r
  | _, _ => none

def TI.ok : TI → Bool
  | .oth => false
  | _ => true

def TI.allInt (T : Tys) (n : Nat) : TI → Bool
  | .st fs => fs.length == n && fs.all fun f => match T f with | .int => true | _ => false
  | _ => false

def rBin (T : Tys) (op : BinOp) (t : Nat) (x y : AV) : Option AV :=
  match x, y with
  | .one (.sc u), .one (.sc v) => (abin (T t) op u v).map fun r => .one (.sc r)
  | .agg cs, .agg ds =>
    match op with
    | .eql => if (T t).allInt T cs.length then (eqScs cs ds).map fun r => .one (.sc (.bool r)) else none
    | .neq => if (T t).allInt T cs.length then (eqScs cs ds).map fun r => .one (.sc (.bool !r)) else none
    | _ => none
  | .one (.row _ o), .one .nil =>
    match T t, op with
    | .sl _, .eql => some (.one (.sc (.bool o.isNone)))
    | .sl _, .neq => some (.one (.sc (.bool !o.isNone)))
    | _, _ => none
  | .one .nil, .one .nil =>
    match T t, op with
    | .sl _, .eql => some (.one (.sc (.bool true)))
    | .sl _, .neq => some (.one (.sc (.bool false)))
    | _, _ => none
  | _, _ => none

def rUn (op : UnOp) (x : AV) : Option AV :=
  match x with
  | .one (.sc u) => (aun op u).map fun r => .one (.sc r)
  | _ => none

def rExtract (x : AV) (i : Nat) : Option AV :=
  match x with
  | .tup vs => vs[i]?
  | _ => none

def rLen (T : Tys) (s : AS) (t : Nat) (x : AV) : Option (AV × List Nat) :=
  match T t, x with
  | .str, .one (.sc (.str b)) => some (.one (.sc (.int (b.size : Nat))), [])
  | .sl _, .one .nil => some (.one (.sc (.int 0)), [])
  | .sl _, .one (.imm _ xs) => some (.one (.sc (.int (xs.length : Nat))), [])
  | .sl _, .one (.imm2 xs) => some (.one (.sc (.int (xs.length : Nat))), [])
  | .sl _, .one (.row _ o) => some (.one (.sc (.int ((o.getD []).length : Nat))), [])
  | .sl _, .one (.pre _ n) => some (.one (.sc (.int (n : Nat))), [])
  | .sl _, .one (.win _ _ _ n) => some (.one (.sc (.int (n : Nat))), [])
  | .sl _, .one (.ref id) =>
    match s.obj id with
    | some (.flat _ _ xs) => some (.one (.sc (.int (xs.length : Nat))), [id])
    | some (.rows _ _ _ xs) => some (.one (.sc (.int (xs.length : Nat))), [id])
    | some (.cvs _ xs) => some (.one (.sc (.int (xs.length : Nat))), [id])
    | some (.zrow _ _) => some (.one (.sc (.int 0)), [id])
    | _ => none
  | _, _ => none

def scsOf : List CV → Option (List Sc)
  | [] => some []
  | .sc x :: r => (scsOf r).map (x :: ·)
  | _ => none

def rIndexAddr (T : Tys) (s : AS) (t : Nat) (x i : AV) : Option (AV × List Nat) :=
  match T t, i with
  | .sl e, .one (.sc (.int n)) =>
    if 0 ≤ n ∧ (T e).ok = true then
      match x with
      | .one (.imm k xs) => if kOf T e = k then (xs[n.toNat]?).map fun el => (.one (.iptr el), []) else none
      | .one (.imm2 xss) => if kOf T e = 1 then (xss[n.toNat]?).map fun xs => (.one (.iprow xs), []) else none
      | .one (.row _ o) => if kOf T e = 1 then ((o.getD [])[n.toNat]?).map fun el => (.one (.iptr el), []) else none
      | .one (.pre id m) =>
        match s.obj id with
        | some (.flat _ k _) => if n < m ∧ kOf T e = k then some (.one (.ptr id k n.toNat 0), [id]) else none
        | _ => none
      | .one (.win id k l m) => if n < m ∧ kOf T e = k then some (.one (.ptr id k (l + n.toNat) 0), []) else none
      | .one (.ref id) =>
        match s.obj id with
        | some (.flat _ k xs) => if n < xs.length ∧ kOf T e = k then some (.one (.ptr id k n.toNat 0), [id]) else none
        | some (.rows _ _ _ xs) => if n < xs.length ∧ kOf T e = 1 then some (.one (.ptr id 1 n.toNat 0), [id]) else none
        | some (.cvs _ xs) => if n < xs.length ∧ kOf T e = 1 then some (.one (.ptr id 1 n.toNat 0), [id]) else none
        | _ => none
      | _ => none
    else none
  | _, _ => none

def rFieldAddr (T : Tys) (t : Nat) (x : AV) (f : Nat) : Option AV :=
  match T t, x with
  | .st fs, .one (.ptr id k i j) => if f < fs.length then some (.one (.ptr id k i (j + f))) else none
  | .st fs, .one (.iptr cs) => if f < fs.length then some (.one (.iptr (cs.drop f))) else none
  | _, _ => none

def rField (T : Tys) (t : Nat) (x : AV) (f : Nat) : Option AV :=
  match T t, x with
  | .st fs, .agg cs => if f < fs.length then (cs[f]?).map .one else none
  | _, _ => none

/-- A load from plain memory. -/
def rLoad (T : Tys) (s : AS) (t : Nat) (x : AV) : Option (AV × List Nat) :=
  match x with
  | .one (.iptr cs) =>
    match T t with
    | .st fs => if fs.length ≤ cs.length then some (.agg ((cs.take fs.length).map .sc), []) else none
    | .oth => none
    | _ => (cs[0]?).map fun c => (.one (.sc c), [])
  | .one (.iprow xs) =>
    match T t with
    | .sl _ => some (.one (.imm 1 xs), [])
    | _ => none
  | .one (.ptr id k i j) =>
    match s.obj id with
    | some (.box _ cs) =>
      match T t with
      | .st fs => if i = 0 ∧ j + fs.length ≤ cs.length then some (.agg ((cs.drop j).take fs.length), [id]) else none
      | .oth => none
      | _ => if i = 0 then (cs[j]?).map fun c => (.one c, [id]) else none
    | some (.flat _ k' xs) =>
      if k = k' then
        match T t with
        | .st fs => if j = 0 ∧ fs.length = k then (xs[i]?).map fun el => (.agg (el.map .sc), [id]) else none
        | .oth => none
        | _ => ((xs[i]?).bind (·[j]?)).map fun c => (.one (.sc c), [id])
      else none
    | some (.rows _ e' .loc xss) => if k = 1 ∧ j = 0 ∧ (T t).one then (xss[i]?).map fun o => (.one (.row e' o), [id]) else none
    | some (.cvs _ cs) => if k = 1 ∧ j = 0 ∧ (T t).one then (cs[i]?).map fun c => (.one c, [id]) else none
    | _ => none
  | _ => none

def rMin (op : Bool) (x y : AV) : Option AV :=
  match x, y with
  | .one (.sc (.int a)), .one (.sc (.int b)) => some (.one (.sc (.int (if op then (if b > a then b else a) else (if b < a then b else a)))))
  | _, _ => none

/-! ### That it is so -/

theorem rPick_ok {c x y v : AV} {cv xv yv : Value} {B : Nat} {F : Nat → Prop} (h : rPick c x y = some v) (hc : AR B β F w c cv) (hx : AR B β F w x xv) (hy : AR B β F w y yv) :
    ∃ u, (do pure (if ← asBool cv then xv else yv) : Sem Value).run P w = .ok u w ∧ AR B β F w v u := by
  unfold rPick at h
  split at h
  · rename_i t
    have hc' : cv = .bool t := hc
    subst hc'
    refine ⟨if t then xv else yv, by simp [asBool], ?_⟩
    split at h
    · rename_i u1 v1
      cases h
      have hx' : xv = .bool u1 := hx
      have hy' : yv = .bool v1 := hy
      subst hx'; subst hy'
      cases t <;> rfl
    · cases t <;> (cases h; assumption)
  · cases h

theorem rUn_ok {op : UnOp} {x v : AV} {xv : Value} {B : Nat} {F : Nat → Prop} (h : rUn op x = some v) (hx : AR B β F w x xv) : ∃ u, (Op.unary op xv).run P w = .ok u w ∧ AR B β F w v u := by
  unfold rUn at h
  split at h
  · rename_i u
    simp only [Option.map_eq_some_iff] at h
    obtain ⟨r, hr, rfl⟩ := h
    have hx' : xv = u.val := hx
    subst hx'
    exact ⟨r.val, aun_sound w op u r hr, rfl⟩
  · cases h

theorem eqScs_vals : ∀ {cs ds : List CV} {r : Bool} {us vs : List Value} {B : Nat} {F : Nat → Prop}, eqScs cs ds = some r → All2 (CR B β F w) cs us → All2 (CR B β F w) ds vs →
    ∃ xs ys : List Int, us = xs.map (Value.int .i64) ∧ vs = ys.map (Value.int .i64) ∧ xs.length = ys.length ∧ r = (xs == ys)
  | [], [], r, [], [], _, _, h, _, _ => by cases h; exact ⟨[], [], rfl, rfl, rfl, rfl⟩
  | .sc (.int a) :: l, .sc (.int b) :: m, r, u :: us, v :: vs, _, _, h, ⟨h1, h2⟩, ⟨h3, h4⟩ => by
    simp only [eqScs, Option.map_eq_some_iff] at h
    obtain ⟨r', hr', rfl⟩ := h
    obtain ⟨xs, ys, rfl, rfl, hl, rfl⟩ := eqScs_vals hr' h2 h4
    have h1' : u = .int .i64 a := h1
    have h3' : v = .int .i64 b := h3
    exact ⟨a :: xs, b :: ys, by rw [h1']; rfl, by rw [h3']; rfl, by simp [hl], by simp⟩
  | [], _ :: _, _, _, _, _, _, h, _, _ => by cases h
  | _ :: _, [], _, _, _, _, _, h, _, _ => by simp [eqScs] at h
  | [], [], _, _ :: _, _, _, _, _, h, _ => h.elim
  | [], [], _, [], _ :: _, _, _, _, _, h => h.elim

theorem run_eqFields {d : Nat} : ∀ (fl : List Field) (k : Nat) (xs ys : List Int), (∀ j f, fl[j]? = some f → f.offset = k + j ∧ f.name ≠ "_" ∧ P.underlying f.type = some (.int .i64)) → xs.length = k + fl.length → ys.length = k + fl.length →
    (Op.eqFields (d + 1) (xs.map (Value.int .i64)).toArray (ys.map (Value.int .i64)).toArray fl).run P w = .ok (xs.drop k == ys.drop k) w
  | [], k, xs, ys, _, h1, h2 => by
    rw [List.drop_of_length_le (by simp at h1; omega), List.drop_of_length_le (by simp at h2; omega)]
    rfl
  | f :: fl, k, xs, ys, hf, h1, h2 => by
    obtain ⟨ho, hn, hu⟩ := hf 0 f (by simp)
    simp only [List.length_cons] at h1 h2
    have hx : k < xs.length := by omega
    have hy : k < ys.length := by omega
    have ha : (isAgg f.type).run P w = .ok false w := by simp [isAgg, run_underlying hu]
    have hpx : (part f.type (xs.map (Value.int .i64)).toArray f.offset).run P w = .ok (.int .i64 xs[k]) w := by
      simp [part, ha, ho, hx]
    have hpy : (part f.type (ys.map (Value.int .i64)).toArray f.offset).run P w = .ok (.int .i64 ys[k]) w := by
      simp [part, ha, ho, hy]
    have heq : (Op.equalIn (d + 1) f.type (.int .i64 xs[k]) (.int .i64 ys[k])).run P w = .ok (xs[k] == ys[k]) w := run_equalIn_int w d f.type .i64 .i64 _ _ hu
    have ih := run_eqFields (d := d) fl (k + 1) xs ys (fun j f' hj => by
      have := hf (j + 1) f' (by simpa using hj)
      exact ⟨by rw [this.1]; omega, this.2⟩) (by omega) (by omega)
    unfold Op.eqFields
    rw [if_pos hn]
    simp only [Sem.run_bind, hpx, hpy, heq, Result.andThen_ok, Sem.run_ite, ih]
    rw [List.drop_eq_getElem_cons hx, List.drop_eq_getElem_cons hy]
    have e : (xs[k] :: List.drop (k + 1) xs == ys[k] :: List.drop (k + 1) ys) = (xs[k] == ys[k] && (List.drop (k + 1) xs == List.drop (k + 1) ys)) := rfl
    rw [e]
    cases (xs[k] == ys[k]) <;> rfl

theorem rBin_ok (hT : TOk P T) {op : BinOp} {t : Nat} {x y v : AV} {xv yv : Value} {xo yo : Operand} {B : Nat} {F : Nat → Prop} (h : rBin T op t x y = some v) (hx : AR B β F w x xv) (hy : AR B β F w y yv) :
    ∃ u, (do eqGuard op t xo yo xv yv; binOp op t xv yv : Sem Value).run P w = .ok u w ∧ AR B β F w v u := by
  unfold rBin at h
  split at h
  · rename_i u1 v1
    simp only [Option.map_eq_some_iff] at h
    obtain ⟨r, hr, rfl⟩ := h
    have hx' : xv = u1.val := hx
    have hy' : yv = v1.val := hy
    subst hx'; subst hy'
    exact ⟨r.val, abin_sound hT w op t xo yo u1 v1 r hr, rfl⟩
  · rename_i cs ds
    obtain ⟨us, rfl, hus⟩ := hx
    obtain ⟨vs, rfl, hvs⟩ := hy
    have key : (T t).allInt T cs.length = true → ∀ r, eqScs cs ds = some r → (op = .eql ∨ op = .neq) → (do eqGuard op t xo yo (.agg us.toArray) (.agg vs.toArray); binOp op t (.agg us.toArray) (.agg vs.toArray) : Sem Value).run P w = .ok (.bool (if op = .eql then r else !r)) w := by
      intro hint r hr hop
      have ht := hT t
      obtain ⟨xs, ys, hxs, hys, hl, hrr⟩ := eqScs_vals hr hus hvs
      cases hst : T t with
      | st fs =>
        rw [hst] at ht hint
        obtain ⟨hpos, ⟨arr, hu, hsz, hflds⟩, hstood, hguard, bytes, _, hinfo⟩ := ht
        have hfields : P.underlying t = some (.struct (P.fieldsOf t)) := by unfold Program.fieldsOf; rw [hu]
        have harr : P.fieldsOf t = arr := by unfold Program.fieldsOf; rw [hu]
        have hall : ∀ (j : Nat) (f : Field), (P.fieldsOf t).toList[j]? = some f → f.offset = 0 + j ∧ f.name ≠ "_" ∧ P.underlying f.type = some (.int .i64) := by
          intro j f hj
          rw [harr] at hj
          have hj' : arr[j]? = some f := by simpa using hj
          have hlt : j < fs.length := by rw [← hsz]; exact (Array.getElem?_eq_some_iff.1 hj').1
          obtain ⟨fd, h1, h2, h3, h4, _⟩ := hflds j fs[j] (List.getElem?_eq_getElem hlt)
          rw [hj'] at h1; cases h1
          refine ⟨by omega, h4, ?_⟩
          simp only [TI.allInt, Bool.and_eq_true] at hint
          have hi := List.all_eq_true.1 hint.2 fs[j] (List.getElem_mem hlt)
          have hty := hT fs[j]
          cases hf : T fs[j] <;> rw [hf] at hi hty <;> simp at hi
          rw [h2]; exact hty.1
        have hlen : (P.fieldsOf t).toList.length = fs.length := by rw [harr]; simpa using hsz
        have hcl : fs.length = cs.length := by
          simp only [TI.allInt, Bool.and_eq_true, beq_iff_eq] at hint
          exact hint.1
        have hxl : xs.length = 0 + (P.fieldsOf t).toList.length := by
          have h1 := hus.length
          rw [hxs, List.length_map] at h1
          omega
        have hrun := run_eqFields (P := P) (w := w) (d := 9998) (P.fieldsOf t).toList 0 xs ys hall hxl (by omega)
        have h1 := run_equalIn_agg (P := P) w 9999 t (xs.map (Value.int .i64)).toArray (ys.map (Value.int .i64)).toArray hfields hstood
        rw [hrun] at h1
        simp only [List.drop_zero] at h1
        have h2 : (Op.equalIn 10000 t (.agg us.toArray) (.agg vs.toArray)).run P w = .ok (xs == ys) w := by rw [hxs, hys]; exact h1
        have hg := run_eqGuard_agg (P := P) w op t xo yo us.toArray vs.toArray hguard
        rcases hop with rfl | rfl
        · have h3 := run_eql_struct (P := P) w t us.toArray vs.toArray
          simp only [Sem.run_bind, hg, Result.andThen_ok, h3, h2, if_true, hrr]
        · have h3 := run_neq_struct (P := P) w t us.toArray vs.toArray
          simp only [Sem.run_bind, hg, Result.andThen_ok, h3, h2, hrr]
          rfl
      | _ => rw [hst] at hint; cases hint
    split at h
    · split at h
      · rename_i hi
        simp only [Option.map_eq_some_iff] at h
        obtain ⟨r, hr, rfl⟩ := h
        exact ⟨_, key hi r hr (.inl rfl), rfl⟩
      · cases h
    · split at h
      · rename_i hi
        simp only [Option.map_eq_some_iff] at h
        obtain ⟨r, hr, rfl⟩ := h
        exact ⟨_, key hi r hr (.inr rfl), rfl⟩
      · cases h
    · cases h
  · rename_i e o
    have hy' : yv = .slice none 0 0 := hy
    subst hy'
    have hb : ∃ a n c, xv = .slice a n c ∧ (a.isNone = o.isNone) := by
      cases o with
      | none => exact ⟨none, 0, 0, hx, rfl⟩
      | some xs => obtain ⟨_, _, b, n, c, h1, _⟩ := hx; exact ⟨_, n, c, h1, rfl⟩
    obtain ⟨p, n, c, rfl, hpo⟩ := hb
    split at h
    · rename_i e1 hte
      cases h
      have hu : P.underlying t = some (.slice e1) := by have := hT t; rw [hte] at this; exact this.1
      refine ⟨.bool o.isNone, ?_, rfl⟩
      have := Lib.run_eql_slice_nil (P := P) w t e1 p n c 0 0 hu
      simp only [Sem.run_bind, eqGuard_at_slice, Sem.run_pure, Result.andThen_ok]
      rw [this, hpo]
    · rename_i e1 hte
      cases h
      have hu : P.underlying t = some (.slice e1) := by have := hT t; rw [hte] at this; exact this.1
      refine ⟨.bool !o.isNone, ?_, rfl⟩
      have := run_neq_slice_nil_any (P := P) w t e1 p n c 0 0 hu
      simp only [Sem.run_bind, eqGuard_at_slice, Sem.run_pure, Result.andThen_ok]
      rw [this, hpo]
    · cases h
  · have hx' : xv = .slice none 0 0 := hx
    have hy' : yv = .slice none 0 0 := hy
    subst hx'; subst hy'
    split at h
    · rename_i e1 hte
      cases h
      have hu : P.underlying t = some (.slice e1) := by have := hT t; rw [hte] at this; exact this.1
      refine ⟨.bool true, ?_, rfl⟩
      have := Lib.run_eql_slice_nil (P := P) w t e1 none 0 0 0 0 hu
      simp only [Sem.run_bind, eqGuard_at_slice, Sem.run_pure, Result.andThen_ok]
      exact this
    · rename_i e1 hte
      cases h
      have hu : P.underlying t = some (.slice e1) := by have := hT t; rw [hte] at this; exact this.1
      refine ⟨.bool false, ?_, rfl⟩
      have := run_neq_slice_nil_any (P := P) w t e1 none 0 0 0 0 hu
      simp only [Sem.run_bind, eqGuard_at_slice, Sem.run_pure, Result.andThen_ok]
      exact this
    · cases h
  · cases h

theorem owns_len {B e k n : Nat} {v : Value} {cs : List Value} (h : w.ownsRow B e k v n cs) : ∃ p cap, v = .slice p n cap ∧ n ≤ cap := by
  rcases h.2 with ⟨rfl, rfl⟩ | ⟨g, cap, cur, rfl, _, _, hc, _⟩
  · exact ⟨none, 0, rfl, Nat.le_refl _⟩
  · exact ⟨_, cap, rfl, hc⟩

/-- An owned slice's cells. -/
theorem owns_cell {B e k n : Nat} {p : Option Addr} {m cap : Nat} {cs : List Value} (h : w.ownsRow B e k (.slice p m cap) n cs) {j : Nat} {u : Value} (hu : cs[j]? = some u) :
    ∃ b, p = some ⟨b, 0, none⟩ ∧ w.cell? ⟨b, j, none⟩ = some u ∧ w.frozen? ⟨b, j, none⟩ = false := by
  rcases h.2 with ⟨h1, h0⟩ | ⟨g, cap', cur, h1, hb, hg, hc, hm, hs, ht⟩
  · exfalso
    have hl := h.1
    rw [h0] at hl
    have : cs = [] := List.eq_nil_of_length_eq_zero (by simpa using hl)
    subst this
    simp at hu
  · cases h1
    have hcell := h.cells (g := g) rfl j u hu
    rw [show (⟨g, 0, none⟩ : Addr).add j = ⟨g, 0 + j, none⟩ from Addr.add_lit _ _ _, Nat.zero_add] at hcell
    refine ⟨g, rfl, hcell, ?_⟩
    simp [World.frozen?, hg]

theorem rLen_ok (hT : TOk P T) (r : Rel N0 W0 s β a w) {t ty : Nat} {x : AV} {y : AV × List Nat} {xv : Value} (h : rLen T s t x = some y) (hx : AR N0 β (Free s β w) w x xv) :
    ∃ u, (Builtin.len_ #[t] ty #[xv]).run P w = .ok u w ∧ AR N0 β (Free s β w) w y.1 u := by
  have ht := hT t
  have hsl : ∀ e, T t = .sl e → ∀ p n c, (Builtin.len_ #[t] ty #[.slice p n c]).run P w = .ok (.int .i64 (n : Nat)) w := by
    intro e he p n c
    rw [he] at ht
    simp [Builtin.len_, run_underlying ht.1, goInt]
  unfold rLen at h
  split at h
  · rename_i b hst
    cases h
    rw [hst] at ht
    have hx' : xv = .string b := hx
    subst hx'
    exact ⟨.int .i64 (b.size : Nat), by simp [Builtin.len_, run_underlying ht.1, goInt], rfl⟩
  · rename_i e hst
    cases h
    have hx' : xv = .slice none 0 0 := hx
    subst hx'
    exact ⟨_, hsl e hst _ _ _, rfl⟩
  · rename_i e k xs hst
    cases h
    obtain ⟨⟨p, cap, rfl, _⟩, _⟩ := hx
    exact ⟨_, hsl e hst _ _ _, rfl⟩
  · rename_i e xs hst
    cases h
    obtain ⟨vs, _, ⟨p, cap, rfl, _⟩, _⟩ := hx
    exact ⟨_, hsl e hst _ _ _, rfl⟩
  · rename_i e e' o hst
    cases h
    cases o with
    | none =>
      have hx' : xv = .slice none 0 0 := hx
      subst hx'
      exact ⟨_, hsl e hst _ _ _, rfl⟩
    | some xs =>
      obtain ⟨⟨p, cap, rfl, _⟩, _⟩ := imm_of_rowL hx
      exact ⟨_, hsl e hst _ _ _, rfl⟩
  · rename_i e id n hst
    cases h
    obtain ⟨p, m, cap, vs, h1, rfl, h2⟩ := hx
    exact ⟨_, hsl e hst _ _ _, rfl⟩
  · rename_i e id k l n hst
    cases h
    obtain ⟨p, m, cap, vs, h1, h2, p', cap', rfl, _⟩ := hx
    exact ⟨_, hsl e hst _ _ _, rfl⟩
  · rename_i e id hst
    obtain ⟨vs, hv, h1c⟩ := hx
    split at h
    · rename_i e1 k xs ho
      cases h
      obtain ⟨pv, vs', hp, hat, _⟩ := r.obj id _ ho
      rw [hp] at hv; cases hv
      obtain ⟨p, cap, rfl, _⟩ := owns_len hat.1
      exact ⟨_, hsl e hst _ _ _, rfl⟩
    · rename_i e1 e2 md xs ho
      cases h
      obtain ⟨pv, vs', hp, hat, _⟩ := r.obj id _ ho
      rw [hp] at hv; cases hv
      have hrow : w.ownsRow N0 e1 1 xv xs.length vs := by cases md <;> exact hat.1
      obtain ⟨p, cap, rfl, _⟩ := owns_len hrow
      exact ⟨_, hsl e hst _ _ _, rfl⟩
    · rename_i e1 xs ho
      cases h
      obtain ⟨pv, vs', hp, hat, _⟩ := r.obj id _ ho
      rw [hp] at hv; cases hv
      obtain ⟨p, cap, rfl, _⟩ := owns_len hat.1
      exact ⟨_, hsl e hst _ _ _, rfl⟩
    · rename_i e1 k1 ho
      cases h
      obtain ⟨pv, vs', hp, hat, _⟩ := r.obj id _ ho
      rw [hp] at hv; cases hv
      obtain ⟨p, cap, rfl, _⟩ := owns_len hat.1
      exact ⟨_, hsl e hst _ _ _, rfl⟩
    · cases h
  · cases h

theorem size_k (hT : TOk P T) {e : Nat} (h : (T e).ok = true) (w : World) : (sizeOf e).run P w = .ok (kOf T e) w := by
  have := hT e
  unfold kOf
  cases ht : T e <;> rw [ht] at this h
  all_goals first | (simp [TI.ok] at h; done) | skip
  all_goals first
    | (obtain ⟨_, hi⟩ := this; obtain ⟨i, h1, h2, _⟩ := hi.info; simp [sizeOf, typeInfo, h1, h2])
    | (obtain ⟨_, _, _, _, bytes, _, hi⟩ := this; obtain ⟨i, h1, h2, _⟩ := hi.info; simp [sizeOf, typeInfo, h1, h2])

theorem run_indexAt (hT : TOk P T) {t e : Nat} (ht : T t = .sl e) (hok : (T e).ok = true) {b off : Nat} {len cap : Nat} {n : Int} (h0 : 0 ≤ n) (h1 : n < len) :
    (Instr.indexAt t (.slice (some ⟨b, off, none⟩) len cap) (.int .i64 n)).run P w = .ok (.pointer (some ⟨b, off + n.toNat * kOf T e, none⟩)) w := by
  have hu : P.underlying t = some (.slice e) := by have := hT t; rw [ht] at this; exact this.1
  have hs := size_k hT hok w
  have hadd : (⟨b, off, none⟩ : Addr).add (n.toNat * kOf T e) = ⟨b, off + n.toNat * kOf T e, none⟩ := Addr.add_lit _ _ _
  simp [Instr.indexAt, asIntOf, run_underlying hu, hs, h0, h1, hadd]

theorem rIndexAddr_ok (hT : TOk P T) (r : Rel N0 W0 s β a w) {t : Nat} {x i : AV} {y : AV × List Nat} {xv iv : Value} (h : rIndexAddr T s t x i = some y) (hx : AR N0 β (Free s β w) w x xv) (hi : AR N0 β (Free s β w) w i iv) :
    ∃ u, (Instr.indexAt t xv iv).run P w = .ok u w ∧ AR N0 β (Free s β w) w y.1 u := by
  unfold rIndexAddr at h
  split at h
  · rename_i e n hst
    have hi' : iv = .int .i64 n := hi
    subst hi'
    split at h
    · rename_i hn
      obtain ⟨h0, hok⟩ := hn
      have hown : ∀ (B e' k n' m' cap : Nat) (p : Option Addr) {cs : List Value}, w.ownsRow B e' k (.slice p m' cap) n' cs → 0 < n' → ∃ b, p = some ⟨b, 0, none⟩ := by
        rintro B e' k n' m' cap p cs ⟨_, hh⟩ hpos
        rcases hh with ⟨_, h0'⟩ | ⟨g, cap', cur, hv, _⟩
        · omega
        · cases hv; exact ⟨g, rfl⟩
      -- immutable slices
      have himm : ∀ k xs el, Imm (Free s β w) w k xv xs → kOf T e = k → xs[n.toNat]? = some el → ∃ u, (Instr.indexAt t xv (.int .i64 n)).run P w = .ok u w ∧ AR N0 β (Free s β w) w (.one (.iptr el)) u := by
        rintro k xs el ⟨⟨p, cap, rfl, hc, hcells⟩, hf⟩ rfl hel
        have hlt := (List.getElem?_eq_some_iff.1 hel).1
        rcases hcells with h0' | ⟨b, off, rfl, hF, hr⟩
        · omega
        · refine ⟨_, run_indexAt hT hst hok h0 (by omega), b, off + n.toNat * kOf T e, rfl, hF, fun j sc hj => ?_⟩
          have hjl : j < kOf T e := by rw [← hf el (List.mem_of_getElem? hel)]; exact (List.getElem?_eq_some_iff.1 hj).1
          have := hr (n.toNat * kOf T e + j) sc.val (by rw [cellsOf_get _ _ hf hjl, hel]; simp [hj])
          rwa [← Nat.add_assoc] at this
      split at h
      · rename_i k xs
        split at h
        · rename_i hk
          simp only [Option.map_eq_some_iff] at h
          obtain ⟨el, hel, rfl⟩ := h
          exact himm k xs el hx hk hel
        · cases h
      · rename_i xss
        split at h
        · rename_i hk
          simp only [Option.map_eq_some_iff] at h
          obtain ⟨xs, hxs, rfl⟩ := h
          obtain ⟨vs, hl, ⟨p, cap, rfl, hc, hcells⟩, hrows⟩ := hx
          have hlt := (List.getElem?_eq_some_iff.1 hxs).1
          rcases hcells with h0' | ⟨b, off, rfl, hF, hr⟩
          · omega
          · have hv : vs[n.toNat]? = some vs[n.toNat] := List.getElem?_eq_getElem (by omega)
            refine ⟨_, run_indexAt hT hst hok h0 (by omega), b, off + n.toNat * kOf T e, _, rfl, hF, ?_, hrows _ _ _ hv hxs⟩
            rw [hk, Nat.mul_one]
            exact hr _ _ hv
        · cases h
      · rename_i e' o
        split at h
        · rename_i hk
          simp only [Option.map_eq_some_iff] at h
          obtain ⟨el, hel, rfl⟩ := h
          cases o with
          | none => simp at hel
          | some xs => exact himm 1 xs el (imm_of_rowL hx) hk hel
        · cases h
      · rename_i id m
        split at h
        · rename_i e' k xs ho
          split at h
          · rename_i hm
            cases h
            obtain ⟨p, m', cap, vs, h1, rfl, h2⟩ := hx
            obtain ⟨pv, vs', hp, hat, _⟩ := r.obj id _ ho
            rw [h1] at hp; cases hp
            obtain ⟨p0, cap0, he0, _⟩ := owns_len hat.1
            cases he0
            obtain ⟨b, rfl⟩ := hown _ _ _ _ _ _ _ hat.1 (by omega)
            refine ⟨_, run_indexAt hT hst hok h0 hm.1, _, vs, b, h1, .inl ⟨_, _, rfl⟩, ?_⟩
            rw [hm.2]; simp
          · cases h
        · cases h
      · rename_i id k l m
        split at h
        · rename_i hm
          cases h
          obtain ⟨p, m', cap, vs, h1, h2, p', cap', rfl, h3, h4⟩ := hx
          rcases h4 with h4 | ⟨b, rfl, rfl⟩
          · omega
          · refine ⟨_, run_indexAt hT hst hok h0 hm.1, _, vs, b, h1, .inl ⟨_, _, rfl⟩, ?_⟩
            rw [hm.2, Nat.add_mul]; simp
        · cases h
      · rename_i id
        obtain ⟨vs, hv, h1c⟩ := hx
        have fin : ∀ k' m' cap' b, xv = .slice (some ⟨b, 0, none⟩) m' cap' → n < (m' : Nat) → kOf T e = k' → ∃ u, (Instr.indexAt t xv (.int .i64 n)).run P w = .ok u w ∧ AR N0 β (Free s β w) w (.one (.ptr id k' n.toNat 0)) u := by
          rintro k' m' cap' b rfl hlt rfl
          exact ⟨_, run_indexAt hT hst hok h0 hlt, _, vs, b, hv, .inl ⟨_, _, rfl⟩, by simp⟩
        split at h
        · rename_i e1 k xs ho
          split at h
          · rename_i hm
            cases h
            obtain ⟨pv, vs', hp, hat, _⟩ := r.obj id _ ho
            rw [hp] at hv; cases hv
            obtain ⟨p, cap, rfl, _⟩ := owns_len hat.1
            obtain ⟨b, rfl⟩ := hown _ _ _ _ _ _ _ hat.1 (by omega)
            exact fin k _ _ b rfl hm.1 hm.2
          · cases h
        · rename_i e1 e2 md xs ho
          split at h
          · rename_i hm
            cases h
            obtain ⟨pv, vs', hp, hat, _⟩ := r.obj id _ ho
            rw [hp] at hv; cases hv
            have hrow : w.ownsRow N0 e1 1 xv xs.length vs := by cases md <;> exact hat.1
            obtain ⟨p, cap, rfl, _⟩ := owns_len hrow
            obtain ⟨b, rfl⟩ := hown _ _ _ _ _ _ _ hrow (by omega)
            exact fin 1 _ _ b rfl hm.1 hm.2
          · cases h
        · rename_i e1 xs ho
          split at h
          · rename_i hm
            cases h
            obtain ⟨pv, vs', hp, hat, _⟩ := r.obj id _ ho
            rw [hp] at hv; cases hv
            obtain ⟨p, cap, rfl, _⟩ := owns_len hat.1
            obtain ⟨b, rfl⟩ := hown _ _ _ _ _ _ _ hat.1 (by omega)
            exact fin 1 _ _ b rfl hm.1 hm.2
          · cases h
        · cases h
      · cases h
    · cases h
  · cases h

theorem run_fieldAt (hT : TOk P T) {t f : Nat} {fs : List Nat} (ht : T t = .st fs) (hf : f < fs.length) {b off : Nat} : (Instr.fieldAt t (.pointer (some ⟨b, off, none⟩)) f).run P w = .ok (.pointer (some ⟨b, off + f, none⟩)) w := by
  have := hT t
  rw [ht] at this
  obtain ⟨_, ⟨arr, hu, hsz, hfl⟩, _⟩ := this
  obtain ⟨fd, h1, h2, h3, _, h5⟩ := hfl f fs[f] (List.getElem?_eq_getElem hf)
  obtain ⟨i, hi, hi1⟩ := hT.size_one h5 w
  have hs : (sizeOf fd.type).run P w = .ok 1 w := by rw [h2]; simp [sizeOf, typeInfo, hi, hi1]
  have hadd : (⟨b, off, none⟩ : Addr).add f = ⟨b, off + f, none⟩ := Addr.add_lit _ _ _
  simp [Instr.fieldAt, Instr.sureAddr, run_underlying hu, h1, fieldPlace, hs, h3, hadd]

theorem rFieldAddr_ok (hT : TOk P T) {t f : Nat} {x y : AV} {xv : Value} {B : Nat} {F : Nat → Prop} (h : rFieldAddr T t x f = some y) (hx : AR B β F w x xv) : ∃ u, (Instr.fieldAt t xv f).run P w = .ok u w ∧ AR B β F w y u := by
  unfold rFieldAddr at h
  split at h
  · rename_i fs id k i j hst
    split at h
    · rename_i hf
      cases h
      obtain ⟨pv, vs, b, h1, h2, rfl⟩ := hx
      exact ⟨_, run_fieldAt hT hst hf, pv, vs, b, h1, h2, by rw [Nat.add_assoc]⟩
    · cases h
  · rename_i fs cs hst
    split at h
    · rename_i hf
      cases h
      obtain ⟨b, o, rfl, hF, hc⟩ := hx
      refine ⟨_, run_fieldAt hT hst hf, b, o + f, rfl, hF, fun j s hj => ?_⟩
      rw [List.getElem?_drop] at hj
      have := hc (f + j) s hj
      rwa [← Nat.add_assoc] at this
    · cases h
  · cases h

theorem rField_ok (hT : TOk P T) {t f : Nat} {x y : AV} {xv : Value} {B : Nat} {F : Nat → Prop} (h : rField T t x f = some y) (hx : AR B β F w x xv) : ∃ u, (Instr.field t xv f).run P w = .ok u w ∧ AR B β F w y u := by
  unfold rField at h
  split at h
  · rename_i fs cs hst
    split at h
    · rename_i hf
      simp only [Option.map_eq_some_iff] at h
      obtain ⟨c, hc, rfl⟩ := h
      obtain ⟨vs, rfl, hall⟩ := hx
      obtain ⟨u, hu, hr⟩ := All2.get f hall hc
      have := hT t
      rw [hst] at this
      obtain ⟨_, ⟨arr, hun, hsz, hfl⟩, _⟩ := this
      obtain ⟨fd, h1, h2, h3, _, h5⟩ := hfl f fs[f] (List.getElem?_eq_getElem hf)
      have ha := hT.agg_one h5 w
      refine ⟨u, ?_, hr⟩
      simp [Instr.field, run_underlying hun, h1, part, h2, ha, h3, hu, asAgg]
    · cases h
  · cases h

theorem rMin_ok {m : Bool} {x y v : AV} {xv yv : Value} {B : Nat} {F : Nat → Prop} {ts : Array Nat} {ty : Nat} (h : rMin m x y = some v) (hx : AR B β F w x xv) (hy : AR B β F w y yv) :
    ∃ u, ((if m then Builtin.max_ else Builtin.min_) ts ty #[xv, yv]).run P w = .ok u w ∧ AR B β F w v u := by
  unfold rMin at h
  split at h
  · rename_i p q
    cases h
    have hx' : xv = .int .i64 p := hx
    have hy' : yv = .int .i64 q := hy
    subst hx'; subst hy'
    cases m
    · exact ⟨_, rfl, rfl⟩
    · exact ⟨_, rfl, rfl⟩
  · cases h

theorem rExtract_ok {x v : AV} {i : Nat} {xv : Value} {B : Nat} {F : Nat → Prop} (h : rExtract x i = some v) (hx : AR B β F w x xv) : ∃ u, (Instr.extract xv i).run P w = .ok u w ∧ AR B β F w v u := by
  unfold rExtract at h
  split at h
  · rename_i vs
    obtain ⟨us, rfl, hall⟩ := hx
    obtain ⟨u, hu, hr⟩ := All2.get i hall h
    refine ⟨u, by simp [Instr.extract, hu], ?_⟩
    cases v with
    | one c => exact hr
    | agg cs => exact hr
    | tup _ => exact hr.elim
    | dead => trivial
  · cases h

end
end Go.Eng
