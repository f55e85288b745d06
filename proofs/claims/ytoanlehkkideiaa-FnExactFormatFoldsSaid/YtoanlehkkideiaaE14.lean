/- The engine, part 14: what an operation makes anew: variables, rows. -/
import Derived.Test.YtoanlehkkideiaaE13
set_option linter.unusedVariables false
namespace Go.Eng
open Go Go.RowKit

section
variable {N0 : Nat} {W0 : World} {s s' : AS} {β β' : Plc} {a : Act} {w w' : World} {P : Program} {T : Tys}

/-! ### fill -/

theorem foldl_set : ∀ (vs : List Value) (off k : Nat) (arr : Array Value), off + k + vs.length ≤ arr.size →
    ((vs.zipIdx k).foldl (fun cs (p : Value × Nat) => cs.setIfInBounds (off + p.2) p.1) arr).toList = arr.toList.take (off + k) ++ vs ++ arr.toList.drop (off + k + vs.length)
  | [], off, k, arr, h => by simp
  | v :: vs, off, k, arr, h => by
    simp only [List.zipIdx_cons, List.foldl_cons]
    simp only [List.length_cons] at h
    have ih := foldl_set vs off (k + 1) (arr.setIfInBounds (off + k) v) (by simp; omega)
    rw [ih]
    have hs : (arr.setIfInBounds (off + k) v).toList = arr.toList.set (off + k) v := by simp
    rw [hs]
    have hl : off + k < arr.toList.length := by simp; omega
    have e1 : off + (k + 1) = off + k + 1 := by omega
    rw [e1, List.take_set, List.drop_set_of_lt (by omega)]
    rw [List.take_succ_eq_append_getElem hl, List.set_append_right _ _ (by simp; omega)]
    have e2 : off + k - (arr.toList.take (off + k)).length = 0 := by simp; omega
    rw [e2]
    simp only [List.set_cons_zero, List.length_cons, List.append_assoc, List.cons_append, List.nil_append]
    congr 2
    congr 1
    congr 1
    omega

theorem foldl_set0 (vs : List Value) (off : Nat) (arr : Array Value) (h : off + vs.length ≤ arr.size) :
    (vs.toArray.zipIdx.foldl (fun cs (p : Value × Nat) => cs.setIfInBounds (off + p.2) p.1) arr).toList = arr.toList.take off ++ vs ++ arr.toList.drop (off + vs.length) := by
  have := foldl_set vs off 0 arr (by omega)
  simp only [Nat.add_zero] at this
  rw [← this]
  rw [← Array.foldl_toList]
  simp

def numberFrom {α : Type} : Nat → List α → List (Nat × α)
  | _, [] => []
  | k, x :: r => (k, x) :: numberFrom (k + 1) r

theorem fill_ok {k : Nat} : ∀ (vs : List Value) (i : Nat) (arr : Array Value), (∀ v ∈ vs, v.cells.size = k) → arr.size = (i + vs.length) * k →
    ∃ out, Instr.fill (fun i => some (i * k, k)) arr (numberFrom i vs) = some out ∧ out.toList = arr.toList.take (i * k) ++ (vs.map fun v => v.cells.toList).flatten
  | [], i, arr, _, h => ⟨arr, rfl, by simp at h; rw [List.take_of_length_le (by simp; omega)]; simp⟩
  | v :: vs, i, arr, hk, h => by
    have hv := hk v (by simp)
    simp only [List.length_cons] at h
    have hle : i * k + v.cells.size ≤ arr.size := by
      rw [h, hv]
      have : (i + (vs.length + 1)) * k = i * k + k + vs.length * k := by rw [Nat.add_mul, Nat.add_mul]; omega
      omega
    have hset := foldl_set0 v.cells.toList (i * k) arr (by simpa using hle)
    simp only [Array.length_toList] at hset
    have hcells : v.cells.toList.toArray = v.cells := by simp
    rw [hcells] at hset
    obtain ⟨out, h1, h2⟩ := fill_ok vs (i + 1) (v.cells.zipIdx.foldl (fun cs (p : Value × Nat) => cs.setIfInBounds (i * k + p.2) p.1) arr) (fun u hu => hk u (by simp [hu])) (by
      have : (v.cells.zipIdx.foldl (fun cs (p : Value × Nat) => cs.setIfInBounds (i * k + p.2) p.1) arr).toList.length = arr.size := by
        rw [hset]; simp; omega
      rw [Array.length_toList] at this
      rw [this, h]
      congr 1
      omega)
    refine ⟨out, ?_, ?_⟩
    · simp only [numberFrom, Instr.fill]
      rw [if_neg (by simp [hv]; omega)]
      exact h1
    · rw [h2, hset]
      have e1 : (i + 1) * k = i * k + k := by rw [Nat.add_mul]; omega
      have hl2 : (arr.toList.take (i * k) ++ v.cells.toList).length = i * k + k := by
        rw [List.length_append, List.length_take, Array.length_toList, Array.length_toList, hv, Nat.min_eq_left (by omega)]
      rw [e1, List.take_left' hl2]
      simp

/-! ### One cell -/

theorem Sc.val_one (x : Sc) : x.val.oneCell' = true := by cases x <;> rfl

theorem cr_one {B : Nat} {F : Nat → Prop} {c : CV} {v : Value} (h : CR B β F w c v) : v.oneCell' = true := by
  cases c with
  | sc x => rw [show v = x.val from h]; exact x.val_one
  | nil => rw [show v = _ from h]; rfl
  | imm k xs => obtain ⟨⟨p, cap, rfl, _⟩, _⟩ := h; rfl
  | imm2 xss => obtain ⟨vs, _, ⟨p, cap, rfl, _⟩, _⟩ := h; rfl
  | row e o =>
    cases o with
    | none => rw [show v = _ from h]; rfl
    | some xs => obtain ⟨_, _, b, n, c, rfl, _⟩ := h; rfl
  | ref id => obtain ⟨vs, _, h⟩ := h; exact h
  | pre id n => obtain ⟨p, m, cap, vs, _, rfl, _⟩ := h; rfl
  | win id k l n => obtain ⟨p, m, cap, vs, _, _, p', cap', rfl, _⟩ := h; rfl
  | ptr id k i j => obtain ⟨pv, vs, b, _, _, rfl⟩ := h; rfl
  | iptr cs => obtain ⟨b, o, rfl, _⟩ := h; rfl
  | iprow xs => obtain ⟨b, o, u, rfl, _⟩ := h; rfl
  | fn f => rw [show v = _ from h]; rfl

theorem cells_one {v : Value} (h : v.oneCell' = true) : v.cells = #[v] := by cases v <;> simp [Value.oneCell'] at h <;> rfl

/-! ### A new object -/

def newE (id : Nat) (v : AV) (o : Obj) : Eff := { val := v, sets := [(id, some o)], fresh := [id] }

theorem below_alloc (w : World) (o : Go.Obj) : Below w.heap.size w (w.alloc o) := (Below.refl _ _).alloc (Nat.le_refl _) o

theorem EffU_new {o : Oper} {id : Nat} {ob : Obj} {av : AV} (hd : Oper.dstOk o s.n = true)
    (h : ∀ s' : AS, (∀ t ∈ slots o, s'.get t = s.get t) → ∀ N0 W0 β a w, Rel N0 W0 s' β a w → ∃ v arr e pv vs,
      (execOp a.eval o).run P w = .ok (.value v) (w.alloc (.cells arr e)) ∧
      (∀ F β', (∀ b, Free s' β w b → F b) → (∀ i x, β i = some x → β' i = some x) → ObjAt N0 β' F (w.alloc (.cells arr e)) pv vs ob) ∧
      (∀ b, blks ob.own pv vs b → b = w.heap.size) ∧
      (∀ F β', β' id = some (pv, vs) → AR N0 β' F (w.alloc (.cells arr e)) av v)) :
    EffU P o s (newE id av ob) := by
  intro s2 h1 h2 h3 h4 N0 W0 β a w r K Q hK
  obtain ⟨v, arr, e, pv, vs, hrun, hat, hbl, hav⟩ := h s2 h2 N0 W0 β a w r
  have hfr : id ∉ s2.used := h4 id (by simp [newE])
  have hfr' : s2.used.contains id = false := by simpa using hfr
  have r' := r.alloc (below_alloc w (.cells arr e)) hfr' (o := ob) (pv := pv) (vs := vs) (fun F β' hF hβ => hat F β' hF hβ) (fun b hb => by
    rw [hbl b hb]
    simp)
  have hid : (β.set id (pv, vs)) id = some (pv, vs) := by simp [Plc.set]
  unfold Oper.wp
  rw [hrun, Oper.upon_value]
  cases hdst : o.dst with
  | none => exact hK (β.set id (pv, vs)) a _ (by rw [hdst]; exact r')
  | some d =>
    refine hK (β.set id (pv, vs)) _ _ ?_
    rw [hdst]
    exact r'.put (d := d) (show d < s2.n by rw [h1]; exact Oper.dstOk_spec hd d hdst) (hav _ _ hid)

theorem heap_new (w : World) (o : Go.Obj) : (w.alloc o).heap[w.heap.size]? = some o := by
  show (w.heap.push o)[w.heap.size]? = some o
  simp

/-- A new variable of these cells. -/
theorem box_new {cs : List CV} {us : List Value} {e : Nat} (h : All2 (CR N0 β (Free s β w) w) cs us) (hN : N0 ≤ w.heap.size) {arr : Array Value} (harr : arr.toList = us) (F : Nat → Prop) (β' : Plc) (hF : ∀ b, Free s β w b → F b) (hβ : ∀ i x, β i = some x → β' i = some x) :
    ObjAt N0 β' F (w.alloc (.cells arr e)) (.pointer (some ⟨w.heap.size, 0, none⟩)) [] (.box e cs) := by
  refine ⟨w.heap.size, arr, rfl, hN, heap_new w _, ?_⟩
  rw [harr]
  exact h.mono fun c v _ _ hr => CR.keep (fun i pv vs hx => ⟨vs, hβ _ _ hx⟩) (fun b hb => ⟨hF b hb, (below_alloc w _).block b hb.1⟩) hr

theorem box_blk {b : Nat} {e : Nat} {cs : List CV} {k : Nat} (h : blks (Obj.box e cs).own (.pointer (some ⟨k, 0, none⟩)) [] b) : b = k := by
  rcases h with h | ⟨h, _⟩
  · cases h; rfl
  · cases h

def rBox (T : Tys) (t : Nat) (x : AV) : Option (List CV) :=
  match x with
  | .one c => if (T t).one then some [c] else none
  | .agg cs => match T t with
    | .st fs => if fs.length = cs.length then some cs else none
    | _ => none
  | _ => none

theorem rBox_ok {t : Nat} {x : AV} {cs : List CV} {xv : Value} {B : Nat} {F : Nat → Prop} (h : rBox T t x = some cs) (hx : AR B β F w x xv) : ∃ us, xv.cells.toList = us ∧ All2 (CR B β F w) cs us := by
  unfold rBox at h
  split at h
  · split at h
    · cases h
      exact ⟨[xv], by rw [cells_one (cr_one hx)], hx, trivial⟩
    · cases h
  · split at h
    · split at h
      · cases h
        obtain ⟨us, rfl, hall⟩ := hx
        exact ⟨us, by simp [Value.cells], hall⟩
      · cases h
    · cases h
  · cases h

theorem run_box (t : Nat) (v : Value) : (Instr.box t v).run P w = .ok (.pointer (some ⟨w.heap.size, 0, none⟩)) (w.alloc (.cells v.cells t)) := rfl

theorem EffU_box {o : Oper} {t : Nat} {x : Operand} {cs : List CV} {id : Nat} (ho : o.op = .box t x) (hd : Oper.dstOk o s.n = true) (h : rBox T t (s.ev x) = some cs) :
    EffU P o s (newE id (.one (.ptr id 1 0 0)) (.box t cs)) := by
  refine EffU_new hd fun s2 h2 N0 W0 β a w r => ?_
  have hev : s2.ev x = s.ev x := slots_ev h2 (by rw [ho]; simp [Op.operands])
  obtain ⟨us, hus, hall⟩ := rBox_ok (by rw [hev]; exact h) (r.ev x)
  refine ⟨_, (a.eval x).cells, t, .pointer (some ⟨w.heap.size, 0, none⟩), [], ?_, fun F β' hF hβ => box_new hall r.size0 hus F β' hF hβ, fun b hb => box_blk hb, fun F β' hid => ⟨_, _, w.heap.size, hid, .inr rfl, rfl⟩⟩
  unfold execOp
  rw [ho]
  simp only [Sem.run_bind, run_box, Result.andThen_ok, Sem.run_pure]

def zeroA (T : Tys) (t : Nat) : Option AV :=
  match T t with
  | .st fs => some (.agg (fs.map (zeroC T)))
  | .oth => none
  | _ => some (.one (zeroC T t))

theorem zeroC_ok {B : Nat} {F : Nat → Prop} (t : Nat) : CR B β F w (zeroC T t) (zeroV (zeroC T t)) := by
  unfold zeroC
  cases T t <;> rfl

theorem zeros_ok {B : Nat} {F : Nat → Prop} : ∀ fs : List Nat, All2 (CR B β F w) (fs.map (zeroC T)) (fs.map fun f => zeroV (zeroC T f))
  | [] => trivial
  | f :: fs => ⟨zeroC_ok f, zeros_ok fs⟩

theorem run_zero {t : Nat} {i : TypeInfo} {z : Value} (h : P.info? t = some i) (hz : i.zero = some z) : (zeroValue t).run P w = .ok z w := by simp [zeroValue, typeInfo, h, hz]

theorem zero_run (hT : TOk P T) {t : Nat} {z : AV} (h : zeroA T t = some z) : ∃ zv, (zeroValue t).run P w = .ok zv w ∧ ∀ B β F w', AR B β F w' z zv := by
  have ht := hT t
  unfold zeroA at h
  split at h
  · rename_i fs hst
    rw [hst] at ht
    cases h
    obtain ⟨_, _, _, _, bytes, _, hi⟩ := ht
    obtain ⟨i, h1, h2, h3, h4⟩ := hi.info
    refine ⟨_, run_zero h1 h4, fun B β F w' => ⟨_, rfl, ?_⟩⟩
    exact zeros_ok fs
  · cases h
  · rename_i h1 h2
    cases h
    cases hst : T t <;> rw [hst] at ht
    all_goals first
      | exact (h1 _ hst).elim
      | exact (h2 hst).elim
      | skip
    all_goals
      obtain ⟨_, hi⟩ := ht
      obtain ⟨i, g1, g2, g3, g4⟩ := hi.info
      refine ⟨_, run_zero g1 g4, fun B β F w' => ?_⟩
      show CR B β F w' (zeroC T t) _
      unfold zeroC
      rw [hst]
      rfl

theorem zeroA_box {t : Nat} {z : AV} (h : zeroA T t = some z) : ∃ cs, rBox T t z = some cs := by
  unfold zeroA at h
  split at h
  · rename_i fs hst
    cases h
    exact ⟨fs.map (zeroC T), by simp [rBox, hst]⟩
  · cases h
  · rename_i h1 h2
    cases h
    exact ⟨[zeroC T t], by simp [rBox, one_of h1 h2]⟩

theorem run_alloc {t : Nat} {zv : Value} (hz : (zeroValue t).run P w = .ok zv w) : (Instr.alloc t true (.tuple #[])).run P w = .ok (.pointer (some ⟨w.heap.size, 0, none⟩)) (w.alloc (.cells zv.cells t)) := by
  simp [Instr.alloc, hz, newVar, newRow]

theorem EffU_alloc (hT : TOk P T) {o : Oper} {t : Nat} {z : AV} {cs : List CV} {id : Nat} (ho : o.op = .alloc t) (hd : Oper.dstOk o s.n = true) (hz : zeroA T t = some z) (h : rBox T t z = some cs) :
    EffU P o s (newE id (.one (.ptr id 1 0 0)) (.box t cs)) := by
  refine EffU_new hd fun s2 h2 N0 W0 β a w r => ?_
  obtain ⟨zv, hzr, hza⟩ := zero_run (w := w) hT hz
  obtain ⟨us, hus, hall⟩ := rBox_ok h (hza N0 β (Free s2 β w) w)
  refine ⟨_, zv.cells, t, .pointer (some ⟨w.heap.size, 0, none⟩), [], ?_, fun F β' hF hβ => box_new hall r.size0 hus F β' hF hβ, fun b hb => box_blk hb, fun F β' hid => ⟨_, _, w.heap.size, hid, .inr rfl, rfl⟩⟩
  unfold execOp
  rw [ho]
  simp only [Sem.run_bind, run_alloc hzr, Result.andThen_ok, Sem.run_pure]

/-! ### Rows -/

def elOf : AV → Option El
  | .one (.sc x) => some [x]
  | .agg cs => scsOf cs
  | _ => none

def elsOf : List AV → Option (List El)
  | [] => some []
  | v :: r => (elOf v).bind fun e => (elsOf r).map (e :: ·)

def onesOf : List AV → Option (List CV)
  | [] => some []
  | .one c :: r => (onesOf r).map (c :: ·)
  | _ => none

theorem scsOf_ok {B : Nat} {F : Nat → Prop} : ∀ {cs : List CV} {xs : List Sc} {us : List Value}, scsOf cs = some xs → All2 (CR B β F w) cs us → us = xs.map Sc.val
  | [], xs, [], h, _ => by cases h; rfl
  | .sc x :: cs, xs, u :: us, h, ⟨h1, h2⟩ => by
    simp only [scsOf, Option.map_eq_some_iff] at h
    obtain ⟨ys, hy, rfl⟩ := h
    rw [scsOf_ok hy h2, List.map_cons, show u = x.val from h1]
  | [], _, _ :: _, _, h => h.elim
  | _ :: _, _, [], _, h => h.elim

theorem elOf_ok {B : Nat} {F : Nat → Prop} {x : AV} {e : El} {v : Value} (h : elOf x = some e) (hx : AR B β F w x v) : v.cells.toList = e.map Sc.val := by
  unfold elOf at h
  split at h
  · rename_i s1
    cases h
    rw [show v = s1.val from hx, cells_one s1.val_one]
    rfl
  · obtain ⟨us, rfl, hall⟩ := hx
    simp only [Value.cells]
    exact scsOf_ok h hall
  · cases h

theorem elsOf_ok {B : Nat} {F : Nat → Prop} : ∀ {xs : List AV} {es : List El} {vs : List Value}, elsOf xs = some es → All2 (AR B β F w) xs vs → (vs.map fun v => v.cells.toList).flatten = cellsOf es ∧ es.length = vs.length ∧ ∀ (i : Nat) (e : El) (v : Value), es[i]? = some e → vs[i]? = some v → v.cells.size = e.length
  | [], es, [], h, _ => by cases h; exact ⟨rfl, rfl, fun i e v h => by simp at h⟩
  | x :: xs, es, v :: vs, h, ⟨h1, h2⟩ => by
    simp only [elsOf, Option.bind_eq_some_iff, Option.map_eq_some_iff] at h
    obtain ⟨e, he, es', hes, rfl⟩ := h
    obtain ⟨i1, i2, i3⟩ := elsOf_ok hes h2
    have hv := elOf_ok he h1
    refine ⟨?_, by simp [i2], ?_⟩
    · simp only [List.map_cons, List.flatten_cons, i1, hv, cellsOf, List.map_append]
    · intro i e' v' h3 h4
      cases i with
      | zero =>
        simp at h3 h4
        subst h3; subst h4
        have := congrArg List.length hv
        simpa using this
      | succ i => exact i3 i e' v' (by simpa using h3) (by simpa using h4)
  | [], _, _ :: _, _, h => h.elim
  | _ :: _, _, [], _, h => h.elim

theorem onesOf_ok {B : Nat} {F : Nat → Prop} : ∀ {xs : List AV} {cs : List CV} {vs : List Value}, onesOf xs = some cs → All2 (AR B β F w) xs vs → (vs.map fun v => v.cells.toList).flatten = vs ∧ All2 (CR B β F w) cs vs ∧ ∀ v ∈ vs, v.cells.size = 1
  | [], cs, [], h, _ => by cases h; exact ⟨rfl, trivial, fun v h => by cases h⟩
  | .one c :: xs, cs, v :: vs, h, ⟨h1, h2⟩ => by
    simp only [onesOf, Option.map_eq_some_iff] at h
    obtain ⟨cs', hcs, rfl⟩ := h
    obtain ⟨i1, i2, i3⟩ := onesOf_ok hcs h2
    have hv := cells_one (cr_one h1)
    refine ⟨?_, ⟨h1, i2⟩, ?_⟩
    · simp only [List.map_cons, List.flatten_cons, i1, hv]; rfl
    · intro u hu
      rcases List.mem_cons.1 hu with rfl | hu
      · rw [hv]; rfl
      · exact i3 u hu
  | [], _, _ :: _, _, h => h.elim
  | _ :: _, _, [], _, h => h.elim
  | .agg _ :: _, _, _ :: _, h, _ => by cases h
  | .tup _ :: _, _, _ :: _, h, _ => by cases h
  | .dead :: _, _, _ :: _, h, _ => by cases h

def allLen (k : Nat) (xs : List El) : Bool := xs.all fun e => e.length == k

theorem allLen_ok {k : Nat} {xs : List El} (h : allLen k xs = true) : Flat k xs := fun e he => by simpa using List.all_eq_true.1 h e he

/-- The new object of a composite literal. -/
def rBuild (T : Tys) (t : Nat) (len : Nat) (xs : List AV) : Option Obj :=
  match T t with
  | .sl e =>
    match T e with
    | .oth => none
    | .sl e' => if xs.length = len ∧ len ≤ 1000000 then (if len = 0 then some (.rows e e' .own []) else (onesOf xs).map (.cvs e)) else none
    | _ => if len = 0 ∧ xs.length = 0 then some (.zrow e (kOf T e)) else if xs.length = len ∧ len ≤ 100000 then (elsOf xs).bind fun es => if allLen (kOf T e) es = true ∧ kOf T e ≤ 64 then some (.flat e (kOf T e) es) else none else none
  | _ => none

theorem zero_of (hT : TOk P T) {e : Nat} (h : (T e).ok = true) (w : World) : ∃ z, (zeroValue e).run P w = .ok z w := by
  have : ∃ z, zeroA T e = some z := by
    unfold zeroA
    cases ht : T e <;> rw [ht] at h <;> first | (simp [TI.ok] at h; done) | exact ⟨_, rfl⟩
  obtain ⟨z, hz⟩ := this
  obtain ⟨zv, h1, _⟩ := zero_run (w := w) hT hz
  exact ⟨zv, h1⟩

theorem run_buildSlice (hT : TOk P T) {t e : Nat} (ht : T t = .sl e) (hok : (T e).ok = true) {vs : List Value} (hv : ∀ v ∈ vs, v.cells.size = kOf T e) (hle : vs.length * kOf T e ≤ 2 ^ 24) :
    ∃ out : Array Value, (Instr.buildSlice t vs.length (numberFrom 0 vs).toArray).run P w = .ok (.slice (some ⟨w.heap.size, 0, none⟩) vs.length vs.length) (w.alloc (.cells out e)) ∧ out.toList = (vs.map fun v => v.cells.toList).flatten := by
  have hu : P.underlying t = some (.slice e) := by have := hT t; rw [ht] at this; exact this.1
  have hs := size_k hT hok w
  obtain ⟨z, hz⟩ := zero_of hT hok w
  have key : ∀ zero : Array Value, ∃ out : Array Value, Instr.fill (fun i => some (i * kOf T e, kOf T e)) ((Array.range (vs.length * kOf T e)).map (zero[· % zero.size]!)) (numberFrom 0 vs) = some out ∧ out.toList = (vs.map fun v => v.cells.toList).flatten := by
    intro zero
    obtain ⟨out, h1, h2⟩ := fill_ok (k := kOf T e) vs 0 ((Array.range (vs.length * kOf T e)).map (zero[· % zero.size]!)) hv (by simp)
    exact ⟨out, h1, by simpa using h2⟩
  have hn : ¬ (vs.length * kOf T e > 2 ^ 24) := by omega
  unfold Instr.buildSlice
  by_cases h0 : vs.length * kOf T e = 0
  · obtain ⟨out, h1, h2⟩ := key #[]
    refine ⟨out, ?_, h2⟩
    simp only [Sem.run_bind, run_underlying hu, Result.andThen_ok, hs]
    rw [if_neg hn, if_pos h0]
    simp only [Sem.run_bind, Sem.run_pure, Result.andThen_ok, List.toList_toArray, h1, newRow, run_newObj]
    rfl
  · obtain ⟨out, h1, h2⟩ := key z.cells
    refine ⟨out, ?_, h2⟩
    simp only [Sem.run_bind, run_underlying hu, Result.andThen_ok, hs]
    rw [if_neg hn, if_neg h0]
    simp only [Sem.run_bind, Sem.run_pure, Result.andThen_ok, hz, List.toList_toArray, h1, newRow, run_newObj]
    rfl

theorem owns_new {e k n : Nat} {out : Array Value} {cs : List Value} (hN : N0 ≤ w.heap.size) (hl : out.toList = cs) (hc : cs.length = n * k) (hm : n ≤ maxLen) :
    (w.alloc (.cells out e)).ownsRow N0 e k (.slice (some ⟨w.heap.size, 0, none⟩) n n) n cs := by
  refine ⟨hc, .inr ⟨w.heap.size, n, out, rfl, hN, heap_new w _, Nat.le_refl _, hm, ?_, ?_⟩⟩
  · rw [← Array.length_toList, hl, hc]
  · rw [hl, List.take_of_length_le (by omega)]

theorem flat_len {k : Nat} : ∀ {xs : List El}, Flat k xs → (cellsOf xs).length = xs.length * k
  | [], _ => by simp [cellsOf]
  | x :: xs, h => by
    have hx : x.length = k := h x (by simp)
    have ih := flat_len (xs := xs) (fun e he => h e (by simp [he]))
    simp only [cellsOf, List.flatten_cons, List.map_append, List.length_append, List.length_map, List.length_cons] at ih ⊢
    rw [ih, hx, Nat.add_mul]; omega

theorem slice_blk {b k n c : Nat} {vs : List Value} {o : Obj} (ho : o.own = true → vs = []) (h : blks o.own (.slice (some ⟨k, 0, none⟩) n c) vs b) : b = k := by
  rcases h with h | ⟨h, v, hv, _⟩
  · cases h; rfl
  · rw [ho h] at hv; cases hv

theorem EffU_build (hT : TOk P T) {o : Oper} {t len : Nat} {xs : List Operand} {ob : Obj} {id : Nat} (ho : o.op = .buildSlice t len (numberFrom 0 xs).toArray) (hd : Oper.dstOk o s.n = true) (h : rBuild T t len (xs.map s.ev) = some ob) :
    EffU P o s (newE id (.one (.ref id)) ob) := by
  refine EffU_new hd fun s2 h2 N0 W0 β a w r => ?_
  have hnum : ∀ (k : Nat) (l : List Operand), ((numberFrom k l).toArray.toList.map (·.2)) = l := by
    intro k l
    induction l generalizing k with
    | nil => rfl
    | cons x l ih => have := ih (k + 1); simp only [numberFrom, List.map_cons] at this ⊢; rw [this]
  have hev : xs.map s2.ev = xs.map s.ev := list_evs h2 (fun x hx => by
    rw [ho]
    simp only [Op.operands, hnum]
    simpa using hx)
  have hall := all2_ev r xs
  rw [hev] at hall
  have hparts : ∀ (k : Nat) (l : List Operand), (numberFrom k l).toArray.map (fun (i, x) => (i, a.eval x)) = (numberFrom k (l.map a.eval)).toArray := by
    intro k l
    simp only [List.map_toArray]
    congr 1
    induction l generalizing k with
    | nil => rfl
    | cons x l ih => simp only [numberFrom, List.map_cons, ih]
  have hlen : (xs.map s.ev).length = (xs.map a.eval).length := by simp
  unfold rBuild at h
  split at h
  · rename_i e hst
    have hexec : ∀ v w', (Instr.buildSlice t len (numberFrom 0 (xs.map a.eval)).toArray).run P w = .ok v w' → (execOp a.eval o).run P w = .ok (.value v) w' := by
      intro v w' hr
      unfold execOp
      rw [ho]
      simp only [Sem.run_bind, hparts, hr, Result.andThen_ok, Sem.run_pure]
    split at h
    · cases h
    · rename_i e' hse
      have hk1 : kOf T e = 1 := by unfold kOf; rw [hse]
      split at h
      · rename_i hl
        split at h
        · rename_i h0
          cases h
          have hxs : xs = [] := by
            have := hl.1; rw [h0] at this; simpa using this
          subst hxs
          obtain ⟨out, hr, ho2⟩ := run_buildSlice (w := w) hT hst (by rw [hse]; rfl) (vs := []) (fun v hv => by cases hv) (by simp)
          refine ⟨_, out, e, .slice (some ⟨w.heap.size, 0, none⟩) 0 0, [], hexec _ _ (by rw [h0]; exact hr), fun F β' hF hβ => ?_, fun b hb => slice_blk (fun _ => rfl) hb, fun F β' hid => ⟨[], hid, rfl⟩⟩
          exact ⟨owns_new r.size0 ho2 rfl (Nat.zero_le _), trivial, fun i j u v h => by simp at h, fun v hv => by cases hv⟩
        · simp only [Option.map_eq_some_iff] at h
          obtain ⟨cs, hcs, rfl⟩ := h
          obtain ⟨g1, g2, g3⟩ := onesOf_ok hcs hall
          obtain ⟨out, hr, ho2⟩ := run_buildSlice (w := w) hT hst (by rw [hse]; rfl) (vs := xs.map a.eval) (fun v hv => by rw [hk1]; exact g3 v hv) (by rw [hk1]; have := hl.1; have := hl.2; omega)
          have hvl : (xs.map a.eval).length = len := by rw [← hlen]; exact hl.1
          rw [hvl] at hr
          have hcl : cs.length = len := by rw [g2.length]; exact hvl
          refine ⟨_, out, e, .slice (some ⟨w.heap.size, 0, none⟩) len len, xs.map a.eval, hexec _ _ hr, fun F β' hF hβ => ?_, fun b hb => slice_blk (fun hh => by cases hh) hb, fun F β' hid => ⟨_, hid, rfl⟩⟩
          refine ⟨?_, g2.mono fun _ _ _ _ hc => CR.keep (fun i pv vs hx => ⟨vs, hβ _ _ hx⟩) (fun b hb => ⟨hF b hb, (below_alloc w _).block b hb.1⟩) hc⟩
          rw [hcl]
          exact owns_new r.size0 (ho2.trans g1) (by rw [hvl, Nat.mul_one]) (by unfold maxLen; have := hl.2; omega)
      · cases h
    · rename_i hn1 hn2
      have hok : (T e).ok = true := by cases hh : T e <;> first | rfl | exact (hn1 hh).elim
      split at h
      · rename_i hl
        cases h
        obtain ⟨h0, hx0⟩ := hl
        have hxs : xs = [] := by simpa using hx0
        subst hxs
        obtain ⟨out, hr, ho2⟩ := run_buildSlice (w := w) hT hst hok (vs := []) (fun v hv => by cases hv) (by simp)
        refine ⟨_, out, e, .slice (some ⟨w.heap.size, 0, none⟩) 0 0, [], hexec _ _ (by rw [h0]; exact hr), fun F β' hF hβ => ⟨?_, _, _, _, rfl⟩, fun b hb => slice_blk (fun _ => rfl) hb, fun F β' hid => ⟨[], hid, rfl⟩⟩
        exact owns_new r.size0 ho2 (by simp) (Nat.zero_le _)
      split at h
      · rename_i hl
        simp only [Option.bind_eq_some_iff] at h
        obtain ⟨es, hes, h⟩ := h
        split at h
        · rename_i hal
          cases h
          obtain ⟨hal, hk64⟩ := hal
          have hfl := allLen_ok hal
          obtain ⟨g1, g2, g3⟩ := elsOf_ok hes hall
          have hvl : (xs.map a.eval).length = len := by rw [← hlen]; exact hl.1
          have hsz : ∀ v ∈ xs.map a.eval, v.cells.size = kOf T e := by
            intro v hv
            obtain ⟨i, hi⟩ := List.getElem?_of_mem hv
            have hi' : i < es.length := by rw [g2]; exact (List.getElem?_eq_some_iff.1 hi).1
            rw [g3 i es[i] v (List.getElem?_eq_getElem hi') hi]
            exact hfl _ (List.getElem_mem hi')
          have hk : len * kOf T e ≤ 100000 * 64 := Nat.mul_le_mul hl.2 hk64
          obtain ⟨out, hr, ho2⟩ := run_buildSlice (w := w) hT hst hok (vs := xs.map a.eval) hsz (by rw [hvl]; omega)
          rw [hvl] at hr
          have hel : es.length = len := by rw [g2]; exact hvl
          refine ⟨_, out, e, .slice (some ⟨w.heap.size, 0, none⟩) len len, [], hexec _ _ hr, fun F β' hF hβ => ⟨?_, hfl⟩, fun b hb => slice_blk (fun hh => by cases hh) hb, fun F β' hid => ⟨_, hid, rfl⟩⟩
          rw [hel]
          exact owns_new r.size0 (ho2.trans g1) (by rw [flat_len hfl, hel]) (by unfold maxLen; have := hl.2; omega)
        · cases h
      · cases h
  · cases h

end
end Go.Eng
