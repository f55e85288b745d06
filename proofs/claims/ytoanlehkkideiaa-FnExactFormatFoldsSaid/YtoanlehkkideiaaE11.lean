/- The engine, part 11: a call of a function that keeps a contract. -/
import Derived.Test.YtoanlehkkideiaaE10
set_option linter.unusedVariables false
namespace Go.Eng
open Go Go.RowKit

section
variable {N0 : Nat} {W0 : World} {s s' : AS} {β β' : Plc} {a : Act} {w w' : World} {P : Program} {T : Tys}

/-- What is handed back, its objects under numbers from base on. -/
def shC (base : Nat) : CV → CV
  | .ref j => .ref (base + j)
  | c => c

def shA (base : Nat) : AV → AV
  | .one c => .one (shC base c)
  | .agg cs => .agg (cs.map (shC base))
  | v => v

def shT (base : Nat) : AV → AV
  | .tup vs => .tup (vs.map (shA base))
  | v => shA base v

/-- No numbers but plain references. -/
def plainC : CV → Bool
  | .sc _ | .nil | .ref _ | .fn _ => true
  | _ => false

def plainA : AV → Bool
  | .one c => plainC c
  | .agg cs => cs.all plainC
  | _ => false

def plainT : AV → Bool
  | .tup vs => vs.all plainA
  | v => plainA v

theorem shC_ok {B base : Nat} {ps : Ps} {F F' : Nat → Prop} (hβ : ∀ j x, ps[j]? = some x → β' (base + j) = some x) {c : CV} (hp : plainC c = true) {v : Value} (h : CR B (fun j => ps[j]?) F w c v) : CR N0 β' F' w (shC base c) v := by
  cases c with
  | sc x => exact h
  | nil => exact h
  | fn f => exact h
  | ref j => obtain ⟨vs, hv, h1c⟩ := h; exact ⟨vs, hβ j _ hv, h1c⟩
  | _ => cases hp

theorem shL_ok {B base : Nat} {ps : Ps} {F F' : Nat → Prop} (hβ : ∀ j x, ps[j]? = some x → β' (base + j) = some x) : ∀ {cs : List CV} {vs : List Value}, cs.all plainC = true → All2 (CR B (fun j => ps[j]?) F w) cs vs → All2 (CR N0 β' F' w) (cs.map (shC base)) vs
  | [], [], _, _ => trivial
  | c :: cs, v :: vs, hp, ⟨h1, h2⟩ => by
    simp only [List.all_cons, Bool.and_eq_true] at hp
    exact ⟨shC_ok hβ hp.1 h1, shL_ok hβ hp.2 h2⟩
  | [], _ :: _, _, h => h.elim
  | _ :: _, [], _, h => h.elim

theorem shA_ok {B base : Nat} {ps : Ps} {F F' : Nat → Prop} (hβ : ∀ j x, ps[j]? = some x → β' (base + j) = some x) {c : AV} (hp : plainA c = true) {v : Value} (h : DR B (fun j => ps[j]?) F w c v) : DR N0 β' F' w (shA base c) v ∧ AR N0 β' F' w (shA base c) v := by
  cases c with
  | one c => have := shC_ok (N0 := N0) (F' := F') hβ hp h; exact ⟨this, this⟩
  | agg cs => obtain ⟨vs, h1, h2⟩ := h; have := shL_ok (N0 := N0) (F' := F') hβ hp h2; exact ⟨⟨vs, h1, this⟩, ⟨vs, h1, this⟩⟩
  | tup _ => cases hp
  | dead => cases hp

theorem shT_ok {B base : Nat} {ps : Ps} {F F' : Nat → Prop} (hβ : ∀ j x, ps[j]? = some x → β' (base + j) = some x) {c : AV} (hp : plainT c = true) {v : Value} (h : AR B (fun j => ps[j]?) F w c v) : AR N0 β' F' w (shT base c) v := by
  cases c with
  | one c => exact shC_ok hβ hp h
  | agg cs => obtain ⟨vs, h1, h2⟩ := h; exact ⟨vs, h1, shL_ok hβ hp h2⟩
  | dead => cases hp
  | tup vs =>
    obtain ⟨us, h1, h2⟩ := h
    refine ⟨us, h1, ?_⟩
    clear h1
    have hp' : vs.all plainA = true := hp
    clear hp
    induction vs generalizing us with
    | nil => cases us with | nil => trivial | cons _ _ => exact h2.elim
    | cons c vs ih =>
      cases us with
      | nil => exact h2.elim
      | cons u us =>
        simp only [List.all_cons, Bool.and_eq_true] at hp'
        exact ⟨(shA_ok hβ hp'.1 h2.1).1, ih us h2.2 hp'.2⟩

theorem ownsRow_base {B B' e k : Nat} (hB : B' ≤ B) {v : Value} {n : Nat} {xs : List Value} (h : w.ownsRow B e k v n xs) : w.ownsRow B' e k v n xs := by
  refine ⟨h.1, h.2.imp id ?_⟩
  rintro ⟨g, cap, cur, h1, h2, h3⟩
  exact ⟨g, cap, cur, h1, Nat.le_trans hB h2, h3⟩

/-- The objects that a contract may hand back. -/
def plainO : Obj → Bool
  | .flat .. => true
  | .rows _ _ .own _ => true
  | _ => false

theorem objAt_base {B : Nat} (hB : N0 ≤ B) {F F' : Nat → Prop} {pv : Value} {vs : List Value} {o : Obj} (hp : plainO o = true) (h : ObjAt B β F w pv vs o) : ObjAt N0 β' F' w pv vs o := by
  cases o with
  | flat e k xs => exact ⟨ownsRow_base hB h.1, h.2⟩
  | rows e e' m xss =>
    cases m with
    | own =>
      obtain ⟨h1, h2, h3, h4⟩ := h
      refine ⟨ownsRow_base hB h1, h2.mono fun o v _ _ hr => ?_, h3, h4⟩
      cases o with
      | none => exact hr
      | some xs => exact ⟨ownsRow_base hB hr.1, hr.2⟩
    | _ => cases hp
  | _ => cases hp

/-! ### What an argument reads as hangs on the noted objects alone -/

theorem rowOf_congr {c : CV} {x : List El × List Nat} (h : rowOf s c = some x) (ha : ∀ i ∈ x.2, s'.obj i = s.obj i) : rowOf s' c = some x := by
  unfold rowOf at h ⊢
  split at h <;> try (exact h)
  all_goals
    split at h
    all_goals first
      | (rename_i ho
         cases h
         simp only [ha _ List.mem_cons_self, ho])
      | cases h

theorem rowsOf_congr : ∀ {cs : List CV} {x : List (List El) × List Nat}, rowsOf s cs = some x → (∀ i ∈ x.2, s'.obj i = s.obj i) → rowsOf s' cs = some x
  | [], x, h, _ => h
  | c :: cs, x, h, ha => by
    simp only [rowsOf, Option.bind_eq_some_iff, Option.map_eq_some_iff] at h ⊢
    obtain ⟨y, hy, z, hz, rfl⟩ := h
    exact ⟨y, rowOf_congr hy (fun i hi => ha i (by simp [hi])), z, rowsOf_congr hz (fun i hi => ha i (by simp [hi])), rfl⟩

theorem snapC_congr {ty : Nat} {c : CV} {x : CV × List Nat} (h : snapC T s ty c = some x) (ha : ∀ i ∈ x.2, s'.obj i = s.obj i) : snapC T s' ty c = some x := by
  unfold snapC at h ⊢
  split at h <;> try (exact h)
  · split at h
    · rename_i ho; cases h; simp only [ha _ List.mem_cons_self, ho]
    · rename_i ho; cases h; simp only [ha _ List.mem_cons_self, ho]
    · rename_i ho; cases h; simp only [ha _ List.mem_cons_self, ho]
    · rename_i ho
      simp only [Option.map_eq_some_iff] at h
      obtain ⟨y, hy, rfl⟩ := h
      simp only [ha _ List.mem_cons_self, ho, rowsOf_congr hy (fun i hi => ha i (by simp [hi])), Option.map_some]
    · cases h
  · split at h
    · rename_i ho; cases h; simp only [ha _ List.mem_cons_self, ho]
    · cases h
  · split at h
    · rename_i ho
      split at h
      · rename_i hk; cases h; simp only [ha _ List.mem_cons_self, ho, hk, if_true]
      · cases h
    · cases h

theorem snapL_congr : ∀ {ts : List Nat} {cs : List CV} {x : List CV × List Nat}, snapL T s ts cs = some x → (∀ i ∈ x.2, s'.obj i = s.obj i) → snapL T s' ts cs = some x
  | [], [], x, h, _ => h
  | t :: ts, c :: cs, x, h, ha => by
    simp only [snapL, Option.bind_eq_some_iff, Option.map_eq_some_iff] at h ⊢
    obtain ⟨y, hy, z, hz, rfl⟩ := h
    exact ⟨y, snapC_congr hy (fun i hi => ha i (by simp [hi])), z, snapL_congr hz (fun i hi => ha i (by simp [hi])), rfl⟩
  | [], _ :: _, _, h, _ => h
  | _ :: _, [], _, h, _ => h

theorem snapA_congr {ty : Nat} {c : AV} {x : AV × List Nat} (h : snapA T s ty c = some x) (ha : ∀ i ∈ x.2, s'.obj i = s.obj i) : snapA T s' ty c = some x := by
  cases c with
  | one c =>
    simp only [snapA, Option.map_eq_some_iff] at h ⊢
    obtain ⟨y, hy, rfl⟩ := h
    exact ⟨y, snapC_congr hy ha, rfl⟩
  | agg cs =>
    simp only [snapA] at h ⊢
    split at h
    · simp only [Option.map_eq_some_iff] at h ⊢
      obtain ⟨y, hy, rfl⟩ := h
      exact ⟨y, snapL_congr hy ha, rfl⟩
    · cases h
  | _ => cases h

theorem snapAs_congr : ∀ {ts : List Nat} {cs : List AV} {x : List AV × List Nat}, snapAs T s ts cs = some x → (∀ i ∈ x.2, s'.obj i = s.obj i) → snapAs T s' ts cs = some x
  | [], [], x, h, _ => h
  | t :: ts, c :: cs, x, h, ha => by
    simp only [snapAs, Option.bind_eq_some_iff, Option.map_eq_some_iff] at h ⊢
    obtain ⟨y, hy, z, hz, rfl⟩ := h
    exact ⟨y, snapA_congr hy (fun i hi => ha i (by simp [hi])), z, snapAs_congr hz (fun i hi => ha i (by simp [hi])), rfl⟩
  | [], _ :: _, _, h, _ => h
  | _ :: _, [], _, h, _ => h

/-! ### The call -/

def callE (base : Nat) (av : AV) (objs : List Obj) (log : List Nat) : Eff :=
  { val := shT base av, sets := objH base objs, fresh := idsFrom base objs.length, log := log }

def Oper.isCall (o : Oper) (f : FuncId) (xs : List Operand) (ts : List Nat) : Prop := o.op = .call { callee := .value (.func f), args := xs.toArray, argTypes := ts.toArray }

theorem run_callFunc {f : FuncId} {fn : Func} (hf : P.funcs[f]? = some fn) (hb : fn.body.isNone = false) (hn : (fn.name == "runtime.NumGoroutine") = false) (args : Array Value) : (callFunc f args).run P w = .ok (.enter f args) w := by
  unfold callFunc
  simp only [Sem.run_bind, run_program, Result.andThen_ok, hf, hn, hb, Bool.false_eq_true, if_false, Sem.run_pure]

theorem slots_ev {o : Oper} (h : ∀ t ∈ slots o, s'.get t = s.get t) {x : Operand} (hx : x ∈ o.op.operands) : s'.ev x = s.ev x := by
  cases x with
  | tmp t => exact h t (List.mem_filterMap.2 ⟨.tmp t, by simpa using hx, rfl⟩)
  | _ => rfl

theorem list_evs {o : Oper} (h : ∀ t ∈ slots o, s'.get t = s.get t) {xs : List Operand} (hx : ∀ x ∈ xs, x ∈ o.op.operands) : xs.map s'.ev = xs.map s.ev :=
  List.map_congr_left fun x hxs => slots_ev h (hx x hxs)

theorem all2_ev (r : Rel N0 W0 s β a w) : ∀ xs : List Operand, All2 (AR N0 β (Free s β w) w) (xs.map s.ev) (xs.map a.eval)
  | [] => trivial
  | x :: xs => ⟨r.ev x, all2_ev r xs⟩

theorem EffU_call (f : FuncId) (fn : Func) (xs : List Operand) (ts : List Nat) (S : Spec) {o : Oper} (ho : Oper.isCall o f xs ts) (hS : Sat P f S) (hf : P.funcs[f]? = some fn) (hb : fn.body.isNone = false) (hn : (fn.name == "runtime.NumGoroutine") = false)
    (hd : Oper.dstOk o s.n = true) (base : Nat) (args : List AV) (log : List Nat) (hsn : snapAs T s ts (xs.map s.ev) = some (args, log)) (av : AV) (objs : List Obj) (hSp : S args av objs) (hpl : plainT av = true) (hpo : objs.all plainO = true) :
    EffU P o s (callE base av objs log) := by
  intro s2 h1 h2 h3 h4 N0 W0 β a w r K Q hK
  have hops : ∀ x ∈ xs, x ∈ o.op.operands := fun x hx => by
    rw [show o.op = _ from ho]
    simp [Op.operands, Call.operands, hx]
  have hsn2 : snapAs T s2 ts (xs.map s2.ev) = some (args, log) := by
    rw [list_evs h2 hops]
    exact snapAs_congr hsn h3
  have hargs := snapAs_ok r hsn2 (all2_ev r xs)
  have hrun : (execOp a.eval o).run P w = .ok (.enter f (xs.map a.eval).toArray) w := by
    have he : execOp a.eval o = callFunc f (#[] ++ (xs.map a.eval).toArray ++ #[]) := by
      unfold execOp
      rw [show o.op = _ from ho]
      simp only [resolve, Act.eval, Deferred.ofValue, List.map_toArray]
      rfl
    rw [he, run_callFunc hf hb hn]
    simp
  unfold Oper.wp
  rw [hrun, Oper.upon_enter]
  refine (hS args av objs hSp w (xs.map a.eval) hargs).mono ?_
  rintro e w' ⟨v, rfl, hbel, ps, hl, hv, hat, hdj⟩
  obtain ⟨r', hext, hnew, hkeep⟩ := r.allocL (base := base) (objs := objs) (ps := ps) hbel hl (fun i hi => h4 i hi) (fun j o' p hj hp => by
    obtain ⟨h5, h6⟩ := hat j o' p hj hp
    have hpo' : plainO o' = true := List.all_eq_true.1 hpo o' (List.mem_of_getElem? hj)
    exact ⟨fun β' F _ _ _ => objAt_base r.size0 hpo' h5, h6⟩) hdj
  have hav : AR N0 (β.add base ps) (Free { s2 with H := objH base objs ++ s2.H, used := idsFrom base objs.length ++ s2.used } (β.add base ps) w') w' (shT base av) v := shT_ok hnew hpl hv
  cases hdst : o.dst with
  | none => exact hK (β.add base ps) a w' (by rw [hdst]; exact r')
  | some d =>
    refine hK (β.add base ps) _ w' ?_
    rw [hdst]
    exact r'.put (d := d) (by have := Oper.dstOk_spec hd d hdst; rw [show s2.n = s.n from h1]; exact this) hav

end
end Go.Eng
