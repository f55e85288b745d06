/- The engine, part 4: effects; the walk over the operations of a region, in the order of the text. -/
import Derived.Test.YtoanlehkkideiaaE3
set_option linter.unusedVariables false
namespace Go.Eng
open Go Go.RowKit

structure Eff where
  val : AV
  sets : List (Nat × Option Obj) := []
  fresh : List Nat := []
  log : List Nat := []

def putD (o : Option Nat) (v : AV) (env : List (Nat × AV)) : List (Nat × AV) :=
  match o with
  | some d => (d, v) :: env
  | none => env

def AS.app (s : AS) (dst : Option Nat) (e : Eff) : AS := { s with env := putD dst e.val s.env, H := e.sets ++ s.H, used := e.fresh ++ s.used }

def constAV : Value → AV
  | .int .i64 n => .one (.sc (.int n))
  | .int .u8 n => .one (.sc (.u8 n))
  | .bool b => .one (.sc (.bool b))
  | .string s => .one (.sc (.str s))
  | .slice none 0 0 => .one .nil
  | _ => .dead

def AS.ev (s : AS) : Operand → AV
  | .tmp t => s.get t
  | .const v => constAV v
  | .func f => .one (.fn f)
  | .global _ => .dead

section
variable {N0 : Nat} {W0 : World} {s s' : AS} {β β' : Plc} {a : Act} {w w' : World} {P : Program}

theorem constAV_ok (B : Nat) (F : Nat → Prop) (v : Value) : AR B β F w (constAV v) v := by
  unfold constAV
  split <;> first | rfl | trivial

theorem Rel.ev (r : Rel N0 W0 s β a w) (x : Operand) : AR N0 β (Free s β w) w (s.ev x) (a.eval x) := by
  cases x with
  | tmp t => exact r.env t
  | const v => exact constAV_ok _ _ v
  | func f => exact rfl
  | global g => trivial

/-- Carried out in state s, operation o ends in state s'. -/
def OpOK (P : Program) (o : Oper) (s s' : AS) : Prop :=
  ∀ N0 W0 β a w, Rel N0 W0 s β a w → ∀ (K : Act → World → Prop) (Q : Exit → Act → World → Prop), (∀ β' a' w', Rel N0 W0 s' β' a' w' → K a' w') → o.wp P a w K Q

/-- The slots that an operation looks at. -/
def slots (o : Oper) : List Nat := o.op.operands.toList.filterMap fun | .tmp t => some t | _ => none

/-- Effect e, in every state that agrees with s on what the operation looks at. -/
def EffU (P : Program) (o : Oper) (s : AS) (e : Eff) : Prop :=
  ∀ s' : AS, s'.n = s.n → (∀ t ∈ slots o, s'.get t = s.get t) → (∀ i ∈ e.log, s'.obj i = s.obj i) → (∀ i ∈ e.fresh, i ∉ s'.used) → OpOK P o s' (s'.app o.dst e)

/-- Two states of which the same is known. -/
structure Same (s s' : AS) : Prop where
  n : s.n = s'.n
  get : ∀ k, s.get k = s'.get k
  obj : ∀ i, s.obj i = s'.obj i
  used : ∀ i, i ∈ s.used ↔ i ∈ s'.used

theorem Same.refl (s : AS) : Same s s := ⟨rfl, fun _ => rfl, fun _ => rfl, fun _ => Iff.rfl⟩
theorem Same.symm (h : Same s s') : Same s' s := ⟨h.n.symm, fun k => (h.get k).symm, fun k => (h.obj k).symm, fun k => (h.used k).symm⟩
theorem Same.trans {t : AS} (h : Same s s') (h' : Same s' t) : Same s t := ⟨h.n.trans h'.n, fun k => (h.get k).trans (h'.get k), fun k => (h.obj k).trans (h'.obj k), fun k => (h.used k).trans (h'.used k)⟩

theorem Same.held (h : Same s s') (b : Nat) : Held s β b ↔ Held s' β b := by
  unfold Held
  simp only [h.obj]

theorem Rel.same (h : Same s s') (r : Rel N0 W0 s β a w) : Rel N0 W0 s' β a w := by
  have hF : Free s β w = Free s' β w := by
    funext b
    unfold Free
    rw [h.held b]
  exact {
    below := r.below
    size0 := r.size0
    size := by rw [← h.n]; exact r.size
    defers := r.defers
    env := fun k => by rw [← hF, ← h.get]; exact r.env k
    dom := fun id hi => r.dom id (fun hh => hi ((h.used id).1 hh))
    hdom := fun id hi => by rw [← h.obj]; exact r.hdom id (fun hh => hi ((h.used id).1 hh))
    obj := fun id o ho => by rw [← hF]; exact r.obj id o (by rw [h.obj]; exact ho)
    disj := fun id id' o o' pv vs pv' vs' b h1 h2 => r.disj id id' o o' pv vs pv' vs' b (by rw [h.obj]; exact h1) (by rw [h.obj]; exact h2) }

/-- An operation that yields a value and leaves the world alone. -/
theorem OpOK.val {o : Oper} {av : AV} (hd : ∀ d, o.dst = some d → d < s.n)
    (h : ∀ N0 W0 β a w, Rel N0 W0 s β a w → ∃ v, (execOp a.eval o).run P w = .ok (.value v) w ∧ AR N0 β (Free s β w) w av v) :
    OpOK P o s (s.app o.dst { val := av }) := by
  intro N0 W0 β a w r K Q hK
  obtain ⟨v, hr, hv⟩ := h N0 W0 β a w r
  unfold Oper.wp
  rw [hr, Oper.upon_value]
  refine hK β _ w ?_
  cases hdst : o.dst with
  | none => exact r
  | some d => exact r.put (hd d hdst) hv

def Oper.dstOk (o : Oper) (n : Nat) : Bool :=
  match o.dst with
  | some d => decide (d < n)
  | none => true

theorem Oper.dstOk_spec {o : Oper} {n : Nat} (h : Oper.dstOk o n = true) : ∀ d, o.dst = some d → d < n := by
  intro d hd
  unfold Oper.dstOk at h
  rw [hd] at h
  simpa using h

/-- The same, of every state that agrees. -/
theorem EffU.val {o : Oper} {av : AV} {n : Nat} (hd : Oper.dstOk o n = true) (hn : s.n = n)
    (h : ∀ s' : AS, s'.n = n → (∀ t ∈ slots o, s'.get t = s.get t) → ∀ N0 W0 β a w, Rel N0 W0 s' β a w → ∃ v, (execOp a.eval o).run P w = .ok (.value v) w ∧ AR N0 β (Free s' β w) w av v) :
    EffU P o s { val := av } := by
  intro s' h1 h2 h3 h4
  rw [hn] at h1
  exact OpOK.val (by rw [h1]; exact Oper.dstOk_spec hd) (h s' h1 h2)

end
end Go.Eng
