/- The engine, part 3: types, the effect of an operation, and that the pure operations do what their effect says. -/
import Derived.Test.YtoanlehkkideiaaE2
set_option linter.unusedVariables false
namespace Go.Eng
open Go Go.RowKit

/-- What is known of a type. -/
inductive TI where
  | int | u8 | bool | str
  | sl (e : Nat)
  | st (fs : List Nat)
  | oth

abbrev Tys := Nat → TI

def TI.one : TI → Bool
  | .int | .u8 | .bool | .str | .sl _ => true
  | _ => false

def zeroC (T : Tys) (t : Nat) : CV :=
  match T t with
  | .int => .sc (.int 0)
  | .u8 => .sc (.u8 0)
  | .bool => .sc (.bool false)
  | .str => .sc (.str ⟨#[]⟩)
  | _ => .nil

def zeroV : CV → Value
  | .sc s => s.val
  | _ => .slice none 0 0

/-- The cells of one element. -/
def kOf (T : Tys) (t : Nat) : Nat :=
  match T t with
  | .st fs => fs.length
  | _ => 1

structure TInfo (P : Program) (t size bytes : Nat) (z : Value) : Prop where
  info : ∃ i, P.info? t = some i ∧ i.size = size ∧ i.bytes = bytes ∧ i.zero = some z

def TOk (P : Program) (T : Tys) : Prop := ∀ t, match T t with
  | .int => P.underlying t = some (.int .i64) ∧ TInfo P t 1 8 (.int .i64 0)
  | .u8 => P.underlying t = some (.int .u8) ∧ TInfo P t 1 1 (.int .u8 0)
  | .bool => P.underlying t = some .bool ∧ TInfo P t 1 1 (.bool false)
  | .str => P.underlying t = some .string ∧ TInfo P t 1 16 (.string ⟨#[]⟩)
  | .sl e => P.underlying t = some (.slice e) ∧ TInfo P t 1 24 (.slice none 0 0)
  | .st fs => 0 < fs.length ∧ (∃ arr, P.underlying t = some (.struct arr) ∧ arr.size = fs.length ∧ ∀ (j f : Nat), fs[j]? = some f → ∃ fd, arr[j]? = some fd ∧ fd.type = f ∧ fd.offset = j ∧ fd.name ≠ "_" ∧ (T f).one = true) ∧ P.stoodInHeld t = false ∧ P.eqGuardType P.depth t = false ∧
      ∃ bytes, bytes ≤ 64 ∧ TInfo P t fs.length bytes (.agg (fs.map (fun f => zeroV (zeroC T f))).toArray)
  | .oth => True

abbrev w64 (n : Int) : Int := IntKind.i64.wrap n
abbrev w8 (n : Int) : Int := IntKind.u8.wrap n

def abin (ti : TI) (op : BinOp) (u v : Sc) : Option Sc :=
  match u, v with
  | .int a, .int b =>
    match op with
    | .add => some (.int (w64 (a + b)))
    | .sub => some (.int (w64 (a - b)))
    | .mul => some (.int (w64 (a * b)))
    | .quo => if b = 0 then none else some (.int (w64 (a.tdiv b)))
    | .rem => if b = 0 then none else some (.int (a.tmod b))
    | .eql => some (.bool (a == b))
    | .neq => some (.bool (a != b))
    | .lss => some (.bool (decide (a < b)))
    | .leq => some (.bool (decide (a ≤ b)))
    | .gtr => some (.bool (decide (a > b)))
    | .geq => some (.bool (decide (a ≥ b)))
    | _ => none
  | .u8 a, .u8 b =>
    match op with
    | .add => some (.u8 (w8 (a + b)))
    | .sub => some (.u8 (w8 (a - b)))
    | .eql => some (.bool (a == b))
    | .neq => some (.bool (a != b))
    | .lss => some (.bool (decide (a < b)))
    | .leq => some (.bool (decide (a ≤ b)))
    | .gtr => some (.bool (decide (a > b)))
    | .geq => some (.bool (decide (a ≥ b)))
    | _ => none
  | .bool a, .bool b =>
    match ti, op with
    | .bool, .eql => some (.bool (a == b))
    | .bool, .neq => some (.bool (!(a == b)))
    | _, _ => none
  | .str a, .str b =>
    match op with
    | .add => if a.size + b.size ≤ 9223372036854775807 then some (.str (a ++ b)) else none
    | .eql => some (.bool (a.toList == b.toList))
    | .neq => some (.bool (!(a.toList == b.toList)))
    | _ => none
  | _, _ => none

theorem abin_sound {P : Program} {T : Tys} (hT : TOk P T) (w : World) (op : BinOp) (t : TypeId) (x y : Operand) (u v r : Sc) (h : abin (T t) op u v = some r) :
    (do eqGuard op t x y u.val v.val; binOp op t u.val v.val : Sem Value).run P w = .ok r.val w := by
  have hb := hT t
  cases u with
  | int a =>
    cases v with
    | int b =>
      cases op <;> simp only [abin] at h <;> (try cases h) <;> (try rfl)
      all_goals
        split at h
        · cases h
        · rename_i hb0
          cases h
          simp [Sc.val, go_sem, binOp, Op.intDiv, hb0]
    | _ => simp [abin] at h
  | u8 a =>
    cases v with
    | u8 b => cases op <;> simp only [abin] at h <;> (try cases h) <;> (try rfl)
    | _ => simp [abin] at h
  | bool a =>
    cases v with
    | bool b =>
      cases hti : T t <;> rw [hti] at h hb <;> cases op <;> simp only [abin] at h <;> (try cases h)
      all_goals
        have h1 := run_equalIn_bool' (P := P) w 9999 t a b hb.1
        have h2 : (Op.equal t (.bool a) (.bool b)).run P w = .ok (a == b) w := h1
        have h3 : binOp .eql t (.bool a) (.bool b) = (do pure (.bool (← Op.equal t (.bool a) (.bool b)))) := rfl
        have h4 : binOp .neq t (.bool a) (.bool b) = (do pure (.bool (!(← Op.equal t (.bool a) (.bool b))))) := rfl
        simp only [Sc.val, eqGuard_at_bool, h3, h4, Sem.run_bind, h2, Result.andThen_ok, Sem.run_pure]
    | _ => simp [abin] at h
  | str a =>
    cases v with
    | str b =>
      cases op <;> simp only [abin] at h <;> (try cases h) <;> (try rfl)
      split at h
      · rename_i hle
        cases h
        have : ¬ (((a.size + b.size : Nat) : Int) > IntKind.i64.max) := by
          rw [IntKind.max_i64]; omega
        show (Op.stringOp .add a b).run P w = _
        unfold Op.stringOp
        simp only [this, if_false]
        rfl
      · cases h
    | _ => simp [abin] at h

def aun (op : UnOp) (u : Sc) : Option Sc :=
  match op, u with
  | .neg, .int a => some (.int (w64 (-a)))
  | .not, .bool b => some (.bool !b)
  | _, _ => none

theorem aun_sound {P : Program} (w : World) (op : UnOp) (u r : Sc) (h : aun op u = some r) : (Op.unary op u.val).run P w = .ok r.val w := by
  cases op <;> cases u <;> simp only [aun] at h <;> cases h
  · rename_i n
    show (Op.intArith .sub .i64 0 n).run P w = _
    simp [Op.intArith, Sc.val]
  · rfl

end Go.Eng
