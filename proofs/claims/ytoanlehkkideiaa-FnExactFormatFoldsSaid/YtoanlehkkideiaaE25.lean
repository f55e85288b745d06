/- The engine, part 25: splits at guards that are not known yet. -/
import Derived.Test.YtoanlehkkideiaaE24
set_option linter.unusedVariables false
namespace Go.Eng
open Go Go.RowKit
section
variable {s s' : AS} {P : Program} {T : Tys} {E : Reck} {ops : Array Oper} {o : Oper} {r : List Oper} {k : AS → Prop} {tr : List (Option Eff)} {kl : List (Option Eff) → AS → Prop} {c : Bool}
theorem w_same (hg : gsay ops s o = some c) (hc : c = true) (h : walkN P E ops (o :: r) s k) : walkN P E ops (o :: r) s k := h
theorem l_same (hg : gsay ops s o = some c) (hc : c = true) (h : walkL P E ops (o :: r) s tr kl) : walkL P E ops (o :: r) s tr kl := h
theorem w_spl {p : Nat × Bool} (hp : o.guard = some p) (h : gsay ops s o = some c) (h1 : c = true → walkN P E ops (o :: r) s k) (h2 : c = false → walkN P E ops (o :: r) s k) : walkN P E ops (o :: r) s k :=
  w_split h h1 h2
theorem l_spl {p : Nat × Bool} (hp : o.guard = some p) (h : gsay ops s o = some c) (h1 : c = true → walkL P E ops (o :: r) s tr kl) (h2 : c = false → walkL P E ops (o :: r) s tr kl) : walkL P E ops (o :: r) s tr kl :=
  l_split h h1 h2

theorem w_splv {p : Nat × Bool} {v : Bool} (hp : o.guard = some p) (h : guardAV ops s p.1 = .one (.sc (.bool v))) (h1 : v = true → walkN P E ops (o :: r) s k) (h2 : v = false → walkN P E ops (o :: r) s k) : walkN P E ops (o :: r) s k := by
  cases v
  · exact h2 rfl
  · exact h1 rfl
theorem l_splv {p : Nat × Bool} {v : Bool} (hp : o.guard = some p) (h : guardAV ops s p.1 = .one (.sc (.bool v))) (h1 : v = true → walkL P E ops (o :: r) s tr kl) (h2 : v = false → walkL P E ops (o :: r) s tr kl) : walkL P E ops (o :: r) s tr kl := by
  cases v
  · exact h2 rfl
  · exact h1 rfl

/-! ### The object that a mutating call is handed -/
def refL : List CV → Option Nat
  | [] => none
  | .ref i :: _ => some i
  | .sc _ :: r => refL r
  | .nil :: r => refL r
  | .imm _ _ :: r => refL r
  | _ :: r => refL r
def refAs : List AV → Option Nat
  | [] => none
  | .one (.ref i) :: _ => some i
  | .one (.sc _) :: r => refAs r
  | .agg cs :: _ => refL cs
  | _ :: r => refAs r
theorem refL_ref {i : Nat} {r : List CV} : refL (.ref i :: r) = some i := rfl
theorem refL_sc {x : Sc} {r : List CV} : refL (.sc x :: r) = refL r := rfl
theorem refL_nil {r : List CV} : refL (.nil :: r) = refL r := rfl
theorem refAs_ref {i : Nat} {r : List AV} : refAs (.one (.ref i) :: r) = some i := rfl
theorem refAs_sc {x : Sc} {r : List AV} : refAs (.one (.sc x) :: r) = refAs r := rfl
theorem refAs_agg {cs : List CV} {r : List AV} : refAs (.agg cs :: r) = refL cs := rfl
variable {f : FuncId} {fn : Func} {xs : List Operand} {ts : List Nat}
theorem w_fnR {S : SpecM} {args : List AV} (hS : SatM P f S) (ho : Oper.isCall o f xs ts) (hf : P.funcs[f]? = some fn) (hb : fn.body.isNone = false) (hn : (fn.name == "runtime.NumGoroutine") = false)
    {c : Bool} (hg : gsay ops s o = some c) (hc : c = true) (hd : Oper.dstOk o s.n = true) {id : Nat} (hid : refAs (xs.map s.ev) = some id) {ob ob' : Obj} (hob : s.obj id = some ob) (hargs : mAs id (xs.map s.ev) = some args) {x : Sc} (hSp : S args ob x ob') (hpo : plainO ob = true) (hpo' : plainO ob' = true)
    (hs : s.app o.dst { val := .one (.sc x), sets := [(id, some ob')], log := [id] } = s') (hk : walkN P (reck T) ops r s' k) : walkN P (reck T) ops (o :: r) s k :=
  w_fnM hS ho hf hb hn hg hc hd id hob hargs hSp hpo hpo' hs hk
theorem l_fnR {S : SpecM} {args : List AV} (hS : SatM P f S) (ho : Oper.isCall o f xs ts) (hf : P.funcs[f]? = some fn) (hb : fn.body.isNone = false) (hn : (fn.name == "runtime.NumGoroutine") = false)
    {c : Bool} (hg : gsay ops s o = some c) (hc : c = true) (hd : Oper.dstOk o s.n = true) {id : Nat} (hid : refAs (xs.map s.ev) = some id) {ob ob' : Obj} (hob : s.obj id = some ob) (hargs : mAs id (xs.map s.ev) = some args) {x : Sc} (hSp : S args ob x ob') (hpo : plainO ob = true) (hpo' : plainO ob' = true)
    (hs : s.app o.dst { val := .one (.sc x), sets := [(id, some ob')], log := [id] } = s') (hk : walkL P (reck T) ops r s' (tr ++ [some { val := .one (.sc x), sets := [(id, some ob')], log := [id] }]) kl) : walkL P (reck T) ops (o :: r) s tr kl :=
  l_fnM hS ho hf hb hn hg hc hd id hob hargs hSp hpo hpo' hs hk
end
attribute [go_sem] rSlice
attribute [go_sem] refL_ref refL_sc refL_nil refAs_ref refAs_sc refAs_agg
end Go.Eng
