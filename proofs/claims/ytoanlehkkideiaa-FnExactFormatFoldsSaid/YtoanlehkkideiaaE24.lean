/- The engine, part 24: calls as steps; how a law's walk is told. -/
import Derived.Test.YtoanlehkkideiaaE23
set_option linter.unusedVariables false
namespace Go.Eng
open Go Go.RowKit

section
variable {s s' : AS} {P : Program} {T : Tys} {ops : Array Oper} {o : Oper} {r : List Oper} {k : AS → Prop} {tr : List (Option Eff)} {kl : List (Option Eff) → AS → Prop}
variable {f : FuncId} {fn : Func} {xs : List Operand} {ts : List Nat}

theorem reck_call (ho : Oper.isCall o f xs ts) : reck T o s = none := by
  have h1 : reckV T s o.op = none := by rw [show o.op = _ from ho]; rfl
  have h2 : reckW T s o = none := by unfold reckW; rw [show o.op = _ from ho]
  unfold reck
  rw [h1, h2]
  split <;> rfl

theorem w_fn {S : Spec} {args : List AV} {log : List Nat} (hS : Sat P f S) (ho : Oper.isCall o f xs ts) (hf : P.funcs[f]? = some fn) (hb : fn.body.isNone = false) (hn : (fn.name == "runtime.NumGoroutine") = false)
    {c : Bool} (hg : gsay ops s o = some c) (hc : c = true) (hd : Oper.dstOk o s.n = true) (hsn : snapAs T s ts (xs.map s.ev) = some (args, log)) {av : AV} {objs : List Obj} (hSp : S args av objs) (hpl : plainT av = true) (hpo : objs.all plainO = true)
    (hfr : freshB s (callE (8 * o.dst.getD 0) av objs log) = true) (hs : s.app o.dst (callE (8 * o.dst.getD 0) av objs log) = s') (hk : walkN P (reck T) ops r s' k) : walkN P (reck T) ops (o :: r) s k :=
  w_call (hc ▸ hg) (reck_call ho) (EffU_call f fn xs ts S ho hS hf hb hn hd _ args log hsn av objs hSp hpl hpo) hfr hs hk

theorem l_fn {S : Spec} {args : List AV} {log : List Nat} (hS : Sat P f S) (ho : Oper.isCall o f xs ts) (hf : P.funcs[f]? = some fn) (hb : fn.body.isNone = false) (hn : (fn.name == "runtime.NumGoroutine") = false)
    {c : Bool} (hg : gsay ops s o = some c) (hc : c = true) (hd : Oper.dstOk o s.n = true) (hsn : snapAs T s ts (xs.map s.ev) = some (args, log)) {av : AV} {objs : List Obj} (hSp : S args av objs) (hpl : plainT av = true) (hpo : objs.all plainO = true)
    (hfr : freshB s (callE (8 * o.dst.getD 0) av objs log) = true) (hs : s.app o.dst (callE (8 * o.dst.getD 0) av objs log) = s') (hk : walkL P (reck T) ops r s' (tr ++ [some (callE (8 * o.dst.getD 0) av objs log)]) kl) : walkL P (reck T) ops (o :: r) s tr kl :=
  l_call (hc ▸ hg) (reck_call ho) (EffU_call f fn xs ts S ho hS hf hb hn hd _ args log hsn av objs hSp hpl hpo) hfr hs hk

theorem w_fnM {S : SpecM} {args : List AV} (hS : SatM P f S) (ho : Oper.isCall o f xs ts) (hf : P.funcs[f]? = some fn) (hb : fn.body.isNone = false) (hn : (fn.name == "runtime.NumGoroutine") = false)
    {c : Bool} (hg : gsay ops s o = some c) (hc : c = true) (hd : Oper.dstOk o s.n = true) (id : Nat) {ob ob' : Obj} (hob : s.obj id = some ob) (hargs : mAs id (xs.map s.ev) = some args) {x : Sc} (hSp : S args ob x ob') (hpo : plainO ob = true) (hpo' : plainO ob' = true)
    (hs : s.app o.dst { val := .one (.sc x), sets := [(id, some ob')], log := [id] } = s') (hk : walkN P (reck T) ops r s' k) : walkN P (reck T) ops (o :: r) s k :=
  w_call (hc ▸ hg) (reck_call ho) (EffU_callM f fn xs ts S ho hS hf hb hn hd id ob ob' hob args hargs x hSp hpo hpo') rfl hs hk

theorem l_fnM {S : SpecM} {args : List AV} (hS : SatM P f S) (ho : Oper.isCall o f xs ts) (hf : P.funcs[f]? = some fn) (hb : fn.body.isNone = false) (hn : (fn.name == "runtime.NumGoroutine") = false)
    {c : Bool} (hg : gsay ops s o = some c) (hc : c = true) (hd : Oper.dstOk o s.n = true) (id : Nat) {ob ob' : Obj} (hob : s.obj id = some ob) (hargs : mAs id (xs.map s.ev) = some args) {x : Sc} (hSp : S args ob x ob') (hpo : plainO ob = true) (hpo' : plainO ob' = true)
    (hs : s.app o.dst { val := .one (.sc x), sets := [(id, some ob')], log := [id] } = s') (hk : walkL P (reck T) ops r s' (tr ++ [some { val := .one (.sc x), sets := [(id, some ob')], log := [id] }]) kl) : walkL P (reck T) ops (o :: r) s tr kl :=
  l_call (hc ▸ hg) (reck_call ho) (EffU_callM f fn xs ts S ho hS hf hb hn hd id ob ob' hob args hargs x hSp hpo hpo') rfl hs hk

variable {c : Bool} {e : Eff}
theorem w_yes' (hg : gsay ops s o = some c) (hc : c = true) (h : stp T o s = some s') (hk : walkN P (reck T) ops r s' k) : walkN P (reck T) ops (o :: r) s k := by
  subst hc; exact w_yes hg h hk
theorem w_no' {E : Reck} (hg : gsay ops s o = some c) (hc : c = false) (hd : Oper.dstOk o s.n = true) (hs : s.app o.dst skipE = s') (hk : walkN P E ops r s' k) : walkN P E ops (o :: r) s k := by
  subst hc; exact w_no hg hd hs hk
theorem l_op' (hg : gsay ops s o = some c) (hc : c = true) (h : stl T o s = some (e, s')) (hk : walkL P (reck T) ops r s' (tr ++ [some e]) kl) : walkL P (reck T) ops (o :: r) s tr kl := by
  subst hc; exact l_op hg h hk
theorem l_no' {E : Reck} (hg : gsay ops s o = some c) (hc : c = false) (hd : Oper.dstOk o s.n = true) (hs : s.app o.dst skipE = s') (hk : walkL P E ops r s' (tr ++ [none]) kl) : walkL P E ops (o :: r) s tr kl := by
  subst hc; exact l_no hg hd hs hk

/-- A law's walk, out of its contract. -/
theorem law_walk {args : List AV} {vals : List Value} {w : World} {S : Spec} (hS : Sat P f S) (hSp : S args (.one (.sc (.bool true))) []) (ha : Args w args vals) :
    Calls P f vals.toArray w fun e w' => e = .returned (.bool true) ∧ Below w.heap.size w w' :=
  (hS args _ _ hSp w vals ha).mono fun e w' ⟨v, he, hb, ps, hl, hv, _⟩ => by
    have : v = .bool true := hv
    subst this
    exact ⟨he, hb⟩
end

attribute [go_sem] scsOf.eq_1 scsOf.eq_2 numbered rBuild elsOf onesOf.eq_1 onesOf.eq_2 allLen rAppend rDst.eq_1 rDst.eq_2 rDst.eq_3 rSrc.eq_1 rSrc.eq_2 rSrc.eq_3 rSrc.eq_4 rSrc.eq_5 rSrc.eq_6 killL rMake zeroEl zeroScs zeroSc rConv rSliceAll rCutS rIndex rNil.eq_1 rNil.eq_2
attribute [go_sem] snapAs.eq_1 snapAs.eq_2 snapA.eq_1 snapA.eq_2 snapC.eq_1 snapC.eq_2 snapC.eq_3 snapC.eq_4 snapC.eq_5 snapC.eq_6 snapC.eq_7 snapC.eq_8 snapC.eq_9 snapL.eq_1 snapL.eq_2 callE shT shA shC objH idsFrom AS.app rMk rFill.eq_1 rFill.eq_2 rBox.eq_1 rBox.eq_2 rStore.eq_1 zeroA zeroC TI.one mAs mA.eq_1 mA.eq_2 mC.eq_1 mC.eq_2 mC.eq_3 mC.eq_4 mL elOf.eq_1 elOf.eq_2 retA retD retC retL retT resC rowsOf rowOf.eq_1 rowOf.eq_2 rowOf.eq_3 rowOf.eq_4 rowOf.eq_5 rowOf.eq_6

end Go.Eng
