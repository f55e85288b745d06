import Derived.Test.YtfapjflogjblaaaA
import Derived.Test.YtfapjflogjblaaaE2
set_option linter.unusedVariables false
set_option linter.unusedSimpArgs false
set_option linter.unnecessarySimpa false
/- A call whose one object is a list of rows of its own: taken as rows of other blocks at once. -/
namespace Go.Eng
open Go
theorem OpOK.weak {P : Program} {o : Oper} {s s1 s2 : AS} (h : OpOK P o s s1) (hw : Weak s1 s2) : OpOK P o s s2 :=
  fun N0 W0 β a w r K Q hk => h N0 W0 β a w r K Q fun β' a' w' r' => let ⟨β2, r2⟩ := hw N0 W0 β' a' w' r'; hk β2 a' w' r2
theorem EffU.frz {P : Program} {o : Oper} {s : AS} {e : Eff} (h : EffU P o s e) {id e1 e2 : Nat} {st : Bool} {xss : List (Option (List El))} (hs : lookO e.sets id = some (.rows e1 e2 (.own st) xss)) :
    EffU P o s { e with sets := (id, some (.rows e1 e2 (.loc st) xss)) :: e.sets } := fun s' h1 h2 h3 h4 =>
  (h s' h1 h2 h3 h4).weak fun N0 W0 β a w r => ⟨β, r.freeze (by
    show lookO (e.sets ++ s'.H) id = _
    have key : ∀ l : List (Nat × Option Obj), lookO l id = some (.rows e1 e2 (.own st) xss) → lookO (l ++ s'.H) id = some (.rows e1 e2 (.own st) xss) := by
      intro l
      induction l with
      | nil => intro h; cases h
      | cons q l ih =>
        obtain ⟨j, v⟩ := q
        intro h
        show (if j = id then v else lookO (l ++ s'.H) id) = _
        rw [show lookO ((j, v) :: l) id = if j = id then v else lookO l id from rfl] at h
        split at h
        · rename_i hj; rw [if_pos hj]; exact h
        · rename_i hj; rw [if_neg hj]; exact ih h
    exact key _ hs)⟩
section
variable {P : Program} {T : Tys} {ops : Array Oper} {o : Oper} {r : List Oper} {s s' : AS} {k : AS → Prop} {f : FuncId} {fn : Func} {xs : List Operand} {ts : List Nat} {args : List AV} {log : List Nat} {av : AV} {S : Spec}
theorem z_fnF {e1 e2 : Nat} {st : Bool} {xss : List (Option (List El))} (hS : Sat P f S) (hf : P.funcs[f]? = some fn) (ho : Oper.isCall o f xs ts := by rfl) (hb : fn.body.isNone = false := by rfl) (hn : (fn.name == "runtime.NumGoroutine") = false := by rfl)
    (hg : gsay ops s o = some true := by first | rfl | assumption) (hd : Oper.dstOk o s.n = true := by rfl) (hsn : snapAs T s ts (xs.map s.ev) = some (args, log) := by simp [go_sem]; exact ⟨rfl, rfl⟩) (hSp : S args av [.rows e1 e2 (.own st) xss]) (hpl : plainT av = true := by rfl)
    (hfr : freshB s { callE (8 * o.dst.getD 0) av [.rows e1 e2 (.own st) xss] log with sets := (8 * o.dst.getD 0, some (.rows e1 e2 (.loc st) xss)) :: (callE (8 * o.dst.getD 0) av [.rows e1 e2 (.own st) xss] log).sets } = true := by rfl)
    (hs : s.app o.dst { callE (8 * o.dst.getD 0) av [.rows e1 e2 (.own st) xss] log with sets := (8 * o.dst.getD 0, some (.rows e1 e2 (.loc st) xss)) :: (callE (8 * o.dst.getD 0) av [.rows e1 e2 (.own st) xss] log).sets } = s' := by simp [go_sem]; rfl) (k0 : walkN P (reck T) ops r s' k) : walkN P (reck T) ops (o :: r) s k :=
  w_call hg (reck_call ho) ((EffU_call f fn xs ts S ho hS hf hb hn hd _ args log hsn av _ hSp hpl rfl).frz (by
    show lookO (objH (8 * o.dst.getD 0) [.rows e1 e2 (.own st) xss]) (8 * o.dst.getD 0) = _
    simp [objH, lookO])) hfr hs k0
end
end Go.Eng
