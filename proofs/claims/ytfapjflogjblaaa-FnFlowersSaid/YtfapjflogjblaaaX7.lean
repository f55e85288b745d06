import Derived.Test.YtfapjflogjblaaaX6
import Derived.Test.YtfapjflogjblaaaE2
set_option linter.unusedVariables false
set_option linter.unusedSimpArgs false
set_option linter.unnecessarySimpa false
/- A call that draws rows, taken as rows of other blocks at once. -/
namespace Go.Eng
open Go
section
variable {s s' : AS} {P : Program} {T : Tys} {ops : Array Oper} {o : Oper} {r : List Oper} {k : AS → Prop}
variable {f : FuncId} {x0 : Operand} {xs : List Operand} {ts : List Nat} {args : List AV} {log : List Nat} {av : AV} {id ty : Nat} {c0 : CV} {bs : List El} {i h i' h' : Int}
theorem yqF {S : SpecB} {e1 e2 : Nat} {st : Bool} {xss : List (Option (List El))} (k0 : walkN P (reck T) ops r s' k) (ho : Oper.isCall o f (x0 :: xs) ts := by rfl) (hS : ConB P f ty S := by infer_instance) (hg : gsay ops s o = some true := by first | rfl | assumption) (hd : Oper.dstOk o s.n = true := by rfl)
    {v0 : AV} (hv0 : s.ev x0 = v0 := by simp [go_sem]; rfl) (hx0 : v0 = .one (.ptr id 1 0 0) := by rfl) {ob : Obj} (hob0 : s.obj id = some ob := by simp [go_sem]; rfl) (hob : ob = cur ty c0 i h := by rfl) (hc0 : byC c0 = some bs := by rfl) (hargs : mqAs s (xs.map s.ev) = some (args, log) := by first | rfl | (simp [go_sem]; exact ⟨rfl, rfl⟩))
    (hSp : S (aC :: args) bs i h av [.rows e1 e2 (.own st) xss] i' h' := by ((repeat apply Exists.intro); first | exact ⟨rfl, rfl, rfl, rfl, rfl, rfl, rfl, rfl⟩ | exact ⟨zp, rfl, rfl, rfl, rfl, rfl, rfl, rfl, rfl⟩)) (hpl : plainT av = true := by rfl)
    (hfr : freshB s { callB ty id (8 * o.dst.getD 0) c0 av [.rows e1 e2 (.own st) xss] i' h' log with sets := (8 * o.dst.getD 0, some (.rows e1 e2 (.loc st) xss)) :: (callB ty id (8 * o.dst.getD 0) c0 av [.rows e1 e2 (.own st) xss] i' h' log).sets } = true := by rfl)
    (hs : s.app o.dst { callB ty id (8 * o.dst.getD 0) c0 av [.rows e1 e2 (.own st) xss] i' h' log with sets := (8 * o.dst.getD 0, some (.rows e1 e2 (.loc st) xss)) :: (callB ty id (8 * o.dst.getD 0) c0 av [.rows e1 e2 (.own st) xss] i' h' log).sets } = s' := by simp [go_sem]; rfl) : walkN P (reck T) ops (o :: r) s k := by
  obtain ⟨hS, fn, hf, hb, hn⟩ := hS
  exact w_call hg (reck_call ho) ((EffU_callB f fn x0 xs ts S ho hS hf hb hn hd id _ c0 bs i h (hv0.trans hx0) (hob0.trans (congrArg some hob)) hc0 args log hargs av _ i' h' hSp hpl rfl).frz (by
    show lookO (objH (8 * o.dst.getD 0) [.rows e1 e2 (.own st) xss] ++ [(id, some (cur ty c0 i' h'))]) (8 * o.dst.getD 0) = _
    simp [objH, lookO])) hfr hs k0
end
end Go.Eng
