/- The engine, part 22: the same for regions that draw their order: the effect beside the state. -/
import Derived.Test.YtoanlehkkideiaaE21
set_option linter.unusedVariables false
namespace Go.Eng
open Go Go.RowKit

section
variable {T : Tys} {d : Nat} {ty : Nat} {pos : String} {aft : Array Edge} {g : Option (Nat × Bool)} {P : Program}

def stl (T : Tys) (o : Oper) (s : AS) : Option (Eff × AS) :=
  (reck T o s).bind fun e => if freshB s e = true then some (e, s.app o.dst e) else none

theorem l_op {ops : Array Oper} {o : Oper} {r : List Oper} {s s' : AS} {tr : List (Option Eff)} {kl : List (Option Eff) → AS → Prop} {e : Eff} (hg : gsay ops s o = some true) (h : stl T o s = some (e, s')) (hk : walkL P (reck T) ops r s' (tr ++ [some e]) kl) : walkL P (reck T) ops (o :: r) s tr kl := by
  unfold stl at h
  simp only [Option.bind_eq_some_iff] at h
  obtain ⟨e', he, h⟩ := h
  split at h
  · rename_i hf; cases h; exact l_yes hg he hf rfl hk
  · cases h

/-- A value goes to its slot. -/
def toDL (d : Nat) (s : AS) (y : Option (AV × List Nat)) : Option (Eff × AS) :=
  if d < s.n then y.map fun v => ({ val := v.1, log := v.2 }, ⟨s.n, (d, v.1) :: s.env, s.H, s.used⟩) else none

def toEL (d : Option Nat) (s : AS) (y : Option Eff) : Option (Eff × AS) :=
  if (match d with | some d => decide (d < s.n) | none => true) = true then y.bind fun e => if freshB s e = true then some (e, ⟨s.n, putD d e.val s.env, e.sets ++ s.H, e.fresh ++ s.used⟩) else none else none

theorem stl_V {o : Oper} {s : AS} {y : Option (AV × List Nat)} (hd : o.dst = some d) (h : reckV T s o.op = y) (hn : y = none → reckW T s o = none) : stl T o s = toDL d s y := by
  unfold stl reck Oper.dstOk toDL
  rw [hd, h]
  by_cases hlt : d < s.n
  · simp only [hlt, decide_true, if_true]
    cases y with
    | none => rw [hn rfl]; rfl
    | some y => simp [freshB, AS.app, putD]
  · simp [hlt]

theorem stl_W {o : Oper} {s : AS} (h : reckV T s o.op = none) : stl T o s = toEL o.dst s (reckW T s o) := by
  unfold stl reck Oper.dstOk toEL
  rw [h]
  cases hd : o.dst with
  | none => simp [AS.app]
  | some d =>
    by_cases hlt : d < s.n
    · simp [hlt, AS.app]
    · simp [hlt]

def noLog (y : Option AV) : Option (AV × List Nat) := y.map fun v => (v, [])

theorem stl_move {x : Operand} {s : AS} : stl T ⟨some d, .move x, ty, pos, aft, g⟩ s = toDL d s (some (s.ev x, [])) := by
  rw [stl_V (d := d) rfl rfl (fun _ => rfl)]
  simp only [reckV]
  try rfl

theorem stl_assign {x : Operand} {s : AS} : stl T ⟨some d, .assign x, ty, pos, aft, g⟩ s = toDL d s (some (s.ev x, [])) := by
  rw [stl_V (d := d) rfl rfl (fun _ => rfl)]
  simp only [reckV]
  try rfl

theorem stl_pick {c x y : Operand} {s : AS} : stl T ⟨some d, .pick c x y, ty, pos, aft, g⟩ s = toDL d s (noLog (rPick (s.ev c) (s.ev x) (s.ev y))) := by
  rw [stl_V (d := d) rfl rfl (fun _ => rfl)]
  simp only [reckV]
  try rfl

theorem stl_binOp {op : BinOp} {t yt : Nat} {x y : Operand} {s : AS} : stl T ⟨some d, .binOp op t x y yt, ty, pos, aft, g⟩ s = toDL d s (noLog (rBin T op t (s.ev x) (s.ev y))) := by
  rw [stl_V (d := d) rfl rfl (fun _ => rfl)]
  simp only [reckV]
  try rfl

theorem stl_unOp {op : UnOp} {t : Nat} {x : Operand} {s : AS} : stl T ⟨some d, .unOp op t x, ty, pos, aft, g⟩ s = toDL d s (noLog (rUn op (s.ev x))) := by
  rw [stl_V (d := d) rfl rfl (fun _ => rfl)]
  simp only [reckV]
  try rfl

theorem stl_convert {t t2 : Nat} {x : Operand} {s : AS} : stl T ⟨some d, .convert t t2 x, ty, pos, aft, g⟩ s = toDL d s ((rConv T s t t2 (s.ev x))) := by
  rw [stl_V (d := d) rfl rfl (fun _ => rfl)]
  simp only [reckV]
  try rfl

theorem stl_slice {t : Nat} {x : Operand} {lo hi : Option Operand} {s : AS} : stl T ⟨some d, .slice t x lo hi none, ty, pos, aft, g⟩ s = toDL d s ((rSliceAll T s t x lo hi)) := by
  rw [stl_V (d := d) rfl rfl (fun _ => rfl)]
  simp only [reckV]
  try rfl

theorem stl_fieldAddr {t f : Nat} {x : Operand} {s : AS} : stl T ⟨some d, .fieldAddr t x f, ty, pos, aft, g⟩ s = toDL d s (noLog (rFieldAddr T t (s.ev x) f)) := by
  rw [stl_V (d := d) rfl rfl (fun _ => rfl)]
  simp only [reckV]
  try rfl

theorem stl_field {t f : Nat} {x : Operand} {s : AS} : stl T ⟨some d, .field t x f, ty, pos, aft, g⟩ s = toDL d s (noLog (rField T t (s.ev x) f)) := by
  rw [stl_V (d := d) rfl rfl (fun _ => rfl)]
  simp only [reckV]
  try rfl

theorem stl_indexAddr {t : Nat} {x i : Operand} {s : AS} : stl T ⟨some d, .indexAddr t x i, ty, pos, aft, g⟩ s = toDL d s ((rIndexAddr T s t (s.ev x) (s.ev i))) := by
  rw [stl_V (d := d) rfl rfl (fun _ => rfl)]
  simp only [reckV]
  try rfl

theorem stl_index {t : Nat} {x i : Operand} {s : AS} : stl T ⟨some d, .index t x i, ty, pos, aft, g⟩ s = toDL d s (noLog (rIndex T t (s.ev x) (s.ev i))) := by
  rw [stl_V (d := d) rfl rfl (fun _ => rfl)]
  simp only [reckV]
  try rfl

theorem stl_extract {i : Nat} {x : Operand} {s : AS} : stl T ⟨some d, .extract x i, ty, pos, aft, g⟩ s = toDL d s (noLog (rExtract (s.ev x) i)) := by
  rw [stl_V (d := d) rfl rfl (fun _ => rfl)]
  simp only [reckV]
  try rfl

theorem stl_nilCheck {x : Operand} {s : AS} : stl T ⟨some d, .nilCheck x, ty, pos, aft, g⟩ s = toDL d s ((rNil (s.ev x))) := by
  rw [stl_V (d := d) rfl rfl (fun _ => rfl)]
  simp only [reckV]
  try rfl

theorem stl_build {t : Nat} {ps : List (Nat × Operand)} {s : AS} : stl T ⟨some d, .build t ps.toArray, ty, pos, aft, g⟩ s = toDL d s (noLog (rMk T t (evP s ps))) := by
  rw [evP_eq]
  rw [stl_V (d := d) rfl rfl (fun _ => rfl)]
  simp only [reckV]
  try rfl

theorem stl_len {x : Operand} {t : Nat} {s : AS} : stl T ⟨some d, .call ⟨.builtin .len, #[x], #[t]⟩, ty, pos, aft, g⟩ s = toDL d s ((rLen T s t (s.ev x))) := by
  rw [stl_V (d := d) rfl rfl (fun _ => rfl)]
  simp only [reckV]
  try rfl

theorem stl_min {x y : Operand} {ts : Array Nat} {s : AS} : stl T ⟨some d, .call ⟨.builtin .min, #[x, y], ts⟩, ty, pos, aft, g⟩ s = toDL d s (noLog (rMin false (s.ev x) (s.ev y))) := by
  rw [stl_V (d := d) rfl rfl (fun _ => rfl)]
  simp only [reckV, rMinMax]
  try rfl

theorem stl_max {x y : Operand} {ts : Array Nat} {s : AS} : stl T ⟨some d, .call ⟨.builtin .max, #[x, y], ts⟩, ty, pos, aft, g⟩ s = toDL d s (noLog (rMin true (s.ev x) (s.ev y))) := by
  rw [stl_V (d := d) rfl rfl (fun _ => rfl)]
  simp only [reckV, rMinMax]
  try rfl

theorem stl_load {t : Nat} {x : Operand} {s : AS} : stl T ⟨some d, .load t x, ty, pos, aft, g⟩ s = (match rLoad T s t (s.ev x) with | some y => toDL d s (some y) | none => toEL (some d) s (rLoadOwn T s t (s.ev x))) := by
  cases h : rLoad T s t (s.ev x) with
  | some y => rw [stl_V (o := ⟨some d, .load t x, ty, pos, aft, g⟩) (d := d) rfl (y := some y) h (fun h => by cases h)]
  | none => rw [stl_W (by exact h)]; rfl

theorem stl_store {t : Nat} {p x : Operand} {s : AS} {d : Option Nat} : stl T ⟨d, .store t p x, ty, pos, aft, g⟩ s = toEL d s ((rStore T s t (s.ev p) (s.ev x)).map fun y => { val := .tup [], sets := y.1, log := y.2 }) := by
  rw [stl_W rfl]; rfl
theorem stl_alloc {t : Nat} {s : AS} : stl T ⟨some d, .alloc t, ty, pos, aft, g⟩ s = toEL (some d) s ((zeroA T t).bind fun z => (rBox T t z).map fun cs => newE (8 * d) (.one (.ptr (8 * d) 1 0 0)) (.box t cs)) := by
  rw [stl_W rfl]; rfl
theorem stl_box {t : Nat} {x : Operand} {s : AS} : stl T ⟨some d, .box t x, ty, pos, aft, g⟩ s = toEL (some d) s ((rBox T t (s.ev x)).map fun cs => newE (8 * d) (.one (.ptr (8 * d) 1 0 0)) (.box t cs)) := by
  rw [stl_W rfl]; rfl
theorem stl_buildSlice {t len : Nat} {ps : List (Nat × Operand)} {s : AS} : stl T ⟨some d, .buildSlice t len ps.toArray, ty, pos, aft, g⟩ s = toEL (some d) s (if numbered 0 ps = true then (rBuild T t len (evQ s ps)).map fun ob => newE (8 * d) (.one (.ref (8 * d))) ob else none) := by
  rw [evQ_eq]
  rw [stl_W rfl]
  simp only [reckW, newId, Option.getD_some, List.map_map]
  rfl
theorem stl_makeSlice {t : Nat} {l c : Operand} {s : AS} : stl T ⟨some d, .makeSlice t l c, ty, pos, aft, g⟩ s = toEL (some d) s ((rMake T t (s.ev l) (s.ev c)).map fun ob => newE (8 * d) (.one (.ref (8 * d))) ob) := by
  rw [stl_W rfl]; rfl
theorem stl_append {t : Nat} {x y : Operand} {s : AS} : stl T ⟨some d, .call ⟨.builtin .append, #[x, y], #[t, t]⟩, ty, pos, aft, g⟩ s = toEL (some d) s (rAppend T s t (8 * d) (s.ev x) (s.ev y)) := by
  rw [stl_W rfl]
  simp only [reckW, newId, Option.getD_some, if_true]

end

attribute [go_sem] stl_move stl_assign stl_pick stl_binOp stl_unOp stl_convert stl_slice stl_fieldAddr stl_field stl_indexAddr stl_index stl_extract stl_nilCheck stl_build stl_len stl_min stl_max stl_load stl_store stl_alloc stl_box stl_buildSlice stl_makeSlice stl_append
attribute [go_sem] toDL toEL noLog

end Go.Eng
