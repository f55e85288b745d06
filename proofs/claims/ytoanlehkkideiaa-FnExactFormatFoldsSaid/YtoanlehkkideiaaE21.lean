/- The engine, part 21: each operation's step as an equation, for the reckoning of states. -/
import Derived.Test.YtoanlehkkideiaaE20
set_option linter.unusedVariables false
namespace Go.Eng
open Go Go.RowKit

section
variable {T : Tys} {n : Nat} {env : List (Nat × AV)} {H : List (Nat × Option Obj)} {used : List Nat} {d : Nat} {ty : Nat} {pos : String} {aft : Array Edge} {g : Option (Nat × Bool)}

/-- The values of a literal's parts. -/
def evP (s : AS) : List (Nat × Operand) → List (Nat × AV)
  | [] => []
  | p :: r => (p.1, s.ev p.2) :: evP s r
def evQ (s : AS) : List (Nat × Operand) → List AV
  | [] => []
  | p :: r => s.ev p.2 :: evQ s r
theorem evP_eq {s : AS} {ps : List (Nat × Operand)} : evP s ps = ps.map fun p => (p.1, s.ev p.2) := by
  induction ps with
  | nil => rfl
  | cons p r ih => simp [evP, ih]
theorem evQ_eq {s : AS} {ps : List (Nat × Operand)} : evQ s ps = ps.map fun p => s.ev p.2 := by
  induction ps with
  | nil => rfl
  | cons p r ih => simp [evQ, ih]

/-- A value goes to its slot. -/
def toD (d : Nat) (s : AS) (y : Option AV) : Option AS :=
  if d < s.n then y.map fun v => ⟨s.n, (d, v) :: s.env, s.H, s.used⟩ else none

/-- An effect upon a state. -/
def toE (d : Option Nat) (s : AS) (y : Option Eff) : Option AS :=
  if (match d with | some d => decide (d < s.n) | none => true) = true then y.bind fun e => if freshB s e = true then some ⟨s.n, putD d e.val s.env, e.sets ++ s.H, e.fresh ++ s.used⟩ else none else none

theorem stp_V {o : Oper} {s : AS} {y : Option (AV × List Nat)} (hd : o.dst = some d) (h : reckV T s o.op = y) (hn : y = none → reckW T s o = none) : stp T o s = toD d s (y.map (·.1)) := by
  unfold stp reck Oper.dstOk toD
  rw [hd, h]
  by_cases hlt : d < s.n
  · simp only [hlt, decide_true, if_true]
    cases y with
    | none => rw [hn rfl]; rfl
    | some y => simp [freshB, AS.app, hd, putD]
  · simp [hlt]

theorem stp_W {o : Oper} {s : AS} (h : reckV T s o.op = none) : stp T o s = toE o.dst s (reckW T s o) := by
  unfold stp reck Oper.dstOk toE
  rw [h]
  cases hd : o.dst with
  | none => simp [AS.app, hd]
  | some d =>
    by_cases hlt : d < s.n
    · simp [hlt, AS.app, hd]
    · simp [hlt]

theorem map_fst {y : Option AV} : (y.map fun v => (v, ([] : List Nat))).map (·.1) = y := by cases y <;> rfl

theorem stp_move {x : Operand} {s : AS} : stp T ⟨some d, .move x, ty, pos, aft, g⟩ s = toD d s (some (s.ev x)) := by
  rw [stp_V (d := d) rfl rfl (fun _ => rfl)]
  simp only [reckV]
  try (first | rfl | rw [map_fst])

theorem stp_assign {x : Operand} {s : AS} : stp T ⟨some d, .assign x, ty, pos, aft, g⟩ s = toD d s (some (s.ev x)) := by
  rw [stp_V (d := d) rfl rfl (fun _ => rfl)]
  simp only [reckV]
  try (first | rfl | rw [map_fst])

theorem stp_pick {c x y : Operand} {s : AS} : stp T ⟨some d, .pick c x y, ty, pos, aft, g⟩ s = toD d s (rPick (s.ev c) (s.ev x) (s.ev y)) := by
  rw [stp_V (d := d) rfl rfl (fun _ => rfl)]
  simp only [reckV]
  try (first | rfl | rw [map_fst])

theorem stp_binOp {op : BinOp} {t yt : Nat} {x y : Operand} {s : AS} : stp T ⟨some d, .binOp op t x y yt, ty, pos, aft, g⟩ s = toD d s (rBin T op t (s.ev x) (s.ev y)) := by
  rw [stp_V (d := d) rfl rfl (fun _ => rfl)]
  simp only [reckV]
  try (first | rfl | rw [map_fst])

theorem stp_unOp {op : UnOp} {t : Nat} {x : Operand} {s : AS} : stp T ⟨some d, .unOp op t x, ty, pos, aft, g⟩ s = toD d s (rUn op (s.ev x)) := by
  rw [stp_V (d := d) rfl rfl (fun _ => rfl)]
  simp only [reckV]
  try (first | rfl | rw [map_fst])

theorem stp_convert {t t2 : Nat} {x : Operand} {s : AS} : stp T ⟨some d, .convert t t2 x, ty, pos, aft, g⟩ s = toD d s ((rConv T s t t2 (s.ev x)).map (·.1)) := by
  rw [stp_V (d := d) rfl rfl (fun _ => rfl)]
  simp only [reckV]
  try (first | rfl | rw [map_fst])

theorem stp_slice {t : Nat} {x : Operand} {lo hi : Option Operand} {s : AS} : stp T ⟨some d, .slice t x lo hi none, ty, pos, aft, g⟩ s = toD d s ((rSliceAll T s t x lo hi).map (·.1)) := by
  rw [stp_V (d := d) rfl rfl (fun _ => rfl)]
  simp only [reckV]
  try (first | rfl | rw [map_fst])

theorem stp_fieldAddr {t f : Nat} {x : Operand} {s : AS} : stp T ⟨some d, .fieldAddr t x f, ty, pos, aft, g⟩ s = toD d s (rFieldAddr T t (s.ev x) f) := by
  rw [stp_V (d := d) rfl rfl (fun _ => rfl)]
  simp only [reckV]
  try (first | rfl | rw [map_fst])

theorem stp_field {t f : Nat} {x : Operand} {s : AS} : stp T ⟨some d, .field t x f, ty, pos, aft, g⟩ s = toD d s (rField T t (s.ev x) f) := by
  rw [stp_V (d := d) rfl rfl (fun _ => rfl)]
  simp only [reckV]
  try (first | rfl | rw [map_fst])

theorem stp_indexAddr {t : Nat} {x i : Operand} {s : AS} : stp T ⟨some d, .indexAddr t x i, ty, pos, aft, g⟩ s = toD d s ((rIndexAddr T s t (s.ev x) (s.ev i)).map (·.1)) := by
  rw [stp_V (d := d) rfl rfl (fun _ => rfl)]
  simp only [reckV]
  try (first | rfl | rw [map_fst])

theorem stp_index {t : Nat} {x i : Operand} {s : AS} : stp T ⟨some d, .index t x i, ty, pos, aft, g⟩ s = toD d s (rIndex T t (s.ev x) (s.ev i)) := by
  rw [stp_V (d := d) rfl rfl (fun _ => rfl)]
  simp only [reckV]
  try (first | rfl | rw [map_fst])

theorem stp_extract {i : Nat} {x : Operand} {s : AS} : stp T ⟨some d, .extract x i, ty, pos, aft, g⟩ s = toD d s (rExtract (s.ev x) i) := by
  rw [stp_V (d := d) rfl rfl (fun _ => rfl)]
  simp only [reckV]
  try (first | rfl | rw [map_fst])

theorem stp_nilCheck {x : Operand} {s : AS} : stp T ⟨some d, .nilCheck x, ty, pos, aft, g⟩ s = toD d s ((rNil (s.ev x)).map (·.1)) := by
  rw [stp_V (d := d) rfl rfl (fun _ => rfl)]
  simp only [reckV]
  try (first | rfl | rw [map_fst])

theorem stp_build {t : Nat} {ps : List (Nat × Operand)} {s : AS} : stp T ⟨some d, .build t ps.toArray, ty, pos, aft, g⟩ s = toD d s (rMk T t (evP s ps)) := by
  rw [evP_eq]
  rw [stp_V (d := d) rfl rfl (fun _ => rfl)]
  simp only [reckV]
  try (first | rfl | rw [map_fst])

theorem stp_len {x : Operand} {t : Nat} {s : AS} : stp T ⟨some d, .call ⟨.builtin .len, #[x], #[t]⟩, ty, pos, aft, g⟩ s = toD d s ((rLen T s t (s.ev x)).map (·.1)) := by
  rw [stp_V (d := d) rfl rfl (fun _ => rfl)]
  simp only [reckV]
  try (first | rfl | rw [map_fst])

theorem stp_min {x y : Operand} {ts : Array Nat} {s : AS} : stp T ⟨some d, .call ⟨.builtin .min, #[x, y], ts⟩, ty, pos, aft, g⟩ s = toD d s (rMin false (s.ev x) (s.ev y)) := by
  rw [stp_V (d := d) rfl rfl (fun _ => rfl)]
  simp only [reckV, rMinMax]
  try (first | rfl | rw [map_fst])

theorem stp_max {x y : Operand} {ts : Array Nat} {s : AS} : stp T ⟨some d, .call ⟨.builtin .max, #[x, y], ts⟩, ty, pos, aft, g⟩ s = toD d s (rMin true (s.ev x) (s.ev y)) := by
  rw [stp_V (d := d) rfl rfl (fun _ => rfl)]
  simp only [reckV, rMinMax]
  try (first | rfl | rw [map_fst])

theorem stp_load {t : Nat} {x : Operand} {s : AS} : stp T ⟨some d, .load t x, ty, pos, aft, g⟩ s = (match rLoad T s t (s.ev x) with | some y => toD d s (some y.1) | none => toE (some d) s (rLoadOwn T s t (s.ev x))) := by
  cases h : rLoad T s t (s.ev x) with
  | some y => rw [stp_V (o := ⟨some d, .load t x, ty, pos, aft, g⟩) (d := d) rfl (y := some y) h (fun h => by cases h)]; rfl
  | none => rw [stp_W (by exact h)]; rfl

theorem stp_store {t : Nat} {p x : Operand} {s : AS} {d : Option Nat} : stp T ⟨d, .store t p x, ty, pos, aft, g⟩ s = toE d s ((rStore T s t (s.ev p) (s.ev x)).map fun y => { val := .tup [], sets := y.1, log := y.2 }) := by
  rw [stp_W rfl]; rfl
theorem stp_alloc {t : Nat} {s : AS} : stp T ⟨some d, .alloc t, ty, pos, aft, g⟩ s = toE (some d) s ((zeroA T t).bind fun z => (rBox T t z).map fun cs => newE (8 * d) (.one (.ptr (8 * d) 1 0 0)) (.box t cs)) := by
  rw [stp_W rfl]; rfl
theorem stp_box {t : Nat} {x : Operand} {s : AS} : stp T ⟨some d, .box t x, ty, pos, aft, g⟩ s = toE (some d) s ((rBox T t (s.ev x)).map fun cs => newE (8 * d) (.one (.ptr (8 * d) 1 0 0)) (.box t cs)) := by
  rw [stp_W rfl]; rfl
theorem stp_buildSlice {t len : Nat} {ps : List (Nat × Operand)} {s : AS} : stp T ⟨some d, .buildSlice t len ps.toArray, ty, pos, aft, g⟩ s = toE (some d) s (if numbered 0 ps = true then (rBuild T t len (evQ s ps)).map fun ob => newE (8 * d) (.one (.ref (8 * d))) ob else none) := by
  rw [evQ_eq]
  rw [stp_W rfl]
  simp only [reckW, newId, Option.getD_some, List.map_map]
  rfl
theorem stp_makeSlice {t : Nat} {l c : Operand} {s : AS} : stp T ⟨some d, .makeSlice t l c, ty, pos, aft, g⟩ s = toE (some d) s ((rMake T t (s.ev l) (s.ev c)).map fun ob => newE (8 * d) (.one (.ref (8 * d))) ob) := by
  rw [stp_W rfl]; rfl
theorem stp_append {t : Nat} {x y : Operand} {s : AS} : stp T ⟨some d, .call ⟨.builtin .append, #[x, y], #[t, t]⟩, ty, pos, aft, g⟩ s = toE (some d) s (rAppend T s t (8 * d) (s.ev x) (s.ev y)) := by
  rw [stp_W rfl]
  simp only [reckW, newId, Option.getD_some, if_true]

end

attribute [go_sem] stp_move stp_assign stp_pick stp_binOp stp_unOp stp_convert stp_slice stp_fieldAddr stp_field stp_indexAddr stp_index stp_extract stp_nilCheck stp_build stp_len stp_min stp_max stp_load stp_store stp_alloc stp_box stp_buildSlice stp_makeSlice stp_append
attribute [go_sem] intsLen intsAt w64Id if_pos List.getElem?_cons_zero List.getElem?_cons_succ
attribute [go_sem] evP evQ toD toE AS.ev AS.get look putD constAV rPick rBin abin rUn aun rExtract rLen rIndexAddr rFieldAddr rField rLoad rMin AS.obj lookO TI.ok kOf freshB newE AS.keep gsay guardAV entryS numb

end Go.Eng
