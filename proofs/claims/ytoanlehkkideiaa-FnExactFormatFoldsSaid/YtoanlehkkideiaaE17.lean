/- The engine, part 17: struct literals; strings; conversions. -/
import Derived.Test.YtoanlehkkideiaaE16
import Derived.Laws.Tables
import Derived.Laws.BytesString
import Derived.DataBytes
set_option linter.unusedVariables false
namespace Go.Eng
open Go Go.RowKit

section
variable {N0 : Nat} {W0 : World} {s s' : AS} {β β' : Plc} {a : Act} {w w' : World} {P : Program} {T : Tys}

/-! ### Struct literals -/

def rFill : List CV → List (Nat × AV) → Option (List CV)
  | cs, [] => some cs
  | cs, (i, .one c) :: r => if i < cs.length then rFill (cs.set i c) r else none
  | _, _ => none

/-- A struct literal: of zeros, with these parts. -/
def rMk (T : Tys) (t : Nat) (ps : List (Nat × AV)) : Option AV :=
  match T t with
  | .st fs => (rFill (fs.map (zeroC T)) ps).map .agg
  | _ => none

theorem foldl_one (c : Value) (off : Nat) (arr : Array Value) : ((#[c] : Array Value).zipIdx.foldl (fun cs (p : Value × Nat) => cs.setIfInBounds (off + p.2) p.1) arr).toList = arr.toList.set off c := by
  rw [← Array.foldl_toList]
  simp

theorem rFill_ok {B : Nat} {F : Nat → Prop} (place : Nat → Option (Nat × Nat)) {n : Nat} (hpl : ∀ i, i < n → place i = some (i, 1)) : ∀ {ps : List (Nat × AV)} {pv : List (Nat × Value)} {cs ds : List CV} {us : Array Value},
    rFill cs ps = some ds → cs.length = n → All2 (CR B β F w) cs us.toList → All2 (fun (p : Nat × AV) (q : Nat × Value) => p.1 = q.1 ∧ AR B β F w p.2 q.2) ps pv →
    ∃ out, Instr.fill place us pv = some out ∧ All2 (CR B β F w) ds out.toList
  | [], [], cs, ds, us, h, _, hc, _ => by cases h; exact ⟨us, rfl, hc⟩
  | (i, av) :: ps, (i', v) :: pv, cs, ds, us, h, hn, hc, ⟨⟨hi, hv⟩, h2⟩ => by
    simp only at hi
    subst hi
    cases av with
    | one c =>
      simp only [rFill] at h
      split at h
      · rename_i hlt
        have hv' : CR B β F w c v := hv
        have hcells := cells_one (cr_one hv')
        have hl : cs.length = us.size := by have := hc.length; simpa using this
        have hset := foldl_one v i us
        obtain ⟨out, h3, h4⟩ := rFill_ok place hpl (us := (#[v] : Array Value).zipIdx.foldl (fun cs (p : Value × Nat) => cs.setIfInBounds (i + p.2) p.1) us) h (by simpa using hn) (by rw [hset]; exact hc.set i hv') h2
        refine ⟨out, ?_, h4⟩
        simp only [Instr.fill, hpl i (by omega), hcells]
        rw [if_neg (by simp; omega)]
        exact h3
      · cases h
    | _ => simp [rFill] at h
  | [], _ :: _, _, _, _, _, _, _, h => h.elim
  | _ :: _, [], _, _, _, _, _, _, h => h.elim

theorem places_ok (hT : TOk P T) : ∀ {l : List Field}, (∀ fd ∈ l, (T fd.type).one = true) → l.mapM (fun f => (P.info? f.type).map fun i => (f.offset, i.size)) = some (l.map fun fd => (fd.offset, 1))
  | [], _ => rfl
  | fd :: l, h => by
    obtain ⟨i, h1, h2⟩ := hT.size_one (h fd (by simp)) (default : World)
    simp only [List.mapM_cons, Option.bind_eq_bind, Option.pure_def, h1, Option.map_some, Option.bind_some, places_ok hT (l := l) (fun f hf => h f (by simp [hf])), h2, List.map_cons]

theorem rMk_ok (hT : TOk P T) {B : Nat} {F : Nat → Prop} {t : Nat} {ps : List (Nat × AV)} {pv : List (Nat × Value)} {y : AV} (h : rMk T t ps = some y) (hp : All2 (fun (p : Nat × AV) (q : Nat × Value) => p.1 = q.1 ∧ AR B β F w p.2 q.2) ps pv) :
    ∃ v, (Instr.build t pv.toArray).run P w = .ok v w ∧ AR B β F w y v := by
  unfold rMk at h
  split at h
  · rename_i fs hst
    simp only [Option.map_eq_some_iff] at h
    obtain ⟨ds, hds, rfl⟩ := h
    have := hT t
    rw [hst] at this
    obtain ⟨hpos, ⟨arr, hu, hsz, hfl⟩, _, _, bytes, hb, hi⟩ := this
    obtain ⟨i, h1, h2, h3, h4⟩ := hi.info
    have hpl := places_ok hT (l := arr.toList) (fun fd hfd => by
      obtain ⟨j, hj, hjj⟩ := List.getElem_of_mem hfd
      have hj' : j < fs.length := by rw [← hsz]; simpa using hj
      obtain ⟨fd', g1, g2, g3, _, g5⟩ := hfl j fs[j] (List.getElem?_eq_getElem hj')
      have hjs : j < arr.size := by simpa using hj
      rw [Array.getElem?_eq_getElem hjs] at g1
      cases g1
      rw [← hjj]
      simp only [Array.getElem_toList]
      rw [g2]; exact g5)
    have hplace : ∀ j, j < fs.length → ((arr.toList.map fun fd => (fd.offset, 1)).toArray[j]? : Option (Nat × Nat)) = some (j, 1) := by
      intro j hj
      obtain ⟨fd', g1, g2, g3, _, g5⟩ := hfl j fs[j] (List.getElem?_eq_getElem hj)
      have hjs : j < arr.size := by omega
      rw [Array.getElem?_eq_getElem hjs] at g1
      simp only [Option.some.injEq] at g1
      simp [hjs, g1, g3]
    have hz := zeros_ok (T := T) (w := w) (β := β) (B := B) (F := F) fs
    obtain ⟨out, ho1, ho2⟩ := rFill_ok (fun x => (arr.toList.map fun fd => (fd.offset, 1)).toArray[x]?) (n := fs.length) hplace (us := (fs.map fun f => zeroV (zeroC T f)).toArray) hds (by simp) (by simpa using hz) hp
    refine ⟨.agg out, run_build w t pv.toArray out ?_, out.toList, by simp, ho2⟩
    unfold Program.built
    simp only [h1, hu, h4, hpl]
    exact ho1
  · cases h

/-! ### Strings -/

def rIndex (T : Tys) (t : Nat) (x i : AV) : Option AV :=
  match T t, x, i with
  | .str, .one (.sc (.str b)), .one (.sc (.int n)) => if 0 ≤ n then (b[n.toNat]?).map fun c => .one (.sc (.u8 c.toNat)) else none
  | _, _, _ => none

theorem rIndex_ok (hT : TOk P T) {B : Nat} {F : Nat → Prop} {t : Nat} {x i y : AV} {xv iv : Value} (h : rIndex T t x i = some y) (hx : AR B β F w x xv) (hi : AR B β F w i iv) : ∃ u, (Instr.index t xv iv).run P w = .ok u w ∧ AR B β F w y u := by
  unfold rIndex at h
  split at h
  · rename_i b n hst
    have hx' : xv = .string b := hx
    have hi' : iv = .int .i64 n := hi
    subst hx'; subst hi'
    have := hT t
    rw [hst] at this
    split at h
    · rename_i h0
      simp only [Option.map_eq_some_iff] at h
      obtain ⟨c, hc, rfl⟩ := h
      refine ⟨.int .u8 c.toNat, ?_, rfl⟩
      simp [Instr.index, asIntOf, run_underlying this.1, h0, hc]
    · cases h
  · cases h

/-- Part of a string. -/
def rCutS (T : Tys) (t : Nat) (x : AV) (lo hi : Option AV) : Option AV :=
  match T t, x with
  | .str, .one (.sc (.str b)) =>
    match (match lo with | none => some (0 : Int) | some (.one (.sc (.int l))) => some l | _ => none), (match hi with | none => some (b.size : Int) | some (.one (.sc (.int h))) => some h | _ => none) with
    | some l, some h => if 0 ≤ l ∧ l ≤ h ∧ h ≤ b.size then some (.one (.sc (.str (b.extract l.toNat h.toNat)))) else none
    | _, _ => none
  | _, _ => none

theorem rCutS_ok (hT : TOk P T) {B : Nat} {F : Nat → Prop} {t : Nat} {x y : AV} {lo hi : Option AV} {xv : Value} {lov hiv : Option Value} (h : rCutS T t x lo hi = some y) (hx : AR B β F w x xv) (hlo : optVal B β F w lo lov) (hhi : optVal B β F w hi hiv) :
    ∃ u, (Instr.sliceAt t xv lov hiv none).run P w = .ok u w ∧ AR B β F w y u := by
  unfold rCutS at h
  split at h
  · rename_i b hst
    have hx' : xv = .string b := hx
    subst hx'
    have hu := hT t
    rw [hst] at hu
    split at h
    · rename_i l hh hl hhh
      split at h
      · rename_i hc
        cases h
        obtain ⟨c1, c2, c3⟩ := hc
        have hlo' : (lov = none ∧ l = 0) ∨ lov = some (.int .i64 l) := by
          cases lo with
          | none =>
            cases lov with
            | none => left; simp at hl; exact ⟨rfl, hl.symm⟩
            | some _ => exact hlo.elim
          | some lo =>
            cases lov with
            | none => exact hlo.elim
            | some lov =>
              right
              have hlo2 : AR B β F w lo lov := hlo
              split at hl
              · rename_i he; cases he
              · rename_i l' he; cases he; cases hl; rw [show lov = _ from hlo2]; rfl
              · cases hl
        have hhi' : (hiv = none ∧ hh = (b.size : Int)) ∨ hiv = some (.int .i64 hh) := by
          cases hi with
          | none =>
            cases hiv with
            | none => left; simp at hhh; exact ⟨rfl, hhh.symm⟩
            | some _ => exact hhi.elim
          | some hi =>
            cases hiv with
            | none => exact hhi.elim
            | some hiv =>
              right
              have hhi2 : AR B β F w hi hiv := hhi
              split at hhh
              · rename_i he; cases he
              · rename_i l' he; cases he; cases hhh; rw [show hiv = _ from hhi2]; rfl
              · cases hhh
        refine ⟨.string (b.extract l.toNat hh.toNat), ?_, rfl⟩
        have hb : (Instr.sliceBounds false b.size b.size lov hiv none).run P w = .ok (l.toNat, hh.toNat, b.size) w := by
          rcases hhi' with ⟨rfl, rfl⟩ | rfl <;> rcases hlo' with ⟨rfl, rfl⟩ | rfl
          · simp [Instr.sliceBounds]
          · simp [Instr.sliceBounds, run_sliceBound (P := P) w .i64 l b.size .sliceB (by omega) (by omega)]
          · simp [Instr.sliceBounds, run_sliceBound (P := P) w .i64 hh b.size .sliceAlen (by omega) (by omega)]
          · simp [Instr.sliceBounds, run_sliceBound (P := P) w .i64 hh b.size .sliceAlen (by omega) (by omega), run_sliceBound (P := P) w .i64 l hh.toNat .sliceB (by omega) (by omega)]
        rw [run_sliceAt_string w t _ lov hiv none hu.1]
        simp [Instr.slice, run_underlying hu.1, hb]
      · cases h
    · cases h
  · cases h

/-! ### Conversions -/

/-- Integers, and the bytes of a row to a string. -/
def bytesOf : List El → Option (List UInt8)
  | [] => some []
  | [.u8 n] :: r => (bytesOf r).map (UInt8.ofNat n.toNat :: ·)
  | _ => none

def rConv (T : Tys) (s : AS) (src dst : Nat) (x : AV) : Option (AV × List Nat) :=
  match T src, T dst, x with
  | .int, .u8, .one (.sc (.int n)) => some (.one (.sc (.u8 (w8 n))), [])
  | .u8, .int, .one (.sc (.u8 n)) => some (.one (.sc (.int (w64 n))), [])
  | .sl e, .str, .one (.ref id) => match T e, s.obj id with
    | .u8, some (.flat e' 1 xs) => if e' = e then (bytesOf xs).map fun b => (.one (.sc (.str ⟨b.toArray⟩)), [id]) else none
    | _, _ => none
  | _, _, _ => none

theorem bytesOf_ok : ∀ {xs : List El} {b : List UInt8}, bytesOf xs = some b → ∃ ns : List Int, cellsOf xs = ns.map (Value.int .u8) ∧ b = ns.map (fun n => UInt8.ofNat n.toNat) ∧ ns.length = xs.length
  | [], b, h => by cases h; exact ⟨[], rfl, rfl, rfl⟩
  | x :: xs, b, h => by
    unfold bytesOf at h
    split at h
    · rename_i he; cases he
    · rename_i n r he
      cases he
      simp only [Option.map_eq_some_iff] at h
      obtain ⟨l, hl, rfl⟩ := h
      obtain ⟨ns, h1, h2, h3⟩ := bytesOf_ok hl
      refine ⟨n :: ns, ?_, by simp [h2], by simp [h3]⟩
      simp only [cellsOf, List.flatten_cons, List.map_append] at h1 ⊢
      rw [h1]; rfl
    · cases h

theorem foldl_push (ns : List Int) (b : ByteArray) : ns.foldl (fun r n => r.push (UInt8.ofNat n.toNat)) b = ⟨(b.data.toList ++ ns.map fun n => UInt8.ofNat n.toNat).toArray⟩ := by
  induction ns generalizing b with
  | nil => simp
  | cons n ns ih => rw [List.foldl_cons, ih]; simp [ByteArray.push]

theorem rConv_ok (hT : TOk P T) (r : Rel N0 W0 s β a w) {src dst : Nat} {x : AV} {y : AV × List Nat} {xv : Value} (h : rConv T s src dst x = some y) (hx : AR N0 β (Free s β w) w x xv) :
    ∃ u, (convert src dst xv).run P w = .ok u w ∧ AR N0 β (Free s β w) w y.1 u := by
  unfold rConv at h
  split at h
  · rename_i n h1 h2
    cases h
    have hx' : xv = .int .i64 n := hx
    subst hx'
    have t1 := hT src
    have t2 := hT dst
    rw [h1] at t1; rw [h2] at t2
    exact ⟨.int .u8 (w8 n), by simp [convert, run_underlying t1.1, run_underlying t2.1, Conv.intToInt], rfl⟩
  · rename_i n h1 h2
    cases h
    have hx' : xv = .int .u8 n := hx
    subst hx'
    have t1 := hT src
    have t2 := hT dst
    rw [h1] at t1; rw [h2] at t2
    exact ⟨.int .i64 (w64 n), by simp [convert, run_underlying t1.1, run_underlying t2.1, Conv.intToInt], rfl⟩
  · rename_i e id h1 h2
    have t1 := hT src
    have t2 := hT dst
    rw [h1] at t1; rw [h2] at t2
    split at h
    · rename_i e' xs he ho
      split at h
      · rename_i hee
        subst hee
        simp only [Option.map_eq_some_iff] at h
        obtain ⟨b, hb, rfl⟩ := h
        have t3 := hT e'
        rw [he] at t3
        obtain ⟨pv, vs, hp, hat, _⟩ := r.obj id _ ho
        obtain ⟨vs', hv, h1c⟩ := hx
        rw [hp] at hv; cases hv
        obtain ⟨ns, n1, n2, n3⟩ := bytesOf_ok hb
        refine ⟨.string ⟨b.toArray⟩, ?_, rfl⟩
        obtain ⟨p, cap, rfl, hcap⟩ := owns_len hat.1
        rw [run_convert_bytes_string w src dst e' p xs.length cap t1.1 t3.1 t2.1]
        cases p with
        | none =>
          rcases hat.1.2 with ⟨_, h0⟩ | ⟨g, cap', cur, hh, _⟩
          · have : xs = [] := List.eq_nil_of_length_eq_zero h0
            subst this
            cases hb
            rfl
          · cases hh
        | some ad =>
          have hl := run_bytesToString (P := P) w ad xs.length cap ns (by
            rw [← n1]
            have hlen : (cellsOf xs).length = xs.length := by rw [n1, List.length_map, n3]
            have := run_loadCells_list (P := P) w ad (cellsOf xs) (fun j u hu => by
              obtain ⟨b', hb', hc, _⟩ := owns_cell hat.1 hu
              cases hb'
              rw [Addr.add_lit, Nat.zero_add]; exact hc)
            rw [hlen] at this
            exact this)
          rw [hl, foldl_push, n2]
          simp
      · cases h
    · cases h
  · cases h

end
end Go.Eng
