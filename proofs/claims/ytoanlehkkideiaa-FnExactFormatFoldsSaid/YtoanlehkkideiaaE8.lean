/- The engine, part 8: several new objects at once; loads; contracts of functions; a call. -/
import Derived.Test.YtoanlehkkideiaaE7
set_option linter.unusedVariables false
namespace Go.Eng
open Go Go.RowKit

section
variable {N0 : Nat} {W0 : World} {s s' : AS} {β β' : Plc} {a : Act} {w w' : World} {P : Program} {T : Tys}

abbrev News := List (Obj × Value × List Value)

/-- The new objects bear the numbers base, base + 1, .. -/
def newH (base : Nat) : News → List (Nat × Option Obj)
  | [] => []
  | x :: r => (base, some x.1) :: newH (base + 1) r

def objH (base : Nat) : List Obj → List (Nat × Option Obj)
  | [] => []
  | x :: r => (base, some x) :: objH (base + 1) r

def idsFrom (base : Nat) : Nat → List Nat
  | 0 => []
  | n + 1 => base :: idsFrom (base + 1) n

theorem mem_idsFrom {base n i : Nat} : i ∈ idsFrom base n ↔ base ≤ i ∧ i < base + n := by
  induction n generalizing base with
  | zero => simp only [idsFrom, List.not_mem_nil, false_iff]; omega
  | succ n ih => simp only [idsFrom, List.mem_cons, ih]; omega

theorem lookO_objH (objs : List Obj) : ∀ (base i : Nat) (H : List (Nat × Option Obj)), lookO (objH base objs ++ H) i = if base ≤ i ∧ i < base + objs.length then objs[i - base]? else lookO H i := by
  induction objs with
  | nil =>
    intro base i H
    have : ¬ (base ≤ i ∧ i < base + ([] : List Obj).length) := by simp
    rw [if_neg (by simp only [List.length_nil]; omega)]; rfl
  | cons x r ih =>
    intro base i H
    simp only [objH, List.cons_append, lookO_cons, ih, List.length_cons]
    by_cases h : base = i
    · subst h; simp
    · rw [if_neg h]
      by_cases h2 : base + 1 ≤ i ∧ i < base + 1 + r.length
      · rw [if_pos h2, if_pos (by omega)]
        have : i - base = (i - (base + 1)) + 1 := by omega
        rw [this, List.getElem?_cons_succ]
      · rw [if_neg h2, if_neg (by omega)]

def Plc.add (β : Plc) (base : Nat) (ps : List (Value × List Value)) : Plc := fun i => if base ≤ i ∧ i < base + ps.length then ps[i - base]? else β i

/-- New objects, in blocks that were not there. -/
theorem Rel.allocL (r : Rel N0 W0 s β a w) (h : Below w.heap.size w w') {base : Nat} {objs : List Obj} {ps : List (Value × List Value)} (hl : ps.length = objs.length)
    (hid : ∀ i ∈ idsFrom base objs.length, i ∉ s.used)
    (hat : ∀ (j : Nat) (o : Obj) (p : Value × List Value), objs[j]? = some o → ps[j]? = some p → (∀ β' F, (∀ b, Free s β w b → F b) → (∀ i x, β i = some x → β' i = some x) → (∀ j x, ps[j]? = some x → β' (base + j) = some x) → ObjAt N0 β' F w' p.1 p.2 o) ∧ ∀ b, blks o.own p.1 p.2 b → w.heap.size ≤ b ∧ b < w'.heap.size)
    (hdj : ∀ (j j' : Nat) (o o' : Obj) (p p' : Value × List Value) (b : Nat), objs[j]? = some o → objs[j']? = some o' → ps[j]? = some p → ps[j']? = some p' → blks o.own p.1 p.2 b → blks o'.own p'.1 p'.2 b → j = j') :
    Rel N0 W0 { s with H := objH base objs ++ s.H, used := idsFrom base objs.length ++ s.used } (β.add base ps) a w' ∧ (∀ i x, β i = some x → (β.add base ps) i = some x) ∧
      (∀ j x, ps[j]? = some x → (β.add base ps) (base + j) = some x) ∧
      Keep (Free s β w) (Free { s with H := objH base objs ++ s.H, used := idsFrom base objs.length ++ s.used } (β.add base ps) w') w w' := by
  have hb : ∀ b, b < w.heap.size → w'.heap[b]? = w.heap[b]? := h.block
  have hsz := h.size
  let S : AS := { s with H := objH base objs ++ s.H, used := idsFrom base objs.length ++ s.used }
  have hobj : ∀ i, S.obj i = if base ≤ i ∧ i < base + objs.length then objs[i - base]? else s.obj i := fun i => lookO_objH objs base i s.H
  have hfr : ∀ i, base ≤ i → i < base + objs.length → β i = none ∧ s.obj i = none := fun i h1 h2 => by
    have := hid i (mem_idsFrom.2 ⟨h1, h2⟩)
    exact ⟨r.dom i this, r.hdom i this⟩
  have hext : ∀ i x, β i = some x → (β.add base ps) i = some x := fun i x hx => by
    unfold Plc.add
    by_cases hi : base ≤ i ∧ i < base + ps.length
    · rw [(hfr i hi.1 (by omega)).1] at hx; cases hx
    · rw [if_neg hi]; exact hx
  have hnew : ∀ j x, ps[j]? = some x → (β.add base ps) (base + j) = some x := fun j x hx => by
    have := (List.getElem?_eq_some_iff.1 hx).1
    unfold Plc.add
    rw [if_pos (by omega), Nat.add_sub_cancel_left]
    exact hx
  have hwhat : ∀ i o, S.obj i = some o → (∃ j p, i = base + j ∧ objs[j]? = some o ∧ ps[j]? = some p ∧ (β.add base ps) i = some p) ∨ (s.obj i = some o ∧ (β.add base ps) i = β i) := by
    intro i o ho
    rw [hobj] at ho
    split at ho
    · rename_i hi
      have hj : i - base < ps.length := by omega
      refine .inl ⟨i - base, ps[i - base], by omega, ho, List.getElem?_eq_getElem hj, ?_⟩
      unfold Plc.add
      rw [if_pos (by omega)]
      exact List.getElem?_eq_getElem hj
    · rename_i hi
      refine .inr ⟨ho, ?_⟩
      unfold Plc.add
      rw [if_neg (by omega)]
  have hheld : ∀ b, b < w.heap.size → ¬ Held s β b → ¬ Held S (β.add base ps) b := by
    rintro b hlt hn ⟨i, o, pv, vs, ho, hp, hbl⟩
    rcases hwhat i o ho with ⟨j, p, rfl, h1, h2, h3⟩ | ⟨h1, h2⟩
    · rw [h3] at hp; cases hp
      have := ((hat j o _ h1 h2).2 b hbl).1
      omega
    · rw [h2] at hp
      exact hn ⟨i, o, pv, vs, h1, hp, hbl⟩
  have hF : ∀ b, Free s β w b → Free S (β.add base ps) w' b := fun b hf => ⟨Nat.lt_of_lt_of_le hf.1 hsz, hheld b hf.1 hf.2⟩
  refine ⟨?_, hext, hnew, fun b hf => ⟨hF b hf, hb b hf.1⟩⟩
  refine r.master (s' := S) (β' := β.add base ps) rfl rfl (r.below.trans (h.mono r.size0)) hsz (fun i pv vs hx => ⟨vs, hext _ _ hx⟩) ?_ (fun b hlt hn => ⟨hb b hlt, hheld b hlt hn⟩) ?_ ?_
  · intro i hi
    have hi' : ¬ (base ≤ i ∧ i < base + objs.length) ∧ i ∉ s.used := by
      have : i ∉ idsFrom base objs.length ∧ i ∉ s.used := by simpa [S] using hi
      exact ⟨fun hh => this.1 (mem_idsFrom.2 hh), this.2⟩
    refine ⟨?_, by rw [hobj, if_neg hi'.1]; exact r.hdom i hi'.2⟩
    unfold Plc.add
    rw [if_neg (by omega)]
    exact r.dom i hi'.2
  · intro i o ho
    rcases hwhat i o ho with ⟨j, p, rfl, h1, h2, h3⟩ | ⟨h1, h2⟩
    · obtain ⟨h4, h5⟩ := hat j o p h1 h2
      exact .inr ⟨p.1, p.2, h3, h4 _ _ hF hext hnew, fun b hbb => ⟨Nat.le_trans r.size0 (h5 b hbb).1, (h5 b hbb).2⟩⟩
    · refine .inl ⟨h1, h2, fun pv vs b hp hbl => ?_⟩
      obtain ⟨pv2, vs2, hp2, _, hr⟩ := r.obj i o h1
      rw [hp] at hp2; cases hp2
      exact hb b (hr b hbl).2
  · intro i1 i2 o1 o2 pv1 vs1 pv2 vs2 b h1 h2 p1 p2 b1 b2
    rcases hwhat i1 o1 h1 with ⟨j1, q1, rfl, a1, a2, a3⟩ | ⟨a1, a2⟩ <;> rcases hwhat i2 o2 h2 with ⟨j2, q2, rfl, c1, c2, c3⟩ | ⟨c1, c2⟩
    · rw [a3] at p1; cases p1
      rw [c3] at p2; cases p2
      have := hdj j1 j2 o1 o2 _ _ b a1 c1 a2 c2 b1 b2
      omega
    · rw [a3] at p1; cases p1
      rw [c2] at p2
      obtain ⟨pv3, vs3, hp3, _, hr⟩ := r.obj i2 o2 c1
      rw [p2] at hp3; cases hp3
      have := ((hat j1 o1 _ a1 a2).2 b b1).1
      have := (hr b b2).2
      omega
    · rw [c3] at p2; cases p2
      rw [a2] at p1
      obtain ⟨pv3, vs3, hp3, _, hr⟩ := r.obj i1 o1 a1
      rw [p1] at hp3; cases hp3
      have := ((hat j2 o2 _ c1 c2).2 b b2).1
      have := (hr b b1).2
      omega
    · rw [a2] at p1; rw [c2] at p2
      exact r.disj i1 i2 o1 o2 pv1 vs1 pv2 vs2 b a1 c1 p1 p2 b1 b2

/-! ### Loads -/

theorem TOk.size_one (hT : TOk P T) {t : Nat} (h : (T t).one = true) (w : World) : ∃ i, P.info? t = some i ∧ i.size = 1 := by
  have := hT t
  cases ht : T t <;> rw [ht] at this h <;> simp [TI.one] at h
  all_goals
    obtain ⟨_, ⟨i, h1, h2, _⟩⟩ := this
    exact ⟨i, h1, h2⟩

theorem TOk.agg_one (hT : TOk P T) {t : Nat} (h : (T t).one = true) (w : World) : (isAgg t).run P w = .ok false w := by
  have := hT t
  cases ht : T t <;> rw [ht] at this h <;> simp [TI.one] at h
  all_goals
    obtain ⟨hu, _⟩ := this
    simp [isAgg, run_underlying hu]

theorem run_load_one (hT : TOk P T) {t : Nat} (h : (T t).one = true) {b o : Nat} {u : Value} (hc : w.cell? ⟨b, o, none⟩ = some u) :
    (Instr.loadAt t (.pointer (some ⟨b, o, none⟩))).run P w = .ok u w := by
  simp [Instr.loadAt, Instr.sureAddr, loadVar, hT.agg_one h w, hc]

theorem run_load_st (hT : TOk P T) {t : Nat} {fs : List Nat} (h : T t = .st fs) {b o : Nat} {us : List Value} (hl : us.length = fs.length)
    (hc : ∀ j u, us[j]? = some u → w.cell? ⟨b, o + j, none⟩ = some u) :
    (Instr.loadAt t (.pointer (some ⟨b, o, none⟩))).run P w = .ok (.agg us.toArray) w := by
  have := hT t
  rw [h] at this
  obtain ⟨_, ⟨arr, hu, _⟩, _, _, bytes, _, i, hi, hsz, _⟩ := this
  have ha : (isAgg t).run P w = .ok true w := by simp [isAgg, run_underlying hu]
  have hs : (sizeOf t).run P w = .ok us.length w := by
    simp [sizeOf, typeInfo, hi, hsz, hl]
  have hcl : (loadCells ⟨b, o, none⟩ us.length).run P w = .ok us.toArray w := run_loadCells_list w ⟨b, o, none⟩ us (fun j v hv => by
    have : (⟨b, o, none⟩ : Addr).add j = ⟨b, o + j, none⟩ := Addr.add_lit _ _ _
    rw [this]; exact hc j v hv)
  simp [Instr.loadAt, Instr.sureAddr, loadVar, ha, hs, hcl]

end
end Go.Eng
