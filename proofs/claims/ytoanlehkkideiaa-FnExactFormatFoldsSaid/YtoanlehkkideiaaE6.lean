/- The engine, part 6: the walk over code; contracts of functions. -/
import Derived.Test.YtoanlehkkideiaaE5
import Derived.Deep.LoopGhost
set_option linter.unusedVariables false
namespace Go.Eng
open Go Go.RowKit

section
variable {N0 : Nat} {W0 : World} {s s' : AS} {β β' : Plc} {a : Act} {w w' : World} {P : Program}

/-- A reckoning of effects, and that it is right. -/
abbrev Reck := Oper → AS → Option Eff
def Reck.Ok (P : Program) (E : Reck) : Prop := ∀ o s e, E o s = some e → EffU P o s e

def freshB (s : AS) (e : Eff) : Bool := e.fresh.all fun i => !s.used.contains i

theorem freshB_spec {e : Eff} (h : freshB s e = true) : ∀ i ∈ e.fresh, i ∉ s.used := by
  unfold freshB at h
  simpa using h

/-- One operation: reckoned, or (a call) by whatever effect is shown. -/
def stepE (P : Program) (E : Reck) (o : Oper) (s : AS) (k : Eff → Prop) : Prop :=
  match E o s with
  | some e => freshB s e = true ∧ k e
  | none => ∃ e, EffU P o s e ∧ freshB s e = true ∧ k e

theorem stepE_ok {E : Reck} (hE : E.Ok P) {o : Oper} {k : Eff → Prop} (h : stepE P E o s k) : ∃ e, (EffU P o s e ∧ ∀ i ∈ e.fresh, i ∉ s.used) ∧ k e := by
  unfold stepE at h
  split at h
  · rename_i e he; exact ⟨e, ⟨hE o s e he, freshB_spec h.1⟩, h.2⟩
  · obtain ⟨e, h1, h2, h3⟩ := h; exact ⟨e, ⟨h1, freshB_spec h2⟩, h3⟩

/-- The operations of a region, in the text's order. -/
def walkN (P : Program) (E : Reck) (ops : Array Oper) : List Oper → AS → (AS → Prop) → Prop
  | [], s, k => k s
  | o :: r, s, k => gwhen ops s o (stepE P E o s fun e => walkN P E ops r (s.app o.dst e) k) (Oper.dstOk o s.n = true ∧ walkN P E ops r (s.app o.dst skipE) k)

/-- The same, with the effects noted down. -/
def walkL (P : Program) (E : Reck) (ops : Array Oper) : List Oper → AS → List (Option Eff) → (List (Option Eff) → AS → Prop) → Prop
  | [], s, tr, k => k tr s
  | o :: r, s, tr, k => gwhen ops s o (stepE P E o s fun e => walkL P E ops r (s.app o.dst e) (tr ++ [some e]) k) (Oper.dstOk o s.n = true ∧ walkL P E ops r (s.app o.dst skipE) (tr ++ [none]) k)

theorem walkN_cert {E : Reck} (hE : E.Ok P) {ops : Array Oper} : ∀ {l : List Oper} {s : AS} {k : AS → Prop}, walkN P E ops l s k → ∃ xs t, Cert P ops l s xs t ∧ k t
  | [], s, k, h => ⟨[], s, rfl, h⟩
  | o :: r, s, k, h => by
    rcases gwhen_says h with ⟨h1, h2⟩ | ⟨h1, h2, h3⟩
    · obtain ⟨e, he, hk⟩ := stepE_ok hE h2
      obtain ⟨xs, t, hc, hk'⟩ := walkN_cert hE hk
      exact ⟨some e :: xs, t, ⟨⟨h1, he⟩, hc⟩, hk'⟩
    · obtain ⟨xs, t, hc, hk'⟩ := walkN_cert hE h3
      exact ⟨none :: xs, t, ⟨⟨h1, h2⟩, hc⟩, hk'⟩

theorem walkL_cert {E : Reck} (hE : E.Ok P) {ops : Array Oper} : ∀ {l : List Oper} {s : AS} {tr : List (Option Eff)} {k : List (Option Eff) → AS → Prop}, walkL P E ops l s tr k → ∃ xs t, Cert P ops l s xs t ∧ k (tr ++ xs) t
  | [], s, tr, k, h => ⟨[], s, rfl, by rw [List.append_nil]; exact h⟩
  | o :: r, s, tr, k, h => by
    rcases gwhen_says h with ⟨h1, h2⟩ | ⟨h1, h2, h3⟩
    · obtain ⟨e, he, hk⟩ := stepE_ok hE h2
      obtain ⟨xs, t, hc, hk'⟩ := walkL_cert hE hk
      exact ⟨some e :: xs, t, ⟨⟨h1, he⟩, hc⟩, by simpa using hk'⟩
    · obtain ⟨xs, t, hc, hk'⟩ := walkL_cert hE h3
      exact ⟨none :: xs, t, ⟨⟨h1, h2⟩, hc⟩, by simpa using hk'⟩

/-- Only the slots of l are kept. -/
def AS.keep (l : List Nat) (s : AS) : AS := { s with env := l.map fun k => (k, look s.env k) }

theorem look_map (l : List Nat) (f : Nat → AV) (k : Nat) : look (l.map fun k => (k, f k)) k = if k ∈ l then f k else .dead := by
  induction l with
  | nil => rfl
  | cons j l ih =>
    simp only [List.map_cons, look_cons, ih, List.mem_cons]
    by_cases h : j = k
    · subst h; simp
    · simp [h, Ne.symm h]

theorem Rel.keep (r : Rel N0 W0 s β a w) (l : List Nat) : Rel N0 W0 (s.keep l) β a w where
  below := r.below
  size0 := r.size0
  size := r.size
  defers := r.defers
  env := fun k => by
    show AR N0 β _ w (look (l.map fun k => (k, look s.env k)) k) _
    rw [look_map]
    split
    · exact r.env k
    · trivial
  dom := r.dom
  hdom := r.hdom
  obj := r.obj
  disj := r.disj

/-- s' says no more than s. -/
def Weak (s s' : AS) : Prop := ∀ N0 W0 β a w, Rel N0 W0 s β a w → ∃ β', Rel N0 W0 s' β' a w

theorem Weak.refl (s : AS) : Weak s s := fun _ _ β _ _ r => ⟨β, r⟩
theorem Weak.trans {s s' s'' : AS} (h : Weak s s') (h' : Weak s' s'') : Weak s s'' := fun N0 W0 β a w r => let ⟨β', r'⟩ := h N0 W0 β a w r; h' N0 W0 β' a w r'

/-- A loop: what holds at each round's head, by an index that every round lowers. -/
def LoopW (body : (Exit → AS → Prop) → AS → Prop) (Q : Exit → AS → Prop) (s : AS) : Prop :=
  ∃ (ι : Type) (S : ι → AS) (I : ι → Prop) (μ : ι → Nat), (∃ i, I i ∧ Weak s (S i)) ∧
    ∀ i, I i → body (fun e t => match e with | .normal => ∃ j, I j ∧ μ j < μ i ∧ Weak t (S j) | e => Q e t) (S i)

/-- The walk over code. 'K': the slots that are kept behind a region. -/
def awp (P : Program) (E : Reck) (K : Nat → List Nat) : Code → (Exit → AS → Prop) → AS → Prop
  | .skip, Q, s => Q .normal s
  | .region id ops draw, Q, s =>
    if draw then walkL P E ops ops.toList s [] fun tr t => traceOk ops (Region.before ops).toList (zipE ops.toList tr) = true ∧ Q .normal (t.keep (K id))
    else walkN P E ops ops.toList s fun t => Q .normal (t.keep (K id))
  | .seq x y, Q, s => awp P E K x (fun e t => match e with | .normal => awp P E K y Q t | e => Q e t) s
  | .cond c x y, Q, s =>
    match s.ev c with
    | .one (.sc (.bool b)) => (b = true → awp P E K x Q s) ∧ (b = false → awp P E K y Q s)
    | _ => False
  | .block id c, Q, s => awp P E K c (fun e t => match e with | .exit id' => if id' = id then Q .normal t else Q (.exit id') t | e => Q e t) s
  | .loop c, Q, s => LoopW (awp P E K c) Q s
  | .exit id, Q, s => Q (.exit id) s
  | .ret, Q, s => Q .ret s
  | _, _, _ => False

def lift (N0 : Nat) (W0 : World) (Q : Exit → AS → Prop) : Exit → Act → World → Prop := fun e a w => ∃ s β, Rel N0 W0 s β a w ∧ Q e s

theorem awp_sound {E : Reck} (hE : E.Ok P) (hm : P.follows .mixedOrders = true) {K : Nat → List Nat} : ∀ (c : Code) {Q : Exit → AS → Prop} {s : AS} {β : Plc} {a : Act} {w : World},
    awp P E K c Q s → Rel N0 W0 s β a w → c.wp P (lift N0 W0 Q) a w
  | .skip, Q, s, β, a, w, h, r => wp_skip ⟨s, β, r, h⟩
  | .region id ops draw, Q, s, β, a, w, h, r => by
    unfold awp at h
    split at h
    · rename_i hd
      subst hd
      obtain ⟨xs, t, hc, htr, hq⟩ := walkL_cert hE h
      refine wp_region_any hm ?_
      have r' : Rel N0 W0 s β a { w with drawn := w.drawn + 1 } := r.grow ⟨rfl, rfl, rfl, Nat.le_refl _, fun _ _ => rfl⟩
      refine cert_any hc htr (fun β' a' w' r' => ⟨_, β', r'.keep (K id), hq⟩) ops.size _ β a _ (by simp) ?_ ?_ ?_
      · intro j o ho hj
        exfalso
        simp only [Array.getD_eq_getD_getElem?, Array.getElem?_replicate] at hj
        split at hj <;> simp at hj
      · unfold unl
        exact Nat.le_trans (List.length_filter_le _ _) (by simp)
      · rw [foldS_congr (g := fun _ => false) (fun j _ _ => by
          simp only [Array.getD_eq_getD_getElem?, Array.getElem?_replicate]; split <;> rfl)]
        have : ∀ (l : List (Oper × Option Eff)) (k : Nat) (s : AS), foldS l (fun _ => false) k s = s := by
          intro l
          induction l with
          | nil => intros; rfl
          | cons p r ih => obtain ⟨o, x⟩ := p; intro k s; simp only [foldS, Bool.false_eq_true, if_false]; exact ih _ _
        rw [this]
        exact r'
    · rename_i hd
      have hd' : draw = false := by simpa using hd
      subst hd'
      obtain ⟨xs, t, hc, hq⟩ := walkN_cert hE h
      exact wp_region_list (cert_list hc r fun β' a' w' r' => ⟨_, β', r'.keep (K id), hq⟩)
  | .seq x y, Q, s, β, a, w, h, r => by
    unfold awp at h
    refine wp_seq (wp_mono (awp_sound hE hm x h r) ?_)
    rintro e a' w' ⟨t, β', r', hq⟩
    cases e with
    | normal => exact awp_sound hE hm y hq r'
    | _ => exact ⟨t, β', r', hq⟩
  | .cond c x y, Q, s, β, a, w, h, r => by
    unfold awp at h
    split at h
    · rename_i b hb
      have hv := r.ev c
      rw [hb] at hv
      cases b with
      | true => exact wp_cond_true hv (awp_sound hE hm x (h.1 rfl) r)
      | false => exact wp_cond_false hv (awp_sound hE hm y (h.2 rfl) r)
    · exact h.elim
  | .block id c, Q, s, β, a, w, h, r => by
    unfold awp at h
    refine wp_block (wp_mono (awp_sound hE hm c h r) ?_)
    rintro e a' w' ⟨t, β', r', hq⟩
    cases e with
    | exit id' =>
      show if id' = id then _ else _
      dsimp only at hq
      split at hq
      · rename_i hid; rw [if_pos hid]; exact ⟨t, β', r', hq⟩
      · rename_i hid; rw [if_neg hid]; exact ⟨t, β', r', hq⟩
    | _ => exact ⟨t, β', r', hq⟩
  | .loop c, Q, s, β, a, w, h, r => by
    unfold awp at h
    obtain ⟨ι, S, I, μ, ⟨i0, hi0, hw0⟩, hround⟩ := h
    refine wp_loop_ghost (fun n a w => ∃ i β, I i ∧ μ i = n ∧ Rel N0 W0 (S i) β a w) (μ i0) ?_ ?_
    · obtain ⟨β', r'⟩ := hw0 N0 W0 β a w r
      exact ⟨i0, β', hi0, rfl, r'⟩
    · rintro n a w ⟨i, β, hi, rfl, r⟩
      refine wp_mono (awp_sound hE hm c (hround i hi) r) ?_
      rintro e a' w' ⟨t, β', r', hq⟩
      cases e with
      | normal =>
        obtain ⟨j, hj, hlt, hweak⟩ := hq
        obtain ⟨β2, r2⟩ := hweak N0 W0 β' a' w' r'
        exact ⟨μ j, hlt, j, β2, hj, rfl, r2⟩
      | _ => exact ⟨t, β', r', hq⟩
  | .exit id, Q, s, β, a, w, h, r => wp_exit ⟨s, β, r, h⟩
  | .ret, Q, s, β, a, w, h, r => wp_ret ⟨s, β, r, h⟩
  | .rangeFunc .., _, _, _, _, _, h, _ => h.elim
  | .scope .., _, _, _, _, _, h, _ => h.elim
  | .label .., _, _, _, _, _, h, _ => h.elim
  | .goto .., _, _, _, _, _, h, _ => h.elim
  | .refuse .., _, _, _, _, _, h, _ => h.elim

theorem walkN_nil {E : Reck} {ops : Array Oper} {k : AS → Prop} : walkN P E ops [] s k = k s := rfl
theorem walkN_cons {E : Reck} {ops : Array Oper} {o : Oper} {r : List Oper} {k : AS → Prop} : walkN P E ops (o :: r) s k = gwhen ops s o (stepE P E o s fun e => walkN P E ops r (s.app o.dst e) k) (Oper.dstOk o s.n = true ∧ walkN P E ops r (s.app o.dst skipE) k) := rfl
theorem walkL_nil {E : Reck} {ops : Array Oper} {tr : List (Option Eff)} {k : List (Option Eff) → AS → Prop} : walkL P E ops [] s tr k = k tr s := rfl
theorem walkL_cons {E : Reck} {ops : Array Oper} {o : Oper} {r : List Oper} {tr : List (Option Eff)} {k : List (Option Eff) → AS → Prop} : walkL P E ops (o :: r) s tr k = gwhen ops s o (stepE P E o s fun e => walkL P E ops r (s.app o.dst e) (tr ++ [some e]) k) (Oper.dstOk o s.n = true ∧ walkL P E ops r (s.app o.dst skipE) (tr ++ [none]) k) := rfl
section
variable {E : Reck} {K : Nat → List Nat} {Q : Exit → AS → Prop}
theorem awp_skip : awp P E K .skip Q s = Q .normal s := rfl
theorem awp_ret : awp P E K .ret Q s = Q .ret s := rfl
theorem awp_exit {id : Nat} : awp P E K (.exit id) Q s = Q (.exit id) s := rfl
theorem awp_region {id : Nat} {ops : Array Oper} : awp P E K (.region id ops false) Q s = walkN P E ops ops.toList s fun t => Q .normal (t.keep (K id)) := rfl
theorem awp_draw {id : Nat} {ops : Array Oper} : awp P E K (.region id ops true) Q s = walkL P E ops ops.toList s [] fun tr t => traceOk ops (Region.before ops).toList (zipE ops.toList tr) = true ∧ Q .normal (t.keep (K id)) := rfl
theorem awp_seq {x y : Code} : awp P E K (.seq x y) Q s = awp P E K x (fun e t => match e with | .normal => awp P E K y Q t | e => Q e t) s := rfl
theorem awp_block {id : Nat} {c : Code} : awp P E K (.block id c) Q s = awp P E K c (fun e t => match e with | .exit id' => if id' = id then Q .normal t else Q (.exit id') t | e => Q e t) s := rfl
theorem awp_loop {c : Code} : awp P E K (.loop c) Q s = LoopW (awp P E K c) Q s := rfl
theorem awp_cond {c : Operand} {x y : Code} : awp P E K (.cond c x y) Q s = (match s.ev c with | .one (.sc (.bool b)) => (b = true → awp P E K x Q s) ∧ (b = false → awp P E K y Q s) | _ => False) := rfl
end

end
attribute [irreducible] awp walkN walkL
end Go.Eng
