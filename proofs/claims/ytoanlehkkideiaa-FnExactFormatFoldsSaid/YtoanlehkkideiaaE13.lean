/- The engine, part 13: loads; rows that are read only from now on; slices of slices; new variables and rows. -/
import Derived.Test.YtoanlehkkideiaaE12
set_option linter.unusedVariables false
namespace Go.Eng
open Go Go.RowKit

section
variable {N0 : Nat} {W0 : World} {s s' : AS} {β β' : Plc} {a : Act} {w w' : World} {P : Program} {T : Tys}

theorem one_of {t : Nat} (h1 : ∀ fs, T t ≠ .st fs) (h2 : T t ≠ .oth) : (T t).one = true := by
  cases h : T t <;> simp [TI.one]
  · exact h1 _ h
  · exact h2 h

theorem All2.get' {α β : Type} {R : α → β → Prop} {l : List α} {m : List β} (i : Nat) {y : β} (h : All2 R l m) (hy : m[i]? = some y) : ∃ x, l[i]? = some x ∧ R x y := by
  have hl := h.length
  have hi : i < l.length := by rw [hl]; exact (List.getElem?_eq_some_iff.1 hy).1
  obtain ⟨y', h1, h2⟩ := All2.get i h (List.getElem?_eq_getElem hi)
  rw [hy] at h1; cases h1
  exact ⟨_, List.getElem?_eq_getElem hi, h2⟩

theorem All2.drop {α β : Type} {R : α → β → Prop} : ∀ {l : List α} {m : List β} (n : Nat), All2 R l m → All2 R (l.drop n) (m.drop n)
  | l, m, 0, h => by simpa using h
  | [], [], n + 1, _ => by simp [All2]
  | _ :: l, _ :: m, n + 1, ⟨_, h⟩ => by simpa using All2.drop n h
  | [], _ :: _, _ + 1, h => h.elim
  | _ :: _, [], _ + 1, h => h.elim

theorem All2.take {α β : Type} {R : α → β → Prop} : ∀ {l : List α} {m : List β} (n : Nat), All2 R l m → All2 R (l.take n) (m.take n)
  | l, m, 0, h => by simp [All2]
  | [], [], n + 1, _ => by simp [All2]
  | _ :: l, _ :: m, n + 1, ⟨h1, h⟩ => by simpa using ⟨h1, All2.take n h⟩
  | [], _ :: _, _ + 1, h => h.elim
  | _ :: _, [], _ + 1, h => h.elim

theorem all2_scs {B : Nat} {F : Nat → Prop} : ∀ (cs : List Sc), All2 (CR B β F w) (cs.map .sc) (cs.map Sc.val)
  | [] => trivial
  | _ :: cs => ⟨rfl, all2_scs cs⟩

theorem rLoad_ok (hT : TOk P T) (r : Rel N0 W0 s β a w) {t : Nat} {x : AV} {y : AV × List Nat} {xv : Value} (h : rLoad T s t x = some y) (hx : AR N0 β (Free s β w) w x xv) :
    ∃ u, (Instr.loadAt t xv).run P w = .ok u w ∧ AR N0 β (Free s β w) w y.1 u := by
  unfold rLoad at h
  split at h
  · rename_i cs
    obtain ⟨b, o, rfl, hF, hc⟩ := hx
    split at h
    · rename_i fs hst
      split at h
      · rename_i hl
        cases h
        have hlen : ((cs.take fs.length).map Sc.val).length = fs.length := by simp; omega
        refine ⟨_, run_load_st hT hst (us := (cs.take fs.length).map Sc.val) hlen (fun j u hu => ?_), (cs.take fs.length).map Sc.val, rfl, all2_scs _⟩
        rw [List.getElem?_map, Option.map_eq_some_iff] at hu
        obtain ⟨s1, hs1, rfl⟩ := hu
        rw [List.getElem?_take] at hs1
        split at hs1
        · exact hc j s1 hs1
        · cases hs1
      · cases h
    · cases h
    · rename_i h1 h2
      simp only [Option.map_eq_some_iff] at h
      obtain ⟨c, hcc, rfl⟩ := h
      exact ⟨c.val, run_load_one hT (one_of h1 h2) (by have := hc 0 c hcc; simpa using this), rfl⟩
  · rename_i xs
    obtain ⟨b, o, u, rfl, hF, hc, him⟩ := hx
    split at h
    · rename_i e hst
      cases h
      exact ⟨u, run_load_one hT (by rw [hst]; rfl) hc, him⟩
    · cases h
  · rename_i id k i j
    obtain ⟨pv, vs, b, hp, hpv, rfl⟩ := hx
    have hin : ∀ {B e k' n : Nat} {cs : List Value} {m : Nat} {u : Value}, w.ownsRow B e k' pv n cs → cs[m]? = some u → w.cell? ⟨b, m, none⟩ = some u := by
      intro B e k' n cs m u ho hu
      obtain ⟨p, cap, he, _⟩ := owns_len ho
      rw [he] at ho
      obtain ⟨b', hb', hcell, _⟩ := owns_cell ho hu
      rcases hpv with ⟨n', c, hh⟩ | hh
      · rw [he, hb'] at hh; cases hh; exact hcell
      · rw [he] at hh; cases hh
    split at h
    · rename_i e cs ho
      obtain ⟨pv2, vs2, hp2, hat, _⟩ := r.obj id _ ho
      rw [hp] at hp2; cases hp2
      obtain ⟨b2, arr, h1, h2, h3, h4⟩ := hat
      have hb : b2 = b := by
        rcases hpv with ⟨n, c, e⟩ | e
        · rw [h1] at e; cases e
        · rw [h1] at e; cases e; rfl
      subst hb
      have hcell : ∀ m u, arr.toList[m]? = some u → w.cell? ⟨b2, m, none⟩ = some u := fun m u hu => by
        rw [cell_of_row w b2 m arr e (0, 0) h3]
        simpa using hu
      split at h
      · rename_i fs hst
        split at h
        · rename_i hij
          cases h
          obtain ⟨rfl, hlen⟩ := hij
          have hall := (h4.drop j).take fs.length
          have hl : ((arr.toList.drop j).take fs.length).length = fs.length := by
            rw [← hall.length]; simp; omega
          refine ⟨_, run_load_st hT hst (us := (arr.toList.drop j).take fs.length) hl (fun m u hu => ?_), _, rfl, hall⟩
          rw [Nat.zero_mul, Nat.zero_add]
          rw [List.getElem?_take] at hu
          split at hu
          · rw [List.getElem?_drop] at hu
            exact hcell _ _ hu
          · cases hu
        · cases h
      · cases h
      · rename_i hn1 hn2
        split at h
        · rename_i hi
          subst hi
          simp only [Option.map_eq_some_iff] at h
          obtain ⟨c, hcc, rfl⟩ := h
          obtain ⟨u, hu, hr⟩ := All2.get j h4 hcc
          refine ⟨u, run_load_one hT (one_of hn1 hn2) ?_, hr⟩
          rw [Nat.zero_mul, Nat.zero_add]
          exact hcell j u hu
        · cases h
    · rename_i e k' xs ho
      obtain ⟨pv2, vs2, hp2, hat, _⟩ := r.obj id _ ho
      rw [hp] at hp2; cases hp2
      split at h
      · rename_i hk
        subst hk
        split at h
        · rename_i fs hst
          split at h
          · rename_i hj
            obtain ⟨rfl, hfs⟩ := hj
            simp only [Option.map_eq_some_iff] at h
            obtain ⟨el, hel, rfl⟩ := h
            have hlen : el.length = k := hat.2 el (List.mem_of_getElem? hel)
            refine ⟨_, run_load_st hT hst (us := el.map Sc.val) (by simp [hlen, hfs]) (fun m u hu => ?_), el.map Sc.val, rfl, all2_scs _⟩
            rw [List.getElem?_map, Option.map_eq_some_iff] at hu
            obtain ⟨s1, hs1, rfl⟩ := hu
            have hm : m < k := by rw [← hlen]; exact (List.getElem?_eq_some_iff.1 hs1).1
            rw [Nat.add_zero]
            exact hin hat.1 (by rw [cellsOf_get _ _ hat.2 hm, hel]; simp [hs1])
          · cases h
        · cases h
        · rename_i hn1 hn2
          simp only [Option.map_eq_some_iff, Option.bind_eq_some_iff] at h
          obtain ⟨c, ⟨el, hel, hc⟩, rfl⟩ := h
          have hlen : el.length = k := hat.2 el (List.mem_of_getElem? hel)
          have hm : j < k := by rw [← hlen]; exact (List.getElem?_eq_some_iff.1 hc).1
          exact ⟨c.val, run_load_one hT (one_of hn1 hn2) (hin hat.1 (by rw [cellsOf_get _ _ hat.2 hm, hel]; simp [hc])), rfl⟩
      · cases h
    · rename_i e e' xss ho
      obtain ⟨pv2, vs2, hp2, hat, _⟩ := r.obj id _ ho
      rw [hp] at hp2; cases hp2
      split at h
      · rename_i hk
        obtain ⟨rfl, rfl, hone⟩ := hk
        simp only [Option.map_eq_some_iff] at h
        obtain ⟨o, ho', rfl⟩ := h
        obtain ⟨u, hu, hr⟩ := All2.get i hat.2 ho'
        refine ⟨u, run_load_one hT hone ?_, hr⟩
        rw [Nat.mul_one, Nat.add_zero]
        exact hin hat.1 hu
      · cases h
    · rename_i e cs ho
      obtain ⟨pv2, vs2, hp2, hat, _⟩ := r.obj id _ ho
      rw [hp] at hp2; cases hp2
      split at h
      · rename_i hk
        obtain ⟨rfl, rfl, hone⟩ := hk
        simp only [Option.map_eq_some_iff] at h
        obtain ⟨c, hc, rfl⟩ := h
        obtain ⟨u, hu, hr⟩ := All2.get i hat.2 hc
        refine ⟨u, run_load_one hT hone ?_, hr⟩
        rw [Nat.mul_one, Nat.add_zero]
        exact hin hat.1 hu
      · cases h
    · cases h
  · cases h

theorem grownBy_refl (w : World) (row : Option Nat) : w.grownBy w row := ⟨rfl, rfl, rfl, Nat.le_refl _, fun _ _ _ => rfl⟩

/-- The rows of an object are no more its own. -/
theorem Rel.freeze (r : Rel N0 W0 s β a w) {id e e' : Nat} {xss : List (Option (List El))} (ho : s.obj id = some (.rows e e' .own xss)) :
    Rel N0 W0 (s.setO id (.rows e e' .loc xss)) β a w := by
  obtain ⟨pv, vs, hp, ⟨h1, h2, h3, h4⟩, hb⟩ := r.obj id _ ho
  have hused : id ∈ s.used := by
    by_cases h : id ∈ s.used
    · exact h
    · rw [r.dom id h] at hp; cases hp
  have hobj : ∀ i, (s.setO id (.rows e e' .loc xss)).obj i = if id = i then some (.rows e e' .loc xss) else s.obj i := fun _ => rfl
  have hsub : ∀ b, Held (s.setO id (.rows e e' .loc xss)) β b → Held s β b := by
    rintro b ⟨i, o, pv', vs', ho', hp', hbl⟩
    rw [hobj] at ho'
    split at ho'
    · rename_i hi; subst hi; cases ho'
      rw [hp] at hp'; cases hp'
      rcases hbl with hbl | ⟨hbl, _⟩
      · exact ⟨id, _, pv, vs, ho, hp, .inl hbl⟩
      · cases hbl
    · exact ⟨i, o, pv', vs', ho', hp', hbl⟩
  refine r.master (s' := s.setO id (.rows e e' .loc xss)) (β' := β) rfl rfl r.below (Nat.le_refl _) (fun i pv vs h => ⟨vs, h⟩) (fun i hi => ⟨r.dom i hi, ?_⟩) (fun b _ hn => ⟨rfl, fun hh => hn (hsub b hh)⟩) ?_ ?_
  · rw [hobj, if_neg (show ¬ id = i from fun hh => hi (hh ▸ hused))]
    exact r.hdom i hi
  · intro i o ho'
    rw [hobj] at ho'
    split at ho'
    · rename_i hi; subst hi; cases ho'
      refine .inr ⟨pv, vs, hp, ⟨h1, h2.mono fun o v _ hv hr => ?_⟩, fun b hbl => ?_⟩
      · cases o with
        | none => exact hr
        | some xs =>
          obtain ⟨a1, a2, b, n, c, a3⟩ := hr
          have hbv : blockOf v = some b := by rw [a3]; rfl
          refine ⟨a1, a2, b, n, c, a3, (hb b (.inr ⟨rfl, v, hv, hbv⟩)).2, ?_⟩
          rintro ⟨i2, o2, pv2, vs2, ho2, hp2, hbl2⟩
          rw [hobj] at ho2
          split at ho2
          · rename_i hi2; subst hi2; cases ho2
            rw [hp] at hp2; cases hp2
            rcases hbl2 with hbl2 | ⟨hbl2, _⟩
            · exact h4 v hv (by rw [hbv]; simp) (by rw [hbv, hbl2])
            · cases hbl2
          · rename_i hi2
            exact hi2 (r.disj id i2 _ o2 pv vs pv2 vs2 b ho ho2 hp hp2 (.inr ⟨rfl, v, hv, hbv⟩) hbl2)
      · rcases hbl with hbl | ⟨hbl, _⟩
        · exact hb b (.inl hbl)
        · cases hbl
    · exact .inl ⟨ho', rfl, fun _ _ _ _ _ => rfl⟩
  · intro i1 i2 o1 o2 pv1 vs1 pv2 vs2 b g1 g2 p1 p2 b1 b2
    have key : ∀ i o pv' vs', (s.setO id (.rows e e' .loc xss)).obj i = some o → β i = some (pv', vs') → blks o.own pv' vs' b → ∃ o', s.obj i = some o' ∧ blks o'.own pv' vs' b := by
      intro i o pv' vs' ho' hp' hbl
      rw [hobj] at ho'
      split at ho'
      · rename_i hi; subst hi; cases ho'
        rcases hbl with hbl | ⟨hbl, _⟩
        · exact ⟨_, ho, .inl hbl⟩
        · cases hbl
      · exact ⟨o, ho', hbl⟩
    obtain ⟨o1', e1, f1⟩ := key i1 o1 pv1 vs1 g1 p1 b1
    obtain ⟨o2', e2, f2⟩ := key i2 o2 pv2 vs2 g2 p2 b2
    exact r.disj i1 i2 o1' o2' pv1 vs1 pv2 vs2 b e1 e2 p1 p2 f1 f2

/-- A load of a row out of an object that holds its rows: they are read only from now on. -/
def rLoadOwn (T : Tys) (s : AS) (t : Nat) (x : AV) : Option Eff :=
  match x with
  | .one (.ptr id 1 i 0) =>
    match s.obj id with
    | some (.rows e e' .own xss) => if (T t).one then (xss[i]?).map fun o => { val := .one (.row e' o), sets := [(id, some (.rows e e' .loc xss))], log := [id] } else none
    | _ => none
  | _ => none

theorem rLoadOwn_ok (hT : TOk P T) (r : Rel N0 W0 s β a w) {t : Nat} {x : AV} {y : Eff} {xv : Value} (h : rLoadOwn T s t x = some y) (hx : AR N0 β (Free s β w) w x xv) :
    y.fresh = [] ∧ ∃ u, (Instr.loadAt t xv).run P w = .ok u w ∧ Rel N0 W0 { s with H := y.sets ++ s.H } β a w ∧ AR N0 β (Free { s with H := y.sets ++ s.H } β w) w y.val u := by
  unfold rLoadOwn at h
  split at h
  · rename_i id i
    split at h
    · rename_i e e' xss ho
      split at h
      · rename_i hone
        simp only [Option.map_eq_some_iff] at h
        obtain ⟨o, hoo, rfl⟩ := h
        have r' := r.freeze ho
        have hx' : AR N0 β (Free (s.setO id (.rows e e' .loc xss)) β w) w (.one (.ptr id 1 i 0)) xv := hx
        have hl : rLoad T (s.setO id (.rows e e' .loc xss)) t (.one (.ptr id 1 i 0)) = some (.one (.row e' o), [id]) := by
          have : (s.setO id (.rows e e' .loc xss)).obj id = some (.rows e e' .loc xss) := by
            show lookO ((id, some _) :: s.H) id = _
            simp [lookO_cons]
          simp [rLoad, this, hone, hoo]
        obtain ⟨u, hu, hr⟩ := rLoad_ok hT r' hl hx'
        exact ⟨rfl, u, hu, r', hr⟩
      · cases h
    · cases h
  · cases h

/-! ### Parts of a slice -/

/-- x[l:h] of a slice; l and h where they stand. -/
def rSlice (T : Tys) (s : AS) (t : Nat) (x : AV) (lo hi : Option AV) : Option (AV × List Nat) :=
  match T t with
  | .sl e =>
    if (T e).ok = true then
      let cut (n : Nat) : Option (Nat × Nat) :=
        match (match lo with | none => some (0 : Int) | some (.one (.sc (.int l))) => some l | _ => none), (match hi with | none => some (n : Int) | some (.one (.sc (.int h))) => some h | _ => none) with
        | some l, some h => if 0 ≤ l ∧ l ≤ h ∧ h ≤ n then some (l.toNat, h.toNat) else none
        | _, _ => none
      match x with
      | .one (.imm k xs) => if kOf T e = k then (cut xs.length).map fun p => (.one (.imm k ((xs.drop p.1).take (p.2 - p.1))), []) else none
      | .one (.imm2 xss) => if kOf T e = 1 then (cut xss.length).map fun p => (.one (.imm2 ((xss.drop p.1).take (p.2 - p.1))), []) else none
      | .one (.row _ (some xs)) => if kOf T e = 1 then (cut xs.length).map fun p => (.one (.imm 1 ((xs.drop p.1).take (p.2 - p.1))), []) else none
      | .one (.ref id) =>
        match s.obj id with
        | some (.flat _ k xs) =>
          if kOf T e = k then
            match lo with
            | none => (cut xs.length).map fun p => (.one (.pre id p.2), [id])
            | some _ => (cut xs.length).map fun p => (.one (.win id k p.1 (p.2 - p.1)), [id])
          else none
        | _ => none
      | _ => none
    else none
  | _ => none

theorem run_sliceAt_cut {t e k : Nat} (ht : P.underlying t = some (.slice e)) (hs : (sizeOf e).run P w = .ok k w) {p : Option Addr} {len cap : Nat} {lo hi : Option Value} {l h : Nat}
    (hlo : (lo = none ∧ l = 0) ∨ lo = some (.int .i64 l)) (hhi : (hi = none ∧ h = len) ∨ hi = some (.int .i64 h)) (h1 : l ≤ h) (h2 : h ≤ cap) :
    (Instr.sliceAt t (.slice p len cap) lo hi none).run P w = .ok (.slice (if cap = l then p else p.map (·.add (l * k))) (h - l) (cap - l)) w := by
  have hb : (Instr.sliceBounds true len cap lo hi none).run P w = .ok (l, h, cap) w := by
    rcases hhi with ⟨rfl, rfl⟩ | rfl <;> rcases hlo with ⟨rfl, rfl⟩ | rfl
    · simp [Instr.sliceBounds]
    · simp [Instr.sliceBounds, run_sliceBound (P := P) w .i64 (l : Int) h .sliceB (by omega) (by omega)]
    · simp [Instr.sliceBounds, run_sliceBound (P := P) w .i64 (h : Int) cap .sliceAcap (by omega) (by omega)]
    · simp [Instr.sliceBounds, run_sliceBound (P := P) w .i64 (h : Int) cap .sliceAcap (by omega) (by omega), run_sliceBound (P := P) w .i64 (l : Int) h .sliceB (by omega) (by omega)]
  simp [Instr.sliceAt, run_underlying ht, Instr.slice, hb, hs]

def optVal (B : Nat) (β : Plc) (F : Nat → Prop) (w : World) (x : Option AV) (v : Option Value) : Prop :=
  match x, v with
  | none, none => True
  | some x, some v => AR B β F w x v
  | _, _ => False

theorem rSlice_ok (hT : TOk P T) (r : Rel N0 W0 s β a w) {t : Nat} {x : AV} {lo hi : Option AV} {y : AV × List Nat} {xv : Value} {lov hiv : Option Value} (h : rSlice T s t x lo hi = some y)
    (hx : AR N0 β (Free s β w) w x xv) (hlo : optVal N0 β (Free s β w) w lo lov) (hhi : optVal N0 β (Free s β w) w hi hiv) :
    ∃ u, (Instr.sliceAt t xv lov hiv none).run P w = .ok u w ∧ AR N0 β (Free s β w) w y.1 u := by
  unfold rSlice at h
  split at h
  · rename_i e hst
    split at h
    · rename_i hok
      have hu : P.underlying t = some (.slice e) := by have := hT t; rw [hst] at this; exact this.1
      have hs := size_k hT hok w
      -- the bounds
      have hcut : ∀ (n : Nat) (q : Nat × Nat), (match (match lo with | none => some (0 : Int) | some (.one (.sc (.int l))) => some l | _ => none), (match hi with | none => some (n : Int) | some (.one (.sc (.int h))) => some h | _ => none) with
          | some l, some h => if 0 ≤ l ∧ l ≤ h ∧ h ≤ n then some (l.toNat, h.toNat) else none
          | _, _ => none) = some q → q.1 ≤ q.2 ∧ q.2 ≤ n ∧ ((lov = none ∧ q.1 = 0) ∨ lov = some (.int .i64 q.1)) ∧ ((hiv = none ∧ q.2 = n) ∨ hiv = some (.int .i64 q.2)) ∧ (lo = none → q.1 = 0) := by
        intro n q hq
        split at hq
        · rename_i l h' hl hh
          split at hq
          · rename_i hc
            cases hq
            obtain ⟨c1, c2, c3⟩ := hc
            refine ⟨by simp; omega, by simp; omega, ?_, ?_, ?_⟩
            · split at hl
              · rename_i hlo'
                cases hl
                cases lov with
                | none => exact .inl ⟨rfl, rfl⟩
                | some _ => exact hlo.elim
              · cases hl
                cases lov with
                | none => exact hlo.elim
                | some v =>
                  have : v = .int .i64 l := hlo
                  rw [this]
                  exact .inr (by simp; omega)
              · cases hl
            · split at hh
              · cases hh
                cases hiv with
                | none => exact .inl ⟨rfl, by simp⟩
                | some _ => exact hhi.elim
              · cases hh
                cases hiv with
                | none => exact hhi.elim
                | some v =>
                  have : v = .int .i64 h' := hhi
                  rw [this]
                  exact .inr (by simp; omega)
              · cases hh
            · rintro rfl
              cases hl
              rfl
          · cases hq
        · cases hq
      have hImm : ∀ (k : Nat) (xs : List El) (q : Nat × Nat), Imm (Free s β w) w k xv xs → kOf T e = k → q.1 ≤ q.2 → q.2 ≤ xs.length → ((lov = none ∧ q.1 = 0) ∨ lov = some (.int .i64 q.1)) → ((hiv = none ∧ q.2 = xs.length) ∨ hiv = some (.int .i64 q.2)) →
          ∃ u, (Instr.sliceAt t xv lov hiv none).run P w = .ok u w ∧ AR N0 β (Free s β w) w (.one (.imm k ((xs.drop q.1).take (q.2 - q.1)))) u := by
        rintro k xs q ⟨⟨p, cap, rfl, hc, hcells⟩, hf⟩ rfl h1 h2 h3 h4
        refine ⟨_, run_sliceAt_cut hu hs h3 h4 h1 (by omega), ?_, (hf.drop _).take _⟩
        have hl : ((xs.drop q.1).take (q.2 - q.1)).length = q.2 - q.1 := by simp; omega
        rw [hl]
        refine ⟨_, _, rfl, by omega, ?_⟩
        by_cases h0 : q.2 - q.1 = 0
        · exact .inl h0
        · rcases hcells with hz | ⟨b, off, rfl, hF, hr⟩
          · omega
          · refine .inr ⟨b, off + q.1 * kOf T e, ?_, hF, fun j u hu => ?_⟩
            · rw [if_neg (by omega)]
              simp [Addr.add_lit]
            · rw [cellsOf_take _ (hf.drop _), cellsOf_drop _ hf, List.getElem?_take] at hu
              split at hu
              · rw [List.getElem?_drop] at hu
                rw [Nat.add_assoc]
                exact hr _ _ hu
              · cases hu
      dsimp only at h
      split at h
      · rename_i k xs
        split at h
        · rename_i hk
          simp only [Option.map_eq_some_iff] at h
          obtain ⟨q, hq, rfl⟩ := h
          obtain ⟨c1, c2, c3, c4, _⟩ := hcut _ q hq
          exact hImm k xs q hx hk c1 c2 c3 c4
        · cases h
      · rename_i xss
        split at h
        · rename_i hk
          simp only [Option.map_eq_some_iff] at h
          obtain ⟨q, hq, rfl⟩ := h
          obtain ⟨c1, c2, c3, c4, _⟩ := hcut _ q hq
          obtain ⟨vs, hl, ⟨p, cap, rfl, hc, hcells⟩, hrows⟩ := hx
          have hl' : ((xss.drop q.1).take (q.2 - q.1)).length = q.2 - q.1 := by simp; omega
          refine ⟨_, run_sliceAt_cut hu hs c3 c4 c1 (by omega), (vs.drop q.1).take (q.2 - q.1), by simp [hl], ?_, fun i u xs hu hx => ?_⟩
          · rw [hl']
            refine ⟨_, _, rfl, by omega, ?_⟩
            by_cases h0 : q.2 - q.1 = 0
            · exact .inl h0
            · rcases hcells with hz | ⟨b, off, rfl, hF, hr⟩
              · omega
              · refine .inr ⟨b, off + q.1, ?_, hF, fun j u hu => ?_⟩
                · rw [if_neg (by omega), hk, Nat.mul_one]
                  simp [Addr.add_lit]
                · rw [List.getElem?_take] at hu
                  split at hu
                  · rw [List.getElem?_drop] at hu
                    rw [Nat.add_assoc]
                    exact hr _ _ hu
                  · cases hu
          · rw [List.getElem?_take] at hu hx
            split at hu
            · rename_i hi
              rw [if_pos hi] at hx
              rw [List.getElem?_drop] at hu hx
              exact hrows _ _ _ hu hx
            · cases hu
        · cases h
      · rename_i e' xs
        split at h
        · rename_i hk
          simp only [Option.map_eq_some_iff] at h
          obtain ⟨q, hq, rfl⟩ := h
          obtain ⟨c1, c2, c3, c4, _⟩ := hcut _ q hq
          exact hImm 1 xs q (imm_of_rowL hx) hk c1 c2 c3 c4
        · cases h
      · rename_i id
        obtain ⟨vs, hv, h1c⟩ := hx
        split at h
        · rename_i e' k xs ho
          split at h
          · rename_i hk
            obtain ⟨pv, vs', hp, hat, _⟩ := r.obj id _ ho
            rw [hp] at hv; cases hv
            obtain ⟨p, cap, rfl, hc⟩ := owns_len hat.1
            split at h
            · simp only [Option.map_eq_some_iff] at h
              obtain ⟨q, hq, rfl⟩ := h
              obtain ⟨c1, c2, c3, c4, c5⟩ := hcut _ q hq
              have h0 := c5 rfl
              refine ⟨_, run_sliceAt_cut hu hs c3 c4 c1 (by omega), p, xs.length, cap, vs, hp, ?_, c2⟩
              rw [h0]
              simp
              intro _
              cases p with
              | none => rfl
              | some ad => simp [Addr.add]
            · simp only [Option.map_eq_some_iff] at h
              obtain ⟨q, hq, rfl⟩ := h
              obtain ⟨c1, c2, c3, c4, c5⟩ := hcut _ q hq
              refine ⟨_, run_sliceAt_cut hu hs c3 c4 c1 (by omega), p, xs.length, cap, vs, hp, by omega, _, _, rfl, by omega, ?_⟩
              by_cases h0 : q.2 - q.1 = 0
              · exact .inl h0
              · rcases hat.1.2 with ⟨_, hz⟩ | ⟨g, cap', cur, hg, _⟩
                · omega
                · cases hg
                  refine .inr ⟨g, rfl, ?_⟩
                  rw [if_neg (by omega), hk]
                  simp [Addr.add_lit]
          · cases h
        · cases h
      · cases h
    · cases h
  · cases h

end
end Go.Eng
