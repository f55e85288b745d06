import Derived.Test.YtfapjflogjblaaaE0
import Derived.Laws.Tables
import Derived.Laws.BytesString
import Derived.DataBytes
set_option linter.unusedVariables false
set_option linter.unusedSimpArgs false
set_option linter.unnecessarySimpa false
/- The engine, part 13: loads; rows that are read only from now on; slices of slices; new variables and rows. -/
set_option linter.unusedVariables false
namespace Go.Eng
open Go Go.RowKit

section
variable {N0 : Nat} {W0 : World} {s s' : AS} {β β' : Plc} {a : Act} {w w' : World} {P : Program} {T : Tys}

theorem one_of {t : Nat} (h1 : ∀ fs, T t ≠ .st fs) (h2 : T t ≠ .oth) : (T t).one = true := by
  cases h : T t <;> simp [TI.one]
  · exact h1 _ h
  · exact h2 h

theorem All2.get' {α β : Type} {R : α → β → Prop} {l : List α} {m : List β} (i : Nat) {y : β} (h : All2 R l m) (hy : m[i]? = some y) : ∃ x, l[i]? = some x ∧ R x y := by
  have hl := h.length
  have hi : i < l.length := by rw [hl]; exact (List.getElem?_eq_some_iff.1 hy).1
  obtain ⟨y', h1, h2⟩ := All2.get i h (List.getElem?_eq_getElem hi)
  rw [hy] at h1; cases h1
  exact ⟨_, List.getElem?_eq_getElem hi, h2⟩

theorem All2.drop {α β : Type} {R : α → β → Prop} : ∀ {l : List α} {m : List β} (n : Nat), All2 R l m → All2 R (l.drop n) (m.drop n)
  | l, m, 0, h => by simpa using h
  | [], [], n + 1, _ => by simp [All2]
  | _ :: l, _ :: m, n + 1, ⟨_, h⟩ => by simpa using All2.drop n h
  | [], _ :: _, _ + 1, h => h.elim
  | _ :: _, [], _ + 1, h => h.elim

theorem All2.take {α β : Type} {R : α → β → Prop} : ∀ {l : List α} {m : List β} (n : Nat), All2 R l m → All2 R (l.take n) (m.take n)
  | l, m, 0, h => by simp [All2]
  | [], [], n + 1, _ => by simp [All2]
  | _ :: l, _ :: m, n + 1, ⟨h1, h⟩ => by simpa using ⟨h1, All2.take n h⟩
  | [], _ :: _, _ + 1, h => h.elim
  | _ :: _, [], _ + 1, h => h.elim

theorem all2_scs {B : Nat} {F : Nat → Prop} : ∀ (cs : List Sc), All2 (CR B β F w) (cs.map .sc) (cs.map Sc.val)
  | [] => trivial
  | _ :: cs => ⟨rfl, all2_scs cs⟩

theorem rowA_getD {F : Nat → Prop} {v : Value} {o : Option (List El)} (h : RowA F w v o) : Imm F w 1 v (o.getD []) := by
  cases o with
  | none => exact ⟨⟨none, 0, h, Nat.le_refl _, .inl rfl⟩, fun e he => by cases he⟩
  | some xs => exact h

theorem rLoad_ok (hT : TOk P T) (r : Rel N0 W0 s β a w) {t : Nat} {x : AV} {y : AV × List Nat} {xv : Value} (h : rLoad T s t x = some y) (hx : AR N0 β (Free s β w) w x xv) :
    ∃ u, (Instr.loadAt t xv).run P w = .ok u w ∧ AR N0 β (Free s β w) w y.1 u := by
  unfold rLoad at h
  split at h
  · rename_i cs
    obtain ⟨b, o, rfl, hF, hc⟩ := hx
    split at h
    · rename_i fs hst
      split at h
      · rename_i hl
        cases h
        have hlen : ((cs.take fs.length).map Sc.val).length = fs.length := by simp; omega
        refine ⟨_, run_load_st hT hst (us := (cs.take fs.length).map Sc.val) hlen (fun j u hu => ?_), (cs.take fs.length).map Sc.val, rfl, all2_scs _⟩
        rw [List.getElem?_map, Option.map_eq_some_iff] at hu
        obtain ⟨s1, hs1, rfl⟩ := hu
        rw [List.getElem?_take] at hs1
        split at hs1
        · exact hc j s1 hs1
        · cases hs1
      · cases h
    · cases h
    · rename_i h1 h2
      simp only [Option.map_eq_some_iff] at h
      obtain ⟨c, hcc, rfl⟩ := h
      exact ⟨c.val, run_load_one hT (one_of h1 h2) (by have := hc 0 c hcc; simpa using this), rfl⟩
  · rename_i xs
    obtain ⟨b, o, u, rfl, hF, hc, him⟩ := hx
    split at h
    · rename_i e hst
      cases h
      exact ⟨u, run_load_one hT (by rw [hst]; rfl) hc, him⟩
    · cases h
  · rename_i id k i j
    obtain ⟨pv, vs, b, hp, hpv, rfl⟩ := hx
    have hin : ∀ {B e k' n : Nat} {cs : List Value} {m : Nat} {u : Value}, w.ownsRow B e k' pv n cs → cs[m]? = some u → w.cell? ⟨b, m, none⟩ = some u := by
      intro B e k' n cs m u ho hu
      obtain ⟨p, cap, he, _⟩ := owns_len ho
      rw [he] at ho
      obtain ⟨b', hb', hcell, _⟩ := owns_cell ho hu
      rcases hpv with ⟨n', c, hh⟩ | hh
      · rw [he, hb'] at hh; cases hh; exact hcell
      · rw [he] at hh; cases hh
    split at h
    · rename_i e cs ho
      obtain ⟨pv2, vs2, hp2, hat, _⟩ := r.obj id _ ho
      rw [hp] at hp2; cases hp2
      obtain ⟨b2, arr, h1, h2, h3, h4⟩ := hat
      have hb : b2 = b := by
        rcases hpv with ⟨n, c, e⟩ | e
        · rw [h1] at e; cases e
        · rw [h1] at e; cases e; rfl
      subst hb
      have hcell : ∀ m u, arr.toList[m]? = some u → w.cell? ⟨b2, m, none⟩ = some u := fun m u hu => by
        rw [cell_of_row w b2 m arr e (0, 0) h3]
        simpa using hu
      split at h
      · rename_i fs hst
        split at h
        · rename_i hij
          cases h
          obtain ⟨rfl, hlen⟩ := hij
          have hall := (h4.drop j).take fs.length
          have hl : ((arr.toList.drop j).take fs.length).length = fs.length := by
            rw [← hall.length]; simp; omega
          refine ⟨_, run_load_st hT hst (us := (arr.toList.drop j).take fs.length) hl (fun m u hu => ?_), _, rfl, hall⟩
          rw [Nat.zero_mul, Nat.zero_add]
          rw [List.getElem?_take] at hu
          split at hu
          · rw [List.getElem?_drop] at hu
            exact hcell _ _ hu
          · cases hu
        · cases h
      · cases h
      · rename_i hn1 hn2
        split at h
        · rename_i hi
          subst hi
          simp only [Option.map_eq_some_iff] at h
          obtain ⟨c, hcc, rfl⟩ := h
          obtain ⟨u, hu, hr⟩ := All2.get j h4 hcc
          refine ⟨u, run_load_one hT (one_of hn1 hn2) ?_, hr⟩
          rw [Nat.zero_mul, Nat.zero_add]
          exact hcell j u hu
        · cases h
    · rename_i e k' xs ho
      obtain ⟨pv2, vs2, hp2, hat, _⟩ := r.obj id _ ho
      rw [hp] at hp2; cases hp2
      split at h
      · rename_i hk
        subst hk
        split at h
        · rename_i fs hst
          split at h
          · rename_i hj
            obtain ⟨rfl, hfs⟩ := hj
            simp only [Option.map_eq_some_iff] at h
            obtain ⟨el, hel, rfl⟩ := h
            have hlen : el.length = k := hat.2 el (List.mem_of_getElem? hel)
            refine ⟨_, run_load_st hT hst (us := el.map Sc.val) (by simp [hlen, hfs]) (fun m u hu => ?_), el.map Sc.val, rfl, all2_scs _⟩
            rw [List.getElem?_map, Option.map_eq_some_iff] at hu
            obtain ⟨s1, hs1, rfl⟩ := hu
            have hm : m < k := by rw [← hlen]; exact (List.getElem?_eq_some_iff.1 hs1).1
            rw [Nat.add_zero]
            exact hin hat.1 (by rw [cellsOf_get _ _ hat.2 hm, hel]; simp [hs1])
          · cases h
        · cases h
        · rename_i hn1 hn2
          simp only [Option.map_eq_some_iff, Option.bind_eq_some_iff] at h
          obtain ⟨c, ⟨el, hel, hc⟩, rfl⟩ := h
          have hlen : el.length = k := hat.2 el (List.mem_of_getElem? hel)
          have hm : j < k := by rw [← hlen]; exact (List.getElem?_eq_some_iff.1 hc).1
          exact ⟨c.val, run_load_one hT (one_of hn1 hn2) (hin hat.1 (by rw [cellsOf_get _ _ hat.2 hm, hel]; simp [hc])), rfl⟩
      · cases h
    · rename_i e e' xss ho
      obtain ⟨pv2, vs2, hp2, hat, _⟩ := r.obj id _ ho
      rw [hp] at hp2; cases hp2
      split at h
      · rename_i hk
        obtain ⟨rfl, rfl, hone⟩ := hk
        simp only [Option.map_eq_some_iff] at h
        obtain ⟨o, ho', rfl⟩ := h
        obtain ⟨u, hu, hr⟩ := All2.get i hat.2.1 ho'
        refine ⟨u, run_load_one hT hone ?_, hr⟩
        rw [Nat.mul_one, Nat.add_zero]
        exact hin hat.1 hu
      · cases h
    · rename_i e e' xss ho
      obtain ⟨pv2, vs2, hp2, hat, _⟩ := r.obj id _ ho
      rw [hp] at hp2; cases hp2
      split at h
      · rename_i hk
        obtain ⟨rfl, rfl, hone⟩ := hk
        simp only [Option.map_eq_some_iff] at h
        obtain ⟨o, ho', rfl⟩ := h
        obtain ⟨u, hu, hr⟩ := All2.get i hat.2.1 ho'
        refine ⟨u, run_load_one hT hone ?_, rowA_getD (rowA_of_rowL hr)⟩
        rw [Nat.mul_one, Nat.add_zero]
        exact hin hat.1 hu
      · cases h
    · rename_i e e' xss ho
      obtain ⟨pv2, vs2, hp2, hat, _⟩ := r.obj id _ ho
      rw [hp] at hp2; cases hp2
      split at h
      · rename_i hk
        obtain ⟨rfl, rfl, hone⟩ := hk
        simp only [Option.map_eq_some_iff] at h
        obtain ⟨o, ho', rfl⟩ := h
        obtain ⟨u, hu, hr⟩ := All2.get i hat.2 ho'
        refine ⟨u, run_load_one hT hone ?_, rowA_getD hr⟩
        rw [Nat.mul_one, Nat.add_zero]
        exact hin hat.1 hu
      · cases h
    · rename_i e cs ho
      obtain ⟨pv2, vs2, hp2, hat, _⟩ := r.obj id _ ho
      rw [hp] at hp2; cases hp2
      split at h
      · rename_i hk
        obtain ⟨rfl, rfl, hone⟩ := hk
        simp only [Option.map_eq_some_iff] at h
        obtain ⟨c, hc, rfl⟩ := h
        obtain ⟨u, hu, hr⟩ := All2.get i hat.2 hc
        refine ⟨u, run_load_one hT hone ?_, hr⟩
        rw [Nat.mul_one, Nat.add_zero]
        exact hin hat.1 hu
      · cases h
    · rename_i e e' st xss us ho
      obtain ⟨pv2, vs2, hp2, hat, _⟩ := r.obj id _ ho
      rw [hp] at hp2; cases hp2
      split at h
      · rename_i hk
        obtain ⟨rfl, rfl, hone⟩ := hk
        simp only [Option.map_eq_some_iff] at h
        obtain ⟨u, hu, rfl⟩ := h
        obtain ⟨rfl, hrow, hall, _⟩ := hat
        refine ⟨u, run_load_one hT hone ?_, rfl, ?_⟩
        · rw [Nat.mul_one, Nat.add_zero]
          exact hin hrow hu
        · have hlen := hall.length
          have hi : i < xss.length := by rw [hlen]; exact (List.getElem?_eq_some_iff.1 hu).1
          obtain ⟨u', hu', hr⟩ := All2.get i hall (List.getElem?_eq_getElem hi)
          rw [hu] at hu'; cases hu'
          cases ho' : xss[i] with
          | none => rw [ho'] at hr; rw [show u = _ from hr]; rfl
          | some xs => rw [ho'] at hr; obtain ⟨p, cap, rfl, _⟩ := owns_len hr.1; rfl
      · cases h
    · cases h
  · cases h

theorem grownBy_refl (w : World) (row : Option Nat) : w.grownBy w row := ⟨rfl, rfl, rfl, Nat.le_refl _, fun _ _ _ => rfl⟩

/-- The rows of an object are no more its own. -/
theorem Rel.freeze (r : Rel N0 W0 s β a w) {id e e' : Nat} {st : Bool} {xss : List (Option (List El))} (ho : s.obj id = some (.rows e e' (.own st) xss)) :
    Rel N0 W0 (s.setO id (.rows e e' (.loc st) xss)) β a w := by
  obtain ⟨pv, vs, hp, ⟨h1, h2, h3, h4⟩, hb⟩ := r.obj id _ ho
  have hused : id ∈ s.used := by
    by_cases h : id ∈ s.used
    · exact h
    · rw [r.dom id h] at hp; cases hp
  have hobj : ∀ i, (s.setO id (.rows e e' (.loc st) xss)).obj i = if id = i then some (.rows e e' (.loc st) xss) else s.obj i := fun _ => rfl
  have hsub : ∀ b, Held (s.setO id (.rows e e' (.loc st) xss)) β b → Held s β b := by
    rintro b ⟨i, o, pv', vs', ho', hp', hbl⟩
    rw [hobj] at ho'
    split at ho'
    · rename_i hi; subst hi; cases ho'
      rw [hp] at hp'; cases hp'
      rcases hbl with hbl | ⟨hbl, _⟩
      · exact ⟨id, _, pv, vs, ho, hp, .inl hbl⟩
      · cases hbl
    · exact ⟨i, o, pv', vs', ho', hp', hbl⟩
  refine r.master (s' := s.setO id (.rows e e' (.loc st) xss)) (β' := β) rfl rfl r.below (Nat.le_refl _) (fun i pv vs h => ⟨vs, h⟩) (fun i hi => ⟨r.dom i hi, ?_⟩) (fun b _ hn => ⟨rfl, fun hh => hn (hsub b hh)⟩) ?_ ?_
  · rw [hobj, if_neg (show ¬ id = i from fun hh => hi (hh ▸ hused))]
    exact r.hdom i hi
  · intro i o ho'
    rw [hobj] at ho'
    split at ho'
    · rename_i hi; subst hi; cases ho'
      refine .inr ⟨pv, vs, hp, ⟨h1, h2.mono fun o v _ hv hr => ?_, h3⟩, fun b hbl => ?_⟩
      · cases o with
        | none => exact hr
        | some xs =>
          obtain ⟨a1, a2, a3⟩ := hr
          refine ⟨a1, a2, a3, fun b hbv => ⟨(hb b (.inr ⟨rfl, v, hv, hbv⟩)).2, ?_⟩⟩
          rintro ⟨i2, o2, pv2, vs2, ho2, hp2, hbl2⟩
          rw [hobj] at ho2
          split at ho2
          · rename_i hi2; subst hi2; cases ho2
            rw [hp] at hp2; cases hp2
            rcases hbl2 with hbl2 | ⟨hbl2, _⟩
            · exact h4 v hv (by rw [hbv]; simp) (by rw [hbv, hbl2])
            · cases hbl2
          · rename_i hi2
            exact hi2 (r.disj id i2 _ o2 pv vs pv2 vs2 b ho ho2 hp hp2 (.inr ⟨rfl, v, hv, hbv⟩) hbl2)
      · rcases hbl with hbl | ⟨hbl, _⟩
        · exact hb b (.inl hbl)
        · cases hbl
    · exact .inl ⟨ho', rfl, fun _ _ _ _ _ => rfl⟩
  · intro i1 i2 o1 o2 pv1 vs1 pv2 vs2 b g1 g2 p1 p2 b1 b2
    have key : ∀ i o pv' vs', (s.setO id (.rows e e' (.loc st) xss)).obj i = some o → β i = some (pv', vs') → blks o.own pv' vs' b → ∃ o', s.obj i = some o' ∧ blks o'.own pv' vs' b := by
      intro i o pv' vs' ho' hp' hbl
      rw [hobj] at ho'
      split at ho'
      · rename_i hi; subst hi; cases ho'
        rcases hbl with hbl | ⟨hbl, _⟩
        · exact ⟨_, ho, .inl hbl⟩
        · cases hbl
      · exact ⟨o, ho', hbl⟩
    obtain ⟨o1', e1, f1⟩ := key i1 o1 pv1 vs1 g1 p1 b1
    obtain ⟨o2', e2, f2⟩ := key i2 o2 pv2 vs2 g2 p2 b2
    exact r.disj i1 i2 o1' o2' pv1 vs1 pv2 vs2 b e1 e2 p1 p2 f1 f2

/-- A load of a row out of an object that holds its rows: they are read only from now on. -/
def rLoadOwn (T : Tys) (s : AS) (t : Nat) (x : AV) : Option Eff :=
  match x with
  | .one (.ptr id 1 i 0) =>
    match s.obj id with
    | some (.rows e e' (.own st) xss) => if (T t).one then (xss[i]?).map fun o => { val := .one (if st = true then .row e' o else .imm 1 (o.getD [])), sets := [(id, some (.rows e e' (.loc st) xss))], log := [id] } else none
    | _ => none
  | _ => none

theorem rLoadOwn_ok (hT : TOk P T) (r : Rel N0 W0 s β a w) {t : Nat} {x : AV} {y : Eff} {xv : Value} (h : rLoadOwn T s t x = some y) (hx : AR N0 β (Free s β w) w x xv) :
    y.fresh = [] ∧ ∃ u, (Instr.loadAt t xv).run P w = .ok u w ∧ Rel N0 W0 { s with H := y.sets ++ s.H } β a w ∧ AR N0 β (Free { s with H := y.sets ++ s.H } β w) w y.val u := by
  unfold rLoadOwn at h
  split at h
  · rename_i id i
    split at h
    · rename_i e e' st xss ho
      split at h
      · rename_i hone
        simp only [Option.map_eq_some_iff] at h
        obtain ⟨o, hoo, rfl⟩ := h
        have r' := r.freeze ho
        have hx' : AR N0 β (Free (s.setO id (.rows e e' (.loc st) xss)) β w) w (.one (.ptr id 1 i 0)) xv := hx
        have hl : rLoad T (s.setO id (.rows e e' (.loc st) xss)) t (.one (.ptr id 1 i 0)) = some (.one (if st = true then .row e' o else .imm 1 (o.getD [])), [id]) := by
          have : (s.setO id (.rows e e' (.loc st) xss)).obj id = some (.rows e e' (.loc st) xss) := by
            show lookO ((id, some _) :: s.H) id = _
            simp [lookO_cons]
          cases st <;> simp [rLoad, this, hone, hoo]
        obtain ⟨u, hu, hr⟩ := rLoad_ok hT r' hl hx'
        exact ⟨rfl, u, hu, r', hr⟩
      · cases h
    · cases h
  · cases h

/-! ### Parts of a slice -/

/-- x[l:h] of a slice; l and h where they stand. -/
def rSlice (T : Tys) (s : AS) (t : Nat) (x : AV) (lo hi : Option AV) : Option (AV × List Nat) :=
  match T t with
  | .sl e =>
    if (T e).ok = true then
      let cut (n : Nat) : Option (Nat × Nat) :=
        match (match lo with | none => some (0 : Int) | some (.one (.sc (.int l))) => some l | _ => none), (match hi with | none => some (n : Int) | some (.one (.sc (.int h))) => some h | _ => none) with
        | some l, some h => if 0 ≤ l ∧ l ≤ h ∧ h ≤ n then some (l.toNat, h.toNat) else none
        | _, _ => none
      match x with
      | .one (.imm k xs) => if kOf T e = k then (cut xs.length).map fun p => (.one (.imm k ((xs.drop p.1).take (p.2 - p.1))), []) else none
      | .one (.imm2 xss) => if kOf T e = 1 then (cut xss.length).map fun p => (.one (.imm2 ((xss.drop p.1).take (p.2 - p.1))), []) else none
      | .one (.row _ (some xs)) => if kOf T e = 1 then (cut xs.length).map fun p => (.one (.imm 1 ((xs.drop p.1).take (p.2 - p.1))), []) else none
      | .one (.ref id) =>
        match s.obj id with
        | some (.flat _ k xs) =>
          if kOf T e = k then
            match lo with
            | none => (cut xs.length).map fun p => (.one (.pre id p.2), [id])
            | some _ => (cut xs.length).map fun p => (.one (.win id k p.1 (p.2 - p.1)), [id])
          else none
        | some (.rows _ _ _ xss) => if kOf T e = 1 then (cut xss.length).map fun p => (.one (.win id 1 p.1 (p.2 - p.1)), [id]) else none
        | _ => none
      | _ => none
    else none
  | _ => none

theorem run_sliceAt_cut {t e k : Nat} (ht : P.underlying t = some (.slice e)) (hs : (sizeOf e).run P w = .ok k w) {p : Option Addr} {len cap : Nat} {lo hi : Option Value} {l h : Nat}
    (hlo : (lo = none ∧ l = 0) ∨ lo = some (.int .i64 l)) (hhi : (hi = none ∧ h = len) ∨ hi = some (.int .i64 h)) (h1 : l ≤ h) (h2 : h ≤ cap) :
    (Instr.sliceAt t (.slice p len cap) lo hi none).run P w = .ok (.slice (if cap = l then p else p.map (·.add (l * k))) (h - l) (cap - l)) w := by
  have hb : (Instr.sliceBounds true len cap lo hi none).run P w = .ok (l, h, cap) w := by
    rcases hhi with ⟨rfl, rfl⟩ | rfl <;> rcases hlo with ⟨rfl, rfl⟩ | rfl
    · simp [Instr.sliceBounds]
    · simp [Instr.sliceBounds, run_sliceBound (P := P) w .i64 (l : Int) h .sliceB (by omega) (by omega)]
    · simp [Instr.sliceBounds, run_sliceBound (P := P) w .i64 (h : Int) cap .sliceAcap (by omega) (by omega)]
    · simp [Instr.sliceBounds, run_sliceBound (P := P) w .i64 (h : Int) cap .sliceAcap (by omega) (by omega), run_sliceBound (P := P) w .i64 (l : Int) h .sliceB (by omega) (by omega)]
  simp [Instr.sliceAt, run_underlying ht, Instr.slice, hb, hs]

def optVal (B : Nat) (β : Plc) (F : Nat → Prop) (w : World) (x : Option AV) (v : Option Value) : Prop :=
  match x, v with
  | none, none => True
  | some x, some v => AR B β F w x v
  | _, _ => False

theorem rSlice_ok (hT : TOk P T) (r : Rel N0 W0 s β a w) {t : Nat} {x : AV} {lo hi : Option AV} {y : AV × List Nat} {xv : Value} {lov hiv : Option Value} (h : rSlice T s t x lo hi = some y)
    (hx : AR N0 β (Free s β w) w x xv) (hlo : optVal N0 β (Free s β w) w lo lov) (hhi : optVal N0 β (Free s β w) w hi hiv) :
    ∃ u, (Instr.sliceAt t xv lov hiv none).run P w = .ok u w ∧ AR N0 β (Free s β w) w y.1 u := by
  unfold rSlice at h
  split at h
  · rename_i e hst
    split at h
    · rename_i hok
      have hu : P.underlying t = some (.slice e) := by have := hT t; rw [hst] at this; exact this.1
      have hs := size_k hT hok w
      -- the bounds
      have hcut : ∀ (n : Nat) (q : Nat × Nat), (match (match lo with | none => some (0 : Int) | some (.one (.sc (.int l))) => some l | _ => none), (match hi with | none => some (n : Int) | some (.one (.sc (.int h))) => some h | _ => none) with
          | some l, some h => if 0 ≤ l ∧ l ≤ h ∧ h ≤ n then some (l.toNat, h.toNat) else none
          | _, _ => none) = some q → q.1 ≤ q.2 ∧ q.2 ≤ n ∧ ((lov = none ∧ q.1 = 0) ∨ lov = some (.int .i64 q.1)) ∧ ((hiv = none ∧ q.2 = n) ∨ hiv = some (.int .i64 q.2)) ∧ (lo = none → q.1 = 0) := by
        intro n q hq
        split at hq
        · rename_i l h' hl hh
          split at hq
          · rename_i hc
            cases hq
            obtain ⟨c1, c2, c3⟩ := hc
            refine ⟨by simp; omega, by simp; omega, ?_, ?_, ?_⟩
            · split at hl
              · rename_i hlo'
                cases hl
                cases lov with
                | none => exact .inl ⟨rfl, rfl⟩
                | some _ => exact hlo.elim
              · cases hl
                cases lov with
                | none => exact hlo.elim
                | some v =>
                  have : v = .int .i64 l := hlo
                  rw [this]
                  exact .inr (by simp; omega)
              · cases hl
            · split at hh
              · cases hh
                cases hiv with
                | none => exact .inl ⟨rfl, by simp⟩
                | some _ => exact hhi.elim
              · cases hh
                cases hiv with
                | none => exact hhi.elim
                | some v =>
                  have : v = .int .i64 h' := hhi
                  rw [this]
                  exact .inr (by simp; omega)
              · cases hh
            · rintro rfl
              cases hl
              rfl
          · cases hq
        · cases hq
      have hImm : ∀ (k : Nat) (xs : List El) (q : Nat × Nat), Imm (Free s β w) w k xv xs → kOf T e = k → q.1 ≤ q.2 → q.2 ≤ xs.length → ((lov = none ∧ q.1 = 0) ∨ lov = some (.int .i64 q.1)) → ((hiv = none ∧ q.2 = xs.length) ∨ hiv = some (.int .i64 q.2)) →
          ∃ u, (Instr.sliceAt t xv lov hiv none).run P w = .ok u w ∧ AR N0 β (Free s β w) w (.one (.imm k ((xs.drop q.1).take (q.2 - q.1)))) u := by
        rintro k xs q ⟨⟨p, cap, rfl, hc, hcells⟩, hf⟩ rfl h1 h2 h3 h4
        refine ⟨_, run_sliceAt_cut hu hs h3 h4 h1 (by omega), ?_, (hf.drop _).take _⟩
        have hl : ((xs.drop q.1).take (q.2 - q.1)).length = q.2 - q.1 := by simp; omega
        rw [hl]
        refine ⟨_, _, rfl, by omega, ?_⟩
        by_cases h0 : q.2 - q.1 = 0
        · exact .inl h0
        · rcases hcells with hz | ⟨b, off, rfl, hF, hr⟩
          · omega
          · refine .inr ⟨b, off + q.1 * kOf T e, ?_, hF, fun j u hu => ?_⟩
            · rw [if_neg (by omega)]
              simp [Addr.add_lit]
            · rw [cellsOf_take _ (hf.drop _), cellsOf_drop _ hf, List.getElem?_take] at hu
              split at hu
              · rw [List.getElem?_drop] at hu
                rw [Nat.add_assoc]
                exact hr _ _ hu
              · cases hu
      dsimp only at h
      split at h
      · rename_i k xs
        split at h
        · rename_i hk
          simp only [Option.map_eq_some_iff] at h
          obtain ⟨q, hq, rfl⟩ := h
          obtain ⟨c1, c2, c3, c4, _⟩ := hcut _ q hq
          exact hImm k xs q hx hk c1 c2 c3 c4
        · cases h
      · rename_i xss
        split at h
        · rename_i hk
          simp only [Option.map_eq_some_iff] at h
          obtain ⟨q, hq, rfl⟩ := h
          obtain ⟨c1, c2, c3, c4, _⟩ := hcut _ q hq
          obtain ⟨vs, hl, ⟨p, cap, rfl, hc, hcells⟩, hrows⟩ := hx
          have hl' : ((xss.drop q.1).take (q.2 - q.1)).length = q.2 - q.1 := by simp; omega
          refine ⟨_, run_sliceAt_cut hu hs c3 c4 c1 (by omega), (vs.drop q.1).take (q.2 - q.1), by simp [hl], ?_, fun i u xs hu hx => ?_⟩
          · rw [hl']
            refine ⟨_, _, rfl, by omega, ?_⟩
            by_cases h0 : q.2 - q.1 = 0
            · exact .inl h0
            · rcases hcells with hz | ⟨b, off, rfl, hF, hr⟩
              · omega
              · refine .inr ⟨b, off + q.1, ?_, hF, fun j u hu => ?_⟩
                · rw [if_neg (by omega), hk, Nat.mul_one]
                  simp [Addr.add_lit]
                · rw [List.getElem?_take] at hu
                  split at hu
                  · rw [List.getElem?_drop] at hu
                    rw [Nat.add_assoc]
                    exact hr _ _ hu
                  · cases hu
          · rw [List.getElem?_take] at hu hx
            split at hu
            · rename_i hi
              rw [if_pos hi] at hx
              rw [List.getElem?_drop] at hu hx
              exact hrows _ _ _ hu hx
            · cases hu
        · cases h
      · rename_i e' xs
        split at h
        · rename_i hk
          simp only [Option.map_eq_some_iff] at h
          obtain ⟨q, hq, rfl⟩ := h
          obtain ⟨c1, c2, c3, c4, _⟩ := hcut _ q hq
          exact hImm 1 xs q (imm_of_rowL hx) hk c1 c2 c3 c4
        · cases h
      · rename_i id
        obtain ⟨vs, hv, h1c⟩ := hx
        split at h
        · rename_i e' k xs ho
          split at h
          · rename_i hk
            obtain ⟨pv, vs', hp, hat, _⟩ := r.obj id _ ho
            rw [hp] at hv; cases hv
            obtain ⟨p, cap, rfl, hc⟩ := owns_len hat.1
            split at h
            · simp only [Option.map_eq_some_iff] at h
              obtain ⟨q, hq, rfl⟩ := h
              obtain ⟨c1, c2, c3, c4, c5⟩ := hcut _ q hq
              have h0 := c5 rfl
              refine ⟨_, run_sliceAt_cut hu hs c3 c4 c1 (by omega), p, xs.length, cap, vs, hp, ?_, c2⟩
              rw [h0]
              simp
              intro _
              cases p with
              | none => rfl
              | some ad => simp [Addr.add]
            · simp only [Option.map_eq_some_iff] at h
              obtain ⟨q, hq, rfl⟩ := h
              obtain ⟨c1, c2, c3, c4, c5⟩ := hcut _ q hq
              refine ⟨_, run_sliceAt_cut hu hs c3 c4 c1 (by omega), p, xs.length, cap, vs, hp, by omega, _, _, rfl, by omega, ?_⟩
              by_cases h0 : q.2 - q.1 = 0
              · exact .inl h0
              · rcases hat.1.2 with ⟨_, hz⟩ | ⟨g, cap', cur, hg, _⟩
                · omega
                · cases hg
                  refine .inr ⟨g, rfl, ?_⟩
                  rw [if_neg (by omega), hk]
                  simp [Addr.add_lit]
          · cases h
        · rename_i e1 e2 m xss ho
          split at h
          · rename_i hk
            obtain ⟨pv, vs', hp, hat, _⟩ := r.obj id _ ho
            rw [hp] at hv; cases hv
            have hown : w.ownsRow N0 e1 1 xv xss.length vs := by
              cases m with
              | own st => exact hat.1
              | loc st => exact hat.1
              | any => exact hat.1
            obtain ⟨p, cap, rfl, hc⟩ := owns_len hown
            simp only [Option.map_eq_some_iff] at h
            obtain ⟨q, hq, rfl⟩ := h
            obtain ⟨c1, c2, c3, c4, c5⟩ := hcut _ q hq
            refine ⟨_, run_sliceAt_cut hu hs c3 c4 c1 (by omega), p, xss.length, cap, vs, hp, by omega, _, _, rfl, by omega, ?_⟩
            by_cases h0 : q.2 - q.1 = 0
            · exact .inl h0
            · rcases hown.2 with ⟨_, hz⟩ | ⟨g, cap', cur, hg, _⟩
              · omega
              · cases hg
                refine .inr ⟨g, rfl, ?_⟩
                rw [if_neg (by omega), hk]
                simp [Addr.add_lit]
          · cases h
        · cases h
      · cases h
    · cases h
  · cases h

end
end Go.Eng
/- The engine, part 14: what an operation makes anew: variables, rows. -/
set_option linter.unusedVariables false
namespace Go.Eng
open Go Go.RowKit

section
variable {N0 : Nat} {W0 : World} {s s' : AS} {β β' : Plc} {a : Act} {w w' : World} {P : Program} {T : Tys}

/-! ### fill -/

theorem foldl_set : ∀ (vs : List Value) (off k : Nat) (arr : Array Value), off + k + vs.length ≤ arr.size →
    ((vs.zipIdx k).foldl (fun cs (p : Value × Nat) => cs.setIfInBounds (off + p.2) p.1) arr).toList = arr.toList.take (off + k) ++ vs ++ arr.toList.drop (off + k + vs.length)
  | [], off, k, arr, h => by simp
  | v :: vs, off, k, arr, h => by
    simp only [List.zipIdx_cons, List.foldl_cons]
    simp only [List.length_cons] at h
    have ih := foldl_set vs off (k + 1) (arr.setIfInBounds (off + k) v) (by simp; omega)
    rw [ih]
    have hs : (arr.setIfInBounds (off + k) v).toList = arr.toList.set (off + k) v := by simp
    rw [hs]
    have hl : off + k < arr.toList.length := by simp; omega
    have e1 : off + (k + 1) = off + k + 1 := by omega
    rw [e1, List.take_set, List.drop_set_of_lt (by omega)]
    rw [List.take_succ_eq_append_getElem hl, List.set_append_right _ _ (by simp; omega)]
    have e2 : off + k - (arr.toList.take (off + k)).length = 0 := by simp; omega
    rw [e2]
    simp only [List.set_cons_zero, List.length_cons, List.append_assoc, List.cons_append, List.nil_append]
    congr 2
    congr 1
    congr 1
    omega

theorem foldl_set0 (vs : List Value) (off : Nat) (arr : Array Value) (h : off + vs.length ≤ arr.size) :
    (vs.toArray.zipIdx.foldl (fun cs (p : Value × Nat) => cs.setIfInBounds (off + p.2) p.1) arr).toList = arr.toList.take off ++ vs ++ arr.toList.drop (off + vs.length) := by
  have := foldl_set vs off 0 arr (by omega)
  simp only [Nat.add_zero] at this
  rw [← this]
  rw [← Array.foldl_toList]
  simp

def numberFrom {α : Type} : Nat → List α → List (Nat × α)
  | _, [] => []
  | k, x :: r => (k, x) :: numberFrom (k + 1) r

theorem fill_ok {k : Nat} : ∀ (vs : List Value) (i : Nat) (arr : Array Value), (∀ v ∈ vs, v.cells.size = k) → arr.size = (i + vs.length) * k →
    ∃ out, Instr.fill (fun i => some (i * k, k)) arr (numberFrom i vs) = some out ∧ out.toList = arr.toList.take (i * k) ++ (vs.map fun v => v.cells.toList).flatten
  | [], i, arr, _, h => ⟨arr, rfl, by simp at h; rw [List.take_of_length_le (by simp; omega)]; simp⟩
  | v :: vs, i, arr, hk, h => by
    have hv := hk v (by simp)
    simp only [List.length_cons] at h
    have hle : i * k + v.cells.size ≤ arr.size := by
      rw [h, hv]
      have : (i + (vs.length + 1)) * k = i * k + k + vs.length * k := by rw [Nat.add_mul, Nat.add_mul]; omega
      omega
    have hset := foldl_set0 v.cells.toList (i * k) arr (by simpa using hle)
    simp only [Array.length_toList] at hset
    have hcells : v.cells.toList.toArray = v.cells := by simp
    rw [hcells] at hset
    obtain ⟨out, h1, h2⟩ := fill_ok vs (i + 1) (v.cells.zipIdx.foldl (fun cs (p : Value × Nat) => cs.setIfInBounds (i * k + p.2) p.1) arr) (fun u hu => hk u (by simp [hu])) (by
      have : (v.cells.zipIdx.foldl (fun cs (p : Value × Nat) => cs.setIfInBounds (i * k + p.2) p.1) arr).toList.length = arr.size := by
        rw [hset]; simp; omega
      rw [Array.length_toList] at this
      rw [this, h]
      congr 1
      omega)
    refine ⟨out, ?_, ?_⟩
    · simp only [numberFrom, Instr.fill]
      rw [if_neg (by simp [hv]; omega)]
      exact h1
    · rw [h2, hset]
      have e1 : (i + 1) * k = i * k + k := by rw [Nat.add_mul]; omega
      have hl2 : (arr.toList.take (i * k) ++ v.cells.toList).length = i * k + k := by
        rw [List.length_append, List.length_take, Array.length_toList, Array.length_toList, hv, Nat.min_eq_left (by omega)]
      rw [e1, List.take_left' hl2]
      simp

/-! ### One cell -/

theorem Sc.val_one (x : Sc) : x.val.oneCell' = true := by cases x <;> rfl

theorem cr_one {B : Nat} {F : Nat → Prop} {c : CV} {v : Value} (h : CR B β F w c v) : v.oneCell' = true := by
  cases c with
  | sc x => rw [show v = x.val from h]; exact x.val_one
  | nil => rw [show v = _ from h]; rfl
  | imm k xs => obtain ⟨⟨p, cap, rfl, _⟩, _⟩ := h; rfl
  | imm2 xss => obtain ⟨vs, _, ⟨p, cap, rfl, _⟩, _⟩ := h; rfl
  | row e o =>
    cases o with
    | none => rw [show v = _ from h]; rfl
    | some xs => obtain ⟨_, _, h0, _⟩ := h; obtain ⟨b, n, c, rfl⟩ := h0 rfl; rfl
  | ref id => obtain ⟨vs, _, h⟩ := h; exact h
  | pre id n => obtain ⟨p, m, cap, vs, _, rfl, _⟩ := h; rfl
  | win id k l n => obtain ⟨p, m, cap, vs, _, _, p', cap', rfl, _⟩ := h; rfl
  | val u => obtain ⟨rfl, h⟩ := h; exact h
  | iv u k xs => obtain ⟨_, ⟨p, cap, rfl, _⟩, _⟩ := h; rfl
  | ptr id k i j => obtain ⟨pv, vs, b, _, _, rfl⟩ := h; rfl
  | iptr cs => obtain ⟨b, o, rfl, _⟩ := h; rfl
  | iprow xs => obtain ⟨b, o, u, rfl, _⟩ := h; rfl
  | fn f => rw [show v = _ from h]; rfl
  | clo f id => obtain ⟨pv, vs, b, _, _, rfl⟩ := h; rfl

theorem cells_one {v : Value} (h : v.oneCell' = true) : v.cells = #[v] := by cases v <;> simp [Value.oneCell'] at h <;> rfl

/-! ### A new object -/

def newE (id : Nat) (v : AV) (o : Obj) : Eff := { val := v, sets := [(id, some o)], fresh := [id] }

theorem below_alloc (w : World) (o : Go.Obj) : Below w.heap.size w (w.alloc o) := (Below.refl _ _).alloc (Nat.le_refl _) o

theorem EffU_new {o : Oper} {id : Nat} {ob : Obj} {av : AV} (hd : Oper.dstOk o s.n = true)
    (h : ∀ s' : AS, (∀ t ∈ slots o, s'.get t = s.get t) → ∀ N0 W0 β a w, Rel N0 W0 s' β a w → ∃ v arr e pv vs,
      (execOp a.eval o).run P w = .ok (.value v) (w.alloc (.cells arr e)) ∧
      (∀ F β', (∀ b, Free s' β w b → F b) → (∀ i x, β i = some x → β' i = some x) → ObjAt N0 β' F (w.alloc (.cells arr e)) pv vs ob) ∧
      (∀ b, blks ob.own pv vs b → b = w.heap.size) ∧
      (∀ F β', β' id = some (pv, vs) → AR N0 β' F (w.alloc (.cells arr e)) av v)) :
    EffU P o s (newE id av ob) := by
  intro s2 h1 h2 h3 h4 N0 W0 β a w r K Q hK
  obtain ⟨v, arr, e, pv, vs, hrun, hat, hbl, hav⟩ := h s2 h2 N0 W0 β a w r
  have hfr : id ∉ s2.used := h4 id (by simp [newE])
  have hfr' : s2.used.contains id = false := by simpa using hfr
  have r' := r.alloc (below_alloc w (.cells arr e)) hfr' (o := ob) (pv := pv) (vs := vs) (fun F β' hF hβ => hat F β' hF hβ) (fun b hb => by
    rw [hbl b hb]
    simp)
  have hid : (β.set id (pv, vs)) id = some (pv, vs) := by simp [Plc.set]
  unfold Oper.wp
  rw [hrun, Oper.upon_value]
  cases hdst : o.dst with
  | none => exact hK (β.set id (pv, vs)) a _ (by rw [hdst]; exact r')
  | some d =>
    refine hK (β.set id (pv, vs)) _ _ ?_
    rw [hdst]
    exact r'.put (d := d) (show d < s2.n by rw [h1]; exact Oper.dstOk_spec hd d hdst) (hav _ _ hid)

theorem heap_new (w : World) (o : Go.Obj) : (w.alloc o).heap[w.heap.size]? = some o := by
  show (w.heap.push o)[w.heap.size]? = some o
  simp

/-- A new variable of these cells. -/
theorem box_new {cs : List CV} {us : List Value} {e : Nat} (h : All2 (CR N0 β (Free s β w) w) cs us) (hN : N0 ≤ w.heap.size) {arr : Array Value} (harr : arr.toList = us) (F : Nat → Prop) (β' : Plc) (hF : ∀ b, Free s β w b → F b) (hβ : ∀ i x, β i = some x → β' i = some x) :
    ObjAt N0 β' F (w.alloc (.cells arr e)) (.pointer (some ⟨w.heap.size, 0, none⟩)) [] (.box e cs) := by
  refine ⟨w.heap.size, arr, rfl, hN, heap_new w _, ?_⟩
  rw [harr]
  exact h.mono fun c v _ _ hr => CR.keep (fun i pv vs hx => ⟨vs, hβ _ _ hx⟩) (fun b hb => ⟨hF b hb, (below_alloc w _).block b hb.1⟩) hr

theorem box_blk {b : Nat} {e : Nat} {cs : List CV} {k : Nat} (h : blks (Obj.box e cs).own (.pointer (some ⟨k, 0, none⟩)) [] b) : b = k := by
  rcases h with h | ⟨h, _⟩
  · cases h; rfl
  · cases h

def rBox (T : Tys) (t : Nat) (x : AV) : Option (List CV) :=
  match x with
  | .one c => if (T t).one then some [c] else none
  | .agg cs => match T t with
    | .st fs => if fs.length = cs.length then some cs else none
    | _ => none
  | _ => none

theorem rBox_ok {t : Nat} {x : AV} {cs : List CV} {xv : Value} {B : Nat} {F : Nat → Prop} (h : rBox T t x = some cs) (hx : AR B β F w x xv) : ∃ us, xv.cells.toList = us ∧ All2 (CR B β F w) cs us := by
  unfold rBox at h
  split at h
  · split at h
    · cases h
      exact ⟨[xv], by rw [cells_one (cr_one hx)], hx, trivial⟩
    · cases h
  · split at h
    · split at h
      · cases h
        obtain ⟨us, rfl, hall⟩ := hx
        exact ⟨us, by simp [Value.cells], hall⟩
      · cases h
    · cases h
  · cases h

theorem run_box (t : Nat) (v : Value) : (Instr.box t v).run P w = .ok (.pointer (some ⟨w.heap.size, 0, none⟩)) (w.alloc (.cells v.cells t)) := rfl

theorem EffU_box {o : Oper} {t : Nat} {x : Operand} {cs : List CV} {id : Nat} (ho : o.op = .box t x) (hd : Oper.dstOk o s.n = true) (h : rBox T t (s.ev x) = some cs) :
    EffU P o s (newE id (.one (.ptr id 1 0 0)) (.box t cs)) := by
  refine EffU_new hd fun s2 h2 N0 W0 β a w r => ?_
  have hev : s2.ev x = s.ev x := slots_ev h2 (by rw [ho]; simp [Op.operands])
  obtain ⟨us, hus, hall⟩ := rBox_ok (by rw [hev]; exact h) (r.ev x)
  refine ⟨_, (a.eval x).cells, t, .pointer (some ⟨w.heap.size, 0, none⟩), [], ?_, fun F β' hF hβ => box_new hall r.size0 hus F β' hF hβ, fun b hb => box_blk hb, fun F β' hid => ⟨_, _, w.heap.size, hid, .inr rfl, rfl⟩⟩
  unfold execOp
  rw [ho]
  simp only [Sem.run_bind, run_box, Result.andThen_ok, Sem.run_pure]

def zeroA (T : Tys) (t : Nat) : Option AV :=
  match T t with
  | .st fs => some (.agg (fs.map (zeroC T)))
  | .oth => none
  | _ => some (.one (zeroC T t))

theorem zeroC_ok {B : Nat} {F : Nat → Prop} (t : Nat) : CR B β F w (zeroC T t) (zeroV (zeroC T t)) := by
  unfold zeroC
  cases T t <;> rfl

theorem zeros_ok {B : Nat} {F : Nat → Prop} : ∀ fs : List Nat, All2 (CR B β F w) (fs.map (zeroC T)) (fs.map fun f => zeroV (zeroC T f))
  | [] => trivial
  | f :: fs => ⟨zeroC_ok f, zeros_ok fs⟩

theorem run_zero {t : Nat} {i : TypeInfo} {z : Value} (h : P.info? t = some i) (hz : i.zero = some z) : (zeroValue t).run P w = .ok z w := by simp [zeroValue, typeInfo, h, hz]

theorem zero_run (hT : TOk P T) {t : Nat} {z : AV} (h : zeroA T t = some z) : ∃ zv, (zeroValue t).run P w = .ok zv w ∧ ∀ B β F w', AR B β F w' z zv := by
  have ht := hT t
  unfold zeroA at h
  split at h
  · rename_i fs hst
    rw [hst] at ht
    cases h
    obtain ⟨_, _, _, _, bytes, _, hi⟩ := ht
    obtain ⟨i, h1, h2, h3, h4⟩ := hi.info
    refine ⟨_, run_zero h1 h4, fun B β F w' => ⟨_, rfl, ?_⟩⟩
    exact zeros_ok fs
  · cases h
  · rename_i h1 h2
    cases h
    cases hst : T t <;> rw [hst] at ht
    all_goals first
      | exact (h1 _ hst).elim
      | exact (h2 hst).elim
      | skip
    all_goals
      obtain ⟨_, hi⟩ := ht
      obtain ⟨i, g1, g2, g3, g4⟩ := hi.info
      refine ⟨_, run_zero g1 g4, fun B β F w' => ?_⟩
      show CR B β F w' (zeroC T t) _
      unfold zeroC
      rw [hst]
      rfl

theorem zeroA_box {t : Nat} {z : AV} (h : zeroA T t = some z) : ∃ cs, rBox T t z = some cs := by
  unfold zeroA at h
  split at h
  · rename_i fs hst
    cases h
    exact ⟨fs.map (zeroC T), by simp [rBox, hst]⟩
  · cases h
  · rename_i h1 h2
    cases h
    exact ⟨[zeroC T t], by simp [rBox, one_of h1 h2]⟩

theorem run_alloc {t : Nat} {zv : Value} (hz : (zeroValue t).run P w = .ok zv w) : (Instr.alloc t true (.tuple #[])).run P w = .ok (.pointer (some ⟨w.heap.size, 0, none⟩)) (w.alloc (.cells zv.cells t)) := by
  simp [Instr.alloc, hz, newVar, newRow]

theorem EffU_alloc (hT : TOk P T) {o : Oper} {t : Nat} {z : AV} {cs : List CV} {id : Nat} (ho : o.op = .alloc t) (hd : Oper.dstOk o s.n = true) (hz : zeroA T t = some z) (h : rBox T t z = some cs) :
    EffU P o s (newE id (.one (.ptr id 1 0 0)) (.box t cs)) := by
  refine EffU_new hd fun s2 h2 N0 W0 β a w r => ?_
  obtain ⟨zv, hzr, hza⟩ := zero_run (w := w) hT hz
  obtain ⟨us, hus, hall⟩ := rBox_ok h (hza N0 β (Free s2 β w) w)
  refine ⟨_, zv.cells, t, .pointer (some ⟨w.heap.size, 0, none⟩), [], ?_, fun F β' hF hβ => box_new hall r.size0 hus F β' hF hβ, fun b hb => box_blk hb, fun F β' hid => ⟨_, _, w.heap.size, hid, .inr rfl, rfl⟩⟩
  unfold execOp
  rw [ho]
  simp only [Sem.run_bind, run_alloc hzr, Result.andThen_ok, Sem.run_pure]

/-! ### Rows -/

def elOf : AV → Option El
  | .one (.sc x) => some [x]
  | .agg cs => scsOf cs
  | _ => none

def elsOf : List AV → Option (List El)
  | [] => some []
  | v :: r => (elOf v).bind fun e => (elsOf r).map (e :: ·)

def onesOf : List AV → Option (List CV)
  | [] => some []
  | .one c :: r => (onesOf r).map (c :: ·)
  | _ => none

theorem scsOf_ok {B : Nat} {F : Nat → Prop} : ∀ {cs : List CV} {xs : List Sc} {us : List Value}, scsOf cs = some xs → All2 (CR B β F w) cs us → us = xs.map Sc.val
  | [], xs, [], h, _ => by cases h; rfl
  | .sc x :: cs, xs, u :: us, h, ⟨h1, h2⟩ => by
    simp only [scsOf, Option.map_eq_some_iff] at h
    obtain ⟨ys, hy, rfl⟩ := h
    rw [scsOf_ok hy h2, List.map_cons, show u = x.val from h1]
  | [], _, _ :: _, _, h => h.elim
  | _ :: _, _, [], _, h => h.elim

theorem elOf_ok {B : Nat} {F : Nat → Prop} {x : AV} {e : El} {v : Value} (h : elOf x = some e) (hx : AR B β F w x v) : v.cells.toList = e.map Sc.val := by
  unfold elOf at h
  split at h
  · rename_i s1
    cases h
    rw [show v = s1.val from hx, cells_one s1.val_one]
    rfl
  · obtain ⟨us, rfl, hall⟩ := hx
    simp only [Value.cells]
    exact scsOf_ok h hall
  · cases h

theorem elsOf_ok {B : Nat} {F : Nat → Prop} : ∀ {xs : List AV} {es : List El} {vs : List Value}, elsOf xs = some es → All2 (AR B β F w) xs vs → (vs.map fun v => v.cells.toList).flatten = cellsOf es ∧ es.length = vs.length ∧ ∀ (i : Nat) (e : El) (v : Value), es[i]? = some e → vs[i]? = some v → v.cells.size = e.length
  | [], es, [], h, _ => by cases h; exact ⟨rfl, rfl, fun i e v h => by simp at h⟩
  | x :: xs, es, v :: vs, h, ⟨h1, h2⟩ => by
    simp only [elsOf, Option.bind_eq_some_iff, Option.map_eq_some_iff] at h
    obtain ⟨e, he, es', hes, rfl⟩ := h
    obtain ⟨i1, i2, i3⟩ := elsOf_ok hes h2
    have hv := elOf_ok he h1
    refine ⟨?_, by simp [i2], ?_⟩
    · simp only [List.map_cons, List.flatten_cons, i1, hv, cellsOf, List.map_append]
    · intro i e' v' h3 h4
      cases i with
      | zero =>
        simp at h3 h4
        subst h3; subst h4
        have := congrArg List.length hv
        simpa using this
      | succ i => exact i3 i e' v' (by simpa using h3) (by simpa using h4)
  | [], _, _ :: _, _, h => h.elim
  | _ :: _, _, [], _, h => h.elim

theorem onesOf_ok {B : Nat} {F : Nat → Prop} : ∀ {xs : List AV} {cs : List CV} {vs : List Value}, onesOf xs = some cs → All2 (AR B β F w) xs vs → (vs.map fun v => v.cells.toList).flatten = vs ∧ All2 (CR B β F w) cs vs ∧ ∀ v ∈ vs, v.cells.size = 1
  | [], cs, [], h, _ => by cases h; exact ⟨rfl, trivial, fun v h => by cases h⟩
  | .one c :: xs, cs, v :: vs, h, ⟨h1, h2⟩ => by
    simp only [onesOf, Option.map_eq_some_iff] at h
    obtain ⟨cs', hcs, rfl⟩ := h
    obtain ⟨i1, i2, i3⟩ := onesOf_ok hcs h2
    have hv := cells_one (cr_one h1)
    refine ⟨?_, ⟨h1, i2⟩, ?_⟩
    · simp only [List.map_cons, List.flatten_cons, i1, hv]; rfl
    · intro u hu
      rcases List.mem_cons.1 hu with rfl | hu
      · rw [hv]; rfl
      · exact i3 u hu
  | [], _, _ :: _, _, h => h.elim
  | _ :: _, _, [], _, h => h.elim
  | .agg _ :: _, _, _ :: _, h, _ => by cases h
  | .tup _ :: _, _, _ :: _, h, _ => by cases h
  | .dead :: _, _, _ :: _, h, _ => by cases h

def allLen (k : Nat) (xs : List El) : Bool := xs.all fun e => e.length == k

theorem allLen_ok {k : Nat} {xs : List El} (h : allLen k xs = true) : Flat k xs := fun e he => by simpa using List.all_eq_true.1 h e he

/-- The new object of a composite literal. -/
def rBuild (T : Tys) (t : Nat) (len : Nat) (xs : List AV) : Option Obj :=
  match T t with
  | .sl e =>
    match T e with
    | .oth => none
    | .sl e' => if xs.length = len ∧ len ≤ 1000000 then (if len = 0 then some (.rows e e' (.loc true) []) else (onesOf xs).map (.cvs e)) else none
    | _ => if len = 0 ∧ xs.length = 0 then some (.zrow e (kOf T e)) else if xs.length = len ∧ len ≤ 100000 then (elsOf xs).bind fun es => if allLen (kOf T e) es = true ∧ kOf T e ≤ 64 then some (.flat e (kOf T e) es) else none else none
  | _ => none

theorem zero_of (hT : TOk P T) {e : Nat} (h : (T e).ok = true) (w : World) : ∃ z, (zeroValue e).run P w = .ok z w := by
  have : ∃ z, zeroA T e = some z := by
    unfold zeroA
    cases ht : T e <;> rw [ht] at h <;> first | (simp [TI.ok] at h; done) | exact ⟨_, rfl⟩
  obtain ⟨z, hz⟩ := this
  obtain ⟨zv, h1, _⟩ := zero_run (w := w) hT hz
  exact ⟨zv, h1⟩

theorem run_buildSlice (hT : TOk P T) {t e : Nat} (ht : T t = .sl e) (hok : (T e).ok = true) {vs : List Value} (hv : ∀ v ∈ vs, v.cells.size = kOf T e) (hle : vs.length * kOf T e ≤ 2 ^ 24) :
    ∃ out : Array Value, (Instr.buildSlice t vs.length (numberFrom 0 vs).toArray).run P w = .ok (.slice (some ⟨w.heap.size, 0, none⟩) vs.length vs.length) (w.alloc (.cells out e)) ∧ out.toList = (vs.map fun v => v.cells.toList).flatten := by
  have hu : P.underlying t = some (.slice e) := by have := hT t; rw [ht] at this; exact this.1
  have hs := size_k hT hok w
  obtain ⟨z, hz⟩ := zero_of hT hok w
  have key : ∀ zero : Array Value, ∃ out : Array Value, Instr.fill (fun i => some (i * kOf T e, kOf T e)) ((Array.range (vs.length * kOf T e)).map (zero[· % zero.size]!)) (numberFrom 0 vs) = some out ∧ out.toList = (vs.map fun v => v.cells.toList).flatten := by
    intro zero
    obtain ⟨out, h1, h2⟩ := fill_ok (k := kOf T e) vs 0 ((Array.range (vs.length * kOf T e)).map (zero[· % zero.size]!)) hv (by simp)
    exact ⟨out, h1, by simpa using h2⟩
  have hn : ¬ (vs.length * kOf T e > 2 ^ 24) := by omega
  unfold Instr.buildSlice
  by_cases h0 : vs.length * kOf T e = 0
  · obtain ⟨out, h1, h2⟩ := key #[]
    refine ⟨out, ?_, h2⟩
    simp only [Sem.run_bind, run_underlying hu, Result.andThen_ok, hs]
    rw [if_neg hn, if_pos h0]
    simp only [Sem.run_bind, Sem.run_pure, Result.andThen_ok, List.toList_toArray, h1, newRow, run_newObj]
    rfl
  · obtain ⟨out, h1, h2⟩ := key z.cells
    refine ⟨out, ?_, h2⟩
    simp only [Sem.run_bind, run_underlying hu, Result.andThen_ok, hs]
    rw [if_neg hn, if_neg h0]
    simp only [Sem.run_bind, Sem.run_pure, Result.andThen_ok, hz, List.toList_toArray, h1, newRow, run_newObj]
    rfl

theorem owns_new {e k n : Nat} {out : Array Value} {cs : List Value} (hN : N0 ≤ w.heap.size) (hl : out.toList = cs) (hc : cs.length = n * k) (hm : n ≤ maxLen) :
    (w.alloc (.cells out e)).ownsRow N0 e k (.slice (some ⟨w.heap.size, 0, none⟩) n n) n cs := by
  refine ⟨hc, .inr ⟨w.heap.size, n, out, rfl, hN, heap_new w _, Nat.le_refl _, hm, ?_, ?_⟩⟩
  · rw [← Array.length_toList, hl, hc]
  · rw [hl, List.take_of_length_le (by omega)]

theorem flat_len {k : Nat} : ∀ {xs : List El}, Flat k xs → (cellsOf xs).length = xs.length * k
  | [], _ => by simp [cellsOf]
  | x :: xs, h => by
    have hx : x.length = k := h x (by simp)
    have ih := flat_len (xs := xs) (fun e he => h e (by simp [he]))
    simp only [cellsOf, List.flatten_cons, List.map_append, List.length_append, List.length_map, List.length_cons] at ih ⊢
    rw [ih, hx, Nat.add_mul]; omega

theorem slice_blk {b k n c : Nat} {vs : List Value} {o : Obj} (ho : o.own = true → vs = []) (h : blks o.own (.slice (some ⟨k, 0, none⟩) n c) vs b) : b = k := by
  rcases h with h | ⟨h, v, hv, _⟩
  · cases h; rfl
  · rw [ho h] at hv; cases hv

theorem EffU_build (hT : TOk P T) {o : Oper} {t len : Nat} {xs : List Operand} {ob : Obj} {id : Nat} (ho : o.op = .buildSlice t len (numberFrom 0 xs).toArray) (hd : Oper.dstOk o s.n = true) (h : rBuild T t len (xs.map s.ev) = some ob) :
    EffU P o s (newE id (.one (.ref id)) ob) := by
  refine EffU_new hd fun s2 h2 N0 W0 β a w r => ?_
  have hnum : ∀ (k : Nat) (l : List Operand), ((numberFrom k l).toArray.toList.map (·.2)) = l := by
    intro k l
    induction l generalizing k with
    | nil => rfl
    | cons x l ih => have := ih (k + 1); simp only [numberFrom, List.map_cons] at this ⊢; rw [this]
  have hev : xs.map s2.ev = xs.map s.ev := list_evs h2 (fun x hx => by
    rw [ho]
    simp only [Op.operands, hnum]
    simpa using hx)
  have hall := all2_ev r xs
  rw [hev] at hall
  have hparts : ∀ (k : Nat) (l : List Operand), (numberFrom k l).toArray.map (fun (i, x) => (i, a.eval x)) = (numberFrom k (l.map a.eval)).toArray := by
    intro k l
    simp only [List.map_toArray]
    congr 1
    induction l generalizing k with
    | nil => rfl
    | cons x l ih => simp only [numberFrom, List.map_cons, ih]
  have hlen : (xs.map s.ev).length = (xs.map a.eval).length := by simp
  unfold rBuild at h
  split at h
  · rename_i e hst
    have hexec : ∀ v w', (Instr.buildSlice t len (numberFrom 0 (xs.map a.eval)).toArray).run P w = .ok v w' → (execOp a.eval o).run P w = .ok (.value v) w' := by
      intro v w' hr
      unfold execOp
      rw [ho]
      simp only [Sem.run_bind, hparts, hr, Result.andThen_ok, Sem.run_pure]
    split at h
    · cases h
    · rename_i e' hse
      have hk1 : kOf T e = 1 := by unfold kOf; rw [hse]
      split at h
      · rename_i hl
        split at h
        · rename_i h0
          cases h
          have hxs : xs = [] := by
            have := hl.1; rw [h0] at this; simpa using this
          subst hxs
          obtain ⟨out, hr, ho2⟩ := run_buildSlice (w := w) hT hst (by rw [hse]; rfl) (vs := []) (fun v hv => by cases hv) (by simp)
          refine ⟨_, out, e, .slice (some ⟨w.heap.size, 0, none⟩) 0 0, [], hexec _ _ (by rw [h0]; exact hr), fun F β' hF hβ => ?_, fun b hb => slice_blk (fun _ => rfl) hb, fun F β' hid => ⟨[], hid, rfl⟩⟩
          exact ⟨owns_new r.size0 ho2 rfl (Nat.zero_le _), trivial, fun i j u v h => by simp at h⟩
        · simp only [Option.map_eq_some_iff] at h
          obtain ⟨cs, hcs, rfl⟩ := h
          obtain ⟨g1, g2, g3⟩ := onesOf_ok hcs hall
          obtain ⟨out, hr, ho2⟩ := run_buildSlice (w := w) hT hst (by rw [hse]; rfl) (vs := xs.map a.eval) (fun v hv => by rw [hk1]; exact g3 v hv) (by rw [hk1]; have := hl.1; have := hl.2; omega)
          have hvl : (xs.map a.eval).length = len := by rw [← hlen]; exact hl.1
          rw [hvl] at hr
          have hcl : cs.length = len := by rw [g2.length]; exact hvl
          refine ⟨_, out, e, .slice (some ⟨w.heap.size, 0, none⟩) len len, xs.map a.eval, hexec _ _ hr, fun F β' hF hβ => ?_, fun b hb => slice_blk (fun hh => by cases hh) hb, fun F β' hid => ⟨_, hid, rfl⟩⟩
          refine ⟨?_, g2.mono fun _ _ _ _ hc => CR.keep (fun i pv vs hx => ⟨vs, hβ _ _ hx⟩) (fun b hb => ⟨hF b hb, (below_alloc w _).block b hb.1⟩) hc⟩
          rw [hcl]
          exact owns_new r.size0 (ho2.trans g1) (by rw [hvl, Nat.mul_one]) (by unfold maxLen; have := hl.2; omega)
      · cases h
    · rename_i hn1 hn2
      have hok : (T e).ok = true := by cases hh : T e <;> first | rfl | exact (hn1 hh).elim
      split at h
      · rename_i hl
        cases h
        obtain ⟨h0, hx0⟩ := hl
        have hxs : xs = [] := by simpa using hx0
        subst hxs
        obtain ⟨out, hr, ho2⟩ := run_buildSlice (w := w) hT hst hok (vs := []) (fun v hv => by cases hv) (by simp)
        refine ⟨_, out, e, .slice (some ⟨w.heap.size, 0, none⟩) 0 0, [], hexec _ _ (by rw [h0]; exact hr), fun F β' hF hβ => ⟨?_, _, _, _, rfl⟩, fun b hb => slice_blk (fun _ => rfl) hb, fun F β' hid => ⟨[], hid, rfl⟩⟩
        exact owns_new r.size0 ho2 (by simp) (Nat.zero_le _)
      split at h
      · rename_i hl
        simp only [Option.bind_eq_some_iff] at h
        obtain ⟨es, hes, h⟩ := h
        split at h
        · rename_i hal
          cases h
          obtain ⟨hal, hk64⟩ := hal
          have hfl := allLen_ok hal
          obtain ⟨g1, g2, g3⟩ := elsOf_ok hes hall
          have hvl : (xs.map a.eval).length = len := by rw [← hlen]; exact hl.1
          have hsz : ∀ v ∈ xs.map a.eval, v.cells.size = kOf T e := by
            intro v hv
            obtain ⟨i, hi⟩ := List.getElem?_of_mem hv
            have hi' : i < es.length := by rw [g2]; exact (List.getElem?_eq_some_iff.1 hi).1
            rw [g3 i es[i] v (List.getElem?_eq_getElem hi') hi]
            exact hfl _ (List.getElem_mem hi')
          have hk : len * kOf T e ≤ 100000 * 64 := Nat.mul_le_mul hl.2 hk64
          obtain ⟨out, hr, ho2⟩ := run_buildSlice (w := w) hT hst hok (vs := xs.map a.eval) hsz (by rw [hvl]; omega)
          rw [hvl] at hr
          have hel : es.length = len := by rw [g2]; exact hvl
          refine ⟨_, out, e, .slice (some ⟨w.heap.size, 0, none⟩) len len, [], hexec _ _ hr, fun F β' hF hβ => ⟨?_, hfl⟩, fun b hb => slice_blk (fun hh => by cases hh) hb, fun F β' hid => ⟨_, hid, rfl⟩⟩
          rw [hel]
          exact owns_new r.size0 (ho2.trans g1) (by rw [flat_len hfl, hel]) (by unfold maxLen; have := hl.2; omega)
        · cases h
      · cases h
  · cases h

end
end Go.Eng
/- The engine, part 15: append to a row of plain cells; make. -/
set_option linter.unusedVariables false
namespace Go.Eng
open Go Go.RowKit

section
variable {N0 : Nat} {W0 : World} {s s' : AS} {β β' : Plc} {a : Act} {w w' : World} {P : Program} {T : Tys}

/-- What is appended: so many elements, at an address or nowhere. -/
def SrcAt (w : World) (k : Nat) (v : Value) (m : Nat) (news : List Value) : Prop :=
  news.length = m * k ∧ (∀ u ∈ news, u.oneCell' = true) ∧
  ((∃ c, v = .slice none m c ∧ m = 0) ∨ ∃ ad c, v = .slice (some ad) m c ∧ ∀ j u, news[j]? = some u → w.cell? (ad.add j) = some u)

theorem info_k (hT : TOk P T) {e : Nat} (h : (T e).ok = true) : ∃ i z bytes, P.info? e = some i ∧ i.size = kOf T e ∧ i.bytes = bytes ∧ i.zero = some z ∧ z.cells.size = kOf T e ∧ 0 < kOf T e ∧ bytes ≤ 64 := by
  have ht := hT e
  unfold kOf
  cases hst : T e <;> rw [hst] at ht h
  case st fs =>
    obtain ⟨hpos, _, _, _, bytes, hb, hi⟩ := ht
    obtain ⟨i, h1, h2, h3, h4⟩ := hi.info
    exact ⟨i, _, bytes, h1, h2, h3, h4, by simp [Value.cells], hpos, hb⟩
  case oth => simp [TI.ok] at h
  all_goals
    obtain ⟨_, hi⟩ := ht
    obtain ⟨i, h1, h2, h3, h4⟩ := hi.info
    exact ⟨i, _, _, h1, h2, h3, h4, rfl, by show 0 < 1; exact Nat.one_pos, by decide⟩

theorem run_append_zero {t e ty : Nat} (hu : P.underlying t = some (.slice e)) {k : Nat} (hs : (sizeOf e).run P w = .ok k w) {p : Option Addr} {n cap c : Nat} (hn : n ≤ cap) :
    (Builtin.append_ #[t, t] ty #[.slice p n cap, .slice none 0 c]).run P w = .ok (.slice p n cap) w := by
  cases p with
  | none => simp [Builtin.append_, run_underlying hu, hs, Builtin.lenOf, hn, run_firstCells_none]
  | some ad => simp [Builtin.append_, run_underlying hu, hs, Builtin.lenOf, hn, run_firstCells_none, storeCells]

theorem append_run (hT : TOk P T) {t e : Nat} (ht : T t = .sl e) (hok : (T e).ok = true) {ty : Nat} {v xv : Value} {n m : Nat} {xs news : List Value} (hown : w.ownsRow N0 e (kOf T e) v n xs) (hN : N0 ≤ w.heap.size)
    (hsrc : SrcAt w (kOf T e) xv m news) (hle : n + m ≤ 1099511627776) :
    ∃ v' w', (Builtin.append_ #[t, t] ty #[v, xv]).run P w = .ok v' w' ∧ w'.ownsRow N0 e (kOf T e) v' (n + m) (xs ++ news) ∧ w.grownBy w' (blockOf v) ∧ (blockOf v' = blockOf v ∨ blockOf v' = some w.heap.size) ∧ v'.oneCell' = true := by
  have hu : P.underlying t = some (.slice e) := by have := hT t; rw [ht] at this; exact this.1
  have hs := size_k hT hok w
  obtain ⟨i, z, bytes, hi, hsize, hby, hz, hzs, hpos, hb64⟩ := info_k hT hok
  obtain ⟨hl, h1, hx⟩ := hsrc
  have hown' : v.ownBlock = blockOf v := by
    rcases hown.2 with ⟨rfl, _⟩ | ⟨g, cap, cur, rfl, _⟩ <;> rfl
  have hbytes : (n + m) * bytes ≤ 140737488355328 := by
    have : (n + m) * bytes ≤ 1099511627776 * 64 := Nat.mul_le_mul hle hb64
    omega
  rcases hx with ⟨c, rfl, rfl⟩ | ⟨ad, c, rfl, hnews⟩
  · have hnil : news = [] := List.eq_nil_of_length_eq_zero (by simpa using hl)
    subst hnil
    obtain ⟨p, cap, rfl, hc⟩ := owns_len hown
    exact ⟨_, w, run_append_zero hu hs hc, by simpa using hown, grownBy_refl _ _, .inl rfl, rfl⟩
  · obtain ⟨v', w', hr, ho', hg', _⟩ := run_append_own (P := P) w N0 t ty e i z (kOf T e) bytes hu hi hz hsize hby hzs hpos v n xs hown ad m c news hl hnews h1 (by unfold maxLen; omega) hbytes hN
    rw [hown'] at hg'
    obtain ⟨p', cap', hv', _⟩ := owns_len ho'
    refine ⟨v', w', hr, ho', hg', ?_, by rw [hv']; rfl⟩
    rcases hown.2 with ⟨rfl, rfl⟩ | ⟨g, cap, cur, rfl, hbg, hgc, hnc, hcm, hcs, htake⟩
    · by_cases hm : m = 0
      · subst hm
        have hnil : news = [] := List.eq_nil_of_length_eq_zero (by simpa using hl)
        subst hnil
        have : (Builtin.append_ #[t, t] ty #[.slice none 0 0, .slice (some ad) 0 c]).run P w = .ok (.slice none 0 0) w := by
          have hf := run_firstCells_some (P := P) w (kOf T e) 0 ad 0 c [] (by simp) (fun j v h => by simp at h)
          simp [Builtin.append_, run_underlying hu, hs, Builtin.lenOf, hf]
        rw [this] at hr
        cases hr
        exact .inl rfl
      · have := run_append_nil (P := P) w t ty e i z hu hi hz ad m c news (by rw [hsize]; exact hl) hnews (by omega) (by omega) (by rw [hby]; simp only [Nat.zero_add] at hbytes; omega)
        rw [this] at hr
        cases hr
        exact .inr rfl
    · by_cases hroom : n + m ≤ cap
      · have hfit : n * i.size + news.length ≤ cur.size := by rw [hl, hcs, hsize, ← Nat.add_mul]; exact Nat.mul_le_mul_right _ hroom
        have := run_append_room (P := P) w t ty e i hu hi g n cap cur hgc ad m c news (by rw [hsize]; exact hl) hnews h1 hroom hfit
        rw [this] at hr
        cases hr
        exact .inl rfl
      · have := run_append_grow (P := P) w t ty e i z hu hi hz ⟨g, 0, none⟩ n cap xs (by rw [hsize]; exact hown.1) (hown.cells (g := g) rfl) ad m c news (by rw [hsize]; exact hl) hnews (by omega) (by omega) (growslice_fits (by omega) (by rw [hby]; exact hbytes))
        rw [this] at hr
        cases hr
        exact .inr rfl

/-- The source of an append: rows of plain cells. -/
def rSrc (T : Tys) (s : AS) (e : Nat) (x : AV) : Option (List El × List Nat) :=
  match x with
  | .one .nil => some ([], [])
  | .one (.imm k xs) => if kOf T e = k then some (xs, []) else none
  | .one (.row _ o) => if kOf T e = 1 then some (o.getD [], []) else none
  | .one (.ref id) => match s.obj id with
    | some (.flat _ k xs) => if kOf T e = k then some (xs, [id]) else none
    | some (.zrow _ k) => if kOf T e = k then some ([], [id]) else none
    | _ => none
  | .one (.pre id n) => match s.obj id with
    | some (.flat _ k xs) => if kOf T e = k then some (xs.take n, [id]) else none
    | _ => none
  | .one (.win id k l n) => match s.obj id with
    | some (.flat _ k' xs) => if kOf T e = k ∧ k = k' then some ((xs.drop l).take n, [id]) else none
    | _ => none
  | _ => none

theorem vals_one (xs : List El) : ∀ u ∈ cellsOf xs, u.oneCell' = true := by
  intro u hu
  unfold cellsOf at hu
  obtain ⟨x, _, rfl⟩ := List.mem_map.1 hu
  exact x.val_one

theorem src_imm {F : Nat → Prop} {k : Nat} {v : Value} {xs : List El} (h : Imm F w k v xs) : SrcAt w k v xs.length (cellsOf xs) := by
  obtain ⟨⟨p, cap, rfl, hc, hcells⟩, hf⟩ := h
  refine ⟨flat_len hf, vals_one xs, ?_⟩
  by_cases h0 : xs.length = 0
  · have hx : xs = [] := List.eq_nil_of_length_eq_zero h0
    subst hx
    cases p with
    | none => exact .inl ⟨cap, rfl, rfl⟩
    | some ad => exact .inr ⟨ad, cap, rfl, fun j u hu => by simp [cellsOf] at hu⟩
  · rcases hcells with hz | ⟨b, off, rfl, hF, hr⟩
    · exact (h0 hz).elim
    · exact .inr ⟨_, cap, rfl, fun j u hu => by rw [Addr.add_lit]; exact hr j u hu⟩

theorem rSrc_ok (r : Rel N0 W0 s β a w) {e : Nat} {x : AV} {y : List El × List Nat} {v : Value} (h : rSrc T s e x = some y) (hx : AR N0 β (Free s β w) w x v) : SrcAt w (kOf T e) v y.1.length (cellsOf y.1) ∧ Flat (kOf T e) y.1 := by
  have hk : Keep (Free s β w) (fun b => b < w.heap.size) w w := fun b hb => ⟨hb.1, rfl⟩
  have key : Imm (fun b => b < w.heap.size) w (kOf T e) v y.1 := by
    have hnil : v = .slice none 0 0 → Imm (fun b => b < w.heap.size) w (kOf T e) v [] := fun hv => ⟨⟨none, 0, hv, Nat.le_refl _, .inl rfl⟩, fun e he => by cases he⟩
    unfold rSrc at h
    split at h
    · cases h; exact hnil hx
    · split at h
      · rename_i hk1; cases h; rw [hk1]; exact Imm.keep hk hx
      · cases h
    · rename_i e' o
      split at h
      · rename_i hk1
        cases h
        cases o with
        | none => exact hnil hx
        | some xs => rw [hk1]; exact (imm_of_rowL hx).keep hk
      · cases h
    · rename_i id
      split at h
      · rename_i e' k xs ho
        split at h
        · rename_i hk1
          cases h
          obtain ⟨pv, vs, hp, hat, _⟩ := r.obj id _ ho
          obtain ⟨vs', hv, _⟩ := hx
          rw [hp] at hv; cases hv
          rw [hk1]
          exact imm_of_owns hat.1 hat.2
        · cases h
      · rename_i e' k ho
        split at h
        · rename_i hk1
          cases h
          obtain ⟨pv, vs, hp, hat, _⟩ := r.obj id _ ho
          obtain ⟨vs', hv, _⟩ := hx
          rw [hp] at hv; cases hv
          rw [hk1]
          exact imm_of_owns (xs := []) hat.1 (fun e he => by cases he)
        · cases h
      · cases h
    · rename_i id n
      split at h
      · rename_i e' k xs ho
        split at h
        · rename_i hk1
          cases h
          obtain ⟨pv, vs, hp, hat, _⟩ := r.obj id _ ho
          obtain ⟨p, m, cap, vs', hv, he, hn⟩ := hx
          rw [hp] at hv; cases hv
          rw [hk1]
          exact pre_imm rfl hat.1 hat.2 hn he
        · cases h
      · cases h
    · rename_i id k l n
      split at h
      · rename_i e' k' xs ho
        split at h
        · rename_i hk1
          cases h
          obtain ⟨pv, vs, hp, hat, _⟩ := r.obj id _ ho
          obtain ⟨p, m, cap, vs', hv, hln, p', cap', he, hnc, hp'⟩ := hx
          rw [hp] at hv; cases hv
          rw [hk1.1]
          obtain ⟨h1, rfl⟩ := hk1
          exact win_imm rfl hat.1 hat.2 hln he hnc hp'
        · cases h
      · cases h
    · cases h
  exact ⟨src_imm key, key.2⟩

/-- The row that is appended to: its number (none: nil), its elements. -/
def rDst (T : Tys) (s : AS) (e : Nat) (x : AV) : Option (Option Nat × List El) :=
  match x with
  | .one .nil => some (none, [])
  | .one (.ref id) => match s.obj id with
    | some (.flat e' k xs) => if e' = e ∧ k = kOf T e then some (some id, xs) else none
    | some (.zrow e' k) => if e' = e ∧ k = kOf T e then some (some id, []) else none
    | _ => none
  | .one (.pre id n) => match s.obj id with
    | some (.flat e' k xs) => if e' = e ∧ k = kOf T e then some (some id, xs.take n) else none
    | _ => none
  | _ => none

def killL : Option Nat → List (Nat × Option Obj)
  | some id => [(id, none)]
  | none => []

/-- append(s, x...) -/
def rAppend (T : Tys) (s : AS) (t id' : Nat) (x y : AV) : Option Eff :=
  match T t with
  | .sl e =>
    if (T e).ok = true then
      (rDst T s e x).bind fun d => (rSrc T s e y).bind fun q =>
        if d.2.length + q.1.length ≤ 1099511627776 then
          some { val := .one (.ref id'), sets := (id', some (.flat e (kOf T e) (d.2 ++ q.1))) :: killL d.1, fresh := [id'], log := d.1.toList ++ q.2 }
        else none
    else none
  | _ => none

theorem cellsOf_append (xs ys : List El) : cellsOf (xs ++ ys) = cellsOf xs ++ cellsOf ys := by simp [cellsOf]

theorem Flat.append {k : Nat} {xs ys : List El} (h : Flat k xs) (h' : Flat k ys) : Flat k (xs ++ ys) := fun e he => by
  rcases List.mem_append.1 he with h1 | h1
  · exact h e h1
  · exact h' e h1

theorem rAppend_ok (hT : TOk P T) (r : Rel N0 W0 s β a w) {t id' ty : Nat} {x y : AV} {f : Eff} {xv yv : Value} (h : rAppend T s t id' x y = some f) (hid : id' ∉ s.used) (hx : AR N0 β (Free s β w) w x xv) (hy : AR N0 β (Free s β w) w y yv) :
    ∃ v' w' β', (Builtin.append_ #[t, t] ty #[xv, yv]).run P w = .ok v' w' ∧ Rel N0 W0 { s with H := f.sets ++ s.H, used := f.fresh ++ s.used } β' a w' ∧ AR N0 β' (Free { s with H := f.sets ++ s.H, used := f.fresh ++ s.used } β' w') w' f.val v' := by
  have hid' : s.used.contains id' = false := by simpa using hid
  unfold rAppend at h
  split at h
  · rename_i e hst
    split at h
    · rename_i hok
      simp only [Option.bind_eq_some_iff] at h
      obtain ⟨d, hd, q, hq, h⟩ := h
      split at h
      · rename_i hle
        cases h
        obtain ⟨hsrc, hqf⟩ := rSrc_ok r hq hy
        -- appending to a row v0 of n0 elements whose cells are cells of d.2
        have fin : ∀ (v0 : Value), w.ownsRow N0 e (kOf T e) v0 d.2.length (cellsOf d.2) → Flat (kOf T e) d.2 → ∃ v' w', (Builtin.append_ #[t, t] ty #[v0, yv]).run P w = .ok v' w' ∧ w.grownBy w' (blockOf v0) ∧ (blockOf v' = blockOf v0 ∨ blockOf v' = some w.heap.size) ∧ v'.oneCell' = true ∧
            (∀ F β', ObjAt N0 β' F w' v' [] (.flat e (kOf T e) (d.2 ++ q.1))) ∧ (∀ b, blockOf v' = some b → b < w'.heap.size) := by
          intro v0 hown hdf
          obtain ⟨v', w', h1, h2, h3, h4, h5⟩ := append_run (ty := ty) hT hst hok hown r.size0 hsrc hle
          refine ⟨v', w', h1, h3, h4, h5, fun F β' => ⟨?_, hdf.append hqf⟩, fun b hb => ?_⟩
          · rw [List.length_append, cellsOf_append]; exact h2
          · have : v'.ownBlock = some b := by
              obtain ⟨p, cap, hv, _⟩ := owns_len h2
              rw [hv] at hb ⊢
              cases p <;> simp [blockOf, Value.ownBlock] at hb ⊢ <;> exact hb
            exact (h2.lt b this).2
        unfold rDst at hd
        split at hd
        · -- nil
          cases hd
          have hx' : xv = .slice none 0 0 := hx
          subst hx'
          obtain ⟨v', w', h1, h3, h4, h5, h6, h7⟩ := fin (.slice none 0 0) (World.ownsRow_nil _ _ _ _) (fun e he => by cases he)
          have hbel : Below w.heap.size w w' := ⟨h3.os, h3.tape, h3.output, h3.size, fun k hk => h3.block k hk (by simp [blockOf])⟩
          have r' := r.alloc hbel hid' (o := .flat e (kOf T e) ([] ++ q.1)) (pv := v') (vs := []) (fun F β' _ _ => h6 F β') (fun b hb => by
            rcases hb with hb | ⟨hb, _⟩
            · refine ⟨?_, h7 b hb⟩
              rcases h4 with h4 | h4
              · rw [h4] at hb; cases hb
              · rw [h4] at hb; cases hb; exact Nat.le_refl _
            · cases hb)
          exact ⟨v', w', _, h1, r', [], by simp [Plc.set], h5⟩
        · rename_i id
          obtain ⟨vs, hv, hone⟩ := hx
          split at hd
          · rename_i e' k xs ho
            split at hd
            · rename_i hek
              obtain ⟨rfl, rfl⟩ := hek
              cases hd
              obtain ⟨pv, vs', hp, hat, hblk⟩ := r.obj id _ ho
              rw [hp] at hv; cases hv
              obtain ⟨v', w', h1, h3, h4, h5, h6, h7⟩ := fin _ hat.1 hat.2
              have r' := r.rewrite ho hp h3 hid' (o' := .flat e' (kOf T e') (xs ++ q.1)) (pv' := v') (vs' := []) (fun F β' _ _ => h6 F β') (fun b hb => by
                rcases hb with hb | ⟨hb, _⟩
                · refine ⟨h7 b hb, ?_⟩
                  rcases h4 with h4 | h4
                  · exact .inr (.inl (by rw [← h4]; exact hb))
                  · rw [h4] at hb; cases hb; exact .inl (Nat.le_refl _)
                · cases hb)
              exact ⟨v', w', _, h1, r', [], by simp [Plc.set], h5⟩
            · cases hd
          · rename_i e' k ho
            split at hd
            · rename_i hek
              obtain ⟨rfl, rfl⟩ := hek
              cases hd
              obtain ⟨pv, vs', hp, hat, hblk⟩ := r.obj id _ ho
              rw [hp] at hv; cases hv
              obtain ⟨v', w', h1, h3, h4, h5, h6, h7⟩ := fin _ hat.1 (fun e he => by cases he)
              have r' := r.rewrite ho hp h3 hid' (o' := .flat e' (kOf T e') ([] ++ q.1)) (pv' := v') (vs' := []) (fun F β' _ _ => h6 F β') (fun b hb => by
                rcases hb with hb | ⟨hb, _⟩
                · refine ⟨h7 b hb, ?_⟩
                  rcases h4 with h4 | h4
                  · exact .inr (.inl (by rw [← h4]; exact hb))
                  · rw [h4] at hb; cases hb; exact .inl (Nat.le_refl _)
                · cases hb)
              exact ⟨v', w', _, h1, r', [], by simp [Plc.set], h5⟩
            · cases hd
          · cases hd
        · rename_i id n
          obtain ⟨p, m, cap, vs, hv, rfl, hn⟩ := hx
          split at hd
          · rename_i e' k xs ho
            split at hd
            · rename_i hek
              obtain ⟨rfl, rfl⟩ := hek
              cases hd
              obtain ⟨pv, vs', hp, hat, hblk⟩ := r.obj id _ ho
              rw [hv] at hp; cases hp
              have hm : m = xs.length := by obtain ⟨_, _, he, _⟩ := owns_len hat.1; cases he; rfl
              have ht := ownsRow_take hat.1 (n := n) (by omega)
              have hl : (xs.take n).length = n := by simp; omega
              obtain ⟨v', w', h1, h3, h4, h5, h6, h7⟩ := fin (.slice p n cap) (by rw [hl, cellsOf_take n hat.2]; exact ht) (hat.2.take n)
              have hbe : blockOf (.slice p n cap) = blockOf (.slice p m cap) := by cases p <;> rfl
              rw [hbe] at h3 h4
              have r' := r.rewrite ho hv h3 hid' (o' := .flat e' (kOf T e') (xs.take n ++ q.1)) (pv' := v') (vs' := []) (fun F β' _ _ => h6 F β') (fun b hb => by
                rcases hb with hb | ⟨hb, _⟩
                · refine ⟨h7 b hb, ?_⟩
                  rcases h4 with h4 | h4
                  · exact .inr (.inl (by rw [← h4]; exact hb))
                  · rw [h4] at hb; cases hb; exact .inl (Nat.le_refl _)
                · cases hb)
              exact ⟨v', w', _, h1, r', [], by simp [Plc.set], h5⟩
            · cases hd
          · cases hd
        · cases hd
      · cases h
    · cases h
  · cases h

end
end Go.Eng
/- The engine, part 16: stores; make; structs; conversions. -/
set_option linter.unusedVariables false
namespace Go.Eng
open Go Go.RowKit

section
variable {N0 : Nat} {W0 : World} {s s' : AS} {β β' : Plc} {a : Act} {w w' : World} {P : Program} {T : Tys}

/-! ### Stores -/

/-- The cells that are stored. -/
def storeCs (T : Tys) (t : Nat) (v : AV) : Option (List CV) := rBox T t v

/-- A store through a pointer into an object. -/
def rStore (T : Tys) (s : AS) (t : Nat) (p v : AV) : Option (List (Nat × Option Obj) × List Nat) :=
  match p with
  | .one (.ptr id k i j) =>
    match s.obj id with
    | some (.box e cs) => (rBox T t v).bind fun ds => if i = 0 ∧ j + ds.length ≤ cs.length ∧ 0 < ds.length then some ([(id, some (.box e (cs.take j ++ ds ++ cs.drop (j + ds.length))))], [id]) else none
    | some (.flat e k' xs) =>
      if k = k' ∧ i < xs.length then
        match T t with
        | .st fs => (elOf v).bind fun el => if j = 0 ∧ el.length = k ∧ fs.length = k then some ([(id, some (.flat e k (xs.set i el)))], [id]) else none
        | .oth => none
        | _ => match v with
          | .one (.sc x) => if j < k then some ([(id, some (.flat e k (if k = 1 then xs.set i [x] else xs.set i ((xs[i]?.getD []).set j x))))], [id]) else none
          | _ => none
      else none
    | _ => none
  | _ => none

theorem TOk.sizeN (hT : TOk P T) {t n : Nat} (h : ((T t).one = true ∧ n = 1) ∨ ∃ fs, T t = .st fs ∧ fs.length = n) : (sizeOf t).run P w = .ok n w := by
  rcases h with ⟨h, rfl⟩ | ⟨fs, h, rfl⟩
  · obtain ⟨i, h1, h2⟩ := hT.size_one h w
    simp [sizeOf, typeInfo, h1, h2]
  · have := hT t
    rw [h] at this
    obtain ⟨_, _, _, _, bytes, _, hi⟩ := this
    obtain ⟨i, h1, h2, _⟩ := hi.info
    simp [sizeOf, typeInfo, h1, h2]

/-- A store of some cells into a block that is known whole. -/
theorem run_store_cells (hT : TOk P T) {t b o : Nat} {v : Value} {vs : List Value} {cur : Array Value} {e : Nat} (hsz : ((T t).one = true ∧ vs.length = 1) ∨ ∃ fs, T t = .st fs ∧ fs.length = vs.length)
    (hv : v.cells.toList = vs) (hb : w.heap[b]? = some (.cells cur e (0, 0))) (hle : o + vs.length ≤ cur.size) (h1 : ∀ u ∈ vs, u.oneCell' = true) :
    (Instr.storeAt t (.pointer (some ⟨b, o, none⟩)) v).run P w = .ok () (w.setRow b (cur.toList.take o ++ vs ++ cur.toList.drop (o + vs.length)).toArray) := by
  have hs := hT.sizeN (w := w) hsz
  have hst := run_storeCells_at P b o e vs 0 cur w hb (by simpa using hle) h1
  have hsz' : v.cells.size = vs.length := by rw [← hv]; simp
  simp only [Nat.add_zero] at hst
  simp [Instr.storeAt, Instr.sureAddr, storeVar, hs, hsz', hv, hst]

theorem grownBy_setRow (w : World) (b : Nat) (cs : Array Value) : w.grownBy (w.setRow b cs) (some b) where
  os := rfl
  tape := rfl
  output := rfl
  size := by simp [World.setRow]
  block := fun k _ hne => by
    simp only [World.setRow, Array.getElem?_modify]
    rw [if_neg (fun e => hne (by rw [e]))]

theorem rBox_size {t : Nat} {v : AV} {cs : List CV} (h : rBox T t v = some cs) : ((T t).one = true ∧ cs.length = 1) ∨ ∃ fs, T t = .st fs ∧ fs.length = cs.length := by
  unfold rBox at h
  split at h
  · split at h
    · rename_i h1; cases h; exact .inl ⟨h1, rfl⟩
    · cases h
  · split at h
    · rename_i fs hst
      split at h
      · rename_i hl; cases h; exact .inr ⟨fs, hst, hl⟩
      · cases h
    · cases h
  · cases h

theorem all2_one {B : Nat} {F : Nat → Prop} : ∀ {cs : List CV} {us : List Value}, All2 (CR B β F w) cs us → ∀ u ∈ us, u.oneCell' = true
  | [], [], _, u, hu => by cases hu
  | _ :: _, v :: us, ⟨h1, h2⟩, u, hu => by
    rcases List.mem_cons.1 hu with rfl | hu
    · exact cr_one h1
    · exact all2_one h2 u hu
  | [], _ :: _, h, _, _ => h.elim
  | _ :: _, [], h, _, _ => h.elim

theorem Plc.set_self {id : Nat} {x : Value × List Value} (h : β id = some x) : β.set id x = β := by
  funext i
  unfold Plc.set
  split
  · rename_i hi; rw [hi, h]
  · rfl

theorem cellsOf_set {k : Nat} : ∀ {xs : List El} (i : Nat) (el : El), Flat k xs → i < xs.length → el.length = k → cellsOf (xs.set i el) = (cellsOf xs).take (i * k) ++ el.map Sc.val ++ (cellsOf xs).drop (i * k + k) := by
  intro xs i el h hi hl
  have h1 : xs.set i el = xs.take i ++ el :: xs.drop (i + 1) := by
    rw [List.set_eq_take_append_cons_drop, if_pos hi]
  rw [h1, cellsOf_append, cellsOf_take i h]
  have h2 : cellsOf (el :: xs.drop (i + 1)) = el.map Sc.val ++ cellsOf (xs.drop (i + 1)) := by simp [cellsOf]
  rw [h2, cellsOf_drop (i + 1) h, List.append_assoc]
  congr 3
  rw [Nat.add_mul]; omega

theorem Flat.set {k : Nat} {xs : List El} (h : Flat k xs) (i : Nat) {el : El} (hl : el.length = k) : Flat k (xs.set i el) := fun e he => by
  rcases List.mem_or_eq_of_mem_set he with h1 | rfl
  · exact h e h1
  · exact hl

/-- Writing one element of an owned row. -/
theorem owns_setRow {B e k n i : Nat} {b m cap : Nat} {xs : List El} {el : El} {cur : Array Value} (h : w.ownsRow B e k (.slice (some ⟨b, 0, none⟩) m cap) xs.length (cellsOf xs)) (hb : w.heap[b]? = some (.cells cur e (0, 0)))
    (hf : Flat k xs) (hi : i < xs.length) (hl : el.length = k) :
    (w.setRow b (cur.toList.take (i * k) ++ el.map Sc.val ++ cur.toList.drop (i * k + k)).toArray).ownsRow B e k (.slice (some ⟨b, 0, none⟩) m cap) (xs.set i el).length (cellsOf (xs.set i el)) := by
  have hfs := hf.set i hl
  refine ⟨flat_len hfs, ?_⟩
  rcases h.2 with ⟨hh, _⟩ | ⟨g, cap', cur', hv, hbg, hg, hc, hm, hs, ht⟩
  · cases hh
  · cases hv
    rw [hb] at hg; cases hg
    have hik : i * k + k ≤ xs.length * k := by
      have : (i + 1) * k ≤ xs.length * k := Nat.mul_le_mul_right _ hi
      rw [Nat.add_mul] at this; omega
    have hck : xs.length * k ≤ cap * k := Nat.mul_le_mul_right _ hc
    have hcl : cur.toList.length = cap * k := by simpa using hs
    refine .inr ⟨b, cap, _, ?_, hbg, setRow_heap w b cur _ e _ hb, by simpa using hc, hm, ?_, ?_⟩
    · rw [List.length_set]
    · simp only [List.size_toArray, List.length_append, List.length_take, List.length_map, List.length_drop, hcl, hl]
      omega
    · rw [List.length_set, cellsOf_set i el hf hi hl, ← ht]
      have e1 : (cur.toList.take (i * k) ++ el.map Sc.val).length = i * k + k := by rw [List.length_append, List.length_take, hcl, List.length_map, hl, Nat.min_eq_left (by omega)]
      rw [List.take_take, Nat.min_eq_left (by omega), List.drop_take]
      rw [List.take_append, List.take_of_length_le (by rw [e1]; exact hik), e1]

theorem set_mid {α : Type} (L : List α) (o k j : Nat) (y : α) (h : o + k ≤ L.length) (hj : j < k) :
    L.take (o + j) ++ [y] ++ L.drop (o + j + 1) = L.take o ++ ((L.drop o).take k).set j y ++ L.drop (o + k) := by
  have h1 : L.take (o + j) ++ [y] ++ L.drop (o + j + 1) = L.set (o + j) y := by
    rw [List.set_eq_take_append_cons_drop, if_pos (by omega)]; simp
  have h2 : L = L.take o ++ (L.drop o).take k ++ L.drop (o + k) := by
    conv => lhs; rw [← List.take_append_drop o L, ← List.take_append_drop k (L.drop o)]
    rw [List.drop_drop, List.append_assoc]
  have hl : (L.take o).length = o := by simp; omega
  have hl2 : ((L.drop o).take k).length = k := by simp; omega
  rw [h1]
  conv => lhs; rw [h2]
  rw [List.set_append_left _ _ (by rw [List.length_append, hl, hl2]; omega), List.set_append_right _ _ (by rw [hl]; omega), hl, Nat.add_sub_cancel_left]

theorem rStore_ok (hT : TOk P T) (r : Rel N0 W0 s β a w) {t : Nat} {p v : AV} {y : List (Nat × Option Obj) × List Nat} {pv vv : Value} (h : rStore T s t p v = some y) (hp : AR N0 β (Free s β w) w p pv) (hv : AR N0 β (Free s β w) w v vv) :
    ∃ w' β', (Instr.storeAt t pv vv).run P w = .ok () w' ∧ Rel N0 W0 { s with H := y.1 ++ s.H } β' a w' := by
  unfold rStore at h
  split at h
  · rename_i id k i j
    obtain ⟨ov, vs, b, hβ, hov, rfl⟩ := hp
    split at h
    · -- a variable
      rename_i e cs ho
      simp only [Option.bind_eq_some_iff] at h
      obtain ⟨ds, hds, h⟩ := h
      split at h
      · rename_i hc
        cases h
        obtain ⟨rfl, hle, hpos⟩ := hc
        obtain ⟨ov2, vs2, hp2, hat, hbl⟩ := r.obj id _ ho
        rw [hβ] at hp2; cases hp2
        obtain ⟨b2, arr, h1, h2, h3, h4⟩ := hat
        have hb : b2 = b := by
          rcases hov with ⟨n, c, e⟩ | e
          · rw [h1] at e; cases e
          · rw [h1] at e; cases e; rfl
        subst hb
        obtain ⟨us, hus, hall⟩ := rBox_ok hds hv
        have hl := h4.length
        have hul := hall.length
        have hrun := run_store_cells (P := P) (w := w) hT (t := t) (b := b2) (o := j) (v := vv) (vs := us) (cur := arr) (e := e) (by rw [← hul]; exact rBox_size hds) hus h3 (by rw [← hul]; simpa [hl] using hle) (all2_one hall)
        have hg := grownBy_setRow w b2 (arr.toList.take j ++ us ++ arr.toList.drop (j + us.length)).toArray
        refine ⟨_, β.set id (ov, vs), by rw [Nat.zero_mul, Nat.zero_add]; exact hrun, ?_⟩
        have r' := r.store (id := id) ho hβ (w' := w.setRow b2 (arr.toList.take j ++ us ++ arr.toList.drop (j + us.length)).toArray) (by rw [h1]; exact hg) (o' := .box e (cs.take j ++ ds ++ cs.drop (j + ds.length))) (vs' := vs) ?_ (fun b hb => hb)
        · exact r'
        · intro F β' hF hβ'
          refine ⟨b2, _, h1, h2, setRow_heap w b2 arr _ e _ h3, ?_⟩
          have hk : Keep (Free s β w) F w (w.setRow b2 (arr.toList.take j ++ us ++ arr.toList.drop (j + us.length)).toArray) := fun b' hb' => ⟨hF b' hb', hg.block b' hb'.1 (fun e => hb'.2 ⟨id, _, ov, vs, ho, hβ, .inl (by rw [h1]; cases e; rfl)⟩)⟩
          have hcs : cs.drop (j + ds.length) = cs.drop (j + us.length) := by rw [hul]
          rw [hcs]
          exact (((h4.take j).mono fun _ _ _ _ => CR.keep hβ' hk).app (hall.mono fun _ _ _ _ => CR.keep hβ' hk)).app ((h4.drop (j + us.length)).mono fun _ _ _ _ => CR.keep hβ' hk)
      · cases h
    · -- an element
      rename_i e k' xs ho
      split at h
      · rename_i hki
        obtain ⟨rfl, hi⟩ := hki
        obtain ⟨ov2, vs2, hp2, hat, hbl⟩ := r.obj id _ ho
        rw [hβ] at hp2; cases hp2
        -- writing element el
        have fin : ∀ el : El, el.length = k → (∀ cur, w.heap[b]? = some (.cells cur e (0, 0)) → cur.toList.take (xs.length * k) = cellsOf xs → xs.length * k ≤ cur.size →
            (Instr.storeAt t (.pointer (some ⟨b, i * k + j, none⟩)) vv).run P w = .ok () (w.setRow b (cur.toList.take (i * k) ++ el.map Sc.val ++ cur.toList.drop (i * k + k)).toArray)) →
            ∃ w' β', (Instr.storeAt t (.pointer (some ⟨b, i * k + j, none⟩)) vv).run P w = .ok () w' ∧ Rel N0 W0 (s.setO id (.flat e k (xs.set i el))) β' a w' := by
          intro el hel hrun
          rcases hat.1.2 with ⟨_, h0⟩ | ⟨g, cap, cur, hg1, hbg, hg, hc, hm, hs, ht⟩
          · omega
          · have hgb : g = b := by
              rcases hov with ⟨n, c, e⟩ | e
              · rw [hg1] at e; cases e; rfl
              · rw [hg1] at e; cases e
            subst hgb
            have hck : xs.length * k ≤ cap * k := Nat.mul_le_mul_right _ hc
            refine ⟨_, β.set id (ov, vs), hrun cur hg ht (by rw [hs]; exact hck), ?_⟩
            have hgr := grownBy_setRow w g (cur.toList.take (i * k) ++ el.map Sc.val ++ cur.toList.drop (i * k + k)).toArray
            have hat1 := hat.1
            rw [hg1] at hat1
            exact r.store (id := id) ho hβ (by rw [hg1]; exact hgr) (o' := .flat e k (xs.set i el)) (vs' := vs) (fun F β' _ _ => ⟨by rw [hg1]; exact owns_setRow (n := 0) hat1 hg hat.2 hi hel, hat.2.set i hel⟩) (fun b hb => hb)
        have hik : i * k + k ≤ xs.length * k := by
          have : (i + 1) * k ≤ xs.length * k := Nat.mul_le_mul_right _ hi
          rw [Nat.add_mul] at this; omega
        split at h
        · rename_i fs hst
          simp only [Option.bind_eq_some_iff] at h
          obtain ⟨el, hel, h⟩ := h
          split at h
          · rename_i hc
            cases h
            obtain ⟨rfl, hlk, hfk⟩ := hc
            have hcells := elOf_ok hel hv
            exact fin el hlk fun cur hg ht hsz => by
              have := run_store_cells (P := P) (w := w) hT (t := t) (b := b) (o := i * k) (v := vv) (vs := el.map Sc.val) (cur := cur) (e := e) (.inr ⟨fs, hst, by simp [hfk, hlk]⟩) hcells hg (by simp [hlk]; omega) (fun u hu => by obtain ⟨x, _, rfl⟩ := List.mem_map.1 hu; exact x.val_one)
              simpa [hlk] using this
          · cases h
        · cases h
        · rename_i hn1 hn2
          split at h
          · rename_i x
            split at h
            · rename_i hj
              cases h
              have hx : vv = x.val := hv
              have hxi : xs[i]? = some xs[i] := List.getElem?_eq_getElem hi
              have hxl : xs[i].length = k := hat.2 _ (List.getElem_mem hi)
              have hmod : (if k = 1 then xs.set i [x] else xs.set i ((xs[i]?.getD []).set j x)) = xs.set i (xs[i].set j x) := by
                split
                · rename_i h1
                  have h2 : j = 0 := by omega
                  subst h2
                  rw [h1] at hxl
                  match hq : xs[i], hxl with
                  | [y], _ => rfl
                · rw [hxi]; rfl
              rw [hmod]
              refine fin (xs[i].set j x) (by simp [hxl]) fun cur hg ht hsz => ?_
              have hone := one_of hn1 hn2
              have := run_store_cells (P := P) (w := w) hT (t := t) (b := b) (o := i * k + j) (v := vv) (vs := [x.val]) (cur := cur) (e := e) (.inl ⟨hone, rfl⟩) (by rw [hx, cells_one x.val_one]) hg (by simp; omega) (fun u hu => by simp at hu; rw [hu]; exact x.val_one)
              rw [this]
              have h2 : (cur.toList.drop (i * k)).take k = xs[i].map Sc.val := by
                have h1 : (cellsOf xs).drop (i * k) = xs[i].map Sc.val ++ cellsOf (xs.drop (i + 1)) := by
                  have h0 : xs.drop i = xs[i] :: xs.drop (i + 1) := List.drop_eq_getElem_cons hi
                  rw [← cellsOf_drop i hat.2, h0]
                  simp only [cellsOf, List.flatten_cons, List.map_append]
                have h3 : (cellsOf xs).drop (i * k) = (cur.toList.drop (i * k)).take (xs.length * k - i * k) := by rw [← ht, List.drop_take]
                have h4 : ((cur.toList.drop (i * k)).take (xs.length * k - i * k)).take k = (cur.toList.drop (i * k)).take k := by rw [List.take_take, Nat.min_eq_left (by omega)]
                rw [← h4, ← h3, h1, List.take_left' (by rw [List.length_map]; exact hxl)]
              have h5 : (xs[i].set j x).map Sc.val = ((cur.toList.drop (i * k)).take k).set j x.val := by rw [h2, List.map_set]
              have h6 := set_mid cur.toList (i * k) k j x.val (by simp; omega) hj
              simp only [List.length_singleton]
              rw [h6, h5]
            · cases h
          · cases h
      · cases h
    · cases h
  · cases h

/-! ### make -/

def zeroSc (T : Tys) (t : Nat) : Option Sc :=
  match T t with
  | .int => some (.int 0)
  | .u8 => some (.u8 0)
  | .bool => some (.bool false)
  | .str => some (.str ⟨#[]⟩)
  | _ => none

def zeroScs (T : Tys) : List Nat → Option (List Sc)
  | [] => some []
  | t :: r => (zeroSc T t).bind fun x => (zeroScs T r).map (x :: ·)

def zeroEl (T : Tys) (e : Nat) : Option El :=
  match T e with
  | .st fs => zeroScs T fs
  | _ => (zeroSc T e).map fun x => [x]

/-- make([]E, l, c): l and c the same, or l zero. -/
def rMake (T : Tys) (t : Nat) (l c : AV) : Option Obj :=
  match T t, l, c with
  | .sl e, .one (.sc (.int l)), .one (.sc (.int c)) =>
    if 0 ≤ c ∧ c ≤ 1099511627776 ∧ (l = c ∨ l = 0) then
      match T e with
      | .oth => none
      | .sl e' => some (.rows e e' (.loc true) (List.replicate l.toNat none))
      | _ => (zeroEl T e).map fun z => .flat e (kOf T e) (List.replicate l.toNat z)
    else none
  | _, _, _ => none

theorem zeroSc_ok (hT : TOk P T) {t : Nat} {x : Sc} (h : zeroSc T t = some x) : zeroV (zeroC T t) = x.val ∧ (T t).one = true := by
  unfold zeroSc at h
  unfold zeroC
  split at h <;> cases h <;> rename_i hst <;> rw [hst] <;> exact ⟨rfl, rfl⟩

theorem zeroScs_ok (hT : TOk P T) : ∀ {fs : List Nat} {xs : List Sc}, zeroScs T fs = some xs → fs.map (fun f => zeroV (zeroC T f)) = xs.map Sc.val ∧ xs.length = fs.length
  | [], xs, h => by cases h; exact ⟨rfl, rfl⟩
  | f :: fs, xs, h => by
    simp only [zeroScs, Option.bind_eq_some_iff, Option.map_eq_some_iff] at h
    obtain ⟨x, hx, ys, hy, rfl⟩ := h
    obtain ⟨i1, i2⟩ := zeroScs_ok hT hy
    exact ⟨by rw [List.map_cons, i1, (zeroSc_ok hT hx).1]; rfl, by simp [i2]⟩

/-- The zero value's cells. -/
theorem zeroEl_ok (hT : TOk P T) {e : Nat} {z : El} (h : zeroEl T e = some z) : ∃ i zv bytes, P.info? e = some i ∧ i.size = kOf T e ∧ i.bytes = bytes ∧ bytes ≤ 64 ∧ i.zero = some zv ∧ zv.cells.toList = z.map Sc.val ∧ z.length = kOf T e ∧ 0 < kOf T e ∧ (T e).ok = true := by
  have ht := hT e
  unfold zeroEl at h
  unfold kOf
  split at h
  · rename_i fs hst
    rw [hst] at ht ⊢
    obtain ⟨hpos, _, _, _, bytes, hb, hi⟩ := ht
    obtain ⟨i, h1, h2, h3, h4⟩ := hi.info
    obtain ⟨z1, z2⟩ := zeroScs_ok hT h
    exact ⟨i, _, bytes, h1, h2, h3, hb, h4, by simp [Value.cells, z1], z2, hpos, rfl⟩
  · rename_i hn
    simp only [Option.map_eq_some_iff] at h
    obtain ⟨x, hx, rfl⟩ := h
    unfold zeroSc at hx
    split at hx <;> cases hx <;> rename_i hst <;> rw [hst] at ht ⊢
    all_goals
      obtain ⟨_, hi⟩ := ht
      obtain ⟨i, h1, h2, h3, h4⟩ := hi.info
      exact ⟨i, _, _, h1, h2, h3, by decide, h4, rfl, rfl, by show 0 < 1; exact Nat.one_pos, rfl⟩

theorem madeCells_rep {z : Array Value} {k : Nat} (hk : z.size = k) (hpos : 0 < k) : ∀ n : Nat, (madeCells z (n * k)).toList = (List.replicate n z.toList).flatten := by
  intro n
  apply List.ext_getElem?
  intro j
  unfold madeCells
  have hlen : ((List.replicate n z.toList).flatten).length = n * k := by
    induction n with
    | zero => simp
    | succ n ih => rw [List.replicate_succ, List.flatten_cons, List.length_append, ih, Array.length_toList, hk, Nat.add_mul]; omega
  by_cases hj : j < n * k
  · have h1 : (List.replicate n z.toList).flatten[j]? = z.toList[j % k]? := by
      clear hlen
      induction n generalizing j with
      | zero => simp at hj
      | succ n ih =>
        rw [List.replicate_succ, List.flatten_cons]
        by_cases hjk : j < k
        · rw [List.getElem?_append_left (by rw [Array.length_toList, hk]; exact hjk), Nat.mod_eq_of_lt hjk]
        · rw [List.getElem?_append_right (by rw [Array.length_toList, hk]; omega), Array.length_toList, hk]
          rw [ih (j - k) (by rw [Nat.add_mul] at hj; omega)]
          rw [← Nat.mod_eq_sub_mod (by omega)]
    rw [h1]
    have hm : j % k < z.size := by rw [hk]; exact Nat.mod_lt _ hpos
    have hm' : j % z.size < z.size := by rw [hk]; rw [hk] at hm; exact hm
    simp [hj, hk]
    rw [getElem!_pos z (j % k) hm]
    exact (Array.getElem?_eq_getElem hm).symm
  · rw [List.getElem?_eq_none (l := (List.replicate n z.toList).flatten) (by omega)]
    rw [List.getElem?_eq_none]
    simp; omega

theorem cellsOf_rep (n : Nat) (z : El) : cellsOf (List.replicate n z) = (List.replicate n (z.map Sc.val)).flatten := by
  induction n with
  | zero => rfl
  | succ n ih => rw [List.replicate_succ, List.replicate_succ, List.flatten_cons, ← ih]; simp [cellsOf]

theorem owns_made {e k l c : Nat} {out : Array Value} {cs : List Value} (hN : N0 ≤ w.heap.size) (hsz : out.size = c * k) (hl : out.toList.take (l * k) = cs) (hc : cs.length = l * k) (hlc : l ≤ c) (hm : c ≤ maxLen) :
    (w.alloc (.cells out e)).ownsRow N0 e k (.slice (some ⟨w.heap.size, 0, none⟩) l c) l cs :=
  ⟨hc, .inr ⟨w.heap.size, c, out, rfl, hN, heap_new w _, hlc, hm, hsz, hl⟩⟩

theorem EffU_make (hT : TOk P T) {o : Oper} {t : Nat} {l c : Operand} {ob : Obj} {id : Nat} (ho : o.op = .makeSlice t l c) (hd : Oper.dstOk o s.n = true) (h : rMake T t (s.ev l) (s.ev c) = some ob) :
    EffU P o s (newE id (.one (.ref id)) ob) := by
  refine EffU_new hd fun s2 h2 N0 W0 β a w r => ?_
  have hel : s2.ev l = s.ev l := slots_ev h2 (by rw [ho]; simp [Op.operands])
  have hec : s2.ev c = s.ev c := slots_ev h2 (by rw [ho]; simp [Op.operands])
  have hvl := r.ev l
  have hvc := r.ev c
  rw [hel] at hvl
  rw [hec] at hvc
  unfold rMake at h
  split at h
  · rename_i e ln cn hst hl hc
    rw [hl] at hvl
    rw [hc] at hvc
    have hvl' : a.eval l = .int .i64 ln := hvl
    have hvc' : a.eval c = .int .i64 cn := hvc
    have hu : P.underlying t = some (.slice e) := by have := hT t; rw [hst] at this; exact this.1
    split at h
    · rename_i hcond
      obtain ⟨c0, cmax, hlc⟩ := hcond
      have l0 : 0 ≤ ln := by rcases hlc with h | h <;> omega
      have lc : ln ≤ cn := by rcases hlc with h | h <;> omega
      have hexec : ∀ {i : TypeInfo} {z : Value}, P.info? e = some i → i.zero = some z → i.bytes ≤ 64 → (execOp a.eval o).run P w = .ok (.value (.slice (some ⟨w.heap.size, 0, none⟩) ln.toNat cn.toNat)) (w.alloc (.cells (madeCells z.cells (cn.toNat * i.size)) e)) := by
        intro i z hi hz hb
        have hb2 : (i.bytes : Int) * cn ≤ 281474976710656 := by
          have h1 : (i.bytes : Int) ≤ 64 := by omega
          have h2 : (i.bytes : Int) * cn ≤ 64 * cn := Int.mul_le_mul_of_nonneg_right h1 c0
          omega
        have hr := run_make (P := P) w t e i z hu hi hz .i64 .i64 ln cn l0 lc hb2 (by omega)
        unfold execOp
        rw [ho]
        simp only [Sem.run_bind, hvl', hvc', hr, Result.andThen_ok, Sem.run_pure]
      have hlt : ln.toNat ≤ cn.toNat := by omega
      split at h
      · cases h
      · rename_i e' hse
        cases h
        have ht := hT e
        rw [hse] at ht
        obtain ⟨_, hi⟩ := ht
        obtain ⟨i, h1, h2', h3, h4⟩ := hi.info
        have hcells : (Value.slice none 0 0).cells = #[.slice none 0 0] := rfl
        have hmk := madeCells_rep (z := (Value.slice none 0 0).cells) (k := 1) rfl (by omega) cn.toNat
        have hsz : (madeCells (Value.slice none 0 0).cells (cn.toNat * 1)).size = cn.toNat * 1 := size_madeCells _ _
        have htake : (madeCells (Value.slice none 0 0).cells (cn.toNat * 1)).toList.take (ln.toNat * 1) = List.replicate ln.toNat (.slice none 0 0) := by
          rw [hmk, hcells]
          have : ∀ n, (List.replicate n [Value.slice none 0 0]).flatten = List.replicate n (Value.slice none 0 0) := fun n => by
            induction n with
            | zero => rfl
            | succ n ih => rw [List.replicate_succ, List.replicate_succ, List.flatten_cons, ih]; rfl
          rw [show (#[Value.slice none 0 0] : Array Value).toList = [Value.slice none 0 0] from rfl, this, List.take_replicate, Nat.min_eq_left (by omega), Nat.mul_one]
        refine ⟨_, _, e, .slice (some ⟨w.heap.size, 0, none⟩) ln.toNat cn.toNat, List.replicate ln.toNat (.slice none 0 0), hexec h1 h4 (by omega), fun F β' hF hβ => ?_, fun b hb => ?_, fun F β' hid => ⟨_, hid, rfl⟩⟩
        · rw [h2']
          refine ⟨?_, ?_, ?_⟩
          · rw [List.length_replicate]
            exact owns_made r.size0 hsz htake (by simp) hlt (by unfold maxLen; omega)
          · have : ∀ n, All2 (fun o v => RowL N0 F (w.alloc (.cells (madeCells (Value.slice none 0 0).cells (cn.toNat * 1)) e)) e' true v o) (List.replicate n none) (List.replicate n (.slice none 0 0)) := fun n => by
              induction n with
              | zero => trivial
              | succ n ih => exact ⟨rfl, ih⟩
            exact this _
          · intro i j u v hu hv hne hb
            have := List.eq_of_mem_replicate (List.mem_of_getElem? hu)
            subst this
            exact (hb rfl).elim
        · rcases hb with hb | ⟨_, v, hv, hb⟩
          · cases hb; rfl
          · have := List.eq_of_mem_replicate hv
            subst this
            cases hb
      · rename_i hn1 hn2
        simp only [Option.map_eq_some_iff] at h
        obtain ⟨z, hz, rfl⟩ := h
        obtain ⟨i, zv, bytes, h1, h2', h3, hb64, h4, h5, h6, hpos, hok⟩ := zeroEl_ok hT hz
        have hzs : zv.cells.size = kOf T e := by
          have := congrArg List.length h5
          simpa [h6] using this
        have hmk := madeCells_rep hzs hpos cn.toNat
        rw [h5] at hmk
        have hsz : (madeCells zv.cells (cn.toNat * kOf T e)).size = cn.toNat * kOf T e := size_madeCells _ _
        have hfl : Flat (kOf T e) (List.replicate ln.toNat z) := fun x hx => by rw [List.eq_of_mem_replicate hx]; exact h6
        have htake : (madeCells zv.cells (cn.toNat * kOf T e)).toList.take (ln.toNat * kOf T e) = cellsOf (List.replicate ln.toNat z) := by
          have hfl2 : Flat (kOf T e) (List.replicate cn.toNat z) := fun x hx => by rw [List.eq_of_mem_replicate hx]; exact h6
          rw [hmk, ← cellsOf_rep, ← cellsOf_take ln.toNat hfl2, List.take_replicate, Nat.min_eq_left hlt]
        refine ⟨_, _, e, .slice (some ⟨w.heap.size, 0, none⟩) ln.toNat cn.toNat, [], hexec h1 h4 (by omega), fun F β' hF hβ => ⟨?_, hfl⟩, fun b hb => slice_blk (fun hh => by cases hh) hb, fun F β' hid => ⟨_, hid, rfl⟩⟩
        rw [h2', List.length_replicate]
        exact owns_made r.size0 hsz htake (by rw [flat_len hfl, List.length_replicate]) hlt (by unfold maxLen; omega)
    · cases h
  · cases h

end
end Go.Eng
/- The engine, part 17: struct literals; strings; conversions. -/
set_option linter.unusedVariables false
namespace Go.Eng
open Go Go.RowKit

section
variable {N0 : Nat} {W0 : World} {s s' : AS} {β β' : Plc} {a : Act} {w w' : World} {P : Program} {T : Tys}

/-! ### Struct literals -/

def rFill : List CV → List (Nat × AV) → Option (List CV)
  | cs, [] => some cs
  | cs, (i, .one c) :: r => if i < cs.length then rFill (cs.set i c) r else none
  | _, _ => none

/-- A struct literal: of zeros, with these parts. -/
def rMk (T : Tys) (t : Nat) (ps : List (Nat × AV)) : Option AV :=
  match T t with
  | .st fs => (rFill (fs.map (zeroC T)) ps).map .agg
  | _ => none

theorem foldl_one (c : Value) (off : Nat) (arr : Array Value) : ((#[c] : Array Value).zipIdx.foldl (fun cs (p : Value × Nat) => cs.setIfInBounds (off + p.2) p.1) arr).toList = arr.toList.set off c := by
  rw [← Array.foldl_toList]
  simp

theorem rFill_ok {B : Nat} {F : Nat → Prop} (place : Nat → Option (Nat × Nat)) {n : Nat} (hpl : ∀ i, i < n → place i = some (i, 1)) : ∀ {ps : List (Nat × AV)} {pv : List (Nat × Value)} {cs ds : List CV} {us : Array Value},
    rFill cs ps = some ds → cs.length = n → All2 (CR B β F w) cs us.toList → All2 (fun (p : Nat × AV) (q : Nat × Value) => p.1 = q.1 ∧ AR B β F w p.2 q.2) ps pv →
    ∃ out, Instr.fill place us pv = some out ∧ All2 (CR B β F w) ds out.toList
  | [], [], cs, ds, us, h, _, hc, _ => by cases h; exact ⟨us, rfl, hc⟩
  | (i, av) :: ps, (i', v) :: pv, cs, ds, us, h, hn, hc, ⟨⟨hi, hv⟩, h2⟩ => by
    simp only at hi
    subst hi
    cases av with
    | one c =>
      simp only [rFill] at h
      split at h
      · rename_i hlt
        have hv' : CR B β F w c v := hv
        have hcells := cells_one (cr_one hv')
        have hl : cs.length = us.size := by have := hc.length; simpa using this
        have hset := foldl_one v i us
        obtain ⟨out, h3, h4⟩ := rFill_ok place hpl (us := (#[v] : Array Value).zipIdx.foldl (fun cs (p : Value × Nat) => cs.setIfInBounds (i + p.2) p.1) us) h (by simpa using hn) (by rw [hset]; exact hc.set i hv') h2
        refine ⟨out, ?_, h4⟩
        simp only [Instr.fill, hpl i (by omega), hcells]
        rw [if_neg (by simp; omega)]
        exact h3
      · cases h
    | _ => simp [rFill] at h
  | [], _ :: _, _, _, _, _, _, _, h => h.elim
  | _ :: _, [], _, _, _, _, _, _, h => h.elim

theorem places_ok (hT : TOk P T) : ∀ {l : List Field}, (∀ fd ∈ l, (T fd.type).one = true) → l.mapM (fun f => (P.info? f.type).map fun i => (f.offset, i.size)) = some (l.map fun fd => (fd.offset, 1))
  | [], _ => rfl
  | fd :: l, h => by
    obtain ⟨i, h1, h2⟩ := hT.size_one (h fd (by simp)) (default : World)
    simp only [List.mapM_cons, Option.bind_eq_bind, Option.pure_def, h1, Option.map_some, Option.bind_some, places_ok hT (l := l) (fun f hf => h f (by simp [hf])), h2, List.map_cons]

theorem rMk_ok (hT : TOk P T) {B : Nat} {F : Nat → Prop} {t : Nat} {ps : List (Nat × AV)} {pv : List (Nat × Value)} {y : AV} (h : rMk T t ps = some y) (hp : All2 (fun (p : Nat × AV) (q : Nat × Value) => p.1 = q.1 ∧ AR B β F w p.2 q.2) ps pv) :
    ∃ v, (Instr.build t pv.toArray).run P w = .ok v w ∧ AR B β F w y v := by
  unfold rMk at h
  split at h
  · rename_i fs hst
    simp only [Option.map_eq_some_iff] at h
    obtain ⟨ds, hds, rfl⟩ := h
    have := hT t
    rw [hst] at this
    obtain ⟨hpos, ⟨arr, hu, hsz, hfl⟩, _, _, bytes, hb, hi⟩ := this
    obtain ⟨i, h1, h2, h3, h4⟩ := hi.info
    have hpl := places_ok hT (l := arr.toList) (fun fd hfd => by
      obtain ⟨j, hj, hjj⟩ := List.getElem_of_mem hfd
      have hj' : j < fs.length := by rw [← hsz]; simpa using hj
      obtain ⟨fd', g1, g2, g3, _, g5⟩ := hfl j fs[j] (List.getElem?_eq_getElem hj')
      have hjs : j < arr.size := by simpa using hj
      rw [Array.getElem?_eq_getElem hjs] at g1
      cases g1
      rw [← hjj]
      simp only [Array.getElem_toList]
      rw [g2]; exact g5)
    have hplace : ∀ j, j < fs.length → ((arr.toList.map fun fd => (fd.offset, 1)).toArray[j]? : Option (Nat × Nat)) = some (j, 1) := by
      intro j hj
      obtain ⟨fd', g1, g2, g3, _, g5⟩ := hfl j fs[j] (List.getElem?_eq_getElem hj)
      have hjs : j < arr.size := by omega
      rw [Array.getElem?_eq_getElem hjs] at g1
      simp only [Option.some.injEq] at g1
      simp [hjs, g1, g3]
    have hz := zeros_ok (T := T) (w := w) (β := β) (B := B) (F := F) fs
    obtain ⟨out, ho1, ho2⟩ := rFill_ok (fun x => (arr.toList.map fun fd => (fd.offset, 1)).toArray[x]?) (n := fs.length) hplace (us := (fs.map fun f => zeroV (zeroC T f)).toArray) hds (by simp) (by simpa using hz) hp
    refine ⟨.agg out, run_build w t pv.toArray out ?_, out.toList, by simp, ho2⟩
    unfold Program.built
    simp only [h1, hu, h4, hpl]
    exact ho1
  · cases h

/-! ### Strings -/

def rIndex (T : Tys) (t : Nat) (x i : AV) : Option AV :=
  match T t, x, i with
  | .str, .one (.sc (.str b)), .one (.sc (.int n)) => if 0 ≤ n then (b[n.toNat]?).map fun c => .one (.sc (.u8 c.toNat)) else none
  | _, _, _ => none

theorem rIndex_ok (hT : TOk P T) {B : Nat} {F : Nat → Prop} {t : Nat} {x i y : AV} {xv iv : Value} (h : rIndex T t x i = some y) (hx : AR B β F w x xv) (hi : AR B β F w i iv) : ∃ u, (Instr.index t xv iv).run P w = .ok u w ∧ AR B β F w y u := by
  unfold rIndex at h
  split at h
  · rename_i b n hst
    have hx' : xv = .string b := hx
    have hi' : iv = .int .i64 n := hi
    subst hx'; subst hi'
    have := hT t
    rw [hst] at this
    split at h
    · rename_i h0
      simp only [Option.map_eq_some_iff] at h
      obtain ⟨c, hc, rfl⟩ := h
      refine ⟨.int .u8 c.toNat, ?_, rfl⟩
      simp [Instr.index, asIntOf, run_underlying this.1, h0, hc]
    · cases h
  · cases h

/-- Part of a string. -/
def rCutS (T : Tys) (t : Nat) (x : AV) (lo hi : Option AV) : Option AV :=
  match T t, x with
  | .str, .one (.sc (.str b)) =>
    match (match lo with | none => some (0 : Int) | some (.one (.sc (.int l))) => some l | _ => none), (match hi with | none => some (b.size : Int) | some (.one (.sc (.int h))) => some h | _ => none) with
    | some l, some h => if 0 ≤ l ∧ l ≤ h ∧ h ≤ b.size then some (.one (.sc (.str (b.extract l.toNat h.toNat)))) else none
    | _, _ => none
  | _, _ => none

theorem rCutS_ok (hT : TOk P T) {B : Nat} {F : Nat → Prop} {t : Nat} {x y : AV} {lo hi : Option AV} {xv : Value} {lov hiv : Option Value} (h : rCutS T t x lo hi = some y) (hx : AR B β F w x xv) (hlo : optVal B β F w lo lov) (hhi : optVal B β F w hi hiv) :
    ∃ u, (Instr.sliceAt t xv lov hiv none).run P w = .ok u w ∧ AR B β F w y u := by
  unfold rCutS at h
  split at h
  · rename_i b hst
    have hx' : xv = .string b := hx
    subst hx'
    have hu := hT t
    rw [hst] at hu
    split at h
    · rename_i l hh hl hhh
      split at h
      · rename_i hc
        cases h
        obtain ⟨c1, c2, c3⟩ := hc
        have hlo' : (lov = none ∧ l = 0) ∨ lov = some (.int .i64 l) := by
          cases lo with
          | none =>
            cases lov with
            | none => left; simp at hl; exact ⟨rfl, hl.symm⟩
            | some _ => exact hlo.elim
          | some lo =>
            cases lov with
            | none => exact hlo.elim
            | some lov =>
              right
              have hlo2 : AR B β F w lo lov := hlo
              split at hl
              · rename_i he; cases he
              · rename_i l' he; cases he; cases hl; rw [show lov = _ from hlo2]; rfl
              · cases hl
        have hhi' : (hiv = none ∧ hh = (b.size : Int)) ∨ hiv = some (.int .i64 hh) := by
          cases hi with
          | none =>
            cases hiv with
            | none => left; simp at hhh; exact ⟨rfl, hhh.symm⟩
            | some _ => exact hhi.elim
          | some hi =>
            cases hiv with
            | none => exact hhi.elim
            | some hiv =>
              right
              have hhi2 : AR B β F w hi hiv := hhi
              split at hhh
              · rename_i he; cases he
              · rename_i l' he; cases he; cases hhh; rw [show hiv = _ from hhi2]; rfl
              · cases hhh
        refine ⟨.string (b.extract l.toNat hh.toNat), ?_, rfl⟩
        have hb : (Instr.sliceBounds false b.size b.size lov hiv none).run P w = .ok (l.toNat, hh.toNat, b.size) w := by
          rcases hhi' with ⟨rfl, rfl⟩ | rfl <;> rcases hlo' with ⟨rfl, rfl⟩ | rfl
          · simp [Instr.sliceBounds]
          · simp [Instr.sliceBounds, run_sliceBound (P := P) w .i64 l b.size .sliceB (by omega) (by omega)]
          · simp [Instr.sliceBounds, run_sliceBound (P := P) w .i64 hh b.size .sliceAlen (by omega) (by omega)]
          · simp [Instr.sliceBounds, run_sliceBound (P := P) w .i64 hh b.size .sliceAlen (by omega) (by omega), run_sliceBound (P := P) w .i64 l hh.toNat .sliceB (by omega) (by omega)]
        rw [run_sliceAt_string w t _ lov hiv none hu.1]
        simp [Instr.slice, run_underlying hu.1, hb]
      · cases h
    · cases h
  · cases h

/-! ### Conversions -/

/-- Integers, and the bytes of a row to a string. -/
def bytesOf : List El → Option (List UInt8)
  | [] => some []
  | [.u8 n] :: r => (bytesOf r).map (UInt8.ofNat n.toNat :: ·)
  | _ => none

def rConv (T : Tys) (s : AS) (src dst : Nat) (x : AV) : Option (AV × List Nat) :=
  match T src, T dst, x with
  | .int, .u8, .one (.sc (.int n)) => some (.one (.sc (.u8 (w8 n))), [])
  | .u8, .int, .one (.sc (.u8 n)) => some (.one (.sc (.int (w64 n))), [])
  | .sl e, .str, .one (.ref id) => match T e, s.obj id with
    | .u8, some (.flat e' 1 xs) => if e' = e then (bytesOf xs).map fun b => (.one (.sc (.str ⟨b.toArray⟩)), [id]) else none
    | _, _ => none
  | _, _, _ => none

theorem bytesOf_ok : ∀ {xs : List El} {b : List UInt8}, bytesOf xs = some b → ∃ ns : List Int, cellsOf xs = ns.map (Value.int .u8) ∧ b = ns.map (fun n => UInt8.ofNat n.toNat) ∧ ns.length = xs.length
  | [], b, h => by cases h; exact ⟨[], rfl, rfl, rfl⟩
  | x :: xs, b, h => by
    unfold bytesOf at h
    split at h
    · rename_i he; cases he
    · rename_i n r he
      cases he
      simp only [Option.map_eq_some_iff] at h
      obtain ⟨l, hl, rfl⟩ := h
      obtain ⟨ns, h1, h2, h3⟩ := bytesOf_ok hl
      refine ⟨n :: ns, ?_, by simp [h2], by simp [h3]⟩
      simp only [cellsOf, List.flatten_cons, List.map_append] at h1 ⊢
      rw [h1]; rfl
    · cases h

theorem foldl_push (ns : List Int) (b : ByteArray) : ns.foldl (fun r n => r.push (UInt8.ofNat n.toNat)) b = ⟨(b.data.toList ++ ns.map fun n => UInt8.ofNat n.toNat).toArray⟩ := by
  induction ns generalizing b with
  | nil => simp
  | cons n ns ih => rw [List.foldl_cons, ih]; simp [ByteArray.push]

theorem rConv_ok (hT : TOk P T) (r : Rel N0 W0 s β a w) {src dst : Nat} {x : AV} {y : AV × List Nat} {xv : Value} (h : rConv T s src dst x = some y) (hx : AR N0 β (Free s β w) w x xv) :
    ∃ u, (convert src dst xv).run P w = .ok u w ∧ AR N0 β (Free s β w) w y.1 u := by
  unfold rConv at h
  split at h
  · rename_i n h1 h2
    cases h
    have hx' : xv = .int .i64 n := hx
    subst hx'
    have t1 := hT src
    have t2 := hT dst
    rw [h1] at t1; rw [h2] at t2
    exact ⟨.int .u8 (w8 n), by simp [convert, run_underlying t1.1, run_underlying t2.1, Conv.intToInt], rfl⟩
  · rename_i n h1 h2
    cases h
    have hx' : xv = .int .u8 n := hx
    subst hx'
    have t1 := hT src
    have t2 := hT dst
    rw [h1] at t1; rw [h2] at t2
    exact ⟨.int .i64 (w64 n), by simp [convert, run_underlying t1.1, run_underlying t2.1, Conv.intToInt], rfl⟩
  · rename_i e id h1 h2
    have t1 := hT src
    have t2 := hT dst
    rw [h1] at t1; rw [h2] at t2
    split at h
    · rename_i e' xs he ho
      split at h
      · rename_i hee
        subst hee
        simp only [Option.map_eq_some_iff] at h
        obtain ⟨b, hb, rfl⟩ := h
        have t3 := hT e'
        rw [he] at t3
        obtain ⟨pv, vs, hp, hat, _⟩ := r.obj id _ ho
        obtain ⟨vs', hv, h1c⟩ := hx
        rw [hp] at hv; cases hv
        obtain ⟨ns, n1, n2, n3⟩ := bytesOf_ok hb
        refine ⟨.string ⟨b.toArray⟩, ?_, rfl⟩
        obtain ⟨p, cap, rfl, hcap⟩ := owns_len hat.1
        rw [run_convert_bytes_string w src dst e' p xs.length cap t1.1 t3.1 t2.1]
        cases p with
        | none =>
          rcases hat.1.2 with ⟨_, h0⟩ | ⟨g, cap', cur, hh, _⟩
          · have : xs = [] := List.eq_nil_of_length_eq_zero h0
            subst this
            cases hb
            rfl
          · cases hh
        | some ad =>
          have hl := run_bytesToString (P := P) w ad xs.length cap ns (by
            rw [← n1]
            have hlen : (cellsOf xs).length = xs.length := by rw [n1, List.length_map, n3]
            have := run_loadCells_list (P := P) w ad (cellsOf xs) (fun j u hu => by
              obtain ⟨b', hb', hc, _⟩ := owns_cell hat.1 hu
              cases hb'
              rw [Addr.add_lit, Nat.zero_add]; exact hc)
            rw [hlen] at this
            exact this)
          rw [hl, foldl_push, n2]
          simp
      · cases h
    · cases h
  · cases h

end
/-! ### Rows of rows -/

section
variable {N0 : Nat} {W0 : World} {s s' : AS} {β β' : Plc} {a : Act} {w w' : World} {P : Program} {T : Tys}

def Md.strict : Md → Bool
  | .loc st => st
  | _ => false

def Md.frz : Md → Md
  | .own st => .loc st
  | m => m

/-- What is laid into an object of rows: its content; the object that is taken over. -/
def rowIn (s : AS) (m : Md) (e' : Nat) : CV → Option (Option (List El) × Option Nat)
  | .nil => some (none, none)
  | .ref id2 => match s.obj id2 with
    | some (.flat e2 k xs) => if e2 = e' ∧ k = 1 ∧ (m.strict = true → xs.length ≠ 0) then some (some xs, some id2) else none
    | some (.zrow e2 k) => if e2 = e' ∧ k = 1 then some (some [], some id2) else none
    | _ => none
  | .imm k xs => match m with
    | .any => if k = 1 then some (some xs, none) else none
    | _ => none
  | .row _ o => match m with
    | .any => some (o, none)
    | _ => none
  | _ => none

def RowM (B : Nat) (F : Nat → Prop) (w : World) (e : Nat) (m : Md) (v : Value) (o : Option (List El)) : Prop :=
  match m with
  | .loc st => RowL B F w e st v o
  | .any => RowA F w v o
  | .own _ => False

theorem RowM.keep {B e : Nat} {m : Md} {F F' : Nat → Prop} (h : Keep F F' w w') {v : Value} {o : Option (List El)} (hi : RowM B F w e m v o) : RowM B F' w' e m v o := by
  cases m with
  | own st => exact hi.elim
  | loc st => exact RowL.keep h hi
  | any => exact RowA.keep h hi

def killS (s : AS) (q : Option Nat) : AS := { s with H := killL q ++ s.H }

theorem killS_obj (s : AS) (q : Option Nat) (i : Nat) : (killS s q).obj i = if q = some i then none else s.obj i := by
  cases q with
  | none => simp [killS, killL]
  | some id => show lookO ((id, none) :: s.H) i = _; rw [lookO_cons]; simp only [Option.some.injEq]; rfl

theorem Rel.killS (r : Rel N0 W0 s β a w) (q : Option Nat) : Rel N0 W0 (killS s q) β a w := by
  cases q with
  | none => exact r
  | some id => exact r.drop id

/-- The blocks of an object that is let go are free. -/
theorem Rel.loose (r : Rel N0 W0 s β a w) {id : Nat} {o : Obj} {pv : Value} {vs : List Value} (ho : s.obj id = some o) (hp : β id = some (pv, vs)) {b : Nat} (hb : blks o.own pv vs b) : Free (Go.Eng.killS s (some id)) β w b := by
  obtain ⟨pv0, vs0, hp0, _, hr0⟩ := r.obj id o ho
  rw [hp] at hp0; cases hp0
  refine ⟨(hr0 b hb).2, ?_⟩
  rintro ⟨i, o2, pv2, vs2, ho2, hp2, hb2⟩
  rw [killS_obj] at ho2
  split at ho2
  · cases ho2
  · rename_i hi
    exact hi (congrArg some (r.disj id i o o2 pv vs pv2 vs2 b ho ho2 hp hp2 hb hb2))

theorem free_killS (q : Option Nat) {b : Nat} (h : Free s β w b) : Free (killS s q) β w b := by
  refine ⟨h.1, ?_⟩
  rintro ⟨i, o2, pv2, vs2, ho2, hp2, hb2⟩
  rw [killS_obj] at ho2
  split at ho2
  · cases ho2
  · exact h.2 ⟨i, o2, pv2, vs2, ho2, hp2, hb2⟩

theorem rowIn_ok (r : Rel N0 W0 s β a w) {m : Md} {e' : Nat} {c : CV} {q : Option (List El) × Option Nat} {v : Value} (hm : ∀ st, m ≠ .own st) (h : rowIn s m e' c = some q) (hc : CR N0 β (Free s β w) w c v) :
    RowM N0 (Free (killS s q.2) β w) w e' m v q.1 ∧ v.oneCell' = true ∧ (∀ st, m = .loc st → ∀ b, blockOf v = some b → ¬ Free s β w b) := by
  have hk : ∀ q, Keep (Free s β w) (Free (killS s q) β w) w w := fun q b hb => ⟨free_killS q hb, rfl⟩
  have hnil : ∀ F, v = .slice none 0 0 → RowM N0 F w e' m v none := fun F hv => by
    cases m with
    | own st => exact (hm st rfl).elim
    | loc st => exact hv
    | any => exact hv
  unfold rowIn at h
  split at h
  · cases h
    have hv : v = .slice none 0 0 := hc
    refine ⟨hnil _ hv, by rw [hv]; rfl, fun st _ b hb => ?_⟩
    rw [hv] at hb; cases hb
  · rename_i id2
    obtain ⟨vs2, hp2, h1c⟩ := hc
    split at h
    · rename_i e2 k xs ho
      split at h
      · rename_i hh
        obtain ⟨rfl, rfl, hst⟩ := hh
        cases h
        obtain ⟨pv, vs, hp, hat, hb⟩ := r.obj id2 _ ho
        rw [hp] at hp2; cases hp2
        have hl : ∀ b, blockOf v = some b → Free (killS s (some id2)) β w b := fun b hbv => r.loose ho hp (.inl hbv)
        refine ⟨?_, h1c, fun st _ b hbv hf => hf.2 ⟨id2, _, v, vs2, ho, hp, .inl hbv⟩⟩
        have hfull : xs.length ≠ 0 → Full v := fun hne => by
          rcases hat.1.2 with ⟨_, h0⟩ | ⟨g, cap, cur, hv, _⟩
          · exact (hne h0).elim
          · exact ⟨g, _, _, hv⟩
        cases m with
        | own st => exact (hm st rfl).elim
        | loc st => exact ⟨hat.1, hat.2, fun h => hfull (hst h), hl⟩
        | any => exact imm_of_rowL (B := N0) (e := e2) (st := false) ⟨hat.1, hat.2, (fun h => by cases h), hl⟩
      · cases h
    · rename_i e2 k ho
      split at h
      · rename_i hh
        obtain ⟨rfl, rfl⟩ := hh
        cases h
        obtain ⟨pv, vs, hp, hat, hb⟩ := r.obj id2 _ ho
        rw [hp] at hp2; cases hp2
        have hl : ∀ b, blockOf v = some b → Free (killS s (some id2)) β w b := fun b hbv => r.loose ho hp (.inl hbv)
        refine ⟨?_, h1c, fun st _ b hbv hf => hf.2 ⟨id2, _, v, vs2, ho, hp, .inl hbv⟩⟩
        cases m with
        | own st => exact (hm st rfl).elim
        | loc st => exact ⟨hat.1, (fun e he => by cases he), fun _ => hat.2, hl⟩
        | any => exact imm_of_rowL (B := N0) (e := e2) (st := false) ⟨hat.1, (fun e he => by cases he), (fun h => by cases h), hl⟩
      · cases h
    · cases h
  · rename_i k xs
    split at h
    · split at h
      · rename_i hk1; subst hk1; cases h
        refine ⟨Imm.keep (hk none) hc, ?_, fun st hst => by cases hst⟩
        obtain ⟨⟨p, cap, rfl, _⟩, _⟩ := hc; rfl
      · cases h
    · cases h
  · rename_i e o
    split at h
    · cases h
      refine ⟨RowA.keep (hk none) (rowA_of_rowL hc), ?_, fun st hst => by cases hst⟩
      cases o with
      | none => rw [show v = _ from hc]; rfl
      | some xs => obtain ⟨_, _, h0, _⟩ := hc; obtain ⟨b, n, c, rfl⟩ := h0 rfl; rfl
    · cases h
  · cases h

theorem owns_setV {B e n i : Nat} {b m cap : Nat} {vs : List Value} {v : Value} {cur : Array Value} (h : w.ownsRow B e 1 (.slice (some ⟨b, 0, none⟩) m cap) n vs) (hb : w.heap[b]? = some (.cells cur e (0, 0))) (hi : i < n) :
    (w.setRow b (cur.toList.take i ++ [v] ++ cur.toList.drop (i + 1)).toArray).ownsRow B e 1 (.slice (some ⟨b, 0, none⟩) m cap) n (vs.set i v) ∧ n ≤ cur.size := by
  rcases h.2 with ⟨hh, _⟩ | ⟨g, cap', cur', hv, hbg, hg, hc, hm, hs, ht⟩
  · cases hh
  · cases hv
    rw [hb] at hg; cases hg
    rw [Nat.mul_one] at hs ht
    have hcl : cur.toList.length = cap := by simpa using hs
    refine ⟨⟨by rw [List.length_set]; exact h.1, .inr ⟨b, cap, _, rfl, hbg, setRow_heap w b cur _ e _ hb, hc, hm, ?_, ?_⟩⟩, by rw [hs]; exact hc⟩
    · simp only [List.size_toArray, List.length_append, List.length_take, List.length_cons, List.length_nil, List.length_drop, hcl]
      omega
    · rw [Nat.mul_one, ← ht]
      have e1 : (cur.toList.take i ++ [v]).length = i + 1 := by rw [List.length_append, List.length_take, hcl]; simp; omega
      have e3 : (cur.toList.take i ++ [v] ++ cur.toList.drop (i + 1)) = cur.toList.set i v := by
        rw [List.set_eq_take_append_cons_drop, if_pos (by omega)]; simp
      rw [e3, List.take_set]

/-- What rows an object holds that is not its own. -/
theorem ownsRow_at {B e n : Nat} {v : Value} {vs : List Value} (h : w.ownsRow B e 1 v n vs) : vs.length = n := by rw [h.1, Nat.mul_one]

/-- A store into an object of rows. -/
def rStoreR (T : Tys) (s : AS) (t : Nat) (p v : AV) : Option (List (Nat × Option Obj) × List Nat) :=
  match p, v with
  | .one (.ptr id k i j), .one c => match s.obj id with
    | some (.rows e e' m xss) => if k = 1 ∧ j = 0 ∧ i < xss.length ∧ (T t).one = true then (rowIn s m.frz e' c).map fun q => ((id, some (.rows e e' m.frz (xss.set i q.1))) :: killL q.2, id :: q.2.toList) else none
    | _ => none
  | _, _ => none

theorem storeR_core (hT : TOk P T) (r : Rel N0 W0 s β a w) {t id i e e' : Nat} {m : Md} {xss : List (Option (List El))} {c : CV} {q : Option (List El) × Option Nat} {pv vv : Value} (hm : ∀ st, m ≠ .own st) (ho : s.obj id = some (.rows e e' m xss)) (hi : i < xss.length) (hone : (T t).one = true)
    (hq : rowIn s m e' c = some q) (hp : AR N0 β (Free s β w) w (.one (.ptr id 1 i 0)) pv) (hv : CR N0 β (Free s β w) w c vv) :
    ∃ w' β', (Instr.storeAt t pv vv).run P w = .ok () w' ∧ Rel N0 W0 { s with H := (id, some (.rows e e' m (xss.set i q.1))) :: killL q.2 ++ s.H } β' a w' := by
  obtain ⟨ov, vs, b, hβ, hov, rfl⟩ := hp
  obtain ⟨hrow, hcell, hnf⟩ := rowIn_ok r hm hq hv
  have hqid : q.2 ≠ some id := by
    intro he
    unfold rowIn at hq
    split at hq
    · cases hq; cases he
    · split at hq
      · rename_i h2
        split at hq
        · cases hq; cases he; rw [ho] at h2; cases h2
        · cases hq
      · rename_i h2
        split at hq
        · cases hq; cases he; rw [ho] at h2; cases h2
        · cases hq
      · cases hq
    · split at hq
      · split at hq
        · cases hq; cases he
        · cases hq
      · cases hq
    · split at hq
      · cases hq; cases he
      · cases hq
    · cases hq
  have r1 := r.killS q.2
  have ho1 : (killS s q.2).obj id = some (.rows e e' m xss) := by rw [killS_obj, if_neg hqid]; exact ho
  obtain ⟨ov0, vs0, hp0, hat0, _⟩ := r.obj id _ ho
  rw [hβ] at hp0; cases hp0
  obtain ⟨ov2, vs2, hp2, hat, hbl⟩ := r1.obj id _ ho1
  rw [hβ] at hp2; cases hp2
  have hown : w.ownsRow N0 e 1 ov xss.length vs := by
    cases m with
    | own st => exact (hm st rfl).elim
    | loc st => exact hat.1
    | any => exact hat.1
  have hrows : All2 (fun o v => RowM N0 (Free (killS s q.2) β w) w e' m v o) xss vs := by
    cases m with
    | own st => exact (hm st rfl).elim
    | loc st => exact hat.2.1
    | any => exact hat.2
  have hlen := ownsRow_at hown
  rcases hown.2 with ⟨_, h0⟩ | ⟨g, cap, cur, hg1, hbg, hg, hcap, hmx, hs, ht⟩
  · omega
  · have hgb : g = b := by
      rcases hov with ⟨n, c, e⟩ | e
      · rw [hg1] at e; cases e; rfl
      · rw [hg1] at e; cases e
    subst hgb
    have hown1 := hown
    rw [hg1] at hown1
    obtain ⟨hset, hsz⟩ := owns_setV (v := vv) hown1 hg hi
    have hrun := run_store_cells (P := P) (w := w) hT (t := t) (b := g) (o := i) (v := vv) (vs := [vv]) (cur := cur) (e := e) (.inl ⟨hone, rfl⟩) (by rw [cells_one hcell]) hg (by simp; omega) (fun u hu => by simp at hu; rw [hu]; exact hcell)
    have hgr := grownBy_setRow w g (cur.toList.take i ++ [vv] ++ cur.toList.drop (i + 1)).toArray
    refine ⟨_, β.set id (ov, vs.set i vv), by rw [Nat.mul_one, Nat.add_zero]; exact hrun, ?_⟩
    have r' := r1.store (id := id) ho1 hβ (w' := w.setRow g (cur.toList.take i ++ [vv] ++ cur.toList.drop (i + 1)).toArray) (by rw [hg1]; exact hgr) (o' := .rows e e' m (xss.set i q.1)) (vs' := vs.set i vv) ?_ ?_
    · exact r'
    · intro F β' hF hβ'
      have hk : Keep (Free (killS s q.2) β w) F w (w.setRow g (cur.toList.take i ++ [vv] ++ cur.toList.drop (i + 1)).toArray) := fun b' hb' => ⟨hF b' hb', hgr.block b' hb'.1 (fun e => hb'.2 ⟨id, _, ov, vs, ho1, hβ, .inl (by rw [hg1]; cases e; rfl)⟩)⟩
      have hall : All2 (fun o v => RowM N0 F (w.setRow g (cur.toList.take i ++ [vv] ++ cur.toList.drop (i + 1)).toArray) e' m v o) (xss.set i q.1) (vs.set i vv) := All2.set i (hrows.mono fun _ _ _ _ h => RowM.keep hk h) (RowM.keep hk hrow)
      have hown2 : (w.setRow g (cur.toList.take i ++ [vv] ++ cur.toList.drop (i + 1)).toArray).ownsRow N0 e 1 ov (xss.set i q.1).length (vs.set i vv) := by rw [List.length_set, hg1]; exact hset
      cases m with
      | own st => exact (hm st rfl).elim
      | loc st =>
        refine ⟨hown2, hall, ?_⟩
        have hdis := hat0.2.2
        have hfr : ∀ (j : Nat) (u : Value) (b : Nat), vs[j]? = some u → blockOf u = some b → Free s β w b := by
          intro j u b hu hb
          obtain ⟨o, _, hr⟩ := All2.get' j hat0.2.1 hu
          cases o with
          | none => rw [show u = _ from hr] at hb; cases hb
          | some xs => exact hr.2.2.2 b hb
        intro j1 j2 u1 u2 h1 h2 hne hnb he
        rw [List.getElem?_set] at h1 h2
        split at h1
        · rename_i hj1; subst hj1
          rw [if_pos (by omega)] at h1; cases h1
          rw [if_neg hne] at h2
          cases hb1 : blockOf vv with
          | none => exact hnb hb1
          | some b => exact hnf st rfl b hb1 (hfr j2 u2 b h2 (by rw [← he]; exact hb1))
        · split at h2
          · rename_i hj2; subst hj2
            rw [if_pos (by omega)] at h2; cases h2
            cases hb1 : blockOf u1 with
            | none => exact hnb hb1
            | some b => exact hnf st rfl b (by rw [← he]; exact hb1) (hfr j1 u1 b h1 hb1)
          · exact hdis j1 j2 u1 u2 h1 h2 hne hnb he
      | any => exact ⟨hown2, hall⟩
    · intro b' hb'
      rcases hb' with hb' | ⟨hb', _⟩
      · exact .inl hb'
      · cases m with
        | own st => exact (hm st rfl).elim
        | loc st => cases hb'
        | any => cases hb'

theorem frz_own (m : Md) : ∀ st, m.frz ≠ .own st := by cases m <;> simp [Md.frz]

theorem rowIn_frz {id e e' e1 : Nat} {m : Md} {st : Bool} {xss xss' : List (Option (List El))} {c : CV} (ho : s.obj id = some (.rows e e' (.own st) xss)) : rowIn (s.setO id (.rows e e' (.loc st) xss')) m e1 c = rowIn s m e1 c := by
  unfold rowIn
  have hobj : ∀ i, (s.setO id (.rows e e' (.loc st) xss')).obj i = if id = i then some (.rows e e' (.loc st) xss') else s.obj i := fun _ => rfl
  cases c <;> try rfl
  rename_i id2
  simp only [hobj]
  by_cases h : id = id2
  · subst h; simp [ho]
  · simp [h]

theorem rStoreR_ok (hT : TOk P T) (r : Rel N0 W0 s β a w) {t : Nat} {p v : AV} {y : List (Nat × Option Obj) × List Nat} {pv vv : Value} (h : rStoreR T s t p v = some y) (hp : AR N0 β (Free s β w) w p pv) (hv : AR N0 β (Free s β w) w v vv) :
    ∃ w' β', (Instr.storeAt t pv vv).run P w = .ok () w' ∧ Rel N0 W0 { s with H := y.1 ++ s.H } β' a w' := by
  unfold rStoreR at h
  split at h
  · rename_i id k i j c
    split at h
    · rename_i e e' m xss ho
      split at h
      · rename_i hh
        obtain ⟨rfl, rfl, hi, hone⟩ := hh
        simp only [Option.map_eq_some_iff] at h
        obtain ⟨q, hq, rfl⟩ := h
        cases m with
        | own st =>
          have r0 := r.freeze ho
          have hF : ∀ b, Free s β w b → Free (s.setO id (.rows e e' (.loc st) xss)) β w b := fun b hb => ⟨hb.1, by
            rintro ⟨i2, o2, pv2, vs2, ho2, hp2, hb2⟩
            have : (s.setO id (.rows e e' (.loc st) xss)).obj i2 = if id = i2 then some (.rows e e' (.loc st) xss) else s.obj i2 := rfl
            rw [this] at ho2
            split at ho2
            · rename_i he; subst he; cases ho2
              rcases hb2 with hb2 | ⟨hb2, _⟩
              · exact hb.2 ⟨id, _, pv2, vs2, ho, hp2, .inl hb2⟩
              · cases hb2
            · exact hb.2 ⟨i2, o2, pv2, vs2, ho2, hp2, hb2⟩⟩
          have hk : Keep (Free s β w) (Free (s.setO id (.rows e e' (.loc st) xss)) β w) w w := fun b hb => ⟨hF b hb, rfl⟩
          obtain ⟨w', β', h1, h2⟩ := storeR_core hT r0 (id := id) (i := i) (e := e) (e' := e') (m := .loc st) (xss := xss) (c := c) (q := q) (fun st h => by cases h) (by show lookO ((id, some _) :: s.H) id = _; simp [lookO_cons]) hi hone (by rw [rowIn_frz ho]; exact hq) (AR.keep (fun id pv vs h => ⟨vs, h⟩) hk hp) (CR.keep (fun id pv vs h => ⟨vs, h⟩) hk hv)
          refine ⟨w', β', h1, Rel.same ?_ h2⟩
          refine ⟨rfl, fun _ => rfl, fun i => ?_, fun i => Iff.rfl⟩
          show lookO ((id, some _) :: (killL q.2 ++ (id, some _) :: s.H)) i = lookO ((id, some _) :: (killL q.2 ++ s.H)) i
          rw [lookO_cons, lookO_cons]
          by_cases hii : id = i
          · rw [if_pos hii, if_pos hii]; rfl
          · rw [if_neg hii, if_neg hii]
            cases q.2 with
            | none => show lookO ((id, _) :: s.H) i = lookO s.H i; rw [lookO_cons, if_neg hii]
            | some i2 => show lookO ((i2, none) :: (id, _) :: s.H) i = lookO ((i2, none) :: s.H) i; rw [lookO_cons, lookO_cons, lookO_cons, if_neg hii]
        | loc st => exact storeR_core hT r (frz_own (.loc st)) ho hi hone hq hp hv
        | any => exact storeR_core hT r (frz_own .any) ho hi hone hq hp hv
      · cases h
    · cases h
  · cases h
/-! ### append at rows of rows -/

def frzS (s : AS) (id e e' : Nat) (m : Md) (xss : List (Option (List El))) : AS := s.setO id (.rows e e' m.frz xss)

theorem frzS_obj (s : AS) (id e e' : Nat) (m : Md) (xss : List (Option (List El))) (i : Nat) : (frzS s id e e' m xss).obj i = if id = i then some (.rows e e' m.frz xss) else s.obj i := rfl

theorem Rel.frzS (r : Rel N0 W0 s β a w) {id e e' : Nat} {m : Md} {xss : List (Option (List El))} (ho : s.obj id = some (.rows e e' m xss)) : Rel N0 W0 (frzS s id e e' m xss) β a w := by
  cases m with
  | own st => exact r.freeze ho
  | loc st =>
    refine Rel.same (s := s) ⟨rfl, fun _ => rfl, fun i => ?_, fun _ => Iff.rfl⟩ r
    rw [frzS_obj]
    by_cases h : id = i
    · subst h; rw [if_pos rfl]; exact ho
    · rw [if_neg h]
  | any =>
    refine Rel.same (s := s) ⟨rfl, fun _ => rfl, fun i => ?_, fun _ => Iff.rfl⟩ r
    rw [frzS_obj]
    by_cases h : id = i
    · subst h; rw [if_pos rfl]; exact ho
    · rw [if_neg h]

theorem frzS_free {id e e' : Nat} {m : Md} {xss : List (Option (List El))} (ho : s.obj id = some (.rows e e' m xss)) {b : Nat} (hb : Free s β w b) : Free (frzS s id e e' m xss) β w b := by
  refine ⟨hb.1, ?_⟩
  rintro ⟨i2, o2, pv2, vs2, ho2, hp2, hb2⟩
  rw [frzS_obj] at ho2
  split at ho2
  · rename_i he; subst he; cases ho2
    rcases hb2 with hb2 | ⟨hb2, _⟩
    · exact hb.2 ⟨id, _, pv2, vs2, ho, hp2, .inl hb2⟩
    · cases m <;> cases hb2
  · exact hb.2 ⟨i2, o2, pv2, vs2, ho2, hp2, hb2⟩

theorem rowIn_frzS {id e e' e1 : Nat} {m m1 : Md} {xss : List (Option (List El))} {c : CV} (ho : s.obj id = some (.rows e e' m xss)) : rowIn (frzS s id e e' m xss) m1 e1 c = rowIn s m1 e1 c := by
  unfold rowIn
  cases c <;> try rfl
  rename_i id2
  simp only [frzS_obj]
  by_cases h : id = id2
  · subst h; simp [ho]
  · simp [h]

theorem rowIn_ne {id e e' e1 : Nat} {m m1 : Md} {xss : List (Option (List El))} {c : CV} {q : Option (List El) × Option Nat} (ho : s.obj id = some (.rows e e' m xss)) (hq : rowIn s m1 e1 c = some q) : q.2 ≠ some id := by
  intro he
  unfold rowIn at hq
  split at hq
  · cases hq; cases he
  · split at hq
    · rename_i h2
      split at hq
      · cases hq; cases he; rw [ho] at h2; cases h2
      · cases hq
    · rename_i h2
      split at hq
      · cases hq; cases he; rw [ho] at h2; cases h2
      · cases hq
    · cases hq
  · split at hq
    · split at hq
      · cases hq; cases he
      · cases hq
    · cases hq
  · split at hq
    · cases hq; cases he
    · cases hq
  · cases hq

/-- The rows that are appended: contents; what is taken over. -/
def rSrcR (s : AS) (m : Md) (e e' : Nat) (y : AV) : Option (Md × List (Option (List El)) × Option Nat × List Nat) :=
  match y with
  | .one (.ref idc) => match s.obj idc with
    | some (.cvs e1 [c]) => if e1 = e then ((rowIn s m e' c).map fun q => (m, [q.1], q.2, idc :: q.2.toList)).or ((rowIn s .any e' c).map fun q => (Md.any, [q.1], q.2, idc :: q.2.toList)) else none
    | some (.rows e1 e2 (.own _) xss2) => match m with
      | .loc _ => if e1 = e ∧ e2 = e' then some (.loc false, xss2, some idc, [idc]) else none
      | _ => none
    | _ => none
  | _ => none

def rAppendR (T : Tys) (s : AS) (t id' : Nat) (x y : AV) : Option Eff :=
  match T t with
  | .sl e => match T e with
    | .sl e' => match x with
      | .one .nil => (rSrcR s (.loc false) e e' y).bind fun q => if q.2.1.length ≤ 1099511627776 then some { val := .one (.ref id'), sets := (id', some (.rows e e' q.1 q.2.1)) :: killL q.2.2.1, fresh := [id'], log := q.2.2.2 } else none
      | .one (.ref id) => match s.obj id with
        | some (.rows e1 e2 m xss) => if e1 = e ∧ e2 = e' then (rSrcR s m.frz e e' y).bind fun q => if xss.length + q.2.1.length ≤ 1099511627776 ∧ q.2.2.1 ≠ some id then some { val := .one (.ref id'), sets := (id', some (.rows e e' q.1 (xss ++ q.2.1))) :: (killL q.2.2.1 ++ [(id, none)]), fresh := [id'], log := id :: q.2.2.2 } else none else none
        | _ => none
      | _ => none
    | _ => none
  | _ => none

theorem ownsRow_src {e n : Nat} {v : Value} {vs : List Value} (h : w.ownsRow N0 e 1 v n vs) (h1 : ∀ u ∈ vs, u.oneCell' = true) : SrcAt w 1 v n vs := by
  refine ⟨h.1, h1, ?_⟩
  rcases h.2 with ⟨rfl, h0⟩ | ⟨g, cap, cur, hv, hbg, hg, hc, hm, hs, ht⟩
  · exact .inl ⟨0, by rw [h0], h0⟩
  · exact .inr ⟨_, _, hv, fun j u hu => h.cells (g := g) (by rw [hv]; rfl) j u hu⟩

/-- What the source of an append at rows is: rows in blocks that are free once what is taken over has been let go, apart from those that are free now. -/
theorem rSrcR_ok (r : Rel N0 W0 s β a w) {m : Md} {e e' : Nat} {y : AV} {q : Md × List (Option (List El)) × Option Nat × List Nat} {yv : Value} (hm : ∀ st, m ≠ .own st) (h : rSrcR s m e e' y = some q) (hy : AR N0 β (Free s β w) w y yv) :
    ∃ us, SrcAt w 1 yv us.length us ∧ us.length = q.2.1.length ∧ (∀ st, q.1 ≠ .own st) ∧ All2 (fun o v => RowM N0 (Free (killS s q.2.2.1) β w) w e' q.1 v o) q.2.1 us ∧
      (∀ st, q.1 = .loc st → Asunder us ∧ ∀ u ∈ us, ∀ b, blockOf u = some b → ¬ Free s β w b) ∧
      (∀ F o v, RowM N0 F w e' m v o → RowM N0 F w e' q.1 v o) ∧ (∀ st, q.1 = .loc st → ∃ st', m = .loc st') := by
  unfold rSrcR at h
  split at h
  · rename_i idc
    obtain ⟨vsc, hpc, _⟩ := hy
    split at h
    · rename_i e1 c ho
      split at h
      · rename_i he; subst he
        obtain ⟨pv, vs, hp, hat, hb⟩ := r.obj idc _ ho
        rw [hp] at hpc; cases hpc
        rcases Option.or_eq_some_iff.1 h with h | ⟨_, h⟩
        rotate_left
        · simp only [Option.map_eq_some_iff] at h
          obtain ⟨q', hq, rfl⟩ := h
          match vsc, hat with
          | [u], ⟨hown, hcu, _⟩ =>
            obtain ⟨h1, h2, _⟩ := rowIn_ok r (fun st hst => by cases hst) hq hcu
            refine ⟨[u], ownsRow_src hown (fun x hx => by simp at hx; rw [hx]; exact h2), rfl, (fun st hst => by cases hst), ⟨h1, trivial⟩, (fun st hst => by cases hst), fun F o v hr => ?_, (fun st hst => by cases hst)⟩
            cases m with
            | own st => exact (hm st rfl).elim
            | loc st => exact rowA_of_rowL hr
            | any => exact hr
        simp only [Option.map_eq_some_iff] at h
        obtain ⟨q', hq, rfl⟩ := h
        match vsc, hat with
        | [u], ⟨hown, hcu, _⟩ =>
          obtain ⟨h1, h2, h3⟩ := rowIn_ok r hm hq hcu
          refine ⟨[u], ownsRow_src hown (fun x hx => by simp at hx; rw [hx]; exact h2), rfl, hm, ⟨h1, trivial⟩, fun st hst => ⟨?_, fun x hx b hbx => ?_⟩, fun _ _ _ h => h, fun st hst => ⟨st, hst⟩⟩
          · intro i j u1 u2 g1 g2 hne
            have := (List.getElem?_eq_some_iff.1 g1).1
            have := (List.getElem?_eq_some_iff.1 g2).1
            simp at *; omega
          · simp at hx; subst hx; exact h3 st hst b hbx
      · cases h
    · rename_i e1 e2 st2 xss2 ho
      split at h
      · rename_i st
        split at h
        · rename_i he; obtain ⟨rfl, rfl⟩ := he
          cases h
          obtain ⟨pv, vs, hp, hat, hb⟩ := r.obj idc _ ho
          rw [hp] at hpc; cases hpc
          obtain ⟨hown, hrows, hdis, hne⟩ := hat
          have hone : ∀ u ∈ vsc, u.oneCell' = true := by
            intro u hu
            obtain ⟨i, hi⟩ := List.getElem?_of_mem hu
            obtain ⟨o, _, hr⟩ := All2.get' i hrows hi
            cases o with
            | none => rw [show u = _ from hr]; rfl
            | some xs => obtain ⟨p, cap, hv, _⟩ := owns_len hr.1; rw [hv]; rfl
          refine ⟨vsc, by rw [ownsRow_at hown]; exact ownsRow_src hown hone, ownsRow_at hown, (fun st h => by cases h), hrows.mono fun o v _ hv hr => ?_, fun st _ => ⟨hdis, fun u hu b hbu hf => hf.2 ⟨idc, _, yv, vsc, ho, hp, .inr ⟨rfl, u, hu, hbu⟩⟩⟩, fun F o v h => h.lax, fun st' hst' => ⟨st, rfl⟩⟩
          cases o with
          | none => exact hr
          | some xs => exact ⟨hr.1, hr.2.1, (fun h => by cases h), fun b hbv => r.loose ho hp (.inr ⟨rfl, v, hv, hbv⟩)⟩
        · cases h
      · cases h
    · cases h
  · cases h

theorem asunder_app {vs us : List Value} {F : Nat → Prop} (h1 : Asunder vs) (h2 : Asunder us) (h3 : ∀ u ∈ us, ∀ b, blockOf u = some b → ¬ F b) (h4 : ∀ v ∈ vs, ∀ b, blockOf v = some b → F b) : Asunder (vs ++ us) := by
  intro i j u v hi hj hne hb he
  cases hbu : blockOf u with
  | none => exact hb hbu
  | some b =>
    have hbv : blockOf v = some b := by rw [← he]; exact hbu
    by_cases c1 : i < vs.length <;> by_cases c2 : j < vs.length
    · rw [List.getElem?_append_left c1] at hi; rw [List.getElem?_append_left c2] at hj
      exact h1 i j u v hi hj hne hb he
    · rw [List.getElem?_append_left c1] at hi; rw [List.getElem?_append_right (by omega)] at hj
      exact h3 v (List.mem_of_getElem? hj) b hbv (h4 u (List.mem_of_getElem? hi) b hbu)
    · rw [List.getElem?_append_right (by omega)] at hi; rw [List.getElem?_append_left c2] at hj
      exact h3 u (List.mem_of_getElem? hi) b hbu (h4 v (List.mem_of_getElem? hj) b hbv)
    · rw [List.getElem?_append_right (by omega)] at hi; rw [List.getElem?_append_right (by omega)] at hj
      exact h2 (i - vs.length) (j - vs.length) u v hi hj (by omega) hb he

theorem rowM_free {B e : Nat} {st : Bool} {F : Nat → Prop} {xss : List (Option (List El))} {vs : List Value} (h : All2 (fun o v => RowL B F w e st v o) xss vs) : ∀ v ∈ vs, ∀ b, blockOf v = some b → F b := by
  intro v hv b hb
  obtain ⟨i, hi⟩ := List.getElem?_of_mem hv
  obtain ⟨o, _, hr⟩ := All2.get' i h hi
  cases o with
  | none => rw [show v = _ from hr] at hb; cases hb
  | some xs => exact hr.2.2.2 b hb

theorem ownBlock_of {B e k n : Nat} {v : Value} {vs : List Value} (h : w.ownsRow B e k v n vs) {b : Nat} (hb : blockOf v = some b) : b < w.heap.size := by
  have : v.ownBlock = some b := by
    obtain ⟨p, cap, hv, _⟩ := owns_len h
    rw [hv] at hb ⊢
    cases p <;> simp [blockOf, Value.ownBlock] at hb ⊢ <;> exact hb
  exact (h.lt b this).2

theorem rAppendR_ok (hT : TOk P T) (r : Rel N0 W0 s β a w) {t id' ty : Nat} {x y : AV} {f : Eff} {xv yv : Value} (h : rAppendR T s t id' x y = some f) (hid : id' ∉ s.used) (hx : AR N0 β (Free s β w) w x xv) (hy : AR N0 β (Free s β w) w y yv) :
    ∃ v' w' β', (Builtin.append_ #[t, t] ty #[xv, yv]).run P w = .ok v' w' ∧ Rel N0 W0 { s with H := f.sets ++ s.H, used := f.fresh ++ s.used } β' a w' ∧ AR N0 β' (Free { s with H := f.sets ++ s.H, used := f.fresh ++ s.used } β' w') w' f.val v' := by
  have hid' : s.used.contains id' = false := by simpa using hid
  unfold rAppendR at h
  split at h
  · rename_i e hst
    split at h
    · rename_i e' hse
      have hk1 : kOf T e = 1 := by unfold kOf; rw [hse]
      have hok : (T e).ok = true := by rw [hse]; rfl
      split at h
      · -- nil
        have hxv : xv = .slice none 0 0 := hx
        subst hxv
        simp only [Option.bind_eq_some_iff] at h
        obtain ⟨q, hq, h⟩ := h
        split at h
        · rename_i hle
          cases h
          obtain ⟨us, hsrc, hul, hmo, hrows, hdis, _, _⟩ := rSrcR_ok r (fun st h => by cases h) hq hy
          have r1 := r.killS q.2.2.1
          obtain ⟨v', w', h1, h2, h3, h4, h5⟩ := append_run (P := P) (ty := ty) hT hst hok (v := .slice none 0 0) (n := 0) (xs := []) (World.ownsRow_nil w N0 e _) r.size0 (by rw [hk1]; exact hsrc) (by omega)
          have hbel : Below w.heap.size w w' := ⟨h3.os, h3.tape, h3.output, h3.size, fun k hk => h3.block k hk (by simp [blockOf])⟩
          rw [hk1] at h2
          have hown : w'.ownsRow N0 e 1 v' q.2.1.length us := by simpa [hul] using h2
          have hk : ∀ F, (∀ b, Free (killS s q.2.2.1) β w b → F b) → Keep (Free (killS s q.2.2.1) β w) F w w' := fun F hF b hb => ⟨hF b hb, h3.block b hb.1 (by simp [blockOf])⟩
          have r' := r1.alloc hbel (id := id') hid' (o := .rows e e' q.1 q.2.1) (pv := v') (vs := us) (fun F β' hF _ => by
            have hall := hrows.mono fun o v _ _ h => RowM.keep (hk F hF) h
            cases hq1 : q.1 with
            | own st => exact (hmo st hq1).elim
            | loc st => rw [hq1] at hall; exact ⟨hown, hall, (hdis st hq1).1⟩
            | any => rw [hq1] at hall; exact ⟨hown, hall⟩) (fun b hb => by
              rcases hb with hb | ⟨hb, _⟩
              · refine ⟨?_, ownBlock_of hown hb⟩
                rcases h4 with h4 | h4
                · rw [h4] at hb; cases hb
                · rw [h4] at hb; cases hb; exact Nat.le_refl _
              · cases hq1 : q.1 <;> rw [hq1] at hb <;> first | (exact (hmo _ hq1).elim) | cases hb)
          exact ⟨v', w', _, h1, r', us, by simp [Plc.set], h5⟩
        · cases h
      · rename_i id
        obtain ⟨vs, hp, hone⟩ := hx
        split at h
        · rename_i e1 e2 m xss ho
          split at h
          · rename_i hee
            obtain ⟨rfl, rfl⟩ := hee
            simp only [Option.bind_eq_some_iff] at h
            obtain ⟨q, hq, h⟩ := h
            split at h
            · rename_i hle
              obtain ⟨hle, hqid⟩ := hle
              cases h
              have r0 := r.frzS ho
              have hsrc0 : rSrcR (frzS s id e1 e2 m xss) m.frz e1 e2 y = some q := by
                unfold rSrcR at hq ⊢
                split at hq
                · rename_i idc
                  simp only [frzS_obj]
                  by_cases hic : id = idc
                  · subst hic
                    rw [ho] at hq
                    exfalso
                    cases m with
                    | own st =>
                      simp only [Md.frz] at hq
                      split at hq
                      · cases hq; exact hqid rfl
                      · cases hq
                    | loc st => cases hq
                    | any => cases hq
                  · simp only [hic, if_false]
                    cases hoc : s.obj idc with
                    | none => rw [hoc] at hq; cases hq
                    | some oc =>
                      rw [hoc] at hq
                      cases oc with
                      | cvs e3 cs =>
                        match cs, hq with
                        | [c], hq => simp only [rowIn_frzS ho]; exact hq
                      | rows e3 e4 m4 xss4 =>
                        cases m4 with
                        | own st4 => exact hq
                        | _ => cases hq
                      | _ => cases hq
                · cases hq
              have hk0 : Keep (Free s β w) (Free (frzS s id e1 e2 m xss) β w) w w := fun b hb => ⟨frzS_free ho hb, rfl⟩
              obtain ⟨us, hsrc, hul, hmo, hrows, hdis, hup, hmm⟩ := rSrcR_ok r0 (frz_own m) hsrc0 (AR.keep (fun id pv vs h => ⟨vs, h⟩) hk0 hy)
              have ho0 : (frzS s id e1 e2 m xss).obj id = some (.rows e1 e2 m.frz xss) := by rw [frzS_obj, if_pos rfl]
              have r1 := r0.killS q.2.2.1
              have ho1 : (killS (frzS s id e1 e2 m xss) q.2.2.1).obj id = some (.rows e1 e2 m.frz xss) := by rw [killS_obj, if_neg hqid]; exact ho0
              obtain ⟨pv0, vs0, hp0, hat0, _⟩ := r0.obj id _ ho0
              rw [hp] at hp0; cases hp0
              obtain ⟨pv2, vs2, hp2, hat, _⟩ := r1.obj id _ ho1
              rw [hp] at hp2; cases hp2
              have hown : w.ownsRow N0 e1 1 xv xss.length vs := by
                cases m with
                | own st => exact hat.1
                | loc st => exact hat.1
                | any => exact hat.1
              have hrows0 : All2 (fun o v => RowM N0 (Free (killS (frzS s id e1 e2 m xss) q.2.2.1) β w) w e2 m.frz v o) xss vs := by
                cases m with
                | own st => exact hat.2.1
                | loc st => exact hat.2.1
                | any => exact hat.2
              obtain ⟨v', w', h1, h2, h3, h4, h5⟩ := append_run (P := P) (ty := ty) hT hst hok (v := xv) (n := xss.length) (xs := vs) (by rw [hk1]; exact hown) r.size0 (by rw [hk1]; exact hsrc) (by omega)
              rw [hk1] at h2
              have hown2 : w'.ownsRow N0 e1 1 v' (xss ++ q.2.1).length (vs ++ us) := by rw [List.length_append, ← hul]; exact h2
              have hnl : ∀ st, q.1 = .own st → False := fun st h => hmo st h
              have r' := r1.rewrite (id' := id') (o' := .rows e1 e2 q.1 (xss ++ q.2.1)) (pv' := v') (vs' := vs ++ us) ho1 hp h3 hid' (fun F β' hF _ => by
                have hk : Keep (Free (killS (frzS s id e1 e2 m xss) q.2.2.1) β w) F w w' := fun b hb => ⟨hF b hb, h3.block b hb.1 (fun e => hb.2 ⟨id, _, xv, vs, ho1, hp, .inl e.symm⟩)⟩
                have hall := (hrows0.mono fun o v _ _ h => RowM.keep hk (hup _ o v h)).app (hrows.mono fun o v _ _ h => RowM.keep hk h)
                cases hq1 : q.1 with
                | own st => exact (hmo st hq1).elim
                | loc st =>
                  rw [hq1] at hall
                  refine ⟨hown2, hall, ?_⟩
                  obtain ⟨d1, d2⟩ := hdis st hq1
                  obtain ⟨st', hst'⟩ := hmm st hq1
                  rw [hst'] at hat0
                  exact asunder_app hat0.2.2 d1 d2 (rowM_free hat0.2.1)
                | any => rw [hq1] at hall; exact ⟨hown2, hall⟩) (fun b hb => by
                  rcases hb with hb | ⟨hb, _⟩
                  · refine ⟨ownBlock_of hown2 hb, ?_⟩
                    rcases h4 with h4 | h4
                    · exact .inr (.inl (by rw [← h4]; exact hb))
                    · rw [h4] at hb; cases hb; exact .inl (Nat.le_refl _)
                  · cases hq1 : q.1 <;> rw [hq1] at hb <;> first | (exact (hmo _ hq1).elim) | cases hb)
              have r2 : Rel N0 W0 { s with H := (id', some (.rows e1 e2 q.1 (xss ++ q.2.1))) :: (killL q.2.2.1 ++ [(id, none)]) ++ s.H, used := [id'] ++ s.used } (β.set id' (v', vs ++ us)) a w' := by
                refine Rel.same ?_ r'
                refine ⟨rfl, fun _ => rfl, fun i => ?_, fun i => Iff.rfl⟩
                show lookO ((id', some _) :: (id, none) :: (killL q.2.2.1 ++ (id, some _) :: s.H)) i = lookO ((id', some _) :: ((killL q.2.2.1 ++ [(id, none)]) ++ s.H)) i
                rw [lookO_cons, lookO_cons, lookO_cons]
                by_cases hi1 : id' = i
                · rw [if_pos hi1, if_pos hi1]
                · rw [if_neg hi1, if_neg hi1]
                  cases hqq : q.2.2.1 with
                  | none =>
                    show (if id = i then none else lookO ((id, _) :: s.H) i) = lookO ((id, none) :: s.H) i
                    rw [lookO_cons, lookO_cons]
                    by_cases hii : id = i
                    · rw [if_pos hii, if_pos hii]
                    · rw [if_neg hii, if_neg hii, if_neg hii]
                  | some i2 =>
                    show (if id = i then none else lookO ((i2, none) :: (id, _) :: s.H) i) = lookO ((i2, none) :: (id, none) :: s.H) i
                    rw [lookO_cons, lookO_cons, lookO_cons, lookO_cons]
                    by_cases hii : id = i
                    · rw [if_pos hii]; split <;> simp [hii]
                    · rw [if_neg hii, if_neg hii, if_neg hii]
              exact ⟨v', w', _, h1, r2, vs ++ us, by simp [Plc.set], h5⟩
            · cases h
          · cases h
        · cases h
      · cases h
    · cases h
  · cases h
end

end Go.Eng
/- The engine, part 18: all the operations put together. -/
set_option linter.unusedVariables false
namespace Go.Eng
open Go Go.RowKit

section
variable {N0 : Nat} {W0 : World} {s s' : AS} {β β' : Plc} {a : Act} {w w' : World} {P : Program} {T : Tys}

/-! ### What an operation reckons hangs on what it looks at and on the noted objects alone -/

theorem rLen_congr {t : Nat} {x : AV} {y : AV × List Nat} (h : rLen T s t x = some y) (ha : ∀ i ∈ y.2, s'.obj i = s.obj i) : rLen T s' t x = some y := by
  unfold rLen at h ⊢
  split at h <;> try (exact h)
  split at h
  all_goals first
    | (rename_i ho; cases h; simp only [ha _ List.mem_cons_self, ho])
    | cases h

theorem rIndexAddr_congr {t : Nat} {x i : AV} {y : AV × List Nat} (h : rIndexAddr T s t x i = some y) (ha : ∀ i ∈ y.2, s'.obj i = s.obj i) : rIndexAddr T s' t x i = some y := by
  unfold rIndexAddr at h ⊢
  split at h
  · split at h
    · rename_i hc
      simp only [hc, and_self, if_true]
      split at h <;> try (exact h)
      all_goals
        split at h
        all_goals first
          | (rename_i ho
             split at h
             · rename_i hk
               cases h
               simp only [ha _ List.mem_cons_self, ho, hk, and_self, if_true]
             · cases h)
          | cases h
    · cases h
  · cases h

theorem rLoad_congr {t : Nat} {x : AV} {y : AV × List Nat} (h : rLoad T s t x = some y) (ha : ∀ i ∈ y.2, s'.obj i = s.obj i) : rLoad T s' t x = some y := by
  unfold rLoad at h
  split at h
  · unfold rLoad; exact h
  · unfold rLoad; exact h
  · rename_i id k i j
    have key : y.2 = [id] := by
      split at h
      · split at h
        · split at h <;> cases h; rfl
        · cases h
        · split at h
          · simp only [Option.map_eq_some_iff] at h; obtain ⟨_, _, rfl⟩ := h; rfl
          · cases h
      · split at h
        · split at h
          · split at h
            · simp only [Option.map_eq_some_iff] at h; obtain ⟨_, _, rfl⟩ := h; rfl
            · cases h
          · cases h
          · simp only [Option.map_eq_some_iff] at h; obtain ⟨_, _, rfl⟩ := h; rfl
        · cases h
      · split at h
        · simp only [Option.map_eq_some_iff] at h; obtain ⟨_, _, rfl⟩ := h; rfl
        · cases h
      · split at h
        · simp only [Option.map_eq_some_iff] at h; obtain ⟨_, _, rfl⟩ := h; rfl
        · cases h
      · split at h
        · simp only [Option.map_eq_some_iff] at h; obtain ⟨_, _, rfl⟩ := h; rfl
        · cases h
      · split at h
        · simp only [Option.map_eq_some_iff] at h; obtain ⟨_, _, rfl⟩ := h; rfl
        · cases h
      · split at h
        · simp only [Option.map_eq_some_iff] at h; obtain ⟨_, _, rfl⟩ := h; rfl
        · cases h
      · cases h
    rw [key] at ha
    unfold rLoad
    simp only [ha _ List.mem_cons_self]
    exact h
  · cases h

theorem rSlice_congr {t : Nat} {x : AV} {lo hi : Option AV} {y : AV × List Nat} (h : rSlice T s t x lo hi = some y) (ha : ∀ i ∈ y.2, s'.obj i = s.obj i) : rSlice T s' t x lo hi = some y := by
  cases x with
  | one c =>
    cases c with
    | ref id =>
      have key : y.2 = [id] := by
        unfold rSlice at h
        split at h
        · split at h
          · dsimp only at h
            generalize s.obj id = ob at h
            cases ob with
            | none => cases h
            | some ob =>
              cases ob with
              | flat e k xs =>
                dsimp only at h
                split at h
                · cases lo with
                  | none => simp only [Option.map_eq_some_iff] at h; obtain ⟨_, _, rfl⟩ := h; rfl
                  | some lo => simp only [Option.map_eq_some_iff] at h; obtain ⟨_, _, rfl⟩ := h; rfl
                · cases h
              | rows e1 e2 m xss =>
                dsimp only at h
                split at h
                · simp only [Option.map_eq_some_iff] at h; obtain ⟨_, _, rfl⟩ := h; rfl
                · cases h
              | _ => cases h
          · cases h
        · cases h
      rw [key] at ha
      unfold rSlice at h ⊢
      simp only [ha _ List.mem_cons_self]
      exact h
    | row e o => cases o <;> exact h
    | _ => exact h
  | _ => exact h

theorem rConv_congr {src dst : Nat} {x : AV} {y : AV × List Nat} (h : rConv T s src dst x = some y) (ha : ∀ i ∈ y.2, s'.obj i = s.obj i) : rConv T s' src dst x = some y := by
  unfold rConv at h ⊢
  split at h <;> try (exact h)
  rename_i e id _ _
  have key : y.2 = [id] := by
    split at h
    · split at h
      · simp only [Option.map_eq_some_iff] at h; obtain ⟨_, _, rfl⟩ := h; rfl
      · cases h
    · cases h
  rw [key] at ha
  simp only [ha _ List.mem_cons_self]
  exact h

/-! ### Values -/

def rMinMax (m : Bool) (s : AS) (args : List Operand) : Option (AV × List Nat) :=
  match args with
  | [x, y] => (rMin m (s.ev x) (s.ev y)).map (·, [])
  | _ => none

def rNil (x : AV) : Option (AV × List Nat) :=
  match x with
  | .one (.ptr id k i j) => some (.one (.ptr id k i j), [])
  | .one (.iptr cs) => some (.one (.iptr cs), [])
  | _ => none

/-- A function value: of none or one captured variable. -/
def rMakeFunc (s : AS) (fn : Fn) (first captured : List AV) : Option (AV × List Nat) :=
  match fn, first, captured with
  | .func f, [], [] => some (.one (.fn f), [])
  | .func f, [], [.one (.ptr id _ 0 0)] => match s.obj id with
    | some (.box _ _) => some (.one (.clo f id), [id])
    | _ => none
  | _, _, _ => none

theorem rMakeFunc_congr {fn : Fn} {l m : List AV} {y : AV × List Nat} (h : rMakeFunc s fn l m = some y) (ha : ∀ i ∈ y.2, s'.obj i = s.obj i) : rMakeFunc s' fn l m = some y := by
  unfold rMakeFunc at h ⊢
  split at h
  · exact h
  · rename_i f id k
    split at h
    · rename_i e cs ho
      cases h
      simp only [ha _ List.mem_cons_self, ho]
    · cases h
  · cases h

def rSliceAll (T : Tys) (s : AS) (t : Nat) (x : Operand) (lo hi : Option Operand) : Option (AV × List Nat) :=
  match T t with
  | .str => (rCutS T t (s.ev x) (lo.map s.ev) (hi.map s.ev)).map (·, [])
  | _ => rSlice T s t (s.ev x) (lo.map s.ev) (hi.map s.ev)

/-- What an operation yields that leaves the world alone. -/
def reckV (T : Tys) (s : AS) : Op → Option (AV × List Nat)
  | .move x => some (s.ev x, [])
  | .assign x => some (s.ev x, [])
  | .pick c x y => (rPick (s.ev c) (s.ev x) (s.ev y)).map (·, [])
  | .load t x => rLoad T s t (s.ev x)
  | .binOp op t x y _ => (rBin T op t (s.ev x) (s.ev y)).map (·, [])
  | .unOp op _ x => (rUn op (s.ev x)).map (·, [])
  | .convert src dst x => rConv T s src dst (s.ev x)
  | .slice t x lo hi none => rSliceAll T s t x lo hi
  | .fieldAddr t x f => (rFieldAddr T t (s.ev x) f).map (·, [])
  | .field t x f => (rField T t (s.ev x) f).map (·, [])
  | .indexAddr t x i => rIndexAddr T s t (s.ev x).rd (s.ev i)
  | .index t x i => (rIndex T t (s.ev x) (s.ev i)).map (·, [])
  | .extract x i => (rExtract (s.ev x) i).map (·, [])
  | .nilCheck x => rNil (s.ev x)
  | .build t ps => (rMk T t (ps.toList.map fun p => (p.1, s.ev p.2))).map (·, [])
  | .makeFunc fn first captured => rMakeFunc s fn (first.toList.map s.ev) (captured.toList.map s.ev)
  | .call ⟨.builtin .len, args, ts⟩ => match args.toList, ts.toList with
    | [x], [t] => rLen T s t (s.ev x).rd
    | _, _ => none
  | .call ⟨.builtin .min, args, _⟩ => rMinMax false s args.toList
  | .call ⟨.builtin .max, args, _⟩ => rMinMax true s args.toList
  | _ => none

theorem reckV_congr {op : Op} {y : AV × List Nat} (h : reckV T s op = some y) (hs : ∀ x ∈ op.operands, s'.ev x = s.ev x) (ha : ∀ i ∈ y.2, s'.obj i = s.obj i) : reckV T s' op = some y := by
  unfold reckV at h ⊢
  split at h
  · rw [hs _ (by simp [Op.operands])]; exact h
  · rw [hs _ (by simp [Op.operands])]; exact h
  · rw [hs _ (by simp [Op.operands]), hs _ (by simp [Op.operands]), hs _ (by simp [Op.operands])]; exact h
  · rw [hs _ (by simp [Op.operands])]; exact rLoad_congr h ha
  · rw [hs _ (by simp [Op.operands]), hs _ (by simp [Op.operands])]; exact h
  · rw [hs _ (by simp [Op.operands])]; exact h
  · rw [hs _ (by simp [Op.operands])]; exact rConv_congr h ha
  · rename_i t x lo hi
    have hx := hs x (by simp [Op.operands])
    have hlo : lo.map s'.ev = lo.map s.ev := by cases lo with | none => rfl | some l => simp [hs l (by simp [Op.operands])]
    have hhi : hi.map s'.ev = hi.map s.ev := by cases hi with | none => rfl | some l => simp [hs l (by simp [Op.operands])]
    unfold rSliceAll at h ⊢
    rw [hx, hlo, hhi]
    split at h
    · exact h
    · exact rSlice_congr h ha
  · rw [hs _ (by simp [Op.operands])]; exact h
  · rw [hs _ (by simp [Op.operands])]; exact h
  · rw [hs _ (by simp [Op.operands]), hs _ (by simp [Op.operands])]; exact rIndexAddr_congr h ha
  · rw [hs _ (by simp [Op.operands]), hs _ (by simp [Op.operands])]; exact h
  · rw [hs _ (by simp [Op.operands])]; exact h
  · rw [hs _ (by simp [Op.operands])]; exact h
  · rename_i t ps
    have : (ps.toList.map fun p => (p.1, s'.ev p.2)) = ps.toList.map fun p => (p.1, s.ev p.2) := List.map_congr_left fun p hp => by
      rw [hs p.2 (by simp only [Op.operands, List.mem_toArray, List.mem_map]; exact ⟨p, hp, rfl⟩)]
    rw [this]; exact h
  · rename_i fn first captured
    have e1 : first.toList.map s'.ev = first.toList.map s.ev := List.map_congr_left fun x hx => hs x (by simp [Op.operands]; exact .inl (by simpa using hx))
    have e2 : captured.toList.map s'.ev = captured.toList.map s.ev := List.map_congr_left fun x hx => hs x (by simp [Op.operands]; exact .inr (by simpa using hx))
    rw [e1, e2]; exact rMakeFunc_congr h ha
  · rename_i args ts
    split at h
    · rename_i x t hx ht
      rw [hs x (by simp only [Op.operands, Call.operands]; simp; rw [← Array.mem_toList_iff, hx]; simp)]
      exact rLen_congr h ha
    · cases h
  · rename_i args ts
    unfold rMinMax at h ⊢
    split at h
    · rename_i x y hx
      rw [hs x (by simp only [Op.operands, Call.operands]; simp; rw [← Array.mem_toList_iff, hx]; simp), hs y (by simp only [Op.operands, Call.operands]; simp; rw [← Array.mem_toList_iff, hx]; simp)]
      exact h
    · cases h
  · rename_i args ts
    unfold rMinMax at h ⊢
    split at h
    · rename_i x y hx
      rw [hs x (by simp only [Op.operands, Call.operands]; simp; rw [← Array.mem_toList_iff, hx]; simp), hs y (by simp only [Op.operands, Call.operands]; simp; rw [← Array.mem_toList_iff, hx]; simp)]
      exact h
    · cases h
  · cases h

theorem optVal_ev (r : Rel N0 W0 s β a w) (x : Option Operand) : optVal N0 β (Free s β w) w (x.map s.ev) (x.map a.eval) := by
  cases x with
  | none => trivial
  | some x => exact r.ev x

theorem parts_ev (r : Rel N0 W0 s β a w) : ∀ ps : List (Nat × Operand), All2 (fun (p : Nat × AV) (q : Nat × Value) => p.1 = q.1 ∧ AR N0 β (Free s β w) w p.2 q.2) (ps.map fun p => (p.1, s.ev p.2)) (ps.map fun p => (p.1, a.eval p.2))
  | [] => trivial
  | p :: ps => ⟨⟨rfl, r.ev p.2⟩, parts_ev r ps⟩

theorem reckV_ok (hT : TOk P T) (r : Rel N0 W0 s β a w) {o : Oper} {y : AV × List Nat} (h : reckV T s o.op = some y) : ∃ v, (execOp a.eval o).run P w = .ok (.value v) w ∧ AR N0 β (Free s β w) w y.1 v := by
  have fin : ∀ (m : Sem Value) (op : Op), (∃ v, m.run P w = .ok v w ∧ AR N0 β (Free s β w) w y.1 v) → (execOp a.eval o = do pure (.value (← m))) → ∃ v, (execOp a.eval o).run P w = .ok (.value v) w ∧ AR N0 β (Free s β w) w y.1 v := by
    rintro m op ⟨v, hv, hr⟩ he
    refine ⟨v, ?_, hr⟩
    rw [he]
    simp only [Sem.run_bind, hv, Result.andThen_ok, Sem.run_pure]
  unfold reckV at h
  split at h
  · rename_i x ho
    cases h
    refine fin (pure (a.eval x)) o.op ⟨a.eval x, by simp, r.ev x⟩ ?_
    unfold execOp; rw [ho]; rfl
  · rename_i x ho
    cases h
    refine fin (pure (a.eval x)) o.op ⟨a.eval x, by simp, r.ev x⟩ ?_
    unfold execOp; rw [ho]; rfl
  · rename_i c x y' ho
    simp only [Option.map_eq_some_iff] at h
    obtain ⟨z, hz, rfl⟩ := h
    obtain ⟨u, hu, hr⟩ := rPick_ok (w := w) (P := P) hz (r.ev c) (r.ev x) (r.ev y')
    refine ⟨u, ?_, hr⟩
    unfold execOp; rw [ho]
    simp only [Sem.run_bind, Sem.run_pure] at hu ⊢
    cases hq : (asBool (a.eval c)).run P w with
    | ok b w2 => rw [hq] at hu; simp only [Result.andThen_ok] at hu ⊢; cases hu; rfl
    | _ => rw [hq] at hu; cases hu
  · rename_i t x ho
    refine fin _ o.op (rLoad_ok hT r h (r.ev x)) ?_
    unfold execOp; rw [ho]
  · rename_i op t x y' yt ho
    simp only [Option.map_eq_some_iff] at h
    obtain ⟨z, hz, rfl⟩ := h
    refine fin _ o.op (rBin_ok (xo := x) (yo := y') hT hz (r.ev x) (r.ev y')) ?_
    unfold execOp; rw [ho]
  · rename_i op t x ho
    simp only [Option.map_eq_some_iff] at h
    obtain ⟨z, hz, rfl⟩ := h
    refine fin _ o.op (rUn_ok hz (r.ev x)) ?_
    unfold execOp; rw [ho]
  · rename_i src dst x ho
    refine fin _ o.op (rConv_ok hT r h (r.ev x)) ?_
    unfold execOp; rw [ho]
  · rename_i t x lo hi ho
    unfold rSliceAll at h
    split at h
    · simp only [Option.map_eq_some_iff] at h
      obtain ⟨z, hz, rfl⟩ := h
      refine fin _ o.op (rCutS_ok hT hz (r.ev x) (optVal_ev r lo) (optVal_ev r hi)) ?_
      unfold execOp; rw [ho]; rfl
    · refine fin _ o.op (rSlice_ok hT r h (r.ev x) (optVal_ev r lo) (optVal_ev r hi)) ?_
      unfold execOp; rw [ho]; rfl
  · rename_i t x f ho
    simp only [Option.map_eq_some_iff] at h
    obtain ⟨z, hz, rfl⟩ := h
    refine fin _ o.op (rFieldAddr_ok hT hz (r.ev x)) ?_
    unfold execOp; rw [ho]
  · rename_i t x f ho
    simp only [Option.map_eq_some_iff] at h
    obtain ⟨z, hz, rfl⟩ := h
    refine fin _ o.op (rField_ok hT hz (r.ev x)) ?_
    unfold execOp; rw [ho]
  · rename_i t x i ho
    refine fin _ o.op (rIndexAddr_ok hT r h (AV.rd_ok (r.ev x)) (r.ev i)) ?_
    unfold execOp; rw [ho]
  · rename_i t x i ho
    simp only [Option.map_eq_some_iff] at h
    obtain ⟨z, hz, rfl⟩ := h
    refine fin _ o.op (rIndex_ok hT hz (r.ev x) (r.ev i)) ?_
    unfold execOp; rw [ho]
  · rename_i x i ho
    simp only [Option.map_eq_some_iff] at h
    obtain ⟨z, hz, rfl⟩ := h
    refine fin _ o.op (rExtract_ok hz (r.ev x)) ?_
    unfold execOp; rw [ho]
  · rename_i x ho
    have hx := r.ev x
    unfold rNil at h
    split at h
    · rename_i he
      cases h
      rw [he] at hx
      obtain ⟨pv, vs, b, _, _, hv⟩ := id hx
      refine ⟨a.eval x, ?_, hx⟩
      unfold execOp
      rw [ho]
      simp only [hv, Sem.run_pure]
    · rename_i he
      cases h
      rw [he] at hx
      obtain ⟨b, o', hv, _⟩ := id hx
      refine ⟨a.eval x, ?_, hx⟩
      unfold execOp
      rw [ho]
      simp only [hv, Sem.run_pure]
    · cases h
  · rename_i t ps ho
    simp only [Option.map_eq_some_iff] at h
    obtain ⟨z, hz, rfl⟩ := h
    refine fin _ o.op (rMk_ok hT hz (parts_ev r ps.toList)) ?_
    unfold execOp; rw [ho]
    have : (ps.map fun (i, x) => (i, a.eval x)) = (ps.toList.map fun p => (p.1, a.eval p.2)).toArray := by
      rw [← Array.toList_inj]; simp
    simp only [this]
  · rename_i fn first captured ho
    unfold rMakeFunc at h
    split at h
    · rename_i f hf hc
      cases h
      have e1 : first = #[] := by rw [← Array.toList_inj]; simpa using hf
      have e2 : captured = #[] := by rw [← Array.toList_inj]; simpa using hc
      subst e1; subst e2
      refine fin (Instr.makeFunc (.func f) #[] #[]) o.op ⟨_, rfl, rfl⟩ ?_
      unfold execOp; rw [ho]; simp
    · rename_i f id k hf hc
      split at h
      · rename_i e cs hob
        cases h
        have e1 : first = #[] := by rw [← Array.toList_inj]; simpa using hf
        obtain ⟨x, e2, hx⟩ : ∃ x, captured = #[x] ∧ s.ev x = .one (.ptr id k 0 0) := by
          generalize hcl : captured.toList = l at hc
          rcases l with _ | ⟨x, _ | ⟨_, _⟩⟩
          · simp at hc
          · exact ⟨x, by rw [← Array.toList_inj, hcl], by simpa using hc⟩
          · simp at hc
        subst e1; subst e2
        have hv := r.ev x
        rw [hx] at hv
        obtain ⟨pv, vs, b, hp, hpv, hval⟩ := hv
        obtain ⟨pv2, vs2, hp2, hat, _⟩ := r.obj id _ hob
        rw [hp] at hp2; cases hp2
        obtain ⟨b2, arr, h1, _⟩ := hat
        have hb : b2 = b := by
          rcases hpv with ⟨n, c, e⟩ | e
          · rw [h1] at e; cases e
          · rw [h1] at e; cases e; rfl
        subst hb
        refine fin (Instr.makeFunc (.func f) #[] #[a.eval x]) o.op ⟨_, rfl, pv, vs, b2, hp, h1, by rw [hval, Nat.zero_mul]⟩ ?_
        unfold execOp; rw [ho]; simp
      · cases h
    · cases h
  · rename_i args ts ho
    split at h
    · rename_i x t hx ht
      have ha : args = #[x] := by rw [← Array.toList_inj, hx]
      have hts : ts = #[t] := by rw [← Array.toList_inj, ht]
      subst ha; subst hts
      obtain ⟨u, hu, hr⟩ := rLen_ok (ty := o.type) hT r h (AV.rd_ok (r.ev x))
      refine ⟨u, ?_, hr⟩
      unfold execOp; rw [ho]
      simp only [resolve, Sem.run_bind, Sem.run_pure, Result.andThen_ok, invoke, builtin, List.map_toArray, List.map_cons, List.map_nil, hu]
    · cases h
  · rename_i args ts ho
    unfold rMinMax at h
    split at h
    · rename_i x y' hx
      have ha : args = #[x, y'] := by rw [← Array.toList_inj, hx]
      subst ha
      simp only [Option.map_eq_some_iff] at h
      obtain ⟨z, hz, rfl⟩ := h
      obtain ⟨u, hu, hr⟩ := rMin_ok (P := P) (w := w) (m := false) (ts := ts) (ty := o.type) hz (r.ev x) (r.ev y')
      refine ⟨u, ?_, hr⟩
      unfold execOp; rw [ho]
      simp only [if_true, if_false, Bool.false_eq_true] at hu
      simp only [resolve, Sem.run_bind, Sem.run_pure, Result.andThen_ok, invoke, builtin, List.map_toArray, List.map_cons, List.map_nil, hu]
    · cases h
  · rename_i args ts ho
    unfold rMinMax at h
    split at h
    · rename_i x y' hx
      have ha : args = #[x, y'] := by rw [← Array.toList_inj, hx]
      subst ha
      simp only [Option.map_eq_some_iff] at h
      obtain ⟨z, hz, rfl⟩ := h
      obtain ⟨u, hu, hr⟩ := rMin_ok (P := P) (w := w) (m := true) (ts := ts) (ty := o.type) hz (r.ev x) (r.ev y')
      refine ⟨u, ?_, hr⟩
      unfold execOp; rw [ho]
      simp only [if_true, if_false, Bool.false_eq_true] at hu
      simp only [resolve, Sem.run_bind, Sem.run_pure, Result.andThen_ok, invoke, builtin, List.map_toArray, List.map_cons, List.map_nil, hu]
    · cases h
  · cases h

theorem EffU_V (hT : TOk P T) {o : Oper} {y : AV × List Nat} (hd : Oper.dstOk o s.n = true) (h : reckV T s o.op = some y) : EffU P o s { val := y.1, log := y.2 } := by
  intro s2 h1 h2 h3 h4
  have hev : ∀ x ∈ o.op.operands, s2.ev x = s.ev x := fun x hx => slots_ev h2 hx
  have hc := reckV_congr h hev h3
  have := OpOK.val (P := P) (o := o) (s := s2) (av := y.1) (by rw [h1]; exact Oper.dstOk_spec hd) fun N0 W0 β a w r => reckV_ok hT r hc
  exact this

/-! ### What turns the world -/

/-- An operation that yields a value (or nothing) and turns the world. -/
theorem OpOK.turn {o : Oper} {e : Eff} (hd : ∀ d, o.dst = some d → d < s.n)
    (h : ∀ N0 W0 β a w, Rel N0 W0 s β a w → ∃ v w' β', ((execOp a.eval o).run P w = .ok (.value v) w' ∨ ((execOp a.eval o).run P w = .ok .skip w' ∧ v = undef)) ∧
      Rel N0 W0 { s with H := e.sets ++ s.H, used := e.fresh ++ s.used } β' a w' ∧ AR N0 β' (Free { s with H := e.sets ++ s.H, used := e.fresh ++ s.used } β' w') w' e.val v) :
    OpOK P o s (s.app o.dst e) := by
  intro N0 W0 β a w r K Q hK
  obtain ⟨v, w', β', hr, r', hv⟩ := h N0 W0 β a w r
  have fin : K (a.put o.dst v) w' := by
    refine hK β' _ w' ?_
    cases hdst : o.dst with
    | none => exact r'
    | some d => exact r'.put (hd d hdst) hv
  unfold Oper.wp
  rcases hr with hr | ⟨hr, rfl⟩
  · rw [hr, Oper.upon_value]; exact fin
  · rw [hr, Oper.upon_skip]; exact fin

theorem rStore_log {t : Nat} {p v : AV} {y : List (Nat × Option Obj) × List Nat} (h : rStore T s t p v = some y) : ∃ id k i j, p = .one (.ptr id k i j) ∧ id ∈ y.2 := by
  unfold rStore at h
  split at h
  · rename_i id k i j
    refine ⟨id, k, i, j, rfl, ?_⟩
    split at h
    · simp only [Option.bind_eq_some_iff] at h
      obtain ⟨ds, _, h⟩ := h
      split at h
      · cases h; simp
      · cases h
    · split at h
      · split at h
        · simp only [Option.bind_eq_some_iff] at h
          obtain ⟨ds, _, h⟩ := h
          split at h
          · cases h; simp
          · cases h
        · cases h
        · split at h
          · split at h
            · cases h; simp
            · cases h
          · cases h
      · cases h
    · cases h
  · cases h

theorem rStore_congr {t : Nat} {p v : AV} {y : List (Nat × Option Obj) × List Nat} (h : rStore T s t p v = some y) (ha : ∀ i ∈ y.2, s'.obj i = s.obj i) : rStore T s' t p v = some y := by
  obtain ⟨id, k, i, j, rfl, hm⟩ := rStore_log h
  unfold rStore at h ⊢
  simp only [ha _ hm]
  exact h

theorem rLoadOwn_congr {t : Nat} {x : AV} {y : Eff} (h : rLoadOwn T s t x = some y) (ha : ∀ i ∈ y.log, s'.obj i = s.obj i) : rLoadOwn T s' t x = some y := by
  unfold rLoadOwn at h
  split at h
  · rename_i id i
    have hm : y.log = [id] := by
      split at h
      · split at h
        · simp only [Option.map_eq_some_iff] at h; obtain ⟨_, _, rfl⟩ := h; rfl
        · cases h
      · cases h
    rw [hm] at ha
    unfold rLoadOwn
    simp only [ha _ List.mem_cons_self]
    exact h
  · cases h

theorem rDst_congr {e : Nat} {x : AV} {d : Option Nat × List El} (h : rDst T s e x = some d) (ha : ∀ i ∈ d.1.toList, s'.obj i = s.obj i) : rDst T s' e x = some d := by
  have key : ∀ id : Nat, d.1 = some id → s'.obj id = s.obj id := fun id hd => ha id (by rw [hd]; simp)
  unfold rDst at h ⊢
  split at h <;> try (exact h)
  · rename_i id
    have hd : d.1 = some id := by
      split at h
      · split at h <;> cases h; rfl
      · split at h <;> cases h; rfl
      · cases h
    simp only [key _ hd]
    exact h
  · rename_i id n
    have hd : d.1 = some id := by
      split at h
      · split at h <;> cases h; rfl
      · cases h
    simp only [key _ hd]
    exact h

theorem rSrc_congr {e : Nat} {x : AV} {q : List El × List Nat} (h : rSrc T s e x = some q) (ha : ∀ i ∈ q.2, s'.obj i = s.obj i) : rSrc T s' e x = some q := by
  unfold rSrc at h ⊢
  split at h <;> try (exact h)
  · rename_i id
    have hd : q.2 = [id] := by
      split at h
      · split at h <;> cases h; rfl
      · split at h <;> cases h; rfl
      · cases h
    rw [hd] at ha
    simp only [ha _ List.mem_cons_self]
    exact h
  · rename_i id n
    have hd : q.2 = [id] := by
      split at h
      · split at h <;> cases h; rfl
      · cases h
    rw [hd] at ha
    simp only [ha _ List.mem_cons_self]
    exact h
  · rename_i id k l n
    have hd : q.2 = [id] := by
      split at h
      · split at h <;> cases h; rfl
      · cases h
    rw [hd] at ha
    simp only [ha _ List.mem_cons_self]
    exact h

theorem rAppend_congr {t id' : Nat} {x y : AV} {f : Eff} (h : rAppend T s t id' x y = some f) (ha : ∀ i ∈ f.log, s'.obj i = s.obj i) : rAppend T s' t id' x y = some f := by
  unfold rAppend at h ⊢
  split at h
  · split at h
    · rename_i hok
      simp only [hok, if_true]
      simp only [Option.bind_eq_some_iff] at h ⊢
      obtain ⟨d, hd, q, hq, h⟩ := h
      split at h
      · rename_i hle
        cases h
        exact ⟨d, rDst_congr hd (fun i hi => ha i (by simp only [List.mem_append]; exact .inl hi)), q, rSrc_congr hq (fun i hi => ha i (by simp [hi])), by simp [hle]⟩
      · cases h
    · cases h
  · cases h

theorem rAppend_id {t id' : Nat} {x y : AV} {f : Eff} (h : rAppend T s t id' x y = some f) : f.fresh = [id'] := by
  unfold rAppend at h
  split at h
  · split at h
    · simp only [Option.bind_eq_some_iff] at h
      obtain ⟨d, hd, q, hq, h⟩ := h
      split at h
      · cases h; rfl
      · cases h
    · cases h
  · cases h

theorem rowIn_congr {m : Md} {e : Nat} {c : CV} {q : Option (List El) × Option Nat} (h : rowIn s m e c = some q) (ha : ∀ i ∈ q.2.toList, s'.obj i = s.obj i) : rowIn s' m e c = some q := by
  unfold rowIn at h ⊢
  split at h <;> try (exact h)
  rename_i id2
  have hd : q.2 = some id2 := by
    split at h
    · split at h <;> cases h; rfl
    · split at h <;> cases h; rfl
    · cases h
  rw [hd] at ha
  simp only [ha id2 (by simp)]
  exact h

/-- A store, into whatever object. -/
def rStoreA (T : Tys) (s : AS) (t : Nat) (p v : AV) : Option (List (Nat × Option Obj) × List Nat) :=
  match p with
  | .one (.ptr id _ _ _) => match s.obj id with
    | some (.rows _ _ _ _) => rStoreR T s t p v
    | _ => rStore T s t p v
  | _ => none

theorem rStoreR_congr {t : Nat} {p v : AV} {y : List (Nat × Option Obj) × List Nat} (h : rStoreR T s t p v = some y) (ha : ∀ i ∈ y.2, s'.obj i = s.obj i) : rStoreR T s' t p v = some y := by
  unfold rStoreR at h ⊢
  split at h
  · rename_i id k i j c
    split at h
    · rename_i e e' m xss ho
      split at h
      · rename_i hc
        simp only [Option.map_eq_some_iff] at h
        obtain ⟨q, hq, rfl⟩ := h
        have h1 := ha id (by simp)
        simp only [h1, ho, hc, and_self, if_true, rowIn_congr hq (fun i hi => ha i (by simp [hi])), Option.map_some]
      · cases h
    · cases h
  · cases h

theorem rStoreA_congr {t : Nat} {p v : AV} {y : List (Nat × Option Obj) × List Nat} (h : rStoreA T s t p v = some y) (ha : ∀ i ∈ y.2, s'.obj i = s.obj i) : rStoreA T s' t p v = some y := by
  unfold rStoreA at h ⊢
  split at h
  · rename_i id k i j
    have hid : id ∈ y.2 := by
      split at h
      · unfold rStoreR at h
        split at h
        · rename_i hp; cases hp
          split at h
          · split at h
            · simp only [Option.map_eq_some_iff] at h
              obtain ⟨q, _, rfl⟩ := h
              simp
            · cases h
          · cases h
        · cases h
      · obtain ⟨id', k', i', j', he, hm⟩ := rStore_log h
        cases he; exact hm
    rw [ha id hid]
    cases hob : s.obj id with
    | none => rw [hob] at h; exact rStore_congr h ha
    | some ob =>
      rw [hob] at h
      cases ob <;> first | exact rStoreR_congr h ha | exact rStore_congr h ha
  · cases h

theorem rStoreA_ok (hT : TOk P T) (r : Rel N0 W0 s β a w) {t : Nat} {p v : AV} {y : List (Nat × Option Obj) × List Nat} {pv vv : Value} (h : rStoreA T s t p v = some y) (hp : AR N0 β (Free s β w) w p pv) (hv : AR N0 β (Free s β w) w v vv) :
    ∃ w' β', (Instr.storeAt t pv vv).run P w = .ok () w' ∧ Rel N0 W0 { s with H := y.1 ++ s.H } β' a w' := by
  unfold rStoreA at h
  split at h
  · split at h
    · exact rStoreR_ok hT r h hp hv
    · exact rStore_ok hT r h hp hv
  · cases h

/-- append, at whatever elements. -/
def rAppendA (T : Tys) (s : AS) (t id' : Nat) (x y : AV) : Option Eff :=
  match T t with
  | .sl e => match T e with
    | .sl _ => rAppendR T s t id' x y
    | _ => rAppend T s t id' x y
  | _ => none

theorem rowIn_any {m : Md} {e' : Nat} {c : CV} {q : Option (List El) × Option Nat} (h : rowIn s .any e' c = some q) (ha : ∀ i ∈ q.2.toList, s'.obj i = s.obj i) : rowIn s' m e' c = rowIn s m e' c := by
  cases c <;> try rfl
  rename_i id2
  have hid : q.2 = some id2 := by
    unfold rowIn at h
    dsimp only at h
    split at h
    · split at h
      · cases h; rfl
      · cases h
    · split at h
      · cases h; rfl
      · cases h
    · cases h
  have := ha id2 (by simp [hid])
  unfold rowIn
  dsimp only
  rw [this]
theorem rSrcR_congr {m : Md} {e e' : Nat} {y : AV} {q : Md × List (Option (List El)) × Option Nat × List Nat} (h : rSrcR s m e e' y = some q) (ha : ∀ i ∈ q.2.2.2, s'.obj i = s.obj i) : rSrcR s' m e e' y = some q := by
  unfold rSrcR at h ⊢
  split at h
  · rename_i idc
    have hid : idc ∈ q.2.2.2 := by
      split at h
      · split at h
        · rcases Option.or_eq_some_iff.1 h with h | ⟨_, h⟩ <;> (simp only [Option.map_eq_some_iff] at h; obtain ⟨_, _, rfl⟩ := h; simp)
        · cases h
      · split at h
        · split at h
          · cases h; simp
          · cases h
        · cases h
      · cases h
    rw [ha idc hid]
    cases hob : s.obj idc with
    | none => rw [hob] at h; cases h
    | some ob =>
      rw [hob] at h
      cases ob with
      | cvs e1 cs =>
        match cs, h with
        | [c], h =>
          dsimp only at h ⊢
          split at h
          · rename_i he
            rcases Option.or_eq_some_iff.1 h with h | ⟨h0, h⟩
            · simp only [Option.map_eq_some_iff] at h
              obtain ⟨q', hq, rfl⟩ := h
              rw [if_pos he, rowIn_congr hq (fun i hi => ha i (by simp [hi]))]; rfl
            · simp only [Option.map_eq_some_iff] at h
              obtain ⟨q', hq, rfl⟩ := h
              have hag : ∀ i ∈ q'.2.toList, s'.obj i = s.obj i := fun i hi => ha i (by simp [hi])
              rw [if_pos he, rowIn_any hq hag, h0, rowIn_congr hq (fun i hi => hag i (by simp [hi]))]; rfl
          · cases h
      | rows e3 e4 m4 xss4 =>
        cases m4 with
        | own st4 => exact h
        | _ => cases h
      | _ => cases h
  · cases h

theorem rAppendR_congr {t id' : Nat} {x y : AV} {f : Eff} (h : rAppendR T s t id' x y = some f) (ha : ∀ i ∈ f.log, s'.obj i = s.obj i) : rAppendR T s' t id' x y = some f := by
  unfold rAppendR at h ⊢
  split at h
  · split at h
    · split at h
      · simp only [Option.bind_eq_some_iff] at h ⊢
        obtain ⟨q, hq, h⟩ := h
        split at h
        · rename_i hle
          cases h
          exact ⟨q, rSrcR_congr hq ha, by simp only [hle, if_true]⟩
        · cases h
      · rename_i id
        split at h
        · rename_i e1 e2 m xss ho
          split at h
          · rename_i hee
            simp only [Option.bind_eq_some_iff] at h
            obtain ⟨q, hq, h⟩ := h
            split at h
            · rename_i hle
              cases h
              have h1 := ha id (by simp)
              simp only [h1, ho, hee, and_self, if_true, Option.bind_eq_some_iff]
              obtain ⟨rfl, rfl⟩ := hee
              exact ⟨q, rSrcR_congr hq (fun i hi => ha i (by simp [hi])), by rw [if_pos hle]⟩
            · cases h
          · cases h
        · cases h
      · cases h
    · cases h
  · cases h

theorem rAppendR_id {t id' : Nat} {x y : AV} {f : Eff} (h : rAppendR T s t id' x y = some f) : f.fresh = [id'] := by
  unfold rAppendR at h
  split at h
  · split at h
    · split at h
      · simp only [Option.bind_eq_some_iff] at h
        obtain ⟨q, hq, h⟩ := h
        split at h
        · cases h; rfl
        · cases h
      · split at h
        · split at h
          · simp only [Option.bind_eq_some_iff] at h
            obtain ⟨q, hq, h⟩ := h
            split at h
            · cases h; rfl
            · cases h
          · cases h
        · cases h
      · cases h
    · cases h
  · cases h

theorem rAppendA_congr {t id' : Nat} {x y : AV} {f : Eff} (h : rAppendA T s t id' x y = some f) (ha : ∀ i ∈ f.log, s'.obj i = s.obj i) : rAppendA T s' t id' x y = some f := by
  unfold rAppendA at h ⊢
  split at h
  · split at h
    · exact rAppendR_congr h ha
    · exact rAppend_congr h ha
  · cases h

theorem rAppendA_id {t id' : Nat} {x y : AV} {f : Eff} (h : rAppendA T s t id' x y = some f) : f.fresh = [id'] := by
  unfold rAppendA at h
  split at h
  · split at h
    · exact rAppendR_id h
    · exact rAppend_id h
  · cases h

theorem rAppendA_ok (hT : TOk P T) (r : Rel N0 W0 s β a w) {t id' ty : Nat} {x y : AV} {f : Eff} {xv yv : Value} (h : rAppendA T s t id' x y = some f) (hid : id' ∉ s.used) (hx : AR N0 β (Free s β w) w x xv) (hy : AR N0 β (Free s β w) w y yv) :
    ∃ v' w' β', (Builtin.append_ #[t, t] ty #[xv, yv]).run P w = .ok v' w' ∧ Rel N0 W0 { s with H := f.sets ++ s.H, used := f.fresh ++ s.used } β' a w' ∧ AR N0 β' (Free { s with H := f.sets ++ s.H, used := f.fresh ++ s.used } β' w') w' f.val v' := by
  unfold rAppendA at h
  split at h
  · split at h
    · exact rAppendR_ok hT r h hid hx hy
    · exact rAppend_ok hT r h hid hx hy
  · cases h

def numbered : Nat → List (Nat × Operand) → Bool
  | _, [] => true
  | k, p :: r => p.1 == k && numbered (k + 1) r

theorem numbered_ok : ∀ {k : Nat} {ps : List (Nat × Operand)}, numbered k ps = true → ps = numberFrom k (ps.map (·.2))
  | _, [], _ => rfl
  | k, p :: r, h => by
    simp only [numbered, Bool.and_eq_true, beq_iff_eq] at h
    obtain ⟨h1, h2⟩ := h
    simp only [List.map_cons, numberFrom]
    rw [← numbered_ok h2, ← h1]

def newId (o : Oper) : Nat := 8 * o.dst.getD 0

/-- What an operation does that turns the world. -/
def reckW (T : Tys) (s : AS) (o : Oper) : Option Eff :=
  match o.op with
  | .load t x => rLoadOwn T s t (s.ev x)
  | .store t p x => (rStoreA T s t (s.ev p) (s.ev x)).map fun y => { val := .tup [], sets := y.1, log := y.2 }
  | .alloc t => (zeroA T t).bind fun z => (rBox T t z).map fun cs => newE (newId o) (.one (.ptr (newId o) 1 0 0)) (.box t cs)
  | .box t x => (rBox T t (s.ev x)).map fun cs => newE (newId o) (.one (.ptr (newId o) 1 0 0)) (.box t cs)
  | .buildSlice t len ps => if numbered 0 ps.toList = true then (rBuild T t len ((ps.toList.map (·.2)).map s.ev)).map fun ob => newE (newId o) (.one (.ref (newId o))) ob else none
  | .makeSlice t l c => (rMake T t (s.ev l) (s.ev c)).map fun ob => newE (newId o) (.one (.ref (newId o))) ob
  | .call ⟨.builtin .append, args, ts⟩ => match args.toList, ts.toList with
    | [x, y], [t, t'] => if t = t' then rAppendA T s t (newId o) (s.ev x) (s.ev y) else none
    | _, _ => none
  | _ => none

theorem EffU_W (hT : TOk P T) {o : Oper} {e : Eff} (hd : Oper.dstOk o s.n = true) (h : reckW T s o = some e) : EffU P o s e := by
  unfold reckW at h
  split at h
  · rename_i t x ho
    intro s2 h1 h2 h3 h4
    have hx : s2.ev x = s.ev x := slots_ev h2 (by rw [ho]; simp [Op.operands])
    have hc := rLoadOwn_congr h h3
    rw [← hx] at hc
    refine OpOK.turn (by rw [h1]; exact Oper.dstOk_spec hd) fun N0 W0 β a w r => ?_
    obtain ⟨hf, u, hu, r', hr⟩ := rLoadOwn_ok hT r hc (r.ev x)
    rw [hf]
    refine ⟨u, w, β, .inl ?_, r', hr⟩
    unfold execOp; rw [ho]
    simp only [Sem.run_bind, hu, Result.andThen_ok, Sem.run_pure]
  · rename_i t p x ho
    simp only [Option.map_eq_some_iff] at h
    obtain ⟨y, hy, rfl⟩ := h
    intro s2 h1 h2 h3 h4
    have hx : s2.ev x = s.ev x := slots_ev h2 (by rw [ho]; simp [Op.operands])
    have hp : s2.ev p = s.ev p := slots_ev h2 (by rw [ho]; simp [Op.operands])
    have hc := rStoreA_congr hy h3
    rw [← hx, ← hp] at hc
    refine OpOK.turn (by rw [h1]; exact Oper.dstOk_spec hd) fun N0 W0 β a w r => ?_
    obtain ⟨w', β', hu, r'⟩ := rStoreA_ok hT r hc (r.ev p) (r.ev x)
    refine ⟨undef, w', β', .inr ⟨?_, rfl⟩, r', ⟨[], rfl, trivial⟩⟩
    unfold execOp; rw [ho]
    simp only [Sem.run_bind, hu, Result.andThen_ok, Sem.run_pure]
  · rename_i t ho
    simp only [Option.bind_eq_some_iff, Option.map_eq_some_iff] at h
    obtain ⟨z, hz, cs, hcs, rfl⟩ := h
    exact EffU_alloc hT ho hd hz hcs
  · rename_i t x ho
    simp only [Option.map_eq_some_iff] at h
    obtain ⟨cs, hcs, rfl⟩ := h
    exact EffU_box ho hd hcs
  · rename_i t len ps ho
    split at h
    · rename_i hn
      simp only [Option.map_eq_some_iff] at h
      obtain ⟨ob, hob, rfl⟩ := h
      have hps : ps = (numberFrom 0 (ps.toList.map (·.2))).toArray := by rw [← Array.toList_inj]; exact numbered_ok hn
      exact EffU_build hT (by rw [ho]; congr 1) hd hob
    · cases h
  · rename_i t l c ho
    simp only [Option.map_eq_some_iff] at h
    obtain ⟨ob, hob, rfl⟩ := h
    exact EffU_make hT ho hd hob
  · rename_i args ts ho
    split at h
    · rename_i x y t t' hx ht
      have ha : args = #[x, y] := by rw [← Array.toList_inj, hx]
      have hts : ts = #[t, t'] := by rw [← Array.toList_inj, ht]
      subst ha; subst hts
      split at h
      · rename_i htt
        subst htt
        intro s2 h1 h2 h3 h4
        have hx : s2.ev x = s.ev x := slots_ev h2 (by rw [ho]; simp [Op.operands, Call.operands])
        have hy : s2.ev y = s.ev y := slots_ev h2 (by rw [ho]; simp [Op.operands, Call.operands])
        have hc := rAppendA_congr h h3
        rw [← hx, ← hy] at hc
        have hid : newId o ∉ s2.used := h4 _ (by rw [rAppendA_id h]; simp)
        refine OpOK.turn (by rw [h1]; exact Oper.dstOk_spec hd) fun N0 W0 β a w r => ?_
        obtain ⟨v, w', β', hu, r', hr⟩ := rAppendA_ok (ty := o.type) hT r hc hid (r.ev x) (r.ev y)
        refine ⟨v, w', β', .inl ?_, r', hr⟩
        unfold execOp; rw [ho]
        simp only [resolve, Sem.run_bind, Sem.run_pure, Result.andThen_ok, invoke, builtin, List.map_toArray, List.map_cons, List.map_nil, hu]
      · cases h
    · cases h
  · cases h

/-- All of it. -/
def reck (T : Tys) : Reck := fun o s =>
  if Oper.dstOk o s.n = true then
    match reckV T s o.op with
    | some y => some { val := y.1, log := y.2 }
    | none => reckW T s o
  else none

theorem reck_ok (hT : TOk P T) : Reck.Ok P (reck T) := by
  intro o s e h
  unfold reck at h
  split at h
  · rename_i hd
    split at h
    · rename_i y hy
      cases h
      exact EffU_V hT hd hy
    · exact EffU_W hT hd h
  · cases h

end
end Go.Eng
/- The engine, part 19: the types of a program, from its facts; the words by which a state is reckoned. -/
set_option linter.unusedVariables false
namespace Go.Eng
open Go Go.RowKit

section
variable {P : Program} {T : Tys}

theorem tinfo_of {t a b : Nat} {z : Value} (h : (P.info? t).map (fun i => (i.size, i.bytes, i.zero)) = some (a, b, some z)) : TInfo P t a b z := by
  simp only [Option.map_eq_some_iff, Prod.mk.injEq] at h
  obtain ⟨i, h1, h2, h3, h4⟩ := h
  exact ⟨i, h1, h2, h3, h4⟩

def TyFact (P : Program) (T : Tys) (t : Nat) : TI → Prop
  | .int => P.underlying t = some (.int .i64) ∧ TInfo P t 1 8 (.int .i64 0)
  | .u8 => P.underlying t = some (.int .u8) ∧ TInfo P t 1 1 (.int .u8 0)
  | .bool => P.underlying t = some .bool ∧ TInfo P t 1 1 (.bool false)
  | .str => P.underlying t = some .string ∧ TInfo P t 1 16 (.string ⟨#[]⟩)
  | .sl e => P.underlying t = some (.slice e) ∧ TInfo P t 1 24 (.slice none 0 0)
  | .st fs => 0 < fs.length ∧ (∃ arr, P.underlying t = some (.struct arr) ∧ arr.size = fs.length ∧ ∀ (j f : Nat), fs[j]? = some f → ∃ fd, arr[j]? = some fd ∧ fd.type = f ∧ fd.offset = j ∧ fd.name ≠ "_" ∧ (T f).one = true) ∧ P.stoodInHeld t = false ∧ P.eqGuardType P.depth t = false ∧
      ∃ bytes, bytes ≤ 64 ∧ TInfo P t fs.length bytes (.agg (fs.map (fun f => zeroV (zeroC T f))).toArray)
  | .oth => True

def lookT : List (Nat × TI) → Nat → TI
  | [], _ => .oth
  | (j, v) :: r, t => if j = t then v else lookT r t

/-- Facts of each entry are facts of the whole. -/
def Facts (P : Program) (T : Tys) : List (Nat × TI) → Prop
  | [] => True
  | p :: r => TyFact P T p.1 p.2 ∧ Facts P T r

theorem facts_look : ∀ {l : List (Nat × TI)}, Facts P T l → ∀ t, TyFact P T t (lookT l t)
  | [], _, t => trivial
  | (j, v) :: r, ⟨h1, h2⟩, t => by
    unfold lookT
    split
    · rename_i hj; subst hj; exact h1
    · exact facts_look h2 t

theorem tok_of {l : List (Nat × TI)} (hT : ∀ t, T t = lookT l t) (h : Facts P T l) : TOk P T := by
  intro t
  have := facts_look h t
  rw [← hT] at this
  cases ht : T t <;> rw [ht] at this <;> exact this

def fieldsB (T : Tys) : Nat → List Field → List Nat → Bool
  | _, [], [] => true
  | j, fd :: r, f :: fs => fd.type == f && fd.offset == j && fd.name != "_" && (T f).one && fieldsB T (j + 1) r fs
  | _, _, _ => false

theorem fieldsB_ok : ∀ {k : Nat} {l : List Field} {fs : List Nat}, fieldsB T k l fs = true → l.length = fs.length ∧ ∀ (j f : Nat), fs[j]? = some f → ∃ fd, l[j]? = some fd ∧ fd.type = f ∧ fd.offset = k + j ∧ fd.name ≠ "_" ∧ (T f).one = true
  | _, [], [], _ => ⟨rfl, fun j f h => by simp at h⟩
  | k, fd :: r, f :: fs, h => by
    simp only [fieldsB, Bool.and_eq_true, beq_iff_eq, bne_iff_ne, ne_eq] at h
    obtain ⟨⟨⟨⟨h1, h2⟩, h3⟩, h4⟩, h5⟩ := h
    obtain ⟨i1, i2⟩ := fieldsB_ok h5
    refine ⟨by simp [i1], fun j f' hj => ?_⟩
    cases j with
    | zero => simp at hj; subst hj; exact ⟨fd, by simp, h1, by simpa using h2, h3, h4⟩
    | succ j =>
      obtain ⟨fd', g1, g2, g3, g4⟩ := i2 j f' (by simpa using hj)
      exact ⟨fd', by simpa using g1, g2, by omega, g4⟩
  | _, [], _ :: _, h => by cases h
  | _, _ :: _, [], h => by cases h

theorem fact_int {t : Nat} (h : P.underlying t = some (.int .i64)) (hi : (P.info? t).map (fun i => (i.size, i.bytes, i.zero)) = some (1, 8, some (.int .i64 0))) : TyFact P T t .int := ⟨h, tinfo_of hi⟩
theorem fact_u8 {t : Nat} (h : P.underlying t = some (.int .u8)) (hi : (P.info? t).map (fun i => (i.size, i.bytes, i.zero)) = some (1, 1, some (.int .u8 0))) : TyFact P T t .u8 := ⟨h, tinfo_of hi⟩
theorem fact_bool {t : Nat} (h : P.underlying t = some .bool) (hi : (P.info? t).map (fun i => (i.size, i.bytes, i.zero)) = some (1, 1, some (.bool false))) : TyFact P T t .bool := ⟨h, tinfo_of hi⟩
theorem fact_str {t : Nat} (h : P.underlying t = some .string) (hi : (P.info? t).map (fun i => (i.size, i.bytes, i.zero)) = some (1, 16, some (.string ⟨#[]⟩))) : TyFact P T t .str := ⟨h, tinfo_of hi⟩
theorem fact_sl {t e : Nat} (h : P.underlying t = some (.slice e)) (hi : (P.info? t).map (fun i => (i.size, i.bytes, i.zero)) = some (1, 24, some (.slice none 0 0))) : TyFact P T t (.sl e) := ⟨h, tinfo_of hi⟩
theorem fact_st {t : Nat} {fs : List Nat} {arr : Array Field} (bytes : Nat) (h : P.underlying t = some (.struct arr)) (hp : 0 < fs.length) (hf : fieldsB T 0 arr.toList fs = true) (h1 : P.stoodInHeld t = false) (h2 : P.eqGuardType P.depth t = false) (hb : bytes ≤ 64)
    (hi : (P.info? t).map (fun i => (i.size, i.bytes, i.zero)) = some (fs.length, bytes, some (.agg (fs.map (fun f => zeroV (zeroC T f))).toArray))) : TyFact P T t (.st fs) := by
  obtain ⟨g1, g2⟩ := fieldsB_ok hf
  refine ⟨hp, ⟨arr, h, by simpa using g1, fun j f hj => ?_⟩, h1, h2, bytes, hb, tinfo_of hi⟩
  obtain ⟨fd, a1, a2, a3, a4⟩ := g2 j f hj
  exact ⟨fd, by simpa using a1, a2, by omega, a4⟩

end
end Go.Eng
/- The engine, part 20: the steps of a walk, one by one. -/
set_option linter.unusedVariables false
namespace Go.Eng
open Go Go.RowKit

section
variable {s s' t : AS} {P : Program} {T : Tys} {E : Reck} {K : Nat → List Nat} {Q : Exit → AS → Prop}

/-! ### What is to be shown behind a piece of code, under names -/

@[irreducible] def kSeq (P : Program) (E : Reck) (K : Nat → List Nat) (y : Code) (Q : Exit → AS → Prop) : Exit → AS → Prop := fun e t => match e with | .normal => awp P E K y Q t | e => Q e t
@[irreducible] def kBlk (id : Nat) (Q : Exit → AS → Prop) : Exit → AS → Prop := fun e t => match e with | .exit id' => if id' = id then Q .normal t else Q (.exit id') t | e => Q e t
@[irreducible] def kReg (l : List Nat) (Q : Exit → AS → Prop) : AS → Prop := fun t => Q .normal (t.keep l)
@[irreducible] def kDrw (l : List Nat) (ops : List Oper) (Q : Exit → AS → Prop) : List (Option Eff) → AS → Prop := fun tr t => traceOk ops.toArray (Region.before ops.toArray).toList (zipE ops tr) = true ∧ Q .normal (t.keep l)
@[irreducible] def kLop {ι : Type} (S : ι → AS) (I : ι → Prop) (μ : ι → Nat) (i : ι) (Q : Exit → AS → Prop) : Exit → AS → Prop := fun e t => match e with | .normal => ∃ j, I j ∧ μ j < μ i ∧ Weak t (S j) | e => Q e t

theorem a_seq {x y : Code} (h : awp P E K x (kSeq P E K y Q) s) : awp P E K (.seq x y) Q s := by rw [awp_seq]; unfold kSeq at h; exact h
theorem a_skip (h : Q .normal s) : awp P E K .skip Q s := by rw [awp_skip]; exact h
theorem a_ret (h : Q .ret s) : awp P E K .ret Q s := by rw [awp_ret]; exact h
theorem a_exit {id : Nat} (h : Q (.exit id) s) : awp P E K (.exit id) Q s := by rw [awp_exit]; exact h
theorem a_block {id : Nat} {c : Code} (h : awp P E K c (kBlk id Q) s) : awp P E K (.block id c) Q s := by rw [awp_block]; unfold kBlk at h; exact h
theorem a_reg {id : Nat} {l : List Oper} (h : walkN P E l.toArray l s (kReg (K id) Q)) : awp P E K (.region id l.toArray false) Q s := by rw [awp_region]; unfold kReg at h; exact h
theorem a_draw {id : Nat} {l : List Oper} (h : walkL P E l.toArray l s [] (kDrw (K id) l Q)) : awp P E K (.region id l.toArray true) Q s := by rw [awp_draw]; unfold kDrw at h; exact h
theorem a_cond {c : Operand} {x y : Code} {b : Bool} (hb : s.ev c = .one (.sc (.bool b))) (h1 : b = true → awp P E K x Q s) (h2 : b = false → awp P E K y Q s) : awp P E K (.cond c x y) Q s := by
  rw [awp_cond, hb]
  exact ⟨h1, h2⟩
theorem a_loop {ι : Type} (S : ι → AS) (I : ι → Prop) (μ : ι → Nat) {c : Code} (i0 : ι) (h0 : I i0) (hw : Weak s (S i0)) (h : ∀ i, I i → awp P E K c (kLop S I μ i Q) (S i)) : awp P E K (.loop c) Q s :=
  by rw [awp_loop]; unfold kLop at h; exact ⟨ι, S, I, μ, fun N0 W0 β a w r => let ⟨β', r'⟩ := hw N0 W0 β a w r; ⟨i0, β', h0, r'⟩, fun i hi => h i hi⟩

theorem k_seq {y : Code} (h : awp P E K y Q s) : kSeq P E K y Q .normal s := by unfold kSeq; exact h
theorem k_seq_exit {y : Code} {id : Nat} (h : Q (.exit id) s) : kSeq P E K y Q (.exit id) s := by unfold kSeq; exact h
theorem k_seq_ret {y : Code} (h : Q .ret s) : kSeq P E K y Q .ret s := by unfold kSeq; exact h
theorem k_blk {id : Nat} (h : Q .normal s) : kBlk id Q .normal s := by unfold kBlk; exact h
theorem k_blk_exit {id : Nat} (h : Q .normal s) : kBlk id Q (.exit id) s := by unfold kBlk; show (if id = id then _ else _); rw [if_pos rfl]; exact h
theorem k_blk_other {id id' : Nat} (hne : (id' == id) = false) (h : Q (.exit id') s) : kBlk id Q (.exit id') s := by unfold kBlk; show (if id' = id then _ else _); rw [if_neg (by simpa using hne)]; exact h
theorem k_blk_ret {id : Nat} (h : Q .ret s) : kBlk id Q .ret s := by unfold kBlk; exact h
theorem k_lop {ι : Type} {S : ι → AS} {I : ι → Prop} {μ : ι → Nat} {i : ι} (j : ι) (hj : I j) (hm : μ j < μ i) (hw : Weak s (S j)) : kLop S I μ i Q .normal s := by unfold kLop; exact ⟨j, hj, hm, hw⟩
theorem k_lop_exit {ι : Type} {S : ι → AS} {I : ι → Prop} {μ : ι → Nat} {i : ι} {id : Nat} (h : Q (.exit id) s) : kLop S I μ i Q (.exit id) s := by unfold kLop; exact h
theorem k_lop_ret {ι : Type} {S : ι → AS} {I : ι → Prop} {μ : ι → Nat} {i : ι} (h : Q .ret s) : kLop S I μ i Q .ret s := by unfold kLop; exact h
theorem k_ret {rs : List ResultVar} {av av' : AV} {objs : List Obj} {acc : Acc} (h : retA T s rs = some (av', acc)) (hv : av' = av) (ho : acc.map (·.1) = objs) : retOK T rs av objs .ret s := by
  subst hv
  exact ⟨acc, s, .inl rfl, h, ho⟩
theorem k_retT (id : Nat) {rs : List ResultVar} {av av' : AV} {objs : List Obj} {acc : Acc} (h : retA T (s.thaw id) rs = some (av', acc)) (hv : av' = av) (ho : acc.map (·.1) = objs) : retOK T rs av objs .ret s := by
  subst hv
  exact ⟨acc, _, .inr ⟨id, rfl⟩, h, ho⟩

/-! ### Operations -/

/-- One operation's new state. -/
def stp (T : Tys) (o : Oper) (s : AS) : Option AS :=
  (reck T o s).bind fun e => if freshB s e = true then some (s.app o.dst e) else none

theorem stp_spec {o : Oper} (h : stp T o s = some s') : ∃ e, reck T o s = some e ∧ freshB s e = true ∧ s' = s.app o.dst e := by
  unfold stp at h
  simp only [Option.bind_eq_some_iff] at h
  obtain ⟨e, he, h⟩ := h
  split at h
  · cases h; exact ⟨e, he, by assumption, rfl⟩
  · cases h

variable {ops : Array Oper} {o : Oper} {r : List Oper} {k : AS → Prop} {j : Nat} {want b : Bool} {e : Eff}

theorem w_end {l : List Nat} (hk : s.keep l = s') (h : Q .normal s') : walkN P E ops [] s (kReg l Q) := by subst hk; rw [walkN_nil]; unfold kReg; exact h

theorem w_op (hg : o.guard = none) (h : stp T o s = some s') (hk : walkN P (reck T) ops r s' k) : walkN P (reck T) ops (o :: r) s k := by
  obtain ⟨e, he, hf, rfl⟩ := stp_spec h
  rw [walkN_cons]
  unfold gwhen
  rw [hg]
  simp only
  unfold stepE
  rw [he]
  exact ⟨hf, hk⟩

/-- A guarded operation: which way the guard goes is known. -/
def gsay (ops : Array Oper) (s : AS) (o : Oper) : Option Bool :=
  match o.guard with
  | none => some true
  | some (j, want) =>
    match guardAV ops s j with
    | .one (.sc (.bool b)) => some (b == want)
    | .tup [] => some false
    | _ => none

theorem gsay_yes {A B : Prop} (h : gsay ops s o = some true) (hA : A) : gwhen ops s o A B := by
  unfold gwhen
  cases hg : o.guard with
  | none => exact hA
  | some p =>
    obtain ⟨j, want⟩ := p
    simp only [gsay, hg] at h ⊢
    split at h
    · rename_i b hb
      simp only [Option.some.injEq, beq_iff_eq] at h
      subst h
      simp only [hb]
      exact ⟨fun _ => hA, fun h => (h rfl).elim⟩
    · cases h
    · cases h

theorem gsay_no {A B : Prop} (h : gsay ops s o = some false) (hB : B) : gwhen ops s o A B := by
  unfold gwhen
  cases hg : o.guard with
  | none => simp only [gsay, hg] at h; cases h
  | some p =>
    obtain ⟨j, want⟩ := p
    simp only [gsay, hg] at h ⊢
    split at h
    · rename_i b hb
      simp only [Option.some.injEq, beq_eq_false_iff_ne, ne_eq] at h
      simp only [hb]
      exact ⟨fun h' => (h h').elim, fun _ => hB⟩
    · rename_i hb
      simp only [hb]
      exact hB
    · cases h

theorem w_yes (hg : gsay ops s o = some true) (h : stp T o s = some s') (hk : walkN P (reck T) ops r s' k) : walkN P (reck T) ops (o :: r) s k := by
  obtain ⟨e, he, hf, rfl⟩ := stp_spec h
  rw [walkN_cons]
  refine gsay_yes hg ?_
  unfold stepE
  rw [he]
  exact ⟨hf, hk⟩

theorem w_no (hg : gsay ops s o = some false) (hd : Oper.dstOk o s.n = true) (hs : s.app o.dst skipE = s') (hk : walkN P E ops r s' k) : walkN P E ops (o :: r) s k := by
  subst hs
  rw [walkN_cons]
  exact gsay_no hg ⟨hd, hk⟩

/-- A guard that is not known yet: either way. -/
theorem w_split {c : Bool} (h : gsay ops s o = some c) (h1 : c = true → walkN P E ops (o :: r) s k) (h2 : c = false → walkN P E ops (o :: r) s k) : walkN P E ops (o :: r) s k := by
  cases c with
  | true => exact h1 rfl
  | false => exact h2 rfl

/-- A call. -/
theorem w_call (hg : gsay ops s o = some true) (hn : reck T o s = none) (he : EffU P o s e) (hf : freshB s e = true) (hs : s.app o.dst e = s') (hk : walkN P (reck T) ops r s' k) : walkN P (reck T) ops (o :: r) s k := by
  subst hs
  rw [walkN_cons]
  refine gsay_yes hg ?_
  unfold stepE
  rw [hn]
  exact ⟨e, he, hf, hk⟩

variable {tr : List (Option Eff)} {kl : List (Option Eff) → AS → Prop}

theorem l_end {l : List Nat} {os : List Oper} (ht : traceOk os.toArray (Region.before os.toArray).toList (zipE os tr) = true) (hk : s.keep l = s') (h : Q .normal s') : walkL P E ops [] s tr (kDrw l os Q) := by subst hk; rw [walkL_nil]; unfold kDrw; exact ⟨ht, h⟩

theorem l_yes (hg : gsay ops s o = some true) (h : reck T o s = some e) (hf : freshB s e = true) (hs : s.app o.dst e = s') (hk : walkL P (reck T) ops r s' (tr ++ [some e]) kl) : walkL P (reck T) ops (o :: r) s tr kl := by
  subst hs
  rw [walkL_cons]
  refine gsay_yes hg ?_
  unfold stepE
  rw [h]
  exact ⟨hf, hk⟩

theorem l_no (hg : gsay ops s o = some false) (hd : Oper.dstOk o s.n = true) (hs : s.app o.dst skipE = s') (hk : walkL P E ops r s' (tr ++ [none]) kl) : walkL P E ops (o :: r) s tr kl := by
  subst hs
  rw [walkL_cons]
  exact gsay_no hg ⟨hd, hk⟩

theorem l_split {c : Bool} (h : gsay ops s o = some c) (h1 : c = true → walkL P E ops (o :: r) s tr kl) (h2 : c = false → walkL P E ops (o :: r) s tr kl) : walkL P E ops (o :: r) s tr kl := by
  cases c with
  | true => exact h1 rfl
  | false => exact h2 rfl

theorem l_call (hg : gsay ops s o = some true) (hn : reck T o s = none) (he : EffU P o s e) (hf : freshB s e = true) (hs : s.app o.dst e = s') (hk : walkL P (reck T) ops r s' (tr ++ [some e]) kl) : walkL P (reck T) ops (o :: r) s tr kl := by
  subst hs
  rw [walkL_cons]
  refine gsay_yes hg ?_
  unfold stepE
  rw [hn]
  exact ⟨e, he, hf, hk⟩

end

/-! ### Lists of integers, and what is known of them -/

def ints (l : List Int) : List El := l.map fun n => [.int n]
def ix (l : List Int) (i : Nat) : Int := l.getD i 0

theorem intsLen (l : List Int) : (ints l).length = l.length := by simp [ints]
theorem intsAt {l : List Int} {i : Nat} (h : i < l.length) : (ints l)[i]? = some [.int (ix l i)] := by
  simp [ints, ix, h]
theorem w64Id {x : Int} (h : -9223372036854775808 ≤ x ∧ x < 9223372036854775808) : w64 x = x := by
  rw [show w64 x = IntKind.i64.wrap x from rfl, IntKind.wrap_i64]
  omega

end Go.Eng
/- The engine, part 21: each operation's step as an equation, for the reckoning of states. -/
set_option linter.unusedVariables false
namespace Go.Eng
open Go Go.RowKit

section
variable {T : Tys} {n : Nat} {env : List (Nat × AV)} {H : List (Nat × Option Obj)} {used : List Nat} {d : Nat} {ty : Nat} {pos : String} {aft : Array Edge} {g : Option (Nat × Bool)}

/-- The values of a literal's parts. -/
def evP (s : AS) : List (Nat × Operand) → List (Nat × AV)
  | [] => []
  | p :: r => (p.1, s.ev p.2) :: evP s r
def evQ (s : AS) : List (Nat × Operand) → List AV
  | [] => []
  | p :: r => s.ev p.2 :: evQ s r
theorem evP_eq {s : AS} {ps : List (Nat × Operand)} : evP s ps = ps.map fun p => (p.1, s.ev p.2) := by
  induction ps with
  | nil => rfl
  | cons p r ih => simp [evP, ih]
theorem evQ_eq {s : AS} {ps : List (Nat × Operand)} : evQ s ps = ps.map fun p => s.ev p.2 := by
  induction ps with
  | nil => rfl
  | cons p r ih => simp [evQ, ih]

/-- A value goes to its slot. -/
def toD (d : Nat) (s : AS) (y : Option AV) : Option AS :=
  if d < s.n then y.map fun v => ⟨s.n, (d, v) :: s.env, s.H, s.used⟩ else none

/-- An effect upon a state. -/
def toE (d : Option Nat) (s : AS) (y : Option Eff) : Option AS :=
  if (match d with | some d => decide (d < s.n) | none => true) = true then y.bind fun e => if freshB s e = true then some ⟨s.n, putD d e.val s.env, e.sets ++ s.H, e.fresh ++ s.used⟩ else none else none

theorem stp_V {o : Oper} {s : AS} {y : Option (AV × List Nat)} (hd : o.dst = some d) (h : reckV T s o.op = y) (hn : y = none → reckW T s o = none) : stp T o s = toD d s (y.map (·.1)) := by
  unfold stp reck Oper.dstOk toD
  rw [hd, h]
  by_cases hlt : d < s.n
  · simp only [hlt, decide_true, if_true]
    cases y with
    | none => rw [hn rfl]; rfl
    | some y => simp [freshB, AS.app, hd, putD]
  · simp [hlt]

theorem stp_W {o : Oper} {s : AS} (h : reckV T s o.op = none) : stp T o s = toE o.dst s (reckW T s o) := by
  unfold stp reck Oper.dstOk toE
  rw [h]
  cases hd : o.dst with
  | none => simp [AS.app, hd]
  | some d =>
    by_cases hlt : d < s.n
    · simp [hlt, AS.app, hd]
    · simp [hlt]

theorem map_fst {y : Option AV} : (y.map fun v => (v, ([] : List Nat))).map (·.1) = y := by cases y <;> rfl

theorem stp_move {x : Operand} {s : AS} : stp T ⟨some d, .move x, ty, pos, aft, g⟩ s = toD d s (some (s.ev x)) := by
  rw [stp_V (d := d) rfl rfl (fun _ => rfl)]
  simp only [reckV]
  try (first | rfl | rw [map_fst])

theorem stp_assign {x : Operand} {s : AS} : stp T ⟨some d, .assign x, ty, pos, aft, g⟩ s = toD d s (some (s.ev x)) := by
  rw [stp_V (d := d) rfl rfl (fun _ => rfl)]
  simp only [reckV]
  try (first | rfl | rw [map_fst])

theorem stp_pick {c x y : Operand} {s : AS} : stp T ⟨some d, .pick c x y, ty, pos, aft, g⟩ s = toD d s (rPick (s.ev c) (s.ev x) (s.ev y)) := by
  rw [stp_V (d := d) rfl rfl (fun _ => rfl)]
  simp only [reckV]
  try (first | rfl | rw [map_fst])

theorem stp_binOp {op : BinOp} {t yt : Nat} {x y : Operand} {s : AS} : stp T ⟨some d, .binOp op t x y yt, ty, pos, aft, g⟩ s = toD d s (rBin T op t (s.ev x) (s.ev y)) := by
  rw [stp_V (d := d) rfl rfl (fun _ => rfl)]
  simp only [reckV]
  try (first | rfl | rw [map_fst])

theorem stp_unOp {op : UnOp} {t : Nat} {x : Operand} {s : AS} : stp T ⟨some d, .unOp op t x, ty, pos, aft, g⟩ s = toD d s (rUn op (s.ev x)) := by
  rw [stp_V (d := d) rfl rfl (fun _ => rfl)]
  simp only [reckV]
  try (first | rfl | rw [map_fst])

theorem stp_convert {t t2 : Nat} {x : Operand} {s : AS} : stp T ⟨some d, .convert t t2 x, ty, pos, aft, g⟩ s = toD d s ((rConv T s t t2 (s.ev x)).map (·.1)) := by
  rw [stp_V (d := d) rfl rfl (fun _ => rfl)]
  simp only [reckV]
  try (first | rfl | rw [map_fst])

theorem stp_slice {t : Nat} {x : Operand} {lo hi : Option Operand} {s : AS} : stp T ⟨some d, .slice t x lo hi none, ty, pos, aft, g⟩ s = toD d s ((rSliceAll T s t x lo hi).map (·.1)) := by
  rw [stp_V (d := d) rfl rfl (fun _ => rfl)]
  simp only [reckV]
  try (first | rfl | rw [map_fst])

theorem stp_fieldAddr {t f : Nat} {x : Operand} {s : AS} : stp T ⟨some d, .fieldAddr t x f, ty, pos, aft, g⟩ s = toD d s (rFieldAddr T t (s.ev x) f) := by
  rw [stp_V (d := d) rfl rfl (fun _ => rfl)]
  simp only [reckV]
  try (first | rfl | rw [map_fst])

theorem stp_field {t f : Nat} {x : Operand} {s : AS} : stp T ⟨some d, .field t x f, ty, pos, aft, g⟩ s = toD d s (rField T t (s.ev x) f) := by
  rw [stp_V (d := d) rfl rfl (fun _ => rfl)]
  simp only [reckV]
  try (first | rfl | rw [map_fst])

theorem stp_indexAddr {t : Nat} {x i : Operand} {s : AS} : stp T ⟨some d, .indexAddr t x i, ty, pos, aft, g⟩ s = toD d s ((rIndexAddr T s t (s.ev x).rd (s.ev i)).map (·.1)) := by
  rw [stp_V (d := d) rfl rfl (fun _ => rfl)]
  simp only [reckV]
  try (first | rfl | rw [map_fst])

theorem stp_index {t : Nat} {x i : Operand} {s : AS} : stp T ⟨some d, .index t x i, ty, pos, aft, g⟩ s = toD d s (rIndex T t (s.ev x) (s.ev i)) := by
  rw [stp_V (d := d) rfl rfl (fun _ => rfl)]
  simp only [reckV]
  try (first | rfl | rw [map_fst])

theorem stp_extract {i : Nat} {x : Operand} {s : AS} : stp T ⟨some d, .extract x i, ty, pos, aft, g⟩ s = toD d s (rExtract (s.ev x) i) := by
  rw [stp_V (d := d) rfl rfl (fun _ => rfl)]
  simp only [reckV]
  try (first | rfl | rw [map_fst])

theorem stp_nilCheck {x : Operand} {s : AS} : stp T ⟨some d, .nilCheck x, ty, pos, aft, g⟩ s = toD d s ((rNil (s.ev x)).map (·.1)) := by
  rw [stp_V (d := d) rfl rfl (fun _ => rfl)]
  simp only [reckV]
  try (first | rfl | rw [map_fst])

theorem stp_build {t : Nat} {ps : List (Nat × Operand)} {s : AS} : stp T ⟨some d, .build t ps.toArray, ty, pos, aft, g⟩ s = toD d s (rMk T t (evP s ps)) := by
  rw [evP_eq]
  rw [stp_V (d := d) rfl rfl (fun _ => rfl)]
  simp only [reckV]
  try (first | rfl | rw [map_fst])

theorem stp_makeFunc {fn : Fn} {x y : List Operand} {s : AS} : stp T ⟨some d, .makeFunc fn x.toArray y.toArray, ty, pos, aft, g⟩ s = toD d s ((rMakeFunc s fn (x.map s.ev) (y.map s.ev)).map (·.1)) := by
  rw [stp_V (d := d) rfl rfl (fun _ => rfl)]
  simp only [reckV]

theorem stp_len {x : Operand} {t : Nat} {s : AS} : stp T ⟨some d, .call ⟨.builtin .len, #[x], #[t]⟩, ty, pos, aft, g⟩ s = toD d s ((rLen T s t (s.ev x).rd).map (·.1)) := by
  rw [stp_V (d := d) rfl rfl (fun _ => rfl)]
  simp only [reckV]
  try (first | rfl | rw [map_fst])

theorem stp_min {x y : Operand} {ts : Array Nat} {s : AS} : stp T ⟨some d, .call ⟨.builtin .min, #[x, y], ts⟩, ty, pos, aft, g⟩ s = toD d s (rMin false (s.ev x) (s.ev y)) := by
  rw [stp_V (d := d) rfl rfl (fun _ => rfl)]
  simp only [reckV, rMinMax]
  try (first | rfl | rw [map_fst])

theorem stp_max {x y : Operand} {ts : Array Nat} {s : AS} : stp T ⟨some d, .call ⟨.builtin .max, #[x, y], ts⟩, ty, pos, aft, g⟩ s = toD d s (rMin true (s.ev x) (s.ev y)) := by
  rw [stp_V (d := d) rfl rfl (fun _ => rfl)]
  simp only [reckV, rMinMax]
  try (first | rfl | rw [map_fst])

theorem stp_load {t : Nat} {x : Operand} {s : AS} : stp T ⟨some d, .load t x, ty, pos, aft, g⟩ s = (match rLoad T s t (s.ev x) with | some y => toD d s (some y.1) | none => toE (some d) s (rLoadOwn T s t (s.ev x))) := by
  cases h : rLoad T s t (s.ev x) with
  | some y => rw [stp_V (o := ⟨some d, .load t x, ty, pos, aft, g⟩) (d := d) rfl (y := some y) h (fun h => by cases h)]; rfl
  | none => rw [stp_W (by exact h)]; rfl

theorem stp_store {t : Nat} {p x : Operand} {s : AS} {d : Option Nat} : stp T ⟨d, .store t p x, ty, pos, aft, g⟩ s = toE d s ((rStoreA T s t (s.ev p) (s.ev x)).map fun y => { val := .tup [], sets := y.1, log := y.2 }) := by
  rw [stp_W rfl]; rfl
theorem stp_alloc {t : Nat} {s : AS} : stp T ⟨some d, .alloc t, ty, pos, aft, g⟩ s = toE (some d) s ((zeroA T t).bind fun z => (rBox T t z).map fun cs => newE (8 * d) (.one (.ptr (8 * d) 1 0 0)) (.box t cs)) := by
  rw [stp_W rfl]; rfl
theorem stp_box {t : Nat} {x : Operand} {s : AS} : stp T ⟨some d, .box t x, ty, pos, aft, g⟩ s = toE (some d) s ((rBox T t (s.ev x)).map fun cs => newE (8 * d) (.one (.ptr (8 * d) 1 0 0)) (.box t cs)) := by
  rw [stp_W rfl]; rfl
theorem stp_buildSlice {t len : Nat} {ps : List (Nat × Operand)} {s : AS} : stp T ⟨some d, .buildSlice t len ps.toArray, ty, pos, aft, g⟩ s = toE (some d) s (if numbered 0 ps = true then (rBuild T t len (evQ s ps)).map fun ob => newE (8 * d) (.one (.ref (8 * d))) ob else none) := by
  rw [evQ_eq]
  rw [stp_W rfl]
  simp only [reckW, newId, Option.getD_some, List.map_map]
  rfl
theorem stp_makeSlice {t : Nat} {l c : Operand} {s : AS} : stp T ⟨some d, .makeSlice t l c, ty, pos, aft, g⟩ s = toE (some d) s ((rMake T t (s.ev l) (s.ev c)).map fun ob => newE (8 * d) (.one (.ref (8 * d))) ob) := by
  rw [stp_W rfl]; rfl
theorem stp_append {t : Nat} {x y : Operand} {s : AS} : stp T ⟨some d, .call ⟨.builtin .append, #[x, y], #[t, t]⟩, ty, pos, aft, g⟩ s = toE (some d) s (rAppendA T s t (8 * d) (s.ev x) (s.ev y)) := by
  rw [stp_W rfl]
  simp only [reckW, newId, Option.getD_some, if_true]

end

attribute [go_sem] stp_move stp_assign stp_pick stp_binOp stp_unOp stp_convert stp_slice stp_fieldAddr stp_field stp_indexAddr stp_index stp_extract stp_nilCheck stp_build stp_makeFunc stp_len stp_min stp_max stp_load stp_store stp_alloc stp_box stp_buildSlice stp_makeSlice stp_append
attribute [go_sem] intsLen intsAt w64Id if_pos List.getElem?_cons_zero List.getElem?_cons_succ
attribute [go_sem] evP evQ toD toE AS.ev AS.get look putD constAV rPick rBin abin rUn aun rExtract CV.rd AV.rd rLen rIndexAddr rFieldAddr rField rLoad rMin AS.obj lookO TI.ok kOf freshB newE AS.keep gsay guardAV entryS numb

end Go.Eng
/- The engine, part 22: the same for regions that draw their order: the effect beside the state. -/
set_option linter.unusedVariables false
namespace Go.Eng
open Go Go.RowKit

section
variable {T : Tys} {d : Nat} {ty : Nat} {pos : String} {aft : Array Edge} {g : Option (Nat × Bool)} {P : Program}

def stl (T : Tys) (o : Oper) (s : AS) : Option (Eff × AS) :=
  (reck T o s).bind fun e => if freshB s e = true then some (e, s.app o.dst e) else none

theorem l_op {ops : Array Oper} {o : Oper} {r : List Oper} {s s' : AS} {tr : List (Option Eff)} {kl : List (Option Eff) → AS → Prop} {e : Eff} (hg : gsay ops s o = some true) (h : stl T o s = some (e, s')) (hk : walkL P (reck T) ops r s' (tr ++ [some e]) kl) : walkL P (reck T) ops (o :: r) s tr kl := by
  unfold stl at h
  simp only [Option.bind_eq_some_iff] at h
  obtain ⟨e', he, h⟩ := h
  split at h
  · rename_i hf; cases h; exact l_yes hg he hf rfl hk
  · cases h

/-- A value goes to its slot. -/
def toDL (d : Nat) (s : AS) (y : Option (AV × List Nat)) : Option (Eff × AS) :=
  if d < s.n then y.map fun v => ({ val := v.1, log := v.2 }, ⟨s.n, (d, v.1) :: s.env, s.H, s.used⟩) else none

def toEL (d : Option Nat) (s : AS) (y : Option Eff) : Option (Eff × AS) :=
  if (match d with | some d => decide (d < s.n) | none => true) = true then y.bind fun e => if freshB s e = true then some (e, ⟨s.n, putD d e.val s.env, e.sets ++ s.H, e.fresh ++ s.used⟩) else none else none

theorem stl_V {o : Oper} {s : AS} {y : Option (AV × List Nat)} (hd : o.dst = some d) (h : reckV T s o.op = y) (hn : y = none → reckW T s o = none) : stl T o s = toDL d s y := by
  unfold stl reck Oper.dstOk toDL
  rw [hd, h]
  by_cases hlt : d < s.n
  · simp only [hlt, decide_true, if_true]
    cases y with
    | none => rw [hn rfl]; rfl
    | some y => simp [freshB, AS.app, putD]
  · simp [hlt]

theorem stl_W {o : Oper} {s : AS} (h : reckV T s o.op = none) : stl T o s = toEL o.dst s (reckW T s o) := by
  unfold stl reck Oper.dstOk toEL
  rw [h]
  cases hd : o.dst with
  | none => simp [AS.app]
  | some d =>
    by_cases hlt : d < s.n
    · simp [hlt, AS.app]
    · simp [hlt]

def noLog (y : Option AV) : Option (AV × List Nat) := y.map fun v => (v, [])

theorem stl_move {x : Operand} {s : AS} : stl T ⟨some d, .move x, ty, pos, aft, g⟩ s = toDL d s (some (s.ev x, [])) := by
  rw [stl_V (d := d) rfl rfl (fun _ => rfl)]
  simp only [reckV]
  try rfl

theorem stl_assign {x : Operand} {s : AS} : stl T ⟨some d, .assign x, ty, pos, aft, g⟩ s = toDL d s (some (s.ev x, [])) := by
  rw [stl_V (d := d) rfl rfl (fun _ => rfl)]
  simp only [reckV]
  try rfl

theorem stl_pick {c x y : Operand} {s : AS} : stl T ⟨some d, .pick c x y, ty, pos, aft, g⟩ s = toDL d s (noLog (rPick (s.ev c) (s.ev x) (s.ev y))) := by
  rw [stl_V (d := d) rfl rfl (fun _ => rfl)]
  simp only [reckV]
  try rfl

theorem stl_binOp {op : BinOp} {t yt : Nat} {x y : Operand} {s : AS} : stl T ⟨some d, .binOp op t x y yt, ty, pos, aft, g⟩ s = toDL d s (noLog (rBin T op t (s.ev x) (s.ev y))) := by
  rw [stl_V (d := d) rfl rfl (fun _ => rfl)]
  simp only [reckV]
  try rfl

theorem stl_unOp {op : UnOp} {t : Nat} {x : Operand} {s : AS} : stl T ⟨some d, .unOp op t x, ty, pos, aft, g⟩ s = toDL d s (noLog (rUn op (s.ev x))) := by
  rw [stl_V (d := d) rfl rfl (fun _ => rfl)]
  simp only [reckV]
  try rfl

theorem stl_convert {t t2 : Nat} {x : Operand} {s : AS} : stl T ⟨some d, .convert t t2 x, ty, pos, aft, g⟩ s = toDL d s ((rConv T s t t2 (s.ev x))) := by
  rw [stl_V (d := d) rfl rfl (fun _ => rfl)]
  simp only [reckV]
  try rfl

theorem stl_slice {t : Nat} {x : Operand} {lo hi : Option Operand} {s : AS} : stl T ⟨some d, .slice t x lo hi none, ty, pos, aft, g⟩ s = toDL d s ((rSliceAll T s t x lo hi)) := by
  rw [stl_V (d := d) rfl rfl (fun _ => rfl)]
  simp only [reckV]
  try rfl

theorem stl_fieldAddr {t f : Nat} {x : Operand} {s : AS} : stl T ⟨some d, .fieldAddr t x f, ty, pos, aft, g⟩ s = toDL d s (noLog (rFieldAddr T t (s.ev x) f)) := by
  rw [stl_V (d := d) rfl rfl (fun _ => rfl)]
  simp only [reckV]
  try rfl

theorem stl_field {t f : Nat} {x : Operand} {s : AS} : stl T ⟨some d, .field t x f, ty, pos, aft, g⟩ s = toDL d s (noLog (rField T t (s.ev x) f)) := by
  rw [stl_V (d := d) rfl rfl (fun _ => rfl)]
  simp only [reckV]
  try rfl

theorem stl_indexAddr {t : Nat} {x i : Operand} {s : AS} : stl T ⟨some d, .indexAddr t x i, ty, pos, aft, g⟩ s = toDL d s ((rIndexAddr T s t (s.ev x).rd (s.ev i))) := by
  rw [stl_V (d := d) rfl rfl (fun _ => rfl)]
  simp only [reckV]
  try rfl

theorem stl_index {t : Nat} {x i : Operand} {s : AS} : stl T ⟨some d, .index t x i, ty, pos, aft, g⟩ s = toDL d s (noLog (rIndex T t (s.ev x) (s.ev i))) := by
  rw [stl_V (d := d) rfl rfl (fun _ => rfl)]
  simp only [reckV]
  try rfl

theorem stl_extract {i : Nat} {x : Operand} {s : AS} : stl T ⟨some d, .extract x i, ty, pos, aft, g⟩ s = toDL d s (noLog (rExtract (s.ev x) i)) := by
  rw [stl_V (d := d) rfl rfl (fun _ => rfl)]
  simp only [reckV]
  try rfl

theorem stl_nilCheck {x : Operand} {s : AS} : stl T ⟨some d, .nilCheck x, ty, pos, aft, g⟩ s = toDL d s ((rNil (s.ev x))) := by
  rw [stl_V (d := d) rfl rfl (fun _ => rfl)]
  simp only [reckV]
  try rfl

theorem stl_build {t : Nat} {ps : List (Nat × Operand)} {s : AS} : stl T ⟨some d, .build t ps.toArray, ty, pos, aft, g⟩ s = toDL d s (noLog (rMk T t (evP s ps))) := by
  rw [evP_eq]
  rw [stl_V (d := d) rfl rfl (fun _ => rfl)]
  simp only [reckV]
  try rfl

theorem stl_makeFunc {fn : Fn} {x y : List Operand} {s : AS} : stl T ⟨some d, .makeFunc fn x.toArray y.toArray, ty, pos, aft, g⟩ s = toDL d s (rMakeFunc s fn (x.map s.ev) (y.map s.ev)) := by
  rw [stl_V (d := d) rfl rfl (fun _ => rfl)]
  simp only [reckV]

theorem stl_len {x : Operand} {t : Nat} {s : AS} : stl T ⟨some d, .call ⟨.builtin .len, #[x], #[t]⟩, ty, pos, aft, g⟩ s = toDL d s ((rLen T s t (s.ev x).rd)) := by
  rw [stl_V (d := d) rfl rfl (fun _ => rfl)]
  simp only [reckV]
  try rfl

theorem stl_min {x y : Operand} {ts : Array Nat} {s : AS} : stl T ⟨some d, .call ⟨.builtin .min, #[x, y], ts⟩, ty, pos, aft, g⟩ s = toDL d s (noLog (rMin false (s.ev x) (s.ev y))) := by
  rw [stl_V (d := d) rfl rfl (fun _ => rfl)]
  simp only [reckV, rMinMax]
  try rfl

theorem stl_max {x y : Operand} {ts : Array Nat} {s : AS} : stl T ⟨some d, .call ⟨.builtin .max, #[x, y], ts⟩, ty, pos, aft, g⟩ s = toDL d s (noLog (rMin true (s.ev x) (s.ev y))) := by
  rw [stl_V (d := d) rfl rfl (fun _ => rfl)]
  simp only [reckV, rMinMax]
  try rfl

theorem stl_load {t : Nat} {x : Operand} {s : AS} : stl T ⟨some d, .load t x, ty, pos, aft, g⟩ s = (match rLoad T s t (s.ev x) with | some y => toDL d s (some y) | none => toEL (some d) s (rLoadOwn T s t (s.ev x))) := by
  cases h : rLoad T s t (s.ev x) with
  | some y => rw [stl_V (o := ⟨some d, .load t x, ty, pos, aft, g⟩) (d := d) rfl (y := some y) h (fun h => by cases h)]
  | none => rw [stl_W (by exact h)]; rfl

theorem stl_store {t : Nat} {p x : Operand} {s : AS} {d : Option Nat} : stl T ⟨d, .store t p x, ty, pos, aft, g⟩ s = toEL d s ((rStoreA T s t (s.ev p) (s.ev x)).map fun y => { val := .tup [], sets := y.1, log := y.2 }) := by
  rw [stl_W rfl]; rfl
theorem stl_alloc {t : Nat} {s : AS} : stl T ⟨some d, .alloc t, ty, pos, aft, g⟩ s = toEL (some d) s ((zeroA T t).bind fun z => (rBox T t z).map fun cs => newE (8 * d) (.one (.ptr (8 * d) 1 0 0)) (.box t cs)) := by
  rw [stl_W rfl]; rfl
theorem stl_box {t : Nat} {x : Operand} {s : AS} : stl T ⟨some d, .box t x, ty, pos, aft, g⟩ s = toEL (some d) s ((rBox T t (s.ev x)).map fun cs => newE (8 * d) (.one (.ptr (8 * d) 1 0 0)) (.box t cs)) := by
  rw [stl_W rfl]; rfl
theorem stl_buildSlice {t len : Nat} {ps : List (Nat × Operand)} {s : AS} : stl T ⟨some d, .buildSlice t len ps.toArray, ty, pos, aft, g⟩ s = toEL (some d) s (if numbered 0 ps = true then (rBuild T t len (evQ s ps)).map fun ob => newE (8 * d) (.one (.ref (8 * d))) ob else none) := by
  rw [evQ_eq]
  rw [stl_W rfl]
  simp only [reckW, newId, Option.getD_some, List.map_map]
  rfl
theorem stl_makeSlice {t : Nat} {l c : Operand} {s : AS} : stl T ⟨some d, .makeSlice t l c, ty, pos, aft, g⟩ s = toEL (some d) s ((rMake T t (s.ev l) (s.ev c)).map fun ob => newE (8 * d) (.one (.ref (8 * d))) ob) := by
  rw [stl_W rfl]; rfl
theorem stl_append {t : Nat} {x y : Operand} {s : AS} : stl T ⟨some d, .call ⟨.builtin .append, #[x, y], #[t, t]⟩, ty, pos, aft, g⟩ s = toEL (some d) s (rAppendA T s t (8 * d) (s.ev x) (s.ev y)) := by
  rw [stl_W rfl]
  simp only [reckW, newId, Option.getD_some, if_true]

end

attribute [go_sem] stl_move stl_assign stl_pick stl_binOp stl_unOp stl_convert stl_slice stl_fieldAddr stl_field stl_indexAddr stl_index stl_extract stl_nilCheck stl_build stl_makeFunc stl_len stl_min stl_max stl_load stl_store stl_alloc stl_box stl_buildSlice stl_makeSlice stl_append
attribute [go_sem] toDL toEL noLog

end Go.Eng
/- The engine, part 23: functions that write into one object that they are handed. -/
set_option linter.unusedVariables false
namespace Go.Eng
open Go Go.RowKit

section
variable {N0 : Nat} {W0 : World} {s s' : AS} {β β' : Plc} {a : Act} {w w' : World} {P : Program} {T : Tys}

/-- The arguments (the object under the number 0), the object, what comes back, the object behind the call. -/
abbrev SpecM := List AV → Obj → Sc → Obj → Prop

def at0 (pv : Value) (vs : List Value) : Plc := fun i => if i = 0 then some (pv, vs) else none
def apart (w : World) (o : Obj) (pv : Value) (vs : List Value) : Nat → Prop := fun b => b < w.heap.size ∧ ¬ blks o.own pv vs b

/-- Behind a call that has written into one object: the rest is as it was. -/
structure Wrote (N0 : Nat) (w w' : World) (o o' : Obj) (pv : Value) (vs vs' : List Value) : Prop where
  os : w'.os = w.os
  tape : w'.tape = w.tape
  output : w'.output = w.output
  size : w.heap.size ≤ w'.heap.size
  rest : ∀ b, apart w o pv vs b → w'.heap[b]? = w.heap[b]?
  obj : ObjAt N0 (fun _ => none) (fun _ => False) w' pv vs' o'
  blk : ∀ b, blks o'.own pv vs' b → b < w'.heap.size ∧ (w.heap.size ≤ b ∨ blks o.own pv vs b)

def SatM (P : Program) (f : FuncId) (S : SpecM) : Prop :=
  ∀ args o x o', S args o x o' → ∀ N0 w vals pv vs, N0 ≤ w.heap.size → ObjAt N0 (at0 pv vs) (apart w o pv vs) w pv vs o → (∀ b, blks o.own pv vs b → N0 ≤ b ∧ b < w.heap.size) →
    All2 (AR N0 (at0 pv vs) (apart w o pv vs) w) args vals → Calls P f vals.toArray w fun e w' => e = .returned x.val ∧ ∃ vs', Wrote N0 w w' o o' pv vs vs'

/-! ### The proof of such a function -/

def entryM (n : Nat) (args : List AV) (o : Obj) (S : Nat → Prop) (W : World) (pv : Value) : AS :=
  { n := n, env := numb args 0, H := [(0, some o), (1, some (.pin S W)), (3, some (.stay 0 pv))], used := [0, 1, 3] }

def entryP (pv : Value) (vs : List Value) : Plc := fun i => if i = 0 then some (pv, vs) else if i = 1 ∨ i = 3 then some (.slice none 0 0, []) else none

def retOKM (T : Tys) (r : ResultVar) (x : Sc) (o' : Obj) (S : Nat → Prop) (W : World) (pv : Value) (e : Exit) (t : AS) : Prop :=
  match e with
  | .ret => resC T t r = .one (.sc x) ∧ t.obj 0 = some o' ∧ t.obj 1 = some (.pin S W) ∧ t.obj 3 = some (.stay 0 pv)
  | _ => False

theorem entryM_obj {n : Nat} {args : List AV} {o : Obj} {S : Nat → Prop} {W : World} {pv : Value} (i : Nat) : (entryM n args o S W pv).obj i = if 0 = i then some o else if 1 = i then some (.pin S W) else if 3 = i then some (.stay 0 pv) else none := by
  unfold AS.obj entryM
  simp only [lookO]

theorem rel_entryM {n : Nat} {args : List AV} {vals : List Value} {o : Obj} {pv : Value} {vs : List Value} (hN : N0 ≤ w.heap.size) (ho : ObjAt N0 (at0 pv vs) (apart w o pv vs) w pv vs o) (hb : ∀ b, blks o.own pv vs b → N0 ≤ b ∧ b < w.heap.size)
    (h : All2 (AR N0 (at0 pv vs) (apart w o pv vs) w) args vals) (hn : args.length ≤ n) :
    Rel N0 w (entryM n args o (apart w o pv vs) w pv) (entryP pv vs) { tmps := vals.toArray ++ Array.replicate (n - vals.toArray.size) undef, defers := [] } w := by
  have hno : ∀ (S : Nat → Prop) (b : Nat), ¬ blks (Obj.pin S w).own (.slice none 0 0) [] b := by
    rintro S b (h | ⟨h, _⟩) <;> cases h
  have hno2 : ∀ (b : Nat), ¬ blks (Obj.stay 0 pv).own (.slice none 0 0) [] b := by
    rintro b (h | ⟨h, _⟩) <;> cases h
  have held : ∀ b, Held (entryM n args o (apart w o pv vs) w pv) (entryP pv vs) b → blks o.own pv vs b := by
    rintro b ⟨i, o', pv', vs', hi, hp, hbl⟩
    rw [entryM_obj] at hi
    unfold entryP at hp
    split at hi
    · rename_i h0; subst h0; cases hi; simp at hp; obtain ⟨rfl, rfl⟩ := hp; exact hbl
    · rename_i h0
      split at hi
      · rename_i h1; subst h1; cases hi; simp at hp; obtain ⟨rfl, rfl⟩ := hp; exact (hno _ _ hbl).elim
      · split at hi
        · rename_i h3; subst h3; cases hi; simp at hp; obtain ⟨rfl, rfl⟩ := hp; exact (hno2 _ hbl).elim
        · cases hi
  have hF : ∀ b, apart w o pv vs b → Free (entryM n args o (apart w o pv vs) w pv) (entryP pv vs) w b := fun b h => ⟨h.1, fun hh => h.2 (held b hh)⟩
  have hk : Keep (apart w o pv vs) (Free (entryM n args o (apart w o pv vs) w pv) (entryP pv vs) w) w w := fun b h => ⟨hF b h, rfl⟩
  have hβ : ∀ id pv' vs', at0 pv vs id = some (pv', vs') → ∃ vs'', entryP pv vs id = some (pv', vs'') := by
    intro id pv' vs' h
    unfold at0 at h
    split at h
    · rename_i h0; cases h; exact ⟨vs, by simp [entryP, h0]⟩
    · cases h
  exact {
    below := Below.refl _ _
    size0 := hN
    size := by
      have := h.length
      simp [entryM]
      omega
    defers := rfl
    env := fun k => by
      show AR _ _ _ w (look (numb args 0) k) _
      rw [look_numb, if_pos (Nat.zero_le _), Nat.sub_zero]
      cases hk' : args[k]? with
      | none => trivial
      | some v =>
        obtain ⟨u, hu, hr⟩ := All2.get k h hk'
        have hu' : (vals.toArray ++ Array.replicate (n - vals.toArray.size) undef).getD k undef = u := by
          have hlt := (List.getElem?_eq_some_iff.1 hu).1
          simp only [Array.getD_eq_getD_getElem?]
          rw [Array.getElem?_append_left (by simpa using hlt)]
          simp [hu]
        rw [hu']
        simp only [Option.getD_some]
        exact AR.keep hβ hk hr
    dom := fun id hid => by
      unfold entryM at hid
      simp at hid
      unfold entryP
      rw [if_neg hid.1, if_neg (by rintro (h | h); exact hid.2.1 h; exact hid.2.2 h)]
    hdom := fun id hid => by
      unfold entryM at hid
      simp at hid
      rw [entryM_obj, if_neg (fun h => hid.1 h.symm), if_neg (fun h => hid.2.1 h.symm), if_neg (fun h => hid.2.2 h.symm)]
    obj := fun id o' hi => by
      rw [entryM_obj] at hi
      split at hi
      · rename_i h0; subst h0; cases hi
        exact ⟨pv, vs, rfl, ho.keep hβ hk (fun _ _ => rfl), hb⟩
      · split at hi
        · rename_i h0 h1; subst h1; cases hi
          exact ⟨_, [], rfl, ⟨rfl, fun b hs => ⟨hF b hs, rfl⟩⟩, fun b hbl => (hno _ _ hbl).elim⟩
        · split at hi
          · rename_i h0 h1 h3; subst h3; cases hi
            exact ⟨_, [], rfl, ⟨rfl, vs, rfl⟩, fun b hbl => (hno2 _ hbl).elim⟩
          · cases hi
    disj := fun i i' o1 o2 pv1 vs1 pv2 vs2 b h1 h2 p1 p2 b1 b2 => by
      have key : ∀ i o1 pv1 vs1, (entryM n args o (apart w o pv vs) w pv).obj i = some o1 → entryP pv vs i = some (pv1, vs1) → blks o1.own pv1 vs1 b → i = 0 := by
        intro i o1 pv1 vs1 h1 p1 b1
        rw [entryM_obj] at h1
        unfold entryP at p1
        split at h1
        · rename_i h0; exact h0.symm
        · split at h1
          · rename_i h0; subst h0; cases h1; simp at p1; obtain ⟨rfl, rfl⟩ := p1; exact (hno _ _ b1).elim
          · split at h1
            · rename_i h0; subst h0; cases h1; simp at p1; obtain ⟨rfl, rfl⟩ := p1; exact (hno2 _ b1).elim
            · cases h1
      rw [key i _ _ _ h1 p1 b1, key i' _ _ _ h2 p2 b2] }

theorem satM_of {E : Reck} (hT : TOk P T) (hE : E.Ok P) (hm : P.follows .mixedOrders = true) {f : FuncId} {fn : Func} {c : Code} {r : ResultVar} {n : Nat} {S : SpecM} (K : Nat → List Nat)
    (hf : P.funcs[f]? = some fn) (hb : fn.body = some c) (hrs : fn.results = #[r]) (hn : fn.ntmps = n)
    (h : ∀ args o x o', S args o x o' → args.length ≤ n ∧ plainO o' = true ∧ ∀ S W pv, awp P E K c (retOKM T r x o' S W pv) (entryM n args o S W pv)) : SatM P f S := by
  intro args o x o' hS N0 w vals pv vs hN ho hbl hargs
  obtain ⟨hlen, hpl, hw⟩ := h args o x o' hS
  refine calls_of_wp hf hb ?_
  rw [hn]
  have r0 := rel_entryM (n := n) hN ho hbl hargs hlen
  refine wp_mono (awp_sound hE hm c (hw _ _ _) r0) ?_
  rintro e a' w' ⟨t, β', r', hq⟩
  cases e with
  | ret =>
    obtain ⟨h1, h2, h3, h4⟩ := hq
    obtain ⟨v, h5, h6⟩ := resC_ok hT r' r (by rw [h1]; intro h; cases h)
    rw [h1] at h6
    have hv : v = x.val := h6
    subst hv
    have hres := results_ok (P := P) (w := w') (fn := fn) (rs := [r]) (tmps := a'.tmps) (vs := [x.val]) hrs ⟨h5, trivial⟩
    obtain ⟨pv1, vs1, p1, at1, b1⟩ := r'.obj 0 _ h2
    obtain ⟨pv3, vs3, p3, at3, _⟩ := r'.obj 3 _ h4
    obtain ⟨_, us, p4⟩ := at3
    rw [p1] at p4
    cases p4
    obtain ⟨pv2, vs2, p2, at2, _⟩ := r'.obj 1 _ h3
    refine ⟨r'.defers, x.val, hres, rfl, vs1, r'.below.os, r'.below.tape, r'.below.output, r'.below.size, fun b hb => (at2.2 b hb).2, objAt_base (Nat.le_refl _) hpl at1, fun b hb => ⟨(b1 b hb).2, ?_⟩⟩
    by_cases hlt : w.heap.size ≤ b
    · exact .inl hlt
    · right
      by_cases hbb : blks o.own pv vs b
      · exact hbb
      · exfalso
        exact (at2.2 b ⟨by omega, hbb⟩).1.2 ⟨0, o', pv, vs1, h2, p1, hb⟩
  | normal => exact hq.elim
  | exit id => exact hq.elim
  | goto l => exact hq.elim
  | panic ch => exact hq.elim
  | outgrown => exact hq.elim

/-! ### A call of such a function -/

theorem Rel.turn (r : Rel N0 W0 s β a w) {id : Nat} {o o' : Obj} {pv : Value} {vs vs' : List Value} (ho : s.obj id = some o) (hp : β id = some (pv, vs)) (hw : Wrote N0 w w' o o' pv vs vs') (hpl : plainO o' = true) :
    Rel N0 W0 (s.setO id o') (β.set id (pv, vs')) a w' := by
  obtain ⟨pv0, vs0, hp0, _, hr0⟩ := r.obj id o ho
  rw [hp] at hp0; cases hp0
  have hused : id ∈ s.used := by
    by_cases h : id ∈ s.used
    · exact h
    · rw [r.dom id h] at hp; cases hp
  have hset : ∀ i, i ≠ id → β.set id (pv, vs') i = β i := fun i hi => by simp [Plc.set, hi]
  have hsame : β.set id (pv, vs') id = some (pv, vs') := by simp [Plc.set]
  have hobj : ∀ i, (s.setO id o').obj i = if id = i then some o' else s.obj i := fun _ => rfl
  have hbelow : Below N0 W0 w' := ⟨hw.os.trans r.below.os, hw.tape.trans r.below.tape, hw.output.trans r.below.output, Nat.le_trans r.below.size hw.size, fun b hb => by
    rw [hw.rest b ⟨Nat.lt_of_lt_of_le hb r.size0, fun hh => by have := (hr0 b hh).1; omega⟩]
    exact r.below.block b hb⟩
  refine r.master (s' := s.setO id o') (β' := β.set id (pv, vs')) rfl rfl hbelow hw.size ?_ ?_ ?_ ?_ ?_
  · intro i pv1 vs1 h1
    by_cases hi : i = id
    · subst hi; rw [hp] at h1; cases h1; exact ⟨vs', hsame⟩
    · exact ⟨vs1, by rw [hset i hi]; exact h1⟩
  · intro i hi
    have hne : i ≠ id := fun e => hi (e ▸ hused)
    exact ⟨by rw [hset i hne]; exact r.dom i hi, by rw [hobj, if_neg (fun e => hne e.symm)]; exact r.hdom i hi⟩
  · intro b hlt hn
    refine ⟨hw.rest b ⟨hlt, fun hh => hn ⟨id, o, pv, vs, ho, hp, hh⟩⟩, ?_⟩
    rintro ⟨i, o1, pv1, vs1, h1, p1, b1⟩
    rw [hobj] at h1
    split at h1
    · rename_i hi; subst hi; cases h1
      rw [hsame] at p1; cases p1
      rcases (hw.blk b b1).2 with h | h
      · omega
      · exact hn ⟨id, o, pv, vs, ho, hp, h⟩
    · rename_i hi
      rw [hset i (fun e => hi e.symm)] at p1
      exact hn ⟨i, o1, pv1, vs1, h1, p1, b1⟩
  · intro i o1 h1
    rw [hobj] at h1
    split at h1
    · rename_i hi; subst hi; cases h1
      refine .inr ⟨pv, vs', hsame, objAt_base (Nat.le_refl _) hpl hw.obj, fun b hb => ⟨?_, (hw.blk b hb).1⟩⟩
      rcases (hw.blk b hb).2 with h | h
      · exact Nat.le_trans r.size0 h
      · exact (hr0 b h).1
    · rename_i hi
      refine .inl ⟨h1, hset i (fun e => hi e.symm), fun pv1 vs1 b p1 b1 => ?_⟩
      obtain ⟨pv2, vs2, p2, _, hr2⟩ := r.obj i o1 h1
      rw [p1] at p2; cases p2
      exact hw.rest b ⟨(hr2 b b1).2, fun hh => hi (r.disj id i o o1 pv vs pv1 vs1 b ho h1 hp p1 hh b1)⟩
  · intro i1 i2 o1 o2 pv1 vs1 pv2 vs2 b g1 g2 p1 p2 b1 b2
    have key : ∀ i o1 pv1 vs1, (s.setO id o').obj i = some o1 → β.set id (pv, vs') i = some (pv1, vs1) → blks o1.own pv1 vs1 b → (i = id ∧ w.heap.size ≤ b) ∨ ∃ o2 vs2, s.obj i = some o2 ∧ β i = some (pv1, vs2) ∧ blks o2.own pv1 vs2 b := by
      intro i o1 pv1 vs1 g1 p1 b1
      rw [hobj] at g1
      split at g1
      · rename_i hi; subst hi; cases g1
        rw [hsame] at p1; cases p1
        rcases (hw.blk b b1).2 with h | h
        · exact .inl ⟨rfl, h⟩
        · exact .inr ⟨o, vs, ho, hp, h⟩
      · rename_i hi
        rw [hset i (fun e => hi e.symm)] at p1
        exact .inr ⟨o1, vs1, g1, p1, b1⟩
    have hlt : ∀ i o1 pv1 vs1, s.obj i = some o1 → β i = some (pv1, vs1) → blks o1.own pv1 vs1 b → b < w.heap.size := by
      intro i o1 pv1 vs1 g1 p1 b1
      obtain ⟨pv2, vs2, p2, _, hr2⟩ := r.obj i o1 g1
      rw [p1] at p2; cases p2
      exact (hr2 b b1).2
    rcases key i1 o1 pv1 vs1 g1 p1 b1 with ⟨rfl, h⟩ | ⟨o3, vs3, c1, c2, c3⟩ <;> rcases key i2 o2 pv2 vs2 g2 p2 b2 with ⟨rfl, h'⟩ | ⟨o4, vs4, d1, d2, d3⟩
    · rfl
    · have := hlt _ _ _ _ d1 d2 d3; omega
    · have := hlt _ _ _ _ c1 c2 c3; omega
    · exact r.disj i1 i2 o3 o4 pv1 vs3 pv2 vs4 b c1 d1 c2 d2 c3 d3

/-- The arguments as the function sees them. -/
def mC (id : Nat) : CV → Option CV
  | .sc x => some (.sc x)
  | .nil => some .nil
  | .imm k xs => some (.imm k xs)
  | .ref i => if i = id then some (.ref 0) else none
  | .fn f => some (.fn f)
  | _ => none

def mL (id : Nat) : List CV → Option (List CV)
  | [] => some []
  | c :: r => (mC id c).bind fun d => (mL id r).map (d :: ·)

def mA (id : Nat) : AV → Option AV
  | .one c => (mC id c).map .one
  | .agg cs => (mL id cs).map .agg
  | _ => none

def mAs (id : Nat) : List AV → Option (List AV)
  | [] => some []
  | c :: r => (mA id c).bind fun d => (mAs id r).map (d :: ·)

theorem mC_ok {F F' : Nat → Prop} {pv : Value} {vs : List Value} {id : Nat} (hF : ∀ b, F b → F' b) (hp : β id = some (pv, vs)) {c d : CV} {v : Value} (h : mC id c = some d) (hc : CR N0 β F w c v) : CR N0 (at0 pv vs) F' w d v := by
  cases c with
  | sc x => cases h; exact hc
  | nil => cases h; exact hc
  | imm k xs => cases h; exact Imm.keep (fun b hb => ⟨hF b hb, rfl⟩) hc
  | fn f => cases h; exact hc
  | ref i =>
    simp only [mC] at h
    split at h
    · rename_i hi; subst hi; cases h
      obtain ⟨us, hu, h1⟩ := hc
      rw [hp] at hu; cases hu
      exact ⟨vs, rfl, h1⟩
    · cases h
  | _ => simp [mC] at h

theorem mL_ok {F F' : Nat → Prop} {pv : Value} {vs : List Value} {id : Nat} (hF : ∀ b, F b → F' b) (hp : β id = some (pv, vs)) : ∀ {cs ds : List CV} {us : List Value}, mL id cs = some ds → All2 (CR N0 β F w) cs us → All2 (CR N0 (at0 pv vs) F' w) ds us
  | [], ds, [], h, _ => by cases h; trivial
  | c :: cs, ds, u :: us, h, ⟨h1, h2⟩ => by
    simp only [mL, Option.bind_eq_some_iff, Option.map_eq_some_iff] at h
    obtain ⟨d, hd, ds', hds, rfl⟩ := h
    exact ⟨mC_ok hF hp hd h1, mL_ok hF hp hds h2⟩
  | [], _, _ :: _, _, h => h.elim
  | _ :: _, _, [], _, h => h.elim

theorem mA_ok {F F' : Nat → Prop} {pv : Value} {vs : List Value} {id : Nat} (hF : ∀ b, F b → F' b) (hp : β id = some (pv, vs)) {c d : AV} {v : Value} (h : mA id c = some d) (hc : AR N0 β F w c v) : AR N0 (at0 pv vs) F' w d v := by
  cases c with
  | one c =>
    simp only [mA, Option.map_eq_some_iff] at h
    obtain ⟨d', hd, rfl⟩ := h
    exact mC_ok hF hp hd hc
  | agg cs =>
    simp only [mA, Option.map_eq_some_iff] at h
    obtain ⟨d', hd, rfl⟩ := h
    obtain ⟨us, h1, h2⟩ := hc
    exact ⟨us, h1, mL_ok hF hp hd h2⟩
  | _ => cases h

theorem mAs_ok {F F' : Nat → Prop} {pv : Value} {vs : List Value} {id : Nat} (hF : ∀ b, F b → F' b) (hp : β id = some (pv, vs)) : ∀ {cs ds : List AV} {us : List Value}, mAs id cs = some ds → All2 (AR N0 β F w) cs us → All2 (AR N0 (at0 pv vs) F' w) ds us
  | [], ds, [], h, _ => by cases h; trivial
  | c :: cs, ds, u :: us, h, ⟨h1, h2⟩ => by
    simp only [mAs, Option.bind_eq_some_iff, Option.map_eq_some_iff] at h
    obtain ⟨d, hd, ds', hds, rfl⟩ := h
    exact ⟨mA_ok hF hp hd h1, mAs_ok hF hp hds h2⟩
  | [], _, _ :: _, _, h => h.elim
  | _ :: _, _, [], _, h => h.elim

theorem EffU_callM (f : FuncId) (fn : Func) (xs : List Operand) (ts : List Nat) (S : SpecM) {o : Oper} (ho : Oper.isCall o f xs ts) (hS : SatM P f S) (hf : P.funcs[f]? = some fn) (hb : fn.body.isNone = false) (hn : (fn.name == "runtime.NumGoroutine") = false)
    (hd : Oper.dstOk o s.n = true) (id : Nat) (ob ob' : Obj) (hob : s.obj id = some ob) (args : List AV) (hargs : mAs id (xs.map s.ev) = some args) (x : Sc) (hSp : S args ob x ob') (hpo : plainO ob = true) (hpo' : plainO ob' = true) :
    EffU P o s { val := .one (.sc x), sets := [(id, some ob')], log := [id] } := by
  intro s2 h1 h2 h3 h4 N0 W0 β a w r K Q hK
  have hops : ∀ x ∈ xs, x ∈ o.op.operands := fun x hx => by
    rw [show o.op = _ from ho]
    simp [Op.operands, Call.operands, hx]
  have hob2 : s2.obj id = some ob := by rw [h3 id (by simp)]; exact hob
  obtain ⟨pv, vs, hp, hat, hbl⟩ := r.obj id ob hob2
  have hF : ∀ b, Free s2 β w b → apart w ob pv vs b := fun b hb => ⟨hb.1, fun hh => hb.2 ⟨id, ob, pv, vs, hob2, hp, hh⟩⟩
  have hall := mAs_ok (id := id) hF hp (by rw [← list_evs h2 hops] at hargs; exact hargs) (all2_ev r xs)
  have hrun : (execOp a.eval o).run P w = .ok (.enter f (xs.map a.eval).toArray) w := by
    have he : execOp a.eval o = callFunc f (#[] ++ (xs.map a.eval).toArray ++ #[]) := by
      unfold execOp
      rw [show o.op = _ from ho]
      simp only [resolve, Act.eval, Deferred.ofValue, List.map_toArray]
      rfl
    rw [he, run_callFunc hf hb hn]
    simp
  unfold Oper.wp
  rw [hrun, Oper.upon_enter]
  refine (hS args ob x ob' hSp N0 w (xs.map a.eval) pv vs r.size0 (objAt_base (Nat.le_refl _) hpo hat) hbl hall).mono ?_
  rintro e w' ⟨rfl, vs', hw⟩
  have r' := r.turn hob2 hp hw hpo'
  refine hK (β.set id (pv, vs')) _ w' ?_
  cases hdst : o.dst with
  | none => exact r'
  | some d =>
    have hv : AR N0 (β.set id (pv, vs')) (Free (s2.setO id ob') (β.set id (pv, vs')) w') w' (.one (.sc x)) x.val := rfl
    exact r'.put (d := d) (by have := Oper.dstOk_spec hd d hdst; show d < s2.n; rw [h1]; exact this) hv

end
end Go.Eng
/- The engine, part 24: calls as steps; how a law's walk is told. -/
set_option linter.unusedVariables false
namespace Go.Eng
open Go Go.RowKit

section
variable {s s' : AS} {P : Program} {T : Tys} {ops : Array Oper} {o : Oper} {r : List Oper} {k : AS → Prop} {tr : List (Option Eff)} {kl : List (Option Eff) → AS → Prop}
variable {f : FuncId} {fn : Func} {xs : List Operand} {ts : List Nat}

theorem reck_call (ho : Oper.isCall o f xs ts) : reck T o s = none := by
  have h1 : reckV T s o.op = none := by rw [show o.op = _ from ho]; rfl
  have h2 : reckW T s o = none := by unfold reckW; rw [show o.op = _ from ho]
  unfold reck
  rw [h1, h2]
  split <;> rfl

theorem w_fn {S : Spec} {args : List AV} {log : List Nat} (hS : Sat P f S) (ho : Oper.isCall o f xs ts) (hf : P.funcs[f]? = some fn) (hb : fn.body.isNone = false) (hn : (fn.name == "runtime.NumGoroutine") = false)
    {c : Bool} (hg : gsay ops s o = some c) (hc : c = true) (hd : Oper.dstOk o s.n = true) (hsn : snapAs T s ts (xs.map s.ev) = some (args, log)) {av : AV} {objs : List Obj} (hSp : S args av objs) (hpl : plainT av = true) (hpo : objs.all plainO = true)
    (hfr : freshB s (callE (8 * o.dst.getD 0) av objs log) = true) (hs : s.app o.dst (callE (8 * o.dst.getD 0) av objs log) = s') (hk : walkN P (reck T) ops r s' k) : walkN P (reck T) ops (o :: r) s k :=
  w_call (hc ▸ hg) (reck_call ho) (EffU_call f fn xs ts S ho hS hf hb hn hd _ args log hsn av objs hSp hpl hpo) hfr hs hk

theorem l_fn {S : Spec} {args : List AV} {log : List Nat} (hS : Sat P f S) (ho : Oper.isCall o f xs ts) (hf : P.funcs[f]? = some fn) (hb : fn.body.isNone = false) (hn : (fn.name == "runtime.NumGoroutine") = false)
    {c : Bool} (hg : gsay ops s o = some c) (hc : c = true) (hd : Oper.dstOk o s.n = true) (hsn : snapAs T s ts (xs.map s.ev) = some (args, log)) {av : AV} {objs : List Obj} (hSp : S args av objs) (hpl : plainT av = true) (hpo : objs.all plainO = true)
    (hfr : freshB s (callE (8 * o.dst.getD 0) av objs log) = true) (hs : s.app o.dst (callE (8 * o.dst.getD 0) av objs log) = s') (hk : walkL P (reck T) ops r s' (tr ++ [some (callE (8 * o.dst.getD 0) av objs log)]) kl) : walkL P (reck T) ops (o :: r) s tr kl :=
  l_call (hc ▸ hg) (reck_call ho) (EffU_call f fn xs ts S ho hS hf hb hn hd _ args log hsn av objs hSp hpl hpo) hfr hs hk

theorem w_fnM {S : SpecM} {args : List AV} (hS : SatM P f S) (ho : Oper.isCall o f xs ts) (hf : P.funcs[f]? = some fn) (hb : fn.body.isNone = false) (hn : (fn.name == "runtime.NumGoroutine") = false)
    {c : Bool} (hg : gsay ops s o = some c) (hc : c = true) (hd : Oper.dstOk o s.n = true) (id : Nat) {ob ob' : Obj} (hob : s.obj id = some ob) (hargs : mAs id (xs.map s.ev) = some args) {x : Sc} (hSp : S args ob x ob') (hpo : plainO ob = true) (hpo' : plainO ob' = true)
    (hs : s.app o.dst { val := .one (.sc x), sets := [(id, some ob')], log := [id] } = s') (hk : walkN P (reck T) ops r s' k) : walkN P (reck T) ops (o :: r) s k :=
  w_call (hc ▸ hg) (reck_call ho) (EffU_callM f fn xs ts S ho hS hf hb hn hd id ob ob' hob args hargs x hSp hpo hpo') rfl hs hk

theorem l_fnM {S : SpecM} {args : List AV} (hS : SatM P f S) (ho : Oper.isCall o f xs ts) (hf : P.funcs[f]? = some fn) (hb : fn.body.isNone = false) (hn : (fn.name == "runtime.NumGoroutine") = false)
    {c : Bool} (hg : gsay ops s o = some c) (hc : c = true) (hd : Oper.dstOk o s.n = true) (id : Nat) {ob ob' : Obj} (hob : s.obj id = some ob) (hargs : mAs id (xs.map s.ev) = some args) {x : Sc} (hSp : S args ob x ob') (hpo : plainO ob = true) (hpo' : plainO ob' = true)
    (hs : s.app o.dst { val := .one (.sc x), sets := [(id, some ob')], log := [id] } = s') (hk : walkL P (reck T) ops r s' (tr ++ [some { val := .one (.sc x), sets := [(id, some ob')], log := [id] }]) kl) : walkL P (reck T) ops (o :: r) s tr kl :=
  l_call (hc ▸ hg) (reck_call ho) (EffU_callM f fn xs ts S ho hS hf hb hn hd id ob ob' hob args hargs x hSp hpo hpo') rfl hs hk

variable {c : Bool} {e : Eff}
theorem w_yes' (hg : gsay ops s o = some c) (hc : c = true) (h : stp T o s = some s') (hk : walkN P (reck T) ops r s' k) : walkN P (reck T) ops (o :: r) s k := by
  subst hc; exact w_yes hg h hk
theorem w_no' {E : Reck} (hg : gsay ops s o = some c) (hc : c = false) (hd : Oper.dstOk o s.n = true) (hs : s.app o.dst skipE = s') (hk : walkN P E ops r s' k) : walkN P E ops (o :: r) s k := by
  subst hc; exact w_no hg hd hs hk
theorem l_op' (hg : gsay ops s o = some c) (hc : c = true) (h : stl T o s = some (e, s')) (hk : walkL P (reck T) ops r s' (tr ++ [some e]) kl) : walkL P (reck T) ops (o :: r) s tr kl := by
  subst hc; exact l_op hg h hk
theorem l_no' {E : Reck} (hg : gsay ops s o = some c) (hc : c = false) (hd : Oper.dstOk o s.n = true) (hs : s.app o.dst skipE = s') (hk : walkL P E ops r s' (tr ++ [none]) kl) : walkL P E ops (o :: r) s tr kl := by
  subst hc; exact l_no hg hd hs hk

/-- A law's walk, out of its contract. -/
theorem law_walk {args : List AV} {vals : List Value} {w : World} {S : Spec} (hS : Sat P f S) (hSp : S args (.one (.sc (.bool true))) []) (ha : Args w args vals) :
    Calls P f vals.toArray w fun e w' => e = .returned (.bool true) ∧ Below w.heap.size w w' :=
  (hS args _ _ hSp w vals ha).mono fun e w' ⟨v, he, hb, ps, hl, hv, _⟩ => by
    have : v = .bool true := hv
    subst this
    exact ⟨he, hb⟩
end

attribute [go_sem] scsOf.eq_1 scsOf.eq_2 numbered rBuild elsOf onesOf.eq_1 onesOf.eq_2 allLen rAppend rDst.eq_1 rDst.eq_2 rDst.eq_3 rSrc.eq_1 rSrc.eq_2 rSrc.eq_3 rSrc.eq_4 rSrc.eq_5 rSrc.eq_6 killL rMake zeroEl zeroScs zeroSc rConv rSliceAll rCutS rIndex rNil.eq_1 rNil.eq_2
attribute [go_sem] snapAs.eq_1 snapAs.eq_2 snapA.eq_1 snapA.eq_2 snapC.eq_1 snapC.eq_2 snapC.eq_3 snapC.eq_4 snapC.eq_5 snapC.eq_6 snapC.eq_7 snapC.eq_8 snapC.eq_9 snapL.eq_1 snapL.eq_2 callE shT shA shC objH idsFrom AS.app rMk rFill.eq_1 rFill.eq_2 rBox.eq_1 rBox.eq_2 rStore.eq_1 zeroA zeroC TI.one mAs mA.eq_1 mA.eq_2 mC.eq_1 mC.eq_2 mC.eq_3 mC.eq_4 mC.eq_5 mL elOf.eq_1 elOf.eq_2 retA retD retC retL retT resC rowsOf rowOf.eq_1 rowOf.eq_2 rowOf.eq_3 rowOf.eq_4 rowOf.eq_5 rowOf.eq_6

end Go.Eng
/- The engine, part 25: splits at guards that are not known yet. -/
set_option linter.unusedVariables false
namespace Go.Eng
open Go Go.RowKit
section
variable {s s' : AS} {P : Program} {T : Tys} {E : Reck} {ops : Array Oper} {o : Oper} {r : List Oper} {k : AS → Prop} {tr : List (Option Eff)} {kl : List (Option Eff) → AS → Prop} {c : Bool}
theorem w_same (hg : gsay ops s o = some c) (hc : c = true) (h : walkN P E ops (o :: r) s k) : walkN P E ops (o :: r) s k := h
theorem l_same (hg : gsay ops s o = some c) (hc : c = true) (h : walkL P E ops (o :: r) s tr kl) : walkL P E ops (o :: r) s tr kl := h
theorem w_spl {p : Nat × Bool} (hp : o.guard = some p) (h : gsay ops s o = some c) (h1 : c = true → walkN P E ops (o :: r) s k) (h2 : c = false → walkN P E ops (o :: r) s k) : walkN P E ops (o :: r) s k :=
  w_split h h1 h2
theorem l_spl {p : Nat × Bool} (hp : o.guard = some p) (h : gsay ops s o = some c) (h1 : c = true → walkL P E ops (o :: r) s tr kl) (h2 : c = false → walkL P E ops (o :: r) s tr kl) : walkL P E ops (o :: r) s tr kl :=
  l_split h h1 h2

theorem w_splv {p : Nat × Bool} {v : Bool} (hp : o.guard = some p) (h : guardAV ops s p.1 = .one (.sc (.bool v))) (h1 : v = true → walkN P E ops (o :: r) s k) (h2 : v = false → walkN P E ops (o :: r) s k) : walkN P E ops (o :: r) s k := by
  cases v
  · exact h2 rfl
  · exact h1 rfl
theorem l_splv {p : Nat × Bool} {v : Bool} (hp : o.guard = some p) (h : guardAV ops s p.1 = .one (.sc (.bool v))) (h1 : v = true → walkL P E ops (o :: r) s tr kl) (h2 : v = false → walkL P E ops (o :: r) s tr kl) : walkL P E ops (o :: r) s tr kl := by
  cases v
  · exact h2 rfl
  · exact h1 rfl

/-! ### The object that a mutating call is handed -/
def refL : List CV → Option Nat
  | [] => none
  | .ref i :: _ => some i
  | .sc _ :: r => refL r
  | .nil :: r => refL r
  | .imm _ _ :: r => refL r
  | _ :: r => refL r
def refAs : List AV → Option Nat
  | [] => none
  | .one (.ref i) :: _ => some i
  | .one (.sc _) :: r => refAs r
  | .agg cs :: _ => refL cs
  | _ :: r => refAs r
theorem refL_ref {i : Nat} {r : List CV} : refL (.ref i :: r) = some i := rfl
theorem refL_sc {x : Sc} {r : List CV} : refL (.sc x :: r) = refL r := rfl
theorem refL_nil {r : List CV} : refL (.nil :: r) = refL r := rfl
theorem refAs_ref {i : Nat} {r : List AV} : refAs (.one (.ref i) :: r) = some i := rfl
theorem refAs_sc {x : Sc} {r : List AV} : refAs (.one (.sc x) :: r) = refAs r := rfl
theorem refAs_agg {cs : List CV} {r : List AV} : refAs (.agg cs :: r) = refL cs := rfl
variable {f : FuncId} {fn : Func} {xs : List Operand} {ts : List Nat}
theorem w_fnR {S : SpecM} {args : List AV} (hS : SatM P f S) (ho : Oper.isCall o f xs ts) (hf : P.funcs[f]? = some fn) (hb : fn.body.isNone = false) (hn : (fn.name == "runtime.NumGoroutine") = false)
    {c : Bool} (hg : gsay ops s o = some c) (hc : c = true) (hd : Oper.dstOk o s.n = true) {id : Nat} (hid : refAs (xs.map s.ev) = some id) {ob ob' : Obj} (hob : s.obj id = some ob) (hargs : mAs id (xs.map s.ev) = some args) {x : Sc} (hSp : S args ob x ob') (hpo : plainO ob = true) (hpo' : plainO ob' = true)
    (hs : s.app o.dst { val := .one (.sc x), sets := [(id, some ob')], log := [id] } = s') (hk : walkN P (reck T) ops r s' k) : walkN P (reck T) ops (o :: r) s k :=
  w_fnM hS ho hf hb hn hg hc hd id hob hargs hSp hpo hpo' hs hk
theorem l_fnR {S : SpecM} {args : List AV} (hS : SatM P f S) (ho : Oper.isCall o f xs ts) (hf : P.funcs[f]? = some fn) (hb : fn.body.isNone = false) (hn : (fn.name == "runtime.NumGoroutine") = false)
    {c : Bool} (hg : gsay ops s o = some c) (hc : c = true) (hd : Oper.dstOk o s.n = true) {id : Nat} (hid : refAs (xs.map s.ev) = some id) {ob ob' : Obj} (hob : s.obj id = some ob) (hargs : mAs id (xs.map s.ev) = some args) {x : Sc} (hSp : S args ob x ob') (hpo : plainO ob = true) (hpo' : plainO ob' = true)
    (hs : s.app o.dst { val := .one (.sc x), sets := [(id, some ob')], log := [id] } = s') (hk : walkL P (reck T) ops r s' (tr ++ [some { val := .one (.sc x), sets := [(id, some ob')], log := [id] }]) kl) : walkL P (reck T) ops (o :: r) s tr kl :=
  l_fnM hS ho hf hb hn hg hc hd id hob hargs hSp hpo hpo' hs hk
end
attribute [go_sem] rSlice
attribute [go_sem] refL_ref refL_sc refL_nil refAs_ref refAs_sc refAs_agg
end Go.Eng
