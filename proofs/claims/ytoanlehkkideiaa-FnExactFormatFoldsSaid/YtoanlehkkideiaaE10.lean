/- The engine, part 10: a function's proof out of the walk over its code; a call's effect. -/
import Derived.Test.YtoanlehkkideiaaE9
set_option linter.unusedVariables false
namespace Go.Eng
open Go Go.RowKit

section
variable {N0 : Nat} {W0 : World} {s s' : AS} {β β' : Plc} {a : Act} {w w' : World} {P : Program} {T : Tys}

theorem run_mapM_list {α β : Type} (f : α → Sem β) (P : Program) (w : World) : ∀ (l : List α) (vs : List β), All2 (fun x v => (f x).run P w = .ok v w) l vs → (l.mapM f).run P w = .ok vs w
  | [], [], _ => rfl
  | x :: l, v :: vs, ⟨h1, h2⟩ => by
    simp only [List.mapM_cons, Sem.run_bind, h1, Result.andThen_ok, run_mapM_list f P w l vs h2, Sem.run_pure]
  | [], _ :: _, h => h.elim
  | _ :: _, [], h => h.elim

def packV : List Value → Value
  | [v] => v
  | vs => .tuple vs.toArray

theorem results_ok {fn : Func} {rs : List ResultVar} (h : fn.results = rs.toArray) {tmps : Array Value} {vs : List Value}
    (hv : All2 (fun x v => (match x with | .tmp t => (pure (tmps.getD t undef) : Sem Value) | .cell t ty => (do loadVar ty (← asAddr (tmps.getD t undef)))).run P w = .ok v w) rs vs) :
    (results fn tmps).run P w = .ok (packV vs) w := by
  have hm := run_mapM_list (fun x : ResultVar => match x with | .tmp t => (pure (tmps.getD t undef) : Sem Value) | .cell t ty => (do loadVar ty (← asAddr (tmps.getD t undef)))) P w rs vs hv
  unfold results
  rw [h, List.mapM_toArray]
  simp only [Sem.run_bind, Sem.run_map]
  refine Eq.trans (b := ((Result.ok vs w : Result (List Value)).andThen fun a w' => Result.ok a.toArray w').andThen fun a w' => (pure (if h : a.size = 1 then a[0] else Value.tuple a) : Sem Value).run P w') ?_ ?_
  · exact congrArg (fun x : Result (List Value) => (x.andThen fun a w' => Result.ok a.toArray w').andThen fun a w' => (pure (if h : a.size = 1 then a[0] else Value.tuple a) : Sem Value).run P w') hm
  · simp only [Result.andThen_ok, Sem.run_pure]
    congr 1
    match vs with
    | [] => rfl
    | [v] => rfl
    | v :: u :: r => simp [packV]

/-- Where a function's walk must end. -/
def retOK (T : Tys) (rs : List ResultVar) (av : AV) (objs : List Obj) (e : Exit) (t : AS) : Prop :=
  match e with
  | .ret | .normal => ∃ acc, retA T t rs = some (av, acc) ∧ acc.map (·.1) = objs
  | _ => False

theorem retD_dead {acc : Acc} : retD s acc .dead = none := rfl

theorem retT_nd : ∀ {cs cs' : List AV} {acc acc' : Acc}, retT s acc cs = some (cs', acc') → ∀ c ∈ cs, c ≠ .dead
  | [], _, _, _, _, c, hc => by cases hc
  | x :: cs, cs', acc, acc', h, c, hc => by
    simp only [retT, Option.bind_eq_some_iff, Option.map_eq_some_iff] at h
    obtain ⟨⟨c1, acc1⟩, hc1, ⟨cs1, acc2⟩, hcs1, he⟩ := h
    rcases List.mem_cons.1 hc with rfl | hc
    · rintro rfl; cases hc1
    · exact retT_nd hcs1 c hc

theorem resAll_ok (hT : TOk P T) (r : Rel N0 W0 s β a w) : ∀ (rs : List ResultVar), (∀ x ∈ rs, resC T s x ≠ .dead) →
    ∃ vs, All2 (fun x v => (match x with | .tmp t => (pure (a.tmps.getD t undef) : Sem Value) | .cell t ty => (do loadVar ty (← asAddr (a.tmps.getD t undef)))).run P w = .ok v w) rs vs ∧ All2 (AR N0 β (Free s β w) w) (rs.map (resC T s)) vs
  | [], _ => ⟨[], trivial, trivial⟩
  | x :: rs, h => by
    obtain ⟨v, h1, h2⟩ := resC_ok hT r x (h x (by simp))
    obtain ⟨vs, h3, h4⟩ := resAll_ok hT r rs (fun y hy => h y (by simp [hy]))
    exact ⟨v :: vs, ⟨h1, h3⟩, ⟨h2, h4⟩⟩

theorem ret_sound (hT : TOk P T) (r : Rel N0 W0 s β a w) {rs : List ResultVar} {av : AV} {acc : Acc} (h : retA T s rs = some (av, acc)) :
    ∃ vs, All2 (fun x v => (match x with | .tmp t => (pure (a.tmps.getD t undef) : Sem Value) | .cell t ty => (do loadVar ty (← asAddr (a.tmps.getD t undef)))).run P w = .ok v w) rs vs ∧ Fresh N0 w (packV vs) av (acc.map (·.1)) := by
  unfold retA at h
  split at h
  · rename_i x
    have hnd : resC T s x ≠ .dead := fun e => by rw [e] at h; cases h
    obtain ⟨v, h1, h2⟩ := resC_ok hT r x hnd
    obtain ⟨qs, g, _, h3⟩ := retD_ok r good_nil h h2
    exact ⟨[v], ⟨h1, trivial⟩, (g.fresh r h3)⟩
  · rename_i hsing
    simp only [Option.map_eq_some_iff] at h
    obtain ⟨⟨cs, acc1⟩, hcs, he⟩ := h
    cases he
    obtain ⟨vs, h1, h2⟩ := resAll_ok hT r rs (fun x hx => retT_nd hcs _ (List.mem_map.2 ⟨x, hx, rfl⟩))
    obtain ⟨qs, g, h3⟩ := retT_ok r good_nil hcs h2
    refine ⟨vs, h1, ?_⟩
    have hp : packV vs = .tuple vs.toArray := by
      have hl := h1.length
      match vs, rs, hl with
      | [], _, _ => rfl
      | [v], [x], _ => exact (hsing x rfl).elim
      | _ :: _ :: _, _, _ => rfl
    rw [hp]
    exact g.fresh r ⟨vs, rfl, h3⟩

/-- A FUNCTION's PROOF: the walk over its body, from its arguments to its end. -/
theorem sat_of {E : Reck} (hT : TOk P T) (hE : E.Ok P) (hm : P.follows .mixedOrders = true) {f : FuncId} {fn : Func} {c : Code} {rs : List ResultVar} {n : Nat} {S : Spec} (K : Nat → List Nat)
    (hf : P.funcs[f]? = some fn) (hb : fn.body = some c) (hrs : fn.results = rs.toArray) (hn : fn.ntmps = n)
    (h : ∀ args av objs, S args av objs → args.length ≤ n ∧ awp P E K c (retOK T rs av objs) (entryS n args)) : Sat P f S := by
  intro args av objs hS w vals hargs
  obtain ⟨hlen, hw⟩ := h args av objs hS
  refine calls_of_wp hf hb ?_
  rw [hn]
  have r := rel_entry (n := n) hargs hlen
  refine wp_mono (awp_sound hE hm c hw r) ?_
  rintro e a' w' ⟨t, β', r', hq⟩
  have fin : (∃ acc, retA T t rs = some (av, acc) ∧ acc.map (·.1) = objs) → a'.defers = [] ∧ ∃ v, (results fn a'.tmps).run P w' = .ok v w' ∧ ∃ v', Ending.returned v = .returned v' ∧ Below w.heap.size w w' ∧ Fresh w.heap.size w' v' av objs := by
    rintro ⟨acc, h1, rfl⟩
    obtain ⟨vs, h2, h3⟩ := ret_sound hT r' h1
    exact ⟨r'.defers, packV vs, results_ok hrs h2, packV vs, rfl, r'.below, h3⟩
  cases e with
  | normal => exact fin hq
  | ret => exact fin hq
  | exit id => exact hq.elim
  | goto l => exact hq.elim
  | panic ch => exact hq.elim
  | outgrown => exact hq.elim

/-! ### What a call's arguments read as -/

theorem imm_of_owns {B e k : Nat} {v : Value} {xs : List El} (h : w.ownsRow B e k v xs.length (cellsOf xs)) (hf : Flat k xs) : Imm (fun b => b < w.heap.size) w k v xs := by
  refine ⟨?_, hf⟩
  rcases h.2 with ⟨rfl, h0⟩ | ⟨g, cap, cur, rfl, hb, hg, hc, hm, hs, ht⟩
  · exact ⟨none, 0, by rw [h0], by omega, .inl h0⟩
  · refine ⟨_, _, rfl, hc, .inr ⟨g, 0, rfl, (Array.getElem?_eq_some_iff.1 hg).1, fun j u hu => ?_⟩⟩
    have := h.cells (g := g) rfl j u hu
    rwa [show (⟨g, 0, none⟩ : Addr).add j = ⟨g, 0 + j, none⟩ from Addr.add_lit _ _ _] at this

theorem immC_win {F : Nat → Prop} {b off n cap : Nat} {p : Option Addr} {cs : List Value} (hn : n ≤ cap) (hp : n = 0 ∨ p = some ⟨b, off, none⟩) (hF : F b) (hc : ∀ j u, cs[j]? = some u → w.cell? ⟨b, off + j, none⟩ = some u) :
    ImmC F w (.slice p n cap) n cs :=
  ⟨p, cap, rfl, hn, hp.imp id fun h => ⟨b, off, h, hF, hc⟩⟩

/-- One row. -/
def rowOf (s : AS) : CV → Option (List El × List Nat)
  | .nil => some ([], [])
  | .imm 1 xs => some (xs, [])
  | .row _ o => some (o.getD [], [])
  | .ref id => match s.obj id with
    | some (.flat _ 1 xs) => some (xs, [id])
    | some (.zrow _ 1) => some ([], [id])
    | _ => none
  | .pre id n => match s.obj id with
    | some (.flat _ 1 xs) => some (xs.take n, [id])
    | _ => none
  | .win id 1 l n => match s.obj id with
    | some (.flat _ 1 xs) => some ((xs.drop l).take n, [id])
    | _ => none
  | _ => none

def rowsOf (s : AS) : List CV → Option (List (List El) × List Nat)
  | [] => some ([], [])
  | c :: r => (rowOf s c).bind fun x => (rowsOf s r).map fun y => (x.1 :: y.1, x.2 ++ y.2)

def snapC (T : Tys) (s : AS) (ty : Nat) : CV → Option (CV × List Nat)
  | .sc x => some (.sc x, [])
  | .nil => match T ty with
    | .sl e => match T e with
      | .sl _ => some (.imm2 [], [])
      | _ => some (.imm (kOf T e) [], [])
    | _ => none
  | .imm k xs => some (.imm k xs, [])
  | .imm2 xss => some (.imm2 xss, [])
  | .row _ o => some (.imm 1 (o.getD []), [])
  | .ref id => match s.obj id with
    | some (.flat _ k xs) => some (.imm k xs, [id])
    | some (.zrow _ k) => some (.imm k [], [id])
    | some (.rows _ _ _ xss) => some (.imm2 (xss.map (·.getD [])), [id])
    | some (.cvs _ cs) => (rowsOf s cs).map fun x => (.imm2 x.1, id :: x.2)
    | _ => none
  | .pre id n => match s.obj id with
    | some (.flat _ k xs) => some (.imm k (xs.take n), [id])
    | _ => none
  | .win id k l n => match s.obj id with
    | some (.flat _ k' xs) => if k = k' then some (.imm k ((xs.drop l).take n), [id]) else none
    | _ => none
  | .fn f => some (.fn f, [])
  | _ => none

def snapL (T : Tys) (s : AS) : List Nat → List CV → Option (List CV × List Nat)
  | [], [] => some ([], [])
  | t :: ts, c :: r => (snapC T s t c).bind fun x => (snapL T s ts r).map fun y => (x.1 :: y.1, x.2 ++ y.2)
  | _, _ => none

def snapA (T : Tys) (s : AS) (ty : Nat) : AV → Option (AV × List Nat)
  | .one c => (snapC T s ty c).map fun x => (.one x.1, x.2)
  | .agg cs => match T ty with
    | .st fs => (snapL T s fs cs).map fun x => (.agg x.1, x.2)
    | _ => none
  | _ => none

def snapAs (T : Tys) (s : AS) : List Nat → List AV → Option (List AV × List Nat)
  | [], [] => some ([], [])
  | t :: ts, c :: r => (snapA T s t c).bind fun x => (snapAs T s ts r).map fun y => (x.1 :: y.1, x.2 ++ y.2)
  | _, _ => none

theorem cellsOf_get {k : Nat} : ∀ {xs : List El} (i j : Nat), Flat k xs → j < k → (cellsOf xs)[i * k + j]? = (xs[i]?).bind fun e => (e[j]?).map Sc.val
  | [], i, j, _, _ => by simp [cellsOf]
  | x :: xs, 0, j, h, hj => by
    have hx : x.length = k := h x (by simp)
    simp only [cellsOf, List.flatten_cons, List.map_append, Nat.zero_mul, Nat.zero_add, List.getElem?_cons_zero, Option.bind_some]
    rw [List.getElem?_append_left (by simp [hx]; omega), List.getElem?_map]
  | x :: xs, i + 1, j, h, hj => by
    have hx : x.length = k := h x (by simp)
    have ih := cellsOf_get (xs := xs) i j (fun e he => h e (by simp [he])) hj
    simp only [cellsOf, List.flatten_cons, List.map_append, List.getElem?_cons_succ] at ih ⊢
    have e1 : (i + 1) * k + j = k + (i * k + j) := by rw [Nat.add_mul]; omega
    rw [List.getElem?_append_right (by simp [hx, e1]), ← ih]
    congr 1
    simp [hx, e1]

theorem cellsOf_drop {k : Nat} : ∀ {xs : List El} (n : Nat), Flat k xs → cellsOf (xs.drop n) = (cellsOf xs).drop (n * k)
  | [], n, _ => by simp [cellsOf]
  | x :: xs, 0, _ => by simp [cellsOf]
  | x :: xs, n + 1, h => by
    have hx : x.length = k := h x (by simp)
    have ih := cellsOf_drop (xs := xs) n (fun e he => h e (by simp [he]))
    simp only [cellsOf, List.drop_succ_cons, List.flatten_cons, List.map_append] at ih ⊢
    rw [ih, List.drop_append]
    have e1 : (n + 1) * k - (List.map Sc.val x).length = n * k := by rw [List.length_map, hx, Nat.add_mul]; omega
    rw [e1, List.drop_eq_nil_of_le (as := List.map Sc.val x) (by rw [List.length_map, hx, Nat.add_mul]; omega), List.nil_append]

theorem Flat.drop {k : Nat} {xs : List El} (h : Flat k xs) (n : Nat) : Flat k (xs.drop n) := fun e he => h e (List.mem_of_mem_drop he)

theorem win_imm {B e k l n m : Nat} {pv v : Value} {xs : List El} {p : Option Addr} {cap : Nat} (hpv : pv = .slice p m cap) (h : w.ownsRow B e k pv xs.length (cellsOf xs)) (hf : Flat k xs) (hln : l + n ≤ m)
    {p' : Option Addr} {cap' : Nat} (hv : v = .slice p' n cap') (hnc : n ≤ cap') (hp' : n = 0 ∨ ∃ b, p = some ⟨b, 0, none⟩ ∧ p' = some ⟨b, l * k, none⟩) : Imm (fun b => b < w.heap.size) w k v ((xs.drop l).take n) := by
  have hm : m = xs.length := by
    rcases h.2 with ⟨h1, h0⟩ | ⟨g, cap2, cur, h1, _⟩
    · rw [h1] at hpv; cases hpv; exact h0.symm
    · rw [h1] at hpv; cases hpv; rfl
  have hl : ((xs.drop l).take n).length = n := by simp; omega
  refine ⟨?_, (hf.drop l).take n⟩
  rw [hl]
  refine ⟨p', cap', hv, hnc, ?_⟩
  rcases hp' with h0 | ⟨b, hb1, hb2⟩
  · exact .inl h0
  · by_cases hn0 : n = 0
    · exact .inl hn0
    · have hb : pv.ownBlock = some b := by rw [hpv, hb1]; rfl
      refine .inr ⟨b, l * k, hb2, (h.lt b hb).2, fun j u hu => ?_⟩
      rw [cellsOf_take n (hf.drop l), cellsOf_drop l hf, List.getElem?_take] at hu
      split at hu
      · rw [List.getElem?_drop] at hu
        have := h.cells hb (l * k + j) u hu
        rwa [show (⟨b, 0, none⟩ : Addr).add (l * k + j) = ⟨b, l * k + j, none⟩ by rw [Addr.add_lit, Nat.zero_add]] at this
      · cases hu

theorem pre_imm {B e k n m : Nat} {pv v : Value} {xs : List El} {p : Option Addr} {cap : Nat} (hpv : pv = .slice p m cap) (h : w.ownsRow B e k pv xs.length (cellsOf xs)) (hf : Flat k xs) (hn : n ≤ m) (hv : v = .slice p n cap) :
    Imm (fun b => b < w.heap.size) w k v (xs.take n) := by
  have hm : m = xs.length := by
    rcases h.2 with ⟨h1, h0⟩ | ⟨g, cap2, cur, h1, _⟩
    · rw [h1] at hpv; cases hpv; exact h0.symm
    · rw [h1] at hpv; cases hpv; rfl
  have ht := ownsRow_take h (n := n) (by omega)
  have hl : (xs.take n).length = n := by simp; omega
  have := imm_of_owns (w := w) (B := B) (e := e) (k := k) (v := v) (xs := xs.take n) (by rw [hl, cellsOf_take n hf, hv]; rw [hpv] at ht; exact ht) (hf.take n)
  exact this

theorem rowOf_ok (r : Rel N0 W0 s β a w) {c : CV} {x : List El × List Nat} {v : Value} (h : rowOf s c = some x) (hc : CR N0 β (Free s β w) w c v) : Imm (fun b => b < w.heap.size) w 1 v x.1 := by
  have hk : Keep (Free s β w) (fun b => b < w.heap.size) w w := fun b hb => ⟨hb.1, rfl⟩
  have hnil : v = .slice none 0 0 → Imm (fun b => b < w.heap.size) w 1 v [] := fun hv => ⟨⟨none, 0, hv, Nat.le_refl _, .inl rfl⟩, fun e he => by cases he⟩
  unfold rowOf at h
  split at h
  · cases h; exact hnil hc
  · cases h; exact Imm.keep hk hc
  · rename_i e o
    cases h
    cases o with
    | none => exact hnil hc
    | some xs => exact (imm_of_rowL hc).keep hk
  · rename_i id
    split at h
    · rename_i e xs ho
      cases h
      obtain ⟨pv, vs, hp, hat, _⟩ := r.obj id _ ho
      obtain ⟨vs', hv, h1c⟩ := hc
      rw [hp] at hv; cases hv
      exact imm_of_owns hat.1 hat.2
    · rename_i e ho
      cases h
      obtain ⟨pv, vs, hp, hat, _⟩ := r.obj id _ ho
      obtain ⟨vs', hv, h1c⟩ := hc
      rw [hp] at hv; cases hv
      exact imm_of_owns (xs := []) hat.1 (fun e he => by cases he)
    · cases h
  · rename_i id n
    split at h
    · rename_i e xs ho
      cases h
      obtain ⟨pv, vs, hp, hat, _⟩ := r.obj id _ ho
      obtain ⟨p, m, cap, vs', hv, he, hn⟩ := hc
      rw [hp] at hv; cases hv
      exact pre_imm rfl hat.1 hat.2 hn he
    · cases h
  · rename_i id l n
    split at h
    · rename_i e xs ho
      cases h
      obtain ⟨pv, vs, hp, hat, _⟩ := r.obj id _ ho
      obtain ⟨p, m, cap, vs', hv, hln, p', cap', he, hnc, hp'⟩ := hc
      rw [hp] at hv; cases hv
      exact win_imm rfl hat.1 hat.2 hln he hnc hp'
    · cases h
  · cases h

theorem rowsOf_ok (r : Rel N0 W0 s β a w) : ∀ {cs : List CV} {x : List (List El) × List Nat} {vs : List Value}, rowsOf s cs = some x → All2 (CR N0 β (Free s β w) w) cs vs → All2 (fun xs v => Imm (fun b => b < w.heap.size) w 1 v xs) x.1 vs
  | [], x, [], h, _ => by cases h; trivial
  | c :: cs, x, v :: vs, h, ⟨h1, h2⟩ => by
    simp only [rowsOf, Option.bind_eq_some_iff, Option.map_eq_some_iff] at h
    obtain ⟨y, hy, z, hz, rfl⟩ := h
    exact ⟨rowOf_ok r hy h1, rowsOf_ok r hz h2⟩
  | [], _, _ :: _, _, h => h.elim
  | _ :: _, _, [], _, h => h.elim

theorem imm2_of {B e : Nat} {v : Value} {vs : List Value} {xss : List (List El)} (h : w.ownsRow B e 1 v xss.length vs) (hall : All2 (fun xs u => Imm (fun b => b < w.heap.size) w 1 u xs) xss vs) : CR N0 (fun _ => none) (fun b => b < w.heap.size) w (.imm2 xss) v := by
  refine ⟨vs, hall.length.symm, ?_, fun i u xs hu hx => ?_⟩
  · rcases h.2 with ⟨rfl, h0⟩ | ⟨g, cap, cur, rfl, hb, hg, hc, hm, hs, ht⟩
    · exact ⟨none, 0, by rw [h0], by omega, .inl h0⟩
    · refine ⟨_, _, rfl, hc, .inr ⟨g, 0, rfl, (Array.getElem?_eq_some_iff.1 hg).1, fun j u hu => ?_⟩⟩
      have := h.cells (g := g) rfl j u hu
      rwa [show (⟨g, 0, none⟩ : Addr).add j = ⟨g, 0 + j, none⟩ from Addr.add_lit _ _ _] at this
  · obtain ⟨u', hu', him⟩ := All2.get i hall hx
    rw [hu] at hu'; cases hu'
    exact him

theorem snapC_ok (r : Rel N0 W0 s β a w) {ty : Nat} {c : CV} {x : CV × List Nat} {v : Value} (h : snapC T s ty c = some x) (hc : CR N0 β (Free s β w) w c v) : CR w.heap.size (fun _ => none) (fun b => b < w.heap.size) w x.1 v := by
  have hk : Keep (Free s β w) (fun b => b < w.heap.size) w w := fun b hb => ⟨hb.1, rfl⟩
  have hnil : ∀ k, v = .slice none 0 0 → Imm (fun b => b < w.heap.size) w k v [] := fun k hv => ⟨⟨none, 0, hv, Nat.le_refl _, .inl rfl⟩, fun e he => by cases he⟩
  unfold snapC at h
  split at h
  · cases h; exact hc
  · split at h
    · split at h
      · cases h
        exact ⟨[], rfl, ⟨none, 0, hc, Nat.le_refl _, .inl rfl⟩, fun i u xs hu => by simp at hu⟩
      · cases h; exact hnil _ hc
    · cases h
  · cases h; exact Imm.keep hk hc
  · cases h
    obtain ⟨vs, h1, h2, h3⟩ := hc
    exact ⟨vs, h1, h2.keep hk, fun i u xs hu hx => (h3 i u xs hu hx).keep hk⟩
  · rename_i e o
    cases h
    cases o with
    | none => exact hnil _ hc
    | some xs => exact (imm_of_rowL hc).keep hk
  · rename_i id
    obtain ⟨vs', hv, h1c⟩ := hc
    split at h
    · rename_i e k xs ho
      cases h
      obtain ⟨pv, vs, hp, hat, _⟩ := r.obj id _ ho
      rw [hp] at hv; cases hv
      exact imm_of_owns hat.1 hat.2
    · rename_i e k ho
      cases h
      obtain ⟨pv, vs, hp, hat, _⟩ := r.obj id _ ho
      rw [hp] at hv; cases hv
      exact imm_of_owns (xs := []) hat.1 (fun e he => by cases he)
    · rename_i e e' m xss ho
      cases h
      obtain ⟨pv, vs, hp, hat, _⟩ := r.obj id _ ho
      rw [hp] at hv; cases hv
      have key : ∀ (R : Option (List El) → Value → Prop), (∀ o u, R o u → Imm (fun b => b < w.heap.size) w 1 u (o.getD [])) → ∀ (l : List (Option (List El))) (us : List Value), All2 R l us → All2 (fun xs u => Imm (fun b => b < w.heap.size) w 1 u xs) (l.map (·.getD [])) us := by
        intro R hR l
        induction l with
        | nil => intro us h; cases us with | nil => trivial | cons _ _ => exact h.elim
        | cons o l ih => intro us h; cases us with | nil => exact h.elim | cons u us => exact ⟨hR o u h.1, ih us h.2⟩
      have hnil1 : ∀ u : Value, u = .slice none 0 0 → Imm (fun b => b < w.heap.size) w 1 u [] := fun u hu => ⟨⟨none, 0, hu, Nat.le_refl _, .inl rfl⟩, fun e he => by cases he⟩
      cases m with
      | own =>
        refine imm2_of (B := N0) (e := e) (by rw [List.length_map]; exact hat.1) (key _ (fun o u ho => ?_) _ _ hat.2.1)
        cases o with
        | none => exact hnil1 u ho
        | some xs => exact imm_of_owns ho.1 ho.2.1
      | loc =>
        refine imm2_of (B := N0) (e := e) (by rw [List.length_map]; exact hat.1) (key _ (fun o u ho => ?_) _ _ hat.2)
        cases o with
        | none => exact hnil1 u ho
        | some xs => exact (imm_of_rowL ho).keep hk
      | any =>
        refine imm2_of (B := N0) (e := e) (by rw [List.length_map]; exact hat.1) (key _ (fun o u ho => ?_) _ _ hat.2)
        cases o with
        | none => exact hnil1 u ho
        | some xs => exact Imm.keep hk ho
    · rename_i e cs ho
      simp only [Option.map_eq_some_iff] at h
      obtain ⟨y, hy, rfl⟩ := h
      obtain ⟨pv, vs, hp, hat, _⟩ := r.obj id _ ho
      rw [hp] at hv; cases hv
      have hall := rowsOf_ok r hy hat.2
      have hl1 := hall.length
      have hl2 := hat.2.length
      exact imm2_of (B := N0) (e := e) (by rw [hl1, ← hl2]; exact hat.1) hall
    · cases h
  · rename_i id n
    split at h
    · rename_i e k xs ho
      cases h
      obtain ⟨pv, vs, hp, hat, _⟩ := r.obj id _ ho
      obtain ⟨p, m, cap, vs', hv, he, hn⟩ := hc
      rw [hp] at hv; cases hv
      exact pre_imm rfl hat.1 hat.2 hn he
    · cases h
  · rename_i id k l n
    split at h
    · rename_i e k' xs ho
      split at h
      · rename_i hkk
        subst hkk
        cases h
        obtain ⟨pv, vs, hp, hat, _⟩ := r.obj id _ ho
        obtain ⟨p, m, cap, vs', hv, hln, p', cap', he, hnc, hp'⟩ := hc
        rw [hp] at hv; cases hv
        exact win_imm rfl hat.1 hat.2 hln he hnc hp'
      · cases h
    · cases h
  · cases h; exact hc
  · cases h

theorem snapL_ok (r : Rel N0 W0 s β a w) : ∀ {ts : List Nat} {cs : List CV} {x : List CV × List Nat} {vs : List Value}, snapL T s ts cs = some x → All2 (CR N0 β (Free s β w) w) cs vs → All2 (CR w.heap.size (fun _ => none) (fun b => b < w.heap.size) w) x.1 vs
  | [], [], x, [], h, _ => by cases h; trivial
  | t :: ts, c :: cs, x, v :: vs, h, ⟨h1, h2⟩ => by
    simp only [snapL, Option.bind_eq_some_iff, Option.map_eq_some_iff] at h
    obtain ⟨y, hy, z, hz, rfl⟩ := h
    exact ⟨snapC_ok r hy h1, snapL_ok r hz h2⟩
  | [], [], _, _ :: _, _, h => h.elim
  | _ :: _, _ :: _, _, [], _, h => h.elim
  | [], _ :: _, _, _, h, _ => by cases h
  | _ :: _, [], _, _, h, _ => by cases h

theorem snapA_ok (r : Rel N0 W0 s β a w) {ty : Nat} {c : AV} {x : AV × List Nat} {v : Value} (h : snapA T s ty c = some x) (hc : AR N0 β (Free s β w) w c v) : AR w.heap.size (fun _ => none) (fun b => b < w.heap.size) w x.1 v := by
  cases c with
  | one c =>
    simp only [snapA, Option.map_eq_some_iff] at h
    obtain ⟨y, hy, rfl⟩ := h
    exact snapC_ok r hy hc
  | agg cs =>
    simp only [snapA] at h
    split at h
    · simp only [Option.map_eq_some_iff] at h
      obtain ⟨y, hy, rfl⟩ := h
      obtain ⟨vs, h1, h2⟩ := hc
      exact ⟨vs, h1, snapL_ok r hy h2⟩
    · cases h
  | _ => cases h

theorem snapAs_ok (r : Rel N0 W0 s β a w) : ∀ {ts : List Nat} {cs : List AV} {x : List AV × List Nat} {vs : List Value}, snapAs T s ts cs = some x → All2 (AR N0 β (Free s β w) w) cs vs → Args w x.1 vs
  | [], [], x, [], h, _ => by cases h; trivial
  | t :: ts, c :: cs, x, v :: vs, h, ⟨h1, h2⟩ => by
    simp only [snapAs, Option.bind_eq_some_iff, Option.map_eq_some_iff] at h
    obtain ⟨y, hy, z, hz, rfl⟩ := h
    exact ⟨snapA_ok r hy h1, snapAs_ok r hz h2⟩
  | [], [], _, _ :: _, _, h => h.elim
  | _ :: _, _ :: _, _, [], _, h => h.elim
  | [], _ :: _, _, _, h, _ => by cases h
  | _ :: _, [], _, _, h, _ => by cases h

end
end Go.Eng
