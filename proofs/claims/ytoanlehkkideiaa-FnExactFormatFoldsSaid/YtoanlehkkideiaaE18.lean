/- The engine, part 18: all the operations put together. -/
import Derived.Test.YtoanlehkkideiaaE17
set_option linter.unusedVariables false
namespace Go.Eng
open Go Go.RowKit

section
variable {N0 : Nat} {W0 : World} {s s' : AS} {β β' : Plc} {a : Act} {w w' : World} {P : Program} {T : Tys}

/-! ### What an operation reckons hangs on what it looks at and on the noted objects alone -/

theorem rLen_congr {t : Nat} {x : AV} {y : AV × List Nat} (h : rLen T s t x = some y) (ha : ∀ i ∈ y.2, s'.obj i = s.obj i) : rLen T s' t x = some y := by
  unfold rLen at h ⊢
  split at h <;> try (exact h)
  split at h
  all_goals first
    | (rename_i ho; cases h; simp only [ha _ List.mem_cons_self, ho])
    | cases h

theorem rIndexAddr_congr {t : Nat} {x i : AV} {y : AV × List Nat} (h : rIndexAddr T s t x i = some y) (ha : ∀ i ∈ y.2, s'.obj i = s.obj i) : rIndexAddr T s' t x i = some y := by
  unfold rIndexAddr at h ⊢
  split at h
  · split at h
    · rename_i hc
      simp only [hc, and_self, if_true]
      split at h <;> try (exact h)
      all_goals
        split at h
        all_goals first
          | (rename_i ho
             split at h
             · rename_i hk
               cases h
               simp only [ha _ List.mem_cons_self, ho, hk, and_self, if_true]
             · cases h)
          | cases h
    · cases h
  · cases h

theorem rLoad_congr {t : Nat} {x : AV} {y : AV × List Nat} (h : rLoad T s t x = some y) (ha : ∀ i ∈ y.2, s'.obj i = s.obj i) : rLoad T s' t x = some y := by
  unfold rLoad at h
  split at h
  · unfold rLoad; exact h
  · unfold rLoad; exact h
  · rename_i id k i j
    have key : y.2 = [id] := by
      split at h
      · split at h
        · split at h <;> cases h; rfl
        · cases h
        · split at h
          · simp only [Option.map_eq_some_iff] at h; obtain ⟨_, _, rfl⟩ := h; rfl
          · cases h
      · split at h
        · split at h
          · split at h
            · simp only [Option.map_eq_some_iff] at h; obtain ⟨_, _, rfl⟩ := h; rfl
            · cases h
          · cases h
          · simp only [Option.map_eq_some_iff] at h; obtain ⟨_, _, rfl⟩ := h; rfl
        · cases h
      · split at h
        · simp only [Option.map_eq_some_iff] at h; obtain ⟨_, _, rfl⟩ := h; rfl
        · cases h
      · split at h
        · simp only [Option.map_eq_some_iff] at h; obtain ⟨_, _, rfl⟩ := h; rfl
        · cases h
      · cases h
    rw [key] at ha
    unfold rLoad
    simp only [ha _ List.mem_cons_self]
    exact h
  · cases h

theorem rSlice_congr {t : Nat} {x : AV} {lo hi : Option AV} {y : AV × List Nat} (h : rSlice T s t x lo hi = some y) (ha : ∀ i ∈ y.2, s'.obj i = s.obj i) : rSlice T s' t x lo hi = some y := by
  cases x with
  | one c =>
    cases c with
    | ref id =>
      have key : y.2 = [id] := by
        unfold rSlice at h
        split at h
        · split at h
          · dsimp only at h
            generalize s.obj id = ob at h
            cases ob with
            | none => cases h
            | some ob =>
              cases ob with
              | flat e k xs =>
                dsimp only at h
                split at h
                · cases lo with
                  | none => simp only [Option.map_eq_some_iff] at h; obtain ⟨_, _, rfl⟩ := h; rfl
                  | some lo => simp only [Option.map_eq_some_iff] at h; obtain ⟨_, _, rfl⟩ := h; rfl
                · cases h
              | _ => cases h
          · cases h
        · cases h
      rw [key] at ha
      unfold rSlice at h ⊢
      simp only [ha _ List.mem_cons_self]
      exact h
    | row e o => cases o <;> exact h
    | _ => exact h
  | _ => exact h

theorem rConv_congr {src dst : Nat} {x : AV} {y : AV × List Nat} (h : rConv T s src dst x = some y) (ha : ∀ i ∈ y.2, s'.obj i = s.obj i) : rConv T s' src dst x = some y := by
  unfold rConv at h ⊢
  split at h <;> try (exact h)
  rename_i e id _ _
  have key : y.2 = [id] := by
    split at h
    · split at h
      · simp only [Option.map_eq_some_iff] at h; obtain ⟨_, _, rfl⟩ := h; rfl
      · cases h
    · cases h
  rw [key] at ha
  simp only [ha _ List.mem_cons_self]
  exact h

/-! ### Values -/

def rMinMax (m : Bool) (s : AS) (args : List Operand) : Option (AV × List Nat) :=
  match args with
  | [x, y] => (rMin m (s.ev x) (s.ev y)).map (·, [])
  | _ => none

def rNil (x : AV) : Option (AV × List Nat) :=
  match x with
  | .one (.ptr id k i j) => some (.one (.ptr id k i j), [])
  | .one (.iptr cs) => some (.one (.iptr cs), [])
  | _ => none

def rSliceAll (T : Tys) (s : AS) (t : Nat) (x : Operand) (lo hi : Option Operand) : Option (AV × List Nat) :=
  match T t with
  | .str => (rCutS T t (s.ev x) (lo.map s.ev) (hi.map s.ev)).map (·, [])
  | _ => rSlice T s t (s.ev x) (lo.map s.ev) (hi.map s.ev)

/-- What an operation yields that leaves the world alone. -/
def reckV (T : Tys) (s : AS) : Op → Option (AV × List Nat)
  | .move x => some (s.ev x, [])
  | .assign x => some (s.ev x, [])
  | .pick c x y => (rPick (s.ev c) (s.ev x) (s.ev y)).map (·, [])
  | .load t x => rLoad T s t (s.ev x)
  | .binOp op t x y _ => (rBin T op t (s.ev x) (s.ev y)).map (·, [])
  | .unOp op _ x => (rUn op (s.ev x)).map (·, [])
  | .convert src dst x => rConv T s src dst (s.ev x)
  | .slice t x lo hi none => rSliceAll T s t x lo hi
  | .fieldAddr t x f => (rFieldAddr T t (s.ev x) f).map (·, [])
  | .field t x f => (rField T t (s.ev x) f).map (·, [])
  | .indexAddr t x i => rIndexAddr T s t (s.ev x) (s.ev i)
  | .index t x i => (rIndex T t (s.ev x) (s.ev i)).map (·, [])
  | .extract x i => (rExtract (s.ev x) i).map (·, [])
  | .nilCheck x => rNil (s.ev x)
  | .build t ps => (rMk T t (ps.toList.map fun p => (p.1, s.ev p.2))).map (·, [])
  | .call ⟨.builtin .len, args, ts⟩ => match args.toList, ts.toList with
    | [x], [t] => rLen T s t (s.ev x)
    | _, _ => none
  | .call ⟨.builtin .min, args, _⟩ => rMinMax false s args.toList
  | .call ⟨.builtin .max, args, _⟩ => rMinMax true s args.toList
  | _ => none

theorem reckV_congr {op : Op} {y : AV × List Nat} (h : reckV T s op = some y) (hs : ∀ x ∈ op.operands, s'.ev x = s.ev x) (ha : ∀ i ∈ y.2, s'.obj i = s.obj i) : reckV T s' op = some y := by
  unfold reckV at h ⊢
  split at h
  · rw [hs _ (by simp [Op.operands])]; exact h
  · rw [hs _ (by simp [Op.operands])]; exact h
  · rw [hs _ (by simp [Op.operands]), hs _ (by simp [Op.operands]), hs _ (by simp [Op.operands])]; exact h
  · rw [hs _ (by simp [Op.operands])]; exact rLoad_congr h ha
  · rw [hs _ (by simp [Op.operands]), hs _ (by simp [Op.operands])]; exact h
  · rw [hs _ (by simp [Op.operands])]; exact h
  · rw [hs _ (by simp [Op.operands])]; exact rConv_congr h ha
  · rename_i t x lo hi
    have hx := hs x (by simp [Op.operands])
    have hlo : lo.map s'.ev = lo.map s.ev := by cases lo with | none => rfl | some l => simp [hs l (by simp [Op.operands])]
    have hhi : hi.map s'.ev = hi.map s.ev := by cases hi with | none => rfl | some l => simp [hs l (by simp [Op.operands])]
    unfold rSliceAll at h ⊢
    rw [hx, hlo, hhi]
    split at h
    · exact h
    · exact rSlice_congr h ha
  · rw [hs _ (by simp [Op.operands])]; exact h
  · rw [hs _ (by simp [Op.operands])]; exact h
  · rw [hs _ (by simp [Op.operands]), hs _ (by simp [Op.operands])]; exact rIndexAddr_congr h ha
  · rw [hs _ (by simp [Op.operands]), hs _ (by simp [Op.operands])]; exact h
  · rw [hs _ (by simp [Op.operands])]; exact h
  · rw [hs _ (by simp [Op.operands])]; exact h
  · rename_i t ps
    have : (ps.toList.map fun p => (p.1, s'.ev p.2)) = ps.toList.map fun p => (p.1, s.ev p.2) := List.map_congr_left fun p hp => by
      rw [hs p.2 (by simp only [Op.operands, List.mem_toArray, List.mem_map]; exact ⟨p, hp, rfl⟩)]
    rw [this]; exact h
  · rename_i args ts
    split at h
    · rename_i x t hx ht
      rw [hs x (by simp only [Op.operands, Call.operands]; simp; rw [← Array.mem_toList_iff, hx]; simp)]
      exact rLen_congr h ha
    · cases h
  · rename_i args ts
    unfold rMinMax at h ⊢
    split at h
    · rename_i x y hx
      rw [hs x (by simp only [Op.operands, Call.operands]; simp; rw [← Array.mem_toList_iff, hx]; simp), hs y (by simp only [Op.operands, Call.operands]; simp; rw [← Array.mem_toList_iff, hx]; simp)]
      exact h
    · cases h
  · rename_i args ts
    unfold rMinMax at h ⊢
    split at h
    · rename_i x y hx
      rw [hs x (by simp only [Op.operands, Call.operands]; simp; rw [← Array.mem_toList_iff, hx]; simp), hs y (by simp only [Op.operands, Call.operands]; simp; rw [← Array.mem_toList_iff, hx]; simp)]
      exact h
    · cases h
  · cases h

theorem optVal_ev (r : Rel N0 W0 s β a w) (x : Option Operand) : optVal N0 β (Free s β w) w (x.map s.ev) (x.map a.eval) := by
  cases x with
  | none => trivial
  | some x => exact r.ev x

theorem parts_ev (r : Rel N0 W0 s β a w) : ∀ ps : List (Nat × Operand), All2 (fun (p : Nat × AV) (q : Nat × Value) => p.1 = q.1 ∧ AR N0 β (Free s β w) w p.2 q.2) (ps.map fun p => (p.1, s.ev p.2)) (ps.map fun p => (p.1, a.eval p.2))
  | [] => trivial
  | p :: ps => ⟨⟨rfl, r.ev p.2⟩, parts_ev r ps⟩

theorem reckV_ok (hT : TOk P T) (r : Rel N0 W0 s β a w) {o : Oper} {y : AV × List Nat} (h : reckV T s o.op = some y) : ∃ v, (execOp a.eval o).run P w = .ok (.value v) w ∧ AR N0 β (Free s β w) w y.1 v := by
  have fin : ∀ (m : Sem Value) (op : Op), (∃ v, m.run P w = .ok v w ∧ AR N0 β (Free s β w) w y.1 v) → (execOp a.eval o = do pure (.value (← m))) → ∃ v, (execOp a.eval o).run P w = .ok (.value v) w ∧ AR N0 β (Free s β w) w y.1 v := by
    rintro m op ⟨v, hv, hr⟩ he
    refine ⟨v, ?_, hr⟩
    rw [he]
    simp only [Sem.run_bind, hv, Result.andThen_ok, Sem.run_pure]
  unfold reckV at h
  split at h
  · rename_i x ho
    cases h
    refine fin (pure (a.eval x)) o.op ⟨a.eval x, by simp, r.ev x⟩ ?_
    unfold execOp; rw [ho]; rfl
  · rename_i x ho
    cases h
    refine fin (pure (a.eval x)) o.op ⟨a.eval x, by simp, r.ev x⟩ ?_
    unfold execOp; rw [ho]; rfl
  · rename_i c x y' ho
    simp only [Option.map_eq_some_iff] at h
    obtain ⟨z, hz, rfl⟩ := h
    obtain ⟨u, hu, hr⟩ := rPick_ok (w := w) (P := P) hz (r.ev c) (r.ev x) (r.ev y')
    refine ⟨u, ?_, hr⟩
    unfold execOp; rw [ho]
    simp only [Sem.run_bind, Sem.run_pure] at hu ⊢
    cases hq : (asBool (a.eval c)).run P w with
    | ok b w2 => rw [hq] at hu; simp only [Result.andThen_ok] at hu ⊢; cases hu; rfl
    | _ => rw [hq] at hu; cases hu
  · rename_i t x ho
    refine fin _ o.op (rLoad_ok hT r h (r.ev x)) ?_
    unfold execOp; rw [ho]
  · rename_i op t x y' yt ho
    simp only [Option.map_eq_some_iff] at h
    obtain ⟨z, hz, rfl⟩ := h
    refine fin _ o.op (rBin_ok (xo := x) (yo := y') hT hz (r.ev x) (r.ev y')) ?_
    unfold execOp; rw [ho]
  · rename_i op t x ho
    simp only [Option.map_eq_some_iff] at h
    obtain ⟨z, hz, rfl⟩ := h
    refine fin _ o.op (rUn_ok hz (r.ev x)) ?_
    unfold execOp; rw [ho]
  · rename_i src dst x ho
    refine fin _ o.op (rConv_ok hT r h (r.ev x)) ?_
    unfold execOp; rw [ho]
  · rename_i t x lo hi ho
    unfold rSliceAll at h
    split at h
    · simp only [Option.map_eq_some_iff] at h
      obtain ⟨z, hz, rfl⟩ := h
      refine fin _ o.op (rCutS_ok hT hz (r.ev x) (optVal_ev r lo) (optVal_ev r hi)) ?_
      unfold execOp; rw [ho]; rfl
    · refine fin _ o.op (rSlice_ok hT r h (r.ev x) (optVal_ev r lo) (optVal_ev r hi)) ?_
      unfold execOp; rw [ho]; rfl
  · rename_i t x f ho
    simp only [Option.map_eq_some_iff] at h
    obtain ⟨z, hz, rfl⟩ := h
    refine fin _ o.op (rFieldAddr_ok hT hz (r.ev x)) ?_
    unfold execOp; rw [ho]
  · rename_i t x f ho
    simp only [Option.map_eq_some_iff] at h
    obtain ⟨z, hz, rfl⟩ := h
    refine fin _ o.op (rField_ok hT hz (r.ev x)) ?_
    unfold execOp; rw [ho]
  · rename_i t x i ho
    refine fin _ o.op (rIndexAddr_ok hT r h (r.ev x) (r.ev i)) ?_
    unfold execOp; rw [ho]
  · rename_i t x i ho
    simp only [Option.map_eq_some_iff] at h
    obtain ⟨z, hz, rfl⟩ := h
    refine fin _ o.op (rIndex_ok hT hz (r.ev x) (r.ev i)) ?_
    unfold execOp; rw [ho]
  · rename_i x i ho
    simp only [Option.map_eq_some_iff] at h
    obtain ⟨z, hz, rfl⟩ := h
    refine fin _ o.op (rExtract_ok hz (r.ev x)) ?_
    unfold execOp; rw [ho]
  · rename_i x ho
    have hx := r.ev x
    unfold rNil at h
    split at h
    · rename_i he
      cases h
      rw [he] at hx
      obtain ⟨pv, vs, b, _, _, hv⟩ := id hx
      refine ⟨a.eval x, ?_, hx⟩
      unfold execOp
      rw [ho]
      simp only [hv, Sem.run_pure]
    · rename_i he
      cases h
      rw [he] at hx
      obtain ⟨b, o', hv, _⟩ := id hx
      refine ⟨a.eval x, ?_, hx⟩
      unfold execOp
      rw [ho]
      simp only [hv, Sem.run_pure]
    · cases h
  · rename_i t ps ho
    simp only [Option.map_eq_some_iff] at h
    obtain ⟨z, hz, rfl⟩ := h
    refine fin _ o.op (rMk_ok hT hz (parts_ev r ps.toList)) ?_
    unfold execOp; rw [ho]
    have : (ps.map fun (i, x) => (i, a.eval x)) = (ps.toList.map fun p => (p.1, a.eval p.2)).toArray := by
      rw [← Array.toList_inj]; simp
    simp only [this]
  · rename_i args ts ho
    split at h
    · rename_i x t hx ht
      have ha : args = #[x] := by rw [← Array.toList_inj, hx]
      have hts : ts = #[t] := by rw [← Array.toList_inj, ht]
      subst ha; subst hts
      obtain ⟨u, hu, hr⟩ := rLen_ok (ty := o.type) hT r h (r.ev x)
      refine ⟨u, ?_, hr⟩
      unfold execOp; rw [ho]
      simp only [resolve, Sem.run_bind, Sem.run_pure, Result.andThen_ok, invoke, builtin, List.map_toArray, List.map_cons, List.map_nil, hu]
    · cases h
  · rename_i args ts ho
    unfold rMinMax at h
    split at h
    · rename_i x y' hx
      have ha : args = #[x, y'] := by rw [← Array.toList_inj, hx]
      subst ha
      simp only [Option.map_eq_some_iff] at h
      obtain ⟨z, hz, rfl⟩ := h
      obtain ⟨u, hu, hr⟩ := rMin_ok (P := P) (w := w) (m := false) (ts := ts) (ty := o.type) hz (r.ev x) (r.ev y')
      refine ⟨u, ?_, hr⟩
      unfold execOp; rw [ho]
      simp only [if_true, if_false, Bool.false_eq_true] at hu
      simp only [resolve, Sem.run_bind, Sem.run_pure, Result.andThen_ok, invoke, builtin, List.map_toArray, List.map_cons, List.map_nil, hu]
    · cases h
  · rename_i args ts ho
    unfold rMinMax at h
    split at h
    · rename_i x y' hx
      have ha : args = #[x, y'] := by rw [← Array.toList_inj, hx]
      subst ha
      simp only [Option.map_eq_some_iff] at h
      obtain ⟨z, hz, rfl⟩ := h
      obtain ⟨u, hu, hr⟩ := rMin_ok (P := P) (w := w) (m := true) (ts := ts) (ty := o.type) hz (r.ev x) (r.ev y')
      refine ⟨u, ?_, hr⟩
      unfold execOp; rw [ho]
      simp only [if_true, if_false, Bool.false_eq_true] at hu
      simp only [resolve, Sem.run_bind, Sem.run_pure, Result.andThen_ok, invoke, builtin, List.map_toArray, List.map_cons, List.map_nil, hu]
    · cases h
  · cases h

theorem EffU_V (hT : TOk P T) {o : Oper} {y : AV × List Nat} (hd : Oper.dstOk o s.n = true) (h : reckV T s o.op = some y) : EffU P o s { val := y.1, log := y.2 } := by
  intro s2 h1 h2 h3 h4
  have hev : ∀ x ∈ o.op.operands, s2.ev x = s.ev x := fun x hx => slots_ev h2 hx
  have hc := reckV_congr h hev h3
  have := OpOK.val (P := P) (o := o) (s := s2) (av := y.1) (by rw [h1]; exact Oper.dstOk_spec hd) fun N0 W0 β a w r => reckV_ok hT r hc
  exact this

/-! ### What turns the world -/

/-- An operation that yields a value (or nothing) and turns the world. -/
theorem OpOK.turn {o : Oper} {e : Eff} (hd : ∀ d, o.dst = some d → d < s.n)
    (h : ∀ N0 W0 β a w, Rel N0 W0 s β a w → ∃ v w' β', ((execOp a.eval o).run P w = .ok (.value v) w' ∨ ((execOp a.eval o).run P w = .ok .skip w' ∧ v = undef)) ∧
      Rel N0 W0 { s with H := e.sets ++ s.H, used := e.fresh ++ s.used } β' a w' ∧ AR N0 β' (Free { s with H := e.sets ++ s.H, used := e.fresh ++ s.used } β' w') w' e.val v) :
    OpOK P o s (s.app o.dst e) := by
  intro N0 W0 β a w r K Q hK
  obtain ⟨v, w', β', hr, r', hv⟩ := h N0 W0 β a w r
  have fin : K (a.put o.dst v) w' := by
    refine hK β' _ w' ?_
    cases hdst : o.dst with
    | none => exact r'
    | some d => exact r'.put (hd d hdst) hv
  unfold Oper.wp
  rcases hr with hr | ⟨hr, rfl⟩
  · rw [hr, Oper.upon_value]; exact fin
  · rw [hr, Oper.upon_skip]; exact fin

theorem rStore_log {t : Nat} {p v : AV} {y : List (Nat × Option Obj) × List Nat} (h : rStore T s t p v = some y) : ∃ id k i j, p = .one (.ptr id k i j) ∧ id ∈ y.2 := by
  unfold rStore at h
  split at h
  · rename_i id k i j
    refine ⟨id, k, i, j, rfl, ?_⟩
    split at h
    · simp only [Option.bind_eq_some_iff] at h
      obtain ⟨ds, _, h⟩ := h
      split at h
      · cases h; simp
      · cases h
    · split at h
      · split at h
        · simp only [Option.bind_eq_some_iff] at h
          obtain ⟨ds, _, h⟩ := h
          split at h
          · cases h; simp
          · cases h
        · cases h
        · split at h
          · split at h
            · cases h; simp
            · cases h
          · cases h
      · cases h
    · cases h
  · cases h

theorem rStore_congr {t : Nat} {p v : AV} {y : List (Nat × Option Obj) × List Nat} (h : rStore T s t p v = some y) (ha : ∀ i ∈ y.2, s'.obj i = s.obj i) : rStore T s' t p v = some y := by
  obtain ⟨id, k, i, j, rfl, hm⟩ := rStore_log h
  unfold rStore at h ⊢
  simp only [ha _ hm]
  exact h

theorem rLoadOwn_congr {t : Nat} {x : AV} {y : Eff} (h : rLoadOwn T s t x = some y) (ha : ∀ i ∈ y.log, s'.obj i = s.obj i) : rLoadOwn T s' t x = some y := by
  unfold rLoadOwn at h
  split at h
  · rename_i id i
    have hm : y.log = [id] := by
      split at h
      · split at h
        · simp only [Option.map_eq_some_iff] at h; obtain ⟨_, _, rfl⟩ := h; rfl
        · cases h
      · cases h
    rw [hm] at ha
    unfold rLoadOwn
    simp only [ha _ List.mem_cons_self]
    exact h
  · cases h

theorem rDst_congr {e : Nat} {x : AV} {d : Option Nat × List El} (h : rDst T s e x = some d) (ha : ∀ i ∈ d.1.toList, s'.obj i = s.obj i) : rDst T s' e x = some d := by
  have key : ∀ id : Nat, d.1 = some id → s'.obj id = s.obj id := fun id hd => ha id (by rw [hd]; simp)
  unfold rDst at h ⊢
  split at h <;> try (exact h)
  · rename_i id
    have hd : d.1 = some id := by
      split at h
      · split at h <;> cases h; rfl
      · split at h <;> cases h; rfl
      · cases h
    simp only [key _ hd]
    exact h
  · rename_i id n
    have hd : d.1 = some id := by
      split at h
      · split at h <;> cases h; rfl
      · cases h
    simp only [key _ hd]
    exact h

theorem rSrc_congr {e : Nat} {x : AV} {q : List El × List Nat} (h : rSrc T s e x = some q) (ha : ∀ i ∈ q.2, s'.obj i = s.obj i) : rSrc T s' e x = some q := by
  unfold rSrc at h ⊢
  split at h <;> try (exact h)
  · rename_i id
    have hd : q.2 = [id] := by
      split at h
      · split at h <;> cases h; rfl
      · split at h <;> cases h; rfl
      · cases h
    rw [hd] at ha
    simp only [ha _ List.mem_cons_self]
    exact h
  · rename_i id n
    have hd : q.2 = [id] := by
      split at h
      · split at h <;> cases h; rfl
      · cases h
    rw [hd] at ha
    simp only [ha _ List.mem_cons_self]
    exact h
  · rename_i id k l n
    have hd : q.2 = [id] := by
      split at h
      · split at h <;> cases h; rfl
      · cases h
    rw [hd] at ha
    simp only [ha _ List.mem_cons_self]
    exact h

theorem rAppend_congr {t id' : Nat} {x y : AV} {f : Eff} (h : rAppend T s t id' x y = some f) (ha : ∀ i ∈ f.log, s'.obj i = s.obj i) : rAppend T s' t id' x y = some f := by
  unfold rAppend at h ⊢
  split at h
  · split at h
    · rename_i hok
      simp only [hok, if_true]
      simp only [Option.bind_eq_some_iff] at h ⊢
      obtain ⟨d, hd, q, hq, h⟩ := h
      split at h
      · rename_i hle
        cases h
        exact ⟨d, rDst_congr hd (fun i hi => ha i (by simp only [List.mem_append]; exact .inl hi)), q, rSrc_congr hq (fun i hi => ha i (by simp [hi])), by simp [hle]⟩
      · cases h
    · cases h
  · cases h

theorem rAppend_id {t id' : Nat} {x y : AV} {f : Eff} (h : rAppend T s t id' x y = some f) : f.fresh = [id'] := by
  unfold rAppend at h
  split at h
  · split at h
    · simp only [Option.bind_eq_some_iff] at h
      obtain ⟨d, hd, q, hq, h⟩ := h
      split at h
      · cases h; rfl
      · cases h
    · cases h
  · cases h

def numbered : Nat → List (Nat × Operand) → Bool
  | _, [] => true
  | k, p :: r => p.1 == k && numbered (k + 1) r

theorem numbered_ok : ∀ {k : Nat} {ps : List (Nat × Operand)}, numbered k ps = true → ps = numberFrom k (ps.map (·.2))
  | _, [], _ => rfl
  | k, p :: r, h => by
    simp only [numbered, Bool.and_eq_true, beq_iff_eq] at h
    obtain ⟨h1, h2⟩ := h
    simp only [List.map_cons, numberFrom]
    rw [← numbered_ok h2, ← h1]

def newId (o : Oper) : Nat := 8 * o.dst.getD 0

/-- What an operation does that turns the world. -/
def reckW (T : Tys) (s : AS) (o : Oper) : Option Eff :=
  match o.op with
  | .load t x => rLoadOwn T s t (s.ev x)
  | .store t p x => (rStore T s t (s.ev p) (s.ev x)).map fun y => { val := .tup [], sets := y.1, log := y.2 }
  | .alloc t => (zeroA T t).bind fun z => (rBox T t z).map fun cs => newE (newId o) (.one (.ptr (newId o) 1 0 0)) (.box t cs)
  | .box t x => (rBox T t (s.ev x)).map fun cs => newE (newId o) (.one (.ptr (newId o) 1 0 0)) (.box t cs)
  | .buildSlice t len ps => if numbered 0 ps.toList = true then (rBuild T t len ((ps.toList.map (·.2)).map s.ev)).map fun ob => newE (newId o) (.one (.ref (newId o))) ob else none
  | .makeSlice t l c => (rMake T t (s.ev l) (s.ev c)).map fun ob => newE (newId o) (.one (.ref (newId o))) ob
  | .call ⟨.builtin .append, args, ts⟩ => match args.toList, ts.toList with
    | [x, y], [t, t'] => if t = t' then rAppend T s t (newId o) (s.ev x) (s.ev y) else none
    | _, _ => none
  | _ => none

theorem EffU_W (hT : TOk P T) {o : Oper} {e : Eff} (hd : Oper.dstOk o s.n = true) (h : reckW T s o = some e) : EffU P o s e := by
  unfold reckW at h
  split at h
  · rename_i t x ho
    intro s2 h1 h2 h3 h4
    have hx : s2.ev x = s.ev x := slots_ev h2 (by rw [ho]; simp [Op.operands])
    have hc := rLoadOwn_congr h h3
    rw [← hx] at hc
    refine OpOK.turn (by rw [h1]; exact Oper.dstOk_spec hd) fun N0 W0 β a w r => ?_
    obtain ⟨hf, u, hu, r', hr⟩ := rLoadOwn_ok hT r hc (r.ev x)
    rw [hf]
    refine ⟨u, w, β, .inl ?_, r', hr⟩
    unfold execOp; rw [ho]
    simp only [Sem.run_bind, hu, Result.andThen_ok, Sem.run_pure]
  · rename_i t p x ho
    simp only [Option.map_eq_some_iff] at h
    obtain ⟨y, hy, rfl⟩ := h
    intro s2 h1 h2 h3 h4
    have hx : s2.ev x = s.ev x := slots_ev h2 (by rw [ho]; simp [Op.operands])
    have hp : s2.ev p = s.ev p := slots_ev h2 (by rw [ho]; simp [Op.operands])
    have hc := rStore_congr hy h3
    rw [← hx, ← hp] at hc
    refine OpOK.turn (by rw [h1]; exact Oper.dstOk_spec hd) fun N0 W0 β a w r => ?_
    obtain ⟨w', β', hu, r'⟩ := rStore_ok hT r hc (r.ev p) (r.ev x)
    refine ⟨undef, w', β', .inr ⟨?_, rfl⟩, r', ⟨[], rfl, trivial⟩⟩
    unfold execOp; rw [ho]
    simp only [Sem.run_bind, hu, Result.andThen_ok, Sem.run_pure]
  · rename_i t ho
    simp only [Option.bind_eq_some_iff, Option.map_eq_some_iff] at h
    obtain ⟨z, hz, cs, hcs, rfl⟩ := h
    exact EffU_alloc hT ho hd hz hcs
  · rename_i t x ho
    simp only [Option.map_eq_some_iff] at h
    obtain ⟨cs, hcs, rfl⟩ := h
    exact EffU_box ho hd hcs
  · rename_i t len ps ho
    split at h
    · rename_i hn
      simp only [Option.map_eq_some_iff] at h
      obtain ⟨ob, hob, rfl⟩ := h
      have hps : ps = (numberFrom 0 (ps.toList.map (·.2))).toArray := by rw [← Array.toList_inj]; exact numbered_ok hn
      exact EffU_build hT (by rw [ho]; congr 1) hd hob
    · cases h
  · rename_i t l c ho
    simp only [Option.map_eq_some_iff] at h
    obtain ⟨ob, hob, rfl⟩ := h
    exact EffU_make hT ho hd hob
  · rename_i args ts ho
    split at h
    · rename_i x y t t' hx ht
      have ha : args = #[x, y] := by rw [← Array.toList_inj, hx]
      have hts : ts = #[t, t'] := by rw [← Array.toList_inj, ht]
      subst ha; subst hts
      split at h
      · rename_i htt
        subst htt
        intro s2 h1 h2 h3 h4
        have hx : s2.ev x = s.ev x := slots_ev h2 (by rw [ho]; simp [Op.operands, Call.operands])
        have hy : s2.ev y = s.ev y := slots_ev h2 (by rw [ho]; simp [Op.operands, Call.operands])
        have hc := rAppend_congr h h3
        rw [← hx, ← hy] at hc
        have hid : newId o ∉ s2.used := h4 _ (by rw [rAppend_id h]; simp)
        refine OpOK.turn (by rw [h1]; exact Oper.dstOk_spec hd) fun N0 W0 β a w r => ?_
        obtain ⟨v, w', β', hu, r', hr⟩ := rAppend_ok (ty := o.type) hT r hc hid (r.ev x) (r.ev y)
        refine ⟨v, w', β', .inl ?_, r', hr⟩
        unfold execOp; rw [ho]
        simp only [resolve, Sem.run_bind, Sem.run_pure, Result.andThen_ok, invoke, builtin, List.map_toArray, List.map_cons, List.map_nil, hu]
      · cases h
    · cases h
  · cases h

/-- All of it. -/
def reck (T : Tys) : Reck := fun o s =>
  if Oper.dstOk o s.n = true then
    match reckV T s o.op with
    | some y => some { val := y.1, log := y.2 }
    | none => reckW T s o
  else none

theorem reck_ok (hT : TOk P T) : Reck.Ok P (reck T) := by
  intro o s e h
  unfold reck at h
  split at h
  · rename_i hd
    split at h
    · rename_i y hy
      cases h
      exact EffU_V hT hd hy
    · exact EffU_W hT hd h
  · cases h

end
end Go.Eng
