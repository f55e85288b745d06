import Derived.Test.YtfgpcfdoahgkpaaGreatE1
set_option linter.unusedVariables false
set_option linter.unusedSimpArgs false
set_option linter.unnecessarySimpa false
/- The engine, part 29: clear at the tail of a row. -/
set_option linter.unusedVariables false
namespace Go.Eng
open Go Go.RowKit

section
variable {N0 : Nat} {W0 : World} {s s' : AS} {β β' : Plc} {a : Act} {w w' : World} {P : Program} {T : Tys}

theorem owns_setTail {B e k l n : Nat} {b m cap : Nat} {xs zs : List El} {cur : Array Value} (h : w.ownsRow B e k (.slice (some ⟨b, 0, none⟩) m cap) xs.length (cellsOf xs)) (hb : w.heap[b]? = some (.cells cur e (0, 0)))
    (hf : Flat k xs) (hl : l + n = xs.length) (hz : zs.length = n) (hfz : Flat k zs) :
    (w.setRow b (cur.toList.take (l * k) ++ cellsOf zs ++ cur.toList.drop (l * k + (cellsOf zs).length)).toArray).ownsRow B e k (.slice (some ⟨b, 0, none⟩) m cap) (xs.take l ++ zs).length (cellsOf (xs.take l ++ zs)) := by
  have hlen : (xs.take l ++ zs).length = xs.length := by simp; omega
  have hcz : (cellsOf zs).length = n * k := by rw [← hz]; exact flat_len hfz
  have hlk : l * k + n * k = xs.length * k := by rw [← Nat.add_mul, hl]
  refine ⟨flat_len ((hf.take l).append hfz), ?_⟩
  rcases h.2 with ⟨hh, _⟩ | ⟨g, cap', cur', hv, hbg, hg, hc, hm, hs, ht⟩
  · cases hh
  · cases hv
    rw [hb] at hg; cases hg
    have hck : xs.length * k ≤ cap * k := Nat.mul_le_mul_right _ hc
    have hcl : cur.toList.length = cap * k := by simpa using hs
    refine .inr ⟨b, cap, _, ?_, hbg, setRow_heap w b cur _ e _ hb, by rw [hlen]; exact hc, hm, ?_, ?_⟩
    · rw [hlen]
    · simp only [List.size_toArray, List.length_append, List.length_take, List.length_drop, hcl, hcz]
      omega
    · rw [hlen, cellsOf_append, cellsOf_take l hf, ← ht, List.take_take, Nat.min_eq_left (by omega)]
      have e1 : (cur.toList.take (l * k) ++ cellsOf zs).length = xs.length * k := by rw [List.length_append, List.length_take, hcl, hcz, Nat.min_eq_left (by omega)]; omega
      rw [List.take_append, List.take_of_length_le (by rw [e1]; exact Nat.le_refl _), e1, Nat.sub_self, List.take_zero, List.append_nil]

/-- clear(s[l:]) -/
def rClear (T : Tys) (s : AS) (t : Nat) (x : AV) : Option Eff :=
  match T t, x with
  | .sl e, .one (.win id k l n) => match s.obj id with
    | some (.flat e' k' xs) => if k = k' ∧ kOf T e = k ∧ l + n = xs.length then (zeroEl T e).map fun z => { val := .tup [], sets := [(id, some (.flat e' k (xs.take l ++ List.replicate n z)))], log := [id] } else none
    | _ => none
  | _, _ => none

theorem EffU_clear (hT : TOk P T) {o : Oper} {t : Nat} {x : Operand} {e : Eff} (ho : o.op = .call ⟨.builtin .clear, #[x], #[t]⟩) (hd : Oper.dstOk o s.n = true) (h : rClear T s t (s.ev x) = some e) : EffU P o s e := by
  unfold rClear at h
  split at h
  · rename_i el id k l n ht hx
    split at h
    · rename_i e' k' xs hob
      split at h
      · rename_i hc
        obtain ⟨rfl, hk, hln⟩ := hc
        simp only [Option.map_eq_some_iff] at h
        obtain ⟨z, hz, rfl⟩ := h
        intro s2 h1 h2 h3 h4
        have hxx : s2.ev x = s.ev x := slots_ev h2 (by rw [ho]; simp [Op.operands, Call.operands])
        have hob2 : s2.obj id = some (.flat e' k xs) := by rw [h3 id (by simp)]; exact hob
        refine OpOK.turn (by rw [h1]; exact Oper.dstOk_spec hd) fun N0 W0 β a w r => ?_
        have hxv := r.ev x
        rw [hxx, hx] at hxv
        obtain ⟨p, m, cap, vs, hp, hle, p', cap', hev, hcap, hpp⟩ := hxv
        obtain ⟨ov2, vs2, hp2, hat, hbl⟩ := r.obj id _ hob2
        rw [hp] at hp2; cases hp2
        have hu := hT t
        rw [ht] at hu
        obtain ⟨i, zv, bytes, g1, g2, g3, g4, g5, g6, g7, g8, g9⟩ := zeroEl_ok hT hz
        rw [hk] at g7 g8
        have hfz : Flat k (List.replicate n z) := fun y hy => by rw [List.eq_of_mem_replicate hy]; exact g7
        have hrun0 : ∀ v w', (Builtin.clear_ #[t] o.type #[a.eval x]).run P w = .ok v w' → (execOp a.eval o).run P w = .ok (.value v) w' := by
          intro v w' hr
          unfold execOp
          rw [ho]
          simp [resolve, invoke, builtin, hr, Result.andThen]
        have hzl : (List.replicate n z).length = n := by simp
        have hmx : m = xs.length := by obtain ⟨_, _, he, _⟩ := owns_len hat.1; cases he; rfl
        by_cases hn0 : n = 0
        · have hxs : xs.take l ++ List.replicate n z = xs := by subst hn0; simp; rw [List.take_of_length_le (by omega)]
          refine ⟨.tuple #[], w, β.set id (.slice p m cap, vs), .inl (hrun0 _ _ ?_), ?_, ⟨[], rfl, trivial⟩⟩
          · rw [hev, hn0]
            cases p' <;> simp [Builtin.clear_, run_underlying hu.1, Result.andThen]
          · exact r.store (id := id) hob2 hp (w' := w) (World.grownBy.refl w _) (o' := .flat e' k (xs.take l ++ List.replicate n z)) (vs' := vs) (fun F β' _ _ => by rw [hxs]; exact hat) (fun b hb => hb)
        · rcases hpp with hn1 | ⟨b, hpb, hpb'⟩
          · exact absurd hn1 hn0
          subst hpb
          rcases hat.1.2 with ⟨hh, _⟩ | ⟨g, cap2, cur, hg1, hbg, hg, hcc, hm, hs, htk⟩
          · cases hh
          · cases hg1
            have hzc : (Builtin.zeroCells zv.cells n).toList = cellsOf (List.replicate n z) := by
              have hzs : zv.cells.size = k := by
                have := congrArg List.length g6
                simpa [g7] using this
              have e1 : Builtin.zeroCells zv.cells n = madeCells zv.cells (n * k) := by unfold Builtin.zeroCells madeCells; rw [hzs]
              rw [e1, madeCells_rep hzs g8, g6, cellsOf_rep]
            have hcz : (cellsOf (List.replicate n z)).length = n * k := by have := flat_len hfz; rwa [hzl] at this
            have hck : xs.length * k ≤ cap * k := Nat.mul_le_mul_right _ hcc
            have hlk : l * k + n * k = xs.length * k := by rw [← Nat.add_mul, hln]
            have hst := run_storeCells_at P b (l * k) e' (cellsOf (List.replicate n z)) 0 cur w hg (by simp [hs, hcz]; omega) (fun u hu => by obtain ⟨y, _, rfl⟩ := List.mem_map.1 hu; exact y.val_one)
            simp only [Nat.add_zero] at hst
            refine ⟨.tuple #[], w.setRow b (cur.toList.take (l * k) ++ cellsOf (List.replicate n z) ++ cur.toList.drop (l * k + (cellsOf (List.replicate n z)).length)).toArray, β.set id (.slice (some ⟨b, 0, none⟩) xs.length cap, vs), .inl (hrun0 _ _ ?_), ?_, ⟨[], rfl, trivial⟩⟩
            · rw [hev, hpb']
              obtain ⟨n', rfl⟩ : ∃ n', n = n' + 1 := ⟨n - 1, by omega⟩
              have hzv : (zeroValue el).run P w = .ok zv w := by
                simp [zeroValue, typeInfo, g1, g5, Result.andThen]
              simp [Builtin.clear_, run_underlying hu.1, hzv, hzc, hst, Result.andThen]
            · have hgr := grownBy_setRow w b (cur.toList.take (l * k) ++ cellsOf (List.replicate n z) ++ cur.toList.drop (l * k + (cellsOf (List.replicate n z)).length)).toArray
              exact r.store (id := id) hob2 hp hgr (o' := .flat e' k (xs.take l ++ List.replicate n z)) (vs' := vs) (fun F β' _ _ => ⟨owns_setTail hat.1 hg hat.2 hln hzl hfz, (hat.2.take l).append hfz⟩) (fun b hb => hb)
      · cases h
    · cases h
  · cases h

variable {ops : Array Oper} {o : Oper} {r : List Oper} {k : AS → Prop} {tr : List (Option Eff)} {kl : List (Option Eff) → AS → Prop} {t : Nat} {x : Operand} {e : Eff}

theorem reck_clear (ho : o.op = .call ⟨.builtin .clear, #[x], #[t]⟩) : reck T o s = none := by
  have h1 : reckV T s o.op = none := by rw [ho]; rfl
  have h2 : reckW T s o = none := by unfold reckW; rw [ho]
  unfold reck
  rw [h1, h2]
  split <;> rfl

theorem rClear_fresh (h : rClear T s t (s.ev x) = some e) : freshB s e = true := by
  unfold rClear at h
  split at h
  · split at h
    · split at h
      · simp only [Option.map_eq_some_iff] at h
        obtain ⟨z, _, rfl⟩ := h
        rfl
      · cases h
    · cases h
  · cases h

theorem w_clr (hT : TOk P T) (ho : o.op = .call ⟨.builtin .clear, #[x], #[t]⟩) {c : Bool} (hg : gsay ops s o = some c) (hc : c = true) (hd : Oper.dstOk o s.n = true) (h : rClear T s t (s.ev x) = some e)
    (hs : s.app o.dst e = s') (hk : walkN P (reck T) ops r s' k) : walkN P (reck T) ops (o :: r) s k :=
  w_call (hc ▸ hg) (reck_clear ho) (EffU_clear hT ho hd h) (rClear_fresh h) hs hk
end
attribute [go_sem] rClear
end Go.Eng
/- The engine, part 30: calls of function values; the state at a loop's head, made out of the state ahead of it. -/
set_option linter.unusedVariables false
namespace Go.Eng
open Go Go.RowKit

section
variable {N0 : Nat} {W0 : World} {s s' : AS} {β β' : Plc} {a : Act} {w w' : World} {P : Program} {T : Tys}

/-! ### A call of a function value that has captured one variable of plain cells -/

def Oper.isClo (o : Oper) (t : Nat) (xs : List Operand) (ts : List Nat) : Prop := o.op = .call { callee := .value (.tmp t), args := xs.toArray, argTypes := ts.toArray }

theorem Args.app {args bs : List AV} {vals us : List Value} (h : Args w args vals) (h' : Args w bs us) : Args w (args ++ bs) (vals ++ us) := All2.app h h'

theorem EffU_clo (f t id : Nat) (fn : Func) (xs : List Operand) (ts : List Nat) (S : Spec) {o : Oper} (ho : Oper.isClo o t xs ts) (hS : Sat P f S) (hf : P.funcs[f]? = some fn) (hb : fn.body.isNone = false) (hn : (fn.name == "runtime.NumGoroutine") = false)
    (hd : Oper.dstOk o s.n = true) (hclo : s.get t = .one (.clo f id)) {e : Nat} {cs : List CV} {ss : List Sc} (hbox : s.obj id = some (.box e cs)) (hss : scsOf cs = some ss)
    (base : Nat) (args : List AV) (log : List Nat) (hsn : snapAs T s ts (xs.map s.ev) = some (args, log)) (av : AV) (objs : List Obj) (hSp : S (args ++ [.one (.iptr ss)]) av objs) (hpl : plainT av = true) (hpo : objs.all plainO = true) :
    EffU P o s (callE base av objs (id :: log)) := by
  intro s2 h1 h2 h3 h4 N0 W0 β a w r K Q hK
  have hops : ∀ x ∈ xs, x ∈ o.op.operands := fun x hx => by
    rw [show o.op = _ from ho]
    simp [Op.operands, Call.operands, hx]
  have htop : Operand.tmp t ∈ o.op.operands := by
    rw [show o.op = _ from ho]
    simp [Op.operands, Call.operands]
  have hclo2 : s2.ev (.tmp t) = .one (.clo f id) := (slots_ev h2 htop).trans hclo
  have hbox2 : s2.obj id = some (.box e cs) := by rw [h3 id (by simp [callE])]; exact hbox
  have hsn2 : snapAs T s2 ts (xs.map s2.ev) = some (args, log) := by
    rw [list_evs h2 hops]
    exact snapAs_congr hsn (fun i hi => h3 i (by simp [callE, hi]))
  have hargs := snapAs_ok r hsn2 (all2_ev r xs)
  have hv := r.ev (.tmp t)
  rw [hclo2] at hv
  obtain ⟨pv, vs, b, hp, hpv, hval⟩ := hv
  obtain ⟨pv2, vs2, hp2, hat, hbk⟩ := r.obj id _ hbox2
  rw [hp] at hp2; cases hp2
  obtain ⟨b2, arr, g1, g2, g3, g4⟩ := hat
  have hb2 : b2 = b := by rw [hpv] at g1; cases g1; rfl
  subst hb2
  have hlt : b2 < w.heap.size := (hbk b2 (.inl (by rw [g1]; rfl))).2
  have hcells := scsOf_ok hss g4
  have hptr : Args w [.one (.iptr ss)] [.pointer (some ⟨b2, 0, none⟩)] := by
    refine ⟨⟨b2, 0, rfl, hlt, fun j x hx => ?_⟩, trivial⟩
    rw [Nat.zero_add, cell_of_row w b2 j arr e (0, 0) g3]
    have : arr.toList[j]? = some x.val := by rw [hcells]; simp [hx]
    simpa using this
  have hrun : (execOp a.eval o).run P w = .ok (.enter f (xs.map a.eval ++ [Value.pointer (some ⟨b2, 0, none⟩)]).toArray) w := by
    have he : execOp a.eval o = callFunc f (#[] ++ (xs.map a.eval).toArray ++ #[Value.pointer (some ⟨b2, 0, none⟩)]) := by
      unfold execOp
      rw [show o.op = _ from ho]
      simp only [resolve, hval, Deferred.ofValue, List.map_toArray]
      rfl
    rw [he, run_callFunc hf hb hn]
    simp
  unfold Oper.wp
  rw [hrun, Oper.upon_enter]
  refine (hS _ av objs hSp w (xs.map a.eval ++ [Value.pointer (some ⟨b2, 0, none⟩)]) (Args.app hargs hptr)).mono ?_
  rintro e w' ⟨v, rfl, hbel, ps, hl, hv, hat, hdj⟩
  obtain ⟨r', hext, hnew, hkeep⟩ := r.allocL (base := base) (objs := objs) (ps := ps) hbel hl (fun i hi => h4 i hi) (fun j o' p hj hp => by
    obtain ⟨h5, h6⟩ := hat j o' p hj hp
    have hpo' : plainO o' = true := List.all_eq_true.1 hpo o' (List.mem_of_getElem? hj)
    exact ⟨fun β' F _ _ _ => objAt_base r.size0 hpo' h5, h6⟩) hdj
  have hav : AR N0 (β.add base ps) (Free { s2 with H := objH base objs ++ s2.H, used := idsFrom base objs.length ++ s2.used } (β.add base ps) w') w' (shT base av) v := shT_ok hnew hpl hv
  cases hdst : o.dst with
  | none => exact hK (β.add base ps) a w' (by rw [hdst]; exact r')
  | some d =>
    refine hK (β.add base ps) _ w' ?_
    rw [hdst]
    exact r'.put (d := d) (by have := Oper.dstOk_spec hd d hdst; rw [show s2.n = s.n from h1]; exact this) hav

variable {ops : Array Oper} {o : Oper} {r : List Oper} {k : AS → Prop} {tr : List (Option Eff)} {kl : List (Option Eff) → AS → Prop}

theorem reck_clo {t : Nat} {xs : List Operand} {ts : List Nat} (ho : Oper.isClo o t xs ts) : reck T o s = none := by
  have h1 : reckV T s o.op = none := by rw [show o.op = _ from ho]; rfl
  have h2 : reckW T s o = none := by unfold reckW; rw [show o.op = _ from ho]
  unfold reck
  rw [h1, h2]
  split <;> rfl

/-! ### The state at a loop's head -/

/-- What is changed at a loop's head: an object of a slot; a cell of a slot's variable; the first row that a slot's variable (or a slot's struct) holds. -/
inductive Ov where
  | obj (k : Nat) (o : Obj)
  | cell (k j : Nat) (c : CV)
  | inner (k : Nat) (o : Obj)

def getO : List (Nat × AV) → Nat → AV → AV
  | [], _, d => d
  | (j, v) :: r, k, d => if j = k then v else getO r k d

def ovE (u : List (Nat × AV)) : List (Nat × AV) → List (Nat × AV)
  | [] => []
  | (k, v) :: r => (k, getO u k v) :: ovE u r

def idsC : CV → List Nat
  | .ref i => [i]
  | .ptr i _ _ _ => [i]
  | .pre i _ => [i]
  | .win i _ _ _ => [i]
  | .clo _ i => [i]
  | _ => []
def idsL : List CV → List Nat
  | [] => []
  | c :: r => idsC c ++ idsL r
def idsA : AV → List Nat
  | .one c => idsC c
  | .agg cs => idsL cs
  | _ => []
def idsO : Option Obj → List Nat
  | some (.box _ cs) => idsL cs
  | some (.cvs _ cs) => idsL cs
  | _ => []
def addI : List Nat → List Nat → List Nat
  | acc, [] => acc
  | acc, i :: r => addI (if acc.contains i then acc else acc ++ [i]) r
def idsE : List Nat → List (Nat × AV) → List Nat
  | acc, [] => acc
  | acc, (_, v) :: r => idsE (addI acc (idsA v)) r
def idsP : List (Nat × Option Obj) → List Nat
  | [] => []
  | (i, o) :: r => match o with
    | some (.pin _ _) => addI [i] (idsP r)
    | some (.stay j _) => addI [i, j] (idsP r)
    | _ => idsP r
def idsR (H : Nat → Option Obj) : List Nat → List Nat → List Nat
  | acc, [] => acc
  | acc, i :: r => idsR H (addI acc (idsO (H i))) r

def headI : List Nat → Nat
  | [] => 999999
  | i :: _ => i

def setH (H : List (Nat × Option Obj)) (i : Nat) (o : Option Obj) : List (Nat × Option Obj) := (i, o) :: H

def cellO (o : Option Obj) (j : Nat) (c : CV) : Option Obj :=
  match o with
  | some (.box e cs) => some (.box e (cs.set j c))
  | o => o

def innerI (H : List (Nat × Option Obj)) (v : AV) : Nat :=
  match v with
  | .agg cs => headI (idsL cs)
  | .one c => headI (idsO (lookO H (headI (idsC c))))
  | _ => 999999

def ovH (env : List (Nat × AV)) : List Ov → List (Nat × Option Obj) → List (Nat × Option Obj)
  | [], H => H
  | .obj k o :: r, H => ovH env r (setH H (headI (idsA (look env k))) (some o))
  | .cell k j c :: r, H => ovH env r (setH H (headI (idsA (look env k))) (cellO (lookO H (headI (idsA (look env k)))) j c))
  | .inner k o :: r, H => ovH env r (setH H (innerI H (look env k)) (some o))

def mapH (H : List (Nat × Option Obj)) : List Nat → List (Nat × Option Obj)
  | [] => []
  | i :: r => (i, lookO H i) :: mapH H r

/-- The state with some slots and objects changed, and nothing kept that no slot leads to. -/
def overS (s : AS) (u : List (Nat × AV)) (os : List Ov) : AS :=
  let env := ovE u s.env
  let H := ovH env os s.H
  let l1 := idsE (idsP s.H) env
  let l2 := idsR (lookO H) l1 l1
  let l3 := idsR (lookO H) l2 l2
  { n := s.n, env := env, H := mapH H l3, used := l3 }

def getS : List (Nat × Src) → Nat → Src
  | [], _ => .nil
  | (j, v) :: r, k => if j = k then v else getS r k

/-- Which objects of the old state those of the new one are. -/
def mpC (c c' : CV) (m : List (Nat × Src)) : List (Nat × Src) :=
  match c' with
  | .ref i' => match c with
    | .ref i => (i', .obj i) :: m
    | .pre i n => (i', .cut i n) :: m
    | .nil => (i', .nil) :: m
    | _ => m
  | .ptr i' _ _ _ => match c with
    | .ptr i _ _ _ => (i', .obj i) :: m
    | _ => m
  | .pre i' _ => match c with
    | .pre i _ => (i', .obj i) :: m
    | _ => m
  | .win i' _ _ _ => match c with
    | .win i _ _ _ => (i', .obj i) :: m
    | _ => m
  | .clo _ i' => match c with
    | .clo _ i => (i', .obj i) :: m
    | _ => m
  | _ => m
def mpL : List CV → List CV → List (Nat × Src) → List (Nat × Src)
  | [], _, m => m
  | c :: r, l, m => match l with
    | [] => m
    | c' :: r' => mpC c c' (mpL r r' m)
def mpA (v v' : AV) (m : List (Nat × Src)) : List (Nat × Src) :=
  match v' with
  | .one c' => match v with
    | .one c => mpC c c' m
    | _ => m
  | .agg cs' => match v with
    | .agg cs => mpL cs cs' m
    | _ => m
  | _ => m
def mpE (t : AS) : List (Nat × AV) → List (Nat × Src) → List (Nat × Src)
  | [], m => m
  | (k, v') :: r, m => mpA (look t.env k) v' (mpE t r m)
def mpO (t : AS) (m : List (Nat × Src)) : List (Nat × Option Obj) → List (Nat × Src)
  | [] => m
  | (i, o') :: r => match o' with
    | some (.box _ cs') => match lookS m i with
      | some (.obj j) => match lookO t.H j with
        | some (.box _ cs) => mpL cs cs' (mpO t m r)
        | _ => mpO t m r
      | _ => mpO t m r
    | some (.cvs _ cs') => match lookS m i with
      | some (.obj j) => match lookO t.H j with
        | some (.cvs _ cs) => mpL cs cs' (mpO t m r)
        | _ => mpO t m r
      | _ => mpO t m r
    | some (.pin _ _) => (i, .obj i) :: mpO t m r
    | some (.stay j _) => (i, .obj i) :: (j, .obj j) :: mpO t m r
    | _ => mpO t m r
def mapU (m : List (Nat × Src)) : List Nat → List (Nat × Src)
  | [] => []
  | i :: r => (i, getS m i) :: mapU m r
def mkMap (t s' : AS) : List (Nat × Src) :=
  let m0 := mpE t s'.env []
  let m1 := mpO t m0 s'.H
  let m2 := mpO t m1 s'.H
  mapU m2 s'.used

theorem mapU_fst (m : List (Nat × Src)) : ∀ l : List Nat, (mapU m l).map (·.1) = l
  | [] => rfl
  | i :: r => by simp [mapU, mapU_fst m r]

/-- A weaker state, the numbers of its objects found out. -/
theorem weak_map {s s' : AS} {m : List (Nat × Src)} (hm : mkMap s s' = m) (hn : s'.n = s.n) (hd : distinctB m = true)
    (henv : ∀ p ∈ s'.env, AVm m (s.get p.1) p.2)
    (hobj : ∀ p ∈ s'.H, match p.2 with | none => True | some o' => ∃ src, lookS m p.1 = some src ∧ OBm m s src o') : Weak s s' := by
  refine weak_of m hn hd henv hobj ?_
  rw [← hm]
  exact (mapU_fst _ _).symm
end

attribute [go_sem] overS ovE getO idsC idsL idsA idsO addI idsE idsP idsR headI setH cellO innerI ovH mapH getS mpC mpL mpA mpE mpO mapU mkMap
end Go.Eng
/- The engine, part 31: the steps of a walk with what each asks filled in. -/
set_option linter.unusedVariables false
namespace Go.Eng
open Go Go.RowKit

section
variable {s s' : AS} {P : Program} {T : Tys} {E : Reck} {K : Nat → List Nat} {Q : Exit → AS → Prop}
variable {ops : Array Oper} {o : Oper} {r : List Oper} {k : AS → Prop} {tr : List (Option Eff)} {kl : List (Option Eff) → AS → Prop} {e : Eff} {l : List Nat} {os : List Oper}

theorem z_op (hg : o.guard = none := by rfl) (h : stp T o s = some s' := by simp (disch := first | omega | (simp; omega)) [go_sem, -Option.map_eq_some_iff]; rfl) (k0 : walkN P (reck T) ops r s' k) : walkN P (reck T) ops (o :: r) s k := w_op hg h k0
theorem z_opl (hg : gsay ops s o = some true := by rfl) (h : stl T o s = some (e, s') := by simp (disch := first | omega | (simp; omega)) [go_sem, -Option.map_eq_some_iff]; exact ⟨rfl, rfl⟩) (k0 : walkL P (reck T) ops r s' (tr ++ [some e]) kl) : walkL P (reck T) ops (o :: r) s tr kl := l_op hg h k0
theorem z_end (hk : s.keep l = s' := by simp [go_sem]; rfl) (h : Q .normal s') : walkN P E ops [] s (kReg l Q) := w_end hk h
theorem z_endl (ht : traceOk os.toArray (Region.before os.toArray).toList (zipE os tr) = true := by kernel_rfl) (hk : s.keep l = s' := by simp [go_sem]; rfl) (h : Q .normal s') : walkL P E ops [] s tr (kDrw l os Q) := l_end ht hk h
theorem z_yes (hg : gsay ops s o = some true) (h : stp T o s = some s' := by simp (disch := first | omega | (simp; omega)) [go_sem, -Option.map_eq_some_iff]; rfl) (k0 : walkN P (reck T) ops r s' k) : walkN P (reck T) ops (o :: r) s k := w_yes hg h k0
theorem z_no (hg : gsay ops s o = some false) (hd : Oper.dstOk o s.n = true := by rfl) (hs : s.app o.dst skipE = s' := by simp [go_sem, skipE]; rfl) (k0 : walkN P E ops r s' k) : walkN P E ops (o :: r) s k := w_no hg hd hs k0
theorem z_op2 (hg : o.guard = none := by rfl) (h : stp T o s = some s' := by simp (disch := first | omega | (simp; omega)) [go_sem, -Option.map_eq_some_iff, *]; rfl) (k0 : walkN P (reck T) ops r s' k) : walkN P (reck T) ops (o :: r) s k := w_op hg h k0
theorem z_yes2 (hg : gsay ops s o = some true) (h : stp T o s = some s' := by simp (disch := first | omega | (simp; omega)) [go_sem, -Option.map_eq_some_iff, *]; rfl) (k0 : walkN P (reck T) ops r s' k) : walkN P (reck T) ops (o :: r) s k := w_yes hg h k0
theorem z_yesl (hg : gsay ops s o = some true) (h : stl T o s = some (e, s') := by simp (disch := first | omega | (simp; omega)) [go_sem, -Option.map_eq_some_iff, *]; exact ⟨rfl, rfl⟩) (k0 : walkL P (reck T) ops r s' (tr ++ [some e]) kl) : walkL P (reck T) ops (o :: r) s tr kl := l_op hg h k0
theorem z_nol (hg : gsay ops s o = some false) (hd : Oper.dstOk o s.n = true := by rfl) (hs : s.app o.dst skipE = s' := by simp [go_sem, skipE]; rfl) (k0 : walkL P E ops r s' (tr ++ [none]) kl) : walkL P E ops (o :: r) s tr kl := l_no hg hd hs k0

/-- An operation without a guard; with one. -/
theorem z_plain (hg : o.guard = none := by rfl) (k0 : walkN P E ops (o :: r) s k) : walkN P E ops (o :: r) s k := k0
theorem z_plainl (hg : o.guard = none := by rfl) (k0 : walkL P E ops (o :: r) s tr kl) : walkL P E ops (o :: r) s tr kl := k0
def isCallB (o : Oper) : Bool := match o.op with
  | .call ⟨.value _, _, _⟩ => true
  | _ => false
theorem z_isc (h : isCallB o = true := by rfl) (k0 : walkN P E ops (o :: r) s k) : walkN P E ops (o :: r) s k := k0
theorem z_iscl (h : isCallB o = true := by rfl) (k0 : walkL P E ops (o :: r) s tr kl) : walkL P E ops (o :: r) s tr kl := k0

@[irreducible] def GV (ops : Array Oper) (s : AS) (o : Oper) (v want : Bool) : Prop := ∃ j, o.guard = some (j, want) ∧ guardAV ops s j = .one (.sc (.bool v))
theorem gv_say {v want : Bool} (h : GV ops s o v want) : gsay ops s o = some (v == want) := by
  unfold GV at h
  obtain ⟨j, h1, h2⟩ := h
  simp only [gsay, h1, h2]
theorem gv_tt (h : GV ops s o true true) : gsay ops s o = some true := gv_say h
theorem gv_ff (h : GV ops s o false false) : gsay ops s o = some true := gv_say h
theorem gv_tf (h : GV ops s o true false) : gsay ops s o = some false := gv_say h
theorem gv_ft (h : GV ops s o false true) : gsay ops s o = some false := gv_say h
theorem z_guard {j : Nat} {want v : Bool} (hp : o.guard = some (j, want) := by rfl) (h : guardAV ops s j = .one (.sc (.bool v)) := by simp [go_sem, *, -Bool.not_eq_eq_eq_not]; rfl) (k0 : GV ops s o v want → walkN P E ops (o :: r) s k) : walkN P E ops (o :: r) s k := k0 (by unfold GV; exact ⟨j, hp, h⟩)
theorem z_guardl {j : Nat} {want v : Bool} (hp : o.guard = some (j, want) := by rfl) (h : guardAV ops s j = .one (.sc (.bool v)) := by simp [go_sem, *, -Bool.not_eq_eq_eq_not]; rfl) (k0 : GV ops s o v want → walkL P E ops (o :: r) s tr kl) : walkL P E ops (o :: r) s tr kl := k0 (by unfold GV; exact ⟨j, hp, h⟩)
theorem z_spl {v want : Bool} {A B : Prop} (h : GV ops s o v want) (hA : (v = true) = A := by (try simp only [Bool.not_eq_true', Bool.not_eq_false', Bool.and_eq_true, Bool.and_eq_false_imp, Bool.or_eq_true, Bool.or_eq_false_iff, Bool.not_eq_true, Bool.not_eq_false, decide_eq_true_eq, decide_eq_false_iff_not, Int.not_lt, Int.not_le, ge_iff_le, gt_iff_lt, decide_true, decide_false, Bool.false_eq_true, reduceCtorEq, beq_iff_eq, beq_eq_false_iff_ne, ne_eq, bne_iff_ne, bne_eq_false_iff_eq, and_true, true_and, and_false, false_and]); rfl) (hB : (v = false) = B := by (try simp only [Bool.not_eq_true', Bool.not_eq_false', Bool.and_eq_true, Bool.and_eq_false_imp, Bool.or_eq_true, Bool.or_eq_false_iff, Bool.not_eq_true, Bool.not_eq_false, decide_eq_true_eq, decide_eq_false_iff_not, Int.not_lt, Int.not_le, ge_iff_le, gt_iff_lt, decide_true, decide_false, Bool.false_eq_true, reduceCtorEq, beq_iff_eq, beq_eq_false_iff_ne, ne_eq, bne_iff_ne, bne_eq_false_iff_eq, and_true, true_and, and_false, false_and]); rfl)
    (h1 : A → v = true → walkN P E ops (o :: r) s k) (h2 : B → v = false → walkN P E ops (o :: r) s k) : walkN P E ops (o :: r) s k := by
  subst hA; subst hB
  cases v
  · exact h2 rfl rfl
  · exact h1 rfl rfl
theorem z_spll {v want : Bool} {A B : Prop} (h : GV ops s o v want) (hA : (v = true) = A := by (try simp only [Bool.not_eq_true', Bool.not_eq_false', Bool.and_eq_true, Bool.and_eq_false_imp, Bool.or_eq_true, Bool.or_eq_false_iff, Bool.not_eq_true, Bool.not_eq_false, decide_eq_true_eq, decide_eq_false_iff_not, Int.not_lt, Int.not_le, ge_iff_le, gt_iff_lt, decide_true, decide_false, Bool.false_eq_true, reduceCtorEq, beq_iff_eq, beq_eq_false_iff_ne, ne_eq, bne_iff_ne, bne_eq_false_iff_eq, and_true, true_and, and_false, false_and]); rfl) (hB : (v = false) = B := by (try simp only [Bool.not_eq_true', Bool.not_eq_false', Bool.and_eq_true, Bool.and_eq_false_imp, Bool.or_eq_true, Bool.or_eq_false_iff, Bool.not_eq_true, Bool.not_eq_false, decide_eq_true_eq, decide_eq_false_iff_not, Int.not_lt, Int.not_le, ge_iff_le, gt_iff_lt, decide_true, decide_false, Bool.false_eq_true, reduceCtorEq, beq_iff_eq, beq_eq_false_iff_ne, ne_eq, bne_iff_ne, bne_eq_false_iff_eq, and_true, true_and, and_false, false_and]); rfl)
    (h1 : A → v = true → walkL P E ops (o :: r) s tr kl) (h2 : B → v = false → walkL P E ops (o :: r) s tr kl) : walkL P E ops (o :: r) s tr kl := by
  subst hA; subst hB
  cases v
  · exact h2 rfl rfl
  · exact h1 rfl rfl
theorem z_cond {c : Operand} {x y : Code} {v : Bool} {A B : Prop} (h : s.ev c = .one (.sc (.bool v)) := by simp [go_sem, *, -Bool.not_eq_eq_eq_not]; rfl)
    (hA : (v = true) = A := by (try simp only [Bool.not_eq_true', Bool.not_eq_false', Bool.and_eq_true, Bool.and_eq_false_imp, Bool.or_eq_true, Bool.or_eq_false_iff, Bool.not_eq_true, Bool.not_eq_false, decide_eq_true_eq, decide_eq_false_iff_not, Int.not_lt, Int.not_le, ge_iff_le, gt_iff_lt, decide_true, decide_false, Bool.false_eq_true, reduceCtorEq, beq_iff_eq, beq_eq_false_iff_ne, ne_eq, bne_iff_ne, bne_eq_false_iff_eq, and_true, true_and, and_false, false_and]); rfl)
    (hB : (v = false) = B := by (try simp only [Bool.not_eq_true', Bool.not_eq_false', Bool.and_eq_true, Bool.and_eq_false_imp, Bool.or_eq_true, Bool.or_eq_false_iff, Bool.not_eq_true, Bool.not_eq_false, decide_eq_true_eq, decide_eq_false_iff_not, Int.not_lt, Int.not_le, ge_iff_le, gt_iff_lt, decide_true, decide_false, Bool.false_eq_true, reduceCtorEq, beq_iff_eq, beq_eq_false_iff_ne, ne_eq, bne_iff_ne, bne_eq_false_iff_eq, and_true, true_and, and_false, false_and]); rfl)
    (h1 : A → v = true → awp P E K x Q s) (h2 : B → v = false → awp P E K y Q s) : awp P E K (.cond c x y) Q s := by
  subst hA; subst hB
  exact a_cond h (fun h => h1 h h) (fun h => h2 h h)

/-! ### Calls -/

section
variable {f : FuncId} {fn : Func} {xs : List Operand} {ts : List Nat} {S : Spec} {args : List AV} {log : List Nat} {av : AV} {objs : List Obj}

theorem z_fn (hS : Sat P f S) (hf : P.funcs[f]? = some fn) (ho : Oper.isCall o f xs ts := by rfl) (hb : fn.body.isNone = false := by rfl) (hn : (fn.name == "runtime.NumGoroutine") = false := by rfl)
    (hg : gsay ops s o = some true := by first | rfl | assumption) (hd : Oper.dstOk o s.n = true := by rfl) (hsn : snapAs T s ts (xs.map s.ev) = some (args, log) := by simp [go_sem]; exact ⟨rfl, rfl⟩) (hSp : S args av objs) (hpl : plainT av = true := by rfl) (hpo : objs.all plainO = true := by rfl)
    (hfr : freshB s (callE (8 * o.dst.getD 0) av objs log) = true := by rfl) (hs : s.app o.dst (callE (8 * o.dst.getD 0) av objs log) = s' := by simp [go_sem]; rfl) (k0 : walkN P (reck T) ops r s' k) : walkN P (reck T) ops (o :: r) s k :=
  w_fn hS ho hf hb hn hg rfl hd hsn hSp hpl hpo hfr hs k0
theorem z_fnl (hS : Sat P f S) (hf : P.funcs[f]? = some fn) (ho : Oper.isCall o f xs ts := by rfl) (hb : fn.body.isNone = false := by rfl) (hn : (fn.name == "runtime.NumGoroutine") = false := by rfl)
    (hg : gsay ops s o = some true := by first | rfl | assumption) (hd : Oper.dstOk o s.n = true := by rfl) (hsn : snapAs T s ts (xs.map s.ev) = some (args, log) := by simp [go_sem]; exact ⟨rfl, rfl⟩) (hSp : S args av objs) (hpl : plainT av = true := by rfl) (hpo : objs.all plainO = true := by rfl)
    (hfr : freshB s (callE (8 * o.dst.getD 0) av objs log) = true := by rfl) (hs : s.app o.dst (callE (8 * o.dst.getD 0) av objs log) = s' := by simp [go_sem]; rfl) (k0 : walkL P (reck T) ops r s' (tr ++ [some (callE (8 * o.dst.getD 0) av objs log)]) kl) : walkL P (reck T) ops (o :: r) s tr kl :=
  l_fn hS ho hf hb hn hg rfl hd hsn hSp hpl hpo hfr hs k0

theorem z_clo {t id e1 : Nat} {cs : List CV} {ss : List Sc} (hS : Sat P f S) (hf : P.funcs[f]? = some fn) (ho : Oper.isClo o t xs ts := by rfl) (hb : fn.body.isNone = false := by rfl) (hn : (fn.name == "runtime.NumGoroutine") = false := by rfl)
    (hg : gsay ops s o = some true := by first | rfl | assumption) (hd : Oper.dstOk o s.n = true := by rfl) (hclo : s.get t = .one (.clo f id) := by rfl) (hbox : s.obj id = some (.box e1 cs) := by rfl) (hss : scsOf cs = some ss := by rfl) (hsn : snapAs T s ts (xs.map s.ev) = some (args, log) := by simp [go_sem]; exact ⟨rfl, rfl⟩) (hSp : S (args ++ [.one (.iptr ss)]) av objs) (hpl : plainT av = true := by rfl) (hpo : objs.all plainO = true := by rfl)
    (hfr : freshB s (callE (8 * o.dst.getD 0) av objs (id :: log)) = true := by rfl) (hs : s.app o.dst (callE (8 * o.dst.getD 0) av objs (id :: log)) = s' := by simp [go_sem]; rfl) (k0 : walkN P (reck T) ops r s' k) : walkN P (reck T) ops (o :: r) s k :=
  w_call hg (reck_clo ho) (EffU_clo f t id fn xs ts S ho hS hf hb hn hd hclo hbox hss _ args log hsn av objs hSp hpl hpo) hfr hs k0
theorem z_clol {t id e1 : Nat} {cs : List CV} {ss : List Sc} (hS : Sat P f S) (hf : P.funcs[f]? = some fn) (ho : Oper.isClo o t xs ts := by rfl) (hb : fn.body.isNone = false := by rfl) (hn : (fn.name == "runtime.NumGoroutine") = false := by rfl)
    (hg : gsay ops s o = some true := by first | rfl | assumption) (hd : Oper.dstOk o s.n = true := by rfl) (hclo : s.get t = .one (.clo f id) := by rfl) (hbox : s.obj id = some (.box e1 cs) := by rfl) (hss : scsOf cs = some ss := by rfl) (hsn : snapAs T s ts (xs.map s.ev) = some (args, log) := by simp [go_sem]; exact ⟨rfl, rfl⟩) (hSp : S (args ++ [.one (.iptr ss)]) av objs) (hpl : plainT av = true := by rfl) (hpo : objs.all plainO = true := by rfl)
    (hfr : freshB s (callE (8 * o.dst.getD 0) av objs (id :: log)) = true := by rfl) (hs : s.app o.dst (callE (8 * o.dst.getD 0) av objs (id :: log)) = s' := by simp [go_sem]; rfl) (k0 : walkL P (reck T) ops r s' (tr ++ [some (callE (8 * o.dst.getD 0) av objs (id :: log))]) kl) : walkL P (reck T) ops (o :: r) s tr kl :=
  l_call hg (reck_clo ho) (EffU_clo f t id fn xs ts S ho hS hf hb hn hd hclo hbox hss _ args log hsn av objs hSp hpl hpo) hfr hs k0
end

section
variable {f : FuncId} {fn : Func} {xs : List Operand} {ts : List Nat} {args : List AV} {id : Nat} {ob ob' : Obj}

theorem z_fnR {S : SpecM} {x : Sc} (hS : SatM P f S) (hf : P.funcs[f]? = some fn) (ho : Oper.isCall o f xs ts := by rfl) (hb : fn.body.isNone = false := by rfl) (hn : (fn.name == "runtime.NumGoroutine") = false := by rfl)
    (hg : gsay ops s o = some true := by first | rfl | assumption) (hd : Oper.dstOk o s.n = true := by rfl) (hid : refAs (xs.map s.ev) = some id := by simp [go_sem]; rfl) (hob : s.obj id = some ob := by simp [go_sem]; rfl) (hargs : mAs id (xs.map s.ev) = some args := by simp [go_sem]; rfl) (hSp : S args ob x ob') (hpo : plainO ob = true := by rfl) (hpo' : plainO ob' = true := by rfl)
    (hs : s.app o.dst { val := .one (.sc x), sets := [(id, some ob')], log := [id] } = s' := by simp [go_sem]; rfl) (k0 : walkN P (reck T) ops r s' k) : walkN P (reck T) ops (o :: r) s k :=
  w_fnR hS ho hf hb hn hg rfl hd hid hob hargs hSp hpo hpo' hs k0
theorem z_fnRl {S : SpecM} {x : Sc} (hS : SatM P f S) (hf : P.funcs[f]? = some fn) (ho : Oper.isCall o f xs ts := by rfl) (hb : fn.body.isNone = false := by rfl) (hn : (fn.name == "runtime.NumGoroutine") = false := by rfl)
    (hg : gsay ops s o = some true := by first | rfl | assumption) (hd : Oper.dstOk o s.n = true := by rfl) (hid : refAs (xs.map s.ev) = some id := by simp [go_sem]; rfl) (hob : s.obj id = some ob := by simp [go_sem]; rfl) (hargs : mAs id (xs.map s.ev) = some args := by simp [go_sem]; rfl) (hSp : S args ob x ob') (hpo : plainO ob = true := by rfl) (hpo' : plainO ob' = true := by rfl)
    (hs : s.app o.dst { val := .one (.sc x), sets := [(id, some ob')], log := [id] } = s' := by simp [go_sem]; rfl) (k0 : walkL P (reck T) ops r s' (tr ++ [some { val := .one (.sc x), sets := [(id, some ob')], log := [id] }]) kl) : walkL P (reck T) ops (o :: r) s tr kl :=
  l_fnR hS ho hf hb hn hg rfl hd hid hob hargs hSp hpo hpo' hs k0
theorem z_fnX {S : SpecX} (hS : SatX P f S) (hf : P.funcs[f]? = some fn) (ho : Oper.isCall o f xs ts := by rfl) (hb : fn.body.isNone = false := by rfl) (hn : (fn.name == "runtime.NumGoroutine") = false := by rfl)
    (hg : gsay ops s o = some true := by first | rfl | assumption) (hd : Oper.dstOk o s.n = true := by rfl) (hid : refAs (xs.map s.ev) = some id := by simp [go_sem]; rfl) (hob : s.obj id = some ob := by simp [go_sem]; rfl) (hargs : mAs id (xs.map s.ev) = some args := by simp [go_sem]; rfl) (hSp : S args ob ob') (hpo : isFlat ob = true := by rfl) (hpo' : isFlat ob' = true := by rfl)
    (hfr : freshB s (effX id (8 * o.dst.getD 0) ob') = true := by rfl) (hs : s.app o.dst (effX id (8 * o.dst.getD 0) ob') = s' := by simp [go_sem]; rfl) (k0 : walkN P (reck T) ops r s' k) : walkN P (reck T) ops (o :: r) s k :=
  w_fnX hS ho hf hb hn hg rfl hd hid hob hargs hSp hpo hpo' hfr hs k0
theorem z_fnV {S : SpecX} (hS : SatV P f S) (hf : P.funcs[f]? = some fn) (ho : Oper.isCall o f xs ts := by rfl) (hb : fn.body.isNone = false := by rfl) (hn : (fn.name == "runtime.NumGoroutine") = false := by rfl)
    (hg : gsay ops s o = some true := by first | rfl | assumption) (hd : Oper.dstOk o s.n = true := by rfl) (hid : refAs (xs.map s.ev) = some id := by simp [go_sem]; rfl) (hob : s.obj id = some ob := by simp [go_sem]; rfl) (hargs : mAs id (xs.map s.ev) = some args := by simp [go_sem]; rfl) (hSp : S args ob ob') (hpo : plainO ob = true := by rfl) (hpo' : plainO ob' = true := by rfl)
    (hs : s.app o.dst (effV id ob') = s' := by simp [go_sem]; rfl) (k0 : walkN P (reck T) ops r s' k) : walkN P (reck T) ops (o :: r) s k :=
  w_fnV hS ho hf hb hn hg rfl hd hid hob hargs hSp hpo hpo' hs k0
end

/-! ### Loops and the end -/

theorem z_loop {ι : Type} (u : ι → List (Nat × AV)) (ov : ι → List Ov) (I : ι → Prop) (μ : ι → Nat) (i0 : ι) {c : Code} {S : ι → AS} {m : List (Nat × Src)}
    (hS : ∀ i, overS s (u i) (ov i) = S i := by intro i; simp [go_sem]; rfl) (hm : mkMap s (S i0) = m := by simp [go_sem]; rfl) (hn : (S i0).n = s.n := by rfl) (hd : distinctB m = true := by rfl)
    (h0 : I i0) (henv : ∀ p ∈ (S i0).env, AVm m (s.get p.1) p.2) (hobj : ∀ p ∈ (S i0).H, match p.2 with | none => True | some o' => ∃ src, lookS m p.1 = some src ∧ OBm m s src o')
    (h : ∀ i, I i → awp P E K c (kLop S I μ i Q) (S i)) : awp P E K (.loop c) Q s :=
  a_loop S I μ i0 h0 (weak_map hm hn hd henv hobj) h

theorem z_lop {ι : Type} {S : ι → AS} {I : ι → Prop} {μ : ι → Nat} {i : ι} {m : List (Nat × Src)} (j : ι)
    (hm : mkMap s (S j) = m := by simp [go_sem]; rfl) (hn : (S j).n = s.n := by rfl) (hd : distinctB m = true := by rfl)
    (hj : I j) (hmu : μ j < μ i) (henv : ∀ p ∈ (S j).env, AVm m (s.get p.1) p.2) (hobj : ∀ p ∈ (S j).H, match p.2 with | none => True | some o' => ∃ src, lookS m p.1 = some src ∧ OBm m s src o') : kLop S I μ i Q .normal s :=
  k_lop j hj hmu (weak_map hm hn hd henv hobj)

theorem z_ret {rs : List ResultVar} {av av' : AV} {objs : List Obj} {acc : Acc} (h : retA T s rs = some (av', acc) := by simp [go_sem]; first | exact ⟨rfl, rfl⟩ | rfl) (hv : av' = av) (ho : acc.map (·.1) = objs) : retOK T rs av objs .ret s := k_ret h hv ho
theorem z_retT (id : Nat) {rs : List ResultVar} {av av' : AV} {objs : List Obj} {acc : Acc} (h : retA T (s.thaw id) rs = some (av', acc) := by simp [go_sem]; first | exact ⟨rfl, rfl⟩ | rfl) (hv : av' = av) (ho : acc.map (·.1) = objs) : retOK T rs av objs .ret s := k_retT id h hv ho
end

attribute [go_sem] rStoreA rStoreR rAppendA rAppendR rSrcR rowIn Md.strict Md.frz killL rMakeFunc AS.thaw plainR plainE thawO isFlat

/-! ### Short names of arguments and results -/
abbrev aI (n : Int) : AV := .one (.sc (.int n))
abbrev aB (b : Bool) : AV := .one (.sc (.bool b))
abbrev aS (b : ByteArray) : AV := .one (.sc (.str b))
abbrev aL (l : List Int) : AV := .one (.imm 1 (ints l))
abbrev aR (i : Nat) : AV := .one (.ref i)
end Go.Eng
/- The engine, part 32: contracts at hand (by class), and the steps of a walk in short. -/
set_option linter.unusedVariables false
namespace Go.Eng
open Go Go.RowKit

/-- The function is there and is no function of the runtime's own. -/
def FnOk (P : Program) (f : FuncId) : Prop := ∃ fn, P.funcs[f]? = some fn ∧ fn.body.isNone = false ∧ (fn.name == "runtime.NumGoroutine") = false
class Con (P : Program) (f : FuncId) (S : outParam Spec) : Prop where
  sat : Sat P f S
  ok : FnOk P f
class ConM (P : Program) (f : FuncId) (S : outParam SpecM) : Prop where
  sat : SatM P f S
  ok : FnOk P f
class ConX (P : Program) (f : FuncId) (S : outParam SpecX) : Prop where
  sat : SatX P f S
  ok : FnOk P f
class ConV (P : Program) (f : FuncId) (S : outParam SpecX) : Prop where
  sat : SatV P f S
  ok : FnOk P f
section
variable {P : Program} {f : FuncId} {fn : Func}
theorem con {S : Spec} (h : Sat P f S) (hf : P.funcs[f]? = some fn) (hb : fn.body.isNone = false := by rfl) (hn : (fn.name == "runtime.NumGoroutine") = false := by rfl) : Con P f S := ⟨h, fn, hf, hb, hn⟩
theorem conM {S : SpecM} (h : SatM P f S) (hf : P.funcs[f]? = some fn) (hb : fn.body.isNone = false := by rfl) (hn : (fn.name == "runtime.NumGoroutine") = false := by rfl) : ConM P f S := ⟨h, fn, hf, hb, hn⟩
theorem conX {S : SpecX} (h : SatX P f S) (hf : P.funcs[f]? = some fn) (hb : fn.body.isNone = false := by rfl) (hn : (fn.name == "runtime.NumGoroutine") = false := by rfl) : ConX P f S := ⟨h, fn, hf, hb, hn⟩
theorem conV {S : SpecX} (h : SatV P f S) (hf : P.funcs[f]? = some fn) (hb : fn.body.isNone = false := by rfl) (hn : (fn.name == "runtime.NumGoroutine") = false := by rfl) : ConV P f S := ⟨h, fn, hf, hb, hn⟩
/-- Two contracts of one function. -/
def orS (A B : Spec) : Spec := fun args av objs => A args av objs ∨ B args av objs
theorem con2 {A B : Spec} (a : Sat P f A) (b : Sat P f B) (hf : P.funcs[f]? = some fn) (hb : fn.body.isNone = false := by rfl) (hn : (fn.name == "runtime.NumGoroutine") = false := by rfl) : Con P f (orS A B) :=
  ⟨fun args av objs h => h.elim (a args av objs) (b args av objs), fn, hf, hb, hn⟩
end

/-- The contract that a theorem states. -/
@[reducible] def specOf {P : Program} {f : FuncId} {S : Spec} (_ : Sat P f S) : Spec := S
@[reducible] def specOfM {P : Program} {f : FuncId} {S : SpecM} (_ : SatM P f S) : SpecM := S
@[reducible] def specOfX {P : Program} {f : FuncId} {S : SpecX} (_ : SatX P f S) : SpecX := S
@[reducible] def specOfV {P : Program} {f : FuncId} {S : SpecX} (_ : SatV P f S) : SpecX := S

/-- A premise of a contract, found by what is at hand. -/
theorem zp {p : Prop} (h : p := by first | assumption | omega | (simp; done) | (simp; omega) | (((repeat' refine And.intro ?_ ?_) <;> first | assumption | omega | (simp; done) | (simp; omega)); done) | (simp at *; omega)) : p := h

section
variable {s s' : AS} {P : Program} {T : Tys} {E : Reck} {K : Nat → List Nat} {Q : Exit → AS → Prop}
variable {ops : Array Oper} {o : Oper} {r : List Oper} {k : AS → Prop} {tr : List (Option Eff)} {kl : List (Option Eff) → AS → Prop} {e : Eff} {l : List Nat} {os : List Oper}

/-! ### Steps -/
theorem ya (k0 : walkN P E ops (o :: r) s k) (hg : o.guard = none := by rfl) : walkN P E ops (o :: r) s k := k0
theorem yA (k0 : walkL P E ops (o :: r) s tr kl) (hg : o.guard = none := by rfl) : walkL P E ops (o :: r) s tr kl := k0
theorem yb (k0 : walkN P E ops (o :: r) s k) (h : isCallB o = true := by rfl) : walkN P E ops (o :: r) s k := k0
theorem yB (k0 : walkL P E ops (o :: r) s tr kl) (h : isCallB o = true := by rfl) : walkL P E ops (o :: r) s tr kl := k0
theorem ye (k0 : walkN P (reck T) ops r s' k) (hg : o.guard = none := by rfl) (h : stp T o s = some s' := by first | (simp (disch := first | omega | (simp; omega)) [go_sem, -Option.map_eq_some_iff]; rfl) | (simp (disch := first | omega | (simp; omega)) [go_sem, -Option.map_eq_some_iff, *]; rfl)) : walkN P (reck T) ops (o :: r) s k := w_op hg h k0
theorem yE (k0 : walkL P (reck T) ops r s' (tr ++ [some e]) kl) (hg : gsay ops s o = some true := by rfl) (h : stl T o s = some (e, s') := by first | (simp (disch := first | omega | (simp; omega)) [go_sem, -Option.map_eq_some_iff]; exact ⟨rfl, rfl⟩) | (simp (disch := first | omega | (simp; omega)) [go_sem, -Option.map_eq_some_iff, *]; exact ⟨rfl, rfl⟩)) : walkL P (reck T) ops (o :: r) s tr kl := l_op hg h k0
theorem yy (hg : gsay ops s o = some true) (k0 : walkN P (reck T) ops r s' k) (h : stp T o s = some s' := by first | (simp (disch := first | omega | (simp; omega)) [go_sem, -Option.map_eq_some_iff]; rfl) | (simp (disch := first | omega | (simp; omega)) [go_sem, -Option.map_eq_some_iff, *]; rfl)) : walkN P (reck T) ops (o :: r) s k := w_yes hg h k0
theorem yY (hg : gsay ops s o = some true) (k0 : walkL P (reck T) ops r s' (tr ++ [some e]) kl) (h : stl T o s = some (e, s') := by first | (simp (disch := first | omega | (simp; omega)) [go_sem, -Option.map_eq_some_iff]; exact ⟨rfl, rfl⟩) | (simp (disch := first | omega | (simp; omega)) [go_sem, -Option.map_eq_some_iff, *]; exact ⟨rfl, rfl⟩)) : walkL P (reck T) ops (o :: r) s tr kl := l_op hg h k0
theorem yn (hg : gsay ops s o = some false) (k0 : walkN P E ops r s' k) (hd : Oper.dstOk o s.n = true := by rfl) (hs : s.app o.dst skipE = s' := by simp [go_sem, skipE]; rfl) : walkN P E ops (o :: r) s k := w_no hg hd hs k0
theorem yN (hg : gsay ops s o = some false) (k0 : walkL P E ops r s' (tr ++ [none]) kl) (hd : Oper.dstOk o s.n = true := by rfl) (hs : s.app o.dst skipE = s' := by simp [go_sem, skipE]; rfl) : walkL P E ops (o :: r) s tr kl := l_no hg hd hs k0
theorem yt (k0 : walkN P E ops r s' k) {j : Nat} {want : Bool} (hp : o.guard = some (j, want) := by rfl) (h : guardAV ops s j = .tup [] := by rfl) (hd : Oper.dstOk o s.n = true := by rfl) (hs : s.app o.dst skipE = s' := by simp [go_sem, skipE]; rfl) : walkN P E ops (o :: r) s k := w_no (by simp only [gsay, hp, h]) hd hs k0
theorem yT (k0 : walkL P E ops r s' (tr ++ [none]) kl) {j : Nat} {want : Bool} (hp : o.guard = some (j, want) := by rfl) (h : guardAV ops s j = .tup [] := by rfl) (hd : Oper.dstOk o s.n = true := by rfl) (hs : s.app o.dst skipE = s' := by simp [go_sem, skipE]; rfl) : walkL P E ops (o :: r) s tr kl := l_no (by simp only [gsay, hp, h]) hd hs k0
theorem yg {j : Nat} {want v : Bool} (k0 : GV ops s o v want → walkN P E ops (o :: r) s k) (hp : o.guard = some (j, want) := by rfl) (h : guardAV ops s j = .one (.sc (.bool v)) := by simp [go_sem, *, -Bool.not_eq_eq_eq_not]; rfl) : walkN P E ops (o :: r) s k := k0 (by unfold GV; exact ⟨j, hp, h⟩)
theorem yG {j : Nat} {want v : Bool} (k0 : GV ops s o v want → walkL P E ops (o :: r) s tr kl) (hp : o.guard = some (j, want) := by rfl) (h : guardAV ops s j = .one (.sc (.bool v)) := by simp [go_sem, *, -Bool.not_eq_eq_eq_not]; rfl) : walkL P E ops (o :: r) s tr kl := k0 (by unfold GV; exact ⟨j, hp, h⟩)
theorem yz (h : Q .normal s') (hk : s.keep l = s' := by simp [go_sem]; rfl) : walkN P E ops [] s (kReg l Q) := w_end hk h
theorem yZ (h : Q .normal s') (ht : traceOk os.toArray (Region.before os.toArray).toList (zipE os tr) = true := by kernel_rfl) (hk : s.keep l = s' := by simp [go_sem]; rfl) : walkL P E ops [] s tr (kDrw l os Q) := l_end ht hk h

/-! ### Calls -/
section
variable {f : FuncId} {xs : List Operand} {ts : List Nat} {args : List AV} {log : List Nat} {av : AV} {objs : List Obj} {S : Spec}

theorem yc (k0 : walkN P (reck T) ops r s' k) (ho : Oper.isCall o f xs ts := by rfl) (hS : Con P f S := by infer_instance) (hg : gsay ops s o = some true := by first | rfl | assumption) (hd : Oper.dstOk o s.n = true := by rfl) (hsn : snapAs T s ts (xs.map s.ev) = some (args, log) := by simp [go_sem]; exact ⟨rfl, rfl⟩)
    (hSp : S args av objs := by ((repeat apply Exists.intro); first | exact ⟨rfl, rfl, rfl⟩ | exact ⟨zp, rfl, rfl, rfl⟩ | exact ⟨zp, zp, zp, rfl, rfl, rfl⟩ | (refine Or.inl ?_; (repeat apply Exists.intro); first | exact ⟨rfl, rfl, rfl⟩ | exact ⟨zp, rfl, rfl, rfl⟩ | exact ⟨zp, zp, zp, rfl, rfl, rfl⟩) | (refine Or.inr ?_; (repeat apply Exists.intro); first | exact ⟨rfl, rfl, rfl⟩ | exact ⟨zp, rfl, rfl, rfl⟩ | exact ⟨zp, zp, zp, rfl, rfl, rfl⟩))) (hpl : plainT av = true := by rfl) (hpo : objs.all plainO = true := by rfl)
    (hfr : freshB s (callE (8 * o.dst.getD 0) av objs log) = true := by rfl) (hs : s.app o.dst (callE (8 * o.dst.getD 0) av objs log) = s' := by simp [go_sem]; rfl) : walkN P (reck T) ops (o :: r) s k := by
  obtain ⟨hS, fn, hf, hb, hn⟩ := hS
  exact w_fn hS ho hf hb hn hg rfl hd hsn hSp hpl hpo hfr hs k0
theorem yC (k0 : walkL P (reck T) ops r s' (tr ++ [some (callE (8 * o.dst.getD 0) av objs log)]) kl) (ho : Oper.isCall o f xs ts := by rfl) (hS : Con P f S := by infer_instance) (hg : gsay ops s o = some true := by first | rfl | assumption) (hd : Oper.dstOk o s.n = true := by rfl) (hsn : snapAs T s ts (xs.map s.ev) = some (args, log) := by simp [go_sem]; exact ⟨rfl, rfl⟩)
    (hSp : S args av objs := by ((repeat apply Exists.intro); first | exact ⟨rfl, rfl, rfl⟩ | exact ⟨zp, rfl, rfl, rfl⟩ | exact ⟨zp, zp, zp, rfl, rfl, rfl⟩ | (refine Or.inl ?_; (repeat apply Exists.intro); first | exact ⟨rfl, rfl, rfl⟩ | exact ⟨zp, rfl, rfl, rfl⟩ | exact ⟨zp, zp, zp, rfl, rfl, rfl⟩) | (refine Or.inr ?_; (repeat apply Exists.intro); first | exact ⟨rfl, rfl, rfl⟩ | exact ⟨zp, rfl, rfl, rfl⟩ | exact ⟨zp, zp, zp, rfl, rfl, rfl⟩))) (hpl : plainT av = true := by rfl) (hpo : objs.all plainO = true := by rfl)
    (hfr : freshB s (callE (8 * o.dst.getD 0) av objs log) = true := by rfl) (hs : s.app o.dst (callE (8 * o.dst.getD 0) av objs log) = s' := by simp [go_sem]; rfl) : walkL P (reck T) ops (o :: r) s tr kl := by
  obtain ⟨hS, fn, hf, hb, hn⟩ := hS
  exact l_fn hS ho hf hb hn hg rfl hd hsn hSp hpl hpo hfr hs k0
theorem yo {t id e1 : Nat} {cs : List CV} {ss : List Sc} (k0 : walkN P (reck T) ops r s' k) (ho : Oper.isClo o t xs ts := by rfl) (hclo : s.get t = .one (.clo f id) := by rfl) (hS : Con P f S := by infer_instance) (hg : gsay ops s o = some true := by first | rfl | assumption) (hd : Oper.dstOk o s.n = true := by rfl) (hbox : s.obj id = some (.box e1 cs) := by rfl) (hss : scsOf cs = some ss := by rfl) (hsn : snapAs T s ts (xs.map s.ev) = some (args, log) := by simp [go_sem]; exact ⟨rfl, rfl⟩)
    (hSp : S (args ++ [.one (.iptr ss)]) av objs := by ((repeat apply Exists.intro); first | exact ⟨rfl, rfl, rfl⟩ | exact ⟨zp, rfl, rfl, rfl⟩ | exact ⟨zp, zp, zp, rfl, rfl, rfl⟩ | (refine Or.inl ?_; (repeat apply Exists.intro); first | exact ⟨rfl, rfl, rfl⟩ | exact ⟨zp, rfl, rfl, rfl⟩ | exact ⟨zp, zp, zp, rfl, rfl, rfl⟩) | (refine Or.inr ?_; (repeat apply Exists.intro); first | exact ⟨rfl, rfl, rfl⟩ | exact ⟨zp, rfl, rfl, rfl⟩ | exact ⟨zp, zp, zp, rfl, rfl, rfl⟩))) (hpl : plainT av = true := by rfl) (hpo : objs.all plainO = true := by rfl)
    (hfr : freshB s (callE (8 * o.dst.getD 0) av objs (id :: log)) = true := by rfl) (hs : s.app o.dst (callE (8 * o.dst.getD 0) av objs (id :: log)) = s' := by simp [go_sem]; rfl) : walkN P (reck T) ops (o :: r) s k := by
  obtain ⟨hS, fn, hf, hb, hn⟩ := hS
  exact z_clo hS hf ho hb hn hg hd hclo hbox hss hsn hSp hpl hpo hfr hs k0
theorem yO {t id e1 : Nat} {cs : List CV} {ss : List Sc} (k0 : walkL P (reck T) ops r s' (tr ++ [some (callE (8 * o.dst.getD 0) av objs (id :: log))]) kl) (ho : Oper.isClo o t xs ts := by rfl) (hclo : s.get t = .one (.clo f id) := by rfl) (hS : Con P f S := by infer_instance) (hg : gsay ops s o = some true := by first | rfl | assumption) (hd : Oper.dstOk o s.n = true := by rfl) (hbox : s.obj id = some (.box e1 cs) := by rfl) (hss : scsOf cs = some ss := by rfl) (hsn : snapAs T s ts (xs.map s.ev) = some (args, log) := by simp [go_sem]; exact ⟨rfl, rfl⟩)
    (hSp : S (args ++ [.one (.iptr ss)]) av objs := by ((repeat apply Exists.intro); first | exact ⟨rfl, rfl, rfl⟩ | exact ⟨zp, rfl, rfl, rfl⟩ | exact ⟨zp, zp, zp, rfl, rfl, rfl⟩ | (refine Or.inl ?_; (repeat apply Exists.intro); first | exact ⟨rfl, rfl, rfl⟩ | exact ⟨zp, rfl, rfl, rfl⟩ | exact ⟨zp, zp, zp, rfl, rfl, rfl⟩) | (refine Or.inr ?_; (repeat apply Exists.intro); first | exact ⟨rfl, rfl, rfl⟩ | exact ⟨zp, rfl, rfl, rfl⟩ | exact ⟨zp, zp, zp, rfl, rfl, rfl⟩))) (hpl : plainT av = true := by rfl) (hpo : objs.all plainO = true := by rfl)
    (hfr : freshB s (callE (8 * o.dst.getD 0) av objs (id :: log)) = true := by rfl) (hs : s.app o.dst (callE (8 * o.dst.getD 0) av objs (id :: log)) = s' := by simp [go_sem]; rfl) : walkL P (reck T) ops (o :: r) s tr kl := by
  obtain ⟨hS, fn, hf, hb, hn⟩ := hS
  exact z_clol hS hf ho hb hn hg hd hclo hbox hss hsn hSp hpl hpo hfr hs k0
end
section
variable {f : FuncId} {xs : List Operand} {ts : List Nat} {args : List AV} {id : Nat} {ob ob' : Obj}
theorem yr {S : SpecM} {x : Sc} (k0 : walkN P (reck T) ops r s' k) (ho : Oper.isCall o f xs ts := by rfl) (hS : ConM P f S := by infer_instance) (hg : gsay ops s o = some true := by first | rfl | assumption) (hd : Oper.dstOk o s.n = true := by rfl) (hid : refAs (xs.map s.ev) = some id := by simp [go_sem]; rfl) (hob : s.obj id = some ob := by simp [go_sem]; rfl) (hargs : mAs id (xs.map s.ev) = some args := by simp [go_sem]; rfl)
    (hSp : S args ob x ob' := by ((repeat apply Exists.intro); first | exact ⟨rfl, rfl, rfl, rfl⟩ | exact ⟨zp, rfl, rfl, rfl, rfl⟩ | exact ⟨zp, zp, zp, rfl, rfl, rfl, rfl⟩)) (hpo : plainO ob = true := by rfl) (hpo' : plainO ob' = true := by rfl) (hs : s.app o.dst { val := .one (.sc x), sets := [(id, some ob')], log := [id] } = s' := by simp [go_sem]; rfl) : walkN P (reck T) ops (o :: r) s k := by
  obtain ⟨hS, fn, hf, hb, hn⟩ := hS
  exact z_fnR hS hf ho hb hn hg hd hid hob hargs hSp hpo hpo' hs k0
theorem yR {S : SpecM} {x : Sc} (k0 : walkL P (reck T) ops r s' (tr ++ [some { val := .one (.sc x), sets := [(id, some ob')], log := [id] }]) kl) (ho : Oper.isCall o f xs ts := by rfl) (hS : ConM P f S := by infer_instance) (hg : gsay ops s o = some true := by first | rfl | assumption) (hd : Oper.dstOk o s.n = true := by rfl) (hid : refAs (xs.map s.ev) = some id := by simp [go_sem]; rfl) (hob : s.obj id = some ob := by simp [go_sem]; rfl) (hargs : mAs id (xs.map s.ev) = some args := by simp [go_sem]; rfl)
    (hSp : S args ob x ob' := by ((repeat apply Exists.intro); first | exact ⟨rfl, rfl, rfl, rfl⟩ | exact ⟨zp, rfl, rfl, rfl, rfl⟩ | exact ⟨zp, zp, zp, rfl, rfl, rfl, rfl⟩)) (hpo : plainO ob = true := by rfl) (hpo' : plainO ob' = true := by rfl) (hs : s.app o.dst { val := .one (.sc x), sets := [(id, some ob')], log := [id] } = s' := by simp [go_sem]; rfl) : walkL P (reck T) ops (o :: r) s tr kl := by
  obtain ⟨hS, fn, hf, hb, hn⟩ := hS
  exact z_fnRl hS hf ho hb hn hg hd hid hob hargs hSp hpo hpo' hs k0
theorem yx {S : SpecX} (k0 : walkN P (reck T) ops r s' k) (ho : Oper.isCall o f xs ts := by rfl) (hS : ConX P f S := by infer_instance) (hg : gsay ops s o = some true := by first | rfl | assumption) (hd : Oper.dstOk o s.n = true := by rfl) (hid : refAs (xs.map s.ev) = some id := by simp [go_sem]; rfl) (hob : s.obj id = some ob := by simp [go_sem]; rfl) (hargs : mAs id (xs.map s.ev) = some args := by simp [go_sem]; rfl)
    (hSp : S args ob ob' := by ((repeat apply Exists.intro); first | exact ⟨rfl, rfl, rfl⟩ | exact ⟨zp, rfl, rfl, rfl⟩ | exact ⟨zp, zp, zp, rfl, rfl, rfl⟩)) (hpo : isFlat ob = true := by rfl) (hpo' : isFlat ob' = true := by rfl) (hfr : freshB s (effX id (8 * o.dst.getD 0) ob') = true := by rfl) (hs : s.app o.dst (effX id (8 * o.dst.getD 0) ob') = s' := by simp [go_sem]; rfl) : walkN P (reck T) ops (o :: r) s k := by
  obtain ⟨hS, fn, hf, hb, hn⟩ := hS
  exact z_fnX hS hf ho hb hn hg hd hid hob hargs hSp hpo hpo' hfr hs k0
theorem yv {S : SpecX} (k0 : walkN P (reck T) ops r s' k) (ho : Oper.isCall o f xs ts := by rfl) (hS : ConV P f S := by infer_instance) (hg : gsay ops s o = some true := by first | rfl | assumption) (hd : Oper.dstOk o s.n = true := by rfl) (hid : refAs (xs.map s.ev) = some id := by simp [go_sem]; rfl) (hob : s.obj id = some ob := by simp [go_sem]; rfl) (hargs : mAs id (xs.map s.ev) = some args := by simp [go_sem]; rfl)
    (hSp : S args ob ob' := by ((repeat apply Exists.intro); first | exact ⟨rfl, rfl, rfl⟩ | exact ⟨zp, rfl, rfl, rfl⟩ | exact ⟨zp, zp, zp, rfl, rfl, rfl⟩)) (hpo : plainO ob = true := by rfl) (hpo' : plainO ob' = true := by rfl) (hs : s.app o.dst (effV id ob') = s' := by simp [go_sem]; rfl) : walkN P (reck T) ops (o :: r) s k := by
  obtain ⟨hS, fn, hf, hb, hn⟩ := hS
  exact z_fnV hS hf ho hb hn hg hd hid hob hargs hSp hpo hpo' hs k0
end
end
attribute [go_sem] rLoadOwn
end Go.Eng
/- The engine, part 33: steps and turns in few words. -/
set_option linter.unusedVariables false
namespace Go.Eng
open Go Go.RowKit

/-- A step of the code's own, found by class. -/
class Str (G : Prop) (H : outParam Prop) : Prop where
  go : H → G
theorem zst {G H : Prop} (h : H) [i : Str G H] : G := i.go h
section
variable {s : AS} {P : Program} {E : Reck} {K : Nat → List Nat} {Q : Exit → AS → Prop} {x y c : Code} {id : Nat} {l : List Oper}
instance : Str (awp P E K (.seq x y) Q s) (awp P E K x (kSeq P E K y Q) s) := ⟨a_seq⟩
instance : Str (awp P E K .skip Q s) (Q .normal s) := ⟨a_skip⟩
instance : Str (awp P E K .ret Q s) (Q .ret s) := ⟨a_ret⟩
instance : Str (awp P E K (.exit id) Q s) (Q (.exit id) s) := ⟨a_exit⟩
instance : Str (awp P E K (.block id c) Q s) (awp P E K c (kBlk id Q) s) := ⟨a_block⟩
instance : Str (awp P E K (.region id l.toArray false) Q s) (walkN P E l.toArray l s (kReg (K id) Q)) := ⟨a_reg⟩
instance : Str (awp P E K (.region id l.toArray true) Q s) (walkL P E l.toArray l s [] (kDrw (K id) l Q)) := ⟨a_draw⟩
instance : Str (kSeq P E K y Q .normal s) (awp P E K y Q s) := ⟨k_seq⟩
instance : Str (kSeq P E K y Q (.exit id) s) (Q (.exit id) s) := ⟨k_seq_exit⟩
instance : Str (kSeq P E K y Q .ret s) (Q .ret s) := ⟨k_seq_ret⟩
instance : Str (kBlk id Q .normal s) (Q .normal s) := ⟨k_blk⟩
instance : Str (kBlk id Q (.exit id) s) (Q .normal s) := ⟨k_blk_exit⟩
instance : Str (kBlk id Q .ret s) (Q .ret s) := ⟨k_blk_ret⟩
instance {ι : Type} {S : ι → AS} {I : ι → Prop} {μ : ι → Nat} {i : ι} : Str (kLop S I μ i Q (.exit id) s) (Q (.exit id) s) := ⟨k_lop_exit⟩
instance {ι : Type} {S : ι → AS} {I : ι → Prop} {μ : ι → Nat} {i : ι} : Str (kLop S I μ i Q .ret s) (Q .ret s) := ⟨k_lop_ret⟩
end
section
variable {ops : Array Oper} {o : Oper} {s : AS} {v w : Bool}
theorem zgy (h : GV ops s o v w) (e : v = w := by rfl) : gsay ops s o = some true := by subst e; have := gv_say h; simpa using this
theorem zgn (h : GV ops s o v w) (e : (v == w) = false := by rfl) : gsay ops s o = some false := by rw [← e]; exact gv_say h
end
section
variable {s : AS} {P : Program} {E : Reck} {K : Nat → List Nat} {Q : Exit → AS → Prop}
theorem zk {c : Operand} {x y : Code} {v : Bool} {A B : Prop} (h1 : A → v = true → awp P E K x Q s) (h2 : B → v = false → awp P E K y Q s) (h : s.ev c = .one (.sc (.bool v)) := by simp [go_sem, *, -Bool.not_eq_eq_eq_not]; rfl)
    (hA : (v = true) = A := by (try simp only [Bool.not_eq_true', Bool.not_eq_false', Bool.and_eq_true, Bool.and_eq_false_imp, Bool.or_eq_true, Bool.or_eq_false_iff, Bool.not_eq_true, Bool.not_eq_false, decide_eq_true_eq, decide_eq_false_iff_not, Int.not_lt, Int.not_le, ge_iff_le, gt_iff_lt, decide_true, decide_false, Bool.false_eq_true, reduceCtorEq, beq_iff_eq, beq_eq_false_iff_ne, ne_eq, bne_iff_ne, bne_eq_false_iff_eq, and_true, true_and, and_false, false_and]); rfl)
    (hB : (v = false) = B := by (try simp only [Bool.not_eq_true', Bool.not_eq_false', Bool.and_eq_true, Bool.and_eq_false_imp, Bool.or_eq_true, Bool.or_eq_false_iff, Bool.not_eq_true, Bool.not_eq_false, decide_eq_true_eq, decide_eq_false_iff_not, Int.not_lt, Int.not_le, ge_iff_le, gt_iff_lt, decide_true, decide_false, Bool.false_eq_true, reduceCtorEq, beq_iff_eq, beq_eq_false_iff_ne, ne_eq, bne_iff_ne, bne_eq_false_iff_eq, and_true, true_and, and_false, false_and]); rfl) : awp P E K (.cond c x y) Q s :=
  z_cond h hA hB h1 h2
theorem zl {ι : Type} {S : ι → AS} {I : ι → Prop} {μ : ι → Nat} {i : ι} {m : List (Nat × Src)} (j : ι) (hj : I j := by omega)
    (hm : mkMap s (S j) = m := by simp [go_sem]; rfl) (hn : (S j).n = s.n := by rfl) (hd : distinctB m = true := by rfl)
    (hmu : μ j < μ i := by first | omega | (simp only; omega))
    (henv : ∀ p ∈ (S j).env, AVm m (s.get p.1) p.2 := by first | (simp [go_sem, AVm, CVm, lookS, *]; done) | (simp [go_sem, AVm, CVm, lookS, *] <;> (repeat' split) <;> first | omega | (simp_all; done) | (exfalso; omega) | (simp_all; omega)))
    (hobj : ∀ p ∈ (S j).H, match p.2 with | none => True | some o' => ∃ src, lookS m p.1 = some src ∧ OBm m s src o' := by first | (simp [go_sem, OBm, CVm, All2, lookS, *]; done) | (simp [go_sem, OBm, CVm, All2, lookS, *] <;> (repeat' split) <;> first | omega | (simp_all; done) | (exfalso; omega) | (simp_all; omega))) : kLop S I μ i Q .normal s :=
  z_lop j hm hn hd hj hmu henv hobj
end
end Go.Eng
/- The engine, part 34: functions that write through the rows of an object that they are handed. -/
set_option linter.unusedVariables false
namespace Go.Eng
open Go Go.RowKit

section
variable {N0 : Nat} {W0 : World} {s s' : AS} {β β' : Plc} {a : Act} {w w' : World} {P : Program} {T : Tys}

theorem all2_of {α β : Type} {R : α → β → Prop} : ∀ {l : List α} {m : List β}, l.length = m.length → (∀ (i : Nat) a b, l[i]? = some a → m[i]? = some b → R a b) → All2 R l m
  | [], [], _, _ => trivial
  | a :: l, b :: m, hl, h => ⟨h 0 a b rfl rfl, all2_of (by simpa using hl) fun i x y hx hy => h (i + 1) x y (by simpa using hx) (by simpa using hy)⟩
  | [], _ :: _, h, _ => by simp at h
  | _ :: _, [], h, _ => by simp at h

theorem EffU_callW (f : FuncId) (fn : Func) (xs : List Operand) (ts : List Nat) (S : SpecM) {o : Oper} (ho : Oper.isCall o f xs ts) (hS : SatM P f S) (hf : P.funcs[f]? = some fn) (hb : fn.body.isNone = false) (hn : (fn.name == "runtime.NumGoroutine") = false)
    (hd : Oper.dstOk o s.n = true) (id e e' : Nat) (st : Bool) (xss : List (Option (List El))) (us : List Value) (hob : s.obj id = some (.rowsV e e' st xss us)) (i : Nat) (u : Value) (hu : us[i]? = some u) (l l' : List El) (hl : xss[i]? = some (some l))
    (y x : Sc) (hargs : xs.map s.ev = [.one (.val u), .one (.sc y)]) (hSp : S [.one (.ref 0), .one (.sc y)] (.flat e' 1 l) x (.flat e' 1 l')) :
    EffU P o s { val := .one (.sc x), sets := [(id, some (.rowsV e e' st (xss.set i (some l')) us))], log := [id] } := by
  intro s2 h1 h2 h3 h4 N0 W0 β a w r K Q hK
  have hops : ∀ x ∈ xs, x ∈ o.op.operands := fun x hx => by
    rw [show o.op = _ from ho]
    simp [Op.operands, Call.operands, hx]
  have hob2 : s2.obj id = some (.rowsV e e' st xss us) := by rw [h3 id (by simp)]; exact hob
  obtain ⟨pv, vs, hp, hat, hbl⟩ := r.obj id _ hob2
  obtain ⟨hvs, hrow, hall, has, hap⟩ := hat
  subst hvs
  have hum : u ∈ vs := List.mem_of_getElem? hu
  obtain ⟨u', hu', hro⟩ := All2.get i hall hl
  rw [hu] at hu'; cases hu'
  obtain ⟨hr1, hr2, hr3⟩ := hro
  have hev : All2 (AR N0 β (Free s2 β w) w) (xs.map s2.ev) (xs.map a.eval) := all2_ev r xs
  rw [← list_evs h2 hops] at hargs
  rw [hargs] at hev
  have hvals : ∃ v, xs.map a.eval = [u, v] ∧ v = y.val ∧ u.oneCell' = true := by
    generalize xs.map a.eval = zs at hev
    match zs, hev with
    | [z0, z1], ⟨e0, e1, _⟩ =>
      obtain ⟨rfl, hone⟩ := e0
      exact ⟨z1, rfl, e1, hone⟩
  obtain ⟨v, hvals, rfl, hone⟩ := hvals
  have hsub : ∀ b, blks (Obj.flat e' 1 l).own u [] b → blks (Obj.rowsV e e' st xss vs).own pv vs b := by
    rintro b (hb | ⟨hb, _⟩)
    · exact .inr ⟨rfl, u, hum, hb⟩
    · cases hb
  have hrun : (execOp a.eval o).run P w = .ok (.enter f (xs.map a.eval).toArray) w := by
    have he : execOp a.eval o = callFunc f (#[] ++ (xs.map a.eval).toArray ++ #[]) := by
      unfold execOp
      rw [show o.op = _ from ho]
      simp only [resolve, Act.eval, Deferred.ofValue, List.map_toArray]
      rfl
    rw [he, run_callFunc hf hb hn]
    simp
  unfold Oper.wp
  rw [hrun, Oper.upon_enter]
  refine (hS _ _ _ _ hSp N0 w (xs.map a.eval) u [] r.size0 ⟨hr1, hr2⟩ (fun b hb => hbl b (hsub b hb)) (by rw [hvals]; exact ⟨⟨[], rfl, hone⟩, rfl, trivial⟩)).mono ?_
  rintro ex w' ⟨rfl, vs', hw⟩
  have hW : Wrote N0 w w' (.rowsV e e' st xss vs) (.rowsV e e' st (xss.set i (some l')) vs) pv vs vs := by
    have hrest : ∀ b, b < w.heap.size → blockOf u ≠ some b → w'.heap[b]? = w.heap[b]? := fun b hb hne => hw.rest b ⟨hb, fun hh => by
      rcases hh with hh | ⟨hh, _⟩
      · exact hne hh
      · cases hh⟩
    have hpvb : ∀ b, blockOf pv = some b → w'.heap[b]? = w.heap[b]? := fun b hb => by
      refine hrest b (hbl b (.inl hb)).2 fun hh => ?_
      exact hap u hum (by rw [hh]; simp) (by rw [hh, hb])
    refine ⟨hw.os, hw.tape, hw.output, hw.size, fun b hb => hrest b hb.1 fun hh => hb.2 (.inr ⟨rfl, u, hum, hh⟩), ⟨rfl, ?_, ?_, has, hap⟩, fun b hb => ⟨Nat.lt_of_lt_of_le (hbl b hb).2 hw.size, .inr hb⟩⟩
    · rw [List.length_set]; exact ownsRow_keep hpvb hrow
    · have hlen := hall.length
      refine all2_of (by rw [List.length_set]; exact hlen) fun j o v hj hv => ?_
      by_cases hji : j = i
      · subst hji
        rw [hu] at hv; cases hv
        have hlt : j < xss.length := (List.getElem?_eq_some_iff.1 hl).1
        rw [List.getElem?_set_self hlt] at hj; cases hj
        exact ⟨hw.obj.1, hw.obj.2, hr3⟩
      · rw [List.getElem?_set_ne (fun h => hji h.symm)] at hj
        obtain ⟨v', hv', hro⟩ := All2.get j hall hj
        rw [hv] at hv'; cases hv'
        cases o with
        | none => exact hro
        | some xs1 =>
          refine ⟨ownsRow_keep (fun b hb => ?_) hro.1, hro.2⟩
          refine hrest b (hbl b (.inr ⟨rfl, v, List.mem_of_getElem? hv, hb⟩)).2 fun hh => ?_
          exact has i j u v hu hv (fun h => hji h.symm) (by rw [hh]; simp) (by rw [hh, hb])
  have r' := r.turn hob2 hp hW rfl
  refine hK (β.set id (pv, vs)) _ w' ?_
  cases hdst : o.dst with
  | none => exact r'
  | some d =>
    have hv : AR N0 (β.set id (pv, vs)) (Free (s2.setO id (.rowsV e e' st (xss.set i (some l')) vs)) (β.set id (pv, vs)) w') w' (.one (.sc x)) x.val := rfl
    exact r'.put (d := d) (by have := Oper.dstOk_spec hd d hdst; show d < s2.n; rw [h1]; exact this) hv

section
variable {k : AS → Prop} {tr : List (Option Eff)} {kl : List (Option Eff) → AS → Prop} {ops : Array Oper} {o : Oper} {r : List Oper} {f : FuncId} {xs : List Operand} {ts : List Nat}
/-- A call that writes into one row of an object. -/
theorem yw {S : SpecM} {id e e' : Nat} {st : Bool} {xss : List (Option (List El))} {us : List Value} {u : Value} {l l' : List El} {y x : Sc} (i : Nat) (hu : us[i]? = some u) (hl : xss[i]? = some (some l)) (hSp : S [.one (.ref 0), .one (.sc y)] (.flat e' 1 l) x (.flat e' 1 l'))
    (ho : Oper.isCall o f xs ts := by rfl) (hS : ConM P f S := by infer_instance) (hg : gsay ops s o = some true := by first | rfl | assumption) (hd : Oper.dstOk o s.n = true := by rfl)
    (hob : s.obj id = some (.rowsV e e' st xss us) := by simp [go_sem]; rfl) (hargs : xs.map s.ev = [.one (.val u), .one (.sc y)] := by simp [go_sem]; rfl)
    (hs : s.app o.dst { val := .one (.sc x), sets := [(id, some (.rowsV e e' st (xss.set i (some l')) us))], log := [id] } = s' := by simp [go_sem]; rfl) (k0 : walkN P (reck T) ops r s' k) : walkN P (reck T) ops (o :: r) s k := by
  obtain ⟨hS, fn, hf, hb, hn⟩ := hS
  exact w_call hg (reck_call ho) (EffU_callW f fn xs ts S ho hS hf hb hn hd id e e' st xss us hob i u hu l l' hl y x hargs hSp) rfl hs k0
end

/-- The proof of a function that writes through the rows of the object that it is handed. -/
theorem satM_ofV {E : Reck} (hT : TOk P T) (hE : E.Ok P) (hm : P.follows .mixedOrders = true) {f : FuncId} {fn : Func} {c : Code} {r : ResultVar} {n : Nat} {S : SpecM} (K : Nat → List Nat)
    (hf : P.funcs[f]? = some fn) (hb : fn.body = some c) (hrs : fn.results = #[r]) (hn : fn.ntmps = n)
    (h : ∀ args o x o', S args o x o' → ∃ e e' st xss xss', o = .rows e e' (.own st) xss ∧ o' = .rows e e' (.own st) xss' ∧ args.length ≤ n ∧
      ∀ S W pv (us : List Value), us.length = xss.length → awp P E K c (retOKM T r x (.rowsV e e' st xss' us) S W pv) (entryM n args (.rowsV e e' st xss us) S W pv)) : SatM P f S := by
  have hV : SatM P f fun args o x o' => ∃ e e' st xss xss' us, S args (.rows e e' (.own st) xss) x (.rows e e' (.own st) xss') ∧ o = .rowsV e e' st xss us ∧ o' = .rowsV e e' st xss' us ∧ us.length = xss.length := by
    refine satM_of hT hE hm K hf hb hrs hn ?_
    rintro args o x o' ⟨e, e', st, xss, xss', us, hS, rfl, rfl, hl⟩
    obtain ⟨e1, e1', st1, ys, ys', h1, h2, h3, h4⟩ := h _ _ _ _ hS
    cases h1; cases h2
    exact ⟨h3, rfl, fun S W pv => h4 S W pv us hl⟩
  intro args o x o' hS N0 w vals pv vs hN ho hbl hargs
  obtain ⟨e, e', st, xss, xss', rfl, rfl, _, _⟩ := h _ _ _ _ hS
  have hl : vs.length = xss.length := ho.2.1.length.symm
  refine (hV args (.rowsV e e' st xss vs) x (.rowsV e e' st xss' vs) ⟨e, e', st, xss, xss', vs, hS, rfl, rfl, hl⟩ N0 w vals pv vs hN ⟨rfl, ho⟩ hbl hargs).mono ?_
  rintro ex w' ⟨he, vs', hw⟩
  exact ⟨he, vs', hw.os, hw.tape, hw.output, hw.size, hw.rest, hw.obj.2, hw.blk⟩
end
end Go.Eng
