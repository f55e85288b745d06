import Derived.Test.YtfapjflogjblaaaGreatE1
set_option maxHeartbeats 16000000
set_option maxRecDepth 20000
set_option linter.unusedVariables false
set_option linter.unusedSimpArgs false
set_option linter.unnecessarySimpa false
/- The engine, part 30: calls of function values; the state at a loop's head, made out of the state ahead of it. -/
namespace Go.Eng
open Go Go.RowKit

section
variable {N0 : Nat} {W0 : World} {s s' : AS} {β β' : Plc} {a : Act} {w w' : World} {P : Program} {T : Tys}


def Oper.isClo (o : Oper) (t : Nat) (xs : List Operand) (ts : List Nat) : Prop := o.op = .call { callee := .value (.tmp t), args := xs.toArray, argTypes := ts.toArray }

theorem Args.app {args bs : List AV} {vals us : List Value} (h : Args w args vals) (h' : Args w bs us) : Args w (args ++ bs) (vals ++ us) := All2.app h h'

theorem EffU_clo (f t id : Nat) (fn : Func) (xs : List Operand) (ts : List Nat) (S : Spec) {o : Oper} (ho : Oper.isClo o t xs ts) (hS : Sat P f S) (hf : P.funcs[f]? = some fn) (hb : fn.body.isNone = false) (hn : (fn.name == "runtime.NumGoroutine") = false)
    (hd : Oper.dstOk o s.n = true) (hclo : s.get t = .one (.clo f id)) {e : Nat} {cs : List CV} {ss : List Sc} (hbox : s.obj id = some (.box e cs)) (hss : scsOf cs = some ss)
    (base : Nat) (args : List AV) (log : List Nat) (hsn : snapAs T s ts (xs.map s.ev) = some (args, log)) (av : AV) (objs : List Obj) (hSp : S (args ++ [.one (.iptr ss)]) av objs) (hpl : plainT av = true) (hpo : objs.all plainO = true) :
    EffU P o s (callE base av objs (id :: log)) := by
  intro s2 h1 h2 h3 h4 N0 W0 β a w r K Q hK
  have hops : ∀ x ∈ xs, x ∈ o.op.operands := fun x hx => by
    rw [show o.op = _ from ho]
    simp [Op.operands, Call.operands, hx]
  have htop : Operand.tmp t ∈ o.op.operands := by
    rw [show o.op = _ from ho]
    simp [Op.operands, Call.operands]
  have hclo2 : s2.ev (.tmp t) = .one (.clo f id) := (slots_ev h2 htop).trans hclo
  have hbox2 : s2.obj id = some (.box e cs) := by rw [h3 id (by simp [callE])]; exact hbox
  have hsn2 : snapAs T s2 ts (xs.map s2.ev) = some (args, log) := by
    rw [list_evs h2 hops]
    exact snapAs_congr hsn (fun i hi => h3 i (by simp [callE, hi]))
  have hargs := snapAs_ok r hsn2 (all2_ev r xs)
  have hv := r.ev (.tmp t)
  rw [hclo2] at hv
  obtain ⟨pv, vs, b, hp, hpv, hval⟩ := hv
  obtain ⟨pv2, vs2, hp2, hat, hbk⟩ := r.obj id _ hbox2
  rw [hp] at hp2; cases hp2
  obtain ⟨b2, arr, g1, g2, g3, g4⟩ := hat
  have hb2 : b2 = b := by rw [hpv] at g1; cases g1; rfl
  subst hb2
  have hlt : b2 < w.heap.size := (hbk b2 (.inl (by rw [g1]; rfl))).2
  have hcells := scsOf_ok hss g4
  have hptr : Args w [.one (.iptr ss)] [.pointer (some ⟨b2, 0, none⟩)] := by
    refine ⟨⟨b2, 0, rfl, hlt, fun j x hx => ?_⟩, trivial⟩
    rw [Nat.zero_add, cell_of_row w b2 j arr e (0, 0) g3]
    have : arr.toList[j]? = some x.val := by rw [hcells]; simp [hx]
    simpa using this
  have hrun : (execOp a.eval o).run P w = .ok (.enter f (xs.map a.eval ++ [Value.pointer (some ⟨b2, 0, none⟩)]).toArray) w := by
    have he : execOp a.eval o = callFunc f (#[] ++ (xs.map a.eval).toArray ++ #[Value.pointer (some ⟨b2, 0, none⟩)]) := by
      unfold execOp
      rw [show o.op = _ from ho]
      simp only [resolve, hval, Deferred.ofValue, List.map_toArray]
      rfl
    rw [he, run_callFunc hf hb hn]
    simp
  unfold Oper.wp
  rw [hrun, Oper.upon_enter]
  refine (hS _ av objs hSp w (xs.map a.eval ++ [Value.pointer (some ⟨b2, 0, none⟩)]) (Args.app hargs hptr)).mono ?_
  rintro e w' ⟨v, rfl, hbel, ps, hl, hv, hat, hdj⟩
  obtain ⟨r', hext, hnew, hkeep⟩ := r.allocL (base := base) (objs := objs) (ps := ps) hbel hl (fun i hi => h4 i hi) (fun j o' p hj hp => by
    obtain ⟨h5, h6⟩ := hat j o' p hj hp
    have hpo' : plainO o' = true := List.all_eq_true.1 hpo o' (List.mem_of_getElem? hj)
    exact ⟨fun β' F _ _ _ => objAt_base r.size0 hpo' h5, h6⟩) hdj
  have hav : AR N0 (β.add base ps) (Free { s2 with H := objH base objs ++ s2.H, used := idsFrom base objs.length ++ s2.used } (β.add base ps) w') w' (shT base av) v := shT_ok hnew hpl hv
  cases hdst : o.dst with
  | none => exact hK (β.add base ps) a w' (by rw [hdst]; exact r')
  | some d =>
    refine hK (β.add base ps) _ w' ?_
    rw [hdst]
    exact r'.put (d := d) (by have := Oper.dstOk_spec hd d hdst; rw [show s2.n = s.n from h1]; exact this) hav

variable {ops : Array Oper} {o : Oper} {r : List Oper} {k : AS → Prop} {tr : List (Option Eff)} {kl : List (Option Eff) → AS → Prop}

theorem reck_clo {t : Nat} {xs : List Operand} {ts : List Nat} (ho : Oper.isClo o t xs ts) : reck T o s = none := by
  have h1 : reckV T s o.op = none := by rw [show o.op = _ from ho]; rfl
  have h2 : reckW T s o = none := by unfold reckW; rw [show o.op = _ from ho]
  unfold reck
  rw [h1, h2]
  split <;> rfl


inductive Ov where
  | obj (k : Nat) (o : Obj)
  | cell (k j : Nat) (c : CV)
  | inner (k : Nat) (o : Obj)

def getO : List (Nat × AV) → Nat → AV → AV
  | [], _, d => d
  | (j, v) :: r, k, d => if j = k then v else getO r k d

def ovE (u : List (Nat × AV)) : List (Nat × AV) → List (Nat × AV)
  | [] => []
  | (k, v) :: r => (k, getO u k v) :: ovE u r

def idsC : CV → List Nat
  | .ref i => [i]
  | .ptr i _ _ _ => [i]
  | .pre i _ => [i]
  | .win i _ _ _ => [i]
  | .clo _ i => [i]
  | _ => []
def idsL : List CV → List Nat
  | [] => []
  | c :: r => idsC c ++ idsL r
def idsA : AV → List Nat
  | .one c => idsC c
  | .agg cs => idsL cs
  | _ => []
def idsO : Option Obj → List Nat
  | some (.box _ cs) => idsL cs
  | some (.cvs _ cs) => idsL cs
  | _ => []
def addI : List Nat → List Nat → List Nat
  | acc, [] => acc
  | acc, i :: r => addI (if acc.contains i then acc else acc ++ [i]) r
def idsE : List Nat → List (Nat × AV) → List Nat
  | acc, [] => acc
  | acc, (_, v) :: r => idsE (addI acc (idsA v)) r
def idsP : List (Nat × Option Obj) → List Nat
  | [] => []
  | (i, o) :: r => match o with
    | some (.pin _ _) => addI [i] (idsP r)
    | some (.res _ _) => addI [i] (idsP r)
    | some (.stay j _) => addI [i, j] (idsP r)
    | _ => idsP r
def idsR (H : Nat → Option Obj) : List Nat → List Nat → List Nat
  | acc, [] => acc
  | acc, i :: r => idsR H (addI acc (idsO (H i))) r

def headI : List Nat → Nat
  | [] => 999999
  | i :: _ => i

def setH (H : List (Nat × Option Obj)) (i : Nat) (o : Option Obj) : List (Nat × Option Obj) := (i, o) :: H

def cellO (o : Option Obj) (j : Nat) (c : CV) : Option Obj :=
  match o with
  | some (.box e cs) => some (.box e (cs.set j c))
  | o => o

def innerI (H : List (Nat × Option Obj)) (v : AV) : Nat :=
  match v with
  | .agg cs => headI (idsL cs)
  | .one c => headI (idsO (lookO H (headI (idsC c))))
  | _ => 999999

def ovH (env : List (Nat × AV)) : List Ov → List (Nat × Option Obj) → List (Nat × Option Obj)
  | [], H => H
  | .obj k o :: r, H => ovH env r (setH H (headI (idsA (look env k))) (some o))
  | .cell k j c :: r, H => ovH env r (setH H (headI (idsA (look env k))) (cellO (lookO H (headI (idsA (look env k)))) j c))
  | .inner k o :: r, H => ovH env r (setH H (innerI H (look env k)) (some o))

def mapH (H : List (Nat × Option Obj)) : List Nat → List (Nat × Option Obj)
  | [] => []
  | i :: r => (i, lookO H i) :: mapH H r

def overS (s : AS) (u : List (Nat × AV)) (os : List Ov) : AS :=
  let env := ovE u s.env
  let H := ovH env os s.H
  let l1 := idsE (idsP s.H) env
  let l2 := idsR (lookO H) l1 l1
  let l3 := idsR (lookO H) l2 l2
  { n := s.n, env := env, H := mapH H l3, used := l3 }

def getS : List (Nat × Src) → Nat → Src
  | [], _ => .nil
  | (j, v) :: r, k => if j = k then v else getS r k

def mpC (c c' : CV) (m : List (Nat × Src)) : List (Nat × Src) :=
  match c' with
  | .ref i' => match c with
    | .ref i => (i', .obj i) :: m
    | .pre i n => (i', .cut i n) :: m
    | .nil => (i', .nil) :: m
    | _ => m
  | .ptr i' _ _ _ => match c with
    | .ptr i _ _ _ => (i', .obj i) :: m
    | _ => m
  | .pre i' _ => match c with
    | .pre i _ => (i', .obj i) :: m
    | _ => m
  | .win i' _ _ _ => match c with
    | .win i _ _ _ => (i', .obj i) :: m
    | _ => m
  | .clo _ i' => match c with
    | .clo _ i => (i', .obj i) :: m
    | _ => m
  | _ => m
def mpL : List CV → List CV → List (Nat × Src) → List (Nat × Src)
  | [], _, m => m
  | c :: r, l, m => match l with
    | [] => m
    | c' :: r' => mpC c c' (mpL r r' m)
def mpA (v v' : AV) (m : List (Nat × Src)) : List (Nat × Src) :=
  match v' with
  | .one c' => match v with
    | .one c => mpC c c' m
    | _ => m
  | .agg cs' => match v with
    | .agg cs => mpL cs cs' m
    | _ => m
  | _ => m
def mpE (t : AS) : List (Nat × AV) → List (Nat × Src) → List (Nat × Src)
  | [], m => m
  | (k, v') :: r, m => mpA (look t.env k) v' (mpE t r m)
def mpO (t : AS) (m : List (Nat × Src)) : List (Nat × Option Obj) → List (Nat × Src)
  | [] => m
  | (i, o') :: r => match o' with
    | some (.box _ cs') => match lookS m i with
      | some (.obj j) => match lookO t.H j with
        | some (.box _ cs) => mpL cs cs' (mpO t m r)
        | _ => mpO t m r
      | _ => mpO t m r
    | some (.cvs _ cs') => match lookS m i with
      | some (.obj j) => match lookO t.H j with
        | some (.cvs _ cs) => mpL cs cs' (mpO t m r)
        | _ => mpO t m r
      | _ => mpO t m r
    | some (.pin _ _) => (i, .obj i) :: mpO t m r
    | some (.res _ _) => (i, .obj i) :: mpO t m r
    | some (.stay j _) => (i, .obj i) :: (j, .obj j) :: mpO t m r
    | _ => mpO t m r
def mapU (m : List (Nat × Src)) : List Nat → List (Nat × Src)
  | [] => []
  | i :: r => (i, getS m i) :: mapU m r
def mkMap (t s' : AS) : List (Nat × Src) :=
  let m0 := mpE t s'.env []
  let m1 := mpO t m0 s'.H
  let m2 := mpO t m1 s'.H
  mapU m2 s'.used

theorem mapU_fst (m : List (Nat × Src)) : ∀ l : List Nat, (mapU m l).map (·.1) = l
  | [] => rfl
  | i :: r => by simp [mapU, mapU_fst m r]

theorem weak_map {s s' : AS} {m : List (Nat × Src)} (hm : mkMap s s' = m) (hn : s'.n = s.n) (hd : distinctB m = true)
    (henv : ∀ p ∈ s'.env, AVm m (s.get p.1) p.2)
    (hobj : ∀ p ∈ s'.H, match p.2 with | none => True | some o' => ∃ src, lookS m p.1 = some src ∧ OBm m s src o') : Weak s s' := by
  refine weak_of m hn hd henv hobj ?_
  rw [← hm]
  exact (mapU_fst _ _).symm
end

attribute [go_sem] overS ovE getO idsC idsL idsA idsO addI idsE idsP idsR headI setH cellO innerI ovH mapH getS mpC mpL mpA mpE mpO mapU mkMap

end Go.Eng
/- The engine, part 31: the steps of a walk with what each asks filled in. -/
namespace Go.Eng
open Go Go.RowKit

section
variable {s s' : AS} {P : Program} {T : Tys} {E : Reck} {K : Nat → List Nat} {Q : Exit → AS → Prop}
variable {ops : Array Oper} {o : Oper} {r : List Oper} {k : AS → Prop} {tr : List (Option Eff)} {kl : List (Option Eff) → AS → Prop} {e : Eff} {l : List Nat} {os : List Oper}

def isCallB (o : Oper) : Bool := match o.op with
  | .call ⟨.value _, _, _⟩ => true
  | _ => false
@[irreducible] def GV (ops : Array Oper) (s : AS) (o : Oper) (v want : Bool) : Prop := ∃ j, o.guard = some (j, want) ∧ guardAV ops s j = .one (.sc (.bool v))
theorem gv_say {v want : Bool} (h : GV ops s o v want) : gsay ops s o = some (v == want) := by
  unfold GV at h
  obtain ⟨j, h1, h2⟩ := h
  simp only [gsay, h1, h2]
theorem z_spl {v want : Bool} {A B : Prop} (h : GV ops s o v want) (hA : (v = true) = A := by exact zq) (hB : (v = false) = B := by exact zq)
    (h1 : A → v = true → walkN P E ops (o :: r) s k) (h2 : B → v = false → walkN P E ops (o :: r) s k) : walkN P E ops (o :: r) s k := by
  subst hA; subst hB
  cases v
  · exact h2 rfl rfl
  · exact h1 rfl rfl
theorem z_spll {v want : Bool} {A B : Prop} (h : GV ops s o v want) (hA : (v = true) = A := by exact zq) (hB : (v = false) = B := by exact zq)
    (h1 : A → v = true → walkL P E ops (o :: r) s tr kl) (h2 : B → v = false → walkL P E ops (o :: r) s tr kl) : walkL P E ops (o :: r) s tr kl := by
  subst hA; subst hB
  cases v
  · exact h2 rfl rfl
  · exact h1 rfl rfl
theorem z_cond {c : Operand} {x y : Code} {v : Bool} {A B : Prop} (h : s.ev c = .one (.sc (.bool v)) := by simp [go_sem, *, -Bool.not_eq_eq_eq_not]; rfl)
    (hA : (v = true) = A := by exact zq)
    (hB : (v = false) = B := by exact zq)
    (h1 : A → v = true → awp P E K x Q s) (h2 : B → v = false → awp P E K y Q s) : awp P E K (.cond c x y) Q s := by
  subst hA; subst hB
  exact a_cond h (fun h => h1 h h) (fun h => h2 h h)


section
variable {f : FuncId} {fn : Func} {xs : List Operand} {ts : List Nat} {S : Spec} {args : List AV} {log : List Nat} {av : AV} {objs : List Obj}

theorem z_fn (hS : Sat P f S) (hf : P.funcs[f]? = some fn) (ho : Oper.isCall o f xs ts := by rfl) (hb : fn.body.isNone = false := by rfl) (hn : (fn.name == "runtime.NumGoroutine") = false := by rfl)
    (hg : gsay ops s o = some true := by first | rfl | assumption) (hd : Oper.dstOk o s.n = true := by rfl) (hsn : snapAs T s ts (xs.map s.ev) = some (args, log) := by simp [go_sem]; exact ⟨rfl, rfl⟩) (hSp : S args av objs) (hpl : plainT av = true := by rfl) (hpo : objs.all plainO = true := by rfl)
    (hfr : freshB s (callE (8 * o.dst.getD 0) av objs log) = true := by rfl) (hs : s.app o.dst (callE (8 * o.dst.getD 0) av objs log) = s' := by simp [go_sem]; rfl) (k0 : walkN P (reck T) ops r s' k) : walkN P (reck T) ops (o :: r) s k :=
  w_fn hS ho hf hb hn hg rfl hd hsn hSp hpl hpo hfr hs k0
theorem z_fnl (hS : Sat P f S) (hf : P.funcs[f]? = some fn) (ho : Oper.isCall o f xs ts := by rfl) (hb : fn.body.isNone = false := by rfl) (hn : (fn.name == "runtime.NumGoroutine") = false := by rfl)
    (hg : gsay ops s o = some true := by first | rfl | assumption) (hd : Oper.dstOk o s.n = true := by rfl) (hsn : snapAs T s ts (xs.map s.ev) = some (args, log) := by simp [go_sem]; exact ⟨rfl, rfl⟩) (hSp : S args av objs) (hpl : plainT av = true := by rfl) (hpo : objs.all plainO = true := by rfl)
    (hfr : freshB s (callE (8 * o.dst.getD 0) av objs log) = true := by rfl) (hs : s.app o.dst (callE (8 * o.dst.getD 0) av objs log) = s' := by simp [go_sem]; rfl) (k0 : walkL P (reck T) ops r s' (tr ++ [some (callE (8 * o.dst.getD 0) av objs log)]) kl) : walkL P (reck T) ops (o :: r) s tr kl :=
  l_fn hS ho hf hb hn hg rfl hd hsn hSp hpl hpo hfr hs k0

theorem z_clo {t id e1 : Nat} {cs : List CV} {ss : List Sc} (hS : Sat P f S) (hf : P.funcs[f]? = some fn) (ho : Oper.isClo o t xs ts := by rfl) (hb : fn.body.isNone = false := by rfl) (hn : (fn.name == "runtime.NumGoroutine") = false := by rfl)
    (hg : gsay ops s o = some true := by first | rfl | assumption) (hd : Oper.dstOk o s.n = true := by rfl) (hclo : s.get t = .one (.clo f id) := by rfl) (hbox : s.obj id = some (.box e1 cs) := by rfl) (hss : scsOf cs = some ss := by rfl) (hsn : snapAs T s ts (xs.map s.ev) = some (args, log) := by simp [go_sem]; exact ⟨rfl, rfl⟩) (hSp : S (args ++ [.one (.iptr ss)]) av objs) (hpl : plainT av = true := by rfl) (hpo : objs.all plainO = true := by rfl)
    (hfr : freshB s (callE (8 * o.dst.getD 0) av objs (id :: log)) = true := by rfl) (hs : s.app o.dst (callE (8 * o.dst.getD 0) av objs (id :: log)) = s' := by simp [go_sem]; rfl) (k0 : walkN P (reck T) ops r s' k) : walkN P (reck T) ops (o :: r) s k :=
  w_call hg (reck_clo ho) (EffU_clo f t id fn xs ts S ho hS hf hb hn hd hclo hbox hss _ args log hsn av objs hSp hpl hpo) hfr hs k0
theorem z_clol {t id e1 : Nat} {cs : List CV} {ss : List Sc} (hS : Sat P f S) (hf : P.funcs[f]? = some fn) (ho : Oper.isClo o t xs ts := by rfl) (hb : fn.body.isNone = false := by rfl) (hn : (fn.name == "runtime.NumGoroutine") = false := by rfl)
    (hg : gsay ops s o = some true := by first | rfl | assumption) (hd : Oper.dstOk o s.n = true := by rfl) (hclo : s.get t = .one (.clo f id) := by rfl) (hbox : s.obj id = some (.box e1 cs) := by rfl) (hss : scsOf cs = some ss := by rfl) (hsn : snapAs T s ts (xs.map s.ev) = some (args, log) := by simp [go_sem]; exact ⟨rfl, rfl⟩) (hSp : S (args ++ [.one (.iptr ss)]) av objs) (hpl : plainT av = true := by rfl) (hpo : objs.all plainO = true := by rfl)
    (hfr : freshB s (callE (8 * o.dst.getD 0) av objs (id :: log)) = true := by rfl) (hs : s.app o.dst (callE (8 * o.dst.getD 0) av objs (id :: log)) = s' := by simp [go_sem]; rfl) (k0 : walkL P (reck T) ops r s' (tr ++ [some (callE (8 * o.dst.getD 0) av objs (id :: log))]) kl) : walkL P (reck T) ops (o :: r) s tr kl :=
  l_call hg (reck_clo ho) (EffU_clo f t id fn xs ts S ho hS hf hb hn hd hclo hbox hss _ args log hsn av objs hSp hpl hpo) hfr hs k0
end

section
variable {f : FuncId} {fn : Func} {xs : List Operand} {ts : List Nat} {args : List AV} {id : Nat} {ob ob' : Obj}

theorem z_fnX {S : SpecX} (hS : SatX P f S) (hf : P.funcs[f]? = some fn) (ho : Oper.isCall o f xs ts := by rfl) (hb : fn.body.isNone = false := by rfl) (hn : (fn.name == "runtime.NumGoroutine") = false := by rfl)
    (hg : gsay ops s o = some true := by first | rfl | assumption) (hd : Oper.dstOk o s.n = true := by rfl) (hid : refAs (xs.map s.ev) = some id := by simp [go_sem]; rfl) (hob : s.obj id = some ob := by simp [go_sem]; rfl) (hargs : mAs id (xs.map s.ev) = some args := by simp [go_sem]; rfl) (hSp : S args ob ob') (hpo : isFlat ob = true := by rfl) (hpo' : isFlat ob' = true := by rfl)
    (hfr : freshB s (effX id (8 * o.dst.getD 0) ob') = true := by rfl) (hs : s.app o.dst (effX id (8 * o.dst.getD 0) ob') = s' := by simp [go_sem]; rfl) (k0 : walkN P (reck T) ops r s' k) : walkN P (reck T) ops (o :: r) s k :=
  w_fnX hS ho hf hb hn hg rfl hd hid hob hargs hSp hpo hpo' hfr hs k0
theorem z_fnV {S : SpecX} (hS : SatV P f S) (hf : P.funcs[f]? = some fn) (ho : Oper.isCall o f xs ts := by rfl) (hb : fn.body.isNone = false := by rfl) (hn : (fn.name == "runtime.NumGoroutine") = false := by rfl)
    (hg : gsay ops s o = some true := by first | rfl | assumption) (hd : Oper.dstOk o s.n = true := by rfl) (hid : refAs (xs.map s.ev) = some id := by simp [go_sem]; rfl) (hob : s.obj id = some ob := by simp [go_sem]; rfl) (hargs : mAs id (xs.map s.ev) = some args := by simp [go_sem]; rfl) (hSp : S args ob ob') (hpo : plainO ob = true := by rfl) (hpo' : plainO ob' = true := by rfl)
    (hs : s.app o.dst (effV id ob') = s' := by simp [go_sem]; rfl) (k0 : walkN P (reck T) ops r s' k) : walkN P (reck T) ops (o :: r) s k :=
  w_fnV hS ho hf hb hn hg rfl hd hid hob hargs hSp hpo hpo' hs k0
end


theorem z_loop {ι : Type} (u : ι → List (Nat × AV)) (ov : ι → List Ov) (I : ι → Prop) (μ : ι → Nat) (i0 : ι) {c : Code} {S : ι → AS} {m : List (Nat × Src)}
    (hS : ∀ i, overS s (u i) (ov i) = S i := by intro i; simp [go_sem]; rfl) (hm : mkMap s (S i0) = m := by simp [go_sem]; rfl) (hn : (S i0).n = s.n := by rfl) (hd : distinctB m = true := by rfl)
    (h0 : I i0) (henv : ∀ p ∈ (S i0).env, AVm m (s.get p.1) p.2) (hobj : ∀ p ∈ (S i0).H, match p.2 with | none => True | some o' => ∃ src, lookS m p.1 = some src ∧ OBm m s src o')
    (h : ∀ i, I i → awp P E K c (kLop S I μ i Q) (S i)) : awp P E K (.loop c) Q s :=
  a_loop S I μ i0 h0 (weak_map hm hn hd henv hobj) h

theorem z_lop {ι : Type} {S : ι → AS} {I : ι → Prop} {μ : ι → Nat} {i : ι} {m : List (Nat × Src)} (j : ι)
    (hm : mkMap s (S j) = m := by simp [go_sem]; rfl) (hn : (S j).n = s.n := by rfl) (hd : distinctB m = true := by rfl)
    (hj : I j) (hmu : μ j < μ i) (henv : ∀ p ∈ (S j).env, AVm m (s.get p.1) p.2) (hobj : ∀ p ∈ (S j).H, match p.2 with | none => True | some o' => ∃ src, lookS m p.1 = some src ∧ OBm m s src o') : kLop S I μ i Q .normal s :=
  k_lop j hj hmu (weak_map hm hn hd henv hobj)

theorem z_ret {rs : List ResultVar} {av av' : AV} {objs : List Obj} {acc : Acc} (h : retA T s rs = some (av', acc) := by simp [go_sem]; first | exact ⟨rfl, rfl⟩ | rfl) (hv : av' = av) (ho : acc.map (·.1) = objs) : retOK T rs av objs .ret s := k_ret h hv ho
theorem z_retT (id : Nat) {rs : List ResultVar} {av av' : AV} {objs : List Obj} {acc : Acc} (h : retA T (s.thaw id) rs = some (av', acc) := by simp [go_sem]; first | exact ⟨rfl, rfl⟩ | rfl) (hv : av' = av) (ho : acc.map (·.1) = objs) : retOK T rs av objs .ret s := k_retT id h hv ho
end

attribute [go_sem] rStoreA rStoreR rAppendA rAppendR rSrcR rowIn Md.strict Md.frz killL rMakeFunc AS.thaw plainR plainE plainB thawO isFlat

abbrev aI (n : Int) : AV := .one (.sc (.int n))
abbrev aB (b : Bool) : AV := .one (.sc (.bool b))
abbrev aL (l : List Int) : AV := .one (.imm 1 (ints l))
abbrev aR (i : Nat) : AV := .one (.ref i)
end Go.Eng
/- The engine, part 32: contracts at hand (by class), and the steps of a walk in short. -/
namespace Go.Eng
open Go Go.RowKit

def FnOk (P : Program) (f : FuncId) : Prop := ∃ fn, P.funcs[f]? = some fn ∧ fn.body.isNone = false ∧ (fn.name == "runtime.NumGoroutine") = false
class Con (P : Program) (f : FuncId) (S : outParam Spec) : Prop where
  sat : Sat P f S
  ok : FnOk P f
class ConM (P : Program) (f : FuncId) (S : outParam SpecM) : Prop where
  sat : SatM P f S
  ok : FnOk P f
class ConX (P : Program) (f : FuncId) (S : outParam SpecX) : Prop where
  sat : SatX P f S
  ok : FnOk P f
class ConV (P : Program) (f : FuncId) (S : outParam SpecX) : Prop where
  sat : SatV P f S
  ok : FnOk P f
section
variable {P : Program} {f : FuncId} {fn : Func}
theorem con {S : Spec} (h : Sat P f S) (hf : P.funcs[f]? = some fn) (hb : fn.body.isNone = false := by rfl) (hn : (fn.name == "runtime.NumGoroutine") = false := by rfl) : Con P f S := ⟨h, fn, hf, hb, hn⟩
theorem conX {S : SpecX} (h : SatX P f S) (hf : P.funcs[f]? = some fn) (hb : fn.body.isNone = false := by rfl) (hn : (fn.name == "runtime.NumGoroutine") = false := by rfl) : ConX P f S := ⟨h, fn, hf, hb, hn⟩
theorem conV {S : SpecX} (h : SatV P f S) (hf : P.funcs[f]? = some fn) (hb : fn.body.isNone = false := by rfl) (hn : (fn.name == "runtime.NumGoroutine") = false := by rfl) : ConV P f S := ⟨h, fn, hf, hb, hn⟩
def orS (A B : Spec) : Spec := fun args av objs => A args av objs ∨ B args av objs
theorem con2 {A B : Spec} (a : Sat P f A) (b : Sat P f B) (hf : P.funcs[f]? = some fn) (hb : fn.body.isNone = false := by rfl) (hn : (fn.name == "runtime.NumGoroutine") = false := by rfl) : Con P f (orS A B) :=
  ⟨fun args av objs h => h.elim (a args av objs) (b args av objs), fn, hf, hb, hn⟩
end

@[reducible] def specOf {P : Program} {f : FuncId} {S : Spec} (_ : Sat P f S) : Spec := S
@[reducible] def specOfM {P : Program} {f : FuncId} {S : SpecM} (_ : SatM P f S) : SpecM := S
@[reducible] def specOfX {P : Program} {f : FuncId} {S : SpecX} (_ : SatX P f S) : SpecX := S
@[reducible] def specOfV {P : Program} {f : FuncId} {S : SpecX} (_ : SatV P f S) : SpecX := S

theorem zp {p : Prop} (h : p := by first | assumption | omega | (simp; done) | (simp; omega) | (((repeat' refine And.intro ?_ ?_) <;> first | assumption | omega | (simp; done) | (simp; omega)); done) | (simp at *; omega)) : p := h

section
variable {s s' : AS} {P : Program} {T : Tys} {E : Reck} {K : Nat → List Nat} {Q : Exit → AS → Prop}
variable {ops : Array Oper} {o : Oper} {r : List Oper} {k : AS → Prop} {tr : List (Option Eff)} {kl : List (Option Eff) → AS → Prop} {e : Eff} {l : List Nat} {os : List Oper}

theorem ya (k0 : walkN P E ops (o :: r) s k) (hg : o.guard = none := by rfl) : walkN P E ops (o :: r) s k := k0
theorem yA (k0 : walkL P E ops (o :: r) s tr kl) (hg : o.guard = none := by rfl) : walkL P E ops (o :: r) s tr kl := k0
theorem yb (k0 : walkN P E ops (o :: r) s k) (h : isCallB o = true := by rfl) : walkN P E ops (o :: r) s k := k0
theorem yB (k0 : walkL P E ops (o :: r) s tr kl) (h : isCallB o = true := by rfl) : walkL P E ops (o :: r) s tr kl := k0
theorem ye (k0 : walkN P (reck T) ops r s' k) (hg : o.guard = none := by rfl) (h : stp T o s = some s' := by first | (simp (disch := first | omega | (simp; omega)) [go_sem, -Option.map_eq_some_iff]; rfl) | (simp (disch := first | omega | (simp; omega)) [go_sem, -Option.map_eq_some_iff, *]; rfl)) : walkN P (reck T) ops (o :: r) s k := w_op hg h k0
theorem yE (k0 : walkL P (reck T) ops r s' (tr ++ [some e]) kl) (hg : gsay ops s o = some true := by rfl) (h : stl T o s = some (e, s') := by first | (simp (disch := first | omega | (simp; omega)) [go_sem, -Option.map_eq_some_iff]; exact ⟨rfl, rfl⟩) | (simp (disch := first | omega | (simp; omega)) [go_sem, -Option.map_eq_some_iff, *]; exact ⟨rfl, rfl⟩)) : walkL P (reck T) ops (o :: r) s tr kl := l_op hg h k0
theorem yy (hg : gsay ops s o = some true) (k0 : walkN P (reck T) ops r s' k) (h : stp T o s = some s' := by first | (simp (disch := first | omega | (simp; omega)) [go_sem, -Option.map_eq_some_iff]; rfl) | (simp (disch := first | omega | (simp; omega)) [go_sem, -Option.map_eq_some_iff, *]; rfl)) : walkN P (reck T) ops (o :: r) s k := w_yes hg h k0
theorem yY (hg : gsay ops s o = some true) (k0 : walkL P (reck T) ops r s' (tr ++ [some e]) kl) (h : stl T o s = some (e, s') := by first | (simp (disch := first | omega | (simp; omega)) [go_sem, -Option.map_eq_some_iff]; exact ⟨rfl, rfl⟩) | (simp (disch := first | omega | (simp; omega)) [go_sem, -Option.map_eq_some_iff, *]; exact ⟨rfl, rfl⟩)) : walkL P (reck T) ops (o :: r) s tr kl := l_op hg h k0
theorem yn (hg : gsay ops s o = some false) (k0 : walkN P E ops r s' k) (hd : Oper.dstOk o s.n = true := by rfl) (hs : s.app o.dst skipE = s' := by simp [go_sem, skipE]; rfl) : walkN P E ops (o :: r) s k := w_no hg hd hs k0
theorem yN (hg : gsay ops s o = some false) (k0 : walkL P E ops r s' (tr ++ [none]) kl) (hd : Oper.dstOk o s.n = true := by rfl) (hs : s.app o.dst skipE = s' := by simp [go_sem, skipE]; rfl) : walkL P E ops (o :: r) s tr kl := l_no hg hd hs k0
theorem yt (k0 : walkN P E ops r s' k) {j : Nat} {want : Bool} (hp : o.guard = some (j, want) := by rfl) (h : guardAV ops s j = .tup [] := by rfl) (hd : Oper.dstOk o s.n = true := by rfl) (hs : s.app o.dst skipE = s' := by simp [go_sem, skipE]; rfl) : walkN P E ops (o :: r) s k := w_no (by simp only [gsay, hp, h]) hd hs k0
theorem yT (k0 : walkL P E ops r s' (tr ++ [none]) kl) {j : Nat} {want : Bool} (hp : o.guard = some (j, want) := by rfl) (h : guardAV ops s j = .tup [] := by rfl) (hd : Oper.dstOk o s.n = true := by rfl) (hs : s.app o.dst skipE = s' := by simp [go_sem, skipE]; rfl) : walkL P E ops (o :: r) s tr kl := l_no (by simp only [gsay, hp, h]) hd hs k0
theorem yg {j : Nat} {want v : Bool} (k0 : GV ops s o v want → walkN P E ops (o :: r) s k) (hp : o.guard = some (j, want) := by rfl) (h : guardAV ops s j = .one (.sc (.bool v)) := by simp [go_sem, *, -Bool.not_eq_eq_eq_not]; rfl) : walkN P E ops (o :: r) s k := k0 (by unfold GV; exact ⟨j, hp, h⟩)
theorem yG {j : Nat} {want v : Bool} (k0 : GV ops s o v want → walkL P E ops (o :: r) s tr kl) (hp : o.guard = some (j, want) := by rfl) (h : guardAV ops s j = .one (.sc (.bool v)) := by simp [go_sem, *, -Bool.not_eq_eq_eq_not]; rfl) : walkL P E ops (o :: r) s tr kl := k0 (by unfold GV; exact ⟨j, hp, h⟩)
theorem yz (h : Q .normal s') (hk : s.keep l = s' := by simp [go_sem]; rfl) : walkN P E ops [] s (kReg l Q) := w_end hk h
theorem yZ (h : Q .normal s') (ht : traceOk os.toArray (Region.before os.toArray).toList (zipE os tr) = true := by kernel_rfl) (hk : s.keep l = s' := by simp [go_sem]; rfl) : walkL P E ops [] s tr (kDrw l os Q) := l_end ht hk h

section
variable {f : FuncId} {xs : List Operand} {ts : List Nat} {args : List AV} {log : List Nat} {av : AV} {objs : List Obj} {S : Spec}

theorem yc (k0 : walkN P (reck T) ops r s' k) (ho : Oper.isCall o f xs ts := by rfl) (hS : Con P f S := by infer_instance) (hg : gsay ops s o = some true := by first | rfl | assumption) (hd : Oper.dstOk o s.n = true := by rfl) (hsn : snapAs T s ts (xs.map s.ev) = some (args, log) := by simp [go_sem]; exact ⟨rfl, rfl⟩)
    (hSp : S args av objs := by ((repeat apply Exists.intro); first | exact ⟨rfl, rfl, rfl⟩ | exact ⟨zp, rfl, rfl, rfl⟩ | exact ⟨zp, zp, zp, rfl, rfl, rfl⟩ | (refine Or.inl ?_; (repeat apply Exists.intro); first | exact ⟨rfl, rfl, rfl⟩ | exact ⟨zp, rfl, rfl, rfl⟩ | exact ⟨zp, zp, zp, rfl, rfl, rfl⟩) | (refine Or.inr ?_; (repeat apply Exists.intro); first | exact ⟨rfl, rfl, rfl⟩ | exact ⟨zp, rfl, rfl, rfl⟩ | exact ⟨zp, zp, zp, rfl, rfl, rfl⟩))) (hpl : plainT av = true := by rfl) (hpo : objs.all plainO = true := by rfl)
    (hfr : freshB s (callE (8 * o.dst.getD 0) av objs log) = true := by rfl) (hs : s.app o.dst (callE (8 * o.dst.getD 0) av objs log) = s' := by simp [go_sem]; rfl) : walkN P (reck T) ops (o :: r) s k := by
  obtain ⟨hS, fn, hf, hb, hn⟩ := hS
  exact w_fn hS ho hf hb hn hg rfl hd hsn hSp hpl hpo hfr hs k0
theorem yC (k0 : walkL P (reck T) ops r s' (tr ++ [some (callE (8 * o.dst.getD 0) av objs log)]) kl) (ho : Oper.isCall o f xs ts := by rfl) (hS : Con P f S := by infer_instance) (hg : gsay ops s o = some true := by first | rfl | assumption) (hd : Oper.dstOk o s.n = true := by rfl) (hsn : snapAs T s ts (xs.map s.ev) = some (args, log) := by simp [go_sem]; exact ⟨rfl, rfl⟩)
    (hSp : S args av objs := by ((repeat apply Exists.intro); first | exact ⟨rfl, rfl, rfl⟩ | exact ⟨zp, rfl, rfl, rfl⟩ | exact ⟨zp, zp, zp, rfl, rfl, rfl⟩ | (refine Or.inl ?_; (repeat apply Exists.intro); first | exact ⟨rfl, rfl, rfl⟩ | exact ⟨zp, rfl, rfl, rfl⟩ | exact ⟨zp, zp, zp, rfl, rfl, rfl⟩) | (refine Or.inr ?_; (repeat apply Exists.intro); first | exact ⟨rfl, rfl, rfl⟩ | exact ⟨zp, rfl, rfl, rfl⟩ | exact ⟨zp, zp, zp, rfl, rfl, rfl⟩))) (hpl : plainT av = true := by rfl) (hpo : objs.all plainO = true := by rfl)
    (hfr : freshB s (callE (8 * o.dst.getD 0) av objs log) = true := by rfl) (hs : s.app o.dst (callE (8 * o.dst.getD 0) av objs log) = s' := by simp [go_sem]; rfl) : walkL P (reck T) ops (o :: r) s tr kl := by
  obtain ⟨hS, fn, hf, hb, hn⟩ := hS
  exact l_fn hS ho hf hb hn hg rfl hd hsn hSp hpl hpo hfr hs k0
theorem yo {t id e1 : Nat} {cs : List CV} {ss : List Sc} (k0 : walkN P (reck T) ops r s' k) (ho : Oper.isClo o t xs ts := by rfl) (hclo : s.get t = .one (.clo f id) := by rfl) (hS : Con P f S := by infer_instance) (hg : gsay ops s o = some true := by first | rfl | assumption) (hd : Oper.dstOk o s.n = true := by rfl) (hbox : s.obj id = some (.box e1 cs) := by rfl) (hss : scsOf cs = some ss := by rfl) (hsn : snapAs T s ts (xs.map s.ev) = some (args, log) := by simp [go_sem]; exact ⟨rfl, rfl⟩)
    (hSp : S (args ++ [.one (.iptr ss)]) av objs := by ((repeat apply Exists.intro); first | exact ⟨rfl, rfl, rfl⟩ | exact ⟨zp, rfl, rfl, rfl⟩ | exact ⟨zp, zp, zp, rfl, rfl, rfl⟩ | (refine Or.inl ?_; (repeat apply Exists.intro); first | exact ⟨rfl, rfl, rfl⟩ | exact ⟨zp, rfl, rfl, rfl⟩ | exact ⟨zp, zp, zp, rfl, rfl, rfl⟩) | (refine Or.inr ?_; (repeat apply Exists.intro); first | exact ⟨rfl, rfl, rfl⟩ | exact ⟨zp, rfl, rfl, rfl⟩ | exact ⟨zp, zp, zp, rfl, rfl, rfl⟩))) (hpl : plainT av = true := by rfl) (hpo : objs.all plainO = true := by rfl)
    (hfr : freshB s (callE (8 * o.dst.getD 0) av objs (id :: log)) = true := by rfl) (hs : s.app o.dst (callE (8 * o.dst.getD 0) av objs (id :: log)) = s' := by simp [go_sem]; rfl) : walkN P (reck T) ops (o :: r) s k := by
  obtain ⟨hS, fn, hf, hb, hn⟩ := hS
  exact z_clo hS hf ho hb hn hg hd hclo hbox hss hsn hSp hpl hpo hfr hs k0
theorem yO {t id e1 : Nat} {cs : List CV} {ss : List Sc} (k0 : walkL P (reck T) ops r s' (tr ++ [some (callE (8 * o.dst.getD 0) av objs (id :: log))]) kl) (ho : Oper.isClo o t xs ts := by rfl) (hclo : s.get t = .one (.clo f id) := by rfl) (hS : Con P f S := by infer_instance) (hg : gsay ops s o = some true := by first | rfl | assumption) (hd : Oper.dstOk o s.n = true := by rfl) (hbox : s.obj id = some (.box e1 cs) := by rfl) (hss : scsOf cs = some ss := by rfl) (hsn : snapAs T s ts (xs.map s.ev) = some (args, log) := by simp [go_sem]; exact ⟨rfl, rfl⟩)
    (hSp : S (args ++ [.one (.iptr ss)]) av objs := by ((repeat apply Exists.intro); first | exact ⟨rfl, rfl, rfl⟩ | exact ⟨zp, rfl, rfl, rfl⟩ | exact ⟨zp, zp, zp, rfl, rfl, rfl⟩ | (refine Or.inl ?_; (repeat apply Exists.intro); first | exact ⟨rfl, rfl, rfl⟩ | exact ⟨zp, rfl, rfl, rfl⟩ | exact ⟨zp, zp, zp, rfl, rfl, rfl⟩) | (refine Or.inr ?_; (repeat apply Exists.intro); first | exact ⟨rfl, rfl, rfl⟩ | exact ⟨zp, rfl, rfl, rfl⟩ | exact ⟨zp, zp, zp, rfl, rfl, rfl⟩))) (hpl : plainT av = true := by rfl) (hpo : objs.all plainO = true := by rfl)
    (hfr : freshB s (callE (8 * o.dst.getD 0) av objs (id :: log)) = true := by rfl) (hs : s.app o.dst (callE (8 * o.dst.getD 0) av objs (id :: log)) = s' := by simp [go_sem]; rfl) : walkL P (reck T) ops (o :: r) s tr kl := by
  obtain ⟨hS, fn, hf, hb, hn⟩ := hS
  exact z_clol hS hf ho hb hn hg hd hclo hbox hss hsn hSp hpl hpo hfr hs k0
end
section
variable {f : FuncId} {xs : List Operand} {ts : List Nat} {args : List AV} {id : Nat} {ob ob' : Obj}
theorem yx {S : SpecX} (k0 : walkN P (reck T) ops r s' k) (ho : Oper.isCall o f xs ts := by rfl) (hS : ConX P f S := by infer_instance) (hg : gsay ops s o = some true := by first | rfl | assumption) (hd : Oper.dstOk o s.n = true := by rfl) (hid : refAs (xs.map s.ev) = some id := by simp [go_sem]; rfl) (hob : s.obj id = some ob := by simp [go_sem]; rfl) (hargs : mAs id (xs.map s.ev) = some args := by simp [go_sem]; rfl)
    (hSp : S args ob ob' := by ((repeat apply Exists.intro); first | exact ⟨rfl, rfl, rfl⟩ | exact ⟨zp, rfl, rfl, rfl⟩ | exact ⟨zp, zp, zp, rfl, rfl, rfl⟩)) (hpo : isFlat ob = true := by rfl) (hpo' : isFlat ob' = true := by rfl) (hfr : freshB s (effX id (8 * o.dst.getD 0) ob') = true := by rfl) (hs : s.app o.dst (effX id (8 * o.dst.getD 0) ob') = s' := by simp [go_sem]; rfl) : walkN P (reck T) ops (o :: r) s k := by
  obtain ⟨hS, fn, hf, hb, hn⟩ := hS
  exact z_fnX hS hf ho hb hn hg hd hid hob hargs hSp hpo hpo' hfr hs k0
theorem yv {S : SpecX} (k0 : walkN P (reck T) ops r s' k) (ho : Oper.isCall o f xs ts := by rfl) (hS : ConV P f S := by infer_instance) (hg : gsay ops s o = some true := by first | rfl | assumption) (hd : Oper.dstOk o s.n = true := by rfl) (hid : refAs (xs.map s.ev) = some id := by simp [go_sem]; rfl) (hob : s.obj id = some ob := by simp [go_sem]; rfl) (hargs : mAs id (xs.map s.ev) = some args := by simp [go_sem]; rfl)
    (hSp : S args ob ob' := by ((repeat apply Exists.intro); first | exact ⟨rfl, rfl, rfl⟩ | exact ⟨zp, rfl, rfl, rfl⟩ | exact ⟨zp, zp, zp, rfl, rfl, rfl⟩)) (hpo : plainO ob = true := by rfl) (hpo' : plainO ob' = true := by rfl) (hs : s.app o.dst (effV id ob') = s' := by simp [go_sem]; rfl) : walkN P (reck T) ops (o :: r) s k := by
  obtain ⟨hS, fn, hf, hb, hn⟩ := hS
  exact z_fnV hS hf ho hb hn hg hd hid hob hargs hSp hpo hpo' hs k0
end
end
attribute [go_sem] rLoadOwn

end Go.Eng
/- The engine, part 33: steps and turns in few words. -/
namespace Go.Eng
open Go Go.RowKit

class Str (G : Prop) (H : outParam Prop) : Prop where
  go : H → G
theorem zst {G H : Prop} (h : H) [i : Str G H] : G := i.go h
section
variable {s : AS} {P : Program} {E : Reck} {K : Nat → List Nat} {Q : Exit → AS → Prop} {x y c : Code} {id : Nat} {l : List Oper}
instance : Str (awp P E K (.seq x y) Q s) (awp P E K x (kSeq P E K y Q) s) := ⟨a_seq⟩
instance : Str (awp P E K .skip Q s) (Q .normal s) := ⟨a_skip⟩
instance : Str (awp P E K .ret Q s) (Q .ret s) := ⟨a_ret⟩
instance : Str (awp P E K (.exit id) Q s) (Q (.exit id) s) := ⟨a_exit⟩
instance : Str (awp P E K (.block id c) Q s) (awp P E K c (kBlk id Q) s) := ⟨a_block⟩
instance : Str (awp P E K (.region id l.toArray false) Q s) (walkN P E l.toArray l s (kReg (K id) Q)) := ⟨a_reg⟩
instance : Str (awp P E K (.region id l.toArray true) Q s) (walkL P E l.toArray l s [] (kDrw (K id) l Q)) := ⟨a_draw⟩
instance : Str (kSeq P E K y Q .normal s) (awp P E K y Q s) := ⟨k_seq⟩
instance : Str (kSeq P E K y Q (.exit id) s) (Q (.exit id) s) := ⟨k_seq_exit⟩
instance : Str (kSeq P E K y Q .ret s) (Q .ret s) := ⟨k_seq_ret⟩
instance : Str (kBlk id Q .normal s) (Q .normal s) := ⟨k_blk⟩
instance : Str (kBlk id Q (.exit id) s) (Q .normal s) := ⟨k_blk_exit⟩
instance : Str (kBlk id Q .ret s) (Q .ret s) := ⟨k_blk_ret⟩
instance {ι : Type} {S : ι → AS} {I : ι → Prop} {μ : ι → Nat} {i : ι} : Str (kLop S I μ i Q (.exit id) s) (Q (.exit id) s) := ⟨k_lop_exit⟩
instance {ι : Type} {S : ι → AS} {I : ι → Prop} {μ : ι → Nat} {i : ι} : Str (kLop S I μ i Q .ret s) (Q .ret s) := ⟨k_lop_ret⟩
end
section
variable {ops : Array Oper} {o : Oper} {s : AS} {v w : Bool}
theorem zgy (h : GV ops s o v w) (e : v = w := by rfl) : gsay ops s o = some true := by subst e; have := gv_say h; simpa using this
theorem zgn (h : GV ops s o v w) (e : (v == w) = false := by rfl) : gsay ops s o = some false := by rw [← e]; exact gv_say h
end
section
variable {s : AS} {P : Program} {E : Reck} {K : Nat → List Nat} {Q : Exit → AS → Prop}
theorem zk {c : Operand} {x y : Code} {v : Bool} {A B : Prop} (h1 : A → v = true → awp P E K x Q s) (h2 : B → v = false → awp P E K y Q s) (h : s.ev c = .one (.sc (.bool v)) := by simp [go_sem, *, -Bool.not_eq_eq_eq_not]; rfl)
    (hA : (v = true) = A := by exact zq)
    (hB : (v = false) = B := by exact zq) : awp P E K (.cond c x y) Q s :=
  z_cond h hA hB h1 h2
theorem zl {ι : Type} {S : ι → AS} {I : ι → Prop} {μ : ι → Nat} {i : ι} {m : List (Nat × Src)} (j : ι) (hj : I j := by omega)
    (hm : mkMap s (S j) = m := by simp [go_sem]; rfl) (hn : (S j).n = s.n := by rfl) (hd : distinctB m = true := by rfl)
    (hmu : μ j < μ i := by first | omega | (simp only; omega))
    (henv : ∀ p ∈ (S j).env, AVm m (s.get p.1) p.2 := by first | (simp [go_sem, AVm, CVm, lookS, *]; done) | (simp [go_sem, AVm, CVm, lookS, *] <;> (repeat' split) <;> first | omega | (simp_all; done) | (exfalso; omega) | (simp_all; omega)))
    (hobj : ∀ p ∈ (S j).H, match p.2 with | none => True | some o' => ∃ src, lookS m p.1 = some src ∧ OBm m s src o' := by first | (simp [go_sem, OBm, CVm, All2, lookS, *]; done) | (simp [go_sem, OBm, CVm, All2, lookS, *] <;> (repeat' split) <;> first | omega | (simp_all; done) | (exfalso; omega) | (simp_all; omega))) : kLop S I μ i Q .normal s :=
  z_lop j hm hn hd hj hmu henv hobj
end
end Go.Eng

namespace Go.Eng
open Go Go.RowKit
theorem zx {p : Prop} (h : False := by first | contradiction | omega) : p := h.elim
theorem zt {p : Prop} (h : p := by (repeat' split) <;> first | omega | (simp_all; done) | (exfalso; omega) | (simp_all; omega)) : p := h
section
variable {P : Program} {T : Tys} {E : Reck} {K : Nat → List Nat} {Q : Exit → AS → Prop} {ops : Array Oper} {o : Oper} {r : List Oper} {s : AS} {k : AS → Prop} {tr : List (Option Eff)} {kl : List (Option Eff) → AS → Prop}
theorem zo {id id' : Nat} (h : Q (.exit id') s) (hne : (id' == id) = false := by rfl) : kBlk id Q (.exit id') s := k_blk_other hne h
theorem zm {ι : Type} {S : ι → AS} {I : ι → Prop} {μ : ι → Nat} {i : ι} {m : List (Nat × Src)} (j : ι) (henv : ∀ p ∈ (S j).env, AVm m (s.get p.1) p.2) (hobj : ∀ p ∈ (S j).H, match p.2 with | none => True | some o' => ∃ src, lookS m p.1 = some src ∧ OBm m s src o')
    (hm : mkMap s (S j) = m := by simp [go_sem]; rfl) (hn : (S j).n = s.n := by rfl) (hd : distinctB m = true := by rfl) (hj : I j := by omega) (hmu : μ j < μ i := by first | omega | (simp only; omega)) : kLop S I μ i Q .normal s :=
  z_lop j hm hn hd hj hmu henv hobj
theorem zs {v want : Bool} {A B : Prop} (h : GV ops s o v want) (h1 : A → v = true → walkN P E ops (o :: r) s k) (h2 : B → v = false → walkN P E ops (o :: r) s k) (hA : (v = true) = A := by exact zq) (hB : (v = false) = B := by exact zq) : walkN P E ops (o :: r) s k := z_spl h hA hB h1 h2
theorem zS {v want : Bool} {A B : Prop} (h : GV ops s o v want) (h1 : A → v = true → walkL P E ops (o :: r) s tr kl) (h2 : B → v = false → walkL P E ops (o :: r) s tr kl) (hA : (v = true) = A := by exact zq) (hB : (v = false) = B := by exact zq) : walkL P E ops (o :: r) s tr kl := z_spll h hA hB h1 h2
theorem zu {ι : Type} (u : ι → List (Nat × AV)) (ov : ι → List Ov) (I : ι → Prop) (μ : ι → Nat) (i0 : ι) {c : Code} {S : ι → AS} {m : List (Nat × Src)} (h : ∀ i, I i → awp P E K c (kLop S I μ i Q) (S i))
    (hS : ∀ i, overS s (u i) (ov i) = S i := by intro i; simp [go_sem]; rfl) (hm : mkMap s (S i0) = m := by simp [go_sem]; rfl) (hn : (S i0).n = s.n := by rfl) (hd : distinctB m = true := by rfl)
    (h0 : I i0 := by omega) (henv : ∀ p ∈ (S i0).env, AVm m (s.get p.1) p.2 := by simp [go_sem, AVm, CVm, lookS]) (hobj : ∀ p ∈ (S i0).H, match p.2 with | none => True | some o' => ∃ src, lookS m p.1 = some src ∧ OBm m s src o' := by simp [go_sem, OBm, CVm, lookS, All2]) : awp P E K (.loop c) Q s :=
  z_loop u ov I μ i0 hS hm hn hd h0 henv hobj h
theorem zv {rs : List ResultVar} {av av' : AV} {objs : List Obj} {acc : Acc} (h : retA T s rs = some (av', acc) := by simp [go_sem]; first | exact ⟨rfl, rfl⟩ | rfl) (hv : av' = av := by first | rfl | (simp [go_sem, *]; done) | (simp_all; done) | (simp_all; omega)) (ho : acc.map (·.1) = objs := by first | rfl | (simp [go_sem, *]; done) | (simp_all; done) | (simp_all; omega)) : retOK T rs av objs .ret s := z_ret h hv ho
end
end Go.Eng
/- The engine, part 34: functions that write through the rows of an object that they are handed. -/
namespace Go.Eng
open Go Go.RowKit

section
variable {N0 : Nat} {W0 : World} {s s' : AS} {β β' : Plc} {a : Act} {w w' : World} {P : Program} {T : Tys}

section
variable {k : AS → Prop} {tr : List (Option Eff)} {kl : List (Option Eff) → AS → Prop} {ops : Array Oper} {o : Oper} {r : List Oper} {f : FuncId} {xs : List Operand} {ts : List Nat}
end

end
end Go.Eng
/- The engine, part 35: functions that are handed a cursor (a variable of three cells: bytes, a place, a number) and may move it. -/
namespace Go.Eng
open Go Go.RowKit

section
variable {N0 : Nat} {W0 : World} {s s' : AS} {β β' : Plc} {a : Act} {w w' : World} {P : Program} {T : Tys}

def curV (u : Value) (i h : Int) : Array Value := #[u, .int .i64 i, .int .i64 h]
abbrev cur (ty : Nat) (c : CV) (i h : Int) : Obj := .box ty [c, .sc (.int i), .sc (.int h)]
abbrev aC : AV := .one (.ptr 0 1 0 0)

abbrev SpecB := List AV → List El → Int → Int → AV → List Obj → Int → Int → Prop

def away (w : World) (b : Nat) : Nat → Prop := fun x => x < w.heap.size ∧ x ≠ b
def ptrV (b : Nat) : Value := .pointer (some ⟨b, 0, none⟩)

def FreshB (N0 B : Nat) (w' : World) (v : Value) (av : AV) (objs : List Obj) : Prop :=
  ∃ ps : Ps, ps.length = objs.length ∧ AR N0 (fun j => ps[j]?) (fun _ => False) w' av v ∧
    (∀ (j : Nat) (o : Obj) (p : Value × List Value), objs[j]? = some o → ps[j]? = some p → ObjAt N0 (fun _ => none) (fun _ => False) w' p.1 p.2 o ∧ ∀ b, blks o.own p.1 p.2 b → B ≤ b ∧ b < w'.heap.size) ∧
    (∀ (j j' : Nat) (o o' : Obj) (p p' : Value × List Value) (b : Nat), objs[j]? = some o → objs[j']? = some o' → ps[j]? = some p → ps[j']? = some p' → blks o.own p.1 p.2 b → blks o'.own p'.1 p'.2 b → j = j')

structure Moved (w w' : World) (b ty : Nat) (u : Value) (i h : Int) : Prop where
  os : w'.os = w.os
  tape : w'.tape = w.tape
  output : w'.output = w.output
  size : w.heap.size ≤ w'.heap.size
  rest : ∀ x, away w b x → w'.heap[x]? = w.heap[x]?
  cur : w'.heap[b]? = some (.cells (curV u i h) ty (0, 0))

def SatB (P : Program) (f : FuncId) (ty : Nat) (S : SpecB) : Prop :=
  ∀ args bs i h av objs i' h', S args bs i h av objs i' h' → ∀ N0 w vals b u, N0 ≤ b → b < w.heap.size → w.heap[b]? = some (.cells (curV u i h) ty (0, 0)) → Imm (away w b) w 1 u bs →
    All2 (AR N0 (at0 (ptrV b) []) (away w b) w) args vals → Calls P f vals.toArray w fun ex w' => ∃ v, ex = .returned v ∧ Moved w w' b ty u i' h' ∧ FreshB N0 w.heap.size w' v av objs


def retOKB (T : Tys) (rs : List ResultVar) (ty : Nat) (av : AV) (objs : List Obj) (bs : List El) (i h : Int) (u : Value) (S : Nat → Prop) (W : World) (pv : Value) (e : Exit) (t : AS) : Prop :=
  match e with
  | .ret | .normal => ∃ acc, retA T t rs = some (av, acc) ∧ acc.map (·.1) = objs ∧ (acc.all fun p => isFlat p.1 && match p.2 with | some id => id != 0 | none => false) = true ∧ t.obj 0 = some (cur ty (.iv u 1 bs) i h) ∧ t.obj 1 = some (.pin S W) ∧ t.obj 3 = some (.stay 0 pv)
  | _ => False

theorem ret_good (hT : TOk P T) (r : Rel N0 W0 s β a w) {rs : List ResultVar} {av : AV} {acc : Acc} (h : retA T s rs = some (av, acc)) :
    ∃ vs, All2 (fun x v => (match x with | .tmp t => (pure (a.tmps.getD t undef) : Sem Value) | .cell t ty => (do loadVar ty (← asAddr (a.tmps.getD t undef)))).run P w = .ok v w) rs vs ∧ ∃ ps, Good N0 s β w acc ps ∧ AR N0 (fun j => ps[j]?) (fun _ => False) w av (packV vs) := by
  unfold retA at h
  split at h
  · rename_i x
    have hnd : resC T s x ≠ .dead := fun e => by rw [e] at h; cases h
    obtain ⟨v, h1, h2⟩ := resC_ok hT r x hnd
    obtain ⟨qs, g, _, h3⟩ := retD_ok r good_nil h h2
    exact ⟨[v], ⟨h1, trivial⟩, _, g, h3⟩
  · rename_i hsing
    simp only [Option.map_eq_some_iff] at h
    obtain ⟨⟨cs, acc1⟩, hcs, he⟩ := h
    cases he
    obtain ⟨vs, h1, h2⟩ := resAll_ok hT r rs (fun x hx => retT_nd hcs _ (List.mem_map.2 ⟨x, hx, rfl⟩))
    obtain ⟨qs, g, h3⟩ := retT_ok r good_nil hcs h2
    refine ⟨vs, h1, _, g, ?_⟩
    have hp : packV vs = .tuple vs.toArray := by
      have hl := h1.length
      match vs, rs, hl with
      | [], _, _ => rfl
      | [v], [x], _ => exact (hsing x rfl).elim
      | _ :: _ :: _, _, _ => rfl
    rw [hp]
    exact ⟨vs, rfl, h3⟩

theorem satB_of {E : Reck} (hT : TOk P T) (hE : E.Ok P) (hm : P.follows .mixedOrders = true) {f : FuncId} {fn : Func} {c : Code} {rs : List ResultVar} {n ty : Nat} {S : SpecB} (K : Nat → List Nat)
    (hf : P.funcs[f]? = some fn) (hb : fn.body = some c) (hrs : fn.results = rs.toArray) (hn : fn.ntmps = n)
    (h : ∀ args bs i h av objs i' h', S args bs i h av objs i' h' → args.length ≤ n ∧ ∀ u S W pv, awp P E K c (retOKB T rs ty av objs bs i' h' u S W pv) (entryM n args (cur ty (.iv u 1 bs) i h) S W pv)) : SatB P f ty S := by
  intro args bs i h0 av objs i' h' hS N0 w vals b u hNb hbs hheap him hargs
  obtain ⟨hlen, hw⟩ := h args bs i h0 av objs i' h' hS
  refine calls_of_wp hf hb ?_
  rw [hn]
  have hbl : ∀ x, blks (cur ty (.iv u 1 bs) i h0).own (ptrV b) [] x → x = b := by
    rintro x (h1 | ⟨h1, _⟩)
    · cases h1; rfl
    · cases h1
  have hap : ∀ x, away w b x → apart w (cur ty (.iv u 1 bs) i h0) (ptrV b) [] x := fun x hx => ⟨hx.1, fun hh => hx.2 (hbl x hh)⟩
  have hka : Keep (away w b) (apart w (cur ty (.iv u 1 bs) i h0) (ptrV b) []) w w := fun x hx => ⟨hap x hx, rfl⟩
  have ho : ObjAt N0 (at0 (ptrV b) []) (apart w (cur ty (.iv u 1 bs) i h0) (ptrV b) []) w (ptrV b) [] (cur ty (.iv u 1 bs) i h0) :=
    ⟨b, curV u i h0, rfl, hNb, hheap, ⟨⟨rfl, him.keep hka⟩, rfl, rfl, trivial⟩⟩
  have r0 := rel_entryM (n := n) (Nat.le_of_lt (Nat.lt_of_le_of_lt hNb hbs)) ho (fun x hx => by rw [hbl x hx]; exact ⟨hNb, hbs⟩) (hargs.mono fun _ _ _ _ hr => hr.keep (fun _ _ vs h => ⟨vs, h⟩) hka) hlen
  refine wp_mono (awp_sound hE hm c (hw u _ _ _) r0) ?_
  rintro ex a' w' ⟨t, β', r', hq⟩
  have fin : (∃ acc, retA T t rs = some (av, acc) ∧ acc.map (·.1) = objs ∧ (acc.all fun p => isFlat p.1 && match p.2 with | some id => id != 0 | none => false) = true ∧ t.obj 0 = some (cur ty (.iv u 1 bs) i' h') ∧ t.obj 1 = some (.pin (apart w (cur ty (.iv u 1 bs) i h0) (ptrV b) []) w) ∧ t.obj 3 = some (.stay 0 (ptrV b))) →
      a'.defers = [] ∧ ∃ v, (results fn a'.tmps).run P w' = .ok v w' ∧ ∃ v', Ending.returned v = .returned v' ∧ Moved w w' b ty u i' h' ∧ FreshB N0 w.heap.size w' v' av objs := by
    rintro ⟨acc, h1, rfl, hacc, h2, h3, h4⟩
    obtain ⟨vs, q1, ps, g, hav⟩ := ret_good hT r' h1
    obtain ⟨pv1, vs1, p1, ⟨b1, arr, e1, e2, e3, e4⟩, bl1⟩ := r'.obj 0 _ h2
    obtain ⟨pv3, vs3, p3, at3, _⟩ := r'.obj 3 _ h4
    obtain ⟨_, us, p4⟩ := at3
    rw [p1] at p4
    cases p4
    cases e1
    obtain ⟨pv2, vs2, p2, at2, _⟩ := r'.obj 1 _ h3
    have harr : arr = curV u i' h' := by
      have hl : arr.toList = [u, .int .i64 i', .int .i64 h'] := by
        generalize arr.toList = l at e4
        match l, e4 with
        | [x, y, z], ⟨⟨hx, _⟩, hy, hz, _⟩ => rw [show x = _ from hx, show y = _ from hy, show z = _ from hz]; rfl
      apply Array.toList_inj.1
      rw [hl]; rfl
    subst harr
    have hrest : ∀ x, away w b x → w'.heap[x]? = w.heap[x]? := fun x hx => (at2.2 x (hap x hx)).2
    refine ⟨r'.defers, packV vs, results_ok hrs q1, packV vs, rfl, ⟨r'.below.os, r'.below.tape, r'.below.output, r'.below.size, hrest, e3⟩, ps, by simp [g.len], hav, ?_, ?_⟩
    · intro j o p hj hp
      rw [List.getElem?_map, Option.map_eq_some_iff] at hj
      obtain ⟨q, hq, rfl⟩ := hj
      obtain ⟨g1, g2, g3⟩ := g.at_ j q p hq hp
      refine ⟨g1, fun x hx => ⟨?_, (g2 x hx).2⟩⟩
      have hqa := List.all_eq_true.1 hacc q (List.mem_of_getElem? hq)
      rw [Bool.and_eq_true] at hqa
      obtain ⟨_, hqa⟩ := hqa
      cases hid : q.2 with
      | none => rw [hid] at hqa; cases hqa
      | some id =>
        rw [hid] at hqa g3
        have hid0 : id ≠ 0 := by simpa using hqa
        obtain ⟨⟨o1, ho1, how⟩, hβ1⟩ := g3
        by_cases hlt : w.heap.size ≤ x
        · exact hlt
        · exfalso
          by_cases hxb : x = b
          · subst hxb
            exact hid0 (r'.disj id 0 o1 _ p.1 p.2 _ _ x ho1 h2 hβ1 p1 (by rw [how]; exact hx) (.inl rfl))
          · exact (at2.2 x (hap x ⟨by omega, hxb⟩)).1.2 ⟨id, o1, p.1, p.2, ho1, hβ1, by rw [how]; exact hx⟩
    · have := (g.fresh r' hav)
      intro j j' o o' p p' x hj hj' hp hp' hx hx'
      rw [List.getElem?_map, Option.map_eq_some_iff] at hj hj'
      obtain ⟨q, hq, rfl⟩ := hj
      obtain ⟨q', hq', rfl⟩ := hj'
      obtain ⟨_, _, h3⟩ := g.at_ j q p hq hp
      obtain ⟨_, _, h3'⟩ := g.at_ j' q' p' hq' hp'
      refine g.nd j j' q q' hq hq' ?_
      have hqa := List.all_eq_true.1 hacc q (List.mem_of_getElem? hq)
      have hqa' := List.all_eq_true.1 hacc q' (List.mem_of_getElem? hq')
      rw [Bool.and_eq_true] at hqa hqa'
      cases e : q.2 with
      | none => rw [e] at hqa; cases hqa.2
      | some id =>
        cases e' : q'.2 with
        | none => rw [e'] at hqa'; cases hqa'.2
        | some id' =>
          rw [e] at h3; rw [e'] at h3'
          obtain ⟨⟨o1, ho1, hw1⟩, hβ1⟩ := h3
          obtain ⟨⟨o2, ho2, hw2⟩, hβ2⟩ := h3'
          exact congrArg some (r'.disj id id' o1 o2 _ _ _ _ x ho1 ho2 hβ1 hβ2 (by rw [hw1]; exact hx) (by rw [hw2]; exact hx'))
  cases ex with
  | ret => exact fin hq
  | normal => exact fin hq
  | exit id => exact hq.elim
  | goto l => exact hq.elim
  | panic ch => exact hq.elim
  | outgrown => exact hq.elim


def mqC (s : AS) : CV → Option (CV × List Nat)
  | .sc x => some (.sc x, [])
  | .imm k xs => some (.imm k xs, [])
  | .iv _ k xs => some (.imm k xs, [])
  | .ref i => match s.obj i with
    | some (.flat _ k xs) => some (.imm k xs, [i])
    | some (.zrow _ k) => some (.imm k [], [i])
    | _ => none
  | _ => none

def mqL (s : AS) : List CV → Option (List CV × List Nat)
  | [] => some ([], [])
  | c :: r => (mqC s c).bind fun d => (mqL s r).map fun e => (d.1 :: e.1, d.2 ++ e.2)

def mqA (s : AS) : AV → Option (AV × List Nat)
  | .one c => (mqC s c).map fun d => (.one d.1, d.2)
  | .agg cs => (mqL s cs).map fun d => (.agg d.1, d.2)
  | _ => none

def mqAs (s : AS) : List AV → Option (List AV × List Nat)
  | [] => some ([], [])
  | c :: r => (mqA s c).bind fun d => (mqAs s r).map fun e => (d.1 :: e.1, d.2 ++ e.2)

theorem mqC_congr {c : CV} {x : CV × List Nat} (h : mqC s c = some x) (ha : ∀ i ∈ x.2, s'.obj i = s.obj i) : mqC s' c = some x := by
  unfold mqC at h ⊢
  split at h <;> try (exact h)
  split at h
  all_goals first
    | (rename_i ho
       cases h
       simp only [ha _ List.mem_cons_self, ho])
    | cases h

theorem mqL_congr : ∀ {cs : List CV} {x : List CV × List Nat}, mqL s cs = some x → (∀ i ∈ x.2, s'.obj i = s.obj i) → mqL s' cs = some x
  | [], x, h, _ => h
  | c :: cs, x, h, ha => by
    simp only [mqL, Option.bind_eq_some_iff, Option.map_eq_some_iff] at h ⊢
    obtain ⟨y, hy, z, hz, rfl⟩ := h
    exact ⟨y, mqC_congr hy (fun i hi => ha i (by simp [hi])), z, mqL_congr hz (fun i hi => ha i (by simp [hi])), rfl⟩

theorem mqA_congr {c : AV} {x : AV × List Nat} (h : mqA s c = some x) (ha : ∀ i ∈ x.2, s'.obj i = s.obj i) : mqA s' c = some x := by
  cases c with
  | one c =>
    simp only [mqA, Option.map_eq_some_iff] at h ⊢
    obtain ⟨y, hy, rfl⟩ := h
    exact ⟨y, mqC_congr hy ha, rfl⟩
  | agg cs =>
    simp only [mqA, Option.map_eq_some_iff] at h ⊢
    obtain ⟨y, hy, rfl⟩ := h
    exact ⟨y, mqL_congr hy ha, rfl⟩
  | _ => cases h

theorem mqAs_congr : ∀ {cs : List AV} {x : List AV × List Nat}, mqAs s cs = some x → (∀ i ∈ x.2, s'.obj i = s.obj i) → mqAs s' cs = some x
  | [], x, h, _ => h
  | c :: cs, x, h, ha => by
    simp only [mqAs, Option.bind_eq_some_iff, Option.map_eq_some_iff] at h ⊢
    obtain ⟨y, hy, z, hz, rfl⟩ := h
    exact ⟨y, mqA_congr hy (fun i hi => ha i (by simp [hi])), z, mqAs_congr hz (fun i hi => ha i (by simp [hi])), rfl⟩

theorem Imm.up {F F' : Nat → Prop} {k : Nat} {v : Value} {xs : List El} (h : Imm F w k v xs) (hF : ∀ b, blockOf v = some b → F b → F' b) : Imm F' w k v xs := by
  obtain ⟨⟨p, cap, rfl, hle, hc⟩, hf⟩ := h
  refine ⟨⟨p, cap, rfl, hle, ?_⟩, hf⟩
  rcases hc with h0 | ⟨b, off, rfl, hb, hcell⟩
  · exact .inl h0
  · exact .inr ⟨b, off, rfl, hF b rfl hb, hcell⟩

theorem away_of (r : Rel N0 W0 s β a w) {id b : Nat} {o : Obj} {vs : List Value} (ho : s.obj id = some o) (hp : β id = some (ptrV b, vs)) {i : Nat} {o' : Obj} {pv' : Value} {vs' : List Value} (hi : s.obj i = some o') (hp' : β i = some (pv', vs')) (hne : i ≠ id) : ∀ x, blockOf pv' = some x → x < w.heap.size → away w b x :=
  fun x hx hlt => ⟨hlt, fun e => hne (r.disj i id o' o pv' vs' _ _ x hi ho hp' hp (.inl hx) (.inl (by rw [e]; rfl)))⟩

theorem mqC_ok (r : Rel N0 W0 s β a w) {id b : Nat} {o : Obj} {vs0 : List Value} (ho : s.obj id = some o) (hbox : ∃ e cs, o = .box e cs) (hp : β id = some (ptrV b, vs0)) {c : CV} {x : CV × List Nat} {v : Value} (h : mqC s c = some x) (hc : CR N0 β (Free s β w) w c v) : CR N0 (at0 (ptrV b) []) (away w b) w x.1 v := by
  have hF : ∀ y, Free s β w y → away w b y := fun y hy => ⟨hy.1, fun e => hy.2 ⟨id, o, _, _, ho, hp, .inl (by rw [e]; rfl)⟩⟩
  have hk : Keep (Free s β w) (away w b) w w := fun y hy => ⟨hF y hy, rfl⟩
  unfold mqC at h
  split at h
  · cases h; exact hc
  · cases h; exact Imm.keep hk hc
  · cases h; exact Imm.keep hk hc.2
  · rename_i i
    obtain ⟨vs', hv, h1c⟩ := hc
    obtain ⟨e1, cs1, rfl⟩ := hbox
    split at h
    · rename_i e k xs hi
      cases h
      obtain ⟨pv, vs, hp2, hat, _⟩ := r.obj i _ hi
      rw [hp2] at hv; cases hv
      have hne : i ≠ id := fun e => by rw [e, ho] at hi; cases hi
      exact (imm_of_owns hat.1 hat.2).up fun y hy hlt => away_of r ho hp hi hp2 hne y hy hlt
    · rename_i e k hi
      cases h
      obtain ⟨pv, vs, hp2, hat, _⟩ := r.obj i _ hi
      rw [hp2] at hv; cases hv
      have hne : i ≠ id := fun e => by rw [e, ho] at hi; cases hi
      exact (imm_of_owns (xs := []) hat.1 (fun e he => by cases he)).up fun y hy hlt => away_of r ho hp hi hp2 hne y hy hlt
    · cases h
  · cases h

theorem mqL_ok (r : Rel N0 W0 s β a w) {id b : Nat} {o : Obj} {vs0 : List Value} (ho : s.obj id = some o) (hbox : ∃ e cs, o = .box e cs) (hp : β id = some (ptrV b, vs0)) : ∀ {cs : List CV} {x : List CV × List Nat} {vs : List Value}, mqL s cs = some x → All2 (CR N0 β (Free s β w) w) cs vs → All2 (CR N0 (at0 (ptrV b) []) (away w b) w) x.1 vs
  | [], x, [], h, _ => by cases h; trivial
  | c :: cs, x, v :: vs, h, ⟨h1, h2⟩ => by
    simp only [mqL, Option.bind_eq_some_iff, Option.map_eq_some_iff] at h
    obtain ⟨y, hy, z, hz, rfl⟩ := h
    exact ⟨mqC_ok r ho hbox hp hy h1, mqL_ok r ho hbox hp hz h2⟩
  | [], _, _ :: _, _, h => h.elim
  | _ :: _, _, [], _, h => h.elim

theorem mqA_ok (r : Rel N0 W0 s β a w) {id b : Nat} {o : Obj} {vs0 : List Value} (ho : s.obj id = some o) (hbox : ∃ e cs, o = .box e cs) (hp : β id = some (ptrV b, vs0)) {c : AV} {x : AV × List Nat} {v : Value} (h : mqA s c = some x) (hc : AR N0 β (Free s β w) w c v) : AR N0 (at0 (ptrV b) []) (away w b) w x.1 v := by
  cases c with
  | one c =>
    simp only [mqA, Option.map_eq_some_iff] at h
    obtain ⟨y, hy, rfl⟩ := h
    exact mqC_ok r ho hbox hp hy hc
  | agg cs =>
    simp only [mqA, Option.map_eq_some_iff] at h
    obtain ⟨y, hy, rfl⟩ := h
    obtain ⟨us, h1, h2⟩ := hc
    exact ⟨us, h1, mqL_ok r ho hbox hp hy h2⟩
  | _ => cases h

theorem mqAs_ok (r : Rel N0 W0 s β a w) {id b : Nat} {o : Obj} {vs0 : List Value} (ho : s.obj id = some o) (hbox : ∃ e cs, o = .box e cs) (hp : β id = some (ptrV b, vs0)) : ∀ {cs : List AV} {x : List AV × List Nat} {vs : List Value}, mqAs s cs = some x → All2 (AR N0 β (Free s β w) w) cs vs → All2 (AR N0 (at0 (ptrV b) []) (away w b) w) x.1 vs
  | [], x, [], h, _ => by cases h; trivial
  | c :: cs, x, v :: vs, h, ⟨h1, h2⟩ => by
    simp only [mqAs, Option.bind_eq_some_iff, Option.map_eq_some_iff] at h
    obtain ⟨y, hy, z, hz, rfl⟩ := h
    exact ⟨mqA_ok r ho hbox hp hy h1, mqAs_ok r ho hbox hp hz h2⟩
  | [], _, _ :: _, _, h => h.elim
  | _ :: _, _, [], _, h => h.elim


def byC : CV → Option (List El)
  | .imm 1 bs => some bs
  | .iv _ 1 bs => some bs
  | _ => none

def callB (ty id base : Nat) (c0 : CV) (av : AV) (objs : List Obj) (i h : Int) (log : List Nat) : Eff :=
  { val := shT base av, sets := objH base objs ++ [(id, some (cur ty c0 i h))], fresh := idsFrom base objs.length, log := id :: log }

theorem EffU_callK (f : FuncId) (fn : Func) (x0 : Operand) (xs : List Operand) (ts : List Nat) (S : SpecB) {ty : Nat} {o : Oper} (ho : Oper.isCall o f (x0 :: xs) ts) (hS : SatB P f ty S) (hf : P.funcs[f]? = some fn) (hb : fn.body.isNone = false) (hn : (fn.name == "runtime.NumGoroutine") = false)
    (hd : Oper.dstOk o s.n = true) (id base : Nat) (c0 : CV) (bs : List El) (i h : Int) (hx0 : s.ev x0 = .one (.ptr id 1 0 0)) (hob : s.obj id = some (cur ty c0 i h)) (log0 : List Nat) (hIm : ∀ (s2 : AS) N0 W0 β a w u b vs, (∀ j ∈ log0, s2.obj j = s.obj j) → Rel N0 W0 s2 β a w → s2.obj id = some (cur ty c0 i h) → β id = some (ptrV b, vs) → CR N0 β (Free s2 β w) w c0 u → Imm (away w b) w 1 u bs) (args : List AV) (log : List Nat) (hargs : mqAs s (xs.map s.ev) = some (args, log)) (av : AV) (objs : List Obj) (i' h' : Int)
    (hSp : S (aC :: args) bs i h av objs i' h') (hpl : plainT av = true) (hpo : objs.all plainO = true) : EffU P o s (callB ty id base c0 av objs i' h' (log0 ++ log)) := by
  intro s2 h1 h2 h3 h4 N0 W0 β a w r K Q hK
  have hops : ∀ x ∈ x0 :: xs, x ∈ o.op.operands := fun x hx => by
    rw [show o.op = _ from ho]
    simp only [Op.operands, Call.operands]
    simp at hx ⊢
    exact .inr hx
  have hev := list_evs (s := s) (s' := s2) h2 hops
  simp only [List.map_cons, List.cons.injEq] at hev
  have hob2 : s2.obj id = some (cur ty c0 i h) := by rw [h3 id (by simp [callB])]; exact hob
  obtain ⟨pv, vs, hp, hat, hbl⟩ := r.obj id _ hob2
  obtain ⟨b, arr, rfl, hNb, hheap, hcs⟩ := hat
  have hbs : b < w.heap.size := (hbl b (.inl rfl)).2
  obtain ⟨u, harr, hcu⟩ : ∃ u, arr = curV u i h ∧ CR N0 β (Free s2 β w) w c0 u := by
    generalize hl : arr.toList = l at hcs
    match l, hcs with
    | [x, y, z], ⟨hx, hy, hz, _⟩ =>
      refine ⟨x, ?_, hx⟩
      apply Array.toList_inj.1
      rw [hl, show y = _ from hy, show z = _ from hz]; rfl
  subst harr
  have hF : ∀ y, Free s2 β w y → away w b y := fun y hy => ⟨hy.1, fun e => hy.2 ⟨id, _, _, _, hob2, hp, .inl (by rw [e]; rfl)⟩⟩
  have him : Imm (away w b) w 1 u bs := hIm s2 N0 W0 β a w u b vs (fun j hj => h3 j (by simp [callB, hj])) r hob2 hp hcu
  have hall : All2 (AR N0 (at0 (ptrV b) []) (away w b) w) (aC :: args) ((x0 :: xs).map a.eval) := by
    refine ⟨?_, mqAs_ok r hob2 ⟨_, _, rfl⟩ hp (mqAs_congr (s' := s2) (by rw [hev.2]; exact hargs) fun j hj => h3 j (by simp [callB, hj])) (all2_ev r xs)⟩
    have hx := r.ev x0
    rw [hev.1, hx0] at hx
    obtain ⟨pv', vs', b', hβ', hcase, hv⟩ := hx
    rw [hp] at hβ'
    cases hβ'
    have hbb : b' = b := by
      rcases hcase with ⟨n, c, e⟩ | e
      · cases e
      · cases e; rfl
    subst hbb
    exact ⟨_, [], b', rfl, .inr rfl, hv⟩
  unfold Oper.wp
  rw [run_isCall ho hf hb hn, Oper.upon_enter]
  refine (hS _ bs i h av objs i' h' hSp N0 w _ b u hNb hbs hheap him hall).mono ?_
  rintro ex w' ⟨v, rfl, hmv, ps, hl, hv, hat2, hdj⟩
  have hg := grownBy_setRow w b (curV u i' h')
  have hrow := setRow_heap w b _ (curV u i' h') ty _ hheap
  have hsz : (w.setRow b (curV u i' h')).heap.size = w.heap.size := by simp [World.setRow]
  have r1 := r.store (id := id) hob2 hp (w' := w.setRow b (curV u i' h')) hg (o' := cur ty c0 i' h') (vs' := vs) (fun F β' hF' hβ' => ⟨b, _, rfl, hNb, hrow, by
    have hk : Keep (Free s2 β w) F w (w.setRow b (curV u i' h')) := fun y hy => ⟨hF' y hy, hg.block y hy.1 (fun e => (hF y hy).2 (by cases e; rfl))⟩
    exact ⟨CR.keep hβ' hk hcu, rfl, rfl, trivial⟩⟩) (fun b hb => hb)
  have hbelow : Below (w.setRow b (curV u i' h')).heap.size (w.setRow b (curV u i' h')) w' := ⟨hmv.os, hmv.tape, hmv.output, by rw [hsz]; exact hmv.size, fun x hx => by
    rw [hsz] at hx
    by_cases hxb : x = b
    · subst hxb; rw [hrow]; exact hmv.cur
    · rw [hg.block x hx (fun e => hxb (by cases e; rfl))]; exact hmv.rest x ⟨hx, hxb⟩⟩
  obtain ⟨r', hext, hnew, hkeep⟩ := r1.allocL (base := base) (objs := objs) (ps := ps) hbelow hl (fun j hj => h4 j hj) (fun j o' p hj hpj => by
    obtain ⟨h5, h6⟩ := hat2 j o' p hj hpj
    have hpo' : plainO o' = true := List.all_eq_true.1 hpo o' (List.mem_of_getElem? hj)
    exact ⟨fun β' F _ _ _ => objAt_base (Nat.le_refl _) hpo' h5, by rw [hsz]; exact h6⟩) hdj
  have hst : ({ s2.setO id (cur ty c0 i' h') with H := objH base objs ++ (s2.setO id (cur ty c0 i' h')).H, used := idsFrom base objs.length ++ (s2.setO id (cur ty c0 i' h')).used } : AS) = { s2 with H := (objH base objs ++ [(id, some (cur ty c0 i' h'))]) ++ s2.H, used := idsFrom base objs.length ++ s2.used } := by
    simp [AS.setO]
  rw [hst] at r'
  have hav := shT_ok (N0 := N0) (F' := Free { s2 with H := (objH base objs ++ [(id, some (cur ty c0 i' h'))]) ++ s2.H, used := idsFrom base objs.length ++ s2.used } ((β.set id (ptrV b, vs)).add base ps) w') hnew hpl hv
  cases hdst : o.dst with
  | none => exact hK ((β.set id (ptrV b, vs)).add base ps) a w' (by rw [hdst]; exact r')
  | some d =>
    refine hK ((β.set id (ptrV b, vs)).add base ps) _ w' ?_
    rw [hdst]
    exact r'.put (d := d) (by have := Oper.dstOk_spec hd d hdst; rw [show s2.n = s.n from h1]; exact this) hav

theorem EffU_callB (f : FuncId) (fn : Func) (x0 : Operand) (xs : List Operand) (ts : List Nat) (S : SpecB) {ty : Nat} {o : Oper} (ho : Oper.isCall o f (x0 :: xs) ts) (hS : SatB P f ty S) (hf : P.funcs[f]? = some fn) (hb : fn.body.isNone = false) (hn : (fn.name == "runtime.NumGoroutine") = false)
    (hd : Oper.dstOk o s.n = true) (id base : Nat) (c0 : CV) (bs : List El) (i h : Int) (hx0 : s.ev x0 = .one (.ptr id 1 0 0)) (hob : s.obj id = some (cur ty c0 i h)) (hc0 : byC c0 = some bs) (args : List AV) (log : List Nat) (hargs : mqAs s (xs.map s.ev) = some (args, log)) (av : AV) (objs : List Obj) (i' h' : Int)
    (hSp : S (aC :: args) bs i h av objs i' h') (hpl : plainT av = true) (hpo : objs.all plainO = true) : EffU P o s (callB ty id base c0 av objs i' h' log) :=
  EffU_callK f fn x0 xs ts S ho hS hf hb hn hd id base c0 bs i h hx0 hob [] (fun s2 N0 W0 β a w u b vs _ r hob2 hp hcu => by
    have hF : ∀ y, Free s2 β w y → away w b y := fun y hy => ⟨hy.1, fun e => hy.2 ⟨id, _, _, _, hob2, hp, .inl (by rw [e]; rfl)⟩⟩
    unfold byC at hc0
    split at hc0
    · cases hc0; exact Imm.keep (fun y hy => ⟨hF y hy, rfl⟩) hcu
    · cases hc0; exact Imm.keep (fun y hy => ⟨hF y hy, rfl⟩) hcu.2
    · cases hc0) args log hargs av objs i' h' hSp hpl hpo


def SatN (P : Program) (f : FuncId) (ty : Nat) (S : List El → Int → Int → Prop) : Prop :=
  ∀ bs i h, S bs i h → ∀ w v, Imm (fun b => b < w.heap.size) w 1 v bs → Calls P f #[v] w fun ex w' => Below w.heap.size w w' ∧ ∃ b, ex = .returned (ptrV b) ∧ w.heap.size ≤ b ∧ b < w'.heap.size ∧ w'.heap[b]? = some (.cells (curV v i h) ty (0, 0))

def retOKN (T : Tys) (r : ResultVar) (ty : Nat) (u : Value) (bs : List El) (i h : Int) (e : Exit) (t : AS) : Prop :=
  match e with
  | .ret => ∃ id, resC T t r = .one (.ptr id 1 0 0) ∧ t.obj id = some (cur ty (.iv u 1 bs) i h)
  | _ => False

theorem satN_of {E : Reck} (hT : TOk P T) (hE : E.Ok P) (hm : P.follows .mixedOrders = true) {f : FuncId} {fn : Func} {c : Code} {r : ResultVar} {n ty : Nat} {S : List El → Int → Int → Prop} (K : Nat → List Nat)
    (hf : P.funcs[f]? = some fn) (hb : fn.body = some c) (hrs : fn.results = #[r]) (hn : fn.ntmps = n) (h1n : 1 ≤ n)
    (h : ∀ bs i h, S bs i h → ∀ u, awp P E K c (retOKN T r ty u bs i h) (entryS n [.one (.iv u 1 bs)])) : SatN P f ty S := by
  intro bs i0 h0 hS w v him
  refine calls_of_wp hf hb ?_
  rw [hn]
  have r0 := rel_entry (w := w) (n := n) (args := [.one (.iv v 1 bs)]) (vals := [v]) ⟨⟨rfl, him⟩, trivial⟩ h1n
  refine wp_mono (awp_sound hE hm c (h bs i0 h0 hS v) r0) ?_
  rintro ex a' w' ⟨t, β', r', hq⟩
  cases ex with
  | ret =>
    obtain ⟨id, h1, h2⟩ := hq
    obtain ⟨x, h5, h6⟩ := resC_ok hT r' r (by rw [h1]; intro h; cases h)
    rw [h1] at h6
    obtain ⟨pv, vs, b, hβ, hcase, rfl⟩ := h6
    obtain ⟨pv1, vs1, p1, ⟨b1, arr, e1, e2, e3, e4⟩, bl1⟩ := r'.obj id _ h2
    rw [hβ] at p1; cases p1
    subst e1
    have hbb : b1 = b := by
      rcases hcase with ⟨n, c, e⟩ | e
      · cases e
      · cases e; rfl
    subst hbb
    have hres := results_ok (P := P) (w := w') (fn := fn) (rs := [r]) (tmps := a'.tmps) (vs := [_]) hrs ⟨h5, trivial⟩
    have harr : arr = curV v i0 h0 := by
      have hl : arr.toList = [v, .int .i64 i0, .int .i64 h0] := by
        generalize arr.toList = l at e4
        match l, e4 with
        | [x, y, z], ⟨⟨hx, _⟩, hy, hz, _⟩ => rw [show x = _ from hx, show y = _ from hy, show z = _ from hz]; rfl
      apply Array.toList_inj.1
      rw [hl]; rfl
    subst harr
    exact ⟨r'.defers, _, hres, r'.below, b1, rfl, e2, (bl1 b1 (.inl rfl)).2, e3⟩
  | normal => exact hq.elim
  | exit id => exact hq.elim
  | goto l => exact hq.elim
  | panic ch => exact hq.elim
  | outgrown => exact hq.elim

theorem EffU_callN (f : FuncId) (fn : Func) (x0 : Operand) (ts : List Nat) (S : List El → Int → Int → Prop) {ty : Nat} {o : Oper} (ho : Oper.isCall o f [x0] ts) (hS : SatN P f ty S) (hf : P.funcs[f]? = some fn) (hb : fn.body.isNone = false) (hn : (fn.name == "runtime.NumGoroutine") = false)
    (hd : Oper.dstOk o s.n = true) (id : Nat) (bs : List El) (i h : Int) (hx0 : s.ev x0 = .one (.imm 1 bs)) (hSp : S bs i h) : EffU P o s (newE id (.one (.ptr id 1 0 0)) (cur ty (.imm 1 bs) i h)) := by
  intro s2 h1 h2 h3 h4 N0 W0 β a w r K Q hK
  have hops : ∀ x ∈ [x0], x ∈ o.op.operands := fun x hx => by
    rw [show o.op = _ from ho]
    simp only [Op.operands, Call.operands]
    simp at hx ⊢
    exact .inr hx
  have hev := list_evs (s := s) (s' := s2) h2 hops
  simp only [List.map_cons, List.map_nil, List.cons.injEq, and_true] at hev
  have hx := r.ev x0
  rw [hev, hx0] at hx
  have hid : id ∉ s2.used := h4 id (by simp [newE])
  unfold Oper.wp
  rw [run_isCall ho hf hb hn, Oper.upon_enter]
  refine (hS bs i h hSp w _ (Imm.keep (fun b hb => ⟨hb.1, rfl⟩) hx)).mono ?_
  rintro ex w' ⟨hbelow, b, rfl, hb1, hb2, hheap⟩
  obtain ⟨r', hext, hnew, hkeep⟩ := r.allocL (base := id) (objs := [cur ty (.imm 1 bs) i h]) (ps := [(ptrV b, [])]) hbelow rfl (fun j hj => by
    simp only [List.length_cons, List.length_nil, idsFrom, List.mem_singleton] at hj; subst hj; exact hid) (fun j o' p hj hpj => by
    match j, hj, hpj with
    | 0, hj, hpj =>
      cases hj; cases hpj
      refine ⟨fun β' F hF _ _ => ⟨b, _, rfl, Nat.le_trans r.size0 hb1, hheap, ⟨Imm.keep (fun y hy => ⟨hF y hy, hbelow.block y hy.1⟩) hx, rfl, rfl, trivial⟩⟩, ?_⟩
      rintro y (hy | ⟨hy, _⟩)
      · cases hy; exact ⟨hb1, hb2⟩
      · cases hy
    | j + 1, hj, _ => simp at hj) (fun j j' o1 o2 p p' y hj hj' _ _ _ _ => by
      match j, j', hj, hj' with
      | 0, 0, _, _ => rfl
      | j + 1, _, hj, _ => simp at hj
      | 0, j' + 1, _, hj' => simp at hj')
  cases hdst : o.dst with
  | none => exact hK (β.add id [(ptrV b, [])]) a w' (by rw [hdst]; exact r')
  | some d =>
    refine hK (β.add id [(ptrV b, [])]) _ w' ?_
    rw [hdst]
    exact r'.put (d := d) (by have := Oper.dstOk_spec hd d hdst; rw [show s2.n = s.n from h1]; exact this) ⟨_, _, b, hnew 0 _ rfl, .inr rfl, by simp [ptrV]⟩
end
end Go.Eng
/- The engine, part 36: the steps of a walk for cursors. -/
namespace Go.Eng
open Go Go.RowKit

class ConB (P : Program) (f : FuncId) (ty : outParam Nat) (S : outParam SpecB) : Prop where
  ok : SatB P f ty S
  fn : FnOk P f
class ConN (P : Program) (f : FuncId) (ty : outParam Nat) (S : outParam (List El → Int → Int → Prop)) : Prop where
  ok : SatN P f ty S
  fn : FnOk P f
section
variable {P : Program} {T : Tys} {f : FuncId} {fn : Func} {ty : Nat}
theorem conB {S : SpecB} (h : SatB P f ty S) (hf : P.funcs[f]? = some fn) (hb : fn.body.isNone = false := by rfl) (hn : (fn.name == "runtime.NumGoroutine") = false := by rfl) : ConB P f ty S := ⟨h, fn, hf, hb, hn⟩
theorem conN {S : List El → Int → Int → Prop} (h : SatN P f ty S) (hf : P.funcs[f]? = some fn) (hb : fn.body.isNone = false := by rfl) (hn : (fn.name == "runtime.NumGoroutine") = false := by rfl) : ConN P f ty S := ⟨h, fn, hf, hb, hn⟩
end
section
variable {N0 : Nat} {W0 : World} {s s' : AS} {P : Program} {T : Tys} {E : Reck} {ops : Array Oper} {o : Oper} {r : List Oper} {k : AS → Prop} {tr : List (Option Eff)} {kl : List (Option Eff) → AS → Prop}
variable {f : FuncId} {x0 : Operand} {xs : List Operand} {ts : List Nat} {args : List AV} {log : List Nat} {av : AV} {objs : List Obj} {id ty : Nat} {c0 : CV} {bs : List El} {i h i' h' : Int}
theorem yq {S : SpecB} (k0 : walkN P (reck T) ops r s' k) (ho : Oper.isCall o f (x0 :: xs) ts := by rfl) (hS : ConB P f ty S := by infer_instance) (hg : gsay ops s o = some true := by first | rfl | assumption) (hd : Oper.dstOk o s.n = true := by rfl)
    {v0 : AV} (hv0 : s.ev x0 = v0 := by simp [go_sem]; rfl) (hx0 : v0 = .one (.ptr id 1 0 0) := by rfl) {ob : Obj} (hob0 : s.obj id = some ob := by simp [go_sem]; rfl) (hob : ob = cur ty c0 i h := by rfl) (hc0 : byC c0 = some bs := by rfl) (hargs : mqAs s (xs.map s.ev) = some (args, log) := by first | rfl | (simp [go_sem]; exact ⟨rfl, rfl⟩))
    (hSp : S (aC :: args) bs i h av objs i' h' := by ((repeat apply Exists.intro); first | exact ⟨rfl, rfl, rfl, rfl, rfl, rfl, rfl, rfl⟩ | exact ⟨zp, rfl, rfl, rfl, rfl, rfl, rfl, rfl, rfl⟩)) (hpl : plainT av = true := by rfl) (hpo : objs.all plainO = true := by rfl)
    (hfr : freshB s (callB ty id (8 * o.dst.getD 0) c0 av objs i' h' log) = true := by rfl) (hs : s.app o.dst (callB ty id (8 * o.dst.getD 0) c0 av objs i' h' log) = s' := by simp [go_sem]; rfl) : walkN P (reck T) ops (o :: r) s k := by
  obtain ⟨hS, fn, hf, hb, hn⟩ := hS
  exact w_call hg (reck_call ho) (EffU_callB f fn x0 xs ts S ho hS hf hb hn hd id _ c0 bs i h (hv0.trans hx0) (hob0.trans (congrArg some hob)) hc0 args log hargs av objs i' h' hSp hpl hpo) hfr hs k0
theorem yQ {S : SpecB} (k0 : walkL P (reck T) ops r s' (tr ++ [some (callB ty id (8 * o.dst.getD 0) c0 av objs i' h' log)]) kl) (ho : Oper.isCall o f (x0 :: xs) ts := by rfl) (hS : ConB P f ty S := by infer_instance) (hg : gsay ops s o = some true := by first | rfl | assumption) (hd : Oper.dstOk o s.n = true := by rfl)
    {v0 : AV} (hv0 : s.ev x0 = v0 := by simp [go_sem]; rfl) (hx0 : v0 = .one (.ptr id 1 0 0) := by rfl) {ob : Obj} (hob0 : s.obj id = some ob := by simp [go_sem]; rfl) (hob : ob = cur ty c0 i h := by rfl) (hc0 : byC c0 = some bs := by rfl) (hargs : mqAs s (xs.map s.ev) = some (args, log) := by first | rfl | (simp [go_sem]; exact ⟨rfl, rfl⟩))
    (hSp : S (aC :: args) bs i h av objs i' h' := by ((repeat apply Exists.intro); first | exact ⟨rfl, rfl, rfl, rfl, rfl, rfl, rfl, rfl⟩ | exact ⟨zp, rfl, rfl, rfl, rfl, rfl, rfl, rfl, rfl⟩)) (hpl : plainT av = true := by rfl) (hpo : objs.all plainO = true := by rfl)
    (hfr : freshB s (callB ty id (8 * o.dst.getD 0) c0 av objs i' h' log) = true := by rfl) (hs : s.app o.dst (callB ty id (8 * o.dst.getD 0) c0 av objs i' h' log) = s' := by simp [go_sem]; rfl) : walkL P (reck T) ops (o :: r) s tr kl := by
  obtain ⟨hS, fn, hf, hb, hn⟩ := hS
  exact l_call hg (reck_call ho) (EffU_callB f fn x0 xs ts S ho hS hf hb hn hd id _ c0 bs i h (hv0.trans hx0) (hob0.trans (congrArg some hob)) hc0 args log hargs av objs i' h' hSp hpl hpo) hfr hs k0
theorem ym {S : List El → Int → Int → Prop} (k0 : walkN P (reck T) ops r s' k) (ho : Oper.isCall o f [x0] ts := by rfl) (hS : ConN P f ty S := by infer_instance) (hg : gsay ops s o = some true := by first | rfl | assumption) (hd : Oper.dstOk o s.n = true := by rfl)
    {v0 : AV} (hv0 : s.ev x0 = v0 := by simp [go_sem]; rfl) (hx0 : v0 = .one (.imm 1 bs) := by rfl) (hSp : S bs i h := by ((repeat apply Exists.intro); first | exact ⟨rfl, rfl, rfl⟩ | exact ⟨zp, rfl, rfl, rfl⟩))
    (hfr : freshB s (newE (8 * o.dst.getD 0) (.one (.ptr (8 * o.dst.getD 0) 1 0 0)) (cur ty (.imm 1 bs) i h)) = true := by rfl) (hs : s.app o.dst (newE (8 * o.dst.getD 0) (.one (.ptr (8 * o.dst.getD 0) 1 0 0)) (cur ty (.imm 1 bs) i h)) = s' := by simp [go_sem]; rfl) : walkN P (reck T) ops (o :: r) s k := by
  obtain ⟨hS, fn, hf, hb, hn⟩ := hS
  exact w_call hg (reck_call ho) (EffU_callN f fn x0 ts S ho hS hf hb hn hd _ bs i h (hv0.trans hx0) hSp) hfr hs k0
theorem yM {S : List El → Int → Int → Prop} (k0 : walkL P (reck T) ops r s' (tr ++ [some (newE (8 * o.dst.getD 0) (.one (.ptr (8 * o.dst.getD 0) 1 0 0)) (cur ty (.imm 1 bs) i h))]) kl) (ho : Oper.isCall o f [x0] ts := by rfl) (hS : ConN P f ty S := by infer_instance) (hg : gsay ops s o = some true := by first | rfl | assumption) (hd : Oper.dstOk o s.n = true := by rfl)
    {v0 : AV} (hv0 : s.ev x0 = v0 := by simp [go_sem]; rfl) (hx0 : v0 = .one (.imm 1 bs) := by rfl) (hSp : S bs i h := by ((repeat apply Exists.intro); first | exact ⟨rfl, rfl, rfl⟩ | exact ⟨zp, rfl, rfl, rfl⟩))
    (hfr : freshB s (newE (8 * o.dst.getD 0) (.one (.ptr (8 * o.dst.getD 0) 1 0 0)) (cur ty (.imm 1 bs) i h)) = true := by rfl) (hs : s.app o.dst (newE (8 * o.dst.getD 0) (.one (.ptr (8 * o.dst.getD 0) 1 0 0)) (cur ty (.imm 1 bs) i h)) = s' := by simp [go_sem]; rfl) : walkL P (reck T) ops (o :: r) s tr kl := by
  obtain ⟨hS, fn, hf, hb, hn⟩ := hS
  exact l_call hg (reck_call ho) (EffU_callN f fn x0 ts S ho hS hf hb hn hd _ bs i h (hv0.trans hx0) hSp) hfr hs k0
theorem z_retB {rs : List ResultVar} {av av' : AV} {acc : Acc} {u : Value} {S : Nat → Prop} {W : World} {pv : Value} {e : Exit} (he : e = .ret ∨ e = .normal := by first | exact .inl rfl | exact .inr rfl) (h0 : retA T s rs = some (av', acc) := by simp [go_sem]; first | exact ⟨rfl, rfl⟩ | rfl) (hv : av' = av) (ho : acc.map (·.1) = objs)
    (hc : s.obj 0 = some (cur ty (.iv u 1 bs) i h)) (ha : (acc.all fun p => isFlat p.1 && match p.2 with | some id => id != 0 | none => false) = true := by rfl) (h1 : s.obj 1 = some (.pin S W) := by rfl) (h3 : s.obj 3 = some (.stay 0 pv) := by rfl) : retOKB T rs ty av objs bs i h u S W pv e s := by
  subst hv
  rcases he with rfl | rfl <;> exact ⟨acc, h0, ho, ha, hc, h1, h3⟩
end
attribute [go_sem] callB mqAs mqA mqC mqL

end Go.Eng
/- The engine, part 37: functions that are handed a cursor and hand back rows: what was there is set apart. -/
namespace Go.Eng
open Go Go.RowKit

section
variable {N0 : Nat} {W0 : World} {s s' : AS} {β β' : Plc} {a : Act} {w w' : World} {P : Program} {T : Tys}

def entryR (n : Nat) (args : List AV) (o : Obj) (S : Nat → Prop) (W : World) (L : List Nat) (pv : Value) : AS :=
  { n := n, env := numb args 0, H := [(0, some o), (1, some (.pin S W)), (3, some (.stay 0 pv)), (5, some (.res L W))], used := [0, 1, 3, 5] }

def entryQ (pv : Value) (L : List Nat) : Plc := fun i => if i = 0 then some (pv, []) else if i = 1 ∨ i = 3 then some (.slice none 0 0, []) else if i = 5 then some (.slice none 0 0, L.map ptrV) else none

def scA : AV → Bool
  | .one (.sc _) => true
  | .one (.ptr 0 1 0 0) => true
  | _ => false

def retOKR (T : Tys) (rs : List ResultVar) (ty : Nat) (av : AV) (objs : List Obj) (i h : Int) (u : Value) (S : Nat → Prop) (W : World) (L : List Nat) (pv : Value) (e : Exit) (t : AS) : Prop :=
  match e with
  | .ret | .normal => ∃ acc t', (t' = t ∨ ∃ id, t.thaw id = t') ∧ retA T t' rs = some (av, acc) ∧ acc.map (·.1) = objs ∧ (acc.all fun p => match p.2 with | some id => id != 0 && id != 5 | none => false) = true ∧
      t.obj 0 = some (cur ty (.val u) i h) ∧ t.obj 1 = some (.pin S W) ∧ t.obj 3 = some (.stay 0 pv) ∧ t.obj 5 = some (.res L W)
  | _ => False

theorem thaw_blk (r : Rel N0 W0 s β a w) {id i b : Nat} {o : Obj} {pv : Value} {vs : List Value} (h : (s.thaw id).obj i = some o) (hp : β i = some (pv, vs)) (hb : blks o.own pv vs b) : (∃ o1, s.obj i = some o1 ∧ blks o1.own pv vs b) ∨ Free s β w b := by
  rcases lookO_thawO id s.H i o h with ⟨h1, h2⟩ | ⟨hi, e, e', st, xss, h1, rfl⟩
  · exact .inl ⟨o, h1, hb⟩
  · rcases hb with hb | ⟨_, v, hv, hbv⟩
    · exact .inl ⟨_, h1, .inl hb⟩
    · obtain ⟨pv0, vs0, hp0, hat, _⟩ := r.obj i _ h1
      rw [hp] at hp0; cases hp0
      refine .inr ?_
      obtain ⟨j, hj⟩ := List.getElem?_of_mem hv
      obtain ⟨o, _, hr⟩ := all2_get' j hat.2.1 hj
      cases o with
      | none => rw [show v = _ from hr] at hbv; cases hbv
      | some xs => exact hr.2.2.2 b hbv

theorem ptr_blk {L : List Nat} {b : Nat} (h : ∃ v ∈ L.map ptrV, blockOf v = some b) : b ∈ L := by
  obtain ⟨v, hv, hb⟩ := h
  obtain ⟨x, hx, rfl⟩ := List.mem_map.1 hv
  cases hb; exact hx

theorem rel_entryR {n ty b : Nat} {args : List AV} {vals : List Value} {u : Value} {i h : Int} {L : List Nat} (hNb : N0 ≤ b) (hbs : b < w.heap.size) (hheap : w.heap[b]? = some (.cells (curV u i h) ty (0, 0))) (hu : u.oneCell' = true)
    (hL : ∀ x ∈ L, N0 ≤ x ∧ x < w.heap.size ∧ x ≠ b) (hsc : args.all scA = true) {F : Nat → Prop} (hargs : All2 (AR N0 (at0 (ptrV b) []) F w) args vals) (hn : args.length ≤ n) :
    Rel N0 w (entryR n args (cur ty (.val u) i h) (fun x => x < N0) w L (ptrV b)) (entryQ (ptrV b) L) { tmps := vals.toArray ++ Array.replicate (n - vals.toArray.size) undef, defers := [] } w := by
  have hobj : ∀ j, (entryR n args (cur ty (.val u) i h) (fun x => x < N0) w L (ptrV b)).obj j = if 0 = j then some (cur ty (.val u) i h) else if 1 = j then some (.pin (fun x => x < N0) w) else if 3 = j then some (.stay 0 (ptrV b)) else if 5 = j then some (.res L w) else none := fun j => by
    unfold AS.obj entryR
    simp only [lookO]
  have key : ∀ j o pv vs x, (entryR n args (cur ty (.val u) i h) (fun x => x < N0) w L (ptrV b)).obj j = some o → entryQ (ptrV b) L j = some (pv, vs) → blks o.own pv vs x → (j = 0 ∧ x = b) ∨ (j = 5 ∧ x ∈ L) := by
    intro j o pv vs x hj hp hbl
    rw [hobj] at hj
    unfold entryQ at hp
    split at hj
    · rename_i h0; subst h0; cases hj; simp at hp; obtain ⟨rfl, rfl⟩ := hp
      rcases hbl with hbl | ⟨hbl, _⟩
      · cases hbl; exact .inl ⟨rfl, rfl⟩
      · cases hbl
    · split at hj
      · rename_i h1; subst h1; cases hj; simp at hp; obtain ⟨rfl, rfl⟩ := hp
        rcases hbl with hbl | ⟨hbl, _⟩ <;> cases hbl
      · split at hj
        · rename_i h3; subst h3; cases hj; simp at hp; obtain ⟨rfl, rfl⟩ := hp
          rcases hbl with hbl | ⟨hbl, _⟩ <;> cases hbl
        · split at hj
          · rename_i h5; subst h5; cases hj; simp at hp; obtain ⟨rfl, rfl⟩ := hp
            rcases hbl with hbl | ⟨_, hbl⟩
            · cases hbl
            · exact .inr ⟨rfl, ptr_blk (by simpa using hbl)⟩
          · cases hj
  have hheld : ∀ x, x < N0 → ¬ Held (entryR n args (cur ty (.val u) i h) (fun x => x < N0) w L (ptrV b)) (entryQ (ptrV b) L) x := by
    rintro x hx ⟨j, o, pv, vs, hj, hp, hbl⟩
    rcases key j o pv vs x hj hp hbl with ⟨_, rfl⟩ | ⟨_, hxL⟩
    · omega
    · have := hL x hxL; omega
  exact {
    below := Below.refl _ _
    size0 := by omega
    size := by
      have := hargs.length
      simp [entryR]
      omega
    defers := rfl
    env := fun k => by
      show AR _ _ _ w (look (numb args 0) k) _
      rw [look_numb, if_pos (Nat.zero_le _), Nat.sub_zero]
      cases hk' : args[k]? with
      | none => trivial
      | some v =>
        obtain ⟨x, hx, hr⟩ := All2.get k hargs hk'
        have hx' : (vals.toArray ++ Array.replicate (n - vals.toArray.size) undef).getD k undef = x := by
          have hlt := (List.getElem?_eq_some_iff.1 hx).1
          simp only [Array.getD_eq_getD_getElem?]
          rw [Array.getElem?_append_left (by simpa using hlt)]
          simp [hx]
        rw [hx']
        simp only [Option.getD_some]
        have hs := List.all_eq_true.1 hsc v (List.mem_of_getElem? hk')
        unfold scA at hs
        split at hs
        · exact hr
        · obtain ⟨pv, vs, b', h1, h2, h3⟩ := hr
          unfold at0 at h1
          rw [if_pos rfl] at h1
          cases h1
          exact ⟨_, _, b', by unfold entryQ; rw [if_pos rfl], h2, h3⟩
        · cases hs
    dom := fun id hid => by
      unfold entryR at hid
      simp at hid
      unfold entryQ
      rw [if_neg hid.1, if_neg (by rintro (h | h); exact hid.2.1 h; exact hid.2.2.1 h), if_neg hid.2.2.2]
    hdom := fun id hid => by
      unfold entryR at hid
      simp at hid
      rw [hobj, if_neg (fun h => hid.1 h.symm), if_neg (fun h => hid.2.1 h.symm), if_neg (fun h => hid.2.2.1 h.symm), if_neg (fun h => hid.2.2.2 h.symm)]
    obj := fun id o' hi => by
      have hi0 := hi
      rw [hobj] at hi
      split at hi
      · rename_i h0; subst h0; cases hi
        refine ⟨ptrV b, [], rfl, ⟨b, curV u i h, rfl, hNb, hheap, ⟨⟨rfl, hu⟩, rfl, rfl, trivial⟩⟩, fun x hx => ?_⟩
        rcases hx with hx | ⟨hx, _⟩
        · cases hx; exact ⟨hNb, hbs⟩
        · cases hx
      · split at hi
        · rename_i h0 h1; subst h1; cases hi
          refine ⟨_, [], rfl, ⟨rfl, fun x hs => ⟨⟨by have : N0 ≤ w.heap.size := by omega
                                                     exact Nat.lt_of_lt_of_le hs this, hheld x hs⟩, rfl⟩⟩, fun x hx => ?_⟩
          rcases hx with hx | ⟨hx, _⟩ <;> cases hx
        · split at hi
          · rename_i h0 h1 h3; subst h3; cases hi
            refine ⟨_, [], rfl, ⟨rfl, [], rfl⟩, fun x hx => ?_⟩
            rcases hx with hx | ⟨hx, _⟩ <;> cases hx
          · split at hi
            · rename_i h0 h1 h3 h5; subst h5; cases hi
              refine ⟨_, L.map ptrV, rfl, ⟨rfl, rfl, fun _ _ => rfl⟩, fun x hx => ?_⟩
              rcases hx with hx | ⟨_, hx⟩
              · cases hx
              · have := hL x (ptr_blk hx); exact ⟨this.1, this.2.1⟩
            · cases hi
    disj := fun i1 i2 o1 o2 pv1 vs1 pv2 vs2 x h1 h2 p1 p2 b1 b2 => by
      rcases key i1 o1 pv1 vs1 x h1 p1 b1 with ⟨rfl, e1⟩ | ⟨rfl, e1⟩ <;> rcases key i2 o2 pv2 vs2 x h2 p2 b2 with ⟨rfl, e2⟩ | ⟨rfl, e2⟩
      · rfl
      · exact absurd e1 (hL x e2).2.2
      · exact absurd e2 (hL x e1).2.2
      · rfl }

theorem satB_ofR {E : Reck} (hT : TOk P T) (hE : E.Ok P) (hm : P.follows .mixedOrders = true) {f : FuncId} {fn : Func} {c : Code} {rs : List ResultVar} {n ty : Nat} {S : SpecB} (K : Nat → List Nat)
    (hf : P.funcs[f]? = some fn) (hb : fn.body = some c) (hrs : fn.results = rs.toArray) (hn : fn.ntmps = n)
    (h : ∀ args bs i h av objs i' h', S args bs i h av objs i' h' → args.length ≤ n ∧ args.all scA = true ∧ ∀ u S W L pv, Imm (fun x => S x ∨ x ∈ L) W 1 u bs → awp P E K c (retOKR T rs ty av objs i' h' u S W L pv) (entryR n args (cur ty (.val u) i h) S W L pv)) : SatB P f ty S := by
  intro args bs i h0 av objs i' h' hS N0 w vals b u hNb hbs hheap him hargs
  obtain ⟨hlen, hsc, hw⟩ := h args bs i h0 av objs i' h' hS
  refine calls_of_wp hf hb ?_
  rw [hn]
  let L : List Nat := (List.range w.heap.size).filter fun x => decide (N0 ≤ x ∧ x ≠ b)
  have hLm : ∀ x, x ∈ L ↔ x < w.heap.size ∧ N0 ≤ x ∧ x ≠ b := fun x => by simp [L]
  have hu : u.oneCell' = true := by obtain ⟨⟨p, cap, rfl, _⟩, _⟩ := him; rfl
  have him' : Imm (fun x => x < N0 ∨ x ∈ L) w 1 u bs := him.keep fun x hx => ⟨by
    by_cases hlt : x < N0
    · exact .inl hlt
    · exact .inr ((hLm x).2 ⟨hx.1, by omega, hx.2⟩), rfl⟩
  have r0 := rel_entryR (n := n) (ty := ty) (i := i) (h := h0) hNb hbs hheap hu (L := L) (fun x hx => by have := (hLm x).1 hx; exact ⟨this.2.1, this.1, this.2.2⟩) hsc hargs hlen
  refine wp_mono (awp_sound hE hm c (hw u _ _ _ _ him') r0) ?_
  rintro ex a' w' ⟨t, β', r', hq⟩
  have fin : (∃ acc t', (t' = t ∨ ∃ id, t.thaw id = t') ∧ retA T t' rs = some (av, acc) ∧ acc.map (·.1) = objs ∧ (acc.all fun p => match p.2 with | some id => id != 0 && id != 5 | none => false) = true ∧
      t.obj 0 = some (cur ty (.val u) i' h') ∧ t.obj 1 = some (.pin (fun x => x < N0) w) ∧ t.obj 3 = some (.stay 0 (ptrV b)) ∧ t.obj 5 = some (.res L w)) →
      a'.defers = [] ∧ ∃ v, (results fn a'.tmps).run P w' = .ok v w' ∧ ∃ v', Ending.returned v = .returned v' ∧ Moved w w' b ty u i' h' ∧ FreshB N0 w.heap.size w' v' av objs := by
    rintro ⟨acc, t', ht, h1, rfl, hacc, h2, h3, h4, h5⟩
    have r2 : Rel N0 w t' β' a' w' := by
      rcases ht with rfl | ⟨id, rfl⟩
      · exact r'
      · exact r'.thaw id
    obtain ⟨vs, q1, ps, g, hav⟩ := ret_good hT r2 h1
    obtain ⟨pv1, vs1, p1, ⟨b1, arr, e1, e2, e3, e4⟩, bl1⟩ := r'.obj 0 _ h2
    obtain ⟨pv3, vs3, p3, at3, _⟩ := r'.obj 3 _ h4
    obtain ⟨_, us, p4⟩ := at3
    rw [p1] at p4
    cases p4
    cases e1
    obtain ⟨pv2, vs2, p2, at2, _⟩ := r'.obj 1 _ h3
    obtain ⟨pv5, vs5, p5, ⟨_, rfl, at5⟩, bl5⟩ := r'.obj 5 _ h5
    have harr : arr = curV u i' h' := by
      have hl : arr.toList = [u, .int .i64 i', .int .i64 h'] := by
        generalize arr.toList = l at e4
        match l, e4 with
        | [x, y, z], ⟨⟨hx, _⟩, hy, hz, _⟩ => rw [show x = _ from hx, show y = _ from hy, show z = _ from hz]; rfl
      apply Array.toList_inj.1
      rw [hl]; rfl
    subst harr
    have hrest : ∀ x, away w b x → w'.heap[x]? = w.heap[x]? := fun x hx => by
      by_cases hlt : x < N0
      · exact (at2.2 x hlt).2
      · exact at5 x ((hLm x).2 ⟨hx.1, by omega, hx.2⟩)
    -- a block that is held by no more than a result lies beyond what was there
    have hnew : ∀ x, N0 ≤ x → (∀ j o pv vs, t.obj j = some o → β' j = some (pv, vs) → blks o.own pv vs x → j ≠ 0 ∧ j ≠ 5) → w.heap.size ≤ x := fun x hx hno => by
      by_cases hlt : w.heap.size ≤ x
      · exact hlt
      · exfalso
        by_cases hxb : x = b
        · subst hxb
          exact (hno 0 _ _ _ h2 p1 (.inl rfl)).1 rfl
        · exact (hno 5 _ _ _ h5 p5 (.inr ⟨rfl, ptrV x, List.mem_map.2 ⟨x, (hLm x).2 ⟨by omega, hx, hxb⟩, rfl⟩, rfl⟩)).2 rfl
    refine ⟨r'.defers, packV vs, results_ok hrs q1, packV vs, rfl, ⟨r'.below.os, r'.below.tape, r'.below.output, r'.below.size, hrest, e3⟩, ps, by simp [g.len], hav, ?_, ?_⟩
    · intro j o p hj hp
      rw [List.getElem?_map, Option.map_eq_some_iff] at hj
      obtain ⟨q, hq, rfl⟩ := hj
      obtain ⟨g1, g2, g3⟩ := g.at_ j q p hq hp
      refine ⟨g1, fun x hx => ⟨?_, (g2 x hx).2⟩⟩
      have hqa := List.all_eq_true.1 hacc q (List.mem_of_getElem? hq)
      cases hid : q.2 with
      | none => rw [hid] at hqa; cases hqa
      | some id =>
        rw [hid] at hqa g3
        simp only [Bool.and_eq_true, bne_iff_ne, ne_eq] at hqa
        obtain ⟨⟨o1, ho1, how⟩, hβ1⟩ := g3
        rw [← how] at hx
        have hx0 := (g2 x (by rw [← how]; exact hx)).1
        refine hnew x hx0 fun j o pv vs hj hpj hbj => ?_
        have hfree : Free t β' w' x → False := fun hf => hf.2 ⟨j, o, pv, vs, hj, hpj, hbj⟩
        have hown : (∃ o2, t.obj id = some o2 ∧ blks o2.own p.1 p.2 x) → j = id := fun ⟨o2, ho2, hb2⟩ => r'.disj j id o o2 pv vs p.1 p.2 x hj ho2 hpj hβ1 hbj hb2
        have : j = id := by
          rcases ht with rfl | ⟨id', rfl⟩
          · exact hown ⟨o1, ho1, hx⟩
          · rcases thaw_blk r' ho1 hβ1 hx with h | h
            · exact hown h
            · exact (hfree h).elim
        rw [this]; exact hqa
    · intro j j' o o' p p' x hj hj' hp hp' hx hx'
      rw [List.getElem?_map, Option.map_eq_some_iff] at hj hj'
      obtain ⟨q, hq, rfl⟩ := hj
      obtain ⟨q', hq', rfl⟩ := hj'
      obtain ⟨_, _, h3⟩ := g.at_ j q p hq hp
      obtain ⟨_, _, h3'⟩ := g.at_ j' q' p' hq' hp'
      refine g.nd j j' q q' hq hq' ?_
      have hqa := List.all_eq_true.1 hacc q (List.mem_of_getElem? hq)
      have hqa' := List.all_eq_true.1 hacc q' (List.mem_of_getElem? hq')
      cases e : q.2 with
      | none => rw [e] at hqa; cases hqa
      | some id =>
        cases e' : q'.2 with
        | none => rw [e'] at hqa'; cases hqa'
        | some id' =>
          rw [e] at h3; rw [e'] at h3'
          obtain ⟨⟨o1, ho1, hw1⟩, hβ1⟩ := h3
          obtain ⟨⟨o2, ho2, hw2⟩, hβ2⟩ := h3'
          exact congrArg some (r2.disj id id' o1 o2 _ _ _ _ x ho1 ho2 hβ1 hβ2 (by rw [hw1]; exact hx) (by rw [hw2]; exact hx'))
  cases ex with
  | ret => exact fin hq
  | normal => exact fin hq
  | exit id => exact hq.elim
  | goto l => exact hq.elim
  | panic ch => exact hq.elim
  | outgrown => exact hq.elim

theorem EffU_callR (f : FuncId) (fn : Func) (x0 : Operand) (xs : List Operand) (ts : List Nat) (S : SpecB) {ty : Nat} {o : Oper} (ho : Oper.isCall o f (x0 :: xs) ts) (hS : SatB P f ty S) (hf : P.funcs[f]? = some fn) (hb : fn.body.isNone = false) (hn : (fn.name == "runtime.NumGoroutine") = false)
    (hd : Oper.dstOk o s.n = true) (id base : Nat) (u : Value) (bs : List El) (i h : Int) (hx0 : s.ev x0 = .one (.ptr id 1 0 0)) (hob : s.obj id = some (cur ty (.val u) i h)) {S0 : Nat → Prop} {W : World} {L : List Nat} (h1 : s.obj 1 = some (.pin S0 W)) (h5 : s.obj 5 = some (.res L W)) (him : Imm (fun x => S0 x ∨ x ∈ L) W 1 u bs)
    (args : List AV) (log : List Nat) (hargs : mqAs s (xs.map s.ev) = some (args, log)) (av : AV) (objs : List Obj) (i' h' : Int)
    (hSp : S (aC :: args) bs i h av objs i' h') (hpl : plainT av = true) (hpo : objs.all plainO = true) : EffU P o s (callB ty id base (.val u) av objs i' h' ([1, 5] ++ log)) :=
  EffU_callK f fn x0 xs ts S ho hS hf hb hn hd id base (.val u) bs i h hx0 hob [1, 5] (fun s2 N0 W0 β a w u2 b vs hlog r hob2 hp hcu => by
    obtain ⟨rfl, _⟩ := hcu
    have g1 : s2.obj 1 = some (.pin S0 W) := by rw [hlog 1 (by simp)]; exact h1
    have g5 : s2.obj 5 = some (.res L W) := by rw [hlog 5 (by simp)]; exact h5
    obtain ⟨pv1, vs1, p1, at1, _⟩ := r.obj 1 _ g1
    obtain ⟨pv5, vs5, p5, ⟨_, rfl, at5⟩, bl5⟩ := r.obj 5 _ g5
    refine Imm.keep (fun x hx => ?_) him
    rcases hx with hx | hx
    · obtain ⟨hf1, hh1⟩ := at1.2 x hx
      exact ⟨⟨hf1.1, fun e => hf1.2 ⟨id, _, _, _, hob2, hp, .inl (by rw [e]; rfl)⟩⟩, hh1⟩
    · have hbx : blks (Obj.res L W).own pv5 (L.map ptrV) x := .inr ⟨rfl, ptrV x, List.mem_map.2 ⟨x, hx, rfl⟩, rfl⟩
      refine ⟨⟨(bl5 x hbx).2, fun e => ?_⟩, at5 x hx⟩
      have := r.disj id 5 _ _ _ _ _ _ x hob2 g5 hp p5 (.inl (by rw [e]; rfl)) hbx
      subst this
      rw [g5] at hob2
      cases hob2) args log hargs av objs i' h' hSp hpl hpo
end

section
variable {s s' : AS} {P : Program} {T : Tys} {E : Reck} {ops : Array Oper} {o : Oper} {r : List Oper} {k : AS → Prop}
variable {f : FuncId} {x0 : Operand} {xs : List Operand} {ts : List Nat} {args : List AV} {log : List Nat} {av : AV} {objs : List Obj} {id ty : Nat} {u : Value} {bs : List El} {i h i' h' : Int}
theorem yh {S : SpecB} {S0 : Nat → Prop} {W : World} {L : List Nat} (k0 : walkN P (reck T) ops r s' k) (ho : Oper.isCall o f (x0 :: xs) ts := by rfl) (hS : ConB P f ty S := by infer_instance) (hg : gsay ops s o = some true := by first | rfl | assumption) (hd : Oper.dstOk o s.n = true := by rfl)
    {v0 : AV} (hv0 : s.ev x0 = v0 := by simp [go_sem]; rfl) (hx0 : v0 = .one (.ptr id 1 0 0) := by rfl) {ob : Obj} (hob0 : s.obj id = some ob := by simp [go_sem]; rfl) (hob : ob = cur ty (.val u) i h := by rfl) (h1 : s.obj 1 = some (.pin S0 W) := by rfl) (h5 : s.obj 5 = some (.res L W) := by rfl) (him : Imm (fun x => S0 x ∨ x ∈ L) W 1 u bs := by assumption) (hargs : mqAs s (xs.map s.ev) = some (args, log) := by first | rfl | (simp [go_sem]; exact ⟨rfl, rfl⟩))
    (hSp : S (aC :: args) bs i h av objs i' h' := by ((repeat apply Exists.intro); first | exact ⟨rfl, rfl, rfl, rfl, rfl, rfl, rfl, rfl⟩ | exact ⟨zp, rfl, rfl, rfl, rfl, rfl, rfl, rfl, rfl⟩)) (hpl : plainT av = true := by rfl) (hpo : objs.all plainO = true := by rfl)
    (hfr : freshB s (callB ty id (8 * o.dst.getD 0) (.val u) av objs i' h' ([1, 5] ++ log)) = true := by rfl) (hs : s.app o.dst (callB ty id (8 * o.dst.getD 0) (.val u) av objs i' h' ([1, 5] ++ log)) = s' := by simp [go_sem]; rfl) : walkN P (reck T) ops (o :: r) s k := by
  obtain ⟨hS, fn, hf, hb, hn⟩ := hS
  exact w_call hg (reck_call ho) (EffU_callR f fn x0 xs ts S ho hS hf hb hn hd id _ u bs i h (hv0.trans hx0) (hob0.trans (congrArg some hob)) h1 h5 him args log hargs av objs i' h' hSp hpl hpo) hfr hs k0
theorem z_retR (j : Nat) {rs : List ResultVar} {av av' : AV} {acc : Acc} {S : Nat → Prop} {W : World} {L : List Nat} {pv : Value} {e : Exit} (he : e = .ret ∨ e = .normal := by first | exact .inl rfl | exact .inr rfl) (h0 : retA T (s.thaw j) rs = some (av', acc) := by simp [go_sem]; first | exact ⟨rfl, rfl⟩ | rfl) (hv : av' = av) (ho : acc.map (·.1) = objs)
    (hc : s.obj 0 = some (cur ty (.val u) i h)) (ha : (acc.all fun p => match p.2 with | some id => id != 0 && id != 5 | none => false) = true := by rfl) (h1 : s.obj 1 = some (.pin S W) := by rfl) (h3 : s.obj 3 = some (.stay 0 pv) := by rfl) (h5 : s.obj 5 = some (.res L W) := by rfl) : retOKR T rs ty av objs i h u S W L pv e s := by
  subst hv
  rcases he with rfl | rfl <;> exact ⟨acc, _, .inr ⟨j, rfl⟩, h0, ho, ha, hc, h1, h3, h5⟩
end
attribute [go_sem] entryR

end Go.Eng

namespace Go.Eng
open Go Go.RowKit
section
variable {P : Program} {T : Tys} {E : Reck} {K : Nat → List Nat} {Q : Exit → AS → Prop} {ops : Array Oper} {o : Oper} {r : List Oper} {s : AS} {k : AS → Prop} {tr : List (Option Eff)} {kl : List (Option Eff) → AS → Prop}
theorem zb {rs : List ResultVar} {av av' : AV} {objs : List Obj} {ty : Nat} {bs : List El} {i h : Int} {acc : Acc} {u : Value} {S : Nat → Prop} {W : World} {pv : Value} {e : Exit} (he : e = .ret ∨ e = .normal := by first | exact .inl rfl | exact .inr rfl) (h0 : retA T s rs = some (av', acc) := by simp [go_sem]; first | exact ⟨rfl, rfl⟩ | rfl) (hv : av' = av := by first | rfl | (simp [go_sem, *]; done) | (simp_all; done) | (simp_all; omega)) (ho : acc.map (·.1) = objs := by first | rfl | (simp [go_sem, *]; done) | (simp_all; done) | (simp_all; omega))
    (hc : s.obj 0 = some (cur ty (.iv u 1 bs) i h) := by first | rfl | (simp [go_sem, *]; done) | (simp_all; done) | (simp_all; omega)) (ha : (acc.all fun p => isFlat p.1 && match p.2 with | some id => id != 0 | none => false) = true := by rfl) (h1 : s.obj 1 = some (.pin S W) := by rfl) (h3 : s.obj 3 = some (.stay 0 pv) := by rfl) : retOKB T rs ty av objs bs i h u S W pv e s := z_retB he h0 hv ho hc ha h1 h3
end
end Go.Eng
