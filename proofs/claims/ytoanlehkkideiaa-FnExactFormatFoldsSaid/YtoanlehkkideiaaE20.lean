/- The engine, part 20: the steps of a walk, one by one. -/
import Derived.Test.YtoanlehkkideiaaE19
set_option linter.unusedVariables false
namespace Go.Eng
open Go Go.RowKit

section
variable {s s' t : AS} {P : Program} {T : Tys} {E : Reck} {K : Nat → List Nat} {Q : Exit → AS → Prop}

/-! ### What is to be shown behind a piece of code, under names -/

@[irreducible] def kSeq (P : Program) (E : Reck) (K : Nat → List Nat) (y : Code) (Q : Exit → AS → Prop) : Exit → AS → Prop := fun e t => match e with | .normal => awp P E K y Q t | e => Q e t
@[irreducible] def kBlk (id : Nat) (Q : Exit → AS → Prop) : Exit → AS → Prop := fun e t => match e with | .exit id' => if id' = id then Q .normal t else Q (.exit id') t | e => Q e t
@[irreducible] def kReg (l : List Nat) (Q : Exit → AS → Prop) : AS → Prop := fun t => Q .normal (t.keep l)
@[irreducible] def kDrw (l : List Nat) (ops : List Oper) (Q : Exit → AS → Prop) : List (Option Eff) → AS → Prop := fun tr t => traceOk ops.toArray (Region.before ops.toArray).toList (zipE ops tr) = true ∧ Q .normal (t.keep l)
@[irreducible] def kLop {ι : Type} (S : ι → AS) (I : ι → Prop) (μ : ι → Nat) (i : ι) (Q : Exit → AS → Prop) : Exit → AS → Prop := fun e t => match e with | .normal => ∃ j, I j ∧ μ j < μ i ∧ Weak t (S j) | e => Q e t

theorem a_seq {x y : Code} (h : awp P E K x (kSeq P E K y Q) s) : awp P E K (.seq x y) Q s := by rw [awp_seq]; unfold kSeq at h; exact h
theorem a_skip (h : Q .normal s) : awp P E K .skip Q s := by rw [awp_skip]; exact h
theorem a_ret (h : Q .ret s) : awp P E K .ret Q s := by rw [awp_ret]; exact h
theorem a_exit {id : Nat} (h : Q (.exit id) s) : awp P E K (.exit id) Q s := by rw [awp_exit]; exact h
theorem a_block {id : Nat} {c : Code} (h : awp P E K c (kBlk id Q) s) : awp P E K (.block id c) Q s := by rw [awp_block]; unfold kBlk at h; exact h
theorem a_reg {id : Nat} {l : List Oper} (h : walkN P E l.toArray l s (kReg (K id) Q)) : awp P E K (.region id l.toArray false) Q s := by rw [awp_region]; unfold kReg at h; exact h
theorem a_draw {id : Nat} {l : List Oper} (h : walkL P E l.toArray l s [] (kDrw (K id) l Q)) : awp P E K (.region id l.toArray true) Q s := by rw [awp_draw]; unfold kDrw at h; exact h
theorem a_cond {c : Operand} {x y : Code} {b : Bool} (hb : s.ev c = .one (.sc (.bool b))) (h1 : b = true → awp P E K x Q s) (h2 : b = false → awp P E K y Q s) : awp P E K (.cond c x y) Q s := by
  rw [awp_cond, hb]
  exact ⟨h1, h2⟩
theorem a_loop {ι : Type} (S : ι → AS) (I : ι → Prop) (μ : ι → Nat) {c : Code} (i0 : ι) (h0 : I i0) (hw : Weak s (S i0)) (h : ∀ i, I i → awp P E K c (kLop S I μ i Q) (S i)) : awp P E K (.loop c) Q s :=
  by rw [awp_loop]; unfold kLop at h; exact ⟨ι, S, I, μ, ⟨i0, h0, hw⟩, fun i hi => h i hi⟩

theorem k_seq {y : Code} (h : awp P E K y Q s) : kSeq P E K y Q .normal s := by unfold kSeq; exact h
theorem k_seq_exit {y : Code} {id : Nat} (h : Q (.exit id) s) : kSeq P E K y Q (.exit id) s := by unfold kSeq; exact h
theorem k_seq_ret {y : Code} (h : Q .ret s) : kSeq P E K y Q .ret s := by unfold kSeq; exact h
theorem k_blk {id : Nat} (h : Q .normal s) : kBlk id Q .normal s := by unfold kBlk; exact h
theorem k_blk_exit {id : Nat} (h : Q .normal s) : kBlk id Q (.exit id) s := by unfold kBlk; show (if id = id then _ else _); rw [if_pos rfl]; exact h
theorem k_blk_other {id id' : Nat} (hne : (id' == id) = false) (h : Q (.exit id') s) : kBlk id Q (.exit id') s := by unfold kBlk; show (if id' = id then _ else _); rw [if_neg (by simpa using hne)]; exact h
theorem k_blk_ret {id : Nat} (h : Q .ret s) : kBlk id Q .ret s := by unfold kBlk; exact h
theorem k_lop {ι : Type} {S : ι → AS} {I : ι → Prop} {μ : ι → Nat} {i : ι} (j : ι) (hj : I j) (hm : μ j < μ i) (hw : Weak s (S j)) : kLop S I μ i Q .normal s := by unfold kLop; exact ⟨j, hj, hm, hw⟩
theorem k_lop_exit {ι : Type} {S : ι → AS} {I : ι → Prop} {μ : ι → Nat} {i : ι} {id : Nat} (h : Q (.exit id) s) : kLop S I μ i Q (.exit id) s := by unfold kLop; exact h
theorem k_lop_ret {ι : Type} {S : ι → AS} {I : ι → Prop} {μ : ι → Nat} {i : ι} (h : Q .ret s) : kLop S I μ i Q .ret s := by unfold kLop; exact h
theorem k_ret {rs : List ResultVar} {av av' : AV} {objs : List Obj} {acc : Acc} (h : retA T s rs = some (av', acc)) (hv : av' = av) (ho : acc.map (·.1) = objs) : retOK T rs av objs .ret s := by
  subst hv
  exact ⟨acc, h, ho⟩

/-! ### Operations -/

/-- One operation's new state. -/
def stp (T : Tys) (o : Oper) (s : AS) : Option AS :=
  (reck T o s).bind fun e => if freshB s e = true then some (s.app o.dst e) else none

theorem stp_spec {o : Oper} (h : stp T o s = some s') : ∃ e, reck T o s = some e ∧ freshB s e = true ∧ s' = s.app o.dst e := by
  unfold stp at h
  simp only [Option.bind_eq_some_iff] at h
  obtain ⟨e, he, h⟩ := h
  split at h
  · cases h; exact ⟨e, he, by assumption, rfl⟩
  · cases h

variable {ops : Array Oper} {o : Oper} {r : List Oper} {k : AS → Prop} {j : Nat} {want b : Bool} {e : Eff}

theorem w_end {l : List Nat} (hk : s.keep l = s') (h : Q .normal s') : walkN P E ops [] s (kReg l Q) := by subst hk; rw [walkN_nil]; unfold kReg; exact h

theorem w_op (hg : o.guard = none) (h : stp T o s = some s') (hk : walkN P (reck T) ops r s' k) : walkN P (reck T) ops (o :: r) s k := by
  obtain ⟨e, he, hf, rfl⟩ := stp_spec h
  rw [walkN_cons]
  unfold gwhen
  rw [hg]
  simp only
  unfold stepE
  rw [he]
  exact ⟨hf, hk⟩

/-- A guarded operation: which way the guard goes is known. -/
def gsay (ops : Array Oper) (s : AS) (o : Oper) : Option Bool :=
  match o.guard with
  | none => some true
  | some (j, want) =>
    match guardAV ops s j with
    | .one (.sc (.bool b)) => some (b == want)
    | .tup [] => some false
    | _ => none

theorem gsay_yes {A B : Prop} (h : gsay ops s o = some true) (hA : A) : gwhen ops s o A B := by
  unfold gwhen
  cases hg : o.guard with
  | none => exact hA
  | some p =>
    obtain ⟨j, want⟩ := p
    simp only [gsay, hg] at h ⊢
    split at h
    · rename_i b hb
      simp only [Option.some.injEq, beq_iff_eq] at h
      subst h
      simp only [hb]
      exact ⟨fun _ => hA, fun h => (h rfl).elim⟩
    · cases h
    · cases h

theorem gsay_no {A B : Prop} (h : gsay ops s o = some false) (hB : B) : gwhen ops s o A B := by
  unfold gwhen
  cases hg : o.guard with
  | none => simp only [gsay, hg] at h; cases h
  | some p =>
    obtain ⟨j, want⟩ := p
    simp only [gsay, hg] at h ⊢
    split at h
    · rename_i b hb
      simp only [Option.some.injEq, beq_eq_false_iff_ne, ne_eq] at h
      simp only [hb]
      exact ⟨fun h' => (h h').elim, fun _ => hB⟩
    · rename_i hb
      simp only [hb]
      exact hB
    · cases h

theorem w_yes (hg : gsay ops s o = some true) (h : stp T o s = some s') (hk : walkN P (reck T) ops r s' k) : walkN P (reck T) ops (o :: r) s k := by
  obtain ⟨e, he, hf, rfl⟩ := stp_spec h
  rw [walkN_cons]
  refine gsay_yes hg ?_
  unfold stepE
  rw [he]
  exact ⟨hf, hk⟩

theorem w_no (hg : gsay ops s o = some false) (hd : Oper.dstOk o s.n = true) (hs : s.app o.dst skipE = s') (hk : walkN P E ops r s' k) : walkN P E ops (o :: r) s k := by
  subst hs
  rw [walkN_cons]
  exact gsay_no hg ⟨hd, hk⟩

/-- A guard that is not known yet: either way. -/
theorem w_split {c : Bool} (h : gsay ops s o = some c) (h1 : c = true → walkN P E ops (o :: r) s k) (h2 : c = false → walkN P E ops (o :: r) s k) : walkN P E ops (o :: r) s k := by
  cases c with
  | true => exact h1 rfl
  | false => exact h2 rfl

/-- A call. -/
theorem w_call (hg : gsay ops s o = some true) (hn : reck T o s = none) (he : EffU P o s e) (hf : freshB s e = true) (hs : s.app o.dst e = s') (hk : walkN P (reck T) ops r s' k) : walkN P (reck T) ops (o :: r) s k := by
  subst hs
  rw [walkN_cons]
  refine gsay_yes hg ?_
  unfold stepE
  rw [hn]
  exact ⟨e, he, hf, hk⟩

variable {tr : List (Option Eff)} {kl : List (Option Eff) → AS → Prop}

theorem l_end {l : List Nat} {os : List Oper} (ht : traceOk os.toArray (Region.before os.toArray).toList (zipE os tr) = true) (hk : s.keep l = s') (h : Q .normal s') : walkL P E ops [] s tr (kDrw l os Q) := by subst hk; rw [walkL_nil]; unfold kDrw; exact ⟨ht, h⟩

theorem l_yes (hg : gsay ops s o = some true) (h : reck T o s = some e) (hf : freshB s e = true) (hs : s.app o.dst e = s') (hk : walkL P (reck T) ops r s' (tr ++ [some e]) kl) : walkL P (reck T) ops (o :: r) s tr kl := by
  subst hs
  rw [walkL_cons]
  refine gsay_yes hg ?_
  unfold stepE
  rw [h]
  exact ⟨hf, hk⟩

theorem l_no (hg : gsay ops s o = some false) (hd : Oper.dstOk o s.n = true) (hs : s.app o.dst skipE = s') (hk : walkL P E ops r s' (tr ++ [none]) kl) : walkL P E ops (o :: r) s tr kl := by
  subst hs
  rw [walkL_cons]
  exact gsay_no hg ⟨hd, hk⟩

theorem l_split {c : Bool} (h : gsay ops s o = some c) (h1 : c = true → walkL P E ops (o :: r) s tr kl) (h2 : c = false → walkL P E ops (o :: r) s tr kl) : walkL P E ops (o :: r) s tr kl := by
  cases c with
  | true => exact h1 rfl
  | false => exact h2 rfl

theorem l_call (hg : gsay ops s o = some true) (hn : reck T o s = none) (he : EffU P o s e) (hf : freshB s e = true) (hs : s.app o.dst e = s') (hk : walkL P (reck T) ops r s' (tr ++ [some e]) kl) : walkL P (reck T) ops (o :: r) s tr kl := by
  subst hs
  rw [walkL_cons]
  refine gsay_yes hg ?_
  unfold stepE
  rw [hn]
  exact ⟨e, he, hf, hk⟩

end

/-! ### Lists of integers, and what is known of them -/

def ints (l : List Int) : List El := l.map fun n => [.int n]
def ix (l : List Int) (i : Nat) : Int := l.getD i 0

theorem intsLen (l : List Int) : (ints l).length = l.length := by simp [ints]
theorem intsAt {l : List Int} {i : Nat} (h : i < l.length) : (ints l)[i]? = some [.int (ix l i)] := by
  simp [ints, ix, h]
theorem w64Id {x : Int} (h : -9223372036854775808 ≤ x ∧ x < 9223372036854775808) : w64 x = x := by
  rw [show w64 x = IntKind.i64.wrap x from rfl, IntKind.wrap_i64]
  omega

end Go.Eng
