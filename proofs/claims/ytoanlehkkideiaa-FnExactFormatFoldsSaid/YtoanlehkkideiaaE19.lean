/- The engine, part 19: the types of a program, from its facts; the words by which a state is reckoned. -/
import Derived.Test.YtoanlehkkideiaaE18
set_option linter.unusedVariables false
namespace Go.Eng
open Go Go.RowKit

section
variable {P : Program} {T : Tys}

theorem tinfo_of {t a b : Nat} {z : Value} (h : (P.info? t).map (fun i => (i.size, i.bytes, i.zero)) = some (a, b, some z)) : TInfo P t a b z := by
  simp only [Option.map_eq_some_iff, Prod.mk.injEq] at h
  obtain ⟨i, h1, h2, h3, h4⟩ := h
  exact ⟨i, h1, h2, h3, h4⟩

def TyFact (P : Program) (T : Tys) (t : Nat) : TI → Prop
  | .int => P.underlying t = some (.int .i64) ∧ TInfo P t 1 8 (.int .i64 0)
  | .u8 => P.underlying t = some (.int .u8) ∧ TInfo P t 1 1 (.int .u8 0)
  | .bool => P.underlying t = some .bool ∧ TInfo P t 1 1 (.bool false)
  | .str => P.underlying t = some .string ∧ TInfo P t 1 16 (.string ⟨#[]⟩)
  | .sl e => P.underlying t = some (.slice e) ∧ TInfo P t 1 24 (.slice none 0 0)
  | .st fs => 0 < fs.length ∧ (∃ arr, P.underlying t = some (.struct arr) ∧ arr.size = fs.length ∧ ∀ (j f : Nat), fs[j]? = some f → ∃ fd, arr[j]? = some fd ∧ fd.type = f ∧ fd.offset = j ∧ fd.name ≠ "_" ∧ (T f).one = true) ∧ P.stoodInHeld t = false ∧ P.eqGuardType P.depth t = false ∧
      ∃ bytes, bytes ≤ 64 ∧ TInfo P t fs.length bytes (.agg (fs.map (fun f => zeroV (zeroC T f))).toArray)
  | .oth => True

def lookT : List (Nat × TI) → Nat → TI
  | [], _ => .oth
  | (j, v) :: r, t => if j = t then v else lookT r t

/-- Facts of each entry are facts of the whole. -/
def Facts (P : Program) (T : Tys) : List (Nat × TI) → Prop
  | [] => True
  | p :: r => TyFact P T p.1 p.2 ∧ Facts P T r

theorem facts_look : ∀ {l : List (Nat × TI)}, Facts P T l → ∀ t, TyFact P T t (lookT l t)
  | [], _, t => trivial
  | (j, v) :: r, ⟨h1, h2⟩, t => by
    unfold lookT
    split
    · rename_i hj; subst hj; exact h1
    · exact facts_look h2 t

theorem tok_of {l : List (Nat × TI)} (hT : ∀ t, T t = lookT l t) (h : Facts P T l) : TOk P T := by
  intro t
  have := facts_look h t
  rw [← hT] at this
  cases ht : T t <;> rw [ht] at this <;> exact this

def fieldsB (T : Tys) : Nat → List Field → List Nat → Bool
  | _, [], [] => true
  | j, fd :: r, f :: fs => fd.type == f && fd.offset == j && fd.name != "_" && (T f).one && fieldsB T (j + 1) r fs
  | _, _, _ => false

theorem fieldsB_ok : ∀ {k : Nat} {l : List Field} {fs : List Nat}, fieldsB T k l fs = true → l.length = fs.length ∧ ∀ (j f : Nat), fs[j]? = some f → ∃ fd, l[j]? = some fd ∧ fd.type = f ∧ fd.offset = k + j ∧ fd.name ≠ "_" ∧ (T f).one = true
  | _, [], [], _ => ⟨rfl, fun j f h => by simp at h⟩
  | k, fd :: r, f :: fs, h => by
    simp only [fieldsB, Bool.and_eq_true, beq_iff_eq, bne_iff_ne, ne_eq] at h
    obtain ⟨⟨⟨⟨h1, h2⟩, h3⟩, h4⟩, h5⟩ := h
    obtain ⟨i1, i2⟩ := fieldsB_ok h5
    refine ⟨by simp [i1], fun j f' hj => ?_⟩
    cases j with
    | zero => simp at hj; subst hj; exact ⟨fd, by simp, h1, by simpa using h2, h3, h4⟩
    | succ j =>
      obtain ⟨fd', g1, g2, g3, g4⟩ := i2 j f' (by simpa using hj)
      exact ⟨fd', by simpa using g1, g2, by omega, g4⟩
  | _, [], _ :: _, h => by cases h
  | _, _ :: _, [], h => by cases h

theorem fact_int {t : Nat} (h : P.underlying t = some (.int .i64)) (hi : (P.info? t).map (fun i => (i.size, i.bytes, i.zero)) = some (1, 8, some (.int .i64 0))) : TyFact P T t .int := ⟨h, tinfo_of hi⟩
theorem fact_u8 {t : Nat} (h : P.underlying t = some (.int .u8)) (hi : (P.info? t).map (fun i => (i.size, i.bytes, i.zero)) = some (1, 1, some (.int .u8 0))) : TyFact P T t .u8 := ⟨h, tinfo_of hi⟩
theorem fact_bool {t : Nat} (h : P.underlying t = some .bool) (hi : (P.info? t).map (fun i => (i.size, i.bytes, i.zero)) = some (1, 1, some (.bool false))) : TyFact P T t .bool := ⟨h, tinfo_of hi⟩
theorem fact_str {t : Nat} (h : P.underlying t = some .string) (hi : (P.info? t).map (fun i => (i.size, i.bytes, i.zero)) = some (1, 16, some (.string ⟨#[]⟩))) : TyFact P T t .str := ⟨h, tinfo_of hi⟩
theorem fact_sl {t e : Nat} (h : P.underlying t = some (.slice e)) (hi : (P.info? t).map (fun i => (i.size, i.bytes, i.zero)) = some (1, 24, some (.slice none 0 0))) : TyFact P T t (.sl e) := ⟨h, tinfo_of hi⟩
theorem fact_st {t : Nat} {fs : List Nat} {arr : Array Field} (bytes : Nat) (h : P.underlying t = some (.struct arr)) (hp : 0 < fs.length) (hf : fieldsB T 0 arr.toList fs = true) (h1 : P.stoodInHeld t = false) (h2 : P.eqGuardType P.depth t = false) (hb : bytes ≤ 64)
    (hi : (P.info? t).map (fun i => (i.size, i.bytes, i.zero)) = some (fs.length, bytes, some (.agg (fs.map (fun f => zeroV (zeroC T f))).toArray))) : TyFact P T t (.st fs) := by
  obtain ⟨g1, g2⟩ := fieldsB_ok hf
  refine ⟨hp, ⟨arr, h, by simpa using g1, fun j f hj => ?_⟩, h1, h2, bytes, hb, tinfo_of hi⟩
  obtain ⟨fd, a1, a2, a3, a4⟩ := g2 j f hj
  exact ⟨fd, by simpa using a1, a2, by omega, a4⟩

end
end Go.Eng
