import Derived.Test.YtfapjflogjblaaaE2
import Derived.Test.YtfapjflogjblaaaProg
import Derived.OpenShut
set_option linter.unusedVariables false
set_option linter.unusedSimpArgs false
set_option linter.unnecessarySimpa false
namespace Go.Proofs.Try
open Go Go.Eng
def tab : List (Nat × TI) := [(2, .int), (3, .int), (4, .bool), (5, .u8), (6, .u8), (7, .st [2, 3, 4, 6]), (8, .st [2, 3, 4, 6]), (9, .str), (10, .str), (11, .str), (22, .sl 5), (24, .sl 34), (27, .sl 56), (28, .st [3, 3, 27]), (29, .st [3, 3, 27]), (34, .sl 3), (55, .st [3, 3, 3]), (56, .st [3, 3, 3]), (70, .sl 9), (82, .st [22, 3, 3]), (83, .st [22, 3, 3]), (86, .sl 4), (100, .int), (127, .u8), (128, .u8)]
def T : Tys := lookT tab
theorem T2 : T 2 = .int := rfl
theorem T3 : T 3 = .int := rfl
theorem T4 : T 4 = .bool := rfl
theorem T5 : T 5 = .u8 := rfl
theorem T6 : T 6 = .u8 := rfl
theorem T7 : T 7 = .st [2, 3, 4, 6] := rfl
theorem T8 : T 8 = .st [2, 3, 4, 6] := rfl
theorem T9 : T 9 = .str := rfl
theorem T10 : T 10 = .str := rfl
theorem T11 : T 11 = .str := rfl
theorem T22 : T 22 = .sl 5 := rfl
theorem T24 : T 24 = .sl 34 := rfl
theorem T27 : T 27 = .sl 56 := rfl
theorem T28 : T 28 = .st [3, 3, 27] := rfl
theorem T29 : T 29 = .st [3, 3, 27] := rfl
theorem T34 : T 34 = .sl 3 := rfl
theorem T55 : T 55 = .st [3, 3, 3] := rfl
theorem T56 : T 56 = .st [3, 3, 3] := rfl
theorem T70 : T 70 = .sl 9 := rfl
theorem T82 : T 82 = .st [22, 3, 3] := rfl
theorem T83 : T 83 = .st [22, 3, 3] := rfl
theorem T86 : T 86 = .sl 4 := rfl
theorem T100 : T 100 = .int := rfl
theorem T127 : T 127 = .u8 := rfl
theorem T128 : T 128 = .u8 := rfl
theorem tok : TOk Try.prog T := tok_of (fun _ => rfl) ⟨fact_int Try.underlying2 (by kernel_rfl),
  fact_int Try.underlying3 (by kernel_rfl),
  fact_bool Try.underlying4 (by kernel_rfl),
  fact_u8 Try.underlying5 (by kernel_rfl),
  fact_u8 Try.underlying6 (by kernel_rfl),
  fact_st 24 Try.underlying7 (by decide) (by decide) Try.stoodInHeld7 Try.eqGuardType7 (by decide) (by kernel_rfl),
  fact_st 24 Try.underlying8 (by decide) (by decide) Try.stoodInHeld8 Try.eqGuardType8 (by decide) (by kernel_rfl),
  fact_str Try.underlying9 (by kernel_rfl),
  fact_str Try.underlying10 (by kernel_rfl),
  fact_str Try.underlying11 (by kernel_rfl),
  fact_sl Try.underlying22 (by kernel_rfl),
  fact_sl Try.underlying24 (by kernel_rfl),
  fact_sl Try.underlying27 (by kernel_rfl),
  fact_st 40 Try.underlying28 (by decide) (by decide) Try.stoodInHeld28 Try.eqGuardType28 (by decide) (by kernel_rfl),
  fact_st 40 Try.underlying29 (by decide) (by decide) Try.stoodInHeld29 Try.eqGuardType29 (by decide) (by kernel_rfl),
  fact_sl Try.underlying34 (by kernel_rfl),
  fact_st 24 Try.underlying55 (by decide) (by decide) Try.stoodInHeld55 Try.eqGuardType55 (by decide) (by kernel_rfl),
  fact_st 24 Try.underlying56 (by decide) (by decide) Try.stoodInHeld56 Try.eqGuardType56 (by decide) (by kernel_rfl),
  fact_sl Try.underlying70 (by kernel_rfl),
  fact_st 40 Try.underlying82 (by decide) (by decide) Try.stoodInHeld82 Try.eqGuardType82 (by decide) (by kernel_rfl),
  fact_st 40 Try.underlying83 (by decide) (by decide) Try.stoodInHeld83 Try.eqGuardType83 (by decide) (by kernel_rfl),
  fact_sl Try.underlying86 (by kernel_rfl),
  fact_int Try.underlying100 (by kernel_rfl),
  fact_u8 Try.underlying127 (by kernel_rfl),
  fact_u8 Try.underlying128 (by kernel_rfl), trivial⟩
theorem okr : Reck.Ok Try.prog (reck T) := reck_ok tok
theorem mixed : Try.prog.follows .mixedOrders = true := by kernel_rfl
attribute [go_sem] T2 T3 T4 T5 T6 T7 T8 T9 T10 T11 T22 T24 T27 T28 T29 T34 T55 T56 T70 T82 T83 T86 T100 T127 T128 
end Go.Proofs.Try
namespace Go.Proofs.Try
set_option linter.unnecessarySimpa false
set_option linter.unusedSimpArgs false
set_option maxHeartbeats 2000000
open Go Go.Eng

/-! ### Edges and graphs -/
abbrev Ed := Int × Int × Int
def eds (l : List Ed) : List El := l.map fun e => [.int e.1, .int e.2.1, .int e.2.2]
def ed (l : List Ed) (i : Nat) : Ed := l.getD i (0, 0, 0)
theorem edsLen (l : List Ed) : (eds l).length = l.length := by simp [eds]
theorem edsAt {l : List Ed} {i : Nat} (h : i < l.length) : (eds l)[i]? = some [.int (ed l i).1, .int (ed l i).2.1, .int (ed l i).2.2] := by
  simp [eds, ed, h]
theorem edsSet (l : List Ed) (i : Nat) (a b c : Int) : (eds l).set i [.int a, .int b, .int c] = eds (l.set i (a, b, c)) := by simp [eds, List.map_set]
theorem edSet {l : List Ed} {i : Nat} (p : Ed) (h : i < l.length) : ed (l.set i p) i = p := by simp [ed, h]
theorem edsApp (l : List Ed) (a b c : Int) : eds l ++ [[.int a, .int b, .int c]] = eds (l ++ [(a, b, c)]) := by simp [eds]
theorem edsApps (l m : List Ed) : eds l ++ eds m = eds (l ++ m) := by simp [eds]
theorem edsNil : eds [] = [] := rfl
attribute [go_sem] edsLen edsAt edsSet edSet edsApp edsApps edsNil
theorem eds_eq {xs ys : List Ed} (hl : xs.length = ys.length) (h : ∀ j, j < xs.length → ed xs j = ed ys j) : xs = ys := by
  apply List.ext_getElem hl
  intro i h1 h2
  have := h i h1
  simpa [ed, h1, h2] using this
/-! ### Arguments by their shape -/
def rg (n : Int) : Prop := -9223372036854775808 ≤ n ∧ n ≤ 9223372036854775807
def rgE (es : List Ed) : Prop := ∀ e ∈ es, rg e.1 ∧ rg e.2.1 ∧ rg e.2.2
theorem all2_2 {α β : Type} {R : α → β → Prop} {a b : α} {l : List β} (h : All2 R [a, b] l) : ∃ x y, l = [x, y] ∧ R a x ∧ R b y := by
  match l, h with
  | [x, y], ⟨h0, h1, _⟩ => exact ⟨x, y, rfl, h0, h1⟩
theorem all2_3 {α β : Type} {R : α → β → Prop} {a b c : α} {l : List β} (h : All2 R [a, b, c] l) : ∃ x y z, l = [x, y, z] ∧ R a x ∧ R b y ∧ R c z := by
  match l, h with
  | [x, y, z], ⟨h0, h1, h2, _⟩ => exact ⟨x, y, z, rfl, h0, h1, h2⟩
theorem all2_4 {α β : Type} {R : α → β → Prop} {a b c d : α} {l : List β} (h : All2 R [a, b, c, d] l) : ∃ x y z u, l = [x, y, z, u] ∧ R a x ∧ R b y ∧ R c z ∧ R d u := by
  match l, h with
  | [x, y, z, u], ⟨h0, h1, h2, h3, _⟩ => exact ⟨x, y, z, u, rfl, h0, h1, h2, h3⟩
theorem all2_1 {α β : Type} {R : α → β → Prop} {a : α} {l : List β} (h : All2 R [a] l) : ∃ x, l = [x] ∧ R a x := by
  match l, h with
  | [x], ⟨h0, _⟩ => exact ⟨x, rfl, h0⟩
theorem maxLen_eq : maxLen = 9223372036854775807 := by decide
theorem rg_of {n : Int} (h : (Lit.int .i64 n).wf = true) : rg n := Go.bounds_i64 h
theorem shInt {t : Nat} (ht : T t = .int) {a : AV} (h : ShA T t a) : ∃ n, a = .one (.sc (.int n)) ∧ rg n := by
  simp only [ShA, ht] at h
  obtain ⟨c, rfl, h⟩ := h
  simp only [ShC, ht] at h
  obtain ⟨s, rfl, h⟩ := h
  cases s <;> first | exact ⟨_, rfl, rg_of h⟩ | exact h.elim
theorem shCInt {t : Nat} (ht : T t = .int) {c : CV} (h : ShC T t c) : ∃ n, c = .sc (.int n) ∧ rg n := by
  simp only [ShC, ht] at h
  obtain ⟨s, rfl, h⟩ := h
  cases s <;> first | exact ⟨_, rfl, rg_of h⟩ | exact h.elim
theorem shEInt {t : Nat} (ht : T t = .int) {el : El} (h : ShE T t el) : ∃ n, el = [.int n] ∧ rg n := by
  simp only [ShE, ht] at h
  obtain ⟨s, rfl, h⟩ := h
  cases s <;> first | exact ⟨_, rfl, rg_of h⟩ | exact h.elim
theorem shInts {t e : Nat} (ht : T t = .sl e) (he : T e = .int) {a : AV} (h : ShA T t a) : ∃ l : List Int, a = .one (.imm 1 (ints l)) ∧ l.length ≤ 9223372036854775807 ∧ ∀ n ∈ l, rg n := by
  simp only [ShA, ht] at h
  obtain ⟨c, rfl, h⟩ := h
  simp only [ShC, ht, he] at h
  obtain ⟨xs, rfl, hl, h⟩ := h
  have : ∃ l : List Int, xs = ints l ∧ ∀ n ∈ l, rg n := by
    clear hl
    induction xs with
    | nil => exact ⟨[], rfl, by simp⟩
    | cons x xs ih =>
      obtain ⟨l, rfl, hl⟩ := ih (fun el hel => h el (by simp [hel]))
      obtain ⟨n, rfl, hn⟩ := shEInt he (h x (by simp))
      exact ⟨n :: l, rfl, by simp [hn]; exact hl⟩
  obtain ⟨l, rfl, hr⟩ := this
  exact ⟨l, by simp [kOf, he], by rw [← intsLen l, ← maxLen_eq]; exact hl, hr⟩
theorem shEdge {t a b c : Nat} (ht : T t = .st [a, b, c]) (ha : T a = .int) (hb : T b = .int) (hc : T c = .int) {el : El} (h : ShE T t el) : ∃ e : Ed, el = [.int e.1, .int e.2.1, .int e.2.2] ∧ rg e.1 ∧ rg e.2.1 ∧ rg e.2.2 := by
  simp only [ShE, ht] at h
  match el, h with
  | [s0, s1, s2], ⟨h0, h1, h2, _⟩ =>
    simp only at h0 h1 h2
    rw [ha] at h0; rw [hb] at h1; rw [hc] at h2
    cases s0 <;> first | (exact h0.elim) | skip
    cases s1 <;> first | (exact h1.elim) | skip
    cases s2 <;> first | (exact h2.elim) | skip
    exact ⟨(_, _, _), rfl, rg_of h0, rg_of h1, rg_of h2⟩
theorem shEdges {t : Nat} (ht : T t = .st [3, 3, 3]) {xs : List El} (h : ∀ el ∈ xs, ShE T t el) : ∃ l : List Ed, xs = eds l ∧ rgE l := by
  induction xs with
  | nil => exact ⟨[], rfl, by simp [rgE]⟩
  | cons x xs ih =>
    obtain ⟨l, rfl, hl⟩ := ih (fun el hel => h el (by simp [hel]))
    obtain ⟨e, rfl, he⟩ := shEdge ht T3 T3 T3 (h x (by simp))
    refine ⟨e :: l, rfl, ?_⟩
    intro e' he'
    rcases List.mem_cons.1 he' with rfl | h'
    · exact he
    · exact hl e' h'
def edA (p : Ed) : AV := .agg [.sc (.int p.1), .sc (.int p.2.1), .sc (.int p.2.2)]
def grA (r z : Int) (es : List Ed) : AV := .agg [.sc (.int r), .sc (.int z), .imm 3 (eds es)]


theorem takeDrop {α : Type} (l : List α) (n : Nat) : (l.drop n).take (l.length - n) = l.drop n := by rw [← List.length_drop, List.take_length]
attribute [go_sem] takeDrop
attribute [go_sem] grA edA entryM
def K_within_sat : Nat → List Nat := fun i => ([[0, 1, 2], [6]] : List (List Nat)).getD i []
attribute [go_sem] K_within_sat
def within_sat_S : Eng.Spec := fun args av objs => ∃ (a b c : Int), args = [aI a, aI b, aI c] ∧ av = aB (decide (b ≤ a ∧ a ≤ c)) ∧ objs = []
theorem within_sat : Sat Try.prog 34 within_sat_S := by
  refine sat_of tok okr mixed K_within_sat Try.func34 rfl (rs := [.tmp 6]) rfl Try.ntmps34 ?_
  rintro args av objs ⟨a, b, c, rfl, rfl, rfl⟩
  refine ⟨by show 3 ≤ 15; decide, ?_⟩
  repeat' (first|(refine ya ?_;first|refine ye ?_)|(refine yg ?_;intro hgs;first|(replace hgs:=zgy hgs;first|refine yy hgs ?_;clear hgs)|(refine yn (zgn hgs) ?_;clear hgs)|((fail_if_success have:=zgy hgs);refine z_spl hgs (h1:=?_) (h2:=?_)<;>clear hgs<;>intro hg hr<;>try first|contradiction|exfalso;omega))|refine yz ?_|refine zst ?_|refine k_blk_other rfl ?_|(refine zk ?_ ?_<;>intro hc hr<;>try first|contradiction|exfalso;omega))
  all_goals refine z_ret (hv := ?_) (ho := ?_)
  all_goals simp_all
  all_goals omega
instance : Con Try.prog 34 within_sat_S := con within_sat Try.func34
def K_l1In_sat : Nat → List Nat := fun i => ([[0, 1, 2], [6]] : List (List Nat)).getD i []
attribute [go_sem] K_l1In_sat
def l1In_sat_S : Eng.Spec := fun args av objs => ∃ (a b c : Int), args = [aI a, aI b, aI c] ∧ av = aB (decide (b ≤ a ∧ a ≤ c)) ∧ objs = []
theorem l1In_sat : Sat Try.prog 37 l1In_sat_S := by
  refine sat_of tok okr mixed K_l1In_sat Try.func37 rfl (rs := [.tmp 6]) rfl Try.ntmps37 ?_
  rintro args av objs ⟨a, b, c, rfl, rfl, rfl⟩
  refine ⟨by show 3 ≤ 15; decide, ?_⟩
  repeat' (first|(refine ya ?_;first|refine ye ?_)|(refine yg ?_;intro hgs;first|(replace hgs:=zgy hgs;first|refine yy hgs ?_;clear hgs)|(refine yn (zgn hgs) ?_;clear hgs)|((fail_if_success have:=zgy hgs);refine z_spl hgs (h1:=?_) (h2:=?_)<;>clear hgs<;>intro hg hr<;>try first|contradiction|exfalso;omega))|refine yz ?_|refine zst ?_|refine k_blk_other rfl ?_|(refine zk ?_ ?_<;>intro hc hr<;>try first|contradiction|exfalso;omega))
  all_goals refine z_ret (hv := ?_) (ho := ?_)
  all_goals simp_all
  all_goals omega

/-! ### Equality -/

/-! ### Copies of the laws -/
def zEd (n : Nat) : List Ed := List.replicate n (0, 0, 0)
theorem zEd_eq (n : Nat) : List.replicate n [Sc.int 0, Sc.int 0, Sc.int 0] = eds (zEd n) := by simp [eds, zEd]
def cpE (es : List Ed) (i : Nat) : List Ed := es.take i ++ zEd (es.length - i)
theorem cpE_len {es : List Ed} {i : Nat} (h : i ≤ es.length) : (cpE es i).length = es.length := by simp [cpE, zEd]; omega
theorem cpE_0 (es : List Ed) : cpE es 0 = zEd es.length := by simp [cpE]
theorem cpE_all (es : List Ed) : cpE es es.length = es := by simp [cpE, zEd]
theorem cpE_set {es : List Ed} {i : Nat} (h : i < es.length) : (cpE es i).set i (ed es i) = cpE es (i + 1) := by
  have e1 : zEd (es.length - i) = (0, 0, 0) :: zEd (es.length - (i + 1)) := by
    have : es.length - i = (es.length - (i + 1)) + 1 := by omega
    rw [this]; rfl
  have e2 : es.take (i + 1) = es.take i ++ [ed es i] := by
    rw [List.take_add_one]; simp [ed, h]
  unfold cpE
  rw [e1, e2, List.set_append_right _ _ (by rw [List.length_take]; omega)]
  have e3 : i - (List.take i es).length = 0 := by rw [List.length_take]; omega
  rw [e3]
  simp
instance : Con Try.prog 37 l1In_sat_S := con l1In_sat Try.func37
end Go.Proofs.Try
namespace Go.Proofs.Try
open Go Go.Eng
set_option linter.unnecessarySimpa false
set_option linter.unusedSimpArgs false
set_option maxHeartbeats 4000000

/-! ### Lists of ints: equality, copies, sizes, marks -/
theorem intsSet (l : List Int) (i : Nat) (a : Int) : (ints l).set i [.int a] = ints (l.set i a) := by simp [ints, List.map_set]
theorem intsApp (l : List Int) (a : Int) : ints l ++ [[.int a]] = ints (l ++ [a]) := by simp [ints]
theorem intsApps (l m : List Int) : ints l ++ ints m = ints (l ++ m) := by simp [ints]
theorem intsNil : ints [] = [] := rfl
theorem intsDrop (l : List Int) (n : Nat) : (ints l).drop n = ints (l.drop n) := by simp [ints, List.map_drop]
theorem intsTake (l : List Int) (n : Nat) : (ints l).take n = ints (l.take n) := by simp [ints, List.map_take]
theorem ixDrop (l : List Int) (n j : Nat) : ix (l.drop n) j = ix l (n + j) := by simp [ix]
attribute [go_sem] intsSet intsApp intsApps intsNil intsDrop intsTake ixDrop
theorem ints_eq {xs ys : List Int} (hl : xs.length = ys.length) (h : ∀ j, j < xs.length → ix xs j = ix ys j) : xs = ys := by
  apply List.ext_getElem hl
  intro i h1 h2
  have := h i h1
  simpa [ix, h1, h2] using this
def cpI (l : List Int) (i : Nat) : List Int := l.take i ++ List.replicate (l.length - i) 0
theorem zI_eq (n : Nat) : List.replicate n [Sc.int 0] = ints (List.replicate n 0) := by simp [ints]
theorem cpI_len {l : List Int} {i : Nat} (h : i ≤ l.length) : (cpI l i).length = l.length := by simp [cpI]; omega
theorem cpI_0 (l : List Int) : cpI l 0 = List.replicate l.length 0 := by simp [cpI]
theorem cpI_all (l : List Int) : cpI l l.length = l := by simp [cpI]
theorem cpI_set {l : List Int} {i : Nat} (h : i < l.length) : (cpI l i).set i (ix l i) = cpI l (i + 1) := by
  have e1 : List.replicate (l.length - i) (0 : Int) = 0 :: List.replicate (l.length - (i + 1)) 0 := by
    have : l.length - i = (l.length - (i + 1)) + 1 := by omega
    rw [this]; rfl
  have e2 : l.take (i + 1) = l.take i ++ [ix l i] := by
    rw [List.take_add_one]; simp [ix, h]
  unfold cpI
  rw [e1, e2, List.set_append_right _ _ (by rw [List.length_take]; omega)]
  have e3 : i - (List.take i l).length = 0 := by rw [List.length_take]; omega
  rw [e3]
  simp
end Go.Proofs.Try
/- Plain: letters, words. -/
namespace Go.Proofs.Try
open Go Go.Eng
def lts : Nat → List Int
  | 0 => []
  | n + 1 => lts n ++ [(n + 1 : Int), -(n + 1 : Int)]
theorem lts_len (n : Nat) : (lts n).length = 2 * n := by
  induction n with
  | zero => rfl
  | succ n ih => simp [lts, ih]; omega
theorem intsApp2 (l : List Int) (a b : Int) : ints l ++ [[.int a], [.int b]] = ints (l ++ [a, b]) := by simp [ints]
attribute [go_sem] intsApp2
abbrev oL (e : Nat) (l : List Int) : Go.Eng.Obj := .flat e 1 (ints l)
end Go.Proofs.Try
namespace Go.Proofs.Try
open Go Go.Eng
set_option linter.unnecessarySimpa false
set_option linter.unusedSimpArgs false
set_option maxHeartbeats 4000000
end Go.Proofs.Try
namespace Go.Proofs.Try
open Go Go.Eng
set_option linter.unnecessarySimpa false
set_option linter.unusedSimpArgs false
set_option maxHeartbeats 1000000

def cmpI (a b : Int) : Int := if a < b then -1 else if b < a then 1 else 0
def cmpE (p q : Ed) : Int := if cmpI p.1 q.1 ≠ 0 then cmpI p.1 q.1 else if cmpI p.2.1 q.2.1 ≠ 0 then cmpI p.2.1 q.2.1 else cmpI p.2.2 q.2.2
def K_compareInts_sat : Nat → List Nat := fun i => ([[0, 1], [0, 1, 5], [4], [9], [4], [4]] : List (List Nat)).getD i []
attribute [go_sem] K_compareInts_sat
def compareInts_sat_S : Eng.Spec := fun args av objs => ∃ (a b : Int), args = [aI a, aI b] ∧ av = aI (cmpI a b) ∧ objs = []
theorem compareInts_sat : Sat Try.prog 68 compareInts_sat_S := by
  refine sat_of tok okr mixed K_compareInts_sat Try.func68 rfl (rs := [.tmp 4]) rfl Try.ntmps68 ?_
  rintro args av objs ⟨a, b, rfl, rfl, rfl⟩
  refine ⟨by show 2 ≤ 13; decide, ?_⟩
  repeat' (first|(refine ya ?_;first|refine ye ?_)|refine yz ?_|refine zst ?_|refine k_blk_other rfl ?_|(refine zk ?_ ?_<;>intro hc hr<;>try first|contradiction|exfalso;omega))
  all_goals refine z_ret (hv := ?_) (ho := ?_)
  all_goals simp [cmpI, *]
  all_goals omega
instance : Con Try.prog 68 compareInts_sat_S := con compareInts_sat Try.func68
def K_compareEdges_sat : Nat → List Nat := fun i => ([[2, 3], [2, 3, 5], [2, 3, 5, 13], [4], [2, 3, 6], [2, 3, 6, 21], [4], [4]] : List (List Nat)).getD i []
attribute [go_sem] K_compareEdges_sat
def compareEdges_sat_S : Eng.Spec := fun args av objs => ∃ (a b c x y w : Int), args = [.agg [.sc (.int a), .sc (.int b), .sc (.int c)], .agg [.sc (.int x), .sc (.int y), .sc (.int w)]] ∧ av = aI (cmpE (a, b, c) (x, y, w)) ∧ objs = []
theorem compareEdges_sat : Sat Try.prog 39 compareEdges_sat_S := by
  refine sat_of tok okr mixed K_compareEdges_sat Try.func39 rfl (rs := [.tmp 4]) rfl Try.ntmps39 ?_
  rintro args av objs ⟨a, b, c, x, y, w, rfl, rfl, rfl⟩
  refine ⟨by show 2 ≤ 28; decide, ?_⟩
  repeat' (first|(refine ya ?_;first|(refine yb ?_;first|refine yc ?_)|refine ye ?_)|refine yz ?_|refine zst ?_|refine k_blk_other rfl ?_|(refine zk ?_ ?_<;>intro hc hr<;>try first|contradiction|exfalso;omega))
  all_goals refine z_ret (hv := ?_) (ho := ?_)
  all_goals simp_all [cmpE]
instance : Con Try.prog 39 compareEdges_sat_S := con compareEdges_sat Try.func39
def K_compareEdges_sat2 : Nat → List Nat := fun i => ([[2, 3], [3, 5], [5, 6], [5, 6, 7], [5, 6, 7, 23], [5, 6, 7], [5, 6, 7, 34], [4], [5, 6, 7, 43], [4], [4]] : List (List Nat)).getD i []
attribute [go_sem] K_compareEdges_sat2
def compareEdges_sat2_S : Eng.Spec := fun args av objs => ∃ (a b c x y w : Int), args = [.agg [.sc (.int a), .sc (.int b), .sc (.int c)], .agg [.sc (.int x), .sc (.int y), .sc (.int w)]] ∧ av = aI (cmpE (a, b, c) (x, y, w)) ∧ objs = []
theorem compareEdges_sat2 : Sat Try.prog 76 compareEdges_sat2_S := by
  refine sat_of tok okr mixed K_compareEdges_sat2 Try.func76 rfl (rs := [.tmp 4]) rfl Try.ntmps76 ?_
  rintro args av objs ⟨a, b, c, x, y, w, rfl, rfl, rfl⟩
  refine ⟨by show 2 ≤ 44; decide, ?_⟩
  repeat' (first|(refine ya ?_;first|refine ye ?_)|refine yz ?_|(refine yA ?_;first|refine yE ?_)|refine yZ ?_|refine zst ?_|refine k_blk_other rfl ?_|(refine zk ?_ ?_<;>intro hc hr<;>try first|contradiction|exfalso;omega))
  refine z_loop (fun i : Nat => [(7, aI i)]) (fun i : Nat => []) (fun i : Nat => i ≤ 3 ∧ (1 ≤ i → a = x) ∧ (2 ≤ i → b = y) ∧ (3 ≤ i → c = w)) (fun i : Nat => 3 - i) (0) (h0 := ?_) (henv := ?_) (hobj := ?_) (h := ?_)
  · exact ⟨by omega, by omega, by omega, by omega⟩
  · simp [go_sem, AVm, CVm, lookS]
  · simp [go_sem, OBm, CVm, lookS, All2]
  rintro i ⟨hi, h0, h1, h2⟩
  rcases (show i = 0 ∨ i = 1 ∨ i = 2 ∨ i = 3 by omega) with rfl | rfl | rfl | rfl
  all_goals simp only [Nat.le_refl, forall_const, Nat.reduceLeDiff, false_implies] at h0 h1 h2
  all_goals repeat' (first|(refine ya ?_;first|refine ye ?_)|refine yz ?_|(refine yA ?_;first|refine yE ?_)|refine yZ ?_|refine zst ?_|refine k_blk_other rfl ?_|(refine zk ?_ ?_<;>intro hc hr<;>try first|contradiction|exfalso;omega))
  all_goals first
    | (exact zl (1) (hj := by exact ⟨by omega, by omega, by omega, by omega⟩); done)
    | (exact zl (2) (hj := by exact ⟨by omega, by omega, by omega, by omega⟩); done)
    | (exact zl (3) (hj := by exact ⟨by omega, by omega, by omega, by omega⟩); done)
    | (refine z_ret (hv := ?_) (ho := ?_) <;> (simp [cmpE, cmpI] <;> omega))
    | (refine z_ret (hv := ?_) (ho := ?_) <;> simp_all [cmpE, cmpI])

def edOk (r z : Int) (p : Ed) : Bool := decide (0 ≤ p.1 ∧ p.1 ≤ w64 (z - 1)) && decide (0 ≤ p.2.2 ∧ p.2.2 ≤ w64 (z - 1)) && decide (1 ≤ p.2.1 ∧ p.2.1 ≤ r)
instance : Con Try.prog 76 compareEdges_sat2_S := con compareEdges_sat2 Try.func76
def K_l4Edge_sat : Nat → List Nat := fun i => ([[2, 3], [4]] : List (List Nat)).getD i []
attribute [go_sem] K_l4Edge_sat
def l4Edge_sat_S : Eng.Spec := fun args av objs => ∃ (r z : Int) (es : List Ed) (a b c : Int), args = [grA r z es, .agg [.sc (.int a), .sc (.int b), .sc (.int c)]] ∧ av = aB (edOk r z (a, b, c)) ∧ objs = []
theorem l4Edge_sat : Sat Try.prog 75 l4Edge_sat_S := by
  refine sat_of tok okr mixed K_l4Edge_sat Try.func75 rfl (rs := [.tmp 4]) rfl Try.ntmps75 ?_
  rintro args av objs ⟨r, z, es, a, b, c, rfl, rfl, rfl⟩
  refine ⟨by show 2 ≤ 26; decide, ?_⟩
  repeat' (first|(refine ya ?_;first|(refine yb ?_;first|refine yc ?_)|refine ye ?_)|(refine yg ?_;intro hgs;first|(replace hgs:=zgy hgs;first|(refine yb ?_;first|refine yc ?_)|refine yy hgs ?_;clear hgs)|(refine yn (zgn hgs) ?_;clear hgs)|((fail_if_success have:=zgy hgs);refine z_spl hgs (h1:=?_) (h2:=?_)<;>clear hgs<;>intro hg hr<;>try first|contradiction|exfalso;omega))|refine yz ?_|refine zst ?_|refine k_blk_other rfl ?_|(refine zk ?_ ?_<;>intro hc hr<;>try first|contradiction|exfalso;omega))
  all_goals refine z_ret (hv := ?_) (ho := ?_)
  all_goals simp_all [edOk]
  all_goals intros
  all_goals omega
instance : Con Try.prog 75 l4Edge_sat_S := con l4Edge_sat Try.func75
def K_l4Copy_sat : Nat → List Nat := fun i => ([[1, 2], [2]] : List (List Nat)).getD i []
attribute [go_sem] K_l4Copy_sat
def l4Copy_sat_S : Eng.Spec := fun args av objs => ∃ (r z : Int) (es : List Ed), (es.length ≤ 1099511627776) ∧ args = [grA r z es] ∧ av = .agg [.sc (.int r), .sc (.int z), .ref 0] ∧ objs = [.flat 56 3 (eds es)]
theorem l4Copy_sat : Sat Try.prog 48 l4Copy_sat_S := by
  refine sat_of tok okr mixed K_l4Copy_sat Try.func48 rfl (rs := [.cell 2 29]) rfl Try.ntmps48 ?_
  rintro args av objs ⟨r, z, es, hpre, rfl, rfl, rfl⟩
  refine ⟨by show 1 ≤ 12; decide, ?_⟩
  repeat' (first|(refine ya ?_;first|refine ye ?_)|refine yz ?_|(refine yA ?_;first|refine yE ?_)|refine yZ ?_|refine zst ?_|refine k_blk_other rfl ?_|(refine zk ?_ ?_<;>intro hc hr<;>try first|contradiction|exfalso;omega))
  all_goals first | (refine z_ret (hv := ?_) (ho := ?_) <;> first | rfl | (simp [go_sem, *]; done) | (simp_all; done) | (simp_all; omega)) | skip
instance : Con Try.prog 48 l4Copy_sat_S := con l4Copy_sat Try.func48
end Go.Proofs.Try
namespace Go.Proofs.Try
open Go Go.Eng
set_option linter.unnecessarySimpa false
set_option linter.unusedSimpArgs false
set_option maxHeartbeats 2000000

def ok1 (r z : Int) (es : List Ed) (i : Nat) : Bool := edOk r z (ed es i) && (decide (i = 0) || decide (cmpE (ed es (i - 1)) (ed es i) < 0))
def okAll (r z : Int) (es : List Ed) (n : Nat) : Bool := (List.range n).all (ok1 r z es)
theorem okAll_succ (r z : Int) (es : List Ed) (n : Nat) : okAll r z es (n + 1) = (okAll r z es n && ok1 r z es n) := by
  simp [okAll, List.range_succ]
def isG (r z : Int) (es : List Ed) : Bool := okAll r z es es.length && (decide (1 ≤ r ∧ r ≤ 3) && decide (1 ≤ z ∧ z ≤ 40) && decide (es.length ≤ 120))
theorem okAll_mono {r z : Int} {es : List Ed} {n m : Nat} (h : n ≤ m) (h2 : okAll r z es m = true) : okAll r z es n = true := by
  simp only [okAll, List.all_eq_true, List.mem_range] at *
  intro x hx
  exact h2 x (by omega)
def K_isGraph_sat2 : Nat → List Nat := fun i => ([[1], [1, 3], [1, 3, 8], [1, 3], [1, 3, 37], [2], [2]] : List (List Nat)).getD i []
attribute [go_sem] K_isGraph_sat2
def isGraph_sat2_S : Eng.Spec := fun args av objs => ∃ (r z : Int) (es : List Ed), (es.length ≤ 1099511627776) ∧ args = [grA r z es] ∧ av = aB (isG r z es) ∧ objs = []
theorem isGraph_sat2 : Sat Try.prog 49 isGraph_sat2_S := by
  refine sat_of tok okr mixed K_isGraph_sat2 Try.func49 rfl (rs := [.tmp 2]) rfl Try.ntmps49 ?_
  rintro args av objs ⟨r, z, es, hpre, rfl, rfl, rfl⟩
  refine ⟨by show 1 ≤ 52; decide, ?_⟩
  repeat' (first|(refine ya ?_;first|(refine yb ?_;first|refine yc ?_)|refine ye ?_)|(refine yg ?_;intro hgs;first|(replace hgs:=zgy hgs;first|(refine yb ?_;first|refine yc ?_)|refine yy hgs ?_;clear hgs)|(refine yn (zgn hgs) ?_;clear hgs)|((fail_if_success have:=zgy hgs);refine z_spl hgs (h1:=?_) (h2:=?_)<;>clear hgs<;>intro hg hr<;>try first|contradiction|exfalso;omega))|refine yt ?_|refine yz ?_|(refine yA ?_;first|(refine yB ?_;first|refine yC ?_)|refine yE ?_)|(refine yG ?_;intro hgs;first|(replace hgs:=zgy hgs;first|(refine yB ?_;first|refine yC ?_)|refine yY hgs ?_;clear hgs)|(refine yN (zgn hgs) ?_;clear hgs)|((fail_if_success have:=zgy hgs);refine z_spll hgs (h1:=?_) (h2:=?_)<;>clear hgs<;>intro hg hr<;>try first|contradiction|exfalso;omega))|refine yT ?_|refine yZ ?_|refine zst ?_|refine k_blk_other rfl ?_|(refine zk ?_ ?_<;>intro hc hr<;>try first|contradiction|exfalso;omega))
  refine z_loop (fun i : Nat => [(3, aI i)]) (fun i : Nat => []) (fun i : Nat => i ≤ es.length ∧ okAll r z es i = true) (fun i : Nat => es.length - i) (0) (h0 := ?_) (henv := ?_) (hobj := ?_) (h := ?_)
  · exact ⟨by omega, rfl⟩
  · simp [go_sem, AVm, CVm, lookS]
  · simp [go_sem, OBm, CVm, lookS, All2]
  rintro i ⟨hi, hok⟩
  have e1 : ((i : Int) - 1).toNat = i - 1 := by omega
  repeat' (first|(refine ya ?_;first|(refine yb ?_;first|refine yc ?_)|refine ye ?_)|(refine yg ?_;intro hgs;first|(replace hgs:=zgy hgs;first|(refine yb ?_;first|refine yc ?_)|refine yy hgs ?_;clear hgs)|(refine yn (zgn hgs) ?_;clear hgs)|((fail_if_success have:=zgy hgs);refine z_spl hgs (h1:=?_) (h2:=?_)<;>clear hgs<;>intro hg hr<;>try first|contradiction|exfalso;omega))|refine yt ?_|refine yz ?_|(refine yA ?_;first|(refine yB ?_;first|refine yC ?_)|refine yE ?_)|(refine yG ?_;intro hgs;first|(replace hgs:=zgy hgs;first|(refine yB ?_;first|refine yC ?_)|refine yY hgs ?_;clear hgs)|(refine yN (zgn hgs) ?_;clear hgs)|((fail_if_success have:=zgy hgs);refine z_spll hgs (h1:=?_) (h2:=?_)<;>clear hgs<;>intro hg hr<;>try first|contradiction|exfalso;omega))|refine yT ?_|refine yZ ?_|refine zst ?_|refine k_blk_other rfl ?_|(refine zk ?_ ?_<;>intro hc hr<;>try first|contradiction|exfalso;omega))
  all_goals first
    | (exact zl (i + 1) (hj := by exact ⟨by omega, by first | (simp [okAll_succ, ok1, *]; done) | (simp [okAll_succ, ok1, *]; omega)⟩); done)
    | (have hii : i = es.length := by omega
       subst hii
       refine z_ret (hv := ?_) (ho := ?_) <;> first | (simp_all [isG]; done) | (simp_all [isG]; omega))
    | (have h1 := mt (okAll_mono (r := r) (z := z) (es := es) (n := i + 1) (m := es.length) (by omega))
       have h2 : okAll r z es (i + 1) = false := by first | (simp_all [okAll_succ, ok1]; done) | (simp_all [okAll_succ, ok1]; omega)
       have h3 : isG r z es = false := by simp [isG, h1 (by rw [h2]; simp)]
       rw [h3]
       refine z_ret (hv := ?_) (ho := ?_) <;> rfl)
    | trace_state
instance : Con Try.prog 49 isGraph_sat2_S := con isGraph_sat2 Try.func49
end Go.Proofs.Try
namespace Go.Proofs.Try
open Go Go.Eng
set_option linter.unnecessarySimpa false
set_option linter.unusedSimpArgs false
set_option maxHeartbeats 2000000

def putStep (e : Ed) (st : List Ed × Bool) (x : Ed) : List Ed × Bool :=
  if cmpE e x = 0 then (st.1 ++ [x], true)
  else if cmpE e x < 0 ∧ st.2 = false then (st.1 ++ [e] ++ [x], true)
  else (st.1 ++ [x], st.2)
def putN (es : List Ed) (e : Ed) (i : Nat) : List Ed × Bool := (es.take i).foldl (putStep e) ([], false)
theorem putN_succ {es : List Ed} {e : Ed} {i : Nat} (h : i < es.length) : putN es e (i + 1) = putStep e (putN es e i) (ed es i) := by
  simp only [putN]
  rw [List.take_add_one, List.foldl_append]
  simp [h, ed]
def put (es : List Ed) (e : Ed) : List Ed := if (putN es e es.length).2 then (putN es e es.length).1 else (putN es e es.length).1 ++ [e]
theorem putN_len (es : List Ed) (e : Ed) (i : Nat) (h : i ≤ es.length) : (putN es e i).1.length ≤ 2 * i := by
  induction i with
  | zero => simp [putN]
  | succ i ih =>
    rw [putN_succ (by omega)]
    have := ih (by omega)
    unfold putStep
    split
    · simp; omega
    · split <;> simp <;> omega
def K_l4Put_sat : Nat → List Nat := fun i => ([[0, 3], [0, 3, 5], [0, 3, 5, 6], [0, 3, 5, 6, 7], [0, 3, 5, 6, 7, 13], [0, 3, 5, 6, 7], [0, 3, 5, 6, 7, 8], [0, 3, 5, 6, 7, 8, 23], [0, 3, 5, 6, 7, 8], [0, 3, 5, 6, 7, 29], [0, 3, 5, 7], [0, 3, 5, 6, 7], [0, 3, 5, 6, 7], [3, 5, 42], [5], [4]] : List (List Nat)).getD i []
attribute [go_sem] K_l4Put_sat
def l4Put_sat_S : Eng.Spec := fun args av objs => ∃ (es : List Ed) (a b c : Int), (es.length ≤ 1099511627) ∧ args = [.one (.imm 3 (eds es)), .agg [.sc (.int a), .sc (.int b), .sc (.int c)]] ∧ av = aR 0 ∧ objs = [.flat 56 3 (eds (put es (a, b, c)))]
theorem l4Put_sat : Sat Try.prog 50 l4Put_sat_S := by
  refine sat_of tok okr mixed K_l4Put_sat Try.func50 rfl (rs := [.tmp 4]) rfl Try.ntmps50 ?_
  rintro args av objs ⟨es, a, b, c, hpre, rfl, rfl, rfl⟩
  refine ⟨by show 2 ≤ 48; decide, ?_⟩
  repeat' (first|(refine ya ?_;first|(refine yb ?_;first|refine yc ?_)|refine ye ?_)|(refine yg ?_;intro hgs;first|(replace hgs:=zgy hgs;first|(refine yb ?_;first|refine yc ?_)|refine yy hgs ?_;clear hgs)|(refine yn (zgn hgs) ?_;clear hgs)|((fail_if_success have:=zgy hgs);refine z_spl hgs (h1:=?_) (h2:=?_)<;>clear hgs<;>intro hg hr<;>try first|contradiction|exfalso;omega))|refine yz ?_|(refine yA ?_;first|(refine yB ?_;first|refine yC ?_)|refine yE ?_)|(refine yG ?_;intro hgs;first|(replace hgs:=zgy hgs;first|(refine yB ?_;first|refine yC ?_)|refine yY hgs ?_;clear hgs)|(refine yN (zgn hgs) ?_;clear hgs)|((fail_if_success have:=zgy hgs);refine z_spll hgs (h1:=?_) (h2:=?_)<;>clear hgs<;>intro hg hr<;>try first|contradiction|exfalso;omega))|refine yZ ?_|refine zst ?_|refine k_blk_other rfl ?_|(refine zk ?_ ?_<;>intro hc hr<;>try first|contradiction|exfalso;omega))
  refine z_loop (fun i : Nat => [(7, aI i), (6, aB (putN es (a, b, c) i).2)]) (fun i : Nat => [.obj 5 (.flat 56 3 (eds (putN es (a, b, c) i).1))]) (fun i : Nat => i ≤ es.length) (fun i : Nat => es.length - i) (0) (h0 := ?_) (henv := ?_) (hobj := ?_) (h := ?_)
  · omega
  · simp [go_sem, AVm, CVm, lookS, putN]
  · simp [go_sem, OBm, CVm, lookS, All2, putN]
  intro i hi
  have hlen := putN_len es (a, b, c) i hi
  rcases Nat.lt_or_ge i es.length with hlt | hge
  · have hs := putN_succ (e := (a, b, c)) hlt
    generalize hst : putN es (a, b, c) i = st at hlen hs ⊢
    obtain ⟨o, b1⟩ := st
    simp only at hlen ⊢
    clear hst
    repeat' (first|(refine ya ?_;first|(refine yb ?_;first|refine yc ?_)|refine ye ?_)|(refine yg ?_;intro hgs;first|(replace hgs:=zgy hgs;first|(refine yb ?_;first|refine yc ?_)|refine yy hgs ?_;clear hgs)|(refine yn (zgn hgs) ?_;clear hgs)|((fail_if_success have:=zgy hgs);refine z_spl hgs (h1:=?_) (h2:=?_)<;>clear hgs<;>intro hg hr<;>try first|contradiction|exfalso;omega))|refine yz ?_|(refine yA ?_;first|(refine yB ?_;first|refine yC ?_)|refine yE ?_)|(refine yG ?_;intro hgs;first|(replace hgs:=zgy hgs;first|(refine yB ?_;first|refine yC ?_)|refine yY hgs ?_;clear hgs)|(refine yN (zgn hgs) ?_;clear hgs)|((fail_if_success have:=zgy hgs);refine z_spll hgs (h1:=?_) (h2:=?_)<;>clear hgs<;>intro hg hr<;>try first|contradiction|exfalso;omega))|refine yZ ?_|refine zst ?_|refine k_blk_other rfl ?_|(refine zk ?_ ?_<;>intro hc hr<;>try first|contradiction|exfalso;omega))
    all_goals first
      | ((refine z_lop (i + 1) (hj := ?_) (hmu := ?_) (henv := ?_) (hobj := ?_); (· omega); (· first | omega | (simp only; omega)); (· first | (simp [go_sem, AVm, CVm, lookS, hs, putStep, *]; done) | (simp [go_sem, AVm, CVm, lookS, hs, putStep, *] <;> (repeat' split) <;> first | omega | (simp_all; done) | (exfalso; omega) | (simp_all; omega))); (· first | (simp [go_sem, OBm, CVm, All2, lookS, hs, putStep, *]; done) | (simp [go_sem, OBm, CVm, All2, lookS, hs, putStep, *] <;> (repeat' split) <;> first | omega | (simp_all; done) | (exfalso; omega) | (simp_all; omega)))); done)
      | trace_state
  · have hii : i = es.length := by omega
    subst hii
    have hp : put es (a, b, c) = if (putN es (a, b, c) es.length).2 then (putN es (a, b, c) es.length).1 else (putN es (a, b, c) es.length).1 ++ [(a, b, c)] := rfl
    rw [hp]
    generalize putN es (a, b, c) es.length = st at hlen ⊢
    obtain ⟨o, b1⟩ := st
    simp only at hlen ⊢
    cases b1
    · repeat' (first|(refine ya ?_;first|(refine yb ?_;first|refine yc ?_)|refine ye ?_)|(refine yg ?_;intro hgs;first|(replace hgs:=zgy hgs;first|(refine yb ?_;first|refine yc ?_)|refine yy hgs ?_;clear hgs)|(refine yn (zgn hgs) ?_;clear hgs)|((fail_if_success have:=zgy hgs);refine z_spl hgs (h1:=?_) (h2:=?_)<;>clear hgs<;>intro hg hr<;>try first|contradiction|exfalso;omega))|refine yz ?_|(refine yA ?_;first|(refine yB ?_;first|refine yC ?_)|refine yE ?_)|(refine yG ?_;intro hgs;first|(replace hgs:=zgy hgs;first|(refine yB ?_;first|refine yC ?_)|refine yY hgs ?_;clear hgs)|(refine yN (zgn hgs) ?_;clear hgs)|((fail_if_success have:=zgy hgs);refine z_spll hgs (h1:=?_) (h2:=?_)<;>clear hgs<;>intro hg hr<;>try first|contradiction|exfalso;omega))|refine yZ ?_|refine zst ?_|refine k_blk_other rfl ?_|(refine zk ?_ ?_<;>intro hc hr<;>try first|contradiction|exfalso;omega))
      all_goals first | (refine z_ret (hv := ?_) (ho := ?_) <;> first | rfl | (simp [go_sem, *]; done) | (simp_all; done) | (simp_all; omega)) | skip
    · repeat' (first|(refine ya ?_;first|(refine yb ?_;first|refine yc ?_)|refine ye ?_)|(refine yg ?_;intro hgs;first|(replace hgs:=zgy hgs;first|(refine yb ?_;first|refine yc ?_)|refine yy hgs ?_;clear hgs)|(refine yn (zgn hgs) ?_;clear hgs)|((fail_if_success have:=zgy hgs);refine z_spl hgs (h1:=?_) (h2:=?_)<;>clear hgs<;>intro hg hr<;>try first|contradiction|exfalso;omega))|refine yz ?_|(refine yA ?_;first|(refine yB ?_;first|refine yC ?_)|refine yE ?_)|(refine yG ?_;intro hgs;first|(replace hgs:=zgy hgs;first|(refine yB ?_;first|refine yC ?_)|refine yY hgs ?_;clear hgs)|(refine yN (zgn hgs) ?_;clear hgs)|((fail_if_success have:=zgy hgs);refine z_spll hgs (h1:=?_) (h2:=?_)<;>clear hgs<;>intro hg hr<;>try first|contradiction|exfalso;omega))|refine yZ ?_|refine zst ?_|refine k_blk_other rfl ?_|(refine zk ?_ ?_<;>intro hc hr<;>try first|contradiction|exfalso;omega))
      all_goals first | (refine z_ret (hv := ?_) (ho := ?_) <;> first | rfl | (simp [go_sem, *]; done) | (simp_all; done) | (simp_all; omega)) | skip
instance : Con Try.prog 50 l4Put_sat_S := con l4Put_sat Try.func50
end Go.Proofs.Try
namespace Go.Proofs.Try
open Go Go.Eng
set_option linter.unnecessarySimpa false
set_option linter.unusedSimpArgs false
set_option maxHeartbeats 4000000

def K_has_sat : Nat → List Nat := fun i => ([[1, 2], [4]] : List (List Nat)).getD i []
attribute [go_sem] K_has_sat
def has_sat_S : Eng.Spec := fun args av objs => ∃ (r z : Int) (es : List Ed) (v : Int), args = [grA r z es, aI v] ∧ av = aB (decide (0 ≤ v ∧ v ≤ w64 (z - 1))) ∧ objs = []
theorem has_sat : Sat Try.prog 45 has_sat_S := by
  refine sat_of tok okr mixed K_has_sat Try.func45 rfl (rs := [.tmp 4]) rfl Try.ntmps45 ?_
  rintro args av objs ⟨r, z, es, v, rfl, rfl, rfl⟩
  refine ⟨by show 2 ≤ 10; decide, ?_⟩
  repeat' (first|(refine ya ?_;first|(refine yb ?_;first|refine yc ?_)|refine ye ?_)|refine yz ?_|refine zst ?_|refine k_blk_other rfl ?_|(refine zk ?_ ?_<;>intro hc hr<;>try first|contradiction|exfalso;omega))
  all_goals refine z_ret (hv := ?_) (ho := ?_)
  all_goals simp
instance : Con Try.prog 45 has_sat_S := con has_sat Try.func45
def K_accepts_sat : Nat → List Nat := fun i => ([[2, 3], [4]] : List (List Nat)).getD i []
attribute [go_sem] K_accepts_sat
def accepts_sat_S : Eng.Spec := fun args av objs => ∃ (r z : Int) (es : List Ed) (a b c : Int), args = [grA r z es, .agg [.sc (.int a), .sc (.int b), .sc (.int c)]] ∧ av = aB (edOk r z (a, b, c)) ∧ objs = []
theorem accepts_sat : Sat Try.prog 38 accepts_sat_S := by
  refine sat_of tok okr mixed K_accepts_sat Try.func38 rfl (rs := [.tmp 4]) rfl Try.ntmps38 ?_
  rintro args av objs ⟨r, z, es, a, b, c, rfl, rfl, rfl⟩
  refine ⟨by show 2 ≤ 22; decide, ?_⟩
  repeat' (first|(refine ya ?_;first|(refine yb ?_;first|refine yc ?_)|refine ye ?_)|(refine yg ?_;intro hgs;first|(replace hgs:=zgy hgs;first|(refine yb ?_;first|refine yc ?_)|refine yy hgs ?_;clear hgs)|(refine yn (zgn hgs) ?_;clear hgs)|((fail_if_success have:=zgy hgs);refine z_spl hgs (h1:=?_) (h2:=?_)<;>clear hgs<;>intro hg hr<;>try first|contradiction|exfalso;omega))|refine yz ?_|refine zst ?_|refine k_blk_other rfl ?_|(refine zk ?_ ?_<;>intro hc hr<;>try first|contradiction|exfalso;omega))
  all_goals refine z_ret (hv := ?_) (ho := ?_)
  all_goals simp_all [edOk]
  all_goals intros
  all_goals omega
instance : Con Try.prog 38 accepts_sat_S := con accepts_sat Try.func38
def K_isGraph_sat : Nat → List Nat := fun i => ([[1], [1, 20], [2], [1, 22, 23, 24], [1, 22, 23, 24, 25], [1, 3, 4, 22, 23, 24], [1, 22, 23, 24, 47], [2], [1, 22, 23, 24], [2]] : List (List Nat)).getD i []
attribute [go_sem] K_isGraph_sat
def isGraph_sat_S : Eng.Spec := fun args av objs => ∃ (r z : Int) (es : List Ed), (es.length ≤ 1099511627776) ∧ args = [grA r z es] ∧ av = aB (isG r z es) ∧ objs = []
theorem isGraph_sat : Sat Try.prog 11 isGraph_sat_S := by
  refine sat_of tok okr mixed K_isGraph_sat Try.func11 rfl (rs := [.tmp 2]) rfl Try.ntmps11 ?_
  rintro args av objs ⟨r, z, es, hpre, rfl, rfl, rfl⟩
  refine ⟨by show 1 ≤ 49; decide, ?_⟩
  repeat' (first|(refine ya ?_;first|(refine yb ?_;first|refine yc ?_)|refine ye ?_)|(refine yg ?_;intro hgs;first|(replace hgs:=zgy hgs;first|(refine yb ?_;first|refine yc ?_)|refine yy hgs ?_;clear hgs)|(refine yn (zgn hgs) ?_;clear hgs)|((fail_if_success have:=zgy hgs);refine z_spl hgs (h1:=?_) (h2:=?_)<;>clear hgs<;>intro hg hr<;>try first|contradiction|exfalso;omega))|refine yt ?_|refine yz ?_|(refine yA ?_;first|(refine yB ?_;first|refine yC ?_)|refine yE ?_)|(refine yG ?_;intro hgs;first|(replace hgs:=zgy hgs;first|(refine yB ?_;first|refine yC ?_)|refine yY hgs ?_;clear hgs)|(refine yN (zgn hgs) ?_;clear hgs)|((fail_if_success have:=zgy hgs);refine z_spll hgs (h1:=?_) (h2:=?_)<;>clear hgs<;>intro hg hr<;>try first|contradiction|exfalso;omega))|refine yT ?_|refine yZ ?_|refine zst ?_|refine k_blk_other rfl ?_|(refine zk ?_ ?_<;>intro hc hr<;>try first|contradiction|exfalso;omega))
  all_goals first
    | (refine z_ret (hv := ?_) (ho := ?_) <;> first | rfl | (simp_all [isG]; done) | (simp_all [isG]; omega))
    | skip
  refine z_loop (fun i : Nat => [(24, aI i)]) (fun i : Nat => []) (fun i : Nat => i ≤ es.length ∧ okAll r z es i = true) (fun i : Nat => es.length - i) (0) (h0 := ?_) (henv := ?_) (hobj := ?_) (h := ?_)
  · exact ⟨by omega, rfl⟩
  · simp [go_sem, AVm, CVm, lookS]
  · simp [go_sem, OBm, CVm, lookS, All2]
  rintro i ⟨hi, hok⟩
  have e1 : ((i : Int) - 1).toNat = i - 1 := by omega
  repeat' (first|(refine ya ?_;first|(refine yb ?_;first|refine yc ?_)|refine ye ?_)|(refine yg ?_;intro hgs;first|(replace hgs:=zgy hgs;first|(refine yb ?_;first|refine yc ?_)|refine yy hgs ?_;clear hgs)|(refine yn (zgn hgs) ?_;clear hgs)|((fail_if_success have:=zgy hgs);refine z_spl hgs (h1:=?_) (h2:=?_)<;>clear hgs<;>intro hg hr<;>try first|contradiction|exfalso;omega))|refine yt ?_|refine yz ?_|(refine yA ?_;first|(refine yB ?_;first|refine yC ?_)|refine yE ?_)|(refine yG ?_;intro hgs;first|(replace hgs:=zgy hgs;first|(refine yB ?_;first|refine yC ?_)|refine yY hgs ?_;clear hgs)|(refine yN (zgn hgs) ?_;clear hgs)|((fail_if_success have:=zgy hgs);refine z_spll hgs (h1:=?_) (h2:=?_)<;>clear hgs<;>intro hg hr<;>try first|contradiction|exfalso;omega))|refine yT ?_|refine yZ ?_|refine zst ?_|refine k_blk_other rfl ?_|(refine zk ?_ ?_<;>intro hc hr<;>try first|contradiction|exfalso;omega))
  all_goals first
    | (exact zl (i + 1) (hj := by exact ⟨by omega, by first | (simp [okAll_succ, ok1, *]; done) | (simp [okAll_succ, ok1, *]; omega)⟩); done)
    | (have hii : i = es.length := by omega
       subst hii
       refine z_ret (hv := ?_) (ho := ?_) <;> first | rfl | (simp_all [isG]; done) | (simp_all [isG]; omega))
    | (have h1 := mt (okAll_mono (r := r) (z := z) (es := es) (n := i + 1) (m := es.length) (by omega))
       have h2 : okAll r z es (i + 1) = false := by first | (simp_all [okAll_succ, ok1]; done) | (simp_all [okAll_succ, ok1]; omega)
       have h3 : isG r z es = false := by simp [isG, h1 (by rw [h2]; simp)]
       rw [h3]
       refine z_ret (hv := ?_) (ho := ?_) <;> rfl)
    | trace_state
instance : Con Try.prog 11 isGraph_sat_S := con isGraph_sat Try.func11
end Go.Proofs.Try
