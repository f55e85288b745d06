import Derived.Test.YtoncngainbgpcaaE2
import Derived.Test.YtoncngainbgpcaaProg
import Derived.OpenShut
set_option linter.unusedVariables false
set_option linter.unusedSimpArgs false
set_option linter.unnecessarySimpa false
namespace Go.Proofs.Try
open Go Go.Eng
def tab : List (Nat × TI) := [(2, .int), (3, .int), (4, .bool), (5, .u8), (6, .u8), (7, .st [2, 3, 4, 6]), (8, .st [2, 3, 4, 6]), (9, .str), (10, .str), (11, .str), (22, .sl 44), (23, .st [3, 3, 22]), (24, .st [3, 3, 22]), (26, .sl 46), (27, .st [3, 3, 26]), (28, .st [3, 3, 26]), (29, .sl 57), (38, .sl 3), (43, .st [3, 3, 3]), (44, .st [3, 3, 3]), (46, .st [3, 3, 3]), (56, .st [3, 3]), (57, .st [3, 3]), (64, .sl 4), (87, .sl 38), (109, .int), (145, .u8), (146, .u8)]
def T : Tys := lookT tab
theorem T2 : T 2 = .int := rfl
theorem T3 : T 3 = .int := rfl
theorem T4 : T 4 = .bool := rfl
theorem T5 : T 5 = .u8 := rfl
theorem T6 : T 6 = .u8 := rfl
theorem T7 : T 7 = .st [2, 3, 4, 6] := rfl
theorem T8 : T 8 = .st [2, 3, 4, 6] := rfl
theorem T9 : T 9 = .str := rfl
theorem T10 : T 10 = .str := rfl
theorem T11 : T 11 = .str := rfl
theorem T22 : T 22 = .sl 44 := rfl
theorem T23 : T 23 = .st [3, 3, 22] := rfl
theorem T24 : T 24 = .st [3, 3, 22] := rfl
theorem T26 : T 26 = .sl 46 := rfl
theorem T27 : T 27 = .st [3, 3, 26] := rfl
theorem T28 : T 28 = .st [3, 3, 26] := rfl
theorem T29 : T 29 = .sl 57 := rfl
theorem T38 : T 38 = .sl 3 := rfl
theorem T43 : T 43 = .st [3, 3, 3] := rfl
theorem T44 : T 44 = .st [3, 3, 3] := rfl
theorem T46 : T 46 = .st [3, 3, 3] := rfl
theorem T56 : T 56 = .st [3, 3] := rfl
theorem T57 : T 57 = .st [3, 3] := rfl
theorem T64 : T 64 = .sl 4 := rfl
theorem T87 : T 87 = .sl 38 := rfl
theorem T109 : T 109 = .int := rfl
theorem T145 : T 145 = .u8 := rfl
theorem T146 : T 146 = .u8 := rfl
theorem tok : TOk Try.prog T := tok_of (fun _ => rfl) ⟨fact_int Try.underlying2 (by kernel_rfl),
  fact_int Try.underlying3 (by kernel_rfl),
  fact_bool Try.underlying4 (by kernel_rfl),
  fact_u8 Try.underlying5 (by kernel_rfl),
  fact_u8 Try.underlying6 (by kernel_rfl),
  fact_st 24 Try.underlying7 (by decide) (by decide) Try.stoodInHeld7 Try.eqGuardType7 (by decide) (by kernel_rfl),
  fact_st 24 Try.underlying8 (by decide) (by decide) Try.stoodInHeld8 Try.eqGuardType8 (by decide) (by kernel_rfl),
  fact_str Try.underlying9 (by kernel_rfl),
  fact_str Try.underlying10 (by kernel_rfl),
  fact_str Try.underlying11 (by kernel_rfl),
  fact_sl Try.underlying22 (by kernel_rfl),
  fact_st 40 Try.underlying23 (by decide) (by decide) Try.stoodInHeld23 Try.eqGuardType23 (by decide) (by kernel_rfl),
  fact_st 40 Try.underlying24 (by decide) (by decide) Try.stoodInHeld24 Try.eqGuardType24 (by decide) (by kernel_rfl),
  fact_sl Try.underlying26 (by kernel_rfl),
  fact_st 40 Try.underlying27 (by decide) (by decide) Try.stoodInHeld27 Try.eqGuardType27 (by decide) (by kernel_rfl),
  fact_st 40 Try.underlying28 (by decide) (by decide) Try.stoodInHeld28 Try.eqGuardType28 (by decide) (by kernel_rfl),
  fact_sl Try.underlying29 (by kernel_rfl),
  fact_sl Try.underlying38 (by kernel_rfl),
  fact_st 24 Try.underlying43 (by decide) (by decide) Try.stoodInHeld43 Try.eqGuardType43 (by decide) (by kernel_rfl),
  fact_st 24 Try.underlying44 (by decide) (by decide) Try.stoodInHeld44 Try.eqGuardType44 (by decide) (by kernel_rfl),
  fact_st 24 Try.underlying46 (by decide) (by decide) Try.stoodInHeld46 Try.eqGuardType46 (by decide) (by kernel_rfl),
  fact_st 16 Try.underlying56 (by decide) (by decide) Try.stoodInHeld56 Try.eqGuardType56 (by decide) (by kernel_rfl),
  fact_st 16 Try.underlying57 (by decide) (by decide) Try.stoodInHeld57 Try.eqGuardType57 (by decide) (by kernel_rfl),
  fact_sl Try.underlying64 (by kernel_rfl),
  fact_sl Try.underlying87 (by kernel_rfl),
  fact_int Try.underlying109 (by kernel_rfl),
  fact_u8 Try.underlying145 (by kernel_rfl),
  fact_u8 Try.underlying146 (by kernel_rfl), trivial⟩
theorem okr : Reck.Ok Try.prog (reck T) := reck_ok tok
theorem mixed : Try.prog.follows .mixedOrders = true := by kernel_rfl
attribute [go_sem] T2 T3 T4 T5 T6 T7 T8 T9 T10 T11 T22 T23 T24 T26 T27 T28 T29 T38 T43 T44 T46 T56 T57 T64 T87 T109 T145 T146 
end Go.Proofs.Try
namespace Go.Proofs.Try
set_option linter.unnecessarySimpa false
set_option linter.unusedSimpArgs false
set_option maxHeartbeats 2000000
open Go Go.Eng

/-! ### Edges and graphs -/
abbrev Ed := Int × Int × Int
def eds (l : List Ed) : List El := l.map fun e => [.int e.1, .int e.2.1, .int e.2.2]
def ed (l : List Ed) (i : Nat) : Ed := l.getD i (0, 0, 0)
theorem edsLen (l : List Ed) : (eds l).length = l.length := by simp [eds]
theorem edsAt {l : List Ed} {i : Nat} (h : i < l.length) : (eds l)[i]? = some [.int (ed l i).1, .int (ed l i).2.1, .int (ed l i).2.2] := by
  simp [eds, ed, h]
theorem edsSet (l : List Ed) (i : Nat) (a b c : Int) : (eds l).set i [.int a, .int b, .int c] = eds (l.set i (a, b, c)) := by simp [eds, List.map_set]
theorem edSet {l : List Ed} {i : Nat} (p : Ed) (h : i < l.length) : ed (l.set i p) i = p := by simp [ed, h]
theorem edsApp (l : List Ed) (a b c : Int) : eds l ++ [[.int a, .int b, .int c]] = eds (l ++ [(a, b, c)]) := by simp [eds]
theorem edsApps (l m : List Ed) : eds l ++ eds m = eds (l ++ m) := by simp [eds]
theorem edsNil : eds [] = [] := rfl
attribute [go_sem] edsLen edsAt edsSet edSet edsApp edsApps edsNil
theorem eds_eq {xs ys : List Ed} (hl : xs.length = ys.length) (h : ∀ j, j < xs.length → ed xs j = ed ys j) : xs = ys := by
  apply List.ext_getElem hl
  intro i h1 h2
  have := h i h1
  simpa [ed, h1, h2] using this
/-! ### Arguments by their shape -/
def rg (n : Int) : Prop := -9223372036854775808 ≤ n ∧ n ≤ 9223372036854775807
def rgE (es : List Ed) : Prop := ∀ e ∈ es, rg e.1 ∧ rg e.2.1 ∧ rg e.2.2
theorem all2_2 {α β : Type} {R : α → β → Prop} {a b : α} {l : List β} (h : All2 R [a, b] l) : ∃ x y, l = [x, y] ∧ R a x ∧ R b y := by
  match l, h with
  | [x, y], ⟨h0, h1, _⟩ => exact ⟨x, y, rfl, h0, h1⟩
theorem all2_3 {α β : Type} {R : α → β → Prop} {a b c : α} {l : List β} (h : All2 R [a, b, c] l) : ∃ x y z, l = [x, y, z] ∧ R a x ∧ R b y ∧ R c z := by
  match l, h with
  | [x, y, z], ⟨h0, h1, h2, _⟩ => exact ⟨x, y, z, rfl, h0, h1, h2⟩
theorem all2_4 {α β : Type} {R : α → β → Prop} {a b c d : α} {l : List β} (h : All2 R [a, b, c, d] l) : ∃ x y z u, l = [x, y, z, u] ∧ R a x ∧ R b y ∧ R c z ∧ R d u := by
  match l, h with
  | [x, y, z, u], ⟨h0, h1, h2, h3, _⟩ => exact ⟨x, y, z, u, rfl, h0, h1, h2, h3⟩
theorem all2_1 {α β : Type} {R : α → β → Prop} {a : α} {l : List β} (h : All2 R [a] l) : ∃ x, l = [x] ∧ R a x := by
  match l, h with
  | [x], ⟨h0, _⟩ => exact ⟨x, rfl, h0⟩
theorem maxLen_eq : maxLen = 9223372036854775807 := by decide
theorem rg_of {n : Int} (h : (Lit.int .i64 n).wf = true) : rg n := Go.bounds_i64 h
theorem shInt {t : Nat} (ht : T t = .int) {a : AV} (h : ShA T t a) : ∃ n, a = .one (.sc (.int n)) ∧ rg n := by
  simp only [ShA, ht] at h
  obtain ⟨c, rfl, h⟩ := h
  simp only [ShC, ht] at h
  obtain ⟨s, rfl, h⟩ := h
  cases s <;> first | exact ⟨_, rfl, rg_of h⟩ | exact h.elim
theorem shCInt {t : Nat} (ht : T t = .int) {c : CV} (h : ShC T t c) : ∃ n, c = .sc (.int n) ∧ rg n := by
  simp only [ShC, ht] at h
  obtain ⟨s, rfl, h⟩ := h
  cases s <;> first | exact ⟨_, rfl, rg_of h⟩ | exact h.elim
theorem shEInt {t : Nat} (ht : T t = .int) {el : El} (h : ShE T t el) : ∃ n, el = [.int n] ∧ rg n := by
  simp only [ShE, ht] at h
  obtain ⟨s, rfl, h⟩ := h
  cases s <;> first | exact ⟨_, rfl, rg_of h⟩ | exact h.elim
theorem shInts {t e : Nat} (ht : T t = .sl e) (he : T e = .int) {a : AV} (h : ShA T t a) : ∃ l : List Int, a = .one (.imm 1 (ints l)) ∧ l.length ≤ 9223372036854775807 ∧ ∀ n ∈ l, rg n := by
  simp only [ShA, ht] at h
  obtain ⟨c, rfl, h⟩ := h
  simp only [ShC, ht, he] at h
  obtain ⟨xs, rfl, hl, h⟩ := h
  have : ∃ l : List Int, xs = ints l ∧ ∀ n ∈ l, rg n := by
    clear hl
    induction xs with
    | nil => exact ⟨[], rfl, by simp⟩
    | cons x xs ih =>
      obtain ⟨l, rfl, hl⟩ := ih (fun el hel => h el (by simp [hel]))
      obtain ⟨n, rfl, hn⟩ := shEInt he (h x (by simp))
      exact ⟨n :: l, rfl, by simp [hn]; exact hl⟩
  obtain ⟨l, rfl, hr⟩ := this
  exact ⟨l, by simp [kOf, he], by rw [← intsLen l, ← maxLen_eq]; exact hl, hr⟩
theorem shEdge {t a b c : Nat} (ht : T t = .st [a, b, c]) (ha : T a = .int) (hb : T b = .int) (hc : T c = .int) {el : El} (h : ShE T t el) : ∃ e : Ed, el = [.int e.1, .int e.2.1, .int e.2.2] ∧ rg e.1 ∧ rg e.2.1 ∧ rg e.2.2 := by
  simp only [ShE, ht] at h
  match el, h with
  | [s0, s1, s2], ⟨h0, h1, h2, _⟩ =>
    simp only at h0 h1 h2
    rw [ha] at h0; rw [hb] at h1; rw [hc] at h2
    cases s0 <;> first | (exact h0.elim) | skip
    cases s1 <;> first | (exact h1.elim) | skip
    cases s2 <;> first | (exact h2.elim) | skip
    exact ⟨(_, _, _), rfl, rg_of h0, rg_of h1, rg_of h2⟩
theorem shEdges {t : Nat} (ht : T t = .st [3, 3, 3]) {xs : List El} (h : ∀ el ∈ xs, ShE T t el) : ∃ l : List Ed, xs = eds l ∧ rgE l := by
  induction xs with
  | nil => exact ⟨[], rfl, by simp [rgE]⟩
  | cons x xs ih =>
    obtain ⟨l, rfl, hl⟩ := ih (fun el hel => h el (by simp [hel]))
    obtain ⟨e, rfl, he⟩ := shEdge ht T3 T3 T3 (h x (by simp))
    refine ⟨e :: l, rfl, ?_⟩
    intro e' he'
    rcases List.mem_cons.1 he' with rfl | h'
    · exact he
    · exact hl e' h'
def edA (p : Ed) : AV := .agg [.sc (.int p.1), .sc (.int p.2.1), .sc (.int p.2.2)]
def grA (r z : Int) (es : List Ed) : AV := .agg [.sc (.int r), .sc (.int z), .imm 3 (eds es)]

theorem shGraph {a : AV} (h : ShA T 24 a) : ∃ (r z : Int) (es : List Ed), a = grA r z es ∧ es.length ≤ 9223372036854775807 ∧ rg r ∧ rg z ∧ rgE es := by
  simp only [ShA, T24] at h
  obtain ⟨cs, rfl, h⟩ := h
  obtain ⟨c0, c1, c2, rfl, h0, h1, h2⟩ := all2_3 h
  obtain ⟨r, rfl, hr⟩ := shCInt T3 h0
  obtain ⟨z, rfl, hz⟩ := shCInt T3 h1
  simp only [ShC, T22, T44] at h2
  obtain ⟨xs, rfl, hl, h2⟩ := h2
  obtain ⟨es, rfl, hes⟩ := shEdges T44 h2
  exact ⟨r, z, es, by simp [grA, kOf, T44], by rw [← edsLen es, ← maxLen_eq]; exact hl, hr, hz, hes⟩

def in_S : Eng.Spec := fun args av objs => ∃ a b c : Int, args = [AV.one (.sc (.int a)), AV.one (.sc (.int b)), AV.one (.sc (.int c))] ∧ av = AV.one (.sc (.bool (decide (b ≤ a ∧ a ≤ c)))) ∧ objs = []
def K97 : Nat → List Nat := fun i => ([[0, 1, 2], [6]] : List (List Nat)).getD i []
theorem within_sat : Sat Try.prog 97 in_S := by
  refine sat_of tok okr mixed K97 Try.func97 rfl (rs := [.tmp 6]) rfl rfl ?_
  rintro args av objs ⟨a, b, c, rfl, rfl, rfl⟩
  refine ⟨by show 3 ≤ 15; decide, ?_⟩
  repeat' (first
    | refine w_op rfl (by simp (disch := first | omega | (simp; omega)) [go_sem, Try.ntmps97, -Option.map_eq_some_iff]; rfl) ?_
    | refine l_op rfl (by simp (disch := first | omega | (simp; omega)) [go_sem, Try.ntmps97, -Option.map_eq_some_iff]; exact ⟨rfl, rfl⟩) ?_
    | refine w_end (by simp [go_sem, K97]; rfl) ?_
    | refine l_end (by kernel_rfl) (by simp [go_sem, K97]; rfl) ?_
    | refine w_yes' (by simpa [go_sem, *] using trivial) rfl (by simp (disch := first | omega | (simp; omega)) [go_sem, Try.ntmps97, -Option.map_eq_some_iff]; rfl) ?_
    | refine w_no' (by simpa [go_sem, *] using trivial) rfl rfl (by simp [go_sem, skipE]; rfl) ?_
    | refine w_op rfl (by simp (disch := first | omega | (simp; omega)) [go_sem, Try.ntmps97, -Option.map_eq_some_iff, *]; rfl) ?_
    | refine l_op' (by simpa [go_sem, *] using trivial) rfl (by simp (disch := first | omega | (simp; omega)) [go_sem, Try.ntmps97, -Option.map_eq_some_iff, *]; exact ⟨rfl, rfl⟩) ?_
    | refine l_no' (by simpa [go_sem, *] using trivial) rfl rfl (by simp [go_sem, skipE]; rfl) ?_
    | refine k_seq ?_
    | refine a_seq ?_
    | refine a_reg ?_
    | refine a_draw ?_
    | refine k_seq_exit ?_
    | refine k_seq_ret ?_
    | refine k_blk ?_
    | refine k_blk_exit ?_
    | refine k_blk_other rfl ?_
    | refine k_blk_ret ?_
    | refine k_lop_exit ?_
    | refine k_lop_ret ?_
    | refine a_skip ?_
    | refine a_ret ?_
    | refine a_exit ?_
    | refine a_block ?_
    | (refine a_cond (by simp [go_sem, *, -Bool.not_eq_eq_eq_not]; rfl) (fun hr => ?_) (fun hr => ?_) <;> (have hc := hr) <;> (try simp only [Bool.not_eq_true', Bool.not_eq_false', Bool.and_eq_true, Bool.and_eq_false_imp, Bool.or_eq_true, Bool.or_eq_false_iff, Bool.not_eq_true, Bool.not_eq_false, decide_eq_true_eq, decide_eq_false_iff_not, Int.not_lt, Int.not_le, ge_iff_le, gt_iff_lt, decide_true, decide_false, Bool.false_eq_true, reduceCtorEq, beq_iff_eq, beq_eq_false_iff_ne, ne_eq, bne_iff_ne, bne_eq_false_iff_eq, and_true, true_and, and_false, false_and] at hc) <;> (try (exfalso; omega)))
    | ((fail_if_success (refine w_same (by simpa [go_sem, *] using trivial) rfl ?_)); refine w_splv rfl (by simp [go_sem, *, -Bool.not_eq_eq_eq_not]; rfl) (fun hr => ?_) (fun hr => ?_) <;> (have hg := hr) <;> (try simp only [Bool.not_eq_true', Bool.not_eq_false', Bool.and_eq_true, Bool.and_eq_false_imp, Bool.or_eq_true, Bool.or_eq_false_iff, Bool.not_eq_true, Bool.not_eq_false, decide_eq_true_eq, decide_eq_false_iff_not, Int.not_lt, Int.not_le, ge_iff_le, gt_iff_lt, decide_true, decide_false, Bool.false_eq_true, reduceCtorEq, beq_iff_eq, beq_eq_false_iff_ne, ne_eq, bne_iff_ne, bne_eq_false_iff_eq, and_true, true_and, and_false, false_and] at hg) <;> (try (exfalso; omega)))
    | ((fail_if_success (refine l_same (by simpa [go_sem, *] using trivial) rfl ?_)); refine l_splv rfl (by simp [go_sem, *, -Bool.not_eq_eq_eq_not]; rfl) (fun hr => ?_) (fun hr => ?_) <;> (have hg := hr) <;> (try simp only [Bool.not_eq_true', Bool.not_eq_false', Bool.and_eq_true, Bool.and_eq_false_imp, Bool.or_eq_true, Bool.or_eq_false_iff, Bool.not_eq_true, Bool.not_eq_false, decide_eq_true_eq, decide_eq_false_iff_not, Int.not_lt, Int.not_le, ge_iff_le, gt_iff_lt, decide_true, decide_false, Bool.false_eq_true, reduceCtorEq, beq_iff_eq, beq_eq_false_iff_ne, ne_eq, bne_iff_ne, bne_eq_false_iff_eq, and_true, true_and, and_false, false_and] at hg) <;> (try (exfalso; omega))))
  all_goals refine k_ret (by simp [go_sem]; first | exact ⟨rfl, rfl⟩ | rfl) ?_ rfl
  all_goals simp_all
  all_goals omega
def K92 : Nat → List Nat := fun i => ([[0, 1, 2], [6]] : List (List Nat)).getD i []
theorem l1In_sat : Sat Try.prog 92 in_S := by
  refine sat_of tok okr mixed K92 Try.func92 rfl (rs := [.tmp 6]) rfl rfl ?_
  rintro args av objs ⟨a, b, c, rfl, rfl, rfl⟩
  refine ⟨by show 3 ≤ 15; decide, ?_⟩
  repeat' (first
    | refine w_op rfl (by simp (disch := first | omega | (simp; omega)) [go_sem, Try.ntmps92, -Option.map_eq_some_iff]; rfl) ?_
    | refine l_op rfl (by simp (disch := first | omega | (simp; omega)) [go_sem, Try.ntmps92, -Option.map_eq_some_iff]; exact ⟨rfl, rfl⟩) ?_
    | refine w_end (by simp [go_sem, K92]; rfl) ?_
    | refine l_end (by kernel_rfl) (by simp [go_sem, K92]; rfl) ?_
    | refine w_yes' (by simpa [go_sem, *] using trivial) rfl (by simp (disch := first | omega | (simp; omega)) [go_sem, Try.ntmps92, -Option.map_eq_some_iff]; rfl) ?_
    | refine w_no' (by simpa [go_sem, *] using trivial) rfl rfl (by simp [go_sem, skipE]; rfl) ?_
    | refine w_op rfl (by simp (disch := first | omega | (simp; omega)) [go_sem, Try.ntmps92, -Option.map_eq_some_iff, *]; rfl) ?_
    | refine l_op' (by simpa [go_sem, *] using trivial) rfl (by simp (disch := first | omega | (simp; omega)) [go_sem, Try.ntmps92, -Option.map_eq_some_iff, *]; exact ⟨rfl, rfl⟩) ?_
    | refine l_no' (by simpa [go_sem, *] using trivial) rfl rfl (by simp [go_sem, skipE]; rfl) ?_
    | refine k_seq ?_
    | refine a_seq ?_
    | refine a_reg ?_
    | refine a_draw ?_
    | refine k_seq_exit ?_
    | refine k_seq_ret ?_
    | refine k_blk ?_
    | refine k_blk_exit ?_
    | refine k_blk_other rfl ?_
    | refine k_blk_ret ?_
    | refine k_lop_exit ?_
    | refine k_lop_ret ?_
    | refine a_skip ?_
    | refine a_ret ?_
    | refine a_exit ?_
    | refine a_block ?_
    | (refine a_cond (by simp [go_sem, *, -Bool.not_eq_eq_eq_not]; rfl) (fun hr => ?_) (fun hr => ?_) <;> (have hc := hr) <;> (try simp only [Bool.not_eq_true', Bool.not_eq_false', Bool.and_eq_true, Bool.and_eq_false_imp, Bool.or_eq_true, Bool.or_eq_false_iff, Bool.not_eq_true, Bool.not_eq_false, decide_eq_true_eq, decide_eq_false_iff_not, Int.not_lt, Int.not_le, ge_iff_le, gt_iff_lt, decide_true, decide_false, Bool.false_eq_true, reduceCtorEq, beq_iff_eq, beq_eq_false_iff_ne, ne_eq, bne_iff_ne, bne_eq_false_iff_eq, and_true, true_and, and_false, false_and] at hc) <;> (try (exfalso; omega)))
    | ((fail_if_success (refine w_same (by simpa [go_sem, *] using trivial) rfl ?_)); refine w_splv rfl (by simp [go_sem, *, -Bool.not_eq_eq_eq_not]; rfl) (fun hr => ?_) (fun hr => ?_) <;> (have hg := hr) <;> (try simp only [Bool.not_eq_true', Bool.not_eq_false', Bool.and_eq_true, Bool.and_eq_false_imp, Bool.or_eq_true, Bool.or_eq_false_iff, Bool.not_eq_true, Bool.not_eq_false, decide_eq_true_eq, decide_eq_false_iff_not, Int.not_lt, Int.not_le, ge_iff_le, gt_iff_lt, decide_true, decide_false, Bool.false_eq_true, reduceCtorEq, beq_iff_eq, beq_eq_false_iff_ne, ne_eq, bne_iff_ne, bne_eq_false_iff_eq, and_true, true_and, and_false, false_and] at hg) <;> (try (exfalso; omega)))
    | ((fail_if_success (refine l_same (by simpa [go_sem, *] using trivial) rfl ?_)); refine l_splv rfl (by simp [go_sem, *, -Bool.not_eq_eq_eq_not]; rfl) (fun hr => ?_) (fun hr => ?_) <;> (have hg := hr) <;> (try simp only [Bool.not_eq_true', Bool.not_eq_false', Bool.and_eq_true, Bool.and_eq_false_imp, Bool.or_eq_true, Bool.or_eq_false_iff, Bool.not_eq_true, Bool.not_eq_false, decide_eq_true_eq, decide_eq_false_iff_not, Int.not_lt, Int.not_le, ge_iff_le, gt_iff_lt, decide_true, decide_false, Bool.false_eq_true, reduceCtorEq, beq_iff_eq, beq_eq_false_iff_ne, ne_eq, bne_iff_ne, bne_eq_false_iff_eq, and_true, true_and, and_false, false_and] at hg) <;> (try (exfalso; omega))))
  all_goals refine k_ret (by simp [go_sem]; first | exact ⟨rfl, rfl⟩ | rfl) ?_ rfl
  all_goals simp_all
  all_goals omega

/-! ### Equality -/
def eqEdge_S : Eng.Spec := fun args av objs => ∃ p q : Ed, args = [edA p, edA q] ∧ av = AV.one (.sc (.bool (decide (p = q)))) ∧ objs = []
def K79 : Nat → List Nat := fun i => ([[2, 3], [2, 3, 9], [4], [2, 3, 14], [4], [19], [4], [4]] : List (List Nat)).getD i []
theorem eqEdge_sat : Sat Try.prog 79 eqEdge_S := by
  refine sat_of tok okr mixed K79 Try.func79 rfl (rs := [.tmp 4]) rfl rfl ?_
  rintro args av objs ⟨p, q, rfl, rfl, rfl⟩
  refine ⟨by show 2 ≤ 20; decide, ?_⟩
  repeat' (first
    | refine w_op rfl (by simp (disch := first | omega | (simp; omega)) [go_sem, edA, Try.ntmps79, -Option.map_eq_some_iff]; rfl) ?_
    | refine l_op rfl (by simp (disch := first | omega | (simp; omega)) [go_sem, edA, Try.ntmps79, -Option.map_eq_some_iff]; exact ⟨rfl, rfl⟩) ?_
    | refine w_end (by simp [go_sem, K79]; rfl) ?_
    | refine l_end (by kernel_rfl) (by simp [go_sem, K79]; rfl) ?_
    | refine w_yes' (by simpa [go_sem, *] using trivial) rfl (by simp (disch := first | omega | (simp; omega)) [go_sem, edA, Try.ntmps79, -Option.map_eq_some_iff]; rfl) ?_
    | refine w_no' (by simpa [go_sem, *] using trivial) rfl rfl (by simp [go_sem, skipE]; rfl) ?_
    | refine w_op rfl (by simp (disch := first | omega | (simp; omega)) [go_sem, edA, Try.ntmps79, -Option.map_eq_some_iff, *]; rfl) ?_
    | refine l_op' (by simpa [go_sem, *] using trivial) rfl (by simp (disch := first | omega | (simp; omega)) [go_sem, edA, Try.ntmps79, -Option.map_eq_some_iff, *]; exact ⟨rfl, rfl⟩) ?_
    | refine l_no' (by simpa [go_sem, *] using trivial) rfl rfl (by simp [go_sem, skipE]; rfl) ?_
    | refine k_seq ?_
    | refine a_seq ?_
    | refine a_reg ?_
    | refine a_draw ?_
    | refine k_seq_exit ?_
    | refine k_seq_ret ?_
    | refine k_blk ?_
    | refine k_blk_exit ?_
    | refine k_blk_other rfl ?_
    | refine k_blk_ret ?_
    | refine k_lop_exit ?_
    | refine k_lop_ret ?_
    | refine a_skip ?_
    | refine a_ret ?_
    | refine a_exit ?_
    | refine a_block ?_
    | (refine a_cond (by simp [go_sem, *, -Bool.not_eq_eq_eq_not]; rfl) (fun hr => ?_) (fun hr => ?_) <;> (have hc := hr) <;> (try simp only [Bool.not_eq_true', Bool.not_eq_false', Bool.and_eq_true, Bool.and_eq_false_imp, Bool.or_eq_true, Bool.or_eq_false_iff, Bool.not_eq_true, Bool.not_eq_false, decide_eq_true_eq, decide_eq_false_iff_not, Int.not_lt, Int.not_le, ge_iff_le, gt_iff_lt, decide_true, decide_false, Bool.false_eq_true, reduceCtorEq, beq_iff_eq, beq_eq_false_iff_ne, ne_eq, bne_iff_ne, bne_eq_false_iff_eq, and_true, true_and, and_false, false_and] at hc) <;> (try (exfalso; omega)))
    | ((fail_if_success (refine w_same (by simpa [go_sem, *] using trivial) rfl ?_)); refine w_splv rfl (by simp [go_sem, *, -Bool.not_eq_eq_eq_not]; rfl) (fun hr => ?_) (fun hr => ?_) <;> (have hg := hr) <;> (try simp only [Bool.not_eq_true', Bool.not_eq_false', Bool.and_eq_true, Bool.and_eq_false_imp, Bool.or_eq_true, Bool.or_eq_false_iff, Bool.not_eq_true, Bool.not_eq_false, decide_eq_true_eq, decide_eq_false_iff_not, Int.not_lt, Int.not_le, ge_iff_le, gt_iff_lt, decide_true, decide_false, Bool.false_eq_true, reduceCtorEq, beq_iff_eq, beq_eq_false_iff_ne, ne_eq, bne_iff_ne, bne_eq_false_iff_eq, and_true, true_and, and_false, false_and] at hg) <;> (try (exfalso; omega)))
    | ((fail_if_success (refine l_same (by simpa [go_sem, *] using trivial) rfl ?_)); refine l_splv rfl (by simp [go_sem, *, -Bool.not_eq_eq_eq_not]; rfl) (fun hr => ?_) (fun hr => ?_) <;> (have hg := hr) <;> (try simp only [Bool.not_eq_true', Bool.not_eq_false', Bool.and_eq_true, Bool.and_eq_false_imp, Bool.or_eq_true, Bool.or_eq_false_iff, Bool.not_eq_true, Bool.not_eq_false, decide_eq_true_eq, decide_eq_false_iff_not, Int.not_lt, Int.not_le, ge_iff_le, gt_iff_lt, decide_true, decide_false, Bool.false_eq_true, reduceCtorEq, beq_iff_eq, beq_eq_false_iff_ne, ne_eq, bne_iff_ne, bne_eq_false_iff_eq, and_true, true_and, and_false, false_and] at hg) <;> (try (exfalso; omega))))
  all_goals refine k_ret (by simp [go_sem]; first | exact ⟨rfl, rfl⟩ | rfl) ?_ rfl
  all_goals simp_all [Prod.ext_iff]
def K35 : Nat → List Nat := fun i => ([[0, 1], [0, 1, 10], [4], [0, 1, 5], [0, 1, 5, 14], [0, 1, 5], [0, 1, 5, 26], [4], [4]] : List (List Nat)).getD i []
def eqEdgeS_S : Eng.Spec := fun args av objs => ∃ xs ys : List Ed, xs.length ≤ 1099511627776 ∧ args = [AV.one (.imm 3 (eds xs)), AV.one (.imm 3 (eds ys))] ∧ av = AV.one (.sc (.bool (decide (xs = ys)))) ∧ objs = []
theorem eqEdgeS_sat : Sat Try.prog 35 eqEdgeS_S := by
  refine sat_of tok okr mixed K35 Try.func35 rfl (rs := [.tmp 4]) rfl rfl ?_
  rintro args av objs ⟨xs, ys, hx, rfl, rfl, rfl⟩
  refine ⟨by show 2 ≤ 27; decide, ?_⟩
  repeat' (first
    | refine w_op rfl (by simp (disch := first | omega | (simp; omega)) [go_sem, Try.ntmps35, -Option.map_eq_some_iff]; rfl) ?_
    | refine l_op rfl (by simp (disch := first | omega | (simp; omega)) [go_sem, Try.ntmps35, -Option.map_eq_some_iff]; exact ⟨rfl, rfl⟩) ?_
    | refine w_end (by simp [go_sem, K35]; rfl) ?_
    | refine l_end (by kernel_rfl) (by simp [go_sem, K35]; rfl) ?_
    | refine w_yes' (by simpa [go_sem, *] using trivial) rfl (by simp (disch := first | omega | (simp; omega)) [go_sem, Try.ntmps35, -Option.map_eq_some_iff]; rfl) ?_
    | refine w_no' (by simpa [go_sem, *] using trivial) rfl rfl (by simp [go_sem, skipE]; rfl) ?_
    | refine w_op rfl (by simp (disch := first | omega | (simp; omega)) [go_sem, Try.ntmps35, -Option.map_eq_some_iff, *]; rfl) ?_
    | refine l_op' (by simpa [go_sem, *] using trivial) rfl (by simp (disch := first | omega | (simp; omega)) [go_sem, Try.ntmps35, -Option.map_eq_some_iff, *]; exact ⟨rfl, rfl⟩) ?_
    | refine l_no' (by simpa [go_sem, *] using trivial) rfl rfl (by simp [go_sem, skipE]; rfl) ?_
    | refine k_seq ?_
    | refine a_seq ?_
    | refine a_reg ?_
    | refine a_draw ?_
    | refine k_seq_exit ?_
    | refine k_seq_ret ?_
    | refine k_blk ?_
    | refine k_blk_exit ?_
    | refine k_blk_other rfl ?_
    | refine k_blk_ret ?_
    | refine k_lop_exit ?_
    | refine k_lop_ret ?_
    | refine a_skip ?_
    | refine a_ret ?_
    | refine a_exit ?_
    | refine a_block ?_
    | (refine a_cond (by simp [go_sem, *, -Bool.not_eq_eq_eq_not]; rfl) (fun hr => ?_) (fun hr => ?_) <;> (have hc := hr) <;> (try simp only [Bool.not_eq_true', Bool.not_eq_false', Bool.and_eq_true, Bool.and_eq_false_imp, Bool.or_eq_true, Bool.or_eq_false_iff, Bool.not_eq_true, Bool.not_eq_false, decide_eq_true_eq, decide_eq_false_iff_not, Int.not_lt, Int.not_le, ge_iff_le, gt_iff_lt, decide_true, decide_false, Bool.false_eq_true, reduceCtorEq, beq_iff_eq, beq_eq_false_iff_ne, ne_eq, bne_iff_ne, bne_eq_false_iff_eq, and_true, true_and, and_false, false_and] at hc) <;> (try (exfalso; omega)))
    | ((fail_if_success (refine w_same (by simpa [go_sem, *] using trivial) rfl ?_)); refine w_splv rfl (by simp [go_sem, *, -Bool.not_eq_eq_eq_not]; rfl) (fun hr => ?_) (fun hr => ?_) <;> (have hg := hr) <;> (try simp only [Bool.not_eq_true', Bool.not_eq_false', Bool.and_eq_true, Bool.and_eq_false_imp, Bool.or_eq_true, Bool.or_eq_false_iff, Bool.not_eq_true, Bool.not_eq_false, decide_eq_true_eq, decide_eq_false_iff_not, Int.not_lt, Int.not_le, ge_iff_le, gt_iff_lt, decide_true, decide_false, Bool.false_eq_true, reduceCtorEq, beq_iff_eq, beq_eq_false_iff_ne, ne_eq, bne_iff_ne, bne_eq_false_iff_eq, and_true, true_and, and_false, false_and] at hg) <;> (try (exfalso; omega)))
    | ((fail_if_success (refine l_same (by simpa [go_sem, *] using trivial) rfl ?_)); refine l_splv rfl (by simp [go_sem, *, -Bool.not_eq_eq_eq_not]; rfl) (fun hr => ?_) (fun hr => ?_) <;> (have hg := hr) <;> (try simp only [Bool.not_eq_true', Bool.not_eq_false', Bool.and_eq_true, Bool.and_eq_false_imp, Bool.or_eq_true, Bool.or_eq_false_iff, Bool.not_eq_true, Bool.not_eq_false, decide_eq_true_eq, decide_eq_false_iff_not, Int.not_lt, Int.not_le, ge_iff_le, gt_iff_lt, decide_true, decide_false, Bool.false_eq_true, reduceCtorEq, beq_iff_eq, beq_eq_false_iff_ne, ne_eq, bne_iff_ne, bne_eq_false_iff_eq, and_true, true_and, and_false, false_and] at hg) <;> (try (exfalso; omega))))
  · refine k_ret (by simp [go_sem]; first | exact ⟨rfl, rfl⟩ | rfl) ?_ rfl
    have : ¬ xs = ys := by rintro rfl; simp at hc
    simp [this]
  · have hl : xs.length = ys.length := by omega
    refine a_loop (fun i : Nat => ⟨27, [(0, AV.one (.imm 3 (eds xs))), (1, AV.one (.imm 3 (eds ys))), (5, AV.one (.sc (.int i)))], [], []⟩) (fun i => i ≤ xs.length ∧ ∀ j, j < i → ed xs j = ed ys j) (fun i => xs.length - i) 0 ⟨by omega, fun j hj => by omega⟩ (Weak.refl _) ?_
    rintro i ⟨hi, hall⟩
    repeat' (first
    | refine w_op rfl (by simp (disch := first | omega | (simp; omega)) [go_sem, Try.ntmps35, -Option.map_eq_some_iff]; rfl) ?_
    | refine l_op rfl (by simp (disch := first | omega | (simp; omega)) [go_sem, Try.ntmps35, -Option.map_eq_some_iff]; exact ⟨rfl, rfl⟩) ?_
    | refine w_end (by simp [go_sem, K35]; rfl) ?_
    | refine l_end (by kernel_rfl) (by simp [go_sem, K35]; rfl) ?_
    | refine w_fn eqEdge_sat rfl Try.func79 rfl rfl (by first | rfl | (simpa [go_sem, *] using trivial)) rfl rfl (by simp [go_sem]; exact ⟨rfl, rfl⟩) (by exact ⟨ed xs i, ed ys i, rfl, rfl, rfl⟩) (by rfl) (by rfl) (by rfl) (by simp [go_sem]; rfl) ?_
    | refine l_fn eqEdge_sat rfl Try.func79 rfl rfl (by first | rfl | (simpa [go_sem, *] using trivial)) rfl rfl (by simp [go_sem]; exact ⟨rfl, rfl⟩) (by exact ⟨ed xs i, ed ys i, rfl, rfl, rfl⟩) (by rfl) (by rfl) (by rfl) (by simp [go_sem]; rfl) ?_
    | refine w_yes' (by simpa [go_sem, *] using trivial) rfl (by simp (disch := first | omega | (simp; omega)) [go_sem, Try.ntmps35, -Option.map_eq_some_iff]; rfl) ?_
    | refine w_no' (by simpa [go_sem, *] using trivial) rfl rfl (by simp [go_sem, skipE]; rfl) ?_
    | refine w_op rfl (by simp (disch := first | omega | (simp; omega)) [go_sem, Try.ntmps35, -Option.map_eq_some_iff, *]; rfl) ?_
    | refine l_op' (by simpa [go_sem, *] using trivial) rfl (by simp (disch := first | omega | (simp; omega)) [go_sem, Try.ntmps35, -Option.map_eq_some_iff, *]; exact ⟨rfl, rfl⟩) ?_
    | refine l_no' (by simpa [go_sem, *] using trivial) rfl rfl (by simp [go_sem, skipE]; rfl) ?_
    | refine k_seq ?_
    | refine a_seq ?_
    | refine a_reg ?_
    | refine a_draw ?_
    | refine k_seq_exit ?_
    | refine k_seq_ret ?_
    | refine k_blk ?_
    | refine k_blk_exit ?_
    | refine k_blk_other rfl ?_
    | refine k_blk_ret ?_
    | refine k_lop_exit ?_
    | refine k_lop_ret ?_
    | refine a_skip ?_
    | refine a_ret ?_
    | refine a_exit ?_
    | refine a_block ?_
    | (refine a_cond (by simp [go_sem, *, -Bool.not_eq_eq_eq_not]; rfl) (fun hr => ?_) (fun hr => ?_) <;> (have hc := hr) <;> (try simp only [Bool.not_eq_true', Bool.not_eq_false', Bool.and_eq_true, Bool.and_eq_false_imp, Bool.or_eq_true, Bool.or_eq_false_iff, Bool.not_eq_true, Bool.not_eq_false, decide_eq_true_eq, decide_eq_false_iff_not, Int.not_lt, Int.not_le, ge_iff_le, gt_iff_lt, decide_true, decide_false, Bool.false_eq_true, reduceCtorEq, beq_iff_eq, beq_eq_false_iff_ne, ne_eq, bne_iff_ne, bne_eq_false_iff_eq, and_true, true_and, and_false, false_and] at hc) <;> (try (exfalso; omega)))
    | ((fail_if_success (refine w_same (by simpa [go_sem, *] using trivial) rfl ?_)); refine w_splv rfl (by simp [go_sem, *, -Bool.not_eq_eq_eq_not]; rfl) (fun hr => ?_) (fun hr => ?_) <;> (have hg := hr) <;> (try simp only [Bool.not_eq_true', Bool.not_eq_false', Bool.and_eq_true, Bool.and_eq_false_imp, Bool.or_eq_true, Bool.or_eq_false_iff, Bool.not_eq_true, Bool.not_eq_false, decide_eq_true_eq, decide_eq_false_iff_not, Int.not_lt, Int.not_le, ge_iff_le, gt_iff_lt, decide_true, decide_false, Bool.false_eq_true, reduceCtorEq, beq_iff_eq, beq_eq_false_iff_ne, ne_eq, bne_iff_ne, bne_eq_false_iff_eq, and_true, true_and, and_false, false_and] at hg) <;> (try (exfalso; omega)))
    | ((fail_if_success (refine l_same (by simpa [go_sem, *] using trivial) rfl ?_)); refine l_splv rfl (by simp [go_sem, *, -Bool.not_eq_eq_eq_not]; rfl) (fun hr => ?_) (fun hr => ?_) <;> (have hg := hr) <;> (try simp only [Bool.not_eq_true', Bool.not_eq_false', Bool.and_eq_true, Bool.and_eq_false_imp, Bool.or_eq_true, Bool.or_eq_false_iff, Bool.not_eq_true, Bool.not_eq_false, decide_eq_true_eq, decide_eq_false_iff_not, Int.not_lt, Int.not_le, ge_iff_le, gt_iff_lt, decide_true, decide_false, Bool.false_eq_true, reduceCtorEq, beq_iff_eq, beq_eq_false_iff_ne, ne_eq, bne_iff_ne, bne_eq_false_iff_eq, and_true, true_and, and_false, false_and] at hg) <;> (try (exfalso; omega))))
    · refine k_ret (by simp [go_sem]; first | exact ⟨rfl, rfl⟩ | rfl) ?_ rfl
      have : ¬ xs = ys := by rintro rfl; simp at hc
      simp [this]
    · refine k_lop (i + 1) ⟨by omega, fun j hj => ?_⟩ (by omega) (Weak.refl _)
      rcases Nat.lt_or_ge j i with h | h
      · exact hall j h
      · have : j = i := by omega
        subst this; simp_all
    · refine k_ret (by simp [go_sem]; first | exact ⟨rfl, rfl⟩ | rfl) ?_ rfl
      have := eds_eq hl (fun j hj => hall j (by omega))
      simp [this]
def K19 : Nat → List Nat := fun i => ([[2, 3], [2, 3, 9], [4], [2, 3, 14], [4], [20], [4], [4]] : List (List Nat)).getD i []
def eqGraph_S : Eng.Spec := fun args av objs => ∃ (r z : Int) (es : List Ed) (r' z' : Int) (es' : List Ed), es.length ≤ 1099511627776 ∧ args = [grA r z es, grA r' z' es'] ∧ av = AV.one (.sc (.bool (decide (r = r' ∧ z = z' ∧ es = es')))) ∧ objs = []
theorem eqGraph_sat : Sat Try.prog 19 eqGraph_S := by
  refine sat_of tok okr mixed K19 Try.func19 rfl (rs := [.tmp 4]) rfl rfl ?_
  rintro args av objs ⟨r, z, es, r', z', es', hl, rfl, rfl, rfl⟩
  refine ⟨by show 2 ≤ 21; decide, ?_⟩
  repeat' (first
    | refine w_op rfl (by simp (disch := first | omega | (simp; omega)) [go_sem, grA, Try.ntmps19, -Option.map_eq_some_iff]; rfl) ?_
    | refine l_op rfl (by simp (disch := first | omega | (simp; omega)) [go_sem, grA, Try.ntmps19, -Option.map_eq_some_iff]; exact ⟨rfl, rfl⟩) ?_
    | refine w_end (by simp [go_sem, K19]; rfl) ?_
    | refine l_end (by kernel_rfl) (by simp [go_sem, K19]; rfl) ?_
    | refine w_fn eqEdgeS_sat rfl Try.func35 rfl rfl (by first | rfl | (simpa [go_sem, *] using trivial)) rfl rfl (by simp [go_sem]; exact ⟨rfl, rfl⟩) (by exact ⟨es, es', hl, rfl, rfl, rfl⟩) (by rfl) (by rfl) (by rfl) (by simp [go_sem]; rfl) ?_
    | refine l_fn eqEdgeS_sat rfl Try.func35 rfl rfl (by first | rfl | (simpa [go_sem, *] using trivial)) rfl rfl (by simp [go_sem]; exact ⟨rfl, rfl⟩) (by exact ⟨es, es', hl, rfl, rfl, rfl⟩) (by rfl) (by rfl) (by rfl) (by simp [go_sem]; rfl) ?_
    | refine w_yes' (by simpa [go_sem, *] using trivial) rfl (by simp (disch := first | omega | (simp; omega)) [go_sem, grA, Try.ntmps19, -Option.map_eq_some_iff]; rfl) ?_
    | refine w_no' (by simpa [go_sem, *] using trivial) rfl rfl (by simp [go_sem, skipE]; rfl) ?_
    | refine w_op rfl (by simp (disch := first | omega | (simp; omega)) [go_sem, grA, Try.ntmps19, -Option.map_eq_some_iff, *]; rfl) ?_
    | refine l_op' (by simpa [go_sem, *] using trivial) rfl (by simp (disch := first | omega | (simp; omega)) [go_sem, grA, Try.ntmps19, -Option.map_eq_some_iff, *]; exact ⟨rfl, rfl⟩) ?_
    | refine l_no' (by simpa [go_sem, *] using trivial) rfl rfl (by simp [go_sem, skipE]; rfl) ?_
    | refine k_seq ?_
    | refine a_seq ?_
    | refine a_reg ?_
    | refine a_draw ?_
    | refine k_seq_exit ?_
    | refine k_seq_ret ?_
    | refine k_blk ?_
    | refine k_blk_exit ?_
    | refine k_blk_other rfl ?_
    | refine k_blk_ret ?_
    | refine k_lop_exit ?_
    | refine k_lop_ret ?_
    | refine a_skip ?_
    | refine a_ret ?_
    | refine a_exit ?_
    | refine a_block ?_
    | (refine a_cond (by simp [go_sem, *, -Bool.not_eq_eq_eq_not]; rfl) (fun hr => ?_) (fun hr => ?_) <;> (have hc := hr) <;> (try simp only [Bool.not_eq_true', Bool.not_eq_false', Bool.and_eq_true, Bool.and_eq_false_imp, Bool.or_eq_true, Bool.or_eq_false_iff, Bool.not_eq_true, Bool.not_eq_false, decide_eq_true_eq, decide_eq_false_iff_not, Int.not_lt, Int.not_le, ge_iff_le, gt_iff_lt, decide_true, decide_false, Bool.false_eq_true, reduceCtorEq, beq_iff_eq, beq_eq_false_iff_ne, ne_eq, bne_iff_ne, bne_eq_false_iff_eq, and_true, true_and, and_false, false_and] at hc) <;> (try (exfalso; omega)))
    | ((fail_if_success (refine w_same (by simpa [go_sem, *] using trivial) rfl ?_)); refine w_splv rfl (by simp [go_sem, *, -Bool.not_eq_eq_eq_not]; rfl) (fun hr => ?_) (fun hr => ?_) <;> (have hg := hr) <;> (try simp only [Bool.not_eq_true', Bool.not_eq_false', Bool.and_eq_true, Bool.and_eq_false_imp, Bool.or_eq_true, Bool.or_eq_false_iff, Bool.not_eq_true, Bool.not_eq_false, decide_eq_true_eq, decide_eq_false_iff_not, Int.not_lt, Int.not_le, ge_iff_le, gt_iff_lt, decide_true, decide_false, Bool.false_eq_true, reduceCtorEq, beq_iff_eq, beq_eq_false_iff_ne, ne_eq, bne_iff_ne, bne_eq_false_iff_eq, and_true, true_and, and_false, false_and] at hg) <;> (try (exfalso; omega)))
    | ((fail_if_success (refine l_same (by simpa [go_sem, *] using trivial) rfl ?_)); refine l_splv rfl (by simp [go_sem, *, -Bool.not_eq_eq_eq_not]; rfl) (fun hr => ?_) (fun hr => ?_) <;> (have hg := hr) <;> (try simp only [Bool.not_eq_true', Bool.not_eq_false', Bool.and_eq_true, Bool.and_eq_false_imp, Bool.or_eq_true, Bool.or_eq_false_iff, Bool.not_eq_true, Bool.not_eq_false, decide_eq_true_eq, decide_eq_false_iff_not, Int.not_lt, Int.not_le, ge_iff_le, gt_iff_lt, decide_true, decide_false, Bool.false_eq_true, reduceCtorEq, beq_iff_eq, beq_eq_false_iff_ne, ne_eq, bne_iff_ne, bne_eq_false_iff_eq, and_true, true_and, and_false, false_and] at hg) <;> (try (exfalso; omega))))
  all_goals refine k_ret (by simp [go_sem]; first | exact ⟨rfl, rfl⟩ | rfl) ?_ rfl
  all_goals simp_all

/-! ### Copies of the laws -/
def zEd (n : Nat) : List Ed := List.replicate n (0, 0, 0)
theorem zEd_eq (n : Nat) : List.replicate n [Sc.int 0, Sc.int 0, Sc.int 0] = eds (zEd n) := by simp [eds, zEd]
def cpE (es : List Ed) (i : Nat) : List Ed := es.take i ++ zEd (es.length - i)
theorem cpE_len {es : List Ed} {i : Nat} (h : i ≤ es.length) : (cpE es i).length = es.length := by simp [cpE, zEd]; omega
theorem cpE_0 (es : List Ed) : cpE es 0 = zEd es.length := by simp [cpE]
theorem cpE_all (es : List Ed) : cpE es es.length = es := by simp [cpE, zEd]
theorem cpE_set {es : List Ed} {i : Nat} (h : i < es.length) : (cpE es i).set i (ed es i) = cpE es (i + 1) := by
  have e1 : zEd (es.length - i) = (0, 0, 0) :: zEd (es.length - (i + 1)) := by
    have : es.length - i = (es.length - (i + 1)) + 1 := by omega
    rw [this]; rfl
  have e2 : es.take (i + 1) = es.take i ++ [ed es i] := by
    rw [List.take_add_one]; simp [ed, h]
  unfold cpE
  rw [e1, e2, List.set_append_right _ _ (by rw [List.length_take]; omega)]
  have e3 : i - (List.take i es).length = 0 := by rw [List.length_take]; omega
  rw [e3]
  simp
def K31 : Nat → List Nat := fun i => ([[1, 2], [1, 2, 3], [1, 2, 3], [1, 2, 3], [2, 3], [2]] : List (List Nat)).getD i []
def toEdge_S : Eng.Spec := fun args av objs => ∃ p : Ed, args = [edA p] ∧ av = edA p ∧ objs = []
theorem toEdge_sat : Sat Try.prog 31 toEdge_S := by
  refine sat_of tok okr mixed K31 Try.func31 rfl (rs := [.cell 2 46]) rfl rfl ?_
  rintro args av objs ⟨p, rfl, rfl, rfl⟩
  refine ⟨by show 1 ≤ 14; decide, ?_⟩
  repeat' (first
    | refine w_op rfl (by simp (disch := first | omega | (simp; omega)) [go_sem, edA, Try.ntmps31, -Option.map_eq_some_iff]; rfl) ?_
    | refine l_op rfl (by simp (disch := first | omega | (simp; omega)) [go_sem, edA, Try.ntmps31, -Option.map_eq_some_iff]; exact ⟨rfl, rfl⟩) ?_
    | refine w_end (by simp [go_sem, K31]; rfl) ?_
    | refine l_end (by kernel_rfl) (by simp [go_sem, K31]; rfl) ?_
    | refine w_yes' (by simpa [go_sem, *] using trivial) rfl (by simp (disch := first | omega | (simp; omega)) [go_sem, edA, Try.ntmps31, -Option.map_eq_some_iff]; rfl) ?_
    | refine w_no' (by simpa [go_sem, *] using trivial) rfl rfl (by simp [go_sem, skipE]; rfl) ?_
    | refine w_op rfl (by simp (disch := first | omega | (simp; omega)) [go_sem, edA, Try.ntmps31, -Option.map_eq_some_iff, *]; rfl) ?_
    | refine l_op' (by simpa [go_sem, *] using trivial) rfl (by simp (disch := first | omega | (simp; omega)) [go_sem, edA, Try.ntmps31, -Option.map_eq_some_iff, *]; exact ⟨rfl, rfl⟩) ?_
    | refine l_no' (by simpa [go_sem, *] using trivial) rfl rfl (by simp [go_sem, skipE]; rfl) ?_
    | refine k_seq ?_
    | refine a_seq ?_
    | refine a_reg ?_
    | refine a_draw ?_
    | refine k_seq_exit ?_
    | refine k_seq_ret ?_
    | refine k_blk ?_
    | refine k_blk_exit ?_
    | refine k_blk_other rfl ?_
    | refine k_blk_ret ?_
    | refine k_lop_exit ?_
    | refine k_lop_ret ?_
    | refine a_skip ?_
    | refine a_ret ?_
    | refine a_exit ?_
    | refine a_block ?_
    | (refine a_cond (by simp [go_sem, *, -Bool.not_eq_eq_eq_not]; rfl) (fun hr => ?_) (fun hr => ?_) <;> (have hc := hr) <;> (try simp only [Bool.not_eq_true', Bool.not_eq_false', Bool.and_eq_true, Bool.and_eq_false_imp, Bool.or_eq_true, Bool.or_eq_false_iff, Bool.not_eq_true, Bool.not_eq_false, decide_eq_true_eq, decide_eq_false_iff_not, Int.not_lt, Int.not_le, ge_iff_le, gt_iff_lt, decide_true, decide_false, Bool.false_eq_true, reduceCtorEq, beq_iff_eq, beq_eq_false_iff_ne, ne_eq, bne_iff_ne, bne_eq_false_iff_eq, and_true, true_and, and_false, false_and] at hc) <;> (try (exfalso; omega)))
    | ((fail_if_success (refine w_same (by simpa [go_sem, *] using trivial) rfl ?_)); refine w_splv rfl (by simp [go_sem, *, -Bool.not_eq_eq_eq_not]; rfl) (fun hr => ?_) (fun hr => ?_) <;> (have hg := hr) <;> (try simp only [Bool.not_eq_true', Bool.not_eq_false', Bool.and_eq_true, Bool.and_eq_false_imp, Bool.or_eq_true, Bool.or_eq_false_iff, Bool.not_eq_true, Bool.not_eq_false, decide_eq_true_eq, decide_eq_false_iff_not, Int.not_lt, Int.not_le, ge_iff_le, gt_iff_lt, decide_true, decide_false, Bool.false_eq_true, reduceCtorEq, beq_iff_eq, beq_eq_false_iff_ne, ne_eq, bne_iff_ne, bne_eq_false_iff_eq, and_true, true_and, and_false, false_and] at hg) <;> (try (exfalso; omega)))
    | ((fail_if_success (refine l_same (by simpa [go_sem, *] using trivial) rfl ?_)); refine l_splv rfl (by simp [go_sem, *, -Bool.not_eq_eq_eq_not]; rfl) (fun hr => ?_) (fun hr => ?_) <;> (have hg := hr) <;> (try simp only [Bool.not_eq_true', Bool.not_eq_false', Bool.and_eq_true, Bool.and_eq_false_imp, Bool.or_eq_true, Bool.or_eq_false_iff, Bool.not_eq_true, Bool.not_eq_false, decide_eq_true_eq, decide_eq_false_iff_not, Int.not_lt, Int.not_le, ge_iff_le, gt_iff_lt, decide_true, decide_false, Bool.false_eq_true, reduceCtorEq, beq_iff_eq, beq_eq_false_iff_ne, ne_eq, bne_iff_ne, bne_eq_false_iff_eq, and_true, true_and, and_false, false_and] at hg) <;> (try (exfalso; omega))))
  refine k_ret (by simp [go_sem]; first | exact ⟨rfl, rfl⟩ | rfl) ?_ rfl
  rfl
def K57 : Nat → List Nat := fun i => ([[0], [0, 3], [0, 3, 4], [0, 3, 4, 11], [0, 3, 4], [0, 3, 4], [2]] : List (List Nat)).getD i []
def toEdgeS_S : Eng.Spec := fun args av objs => ∃ es : List Ed, es.length ≤ 1099511627776 ∧ args = [AV.one (.imm 3 (eds es))] ∧ av = AV.one (.ref 0) ∧ objs = [.flat 46 3 (eds es)]
theorem toEdgeS_sat : Sat Try.prog 57 toEdgeS_S := by
  refine sat_of tok okr mixed K57 Try.func57 rfl (rs := [.tmp 2]) rfl rfl ?_
  rintro args av objs ⟨es, hl, rfl, rfl, rfl⟩
  refine ⟨by show 1 ≤ 23; decide, ?_⟩
  repeat' (first
    | refine w_op rfl (by simp (disch := first | omega | (simp; omega)) [go_sem, Try.ntmps57, -Option.map_eq_some_iff]; rfl) ?_
    | refine l_op rfl (by simp (disch := first | omega | (simp; omega)) [go_sem, Try.ntmps57, -Option.map_eq_some_iff]; exact ⟨rfl, rfl⟩) ?_
    | refine w_end (by simp [go_sem, K57]; rfl) ?_
    | refine l_end (by kernel_rfl) (by simp [go_sem, K57]; rfl) ?_
    | refine w_yes' (by simpa [go_sem, *] using trivial) rfl (by simp (disch := first | omega | (simp; omega)) [go_sem, Try.ntmps57, -Option.map_eq_some_iff]; rfl) ?_
    | refine w_no' (by simpa [go_sem, *] using trivial) rfl rfl (by simp [go_sem, skipE]; rfl) ?_
    | refine w_op rfl (by simp (disch := first | omega | (simp; omega)) [go_sem, Try.ntmps57, -Option.map_eq_some_iff, *]; rfl) ?_
    | refine l_op' (by simpa [go_sem, *] using trivial) rfl (by simp (disch := first | omega | (simp; omega)) [go_sem, Try.ntmps57, -Option.map_eq_some_iff, *]; exact ⟨rfl, rfl⟩) ?_
    | refine l_no' (by simpa [go_sem, *] using trivial) rfl rfl (by simp [go_sem, skipE]; rfl) ?_
    | refine k_seq ?_
    | refine a_seq ?_
    | refine a_reg ?_
    | refine a_draw ?_
    | refine k_seq_exit ?_
    | refine k_seq_ret ?_
    | refine k_blk ?_
    | refine k_blk_exit ?_
    | refine k_blk_other rfl ?_
    | refine k_blk_ret ?_
    | refine k_lop_exit ?_
    | refine k_lop_ret ?_
    | refine a_skip ?_
    | refine a_ret ?_
    | refine a_exit ?_
    | refine a_block ?_
    | (refine a_cond (by simp [go_sem, *, -Bool.not_eq_eq_eq_not]; rfl) (fun hr => ?_) (fun hr => ?_) <;> (have hc := hr) <;> (try simp only [Bool.not_eq_true', Bool.not_eq_false', Bool.and_eq_true, Bool.and_eq_false_imp, Bool.or_eq_true, Bool.or_eq_false_iff, Bool.not_eq_true, Bool.not_eq_false, decide_eq_true_eq, decide_eq_false_iff_not, Int.not_lt, Int.not_le, ge_iff_le, gt_iff_lt, decide_true, decide_false, Bool.false_eq_true, reduceCtorEq, beq_iff_eq, beq_eq_false_iff_ne, ne_eq, bne_iff_ne, bne_eq_false_iff_eq, and_true, true_and, and_false, false_and] at hc) <;> (try (exfalso; omega)))
    | ((fail_if_success (refine w_same (by simpa [go_sem, *] using trivial) rfl ?_)); refine w_splv rfl (by simp [go_sem, *, -Bool.not_eq_eq_eq_not]; rfl) (fun hr => ?_) (fun hr => ?_) <;> (have hg := hr) <;> (try simp only [Bool.not_eq_true', Bool.not_eq_false', Bool.and_eq_true, Bool.and_eq_false_imp, Bool.or_eq_true, Bool.or_eq_false_iff, Bool.not_eq_true, Bool.not_eq_false, decide_eq_true_eq, decide_eq_false_iff_not, Int.not_lt, Int.not_le, ge_iff_le, gt_iff_lt, decide_true, decide_false, Bool.false_eq_true, reduceCtorEq, beq_iff_eq, beq_eq_false_iff_ne, ne_eq, bne_iff_ne, bne_eq_false_iff_eq, and_true, true_and, and_false, false_and] at hg) <;> (try (exfalso; omega)))
    | ((fail_if_success (refine l_same (by simpa [go_sem, *] using trivial) rfl ?_)); refine l_splv rfl (by simp [go_sem, *, -Bool.not_eq_eq_eq_not]; rfl) (fun hr => ?_) (fun hr => ?_) <;> (have hg := hr) <;> (try simp only [Bool.not_eq_true', Bool.not_eq_false', Bool.and_eq_true, Bool.and_eq_false_imp, Bool.or_eq_true, Bool.or_eq_false_iff, Bool.not_eq_true, Bool.not_eq_false, decide_eq_true_eq, decide_eq_false_iff_not, Int.not_lt, Int.not_le, ge_iff_le, gt_iff_lt, decide_true, decide_false, Bool.false_eq_true, reduceCtorEq, beq_iff_eq, beq_eq_false_iff_ne, ne_eq, bne_iff_ne, bne_eq_false_iff_eq, and_true, true_and, and_false, false_and] at hg) <;> (try (exfalso; omega))))
  refine a_loop (fun i : Nat => ⟨23, [(0, AV.one (.imm 3 (eds es))), (3, AV.one (.ref 3)), (4, AV.one (.sc (.int i)))], [(3, some (.flat 46 3 (eds (cpE es i))))], [3]⟩) (fun i => i ≤ es.length) (fun i => es.length - i) 0 (by omega) ?_ ?_
  · exact weak_of [(3, .obj 56)] rfl (by decide) (by simp [go_sem, AVm, CVm, lookS, cpE_0, zEd_eq]) (by simp [go_sem, OBm, CVm, lookS, All2, cpE_0, zEd_eq]) rfl
  · intro i hi
    have hlen := cpE_len hi
    repeat' (first
    | refine w_op rfl (by simp (disch := first | omega | (simp; omega)) [go_sem, edA, hlen, Try.ntmps57, -Option.map_eq_some_iff]; rfl) ?_
    | refine l_op rfl (by simp (disch := first | omega | (simp; omega)) [go_sem, edA, hlen, Try.ntmps57, -Option.map_eq_some_iff]; exact ⟨rfl, rfl⟩) ?_
    | refine w_end (by simp [go_sem, K57]; rfl) ?_
    | refine l_end (by kernel_rfl) (by simp [go_sem, K57]; rfl) ?_
    | refine w_fn toEdge_sat rfl Try.func31 rfl rfl (by first | rfl | (simpa [go_sem, *] using trivial)) rfl rfl (by simp [go_sem]; exact ⟨rfl, rfl⟩) (by exact ⟨ed es i, rfl, rfl, rfl⟩) (by rfl) (by rfl) (by rfl) (by simp [go_sem]; rfl) ?_
    | refine l_fn toEdge_sat rfl Try.func31 rfl rfl (by first | rfl | (simpa [go_sem, *] using trivial)) rfl rfl (by simp [go_sem]; exact ⟨rfl, rfl⟩) (by exact ⟨ed es i, rfl, rfl, rfl⟩) (by rfl) (by rfl) (by rfl) (by simp [go_sem]; rfl) ?_
    | refine w_yes' (by simpa [go_sem, *] using trivial) rfl (by simp (disch := first | omega | (simp; omega)) [go_sem, edA, hlen, Try.ntmps57, -Option.map_eq_some_iff]; rfl) ?_
    | refine w_no' (by simpa [go_sem, *] using trivial) rfl rfl (by simp [go_sem, skipE]; rfl) ?_
    | refine w_op rfl (by simp (disch := first | omega | (simp; omega)) [go_sem, edA, hlen, Try.ntmps57, -Option.map_eq_some_iff, *]; rfl) ?_
    | refine l_op' (by simpa [go_sem, *] using trivial) rfl (by simp (disch := first | omega | (simp; omega)) [go_sem, edA, hlen, Try.ntmps57, -Option.map_eq_some_iff, *]; exact ⟨rfl, rfl⟩) ?_
    | refine l_no' (by simpa [go_sem, *] using trivial) rfl rfl (by simp [go_sem, skipE]; rfl) ?_
    | refine k_seq ?_
    | refine a_seq ?_
    | refine a_reg ?_
    | refine a_draw ?_
    | refine k_seq_exit ?_
    | refine k_seq_ret ?_
    | refine k_blk ?_
    | refine k_blk_exit ?_
    | refine k_blk_other rfl ?_
    | refine k_blk_ret ?_
    | refine k_lop_exit ?_
    | refine k_lop_ret ?_
    | refine a_skip ?_
    | refine a_ret ?_
    | refine a_exit ?_
    | refine a_block ?_
    | (refine a_cond (by simp [go_sem, *, -Bool.not_eq_eq_eq_not]; rfl) (fun hr => ?_) (fun hr => ?_) <;> (have hc := hr) <;> (try simp only [Bool.not_eq_true', Bool.not_eq_false', Bool.and_eq_true, Bool.and_eq_false_imp, Bool.or_eq_true, Bool.or_eq_false_iff, Bool.not_eq_true, Bool.not_eq_false, decide_eq_true_eq, decide_eq_false_iff_not, Int.not_lt, Int.not_le, ge_iff_le, gt_iff_lt, decide_true, decide_false, Bool.false_eq_true, reduceCtorEq, beq_iff_eq, beq_eq_false_iff_ne, ne_eq, bne_iff_ne, bne_eq_false_iff_eq, and_true, true_and, and_false, false_and] at hc) <;> (try (exfalso; omega)))
    | ((fail_if_success (refine w_same (by simpa [go_sem, *] using trivial) rfl ?_)); refine w_splv rfl (by simp [go_sem, *, -Bool.not_eq_eq_eq_not]; rfl) (fun hr => ?_) (fun hr => ?_) <;> (have hg := hr) <;> (try simp only [Bool.not_eq_true', Bool.not_eq_false', Bool.and_eq_true, Bool.and_eq_false_imp, Bool.or_eq_true, Bool.or_eq_false_iff, Bool.not_eq_true, Bool.not_eq_false, decide_eq_true_eq, decide_eq_false_iff_not, Int.not_lt, Int.not_le, ge_iff_le, gt_iff_lt, decide_true, decide_false, Bool.false_eq_true, reduceCtorEq, beq_iff_eq, beq_eq_false_iff_ne, ne_eq, bne_iff_ne, bne_eq_false_iff_eq, and_true, true_and, and_false, false_and] at hg) <;> (try (exfalso; omega)))
    | ((fail_if_success (refine l_same (by simpa [go_sem, *] using trivial) rfl ?_)); refine l_splv rfl (by simp [go_sem, *, -Bool.not_eq_eq_eq_not]; rfl) (fun hr => ?_) (fun hr => ?_) <;> (have hg := hr) <;> (try simp only [Bool.not_eq_true', Bool.not_eq_false', Bool.and_eq_true, Bool.and_eq_false_imp, Bool.or_eq_true, Bool.or_eq_false_iff, Bool.not_eq_true, Bool.not_eq_false, decide_eq_true_eq, decide_eq_false_iff_not, Int.not_lt, Int.not_le, ge_iff_le, gt_iff_lt, decide_true, decide_false, Bool.false_eq_true, reduceCtorEq, beq_iff_eq, beq_eq_false_iff_ne, ne_eq, bne_iff_ne, bne_eq_false_iff_eq, and_true, true_and, and_false, false_and] at hg) <;> (try (exfalso; omega))))
    · (refine k_lop (i + 1) ?_ ?_ (weak_of [(3, .obj 3)] rfl (by decide) ?_ ?_ rfl); (· exact (by omega)); (· first | omega | (simp only; omega)); (· first | (simp [go_sem, AVm, CVm, lookS, cpE_set hc, *]; done) | (simp [go_sem, AVm, CVm, lookS, cpE_set hc, *] <;> (repeat' split) <;> first | omega | (simp_all; done) | (exfalso; omega) | (simp_all; omega))); (· first | (simp [go_sem, OBm, CVm, All2, lookS, cpE_set hc, *]; done) | (simp [go_sem, OBm, CVm, All2, lookS, cpE_set hc, *] <;> (repeat' split) <;> first | omega | (simp_all; done) | (exfalso; omega) | (simp_all; omega))))
    · have : i = es.length := by omega
      subst this
      refine k_ret (by simp [go_sem]; first | exact ⟨rfl, rfl⟩ | rfl) ?_ ?_
      · rfl
      · simp [cpE_all]
def K17 : Nat → List Nat := fun i => ([[1, 2], [1, 2, 3], [1, 2, 3], [1, 2, 3], [2, 3], [2]] : List (List Nat)).getD i []
def toGraph_S : Eng.Spec := fun args av objs => ∃ (r z : Int) (es : List Ed), es.length ≤ 1099511627776 ∧ args = [grA r z es] ∧ av = .agg [.sc (.int r), .sc (.int z), .ref 0] ∧ objs = [.flat 46 3 (eds es)]
theorem toGraph_sat : Sat Try.prog 17 toGraph_S := by
  refine sat_of tok okr mixed K17 Try.func17 rfl (rs := [.cell 2 28]) rfl rfl ?_
  rintro args av objs ⟨r, z, es, hl, rfl, rfl, rfl⟩
  refine ⟨by show 1 ≤ 15; decide, ?_⟩
  repeat' (first
    | refine w_op rfl (by simp (disch := first | omega | (simp; omega)) [go_sem, grA, Try.ntmps17, -Option.map_eq_some_iff]; rfl) ?_
    | refine l_op rfl (by simp (disch := first | omega | (simp; omega)) [go_sem, grA, Try.ntmps17, -Option.map_eq_some_iff]; exact ⟨rfl, rfl⟩) ?_
    | refine w_end (by simp [go_sem, K17]; rfl) ?_
    | refine l_end (by kernel_rfl) (by simp [go_sem, K17]; rfl) ?_
    | refine w_fn toEdgeS_sat rfl Try.func57 rfl rfl (by first | rfl | (simpa [go_sem, *] using trivial)) rfl rfl (by simp [go_sem]; exact ⟨rfl, rfl⟩) (by exact ⟨es, hl, rfl, rfl, rfl⟩) (by rfl) (by rfl) (by rfl) (by simp [go_sem]; rfl) ?_
    | refine l_fn toEdgeS_sat rfl Try.func57 rfl rfl (by first | rfl | (simpa [go_sem, *] using trivial)) rfl rfl (by simp [go_sem]; exact ⟨rfl, rfl⟩) (by exact ⟨es, hl, rfl, rfl, rfl⟩) (by rfl) (by rfl) (by rfl) (by simp [go_sem]; rfl) ?_
    | refine w_yes' (by simpa [go_sem, *] using trivial) rfl (by simp (disch := first | omega | (simp; omega)) [go_sem, grA, Try.ntmps17, -Option.map_eq_some_iff]; rfl) ?_
    | refine w_no' (by simpa [go_sem, *] using trivial) rfl rfl (by simp [go_sem, skipE]; rfl) ?_
    | refine w_op rfl (by simp (disch := first | omega | (simp; omega)) [go_sem, grA, Try.ntmps17, -Option.map_eq_some_iff, *]; rfl) ?_
    | refine l_op' (by simpa [go_sem, *] using trivial) rfl (by simp (disch := first | omega | (simp; omega)) [go_sem, grA, Try.ntmps17, -Option.map_eq_some_iff, *]; exact ⟨rfl, rfl⟩) ?_
    | refine l_no' (by simpa [go_sem, *] using trivial) rfl rfl (by simp [go_sem, skipE]; rfl) ?_
    | refine k_seq ?_
    | refine a_seq ?_
    | refine a_reg ?_
    | refine a_draw ?_
    | refine k_seq_exit ?_
    | refine k_seq_ret ?_
    | refine k_blk ?_
    | refine k_blk_exit ?_
    | refine k_blk_other rfl ?_
    | refine k_blk_ret ?_
    | refine k_lop_exit ?_
    | refine k_lop_ret ?_
    | refine a_skip ?_
    | refine a_ret ?_
    | refine a_exit ?_
    | refine a_block ?_
    | (refine a_cond (by simp [go_sem, *, -Bool.not_eq_eq_eq_not]; rfl) (fun hr => ?_) (fun hr => ?_) <;> (have hc := hr) <;> (try simp only [Bool.not_eq_true', Bool.not_eq_false', Bool.and_eq_true, Bool.and_eq_false_imp, Bool.or_eq_true, Bool.or_eq_false_iff, Bool.not_eq_true, Bool.not_eq_false, decide_eq_true_eq, decide_eq_false_iff_not, Int.not_lt, Int.not_le, ge_iff_le, gt_iff_lt, decide_true, decide_false, Bool.false_eq_true, reduceCtorEq, beq_iff_eq, beq_eq_false_iff_ne, ne_eq, bne_iff_ne, bne_eq_false_iff_eq, and_true, true_and, and_false, false_and] at hc) <;> (try (exfalso; omega)))
    | ((fail_if_success (refine w_same (by simpa [go_sem, *] using trivial) rfl ?_)); refine w_splv rfl (by simp [go_sem, *, -Bool.not_eq_eq_eq_not]; rfl) (fun hr => ?_) (fun hr => ?_) <;> (have hg := hr) <;> (try simp only [Bool.not_eq_true', Bool.not_eq_false', Bool.and_eq_true, Bool.and_eq_false_imp, Bool.or_eq_true, Bool.or_eq_false_iff, Bool.not_eq_true, Bool.not_eq_false, decide_eq_true_eq, decide_eq_false_iff_not, Int.not_lt, Int.not_le, ge_iff_le, gt_iff_lt, decide_true, decide_false, Bool.false_eq_true, reduceCtorEq, beq_iff_eq, beq_eq_false_iff_ne, ne_eq, bne_iff_ne, bne_eq_false_iff_eq, and_true, true_and, and_false, false_and] at hg) <;> (try (exfalso; omega)))
    | ((fail_if_success (refine l_same (by simpa [go_sem, *] using trivial) rfl ?_)); refine l_splv rfl (by simp [go_sem, *, -Bool.not_eq_eq_eq_not]; rfl) (fun hr => ?_) (fun hr => ?_) <;> (have hg := hr) <;> (try simp only [Bool.not_eq_true', Bool.not_eq_false', Bool.and_eq_true, Bool.and_eq_false_imp, Bool.or_eq_true, Bool.or_eq_false_iff, Bool.not_eq_true, Bool.not_eq_false, decide_eq_true_eq, decide_eq_false_iff_not, Int.not_lt, Int.not_le, ge_iff_le, gt_iff_lt, decide_true, decide_false, Bool.false_eq_true, reduceCtorEq, beq_iff_eq, beq_eq_false_iff_ne, ne_eq, bne_iff_ne, bne_eq_false_iff_eq, and_true, true_and, and_false, false_and] at hg) <;> (try (exfalso; omega))))
  refine k_ret (by simp [go_sem]; first | exact ⟨rfl, rfl⟩ | rfl) ?_ rfl
  rfl
def szE_S : Eng.Spec := fun args av objs => ∃ (es : List Ed) (k : Int), es.length ≤ 9223372036854775807 ∧ 0 ≤ k ∧ k ≤ 1048576 ∧ args = [AV.one (.imm 3 (eds es)), AV.one (.sc (.int k))] ∧ av = AV.one (.sc (.int (if k < es.length then -1 else k - es.length))) ∧ objs = []
def K54 : Nat → List Nat := fun i => ([[0, 1], [1], [1, 10], [4], [4]] : List (List Nat)).getD i []
theorem szEdgeS_sat : Sat Try.prog 54 szE_S := by
  refine sat_of tok okr mixed K54 Try.func54 rfl (rs := [.tmp 4]) rfl rfl ?_
  rintro args av objs ⟨es, k, hl, hk, hk2, rfl, rfl, rfl⟩
  refine ⟨by show 2 ≤ 12; decide, ?_⟩
  repeat' (first
    | refine w_op rfl (by simp (disch := first | omega | (simp; omega)) [go_sem, Try.ntmps54, -Option.map_eq_some_iff]; rfl) ?_
    | refine l_op rfl (by simp (disch := first | omega | (simp; omega)) [go_sem, Try.ntmps54, -Option.map_eq_some_iff]; exact ⟨rfl, rfl⟩) ?_
    | refine w_end (by simp [go_sem, K54]; rfl) ?_
    | refine l_end (by kernel_rfl) (by simp [go_sem, K54]; rfl) ?_
    | refine w_yes' (by simpa [go_sem, *] using trivial) rfl (by simp (disch := first | omega | (simp; omega)) [go_sem, Try.ntmps54, -Option.map_eq_some_iff]; rfl) ?_
    | refine w_no' (by simpa [go_sem, *] using trivial) rfl rfl (by simp [go_sem, skipE]; rfl) ?_
    | refine w_op rfl (by simp (disch := first | omega | (simp; omega)) [go_sem, Try.ntmps54, -Option.map_eq_some_iff, *]; rfl) ?_
    | refine l_op' (by simpa [go_sem, *] using trivial) rfl (by simp (disch := first | omega | (simp; omega)) [go_sem, Try.ntmps54, -Option.map_eq_some_iff, *]; exact ⟨rfl, rfl⟩) ?_
    | refine l_no' (by simpa [go_sem, *] using trivial) rfl rfl (by simp [go_sem, skipE]; rfl) ?_
    | refine k_seq ?_
    | refine a_seq ?_
    | refine a_reg ?_
    | refine a_draw ?_
    | refine k_seq_exit ?_
    | refine k_seq_ret ?_
    | refine k_blk ?_
    | refine k_blk_exit ?_
    | refine k_blk_other rfl ?_
    | refine k_blk_ret ?_
    | refine k_lop_exit ?_
    | refine k_lop_ret ?_
    | refine a_skip ?_
    | refine a_ret ?_
    | refine a_exit ?_
    | refine a_block ?_
    | (refine a_cond (by simp [go_sem, *, -Bool.not_eq_eq_eq_not]; rfl) (fun hr => ?_) (fun hr => ?_) <;> (have hc := hr) <;> (try simp only [Bool.not_eq_true', Bool.not_eq_false', Bool.and_eq_true, Bool.and_eq_false_imp, Bool.or_eq_true, Bool.or_eq_false_iff, Bool.not_eq_true, Bool.not_eq_false, decide_eq_true_eq, decide_eq_false_iff_not, Int.not_lt, Int.not_le, ge_iff_le, gt_iff_lt, decide_true, decide_false, Bool.false_eq_true, reduceCtorEq, beq_iff_eq, beq_eq_false_iff_ne, ne_eq, bne_iff_ne, bne_eq_false_iff_eq, and_true, true_and, and_false, false_and] at hc) <;> (try (exfalso; omega)))
    | ((fail_if_success (refine w_same (by simpa [go_sem, *] using trivial) rfl ?_)); refine w_splv rfl (by simp [go_sem, *, -Bool.not_eq_eq_eq_not]; rfl) (fun hr => ?_) (fun hr => ?_) <;> (have hg := hr) <;> (try simp only [Bool.not_eq_true', Bool.not_eq_false', Bool.and_eq_true, Bool.and_eq_false_imp, Bool.or_eq_true, Bool.or_eq_false_iff, Bool.not_eq_true, Bool.not_eq_false, decide_eq_true_eq, decide_eq_false_iff_not, Int.not_lt, Int.not_le, ge_iff_le, gt_iff_lt, decide_true, decide_false, Bool.false_eq_true, reduceCtorEq, beq_iff_eq, beq_eq_false_iff_ne, ne_eq, bne_iff_ne, bne_eq_false_iff_eq, and_true, true_and, and_false, false_and] at hg) <;> (try (exfalso; omega)))
    | ((fail_if_success (refine l_same (by simpa [go_sem, *] using trivial) rfl ?_)); refine l_splv rfl (by simp [go_sem, *, -Bool.not_eq_eq_eq_not]; rfl) (fun hr => ?_) (fun hr => ?_) <;> (have hg := hr) <;> (try simp only [Bool.not_eq_true', Bool.not_eq_false', Bool.and_eq_true, Bool.and_eq_false_imp, Bool.or_eq_true, Bool.or_eq_false_iff, Bool.not_eq_true, Bool.not_eq_false, decide_eq_true_eq, decide_eq_false_iff_not, Int.not_lt, Int.not_le, ge_iff_le, gt_iff_lt, decide_true, decide_false, Bool.false_eq_true, reduceCtorEq, beq_iff_eq, beq_eq_false_iff_ne, ne_eq, bne_iff_ne, bne_eq_false_iff_eq, and_true, true_and, and_false, false_and] at hg) <;> (try (exfalso; omega))))
  all_goals refine k_ret (by simp [go_sem]; first | exact ⟨rfl, rfl⟩ | rfl) ?_ rfl
  · have : k < es.length := by omega
    simp [this]
  · have : ¬ k < es.length := by omega
    simp [this]
def K15 : Nat → List Nat := fun i => ([[1, 2], [1], [1, 10], [4], [4]] : List (List Nat)).getD i []
def szG_S : Eng.Spec := fun args av objs => ∃ (r z : Int) (es : List Ed) (k : Int), es.length ≤ 9223372036854775807 ∧ 0 ≤ k ∧ k ≤ 1048576 ∧ args = [grA r z es, AV.one (.sc (.int k))] ∧ av = AV.one (.sc (.int (if k < es.length then -1 else k - es.length))) ∧ objs = []
theorem szGraph_sat : Sat Try.prog 15 szG_S := by
  refine sat_of tok okr mixed K15 Try.func15 rfl (rs := [.tmp 4]) rfl rfl ?_
  rintro args av objs ⟨r, z, es, k, hl, hk, hk2, rfl, rfl, rfl⟩
  refine ⟨by show 2 ≤ 12; decide, ?_⟩
  by_cases h : k < es.length
  · repeat' (first
    | refine w_op rfl (by simp (disch := first | omega | (simp; omega)) [go_sem, grA, h, Try.ntmps15, -Option.map_eq_some_iff]; rfl) ?_
    | refine l_op rfl (by simp (disch := first | omega | (simp; omega)) [go_sem, grA, h, Try.ntmps15, -Option.map_eq_some_iff]; exact ⟨rfl, rfl⟩) ?_
    | refine w_end (by simp [go_sem, K15]; rfl) ?_
    | refine l_end (by kernel_rfl) (by simp [go_sem, K15]; rfl) ?_
    | refine w_fn szEdgeS_sat rfl Try.func54 rfl rfl (by first | rfl | (simpa [go_sem, *] using trivial)) rfl rfl (by simp [go_sem]; exact ⟨rfl, rfl⟩) (by exact ⟨es, k, hl, hk, hk2, rfl, by rw [if_pos h], rfl⟩) (by rfl) (by rfl) (by rfl) (by simp [go_sem]; rfl) ?_
    | refine l_fn szEdgeS_sat rfl Try.func54 rfl rfl (by first | rfl | (simpa [go_sem, *] using trivial)) rfl rfl (by simp [go_sem]; exact ⟨rfl, rfl⟩) (by exact ⟨es, k, hl, hk, hk2, rfl, by rw [if_pos h], rfl⟩) (by rfl) (by rfl) (by rfl) (by simp [go_sem]; rfl) ?_
    | refine w_yes' (by simpa [go_sem, *] using trivial) rfl (by simp (disch := first | omega | (simp; omega)) [go_sem, grA, h, Try.ntmps15, -Option.map_eq_some_iff]; rfl) ?_
    | refine w_no' (by simpa [go_sem, *] using trivial) rfl rfl (by simp [go_sem, skipE]; rfl) ?_
    | refine w_op rfl (by simp (disch := first | omega | (simp; omega)) [go_sem, grA, h, Try.ntmps15, -Option.map_eq_some_iff, *]; rfl) ?_
    | refine l_op' (by simpa [go_sem, *] using trivial) rfl (by simp (disch := first | omega | (simp; omega)) [go_sem, grA, h, Try.ntmps15, -Option.map_eq_some_iff, *]; exact ⟨rfl, rfl⟩) ?_
    | refine l_no' (by simpa [go_sem, *] using trivial) rfl rfl (by simp [go_sem, skipE]; rfl) ?_
    | refine k_seq ?_
    | refine a_seq ?_
    | refine a_reg ?_
    | refine a_draw ?_
    | refine k_seq_exit ?_
    | refine k_seq_ret ?_
    | refine k_blk ?_
    | refine k_blk_exit ?_
    | refine k_blk_other rfl ?_
    | refine k_blk_ret ?_
    | refine k_lop_exit ?_
    | refine k_lop_ret ?_
    | refine a_skip ?_
    | refine a_ret ?_
    | refine a_exit ?_
    | refine a_block ?_
    | (refine a_cond (by simp [go_sem, *, -Bool.not_eq_eq_eq_not]; rfl) (fun hr => ?_) (fun hr => ?_) <;> (have hc := hr) <;> (try simp only [Bool.not_eq_true', Bool.not_eq_false', Bool.and_eq_true, Bool.and_eq_false_imp, Bool.or_eq_true, Bool.or_eq_false_iff, Bool.not_eq_true, Bool.not_eq_false, decide_eq_true_eq, decide_eq_false_iff_not, Int.not_lt, Int.not_le, ge_iff_le, gt_iff_lt, decide_true, decide_false, Bool.false_eq_true, reduceCtorEq, beq_iff_eq, beq_eq_false_iff_ne, ne_eq, bne_iff_ne, bne_eq_false_iff_eq, and_true, true_and, and_false, false_and] at hc) <;> (try (exfalso; omega)))
    | ((fail_if_success (refine w_same (by simpa [go_sem, *] using trivial) rfl ?_)); refine w_splv rfl (by simp [go_sem, *, -Bool.not_eq_eq_eq_not]; rfl) (fun hr => ?_) (fun hr => ?_) <;> (have hg := hr) <;> (try simp only [Bool.not_eq_true', Bool.not_eq_false', Bool.and_eq_true, Bool.and_eq_false_imp, Bool.or_eq_true, Bool.or_eq_false_iff, Bool.not_eq_true, Bool.not_eq_false, decide_eq_true_eq, decide_eq_false_iff_not, Int.not_lt, Int.not_le, ge_iff_le, gt_iff_lt, decide_true, decide_false, Bool.false_eq_true, reduceCtorEq, beq_iff_eq, beq_eq_false_iff_ne, ne_eq, bne_iff_ne, bne_eq_false_iff_eq, and_true, true_and, and_false, false_and] at hg) <;> (try (exfalso; omega)))
    | ((fail_if_success (refine l_same (by simpa [go_sem, *] using trivial) rfl ?_)); refine l_splv rfl (by simp [go_sem, *, -Bool.not_eq_eq_eq_not]; rfl) (fun hr => ?_) (fun hr => ?_) <;> (have hg := hr) <;> (try simp only [Bool.not_eq_true', Bool.not_eq_false', Bool.and_eq_true, Bool.and_eq_false_imp, Bool.or_eq_true, Bool.or_eq_false_iff, Bool.not_eq_true, Bool.not_eq_false, decide_eq_true_eq, decide_eq_false_iff_not, Int.not_lt, Int.not_le, ge_iff_le, gt_iff_lt, decide_true, decide_false, Bool.false_eq_true, reduceCtorEq, beq_iff_eq, beq_eq_false_iff_ne, ne_eq, bne_iff_ne, bne_eq_false_iff_eq, and_true, true_and, and_false, false_and] at hg) <;> (try (exfalso; omega))))
    all_goals refine k_ret (by simp [go_sem]; first | exact ⟨rfl, rfl⟩ | rfl) ?_ rfl
    simp [h]
  · repeat' (first
    | refine w_op rfl (by simp (disch := first | omega | (simp; omega)) [go_sem, grA, h, Try.ntmps15, -Option.map_eq_some_iff]; rfl) ?_
    | refine l_op rfl (by simp (disch := first | omega | (simp; omega)) [go_sem, grA, h, Try.ntmps15, -Option.map_eq_some_iff]; exact ⟨rfl, rfl⟩) ?_
    | refine w_end (by simp [go_sem, K15]; rfl) ?_
    | refine l_end (by kernel_rfl) (by simp [go_sem, K15]; rfl) ?_
    | refine w_fn szEdgeS_sat rfl Try.func54 rfl rfl (by first | rfl | (simpa [go_sem, *] using trivial)) rfl rfl (by simp [go_sem]; exact ⟨rfl, rfl⟩) (by exact ⟨es, k, hl, hk, hk2, rfl, by rw [if_neg h], rfl⟩) (by rfl) (by rfl) (by rfl) (by simp [go_sem]; rfl) ?_
    | refine l_fn szEdgeS_sat rfl Try.func54 rfl rfl (by first | rfl | (simpa [go_sem, *] using trivial)) rfl rfl (by simp [go_sem]; exact ⟨rfl, rfl⟩) (by exact ⟨es, k, hl, hk, hk2, rfl, by rw [if_neg h], rfl⟩) (by rfl) (by rfl) (by rfl) (by simp [go_sem]; rfl) ?_
    | refine w_yes' (by simpa [go_sem, *] using trivial) rfl (by simp (disch := first | omega | (simp; omega)) [go_sem, grA, h, Try.ntmps15, -Option.map_eq_some_iff]; rfl) ?_
    | refine w_no' (by simpa [go_sem, *] using trivial) rfl rfl (by simp [go_sem, skipE]; rfl) ?_
    | refine w_op rfl (by simp (disch := first | omega | (simp; omega)) [go_sem, grA, h, Try.ntmps15, -Option.map_eq_some_iff, *]; rfl) ?_
    | refine l_op' (by simpa [go_sem, *] using trivial) rfl (by simp (disch := first | omega | (simp; omega)) [go_sem, grA, h, Try.ntmps15, -Option.map_eq_some_iff, *]; exact ⟨rfl, rfl⟩) ?_
    | refine l_no' (by simpa [go_sem, *] using trivial) rfl rfl (by simp [go_sem, skipE]; rfl) ?_
    | refine k_seq ?_
    | refine a_seq ?_
    | refine a_reg ?_
    | refine a_draw ?_
    | refine k_seq_exit ?_
    | refine k_seq_ret ?_
    | refine k_blk ?_
    | refine k_blk_exit ?_
    | refine k_blk_other rfl ?_
    | refine k_blk_ret ?_
    | refine k_lop_exit ?_
    | refine k_lop_ret ?_
    | refine a_skip ?_
    | refine a_ret ?_
    | refine a_exit ?_
    | refine a_block ?_
    | (refine a_cond (by simp [go_sem, *, -Bool.not_eq_eq_eq_not]; rfl) (fun hr => ?_) (fun hr => ?_) <;> (have hc := hr) <;> (try simp only [Bool.not_eq_true', Bool.not_eq_false', Bool.and_eq_true, Bool.and_eq_false_imp, Bool.or_eq_true, Bool.or_eq_false_iff, Bool.not_eq_true, Bool.not_eq_false, decide_eq_true_eq, decide_eq_false_iff_not, Int.not_lt, Int.not_le, ge_iff_le, gt_iff_lt, decide_true, decide_false, Bool.false_eq_true, reduceCtorEq, beq_iff_eq, beq_eq_false_iff_ne, ne_eq, bne_iff_ne, bne_eq_false_iff_eq, and_true, true_and, and_false, false_and] at hc) <;> (try (exfalso; omega)))
    | ((fail_if_success (refine w_same (by simpa [go_sem, *] using trivial) rfl ?_)); refine w_splv rfl (by simp [go_sem, *, -Bool.not_eq_eq_eq_not]; rfl) (fun hr => ?_) (fun hr => ?_) <;> (have hg := hr) <;> (try simp only [Bool.not_eq_true', Bool.not_eq_false', Bool.and_eq_true, Bool.and_eq_false_imp, Bool.or_eq_true, Bool.or_eq_false_iff, Bool.not_eq_true, Bool.not_eq_false, decide_eq_true_eq, decide_eq_false_iff_not, Int.not_lt, Int.not_le, ge_iff_le, gt_iff_lt, decide_true, decide_false, Bool.false_eq_true, reduceCtorEq, beq_iff_eq, beq_eq_false_iff_ne, ne_eq, bne_iff_ne, bne_eq_false_iff_eq, and_true, true_and, and_false, false_and] at hg) <;> (try (exfalso; omega)))
    | ((fail_if_success (refine l_same (by simpa [go_sem, *] using trivial) rfl ?_)); refine l_splv rfl (by simp [go_sem, *, -Bool.not_eq_eq_eq_not]; rfl) (fun hr => ?_) (fun hr => ?_) <;> (have hg := hr) <;> (try simp only [Bool.not_eq_true', Bool.not_eq_false', Bool.and_eq_true, Bool.and_eq_false_imp, Bool.or_eq_true, Bool.or_eq_false_iff, Bool.not_eq_true, Bool.not_eq_false, decide_eq_true_eq, decide_eq_false_iff_not, Int.not_lt, Int.not_le, ge_iff_le, gt_iff_lt, decide_true, decide_false, Bool.false_eq_true, reduceCtorEq, beq_iff_eq, beq_eq_false_iff_ne, ne_eq, bne_iff_ne, bne_eq_false_iff_eq, and_true, true_and, and_false, false_and] at hg) <;> (try (exfalso; omega))))
    all_goals refine k_ret (by simp [go_sem]; first | exact ⟨rfl, rfl⟩ | rfl) ?_ rfl
    simp [h]
attribute [go_sem] grA edA entryM
end Go.Proofs.Try

namespace Go.Proofs.Try
open Go Go.Eng
instance : Con Try.prog 97 (specOf within_sat) := con within_sat Try.func97
instance : Con Try.prog 92 (specOf l1In_sat) := con l1In_sat Try.func92
instance : Con Try.prog 79 (specOf eqEdge_sat) := con eqEdge_sat Try.func79
instance : Con Try.prog 35 (specOf eqEdgeS_sat) := con eqEdgeS_sat Try.func35
instance : Con Try.prog 19 (specOf eqGraph_sat) := con eqGraph_sat Try.func19
instance : Con Try.prog 31 (specOf toEdge_sat) := con toEdge_sat Try.func31
instance : Con Try.prog 57 (specOf toEdgeS_sat) := con toEdgeS_sat Try.func57
instance : Con Try.prog 17 (specOf toGraph_sat) := con toGraph_sat Try.func17
end Go.Proofs.Try
namespace Go.Proofs.Try
open Go Go.Eng
set_option linter.unnecessarySimpa false
set_option linter.unusedSimpArgs false
set_option maxHeartbeats 4000000

/-! ### Lists of ints: equality, copies, sizes, marks -/
theorem intsSet (l : List Int) (i : Nat) (a : Int) : (ints l).set i [.int a] = ints (l.set i a) := by simp [ints, List.map_set]
theorem intsApp (l : List Int) (a : Int) : ints l ++ [[.int a]] = ints (l ++ [a]) := by simp [ints]
theorem intsApps (l m : List Int) : ints l ++ ints m = ints (l ++ m) := by simp [ints]
theorem intsNil : ints [] = [] := rfl
theorem intsDrop (l : List Int) (n : Nat) : (ints l).drop n = ints (l.drop n) := by simp [ints, List.map_drop]
theorem intsTake (l : List Int) (n : Nat) : (ints l).take n = ints (l.take n) := by simp [ints, List.map_take]
theorem ixDrop (l : List Int) (n j : Nat) : ix (l.drop n) j = ix l (n + j) := by simp [ix]
attribute [go_sem] intsSet intsApp intsApps intsNil intsDrop intsTake ixDrop
theorem ints_eq {xs ys : List Int} (hl : xs.length = ys.length) (h : ∀ j, j < xs.length → ix xs j = ix ys j) : xs = ys := by
  apply List.ext_getElem hl
  intro i h1 h2
  have := h i h1
  simpa [ix, h1, h2] using this
def K27 : Nat → List Nat := fun i => ([[0, 1], [0, 1, 10], [4], [0, 1, 5], [0, 1, 5, 14], [0, 1, 5], [0, 1, 5, 25], [4], [4]] : List (List Nat)).getD i []
def eqIntS_S : Eng.Spec := fun args av objs => ∃ xs ys : List Int, xs.length ≤ 1099511627776 ∧ args = [AV.one (.imm 1 (ints xs)), AV.one (.imm 1 (ints ys))] ∧ av = AV.one (.sc (.bool (decide (xs = ys)))) ∧ objs = []
theorem eqIntS_sat : Sat Try.prog 27 eqIntS_S := by
  refine sat_of tok okr mixed K27 Try.func27 rfl (rs := [.tmp 4]) rfl rfl ?_
  rintro args av objs ⟨xs, ys, hx, rfl, rfl, rfl⟩
  refine ⟨by show 2 ≤ 26; decide, ?_⟩
  repeat' (first
    | refine w_op rfl (by simp (disch := first | omega | (simp; omega)) [go_sem, Try.ntmps27, -Option.map_eq_some_iff]; rfl) ?_
    | refine l_op rfl (by simp (disch := first | omega | (simp; omega)) [go_sem, Try.ntmps27, -Option.map_eq_some_iff]; exact ⟨rfl, rfl⟩) ?_
    | refine w_end (by simp [go_sem, K27]; rfl) ?_
    | refine l_end (by kernel_rfl) (by simp [go_sem, K27]; rfl) ?_
    | refine w_yes' (by simpa [go_sem, *] using trivial) rfl (by simp (disch := first | omega | (simp; omega)) [go_sem, Try.ntmps27, -Option.map_eq_some_iff]; rfl) ?_
    | refine w_no' (by simpa [go_sem, *] using trivial) rfl rfl (by simp [go_sem, skipE]; rfl) ?_
    | refine w_op rfl (by simp (disch := first | omega | (simp; omega)) [go_sem, Try.ntmps27, -Option.map_eq_some_iff, *]; rfl) ?_
    | refine l_op' (by simpa [go_sem, *] using trivial) rfl (by simp (disch := first | omega | (simp; omega)) [go_sem, Try.ntmps27, -Option.map_eq_some_iff, *]; exact ⟨rfl, rfl⟩) ?_
    | refine l_no' (by simpa [go_sem, *] using trivial) rfl rfl (by simp [go_sem, skipE]; rfl) ?_
    | refine k_seq ?_
    | refine a_seq ?_
    | refine a_reg ?_
    | refine a_draw ?_
    | refine k_seq_exit ?_
    | refine k_seq_ret ?_
    | refine k_blk ?_
    | refine k_blk_exit ?_
    | refine k_blk_other rfl ?_
    | refine k_blk_ret ?_
    | refine k_lop_exit ?_
    | refine k_lop_ret ?_
    | refine a_skip ?_
    | refine a_ret ?_
    | refine a_exit ?_
    | refine a_block ?_
    | (refine a_cond (by simp [go_sem, *, -Bool.not_eq_eq_eq_not]; rfl) (fun hr => ?_) (fun hr => ?_) <;> (have hc := hr) <;> (try simp only [Bool.not_eq_true', Bool.not_eq_false', Bool.and_eq_true, Bool.and_eq_false_imp, Bool.or_eq_true, Bool.or_eq_false_iff, Bool.not_eq_true, Bool.not_eq_false, decide_eq_true_eq, decide_eq_false_iff_not, Int.not_lt, Int.not_le, ge_iff_le, gt_iff_lt, decide_true, decide_false, Bool.false_eq_true, reduceCtorEq, beq_iff_eq, beq_eq_false_iff_ne, ne_eq, bne_iff_ne, bne_eq_false_iff_eq, and_true, true_and, and_false, false_and] at hc) <;> (try (exfalso; omega)))
    | ((fail_if_success (refine w_same (by simpa [go_sem, *] using trivial) rfl ?_)); refine w_splv rfl (by simp [go_sem, *, -Bool.not_eq_eq_eq_not]; rfl) (fun hr => ?_) (fun hr => ?_) <;> (have hg := hr) <;> (try simp only [Bool.not_eq_true', Bool.not_eq_false', Bool.and_eq_true, Bool.and_eq_false_imp, Bool.or_eq_true, Bool.or_eq_false_iff, Bool.not_eq_true, Bool.not_eq_false, decide_eq_true_eq, decide_eq_false_iff_not, Int.not_lt, Int.not_le, ge_iff_le, gt_iff_lt, decide_true, decide_false, Bool.false_eq_true, reduceCtorEq, beq_iff_eq, beq_eq_false_iff_ne, ne_eq, bne_iff_ne, bne_eq_false_iff_eq, and_true, true_and, and_false, false_and] at hg) <;> (try (exfalso; omega)))
    | ((fail_if_success (refine l_same (by simpa [go_sem, *] using trivial) rfl ?_)); refine l_splv rfl (by simp [go_sem, *, -Bool.not_eq_eq_eq_not]; rfl) (fun hr => ?_) (fun hr => ?_) <;> (have hg := hr) <;> (try simp only [Bool.not_eq_true', Bool.not_eq_false', Bool.and_eq_true, Bool.and_eq_false_imp, Bool.or_eq_true, Bool.or_eq_false_iff, Bool.not_eq_true, Bool.not_eq_false, decide_eq_true_eq, decide_eq_false_iff_not, Int.not_lt, Int.not_le, ge_iff_le, gt_iff_lt, decide_true, decide_false, Bool.false_eq_true, reduceCtorEq, beq_iff_eq, beq_eq_false_iff_ne, ne_eq, bne_iff_ne, bne_eq_false_iff_eq, and_true, true_and, and_false, false_and] at hg) <;> (try (exfalso; omega))))
  · refine k_ret (by simp [go_sem]; first | exact ⟨rfl, rfl⟩ | rfl) ?_ rfl
    have : ¬ xs = ys := by rintro rfl; simp at hc
    simp [this]
  · have hl : xs.length = ys.length := by omega
    refine a_loop (fun i : Nat => ⟨26, [(0, AV.one (.imm 1 (ints xs))), (1, AV.one (.imm 1 (ints ys))), (5, AV.one (.sc (.int i)))], [], []⟩) (fun i => i ≤ xs.length ∧ ∀ j, j < i → ix xs j = ix ys j) (fun i => xs.length - i) 0 ⟨by omega, fun j hj => by omega⟩ (Weak.refl _) ?_
    rintro i ⟨hi, hall⟩
    repeat' (first
    | refine w_op rfl (by simp (disch := first | omega | (simp; omega)) [go_sem, Try.ntmps27, -Option.map_eq_some_iff]; rfl) ?_
    | refine l_op rfl (by simp (disch := first | omega | (simp; omega)) [go_sem, Try.ntmps27, -Option.map_eq_some_iff]; exact ⟨rfl, rfl⟩) ?_
    | refine w_end (by simp [go_sem, K27]; rfl) ?_
    | refine l_end (by kernel_rfl) (by simp [go_sem, K27]; rfl) ?_
    | refine w_yes' (by simpa [go_sem, *] using trivial) rfl (by simp (disch := first | omega | (simp; omega)) [go_sem, Try.ntmps27, -Option.map_eq_some_iff]; rfl) ?_
    | refine w_no' (by simpa [go_sem, *] using trivial) rfl rfl (by simp [go_sem, skipE]; rfl) ?_
    | refine w_op rfl (by simp (disch := first | omega | (simp; omega)) [go_sem, Try.ntmps27, -Option.map_eq_some_iff, *]; rfl) ?_
    | refine l_op' (by simpa [go_sem, *] using trivial) rfl (by simp (disch := first | omega | (simp; omega)) [go_sem, Try.ntmps27, -Option.map_eq_some_iff, *]; exact ⟨rfl, rfl⟩) ?_
    | refine l_no' (by simpa [go_sem, *] using trivial) rfl rfl (by simp [go_sem, skipE]; rfl) ?_
    | refine k_seq ?_
    | refine a_seq ?_
    | refine a_reg ?_
    | refine a_draw ?_
    | refine k_seq_exit ?_
    | refine k_seq_ret ?_
    | refine k_blk ?_
    | refine k_blk_exit ?_
    | refine k_blk_other rfl ?_
    | refine k_blk_ret ?_
    | refine k_lop_exit ?_
    | refine k_lop_ret ?_
    | refine a_skip ?_
    | refine a_ret ?_
    | refine a_exit ?_
    | refine a_block ?_
    | (refine a_cond (by simp [go_sem, *, -Bool.not_eq_eq_eq_not]; rfl) (fun hr => ?_) (fun hr => ?_) <;> (have hc := hr) <;> (try simp only [Bool.not_eq_true', Bool.not_eq_false', Bool.and_eq_true, Bool.and_eq_false_imp, Bool.or_eq_true, Bool.or_eq_false_iff, Bool.not_eq_true, Bool.not_eq_false, decide_eq_true_eq, decide_eq_false_iff_not, Int.not_lt, Int.not_le, ge_iff_le, gt_iff_lt, decide_true, decide_false, Bool.false_eq_true, reduceCtorEq, beq_iff_eq, beq_eq_false_iff_ne, ne_eq, bne_iff_ne, bne_eq_false_iff_eq, and_true, true_and, and_false, false_and] at hc) <;> (try (exfalso; omega)))
    | ((fail_if_success (refine w_same (by simpa [go_sem, *] using trivial) rfl ?_)); refine w_splv rfl (by simp [go_sem, *, -Bool.not_eq_eq_eq_not]; rfl) (fun hr => ?_) (fun hr => ?_) <;> (have hg := hr) <;> (try simp only [Bool.not_eq_true', Bool.not_eq_false', Bool.and_eq_true, Bool.and_eq_false_imp, Bool.or_eq_true, Bool.or_eq_false_iff, Bool.not_eq_true, Bool.not_eq_false, decide_eq_true_eq, decide_eq_false_iff_not, Int.not_lt, Int.not_le, ge_iff_le, gt_iff_lt, decide_true, decide_false, Bool.false_eq_true, reduceCtorEq, beq_iff_eq, beq_eq_false_iff_ne, ne_eq, bne_iff_ne, bne_eq_false_iff_eq, and_true, true_and, and_false, false_and] at hg) <;> (try (exfalso; omega)))
    | ((fail_if_success (refine l_same (by simpa [go_sem, *] using trivial) rfl ?_)); refine l_splv rfl (by simp [go_sem, *, -Bool.not_eq_eq_eq_not]; rfl) (fun hr => ?_) (fun hr => ?_) <;> (have hg := hr) <;> (try simp only [Bool.not_eq_true', Bool.not_eq_false', Bool.and_eq_true, Bool.and_eq_false_imp, Bool.or_eq_true, Bool.or_eq_false_iff, Bool.not_eq_true, Bool.not_eq_false, decide_eq_true_eq, decide_eq_false_iff_not, Int.not_lt, Int.not_le, ge_iff_le, gt_iff_lt, decide_true, decide_false, Bool.false_eq_true, reduceCtorEq, beq_iff_eq, beq_eq_false_iff_ne, ne_eq, bne_iff_ne, bne_eq_false_iff_eq, and_true, true_and, and_false, false_and] at hg) <;> (try (exfalso; omega))))
    · refine k_ret (by simp [go_sem]; first | exact ⟨rfl, rfl⟩ | rfl) ?_ rfl
      have : ¬ xs = ys := by rintro rfl; simp at hc
      simp [this]
    · refine k_lop (i + 1) ⟨by omega, fun j hj => ?_⟩ (by omega) (Weak.refl _)
      rcases Nat.lt_or_ge j i with h | h
      · exact hall j h
      · have : j = i := by omega
        subst this; simp_all
    · refine k_ret (by simp [go_sem]; first | exact ⟨rfl, rfl⟩ | rfl) ?_ rfl
      have := ints_eq hl (fun j hj => hall j (by omega))
      simp [this]
def cpI (l : List Int) (i : Nat) : List Int := l.take i ++ List.replicate (l.length - i) 0
theorem zI_eq (n : Nat) : List.replicate n [Sc.int 0] = ints (List.replicate n 0) := by simp [ints]
theorem cpI_len {l : List Int} {i : Nat} (h : i ≤ l.length) : (cpI l i).length = l.length := by simp [cpI]; omega
theorem cpI_0 (l : List Int) : cpI l 0 = List.replicate l.length 0 := by simp [cpI]
theorem cpI_all (l : List Int) : cpI l l.length = l := by simp [cpI]
theorem cpI_set {l : List Int} {i : Nat} (h : i < l.length) : (cpI l i).set i (ix l i) = cpI l (i + 1) := by
  have e1 : List.replicate (l.length - i) (0 : Int) = 0 :: List.replicate (l.length - (i + 1)) 0 := by
    have : l.length - i = (l.length - (i + 1)) + 1 := by omega
    rw [this]; rfl
  have e2 : l.take (i + 1) = l.take i ++ [ix l i] := by
    rw [List.take_add_one]; simp [ix, h]
  unfold cpI
  rw [e1, e2, List.set_append_right _ _ (by rw [List.length_take]; omega)]
  have e3 : i - (List.take i l).length = 0 := by rw [List.length_take]; omega
  rw [e3]
  simp
end Go.Proofs.Try

namespace Go.Proofs.Try
open Go Go.Eng
instance : Con Try.prog 27 (specOf eqIntS_sat) := con eqIntS_sat Try.func27
end Go.Proofs.Try
/- Plain: letters, words. -/
namespace Go.Proofs.Try
open Go Go.Eng
def lts : Nat → List Int
  | 0 => []
  | n + 1 => lts n ++ [(n + 1 : Int), -(n + 1 : Int)]
theorem lts_len (n : Nat) : (lts n).length = 2 * n := by
  induction n with
  | zero => rfl
  | succ n ih => simp [lts, ih]; omega
theorem intsApp2 (l : List Int) (a b : Int) : ints l ++ [[.int a], [.int b]] = ints (l ++ [a, b]) := by simp [ints]
attribute [go_sem] intsApp2
abbrev oL (e : Nat) (l : List Int) : Go.Eng.Obj := .flat e 1 (ints l)
end Go.Proofs.Try
namespace Go.Proofs.Try
open Go Go.Eng
set_option linter.unnecessarySimpa false
set_option linter.unusedSimpArgs false
set_option maxHeartbeats 4000000
def K_copyInts_sat : Nat → List Nat := fun i => ([[0], [2]] : List (List Nat)).getD i []
attribute [go_sem] K_copyInts_sat
def copyInts_sat_S : Eng.Spec := fun args av objs => ∃ (l : List Int), (l.length ≤ 1099511627776) ∧ args = [aL l] ∧ av = aR 0 ∧ objs = [oL 3 l]
theorem copyInts_sat : Sat Try.prog 124 copyInts_sat_S := by
  refine sat_of tok okr mixed K_copyInts_sat Try.func124 rfl (rs := [.tmp 2]) rfl Try.ntmps124 ?_
  rintro args av objs ⟨l, hpre, rfl, rfl, rfl⟩
  refine ⟨by show 1 ≤ 6; decide, ?_⟩
  repeat' (first
    | (refine ya ?_; first | refine ye ?_)
    | refine yz ?_
    | refine k_seq ?_
    | refine a_seq ?_
    | refine a_reg ?_
    | refine k_seq_exit ?_
    | refine k_blk ?_
    | refine k_blk_exit ?_
    | refine k_blk_other rfl ?_
    | refine k_blk_ret ?_
    | refine a_exit ?_
    | refine a_block ?_
    | refine k_seq_ret ?_
    | refine a_skip ?_
    | refine a_ret ?_
    | refine k_lop_exit ?_
    | refine k_lop_ret ?_
    | (refine z_cond (h1 := ?_) (h2 := ?_) <;> intro hc hr <;> (try first | contradiction | (exfalso; omega))))
  all_goals refine z_ret (hv := ?_) (ho := ?_)
  all_goals simp [go_sem]
instance : Con Try.prog 124 copyInts_sat_S := con copyInts_sat Try.func124
def K_letters_sat : Nat → List Nat := fun i => ([[0], [0, 3], [0, 3, 4], [0, 3, 4, 8], [0, 3, 4], [0, 3, 4], [2]] : List (List Nat)).getD i []
attribute [go_sem] K_letters_sat
def letters_sat_S : Eng.Spec := fun args av objs => ∃ (r : Int), (r ≤ 1000000) ∧ args = [aI r] ∧ av = aR 0 ∧ objs = [oL 3 (lts r.toNat)]
theorem letters_sat : Sat Try.prog 112 letters_sat_S := by
  refine sat_of tok okr mixed K_letters_sat Try.func112 rfl (rs := [.tmp 2]) rfl Try.ntmps112 ?_
  rintro args av objs ⟨r, hpre, rfl, rfl, rfl⟩
  refine ⟨by show 1 ≤ 18; decide, ?_⟩
  repeat' (first
    | (refine ya ?_; first | refine ye ?_)
    | refine yz ?_
    | refine k_seq ?_
    | refine a_seq ?_
    | refine a_reg ?_
    | refine k_seq_exit ?_
    | refine k_blk ?_
    | refine k_blk_exit ?_
    | refine k_blk_other rfl ?_
    | refine k_blk_ret ?_
    | refine a_exit ?_
    | refine a_block ?_
    | refine k_seq_ret ?_
    | refine a_skip ?_
    | refine a_ret ?_
    | refine k_lop_exit ?_
    | refine k_lop_ret ?_
    | (refine z_cond (h1 := ?_) (h2 := ?_) <;> intro hc hr <;> (try first | contradiction | (exfalso; omega))))
  refine z_loop (fun i : Nat => [(4, aI (i + 1))]) (fun i : Nat => [.obj 3 (oL 3 (lts i))]) (fun i : Nat => i ≤ r.toNat) (fun i : Nat => r.toNat - i) (0) (h0 := ?_) (henv := ?_) (hobj := ?_) (h := ?_)
  · omega
  · simp [go_sem, AVm, CVm, lookS, lts]
  · simp [go_sem, OBm, CVm, lookS, All2, lts]
  intro i hi
  have hl := lts_len i
  repeat' (first
    | (refine ya ?_; first | refine ye ?_)
    | refine yz ?_
    | refine k_seq ?_
    | refine a_seq ?_
    | refine a_reg ?_
    | refine k_seq_exit ?_
    | refine k_blk ?_
    | refine k_blk_exit ?_
    | refine k_blk_other rfl ?_
    | refine k_blk_ret ?_
    | refine a_exit ?_
    | refine a_block ?_
    | refine k_seq_ret ?_
    | refine a_skip ?_
    | refine a_ret ?_
    | refine k_lop_exit ?_
    | refine k_lop_ret ?_
    | (refine z_cond (h1 := ?_) (h2 := ?_) <;> intro hc hr <;> (try first | contradiction | (exfalso; omega))))
  · (refine z_lop (i + 1) (hj := ?_) (hmu := ?_) (henv := ?_) (hobj := ?_); (· omega); (· first | omega | (simp only; omega)); (· first | (simp [go_sem, AVm, CVm, lookS, lts, *]; done) | (simp [go_sem, AVm, CVm, lookS, lts, *] <;> (repeat' split) <;> first | omega | (simp_all; done) | (exfalso; omega) | (simp_all; omega))); (· first | (simp [go_sem, OBm, CVm, All2, lookS, lts, *]; done) | (simp [go_sem, OBm, CVm, All2, lookS, lts, *] <;> (repeat' split) <;> first | omega | (simp_all; done) | (exfalso; omega) | (simp_all; omega))))
  · have : i = r.toNat := by omega
    subst this
    refine z_ret (hv := ?_) (ho := ?_)
    all_goals rfl
instance : Con Try.prog 112 letters_sat_S := con letters_sat Try.func112
end Go.Proofs.Try
namespace Go.Proofs.Try
open Go Go.Eng
set_option linter.unnecessarySimpa false
set_option linter.unusedSimpArgs false
set_option maxHeartbeats 1000000

def cmpI (a b : Int) : Int := if a < b then -1 else if b < a then 1 else 0
def cmpE (p q : Ed) : Int := if cmpI p.1 q.1 ≠ 0 then cmpI p.1 q.1 else if cmpI p.2.1 q.2.1 ≠ 0 then cmpI p.2.1 q.2.1 else cmpI p.2.2 q.2.2
def cmpI_S : Eng.Spec := fun args av objs => ∃ a b : Int, args = [AV.one (.sc (.int a)), AV.one (.sc (.int b))] ∧ av = AV.one (.sc (.int (cmpI a b))) ∧ objs = []
def K119 : Nat → List Nat := fun i => ([[0, 1], [0, 1, 5], [4], [9], [4], [4]] : List (List Nat)).getD i []
theorem compareInts_sat : Sat Try.prog 119 cmpI_S := by
  refine sat_of tok okr mixed K119 Try.func119 rfl (rs := [.tmp 4]) rfl rfl ?_
  rintro args av objs ⟨a, b, rfl, rfl, rfl⟩
  refine ⟨by show 2 ≤ 13; decide, ?_⟩
  repeat' (first
    | refine w_op rfl (by simp (disch := first | omega | (simp; omega)) [go_sem, Try.ntmps119, -Option.map_eq_some_iff]; rfl) ?_
    | refine l_op rfl (by simp (disch := first | omega | (simp; omega)) [go_sem, Try.ntmps119, -Option.map_eq_some_iff]; exact ⟨rfl, rfl⟩) ?_
    | refine w_end (by simp [go_sem, K119]; rfl) ?_
    | refine l_end (by kernel_rfl) (by simp [go_sem, K119]; rfl) ?_
    | refine w_yes' (by simpa [go_sem, *] using trivial) rfl (by simp (disch := first | omega | (simp; omega)) [go_sem, Try.ntmps119, -Option.map_eq_some_iff]; rfl) ?_
    | refine w_no' (by simpa [go_sem, *] using trivial) rfl rfl (by simp [go_sem, skipE]; rfl) ?_
    | refine w_op rfl (by simp (disch := first | omega | (simp; omega)) [go_sem, Try.ntmps119, -Option.map_eq_some_iff, *]; rfl) ?_
    | refine l_op' (by simpa [go_sem, *] using trivial) rfl (by simp (disch := first | omega | (simp; omega)) [go_sem, Try.ntmps119, -Option.map_eq_some_iff, *]; exact ⟨rfl, rfl⟩) ?_
    | refine l_no' (by simpa [go_sem, *] using trivial) rfl rfl (by simp [go_sem, skipE]; rfl) ?_
    | refine k_seq ?_
    | refine a_seq ?_
    | refine a_reg ?_
    | refine a_draw ?_
    | refine k_seq_exit ?_
    | refine k_seq_ret ?_
    | refine k_blk ?_
    | refine k_blk_exit ?_
    | refine k_blk_other rfl ?_
    | refine k_blk_ret ?_
    | refine k_lop_exit ?_
    | refine k_lop_ret ?_
    | refine a_skip ?_
    | refine a_ret ?_
    | refine a_exit ?_
    | refine a_block ?_
    | (refine a_cond (by simp [go_sem, *, -Bool.not_eq_eq_eq_not]; rfl) (fun hr => ?_) (fun hr => ?_) <;> (have hc := hr) <;> (try simp only [Bool.not_eq_true', Bool.not_eq_false', Bool.and_eq_true, Bool.and_eq_false_imp, Bool.or_eq_true, Bool.or_eq_false_iff, Bool.not_eq_true, Bool.not_eq_false, decide_eq_true_eq, decide_eq_false_iff_not, Int.not_lt, Int.not_le, ge_iff_le, gt_iff_lt, decide_true, decide_false, Bool.false_eq_true, reduceCtorEq, beq_iff_eq, beq_eq_false_iff_ne, ne_eq, bne_iff_ne, bne_eq_false_iff_eq, and_true, true_and, and_false, false_and] at hc) <;> (try (exfalso; omega)))
    | ((fail_if_success (refine w_same (by simpa [go_sem, *] using trivial) rfl ?_)); refine w_splv rfl (by simp [go_sem, *, -Bool.not_eq_eq_eq_not]; rfl) (fun hr => ?_) (fun hr => ?_) <;> (have hg := hr) <;> (try simp only [Bool.not_eq_true', Bool.not_eq_false', Bool.and_eq_true, Bool.and_eq_false_imp, Bool.or_eq_true, Bool.or_eq_false_iff, Bool.not_eq_true, Bool.not_eq_false, decide_eq_true_eq, decide_eq_false_iff_not, Int.not_lt, Int.not_le, ge_iff_le, gt_iff_lt, decide_true, decide_false, Bool.false_eq_true, reduceCtorEq, beq_iff_eq, beq_eq_false_iff_ne, ne_eq, bne_iff_ne, bne_eq_false_iff_eq, and_true, true_and, and_false, false_and] at hg) <;> (try (exfalso; omega)))
    | ((fail_if_success (refine l_same (by simpa [go_sem, *] using trivial) rfl ?_)); refine l_splv rfl (by simp [go_sem, *, -Bool.not_eq_eq_eq_not]; rfl) (fun hr => ?_) (fun hr => ?_) <;> (have hg := hr) <;> (try simp only [Bool.not_eq_true', Bool.not_eq_false', Bool.and_eq_true, Bool.and_eq_false_imp, Bool.or_eq_true, Bool.or_eq_false_iff, Bool.not_eq_true, Bool.not_eq_false, decide_eq_true_eq, decide_eq_false_iff_not, Int.not_lt, Int.not_le, ge_iff_le, gt_iff_lt, decide_true, decide_false, Bool.false_eq_true, reduceCtorEq, beq_iff_eq, beq_eq_false_iff_ne, ne_eq, bne_iff_ne, bne_eq_false_iff_eq, and_true, true_and, and_false, false_and] at hg) <;> (try (exfalso; omega))))
  all_goals refine k_ret (by simp [go_sem]; first | exact ⟨rfl, rfl⟩ | rfl) ?_ rfl
  all_goals simp [cmpI, *]
  all_goals omega

def cmpE_S : Eng.Spec := fun args av objs => ∃ p q : Ed, args = [edA p, edA q] ∧ av = AV.one (.sc (.int (cmpE p q))) ∧ objs = []
def K99 : Nat → List Nat := fun i => ([[2, 3], [2, 3, 5], [2, 3, 5, 13], [4], [2, 3, 6], [2, 3, 6, 21], [4], [4]] : List (List Nat)).getD i []
theorem compareEdges_sat : Sat Try.prog 99 cmpE_S := by
  refine sat_of tok okr mixed K99 Try.func99 rfl (rs := [.tmp 4]) rfl rfl ?_
  rintro args av objs ⟨p, q, rfl, rfl, rfl⟩
  refine ⟨by show 2 ≤ 28; decide, ?_⟩
  repeat' (first
    | refine w_op rfl (by simp (disch := first | omega | (simp; omega)) [go_sem, edA, Try.ntmps99, -Option.map_eq_some_iff]; rfl) ?_
    | refine l_op rfl (by simp (disch := first | omega | (simp; omega)) [go_sem, edA, Try.ntmps99, -Option.map_eq_some_iff]; exact ⟨rfl, rfl⟩) ?_
    | refine w_end (by simp [go_sem, K99]; rfl) ?_
    | refine l_end (by kernel_rfl) (by simp [go_sem, K99]; rfl) ?_
    | refine w_fn compareInts_sat rfl Try.func119 rfl rfl (by first | rfl | (simpa [go_sem, *] using trivial)) rfl rfl (by simp [go_sem]; exact ⟨rfl, rfl⟩) (by exact ⟨_, _, rfl, rfl, rfl⟩) (by rfl) (by rfl) (by rfl) (by simp [go_sem]; rfl) ?_
    | refine l_fn compareInts_sat rfl Try.func119 rfl rfl (by first | rfl | (simpa [go_sem, *] using trivial)) rfl rfl (by simp [go_sem]; exact ⟨rfl, rfl⟩) (by exact ⟨_, _, rfl, rfl, rfl⟩) (by rfl) (by rfl) (by rfl) (by simp [go_sem]; rfl) ?_
    | refine w_yes' (by simpa [go_sem, *] using trivial) rfl (by simp (disch := first | omega | (simp; omega)) [go_sem, edA, Try.ntmps99, -Option.map_eq_some_iff]; rfl) ?_
    | refine w_no' (by simpa [go_sem, *] using trivial) rfl rfl (by simp [go_sem, skipE]; rfl) ?_
    | refine w_op rfl (by simp (disch := first | omega | (simp; omega)) [go_sem, edA, Try.ntmps99, -Option.map_eq_some_iff, *]; rfl) ?_
    | refine l_op' (by simpa [go_sem, *] using trivial) rfl (by simp (disch := first | omega | (simp; omega)) [go_sem, edA, Try.ntmps99, -Option.map_eq_some_iff, *]; exact ⟨rfl, rfl⟩) ?_
    | refine l_no' (by simpa [go_sem, *] using trivial) rfl rfl (by simp [go_sem, skipE]; rfl) ?_
    | refine k_seq ?_
    | refine a_seq ?_
    | refine a_reg ?_
    | refine a_draw ?_
    | refine k_seq_exit ?_
    | refine k_seq_ret ?_
    | refine k_blk ?_
    | refine k_blk_exit ?_
    | refine k_blk_other rfl ?_
    | refine k_blk_ret ?_
    | refine k_lop_exit ?_
    | refine k_lop_ret ?_
    | refine a_skip ?_
    | refine a_ret ?_
    | refine a_exit ?_
    | refine a_block ?_
    | (refine a_cond (by simp [go_sem, *, -Bool.not_eq_eq_eq_not]; rfl) (fun hr => ?_) (fun hr => ?_) <;> (have hc := hr) <;> (try simp only [Bool.not_eq_true', Bool.not_eq_false', Bool.and_eq_true, Bool.and_eq_false_imp, Bool.or_eq_true, Bool.or_eq_false_iff, Bool.not_eq_true, Bool.not_eq_false, decide_eq_true_eq, decide_eq_false_iff_not, Int.not_lt, Int.not_le, ge_iff_le, gt_iff_lt, decide_true, decide_false, Bool.false_eq_true, reduceCtorEq, beq_iff_eq, beq_eq_false_iff_ne, ne_eq, bne_iff_ne, bne_eq_false_iff_eq, and_true, true_and, and_false, false_and] at hc) <;> (try (exfalso; omega)))
    | ((fail_if_success (refine w_same (by simpa [go_sem, *] using trivial) rfl ?_)); refine w_splv rfl (by simp [go_sem, *, -Bool.not_eq_eq_eq_not]; rfl) (fun hr => ?_) (fun hr => ?_) <;> (have hg := hr) <;> (try simp only [Bool.not_eq_true', Bool.not_eq_false', Bool.and_eq_true, Bool.and_eq_false_imp, Bool.or_eq_true, Bool.or_eq_false_iff, Bool.not_eq_true, Bool.not_eq_false, decide_eq_true_eq, decide_eq_false_iff_not, Int.not_lt, Int.not_le, ge_iff_le, gt_iff_lt, decide_true, decide_false, Bool.false_eq_true, reduceCtorEq, beq_iff_eq, beq_eq_false_iff_ne, ne_eq, bne_iff_ne, bne_eq_false_iff_eq, and_true, true_and, and_false, false_and] at hg) <;> (try (exfalso; omega)))
    | ((fail_if_success (refine l_same (by simpa [go_sem, *] using trivial) rfl ?_)); refine l_splv rfl (by simp [go_sem, *, -Bool.not_eq_eq_eq_not]; rfl) (fun hr => ?_) (fun hr => ?_) <;> (have hg := hr) <;> (try simp only [Bool.not_eq_true', Bool.not_eq_false', Bool.and_eq_true, Bool.and_eq_false_imp, Bool.or_eq_true, Bool.or_eq_false_iff, Bool.not_eq_true, Bool.not_eq_false, decide_eq_true_eq, decide_eq_false_iff_not, Int.not_lt, Int.not_le, ge_iff_le, gt_iff_lt, decide_true, decide_false, Bool.false_eq_true, reduceCtorEq, beq_iff_eq, beq_eq_false_iff_ne, ne_eq, bne_iff_ne, bne_eq_false_iff_eq, and_true, true_and, and_false, false_and] at hg) <;> (try (exfalso; omega))))
  all_goals refine k_ret (by simp [go_sem]; first | exact ⟨rfl, rfl⟩ | rfl) ?_ rfl
  all_goals simp_all [cmpE]

def K91 : Nat → List Nat := fun i => ([[2, 3], [3, 5], [5, 6], [5, 6, 7], [5, 6, 7, 23], [5, 6, 7], [5, 6, 7, 34], [4], [5, 6, 7, 43], [4], [4]] : List (List Nat)).getD i []
theorem compareEdges_sat2 : Sat Try.prog 91 cmpE_S := by
  refine sat_of tok okr mixed K91 Try.func91 rfl (rs := [.tmp 4]) rfl rfl ?_
  rintro args av objs ⟨⟨p0, p1, p2⟩, ⟨q0, q1, q2⟩, rfl, rfl, rfl⟩
  refine ⟨by show 2 ≤ 44; decide, ?_⟩
  repeat' (first
    | refine w_op rfl (by simp (disch := first | omega | (simp; omega)) [go_sem, edA, Try.ntmps91, -Option.map_eq_some_iff]; rfl) ?_
    | refine l_op rfl (by simp (disch := first | omega | (simp; omega)) [go_sem, edA, Try.ntmps91, -Option.map_eq_some_iff]; exact ⟨rfl, rfl⟩) ?_
    | refine w_end (by simp [go_sem, K91]; rfl) ?_
    | refine l_end (by kernel_rfl) (by simp [go_sem, K91]; rfl) ?_
    | refine w_yes' (by simpa [go_sem, *] using trivial) rfl (by simp (disch := first | omega | (simp; omega)) [go_sem, edA, Try.ntmps91, -Option.map_eq_some_iff]; rfl) ?_
    | refine w_no' (by simpa [go_sem, *] using trivial) rfl rfl (by simp [go_sem, skipE]; rfl) ?_
    | refine w_op rfl (by simp (disch := first | omega | (simp; omega)) [go_sem, edA, Try.ntmps91, -Option.map_eq_some_iff, *]; rfl) ?_
    | refine l_op' (by simpa [go_sem, *] using trivial) rfl (by simp (disch := first | omega | (simp; omega)) [go_sem, edA, Try.ntmps91, -Option.map_eq_some_iff, *]; exact ⟨rfl, rfl⟩) ?_
    | refine l_no' (by simpa [go_sem, *] using trivial) rfl rfl (by simp [go_sem, skipE]; rfl) ?_
    | refine k_seq ?_
    | refine a_seq ?_
    | refine a_reg ?_
    | refine a_draw ?_
    | refine k_seq_exit ?_
    | refine k_seq_ret ?_
    | refine k_blk ?_
    | refine k_blk_exit ?_
    | refine k_blk_other rfl ?_
    | refine k_blk_ret ?_
    | refine k_lop_exit ?_
    | refine k_lop_ret ?_
    | refine a_skip ?_
    | refine a_ret ?_
    | refine a_exit ?_
    | refine a_block ?_
    | (refine a_cond (by simp [go_sem, *, -Bool.not_eq_eq_eq_not]; rfl) (fun hr => ?_) (fun hr => ?_) <;> (have hc := hr) <;> (try simp only [Bool.not_eq_true', Bool.not_eq_false', Bool.and_eq_true, Bool.and_eq_false_imp, Bool.or_eq_true, Bool.or_eq_false_iff, Bool.not_eq_true, Bool.not_eq_false, decide_eq_true_eq, decide_eq_false_iff_not, Int.not_lt, Int.not_le, ge_iff_le, gt_iff_lt, decide_true, decide_false, Bool.false_eq_true, reduceCtorEq, beq_iff_eq, beq_eq_false_iff_ne, ne_eq, bne_iff_ne, bne_eq_false_iff_eq, and_true, true_and, and_false, false_and] at hc) <;> (try (exfalso; omega)))
    | ((fail_if_success (refine w_same (by simpa [go_sem, *] using trivial) rfl ?_)); refine w_splv rfl (by simp [go_sem, *, -Bool.not_eq_eq_eq_not]; rfl) (fun hr => ?_) (fun hr => ?_) <;> (have hg := hr) <;> (try simp only [Bool.not_eq_true', Bool.not_eq_false', Bool.and_eq_true, Bool.and_eq_false_imp, Bool.or_eq_true, Bool.or_eq_false_iff, Bool.not_eq_true, Bool.not_eq_false, decide_eq_true_eq, decide_eq_false_iff_not, Int.not_lt, Int.not_le, ge_iff_le, gt_iff_lt, decide_true, decide_false, Bool.false_eq_true, reduceCtorEq, beq_iff_eq, beq_eq_false_iff_ne, ne_eq, bne_iff_ne, bne_eq_false_iff_eq, and_true, true_and, and_false, false_and] at hg) <;> (try (exfalso; omega)))
    | ((fail_if_success (refine l_same (by simpa [go_sem, *] using trivial) rfl ?_)); refine l_splv rfl (by simp [go_sem, *, -Bool.not_eq_eq_eq_not]; rfl) (fun hr => ?_) (fun hr => ?_) <;> (have hg := hr) <;> (try simp only [Bool.not_eq_true', Bool.not_eq_false', Bool.and_eq_true, Bool.and_eq_false_imp, Bool.or_eq_true, Bool.or_eq_false_iff, Bool.not_eq_true, Bool.not_eq_false, decide_eq_true_eq, decide_eq_false_iff_not, Int.not_lt, Int.not_le, ge_iff_le, gt_iff_lt, decide_true, decide_false, Bool.false_eq_true, reduceCtorEq, beq_iff_eq, beq_eq_false_iff_ne, ne_eq, bne_iff_ne, bne_eq_false_iff_eq, and_true, true_and, and_false, false_and] at hg) <;> (try (exfalso; omega))))
  refine a_loop (fun i : Nat => ⟨44, [(5, AV.one (.ref 5)), (6, AV.one (.ref 6)), (7, AV.one (.sc (.int i)))], [(5, some (.flat 3 1 [[.int p0], [.int p1], [.int p2]])), (6, some (.flat 3 1 [[.int q0], [.int q1], [.int q2]]))], [5, 6]⟩) (fun i => i ≤ 3 ∧ (1 ≤ i → p0 = q0) ∧ (2 ≤ i → p1 = q1) ∧ (3 ≤ i → p2 = q2)) (fun i => 3 - i) 0 (by omega) ?_ ?_
  · refine weak_of [(5, .obj 112), (6, .obj 168)] rfl (by decide) ?_ ?_ rfl
    · simp [go_sem, AVm, CVm, lookS]
    · simp [go_sem, OBm, CVm, lookS, All2]
  · rintro i ⟨hi, h0, h1, h2⟩
    rcases (show i = 0 ∨ i = 1 ∨ i = 2 ∨ i = 3 by omega) with rfl | rfl | rfl | rfl
    all_goals simp only [Nat.le_refl, forall_const, Nat.reduceLeDiff, false_implies] at h0 h1 h2
    all_goals repeat' (first
    | refine w_op rfl (by simp (disch := first | omega | (simp; omega)) [go_sem, Try.ntmps91, -Option.map_eq_some_iff]; rfl) ?_
    | refine l_op rfl (by simp (disch := first | omega | (simp; omega)) [go_sem, Try.ntmps91, -Option.map_eq_some_iff]; exact ⟨rfl, rfl⟩) ?_
    | refine w_end (by simp [go_sem, K91]; rfl) ?_
    | refine l_end (by kernel_rfl) (by simp [go_sem, K91]; rfl) ?_
    | refine w_yes' (by simpa [go_sem, *] using trivial) rfl (by simp (disch := first | omega | (simp; omega)) [go_sem, Try.ntmps91, -Option.map_eq_some_iff]; rfl) ?_
    | refine w_no' (by simpa [go_sem, *] using trivial) rfl rfl (by simp [go_sem, skipE]; rfl) ?_
    | refine w_op rfl (by simp (disch := first | omega | (simp; omega)) [go_sem, Try.ntmps91, -Option.map_eq_some_iff, *]; rfl) ?_
    | refine l_op' (by simpa [go_sem, *] using trivial) rfl (by simp (disch := first | omega | (simp; omega)) [go_sem, Try.ntmps91, -Option.map_eq_some_iff, *]; exact ⟨rfl, rfl⟩) ?_
    | refine l_no' (by simpa [go_sem, *] using trivial) rfl rfl (by simp [go_sem, skipE]; rfl) ?_
    | refine k_seq ?_
    | refine a_seq ?_
    | refine a_reg ?_
    | refine a_draw ?_
    | refine k_seq_exit ?_
    | refine k_seq_ret ?_
    | refine k_blk ?_
    | refine k_blk_exit ?_
    | refine k_blk_other rfl ?_
    | refine k_blk_ret ?_
    | refine k_lop_exit ?_
    | refine k_lop_ret ?_
    | refine a_skip ?_
    | refine a_ret ?_
    | refine a_exit ?_
    | refine a_block ?_
    | (refine a_cond (by simp [go_sem, *, -Bool.not_eq_eq_eq_not]; rfl) (fun hr => ?_) (fun hr => ?_) <;> (have hc := hr) <;> (try simp only [Bool.not_eq_true', Bool.not_eq_false', Bool.and_eq_true, Bool.and_eq_false_imp, Bool.or_eq_true, Bool.or_eq_false_iff, Bool.not_eq_true, Bool.not_eq_false, decide_eq_true_eq, decide_eq_false_iff_not, Int.not_lt, Int.not_le, ge_iff_le, gt_iff_lt, decide_true, decide_false, Bool.false_eq_true, reduceCtorEq, beq_iff_eq, beq_eq_false_iff_ne, ne_eq, bne_iff_ne, bne_eq_false_iff_eq, and_true, true_and, and_false, false_and] at hc) <;> (try (exfalso; omega)))
    | ((fail_if_success (refine w_same (by simpa [go_sem, *] using trivial) rfl ?_)); refine w_splv rfl (by simp [go_sem, *, -Bool.not_eq_eq_eq_not]; rfl) (fun hr => ?_) (fun hr => ?_) <;> (have hg := hr) <;> (try simp only [Bool.not_eq_true', Bool.not_eq_false', Bool.and_eq_true, Bool.and_eq_false_imp, Bool.or_eq_true, Bool.or_eq_false_iff, Bool.not_eq_true, Bool.not_eq_false, decide_eq_true_eq, decide_eq_false_iff_not, Int.not_lt, Int.not_le, ge_iff_le, gt_iff_lt, decide_true, decide_false, Bool.false_eq_true, reduceCtorEq, beq_iff_eq, beq_eq_false_iff_ne, ne_eq, bne_iff_ne, bne_eq_false_iff_eq, and_true, true_and, and_false, false_and] at hg) <;> (try (exfalso; omega)))
    | ((fail_if_success (refine l_same (by simpa [go_sem, *] using trivial) rfl ?_)); refine l_splv rfl (by simp [go_sem, *, -Bool.not_eq_eq_eq_not]; rfl) (fun hr => ?_) (fun hr => ?_) <;> (have hg := hr) <;> (try simp only [Bool.not_eq_true', Bool.not_eq_false', Bool.and_eq_true, Bool.and_eq_false_imp, Bool.or_eq_true, Bool.or_eq_false_iff, Bool.not_eq_true, Bool.not_eq_false, decide_eq_true_eq, decide_eq_false_iff_not, Int.not_lt, Int.not_le, ge_iff_le, gt_iff_lt, decide_true, decide_false, Bool.false_eq_true, reduceCtorEq, beq_iff_eq, beq_eq_false_iff_ne, ne_eq, bne_iff_ne, bne_eq_false_iff_eq, and_true, true_and, and_false, false_and] at hg) <;> (try (exfalso; omega))))
    all_goals first
      | (refine k_lop 1 ⟨by omega, by omega, by omega, by omega⟩ (by omega) (Weak.refl _); done)
      | (refine k_lop 2 ⟨by omega, by omega, by omega, by omega⟩ (by omega) (Weak.refl _); done)
      | (refine k_lop 3 ⟨by omega, by omega, by omega, by omega⟩ (by omega) (Weak.refl _); done)
      | (refine k_ret (by simp [go_sem]; first | exact ⟨rfl, rfl⟩ | rfl) ?_ rfl; simp [cmpE, cmpI]; omega)
      | (refine k_ret (by simp [go_sem]; first | exact ⟨rfl, rfl⟩ | rfl) ?_ rfl; simp_all [cmpE, cmpI])

def edOk (r z : Int) (p : Ed) : Bool := decide (0 ≤ p.1 ∧ p.1 ≤ w64 (z - 1)) && decide (0 ≤ p.2.2 ∧ p.2.2 ≤ w64 (z - 1)) && decide (1 ≤ p.2.1 ∧ p.2.1 ≤ r)
def edOk_S : Eng.Spec := fun args av objs => ∃ (r z : Int) (es : List Ed) (p : Ed), args = [grA r z es, edA p] ∧ av = AV.one (.sc (.bool (edOk r z p))) ∧ objs = []
def K90 : Nat → List Nat := fun i => ([[2, 3], [4]] : List (List Nat)).getD i []
theorem l4Edge_sat : Sat Try.prog 90 edOk_S := by
  refine sat_of tok okr mixed K90 Try.func90 rfl (rs := [.tmp 4]) rfl rfl ?_
  rintro args av objs ⟨r, z, es, p, rfl, rfl, rfl⟩
  refine ⟨by show 2 ≤ 26; decide, ?_⟩
  repeat' (first
    | refine w_op rfl (by simp (disch := first | omega | (simp; omega)) [go_sem, edA, grA, Try.ntmps90, -Option.map_eq_some_iff]; rfl) ?_
    | refine l_op rfl (by simp (disch := first | omega | (simp; omega)) [go_sem, edA, grA, Try.ntmps90, -Option.map_eq_some_iff]; exact ⟨rfl, rfl⟩) ?_
    | refine w_end (by simp [go_sem, K90]; rfl) ?_
    | refine l_end (by kernel_rfl) (by simp [go_sem, K90]; rfl) ?_
    | refine w_fn l1In_sat rfl Try.func92 rfl rfl (by first | rfl | (simpa [go_sem, *] using trivial)) rfl rfl (by simp [go_sem]; exact ⟨rfl, rfl⟩) (by exact ⟨_, _, _, rfl, rfl, rfl⟩) (by rfl) (by rfl) (by rfl) (by simp [go_sem]; rfl) ?_
    | refine l_fn l1In_sat rfl Try.func92 rfl rfl (by first | rfl | (simpa [go_sem, *] using trivial)) rfl rfl (by simp [go_sem]; exact ⟨rfl, rfl⟩) (by exact ⟨_, _, _, rfl, rfl, rfl⟩) (by rfl) (by rfl) (by rfl) (by simp [go_sem]; rfl) ?_
    | refine w_yes' (by simpa [go_sem, *] using trivial) rfl (by simp (disch := first | omega | (simp; omega)) [go_sem, edA, grA, Try.ntmps90, -Option.map_eq_some_iff]; rfl) ?_
    | refine w_no' (by simpa [go_sem, *] using trivial) rfl rfl (by simp [go_sem, skipE]; rfl) ?_
    | refine w_op rfl (by simp (disch := first | omega | (simp; omega)) [go_sem, edA, grA, Try.ntmps90, -Option.map_eq_some_iff, *]; rfl) ?_
    | refine l_op' (by simpa [go_sem, *] using trivial) rfl (by simp (disch := first | omega | (simp; omega)) [go_sem, edA, grA, Try.ntmps90, -Option.map_eq_some_iff, *]; exact ⟨rfl, rfl⟩) ?_
    | refine l_no' (by simpa [go_sem, *] using trivial) rfl rfl (by simp [go_sem, skipE]; rfl) ?_
    | refine k_seq ?_
    | refine a_seq ?_
    | refine a_reg ?_
    | refine a_draw ?_
    | refine k_seq_exit ?_
    | refine k_seq_ret ?_
    | refine k_blk ?_
    | refine k_blk_exit ?_
    | refine k_blk_other rfl ?_
    | refine k_blk_ret ?_
    | refine k_lop_exit ?_
    | refine k_lop_ret ?_
    | refine a_skip ?_
    | refine a_ret ?_
    | refine a_exit ?_
    | refine a_block ?_
    | (refine a_cond (by simp [go_sem, *, -Bool.not_eq_eq_eq_not]; rfl) (fun hr => ?_) (fun hr => ?_) <;> (have hc := hr) <;> (try simp only [Bool.not_eq_true', Bool.not_eq_false', Bool.and_eq_true, Bool.and_eq_false_imp, Bool.or_eq_true, Bool.or_eq_false_iff, Bool.not_eq_true, Bool.not_eq_false, decide_eq_true_eq, decide_eq_false_iff_not, Int.not_lt, Int.not_le, ge_iff_le, gt_iff_lt, decide_true, decide_false, Bool.false_eq_true, reduceCtorEq, beq_iff_eq, beq_eq_false_iff_ne, ne_eq, bne_iff_ne, bne_eq_false_iff_eq, and_true, true_and, and_false, false_and] at hc) <;> (try (exfalso; omega)))
    | ((fail_if_success (refine w_same (by simpa [go_sem, *] using trivial) rfl ?_)); refine w_splv rfl (by simp [go_sem, *, -Bool.not_eq_eq_eq_not]; rfl) (fun hr => ?_) (fun hr => ?_) <;> (have hg := hr) <;> (try simp only [Bool.not_eq_true', Bool.not_eq_false', Bool.and_eq_true, Bool.and_eq_false_imp, Bool.or_eq_true, Bool.or_eq_false_iff, Bool.not_eq_true, Bool.not_eq_false, decide_eq_true_eq, decide_eq_false_iff_not, Int.not_lt, Int.not_le, ge_iff_le, gt_iff_lt, decide_true, decide_false, Bool.false_eq_true, reduceCtorEq, beq_iff_eq, beq_eq_false_iff_ne, ne_eq, bne_iff_ne, bne_eq_false_iff_eq, and_true, true_and, and_false, false_and] at hg) <;> (try (exfalso; omega)))
    | ((fail_if_success (refine l_same (by simpa [go_sem, *] using trivial) rfl ?_)); refine l_splv rfl (by simp [go_sem, *, -Bool.not_eq_eq_eq_not]; rfl) (fun hr => ?_) (fun hr => ?_) <;> (have hg := hr) <;> (try simp only [Bool.not_eq_true', Bool.not_eq_false', Bool.and_eq_true, Bool.and_eq_false_imp, Bool.or_eq_true, Bool.or_eq_false_iff, Bool.not_eq_true, Bool.not_eq_false, decide_eq_true_eq, decide_eq_false_iff_not, Int.not_lt, Int.not_le, ge_iff_le, gt_iff_lt, decide_true, decide_false, Bool.false_eq_true, reduceCtorEq, beq_iff_eq, beq_eq_false_iff_ne, ne_eq, bne_iff_ne, bne_eq_false_iff_eq, and_true, true_and, and_false, false_and] at hg) <;> (try (exfalso; omega))))
  all_goals refine k_ret (by simp [go_sem]; first | exact ⟨rfl, rfl⟩ | rfl) ?_ rfl
  all_goals simp_all [edOk]
  all_goals intros
  all_goals omega

def K55 : Nat → List Nat := fun i => ([[1, 2], [2]] : List (List Nat)).getD i []
def copyG_S : Eng.Spec := fun args av objs => ∃ (r z : Int) (es : List Ed), es.length ≤ 1099511627776 ∧ args = [grA r z es] ∧ av = .agg [.sc (.int r), .sc (.int z), .ref 0] ∧ objs = [.flat 46 3 (eds es)]
theorem l4Copy_sat : Sat Try.prog 55 copyG_S := by
  refine sat_of tok okr mixed K55 Try.func55 rfl (rs := [.cell 2 28]) rfl rfl ?_
  rintro args av objs ⟨r, z, es, hl, rfl, rfl, rfl⟩
  refine ⟨by show 1 ≤ 12; decide, ?_⟩
  repeat' (first
    | refine w_op rfl (by simp (disch := first | omega | (simp; omega)) [go_sem, edA, grA, Try.ntmps55, -Option.map_eq_some_iff]; rfl) ?_
    | refine l_op rfl (by simp (disch := first | omega | (simp; omega)) [go_sem, edA, grA, Try.ntmps55, -Option.map_eq_some_iff]; exact ⟨rfl, rfl⟩) ?_
    | refine w_end (by simp [go_sem, K55]; rfl) ?_
    | refine l_end (by kernel_rfl) (by simp [go_sem, K55]; rfl) ?_
    | refine w_yes' (by simpa [go_sem, *] using trivial) rfl (by simp (disch := first | omega | (simp; omega)) [go_sem, edA, grA, Try.ntmps55, -Option.map_eq_some_iff]; rfl) ?_
    | refine w_no' (by simpa [go_sem, *] using trivial) rfl rfl (by simp [go_sem, skipE]; rfl) ?_
    | refine w_op rfl (by simp (disch := first | omega | (simp; omega)) [go_sem, edA, grA, Try.ntmps55, -Option.map_eq_some_iff, *]; rfl) ?_
    | refine l_op' (by simpa [go_sem, *] using trivial) rfl (by simp (disch := first | omega | (simp; omega)) [go_sem, edA, grA, Try.ntmps55, -Option.map_eq_some_iff, *]; exact ⟨rfl, rfl⟩) ?_
    | refine l_no' (by simpa [go_sem, *] using trivial) rfl rfl (by simp [go_sem, skipE]; rfl) ?_
    | refine k_seq ?_
    | refine a_seq ?_
    | refine a_reg ?_
    | refine a_draw ?_
    | refine k_seq_exit ?_
    | refine k_seq_ret ?_
    | refine k_blk ?_
    | refine k_blk_exit ?_
    | refine k_blk_other rfl ?_
    | refine k_blk_ret ?_
    | refine k_lop_exit ?_
    | refine k_lop_ret ?_
    | refine a_skip ?_
    | refine a_ret ?_
    | refine a_exit ?_
    | refine a_block ?_
    | (refine a_cond (by simp [go_sem, *, -Bool.not_eq_eq_eq_not]; rfl) (fun hr => ?_) (fun hr => ?_) <;> (have hc := hr) <;> (try simp only [Bool.not_eq_true', Bool.not_eq_false', Bool.and_eq_true, Bool.and_eq_false_imp, Bool.or_eq_true, Bool.or_eq_false_iff, Bool.not_eq_true, Bool.not_eq_false, decide_eq_true_eq, decide_eq_false_iff_not, Int.not_lt, Int.not_le, ge_iff_le, gt_iff_lt, decide_true, decide_false, Bool.false_eq_true, reduceCtorEq, beq_iff_eq, beq_eq_false_iff_ne, ne_eq, bne_iff_ne, bne_eq_false_iff_eq, and_true, true_and, and_false, false_and] at hc) <;> (try (exfalso; omega)))
    | ((fail_if_success (refine w_same (by simpa [go_sem, *] using trivial) rfl ?_)); refine w_splv rfl (by simp [go_sem, *, -Bool.not_eq_eq_eq_not]; rfl) (fun hr => ?_) (fun hr => ?_) <;> (have hg := hr) <;> (try simp only [Bool.not_eq_true', Bool.not_eq_false', Bool.and_eq_true, Bool.and_eq_false_imp, Bool.or_eq_true, Bool.or_eq_false_iff, Bool.not_eq_true, Bool.not_eq_false, decide_eq_true_eq, decide_eq_false_iff_not, Int.not_lt, Int.not_le, ge_iff_le, gt_iff_lt, decide_true, decide_false, Bool.false_eq_true, reduceCtorEq, beq_iff_eq, beq_eq_false_iff_ne, ne_eq, bne_iff_ne, bne_eq_false_iff_eq, and_true, true_and, and_false, false_and] at hg) <;> (try (exfalso; omega)))
    | ((fail_if_success (refine l_same (by simpa [go_sem, *] using trivial) rfl ?_)); refine l_splv rfl (by simp [go_sem, *, -Bool.not_eq_eq_eq_not]; rfl) (fun hr => ?_) (fun hr => ?_) <;> (have hg := hr) <;> (try simp only [Bool.not_eq_true', Bool.not_eq_false', Bool.and_eq_true, Bool.and_eq_false_imp, Bool.or_eq_true, Bool.or_eq_false_iff, Bool.not_eq_true, Bool.not_eq_false, decide_eq_true_eq, decide_eq_false_iff_not, Int.not_lt, Int.not_le, ge_iff_le, gt_iff_lt, decide_true, decide_false, Bool.false_eq_true, reduceCtorEq, beq_iff_eq, beq_eq_false_iff_ne, ne_eq, bne_iff_ne, bne_eq_false_iff_eq, and_true, true_and, and_false, false_and] at hg) <;> (try (exfalso; omega))))
  refine k_ret (by simp [go_sem]; first | exact ⟨rfl, rfl⟩ | rfl) ?_ rfl
  rfl

end Go.Proofs.Try

namespace Go.Proofs.Try
open Go Go.Eng
instance : Con Try.prog 119 (specOf compareInts_sat) := con compareInts_sat Try.func119
instance : Con Try.prog 99 (specOf compareEdges_sat) := con compareEdges_sat Try.func99
instance : Con Try.prog 91 (specOf compareEdges_sat2) := con compareEdges_sat2 Try.func91
instance : Con Try.prog 90 (specOf l4Edge_sat) := con l4Edge_sat Try.func90
instance : Con Try.prog 55 (specOf l4Copy_sat) := con l4Copy_sat Try.func55
end Go.Proofs.Try
namespace Go.Proofs.Try
open Go Go.Eng
set_option linter.unnecessarySimpa false
set_option linter.unusedSimpArgs false
set_option maxHeartbeats 2000000

def ok1 (r z : Int) (es : List Ed) (i : Nat) : Bool := edOk r z (ed es i) && (decide (i = 0) || decide (cmpE (ed es (i - 1)) (ed es i) < 0))
def okAll (r z : Int) (es : List Ed) (n : Nat) : Bool := (List.range n).all (ok1 r z es)
theorem okAll_succ (r z : Int) (es : List Ed) (n : Nat) : okAll r z es (n + 1) = (okAll r z es n && ok1 r z es n) := by
  simp [okAll, List.range_succ]
def isG (r z : Int) (es : List Ed) : Bool := okAll r z es es.length && (decide (1 ≤ r ∧ r ≤ 3) && decide (1 ≤ z ∧ z ≤ 40) && decide (es.length ≤ 120))
theorem okAll_mono {r z : Int} {es : List Ed} {n m : Nat} (h : n ≤ m) (h2 : okAll r z es m = true) : okAll r z es n = true := by
  simp only [okAll, List.all_eq_true, List.mem_range] at *
  intro x hx
  exact h2 x (by omega)
def isG_S : Eng.Spec := fun args av objs => ∃ (r z : Int) (es : List Ed), es.length ≤ 1099511627776 ∧ args = [grA r z es] ∧ av = AV.one (.sc (.bool (isG r z es))) ∧ objs = []
def K61 : Nat → List Nat := fun i => ([[1], [1, 3], [1, 3, 8], [1, 3], [1, 3, 37], [2], [2]] : List (List Nat)).getD i []
theorem isGraph_sat2 : Sat Try.prog 61 isG_S := by
  refine sat_of tok okr mixed K61 Try.func61 rfl (rs := [.tmp 2]) rfl rfl ?_
  rintro args av objs ⟨r, z, es, hl, rfl, rfl, rfl⟩
  refine ⟨by show 1 ≤ 52; decide, ?_⟩
  repeat' (first
    | refine w_op rfl (by simp (disch := first | omega | (simp; omega)) [go_sem, grA, Try.ntmps61, -Option.map_eq_some_iff]; rfl) ?_
    | refine l_op rfl (by simp (disch := first | omega | (simp; omega)) [go_sem, grA, Try.ntmps61, -Option.map_eq_some_iff]; exact ⟨rfl, rfl⟩) ?_
    | refine w_end (by simp [go_sem, K61]; rfl) ?_
    | refine l_end (by kernel_rfl) (by simp [go_sem, K61]; rfl) ?_
    | refine w_yes' (by simpa [go_sem, *] using trivial) rfl (by simp (disch := first | omega | (simp; omega)) [go_sem, grA, Try.ntmps61, -Option.map_eq_some_iff]; rfl) ?_
    | refine w_no' (by simpa [go_sem, *] using trivial) rfl rfl (by simp [go_sem, skipE]; rfl) ?_
    | refine w_op rfl (by simp (disch := first | omega | (simp; omega)) [go_sem, grA, Try.ntmps61, -Option.map_eq_some_iff, *]; rfl) ?_
    | refine l_op' (by simpa [go_sem, *] using trivial) rfl (by simp (disch := first | omega | (simp; omega)) [go_sem, grA, Try.ntmps61, -Option.map_eq_some_iff, *]; exact ⟨rfl, rfl⟩) ?_
    | refine l_no' (by simpa [go_sem, *] using trivial) rfl rfl (by simp [go_sem, skipE]; rfl) ?_
    | refine k_seq ?_
    | refine a_seq ?_
    | refine a_reg ?_
    | refine a_draw ?_
    | refine k_seq_exit ?_
    | refine k_seq_ret ?_
    | refine k_blk ?_
    | refine k_blk_exit ?_
    | refine k_blk_other rfl ?_
    | refine k_blk_ret ?_
    | refine k_lop_exit ?_
    | refine k_lop_ret ?_
    | refine a_skip ?_
    | refine a_ret ?_
    | refine a_exit ?_
    | refine a_block ?_
    | (refine a_cond (by simp [go_sem, *, -Bool.not_eq_eq_eq_not]; rfl) (fun hr => ?_) (fun hr => ?_) <;> (have hc := hr) <;> (try simp only [Bool.not_eq_true', Bool.not_eq_false', Bool.and_eq_true, Bool.and_eq_false_imp, Bool.or_eq_true, Bool.or_eq_false_iff, Bool.not_eq_true, Bool.not_eq_false, decide_eq_true_eq, decide_eq_false_iff_not, Int.not_lt, Int.not_le, ge_iff_le, gt_iff_lt, decide_true, decide_false, Bool.false_eq_true, reduceCtorEq, beq_iff_eq, beq_eq_false_iff_ne, ne_eq, bne_iff_ne, bne_eq_false_iff_eq, and_true, true_and, and_false, false_and] at hc) <;> (try (exfalso; omega)))
    | ((fail_if_success (refine w_same (by simpa [go_sem, *] using trivial) rfl ?_)); refine w_splv rfl (by simp [go_sem, *, -Bool.not_eq_eq_eq_not]; rfl) (fun hr => ?_) (fun hr => ?_) <;> (have hg := hr) <;> (try simp only [Bool.not_eq_true', Bool.not_eq_false', Bool.and_eq_true, Bool.and_eq_false_imp, Bool.or_eq_true, Bool.or_eq_false_iff, Bool.not_eq_true, Bool.not_eq_false, decide_eq_true_eq, decide_eq_false_iff_not, Int.not_lt, Int.not_le, ge_iff_le, gt_iff_lt, decide_true, decide_false, Bool.false_eq_true, reduceCtorEq, beq_iff_eq, beq_eq_false_iff_ne, ne_eq, bne_iff_ne, bne_eq_false_iff_eq, and_true, true_and, and_false, false_and] at hg) <;> (try (exfalso; omega)))
    | ((fail_if_success (refine l_same (by simpa [go_sem, *] using trivial) rfl ?_)); refine l_splv rfl (by simp [go_sem, *, -Bool.not_eq_eq_eq_not]; rfl) (fun hr => ?_) (fun hr => ?_) <;> (have hg := hr) <;> (try simp only [Bool.not_eq_true', Bool.not_eq_false', Bool.and_eq_true, Bool.and_eq_false_imp, Bool.or_eq_true, Bool.or_eq_false_iff, Bool.not_eq_true, Bool.not_eq_false, decide_eq_true_eq, decide_eq_false_iff_not, Int.not_lt, Int.not_le, ge_iff_le, gt_iff_lt, decide_true, decide_false, Bool.false_eq_true, reduceCtorEq, beq_iff_eq, beq_eq_false_iff_ne, ne_eq, bne_iff_ne, bne_eq_false_iff_eq, and_true, true_and, and_false, false_and] at hg) <;> (try (exfalso; omega))))
  refine a_loop (fun i : Nat => ⟨52, [(1, AV.one (.ptr 1 1 0 0)), (3, AV.one (.sc (.int i)))], [(1, some (.box 28 [.sc (.int r), .sc (.int z), .imm 3 (eds es)]))], [1]⟩) (fun i => i ≤ es.length ∧ okAll r z es i = true) (fun i => es.length - i) 0 ⟨by omega, rfl⟩ ?_ ?_
  · refine weak_of [(1, .obj 8)] rfl (by decide) ?_ ?_ rfl
    · simp [go_sem, AVm, CVm, lookS]
    · simp [go_sem, OBm, CVm, lookS, All2]
  · rintro i ⟨hi, hok⟩
    repeat' (first
    | refine w_op rfl (by simp (disch := first | omega | (simp; omega)) [go_sem, grA, edA, Try.ntmps61, -Option.map_eq_some_iff]; rfl) ?_
    | refine l_op rfl (by simp (disch := first | omega | (simp; omega)) [go_sem, grA, edA, Try.ntmps61, -Option.map_eq_some_iff]; exact ⟨rfl, rfl⟩) ?_
    | refine w_end (by simp [go_sem, K61]; rfl) ?_
    | refine l_end (by kernel_rfl) (by simp [go_sem, K61]; rfl) ?_
    | refine w_fn l4Edge_sat rfl Try.func90 rfl rfl (by first | rfl | (simpa [go_sem, *] using trivial)) rfl rfl (by simp [go_sem]; exact ⟨rfl, rfl⟩) (by exact ⟨r, z, es, ed es i, rfl, rfl, rfl⟩) (by rfl) (by rfl) (by rfl) (by simp [go_sem]; rfl) ?_
    | refine l_fn l4Edge_sat rfl Try.func90 rfl rfl (by first | rfl | (simpa [go_sem, *] using trivial)) rfl rfl (by simp [go_sem]; exact ⟨rfl, rfl⟩) (by exact ⟨r, z, es, ed es i, rfl, rfl, rfl⟩) (by rfl) (by rfl) (by rfl) (by simp [go_sem]; rfl) ?_
    | refine w_fn compareEdges_sat2 rfl Try.func91 rfl rfl (by first | rfl | (simpa [go_sem, *] using trivial)) rfl rfl (by simp [go_sem]; exact ⟨rfl, rfl⟩) (by exact ⟨_, _, rfl, rfl, rfl⟩) (by rfl) (by rfl) (by rfl) (by simp [go_sem]; rfl) ?_
    | refine l_fn compareEdges_sat2 rfl Try.func91 rfl rfl (by first | rfl | (simpa [go_sem, *] using trivial)) rfl rfl (by simp [go_sem]; exact ⟨rfl, rfl⟩) (by exact ⟨_, _, rfl, rfl, rfl⟩) (by rfl) (by rfl) (by rfl) (by simp [go_sem]; rfl) ?_
    | refine w_fn l1In_sat rfl Try.func92 rfl rfl (by first | rfl | (simpa [go_sem, *] using trivial)) rfl rfl (by simp [go_sem]; exact ⟨rfl, rfl⟩) (by exact ⟨_, _, _, rfl, rfl, rfl⟩) (by rfl) (by rfl) (by rfl) (by simp [go_sem]; rfl) ?_
    | refine l_fn l1In_sat rfl Try.func92 rfl rfl (by first | rfl | (simpa [go_sem, *] using trivial)) rfl rfl (by simp [go_sem]; exact ⟨rfl, rfl⟩) (by exact ⟨_, _, _, rfl, rfl, rfl⟩) (by rfl) (by rfl) (by rfl) (by simp [go_sem]; rfl) ?_
    | refine w_yes' (by simpa [go_sem, *] using trivial) rfl (by simp (disch := first | omega | (simp; omega)) [go_sem, grA, edA, Try.ntmps61, -Option.map_eq_some_iff]; rfl) ?_
    | refine w_no' (by simpa [go_sem, *] using trivial) rfl rfl (by simp [go_sem, skipE]; rfl) ?_
    | refine w_op rfl (by simp (disch := first | omega | (simp; omega)) [go_sem, grA, edA, Try.ntmps61, -Option.map_eq_some_iff, *]; rfl) ?_
    | refine l_op' (by simpa [go_sem, *] using trivial) rfl (by simp (disch := first | omega | (simp; omega)) [go_sem, grA, edA, Try.ntmps61, -Option.map_eq_some_iff, *]; exact ⟨rfl, rfl⟩) ?_
    | refine l_no' (by simpa [go_sem, *] using trivial) rfl rfl (by simp [go_sem, skipE]; rfl) ?_
    | refine k_seq ?_
    | refine a_seq ?_
    | refine a_reg ?_
    | refine a_draw ?_
    | refine k_seq_exit ?_
    | refine k_seq_ret ?_
    | refine k_blk ?_
    | refine k_blk_exit ?_
    | refine k_blk_other rfl ?_
    | refine k_blk_ret ?_
    | refine k_lop_exit ?_
    | refine k_lop_ret ?_
    | refine a_skip ?_
    | refine a_ret ?_
    | refine a_exit ?_
    | refine a_block ?_
    | (refine a_cond (by simp [go_sem, *, -Bool.not_eq_eq_eq_not]; rfl) (fun hr => ?_) (fun hr => ?_) <;> (have hc := hr) <;> (try simp only [Bool.not_eq_true', Bool.not_eq_false', Bool.and_eq_true, Bool.and_eq_false_imp, Bool.or_eq_true, Bool.or_eq_false_iff, Bool.not_eq_true, Bool.not_eq_false, decide_eq_true_eq, decide_eq_false_iff_not, Int.not_lt, Int.not_le, ge_iff_le, gt_iff_lt, decide_true, decide_false, Bool.false_eq_true, reduceCtorEq, beq_iff_eq, beq_eq_false_iff_ne, ne_eq, bne_iff_ne, bne_eq_false_iff_eq, and_true, true_and, and_false, false_and] at hc) <;> (try (exfalso; omega)))
    | ((fail_if_success (refine w_same (by simpa [go_sem, *] using trivial) rfl ?_)); refine w_splv rfl (by simp [go_sem, *, -Bool.not_eq_eq_eq_not]; rfl) (fun hr => ?_) (fun hr => ?_) <;> (have hg := hr) <;> (try simp only [Bool.not_eq_true', Bool.not_eq_false', Bool.and_eq_true, Bool.and_eq_false_imp, Bool.or_eq_true, Bool.or_eq_false_iff, Bool.not_eq_true, Bool.not_eq_false, decide_eq_true_eq, decide_eq_false_iff_not, Int.not_lt, Int.not_le, ge_iff_le, gt_iff_lt, decide_true, decide_false, Bool.false_eq_true, reduceCtorEq, beq_iff_eq, beq_eq_false_iff_ne, ne_eq, bne_iff_ne, bne_eq_false_iff_eq, and_true, true_and, and_false, false_and] at hg) <;> (try (exfalso; omega)))
    | ((fail_if_success (refine l_same (by simpa [go_sem, *] using trivial) rfl ?_)); refine l_splv rfl (by simp [go_sem, *, -Bool.not_eq_eq_eq_not]; rfl) (fun hr => ?_) (fun hr => ?_) <;> (have hg := hr) <;> (try simp only [Bool.not_eq_true', Bool.not_eq_false', Bool.and_eq_true, Bool.and_eq_false_imp, Bool.or_eq_true, Bool.or_eq_false_iff, Bool.not_eq_true, Bool.not_eq_false, decide_eq_true_eq, decide_eq_false_iff_not, Int.not_lt, Int.not_le, ge_iff_le, gt_iff_lt, decide_true, decide_false, Bool.false_eq_true, reduceCtorEq, beq_iff_eq, beq_eq_false_iff_ne, ne_eq, bne_iff_ne, bne_eq_false_iff_eq, and_true, true_and, and_false, false_and] at hg) <;> (try (exfalso; omega))))
    all_goals first
      | (refine k_lop (i + 1) ⟨by omega, by first | (simp [okAll_succ, ok1, *]; done) | (simp [okAll_succ, ok1, *]; omega)⟩ (by omega) (Weak.refl _); done)
      | (have hii : i = es.length := by omega
         subst hii
         refine k_ret (by simp [go_sem]; first | exact ⟨rfl, rfl⟩ | rfl) ?_ rfl
         first | (simp_all [isG]; done) | (simp_all [isG]; omega))
      | (have h1 := mt (okAll_mono (r := r) (z := z) (es := es) (n := i + 1) (m := es.length) (by omega))
         have h2 : okAll r z es (i + 1) = false := by first | (simp_all [okAll_succ, ok1]; done) | (simp_all [okAll_succ, ok1]; omega)
         have h3 : isG r z es = false := by simp [isG, h1 (by rw [h2]; simp)]
         refine k_ret (by simp [go_sem]; first | exact ⟨rfl, rfl⟩ | rfl) ?_ rfl
         rw [h3])
end Go.Proofs.Try

namespace Go.Proofs.Try
open Go Go.Eng
instance : Con Try.prog 61 (specOf isGraph_sat2) := con isGraph_sat2 Try.func61
end Go.Proofs.Try
namespace Go.Proofs.Try
open Go Go.Eng
set_option linter.unnecessarySimpa false
set_option linter.unusedSimpArgs false
set_option maxHeartbeats 2000000

def putStep (e : Ed) (st : List Ed × Bool) (x : Ed) : List Ed × Bool :=
  if cmpE e x = 0 then (st.1 ++ [x], true)
  else if cmpE e x < 0 ∧ st.2 = false then (st.1 ++ [e] ++ [x], true)
  else (st.1 ++ [x], st.2)
def putN (es : List Ed) (e : Ed) (i : Nat) : List Ed × Bool := (es.take i).foldl (putStep e) ([], false)
theorem putN_succ {es : List Ed} {e : Ed} {i : Nat} (h : i < es.length) : putN es e (i + 1) = putStep e (putN es e i) (ed es i) := by
  simp only [putN]
  rw [List.take_add_one, List.foldl_append]
  simp [h, ed]
def put (es : List Ed) (e : Ed) : List Ed := if (putN es e es.length).2 then (putN es e es.length).1 else (putN es e es.length).1 ++ [e]
theorem putN_len (es : List Ed) (e : Ed) (i : Nat) (h : i ≤ es.length) : (putN es e i).1.length ≤ 2 * i := by
  induction i with
  | zero => simp [putN]
  | succ i ih =>
    rw [putN_succ (by omega)]
    have := ih (by omega)
    unfold putStep
    split
    · simp; omega
    · split <;> simp <;> omega
def put_S : Eng.Spec := fun args av objs => ∃ (es : List Ed) (e : Ed), es.length ≤ 1099511627 ∧ args = [AV.one (.imm 3 (eds es)), edA e] ∧ av = AV.one (.ref 0) ∧ objs = [.flat 46 3 (eds (put es e))]
def K96 : Nat → List Nat := fun i => ([[0, 3], [0, 3, 5], [0, 3, 5, 6], [0, 3, 5, 6, 7], [0, 3, 5, 6, 7, 13], [0, 3, 5, 6, 7], [0, 3, 5, 6, 7, 8], [0, 3, 5, 6, 7, 8, 23], [0, 3, 5, 6, 7, 8], [0, 3, 5, 6, 7, 29], [0, 3, 5, 7], [0, 3, 5, 6, 7], [0, 3, 5, 6, 7], [3, 5, 42], [5], [4]] : List (List Nat)).getD i []
theorem l4Put_sat : Sat Try.prog 96 put_S := by
  refine sat_of tok okr mixed K96 Try.func96 rfl (rs := [.tmp 4]) rfl rfl ?_
  rintro args av objs ⟨es, e, hl, rfl, rfl, rfl⟩
  refine ⟨by show 2 ≤ 48; decide, ?_⟩
  repeat' (first
    | refine w_op rfl (by simp (disch := first | omega | (simp; omega)) [go_sem, edA, Try.ntmps96, -Option.map_eq_some_iff]; rfl) ?_
    | refine l_op rfl (by simp (disch := first | omega | (simp; omega)) [go_sem, edA, Try.ntmps96, -Option.map_eq_some_iff]; exact ⟨rfl, rfl⟩) ?_
    | refine w_end (by simp [go_sem, K96]; rfl) ?_
    | refine l_end (by kernel_rfl) (by simp [go_sem, K96]; rfl) ?_
    | refine w_yes' (by simpa [go_sem, *] using trivial) rfl (by simp (disch := first | omega | (simp; omega)) [go_sem, edA, Try.ntmps96, -Option.map_eq_some_iff]; rfl) ?_
    | refine w_no' (by simpa [go_sem, *] using trivial) rfl rfl (by simp [go_sem, skipE]; rfl) ?_
    | refine w_op rfl (by simp (disch := first | omega | (simp; omega)) [go_sem, edA, Try.ntmps96, -Option.map_eq_some_iff, *]; rfl) ?_
    | refine l_op' (by simpa [go_sem, *] using trivial) rfl (by simp (disch := first | omega | (simp; omega)) [go_sem, edA, Try.ntmps96, -Option.map_eq_some_iff, *]; exact ⟨rfl, rfl⟩) ?_
    | refine l_no' (by simpa [go_sem, *] using trivial) rfl rfl (by simp [go_sem, skipE]; rfl) ?_
    | refine k_seq ?_
    | refine a_seq ?_
    | refine a_reg ?_
    | refine a_draw ?_
    | refine k_seq_exit ?_
    | refine k_seq_ret ?_
    | refine k_blk ?_
    | refine k_blk_exit ?_
    | refine k_blk_other rfl ?_
    | refine k_blk_ret ?_
    | refine k_lop_exit ?_
    | refine k_lop_ret ?_
    | refine a_skip ?_
    | refine a_ret ?_
    | refine a_exit ?_
    | refine a_block ?_
    | (refine a_cond (by simp [go_sem, *, -Bool.not_eq_eq_eq_not]; rfl) (fun hr => ?_) (fun hr => ?_) <;> (have hc := hr) <;> (try simp only [Bool.not_eq_true', Bool.not_eq_false', Bool.and_eq_true, Bool.and_eq_false_imp, Bool.or_eq_true, Bool.or_eq_false_iff, Bool.not_eq_true, Bool.not_eq_false, decide_eq_true_eq, decide_eq_false_iff_not, Int.not_lt, Int.not_le, ge_iff_le, gt_iff_lt, decide_true, decide_false, Bool.false_eq_true, reduceCtorEq, beq_iff_eq, beq_eq_false_iff_ne, ne_eq, bne_iff_ne, bne_eq_false_iff_eq, and_true, true_and, and_false, false_and] at hc) <;> (try (exfalso; omega)))
    | ((fail_if_success (refine w_same (by simpa [go_sem, *] using trivial) rfl ?_)); refine w_splv rfl (by simp [go_sem, *, -Bool.not_eq_eq_eq_not]; rfl) (fun hr => ?_) (fun hr => ?_) <;> (have hg := hr) <;> (try simp only [Bool.not_eq_true', Bool.not_eq_false', Bool.and_eq_true, Bool.and_eq_false_imp, Bool.or_eq_true, Bool.or_eq_false_iff, Bool.not_eq_true, Bool.not_eq_false, decide_eq_true_eq, decide_eq_false_iff_not, Int.not_lt, Int.not_le, ge_iff_le, gt_iff_lt, decide_true, decide_false, Bool.false_eq_true, reduceCtorEq, beq_iff_eq, beq_eq_false_iff_ne, ne_eq, bne_iff_ne, bne_eq_false_iff_eq, and_true, true_and, and_false, false_and] at hg) <;> (try (exfalso; omega)))
    | ((fail_if_success (refine l_same (by simpa [go_sem, *] using trivial) rfl ?_)); refine l_splv rfl (by simp [go_sem, *, -Bool.not_eq_eq_eq_not]; rfl) (fun hr => ?_) (fun hr => ?_) <;> (have hg := hr) <;> (try simp only [Bool.not_eq_true', Bool.not_eq_false', Bool.and_eq_true, Bool.and_eq_false_imp, Bool.or_eq_true, Bool.or_eq_false_iff, Bool.not_eq_true, Bool.not_eq_false, decide_eq_true_eq, decide_eq_false_iff_not, Int.not_lt, Int.not_le, ge_iff_le, gt_iff_lt, decide_true, decide_false, Bool.false_eq_true, reduceCtorEq, beq_iff_eq, beq_eq_false_iff_ne, ne_eq, bne_iff_ne, bne_eq_false_iff_eq, and_true, true_and, and_false, false_and] at hg) <;> (try (exfalso; omega))))
  refine a_loop (fun i : Nat => ⟨48, [(0, AV.one (.imm 3 (eds es))), (3, AV.one (.ptr 3 1 0 0)), (5, AV.one (.ref 5)), (6, AV.one (.sc (.bool (putN es e i).2))), (7, AV.one (.sc (.int i)))], [(3, some (.box 46 [.sc (.int e.1), .sc (.int e.2.1), .sc (.int e.2.2)])), (5, some (.flat 46 3 (eds (putN es e i).1)))], [3, 5]⟩) (fun i => i ≤ es.length) (fun i => es.length - i) 0 (by omega) ?_ ?_
  · exact weak_of [(3, .obj 24), (5, .obj 72)] rfl (by decide) (by simp [go_sem, AVm, CVm, lookS, putN, eds]) (by simp [go_sem, OBm, CVm, lookS, All2, putN, eds]) rfl
  · intro i hi
    have hlen := putN_len es e i hi
    generalize hst : putN es e i = st at hlen
    obtain ⟨o, b⟩ := st
    simp only at hlen ⊢
    repeat' (first
    | refine w_op rfl (by simp (disch := first | omega | (simp; omega)) [go_sem, edA, Try.ntmps96, -Option.map_eq_some_iff]; rfl) ?_
    | refine l_op rfl (by simp (disch := first | omega | (simp; omega)) [go_sem, edA, Try.ntmps96, -Option.map_eq_some_iff]; exact ⟨rfl, rfl⟩) ?_
    | refine w_end (by simp [go_sem, K96]; rfl) ?_
    | refine l_end (by kernel_rfl) (by simp [go_sem, K96]; rfl) ?_
    | refine w_fn compareEdges_sat2 rfl Try.func91 rfl rfl (by first | rfl | (simpa [go_sem, *] using trivial)) rfl rfl (by simp [go_sem]; exact ⟨rfl, rfl⟩) (by exact ⟨e, ed es i, rfl, rfl, rfl⟩) (by rfl) (by rfl) (by rfl) (by simp [go_sem]; rfl) ?_
    | refine l_fn compareEdges_sat2 rfl Try.func91 rfl rfl (by first | rfl | (simpa [go_sem, *] using trivial)) rfl rfl (by simp [go_sem]; exact ⟨rfl, rfl⟩) (by exact ⟨e, ed es i, rfl, rfl, rfl⟩) (by rfl) (by rfl) (by rfl) (by simp [go_sem]; rfl) ?_
    | refine w_yes' (by simpa [go_sem, *] using trivial) rfl (by simp (disch := first | omega | (simp; omega)) [go_sem, edA, Try.ntmps96, -Option.map_eq_some_iff]; rfl) ?_
    | refine w_no' (by simpa [go_sem, *] using trivial) rfl rfl (by simp [go_sem, skipE]; rfl) ?_
    | refine w_op rfl (by simp (disch := first | omega | (simp; omega)) [go_sem, edA, Try.ntmps96, -Option.map_eq_some_iff, *]; rfl) ?_
    | refine l_op' (by simpa [go_sem, *] using trivial) rfl (by simp (disch := first | omega | (simp; omega)) [go_sem, edA, Try.ntmps96, -Option.map_eq_some_iff, *]; exact ⟨rfl, rfl⟩) ?_
    | refine l_no' (by simpa [go_sem, *] using trivial) rfl rfl (by simp [go_sem, skipE]; rfl) ?_
    | refine k_seq ?_
    | refine a_seq ?_
    | refine a_reg ?_
    | refine a_draw ?_
    | refine k_seq_exit ?_
    | refine k_seq_ret ?_
    | refine k_blk ?_
    | refine k_blk_exit ?_
    | refine k_blk_other rfl ?_
    | refine k_blk_ret ?_
    | refine k_lop_exit ?_
    | refine k_lop_ret ?_
    | refine a_skip ?_
    | refine a_ret ?_
    | refine a_exit ?_
    | refine a_block ?_
    | (refine a_cond (by simp [go_sem, *, -Bool.not_eq_eq_eq_not]; rfl) (fun hr => ?_) (fun hr => ?_) <;> (have hc := hr) <;> (try simp only [Bool.not_eq_true', Bool.not_eq_false', Bool.and_eq_true, Bool.and_eq_false_imp, Bool.or_eq_true, Bool.or_eq_false_iff, Bool.not_eq_true, Bool.not_eq_false, decide_eq_true_eq, decide_eq_false_iff_not, Int.not_lt, Int.not_le, ge_iff_le, gt_iff_lt, decide_true, decide_false, Bool.false_eq_true, reduceCtorEq, beq_iff_eq, beq_eq_false_iff_ne, ne_eq, bne_iff_ne, bne_eq_false_iff_eq, and_true, true_and, and_false, false_and] at hc) <;> (try (exfalso; omega)))
    | ((fail_if_success (refine w_same (by simpa [go_sem, *] using trivial) rfl ?_)); refine w_splv rfl (by simp [go_sem, *, -Bool.not_eq_eq_eq_not]; rfl) (fun hr => ?_) (fun hr => ?_) <;> (have hg := hr) <;> (try simp only [Bool.not_eq_true', Bool.not_eq_false', Bool.and_eq_true, Bool.and_eq_false_imp, Bool.or_eq_true, Bool.or_eq_false_iff, Bool.not_eq_true, Bool.not_eq_false, decide_eq_true_eq, decide_eq_false_iff_not, Int.not_lt, Int.not_le, ge_iff_le, gt_iff_lt, decide_true, decide_false, Bool.false_eq_true, reduceCtorEq, beq_iff_eq, beq_eq_false_iff_ne, ne_eq, bne_iff_ne, bne_eq_false_iff_eq, and_true, true_and, and_false, false_and] at hg) <;> (try (exfalso; omega)))
    | ((fail_if_success (refine l_same (by simpa [go_sem, *] using trivial) rfl ?_)); refine l_splv rfl (by simp [go_sem, *, -Bool.not_eq_eq_eq_not]; rfl) (fun hr => ?_) (fun hr => ?_) <;> (have hg := hr) <;> (try simp only [Bool.not_eq_true', Bool.not_eq_false', Bool.and_eq_true, Bool.and_eq_false_imp, Bool.or_eq_true, Bool.or_eq_false_iff, Bool.not_eq_true, Bool.not_eq_false, decide_eq_true_eq, decide_eq_false_iff_not, Int.not_lt, Int.not_le, ge_iff_le, gt_iff_lt, decide_true, decide_false, Bool.false_eq_true, reduceCtorEq, beq_iff_eq, beq_eq_false_iff_ne, ne_eq, bne_iff_ne, bne_eq_false_iff_eq, and_true, true_and, and_false, false_and] at hg) <;> (try (exfalso; omega))))
    iterate 4
      have hi' : i < es.length := by assumption
      (refine k_lop (i + 1) ?_ ?_ (weak_of [(3, .obj 3), (5, .obj 320)] rfl (by decide) ?_ ?_ rfl); (· exact (by omega)); (· first | omega | (simp only; omega)); (· first | (simp [go_sem, AVm, CVm, lookS, putN_succ hi', hst, putStep, *]; done) | (simp [go_sem, AVm, CVm, lookS, putN_succ hi', hst, putStep, *] <;> (repeat' split) <;> first | omega | (simp_all; done) | (exfalso; omega) | (simp_all; omega))); (· first | (simp [go_sem, OBm, CVm, All2, lookS, putN_succ hi', hst, putStep, *]; done) | (simp [go_sem, OBm, CVm, All2, lookS, putN_succ hi', hst, putStep, *] <;> (repeat' split) <;> first | omega | (simp_all; done) | (exfalso; omega) | (simp_all; omega))))
    all_goals have hii : i = es.length := by omega
    all_goals subst hii
    all_goals refine k_ret (by simp [go_sem]; first | exact ⟨rfl, rfl⟩ | rfl) ?_ ?_
    all_goals simp_all [put]
    all_goals rfl
def put3_S : Eng.Spec := fun args av objs => ∃ (es : List Ed) (a b c : Int), es.length ≤ 1099511627 ∧ args = [AV.one (.imm 3 (eds es)), .agg [.sc (.int a), .sc (.int b), .sc (.int c)]] ∧ av = AV.one (.ref 0) ∧ objs = [.flat 46 3 (eds (put es (a, b, c)))]
theorem l4Put_sat3 : Sat Try.prog 96 put3_S := fun args av objs ⟨es, a, b, c, h⟩ => l4Put_sat args av objs ⟨es, (a, b, c), h⟩
end Go.Proofs.Try

namespace Go.Proofs.Try
open Go Go.Eng
instance : Con Try.prog 96 (specOf l4Put_sat) := con l4Put_sat Try.func96
instance (priority := 2000) : Con Try.prog 96 (orS (specOf l4Put_sat) (specOf l4Put_sat3)) := con2 l4Put_sat l4Put_sat3 Try.func96
end Go.Proofs.Try
namespace Go.Proofs.Try
open Go Go.Eng
set_option linter.unnecessarySimpa false
set_option linter.unusedSimpArgs false
set_option maxHeartbeats 4000000

def K118 : Nat → List Nat := fun i => ([[1, 2], [4]] : List (List Nat)).getD i []
def has_S : Eng.Spec := fun args av objs => ∃ (r z : Int) (es : List Ed) (v : Int), args = [grA r z es, AV.one (.sc (.int v))] ∧ av = AV.one (.sc (.bool (decide (0 ≤ v ∧ v ≤ w64 (z - 1))))) ∧ objs = []
theorem has_sat : Sat Try.prog 118 has_S := by
  refine sat_of tok okr mixed K118 Try.func118 rfl (rs := [.tmp 4]) rfl rfl ?_
  rintro args av objs ⟨r, z, es, v, rfl, rfl, rfl⟩
  refine ⟨by show 2 ≤ 10; decide, ?_⟩
  repeat' (first
    | refine w_op rfl (by simp (disch := first | omega | (simp; omega)) [go_sem, grA, Try.ntmps118, -Option.map_eq_some_iff]; rfl) ?_
    | refine l_op rfl (by simp (disch := first | omega | (simp; omega)) [go_sem, grA, Try.ntmps118, -Option.map_eq_some_iff]; exact ⟨rfl, rfl⟩) ?_
    | refine w_end (by simp [go_sem, K118]; rfl) ?_
    | refine l_end (by kernel_rfl) (by simp [go_sem, K118]; rfl) ?_
    | refine w_fn within_sat rfl Try.func97 rfl rfl (by first | rfl | (simpa [go_sem, *] using trivial)) rfl rfl (by simp [go_sem]; exact ⟨rfl, rfl⟩) (by exact ⟨_, _, _, rfl, rfl, rfl⟩) (by rfl) (by rfl) (by rfl) (by simp [go_sem]; rfl) ?_
    | refine l_fn within_sat rfl Try.func97 rfl rfl (by first | rfl | (simpa [go_sem, *] using trivial)) rfl rfl (by simp [go_sem]; exact ⟨rfl, rfl⟩) (by exact ⟨_, _, _, rfl, rfl, rfl⟩) (by rfl) (by rfl) (by rfl) (by simp [go_sem]; rfl) ?_
    | refine w_yes' (by simpa [go_sem, *] using trivial) rfl (by simp (disch := first | omega | (simp; omega)) [go_sem, grA, Try.ntmps118, -Option.map_eq_some_iff]; rfl) ?_
    | refine w_no' (by simpa [go_sem, *] using trivial) rfl rfl (by simp [go_sem, skipE]; rfl) ?_
    | refine w_op rfl (by simp (disch := first | omega | (simp; omega)) [go_sem, grA, Try.ntmps118, -Option.map_eq_some_iff, *]; rfl) ?_
    | refine l_op' (by simpa [go_sem, *] using trivial) rfl (by simp (disch := first | omega | (simp; omega)) [go_sem, grA, Try.ntmps118, -Option.map_eq_some_iff, *]; exact ⟨rfl, rfl⟩) ?_
    | refine l_no' (by simpa [go_sem, *] using trivial) rfl rfl (by simp [go_sem, skipE]; rfl) ?_
    | refine k_seq ?_
    | refine a_seq ?_
    | refine a_reg ?_
    | refine a_draw ?_
    | refine k_seq_exit ?_
    | refine k_seq_ret ?_
    | refine k_blk ?_
    | refine k_blk_exit ?_
    | refine k_blk_other rfl ?_
    | refine k_blk_ret ?_
    | refine k_lop_exit ?_
    | refine k_lop_ret ?_
    | refine a_skip ?_
    | refine a_ret ?_
    | refine a_exit ?_
    | refine a_block ?_
    | (refine a_cond (by simp [go_sem, *, -Bool.not_eq_eq_eq_not]; rfl) (fun hr => ?_) (fun hr => ?_) <;> (have hc := hr) <;> (try simp only [Bool.not_eq_true', Bool.not_eq_false', Bool.and_eq_true, Bool.and_eq_false_imp, Bool.or_eq_true, Bool.or_eq_false_iff, Bool.not_eq_true, Bool.not_eq_false, decide_eq_true_eq, decide_eq_false_iff_not, Int.not_lt, Int.not_le, ge_iff_le, gt_iff_lt, decide_true, decide_false, Bool.false_eq_true, reduceCtorEq, beq_iff_eq, beq_eq_false_iff_ne, ne_eq, bne_iff_ne, bne_eq_false_iff_eq, and_true, true_and, and_false, false_and] at hc) <;> (try (exfalso; omega)))
    | ((fail_if_success (refine w_same (by simpa [go_sem, *] using trivial) rfl ?_)); refine w_splv rfl (by simp [go_sem, *, -Bool.not_eq_eq_eq_not]; rfl) (fun hr => ?_) (fun hr => ?_) <;> (have hg := hr) <;> (try simp only [Bool.not_eq_true', Bool.not_eq_false', Bool.and_eq_true, Bool.and_eq_false_imp, Bool.or_eq_true, Bool.or_eq_false_iff, Bool.not_eq_true, Bool.not_eq_false, decide_eq_true_eq, decide_eq_false_iff_not, Int.not_lt, Int.not_le, ge_iff_le, gt_iff_lt, decide_true, decide_false, Bool.false_eq_true, reduceCtorEq, beq_iff_eq, beq_eq_false_iff_ne, ne_eq, bne_iff_ne, bne_eq_false_iff_eq, and_true, true_and, and_false, false_and] at hg) <;> (try (exfalso; omega)))
    | ((fail_if_success (refine l_same (by simpa [go_sem, *] using trivial) rfl ?_)); refine l_splv rfl (by simp [go_sem, *, -Bool.not_eq_eq_eq_not]; rfl) (fun hr => ?_) (fun hr => ?_) <;> (have hg := hr) <;> (try simp only [Bool.not_eq_true', Bool.not_eq_false', Bool.and_eq_true, Bool.and_eq_false_imp, Bool.or_eq_true, Bool.or_eq_false_iff, Bool.not_eq_true, Bool.not_eq_false, decide_eq_true_eq, decide_eq_false_iff_not, Int.not_lt, Int.not_le, ge_iff_le, gt_iff_lt, decide_true, decide_false, Bool.false_eq_true, reduceCtorEq, beq_iff_eq, beq_eq_false_iff_ne, ne_eq, bne_iff_ne, bne_eq_false_iff_eq, and_true, true_and, and_false, false_and] at hg) <;> (try (exfalso; omega))))
  refine k_ret (by simp [go_sem]; first | exact ⟨rfl, rfl⟩ | rfl) ?_ rfl
  simp
def K98 : Nat → List Nat := fun i => ([[2, 3], [4]] : List (List Nat)).getD i []
theorem accepts_sat : Sat Try.prog 98 edOk_S := by
  refine sat_of tok okr mixed K98 Try.func98 rfl (rs := [.tmp 4]) rfl rfl ?_
  rintro args av objs ⟨r, z, es, p, rfl, rfl, rfl⟩
  refine ⟨by show 2 ≤ 22; decide, ?_⟩
  repeat' (first
    | refine w_op rfl (by simp (disch := first | omega | (simp; omega)) [go_sem, edA, grA, Try.ntmps98, -Option.map_eq_some_iff]; rfl) ?_
    | refine l_op rfl (by simp (disch := first | omega | (simp; omega)) [go_sem, edA, grA, Try.ntmps98, -Option.map_eq_some_iff]; exact ⟨rfl, rfl⟩) ?_
    | refine w_end (by simp [go_sem, K98]; rfl) ?_
    | refine l_end (by kernel_rfl) (by simp [go_sem, K98]; rfl) ?_
    | refine w_fn has_sat rfl Try.func118 rfl rfl (by first | rfl | (simpa [go_sem, *] using trivial)) rfl rfl (by simp [go_sem]; exact ⟨rfl, rfl⟩) (by exact ⟨r, z, es, _, rfl, rfl, rfl⟩) (by rfl) (by rfl) (by rfl) (by simp [go_sem]; rfl) ?_
    | refine l_fn has_sat rfl Try.func118 rfl rfl (by first | rfl | (simpa [go_sem, *] using trivial)) rfl rfl (by simp [go_sem]; exact ⟨rfl, rfl⟩) (by exact ⟨r, z, es, _, rfl, rfl, rfl⟩) (by rfl) (by rfl) (by rfl) (by simp [go_sem]; rfl) ?_
    | refine w_fn within_sat rfl Try.func97 rfl rfl (by first | rfl | (simpa [go_sem, *] using trivial)) rfl rfl (by simp [go_sem]; exact ⟨rfl, rfl⟩) (by exact ⟨_, _, _, rfl, rfl, rfl⟩) (by rfl) (by rfl) (by rfl) (by simp [go_sem]; rfl) ?_
    | refine l_fn within_sat rfl Try.func97 rfl rfl (by first | rfl | (simpa [go_sem, *] using trivial)) rfl rfl (by simp [go_sem]; exact ⟨rfl, rfl⟩) (by exact ⟨_, _, _, rfl, rfl, rfl⟩) (by rfl) (by rfl) (by rfl) (by simp [go_sem]; rfl) ?_
    | refine w_yes' (by simpa [go_sem, *] using trivial) rfl (by simp (disch := first | omega | (simp; omega)) [go_sem, edA, grA, Try.ntmps98, -Option.map_eq_some_iff]; rfl) ?_
    | refine w_no' (by simpa [go_sem, *] using trivial) rfl rfl (by simp [go_sem, skipE]; rfl) ?_
    | refine w_op rfl (by simp (disch := first | omega | (simp; omega)) [go_sem, edA, grA, Try.ntmps98, -Option.map_eq_some_iff, *]; rfl) ?_
    | refine l_op' (by simpa [go_sem, *] using trivial) rfl (by simp (disch := first | omega | (simp; omega)) [go_sem, edA, grA, Try.ntmps98, -Option.map_eq_some_iff, *]; exact ⟨rfl, rfl⟩) ?_
    | refine l_no' (by simpa [go_sem, *] using trivial) rfl rfl (by simp [go_sem, skipE]; rfl) ?_
    | refine k_seq ?_
    | refine a_seq ?_
    | refine a_reg ?_
    | refine a_draw ?_
    | refine k_seq_exit ?_
    | refine k_seq_ret ?_
    | refine k_blk ?_
    | refine k_blk_exit ?_
    | refine k_blk_other rfl ?_
    | refine k_blk_ret ?_
    | refine k_lop_exit ?_
    | refine k_lop_ret ?_
    | refine a_skip ?_
    | refine a_ret ?_
    | refine a_exit ?_
    | refine a_block ?_
    | (refine a_cond (by simp [go_sem, *, -Bool.not_eq_eq_eq_not]; rfl) (fun hr => ?_) (fun hr => ?_) <;> (have hc := hr) <;> (try simp only [Bool.not_eq_true', Bool.not_eq_false', Bool.and_eq_true, Bool.and_eq_false_imp, Bool.or_eq_true, Bool.or_eq_false_iff, Bool.not_eq_true, Bool.not_eq_false, decide_eq_true_eq, decide_eq_false_iff_not, Int.not_lt, Int.not_le, ge_iff_le, gt_iff_lt, decide_true, decide_false, Bool.false_eq_true, reduceCtorEq, beq_iff_eq, beq_eq_false_iff_ne, ne_eq, bne_iff_ne, bne_eq_false_iff_eq, and_true, true_and, and_false, false_and] at hc) <;> (try (exfalso; omega)))
    | ((fail_if_success (refine w_same (by simpa [go_sem, *] using trivial) rfl ?_)); refine w_splv rfl (by simp [go_sem, *, -Bool.not_eq_eq_eq_not]; rfl) (fun hr => ?_) (fun hr => ?_) <;> (have hg := hr) <;> (try simp only [Bool.not_eq_true', Bool.not_eq_false', Bool.and_eq_true, Bool.and_eq_false_imp, Bool.or_eq_true, Bool.or_eq_false_iff, Bool.not_eq_true, Bool.not_eq_false, decide_eq_true_eq, decide_eq_false_iff_not, Int.not_lt, Int.not_le, ge_iff_le, gt_iff_lt, decide_true, decide_false, Bool.false_eq_true, reduceCtorEq, beq_iff_eq, beq_eq_false_iff_ne, ne_eq, bne_iff_ne, bne_eq_false_iff_eq, and_true, true_and, and_false, false_and] at hg) <;> (try (exfalso; omega)))
    | ((fail_if_success (refine l_same (by simpa [go_sem, *] using trivial) rfl ?_)); refine l_splv rfl (by simp [go_sem, *, -Bool.not_eq_eq_eq_not]; rfl) (fun hr => ?_) (fun hr => ?_) <;> (have hg := hr) <;> (try simp only [Bool.not_eq_true', Bool.not_eq_false', Bool.and_eq_true, Bool.and_eq_false_imp, Bool.or_eq_true, Bool.or_eq_false_iff, Bool.not_eq_true, Bool.not_eq_false, decide_eq_true_eq, decide_eq_false_iff_not, Int.not_lt, Int.not_le, ge_iff_le, gt_iff_lt, decide_true, decide_false, Bool.false_eq_true, reduceCtorEq, beq_iff_eq, beq_eq_false_iff_ne, ne_eq, bne_iff_ne, bne_eq_false_iff_eq, and_true, true_and, and_false, false_and] at hg) <;> (try (exfalso; omega))))
  all_goals refine k_ret (by simp [go_sem]; first | exact ⟨rfl, rfl⟩ | rfl) ?_ rfl
  all_goals simp_all [edOk]
  all_goals intros
  all_goals omega
def K64 : Nat → List Nat := fun i => ([[1], [1, 20], [2], [1, 22, 23, 24], [1, 22, 23, 24, 25], [1, 3, 4, 22, 23, 24], [1, 22, 23, 24, 47], [2], [1, 22, 23, 24], [2]] : List (List Nat)).getD i []
theorem isGraph_sat : Sat Try.prog 64 isG_S := by
  refine sat_of tok okr mixed K64 Try.func64 rfl (rs := [.tmp 2]) rfl rfl ?_
  rintro args av objs ⟨r, z, es, hl, rfl, rfl, rfl⟩
  refine ⟨by show 1 ≤ 49; decide, ?_⟩
  repeat' (first
    | refine w_op rfl (by simp (disch := first | omega | (simp; omega)) [go_sem, grA, Try.ntmps64, -Option.map_eq_some_iff]; rfl) ?_
    | refine l_op rfl (by simp (disch := first | omega | (simp; omega)) [go_sem, grA, Try.ntmps64, -Option.map_eq_some_iff]; exact ⟨rfl, rfl⟩) ?_
    | refine w_end (by simp [go_sem, K64]; rfl) ?_
    | refine l_end (by kernel_rfl) (by simp [go_sem, K64]; rfl) ?_
    | refine w_fn within_sat rfl Try.func97 rfl rfl (by first | rfl | (simpa [go_sem, *] using trivial)) rfl rfl (by simp [go_sem]; exact ⟨rfl, rfl⟩) (by exact ⟨_, _, _, rfl, rfl, rfl⟩) (by rfl) (by rfl) (by rfl) (by simp [go_sem]; rfl) ?_
    | refine l_fn within_sat rfl Try.func97 rfl rfl (by first | rfl | (simpa [go_sem, *] using trivial)) rfl rfl (by simp [go_sem]; exact ⟨rfl, rfl⟩) (by exact ⟨_, _, _, rfl, rfl, rfl⟩) (by rfl) (by rfl) (by rfl) (by simp [go_sem]; rfl) ?_
    | refine w_yes' (by simpa [go_sem, *] using trivial) rfl (by simp (disch := first | omega | (simp; omega)) [go_sem, grA, Try.ntmps64, -Option.map_eq_some_iff]; rfl) ?_
    | refine w_no' (by simpa [go_sem, *] using trivial) rfl rfl (by simp [go_sem, skipE]; rfl) ?_
    | refine w_op rfl (by simp (disch := first | omega | (simp; omega)) [go_sem, grA, Try.ntmps64, -Option.map_eq_some_iff, *]; rfl) ?_
    | refine l_op' (by simpa [go_sem, *] using trivial) rfl (by simp (disch := first | omega | (simp; omega)) [go_sem, grA, Try.ntmps64, -Option.map_eq_some_iff, *]; exact ⟨rfl, rfl⟩) ?_
    | refine l_no' (by simpa [go_sem, *] using trivial) rfl rfl (by simp [go_sem, skipE]; rfl) ?_
    | refine k_seq ?_
    | refine a_seq ?_
    | refine a_reg ?_
    | refine a_draw ?_
    | refine k_seq_exit ?_
    | refine k_seq_ret ?_
    | refine k_blk ?_
    | refine k_blk_exit ?_
    | refine k_blk_other rfl ?_
    | refine k_blk_ret ?_
    | refine k_lop_exit ?_
    | refine k_lop_ret ?_
    | refine a_skip ?_
    | refine a_ret ?_
    | refine a_exit ?_
    | refine a_block ?_
    | (refine a_cond (by simp [go_sem, *, -Bool.not_eq_eq_eq_not]; rfl) (fun hr => ?_) (fun hr => ?_) <;> (have hc := hr) <;> (try simp only [Bool.not_eq_true', Bool.not_eq_false', Bool.and_eq_true, Bool.and_eq_false_imp, Bool.or_eq_true, Bool.or_eq_false_iff, Bool.not_eq_true, Bool.not_eq_false, decide_eq_true_eq, decide_eq_false_iff_not, Int.not_lt, Int.not_le, ge_iff_le, gt_iff_lt, decide_true, decide_false, Bool.false_eq_true, reduceCtorEq, beq_iff_eq, beq_eq_false_iff_ne, ne_eq, bne_iff_ne, bne_eq_false_iff_eq, and_true, true_and, and_false, false_and] at hc) <;> (try (exfalso; omega)))
    | ((fail_if_success (refine w_same (by simpa [go_sem, *] using trivial) rfl ?_)); refine w_splv rfl (by simp [go_sem, *, -Bool.not_eq_eq_eq_not]; rfl) (fun hr => ?_) (fun hr => ?_) <;> (have hg := hr) <;> (try simp only [Bool.not_eq_true', Bool.not_eq_false', Bool.and_eq_true, Bool.and_eq_false_imp, Bool.or_eq_true, Bool.or_eq_false_iff, Bool.not_eq_true, Bool.not_eq_false, decide_eq_true_eq, decide_eq_false_iff_not, Int.not_lt, Int.not_le, ge_iff_le, gt_iff_lt, decide_true, decide_false, Bool.false_eq_true, reduceCtorEq, beq_iff_eq, beq_eq_false_iff_ne, ne_eq, bne_iff_ne, bne_eq_false_iff_eq, and_true, true_and, and_false, false_and] at hg) <;> (try (exfalso; omega)))
    | ((fail_if_success (refine l_same (by simpa [go_sem, *] using trivial) rfl ?_)); refine l_splv rfl (by simp [go_sem, *, -Bool.not_eq_eq_eq_not]; rfl) (fun hr => ?_) (fun hr => ?_) <;> (have hg := hr) <;> (try simp only [Bool.not_eq_true', Bool.not_eq_false', Bool.and_eq_true, Bool.and_eq_false_imp, Bool.or_eq_true, Bool.or_eq_false_iff, Bool.not_eq_true, Bool.not_eq_false, decide_eq_true_eq, decide_eq_false_iff_not, Int.not_lt, Int.not_le, ge_iff_le, gt_iff_lt, decide_true, decide_false, Bool.false_eq_true, reduceCtorEq, beq_iff_eq, beq_eq_false_iff_ne, ne_eq, bne_iff_ne, bne_eq_false_iff_eq, and_true, true_and, and_false, false_and] at hg) <;> (try (exfalso; omega))))
  all_goals first
    | (refine k_ret (by simp [go_sem]; first | exact ⟨rfl, rfl⟩ | rfl) ?_ rfl
       first | (simp_all [isG]; done) | (simp_all [isG]; omega))
    | skip
  refine a_loop (fun i : Nat => ⟨49, [(1, AV.one (.ptr 1 1 0 0)), (22, AV.one (.imm 3 (eds es))), (23, AV.one (.sc (.int es.length))), (24, AV.one (.sc (.int i)))], [(1, some (.box 28 [.sc (.int r), .sc (.int z), .imm 3 (eds es)]))], [1]⟩) (fun i => i ≤ es.length ∧ okAll r z es i = true) (fun i => es.length - i) 0 ⟨by omega, rfl⟩ ?_ ?_
  · exact weak_of [(1, .obj 8)] rfl (by decide) (by simp [go_sem, AVm, CVm, lookS]) (by simp [go_sem, OBm, CVm, lookS, All2]) rfl
  rintro i ⟨hi, hok⟩
  repeat' (first
    | refine w_op rfl (by simp (disch := first | omega | (simp; omega)) [go_sem, grA, edA, Try.ntmps64, -Option.map_eq_some_iff]; rfl) ?_
    | refine l_op rfl (by simp (disch := first | omega | (simp; omega)) [go_sem, grA, edA, Try.ntmps64, -Option.map_eq_some_iff]; exact ⟨rfl, rfl⟩) ?_
    | refine w_end (by simp [go_sem, K64]; rfl) ?_
    | refine l_end (by kernel_rfl) (by simp [go_sem, K64]; rfl) ?_
    | refine w_fn accepts_sat rfl Try.func98 rfl rfl (by first | rfl | (simpa [go_sem, *] using trivial)) rfl rfl (by simp [go_sem]; exact ⟨rfl, rfl⟩) (by exact ⟨r, z, es, ed es i, rfl, rfl, rfl⟩) (by rfl) (by rfl) (by rfl) (by simp [go_sem]; rfl) ?_
    | refine l_fn accepts_sat rfl Try.func98 rfl rfl (by first | rfl | (simpa [go_sem, *] using trivial)) rfl rfl (by simp [go_sem]; exact ⟨rfl, rfl⟩) (by exact ⟨r, z, es, ed es i, rfl, rfl, rfl⟩) (by rfl) (by rfl) (by rfl) (by simp [go_sem]; rfl) ?_
    | refine w_fn compareEdges_sat rfl Try.func99 rfl rfl (by first | rfl | (simpa [go_sem, *] using trivial)) rfl rfl (by simp [go_sem]; exact ⟨rfl, rfl⟩) (by exact ⟨_, _, rfl, rfl, rfl⟩) (by rfl) (by rfl) (by rfl) (by simp [go_sem]; rfl) ?_
    | refine l_fn compareEdges_sat rfl Try.func99 rfl rfl (by first | rfl | (simpa [go_sem, *] using trivial)) rfl rfl (by simp [go_sem]; exact ⟨rfl, rfl⟩) (by exact ⟨_, _, rfl, rfl, rfl⟩) (by rfl) (by rfl) (by rfl) (by simp [go_sem]; rfl) ?_
    | refine w_yes' (by simpa [go_sem, *] using trivial) rfl (by simp (disch := first | omega | (simp; omega)) [go_sem, grA, edA, Try.ntmps64, -Option.map_eq_some_iff]; rfl) ?_
    | refine w_no' (by simpa [go_sem, *] using trivial) rfl rfl (by simp [go_sem, skipE]; rfl) ?_
    | refine w_op rfl (by simp (disch := first | omega | (simp; omega)) [go_sem, grA, edA, Try.ntmps64, -Option.map_eq_some_iff, *]; rfl) ?_
    | refine l_op' (by simpa [go_sem, *] using trivial) rfl (by simp (disch := first | omega | (simp; omega)) [go_sem, grA, edA, Try.ntmps64, -Option.map_eq_some_iff, *]; exact ⟨rfl, rfl⟩) ?_
    | refine l_no' (by simpa [go_sem, *] using trivial) rfl rfl (by simp [go_sem, skipE]; rfl) ?_
    | refine k_seq ?_
    | refine a_seq ?_
    | refine a_reg ?_
    | refine a_draw ?_
    | refine k_seq_exit ?_
    | refine k_seq_ret ?_
    | refine k_blk ?_
    | refine k_blk_exit ?_
    | refine k_blk_other rfl ?_
    | refine k_blk_ret ?_
    | refine k_lop_exit ?_
    | refine k_lop_ret ?_
    | refine a_skip ?_
    | refine a_ret ?_
    | refine a_exit ?_
    | refine a_block ?_
    | (refine a_cond (by simp [go_sem, *, -Bool.not_eq_eq_eq_not]; rfl) (fun hr => ?_) (fun hr => ?_) <;> (have hc := hr) <;> (try simp only [Bool.not_eq_true', Bool.not_eq_false', Bool.and_eq_true, Bool.and_eq_false_imp, Bool.or_eq_true, Bool.or_eq_false_iff, Bool.not_eq_true, Bool.not_eq_false, decide_eq_true_eq, decide_eq_false_iff_not, Int.not_lt, Int.not_le, ge_iff_le, gt_iff_lt, decide_true, decide_false, Bool.false_eq_true, reduceCtorEq, beq_iff_eq, beq_eq_false_iff_ne, ne_eq, bne_iff_ne, bne_eq_false_iff_eq, and_true, true_and, and_false, false_and] at hc) <;> (try (exfalso; omega)))
    | ((fail_if_success (refine w_same (by simpa [go_sem, *] using trivial) rfl ?_)); refine w_splv rfl (by simp [go_sem, *, -Bool.not_eq_eq_eq_not]; rfl) (fun hr => ?_) (fun hr => ?_) <;> (have hg := hr) <;> (try simp only [Bool.not_eq_true', Bool.not_eq_false', Bool.and_eq_true, Bool.and_eq_false_imp, Bool.or_eq_true, Bool.or_eq_false_iff, Bool.not_eq_true, Bool.not_eq_false, decide_eq_true_eq, decide_eq_false_iff_not, Int.not_lt, Int.not_le, ge_iff_le, gt_iff_lt, decide_true, decide_false, Bool.false_eq_true, reduceCtorEq, beq_iff_eq, beq_eq_false_iff_ne, ne_eq, bne_iff_ne, bne_eq_false_iff_eq, and_true, true_and, and_false, false_and] at hg) <;> (try (exfalso; omega)))
    | ((fail_if_success (refine l_same (by simpa [go_sem, *] using trivial) rfl ?_)); refine l_splv rfl (by simp [go_sem, *, -Bool.not_eq_eq_eq_not]; rfl) (fun hr => ?_) (fun hr => ?_) <;> (have hg := hr) <;> (try simp only [Bool.not_eq_true', Bool.not_eq_false', Bool.and_eq_true, Bool.and_eq_false_imp, Bool.or_eq_true, Bool.or_eq_false_iff, Bool.not_eq_true, Bool.not_eq_false, decide_eq_true_eq, decide_eq_false_iff_not, Int.not_lt, Int.not_le, ge_iff_le, gt_iff_lt, decide_true, decide_false, Bool.false_eq_true, reduceCtorEq, beq_iff_eq, beq_eq_false_iff_ne, ne_eq, bne_iff_ne, bne_eq_false_iff_eq, and_true, true_and, and_false, false_and] at hg) <;> (try (exfalso; omega))))
  all_goals first
    | (refine k_lop (i + 1) ⟨by omega, by first | (simp [okAll_succ, ok1, *]; done) | (simp [okAll_succ, ok1, *]; omega)⟩ (by omega) (weak_of [(1, .obj 1)] rfl (by decide) (by simp [go_sem, AVm, CVm, lookS]) (by simp [go_sem, OBm, CVm, lookS, All2]) rfl); done)
    | (have hii : i = es.length := by omega
       subst hii
       refine k_ret (by simp [go_sem]; first | exact ⟨rfl, rfl⟩ | rfl) ?_ rfl
       first | (simp_all [isG]; done) | (simp_all [isG]; omega))
    | (have h1 := mt (okAll_mono (r := r) (z := z) (es := es) (n := i + 1) (m := es.length) (by omega))
       have h2 : okAll r z es (i + 1) = false := by first | (simp_all [okAll_succ, ok1]; done) | (simp_all [okAll_succ, ok1]; omega)
       have h3 : isG r z es = false := by simp [isG, h1 (by rw [h2]; simp)]
       refine k_ret (by simp [go_sem]; first | exact ⟨rfl, rfl⟩ | rfl) ?_ rfl
       rw [h3])
end Go.Proofs.Try

namespace Go.Proofs.Try
open Go Go.Eng
instance : Con Try.prog 118 (specOf has_sat) := con has_sat Try.func118
instance : Con Try.prog 98 (specOf accepts_sat) := con accepts_sat Try.func98
instance : Con Try.prog 64 (specOf isGraph_sat) := con isGraph_sat Try.func64
end Go.Proofs.Try
