import Derived.Test.YtfapjflogjblaaaA
set_option linter.unusedVariables false
set_option linter.unusedSimpArgs false
set_option linter.unnecessarySimpa false
namespace Go.Proofs.Try
set_option linter.unnecessarySimpa false
set_option linter.unusedSimpArgs false
set_option maxHeartbeats 2000000
open Go Go.Eng

/-! ### Marks -/
def mkE : Nat → Int → List Ed
  | 0, _ => []
  | n + 1, k => mkE n k ++ [(k + 3 * n, k + 3 * n + 1, k + 3 * n + 2)]
theorem mkE_len (n : Nat) (k : Int) : (mkE n k).length = n := by induction n with | zero => rfl | succ n ih => simp [mkE, ih]
theorem mkE_set {es : List Ed} {i : Nat} (k : Int) (h : i < es.length) : (mkE i k ++ es.drop i).set i (k + 3 * i, k + 3 * i + 1, k + 3 * i + 2) = mkE (i + 1) k ++ es.drop (i + 1) := by
  rw [List.set_append_right _ _ (by rw [mkE_len]; exact Nat.le_refl _), mkE_len, Nat.sub_self, List.drop_eq_getElem_cons h, List.set_cons_zero]
  simp [mkE]
theorem mkE_ed {n i : Nat} {k : Int} (h : i < n) : ed (mkE n k) i = (k + 3 * i, k + 3 * i + 1, k + 3 * i + 2) := by
  induction n with
  | zero => omega
  | succ n ih =>
    unfold mkE ed
    by_cases hi : i < n
    · have := ih hi
      unfold ed at this
      rw [List.getD_eq_getElem?_getD, List.getElem?_append_left (by rw [mkE_len]; exact hi), ← List.getD_eq_getElem?_getD, this]
    · have : i = n := by omega
      subst this
      rw [List.getD_eq_getElem?_getD, List.getElem?_append_right (by rw [mkE_len]; exact Nat.le_refl _), mkE_len]
      simp
attribute [go_sem] mkE_ed mkE_len
attribute [simp] mkE_len
end Go.Proofs.Try
namespace Go.Proofs.Try
open Go Go.Eng
set_option linter.unnecessarySimpa false
set_option linter.unusedSimpArgs false
set_option maxHeartbeats 4000000
/-! ### The laws' helpers, told anew -/
/-! ### Marks on ints -/
def mkI : Nat → Int → List Int
  | 0, _ => []
  | n + 1, k => mkI n k ++ [k + n]
theorem mkI_len (n : Nat) (k : Int) : (mkI n k).length = n := by induction n with | zero => rfl | succ n ih => simp [mkI, ih]
theorem mkI_set {l : List Int} {i : Nat} (k : Int) (h : i < l.length) : (mkI i k ++ l.drop i).set i (k + i) = mkI (i + 1) k ++ l.drop (i + 1) := by
  rw [List.set_append_right _ _ (by rw [mkI_len]; exact Nat.le_refl _), mkI_len, Nat.sub_self, List.drop_eq_getElem_cons h, List.set_cons_zero]
  simp [mkI]
theorem mkI_ix {n i : Nat} {k : Int} (h : i < n) : ix (mkI n k) i = k + i := by
  induction n with
  | zero => omega
  | succ n ih =>
    unfold ix mkI
    by_cases hi : i < n
    · have := ih hi
      unfold ix at this
      rw [List.getD_eq_getElem?_getD, List.getElem?_append_left (by rw [mkI_len]; exact hi), ← List.getD_eq_getElem?_getD, this]
    · have : i = n := by omega
      subst this
      rw [List.getD_eq_getElem?_getD, List.getElem?_append_right (by rw [mkI_len]; exact Nat.le_refl _), mkI_len]
      simp
attribute [go_sem] mkI_len mkI_ix
attribute [simp] mkI_len
end Go.Proofs.Try
namespace Go.Proofs.Try
open Go Go.Eng
set_option linter.unnecessarySimpa false
set_option linter.unusedSimpArgs false
set_option maxHeartbeats 4000000

abbrev Fd := Int × Int
def fds (l : List Fd) : List El := l.map fun e => [.int e.1, .int e.2]
def fd (l : List Fd) (i : Nat) : Fd := l.getD i (0, 0)
theorem fdsLen (l : List Fd) : (fds l).length = l.length := by simp [fds]
theorem fdsAt {l : List Fd} {i : Nat} (h : i < l.length) : (fds l)[i]? = some [.int (fd l i).1, .int (fd l i).2] := by
  simp [fds, fd, h]
theorem fdsApp (l : List Fd) (a b : Int) : fds l ++ [[.int a, .int b]] = fds (l ++ [(a, b)]) := by simp [fds]
theorem fdsNil : fds [] = [] := rfl
attribute [go_sem] fdsLen fdsAt fdsApp fdsNil
theorem edsDrop (l : List Ed) (n : Nat) : (eds l).drop n = eds (l.drop n) := by simp [eds, List.map_drop]
theorem edsTake (l : List Ed) (n : Nat) : (eds l).take n = eds (l.take n) := by simp [eds, List.map_take]
theorem edDrop (l : List Ed) (n j : Nat) : ed (l.drop n) j = ed l (n + j) := by simp [ed]
attribute [go_sem] edsDrop edsTake edDrop

def mnI (a b : Int) : Int := if b < a then b else a
def mxI (a b : Int) : Int := if a < b then b else a
def pairF (a b : Ed) : List Fd :=
  if a.2.1 = b.2.1 then (if a.1 = b.1 then [(mnI a.2.2 b.2.2, mxI a.2.2 b.2.2)] else []) ++ (if a.2.2 = b.2.2 then [(mnI a.1 b.1, mxI a.1 b.1)] else []) else []
def innerF (es : List Ed) (i : Nat) : Nat → List Fd
  | 0 => []
  | n + 1 => innerF es i n ++ pairF (ed es i) (ed es (i + 1 + n))
def outerF (es : List Ed) : Nat → List Fd
  | 0 => []
  | n + 1 => outerF es n ++ innerF es n (es.length - (n + 1))
def foldsOf (es : List Ed) : List Fd := outerF es es.length
theorem pairF_len (a b : Ed) : (pairF a b).length ≤ 2 := by
  unfold pairF
  split
  · split <;> split <;> simp
  · simp
theorem innerF_len (es : List Ed) (i n : Nat) : (innerF es i n).length ≤ 2 * n := by
  induction n with
  | zero => simp [innerF]
  | succ n ih =>
    have := pairF_len (ed es i) (ed es (i + 1 + n))
    simp only [innerF, List.length_append]; omega
theorem outerF_len (es : List Ed) (n : Nat) : (outerF es n).length ≤ n * (2 * es.length) := by
  induction n with
  | zero => simp [outerF]
  | succ n ih =>
    have := innerF_len es n (es.length - (n + 1))
    simp only [outerF, List.length_append, Nat.add_mul]; omega
theorem outerF_len2 (es : List Ed) (n : Nat) (h : n ≤ es.length) : (outerF es n).length + (es.length - n) * (es.length - n) + n ≤ es.length * es.length := by
  induction n with
  | zero => simp [outerF]
  | succ n ih =>
    have h1 := ih (by omega)
    have h2 := innerF_len es n (es.length - (n + 1))
    obtain ⟨m, hm⟩ : ∃ m, es.length = n + 1 + m := ⟨es.length - (n + 1), by omega⟩
    have e1 : es.length - (n + 1) = m := by omega
    have e2 : es.length - n = m + 1 := by omega
    rw [e1] at h2 ⊢
    rw [e2] at h1
    simp only [outerF, List.length_append, e1]
    have e3 : (m + 1) * (m + 1) = m * m + 2 * m + 1 := by simp only [Nat.add_mul, Nat.mul_add]; omega
    rw [e3] at h1
    omega
theorem outerF_bound {es : List Ed} {n : Nat} (h : es.length ≤ 1048576) (hn : n < es.length) : (outerF es n).length + 2 * (es.length - (n + 1)) + 1 ≤ 1099511627776 := by
  have h1 := outerF_len2 es n (by omega)
  obtain ⟨m, hm⟩ : ∃ m, es.length = n + 1 + m := ⟨es.length - (n + 1), by omega⟩
  have e1 : es.length - (n + 1) = m := by omega
  have e2 : es.length - n = m + 1 := by omega
  rw [e2] at h1
  rw [e1]
  have e3 : (m + 1) * (m + 1) = m * m + 2 * m + 1 := by simp only [Nat.add_mul, Nat.mul_add]; omega
  rw [e3] at h1
  have h2 : es.length * es.length ≤ 1048576 * 1048576 := Nat.mul_le_mul h h
  omega
theorem foldsOf_lenG (es : List Ed) : (foldsOf es).length ≤ es.length * es.length := by
  have := outerF_len2 es es.length (Nat.le_refl _)
  unfold foldsOf
  omega
end Go.Proofs.Try
namespace Go.Proofs.Try
open Go Go.Eng
set_option linter.unnecessarySimpa false
set_option linter.unusedSimpArgs false
set_option maxHeartbeats 4000000
end Go.Proofs.Try
namespace Go.Proofs.Try
open Go Go.Eng
set_option linter.unnecessarySimpa false
set_option linter.unusedSimpArgs false
set_option maxHeartbeats 4000000
theorem isG_len {r z : Int} {es : List Ed} (h : isG r z es = true) : es.length ≤ 120 := by
  simp only [isG, Bool.and_eq_true, decide_eq_true_eq] at h
  exact h.2.2
theorem foldsOf_len {es : List Ed} (h : es.length ≤ 120) : (foldsOf es).length ≤ 28800 := by
  have h1 := foldsOf_lenG es
  have h2 : es.length * es.length ≤ 120 * 120 := Nat.mul_le_mul h h
  omega
theorem isG_len2 {r z : Int} {es : List Ed} (h : isG r z es = true) : es.length ≤ 1048576 := by have := isG_len h; omega
def ffOk (r z : Int) (es : List Ed) : Bool := isG r z es && decide (0 < (foldsOf es).length)
def ffF (r z : Int) (es : List Ed) : Fd := if ffOk r z es then fd (foldsOf es) 0 else (0, 0)
def fdA (p : Fd) : AV := .agg [.sc (.int p.1), .sc (.int p.2)]
end Go.Proofs.Try
namespace Go.Proofs.Try
open Go Go.Eng
set_option linter.unnecessarySimpa false
set_option linter.unusedSimpArgs false
set_option maxHeartbeats 4000000
/-! ### The laws' helpers at folds -/
abbrev oF (e : Nat) (l : List Fd) : Go.Eng.Obj := .flat e 2 (fds l)
abbrev aF (l : List Fd) : AV := .one (.imm 2 (fds l))
abbrev fA (a b : Int) : AV := .agg [.sc (.int a), .sc (.int b)]
theorem fdsSet (l : List Fd) (i : Nat) (a b : Int) : (fds l).set i [.int a, .int b] = fds (l.set i (a, b)) := by simp [fds, List.map_set]
theorem fdsTake (l : List Fd) (n : Nat) : (fds l).take n = fds (l.take n) := by simp [fds, List.map_take]
theorem fdsDrop (l : List Fd) (n : Nat) : (fds l).drop n = fds (l.drop n) := by simp [fds, List.map_drop]
theorem fdsApps (l m : List Fd) : fds l ++ fds m = fds (l ++ m) := by simp [fds]
attribute [go_sem] fdsSet fdsTake fdsDrop fdsApps fdA
theorem fds_eq {xs ys : List Fd} (hl : xs.length = ys.length) (h : ∀ j, j < xs.length → fd xs j = fd ys j) : xs = ys := by
  apply List.ext_getElem hl
  intro i h1 h2
  have := h i h1
  simpa [fd, h1, h2] using this
theorem shFoldA {t : Nat} (ht : T t = .st [3, 3]) {a : AV} (h : ShA T t a) : ∃ k d : Int, a = fA k d ∧ rg k ∧ rg d := by
  simp only [ShA, ht] at h
  obtain ⟨cs, rfl, h⟩ := h
  obtain ⟨c0, c1, rfl, h0, h1⟩ := all2_2 h
  obtain ⟨k, rfl, hk⟩ := shCInt T3 h0
  obtain ⟨d, rfl, hd⟩ := shCInt T3 h1
  exact ⟨k, d, rfl, hk, hd⟩
theorem shEdgeA {t : Nat} (ht : T t = .st [3, 3, 3]) {a : AV} (h : ShA T t a) : ∃ x y w : Int, a = .agg [.sc (.int x), .sc (.int y), .sc (.int w)] ∧ rg x ∧ rg y ∧ rg w := by
  simp only [ShA, ht] at h
  obtain ⟨cs, rfl, h⟩ := h
  obtain ⟨c0, c1, c2, rfl, h0, h1, h2⟩ := all2_3 h
  obtain ⟨k, rfl, hk⟩ := shCInt T3 h0
  obtain ⟨d, rfl, hd⟩ := shCInt T3 h1
  obtain ⟨e, rfl, he⟩ := shCInt T3 h2
  exact ⟨k, d, e, rfl, hk, hd, he⟩
theorem shFold {t a b : Nat} (ht : T t = .st [a, b]) (ha : T a = .int) (hb : T b = .int) {el : El} (h : ShE T t el) : ∃ e : Fd, el = [.int e.1, .int e.2] := by
  simp only [ShE, ht] at h
  match el, h with
  | [s0, s1], ⟨h0, h1, _⟩ =>
    simp only at h0 h1
    rw [ha] at h0; rw [hb] at h1
    cases s0 <;> first | (exact h0.elim) | skip
    cases s1 <;> first | (exact h1.elim) | skip
    exact ⟨(_, _), rfl⟩
theorem shFolds {t : Nat} (ht : T t = .st [3, 3]) {xs : List El} (h : ∀ el ∈ xs, ShE T t el) : ∃ l : List Fd, xs = fds l := by
  induction xs with
  | nil => exact ⟨[], rfl⟩
  | cons x xs ih =>
    obtain ⟨l, rfl⟩ := ih (fun el hel => h el (by simp [hel]))
    obtain ⟨e, rfl⟩ := shFold ht T3 T3 (h x (by simp))
    exact ⟨e :: l, rfl⟩
end Go.Proofs.Try
