import Derived.Test.YtfgpcfdoahgkpaaGreatE2
import Derived.Test.YtfgpcfdoahgkpaaGreatProg
import Derived.OpenShut
set_option linter.unusedVariables false
set_option linter.unusedSimpArgs false
set_option linter.unnecessarySimpa false
namespace Go.Proofs.Tryz
open Go Go.Eng
def tab : List (Nat × TI) := [(2, .int), (3, .int), (4, .bool), (5, .u8), (6, .u8), (7, .st [2, 3, 4, 6]), (8, .st [2, 3, 4, 6]), (9, .str), (10, .str), (11, .str), (22, .sl 74), (23, .st [3, 3, 22]), (24, .st [3, 3, 22]), (26, .sl 3), (29, .sl 68), (30, .st [3, 3, 29]), (31, .st [3, 3, 29]), (38, .sl 26), (67, .st [3, 3, 3]), (68, .st [3, 3, 3]), (74, .st [3, 3, 3]), (82, .sl 102), (87, .sl 4), (101, .st [3, 3]), (102, .st [3, 3]), (118, .int), (156, .u8), (157, .u8)]
def T : Tys := lookT tab
theorem T2 : T 2 = .int := rfl
theorem T3 : T 3 = .int := rfl
theorem T4 : T 4 = .bool := rfl
theorem T5 : T 5 = .u8 := rfl
theorem T6 : T 6 = .u8 := rfl
theorem T7 : T 7 = .st [2, 3, 4, 6] := rfl
theorem T8 : T 8 = .st [2, 3, 4, 6] := rfl
theorem T9 : T 9 = .str := rfl
theorem T10 : T 10 = .str := rfl
theorem T11 : T 11 = .str := rfl
theorem T22 : T 22 = .sl 74 := rfl
theorem T23 : T 23 = .st [3, 3, 22] := rfl
theorem T24 : T 24 = .st [3, 3, 22] := rfl
theorem T26 : T 26 = .sl 3 := rfl
theorem T29 : T 29 = .sl 68 := rfl
theorem T30 : T 30 = .st [3, 3, 29] := rfl
theorem T31 : T 31 = .st [3, 3, 29] := rfl
theorem T38 : T 38 = .sl 26 := rfl
theorem T67 : T 67 = .st [3, 3, 3] := rfl
theorem T68 : T 68 = .st [3, 3, 3] := rfl
theorem T74 : T 74 = .st [3, 3, 3] := rfl
theorem T82 : T 82 = .sl 102 := rfl
theorem T87 : T 87 = .sl 4 := rfl
theorem T101 : T 101 = .st [3, 3] := rfl
theorem T102 : T 102 = .st [3, 3] := rfl
theorem T118 : T 118 = .int := rfl
theorem T156 : T 156 = .u8 := rfl
theorem T157 : T 157 = .u8 := rfl
theorem tok : TOk Tryz.prog T := tok_of (fun _ => rfl) ⟨fact_int Tryz.underlying2 (by kernel_rfl),
  fact_int Tryz.underlying3 (by kernel_rfl),
  fact_bool Tryz.underlying4 (by kernel_rfl),
  fact_u8 Tryz.underlying5 (by kernel_rfl),
  fact_u8 Tryz.underlying6 (by kernel_rfl),
  fact_st 24 Tryz.underlying7 (by decide) (by decide) Tryz.stoodInHeld7 Tryz.eqGuardType7 (by decide) (by kernel_rfl),
  fact_st 24 Tryz.underlying8 (by decide) (by decide) Tryz.stoodInHeld8 Tryz.eqGuardType8 (by decide) (by kernel_rfl),
  fact_str Tryz.underlying9 (by kernel_rfl),
  fact_str Tryz.underlying10 (by kernel_rfl),
  fact_str Tryz.underlying11 (by kernel_rfl),
  fact_sl Tryz.underlying22 (by kernel_rfl),
  fact_st 40 Tryz.underlying23 (by decide) (by decide) Tryz.stoodInHeld23 Tryz.eqGuardType23 (by decide) (by kernel_rfl),
  fact_st 40 Tryz.underlying24 (by decide) (by decide) Tryz.stoodInHeld24 Tryz.eqGuardType24 (by decide) (by kernel_rfl),
  fact_sl Tryz.underlying26 (by kernel_rfl),
  fact_sl Tryz.underlying29 (by kernel_rfl),
  fact_st 40 Tryz.underlying30 (by decide) (by decide) Tryz.stoodInHeld30 Tryz.eqGuardType30 (by decide) (by kernel_rfl),
  fact_st 40 Tryz.underlying31 (by decide) (by decide) Tryz.stoodInHeld31 Tryz.eqGuardType31 (by decide) (by kernel_rfl),
  fact_sl Tryz.underlying38 (by kernel_rfl),
  fact_st 24 Tryz.underlying67 (by decide) (by decide) Tryz.stoodInHeld67 Tryz.eqGuardType67 (by decide) (by kernel_rfl),
  fact_st 24 Tryz.underlying68 (by decide) (by decide) Tryz.stoodInHeld68 Tryz.eqGuardType68 (by decide) (by kernel_rfl),
  fact_st 24 Tryz.underlying74 (by decide) (by decide) Tryz.stoodInHeld74 Tryz.eqGuardType74 (by decide) (by kernel_rfl),
  fact_sl Tryz.underlying82 (by kernel_rfl),
  fact_sl Tryz.underlying87 (by kernel_rfl),
  fact_st 16 Tryz.underlying101 (by decide) (by decide) Tryz.stoodInHeld101 Tryz.eqGuardType101 (by decide) (by kernel_rfl),
  fact_st 16 Tryz.underlying102 (by decide) (by decide) Tryz.stoodInHeld102 Tryz.eqGuardType102 (by decide) (by kernel_rfl),
  fact_int Tryz.underlying118 (by kernel_rfl),
  fact_u8 Tryz.underlying156 (by kernel_rfl),
  fact_u8 Tryz.underlying157 (by kernel_rfl), trivial⟩
theorem okr : Reck.Ok Tryz.prog (reck T) := reck_ok tok
theorem mixed : Tryz.prog.follows .mixedOrders = true := by kernel_rfl
attribute [go_sem] T2 T3 T4 T5 T6 T7 T8 T9 T10 T11 T22 T23 T24 T26 T29 T30 T31 T38 T67 T68 T74 T82 T87 T101 T102 T118 T156 T157 
end Go.Proofs.Tryz
namespace Go.Proofs.Tryz
set_option linter.unnecessarySimpa false
set_option linter.unusedSimpArgs false
set_option maxHeartbeats 2000000
open Go Go.Eng

/-! ### Edges and graphs -/
abbrev Ed := Int × Int × Int
def eds (l : List Ed) : List El := l.map fun e => [.int e.1, .int e.2.1, .int e.2.2]
def ed (l : List Ed) (i : Nat) : Ed := l.getD i (0, 0, 0)
theorem edsLen (l : List Ed) : (eds l).length = l.length := by simp [eds]
theorem edsAt {l : List Ed} {i : Nat} (h : i < l.length) : (eds l)[i]? = some [.int (ed l i).1, .int (ed l i).2.1, .int (ed l i).2.2] := by
  simp [eds, ed, h]
theorem edsSet (l : List Ed) (i : Nat) (a b c : Int) : (eds l).set i [.int a, .int b, .int c] = eds (l.set i (a, b, c)) := by simp [eds, List.map_set]
theorem edSet {l : List Ed} {i : Nat} (p : Ed) (h : i < l.length) : ed (l.set i p) i = p := by simp [ed, h]
theorem edsApp (l : List Ed) (a b c : Int) : eds l ++ [[.int a, .int b, .int c]] = eds (l ++ [(a, b, c)]) := by simp [eds]
theorem edsApps (l m : List Ed) : eds l ++ eds m = eds (l ++ m) := by simp [eds]
theorem edsNil : eds [] = [] := rfl
attribute [go_sem] edsLen edsAt edsSet edSet edsApp edsApps edsNil
theorem eds_eq {xs ys : List Ed} (hl : xs.length = ys.length) (h : ∀ j, j < xs.length → ed xs j = ed ys j) : xs = ys := by
  apply List.ext_getElem hl
  intro i h1 h2
  have := h i h1
  simpa [ed, h1, h2] using this
/-! ### Arguments by their shape -/
def rg (n : Int) : Prop := -9223372036854775808 ≤ n ∧ n ≤ 9223372036854775807
def rgE (es : List Ed) : Prop := ∀ e ∈ es, rg e.1 ∧ rg e.2.1 ∧ rg e.2.2
theorem all2_2 {α β : Type} {R : α → β → Prop} {a b : α} {l : List β} (h : All2 R [a, b] l) : ∃ x y, l = [x, y] ∧ R a x ∧ R b y := by
  match l, h with
  | [x, y], ⟨h0, h1, _⟩ => exact ⟨x, y, rfl, h0, h1⟩
theorem all2_3 {α β : Type} {R : α → β → Prop} {a b c : α} {l : List β} (h : All2 R [a, b, c] l) : ∃ x y z, l = [x, y, z] ∧ R a x ∧ R b y ∧ R c z := by
  match l, h with
  | [x, y, z], ⟨h0, h1, h2, _⟩ => exact ⟨x, y, z, rfl, h0, h1, h2⟩
theorem all2_4 {α β : Type} {R : α → β → Prop} {a b c d : α} {l : List β} (h : All2 R [a, b, c, d] l) : ∃ x y z u, l = [x, y, z, u] ∧ R a x ∧ R b y ∧ R c z ∧ R d u := by
  match l, h with
  | [x, y, z, u], ⟨h0, h1, h2, h3, _⟩ => exact ⟨x, y, z, u, rfl, h0, h1, h2, h3⟩
theorem all2_1 {α β : Type} {R : α → β → Prop} {a : α} {l : List β} (h : All2 R [a] l) : ∃ x, l = [x] ∧ R a x := by
  match l, h with
  | [x], ⟨h0, _⟩ => exact ⟨x, rfl, h0⟩
theorem maxLen_eq : maxLen = 9223372036854775807 := by decide
theorem rg_of {n : Int} (h : (Lit.int .i64 n).wf = true) : rg n := Go.bounds_i64 h
theorem shInt {t : Nat} (ht : T t = .int) {a : AV} (h : ShA T t a) : ∃ n, a = .one (.sc (.int n)) ∧ rg n := by
  simp only [ShA, ht] at h
  obtain ⟨c, rfl, h⟩ := h
  simp only [ShC, ht] at h
  obtain ⟨s, rfl, h⟩ := h
  cases s <;> first | exact ⟨_, rfl, rg_of h⟩ | exact h.elim
theorem shCInt {t : Nat} (ht : T t = .int) {c : CV} (h : ShC T t c) : ∃ n, c = .sc (.int n) ∧ rg n := by
  simp only [ShC, ht] at h
  obtain ⟨s, rfl, h⟩ := h
  cases s <;> first | exact ⟨_, rfl, rg_of h⟩ | exact h.elim
theorem shEInt {t : Nat} (ht : T t = .int) {el : El} (h : ShE T t el) : ∃ n, el = [.int n] ∧ rg n := by
  simp only [ShE, ht] at h
  obtain ⟨s, rfl, h⟩ := h
  cases s <;> first | exact ⟨_, rfl, rg_of h⟩ | exact h.elim
theorem shInts {t e : Nat} (ht : T t = .sl e) (he : T e = .int) {a : AV} (h : ShA T t a) : ∃ l : List Int, a = .one (.imm 1 (ints l)) ∧ l.length ≤ 9223372036854775807 ∧ ∀ n ∈ l, rg n := by
  simp only [ShA, ht] at h
  obtain ⟨c, rfl, h⟩ := h
  simp only [ShC, ht, he] at h
  obtain ⟨xs, rfl, hl, h⟩ := h
  have : ∃ l : List Int, xs = ints l ∧ ∀ n ∈ l, rg n := by
    clear hl
    induction xs with
    | nil => exact ⟨[], rfl, by simp⟩
    | cons x xs ih =>
      obtain ⟨l, rfl, hl⟩ := ih (fun el hel => h el (by simp [hel]))
      obtain ⟨n, rfl, hn⟩ := shEInt he (h x (by simp))
      exact ⟨n :: l, rfl, by simp [hn]; exact hl⟩
  obtain ⟨l, rfl, hr⟩ := this
  exact ⟨l, by simp [kOf, he], by rw [← intsLen l, ← maxLen_eq]; exact hl, hr⟩
theorem shEdge {t a b c : Nat} (ht : T t = .st [a, b, c]) (ha : T a = .int) (hb : T b = .int) (hc : T c = .int) {el : El} (h : ShE T t el) : ∃ e : Ed, el = [.int e.1, .int e.2.1, .int e.2.2] ∧ rg e.1 ∧ rg e.2.1 ∧ rg e.2.2 := by
  simp only [ShE, ht] at h
  match el, h with
  | [s0, s1, s2], ⟨h0, h1, h2, _⟩ =>
    simp only at h0 h1 h2
    rw [ha] at h0; rw [hb] at h1; rw [hc] at h2
    cases s0 <;> first | (exact h0.elim) | skip
    cases s1 <;> first | (exact h1.elim) | skip
    cases s2 <;> first | (exact h2.elim) | skip
    exact ⟨(_, _, _), rfl, rg_of h0, rg_of h1, rg_of h2⟩
theorem shEdges {t : Nat} (ht : T t = .st [3, 3, 3]) {xs : List El} (h : ∀ el ∈ xs, ShE T t el) : ∃ l : List Ed, xs = eds l ∧ rgE l := by
  induction xs with
  | nil => exact ⟨[], rfl, by simp [rgE]⟩
  | cons x xs ih =>
    obtain ⟨l, rfl, hl⟩ := ih (fun el hel => h el (by simp [hel]))
    obtain ⟨e, rfl, he⟩ := shEdge ht T3 T3 T3 (h x (by simp))
    refine ⟨e :: l, rfl, ?_⟩
    intro e' he'
    rcases List.mem_cons.1 he' with rfl | h'
    · exact he
    · exact hl e' h'
def edA (p : Ed) : AV := .agg [.sc (.int p.1), .sc (.int p.2.1), .sc (.int p.2.2)]
def grA (r z : Int) (es : List Ed) : AV := .agg [.sc (.int r), .sc (.int z), .imm 3 (eds es)]

theorem shGraph {a : AV} (h : ShA T 24 a) : ∃ (r z : Int) (es : List Ed), a = grA r z es ∧ es.length ≤ 9223372036854775807 ∧ rg r ∧ rg z ∧ rgE es := by
  simp only [ShA, T24] at h
  obtain ⟨cs, rfl, h⟩ := h
  obtain ⟨c0, c1, c2, rfl, h0, h1, h2⟩ := all2_3 h
  obtain ⟨r, rfl, hr⟩ := shCInt T3 h0
  obtain ⟨z, rfl, hz⟩ := shCInt T3 h1
  simp only [ShC, T22, T74] at h2
  obtain ⟨xs, rfl, hl, h2⟩ := h2
  obtain ⟨es, rfl, hes⟩ := shEdges T74 h2
  exact ⟨r, z, es, by simp [grA, kOf, T74], by rw [← edsLen es, ← maxLen_eq]; exact hl, hr, hz, hes⟩

theorem takeDrop {α : Type} (l : List α) (n : Nat) : (l.drop n).take (l.length - n) = l.drop n := by rw [← List.length_drop, List.take_length]
attribute [go_sem] takeDrop
attribute [go_sem] grA edA entryM
def K_within_sat : Nat → List Nat := fun i => ([[0, 1, 2], [6]] : List (List Nat)).getD i []
attribute [go_sem] K_within_sat
def within_sat_S : Eng.Spec := fun args av objs => ∃ (a b c : Int), args = [aI a, aI b, aI c] ∧ av = aB (decide (b ≤ a ∧ a ≤ c)) ∧ objs = []
theorem within_sat : Sat Tryz.prog 117 within_sat_S := by
  refine sat_of tok okr mixed K_within_sat Tryz.func117 rfl (rs := [.tmp 6]) rfl Tryz.ntmps117 ?_
  rintro args av objs ⟨a, b, c, rfl, rfl, rfl⟩
  refine ⟨by show 3 ≤ 15; decide, ?_⟩
  repeat' (first|(refine ya ?_;first|refine ye ?_)|(refine yg ?_;intro hgs;first|(replace hgs:=zgy hgs;first|refine yy hgs ?_;clear hgs)|(refine yn (zgn hgs) ?_;clear hgs)|((fail_if_success have:=zgy hgs);refine z_spl hgs (h1:=?_) (h2:=?_)<;>clear hgs<;>intro hg hr<;>try first|contradiction|exfalso;omega))|refine yz ?_|refine zst ?_|refine k_blk_other rfl ?_|(refine zk ?_ ?_<;>intro hc hr<;>try first|contradiction|exfalso;omega))
  all_goals refine z_ret (hv := ?_) (ho := ?_)
  all_goals simp_all
  all_goals omega
instance : Con Tryz.prog 117 within_sat_S := con within_sat Tryz.func117
def K_l1In_sat : Nat → List Nat := fun i => ([[0, 1, 2], [6]] : List (List Nat)).getD i []
attribute [go_sem] K_l1In_sat
def l1In_sat_S : Eng.Spec := fun args av objs => ∃ (a b c : Int), args = [aI a, aI b, aI c] ∧ av = aB (decide (b ≤ a ∧ a ≤ c)) ∧ objs = []
theorem l1In_sat : Sat Tryz.prog 76 l1In_sat_S := by
  refine sat_of tok okr mixed K_l1In_sat Tryz.func76 rfl (rs := [.tmp 6]) rfl Tryz.ntmps76 ?_
  rintro args av objs ⟨a, b, c, rfl, rfl, rfl⟩
  refine ⟨by show 3 ≤ 15; decide, ?_⟩
  repeat' (first|(refine ya ?_;first|refine ye ?_)|(refine yg ?_;intro hgs;first|(replace hgs:=zgy hgs;first|refine yy hgs ?_;clear hgs)|(refine yn (zgn hgs) ?_;clear hgs)|((fail_if_success have:=zgy hgs);refine z_spl hgs (h1:=?_) (h2:=?_)<;>clear hgs<;>intro hg hr<;>try first|contradiction|exfalso;omega))|refine yz ?_|refine zst ?_|refine k_blk_other rfl ?_|(refine zk ?_ ?_<;>intro hc hr<;>try first|contradiction|exfalso;omega))
  all_goals refine z_ret (hv := ?_) (ho := ?_)
  all_goals simp_all
  all_goals omega

/-! ### Equality -/
instance : Con Tryz.prog 76 l1In_sat_S := con l1In_sat Tryz.func76
def K_eqEdge_sat : Nat → List Nat := fun i => ([[2, 3], [2, 3, 9], [4], [2, 3, 14], [4], [19], [4], [4]] : List (List Nat)).getD i []
attribute [go_sem] K_eqEdge_sat
def eqEdge_sat_S : Eng.Spec := fun args av objs => ∃ (a b c x y w : Int), args = [.agg [.sc (.int a), .sc (.int b), .sc (.int c)], .agg [.sc (.int x), .sc (.int y), .sc (.int w)]] ∧ av = aB (decide ((a, b, c) = (x, y, w))) ∧ objs = []
theorem eqEdge_sat : Sat Tryz.prog 91 eqEdge_sat_S := by
  refine sat_of tok okr mixed K_eqEdge_sat Tryz.func91 rfl (rs := [.tmp 4]) rfl Tryz.ntmps91 ?_
  rintro args av objs ⟨a, b, c, x, y, w, rfl, rfl, rfl⟩
  refine ⟨by show 2 ≤ 20; decide, ?_⟩
  repeat' (first|(refine ya ?_;first|refine ye ?_)|refine yz ?_|refine zst ?_|refine k_blk_other rfl ?_|(refine zk ?_ ?_<;>intro hc hr<;>try first|contradiction|exfalso;omega))
  all_goals refine z_ret (hv := ?_) (ho := ?_)
  all_goals simp_all
instance : Con Tryz.prog 91 eqEdge_sat_S := con eqEdge_sat Tryz.func91
def K_eqEdgeS_sat : Nat → List Nat := fun i => ([[0, 1], [0, 1, 10], [4], [0, 1, 5], [0, 1, 5, 14], [0, 1, 5], [0, 1, 5, 26], [4], [4]] : List (List Nat)).getD i []
attribute [go_sem] K_eqEdgeS_sat
def eqEdgeS_sat_S : Eng.Spec := fun args av objs => ∃ (xs ys : List Ed), (xs.length ≤ 1099511627776) ∧ args = [.one (.imm 3 (eds xs)), .one (.imm 3 (eds ys))] ∧ av = aB (decide (xs = ys)) ∧ objs = []
theorem eqEdgeS_sat : Sat Tryz.prog 53 eqEdgeS_sat_S := by
  refine sat_of tok okr mixed K_eqEdgeS_sat Tryz.func53 rfl (rs := [.tmp 4]) rfl Tryz.ntmps53 ?_
  rintro args av objs ⟨xs, ys, hpre, rfl, rfl, rfl⟩
  refine ⟨by show 2 ≤ 27; decide, ?_⟩
  repeat' (first|(refine ya ?_;first|(refine yb ?_;first|refine yc ?_)|refine ye ?_)|refine yz ?_|(refine yA ?_;first|(refine yB ?_;first|refine yC ?_)|refine yE ?_)|refine yZ ?_|refine zst ?_|refine k_blk_other rfl ?_|(refine zk ?_ ?_<;>intro hc hr<;>try first|contradiction|exfalso;omega))
  · have : ¬ xs = ys := by rintro rfl; simp at hc
    all_goals first | (refine z_ret (hv := ?_) (ho := ?_) <;> first | rfl | (simp [go_sem, *]; done) | (simp_all; done) | (simp_all; omega)) | skip
  · have hl : xs.length = ys.length := by omega
    refine z_loop (fun i : Nat => [(5, aI i)]) (fun i : Nat => []) (fun i : Nat => i ≤ xs.length ∧ ∀ j, j < i → ed xs j = ed ys j) (fun i : Nat => xs.length - i) (0) (h0 := ?_) (henv := ?_) (hobj := ?_) (h := ?_)
    · exact ⟨by omega, fun j hj => by omega⟩
    · simp [go_sem, AVm, CVm, lookS]
    · simp [go_sem, OBm, CVm, lookS, All2]
    rintro i ⟨hi, hall⟩
    rcases Nat.lt_or_ge i xs.length with hlt | hge
    · have hlt2 : i < ys.length := by omega
      repeat' (first|(refine ya ?_;first|(refine yb ?_;first|refine yc ?_)|refine ye ?_)|refine yz ?_|(refine yA ?_;first|(refine yB ?_;first|refine yC ?_)|refine yE ?_)|refine yZ ?_|refine zst ?_|refine k_blk_other rfl ?_|(refine zk ?_ ?_<;>intro hc hr<;>try first|contradiction|exfalso;omega))
      · have : ¬ xs = ys := by rintro rfl; simp at hc
        all_goals first | (refine z_ret (hv := ?_) (ho := ?_) <;> first | rfl | (simp [go_sem, *]; done) | (simp_all; done) | (simp_all; omega)) | skip
      · have he : ed xs i = ed ys i := Prod.ext hc.1 (Prod.ext hc.2.1 hc.2.2)
        exact zl (i + 1) (hj := by exact ⟨by omega, fun j hj => (Nat.lt_or_ge j i).elim (hall j) fun h => by rw [show j = i by omega]; exact he⟩)
    · have : xs = ys := eds_eq hl (fun j hj => hall j (by omega))
      repeat' (first|(refine ya ?_;first|(refine yb ?_;first|refine yc ?_)|refine ye ?_)|refine yz ?_|(refine yA ?_;first|(refine yB ?_;first|refine yC ?_)|refine yE ?_)|refine yZ ?_|refine zst ?_|refine k_blk_other rfl ?_|(refine zk ?_ ?_<;>intro hc hr<;>try first|contradiction|exfalso;omega))
      all_goals first | (refine z_ret (hv := ?_) (ho := ?_) <;> first | rfl | (simp [go_sem, *]; done) | (simp_all; done) | (simp_all; omega)) | skip
instance : Con Tryz.prog 53 eqEdgeS_sat_S := con eqEdgeS_sat Tryz.func53
def K_eqGraph_sat : Nat → List Nat := fun i => ([[2, 3], [2, 3, 9], [4], [2, 3, 14], [4], [20], [4], [4]] : List (List Nat)).getD i []
attribute [go_sem] K_eqGraph_sat
def eqGraph_sat_S : Eng.Spec := fun args av objs => ∃ (r z : Int) (es : List Ed) (r' z' : Int) (es' : List Ed), (es.length ≤ 1099511627776) ∧ args = [grA r z es, grA r' z' es'] ∧ av = aB (decide (r = r' ∧ z = z' ∧ es = es')) ∧ objs = []
theorem eqGraph_sat : Sat Tryz.prog 15 eqGraph_sat_S := by
  refine sat_of tok okr mixed K_eqGraph_sat Tryz.func15 rfl (rs := [.tmp 4]) rfl Tryz.ntmps15 ?_
  rintro args av objs ⟨r, z, es, r', z', es', hpre, rfl, rfl, rfl⟩
  refine ⟨by show 2 ≤ 21; decide, ?_⟩
  repeat' (first|(refine ya ?_;first|(refine yb ?_;first|refine yc ?_)|refine ye ?_)|refine yz ?_|refine zst ?_|refine k_blk_other rfl ?_|(refine zk ?_ ?_<;>intro hc hr<;>try first|contradiction|exfalso;omega))
  all_goals refine z_ret (hv := ?_) (ho := ?_)
  all_goals simp_all

/-! ### Copies of the laws -/
def zEd (n : Nat) : List Ed := List.replicate n (0, 0, 0)
theorem zEd_eq (n : Nat) : List.replicate n [Sc.int 0, Sc.int 0, Sc.int 0] = eds (zEd n) := by simp [eds, zEd]
def cpE (es : List Ed) (i : Nat) : List Ed := es.take i ++ zEd (es.length - i)
theorem cpE_len {es : List Ed} {i : Nat} (h : i ≤ es.length) : (cpE es i).length = es.length := by simp [cpE, zEd]; omega
theorem cpE_0 (es : List Ed) : cpE es 0 = zEd es.length := by simp [cpE]
theorem cpE_all (es : List Ed) : cpE es es.length = es := by simp [cpE, zEd]
theorem cpE_set {es : List Ed} {i : Nat} (h : i < es.length) : (cpE es i).set i (ed es i) = cpE es (i + 1) := by
  have e1 : zEd (es.length - i) = (0, 0, 0) :: zEd (es.length - (i + 1)) := by
    have : es.length - i = (es.length - (i + 1)) + 1 := by omega
    rw [this]; rfl
  have e2 : es.take (i + 1) = es.take i ++ [ed es i] := by
    rw [List.take_add_one]; simp [ed, h]
  unfold cpE
  rw [e1, e2, List.set_append_right _ _ (by rw [List.length_take]; omega)]
  have e3 : i - (List.take i es).length = 0 := by rw [List.length_take]; omega
  rw [e3]
  simp
instance : Con Tryz.prog 15 eqGraph_sat_S := con eqGraph_sat Tryz.func15
def K_toEdge_sat : Nat → List Nat := fun i => ([[1, 2], [1, 2, 3], [1, 2, 3], [1, 2, 3], [2, 3], [2]] : List (List Nat)).getD i []
attribute [go_sem] K_toEdge_sat
def toEdge_sat_S : Eng.Spec := fun args av objs => ∃ (a b c : Int), args = [.agg [.sc (.int a), .sc (.int b), .sc (.int c)]] ∧ av = .agg [.sc (.int a), .sc (.int b), .sc (.int c)] ∧ objs = []
theorem toEdge_sat : Sat Tryz.prog 80 toEdge_sat_S := by
  refine sat_of tok okr mixed K_toEdge_sat Tryz.func80 rfl (rs := [.cell 2 68]) rfl Tryz.ntmps80 ?_
  rintro args av objs ⟨a, b, c, rfl, rfl, rfl⟩
  refine ⟨by show 1 ≤ 14; decide, ?_⟩
  repeat' (first|(refine ya ?_;first|refine ye ?_)|refine yz ?_|refine zst ?_|refine k_blk_other rfl ?_|(refine zk ?_ ?_<;>intro hc hr<;>try first|contradiction|exfalso;omega))
  all_goals first | (refine z_ret (hv := ?_) (ho := ?_) <;> first | rfl | (simp [go_sem, *]; done) | (simp_all; done) | (simp_all; omega)) | skip
instance : Con Tryz.prog 80 toEdge_sat_S := con toEdge_sat Tryz.func80
def K_toEdgeS_sat : Nat → List Nat := fun i => ([[0], [0, 3], [0, 3, 4], [0, 3, 4, 11], [0, 3, 4], [0, 3, 4], [2]] : List (List Nat)).getD i []
attribute [go_sem] K_toEdgeS_sat
def toEdgeS_sat_S : Eng.Spec := fun args av objs => ∃ (es : List Ed), (es.length ≤ 1099511627776) ∧ args = [.one (.imm 3 (eds es))] ∧ av = aR 0 ∧ objs = [.flat 68 3 (eds es)]
theorem toEdgeS_sat : Sat Tryz.prog 45 toEdgeS_sat_S := by
  refine sat_of tok okr mixed K_toEdgeS_sat Tryz.func45 rfl (rs := [.tmp 2]) rfl Tryz.ntmps45 ?_
  rintro args av objs ⟨es, hpre, rfl, rfl, rfl⟩
  refine ⟨by show 1 ≤ 23; decide, ?_⟩
  repeat' (first|(refine ya ?_;first|(refine yb ?_;first|refine yc ?_)|refine ye ?_)|refine yz ?_|refine zst ?_|refine k_blk_other rfl ?_|(refine zk ?_ ?_<;>intro hc hr<;>try first|contradiction|exfalso;omega))
  refine z_loop (fun i : Nat => [(4, aI i)]) (fun i : Nat => [.obj 3 (.flat 68 3 (eds (cpE es i)))]) (fun i : Nat => i ≤ es.length) (fun i : Nat => es.length - i) (0) (h0 := ?_) (henv := ?_) (hobj := ?_) (h := ?_)
  · omega
  · simp [go_sem, AVm, CVm, lookS, cpE_0, zEd_eq]
  · simp [go_sem, OBm, CVm, lookS, All2, cpE_0, zEd_eq]
  intro i hi
  have hlen := cpE_len hi
  rcases Nat.lt_or_ge i es.length with hlt | hge
  · have hs := cpE_set hlt
    repeat' (first|(refine ya ?_;first|(refine yb ?_;first|refine yc ?_)|refine ye ?_)|refine yz ?_|refine zst ?_|refine k_blk_other rfl ?_|(refine zk ?_ ?_<;>intro hc hr<;>try first|contradiction|exfalso;omega))
    (refine z_lop (i + 1) (hj := ?_) (hmu := ?_) (henv := ?_) (hobj := ?_); (· omega); (· first | omega | (simp only; omega)); (· first | (simp [go_sem, AVm, CVm, lookS, hs, *]; done) | (simp [go_sem, AVm, CVm, lookS, hs, *] <;> (repeat' split) <;> first | omega | (simp_all; done) | (exfalso; omega) | (simp_all; omega))); (· first | (simp [go_sem, OBm, CVm, All2, lookS, hs, *]; done) | (simp [go_sem, OBm, CVm, All2, lookS, hs, *] <;> (repeat' split) <;> first | omega | (simp_all; done) | (exfalso; omega) | (simp_all; omega))))
  · have : i = es.length := by omega
    subst this
    repeat' (first|(refine ya ?_;first|(refine yb ?_;first|refine yc ?_)|refine ye ?_)|refine yz ?_|refine zst ?_|refine k_blk_other rfl ?_|(refine zk ?_ ?_<;>intro hc hr<;>try first|contradiction|exfalso;omega))
    all_goals first | (refine z_ret (hv := ?_) (ho := ?_) <;> first | rfl | (simp [go_sem, cpE_all, *]; done) | (simp_all [cpE_all]; done) | (simp_all [cpE_all]; omega)) | skip
instance : Con Tryz.prog 45 toEdgeS_sat_S := con toEdgeS_sat Tryz.func45
def K_toGraph_sat : Nat → List Nat := fun i => ([[1, 2], [1, 2, 3], [1, 2, 3], [1, 2, 3], [2, 3], [2]] : List (List Nat)).getD i []
attribute [go_sem] K_toGraph_sat
def toGraph_sat_S : Eng.Spec := fun args av objs => ∃ (r z : Int) (es : List Ed), (es.length ≤ 1099511627776) ∧ args = [grA r z es] ∧ av = .agg [.sc (.int r), .sc (.int z), .ref 0] ∧ objs = [.flat 68 3 (eds es)]
theorem toGraph_sat : Sat Tryz.prog 12 toGraph_sat_S := by
  refine sat_of tok okr mixed K_toGraph_sat Tryz.func12 rfl (rs := [.cell 2 31]) rfl Tryz.ntmps12 ?_
  rintro args av objs ⟨r, z, es, hpre, rfl, rfl, rfl⟩
  refine ⟨by show 1 ≤ 15; decide, ?_⟩
  repeat' (first|(refine ya ?_;first|(refine yb ?_;first|refine yc ?_)|refine ye ?_)|refine yz ?_|refine zst ?_|refine k_blk_other rfl ?_|(refine zk ?_ ?_<;>intro hc hr<;>try first|contradiction|exfalso;omega))
  all_goals first | (refine z_ret (hv := ?_) (ho := ?_) <;> first | rfl | (simp [go_sem, *]; done) | (simp_all; done) | (simp_all; omega)) | skip
instance : Con Tryz.prog 12 toGraph_sat_S := con toGraph_sat Tryz.func12
def K_szEdgeS_sat : Nat → List Nat := fun i => ([[0, 1], [1], [1, 10], [4], [4]] : List (List Nat)).getD i []
attribute [go_sem] K_szEdgeS_sat
def szEdgeS_sat_S : Eng.Spec := fun args av objs => ∃ (es : List Ed) (k : Int), (es.length ≤ 9223372036854775807 ∧ 0 ≤ k ∧ k ≤ 1048576) ∧ args = [.one (.imm 3 (eds es)), aI k] ∧ av = aI (if k < es.length then -1 else k - es.length) ∧ objs = []
theorem szEdgeS_sat : Sat Tryz.prog 37 szEdgeS_sat_S := by
  refine sat_of tok okr mixed K_szEdgeS_sat Tryz.func37 rfl (rs := [.tmp 4]) rfl Tryz.ntmps37 ?_
  rintro args av objs ⟨es, k, hpre, rfl, rfl, rfl⟩
  refine ⟨by show 2 ≤ 12; decide, ?_⟩
  by_cases h : k < es.length
  · rw [if_pos h]
    repeat' (first|(refine ya ?_;first|refine ye ?_)|refine yz ?_|refine zst ?_|refine k_blk_other rfl ?_|(refine zk ?_ ?_<;>intro hc hr<;>try first|contradiction|exfalso;omega))
    all_goals first | (refine z_ret (hv := ?_) (ho := ?_) <;> first | rfl | (simp [go_sem, *]; done) | (simp_all; done) | (simp_all; omega)) | skip
  · rw [if_neg h]
    repeat' (first|(refine ya ?_;first|refine ye ?_)|refine yz ?_|refine zst ?_|refine k_blk_other rfl ?_|(refine zk ?_ ?_<;>intro hc hr<;>try first|contradiction|exfalso;omega))
    all_goals first | (refine z_ret (hv := ?_) (ho := ?_) <;> first | rfl | (simp [go_sem, *]; done) | (simp_all; done) | (simp_all; omega)) | skip
instance : Con Tryz.prog 37 szEdgeS_sat_S := con szEdgeS_sat Tryz.func37
def K_szGraph_sat : Nat → List Nat := fun i => ([[1, 2], [1], [1, 10], [4], [4]] : List (List Nat)).getD i []
attribute [go_sem] K_szGraph_sat
def szGraph_sat_S : Eng.Spec := fun args av objs => ∃ (r z : Int) (es : List Ed) (k : Int), (es.length ≤ 9223372036854775807 ∧ 0 ≤ k ∧ k ≤ 1048576) ∧ args = [grA r z es, aI k] ∧ av = aI (if k < es.length then -1 else k - es.length) ∧ objs = []
theorem szGraph_sat : Sat Tryz.prog 10 szGraph_sat_S := by
  refine sat_of tok okr mixed K_szGraph_sat Tryz.func10 rfl (rs := [.tmp 4]) rfl Tryz.ntmps10 ?_
  rintro args av objs ⟨r, z, es, k, hpre, rfl, rfl, rfl⟩
  refine ⟨by show 2 ≤ 12; decide, ?_⟩
  by_cases h : k < es.length
  · have he : (if k < es.length then -1 else k - es.length : Int) = -1 := by rw [if_pos h]
    repeat' (first|(refine ya ?_;first|(refine yb ?_;first|refine yc ?_)|refine ye ?_)|refine yz ?_|refine zst ?_|refine k_blk_other rfl ?_|(refine zk ?_ ?_<;>intro hc hr<;>try first|contradiction|exfalso;omega))
    all_goals first | (refine z_ret (hv := ?_) (ho := ?_) <;> first | rfl | (simp [go_sem, *]; done) | (simp_all; done) | (simp_all; omega)) | skip
  · have he : (if k < es.length then -1 else k - es.length : Int) = k - es.length := by rw [if_neg h]
    repeat' (first|(refine ya ?_;first|(refine yb ?_;first|refine yc ?_)|refine ye ?_)|refine yz ?_|refine zst ?_|refine k_blk_other rfl ?_|(refine zk ?_ ?_<;>intro hc hr<;>try first|contradiction|exfalso;omega))
    all_goals first | (refine z_ret (hv := ?_) (ho := ?_) <;> first | rfl | (simp [go_sem, *]; done) | (simp_all; done) | (simp_all; omega)) | skip
instance : Con Tryz.prog 10 szGraph_sat_S := con szGraph_sat Tryz.func10
end Go.Proofs.Tryz
namespace Go.Proofs.Tryz
open Go Go.Eng
set_option linter.unnecessarySimpa false
set_option linter.unusedSimpArgs false
set_option maxHeartbeats 4000000

/-! ### Lists of ints: equality, copies, sizes, marks -/
theorem intsSet (l : List Int) (i : Nat) (a : Int) : (ints l).set i [.int a] = ints (l.set i a) := by simp [ints, List.map_set]
theorem intsApp (l : List Int) (a : Int) : ints l ++ [[.int a]] = ints (l ++ [a]) := by simp [ints]
theorem intsApps (l m : List Int) : ints l ++ ints m = ints (l ++ m) := by simp [ints]
theorem intsNil : ints [] = [] := rfl
theorem intsDrop (l : List Int) (n : Nat) : (ints l).drop n = ints (l.drop n) := by simp [ints, List.map_drop]
theorem intsTake (l : List Int) (n : Nat) : (ints l).take n = ints (l.take n) := by simp [ints, List.map_take]
theorem ixDrop (l : List Int) (n j : Nat) : ix (l.drop n) j = ix l (n + j) := by simp [ix]
attribute [go_sem] intsSet intsApp intsApps intsNil intsDrop intsTake ixDrop
theorem ints_eq {xs ys : List Int} (hl : xs.length = ys.length) (h : ∀ j, j < xs.length → ix xs j = ix ys j) : xs = ys := by
  apply List.ext_getElem hl
  intro i h1 h2
  have := h i h1
  simpa [ix, h1, h2] using this
def K14 : Nat → List Nat := fun i => ([[0, 1], [0, 1, 10], [4], [0, 1, 5], [0, 1, 5, 14], [0, 1, 5], [0, 1, 5, 25], [4], [4]] : List (List Nat)).getD i []
def eqIntS_S : Eng.Spec := fun args av objs => ∃ xs ys : List Int, xs.length ≤ 1099511627776 ∧ args = [AV.one (.imm 1 (ints xs)), AV.one (.imm 1 (ints ys))] ∧ av = AV.one (.sc (.bool (decide (xs = ys)))) ∧ objs = []
theorem eqIntS_sat : Sat Tryz.prog 14 eqIntS_S := by
  refine sat_of tok okr mixed K14 Tryz.func14 rfl (rs := [.tmp 4]) rfl rfl ?_
  rintro args av objs ⟨xs, ys, hx, rfl, rfl, rfl⟩
  refine ⟨by show 2 ≤ 26; decide, ?_⟩
  repeat' (first
    | refine w_op rfl (by simp (disch := first | omega | (simp; omega)) [go_sem, Tryz.ntmps14, -Option.map_eq_some_iff]; rfl) ?_
    | refine l_op rfl (by simp (disch := first | omega | (simp; omega)) [go_sem, Tryz.ntmps14, -Option.map_eq_some_iff]; exact ⟨rfl, rfl⟩) ?_
    | refine w_end (by simp [go_sem, K14]; rfl) ?_
    | refine l_end (by kernel_rfl) (by simp [go_sem, K14]; rfl) ?_
    | refine w_yes' (by simpa [go_sem, *] using trivial) rfl (by simp (disch := first | omega | (simp; omega)) [go_sem, Tryz.ntmps14, -Option.map_eq_some_iff]; rfl) ?_
    | refine w_no' (by simpa [go_sem, *] using trivial) rfl rfl (by simp [go_sem, skipE]; rfl) ?_
    | refine w_op rfl (by simp (disch := first | omega | (simp; omega)) [go_sem, Tryz.ntmps14, -Option.map_eq_some_iff, *]; rfl) ?_
    | refine l_op' (by simpa [go_sem, *] using trivial) rfl (by simp (disch := first | omega | (simp; omega)) [go_sem, Tryz.ntmps14, -Option.map_eq_some_iff, *]; exact ⟨rfl, rfl⟩) ?_
    | refine l_no' (by simpa [go_sem, *] using trivial) rfl rfl (by simp [go_sem, skipE]; rfl) ?_
    | refine k_seq ?_
    | refine a_seq ?_
    | refine a_reg ?_
    | refine a_draw ?_
    | refine k_seq_exit ?_
    | refine k_seq_ret ?_
    | refine k_blk ?_
    | refine k_blk_exit ?_
    | refine k_blk_other rfl ?_
    | refine k_blk_ret ?_
    | refine k_lop_exit ?_
    | refine k_lop_ret ?_
    | refine a_skip ?_
    | refine a_ret ?_
    | refine a_exit ?_
    | refine a_block ?_
    | (refine a_cond (by simp [go_sem, *, -Bool.not_eq_eq_eq_not]; rfl) (fun hr => ?_) (fun hr => ?_) <;> (have hc := hr) <;> (try simp only [Bool.not_eq_true', Bool.not_eq_false', Bool.and_eq_true, Bool.and_eq_false_imp, Bool.or_eq_true, Bool.or_eq_false_iff, Bool.not_eq_true, Bool.not_eq_false, decide_eq_true_eq, decide_eq_false_iff_not, Int.not_lt, Int.not_le, ge_iff_le, gt_iff_lt, decide_true, decide_false, Bool.false_eq_true, reduceCtorEq, beq_iff_eq, beq_eq_false_iff_ne, ne_eq, bne_iff_ne, bne_eq_false_iff_eq, and_true, true_and, and_false, false_and] at hc) <;> (try (exfalso; omega)))
    | ((fail_if_success (refine w_same (by simpa [go_sem, *] using trivial) rfl ?_)); refine w_splv rfl (by simp [go_sem, *, -Bool.not_eq_eq_eq_not]; rfl) (fun hr => ?_) (fun hr => ?_) <;> (have hg := hr) <;> (try simp only [Bool.not_eq_true', Bool.not_eq_false', Bool.and_eq_true, Bool.and_eq_false_imp, Bool.or_eq_true, Bool.or_eq_false_iff, Bool.not_eq_true, Bool.not_eq_false, decide_eq_true_eq, decide_eq_false_iff_not, Int.not_lt, Int.not_le, ge_iff_le, gt_iff_lt, decide_true, decide_false, Bool.false_eq_true, reduceCtorEq, beq_iff_eq, beq_eq_false_iff_ne, ne_eq, bne_iff_ne, bne_eq_false_iff_eq, and_true, true_and, and_false, false_and] at hg) <;> (try (exfalso; omega)))
    | ((fail_if_success (refine l_same (by simpa [go_sem, *] using trivial) rfl ?_)); refine l_splv rfl (by simp [go_sem, *, -Bool.not_eq_eq_eq_not]; rfl) (fun hr => ?_) (fun hr => ?_) <;> (have hg := hr) <;> (try simp only [Bool.not_eq_true', Bool.not_eq_false', Bool.and_eq_true, Bool.and_eq_false_imp, Bool.or_eq_true, Bool.or_eq_false_iff, Bool.not_eq_true, Bool.not_eq_false, decide_eq_true_eq, decide_eq_false_iff_not, Int.not_lt, Int.not_le, ge_iff_le, gt_iff_lt, decide_true, decide_false, Bool.false_eq_true, reduceCtorEq, beq_iff_eq, beq_eq_false_iff_ne, ne_eq, bne_iff_ne, bne_eq_false_iff_eq, and_true, true_and, and_false, false_and] at hg) <;> (try (exfalso; omega))))
  · refine k_ret (by simp [go_sem]; first | exact ⟨rfl, rfl⟩ | rfl) ?_ rfl
    have : ¬ xs = ys := by rintro rfl; simp at hc
    simp [this]
  · have hl : xs.length = ys.length := by omega
    refine a_loop (fun i : Nat => ⟨26, [(0, AV.one (.imm 1 (ints xs))), (1, AV.one (.imm 1 (ints ys))), (5, AV.one (.sc (.int i)))], [], []⟩) (fun i => i ≤ xs.length ∧ ∀ j, j < i → ix xs j = ix ys j) (fun i => xs.length - i) 0 ⟨by omega, fun j hj => by omega⟩ (Weak.refl _) ?_
    rintro i ⟨hi, hall⟩
    repeat' (first
    | refine w_op rfl (by simp (disch := first | omega | (simp; omega)) [go_sem, Tryz.ntmps14, -Option.map_eq_some_iff]; rfl) ?_
    | refine l_op rfl (by simp (disch := first | omega | (simp; omega)) [go_sem, Tryz.ntmps14, -Option.map_eq_some_iff]; exact ⟨rfl, rfl⟩) ?_
    | refine w_end (by simp [go_sem, K14]; rfl) ?_
    | refine l_end (by kernel_rfl) (by simp [go_sem, K14]; rfl) ?_
    | refine w_yes' (by simpa [go_sem, *] using trivial) rfl (by simp (disch := first | omega | (simp; omega)) [go_sem, Tryz.ntmps14, -Option.map_eq_some_iff]; rfl) ?_
    | refine w_no' (by simpa [go_sem, *] using trivial) rfl rfl (by simp [go_sem, skipE]; rfl) ?_
    | refine w_op rfl (by simp (disch := first | omega | (simp; omega)) [go_sem, Tryz.ntmps14, -Option.map_eq_some_iff, *]; rfl) ?_
    | refine l_op' (by simpa [go_sem, *] using trivial) rfl (by simp (disch := first | omega | (simp; omega)) [go_sem, Tryz.ntmps14, -Option.map_eq_some_iff, *]; exact ⟨rfl, rfl⟩) ?_
    | refine l_no' (by simpa [go_sem, *] using trivial) rfl rfl (by simp [go_sem, skipE]; rfl) ?_
    | refine k_seq ?_
    | refine a_seq ?_
    | refine a_reg ?_
    | refine a_draw ?_
    | refine k_seq_exit ?_
    | refine k_seq_ret ?_
    | refine k_blk ?_
    | refine k_blk_exit ?_
    | refine k_blk_other rfl ?_
    | refine k_blk_ret ?_
    | refine k_lop_exit ?_
    | refine k_lop_ret ?_
    | refine a_skip ?_
    | refine a_ret ?_
    | refine a_exit ?_
    | refine a_block ?_
    | (refine a_cond (by simp [go_sem, *, -Bool.not_eq_eq_eq_not]; rfl) (fun hr => ?_) (fun hr => ?_) <;> (have hc := hr) <;> (try simp only [Bool.not_eq_true', Bool.not_eq_false', Bool.and_eq_true, Bool.and_eq_false_imp, Bool.or_eq_true, Bool.or_eq_false_iff, Bool.not_eq_true, Bool.not_eq_false, decide_eq_true_eq, decide_eq_false_iff_not, Int.not_lt, Int.not_le, ge_iff_le, gt_iff_lt, decide_true, decide_false, Bool.false_eq_true, reduceCtorEq, beq_iff_eq, beq_eq_false_iff_ne, ne_eq, bne_iff_ne, bne_eq_false_iff_eq, and_true, true_and, and_false, false_and] at hc) <;> (try (exfalso; omega)))
    | ((fail_if_success (refine w_same (by simpa [go_sem, *] using trivial) rfl ?_)); refine w_splv rfl (by simp [go_sem, *, -Bool.not_eq_eq_eq_not]; rfl) (fun hr => ?_) (fun hr => ?_) <;> (have hg := hr) <;> (try simp only [Bool.not_eq_true', Bool.not_eq_false', Bool.and_eq_true, Bool.and_eq_false_imp, Bool.or_eq_true, Bool.or_eq_false_iff, Bool.not_eq_true, Bool.not_eq_false, decide_eq_true_eq, decide_eq_false_iff_not, Int.not_lt, Int.not_le, ge_iff_le, gt_iff_lt, decide_true, decide_false, Bool.false_eq_true, reduceCtorEq, beq_iff_eq, beq_eq_false_iff_ne, ne_eq, bne_iff_ne, bne_eq_false_iff_eq, and_true, true_and, and_false, false_and] at hg) <;> (try (exfalso; omega)))
    | ((fail_if_success (refine l_same (by simpa [go_sem, *] using trivial) rfl ?_)); refine l_splv rfl (by simp [go_sem, *, -Bool.not_eq_eq_eq_not]; rfl) (fun hr => ?_) (fun hr => ?_) <;> (have hg := hr) <;> (try simp only [Bool.not_eq_true', Bool.not_eq_false', Bool.and_eq_true, Bool.and_eq_false_imp, Bool.or_eq_true, Bool.or_eq_false_iff, Bool.not_eq_true, Bool.not_eq_false, decide_eq_true_eq, decide_eq_false_iff_not, Int.not_lt, Int.not_le, ge_iff_le, gt_iff_lt, decide_true, decide_false, Bool.false_eq_true, reduceCtorEq, beq_iff_eq, beq_eq_false_iff_ne, ne_eq, bne_iff_ne, bne_eq_false_iff_eq, and_true, true_and, and_false, false_and] at hg) <;> (try (exfalso; omega))))
    · refine k_ret (by simp [go_sem]; first | exact ⟨rfl, rfl⟩ | rfl) ?_ rfl
      have : ¬ xs = ys := by rintro rfl; simp at hc
      simp [this]
    · refine k_lop (i + 1) ⟨by omega, fun j hj => ?_⟩ (by omega) (Weak.refl _)
      rcases Nat.lt_or_ge j i with h | h
      · exact hall j h
      · have : j = i := by omega
        subst this; simp_all
    · refine k_ret (by simp [go_sem]; first | exact ⟨rfl, rfl⟩ | rfl) ?_ rfl
      have := ints_eq hl (fun j hj => hall j (by omega))
      simp [this]
def cpI (l : List Int) (i : Nat) : List Int := l.take i ++ List.replicate (l.length - i) 0
theorem zI_eq (n : Nat) : List.replicate n [Sc.int 0] = ints (List.replicate n 0) := by simp [ints]
theorem cpI_len {l : List Int} {i : Nat} (h : i ≤ l.length) : (cpI l i).length = l.length := by simp [cpI]; omega
theorem cpI_0 (l : List Int) : cpI l 0 = List.replicate l.length 0 := by simp [cpI]
theorem cpI_all (l : List Int) : cpI l l.length = l := by simp [cpI]
theorem cpI_set {l : List Int} {i : Nat} (h : i < l.length) : (cpI l i).set i (ix l i) = cpI l (i + 1) := by
  have e1 : List.replicate (l.length - i) (0 : Int) = 0 :: List.replicate (l.length - (i + 1)) 0 := by
    have : l.length - i = (l.length - (i + 1)) + 1 := by omega
    rw [this]; rfl
  have e2 : l.take (i + 1) = l.take i ++ [ix l i] := by
    rw [List.take_add_one]; simp [ix, h]
  unfold cpI
  rw [e1, e2, List.set_append_right _ _ (by rw [List.length_take]; omega)]
  have e3 : i - (List.take i l).length = 0 := by rw [List.length_take]; omega
  rw [e3]
  simp
def K68 : Nat → List Nat := fun i => ([[0], [0, 3], [0, 3, 4], [0, 3, 4, 11], [0, 3, 4], [0, 3, 4], [2]] : List (List Nat)).getD i []
def toIntS_S : Eng.Spec := fun args av objs => ∃ l : List Int, l.length ≤ 1099511627776 ∧ args = [AV.one (.imm 1 (ints l))] ∧ av = AV.one (.ref 0) ∧ objs = [.flat 3 1 (ints l)]
theorem toIntS_sat : Sat Tryz.prog 68 toIntS_S := by
  refine sat_of tok okr mixed K68 Tryz.func68 rfl (rs := [.tmp 2]) rfl rfl ?_
  rintro args av objs ⟨l, hl, rfl, rfl, rfl⟩
  refine ⟨by show 1 ≤ 22; decide, ?_⟩
  repeat' (first
    | refine w_op rfl (by simp (disch := first | omega | (simp; omega)) [go_sem, Tryz.ntmps68, -Option.map_eq_some_iff]; rfl) ?_
    | refine l_op rfl (by simp (disch := first | omega | (simp; omega)) [go_sem, Tryz.ntmps68, -Option.map_eq_some_iff]; exact ⟨rfl, rfl⟩) ?_
    | refine w_end (by simp [go_sem, K68]; rfl) ?_
    | refine l_end (by kernel_rfl) (by simp [go_sem, K68]; rfl) ?_
    | refine w_yes' (by simpa [go_sem, *] using trivial) rfl (by simp (disch := first | omega | (simp; omega)) [go_sem, Tryz.ntmps68, -Option.map_eq_some_iff]; rfl) ?_
    | refine w_no' (by simpa [go_sem, *] using trivial) rfl rfl (by simp [go_sem, skipE]; rfl) ?_
    | refine w_op rfl (by simp (disch := first | omega | (simp; omega)) [go_sem, Tryz.ntmps68, -Option.map_eq_some_iff, *]; rfl) ?_
    | refine l_op' (by simpa [go_sem, *] using trivial) rfl (by simp (disch := first | omega | (simp; omega)) [go_sem, Tryz.ntmps68, -Option.map_eq_some_iff, *]; exact ⟨rfl, rfl⟩) ?_
    | refine l_no' (by simpa [go_sem, *] using trivial) rfl rfl (by simp [go_sem, skipE]; rfl) ?_
    | refine k_seq ?_
    | refine a_seq ?_
    | refine a_reg ?_
    | refine a_draw ?_
    | refine k_seq_exit ?_
    | refine k_seq_ret ?_
    | refine k_blk ?_
    | refine k_blk_exit ?_
    | refine k_blk_other rfl ?_
    | refine k_blk_ret ?_
    | refine k_lop_exit ?_
    | refine k_lop_ret ?_
    | refine a_skip ?_
    | refine a_ret ?_
    | refine a_exit ?_
    | refine a_block ?_
    | (refine a_cond (by simp [go_sem, *, -Bool.not_eq_eq_eq_not]; rfl) (fun hr => ?_) (fun hr => ?_) <;> (have hc := hr) <;> (try simp only [Bool.not_eq_true', Bool.not_eq_false', Bool.and_eq_true, Bool.and_eq_false_imp, Bool.or_eq_true, Bool.or_eq_false_iff, Bool.not_eq_true, Bool.not_eq_false, decide_eq_true_eq, decide_eq_false_iff_not, Int.not_lt, Int.not_le, ge_iff_le, gt_iff_lt, decide_true, decide_false, Bool.false_eq_true, reduceCtorEq, beq_iff_eq, beq_eq_false_iff_ne, ne_eq, bne_iff_ne, bne_eq_false_iff_eq, and_true, true_and, and_false, false_and] at hc) <;> (try (exfalso; omega)))
    | ((fail_if_success (refine w_same (by simpa [go_sem, *] using trivial) rfl ?_)); refine w_splv rfl (by simp [go_sem, *, -Bool.not_eq_eq_eq_not]; rfl) (fun hr => ?_) (fun hr => ?_) <;> (have hg := hr) <;> (try simp only [Bool.not_eq_true', Bool.not_eq_false', Bool.and_eq_true, Bool.and_eq_false_imp, Bool.or_eq_true, Bool.or_eq_false_iff, Bool.not_eq_true, Bool.not_eq_false, decide_eq_true_eq, decide_eq_false_iff_not, Int.not_lt, Int.not_le, ge_iff_le, gt_iff_lt, decide_true, decide_false, Bool.false_eq_true, reduceCtorEq, beq_iff_eq, beq_eq_false_iff_ne, ne_eq, bne_iff_ne, bne_eq_false_iff_eq, and_true, true_and, and_false, false_and] at hg) <;> (try (exfalso; omega)))
    | ((fail_if_success (refine l_same (by simpa [go_sem, *] using trivial) rfl ?_)); refine l_splv rfl (by simp [go_sem, *, -Bool.not_eq_eq_eq_not]; rfl) (fun hr => ?_) (fun hr => ?_) <;> (have hg := hr) <;> (try simp only [Bool.not_eq_true', Bool.not_eq_false', Bool.and_eq_true, Bool.and_eq_false_imp, Bool.or_eq_true, Bool.or_eq_false_iff, Bool.not_eq_true, Bool.not_eq_false, decide_eq_true_eq, decide_eq_false_iff_not, Int.not_lt, Int.not_le, ge_iff_le, gt_iff_lt, decide_true, decide_false, Bool.false_eq_true, reduceCtorEq, beq_iff_eq, beq_eq_false_iff_ne, ne_eq, bne_iff_ne, bne_eq_false_iff_eq, and_true, true_and, and_false, false_and] at hg) <;> (try (exfalso; omega))))
  refine a_loop (fun i : Nat => ⟨22, [(0, AV.one (.imm 1 (ints l))), (3, AV.one (.ref 3)), (4, AV.one (.sc (.int i)))], [(3, some (.flat 3 1 (ints (cpI l i))))], [3]⟩) (fun i => i ≤ l.length) (fun i => l.length - i) 0 (by omega) ?_ ?_
  · exact weak_of [(3, .obj 56)] rfl (by decide) (by simp [go_sem, AVm, CVm, lookS, cpI_0, zI_eq]) (by simp [go_sem, OBm, CVm, lookS, All2, cpI_0, zI_eq]) rfl
  · intro i hi
    have hlen := cpI_len hi
    repeat' (first
    | refine w_op rfl (by simp (disch := first | omega | (simp; omega)) [go_sem, hlen, Tryz.ntmps68, -Option.map_eq_some_iff]; rfl) ?_
    | refine l_op rfl (by simp (disch := first | omega | (simp; omega)) [go_sem, hlen, Tryz.ntmps68, -Option.map_eq_some_iff]; exact ⟨rfl, rfl⟩) ?_
    | refine w_end (by simp [go_sem, K68]; rfl) ?_
    | refine l_end (by kernel_rfl) (by simp [go_sem, K68]; rfl) ?_
    | refine w_yes' (by simpa [go_sem, *] using trivial) rfl (by simp (disch := first | omega | (simp; omega)) [go_sem, hlen, Tryz.ntmps68, -Option.map_eq_some_iff]; rfl) ?_
    | refine w_no' (by simpa [go_sem, *] using trivial) rfl rfl (by simp [go_sem, skipE]; rfl) ?_
    | refine w_op rfl (by simp (disch := first | omega | (simp; omega)) [go_sem, hlen, Tryz.ntmps68, -Option.map_eq_some_iff, *]; rfl) ?_
    | refine l_op' (by simpa [go_sem, *] using trivial) rfl (by simp (disch := first | omega | (simp; omega)) [go_sem, hlen, Tryz.ntmps68, -Option.map_eq_some_iff, *]; exact ⟨rfl, rfl⟩) ?_
    | refine l_no' (by simpa [go_sem, *] using trivial) rfl rfl (by simp [go_sem, skipE]; rfl) ?_
    | refine k_seq ?_
    | refine a_seq ?_
    | refine a_reg ?_
    | refine a_draw ?_
    | refine k_seq_exit ?_
    | refine k_seq_ret ?_
    | refine k_blk ?_
    | refine k_blk_exit ?_
    | refine k_blk_other rfl ?_
    | refine k_blk_ret ?_
    | refine k_lop_exit ?_
    | refine k_lop_ret ?_
    | refine a_skip ?_
    | refine a_ret ?_
    | refine a_exit ?_
    | refine a_block ?_
    | (refine a_cond (by simp [go_sem, *, -Bool.not_eq_eq_eq_not]; rfl) (fun hr => ?_) (fun hr => ?_) <;> (have hc := hr) <;> (try simp only [Bool.not_eq_true', Bool.not_eq_false', Bool.and_eq_true, Bool.and_eq_false_imp, Bool.or_eq_true, Bool.or_eq_false_iff, Bool.not_eq_true, Bool.not_eq_false, decide_eq_true_eq, decide_eq_false_iff_not, Int.not_lt, Int.not_le, ge_iff_le, gt_iff_lt, decide_true, decide_false, Bool.false_eq_true, reduceCtorEq, beq_iff_eq, beq_eq_false_iff_ne, ne_eq, bne_iff_ne, bne_eq_false_iff_eq, and_true, true_and, and_false, false_and] at hc) <;> (try (exfalso; omega)))
    | ((fail_if_success (refine w_same (by simpa [go_sem, *] using trivial) rfl ?_)); refine w_splv rfl (by simp [go_sem, *, -Bool.not_eq_eq_eq_not]; rfl) (fun hr => ?_) (fun hr => ?_) <;> (have hg := hr) <;> (try simp only [Bool.not_eq_true', Bool.not_eq_false', Bool.and_eq_true, Bool.and_eq_false_imp, Bool.or_eq_true, Bool.or_eq_false_iff, Bool.not_eq_true, Bool.not_eq_false, decide_eq_true_eq, decide_eq_false_iff_not, Int.not_lt, Int.not_le, ge_iff_le, gt_iff_lt, decide_true, decide_false, Bool.false_eq_true, reduceCtorEq, beq_iff_eq, beq_eq_false_iff_ne, ne_eq, bne_iff_ne, bne_eq_false_iff_eq, and_true, true_and, and_false, false_and] at hg) <;> (try (exfalso; omega)))
    | ((fail_if_success (refine l_same (by simpa [go_sem, *] using trivial) rfl ?_)); refine l_splv rfl (by simp [go_sem, *, -Bool.not_eq_eq_eq_not]; rfl) (fun hr => ?_) (fun hr => ?_) <;> (have hg := hr) <;> (try simp only [Bool.not_eq_true', Bool.not_eq_false', Bool.and_eq_true, Bool.and_eq_false_imp, Bool.or_eq_true, Bool.or_eq_false_iff, Bool.not_eq_true, Bool.not_eq_false, decide_eq_true_eq, decide_eq_false_iff_not, Int.not_lt, Int.not_le, ge_iff_le, gt_iff_lt, decide_true, decide_false, Bool.false_eq_true, reduceCtorEq, beq_iff_eq, beq_eq_false_iff_ne, ne_eq, bne_iff_ne, bne_eq_false_iff_eq, and_true, true_and, and_false, false_and] at hg) <;> (try (exfalso; omega))))
    · (refine k_lop (i + 1) ?_ ?_ (weak_of [(3, .obj 3)] rfl (by decide) ?_ ?_ rfl); (· exact (by omega)); (· first | omega | (simp only; omega)); (· first | (simp [go_sem, AVm, CVm, lookS, cpI_set hc, *]; done) | (simp [go_sem, AVm, CVm, lookS, cpI_set hc, *] <;> (repeat' split) <;> first | omega | (simp_all; done) | (exfalso; omega) | (simp_all; omega))); (· first | (simp [go_sem, OBm, CVm, All2, lookS, cpI_set hc, *]; done) | (simp [go_sem, OBm, CVm, All2, lookS, cpI_set hc, *] <;> (repeat' split) <;> first | omega | (simp_all; done) | (exfalso; omega) | (simp_all; omega))))
    · have : i = l.length := by omega
      subst this
      refine k_ret (by simp [go_sem]; first | exact ⟨rfl, rfl⟩ | rfl) ?_ ?_
      · rfl
      · simp [cpI_all]
end Go.Proofs.Tryz

namespace Go.Proofs.Tryz
open Go Go.Eng
instance : Con Tryz.prog 14 (specOf eqIntS_sat) := con eqIntS_sat Tryz.func14
instance : Con Tryz.prog 68 (specOf toIntS_sat) := con toIntS_sat Tryz.func68
end Go.Proofs.Tryz
/- Plain: letters, words. -/
namespace Go.Proofs.Tryz
open Go Go.Eng
def lts : Nat → List Int
  | 0 => []
  | n + 1 => lts n ++ [(n + 1 : Int), -(n + 1 : Int)]
theorem lts_len (n : Nat) : (lts n).length = 2 * n := by
  induction n with
  | zero => rfl
  | succ n ih => simp [lts, ih]; omega
theorem intsApp2 (l : List Int) (a b : Int) : ints l ++ [[.int a], [.int b]] = ints (l ++ [a, b]) := by simp [ints]
attribute [go_sem] intsApp2
abbrev oL (e : Nat) (l : List Int) : Go.Eng.Obj := .flat e 1 (ints l)
end Go.Proofs.Tryz
namespace Go.Proofs.Tryz
open Go Go.Eng
set_option linter.unnecessarySimpa false
set_option linter.unusedSimpArgs false
set_option maxHeartbeats 4000000
def K_copyInts_sat : Nat → List Nat := fun i => ([[0], [2]] : List (List Nat)).getD i []
attribute [go_sem] K_copyInts_sat
def copyInts_sat_S : Eng.Spec := fun args av objs => ∃ (l : List Int), (l.length ≤ 1099511627776) ∧ args = [aL l] ∧ av = aR 0 ∧ objs = [oL 3 l]
theorem copyInts_sat : Sat Tryz.prog 92 copyInts_sat_S := by
  refine sat_of tok okr mixed K_copyInts_sat Tryz.func92 rfl (rs := [.tmp 2]) rfl Tryz.ntmps92 ?_
  rintro args av objs ⟨l, hpre, rfl, rfl, rfl⟩
  refine ⟨by show 1 ≤ 6; decide, ?_⟩
  repeat' (first|(refine ya ?_;first|refine ye ?_)|refine yz ?_|refine zst ?_|refine k_blk_other rfl ?_|(refine zk ?_ ?_<;>intro hc hr<;>try first|contradiction|exfalso;omega))
  all_goals refine z_ret (hv := ?_) (ho := ?_)
  all_goals simp [go_sem]
instance : Con Tryz.prog 92 copyInts_sat_S := con copyInts_sat Tryz.func92
def K_letters_sat : Nat → List Nat := fun i => ([[0], [0, 3], [0, 3, 4], [0, 3, 4, 8], [0, 3, 4], [0, 3, 4], [2]] : List (List Nat)).getD i []
attribute [go_sem] K_letters_sat
def letters_sat_S : Eng.Spec := fun args av objs => ∃ (r : Int), (r ≤ 1000000) ∧ args = [aI r] ∧ av = aR 0 ∧ objs = [oL 3 (lts r.toNat)]
theorem letters_sat : Sat Tryz.prog 60 letters_sat_S := by
  refine sat_of tok okr mixed K_letters_sat Tryz.func60 rfl (rs := [.tmp 2]) rfl Tryz.ntmps60 ?_
  rintro args av objs ⟨r, hpre, rfl, rfl, rfl⟩
  refine ⟨by show 1 ≤ 18; decide, ?_⟩
  repeat' (first|(refine ya ?_;first|refine ye ?_)|refine yz ?_|refine zst ?_|refine k_blk_other rfl ?_|(refine zk ?_ ?_<;>intro hc hr<;>try first|contradiction|exfalso;omega))
  refine z_loop (fun i : Nat => [(4, aI (i + 1))]) (fun i : Nat => [.obj 3 (oL 3 (lts i))]) (fun i : Nat => i ≤ r.toNat) (fun i : Nat => r.toNat - i) (0) (h0 := ?_) (henv := ?_) (hobj := ?_) (h := ?_)
  · omega
  · simp [go_sem, AVm, CVm, lookS, lts]
  · simp [go_sem, OBm, CVm, lookS, All2, lts]
  intro i hi
  have hl := lts_len i
  repeat' (first|(refine ya ?_;first|refine ye ?_)|refine yz ?_|refine zst ?_|refine k_blk_other rfl ?_|(refine zk ?_ ?_<;>intro hc hr<;>try first|contradiction|exfalso;omega))
  · (refine z_lop (i + 1) (hj := ?_) (hmu := ?_) (henv := ?_) (hobj := ?_); (· omega); (· first | omega | (simp only; omega)); (· first | (simp [go_sem, AVm, CVm, lookS, lts, *]; done) | (simp [go_sem, AVm, CVm, lookS, lts, *] <;> (repeat' split) <;> first | omega | (simp_all; done) | (exfalso; omega) | (simp_all; omega))); (· first | (simp [go_sem, OBm, CVm, All2, lookS, lts, *]; done) | (simp [go_sem, OBm, CVm, All2, lookS, lts, *] <;> (repeat' split) <;> first | omega | (simp_all; done) | (exfalso; omega) | (simp_all; omega))))
  · have : i = r.toNat := by omega
    subst this
    refine z_ret (hv := ?_) (ho := ?_)
    all_goals rfl
instance : Con Tryz.prog 60 letters_sat_S := con letters_sat Tryz.func60
end Go.Proofs.Tryz
namespace Go.Proofs.Tryz
open Go Go.Eng
set_option linter.unnecessarySimpa false
set_option linter.unusedSimpArgs false
set_option maxHeartbeats 1000000

def cmpI (a b : Int) : Int := if a < b then -1 else if b < a then 1 else 0
def cmpE (p q : Ed) : Int := if cmpI p.1 q.1 ≠ 0 then cmpI p.1 q.1 else if cmpI p.2.1 q.2.1 ≠ 0 then cmpI p.2.1 q.2.1 else cmpI p.2.2 q.2.2
def K_compareInts_sat : Nat → List Nat := fun i => ([[0, 1], [0, 1, 5], [4], [9], [4], [4]] : List (List Nat)).getD i []
attribute [go_sem] K_compareInts_sat
def compareInts_sat_S : Eng.Spec := fun args av objs => ∃ (a b : Int), args = [aI a, aI b] ∧ av = aI (cmpI a b) ∧ objs = []
theorem compareInts_sat : Sat Tryz.prog 148 compareInts_sat_S := by
  refine sat_of tok okr mixed K_compareInts_sat Tryz.func148 rfl (rs := [.tmp 4]) rfl Tryz.ntmps148 ?_
  rintro args av objs ⟨a, b, rfl, rfl, rfl⟩
  refine ⟨by show 2 ≤ 13; decide, ?_⟩
  repeat' (first|(refine ya ?_;first|refine ye ?_)|refine yz ?_|refine zst ?_|refine k_blk_other rfl ?_|(refine zk ?_ ?_<;>intro hc hr<;>try first|contradiction|exfalso;omega))
  all_goals refine z_ret (hv := ?_) (ho := ?_)
  all_goals simp [cmpI, *]
  all_goals omega
instance : Con Tryz.prog 148 compareInts_sat_S := con compareInts_sat Tryz.func148
def K_compareEdges_sat : Nat → List Nat := fun i => ([[2, 3], [2, 3, 5], [2, 3, 5, 13], [4], [2, 3, 6], [2, 3, 6, 21], [4], [4]] : List (List Nat)).getD i []
attribute [go_sem] K_compareEdges_sat
def compareEdges_sat_S : Eng.Spec := fun args av objs => ∃ (a b c x y w : Int), args = [.agg [.sc (.int a), .sc (.int b), .sc (.int c)], .agg [.sc (.int x), .sc (.int y), .sc (.int w)]] ∧ av = aI (cmpE (a, b, c) (x, y, w)) ∧ objs = []
theorem compareEdges_sat : Sat Tryz.prog 138 compareEdges_sat_S := by
  refine sat_of tok okr mixed K_compareEdges_sat Tryz.func138 rfl (rs := [.tmp 4]) rfl Tryz.ntmps138 ?_
  rintro args av objs ⟨a, b, c, x, y, w, rfl, rfl, rfl⟩
  refine ⟨by show 2 ≤ 28; decide, ?_⟩
  repeat' (first|(refine ya ?_;first|(refine yb ?_;first|refine yc ?_)|refine ye ?_)|refine yz ?_|refine zst ?_|refine k_blk_other rfl ?_|(refine zk ?_ ?_<;>intro hc hr<;>try first|contradiction|exfalso;omega))
  all_goals refine z_ret (hv := ?_) (ho := ?_)
  all_goals simp_all [cmpE]
instance : Con Tryz.prog 138 compareEdges_sat_S := con compareEdges_sat Tryz.func138
def K_compareEdges_sat2 : Nat → List Nat := fun i => ([[2, 3], [3, 5], [5, 6], [5, 6, 7], [5, 6, 7, 23], [5, 6, 7], [5, 6, 7, 34], [4], [5, 6, 7, 43], [4], [4]] : List (List Nat)).getD i []
attribute [go_sem] K_compareEdges_sat2
def compareEdges_sat2_S : Eng.Spec := fun args av objs => ∃ (a b c x y w : Int), args = [.agg [.sc (.int a), .sc (.int b), .sc (.int c)], .agg [.sc (.int x), .sc (.int y), .sc (.int w)]] ∧ av = aI (cmpE (a, b, c) (x, y, w)) ∧ objs = []
theorem compareEdges_sat2 : Sat Tryz.prog 136 compareEdges_sat2_S := by
  refine sat_of tok okr mixed K_compareEdges_sat2 Tryz.func136 rfl (rs := [.tmp 4]) rfl Tryz.ntmps136 ?_
  rintro args av objs ⟨a, b, c, x, y, w, rfl, rfl, rfl⟩
  refine ⟨by show 2 ≤ 44; decide, ?_⟩
  repeat' (first|(refine ya ?_;first|refine ye ?_)|refine yz ?_|(refine yA ?_;first|refine yE ?_)|refine yZ ?_|refine zst ?_|refine k_blk_other rfl ?_|(refine zk ?_ ?_<;>intro hc hr<;>try first|contradiction|exfalso;omega))
  refine z_loop (fun i : Nat => [(7, aI i)]) (fun i : Nat => []) (fun i : Nat => i ≤ 3 ∧ (1 ≤ i → a = x) ∧ (2 ≤ i → b = y) ∧ (3 ≤ i → c = w)) (fun i : Nat => 3 - i) (0) (h0 := ?_) (henv := ?_) (hobj := ?_) (h := ?_)
  · exact ⟨by omega, by omega, by omega, by omega⟩
  · simp [go_sem, AVm, CVm, lookS]
  · simp [go_sem, OBm, CVm, lookS, All2]
  rintro i ⟨hi, h0, h1, h2⟩
  rcases (show i = 0 ∨ i = 1 ∨ i = 2 ∨ i = 3 by omega) with rfl | rfl | rfl | rfl
  all_goals simp only [Nat.le_refl, forall_const, Nat.reduceLeDiff, false_implies] at h0 h1 h2
  all_goals repeat' (first|(refine ya ?_;first|refine ye ?_)|refine yz ?_|(refine yA ?_;first|refine yE ?_)|refine yZ ?_|refine zst ?_|refine k_blk_other rfl ?_|(refine zk ?_ ?_<;>intro hc hr<;>try first|contradiction|exfalso;omega))
  all_goals first
    | (exact zl (1) (hj := by exact ⟨by omega, by omega, by omega, by omega⟩); done)
    | (exact zl (2) (hj := by exact ⟨by omega, by omega, by omega, by omega⟩); done)
    | (exact zl (3) (hj := by exact ⟨by omega, by omega, by omega, by omega⟩); done)
    | (refine z_ret (hv := ?_) (ho := ?_) <;> (simp [cmpE, cmpI] <;> omega))
    | (refine z_ret (hv := ?_) (ho := ?_) <;> simp_all [cmpE, cmpI])

def edOk (r z : Int) (p : Ed) : Bool := decide (0 ≤ p.1 ∧ p.1 ≤ w64 (z - 1)) && decide (0 ≤ p.2.2 ∧ p.2.2 ≤ w64 (z - 1)) && decide (1 ≤ p.2.1 ∧ p.2.1 ≤ r)
instance : Con Tryz.prog 136 compareEdges_sat2_S := con compareEdges_sat2 Tryz.func136
def K_l4Edge_sat : Nat → List Nat := fun i => ([[2, 3], [4]] : List (List Nat)).getD i []
attribute [go_sem] K_l4Edge_sat
def l4Edge_sat_S : Eng.Spec := fun args av objs => ∃ (r z : Int) (es : List Ed) (a b c : Int), args = [grA r z es, .agg [.sc (.int a), .sc (.int b), .sc (.int c)]] ∧ av = aB (edOk r z (a, b, c)) ∧ objs = []
theorem l4Edge_sat : Sat Tryz.prog 135 l4Edge_sat_S := by
  refine sat_of tok okr mixed K_l4Edge_sat Tryz.func135 rfl (rs := [.tmp 4]) rfl Tryz.ntmps135 ?_
  rintro args av objs ⟨r, z, es, a, b, c, rfl, rfl, rfl⟩
  refine ⟨by show 2 ≤ 26; decide, ?_⟩
  repeat' (first|(refine ya ?_;first|(refine yb ?_;first|refine yc ?_)|refine ye ?_)|(refine yg ?_;intro hgs;first|(replace hgs:=zgy hgs;first|(refine yb ?_;first|refine yc ?_)|refine yy hgs ?_;clear hgs)|(refine yn (zgn hgs) ?_;clear hgs)|((fail_if_success have:=zgy hgs);refine z_spl hgs (h1:=?_) (h2:=?_)<;>clear hgs<;>intro hg hr<;>try first|contradiction|exfalso;omega))|refine yz ?_|refine zst ?_|refine k_blk_other rfl ?_|(refine zk ?_ ?_<;>intro hc hr<;>try first|contradiction|exfalso;omega))
  all_goals refine z_ret (hv := ?_) (ho := ?_)
  all_goals simp_all [edOk]
  all_goals intros
  all_goals omega
instance : Con Tryz.prog 135 l4Edge_sat_S := con l4Edge_sat Tryz.func135
def K_l4Copy_sat : Nat → List Nat := fun i => ([[1, 2], [2]] : List (List Nat)).getD i []
attribute [go_sem] K_l4Copy_sat
def l4Copy_sat_S : Eng.Spec := fun args av objs => ∃ (r z : Int) (es : List Ed), (es.length ≤ 1099511627776) ∧ args = [grA r z es] ∧ av = .agg [.sc (.int r), .sc (.int z), .ref 0] ∧ objs = [.flat 68 3 (eds es)]
theorem l4Copy_sat : Sat Tryz.prog 73 l4Copy_sat_S := by
  refine sat_of tok okr mixed K_l4Copy_sat Tryz.func73 rfl (rs := [.cell 2 31]) rfl Tryz.ntmps73 ?_
  rintro args av objs ⟨r, z, es, hpre, rfl, rfl, rfl⟩
  refine ⟨by show 1 ≤ 12; decide, ?_⟩
  repeat' (first|(refine ya ?_;first|refine ye ?_)|refine yz ?_|(refine yA ?_;first|refine yE ?_)|refine yZ ?_|refine zst ?_|refine k_blk_other rfl ?_|(refine zk ?_ ?_<;>intro hc hr<;>try first|contradiction|exfalso;omega))
  all_goals first | (refine z_ret (hv := ?_) (ho := ?_) <;> first | rfl | (simp [go_sem, *]; done) | (simp_all; done) | (simp_all; omega)) | skip
instance : Con Tryz.prog 73 l4Copy_sat_S := con l4Copy_sat Tryz.func73
end Go.Proofs.Tryz
namespace Go.Proofs.Tryz
open Go Go.Eng
set_option linter.unnecessarySimpa false
set_option linter.unusedSimpArgs false
set_option maxHeartbeats 2000000

def ok1 (r z : Int) (es : List Ed) (i : Nat) : Bool := edOk r z (ed es i) && (decide (i = 0) || decide (cmpE (ed es (i - 1)) (ed es i) < 0))
def okAll (r z : Int) (es : List Ed) (n : Nat) : Bool := (List.range n).all (ok1 r z es)
theorem okAll_succ (r z : Int) (es : List Ed) (n : Nat) : okAll r z es (n + 1) = (okAll r z es n && ok1 r z es n) := by
  simp [okAll, List.range_succ]
def isG (r z : Int) (es : List Ed) : Bool := okAll r z es es.length && (decide (1 ≤ r ∧ r ≤ 3) && decide (1 ≤ z ∧ z ≤ 40) && decide (es.length ≤ 120))
theorem okAll_mono {r z : Int} {es : List Ed} {n m : Nat} (h : n ≤ m) (h2 : okAll r z es m = true) : okAll r z es n = true := by
  simp only [okAll, List.all_eq_true, List.mem_range] at *
  intro x hx
  exact h2 x (by omega)
def K_isGraph_sat2 : Nat → List Nat := fun i => ([[1], [1, 3], [1, 3, 8], [1, 3], [1, 3, 37], [2], [2]] : List (List Nat)).getD i []
attribute [go_sem] K_isGraph_sat2
def isGraph_sat2_S : Eng.Spec := fun args av objs => ∃ (r z : Int) (es : List Ed), (es.length ≤ 1099511627776) ∧ args = [grA r z es] ∧ av = aB (isG r z es) ∧ objs = []
theorem isGraph_sat2 : Sat Tryz.prog 111 isGraph_sat2_S := by
  refine sat_of tok okr mixed K_isGraph_sat2 Tryz.func111 rfl (rs := [.tmp 2]) rfl Tryz.ntmps111 ?_
  rintro args av objs ⟨r, z, es, hpre, rfl, rfl, rfl⟩
  refine ⟨by show 1 ≤ 52; decide, ?_⟩
  repeat' (first|(refine ya ?_;first|(refine yb ?_;first|refine yc ?_)|refine ye ?_)|(refine yg ?_;intro hgs;first|(replace hgs:=zgy hgs;first|(refine yb ?_;first|refine yc ?_)|refine yy hgs ?_;clear hgs)|(refine yn (zgn hgs) ?_;clear hgs)|((fail_if_success have:=zgy hgs);refine z_spl hgs (h1:=?_) (h2:=?_)<;>clear hgs<;>intro hg hr<;>try first|contradiction|exfalso;omega))|refine yt ?_|refine yz ?_|(refine yA ?_;first|(refine yB ?_;first|refine yC ?_)|refine yE ?_)|(refine yG ?_;intro hgs;first|(replace hgs:=zgy hgs;first|(refine yB ?_;first|refine yC ?_)|refine yY hgs ?_;clear hgs)|(refine yN (zgn hgs) ?_;clear hgs)|((fail_if_success have:=zgy hgs);refine z_spll hgs (h1:=?_) (h2:=?_)<;>clear hgs<;>intro hg hr<;>try first|contradiction|exfalso;omega))|refine yT ?_|refine yZ ?_|refine zst ?_|refine k_blk_other rfl ?_|(refine zk ?_ ?_<;>intro hc hr<;>try first|contradiction|exfalso;omega))
  refine z_loop (fun i : Nat => [(3, aI i)]) (fun i : Nat => []) (fun i : Nat => i ≤ es.length ∧ okAll r z es i = true) (fun i : Nat => es.length - i) (0) (h0 := ?_) (henv := ?_) (hobj := ?_) (h := ?_)
  · exact ⟨by omega, rfl⟩
  · simp [go_sem, AVm, CVm, lookS]
  · simp [go_sem, OBm, CVm, lookS, All2]
  rintro i ⟨hi, hok⟩
  have e1 : ((i : Int) - 1).toNat = i - 1 := by omega
  repeat' (first|(refine ya ?_;first|(refine yb ?_;first|refine yc ?_)|refine ye ?_)|(refine yg ?_;intro hgs;first|(replace hgs:=zgy hgs;first|(refine yb ?_;first|refine yc ?_)|refine yy hgs ?_;clear hgs)|(refine yn (zgn hgs) ?_;clear hgs)|((fail_if_success have:=zgy hgs);refine z_spl hgs (h1:=?_) (h2:=?_)<;>clear hgs<;>intro hg hr<;>try first|contradiction|exfalso;omega))|refine yt ?_|refine yz ?_|(refine yA ?_;first|(refine yB ?_;first|refine yC ?_)|refine yE ?_)|(refine yG ?_;intro hgs;first|(replace hgs:=zgy hgs;first|(refine yB ?_;first|refine yC ?_)|refine yY hgs ?_;clear hgs)|(refine yN (zgn hgs) ?_;clear hgs)|((fail_if_success have:=zgy hgs);refine z_spll hgs (h1:=?_) (h2:=?_)<;>clear hgs<;>intro hg hr<;>try first|contradiction|exfalso;omega))|refine yT ?_|refine yZ ?_|refine zst ?_|refine k_blk_other rfl ?_|(refine zk ?_ ?_<;>intro hc hr<;>try first|contradiction|exfalso;omega))
  all_goals first
    | (exact zl (i + 1) (hj := by exact ⟨by omega, by first | (simp [okAll_succ, ok1, *]; done) | (simp [okAll_succ, ok1, *]; omega)⟩); done)
    | (have hii : i = es.length := by omega
       subst hii
       refine z_ret (hv := ?_) (ho := ?_) <;> first | (simp_all [isG]; done) | (simp_all [isG]; omega))
    | (have h1 := mt (okAll_mono (r := r) (z := z) (es := es) (n := i + 1) (m := es.length) (by omega))
       have h2 : okAll r z es (i + 1) = false := by first | (simp_all [okAll_succ, ok1]; done) | (simp_all [okAll_succ, ok1]; omega)
       have h3 : isG r z es = false := by simp [isG, h1 (by rw [h2]; simp)]
       rw [h3]
       refine z_ret (hv := ?_) (ho := ?_) <;> rfl)
    | trace_state
instance : Con Tryz.prog 111 isGraph_sat2_S := con isGraph_sat2 Tryz.func111
end Go.Proofs.Tryz
namespace Go.Proofs.Tryz
open Go Go.Eng
set_option linter.unnecessarySimpa false
set_option linter.unusedSimpArgs false
set_option maxHeartbeats 2000000

def putStep (e : Ed) (st : List Ed × Bool) (x : Ed) : List Ed × Bool :=
  if cmpE e x = 0 then (st.1 ++ [x], true)
  else if cmpE e x < 0 ∧ st.2 = false then (st.1 ++ [e] ++ [x], true)
  else (st.1 ++ [x], st.2)
def putN (es : List Ed) (e : Ed) (i : Nat) : List Ed × Bool := (es.take i).foldl (putStep e) ([], false)
theorem putN_succ {es : List Ed} {e : Ed} {i : Nat} (h : i < es.length) : putN es e (i + 1) = putStep e (putN es e i) (ed es i) := by
  simp only [putN]
  rw [List.take_add_one, List.foldl_append]
  simp [h, ed]
def put (es : List Ed) (e : Ed) : List Ed := if (putN es e es.length).2 then (putN es e es.length).1 else (putN es e es.length).1 ++ [e]
theorem putN_len (es : List Ed) (e : Ed) (i : Nat) (h : i ≤ es.length) : (putN es e i).1.length ≤ 2 * i := by
  induction i with
  | zero => simp [putN]
  | succ i ih =>
    rw [putN_succ (by omega)]
    have := ih (by omega)
    unfold putStep
    split
    · simp; omega
    · split <;> simp <;> omega
def K_l4Put_sat : Nat → List Nat := fun i => ([[0, 3], [0, 3, 5], [0, 3, 5, 6], [0, 3, 5, 6, 7], [0, 3, 5, 6, 7, 13], [0, 3, 5, 6, 7], [0, 3, 5, 6, 7, 8], [0, 3, 5, 6, 7, 8, 23], [0, 3, 5, 6, 7, 8], [0, 3, 5, 6, 7, 29], [0, 3, 5, 7], [0, 3, 5, 6, 7], [0, 3, 5, 6, 7], [3, 5, 42], [5], [4]] : List (List Nat)).getD i []
attribute [go_sem] K_l4Put_sat
def l4Put_sat_S : Eng.Spec := fun args av objs => ∃ (es : List Ed) (a b c : Int), (es.length ≤ 1099511627) ∧ args = [.one (.imm 3 (eds es)), .agg [.sc (.int a), .sc (.int b), .sc (.int c)]] ∧ av = aR 0 ∧ objs = [.flat 68 3 (eds (put es (a, b, c)))]
theorem l4Put_sat : Sat Tryz.prog 112 l4Put_sat_S := by
  refine sat_of tok okr mixed K_l4Put_sat Tryz.func112 rfl (rs := [.tmp 4]) rfl Tryz.ntmps112 ?_
  rintro args av objs ⟨es, a, b, c, hpre, rfl, rfl, rfl⟩
  refine ⟨by show 2 ≤ 48; decide, ?_⟩
  repeat' (first|(refine ya ?_;first|(refine yb ?_;first|refine yc ?_)|refine ye ?_)|(refine yg ?_;intro hgs;first|(replace hgs:=zgy hgs;first|(refine yb ?_;first|refine yc ?_)|refine yy hgs ?_;clear hgs)|(refine yn (zgn hgs) ?_;clear hgs)|((fail_if_success have:=zgy hgs);refine z_spl hgs (h1:=?_) (h2:=?_)<;>clear hgs<;>intro hg hr<;>try first|contradiction|exfalso;omega))|refine yz ?_|(refine yA ?_;first|(refine yB ?_;first|refine yC ?_)|refine yE ?_)|(refine yG ?_;intro hgs;first|(replace hgs:=zgy hgs;first|(refine yB ?_;first|refine yC ?_)|refine yY hgs ?_;clear hgs)|(refine yN (zgn hgs) ?_;clear hgs)|((fail_if_success have:=zgy hgs);refine z_spll hgs (h1:=?_) (h2:=?_)<;>clear hgs<;>intro hg hr<;>try first|contradiction|exfalso;omega))|refine yZ ?_|refine zst ?_|refine k_blk_other rfl ?_|(refine zk ?_ ?_<;>intro hc hr<;>try first|contradiction|exfalso;omega))
  refine z_loop (fun i : Nat => [(7, aI i), (6, aB (putN es (a, b, c) i).2)]) (fun i : Nat => [.obj 5 (.flat 68 3 (eds (putN es (a, b, c) i).1))]) (fun i : Nat => i ≤ es.length) (fun i : Nat => es.length - i) (0) (h0 := ?_) (henv := ?_) (hobj := ?_) (h := ?_)
  · omega
  · simp [go_sem, AVm, CVm, lookS, putN]
  · simp [go_sem, OBm, CVm, lookS, All2, putN]
  intro i hi
  have hlen := putN_len es (a, b, c) i hi
  rcases Nat.lt_or_ge i es.length with hlt | hge
  · have hs := putN_succ (e := (a, b, c)) hlt
    generalize hst : putN es (a, b, c) i = st at hlen hs ⊢
    obtain ⟨o, b1⟩ := st
    simp only at hlen ⊢
    clear hst
    repeat' (first|(refine ya ?_;first|(refine yb ?_;first|refine yc ?_)|refine ye ?_)|(refine yg ?_;intro hgs;first|(replace hgs:=zgy hgs;first|(refine yb ?_;first|refine yc ?_)|refine yy hgs ?_;clear hgs)|(refine yn (zgn hgs) ?_;clear hgs)|((fail_if_success have:=zgy hgs);refine z_spl hgs (h1:=?_) (h2:=?_)<;>clear hgs<;>intro hg hr<;>try first|contradiction|exfalso;omega))|refine yz ?_|(refine yA ?_;first|(refine yB ?_;first|refine yC ?_)|refine yE ?_)|(refine yG ?_;intro hgs;first|(replace hgs:=zgy hgs;first|(refine yB ?_;first|refine yC ?_)|refine yY hgs ?_;clear hgs)|(refine yN (zgn hgs) ?_;clear hgs)|((fail_if_success have:=zgy hgs);refine z_spll hgs (h1:=?_) (h2:=?_)<;>clear hgs<;>intro hg hr<;>try first|contradiction|exfalso;omega))|refine yZ ?_|refine zst ?_|refine k_blk_other rfl ?_|(refine zk ?_ ?_<;>intro hc hr<;>try first|contradiction|exfalso;omega))
    all_goals first
      | ((refine z_lop (i + 1) (hj := ?_) (hmu := ?_) (henv := ?_) (hobj := ?_); (· omega); (· first | omega | (simp only; omega)); (· first | (simp [go_sem, AVm, CVm, lookS, hs, putStep, *]; done) | (simp [go_sem, AVm, CVm, lookS, hs, putStep, *] <;> (repeat' split) <;> first | omega | (simp_all; done) | (exfalso; omega) | (simp_all; omega))); (· first | (simp [go_sem, OBm, CVm, All2, lookS, hs, putStep, *]; done) | (simp [go_sem, OBm, CVm, All2, lookS, hs, putStep, *] <;> (repeat' split) <;> first | omega | (simp_all; done) | (exfalso; omega) | (simp_all; omega)))); done)
      | trace_state
  · have hii : i = es.length := by omega
    subst hii
    have hp : put es (a, b, c) = if (putN es (a, b, c) es.length).2 then (putN es (a, b, c) es.length).1 else (putN es (a, b, c) es.length).1 ++ [(a, b, c)] := rfl
    rw [hp]
    generalize putN es (a, b, c) es.length = st at hlen ⊢
    obtain ⟨o, b1⟩ := st
    simp only at hlen ⊢
    cases b1
    · repeat' (first|(refine ya ?_;first|(refine yb ?_;first|refine yc ?_)|refine ye ?_)|(refine yg ?_;intro hgs;first|(replace hgs:=zgy hgs;first|(refine yb ?_;first|refine yc ?_)|refine yy hgs ?_;clear hgs)|(refine yn (zgn hgs) ?_;clear hgs)|((fail_if_success have:=zgy hgs);refine z_spl hgs (h1:=?_) (h2:=?_)<;>clear hgs<;>intro hg hr<;>try first|contradiction|exfalso;omega))|refine yz ?_|(refine yA ?_;first|(refine yB ?_;first|refine yC ?_)|refine yE ?_)|(refine yG ?_;intro hgs;first|(replace hgs:=zgy hgs;first|(refine yB ?_;first|refine yC ?_)|refine yY hgs ?_;clear hgs)|(refine yN (zgn hgs) ?_;clear hgs)|((fail_if_success have:=zgy hgs);refine z_spll hgs (h1:=?_) (h2:=?_)<;>clear hgs<;>intro hg hr<;>try first|contradiction|exfalso;omega))|refine yZ ?_|refine zst ?_|refine k_blk_other rfl ?_|(refine zk ?_ ?_<;>intro hc hr<;>try first|contradiction|exfalso;omega))
      all_goals first | (refine z_ret (hv := ?_) (ho := ?_) <;> first | rfl | (simp [go_sem, *]; done) | (simp_all; done) | (simp_all; omega)) | skip
    · repeat' (first|(refine ya ?_;first|(refine yb ?_;first|refine yc ?_)|refine ye ?_)|(refine yg ?_;intro hgs;first|(replace hgs:=zgy hgs;first|(refine yb ?_;first|refine yc ?_)|refine yy hgs ?_;clear hgs)|(refine yn (zgn hgs) ?_;clear hgs)|((fail_if_success have:=zgy hgs);refine z_spl hgs (h1:=?_) (h2:=?_)<;>clear hgs<;>intro hg hr<;>try first|contradiction|exfalso;omega))|refine yz ?_|(refine yA ?_;first|(refine yB ?_;first|refine yC ?_)|refine yE ?_)|(refine yG ?_;intro hgs;first|(replace hgs:=zgy hgs;first|(refine yB ?_;first|refine yC ?_)|refine yY hgs ?_;clear hgs)|(refine yN (zgn hgs) ?_;clear hgs)|((fail_if_success have:=zgy hgs);refine z_spll hgs (h1:=?_) (h2:=?_)<;>clear hgs<;>intro hg hr<;>try first|contradiction|exfalso;omega))|refine yZ ?_|refine zst ?_|refine k_blk_other rfl ?_|(refine zk ?_ ?_<;>intro hc hr<;>try first|contradiction|exfalso;omega))
      all_goals first | (refine z_ret (hv := ?_) (ho := ?_) <;> first | rfl | (simp [go_sem, *]; done) | (simp_all; done) | (simp_all; omega)) | skip
instance : Con Tryz.prog 112 l4Put_sat_S := con l4Put_sat Tryz.func112
end Go.Proofs.Tryz
namespace Go.Proofs.Tryz
open Go Go.Eng
set_option linter.unnecessarySimpa false
set_option linter.unusedSimpArgs false
set_option maxHeartbeats 4000000

def K_has_sat : Nat → List Nat := fun i => ([[1, 2], [4]] : List (List Nat)).getD i []
attribute [go_sem] K_has_sat
def has_sat_S : Eng.Spec := fun args av objs => ∃ (r z : Int) (es : List Ed) (v : Int), args = [grA r z es, aI v] ∧ av = aB (decide (0 ≤ v ∧ v ≤ w64 (z - 1))) ∧ objs = []
theorem has_sat : Sat Tryz.prog 86 has_sat_S := by
  refine sat_of tok okr mixed K_has_sat Tryz.func86 rfl (rs := [.tmp 4]) rfl Tryz.ntmps86 ?_
  rintro args av objs ⟨r, z, es, v, rfl, rfl, rfl⟩
  refine ⟨by show 2 ≤ 10; decide, ?_⟩
  repeat' (first|(refine ya ?_;first|(refine yb ?_;first|refine yc ?_)|refine ye ?_)|refine yz ?_|refine zst ?_|refine k_blk_other rfl ?_|(refine zk ?_ ?_<;>intro hc hr<;>try first|contradiction|exfalso;omega))
  all_goals refine z_ret (hv := ?_) (ho := ?_)
  all_goals simp
instance : Con Tryz.prog 86 has_sat_S := con has_sat Tryz.func86
def K_accepts_sat : Nat → List Nat := fun i => ([[2, 3], [4]] : List (List Nat)).getD i []
attribute [go_sem] K_accepts_sat
def accepts_sat_S : Eng.Spec := fun args av objs => ∃ (r z : Int) (es : List Ed) (a b c : Int), args = [grA r z es, .agg [.sc (.int a), .sc (.int b), .sc (.int c)]] ∧ av = aB (edOk r z (a, b, c)) ∧ objs = []
theorem accepts_sat : Sat Tryz.prog 137 accepts_sat_S := by
  refine sat_of tok okr mixed K_accepts_sat Tryz.func137 rfl (rs := [.tmp 4]) rfl Tryz.ntmps137 ?_
  rintro args av objs ⟨r, z, es, a, b, c, rfl, rfl, rfl⟩
  refine ⟨by show 2 ≤ 22; decide, ?_⟩
  repeat' (first|(refine ya ?_;first|(refine yb ?_;first|refine yc ?_)|refine ye ?_)|(refine yg ?_;intro hgs;first|(replace hgs:=zgy hgs;first|(refine yb ?_;first|refine yc ?_)|refine yy hgs ?_;clear hgs)|(refine yn (zgn hgs) ?_;clear hgs)|((fail_if_success have:=zgy hgs);refine z_spl hgs (h1:=?_) (h2:=?_)<;>clear hgs<;>intro hg hr<;>try first|contradiction|exfalso;omega))|refine yz ?_|refine zst ?_|refine k_blk_other rfl ?_|(refine zk ?_ ?_<;>intro hc hr<;>try first|contradiction|exfalso;omega))
  all_goals refine z_ret (hv := ?_) (ho := ?_)
  all_goals simp_all [edOk]
  all_goals intros
  all_goals omega
instance : Con Tryz.prog 137 accepts_sat_S := con accepts_sat Tryz.func137
def K_isGraph_sat : Nat → List Nat := fun i => ([[1], [1, 20], [2], [1, 22, 23, 24], [1, 22, 23, 24, 25], [1, 3, 4, 22, 23, 24], [1, 22, 23, 24, 47], [2], [1, 22, 23, 24], [2]] : List (List Nat)).getD i []
attribute [go_sem] K_isGraph_sat
def isGraph_sat_S : Eng.Spec := fun args av objs => ∃ (r z : Int) (es : List Ed), (es.length ≤ 1099511627776) ∧ args = [grA r z es] ∧ av = aB (isG r z es) ∧ objs = []
theorem isGraph_sat : Sat Tryz.prog 114 isGraph_sat_S := by
  refine sat_of tok okr mixed K_isGraph_sat Tryz.func114 rfl (rs := [.tmp 2]) rfl Tryz.ntmps114 ?_
  rintro args av objs ⟨r, z, es, hpre, rfl, rfl, rfl⟩
  refine ⟨by show 1 ≤ 49; decide, ?_⟩
  repeat' (first|(refine ya ?_;first|(refine yb ?_;first|refine yc ?_)|refine ye ?_)|(refine yg ?_;intro hgs;first|(replace hgs:=zgy hgs;first|(refine yb ?_;first|refine yc ?_)|refine yy hgs ?_;clear hgs)|(refine yn (zgn hgs) ?_;clear hgs)|((fail_if_success have:=zgy hgs);refine z_spl hgs (h1:=?_) (h2:=?_)<;>clear hgs<;>intro hg hr<;>try first|contradiction|exfalso;omega))|refine yt ?_|refine yz ?_|(refine yA ?_;first|(refine yB ?_;first|refine yC ?_)|refine yE ?_)|(refine yG ?_;intro hgs;first|(replace hgs:=zgy hgs;first|(refine yB ?_;first|refine yC ?_)|refine yY hgs ?_;clear hgs)|(refine yN (zgn hgs) ?_;clear hgs)|((fail_if_success have:=zgy hgs);refine z_spll hgs (h1:=?_) (h2:=?_)<;>clear hgs<;>intro hg hr<;>try first|contradiction|exfalso;omega))|refine yT ?_|refine yZ ?_|refine zst ?_|refine k_blk_other rfl ?_|(refine zk ?_ ?_<;>intro hc hr<;>try first|contradiction|exfalso;omega))
  all_goals first
    | (refine z_ret (hv := ?_) (ho := ?_) <;> first | rfl | (simp_all [isG]; done) | (simp_all [isG]; omega))
    | skip
  refine z_loop (fun i : Nat => [(24, aI i)]) (fun i : Nat => []) (fun i : Nat => i ≤ es.length ∧ okAll r z es i = true) (fun i : Nat => es.length - i) (0) (h0 := ?_) (henv := ?_) (hobj := ?_) (h := ?_)
  · exact ⟨by omega, rfl⟩
  · simp [go_sem, AVm, CVm, lookS]
  · simp [go_sem, OBm, CVm, lookS, All2]
  rintro i ⟨hi, hok⟩
  have e1 : ((i : Int) - 1).toNat = i - 1 := by omega
  repeat' (first|(refine ya ?_;first|(refine yb ?_;first|refine yc ?_)|refine ye ?_)|(refine yg ?_;intro hgs;first|(replace hgs:=zgy hgs;first|(refine yb ?_;first|refine yc ?_)|refine yy hgs ?_;clear hgs)|(refine yn (zgn hgs) ?_;clear hgs)|((fail_if_success have:=zgy hgs);refine z_spl hgs (h1:=?_) (h2:=?_)<;>clear hgs<;>intro hg hr<;>try first|contradiction|exfalso;omega))|refine yt ?_|refine yz ?_|(refine yA ?_;first|(refine yB ?_;first|refine yC ?_)|refine yE ?_)|(refine yG ?_;intro hgs;first|(replace hgs:=zgy hgs;first|(refine yB ?_;first|refine yC ?_)|refine yY hgs ?_;clear hgs)|(refine yN (zgn hgs) ?_;clear hgs)|((fail_if_success have:=zgy hgs);refine z_spll hgs (h1:=?_) (h2:=?_)<;>clear hgs<;>intro hg hr<;>try first|contradiction|exfalso;omega))|refine yT ?_|refine yZ ?_|refine zst ?_|refine k_blk_other rfl ?_|(refine zk ?_ ?_<;>intro hc hr<;>try first|contradiction|exfalso;omega))
  all_goals first
    | (exact zl (i + 1) (hj := by exact ⟨by omega, by first | (simp [okAll_succ, ok1, *]; done) | (simp [okAll_succ, ok1, *]; omega)⟩); done)
    | (have hii : i = es.length := by omega
       subst hii
       refine z_ret (hv := ?_) (ho := ?_) <;> first | rfl | (simp_all [isG]; done) | (simp_all [isG]; omega))
    | (have h1 := mt (okAll_mono (r := r) (z := z) (es := es) (n := i + 1) (m := es.length) (by omega))
       have h2 : okAll r z es (i + 1) = false := by first | (simp_all [okAll_succ, ok1]; done) | (simp_all [okAll_succ, ok1]; omega)
       have h3 : isG r z es = false := by simp [isG, h1 (by rw [h2]; simp)]
       rw [h3]
       refine z_ret (hv := ?_) (ho := ?_) <;> rfl)
    | trace_state
instance : Con Tryz.prog 114 isGraph_sat_S := con isGraph_sat Tryz.func114
end Go.Proofs.Tryz
