import Derived.Test.YtfapjflogjblaaaGreatE2
import Derived.Test.YtfapjflogjblaaaGreatProg
import Derived.OpenShut
set_option maxHeartbeats 16000000
set_option maxRecDepth 20000
set_option linter.unusedVariables false
set_option linter.unusedSimpArgs false
set_option linter.unnecessarySimpa false
namespace Go.Proofs.Tryz
open Go Go.Eng
def tab : List (Nat × TI) := [(2, .int), (3, .int), (4, .bool), (5, .u8), (6, .u8), (7, .st [2, 3, 4, 6]), (8, .st [2, 3, 4, 6]), (9, .str), (10, .str), (11, .str), (22, .sl 5), (24, .sl 65), (25, .st [3, 3, 24]), (26, .st [3, 3, 24]), (28, .sl 35), (35, .sl 3), (64, .st [3, 3, 3]), (65, .st [3, 3, 3]), (80, .sl 9), (88, .st [22, 3, 3]), (89, .st [22, 3, 3]), (106, .sl 4), (117, .sl 128), (127, .st [3, 3]), (128, .st [3, 3]), (138, .int), (174, .u8), (175, .u8)]
def T : Tys := lookT tab
theorem T2 : T 2 = .int := rfl
theorem T3 : T 3 = .int := rfl
theorem T4 : T 4 = .bool := rfl
theorem T5 : T 5 = .u8 := rfl
theorem T6 : T 6 = .u8 := rfl
theorem T7 : T 7 = .st [2, 3, 4, 6] := rfl
theorem T8 : T 8 = .st [2, 3, 4, 6] := rfl
theorem T9 : T 9 = .str := rfl
theorem T10 : T 10 = .str := rfl
theorem T11 : T 11 = .str := rfl
theorem T22 : T 22 = .sl 5 := rfl
theorem T24 : T 24 = .sl 65 := rfl
theorem T25 : T 25 = .st [3, 3, 24] := rfl
theorem T26 : T 26 = .st [3, 3, 24] := rfl
theorem T28 : T 28 = .sl 35 := rfl
theorem T35 : T 35 = .sl 3 := rfl
theorem T64 : T 64 = .st [3, 3, 3] := rfl
theorem T65 : T 65 = .st [3, 3, 3] := rfl
theorem T80 : T 80 = .sl 9 := rfl
theorem T88 : T 88 = .st [22, 3, 3] := rfl
theorem T89 : T 89 = .st [22, 3, 3] := rfl
theorem T106 : T 106 = .sl 4 := rfl
theorem T117 : T 117 = .sl 128 := rfl
theorem T127 : T 127 = .st [3, 3] := rfl
theorem T128 : T 128 = .st [3, 3] := rfl
theorem T138 : T 138 = .int := rfl
theorem T174 : T 174 = .u8 := rfl
theorem T175 : T 175 = .u8 := rfl
theorem tok : TOk Tryz.prog T := tok_of (fun _ => rfl) ⟨fact_int Tryz.underlying2 (by kernel_rfl),
  fact_int Tryz.underlying3 (by kernel_rfl),
  fact_bool Tryz.underlying4 (by kernel_rfl),
  fact_u8 Tryz.underlying5 (by kernel_rfl),
  fact_u8 Tryz.underlying6 (by kernel_rfl),
  fact_st 24 Tryz.underlying7 (by decide) (by decide) Tryz.stoodInHeld7 Tryz.eqGuardType7 (by decide) (by kernel_rfl),
  fact_st 24 Tryz.underlying8 (by decide) (by decide) Tryz.stoodInHeld8 Tryz.eqGuardType8 (by decide) (by kernel_rfl),
  fact_str Tryz.underlying9 (by kernel_rfl),
  fact_str Tryz.underlying10 (by kernel_rfl),
  fact_str Tryz.underlying11 (by kernel_rfl),
  fact_sl Tryz.underlying22 (by kernel_rfl),
  fact_sl Tryz.underlying24 (by kernel_rfl),
  fact_st 40 Tryz.underlying25 (by decide) (by decide) Tryz.stoodInHeld25 Tryz.eqGuardType25 (by decide) (by kernel_rfl),
  fact_st 40 Tryz.underlying26 (by decide) (by decide) Tryz.stoodInHeld26 Tryz.eqGuardType26 (by decide) (by kernel_rfl),
  fact_sl Tryz.underlying28 (by kernel_rfl),
  fact_sl Tryz.underlying35 (by kernel_rfl),
  fact_st 24 Tryz.underlying64 (by decide) (by decide) Tryz.stoodInHeld64 Tryz.eqGuardType64 (by decide) (by kernel_rfl),
  fact_st 24 Tryz.underlying65 (by decide) (by decide) Tryz.stoodInHeld65 Tryz.eqGuardType65 (by decide) (by kernel_rfl),
  fact_sl Tryz.underlying80 (by kernel_rfl),
  fact_st 40 Tryz.underlying88 (by decide) (by decide) Tryz.stoodInHeld88 Tryz.eqGuardType88 (by decide) (by kernel_rfl),
  fact_st 40 Tryz.underlying89 (by decide) (by decide) Tryz.stoodInHeld89 Tryz.eqGuardType89 (by decide) (by kernel_rfl),
  fact_sl Tryz.underlying106 (by kernel_rfl),
  fact_sl Tryz.underlying117 (by kernel_rfl),
  fact_st 16 Tryz.underlying127 (by decide) (by decide) Tryz.stoodInHeld127 Tryz.eqGuardType127 (by decide) (by kernel_rfl),
  fact_st 16 Tryz.underlying128 (by decide) (by decide) Tryz.stoodInHeld128 Tryz.eqGuardType128 (by decide) (by kernel_rfl),
  fact_int Tryz.underlying138 (by kernel_rfl),
  fact_u8 Tryz.underlying174 (by kernel_rfl),
  fact_u8 Tryz.underlying175 (by kernel_rfl), trivial⟩
theorem okr : Reck.Ok Tryz.prog (reck T) := reck_ok tok
theorem mixed : Tryz.prog.follows .mixedOrders = true := by kernel_rfl
attribute [go_sem] T2 T3 T4 T5 T6 T7 T8 T9 T10 T11 T22 T24 T25 T26 T28 T35 T64 T65 T80 T88 T89 T106 T117 T127 T128 T138 T174 T175 
end Go.Proofs.Tryz
namespace Go.Proofs.Tryz
open Go Go.Eng

abbrev Ed := Int × Int × Int
def eds (l : List Ed) : List El := l.map fun e => [.int e.1, .int e.2.1, .int e.2.2]
def ed (l : List Ed) (i : Nat) : Ed := l.getD i (0, 0, 0)
theorem edsLen (l : List Ed) : (eds l).length = l.length := by simp [eds]
theorem edsAt {l : List Ed} {i : Nat} (h : i < l.length) : (eds l)[i]? = some [.int (ed l i).1, .int (ed l i).2.1, .int (ed l i).2.2] := by
  simp [eds, ed, h]
theorem edsSet (l : List Ed) (i : Nat) (a b c : Int) : (eds l).set i [.int a, .int b, .int c] = eds (l.set i (a, b, c)) := by simp [eds, List.map_set]
theorem edSet {l : List Ed} {i : Nat} (p : Ed) (h : i < l.length) : ed (l.set i p) i = p := by simp [ed, h]
theorem edsApp (l : List Ed) (a b c : Int) : eds l ++ [[.int a, .int b, .int c]] = eds (l ++ [(a, b, c)]) := by simp [eds]
theorem edsApps (l m : List Ed) : eds l ++ eds m = eds (l ++ m) := by simp [eds]
theorem edsNil : eds [] = [] := rfl
attribute [go_sem] edsLen edsAt edsSet edSet edsApp edsApps edsNil

def rg (n : Int) : Prop := -9223372036854775808 ≤ n ∧ n ≤ 9223372036854775807
theorem all2_1 {α β : Type} {R : α → β → Prop} {a : α} {l : List β} (h : All2 R [a] l) : ∃ x, l = [x] ∧ R a x := by
  match l, h with
  | [x], ⟨h0, _⟩ => exact ⟨x, rfl, h0⟩
theorem maxLen_eq : maxLen = 9223372036854775807 := by decide
def grA (r z : Int) (es : List Ed) : AV := .agg [.sc (.int r), .sc (.int z), .imm 3 (eds es)]


theorem takeDrop {α : Type} (l : List α) (n : Nat) : (l.drop n).take (l.length - n) = l.drop n := by rw [← List.length_drop, List.take_length]
attribute [go_sem] takeDrop

attribute [go_sem] grA entryM

@[go_sem] def K_within_sat (i : Nat) : List Nat := ([[0,1,2],[6]]).getD i []

def within_sat_S : Eng.Spec := fun args av objs => ∃ (a b c : Int), args = [aI a, aI b, aI c] ∧ av = aB (decide (b ≤ a ∧ a ≤ c)) ∧ objs = []
theorem within_sat : Sat Tryz.prog 78 within_sat_S := by
  refine sat_of tok okr mixed K_within_sat Tryz.func78 rfl (rs := [.tmp 6]) rfl Tryz.ntmps78 ?_
  rintro args av objs ⟨a, b, c, rfl, rfl, rfl⟩
  refine ⟨by show 3 ≤ 15; decide, ?_⟩
  repeat' (first|(refine ya ?_;first|refine ye ?_)|(refine yg ?_;intro hq;first|(replace hq:=zgy hq;first|refine yy hq ?_;clear hq)|(refine yn (zgn hq) ?_;clear hq)|((fail_if_success have:=zgy hq);refine zs hq ?_ ?_<;>clear hq<;>intro hg hr<;>try exact zx))|refine yz ?_|refine zst ?_|refine zo ?_|(refine zk ?_ ?_<;>intro hc hr<;>try exact zx))
  all_goals refine z_ret (hv := ?_) (ho := ?_)
  all_goals simp_all
  all_goals omega
instance : Con Tryz.prog 78 within_sat_S := con within_sat Tryz.func78
@[go_sem] def K_l1In_sat (i : Nat) : List Nat := ([[0,1,2],[6]]).getD i []

def l1In_sat_S : Eng.Spec := fun args av objs => ∃ (a b c : Int), args = [aI a, aI b, aI c] ∧ av = aB (decide (b ≤ a ∧ a ≤ c)) ∧ objs = []
theorem l1In_sat : Sat Tryz.prog 70 l1In_sat_S := by
  refine sat_of tok okr mixed K_l1In_sat Tryz.func70 rfl (rs := [.tmp 6]) rfl Tryz.ntmps70 ?_
  rintro args av objs ⟨a, b, c, rfl, rfl, rfl⟩
  refine ⟨by show 3 ≤ 15; decide, ?_⟩
  repeat' (first|(refine ya ?_;first|refine ye ?_)|(refine yg ?_;intro hq;first|(replace hq:=zgy hq;first|refine yy hq ?_;clear hq)|(refine yn (zgn hq) ?_;clear hq)|((fail_if_success have:=zgy hq);refine zs hq ?_ ?_<;>clear hq<;>intro hg hr<;>try exact zx))|refine yz ?_|refine zst ?_|refine zo ?_|(refine zk ?_ ?_<;>intro hc hr<;>try exact zx))
  all_goals refine z_ret (hv := ?_) (ho := ?_)
  all_goals simp_all
  all_goals omega


instance : Con Tryz.prog 70 l1In_sat_S := con l1In_sat Tryz.func70
end Go.Proofs.Tryz
namespace Go.Proofs.Tryz
open Go Go.Eng

theorem intsSet (l : List Int) (i : Nat) (a : Int) : (ints l).set i [.int a] = ints (l.set i a) := by simp [ints, List.map_set]
theorem intsApp (l : List Int) (a : Int) : ints l ++ [[.int a]] = ints (l ++ [a]) := by simp [ints]
theorem intsApps (l m : List Int) : ints l ++ ints m = ints (l ++ m) := by simp [ints]
theorem intsNil : ints [] = [] := rfl
theorem intsDrop (l : List Int) (n : Nat) : (ints l).drop n = ints (l.drop n) := by simp [ints, List.map_drop]
theorem intsTake (l : List Int) (n : Nat) : (ints l).take n = ints (l.take n) := by simp [ints, List.map_take]
theorem ixDrop (l : List Int) (n j : Nat) : ix (l.drop n) j = ix l (n + j) := by simp [ix]
attribute [go_sem] intsSet intsApp intsApps intsNil intsDrop intsTake ixDrop

theorem ints_eq {xs ys : List Int} (hl : xs.length = ys.length) (h : ∀ j, j < xs.length → ix xs j = ix ys j) : xs = ys := by
  apply List.ext_getElem hl
  intro i h1 h2
  have := h i h1
  simpa [ix, h1, h2] using this
theorem zI_eq (n : Nat) : List.replicate n [Sc.int 0] = ints (List.replicate n 0) := by simp [ints]
end Go.Proofs.Tryz
namespace Go.Proofs.Tryz
open Go Go.Eng
def lts : Nat → List Int
  | 0 => []
  | n + 1 => lts n ++ [(n + 1 : Int), -(n + 1 : Int)]
theorem lts_len (n : Nat) : (lts n).length = 2 * n := by
  induction n with
  | zero => rfl
  | succ n ih => simp [lts, ih]; omega
theorem intsApp2 (l : List Int) (a b : Int) : ints l ++ [[.int a], [.int b]] = ints (l ++ [a, b]) := by simp [ints]
attribute [go_sem] intsApp2
abbrev oL (e : Nat) (l : List Int) : Go.Eng.Obj := .flat e 1 (ints l)
end Go.Proofs.Tryz
namespace Go.Proofs.Tryz
open Go Go.Eng
@[go_sem] def K_copyInts_sat (i : Nat) : List Nat := ([[0],[2]]).getD i []
def copyInts_sat_S : Eng.Spec := fun args av objs => ∃ (l : List Int), (l.length ≤ 1099511627776) ∧ args = [aL l] ∧ av = aR 0 ∧ objs = [oL 3 l]
theorem copyInts_sat : Sat Tryz.prog 100 copyInts_sat_S := by
  refine sat_of tok okr mixed K_copyInts_sat Tryz.func100 rfl (rs := [.tmp 2]) rfl Tryz.ntmps100 ?_
  rintro args av objs ⟨l, hpre, rfl, rfl, rfl⟩
  refine ⟨by show 1 ≤ 6; decide, ?_⟩
  repeat' (first|(refine ya ?_;first|refine ye ?_)|refine yz ?_|refine zst ?_|refine zo ?_|(refine zk ?_ ?_<;>intro hc hr<;>try exact zx))
  all_goals refine z_ret (hv := ?_) (ho := ?_)
  all_goals simp [go_sem]
instance : Con Tryz.prog 100 copyInts_sat_S := con copyInts_sat Tryz.func100
@[go_sem] def K_letters_sat (i : Nat) : List Nat := ([[0],[0,3],[0,3,4],[0,3,4,8],[0,3,4],[0,3,4],[2]]).getD i []
def letters_sat_S : Eng.Spec := fun args av objs => ∃ (r : Int), (r ≤ 1000000) ∧ args = [aI r] ∧ av = aR 0 ∧ objs = [oL 3 (lts r.toNat)]
theorem letters_sat : Sat Tryz.prog 99 letters_sat_S := by
  refine sat_of tok okr mixed K_letters_sat Tryz.func99 rfl (rs := [.tmp 2]) rfl Tryz.ntmps99 ?_
  rintro args av objs ⟨r, hpre, rfl, rfl, rfl⟩
  refine ⟨by show 1 ≤ 18; decide, ?_⟩
  repeat' (first|(refine ya ?_;first|refine ye ?_)|refine yz ?_|refine zst ?_|refine zo ?_|(refine zk ?_ ?_<;>intro hc hr<;>try exact zx))
  refine z_loop (fun i : Nat => [(4, aI (i + 1))]) (fun i : Nat => [.obj 3 (oL 3 (lts i))]) (fun i : Nat => i ≤ r.toNat) (fun i : Nat => r.toNat - i) (0) (h0 := ?_) (henv := ?_) (hobj := ?_) (h := ?_)
  · omega
  · simp [go_sem, AVm, CVm, lookS, lts]
  · simp [go_sem, OBm, CVm, lookS, All2, lts]
  intro i hi
  have hl := lts_len i
  repeat' (first|(refine ya ?_;first|refine ye ?_)|refine yz ?_|refine zst ?_|refine zo ?_|(refine zk ?_ ?_<;>intro hc hr<;>try exact zx))
  · (refine zm (i + 1) ?_ ?_ <;> simp [go_sem, AVm, OBm, CVm, All2, lookS, lts, *] <;> exact zt)
  · have : i = r.toNat := by omega
    subst this
    refine z_ret (hv := ?_) (ho := ?_)
    all_goals rfl
instance : Con Tryz.prog 99 letters_sat_S := con letters_sat Tryz.func99
end Go.Proofs.Tryz
namespace Go.Proofs.Tryz
open Go Go.Eng

def cmpI (a b : Int) : Int := if a < b then -1 else if b < a then 1 else 0
def cmpE (p q : Ed) : Int := if cmpI p.1 q.1 ≠ 0 then cmpI p.1 q.1 else if cmpI p.2.1 q.2.1 ≠ 0 then cmpI p.2.1 q.2.1 else cmpI p.2.2 q.2.2
@[go_sem] def K_compareInts_sat (i : Nat) : List Nat := ([[0,1],[0,1,5],[4],[9],[4],[4]]).getD i []
def compareInts_sat_S : Eng.Spec := fun args av objs => ∃ (a b : Int), args = [aI a, aI b] ∧ av = aI (cmpI a b) ∧ objs = []
theorem compareInts_sat : Sat Tryz.prog 135 compareInts_sat_S := by
  refine sat_of tok okr mixed K_compareInts_sat Tryz.func135 rfl (rs := [.tmp 4]) rfl Tryz.ntmps135 ?_
  rintro args av objs ⟨a, b, rfl, rfl, rfl⟩
  refine ⟨by show 2 ≤ 13; decide, ?_⟩
  repeat' (first|(refine ya ?_;first|refine ye ?_)|refine yz ?_|refine zst ?_|refine zo ?_|(refine zk ?_ ?_<;>intro hc hr<;>try exact zx))
  all_goals refine z_ret (hv := ?_) (ho := ?_)
  all_goals simp [cmpI, *]
  all_goals omega
instance : Con Tryz.prog 135 compareInts_sat_S := con compareInts_sat Tryz.func135
@[go_sem] def K_compareEdges_sat (i : Nat) : List Nat := ([[2,3],[2,3,5],[2,3,5,13],[4],[2,3,6],[2,3,6,21],[4],[4]]).getD i []
def compareEdges_sat_S : Eng.Spec := fun args av objs => ∃ (a b c x y w : Int), args = [.agg [.sc (.int a), .sc (.int b), .sc (.int c)], .agg [.sc (.int x), .sc (.int y), .sc (.int w)]] ∧ av = aI (cmpE (a, b, c) (x, y, w)) ∧ objs = []
theorem compareEdges_sat : Sat Tryz.prog 107 compareEdges_sat_S := by
  refine sat_of tok okr mixed K_compareEdges_sat Tryz.func107 rfl (rs := [.tmp 4]) rfl Tryz.ntmps107 ?_
  rintro args av objs ⟨a, b, c, x, y, w, rfl, rfl, rfl⟩
  refine ⟨by show 2 ≤ 28; decide, ?_⟩
  repeat' (first|(refine ya ?_;first|refine yc ?_|refine ye ?_)|refine yz ?_|refine zst ?_|refine zo ?_|(refine zk ?_ ?_<;>intro hc hr<;>try exact zx))
  all_goals refine z_ret (hv := ?_) (ho := ?_)
  all_goals simp_all [cmpE]
instance : Con Tryz.prog 107 compareEdges_sat_S := con compareEdges_sat Tryz.func107
@[go_sem] def K_compareEdges_sat2 (i : Nat) : List Nat := ([[2,3],[3,5],[5,6],[5,6,7],[5,6,7,23],[5,6,7],[5,6,7,34],[4],[5,6,7,43],[4],[4]]).getD i []
def compareEdges_sat2_S : Eng.Spec := fun args av objs => ∃ (a b c x y w : Int), args = [.agg [.sc (.int a), .sc (.int b), .sc (.int c)], .agg [.sc (.int x), .sc (.int y), .sc (.int w)]] ∧ av = aI (cmpE (a, b, c) (x, y, w)) ∧ objs = []
theorem compareEdges_sat2 : Sat Tryz.prog 109 compareEdges_sat2_S := by
  refine sat_of tok okr mixed K_compareEdges_sat2 Tryz.func109 rfl (rs := [.tmp 4]) rfl Tryz.ntmps109 ?_
  rintro args av objs ⟨a, b, c, x, y, w, rfl, rfl, rfl⟩
  refine ⟨by show 2 ≤ 44; decide, ?_⟩
  repeat' (first|(refine ya ?_;first|refine ye ?_)|refine yz ?_|(refine yA ?_;first|refine yE ?_)|refine yZ ?_|refine zst ?_|refine zo ?_|(refine zk ?_ ?_<;>intro hc hr<;>try exact zx))
  refine z_loop (fun i : Nat => [(7, aI i)]) (fun i : Nat => []) (fun i : Nat => i ≤ 3 ∧ (1 ≤ i → a = x) ∧ (2 ≤ i → b = y) ∧ (3 ≤ i → c = w)) (fun i : Nat => 3 - i) (0) (h0 := ?_) (henv := ?_) (hobj := ?_) (h := ?_)
  · exact ⟨by omega, by omega, by omega, by omega⟩
  · simp [go_sem, AVm, CVm, lookS]
  · simp [go_sem, OBm, CVm, lookS, All2]
  rintro i ⟨hi, h0, h1, h2⟩
  rcases (show i = 0 ∨ i = 1 ∨ i = 2 ∨ i = 3 by omega) with rfl | rfl | rfl | rfl
  all_goals simp only [Nat.le_refl, forall_const, Nat.reduceLeDiff, false_implies] at h0 h1 h2
  all_goals repeat' (first|(refine ya ?_;first|refine ye ?_)|refine yz ?_|(refine yA ?_;first|refine yE ?_)|refine yZ ?_|refine zst ?_|refine zo ?_|(refine zk ?_ ?_<;>intro hc hr<;>try exact zx))
  all_goals first
    | (exact zl (1) (hj := by exact ⟨by omega, by omega, by omega, by omega⟩); done)
    | (exact zl (2) (hj := by exact ⟨by omega, by omega, by omega, by omega⟩); done)
    | (exact zl (3) (hj := by exact ⟨by omega, by omega, by omega, by omega⟩); done)
    | (refine z_ret (hv := ?_) (ho := ?_) <;> (simp [cmpE, cmpI] <;> omega))
    | (refine z_ret (hv := ?_) (ho := ?_) <;> simp_all [cmpE, cmpI])

def edOk (r z : Int) (p : Ed) : Bool := decide (0 ≤ p.1 ∧ p.1 ≤ w64 (z - 1)) && decide (0 ≤ p.2.2 ∧ p.2.2 ≤ w64 (z - 1)) && decide (1 ≤ p.2.1 ∧ p.2.1 ≤ r)
instance : Con Tryz.prog 109 compareEdges_sat2_S := con compareEdges_sat2 Tryz.func109
@[go_sem] def K_l4Edge_sat (i : Nat) : List Nat := ([[2,3],[4]]).getD i []
def l4Edge_sat_S : Eng.Spec := fun args av objs => ∃ (r z : Int) (es : List Ed) (a b c : Int), args = [grA r z es, .agg [.sc (.int a), .sc (.int b), .sc (.int c)]] ∧ av = aB (edOk r z (a, b, c)) ∧ objs = []
theorem l4Edge_sat : Sat Tryz.prog 108 l4Edge_sat_S := by
  refine sat_of tok okr mixed K_l4Edge_sat Tryz.func108 rfl (rs := [.tmp 4]) rfl Tryz.ntmps108 ?_
  rintro args av objs ⟨r, z, es, a, b, c, rfl, rfl, rfl⟩
  refine ⟨by show 2 ≤ 26; decide, ?_⟩
  repeat' (first|(refine ya ?_;first|refine yc ?_|refine ye ?_)|(refine yg ?_;intro hq;first|(replace hq:=zgy hq;first|refine yc ?_|refine yy hq ?_;clear hq)|(refine yn (zgn hq) ?_;clear hq)|((fail_if_success have:=zgy hq);refine zs hq ?_ ?_<;>clear hq<;>intro hg hr<;>try exact zx))|refine yz ?_|refine zst ?_|refine zo ?_|(refine zk ?_ ?_<;>intro hc hr<;>try exact zx))
  all_goals refine z_ret (hv := ?_) (ho := ?_)
  all_goals simp_all [edOk]
  all_goals intros
  all_goals omega
instance : Con Tryz.prog 108 l4Edge_sat_S := con l4Edge_sat Tryz.func108
@[go_sem] def K_l4Copy_sat (i : Nat) : List Nat := ([[1,2],[2]]).getD i []
def l4Copy_sat_S : Eng.Spec := fun args av objs => ∃ (r z : Int) (es : List Ed), (es.length ≤ 1099511627776) ∧ args = [grA r z es] ∧ av = .agg [.sc (.int r), .sc (.int z), .ref 0] ∧ objs = [.flat 65 3 (eds es)]
theorem l4Copy_sat : Sat Tryz.prog 123 l4Copy_sat_S := by
  refine sat_of tok okr mixed K_l4Copy_sat Tryz.func123 rfl (rs := [.cell 2 26]) rfl Tryz.ntmps123 ?_
  rintro args av objs ⟨r, z, es, hpre, rfl, rfl, rfl⟩
  refine ⟨by show 1 ≤ 12; decide, ?_⟩
  repeat' (first|(refine ya ?_;first|refine ye ?_)|refine yz ?_|(refine yA ?_;first|refine yE ?_)|refine yZ ?_|refine zst ?_|refine zo ?_|(refine zk ?_ ?_<;>intro hc hr<;>try exact zx))
  all_goals try exact zv
instance : Con Tryz.prog 123 l4Copy_sat_S := con l4Copy_sat Tryz.func123
end Go.Proofs.Tryz
namespace Go.Proofs.Tryz
open Go Go.Eng

def ok1 (r z : Int) (es : List Ed) (i : Nat) : Bool := edOk r z (ed es i) && (decide (i = 0) || decide (cmpE (ed es (i - 1)) (ed es i) < 0))
def okAll (r z : Int) (es : List Ed) (n : Nat) : Bool := (List.range n).all (ok1 r z es)
theorem okAll_succ (r z : Int) (es : List Ed) (n : Nat) : okAll r z es (n + 1) = (okAll r z es n && ok1 r z es n) := by
  simp [okAll, List.range_succ]
def isG (r z : Int) (es : List Ed) : Bool := okAll r z es es.length && (decide (1 ≤ r ∧ r ≤ 3) && decide (1 ≤ z ∧ z ≤ 40) && decide (es.length ≤ 120))
theorem okAll_mono {r z : Int} {es : List Ed} {n m : Nat} (h : n ≤ m) (h2 : okAll r z es m = true) : okAll r z es n = true := by
  simp only [okAll, List.all_eq_true, List.mem_range] at *
  intro x hx
  exact h2 x (by omega)
@[go_sem] def K_isGraph_sat2 (i : Nat) : List Nat := ([[1],[1,3],[1,3,8],[1,3],[1,3,37],[2],[2]]).getD i []
def isGraph_sat2_S : Eng.Spec := fun args av objs => ∃ (r z : Int) (es : List Ed), (es.length ≤ 1099511627776) ∧ args = [grA r z es] ∧ av = aB (isG r z es) ∧ objs = []
theorem isGraph_sat2 : Sat Tryz.prog 65 isGraph_sat2_S := by
  refine sat_of tok okr mixed K_isGraph_sat2 Tryz.func65 rfl (rs := [.tmp 2]) rfl Tryz.ntmps65 ?_
  rintro args av objs ⟨r, z, es, hpre, rfl, rfl, rfl⟩
  refine ⟨by show 1 ≤ 52; decide, ?_⟩
  repeat' (first|(refine ya ?_;first|refine yc ?_|refine ye ?_)|((first|refine yg ?_|refine yG ?_);intro hq;first|(replace hq:=zgy hq;first|refine yc ?_|refine yC ?_|refine yy hq ?_|refine yY hq ?_;clear hq)|((first|refine yn (zgn hq) ?_|refine yN (zgn hq) ?_);clear hq)|((fail_if_success have:=zgy hq);(first|refine zs hq ?_ ?_|refine zS hq ?_ ?_)<;>clear hq<;>intro hg hr<;>try exact zx))|refine yt ?_|refine yz ?_|(refine yA ?_;first|refine yC ?_|refine yE ?_)|refine yT ?_|refine yZ ?_|refine zst ?_|refine zo ?_|(refine zk ?_ ?_<;>intro hc hr<;>try exact zx))
  refine z_loop (fun i : Nat => [(3, aI i)]) (fun i : Nat => []) (fun i : Nat => i ≤ es.length ∧ okAll r z es i = true) (fun i : Nat => es.length - i) (0) (h0 := ?_) (henv := ?_) (hobj := ?_) (h := ?_)
  · exact ⟨by omega, rfl⟩
  · simp [go_sem, AVm, CVm, lookS]
  · simp [go_sem, OBm, CVm, lookS, All2]
  rintro i ⟨hi, hok⟩
  have e1 : ((i : Int) - 1).toNat = i - 1 := by omega
  repeat' (first|(refine ya ?_;first|refine yc ?_|refine ye ?_)|((first|refine yg ?_|refine yG ?_);intro hq;first|(replace hq:=zgy hq;first|refine yc ?_|refine yC ?_|refine yy hq ?_|refine yY hq ?_;clear hq)|((first|refine yn (zgn hq) ?_|refine yN (zgn hq) ?_);clear hq)|((fail_if_success have:=zgy hq);(first|refine zs hq ?_ ?_|refine zS hq ?_ ?_)<;>clear hq<;>intro hg hr<;>try exact zx))|refine yt ?_|refine yz ?_|(refine yA ?_;first|refine yC ?_|refine yE ?_)|refine yT ?_|refine yZ ?_|refine zst ?_|refine zo ?_|(refine zk ?_ ?_<;>intro hc hr<;>try exact zx))
  all_goals first
    | (exact zl (i + 1) (hj := by exact ⟨by omega, by first | (simp [okAll_succ, ok1, *]; done) | (simp [okAll_succ, ok1, *]; omega)⟩); done)
    | (have hii : i = es.length := by omega
       subst hii
       refine z_ret (hv := ?_) (ho := ?_) <;> first | (simp_all [isG]; done) | (simp_all [isG]; omega))
    | (have h1 := mt (okAll_mono (r := r) (z := z) (es := es) (n := i + 1) (m := es.length) (by omega))
       have h2 : okAll r z es (i + 1) = false := by first | (simp_all [okAll_succ, ok1]; done) | (simp_all [okAll_succ, ok1]; omega)
       have h3 : isG r z es = false := by simp [isG, h1 (by rw [h2]; simp)]
       rw [h3]
       refine z_ret (hv := ?_) (ho := ?_) <;> rfl)
    | trace_state
instance : Con Tryz.prog 65 isGraph_sat2_S := con isGraph_sat2 Tryz.func65
end Go.Proofs.Tryz
namespace Go.Proofs.Tryz
open Go Go.Eng

def putStep (e : Ed) (st : List Ed × Bool) (x : Ed) : List Ed × Bool :=
  if cmpE e x = 0 then (st.1 ++ [x], true)
  else if cmpE e x < 0 ∧ st.2 = false then (st.1 ++ [e] ++ [x], true)
  else (st.1 ++ [x], st.2)
def putN (es : List Ed) (e : Ed) (i : Nat) : List Ed × Bool := (es.take i).foldl (putStep e) ([], false)
theorem putN_succ {es : List Ed} {e : Ed} {i : Nat} (h : i < es.length) : putN es e (i + 1) = putStep e (putN es e i) (ed es i) := by
  simp only [putN]
  rw [List.take_add_one, List.foldl_append]
  simp [h, ed]
def put (es : List Ed) (e : Ed) : List Ed := if (putN es e es.length).2 then (putN es e es.length).1 else (putN es e es.length).1 ++ [e]
theorem putN_len (es : List Ed) (e : Ed) (i : Nat) (h : i ≤ es.length) : (putN es e i).1.length ≤ 2 * i := by
  induction i with
  | zero => simp [putN]
  | succ i ih =>
    rw [putN_succ (by omega)]
    have := ih (by omega)
    unfold putStep
    split
    · simp; omega
    · split <;> simp <;> omega
@[go_sem] def K_l4Put_sat (i : Nat) : List Nat := ([[0,3],[0,3,5],[0,3,5,6],[0,3,5,6,7],[0,3,5,6,7,13],[0,3,5,6,7],[0,3,5,6,7,8],[0,3,5,6,7,8,23],[0,3,5,6,7,8],[0,3,5,6,7,29],[0,3,5,7],[0,3,5,6,7],[0,3,5,6,7],[3,5,42],[5],[4]]).getD i []
def l4Put_sat_S : Eng.Spec := fun args av objs => ∃ (es : List Ed) (a b c : Int), (es.length ≤ 1099511627) ∧ args = [.one (.imm 3 (eds es)), .agg [.sc (.int a), .sc (.int b), .sc (.int c)]] ∧ av = aR 0 ∧ objs = [.flat 65 3 (eds (put es (a, b, c)))]
theorem l4Put_sat : Sat Tryz.prog 124 l4Put_sat_S := by
  refine sat_of tok okr mixed K_l4Put_sat Tryz.func124 rfl (rs := [.tmp 4]) rfl Tryz.ntmps124 ?_
  rintro args av objs ⟨es, a, b, c, hpre, rfl, rfl, rfl⟩
  refine ⟨by show 2 ≤ 48; decide, ?_⟩
  repeat' (first|(refine ya ?_;first|refine yc ?_|refine ye ?_)|((first|refine yg ?_|refine yG ?_);intro hq;first|(replace hq:=zgy hq;first|refine yc ?_|refine yC ?_|refine yy hq ?_|refine yY hq ?_;clear hq)|((first|refine yn (zgn hq) ?_|refine yN (zgn hq) ?_);clear hq)|((fail_if_success have:=zgy hq);(first|refine zs hq ?_ ?_|refine zS hq ?_ ?_)<;>clear hq<;>intro hg hr<;>try exact zx))|refine yz ?_|(refine yA ?_;first|refine yC ?_|refine yE ?_)|refine yZ ?_|refine zst ?_|refine zo ?_|(refine zk ?_ ?_<;>intro hc hr<;>try exact zx))
  refine z_loop (fun i : Nat => [(7, aI i), (6, aB (putN es (a, b, c) i).2)]) (fun i : Nat => [.obj 5 (.flat 65 3 (eds (putN es (a, b, c) i).1))]) (fun i : Nat => i ≤ es.length) (fun i : Nat => es.length - i) (0) (h0 := ?_) (henv := ?_) (hobj := ?_) (h := ?_)
  · omega
  · simp [go_sem, AVm, CVm, lookS, putN]
  · simp [go_sem, OBm, CVm, lookS, All2, putN]
  intro i hi
  have hlen := putN_len es (a, b, c) i hi
  rcases Nat.lt_or_ge i es.length with hlt | hge
  · have hs := putN_succ (e := (a, b, c)) hlt
    generalize hst : putN es (a, b, c) i = st at hlen hs ⊢
    obtain ⟨o, b1⟩ := st
    simp only at hlen ⊢
    clear hst
    repeat' (first|(refine ya ?_;first|refine yc ?_|refine ye ?_)|((first|refine yg ?_|refine yG ?_);intro hq;first|(replace hq:=zgy hq;first|refine yc ?_|refine yC ?_|refine yy hq ?_|refine yY hq ?_;clear hq)|((first|refine yn (zgn hq) ?_|refine yN (zgn hq) ?_);clear hq)|((fail_if_success have:=zgy hq);(first|refine zs hq ?_ ?_|refine zS hq ?_ ?_)<;>clear hq<;>intro hg hr<;>try exact zx))|refine yz ?_|(refine yA ?_;first|refine yC ?_|refine yE ?_)|refine yZ ?_|refine zst ?_|refine zo ?_|(refine zk ?_ ?_<;>intro hc hr<;>try exact zx))
    all_goals first
      | ((refine zm (i + 1) ?_ ?_ <;> simp [go_sem, AVm, OBm, CVm, All2, lookS, hs, putStep, *] <;> exact zt); done)
      | trace_state
  · have hii : i = es.length := by omega
    subst hii
    have hp : put es (a, b, c) = if (putN es (a, b, c) es.length).2 then (putN es (a, b, c) es.length).1 else (putN es (a, b, c) es.length).1 ++ [(a, b, c)] := rfl
    rw [hp]
    generalize putN es (a, b, c) es.length = st at hlen ⊢
    obtain ⟨o, b1⟩ := st
    simp only at hlen ⊢
    cases b1
    · repeat' (first|(refine ya ?_;first|refine yc ?_|refine ye ?_)|((first|refine yg ?_|refine yG ?_);intro hq;first|(replace hq:=zgy hq;first|refine yc ?_|refine yC ?_|refine yy hq ?_|refine yY hq ?_;clear hq)|((first|refine yn (zgn hq) ?_|refine yN (zgn hq) ?_);clear hq)|((fail_if_success have:=zgy hq);(first|refine zs hq ?_ ?_|refine zS hq ?_ ?_)<;>clear hq<;>intro hg hr<;>try exact zx))|refine yz ?_|(refine yA ?_;first|refine yC ?_|refine yE ?_)|refine yZ ?_|refine zst ?_|refine zo ?_|(refine zk ?_ ?_<;>intro hc hr<;>try exact zx))
      all_goals try exact zv
    · repeat' (first|(refine ya ?_;first|refine yc ?_|refine ye ?_)|((first|refine yg ?_|refine yG ?_);intro hq;first|(replace hq:=zgy hq;first|refine yc ?_|refine yC ?_|refine yy hq ?_|refine yY hq ?_;clear hq)|((first|refine yn (zgn hq) ?_|refine yN (zgn hq) ?_);clear hq)|((fail_if_success have:=zgy hq);(first|refine zs hq ?_ ?_|refine zS hq ?_ ?_)<;>clear hq<;>intro hg hr<;>try exact zx))|refine yz ?_|(refine yA ?_;first|refine yC ?_|refine yE ?_)|refine yZ ?_|refine zst ?_|refine zo ?_|(refine zk ?_ ?_<;>intro hc hr<;>try exact zx))
      all_goals try exact zv
instance : Con Tryz.prog 124 l4Put_sat_S := con l4Put_sat Tryz.func124
end Go.Proofs.Tryz
namespace Go.Proofs.Tryz
open Go Go.Eng

@[go_sem] def K_has_sat (i : Nat) : List Nat := ([[1,2],[4]]).getD i []
def has_sat_S : Eng.Spec := fun args av objs => ∃ (r z : Int) (es : List Ed) (v : Int), args = [grA r z es, aI v] ∧ av = aB (decide (0 ≤ v ∧ v ≤ w64 (z - 1))) ∧ objs = []
theorem has_sat : Sat Tryz.prog 134 has_sat_S := by
  refine sat_of tok okr mixed K_has_sat Tryz.func134 rfl (rs := [.tmp 4]) rfl Tryz.ntmps134 ?_
  rintro args av objs ⟨r, z, es, v, rfl, rfl, rfl⟩
  refine ⟨by show 2 ≤ 10; decide, ?_⟩
  repeat' (first|(refine ya ?_;first|refine yc ?_|refine ye ?_)|refine yz ?_|refine zst ?_|refine zo ?_|(refine zk ?_ ?_<;>intro hc hr<;>try exact zx))
  all_goals refine z_ret (hv := ?_) (ho := ?_)
  all_goals simp
instance : Con Tryz.prog 134 has_sat_S := con has_sat Tryz.func134
@[go_sem] def K_accepts_sat (i : Nat) : List Nat := ([[2,3],[4]]).getD i []
def accepts_sat_S : Eng.Spec := fun args av objs => ∃ (r z : Int) (es : List Ed) (a b c : Int), args = [grA r z es, .agg [.sc (.int a), .sc (.int b), .sc (.int c)]] ∧ av = aB (edOk r z (a, b, c)) ∧ objs = []
theorem accepts_sat : Sat Tryz.prog 106 accepts_sat_S := by
  refine sat_of tok okr mixed K_accepts_sat Tryz.func106 rfl (rs := [.tmp 4]) rfl Tryz.ntmps106 ?_
  rintro args av objs ⟨r, z, es, a, b, c, rfl, rfl, rfl⟩
  refine ⟨by show 2 ≤ 22; decide, ?_⟩
  repeat' (first|(refine ya ?_;first|refine yc ?_|refine ye ?_)|(refine yg ?_;intro hq;first|(replace hq:=zgy hq;first|refine yc ?_|refine yy hq ?_;clear hq)|(refine yn (zgn hq) ?_;clear hq)|((fail_if_success have:=zgy hq);refine zs hq ?_ ?_<;>clear hq<;>intro hg hr<;>try exact zx))|refine yz ?_|refine zst ?_|refine zo ?_|(refine zk ?_ ?_<;>intro hc hr<;>try exact zx))
  all_goals refine z_ret (hv := ?_) (ho := ?_)
  all_goals simp_all [edOk]
  all_goals intros
  all_goals omega
instance : Con Tryz.prog 106 accepts_sat_S := con accepts_sat Tryz.func106
@[go_sem] def K_isGraph_sat (i : Nat) : List Nat := ([[1],[1,20],[2],[1,22,23,24],[1,22,23,24,25],[1,3,4,22,23,24],[1,22,23,24,47],[2],[1,22,23,24],[2]]).getD i []
def isGraph_sat_S : Eng.Spec := fun args av objs => ∃ (r z : Int) (es : List Ed), (es.length ≤ 1099511627776) ∧ args = [grA r z es] ∧ av = aB (isG r z es) ∧ objs = []
theorem isGraph_sat : Sat Tryz.prog 64 isGraph_sat_S := by
  refine sat_of tok okr mixed K_isGraph_sat Tryz.func64 rfl (rs := [.tmp 2]) rfl Tryz.ntmps64 ?_
  rintro args av objs ⟨r, z, es, hpre, rfl, rfl, rfl⟩
  refine ⟨by show 1 ≤ 49; decide, ?_⟩
  repeat' (first|(refine ya ?_;first|refine yc ?_|refine ye ?_)|((first|refine yg ?_|refine yG ?_);intro hq;first|(replace hq:=zgy hq;first|refine yc ?_|refine yC ?_|refine yy hq ?_|refine yY hq ?_;clear hq)|((first|refine yn (zgn hq) ?_|refine yN (zgn hq) ?_);clear hq)|((fail_if_success have:=zgy hq);(first|refine zs hq ?_ ?_|refine zS hq ?_ ?_)<;>clear hq<;>intro hg hr<;>try exact zx))|refine yt ?_|refine yz ?_|(refine yA ?_;first|refine yC ?_|refine yE ?_)|refine yT ?_|refine yZ ?_|refine zst ?_|refine zo ?_|(refine zk ?_ ?_<;>intro hc hr<;>try exact zx))
  all_goals first
    | (refine z_ret (hv := ?_) (ho := ?_) <;> first | rfl | (simp_all [isG]; done) | (simp_all [isG]; omega))
    | skip
  refine z_loop (fun i : Nat => [(24, aI i)]) (fun i : Nat => []) (fun i : Nat => i ≤ es.length ∧ okAll r z es i = true) (fun i : Nat => es.length - i) (0) (h0 := ?_) (henv := ?_) (hobj := ?_) (h := ?_)
  · exact ⟨by omega, rfl⟩
  · simp [go_sem, AVm, CVm, lookS]
  · simp [go_sem, OBm, CVm, lookS, All2]
  rintro i ⟨hi, hok⟩
  have e1 : ((i : Int) - 1).toNat = i - 1 := by omega
  repeat' (first|(refine ya ?_;first|refine yc ?_|refine ye ?_)|((first|refine yg ?_|refine yG ?_);intro hq;first|(replace hq:=zgy hq;first|refine yc ?_|refine yC ?_|refine yy hq ?_|refine yY hq ?_;clear hq)|((first|refine yn (zgn hq) ?_|refine yN (zgn hq) ?_);clear hq)|((fail_if_success have:=zgy hq);(first|refine zs hq ?_ ?_|refine zS hq ?_ ?_)<;>clear hq<;>intro hg hr<;>try exact zx))|refine yt ?_|refine yz ?_|(refine yA ?_;first|refine yC ?_|refine yE ?_)|refine yT ?_|refine yZ ?_|refine zst ?_|refine zo ?_|(refine zk ?_ ?_<;>intro hc hr<;>try exact zx))
  all_goals first
    | (exact zl (i + 1) (hj := by exact ⟨by omega, by first | (simp [okAll_succ, ok1, *]; done) | (simp [okAll_succ, ok1, *]; omega)⟩); done)
    | (have hii : i = es.length := by omega
       subst hii
       refine z_ret (hv := ?_) (ho := ?_) <;> first | rfl | (simp_all [isG]; done) | (simp_all [isG]; omega))
    | (have h1 := mt (okAll_mono (r := r) (z := z) (es := es) (n := i + 1) (m := es.length) (by omega))
       have h2 : okAll r z es (i + 1) = false := by first | (simp_all [okAll_succ, ok1]; done) | (simp_all [okAll_succ, ok1]; omega)
       have h3 : isG r z es = false := by simp [isG, h1 (by rw [h2]; simp)]
       rw [h3]
       refine z_ret (hv := ?_) (ho := ?_) <;> rfl)
    | trace_state
instance : Con Tryz.prog 64 isGraph_sat_S := con isGraph_sat Tryz.func64
end Go.Proofs.Tryz
