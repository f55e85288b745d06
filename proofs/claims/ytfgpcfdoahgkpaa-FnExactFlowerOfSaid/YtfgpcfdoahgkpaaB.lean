import Derived.Test.YtfgpcfdoahgkpaaA
set_option linter.unusedVariables false
set_option linter.unusedSimpArgs false
set_option linter.unnecessarySimpa false
namespace Go.Proofs.Try
set_option linter.unnecessarySimpa false
set_option linter.unusedSimpArgs false
set_option maxHeartbeats 2000000
open Go Go.Eng

/-! ### Marks -/
def mkE : Nat → Int → List Ed
  | 0, _ => []
  | n + 1, k => mkE n k ++ [(k + 3 * n, k + 3 * n + 1, k + 3 * n + 2)]
theorem mkE_len (n : Nat) (k : Int) : (mkE n k).length = n := by induction n with | zero => rfl | succ n ih => simp [mkE, ih]
theorem mkE_set {es : List Ed} {i : Nat} (k : Int) (h : i < es.length) : (mkE i k ++ es.drop i).set i (k + 3 * i, k + 3 * i + 1, k + 3 * i + 2) = mkE (i + 1) k ++ es.drop (i + 1) := by
  rw [List.set_append_right _ _ (by rw [mkE_len]; exact Nat.le_refl _), mkE_len, Nat.sub_self, List.drop_eq_getElem_cons h, List.set_cons_zero]
  simp [mkE]
theorem mkE_ed {n i : Nat} {k : Int} (h : i < n) : ed (mkE n k) i = (k + 3 * i, k + 3 * i + 1, k + 3 * i + 2) := by
  induction n with
  | zero => omega
  | succ n ih =>
    unfold mkE ed
    by_cases hi : i < n
    · have := ih hi
      unfold ed at this
      rw [List.getD_eq_getElem?_getD, List.getElem?_append_left (by rw [mkE_len]; exact hi), ← List.getD_eq_getElem?_getD, this]
    · have : i = n := by omega
      subst this
      rw [List.getD_eq_getElem?_getD, List.getElem?_append_right (by rw [mkE_len]; exact Nat.le_refl _), mkE_len]
      simp
attribute [go_sem] mkE_ed mkE_len
attribute [simp] mkE_len
def K_markEdgeS_sat : Nat → List Nat := fun i => ([[0, 1], [0, 1, 5], [0, 1, 5, 9], [0, 1, 5], [0, 1, 5], [0, 1, 5], [0, 1, 5], [0, 1, 5], [0, 1, 5], [0, 1, 5], [4]] : List (List Nat)).getD i []
attribute [go_sem] K_markEdgeS_sat
def markEdgeS_sat_S : SpecM := fun args o x o' => ∃ (e : Nat) (es : List Ed) (k : Int), (es.length ≤ 1099511627776 ∧ 0 ≤ k ∧ k ≤ 1152921504606846976) ∧ args = [aR 0, aI k] ∧ o = .flat e 3 (eds es) ∧ x = .int (k + 3 * es.length) ∧ o' = .flat e 3 (eds (mkE es.length k))
theorem markEdgeS_sat : SatM Try.prog 33 markEdgeS_sat_S := by
  refine satM_of tok okr mixed K_markEdgeS_sat Try.func33 rfl (r := .tmp 4) rfl Try.ntmps33 ?_
  rintro args o x o' ⟨e, es, k, hpre, rfl, rfl, rfl, rfl⟩
  refine ⟨by show 2 ≤ 34; decide, rfl, fun S W pv => ?_⟩
  repeat' (first|(refine ya ?_;first|refine ye ?_)|refine yz ?_|refine zst ?_|refine k_blk_other rfl ?_|(refine zk ?_ ?_<;>intro hc hr<;>try first|contradiction|exfalso;omega))
  refine z_loop (fun i : Nat => [(1, aI (k + 3 * i)), (5, aI i)]) (fun i : Nat => [.obj 0 (.flat e 3 (eds (mkE i k ++ es.drop i)))]) (fun i : Nat => i ≤ es.length) (fun i : Nat => es.length - i) (0) (h0 := ?_) (henv := ?_) (hobj := ?_) (h := ?_)
  · omega
  · simp [go_sem, AVm, CVm, lookS, mkE]
  · simp [go_sem, OBm, CVm, lookS, All2, mkE]
  intro i hi
  have hlen : (mkE i k ++ es.drop i).length = es.length := by simp [mkE_len]; omega
  rcases Nat.lt_or_ge i es.length with hlt | hge
  · have hs := mkE_set k hlt
    have e2 : k + 3 * (i : Int) + 1 + 1 = k + 3 * i + 2 := by omega
    have e3 : k + 3 * (i : Int) + 1 + 1 + 1 = k + 3 * ((i + 1 : Nat) : Int) := by omega
    generalize hL : mkE i k ++ es.drop i = L at hlen hs ⊢
    repeat' (first|(refine ya ?_;first|refine ye ?_)|refine yz ?_|refine zst ?_|refine k_blk_other rfl ?_|(refine zk ?_ ?_<;>intro hc hr<;>try first|contradiction|exfalso;omega))
    (refine z_lop (i + 1) (hj := ?_) (hmu := ?_) (henv := ?_) (hobj := ?_); (· omega); (· first | omega | (simp only; omega)); (· first | (simp [go_sem, AVm, CVm, lookS, hs, e2, e3, *]; done) | (simp [go_sem, AVm, CVm, lookS, hs, e2, e3, *] <;> (repeat' split) <;> first | omega | (simp_all; done) | (exfalso; omega) | (simp_all; omega))); (· first | (simp [go_sem, OBm, CVm, All2, lookS, hs, e2, e3, *]; done) | (simp [go_sem, OBm, CVm, All2, lookS, hs, e2, e3, *] <;> (repeat' split) <;> first | omega | (simp_all; done) | (exfalso; omega) | (simp_all; omega))))
  · have hii : i = es.length := by omega
    subst hii
    have hL : mkE es.length k ++ es.drop es.length = mkE es.length k := by simp
    rw [hL]
    repeat' (first|(refine ya ?_;first|refine ye ?_)|refine yz ?_|refine zst ?_|refine k_blk_other rfl ?_|(refine zk ?_ ?_<;>intro hc hr<;>try first|contradiction|exfalso;omega))
    exact ⟨rfl, rfl, rfl, rfl⟩
instance : ConM Try.prog 33 markEdgeS_sat_S := conM markEdgeS_sat Try.func33
def K_markGraph_sat : Nat → List Nat := fun i => ([[1, 2], [1], [4]] : List (List Nat)).getD i []
attribute [go_sem] K_markGraph_sat
def markGraph_sat_S : SpecM := fun args o x o' => ∃ (r z : Int) (e : Nat) (es : List Ed) (k : Int), (es.length ≤ 1099511627776 ∧ 0 ≤ k ∧ k ≤ 1152921504606846976) ∧ args = [.agg [.sc (.int r), .sc (.int z), .ref 0], aI k] ∧ o = .flat e 3 (eds es) ∧ x = .int (k + 3 * es.length) ∧ o' = .flat e 3 (eds (mkE es.length k))
theorem markGraph_sat : SatM Try.prog 18 markGraph_sat_S := by
  refine satM_of tok okr mixed K_markGraph_sat Try.func18 rfl (r := .tmp 4) rfl Try.ntmps18 ?_
  rintro args o x o' ⟨r, z, e, es, k, hpre, rfl, rfl, rfl, rfl⟩
  refine ⟨by show 2 ≤ 10; decide, rfl, fun S W pv => ?_⟩
  repeat' (first|(refine ya ?_;first|(refine yb ?_;first|refine yr ?_)|refine ye ?_)|refine yz ?_|refine zst ?_|refine k_blk_other rfl ?_|(refine zk ?_ ?_<;>intro hc hr<;>try first|contradiction|exfalso;omega))
  exact ⟨rfl, rfl, rfl, rfl⟩
instance : ConM Try.prog 18 markGraph_sat_S := conM markGraph_sat Try.func18
def K_heldEdgeS_sat : Nat → List Nat := fun i => ([[0, 1], [0, 1, 5], [0, 1, 5, 9], [0, 1, 5], [0, 1, 5, 18], [4], [0, 1, 5], [0, 1, 5, 27], [4], [0, 1, 5], [0, 1, 5, 36], [4], [0, 1, 5], [4]] : List (List Nat)).getD i []
attribute [go_sem] K_heldEdgeS_sat
def heldEdgeS_sat_S : Eng.Spec := fun args av objs => ∃ (n : Nat) (k : Int), (n ≤ 1099511627776 ∧ 0 ≤ k ∧ k ≤ 1152921504606846976) ∧ args = [.one (.imm 3 (eds (mkE n k))), aI k] ∧ av = aI (k + 3 * n) ∧ objs = []
theorem heldEdgeS_sat : Sat Try.prog 34 heldEdgeS_sat_S := by
  refine sat_of tok okr mixed K_heldEdgeS_sat Try.func34 rfl (rs := [.tmp 4]) rfl Try.ntmps34 ?_
  rintro args av objs ⟨n, k, hpre, rfl, rfl, rfl⟩
  refine ⟨by show 2 ≤ 40; decide, ?_⟩
  repeat' (first|(refine ya ?_;first|refine ye ?_)|refine yz ?_|refine zst ?_|refine k_blk_other rfl ?_|(refine zk ?_ ?_<;>intro hc hr<;>try first|contradiction|exfalso;omega))
  refine z_loop (fun i : Nat => [(1, aI (k + 3 * i)), (5, aI i)]) (fun i : Nat => []) (fun i : Nat => i ≤ n) (fun i : Nat => n - i) (0) (h0 := ?_) (henv := ?_) (hobj := ?_) (h := ?_)
  · omega
  · simp [go_sem, AVm, CVm, lookS]
  · simp [go_sem, OBm, CVm, lookS, All2]
  intro i hi
  rcases Nat.lt_or_ge i n with hlt | hge
  · have e3 : k + 3 * (i : Int) + 1 + 1 + 1 = k + 3 * ((i + 1 : Nat) : Int) := by omega
    repeat' (first|(refine ya ?_;first|refine ye ?_)|refine yz ?_|refine zst ?_|refine k_blk_other rfl ?_|(refine zk ?_ ?_<;>intro hc hr<;>try first|contradiction|exfalso;omega))
    (refine z_lop (i + 1) (hj := ?_) (hmu := ?_) (henv := ?_) (hobj := ?_); (· omega); (· first | omega | (simp only; omega)); (· first | (simp [go_sem, AVm, CVm, lookS, Int.add_assoc, Int.mul_add, *]; done) | (simp [go_sem, AVm, CVm, lookS, Int.add_assoc, Int.mul_add, *] <;> (repeat' split) <;> first | omega | (simp_all; done) | (exfalso; omega) | (simp_all; omega))); (· first | (simp [go_sem, OBm, CVm, All2, lookS, Int.add_assoc, Int.mul_add, *]; done) | (simp [go_sem, OBm, CVm, All2, lookS, Int.add_assoc, Int.mul_add, *] <;> (repeat' split) <;> first | omega | (simp_all; done) | (exfalso; omega) | (simp_all; omega))))
  · have : i = n := by omega
    subst this
    repeat' (first|(refine ya ?_;first|refine ye ?_)|refine yz ?_|refine zst ?_|refine k_blk_other rfl ?_|(refine zk ?_ ?_<;>intro hc hr<;>try first|contradiction|exfalso;omega))
    all_goals first | (refine z_ret (hv := ?_) (ho := ?_) <;> first | rfl | (simp [go_sem, *]; done) | (simp_all; done) | (simp_all; omega)) | skip
instance : Con Try.prog 34 heldEdgeS_sat_S := con heldEdgeS_sat Try.func34
def K_heldGraph_sat : Nat → List Nat := fun i => ([[1, 2], [1], [1, 10], [4], [4]] : List (List Nat)).getD i []
attribute [go_sem] K_heldGraph_sat
def heldGraph_sat_S : Eng.Spec := fun args av objs => ∃ (r z : Int) (n : Nat) (k : Int), (n ≤ 1099511627776 ∧ 0 ≤ k ∧ k ≤ 1152921504606846976) ∧ args = [.agg [.sc (.int r), .sc (.int z), .imm 3 (eds (mkE n k))], aI k] ∧ av = aI (k + 3 * n) ∧ objs = []
theorem heldGraph_sat : Sat Try.prog 19 heldGraph_sat_S := by
  refine sat_of tok okr mixed K_heldGraph_sat Try.func19 rfl (rs := [.tmp 4]) rfl Try.ntmps19 ?_
  rintro args av objs ⟨r, z, n, k, hpre, rfl, rfl, rfl⟩
  refine ⟨by show 2 ≤ 12; decide, ?_⟩
  repeat' (first|(refine ya ?_;first|(refine yb ?_;first|refine yc ?_)|refine ye ?_)|refine yz ?_|refine zst ?_|refine k_blk_other rfl ?_|(refine zk ?_ ?_<;>intro hc hr<;>try first|contradiction|exfalso;omega))
  all_goals first | (refine z_ret (hv := ?_) (ho := ?_) <;> first | rfl | (simp [go_sem, *]; done) | (simp_all; done) | (simp_all; omega)) | skip
instance : Con Try.prog 19 heldGraph_sat_S := con heldGraph_sat Try.func19
end Go.Proofs.Try
namespace Go.Proofs.Try
open Go Go.Eng
set_option linter.unnecessarySimpa false
set_option linter.unusedSimpArgs false
set_option maxHeartbeats 4000000
/-! ### The laws' helpers, told anew -/
def K_szIntS_y : Nat → List Nat := fun i => ([[0, 1], [1], [1, 10], [4], [4]] : List (List Nat)).getD i []
attribute [go_sem] K_szIntS_y
def szIntS_y_S : Eng.Spec := fun args av objs => ∃ (l : List Int) (k : Int), ((l.length : Int) ≤ k ∧ k ≤ 1048576) ∧ args = [aL l, aI k] ∧ av = aI (k - l.length) ∧ objs = []
theorem szIntS_y : Sat Try.prog 20 szIntS_y_S := by
  refine sat_of tok okr mixed K_szIntS_y Try.func20 rfl (rs := [.tmp 4]) rfl Try.ntmps20 ?_
  rintro args av objs ⟨l, k, hpre, rfl, rfl, rfl⟩
  refine ⟨by show 2 ≤ 12; decide, ?_⟩
  repeat' (first|(refine ya ?_;first|refine ye ?_)|refine yz ?_|refine zst ?_|refine k_blk_other rfl ?_|(refine zk ?_ ?_<;>intro hc hr<;>try first|contradiction|exfalso;omega))
  all_goals first | (refine z_ret (hv := ?_) (ho := ?_) <;> first | rfl | (simp [go_sem, *]; done) | (simp_all; done) | (simp_all; omega)) | skip
instance : Con Try.prog 20 szIntS_y_S := con szIntS_y Try.func20
def K_szIntS_n : Nat → List Nat := fun i => ([[0, 1], [1], [1, 10], [4], [4]] : List (List Nat)).getD i []
attribute [go_sem] K_szIntS_n
def szIntS_n_S : Eng.Spec := fun args av objs => ∃ (l : List Int) (k : Int), (k < l.length ∧ 0 ≤ k ∧ k ≤ 1048576 ∧ l.length ≤ 9223372036854775807) ∧ args = [aL l, aI k] ∧ av = aI (-1) ∧ objs = []
theorem szIntS_n : Sat Try.prog 20 szIntS_n_S := by
  refine sat_of tok okr mixed K_szIntS_n Try.func20 rfl (rs := [.tmp 4]) rfl Try.ntmps20 ?_
  rintro args av objs ⟨l, k, hpre, rfl, rfl, rfl⟩
  refine ⟨by show 2 ≤ 12; decide, ?_⟩
  repeat' (first|(refine ya ?_;first|refine ye ?_)|refine yz ?_|refine zst ?_|refine k_blk_other rfl ?_|(refine zk ?_ ?_<;>intro hc hr<;>try first|contradiction|exfalso;omega))
  all_goals first | (refine z_ret (hv := ?_) (ho := ?_) <;> first | rfl | (simp [go_sem, *]; done) | (simp_all; done) | (simp_all; omega)) | skip
/-! ### Marks on ints -/
def mkI : Nat → Int → List Int
  | 0, _ => []
  | n + 1, k => mkI n k ++ [k + n]
theorem mkI_len (n : Nat) (k : Int) : (mkI n k).length = n := by induction n with | zero => rfl | succ n ih => simp [mkI, ih]
theorem mkI_set {l : List Int} {i : Nat} (k : Int) (h : i < l.length) : (mkI i k ++ l.drop i).set i (k + i) = mkI (i + 1) k ++ l.drop (i + 1) := by
  rw [List.set_append_right _ _ (by rw [mkI_len]; exact Nat.le_refl _), mkI_len, Nat.sub_self, List.drop_eq_getElem_cons h, List.set_cons_zero]
  simp [mkI]
theorem mkI_ix {n i : Nat} {k : Int} (h : i < n) : ix (mkI n k) i = k + i := by
  induction n with
  | zero => omega
  | succ n ih =>
    unfold ix mkI
    by_cases hi : i < n
    · have := ih hi
      unfold ix at this
      rw [List.getD_eq_getElem?_getD, List.getElem?_append_left (by rw [mkI_len]; exact hi), ← List.getD_eq_getElem?_getD, this]
    · have : i = n := by omega
      subst this
      rw [List.getD_eq_getElem?_getD, List.getElem?_append_right (by rw [mkI_len]; exact Nat.le_refl _), mkI_len]
      simp
attribute [go_sem] mkI_len mkI_ix
attribute [simp] mkI_len
instance (priority := 2000) : Con Try.prog 20 (orS szIntS_y_S szIntS_n_S) := con2 szIntS_y szIntS_n Try.func20
def K_markIntS_sat : Nat → List Nat := fun i => ([[0, 1], [0, 1, 5], [0, 1, 5, 9], [0, 1, 5], [0, 1, 5], [0, 1, 5], [4]] : List (List Nat)).getD i []
attribute [go_sem] K_markIntS_sat
def markIntS_sat_S : SpecM := fun args o x o' => ∃ (e : Nat) (l : List Int) (k : Int), (l.length ≤ 1099511627776 ∧ 0 ≤ k ∧ k ≤ 1152921504606846976) ∧ args = [aR 0, aI k] ∧ o = .flat e 1 (ints l) ∧ x = .int (k + l.length) ∧ o' = .flat e 1 (ints (mkI l.length k))
theorem markIntS_sat : SatM Try.prog 13 markIntS_sat_S := by
  refine satM_of tok okr mixed K_markIntS_sat Try.func13 rfl (r := .tmp 4) rfl Try.ntmps13 ?_
  rintro args o x o' ⟨e, l, k, hpre, rfl, rfl, rfl, rfl⟩
  refine ⟨by show 2 ≤ 19; decide, rfl, fun S W pv => ?_⟩
  repeat' (first|(refine ya ?_;first|refine ye ?_)|refine yz ?_|refine zst ?_|refine k_blk_other rfl ?_|(refine zk ?_ ?_<;>intro hc hr<;>try first|contradiction|exfalso;omega))
  refine z_loop (fun i : Nat => [(1, aI (k + i)), (5, aI i)]) (fun i : Nat => [.obj 0 (.flat e 1 (ints (mkI i k ++ l.drop i)))]) (fun i : Nat => i ≤ l.length) (fun i : Nat => l.length - i) (0) (h0 := ?_) (henv := ?_) (hobj := ?_) (h := ?_)
  · omega
  · simp [go_sem, AVm, CVm, lookS, mkI]
  · simp [go_sem, OBm, CVm, lookS, All2, mkI]
  intro i hi
  have hlen : (mkI i k ++ l.drop i).length = l.length := by simp; omega
  rcases Nat.lt_or_ge i l.length with hlt | hge
  · have hs := mkI_set k hlt
    generalize hL : mkI i k ++ l.drop i = L at hlen hs ⊢
    repeat' (first|(refine ya ?_;first|refine ye ?_)|refine yz ?_|refine zst ?_|refine k_blk_other rfl ?_|(refine zk ?_ ?_<;>intro hc hr<;>try first|contradiction|exfalso;omega))
    (refine z_lop (i + 1) (hj := ?_) (hmu := ?_) (henv := ?_) (hobj := ?_); (· omega); (· first | omega | (simp only; omega)); (· first | (simp [go_sem, AVm, CVm, lookS, hs, Int.add_assoc, *]; done) | (simp [go_sem, AVm, CVm, lookS, hs, Int.add_assoc, *] <;> (repeat' split) <;> first | omega | (simp_all; done) | (exfalso; omega) | (simp_all; omega))); (· first | (simp [go_sem, OBm, CVm, All2, lookS, hs, Int.add_assoc, *]; done) | (simp [go_sem, OBm, CVm, All2, lookS, hs, Int.add_assoc, *] <;> (repeat' split) <;> first | omega | (simp_all; done) | (exfalso; omega) | (simp_all; omega))))
  · have hii : i = l.length := by omega
    subst hii
    have hL : mkI l.length k ++ l.drop l.length = mkI l.length k := by simp
    rw [hL]
    repeat' (first|(refine ya ?_;first|refine ye ?_)|refine yz ?_|refine zst ?_|refine k_blk_other rfl ?_|(refine zk ?_ ?_<;>intro hc hr<;>try first|contradiction|exfalso;omega))
    exact ⟨rfl, rfl, rfl, rfl⟩
instance : ConM Try.prog 13 markIntS_sat_S := conM markIntS_sat Try.func13
def K_heldIntS_sat : Nat → List Nat := fun i => ([[0, 1], [0, 1, 5], [0, 1, 5, 9], [0, 1, 5], [0, 1, 5, 17], [4], [0, 1, 5], [4]] : List (List Nat)).getD i []
attribute [go_sem] K_heldIntS_sat
def heldIntS_sat_S : Eng.Spec := fun args av objs => ∃ (n : Nat) (k : Int), (n ≤ 1099511627776 ∧ 0 ≤ k ∧ k ≤ 1152921504606846976) ∧ args = [aL (mkI n k), aI k] ∧ av = aI (k + n) ∧ objs = []
theorem heldIntS_sat : Sat Try.prog 14 heldIntS_sat_S := by
  refine sat_of tok okr mixed K_heldIntS_sat Try.func14 rfl (rs := [.tmp 4]) rfl Try.ntmps14 ?_
  rintro args av objs ⟨n, k, hpre, rfl, rfl, rfl⟩
  refine ⟨by show 2 ≤ 21; decide, ?_⟩
  repeat' (first|(refine ya ?_;first|refine ye ?_)|refine yz ?_|refine zst ?_|refine k_blk_other rfl ?_|(refine zk ?_ ?_<;>intro hc hr<;>try first|contradiction|exfalso;omega))
  refine z_loop (fun i : Nat => [(1, aI (k + i)), (5, aI i)]) (fun i : Nat => []) (fun i : Nat => i ≤ n) (fun i : Nat => n - i) (0) (h0 := ?_) (henv := ?_) (hobj := ?_) (h := ?_)
  · omega
  · simp [go_sem, AVm, CVm, lookS]
  · simp [go_sem, OBm, CVm, lookS, All2]
  intro i hi
  repeat' (first|(refine ya ?_;first|refine ye ?_)|refine yz ?_|refine zst ?_|refine k_blk_other rfl ?_|(refine zk ?_ ?_<;>intro hc hr<;>try first|contradiction|exfalso;omega))
  · (refine z_lop (i + 1) (hj := ?_) (hmu := ?_) (henv := ?_) (hobj := ?_); (· omega); (· first | omega | (simp only; omega)); (· first | (simp [go_sem, AVm, CVm, lookS, Int.add_assoc, *]; done) | (simp [go_sem, AVm, CVm, lookS, Int.add_assoc, *] <;> (repeat' split) <;> first | omega | (simp_all; done) | (exfalso; omega) | (simp_all; omega))); (· first | (simp [go_sem, OBm, CVm, All2, lookS, Int.add_assoc, *]; done) | (simp [go_sem, OBm, CVm, All2, lookS, Int.add_assoc, *] <;> (repeat' split) <;> first | omega | (simp_all; done) | (exfalso; omega) | (simp_all; omega))))
  · have : i = n := by omega
    subst this
    all_goals first | (refine z_ret (hv := ?_) (ho := ?_) <;> first | rfl | (simp [go_sem, *]; done) | (simp_all; done) | (simp_all; omega)) | skip
instance : Con Try.prog 14 heldIntS_sat_S := con heldIntS_sat Try.func14
end Go.Proofs.Try
namespace Go.Proofs.Try
open Go Go.Eng
set_option linter.unnecessarySimpa false
set_option linter.unusedSimpArgs false
set_option maxHeartbeats 4000000

abbrev Fd := Int × Int
def fds (l : List Fd) : List El := l.map fun e => [.int e.1, .int e.2]
def fd (l : List Fd) (i : Nat) : Fd := l.getD i (0, 0)
theorem fdsLen (l : List Fd) : (fds l).length = l.length := by simp [fds]
theorem fdsAt {l : List Fd} {i : Nat} (h : i < l.length) : (fds l)[i]? = some [.int (fd l i).1, .int (fd l i).2] := by
  simp [fds, fd, h]
theorem fdsApp (l : List Fd) (a b : Int) : fds l ++ [[.int a, .int b]] = fds (l ++ [(a, b)]) := by simp [fds]
theorem fdsNil : fds [] = [] := rfl
attribute [go_sem] fdsLen fdsAt fdsApp fdsNil
theorem edsDrop (l : List Ed) (n : Nat) : (eds l).drop n = eds (l.drop n) := by simp [eds, List.map_drop]
theorem edsTake (l : List Ed) (n : Nat) : (eds l).take n = eds (l.take n) := by simp [eds, List.map_take]
theorem edDrop (l : List Ed) (n j : Nat) : ed (l.drop n) j = ed l (n + j) := by simp [ed]
attribute [go_sem] edsDrop edsTake edDrop

def mnI (a b : Int) : Int := if b < a then b else a
def mxI (a b : Int) : Int := if a < b then b else a
def pairF (a b : Ed) : List Fd :=
  if a.2.1 = b.2.1 then (if a.1 = b.1 then [(mnI a.2.2 b.2.2, mxI a.2.2 b.2.2)] else []) ++ (if a.2.2 = b.2.2 then [(mnI a.1 b.1, mxI a.1 b.1)] else []) else []
def innerF (es : List Ed) (i : Nat) : Nat → List Fd
  | 0 => []
  | n + 1 => innerF es i n ++ pairF (ed es i) (ed es (i + 1 + n))
def outerF (es : List Ed) : Nat → List Fd
  | 0 => []
  | n + 1 => outerF es n ++ innerF es n (es.length - (n + 1))
def foldsOf (es : List Ed) : List Fd := outerF es es.length
theorem pairF_len (a b : Ed) : (pairF a b).length ≤ 2 := by
  unfold pairF
  split
  · split <;> split <;> simp
  · simp
theorem innerF_len (es : List Ed) (i n : Nat) : (innerF es i n).length ≤ 2 * n := by
  induction n with
  | zero => simp [innerF]
  | succ n ih =>
    have := pairF_len (ed es i) (ed es (i + 1 + n))
    simp only [innerF, List.length_append]; omega
theorem outerF_len (es : List Ed) (n : Nat) : (outerF es n).length ≤ n * (2 * es.length) := by
  induction n with
  | zero => simp [outerF]
  | succ n ih =>
    have := innerF_len es n (es.length - (n + 1))
    simp only [outerF, List.length_append, Nat.add_mul]; omega
theorem outerF_len2 (es : List Ed) (n : Nat) (h : n ≤ es.length) : (outerF es n).length + (es.length - n) * (es.length - n) + n ≤ es.length * es.length := by
  induction n with
  | zero => simp [outerF]
  | succ n ih =>
    have h1 := ih (by omega)
    have h2 := innerF_len es n (es.length - (n + 1))
    obtain ⟨m, hm⟩ : ∃ m, es.length = n + 1 + m := ⟨es.length - (n + 1), by omega⟩
    have e1 : es.length - (n + 1) = m := by omega
    have e2 : es.length - n = m + 1 := by omega
    rw [e1] at h2 ⊢
    rw [e2] at h1
    simp only [outerF, List.length_append, e1]
    have e3 : (m + 1) * (m + 1) = m * m + 2 * m + 1 := by simp only [Nat.add_mul, Nat.mul_add]; omega
    rw [e3] at h1
    omega
theorem outerF_bound {es : List Ed} {n : Nat} (h : es.length ≤ 1048576) (hn : n < es.length) : (outerF es n).length + 2 * (es.length - (n + 1)) + 1 ≤ 1099511627776 := by
  have h1 := outerF_len2 es n (by omega)
  obtain ⟨m, hm⟩ : ∃ m, es.length = n + 1 + m := ⟨es.length - (n + 1), by omega⟩
  have e1 : es.length - (n + 1) = m := by omega
  have e2 : es.length - n = m + 1 := by omega
  rw [e2] at h1
  rw [e1]
  have e3 : (m + 1) * (m + 1) = m * m + 2 * m + 1 := by simp only [Nat.add_mul, Nat.mul_add]; omega
  rw [e3] at h1
  have h2 : es.length * es.length ≤ 1048576 * 1048576 := Nat.mul_le_mul h h
  omega
theorem foldsOf_lenG (es : List Ed) : (foldsOf es).length ≤ es.length * es.length := by
  have := outerF_len2 es es.length (Nat.le_refl _)
  unfold foldsOf
  omega
end Go.Proofs.Try
namespace Go.Proofs.Try
open Go Go.Eng
set_option linter.unnecessarySimpa false
set_option linter.unusedSimpArgs false
set_option maxHeartbeats 4000000
end Go.Proofs.Try
namespace Go.Proofs.Try
open Go Go.Eng
set_option linter.unnecessarySimpa false
set_option linter.unusedSimpArgs false
set_option maxHeartbeats 4000000
theorem isG_len {r z : Int} {es : List Ed} (h : isG r z es = true) : es.length ≤ 120 := by
  simp only [isG, Bool.and_eq_true, decide_eq_true_eq] at h
  exact h.2.2
theorem foldsOf_len {es : List Ed} (h : es.length ≤ 120) : (foldsOf es).length ≤ 28800 := by
  have h1 := foldsOf_lenG es
  have h2 : es.length * es.length ≤ 120 * 120 := Nat.mul_le_mul h h
  omega
theorem isG_len2 {r z : Int} {es : List Ed} (h : isG r z es = true) : es.length ≤ 1048576 := by have := isG_len h; omega
def ffOk (r z : Int) (es : List Ed) : Bool := isG r z es && decide (0 < (foldsOf es).length)
def ffF (r z : Int) (es : List Ed) : Fd := if ffOk r z es then fd (foldsOf es) 0 else (0, 0)
def fdA (p : Fd) : AV := .agg [.sc (.int p.1), .sc (.int p.2)]
end Go.Proofs.Try
