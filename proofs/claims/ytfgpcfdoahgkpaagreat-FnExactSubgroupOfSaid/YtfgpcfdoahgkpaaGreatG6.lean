import Derived.Test.YtfgpcfdoahgkpaaGreatG5
import Derived.Test.YtfgpcfdoahgkpaaGreatE2
set_option linter.unusedVariables false
set_option linter.unusedSimpArgs false
set_option linter.unnecessarySimpa false
/- The laws' marks on lists of words. -/
namespace Go.Proofs.Tryz
open Go Go.Eng
set_option linter.unnecessarySimpa false
set_option linter.unusedSimpArgs false
set_option maxHeartbeats 4000000
/-- Where the marks of row i begin. -/
def mkS (ws : List (List Int)) (k : Int) : Nat → Int
  | 0 => k
  | i + 1 => mkS ws k i + (wx ws i).length
theorem mkS_eq (ws : List (List Int)) (k : Int) : ∀ i, mkS ws k i + ws.length = k + totN ws i
  | 0 => by simp [mkS, totN]
  | i + 1 => by have := mkS_eq ws k i; simp only [mkS, totN]; omega
/-- The first i rows marked. -/
def mkR (ws : List (List Int)) (k : Int) : Nat → List (List Int)
  | 0 => ws
  | i + 1 => (mkR ws k i).set i (mkI (wx ws i).length (mkS ws k i))
theorem mkR_len (ws : List (List Int)) (k : Int) (i : Nat) : (mkR ws k i).length = ws.length := by
  induction i with
  | zero => rfl
  | succ i ih => simp [mkR, ih]
theorem mkR_ge {ws : List (List Int)} {k : Int} {j : Nat} : ∀ {i : Nat}, i ≤ j → wx (mkR ws k i) j = wx ws j
  | 0, _ => rfl
  | i + 1, h => by
    have ih := mkR_ge (ws := ws) (k := k) (i := i) (j := j) (by omega)
    rw [← ih]
    simp only [mkR, wx, List.getD_eq_getElem?_getD]
    rw [List.getElem?_set_ne (by omega)]
theorem mkR_lt {ws : List (List Int)} {k : Int} {j : Nat} (hj : j < ws.length) : ∀ {i : Nat}, j < i → wx (mkR ws k i) j = mkI (wx ws j).length (mkS ws k j)
  | 0, h => by omega
  | i + 1, h => by
    rcases Nat.lt_or_ge j i with h1 | h1
    · have ih := mkR_lt (ws := ws) (k := k) hj h1
      rw [← ih]
      simp only [mkR, wx, List.getD_eq_getElem?_getD]
      rw [List.getElem?_set_ne (by omega)]
    · have : j = i := by omega
      subst this
      simp only [mkR, wx, List.getD_eq_getElem?_getD]
      rw [List.getElem?_set_self (by rw [mkR_len]; exact hj)]
      rfl
def mkW (ws : List (List Int)) (k : Int) : List (List Int) := mkR ws k ws.length
def mkT (ws : List (List Int)) (k : Int) : Int := mkS ws k ws.length
theorem mkW_len (ws : List (List Int)) (k : Int) : (mkW ws k).length = ws.length := mkR_len ..
theorem mkW_at {ws : List (List Int)} {k : Int} {j : Nat} (hj : j < ws.length) : wx (mkW ws k) j = mkI (wx ws j).length (mkS ws k j) := mkR_lt hj hj
theorem osW_set {ws : List (List Int)} {i : Nat} {w : List Int} : (osW ws).set i (some (ints w)) = osW (ws.set i w) := by simp [osW, List.map_set]
theorem osW_gt {ws : List (List Int)} {i : Nat} (h : i < ws.length) : (osW ws)[i]? = some (some (ints (wx ws i))) := osW_at h
theorem mkS_le {ws : List (List Int)} {k : Int} {i : Nat} (hi : i ≤ ws.length) : mkS ws k i ≤ k + totW ws := by
  have h1 := mkS_eq ws k i
  have h2 := totN_w hi
  omega
theorem mkS_ge {ws : List (List Int)} {k : Int} : ∀ {i : Nat}, k ≤ mkS ws k i
  | 0 => Int.le_refl _
  | i + 1 => by have := mkS_ge (ws := ws) (k := k) (i := i); simp only [mkS]; omega
def K22 : Nat → List Nat := fun i => ([[0, 1], [0, 1, 5], [0, 1, 5, 9], [0, 1, 5], [0, 1, 5], [4]] : List (List Nat)).getD i []
attribute [go_sem] K22
def markIntSS_S : SpecM := fun args o x o' => ∃ (e e' : Nat) (st : Bool) (ws : List (List Int)) (k : Int), (totW ws ≤ 1048576 ∧ 0 ≤ k ∧ k ≤ 1000000000000) ∧ args = [aR 0, aI k] ∧ o = .rows e e' (.own st) (osW ws) ∧ x = .int (mkT ws k) ∧ o' = .rows e e' (.own st) (osW (mkW ws k))
theorem markIntSS_sat : SatM Tryz.prog 22 markIntSS_S := by
  refine satM_ofV tok okr mixed K22 Tryz.func22 rfl (r := .tmp 4) rfl Tryz.ntmps22 ?_
  rintro args o x o' ⟨e, e', st, ws, k, ⟨htot, hk0, hk1⟩, rfl, rfl, rfl, rfl⟩
  refine ⟨e, e', st, osW ws, osW (mkW ws k), rfl, rfl, by show 2 ≤ 19; decide, fun S W pv us hus => ?_⟩
  rw [osW_len] at hus
  have htl := tot_len htot
  repeat' (first|(refine ya ?_;first|(refine yb ?_;first|refine yr ?_)|refine ye ?_)|refine yz ?_|refine zst ?_|refine k_blk_other rfl ?_|(refine zk ?_ ?_<;>intro hc hr<;>try first|contradiction|exfalso;omega))
  refine z_loop (fun i : Nat => [(5, aI i), (1, aI (mkS ws k i))]) (fun i : Nat => [.obj 0 (.rowsV e e' st (osW (mkR ws k i)) us)]) (fun i : Nat => i ≤ ws.length) (fun i : Nat => ws.length - i) (0) (h0 := ?_) (henv := ?_) (hobj := ?_) (h := ?_)
  · omega
  · simp [go_sem, AVm, CVm, lookS, mkR, mkS]
  · simp [go_sem, OBm, CVm, lookS, All2, mkR, mkS]
  intro i hi
  have hlen := mkR_len ws k i
  rcases Nat.lt_or_ge i ws.length with hlt | hge
  · have hat := mkR_ge (ws := ws) (k := k) (Nat.le_refl i)
    have hwl := tot_at htot hlt
    have hm1 := mkS_le (ws := ws) (k := k) hi
    have hm2 := mkS_ge (ws := ws) (k := k) (i := i)
    have hs : (osW (mkR ws k i)).set i (some (ints (mkI (wx (mkR ws k i) i).length (mkS ws k i)))) = osW (mkR ws k (i + 1)) := by rw [osW_set, hat]; rfl
    have hs2 : mkS ws k i + (wx (mkR ws k i) i).length = mkS ws k (i + 1) := by rw [hat]; rfl
    repeat' (first|(refine ya ?_;first|(refine yb ?_;first|refine yr ?_)|refine ye ?_)|refine yz ?_|refine zst ?_|refine k_blk_other rfl ?_|(refine zk ?_ ?_<;>intro hc hr<;>try first|contradiction|exfalso;omega))
    refine ya ?_
    refine yb ?_
    have hu : us[i]? = some us[i] := List.getElem?_eq_getElem (by omega)
    have hl : (osW (mkR ws k i))[i]? = some (some (ints (wx (mkR ws k i) i))) := osW_gt (by omega)
    have hSp : markIntS_sat_S [aR 0, aI (mkS ws k i)] (.flat e' 1 (ints (wx (mkR ws k i) i))) (.int (mkS ws k i + (wx (mkR ws k i) i).length)) (.flat e' 1 (ints (mkI (wx (mkR ws k i) i).length (mkS ws k i)))) := ⟨e', wx (mkR ws k i) i, mkS ws k i, ⟨by rw [hat]; omega, by omega, by omega⟩, rfl, rfl, rfl, rfl⟩
    refine yw (id := 0) (e := e) (st := st) i hu hl hSp (hob := by rfl) (hargs := by rfl) (k0 := ?_)
    clear hu hl hSp
    repeat' (first|(refine ya ?_;first|(refine yb ?_;first|refine yr ?_)|refine ye ?_)|refine yz ?_|refine zst ?_|refine k_blk_other rfl ?_|(refine zk ?_ ?_<;>intro hc hr<;>try first|contradiction|exfalso;omega))
    (refine z_lop (i + 1) (hj := ?_) (hmu := ?_) (henv := ?_) (hobj := ?_); (· omega); (· first | omega | (simp only; omega)); (· first | (simp [go_sem, AVm, CVm, lookS, hs, hs2, *]; done) | (simp [go_sem, AVm, CVm, lookS, hs, hs2, *] <;> (repeat' split) <;> first | omega | (simp_all; done) | (exfalso; omega) | (simp_all; omega))); (· first | (simp [go_sem, OBm, CVm, All2, lookS, hs, hs2, *]; done) | (simp [go_sem, OBm, CVm, All2, lookS, hs, hs2, *] <;> (repeat' split) <;> first | omega | (simp_all; done) | (exfalso; omega) | (simp_all; omega))))
  · have hii : i = ws.length := by omega
    subst hii
    repeat' (first|(refine ya ?_;first|(refine yb ?_;first|refine yr ?_)|refine ye ?_)|refine yz ?_|refine zst ?_|refine k_blk_other rfl ?_|(refine zk ?_ ?_<;>intro hc hr<;>try first|contradiction|exfalso;omega))
    exact ⟨rfl, rfl, rfl, rfl⟩
instance : ConM Tryz.prog 22 (specOfM markIntSS_sat) := conM markIntSS_sat Tryz.func22
def K_heldIntSS_sat : Nat → List Nat := fun i => ([[0, 1], [0, 1, 5], [0, 1, 5, 9], [0, 1, 5], [0, 1, 5], [0, 1, 5, 19], [4], [4]] : List (List Nat)).getD i []
attribute [go_sem] K_heldIntSS_sat
def heldIntSS_sat_S : Eng.Spec := fun args av objs => ∃ (ws : List (List Int)) (k : Int), (totW ws ≤ 1048576 ∧ 0 ≤ k ∧ k ≤ 1000000000000) ∧ args = [aW (mkW ws k), aI k] ∧ av = aI (mkT ws k) ∧ objs = []
theorem heldIntSS_sat : Sat Tryz.prog 23 heldIntSS_sat_S := by
  refine sat_of tok okr mixed K_heldIntSS_sat Tryz.func23 rfl (rs := [.tmp 4]) rfl Tryz.ntmps23 ?_
  rintro args av objs ⟨ws, k, hpre, rfl, rfl, rfl⟩
  refine ⟨by show 2 ≤ 21; decide, ?_⟩
  obtain ⟨htot, hk0, hk1⟩ := hpre
  have hlen := mkW_len ws k
  have htl := tot_len htot
  repeat' (first|(refine ya ?_;first|(refine yb ?_;first|refine yc ?_)|refine ye ?_)|refine yz ?_|refine zst ?_|refine k_blk_other rfl ?_|(refine zk ?_ ?_<;>intro hc hr<;>try first|contradiction|exfalso;omega))
  refine z_loop (fun i : Nat => [(5, aI i), (1, aI (mkS ws k i))]) (fun i : Nat => []) (fun i : Nat => i ≤ ws.length) (fun i : Nat => ws.length - i) (0) (h0 := ?_) (henv := ?_) (hobj := ?_) (h := ?_)
  · omega
  · simp [go_sem, AVm, CVm, lookS, mkS]
  · simp [go_sem, OBm, CVm, lookS, All2, mkS]
  intro i hi
  rcases Nat.lt_or_ge i ws.length with hlt | hge
  · have hat := mkW_at (k := k) hlt
    have hwl := tot_at htot hlt
    have hm1 := mkS_le (ws := ws) (k := k) hi
    have hm2 := mkS_ge (ws := ws) (k := k) (i := i)
    have hs2 : mkS ws k (i + 1) = mkS ws k i + (wx ws i).length := rfl
    repeat' (first|(refine ya ?_;first|(refine yb ?_;first|refine yc ?_)|refine ye ?_)|refine yz ?_|refine zst ?_|refine k_blk_other rfl ?_|(refine zk ?_ ?_<;>intro hc hr<;>try first|contradiction|exfalso;omega))
    rw [hat]
    repeat' (first|(refine ya ?_;first|(refine yb ?_;first|refine yc ?_)|refine ye ?_)|refine yz ?_|refine zst ?_|refine k_blk_other rfl ?_|(refine zk ?_ ?_<;>intro hc hr<;>try first|contradiction|exfalso;omega))
    (refine z_lop (i + 1) (hj := ?_) (hmu := ?_) (henv := ?_) (hobj := ?_); (· omega); (· first | omega | (simp only; omega)); (· first | (simp [go_sem, AVm, CVm, lookS, hs2, *]; done) | (simp [go_sem, AVm, CVm, lookS, hs2, *] <;> (repeat' split) <;> first | omega | (simp_all; done) | (exfalso; omega) | (simp_all; omega))); (· first | (simp [go_sem, OBm, CVm, All2, lookS, hs2, *]; done) | (simp [go_sem, OBm, CVm, All2, lookS, hs2, *] <;> (repeat' split) <;> first | omega | (simp_all; done) | (exfalso; omega) | (simp_all; omega))))
  · have hii : i = ws.length := by omega
    subst hii
    repeat' (first|(refine ya ?_;first|(refine yb ?_;first|refine yc ?_)|refine ye ?_)|refine yz ?_|refine zst ?_|refine k_blk_other rfl ?_|(refine zk ?_ ?_<;>intro hc hr<;>try first|contradiction|exfalso;omega))
    all_goals first | (refine z_ret (hv := ?_) (ho := ?_) <;> first | rfl | (simp [go_sem, mkT, *]; done) | (simp_all [mkT]; done) | (simp_all [mkT]; omega)) | skip
instance : Con Tryz.prog 23 heldIntSS_sat_S := con heldIntSS_sat Tryz.func23
end Go.Proofs.Tryz
