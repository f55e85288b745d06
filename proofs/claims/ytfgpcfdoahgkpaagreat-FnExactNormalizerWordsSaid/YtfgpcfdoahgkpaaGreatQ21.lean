import Derived.Test.YtfgpcfdoahgkpaaGreatQ15
import Derived.Test.YtfgpcfdoahgkpaaGreatG6
set_option linter.unusedVariables false
set_option linter.unusedSimpArgs false
set_option linter.unnecessarySimpa false
namespace Go.Proofs.Tryz
open Go Go.Eng
set_option linter.unnecessarySimpa false
set_option linter.unusedSimpArgs false
set_option maxHeartbeats 4000000
/-! ### Tables of words and of numbers -/
def trN (r z : Int) (es : List Ed) : Nat → List (List Int)
  | 0 => []
  | n + 1 => trN r z es n ++ [twd r z es n]
theorem trN_len (r z : Int) (es : List Ed) : ∀ n, (trN r z es n).length = n
  | 0 => rfl
  | n + 1 => by simp [trN, trN_len r z es n]
theorem trN_mem {r z : Int} {es : List Ed} {w : List Int} : ∀ {n : Nat}, w ∈ trN r z es n → ∃ v : Int, w = twd r z es v
  | 0, h => by cases h
  | n + 1, h => by
    rcases List.mem_append.1 h with h | h
    · exact trN_mem h
    · rw [List.mem_singleton] at h; exact ⟨n, h⟩
theorem tabR_os (r z : Int) (es : List Ed) : tabR r z es = osW (trN r z es z.toNat) := by
  unfold tabR
  generalize z.toNat = m
  induction m with
  | zero => rfl
  | succ m ih => rw [List.range_succ, List.map_append, ih, trN, ← osW_app]; rfl
def ctR (es : List Ed) (ls : List Int) (v : Int) : Nat → List Int
  | 0 => []
  | k + 1 => ctR es ls v k ++ [nx es v (ix ls k)]
theorem ctR_len (es : List Ed) (ls : List Int) (v : Int) : ∀ k, (ctR es ls v k).length = k
  | 0 => rfl
  | k + 1 => by simp [ctR, ctR_len es ls v k]
def ctN (es : List Ed) (ls : List Int) (m : Nat) : Nat → List (List Int)
  | 0 => []
  | v + 1 => ctN es ls m v ++ [ctR es ls v m]
theorem ctN_len (es : List Ed) (ls : List Int) (m : Nat) : ∀ v, (ctN es ls m v).length = v
  | 0 => rfl
  | v + 1 => by simp [ctN, ctN_len es ls m v]
theorem ctN_mem {es : List Ed} {ls : List Int} {m : Nat} {w : List Int} : ∀ {n : Nat}, w ∈ ctN es ls m n → w.length = m
  | 0, h => by cases h
  | n + 1, h => by
    rcases List.mem_append.1 h with h | h
    · exact ctN_mem h
    · rw [List.mem_singleton] at h; subst h; exact ctR_len ..
theorem totN_le {ws : List (List Int)} {m : Nat} (h : ∀ w ∈ ws, w.length ≤ m) : ∀ {i : Nat}, i ≤ ws.length → totN ws i ≤ ws.length + i * m
  | 0, _ => by simp [totN]
  | i + 1, hi => by
    have ih := totN_le h (i := i) (by omega)
    have := h _ (wx_mem (ws := ws) (i := i) (by omega))
    rw [totN, Nat.succ_mul]; omega
theorem totW_le {ws : List (List Int)} {n m : Nat} (hn : ws.length ≤ n) (h : ∀ w ∈ ws, w.length ≤ m) : totW ws ≤ n + n * m := by
  have h1 := totN_le h (Nat.le_refl _)
  have h2 : ws.length * m ≤ n * m := Nat.mul_le_mul_right _ hn
  unfold totW; omega
theorem isFi_d {r z : Int} {es : List Ed} (h : isFi r z es = true) : isC r z es = true := by
  simp only [isFi, Bool.and_eq_true] at h; exact h.1
def K_trans_no : Nat → List Nat := fun i => ([[1], [1, 3], [1, 3, 9], [2], [3, 5], [2]] : List (List Nat)).getD i []
attribute [go_sem] K_trans_no
def trans_no_S : Eng.Spec := fun args av objs => ∃ (r z : Int) (es : List Ed), (es.length ≤ 1048576 ∧ isC r z es = false) ∧ args = [grA r z es] ∧ av = aR 0 ∧ objs = [.rows 26 3 (.own true) (osW [])]
theorem trans_no : Sat Tryz.prog 20 trans_no_S := by
  refine sat_of tok okr mixed K_trans_no Tryz.func20 rfl (rs := [.tmp 2]) rfl Tryz.ntmps20 ?_
  rintro args av objs ⟨r, z, es, hpre, rfl, rfl, rfl⟩
  refine ⟨by show 1 ≤ 19; decide, ?_⟩
  obtain ⟨hes, hok⟩ := hpre
  repeat' (first|(refine ya ?_;first|(refine yb ?_;first|refine yc ?_)|refine ye ?_)|refine yz ?_|refine zst ?_|refine k_blk_other rfl ?_|(refine zk ?_ ?_<;>intro hc hr<;>try first|contradiction|exfalso;omega))
  refine z_retT 48 (hv := ?_) (ho := ?_) <;> rfl
instance : Con Tryz.prog 20 trans_no_S := con trans_no Tryz.func20
def K_trans_yes : Nat → List Nat := fun i => ([[1], [1, 3], [1, 3, 9], [2], [3, 5], [2]] : List (List Nat)).getD i []
attribute [go_sem] K_trans_yes
def trans_yes_S : Eng.Spec := fun args av objs => ∃ (r z : Int) (es : List Ed), (es.length ≤ 1048576 ∧ isC r z es = true) ∧ args = [grA r z es] ∧ av = aR 0 ∧ objs = [.rows 26 3 (.own false) (osW (trN r z es z.toNat))]
theorem trans_yes : Sat Tryz.prog 20 trans_yes_S := by
  refine sat_of tok okr mixed K_trans_yes Tryz.func20 rfl (rs := [.tmp 2]) rfl Tryz.ntmps20 ?_
  rintro args av objs ⟨r, z, es, hpre, rfl, rfl, rfl⟩
  refine ⟨by show 1 ≤ 19; decide, ?_⟩
  obtain ⟨hes, hok⟩ := hpre
  have hf := isC_f hok
  have hG := isF_g hf
  have hz := isG_z hG
  have hW := (tabR_eq hf (gone_all hf (isC_gone hok))).trans (tabR_os r z es)
  have hwl := trN_len r z es z.toNat
  repeat' (first|(refine ya ?_;first|(refine yb ?_;first|refine yc ?_)|refine ye ?_)|refine yz ?_|refine zst ?_|refine k_blk_other rfl ?_|(refine zk ?_ ?_<;>intro hc hr<;>try first|contradiction|exfalso;omega))
  refine z_retT 144 (hv := ?_) (ho := ?_) <;> first | rfl | simp [hW]
instance (priority := 2000) : Con Tryz.prog 20 (orS trans_no_S trans_yes_S) := con2 trans_no trans_yes Tryz.func20
def K_trans_no2 : Nat → List Nat := fun i => ([[1], [1, 3], [1, 3, 4], [1, 3, 4, 14], [1, 3, 4], [1, 3, 4, 5], [1, 3, 4], [2]] : List (List Nat)).getD i []
attribute [go_sem] K_trans_no2
def trans_no2_S : Eng.Spec := fun args av objs => ∃ (r z : Int) (es : List Ed), (es.length ≤ 1048576 ∧ isC r z es = false) ∧ args = [grA r z es] ∧ av = aR 0 ∧ objs = [.rows 26 3 (.own true) (osW [])]
theorem trans_no2 : Sat Tryz.prog 19 trans_no2_S := by
  refine sat_of tok okr mixed K_trans_no2 Tryz.func19 rfl (rs := [.tmp 2]) rfl Tryz.ntmps19 ?_
  rintro args av objs ⟨r, z, es, hpre, rfl, rfl, rfl⟩
  refine ⟨by show 1 ≤ 25; decide, ?_⟩
  obtain ⟨he, hok⟩ := hpre
  repeat' (first|(refine ya ?_;first|(refine yb ?_;first|refine yc ?_)|refine ye ?_)|(refine yg ?_;intro hgs;first|(replace hgs:=zgy hgs;first|(refine yb ?_;first|refine yc ?_)|refine yy hgs ?_;clear hgs)|(refine yn (zgn hgs) ?_;clear hgs)|((fail_if_success have:=zgy hgs);refine z_spl hgs (h1:=?_) (h2:=?_)<;>clear hgs<;>intro hg hr<;>try first|contradiction|exfalso;omega))|refine yz ?_|refine zst ?_|refine k_blk_other rfl ?_|(refine zk ?_ ?_<;>intro hc hr<;>try first|contradiction|exfalso;omega))
  refine z_loop (fun i : Nat => []) (fun i : Nat => []) (fun i : Nat => i = 0) (fun i : Nat => 0 - i) (0) (h0 := ?_) (henv := ?_) (hobj := ?_) (h := ?_)
  · omega
  · simp [go_sem, AVm, CVm, lookS]
  · simp [go_sem, OBm, CVm, lookS, All2]
  intro i hi
  subst hi
  by_cases hz0 : 0 < z
  · repeat' (first|(refine ya ?_;first|(refine yb ?_;first|refine yc ?_)|refine ye ?_)|(refine yg ?_;intro hgs;first|(replace hgs:=zgy hgs;first|(refine yb ?_;first|refine yc ?_)|refine yy hgs ?_;clear hgs)|(refine yn (zgn hgs) ?_;clear hgs)|((fail_if_success have:=zgy hgs);refine z_spl hgs (h1:=?_) (h2:=?_)<;>clear hgs<;>intro hg hr<;>try first|contradiction|exfalso;omega))|refine yz ?_|refine zst ?_|refine k_blk_other rfl ?_|(refine zk ?_ ?_<;>intro hc hr<;>try first|contradiction|exfalso;omega))
    refine z_retT 48 (hv := ?_) (ho := ?_) <;> rfl
  · repeat' (first|(refine ya ?_;first|(refine yb ?_;first|refine yc ?_)|refine ye ?_)|(refine yg ?_;intro hgs;first|(replace hgs:=zgy hgs;first|(refine yb ?_;first|refine yc ?_)|refine yy hgs ?_;clear hgs)|(refine yn (zgn hgs) ?_;clear hgs)|((fail_if_success have:=zgy hgs);refine z_spl hgs (h1:=?_) (h2:=?_)<;>clear hgs<;>intro hg hr<;>try first|contradiction|exfalso;omega))|refine yz ?_|refine zst ?_|refine k_blk_other rfl ?_|(refine zk ?_ ?_<;>intro hc hr<;>try first|contradiction|exfalso;omega))
    refine z_retT 48 (hv := ?_) (ho := ?_) <;> rfl
instance : Con Tryz.prog 19 trans_no2_S := con trans_no2 Tryz.func19
def K_trans_yes2 : Nat → List Nat := fun i => ([[1], [1, 3], [1, 3, 4], [1, 3, 4, 14], [1, 3, 4], [1, 3, 4, 5], [1, 3, 4], [2]] : List (List Nat)).getD i []
attribute [go_sem] K_trans_yes2
def trans_yes2_S : Eng.Spec := fun args av objs => ∃ (r z : Int) (es : List Ed), (es.length ≤ 1048576 ∧ isC r z es = true) ∧ args = [grA r z es] ∧ av = aR 0 ∧ objs = [.rows 26 3 (.own false) (osW (trN r z es z.toNat))]
theorem trans_yes2 : Sat Tryz.prog 19 trans_yes2_S := by
  refine sat_of tok okr mixed K_trans_yes2 Tryz.func19 rfl (rs := [.tmp 2]) rfl Tryz.ntmps19 ?_
  rintro args av objs ⟨r, z, es, hpre, rfl, rfl, rfl⟩
  refine ⟨by show 1 ≤ 25; decide, ?_⟩
  obtain ⟨hes, hok⟩ := hpre
  have hf := isC_f hok
  have hz := isG_z (isF_g hf)
  repeat' (first|(refine ya ?_;first|(refine yb ?_;first|refine yc ?_)|refine ye ?_)|(refine yg ?_;intro hgs;first|(replace hgs:=zgy hgs;first|(refine yb ?_;first|refine yc ?_)|refine yy hgs ?_;clear hgs)|(refine yn (zgn hgs) ?_;clear hgs)|((fail_if_success have:=zgy hgs);refine z_spl hgs (h1:=?_) (h2:=?_)<;>clear hgs<;>intro hg hr<;>try first|contradiction|exfalso;omega))|refine yz ?_|refine zst ?_|refine k_blk_other rfl ?_|(refine zk ?_ ?_<;>intro hc hr<;>try first|contradiction|exfalso;omega))
  refine z_loop (fun v : Nat => [(4, aI v)]) (fun v : Nat => [.obj 3 (.rows 26 3 (.loc false) (osW (trN r z es v)))]) (fun v : Nat => v ≤ z.toNat) (fun v : Nat => z.toNat - v) (0) (h0 := ?_) (henv := ?_) (hobj := ?_) (h := ?_)
  · omega
  · simp [go_sem, AVm, CVm, lookS, trN, osW_nil]
  · simp [go_sem, OBm, CVm, lookS, All2, trN, osW_nil]
  intro v hv
  have hnl := trN_len r z es v
  rcases Nat.lt_or_ge v z.toNat with hlt | hge
  · have hpw := twd_pw (v := v) hf (by omega)
    have hs : trN r z es (v + 1) = trN r z es v ++ [twd r z es v] := rfl
    repeat' (first|(refine ya ?_;first|(refine yb ?_;first|refine yc ?_)|refine ye ?_)|(refine yg ?_;intro hgs;first|(replace hgs:=zgy hgs;first|(refine yb ?_;first|refine yc ?_)|refine yy hgs ?_;clear hgs)|(refine yn (zgn hgs) ?_;clear hgs)|((fail_if_success have:=zgy hgs);refine z_spl hgs (h1:=?_) (h2:=?_)<;>clear hgs<;>intro hg hr<;>try first|contradiction|exfalso;omega))|refine yz ?_|refine zst ?_|refine k_blk_other rfl ?_|(refine zk ?_ ?_<;>intro hc hr<;>try first|contradiction|exfalso;omega))
    (refine z_lop (v + 1) (hj := ?_) (hmu := ?_) (henv := ?_) (hobj := ?_); (· omega); (· first | omega | (simp only; omega)); (· first | (simp [go_sem, AVm, CVm, lookS, hs, hpw, *]; done) | (simp [go_sem, AVm, CVm, lookS, hs, hpw, *] <;> (repeat' split) <;> first | omega | (simp_all; done) | (exfalso; omega) | (simp_all; omega))); (· first | (simp [go_sem, OBm, CVm, All2, lookS, hs, hpw, *]; done) | (simp [go_sem, OBm, CVm, All2, lookS, hs, hpw, *] <;> (repeat' split) <;> first | omega | (simp_all; done) | (exfalso; omega) | (simp_all; omega))))
  · have hvv : v = z.toNat := by omega
    subst hvv
    repeat' (first|(refine ya ?_;first|(refine yb ?_;first|refine yc ?_)|refine ye ?_)|(refine yg ?_;intro hgs;first|(replace hgs:=zgy hgs;first|(refine yb ?_;first|refine yc ?_)|refine yy hgs ?_;clear hgs)|(refine yn (zgn hgs) ?_;clear hgs)|((fail_if_success have:=zgy hgs);refine z_spl hgs (h1:=?_) (h2:=?_)<;>clear hgs<;>intro hg hr<;>try first|contradiction|exfalso;omega))|refine yz ?_|refine zst ?_|refine k_blk_other rfl ?_|(refine zk ?_ ?_<;>intro hc hr<;>try first|contradiction|exfalso;omega))
    refine z_retT 48 (hv := ?_) (ho := ?_) <;> rfl
instance (priority := 2000) : Con Tryz.prog 19 (orS trans_no2_S trans_yes2_S) := con2 trans_no2 trans_yes2 Tryz.func19
def K_table_no : Nat → List Nat := fun i => ([[1], [1, 3], [1, 3, 11], [2], [1, 3, 4], [1, 3, 4, 16], [1, 3, 4], [1, 3, 4, 5], [1, 3, 4, 5, 22, 23, 24], [1, 3, 4, 5, 22, 23, 24, 25], [1, 3, 4, 5, 7, 22, 23, 24], [1, 3, 4, 5, 22, 23, 24], [1, 3, 4, 5, 22, 23, 24], [1, 3, 4], [2]] : List (List Nat)).getD i []
attribute [go_sem] K_table_no
def table_no_S : Eng.Spec := fun args av objs => ∃ (r z : Int) (es : List Ed), (es.length ≤ 1048576 ∧ isFi r z es = false) ∧ args = [grA r z es] ∧ av = aR 0 ∧ objs = [.rows 26 3 (.own true) (osW [])]
theorem table_no : Sat Tryz.prog 25 table_no_S := by
  refine sat_of tok okr mixed K_table_no Tryz.func25 rfl (rs := [.tmp 2]) rfl Tryz.ntmps25 ?_
  rintro args av objs ⟨r, z, es, hpre, rfl, rfl, rfl⟩
  refine ⟨by show 1 ≤ 41; decide, ?_⟩
  obtain ⟨he, hok⟩ := hpre
  repeat' (first|(refine ya ?_;first|(refine yb ?_;first|refine yc ?_)|refine ye ?_)|refine yz ?_|refine zst ?_|refine k_blk_other rfl ?_|(refine zk ?_ ?_<;>intro hc hr<;>try first|contradiction|exfalso;omega))
  refine z_retT 64 (hv := ?_) (ho := ?_) <;> rfl
instance : Con Tryz.prog 25 table_no_S := con table_no Tryz.func25
def K_table_yes : Nat → List Nat := fun i => ([[1], [1, 3], [1, 3, 11], [2], [1, 3, 4], [1, 3, 4, 16], [1, 3, 4], [1, 3, 4, 5], [1, 3, 4, 5, 22, 23, 24], [1, 3, 4, 5, 22, 23, 24, 25], [1, 3, 4, 5, 7, 22, 23, 24], [1, 3, 4, 5, 22, 23, 24], [1, 3, 4, 5, 22, 23, 24], [1, 3, 4], [2]] : List (List Nat)).getD i []
attribute [go_sem] K_table_yes
def table_yes_S : Eng.Spec := fun args av objs => ∃ (r z : Int) (es : List Ed), (es.length ≤ 1048576 ∧ isFi r z es = true) ∧ args = [grA r z es] ∧ av = aR 0 ∧ objs = [.rows 26 3 (.own false) (osW (ctN es (lts r.toNat) (2 * r.toNat) z.toNat))]
theorem table_yes : Sat Tryz.prog 25 table_yes_S := by
  refine sat_of tok okr mixed K_table_yes Tryz.func25 rfl (rs := [.tmp 2]) rfl Tryz.ntmps25 ?_
  rintro args av objs ⟨r, z, es, hpre, rfl, rfl, rfl⟩
  refine ⟨by show 1 ≤ 41; decide, ?_⟩
  obtain ⟨hes, hok⟩ := hpre
  have hf := isC_f (isFi_d hok)
  have hG := isF_g hf
  have hz := isG_z hG
  have hll := lts_len r.toNat
  repeat' (first|(refine ya ?_;first|(refine yb ?_;first|refine yc ?_)|refine ye ?_)|refine yz ?_|refine zst ?_|refine k_blk_other rfl ?_|(refine zk ?_ ?_<;>intro hc hr<;>try first|contradiction|exfalso;omega))
  refine z_loop (fun v : Nat => [(4, aI v)]) (fun v : Nat => [.obj 3 (.rows 26 3 (.loc false) (osW (ctN es (lts r.toNat) (2 * r.toNat) v)))]) (fun v : Nat => v ≤ z.toNat) (fun v : Nat => z.toNat - v) (0) (h0 := ?_) (henv := ?_) (hobj := ?_) (h := ?_)
  · omega
  · simp [go_sem, AVm, CVm, lookS, ctN, osW_nil]
  · simp [go_sem, OBm, CVm, lookS, All2, ctN, osW_nil]
  intro v hv
  have hnl := ctN_len es (lts r.toNat) (2 * r.toNat) v
  rcases Nat.lt_or_ge v z.toNat with hlt | hge
  · have hs : ctN es (lts r.toNat) (2 * r.toNat) (v + 1) = ctN es (lts r.toNat) (2 * r.toNat) v ++ [ctR es (lts r.toNat) v (2 * r.toNat)] := rfl
    repeat' (first|(refine ya ?_;first|(refine yb ?_;first|refine yc ?_)|refine ye ?_)|refine yz ?_|refine zst ?_|refine k_blk_other rfl ?_|(refine zk ?_ ?_<;>intro hc hr<;>try first|contradiction|exfalso;omega))
    refine z_loop (fun k : Nat => [(24, aI k)]) (fun k : Nat => [.obj 5 (oL 3 (ctR es (lts r.toNat) v k))]) (fun k : Nat => k ≤ 2 * r.toNat) (fun k : Nat => 2 * r.toNat - k) (0) (h0 := ?_) (henv := ?_) (hobj := ?_) (h := ?_)
    · omega
    · simp [go_sem, AVm, CVm, lookS, ctR]
    · simp [go_sem, OBm, CVm, lookS, All2, ctR]
    intro k hk
    have hrl := ctR_len es (lts r.toNat) v k
    rcases Nat.lt_or_ge k (2 * r.toNat) with hlt2 | hge2
    · have hlx := lts_ix hlt2
      have hs2 : ctR es (lts r.toNat) v (k + 1) = ctR es (lts r.toNat) v k ++ [nx es v (ix (lts r.toNat) k)] := rfl
      repeat' (first|(refine ya ?_;first|(refine yb ?_;first|refine yc ?_)|refine ye ?_)|refine yz ?_|refine zst ?_|refine k_blk_other rfl ?_|(refine zk ?_ ?_<;>intro hc hr<;>try first|contradiction|exfalso;omega))
      (refine z_lop (k + 1) (hj := ?_) (hmu := ?_) (henv := ?_) (hobj := ?_); (· omega); (· first | omega | (simp only; omega)); (· first | (simp [go_sem, AVm, CVm, lookS, hs2, *]; done) | (simp [go_sem, AVm, CVm, lookS, hs2, *] <;> (repeat' split) <;> first | omega | (simp_all; done) | (exfalso; omega) | (simp_all; omega))); (· first | (simp [go_sem, OBm, CVm, All2, lookS, hs2, *]; done) | (simp [go_sem, OBm, CVm, All2, lookS, hs2, *] <;> (repeat' split) <;> first | omega | (simp_all; done) | (exfalso; omega) | (simp_all; omega))))
    · have hkk : k = 2 * r.toNat := by omega
      subst hkk
      repeat' (first|(refine ya ?_;first|(refine yb ?_;first|refine yc ?_)|refine ye ?_)|refine yz ?_|refine zst ?_|refine k_blk_other rfl ?_|(refine zk ?_ ?_<;>intro hc hr<;>try first|contradiction|exfalso;omega))
      (refine z_lop (v + 1) (hj := ?_) (hmu := ?_) (henv := ?_) (hobj := ?_); (· omega); (· first | omega | (simp only; omega)); (· first | (simp [go_sem, AVm, CVm, lookS, hs, *]; done) | (simp [go_sem, AVm, CVm, lookS, hs, *] <;> (repeat' split) <;> first | omega | (simp_all; done) | (exfalso; omega) | (simp_all; omega))); (· first | (simp [go_sem, OBm, CVm, All2, lookS, hs, *]; done) | (simp [go_sem, OBm, CVm, All2, lookS, hs, *] <;> (repeat' split) <;> first | omega | (simp_all; done) | (exfalso; omega) | (simp_all; omega))))
  · have hvv : v = z.toNat := by omega
    subst hvv
    repeat' (first|(refine ya ?_;first|(refine yb ?_;first|refine yc ?_)|refine ye ?_)|refine yz ?_|refine zst ?_|refine k_blk_other rfl ?_|(refine zk ?_ ?_<;>intro hc hr<;>try first|contradiction|exfalso;omega))
    refine z_retT 64 (hv := ?_) (ho := ?_) <;> rfl
instance (priority := 2000) : Con Tryz.prog 25 (orS table_no_S table_yes_S) := con2 table_no table_yes Tryz.func25
def K_table_no2 : Nat → List Nat := fun i => ([[1], [1, 3], [1, 3, 11], [2], [1, 3, 4], [1, 3, 4, 5], [1, 3, 4, 5, 19], [1, 3, 4, 5], [1, 3, 4, 5, 6], [1, 3, 4, 5, 6, 7], [1, 3, 4, 5, 6, 7, 26], [1, 3, 4, 5, 6, 7], [1, 3, 4, 5, 6, 7], [1, 3, 4, 5], [2]] : List (List Nat)).getD i []
attribute [go_sem] K_table_no2
def table_no2_S : Eng.Spec := fun args av objs => ∃ (r z : Int) (es : List Ed), (es.length ≤ 1048576 ∧ isFi r z es = false) ∧ args = [grA r z es] ∧ av = aR 0 ∧ objs = [.rows 26 3 (.own true) (osW [])]
theorem table_no2 : Sat Tryz.prog 24 table_no2_S := by
  refine sat_of tok okr mixed K_table_no2 Tryz.func24 rfl (rs := [.tmp 2]) rfl Tryz.ntmps24 ?_
  rintro args av objs ⟨r, z, es, hpre, rfl, rfl, rfl⟩
  refine ⟨by show 1 ≤ 44; decide, ?_⟩
  obtain ⟨he, hok⟩ := hpre
  repeat' (first|(refine ya ?_;first|(refine yb ?_;first|refine yc ?_)|refine ye ?_)|refine yz ?_|(refine yA ?_;first|(refine yB ?_;first|refine yC ?_)|refine yE ?_)|refine yZ ?_|refine zst ?_|refine k_blk_other rfl ?_|(refine zk ?_ ?_<;>intro hc hr<;>try first|contradiction|exfalso;omega))
  refine z_retT 64 (hv := ?_) (ho := ?_) <;> rfl
instance : Con Tryz.prog 24 table_no2_S := con table_no2 Tryz.func24
def K_table_yes2 : Nat → List Nat := fun i => ([[1], [1, 3], [1, 3, 11], [2], [1, 3, 4], [1, 3, 4, 5], [1, 3, 4, 5, 19], [1, 3, 4, 5], [1, 3, 4, 5, 6], [1, 3, 4, 5, 6, 7], [1, 3, 4, 5, 6, 7, 26], [1, 3, 4, 5, 6, 7], [1, 3, 4, 5, 6, 7], [1, 3, 4, 5], [2]] : List (List Nat)).getD i []
attribute [go_sem] K_table_yes2
def table_yes2_S : Eng.Spec := fun args av objs => ∃ (r z : Int) (es : List Ed), (es.length ≤ 1048576 ∧ isFi r z es = true) ∧ args = [grA r z es] ∧ av = aR 0 ∧ objs = [.rows 26 3 (.own false) (osW (ctN es (lts r.toNat) (2 * r.toNat) z.toNat))]
theorem table_yes2 : Sat Tryz.prog 24 table_yes2_S := by
  refine sat_of tok okr mixed K_table_yes2 Tryz.func24 rfl (rs := [.tmp 2]) rfl Tryz.ntmps24 ?_
  rintro args av objs ⟨r, z, es, hpre, rfl, rfl, rfl⟩
  refine ⟨by show 1 ≤ 44; decide, ?_⟩
  obtain ⟨hes, hok⟩ := hpre
  have hf := isC_f (isFi_d hok)
  have hG := isF_g hf
  have hz := isG_z hG
  have hll := lts_len r.toNat
  repeat' (first|(refine ya ?_;first|(refine yb ?_;first|refine yc ?_)|refine ye ?_)|refine yz ?_|(refine yA ?_;first|(refine yB ?_;first|refine yC ?_)|refine yE ?_)|refine yZ ?_|refine zst ?_|refine k_blk_other rfl ?_|(refine zk ?_ ?_<;>intro hc hr<;>try first|contradiction|exfalso;omega))
  refine z_loop (fun v : Nat => [(5, aI v)]) (fun v : Nat => [.obj 3 (.rows 26 3 (.loc false) (osW (ctN es (lts r.toNat) (2 * r.toNat) v)))]) (fun v : Nat => v ≤ z.toNat) (fun v : Nat => z.toNat - v) (0) (h0 := ?_) (henv := ?_) (hobj := ?_) (h := ?_)
  · omega
  · simp [go_sem, AVm, CVm, lookS, ctN, osW_nil]
  · simp [go_sem, OBm, CVm, lookS, All2, ctN, osW_nil]
  intro v hv
  have hnl := ctN_len es (lts r.toNat) (2 * r.toNat) v
  rcases Nat.lt_or_ge v z.toNat with hlt | hge
  · have hs : ctN es (lts r.toNat) (2 * r.toNat) (v + 1) = ctN es (lts r.toNat) (2 * r.toNat) v ++ [ctR es (lts r.toNat) v (2 * r.toNat)] := rfl
    repeat' (first|(refine ya ?_;first|(refine yb ?_;first|refine yc ?_)|refine ye ?_)|refine yz ?_|(refine yA ?_;first|(refine yB ?_;first|refine yC ?_)|refine yE ?_)|refine yZ ?_|refine zst ?_|refine k_blk_other rfl ?_|(refine zk ?_ ?_<;>intro hc hr<;>try first|contradiction|exfalso;omega))
    refine z_loop (fun k : Nat => [(7, aI k)]) (fun k : Nat => [.obj 6 (oL 3 (ctR es (lts r.toNat) v k))]) (fun k : Nat => k ≤ 2 * r.toNat) (fun k : Nat => 2 * r.toNat - k) (0) (h0 := ?_) (henv := ?_) (hobj := ?_) (h := ?_)
    · omega
    · simp [go_sem, AVm, CVm, lookS, ctR]
    · simp [go_sem, OBm, CVm, lookS, All2, ctR]
    intro k hk
    have hrl := ctR_len es (lts r.toNat) v k
    rcases Nat.lt_or_ge k (2 * r.toNat) with hlt2 | hge2
    · have hlx := lts_ix hlt2
      have hs2 : ctR es (lts r.toNat) v (k + 1) = ctR es (lts r.toNat) v k ++ [nx es v (ix (lts r.toNat) k)] := rfl
      repeat' (first|(refine ya ?_;first|(refine yb ?_;first|refine yc ?_)|refine ye ?_)|refine yz ?_|(refine yA ?_;first|(refine yB ?_;first|refine yC ?_)|refine yE ?_)|refine yZ ?_|refine zst ?_|refine k_blk_other rfl ?_|(refine zk ?_ ?_<;>intro hc hr<;>try first|contradiction|exfalso;omega))
      (refine z_lop (k + 1) (hj := ?_) (hmu := ?_) (henv := ?_) (hobj := ?_); (· omega); (· first | omega | (simp only; omega)); (· first | (simp [go_sem, AVm, CVm, lookS, hs2, *]; done) | (simp [go_sem, AVm, CVm, lookS, hs2, *] <;> (repeat' split) <;> first | omega | (simp_all; done) | (exfalso; omega) | (simp_all; omega))); (· first | (simp [go_sem, OBm, CVm, All2, lookS, hs2, *]; done) | (simp [go_sem, OBm, CVm, All2, lookS, hs2, *] <;> (repeat' split) <;> first | omega | (simp_all; done) | (exfalso; omega) | (simp_all; omega))))
    · have hkk : k = 2 * r.toNat := by omega
      subst hkk
      repeat' (first|(refine ya ?_;first|(refine yb ?_;first|refine yc ?_)|refine ye ?_)|refine yz ?_|(refine yA ?_;first|(refine yB ?_;first|refine yC ?_)|refine yE ?_)|refine yZ ?_|refine zst ?_|refine k_blk_other rfl ?_|(refine zk ?_ ?_<;>intro hc hr<;>try first|contradiction|exfalso;omega))
      (refine z_lop (v + 1) (hj := ?_) (hmu := ?_) (henv := ?_) (hobj := ?_); (· omega); (· first | omega | (simp only; omega)); (· first | (simp [go_sem, AVm, CVm, lookS, hs, *]; done) | (simp [go_sem, AVm, CVm, lookS, hs, *] <;> (repeat' split) <;> first | omega | (simp_all; done) | (exfalso; omega) | (simp_all; omega))); (· first | (simp [go_sem, OBm, CVm, All2, lookS, hs, *]; done) | (simp [go_sem, OBm, CVm, All2, lookS, hs, *] <;> (repeat' split) <;> first | omega | (simp_all; done) | (exfalso; omega) | (simp_all; omega))))
  · have hvv : v = z.toNat := by omega
    subst hvv
    repeat' (first|(refine ya ?_;first|(refine yb ?_;first|refine yc ?_)|refine ye ?_)|refine yz ?_|(refine yA ?_;first|(refine yB ?_;first|refine yC ?_)|refine yE ?_)|refine yZ ?_|refine zst ?_|refine k_blk_other rfl ?_|(refine zk ?_ ?_<;>intro hc hr<;>try first|contradiction|exfalso;omega))
    refine z_retT 64 (hv := ?_) (ho := ?_) <;> rfl
instance (priority := 2000) : Con Tryz.prog 24 (orS table_no2_S table_yes2_S) := con2 table_no2 table_yes2 Tryz.func24
def K_basis_no2 : Nat → List Nat := fun i => ([[1], [1, 3], [1, 3, 10], [2], [1, 3, 4], [1, 3, 4, 5], [1, 3, 4, 5, 17], [1, 3, 4, 5], [1, 3, 4, 5, 6], [1, 3, 4, 5], [2]] : List (List Nat)).getD i []
attribute [go_sem] K_basis_no2
def basis_no2_S : Eng.Spec := fun args av objs => ∃ (r z : Int) (es : List Ed), (es.length ≤ 1048576 ∧ isC r z es = false) ∧ args = [grA r z es] ∧ av = aR 0 ∧ objs = [.rows 26 3 (.own true) (osW [])]
theorem basis_no2 : Sat Tryz.prog 26 basis_no2_S := by
  refine sat_of tok okr mixed K_basis_no2 Tryz.func26 rfl (rs := [.tmp 2]) rfl Tryz.ntmps26 ?_
  rintro args av objs ⟨r, z, es, hpre, rfl, rfl, rfl⟩
  refine ⟨by show 1 ≤ 31; decide, ?_⟩
  obtain ⟨he, hok⟩ := hpre
  repeat' (first|(refine ya ?_;first|(refine yb ?_;first|refine yc ?_)|refine ye ?_)|refine yz ?_|(refine yA ?_;first|(refine yB ?_;first|refine yC ?_)|refine yE ?_)|refine yZ ?_|refine zst ?_|refine k_blk_other rfl ?_|(refine zk ?_ ?_<;>intro hc hr<;>try first|contradiction|exfalso;omega))
  refine z_retT 56 (hv := ?_) (ho := ?_) <;> rfl
instance : Con Tryz.prog 26 basis_no2_S := con basis_no2 Tryz.func26
def K_basis_yes2 : Nat → List Nat := fun i => ([[1], [1, 3], [1, 3, 10], [2], [1, 3, 4], [1, 3, 4, 5], [1, 3, 4, 5, 17], [1, 3, 4, 5], [1, 3, 4, 5, 6], [1, 3, 4, 5], [2]] : List (List Nat)).getD i []
attribute [go_sem] K_basis_yes2
def basis_yes2_S : Eng.Spec := fun args av objs => ∃ (r z : Int) (es : List Ed), (es.length ≤ 1048576 ∧ isC r z es = true) ∧ args = [grA r z es] ∧ av = aR 0 ∧ objs = [.rows 26 3 (.own false) (osW (bsW r z es))]
theorem basis_yes2 : Sat Tryz.prog 26 basis_yes2_S := by
  refine sat_of tok okr mixed K_basis_yes2 Tryz.func26 rfl (rs := [.tmp 2]) rfl Tryz.ntmps26 ?_
  rintro args av objs ⟨r, z, es, hpre, rfl, rfl, rfl⟩
  refine ⟨by show 1 ≤ 31; decide, ?_⟩
  obtain ⟨hes, hok⟩ := hpre
  have hf := isC_f hok
  have hG := isF_g hf
  have hz := isG_z hG
  have hxl := extL_len (r := r) (z := z) (es := es)
  have hxm := fun i (h : i < (extL r z es).length) => (extL_mem hf).1 (ed_mem h)
  unfold bsW
  repeat' (first|(refine ya ?_;first|(refine yb ?_;first|refine yc ?_)|refine ye ?_)|refine yz ?_|(refine yA ?_;first|(refine yB ?_;first|refine yC ?_)|refine yE ?_)|refine yZ ?_|refine zst ?_|refine k_blk_other rfl ?_|(refine zk ?_ ?_<;>intro hc hr<;>try first|contradiction|exfalso;omega))
  refine z_loop (fun i : Nat => [(5, aI i)]) (fun i : Nat => [.obj 3 (.rows 26 3 (.loc false) (osW (bsN r z es (extL r z es) i)))]) (fun i : Nat => i ≤ (extL r z es).length) (fun i : Nat => (extL r z es).length - i) (0) (h0 := ?_) (henv := ?_) (hobj := ?_) (h := ?_)
  · omega
  · simp [go_sem, AVm, CVm, lookS, bsN, osW_nil]
  · simp [go_sem, OBm, CVm, lookS, All2, bsN, osW_nil]
  intro i hi
  have hbl := bsN_len r z es (extL r z es) i
  rcases Nat.lt_or_ge i (extL r z es).length with hlt | hge
  · have hm := hxm i hlt
    have h3 := (isG_iff.1 hG).2.2 _ hm.1
    unfold inR at h3
    have hs : bsN r z es (extL r z es) (i + 1) = bsN r z es (extL r z es) i ++ [lpO r z es (ed (extL r z es) i)] := by
      rw [lpO_yes ⟨hf, hm.1⟩, twd_pw hf ⟨by omega, by omega⟩, twd_pw hf ⟨by omega, by omega⟩]; rfl
    clear hxm
    repeat' (first|(refine ya ?_;first|(refine yb ?_;first|refine yc ?_)|refine ye ?_)|refine yz ?_|(refine yA ?_;first|(refine yB ?_;first|refine yC ?_)|refine yE ?_)|refine yZ ?_|refine zst ?_|refine k_blk_other rfl ?_|(refine zk ?_ ?_<;>intro hc hr<;>try first|contradiction|exfalso;omega))
    (refine z_lop (i + 1) (hj := ?_) (hmu := ?_) (henv := ?_) (hobj := ?_); (· omega); (· first | omega | (simp only; omega)); (· first | (simp [go_sem, AVm, CVm, lookS, hs, *]; done) | (simp [go_sem, AVm, CVm, lookS, hs, *] <;> (repeat' split) <;> first | omega | (simp_all; done) | (exfalso; omega) | (simp_all; omega))); (· first | (simp [go_sem, OBm, CVm, All2, lookS, hs, *]; done) | (simp [go_sem, OBm, CVm, All2, lookS, hs, *] <;> (repeat' split) <;> first | omega | (simp_all; done) | (exfalso; omega) | (simp_all; omega))))
  · have hii : i = (extL r z es).length := by omega
    subst hii
    repeat' (first|(refine ya ?_;first|(refine yb ?_;first|refine yc ?_)|refine ye ?_)|refine yz ?_|(refine yA ?_;first|(refine yB ?_;first|refine yC ?_)|refine yE ?_)|refine yZ ?_|refine zst ?_|refine k_blk_other rfl ?_|(refine zk ?_ ?_<;>intro hc hr<;>try first|contradiction|exfalso;omega))
    refine z_retT 56 (hv := ?_) (ho := ?_) <;> rfl
instance (priority := 2000) : Con Tryz.prog 26 (orS basis_no2_S basis_yes2_S) := con2 basis_no2 basis_yes2 Tryz.func26
end Go.Proofs.Tryz
