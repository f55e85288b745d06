import Derived.Test.YtfaonopjkgdedaaR4
import Derived.Test.YtfaonopjkgdedaaX7
import Derived.Test.YtfaonopjkgdedaaX8
set_option linter.unusedVariables false
set_option linter.unusedSimpArgs false
set_option linter.unnecessarySimpa false
/- The program's list of all reduced words; its list of loops. -/
namespace Go.Proofs.Try
open Go Go.Eng
set_option linter.unnecessarySimpa false
set_option linter.unusedSimpArgs false
set_option maxHeartbeats 8000000
set_option maxRecDepth 20000
theorem wuOn_iff {w : List Int} {x : Int} : wuOn w x = true ↔ (w.length = 0 ∨ x ≠ -ix w (w.length - 1)) := decide_eq_true_iff
theorem wuT_at {A L N : List (List Int)} {i : Nat} (h : i < L.length) : (osW (A ++ (L ++ N)))[A.length + i]? = some (some (ints (wx L i))) := by
  rw [osW_at (by rw [List.length_append, List.length_append]; omega)]
  congr 3
  simp only [wx, List.getD_eq_getElem?_getD]
  rw [List.getElem?_append_right (by omega), List.getElem?_append_left (by omega)]
  congr 2
  omega
attribute [local irreducible] nx wkV isF lts
def K_words_sat : Nat → List Nat := fun i => ([[0, 1], [0, 1, 5], [0, 1, 5, 6], [0, 1, 5, 6, 7], [0, 1, 5, 6, 7, 17], [0, 1, 5, 6, 7], [0, 1, 5, 6, 7, 8], [0, 1, 5, 7, 8, 25, 26, 27], [0, 1, 5, 7, 8, 25, 26, 27, 28], [0, 1, 5, 7, 8, 10, 25, 26, 27], [0, 1, 5, 7, 8, 10, 25, 26, 27, 32, 33, 34], [0, 1, 5, 7, 8, 10, 25, 26, 27, 32, 33, 34, 35], [0, 1, 5, 7, 8, 10, 12, 25, 26, 27, 32, 33, 34], [0, 1, 5, 7, 8, 10, 12, 25, 26, 27, 32, 33, 34, 51], [0, 1, 5, 7, 8, 10, 25, 26, 27, 32, 33, 34], [0, 1, 5, 7, 8, 10, 25, 26, 27, 32, 33, 34], [0, 1, 5, 7, 8, 25, 26, 27], [0, 1, 5, 6, 7], [4]] : List (List Nat)).getD i []
attribute [go_sem] K_words_sat
def words_sat_S : Eng.Spec := fun args av objs => ∃ (r m : Int), ((1 ≤ r ∧ r ≤ 3) ∧ 0 ≤ m ∧ m ≤ 4) ∧ args = [aI r, aI m] ∧ av = aR 0 ∧ objs = [.rows 27 3 (.own true) (osW (wuT (lts r.toNat) (m.toNat + 1)))]
theorem words_sat : Sat Try.prog 48 words_sat_S := by
  refine sat_of tok okr mixed K_words_sat Try.func48 rfl (rs := [.tmp 4]) rfl Try.ntmps48 ?_
  rintro args av objs ⟨r, m, hpre, rfl, rfl, rfl⟩
  refine ⟨by show 2 ≤ 64; decide, ?_⟩
  obtain ⟨hr, hm⟩ := hpre
  have hll := lts_len r.toNat
  have hl6 := lts_len2 hr
  obtain ⟨M, hM⟩ : ∃ M : Nat, (M : Int) = m := ⟨m.toNat, by omega⟩
  have hMn : m.toNat = M := by omega
  subst hM
  rw [hMn]
  clear hMn
  repeat' (first|(refine ya ?_;first|(refine yb ?_;first|refine yc ?_)|refine ye ?_)|(refine yg ?_;intro hgs;first|(replace hgs:=zgy hgs;first|(refine yb ?_;first|refine yc ?_)|refine yy hgs ?_;clear hgs)|(refine yn (zgn hgs) ?_;clear hgs)|((fail_if_success have:=zgy hgs);refine z_spl hgs (h1:=?_) (h2:=?_)<;>clear hgs<;>intro hg hr<;>try first|contradiction|exfalso;omega))|refine yz ?_|refine zst ?_|refine k_blk_other rfl ?_|(refine zk ?_ ?_<;>intro hc hr<;>try first|contradiction|exfalso;omega))
  refine z_weak (cvs_weakT (id := 112) (i2 := 104) (e' := 3) (by first | rfl | (simp [go_sem]; done) | (simp [go_sem]; rfl)) (by first | rfl | (simp [go_sem]; done) | (simp [go_sem]; rfl)) (by decide)) ?_
  refine z_loop (fun n : Nat => [(7, aI n), (6, aI (wuT (lts r.toNat) n).length)]) (fun n : Nat => [.obj 5 (.rows 27 3 (.loc true) (osW (wuT (lts r.toNat) (n + 1))))]) (fun n : Nat => n ≤ M) (fun n : Nat => M - n) (0) (h0 := ?_) (henv := ?_) (hobj := ?_) (h := ?_)
  · omega
  · simp [go_sem, AVm, CVm, lookS, wuT, wuL, osW_nil, osW_one]
  · simp [go_sem, OBm, CVm, lookS, All2, wuT, wuL, osW_nil, osW_one]
  intro n hn
  have hT0 := (wuT_ok hr n).1
  have hT1 := (wuT_ok hr (n + 1)).1
  have hL0 := wuL_ok hr n
  have h6 : 6 ^ n ≤ 1296 ∧ 6 ^ (n + 1) ≤ 7776 := by
    have : n = 0 ∨ n = 1 ∨ n = 2 ∨ n = 3 ∨ n = 4 := by omega
    rcases this with h | h | h | h | h <;> rw [h] <;> decide
  rcases Nat.lt_or_ge n M with hlt | hge
  · obtain ⟨hLl, hLw⟩ := hL0
    have e1 : wuT (lts r.toNat) (n + 1) = wuT (lts r.toNat) n ++ wuL (lts r.toNat) n := rfl
    have e2 : wuT (lts r.toNat) (n + 1 + 1) = wuT (lts r.toNat) (n + 1) ++ wuN (lts r.toNat) (wuL (lts r.toNat) n) (wuL (lts r.toNat) n).length := rfl
    rw [e1] at hT1 e2 ⊢
    generalize hL : wuL (lts r.toNat) n = L at *
    generalize hA : wuT (lts r.toNat) n = A at *
    have hAL : A.length + L.length ≤ 7776 := by rw [List.length_append] at hT1; omega
    have hwin : ((A.length : Int) + (L.length : Int)).toNat - A.length = L.length := by omega
    repeat' (first|(refine ya ?_;first|(refine yb ?_;first|refine yc ?_)|refine ye ?_)|(refine yg ?_;intro hgs;first|(replace hgs:=zgy hgs;first|(refine yb ?_;first|refine yc ?_)|refine yy hgs ?_;clear hgs)|(refine yn (zgn hgs) ?_;clear hgs)|((fail_if_success have:=zgy hgs);refine z_spl hgs (h1:=?_) (h2:=?_)<;>clear hgs<;>intro hg hr<;>try first|contradiction|exfalso;omega))|refine yz ?_|refine zst ?_|refine k_blk_other rfl ?_|(refine zk ?_ ?_<;>intro hc hr<;>try first|contradiction|exfalso;omega))
    rw [hwin]
    refine z_snap 25 112 (e := 27) (e' := 3) (l := A.length) (n := L.length) (k1 := 1) (xss := osW (A ++ L)) (fun u => ?_) (hk := by first | rfl | simp [go_sem]) (ho := by first | rfl | simp [go_sem])
    refine z_loop (fun i : Nat => [(27, aI i)]) (fun i : Nat => [.obj 5 (.rowsS 27 3 u A.length L.length (osW (A ++ (L ++ wuN (lts r.toNat) L i))))]) (fun i : Nat => i ≤ L.length) (fun i : Nat => L.length - i) (0) (h0 := ?_) (henv := ?_) (hobj := ?_) (h := ?_)
    · omega
    · simp [go_sem, AVm, CVm, lookS, wuN, List.append_nil]
    · simp [go_sem, OBm, CVm, lookS, All2, wuN, List.append_nil]
    intro i hi
    have hNl := (wuN_ok (ls := lts r.toNat) (L := L) i hi).1
    have hNb : (wuN (lts r.toNat) L i).length ≤ 7776 := by
      have : i * (lts r.toNat).length ≤ 1296 * 6 := Nat.mul_le_mul (by omega) hl6
      omega
    rcases Nat.lt_or_ge i L.length with hlt2 | hge2
    · obtain ⟨w1, w2⟩ := hLw _ (wx_mem hlt2)
      have w4 : (wx L i).length ≤ 1099511627776 := by omega
      have w5 : (wx L i).length ≠ 0 → -3 ≤ ix (wx L i) ((wx L i).length - 1) ∧ ix (wx L i) ((wx L i).length - 1) ≤ 3 ∧ ix (wx L i) ((wx L i).length - 1) ≠ 0 := fun h => by
        have := lts_mem.1 (w2 _ (ix_mem (l := wx L i) (i := (wx L i).length - 1) (by omega))); omega
      have hN1 : wuN (lts r.toNat) L (i + 1) = wuN (lts r.toNat) L i ++ wuK (lts r.toNat) (wx L i) (lts r.toNat).length := rfl
      have hg := wuT_at (A := A) (N := wuN (lts r.toNat) L i) hlt2
      generalize hNN : wuN (lts r.toNat) L i = NN at *
      repeat' (first|(refine y_idxS tok 112 (m := (i : Int)) (n := L.length) (by omega) (by omega) ?_)|(refine y_loadS tok 112 i hlt2 hg ?_)|(refine ya ?_;first|(refine yb ?_;first|refine yc ?_)|refine ye ?_)|(refine yg ?_;intro hgs;first|(replace hgs:=zgy hgs;first|(refine yb ?_;first|refine yc ?_)|refine yy hgs ?_;clear hgs)|(refine yn (zgn hgs) ?_;clear hgs)|((fail_if_success have:=zgy hgs);refine z_spl hgs (h1:=?_) (h2:=?_)<;>clear hgs<;>intro hg hr<;>try first|contradiction|exfalso;omega))|refine yz ?_|refine zst ?_|refine k_blk_other rfl ?_|(refine zk ?_ ?_<;>intro hc hr<;>try first|contradiction|exfalso;omega))
      refine z_loop (fun k : Nat => [(34, aI k)]) (fun k : Nat => [.obj 5 (.rowsS 27 3 u A.length L.length (osW (A ++ (L ++ (NN ++ wuK (lts r.toNat) (wx L i) k)))))]) (fun k : Nat => k ≤ (lts r.toNat).length) (fun k : Nat => (lts r.toNat).length - k) (0) (h0 := ?_) (henv := ?_) (hobj := ?_) (h := ?_)
      · omega
      · simp [go_sem, AVm, CVm, lookS, wuK, List.append_nil]
      · simp [go_sem, OBm, CVm, lookS, All2, wuK, List.append_nil]
      intro k hk
      have hKl := (wuK_ok (ls := lts r.toNat) (w := wx L i) k hk).1
      rcases Nat.lt_or_ge k (lts r.toNat).length with hlt3 | hge3
      · have hx0 := lts_mem.1 (ix_mem hlt3)
        have hx1 : -3 ≤ ix (lts r.toNat) k ∧ ix (lts r.toNat) k ≤ 3 := by omega
        have hx2 : rg (ix (lts r.toNat) k) := by unfold rg; omega
        have ha : (ints (wx L i ++ [ix (lts r.toNat) k])).length ≠ 0 := by simp [ints]
        have hb : (osW (A ++ (L ++ (NN ++ wuK (lts r.toNat) (wx L i) k)))).length + 1 ≤ 1099511627776 := by
          rw [osW_len, List.length_append, List.length_append, List.length_append]; omega
        clear hx0
        by_cases hon : wuOn (wx L i) (ix (lts r.toNat) k) = true
        · have hK1 : wuK (lts r.toNat) (wx L i) (k + 1) = wuK (lts r.toNat) (wx L i) k ++ [wx L i ++ [ix (lts r.toNat) k]] := by rw [wuK, if_pos hon]
          have hon1 := wuOn_iff.1 hon
          clear hon
          by_cases h0 : (wx L i).length = 0
          · repeat' (first|(refine y_appS tok 112 464 456 ha hb ?_)|(refine ya ?_;first|(refine yb ?_;first|refine yc ?_)|refine ye ?_)|(refine yg ?_;intro hgs;first|(replace hgs:=zgy hgs;first|(refine yb ?_;first|refine yc ?_)|refine yy hgs ?_;clear hgs)|(refine yn (zgn hgs) ?_;clear hgs)|((fail_if_success have:=zgy hgs);refine z_spl hgs (h1:=?_) (h2:=?_)<;>clear hgs<;>intro hg hr<;>try first|contradiction|exfalso;omega))|refine yz ?_|refine zst ?_|refine k_blk_other rfl ?_|(refine zk ?_ ?_<;>intro hc hr<;>try first|contradiction|exfalso;omega))
            all_goals (refine z_lop (k + 1) (hj := ?_) (hmu := ?_) (henv := ?_) (hobj := ?_); (· omega); (· first | omega | (simp only; omega)); (· first | (simp [go_sem, AVm, CVm, lookS, hK1, List.append_assoc, *]; done) | (simp [go_sem, AVm, CVm, lookS, hK1, List.append_assoc, *] <;> (repeat' split) <;> first | omega | (simp_all; done) | (exfalso; omega) | (simp_all; omega))); (· first | (simp [go_sem, OBm, CVm, All2, lookS, hK1, List.append_assoc, *]; done) | (simp [go_sem, OBm, CVm, All2, lookS, hK1, List.append_assoc, *] <;> (repeat' split) <;> first | omega | (simp_all; done) | (exfalso; omega) | (simp_all; omega))))
          · have hon3 := hon1.resolve_left h0
            have hw5 := w5 h0
            clear hon1
            have hon4 := hon3
            rw [w1] at hon4
            repeat' (first|(refine y_appS tok 112 464 456 ha hb ?_)|(refine ya ?_;first|(refine yb ?_;first|refine yc ?_)|refine ye ?_)|(refine yg ?_;intro hgs;first|(replace hgs:=zgy hgs;first|(refine yb ?_;first|refine yc ?_)|refine yy hgs ?_;clear hgs)|(refine yn (zgn hgs) ?_;clear hgs)|((fail_if_success have:=zgy hgs);refine z_spl hgs (h1:=?_) (h2:=?_)<;>clear hgs<;>intro hg hr<;>try first|contradiction|exfalso;omega))|refine yz ?_|refine zst ?_|refine k_blk_other rfl ?_|(refine zk ?_ ?_<;>intro hc hr<;>try first|contradiction|exfalso;omega))
            all_goals (refine z_lop (k + 1) (hj := ?_) (hmu := ?_) (henv := ?_) (hobj := ?_); (· omega); (· first | omega | (simp only; omega)); (· first | (simp [go_sem, AVm, CVm, lookS, hK1, List.append_assoc, *]; done) | (simp [go_sem, AVm, CVm, lookS, hK1, List.append_assoc, *] <;> (repeat' split) <;> first | omega | (simp_all; done) | (exfalso; omega) | (simp_all; omega))); (· first | (simp [go_sem, OBm, CVm, All2, lookS, hK1, List.append_assoc, *]; done) | (simp [go_sem, OBm, CVm, All2, lookS, hK1, List.append_assoc, *] <;> (repeat' split) <;> first | omega | (simp_all; done) | (exfalso; omega) | (simp_all; omega))))
        · have hK1 : wuK (lts r.toNat) (wx L i) (k + 1) = wuK (lts r.toNat) (wx L i) k := by rw [wuK, if_neg hon]
          have hof : ¬ ((wx L i).length = 0 ∨ ix (lts r.toNat) k ≠ -ix (wx L i) ((wx L i).length - 1)) := fun h => hon (wuOn_iff.2 h)
          have h0 : ¬ (wx L i).length = 0 := fun h => hof (.inl h)
          have hx3 : ix (lts r.toNat) k = -ix (wx L i) ((wx L i).length - 1) := Classical.byContradiction fun h => hof (.inr h)
          have hw5 := w5 h0
          clear hon hof
          have hx4 := hx3
          have hw6 := hw5
          rw [w1] at hx4 hw6
          repeat' (first|(refine ya ?_;first|(refine yb ?_;first|refine yc ?_)|refine ye ?_)|(refine yg ?_;intro hgs;first|(replace hgs:=zgy hgs;first|(refine yb ?_;first|refine yc ?_)|refine yy hgs ?_;clear hgs)|(refine yn (zgn hgs) ?_;clear hgs)|((fail_if_success have:=zgy hgs);refine z_spl hgs (h1:=?_) (h2:=?_)<;>clear hgs<;>intro hg hr<;>try first|contradiction|exfalso;omega))|refine yz ?_|refine zst ?_|refine k_blk_other rfl ?_|(refine zk ?_ ?_<;>intro hc hr<;>try first|contradiction|exfalso;omega))
          · exact absurd (show (wx L i).length = 0 by rw [hc]; rfl) h0
          · (refine z_lop (k + 1) (hj := ?_) (hmu := ?_) (henv := ?_) (hobj := ?_); (· omega); (· first | omega | (simp only; omega)); (· first | (simp [go_sem, AVm, CVm, lookS, hK1, List.append_assoc, *]; done) | (simp [go_sem, AVm, CVm, lookS, hK1, List.append_assoc, *] <;> (repeat' split) <;> first | omega | (simp_all; done) | (exfalso; omega) | (simp_all; omega))); (· first | (simp [go_sem, OBm, CVm, All2, lookS, hK1, List.append_assoc, *]; done) | (simp [go_sem, OBm, CVm, All2, lookS, hK1, List.append_assoc, *] <;> (repeat' split) <;> first | omega | (simp_all; done) | (exfalso; omega) | (simp_all; omega))))
      · have hkk : k = (lts r.toNat).length := by omega
        subst hkk
        repeat' (first|(refine ya ?_;first|(refine yb ?_;first|refine yc ?_)|refine ye ?_)|(refine yg ?_;intro hgs;first|(replace hgs:=zgy hgs;first|(refine yb ?_;first|refine yc ?_)|refine yy hgs ?_;clear hgs)|(refine yn (zgn hgs) ?_;clear hgs)|((fail_if_success have:=zgy hgs);refine z_spl hgs (h1:=?_) (h2:=?_)<;>clear hgs<;>intro hg hr<;>try first|contradiction|exfalso;omega))|refine yz ?_|refine zst ?_|refine k_blk_other rfl ?_|(refine zk ?_ ?_<;>intro hc hr<;>try first|contradiction|exfalso;omega))
        (refine z_lop (i + 1) (hj := ?_) (hmu := ?_) (henv := ?_) (hobj := ?_); (· omega); (· first | omega | (simp only; omega)); (· first | (simp [go_sem, AVm, CVm, lookS, hN1, List.append_assoc, *]; done) | (simp [go_sem, AVm, CVm, lookS, hN1, List.append_assoc, *] <;> (repeat' split) <;> first | omega | (simp_all; done) | (exfalso; omega) | (simp_all; omega))); (· first | (simp [go_sem, OBm, CVm, All2, lookS, hN1, List.append_assoc, *]; done) | (simp [go_sem, OBm, CVm, All2, lookS, hN1, List.append_assoc, *] <;> (repeat' split) <;> first | omega | (simp_all; done) | (exfalso; omega) | (simp_all; omega))))
    · have hii : i = L.length := by omega
      subst hii
      repeat' (first|(refine ya ?_;first|(refine yb ?_;first|refine yc ?_)|refine ye ?_)|(refine yg ?_;intro hgs;first|(replace hgs:=zgy hgs;first|(refine yb ?_;first|refine yc ?_)|refine yy hgs ?_;clear hgs)|(refine yn (zgn hgs) ?_;clear hgs)|((fail_if_success have:=zgy hgs);refine z_spl hgs (h1:=?_) (h2:=?_)<;>clear hgs<;>intro hg hr<;>try first|contradiction|exfalso;omega))|refine yz ?_|refine zst ?_|refine k_blk_other rfl ?_|(refine zk ?_ ?_<;>intro hc hr<;>try first|contradiction|exfalso;omega))
      (refine z_lop (n + 1) (hj := ?_) (hmu := ?_) (henv := ?_) (hobj := ?_); (· omega); (· first | omega | (simp only; omega)); (· first | (simp [go_sem, AVm, CVm, lookS, e1, e2, List.append_assoc, *]; done) | (simp [go_sem, AVm, CVm, lookS, e1, e2, List.append_assoc, *] <;> (repeat' split) <;> first | omega | (simp_all; done) | (exfalso; omega) | (simp_all; omega))); (· first | (simp [go_sem, OBm, CVm, All2, lookS, e1, e2, List.append_assoc, *]; done) | (simp [go_sem, OBm, CVm, All2, lookS, e1, e2, List.append_assoc, *] <;> (repeat' split) <;> first | omega | (simp_all; done) | (exfalso; omega) | (simp_all; omega))))
  · have hnM : n = M := by omega
    subst hnM
    repeat' (first|(refine ya ?_;first|(refine yb ?_;first|refine yc ?_)|refine ye ?_)|(refine yg ?_;intro hgs;first|(replace hgs:=zgy hgs;first|(refine yb ?_;first|refine yc ?_)|refine yy hgs ?_;clear hgs)|(refine yn (zgn hgs) ?_;clear hgs)|((fail_if_success have:=zgy hgs);refine z_spl hgs (h1:=?_) (h2:=?_)<;>clear hgs<;>intro hg hr<;>try first|contradiction|exfalso;omega))|refine yz ?_|refine zst ?_|refine k_blk_other rfl ?_|(refine zk ?_ ?_<;>intro hc hr<;>try first|contradiction|exfalso;omega))
    refine z_retT 112 (hv := ?_) (ho := ?_) <;> rfl
instance : Con Try.prog 48 words_sat_S := con words_sat Try.func48
end Go.Proofs.Try
