import Derived.Test.YtfaonopjkgdedaaZ
import Derived.Test.YtfaonopjkgdedaaX
import Derived.Test.YtfaonopjkgdedaaR3
import Derived.Test.YtfaonopjkgdedaaQ21
import Derived.Test.YtfaonopjkgdedaaR5
import Derived.Test.YtfaonopjkgdedaaX5
set_option linter.unusedVariables false
set_option linter.unusedSimpArgs false
set_option linter.unnecessarySimpa false
/- The specification's list of loops. -/
namespace Go.Proofs.Try
open Go Go.Eng
set_option linter.unnecessarySimpa false
set_option linter.unusedSimpArgs false
set_option maxHeartbeats 4000000
set_option maxRecDepth 20000
attribute [local irreducible] nx wkV isF lts
def K_loopW_no2 : Nat → List Nat := fun i => ([[1, 2, 3], [1, 2, 3, 7], [1, 2, 3, 7, 33], [6], [1, 2, 3, 7, 8], [1, 2, 3, 7, 8, 9], [1, 2, 3, 7, 8, 9, 10], [1, 2, 3, 7, 8, 9, 10, 42], [1, 2, 3, 7, 8, 9, 10], [1, 2, 3, 7, 8, 9, 10, 11], [1, 2, 3, 7, 8, 9, 10, 11, 12], [1, 2, 3, 7, 8, 9, 10, 11, 12, 49], [1, 2, 3, 7, 8, 9, 10, 11, 12], [1, 2, 3, 7, 8, 9, 10, 11, 12, 13], [1, 2, 3, 7, 8, 9, 10, 11, 12, 13, 14], [1, 2, 3, 7, 8, 9, 10, 11, 12, 13, 14, 65], [1, 2, 3, 7, 8, 9, 10, 11, 12, 13, 14], [1, 2, 3, 7, 8, 9, 10, 11, 12, 13, 14, 16], [1, 2, 3, 7, 8, 9, 10, 11, 12, 13, 14, 16, 75], [1, 2, 3, 7, 8, 9, 10, 11, 12, 13, 14, 16], [1, 2, 3, 7, 8, 9, 10, 11, 12, 13, 14, 16, 104], [1, 2, 3, 7, 8, 9, 10, 11, 12, 13, 14, 16], [1, 2, 3, 7, 8, 9, 10], [6]] : List (List Nat)).getD i []
attribute [go_sem] K_loopW_no2
def loopW_no2_S : Eng.Spec := fun args av objs => ∃ (r z : Int) (es : List Ed) (v m : Int), (es.length ≤ 1048576 ∧ lwB r z es v m = false) ∧ args = [grA r z es, aI v, aI m] ∧ av = aR 0 ∧ objs = [.rows 27 3 (.own true) (osW [])]
theorem loopW_no2 : Sat Try.prog 30 loopW_no2_S := by
  refine sat_of tok okr mixed K_loopW_no2 Try.func30 rfl (rs := [.tmp 6]) rfl Try.ntmps30 ?_
  rintro args av objs ⟨r, z, es, v, m, hpre, rfl, rfl, rfl⟩
  refine ⟨by show 3 ≤ 119; decide, ?_⟩
  obtain ⟨he, hB⟩ := hpre
  cases hf : isF r z es
  · repeat' (first|(refine ya ?_;first|(refine yb ?_;first|refine yc ?_)|refine ye ?_)|(refine yg ?_;intro hgs;first|(replace hgs:=zgy hgs;first|(refine yb ?_;first|refine yc ?_)|refine yy hgs ?_;clear hgs)|(refine yn (zgn hgs) ?_;clear hgs)|((fail_if_success have:=zgy hgs);refine z_spl hgs (h1:=?_) (h2:=?_)<;>clear hgs<;>intro hg hr<;>try first|contradiction|exfalso;omega))|refine yz ?_|(refine yA ?_;first|(refine yB ?_;first|refine yC ?_)|refine yE ?_)|(refine yG ?_;intro hgs;first|(replace hgs:=zgy hgs;first|(refine yB ?_;first|refine yC ?_)|refine yY hgs ?_;clear hgs)|(refine yN (zgn hgs) ?_;clear hgs)|((fail_if_success have:=zgy hgs);refine z_spll hgs (h1:=?_) (h2:=?_)<;>clear hgs<;>intro hg hr<;>try first|contradiction|exfalso;omega))|refine yZ ?_|refine zst ?_|refine k_blk_other rfl ?_|(refine zk ?_ ?_<;>intro hc hr<;>try first|contradiction|exfalso;omega))
    refine z_retT 136 (hv := ?_) (ho := ?_) <;> rfl
  · have hz := isG_z (isF_g hf)
    have hn : ¬ ((0 ≤ v ∧ v < z) ∧ 0 ≤ m ∧ m ≤ 4) := by simpa [lwB, hf] using hB
    clear hB
    by_cases hv : 0 ≤ v ∧ v < z
    · have hm : ¬ (0 ≤ m ∧ m ≤ 4) := fun h => hn ⟨hv, h⟩
      clear hn
      repeat' (first|(refine ya ?_;first|(refine yb ?_;first|refine yc ?_)|refine ye ?_)|(refine yg ?_;intro hgs;first|(replace hgs:=zgy hgs;first|(refine yb ?_;first|refine yc ?_)|refine yy hgs ?_;clear hgs)|(refine yn (zgn hgs) ?_;clear hgs)|((fail_if_success have:=zgy hgs);refine z_spl hgs (h1:=?_) (h2:=?_)<;>clear hgs<;>intro hg hr<;>try first|contradiction|exfalso;omega))|refine yz ?_|(refine yA ?_;first|(refine yB ?_;first|refine yC ?_)|refine yE ?_)|(refine yG ?_;intro hgs;first|(replace hgs:=zgy hgs;first|(refine yB ?_;first|refine yC ?_)|refine yY hgs ?_;clear hgs)|(refine yN (zgn hgs) ?_;clear hgs)|((fail_if_success have:=zgy hgs);refine z_spll hgs (h1:=?_) (h2:=?_)<;>clear hgs<;>intro hg hr<;>try first|contradiction|exfalso;omega))|refine yZ ?_|refine zst ?_|refine k_blk_other rfl ?_|(refine zk ?_ ?_<;>intro hc hr<;>try first|contradiction|exfalso;omega))
      refine z_retT 136 (hv := ?_) (ho := ?_) <;> rfl
    · clear hn
      repeat' (first|(refine ya ?_;first|(refine yb ?_;first|refine yc ?_)|refine ye ?_)|(refine yg ?_;intro hgs;first|(replace hgs:=zgy hgs;first|(refine yb ?_;first|refine yc ?_)|refine yy hgs ?_;clear hgs)|(refine yn (zgn hgs) ?_;clear hgs)|((fail_if_success have:=zgy hgs);refine z_spl hgs (h1:=?_) (h2:=?_)<;>clear hgs<;>intro hg hr<;>try first|contradiction|exfalso;omega))|refine yz ?_|(refine yA ?_;first|(refine yB ?_;first|refine yC ?_)|refine yE ?_)|(refine yG ?_;intro hgs;first|(replace hgs:=zgy hgs;first|(refine yB ?_;first|refine yC ?_)|refine yY hgs ?_;clear hgs)|(refine yN (zgn hgs) ?_;clear hgs)|((fail_if_success have:=zgy hgs);refine z_spll hgs (h1:=?_) (h2:=?_)<;>clear hgs<;>intro hg hr<;>try first|contradiction|exfalso;omega))|refine yZ ?_|refine zst ?_|refine k_blk_other rfl ?_|(refine zk ?_ ?_<;>intro hc hr<;>try first|contradiction|exfalso;omega))
      refine z_retT 136 (hv := ?_) (ho := ?_) <;> rfl
instance : Con Try.prog 30 loopW_no2_S := con loopW_no2 Try.func30
def K_loopW_yes2 : Nat → List Nat := fun i => ([[1, 2, 3], [1, 2, 3, 7], [1, 2, 3, 7, 33], [6], [1, 2, 3, 7, 8], [1, 2, 3, 7, 8, 9], [1, 2, 3, 7, 8, 9, 10], [1, 2, 3, 7, 8, 9, 10, 42], [1, 2, 3, 7, 8, 9, 10], [1, 2, 3, 7, 8, 9, 10, 11], [1, 2, 3, 7, 8, 9, 10, 11, 12], [1, 2, 3, 7, 8, 9, 10, 11, 12, 49], [1, 2, 3, 7, 8, 9, 10, 11, 12], [1, 2, 3, 7, 8, 9, 10, 11, 12, 13], [1, 2, 3, 7, 8, 9, 10, 11, 12, 13, 14], [1, 2, 3, 7, 8, 9, 10, 11, 12, 13, 14, 65], [1, 2, 3, 7, 8, 9, 10, 11, 12, 13, 14], [1, 2, 3, 7, 8, 9, 10, 11, 12, 13, 14, 16], [1, 2, 3, 7, 8, 9, 10, 11, 12, 13, 14, 16, 75], [1, 2, 3, 7, 8, 9, 10, 11, 12, 13, 14, 16], [1, 2, 3, 7, 8, 9, 10, 11, 12, 13, 14, 16, 104], [1, 2, 3, 7, 8, 9, 10, 11, 12, 13, 14, 16], [1, 2, 3, 7, 8, 9, 10], [6]] : List (List Nat)).getD i []
attribute [go_sem] K_loopW_yes2
def loopW_yes2_S : Eng.Spec := fun args av objs => ∃ (r z : Int) (es : List Ed) (v m : Int), (es.length ≤ 1048576 ∧ lwB r z es v m = true) ∧ args = [grA r z es, aI v, aI m] ∧ av = aR 0 ∧ objs = [.rows 27 3 (.own false) (osW (lwT r z es v (m.toNat + 1)))]
theorem loopW_yes2 : Sat Try.prog 30 loopW_yes2_S := by
  refine sat_of tok okr mixed K_loopW_yes2 Try.func30 rfl (rs := [.tmp 6]) rfl Try.ntmps30 ?_
  rintro args av objs ⟨r, z, es, v, m, hpre, rfl, rfl, rfl⟩
  refine ⟨by show 3 ≤ 119; decide, ?_⟩
  obtain ⟨he, hB⟩ := hpre
  simp only [lwB, Bool.and_eq_true, decide_eq_true_eq] at hB
  obtain ⟨hf, hv, hm⟩ := hB
  have hG := isF_g hf
  have hz := isG_z hG
  have hll := lts_len r.toNat
  obtain ⟨M, hM⟩ : ∃ M : Nat, (M : Int) = m := ⟨m.toNat, by omega⟩
  have hMn : m.toNat = M := by omega
  subst hM
  rw [hMn]
  clear hMn
  repeat' (first|(refine ya ?_;first|(refine yb ?_;first|refine yc ?_)|refine ye ?_)|(refine yg ?_;intro hgs;first|(replace hgs:=zgy hgs;first|(refine yb ?_;first|refine yc ?_)|refine yy hgs ?_;clear hgs)|(refine yn (zgn hgs) ?_;clear hgs)|((fail_if_success have:=zgy hgs);refine z_spl hgs (h1:=?_) (h2:=?_)<;>clear hgs<;>intro hg hr<;>try first|contradiction|exfalso;omega))|refine yz ?_|(refine yA ?_;first|(refine yB ?_;first|refine yC ?_)|refine yE ?_)|(refine yG ?_;intro hgs;first|(replace hgs:=zgy hgs;first|(refine yB ?_;first|refine yC ?_)|refine yY hgs ?_;clear hgs)|(refine yN (zgn hgs) ?_;clear hgs)|((fail_if_success have:=zgy hgs);refine z_spll hgs (h1:=?_) (h2:=?_)<;>clear hgs<;>intro hg hr<;>try first|contradiction|exfalso;omega))|refine yZ ?_|refine zst ?_|refine k_blk_other rfl ?_|(refine zk ?_ ?_<;>intro hc hr<;>try first|contradiction|exfalso;omega))
  refine z_weak (cvs_weak (id := 288) (i2 := 280) (e' := 3) (xs := []) (by first | rfl | (simp [go_sem]; done) | (simp [go_sem]; rfl)) (.inr ⟨by first | rfl | (simp [go_sem]; done) | (simp [go_sem]; rfl), rfl⟩) (by decide)) ?_
  refine z_loop (fun n : Nat => [(10, aI n)]) (fun n : Nat => [.obj 7 (.rows 27 3 (.loc false) (osW (lwT r z es v n))), .obj 8 (.rows 27 3 (.loc false) (osW (lwL r z es v n)))]) (fun n : Nat => n ≤ M + 1) (fun n : Nat => M + 1 - n) (0) (h0 := ?_) (henv := ?_) (hobj := ?_) (h := ?_)
  · omega
  · simp [go_sem, AVm, CVm, lookS, lwT, lwL, osW_nil, osW_one]
  · simp [go_sem, OBm, CVm, lookS, All2, lwT, lwL, osW_nil, osW_one]
  intro n hn
  have hTl := (lwT_ok (z := z) (es := es) (v := v) (show 1 ≤ r ∧ r ≤ 3 by omega) n).1
  have hTm := lwD_mono (show n ≤ 5 by omega)
  have hT5 : lwD 5 = 937 := by decide
  rcases Nat.lt_or_ge n (M + 1) with hlt | hge
  · obtain ⟨hLl, hLw⟩ := lwL_ok (z := z) (es := es) (v := v) (show 1 ≤ r ∧ r ≤ 3 by omega) n
    have hLc : lwC n ≤ 750 := by
      have : n = 0 ∨ n = 1 ∨ n = 2 ∨ n = 3 ∨ n = 4 := by omega
      rcases this with h | h | h | h | h <;> rw [h] <;> decide
    have hT1 : lwT r z es v (n + 1) = lwT r z es v n ++ lwO r z es v (lwL r z es v n) (lwL r z es v n).length := rfl
    have hL1 : lwL r z es v (n + 1) = lwN r z es v (lts r.toNat) (lwL r z es v n) (lwL r z es v n).length := rfl
    generalize hL : lwL r z es v n = L at *
    generalize hTT : lwT r z es v n = TT at *
    repeat' (first|(refine ya ?_;first|(refine yb ?_;first|refine yc ?_)|refine ye ?_)|(refine yg ?_;intro hgs;first|(replace hgs:=zgy hgs;first|(refine yb ?_;first|refine yc ?_)|refine yy hgs ?_;clear hgs)|(refine yn (zgn hgs) ?_;clear hgs)|((fail_if_success have:=zgy hgs);refine z_spl hgs (h1:=?_) (h2:=?_)<;>clear hgs<;>intro hg hr<;>try first|contradiction|exfalso;omega))|refine yz ?_|(refine yA ?_;first|(refine yB ?_;first|refine yC ?_)|refine yE ?_)|(refine yG ?_;intro hgs;first|(replace hgs:=zgy hgs;first|(refine yB ?_;first|refine yC ?_)|refine yY hgs ?_;clear hgs)|(refine yN (zgn hgs) ?_;clear hgs)|((fail_if_success have:=zgy hgs);refine z_spll hgs (h1:=?_) (h2:=?_)<;>clear hgs<;>intro hg hr<;>try first|contradiction|exfalso;omega))|refine yZ ?_|refine zst ?_|refine k_blk_other rfl ?_|(refine zk ?_ ?_<;>intro hc hr<;>try first|contradiction|exfalso;omega))
    refine z_loop (fun i : Nat => [(12, aI i)]) (fun i : Nat => [.obj 7 (.rows 27 3 (.loc false) (osW (TT ++ lwO r z es v L i))), .obj 11 (.rows 27 3 (.loc false) (osW (lwN r z es v (lts r.toNat) L i)))]) (fun i : Nat => i ≤ L.length) (fun i : Nat => L.length - i) (0) (h0 := ?_) (henv := ?_) (hobj := ?_) (h := ?_)
    · omega
    · simp [go_sem, AVm, CVm, lookS, lwO, lwN, osW_nil, List.append_nil]
    · simp [go_sem, OBm, CVm, lookS, All2, lwO, lwN, osW_nil, List.append_nil]
    intro i hi
    have hOl := (lwO_ok (r := r) (z := z) (es := es) (v := v) (L := L) i).1
    have hNl := (lwN_ok (r := r) (z := z) (es := es) (v := v) (ls := lts r.toNat) (L := L) i).1
    have hOa : (TT ++ lwO r z es v L i).length ≤ 2000 := by rw [List.length_append]; omega
    have hl6 := lts_len2 (show 1 ≤ r ∧ r ≤ 3 by omega)
    have hNb : (lwN r z es v (lts r.toNat) L i).length ≤ 4500 := by
      have : i * (lts r.toNat).length ≤ 750 * 6 := Nat.mul_le_mul (by omega) hl6
      omega
    rcases Nat.lt_or_ge i L.length with hlt2 | hge2
    · obtain ⟨w1, w2⟩ := hLw _ (wx_mem hlt2)
      have w3 : ∀ x ∈ wx L i, rg x := fun x hx => by have := lts_mem.1 (w2 x hx); unfold rg; omega
      have w4 : (wx L i).length ≤ 8388608 := by omega
      have w5 : (wx L i).length ≠ 0 → -3 ≤ ix (wx L i) ((wx L i).length - 1) ∧ ix (wx L i) ((wx L i).length - 1) ≤ 3 := fun h => by
        have := lts_mem.1 (w2 _ (ix_mem (l := wx L i) (i := (wx L i).length - 1) (by omega))); omega
      have hN1 : lwN r z es v (lts r.toNat) L (i + 1) = lwN r z es v (lts r.toNat) L i ++ lwK es (lts r.toNat) (wkV r z es v (wx L i)) (wx L i) (lts r.toNat).length := rfl
      generalize hNN : lwN r z es v (lts r.toNat) L i = NN at *
      by_cases hE : wkV r z es v (wx L i) = v
      · have hO1 : lwO r z es v L (i + 1) = lwO r z es v L i ++ [wx L i] := by rw [lwO, if_pos hE]
        repeat' (first|(refine ya ?_;first|(refine yb ?_;first|refine yc ?_)|refine ye ?_)|(refine yg ?_;intro hgs;first|(replace hgs:=zgy hgs;first|(refine yb ?_;first|refine yc ?_)|refine yy hgs ?_;clear hgs)|(refine yn (zgn hgs) ?_;clear hgs)|((fail_if_success have:=zgy hgs);refine z_spl hgs (h1:=?_) (h2:=?_)<;>clear hgs<;>intro hg hr<;>try first|contradiction|exfalso;omega))|refine yz ?_|(refine yA ?_;first|(refine yB ?_;first|refine yC ?_)|refine yE ?_)|(refine yG ?_;intro hgs;first|(replace hgs:=zgy hgs;first|(refine yB ?_;first|refine yC ?_)|refine yY hgs ?_;clear hgs)|(refine yN (zgn hgs) ?_;clear hgs)|((fail_if_success have:=zgy hgs);refine z_spll hgs (h1:=?_) (h2:=?_)<;>clear hgs<;>intro hg hr<;>try first|contradiction|exfalso;omega))|refine yZ ?_|refine zst ?_|refine k_blk_other rfl ?_|(refine zk ?_ ?_<;>intro hc hr<;>try first|contradiction|exfalso;omega))
        refine z_loop (fun k : Nat => [(16, aI k)]) (fun k : Nat => [.obj 11 (.rows 27 3 (.loc false) (osW (NN ++ lwK es (lts r.toNat) (wkV r z es v (wx L i)) (wx L i) k)))]) (fun k : Nat => k ≤ (lts r.toNat).length) (fun k : Nat => (lts r.toNat).length - k) (0) (h0 := ?_) (henv := ?_) (hobj := ?_) (h := ?_)
        · omega
        · simp [go_sem, AVm, CVm, lookS, lwK, List.append_nil]
        · simp [go_sem, OBm, CVm, lookS, All2, lwK, List.append_nil]
        intro k hk
        clear hE
        have hKl := (lwK_ok (es := es) (ls := lts r.toNat) (e := wkV r z es v (wx L i)) (w := wx L i) k).1
        rcases Nat.lt_or_ge k (lts r.toNat).length with hlt3 | hge3
        · have hx0 := lts_mem.1 (ix_mem hlt3)
          have hx1 : -3 ≤ ix (lts r.toNat) k ∧ ix (lts r.toNat) k ≤ 3 := by omega
          have hx2 : rg (ix (lts r.toNat) k) := by unfold rg; omega
          have hKa : (NN ++ lwK es (lts r.toNat) (wkV r z es v (wx L i)) (wx L i) k).length ≤ 5000 := by rw [List.length_append]; omega
          clear hx0
          by_cases hon : lwOn es (wkV r z es v (wx L i)) (wx L i) (ix (lts r.toNat) k) = true
          · have hK1 : lwK es (lts r.toNat) (wkV r z es v (wx L i)) (wx L i) (k + 1) = lwK es (lts r.toNat) (wkV r z es v (wx L i)) (wx L i) k ++ [wx L i ++ [ix (lts r.toNat) k]] := by rw [lwK, if_pos hon]
            obtain ⟨hon1, hon2⟩ := lwOn_iff.1 hon
            clear hon
            by_cases h0 : (wx L i).length = 0
            · repeat' (first|(refine ya ?_;first|(refine yb ?_;first|refine yc ?_)|refine ye ?_)|(refine yg ?_;intro hgs;first|(replace hgs:=zgy hgs;first|(refine yb ?_;first|refine yc ?_)|refine yy hgs ?_;clear hgs)|(refine yn (zgn hgs) ?_;clear hgs)|((fail_if_success have:=zgy hgs);refine z_spl hgs (h1:=?_) (h2:=?_)<;>clear hgs<;>intro hg hr<;>try first|contradiction|exfalso;omega))|refine yz ?_|(refine yA ?_;first|(refine yB ?_;first|refine yC ?_)|refine yE ?_)|(refine yG ?_;intro hgs;first|(replace hgs:=zgy hgs;first|(refine yB ?_;first|refine yC ?_)|refine yY hgs ?_;clear hgs)|(refine yN (zgn hgs) ?_;clear hgs)|((fail_if_success have:=zgy hgs);refine z_spll hgs (h1:=?_) (h2:=?_)<;>clear hgs<;>intro hg hr<;>try first|contradiction|exfalso;omega))|refine yZ ?_|refine zst ?_|refine k_blk_other rfl ?_|(refine zk ?_ ?_<;>intro hc hr<;>try first|contradiction|exfalso;omega))
              all_goals (refine z_lop (k + 1) (hj := ?_) (hmu := ?_) (henv := ?_) (hobj := ?_); (· omega); (· first | omega | (simp only; omega)); (· first | (simp [go_sem, AVm, CVm, lookS, hK1, *]; done) | (simp [go_sem, AVm, CVm, lookS, hK1, *] <;> (repeat' split) <;> first | omega | (simp_all; done) | (exfalso; omega) | (simp_all; omega))); (· first | (simp [go_sem, OBm, CVm, All2, lookS, hK1, *]; done) | (simp [go_sem, OBm, CVm, All2, lookS, hK1, *] <;> (repeat' split) <;> first | omega | (simp_all; done) | (exfalso; omega) | (simp_all; omega))))
            · have hon3 := hon1.resolve_left h0
              have hw5 := w5 h0
              clear hon1
              repeat' (first|(refine ya ?_;first|(refine yb ?_;first|refine yc ?_)|refine ye ?_)|(refine yg ?_;intro hgs;first|(replace hgs:=zgy hgs;first|(refine yb ?_;first|refine yc ?_)|refine yy hgs ?_;clear hgs)|(refine yn (zgn hgs) ?_;clear hgs)|((fail_if_success have:=zgy hgs);refine z_spl hgs (h1:=?_) (h2:=?_)<;>clear hgs<;>intro hg hr<;>try first|contradiction|exfalso;omega))|refine yz ?_|(refine yA ?_;first|(refine yB ?_;first|refine yC ?_)|refine yE ?_)|(refine yG ?_;intro hgs;first|(replace hgs:=zgy hgs;first|(refine yB ?_;first|refine yC ?_)|refine yY hgs ?_;clear hgs)|(refine yN (zgn hgs) ?_;clear hgs)|((fail_if_success have:=zgy hgs);refine z_spll hgs (h1:=?_) (h2:=?_)<;>clear hgs<;>intro hg hr<;>try first|contradiction|exfalso;omega))|refine yZ ?_|refine zst ?_|refine k_blk_other rfl ?_|(refine zk ?_ ?_<;>intro hc hr<;>try first|contradiction|exfalso;omega))
              all_goals (refine z_lop (k + 1) (hj := ?_) (hmu := ?_) (henv := ?_) (hobj := ?_); (· omega); (· first | omega | (simp only; omega)); (· first | (simp [go_sem, AVm, CVm, lookS, hK1, *]; done) | (simp [go_sem, AVm, CVm, lookS, hK1, *] <;> (repeat' split) <;> first | omega | (simp_all; done) | (exfalso; omega) | (simp_all; omega))); (· first | (simp [go_sem, OBm, CVm, All2, lookS, hK1, *]; done) | (simp [go_sem, OBm, CVm, All2, lookS, hK1, *] <;> (repeat' split) <;> first | omega | (simp_all; done) | (exfalso; omega) | (simp_all; omega))))
          · have hK1 : lwK es (lts r.toNat) (wkV r z es v (wx L i)) (wx L i) (k + 1) = lwK es (lts r.toNat) (wkV r z es v (wx L i)) (wx L i) k := by rw [lwK, if_neg hon]
            rw [lwOn_iff] at hon
            by_cases h0 : (wx L i).length = 0
            · have hon2 : ¬ 0 ≤ nx es (wkV r z es v (wx L i)) (ix (lts r.toNat) k) := fun h => hon ⟨.inl h0, h⟩
              clear hon
              repeat' (first|(refine ya ?_;first|(refine yb ?_;first|refine yc ?_)|refine ye ?_)|(refine yg ?_;intro hgs;first|(replace hgs:=zgy hgs;first|(refine yb ?_;first|refine yc ?_)|refine yy hgs ?_;clear hgs)|(refine yn (zgn hgs) ?_;clear hgs)|((fail_if_success have:=zgy hgs);refine z_spl hgs (h1:=?_) (h2:=?_)<;>clear hgs<;>intro hg hr<;>try first|contradiction|exfalso;omega))|refine yz ?_|(refine yA ?_;first|(refine yB ?_;first|refine yC ?_)|refine yE ?_)|(refine yG ?_;intro hgs;first|(replace hgs:=zgy hgs;first|(refine yB ?_;first|refine yC ?_)|refine yY hgs ?_;clear hgs)|(refine yN (zgn hgs) ?_;clear hgs)|((fail_if_success have:=zgy hgs);refine z_spll hgs (h1:=?_) (h2:=?_)<;>clear hgs<;>intro hg hr<;>try first|contradiction|exfalso;omega))|refine yZ ?_|refine zst ?_|refine k_blk_other rfl ?_|(refine zk ?_ ?_<;>intro hc hr<;>try first|contradiction|exfalso;omega))
              all_goals (refine z_lop (k + 1) (hj := ?_) (hmu := ?_) (henv := ?_) (hobj := ?_); (· omega); (· first | omega | (simp only; omega)); (· first | (simp [go_sem, AVm, CVm, lookS, hK1, *]; done) | (simp [go_sem, AVm, CVm, lookS, hK1, *] <;> (repeat' split) <;> first | omega | (simp_all; done) | (exfalso; omega) | (simp_all; omega))); (· first | (simp [go_sem, OBm, CVm, All2, lookS, hK1, *]; done) | (simp [go_sem, OBm, CVm, All2, lookS, hK1, *] <;> (repeat' split) <;> first | omega | (simp_all; done) | (exfalso; omega) | (simp_all; omega))))
            · have hw5 := w5 h0
              by_cases h1 : ix (lts r.toNat) k = -ix (wx L i) ((wx L i).length - 1)
              · clear hon
                repeat' (first|(refine ya ?_;first|(refine yb ?_;first|refine yc ?_)|refine ye ?_)|(refine yg ?_;intro hgs;first|(replace hgs:=zgy hgs;first|(refine yb ?_;first|refine yc ?_)|refine yy hgs ?_;clear hgs)|(refine yn (zgn hgs) ?_;clear hgs)|((fail_if_success have:=zgy hgs);refine z_spl hgs (h1:=?_) (h2:=?_)<;>clear hgs<;>intro hg hr<;>try first|contradiction|exfalso;omega))|refine yz ?_|(refine yA ?_;first|(refine yB ?_;first|refine yC ?_)|refine yE ?_)|(refine yG ?_;intro hgs;first|(replace hgs:=zgy hgs;first|(refine yB ?_;first|refine yC ?_)|refine yY hgs ?_;clear hgs)|(refine yN (zgn hgs) ?_;clear hgs)|((fail_if_success have:=zgy hgs);refine z_spll hgs (h1:=?_) (h2:=?_)<;>clear hgs<;>intro hg hr<;>try first|contradiction|exfalso;omega))|refine yZ ?_|refine zst ?_|refine k_blk_other rfl ?_|(refine zk ?_ ?_<;>intro hc hr<;>try first|contradiction|exfalso;omega))
                all_goals (refine z_lop (k + 1) (hj := ?_) (hmu := ?_) (henv := ?_) (hobj := ?_); (· omega); (· first | omega | (simp only; omega)); (· first | (simp [go_sem, AVm, CVm, lookS, hK1, *]; done) | (simp [go_sem, AVm, CVm, lookS, hK1, *] <;> (repeat' split) <;> first | omega | (simp_all; done) | (exfalso; omega) | (simp_all; omega))); (· first | (simp [go_sem, OBm, CVm, All2, lookS, hK1, *]; done) | (simp [go_sem, OBm, CVm, All2, lookS, hK1, *] <;> (repeat' split) <;> first | omega | (simp_all; done) | (exfalso; omega) | (simp_all; omega))))
              · have hon2 : ¬ 0 ≤ nx es (wkV r z es v (wx L i)) (ix (lts r.toNat) k) := fun h => hon ⟨.inr h1, h⟩
                clear hon
                repeat' (first|(refine ya ?_;first|(refine yb ?_;first|refine yc ?_)|refine ye ?_)|(refine yg ?_;intro hgs;first|(replace hgs:=zgy hgs;first|(refine yb ?_;first|refine yc ?_)|refine yy hgs ?_;clear hgs)|(refine yn (zgn hgs) ?_;clear hgs)|((fail_if_success have:=zgy hgs);refine z_spl hgs (h1:=?_) (h2:=?_)<;>clear hgs<;>intro hg hr<;>try first|contradiction|exfalso;omega))|refine yz ?_|(refine yA ?_;first|(refine yB ?_;first|refine yC ?_)|refine yE ?_)|(refine yG ?_;intro hgs;first|(replace hgs:=zgy hgs;first|(refine yB ?_;first|refine yC ?_)|refine yY hgs ?_;clear hgs)|(refine yN (zgn hgs) ?_;clear hgs)|((fail_if_success have:=zgy hgs);refine z_spll hgs (h1:=?_) (h2:=?_)<;>clear hgs<;>intro hg hr<;>try first|contradiction|exfalso;omega))|refine yZ ?_|refine zst ?_|refine k_blk_other rfl ?_|(refine zk ?_ ?_<;>intro hc hr<;>try first|contradiction|exfalso;omega))
                all_goals (refine z_lop (k + 1) (hj := ?_) (hmu := ?_) (henv := ?_) (hobj := ?_); (· omega); (· first | omega | (simp only; omega)); (· first | (simp [go_sem, AVm, CVm, lookS, hK1, *]; done) | (simp [go_sem, AVm, CVm, lookS, hK1, *] <;> (repeat' split) <;> first | omega | (simp_all; done) | (exfalso; omega) | (simp_all; omega))); (· first | (simp [go_sem, OBm, CVm, All2, lookS, hK1, *]; done) | (simp [go_sem, OBm, CVm, All2, lookS, hK1, *] <;> (repeat' split) <;> first | omega | (simp_all; done) | (exfalso; omega) | (simp_all; omega))))
        · have hkk : k = (lts r.toNat).length := by omega
          subst hkk
          repeat' (first|(refine ya ?_;first|(refine yb ?_;first|refine yc ?_)|refine ye ?_)|(refine yg ?_;intro hgs;first|(replace hgs:=zgy hgs;first|(refine yb ?_;first|refine yc ?_)|refine yy hgs ?_;clear hgs)|(refine yn (zgn hgs) ?_;clear hgs)|((fail_if_success have:=zgy hgs);refine z_spl hgs (h1:=?_) (h2:=?_)<;>clear hgs<;>intro hg hr<;>try first|contradiction|exfalso;omega))|refine yz ?_|(refine yA ?_;first|(refine yB ?_;first|refine yC ?_)|refine yE ?_)|(refine yG ?_;intro hgs;first|(replace hgs:=zgy hgs;first|(refine yB ?_;first|refine yC ?_)|refine yY hgs ?_;clear hgs)|(refine yN (zgn hgs) ?_;clear hgs)|((fail_if_success have:=zgy hgs);refine z_spll hgs (h1:=?_) (h2:=?_)<;>clear hgs<;>intro hg hr<;>try first|contradiction|exfalso;omega))|refine yZ ?_|refine zst ?_|refine k_blk_other rfl ?_|(refine zk ?_ ?_<;>intro hc hr<;>try first|contradiction|exfalso;omega))
          (refine z_lop (i + 1) (hj := ?_) (hmu := ?_) (henv := ?_) (hobj := ?_); (· omega); (· first | omega | (simp only; omega)); (· first | (simp [go_sem, AVm, CVm, lookS, hO1, hN1, *]; done) | (simp [go_sem, AVm, CVm, lookS, hO1, hN1, *] <;> (repeat' split) <;> first | omega | (simp_all; done) | (exfalso; omega) | (simp_all; omega))); (· first | (simp [go_sem, OBm, CVm, All2, lookS, hO1, hN1, *]; done) | (simp [go_sem, OBm, CVm, All2, lookS, hO1, hN1, *] <;> (repeat' split) <;> first | omega | (simp_all; done) | (exfalso; omega) | (simp_all; omega))))
      · have hO1 : lwO r z es v L (i + 1) = lwO r z es v L i := by rw [lwO, if_neg hE]
        repeat' (first|(refine ya ?_;first|(refine yb ?_;first|refine yc ?_)|refine ye ?_)|(refine yg ?_;intro hgs;first|(replace hgs:=zgy hgs;first|(refine yb ?_;first|refine yc ?_)|refine yy hgs ?_;clear hgs)|(refine yn (zgn hgs) ?_;clear hgs)|((fail_if_success have:=zgy hgs);refine z_spl hgs (h1:=?_) (h2:=?_)<;>clear hgs<;>intro hg hr<;>try first|contradiction|exfalso;omega))|refine yz ?_|(refine yA ?_;first|(refine yB ?_;first|refine yC ?_)|refine yE ?_)|(refine yG ?_;intro hgs;first|(replace hgs:=zgy hgs;first|(refine yB ?_;first|refine yC ?_)|refine yY hgs ?_;clear hgs)|(refine yN (zgn hgs) ?_;clear hgs)|((fail_if_success have:=zgy hgs);refine z_spll hgs (h1:=?_) (h2:=?_)<;>clear hgs<;>intro hg hr<;>try first|contradiction|exfalso;omega))|refine yZ ?_|refine zst ?_|refine k_blk_other rfl ?_|(refine zk ?_ ?_<;>intro hc hr<;>try first|contradiction|exfalso;omega))
        refine z_loop (fun k : Nat => [(16, aI k)]) (fun k : Nat => [.obj 11 (.rows 27 3 (.loc false) (osW (NN ++ lwK es (lts r.toNat) (wkV r z es v (wx L i)) (wx L i) k)))]) (fun k : Nat => k ≤ (lts r.toNat).length) (fun k : Nat => (lts r.toNat).length - k) (0) (h0 := ?_) (henv := ?_) (hobj := ?_) (h := ?_)
        · omega
        · simp [go_sem, AVm, CVm, lookS, lwK, List.append_nil]
        · simp [go_sem, OBm, CVm, lookS, All2, lwK, List.append_nil]
        intro k hk
        have hKl := (lwK_ok (es := es) (ls := lts r.toNat) (e := wkV r z es v (wx L i)) (w := wx L i) k).1
        rcases Nat.lt_or_ge k (lts r.toNat).length with hlt3 | hge3
        · have hx0 := lts_mem.1 (ix_mem hlt3)
          have hx1 : -3 ≤ ix (lts r.toNat) k ∧ ix (lts r.toNat) k ≤ 3 := by omega
          have hx2 : rg (ix (lts r.toNat) k) := by unfold rg; omega
          have hKa : (NN ++ lwK es (lts r.toNat) (wkV r z es v (wx L i)) (wx L i) k).length ≤ 5000 := by rw [List.length_append]; omega
          clear hx0
          by_cases hon : lwOn es (wkV r z es v (wx L i)) (wx L i) (ix (lts r.toNat) k) = true
          · have hK1 : lwK es (lts r.toNat) (wkV r z es v (wx L i)) (wx L i) (k + 1) = lwK es (lts r.toNat) (wkV r z es v (wx L i)) (wx L i) k ++ [wx L i ++ [ix (lts r.toNat) k]] := by rw [lwK, if_pos hon]
            obtain ⟨hon1, hon2⟩ := lwOn_iff.1 hon
            clear hon
            by_cases h0 : (wx L i).length = 0
            · repeat' (first|(refine ya ?_;first|(refine yb ?_;first|refine yc ?_)|refine ye ?_)|(refine yg ?_;intro hgs;first|(replace hgs:=zgy hgs;first|(refine yb ?_;first|refine yc ?_)|refine yy hgs ?_;clear hgs)|(refine yn (zgn hgs) ?_;clear hgs)|((fail_if_success have:=zgy hgs);refine z_spl hgs (h1:=?_) (h2:=?_)<;>clear hgs<;>intro hg hr<;>try first|contradiction|exfalso;omega))|refine yz ?_|(refine yA ?_;first|(refine yB ?_;first|refine yC ?_)|refine yE ?_)|(refine yG ?_;intro hgs;first|(replace hgs:=zgy hgs;first|(refine yB ?_;first|refine yC ?_)|refine yY hgs ?_;clear hgs)|(refine yN (zgn hgs) ?_;clear hgs)|((fail_if_success have:=zgy hgs);refine z_spll hgs (h1:=?_) (h2:=?_)<;>clear hgs<;>intro hg hr<;>try first|contradiction|exfalso;omega))|refine yZ ?_|refine zst ?_|refine k_blk_other rfl ?_|(refine zk ?_ ?_<;>intro hc hr<;>try first|contradiction|exfalso;omega))
              all_goals (refine z_lop (k + 1) (hj := ?_) (hmu := ?_) (henv := ?_) (hobj := ?_); (· omega); (· first | omega | (simp only; omega)); (· first | (simp [go_sem, AVm, CVm, lookS, hK1, *]; done) | (simp [go_sem, AVm, CVm, lookS, hK1, *] <;> (repeat' split) <;> first | omega | (simp_all; done) | (exfalso; omega) | (simp_all; omega))); (· first | (simp [go_sem, OBm, CVm, All2, lookS, hK1, *]; done) | (simp [go_sem, OBm, CVm, All2, lookS, hK1, *] <;> (repeat' split) <;> first | omega | (simp_all; done) | (exfalso; omega) | (simp_all; omega))))
            · have hon3 := hon1.resolve_left h0
              have hw5 := w5 h0
              clear hon1
              repeat' (first|(refine ya ?_;first|(refine yb ?_;first|refine yc ?_)|refine ye ?_)|(refine yg ?_;intro hgs;first|(replace hgs:=zgy hgs;first|(refine yb ?_;first|refine yc ?_)|refine yy hgs ?_;clear hgs)|(refine yn (zgn hgs) ?_;clear hgs)|((fail_if_success have:=zgy hgs);refine z_spl hgs (h1:=?_) (h2:=?_)<;>clear hgs<;>intro hg hr<;>try first|contradiction|exfalso;omega))|refine yz ?_|(refine yA ?_;first|(refine yB ?_;first|refine yC ?_)|refine yE ?_)|(refine yG ?_;intro hgs;first|(replace hgs:=zgy hgs;first|(refine yB ?_;first|refine yC ?_)|refine yY hgs ?_;clear hgs)|(refine yN (zgn hgs) ?_;clear hgs)|((fail_if_success have:=zgy hgs);refine z_spll hgs (h1:=?_) (h2:=?_)<;>clear hgs<;>intro hg hr<;>try first|contradiction|exfalso;omega))|refine yZ ?_|refine zst ?_|refine k_blk_other rfl ?_|(refine zk ?_ ?_<;>intro hc hr<;>try first|contradiction|exfalso;omega))
              all_goals (refine z_lop (k + 1) (hj := ?_) (hmu := ?_) (henv := ?_) (hobj := ?_); (· omega); (· first | omega | (simp only; omega)); (· first | (simp [go_sem, AVm, CVm, lookS, hK1, *]; done) | (simp [go_sem, AVm, CVm, lookS, hK1, *] <;> (repeat' split) <;> first | omega | (simp_all; done) | (exfalso; omega) | (simp_all; omega))); (· first | (simp [go_sem, OBm, CVm, All2, lookS, hK1, *]; done) | (simp [go_sem, OBm, CVm, All2, lookS, hK1, *] <;> (repeat' split) <;> first | omega | (simp_all; done) | (exfalso; omega) | (simp_all; omega))))
          · have hK1 : lwK es (lts r.toNat) (wkV r z es v (wx L i)) (wx L i) (k + 1) = lwK es (lts r.toNat) (wkV r z es v (wx L i)) (wx L i) k := by rw [lwK, if_neg hon]
            rw [lwOn_iff] at hon
            by_cases h0 : (wx L i).length = 0
            · have hon2 : ¬ 0 ≤ nx es (wkV r z es v (wx L i)) (ix (lts r.toNat) k) := fun h => hon ⟨.inl h0, h⟩
              clear hon
              repeat' (first|(refine ya ?_;first|(refine yb ?_;first|refine yc ?_)|refine ye ?_)|(refine yg ?_;intro hgs;first|(replace hgs:=zgy hgs;first|(refine yb ?_;first|refine yc ?_)|refine yy hgs ?_;clear hgs)|(refine yn (zgn hgs) ?_;clear hgs)|((fail_if_success have:=zgy hgs);refine z_spl hgs (h1:=?_) (h2:=?_)<;>clear hgs<;>intro hg hr<;>try first|contradiction|exfalso;omega))|refine yz ?_|(refine yA ?_;first|(refine yB ?_;first|refine yC ?_)|refine yE ?_)|(refine yG ?_;intro hgs;first|(replace hgs:=zgy hgs;first|(refine yB ?_;first|refine yC ?_)|refine yY hgs ?_;clear hgs)|(refine yN (zgn hgs) ?_;clear hgs)|((fail_if_success have:=zgy hgs);refine z_spll hgs (h1:=?_) (h2:=?_)<;>clear hgs<;>intro hg hr<;>try first|contradiction|exfalso;omega))|refine yZ ?_|refine zst ?_|refine k_blk_other rfl ?_|(refine zk ?_ ?_<;>intro hc hr<;>try first|contradiction|exfalso;omega))
              all_goals (refine z_lop (k + 1) (hj := ?_) (hmu := ?_) (henv := ?_) (hobj := ?_); (· omega); (· first | omega | (simp only; omega)); (· first | (simp [go_sem, AVm, CVm, lookS, hK1, *]; done) | (simp [go_sem, AVm, CVm, lookS, hK1, *] <;> (repeat' split) <;> first | omega | (simp_all; done) | (exfalso; omega) | (simp_all; omega))); (· first | (simp [go_sem, OBm, CVm, All2, lookS, hK1, *]; done) | (simp [go_sem, OBm, CVm, All2, lookS, hK1, *] <;> (repeat' split) <;> first | omega | (simp_all; done) | (exfalso; omega) | (simp_all; omega))))
            · have hw5 := w5 h0
              by_cases h1 : ix (lts r.toNat) k = -ix (wx L i) ((wx L i).length - 1)
              · clear hon
                repeat' (first|(refine ya ?_;first|(refine yb ?_;first|refine yc ?_)|refine ye ?_)|(refine yg ?_;intro hgs;first|(replace hgs:=zgy hgs;first|(refine yb ?_;first|refine yc ?_)|refine yy hgs ?_;clear hgs)|(refine yn (zgn hgs) ?_;clear hgs)|((fail_if_success have:=zgy hgs);refine z_spl hgs (h1:=?_) (h2:=?_)<;>clear hgs<;>intro hg hr<;>try first|contradiction|exfalso;omega))|refine yz ?_|(refine yA ?_;first|(refine yB ?_;first|refine yC ?_)|refine yE ?_)|(refine yG ?_;intro hgs;first|(replace hgs:=zgy hgs;first|(refine yB ?_;first|refine yC ?_)|refine yY hgs ?_;clear hgs)|(refine yN (zgn hgs) ?_;clear hgs)|((fail_if_success have:=zgy hgs);refine z_spll hgs (h1:=?_) (h2:=?_)<;>clear hgs<;>intro hg hr<;>try first|contradiction|exfalso;omega))|refine yZ ?_|refine zst ?_|refine k_blk_other rfl ?_|(refine zk ?_ ?_<;>intro hc hr<;>try first|contradiction|exfalso;omega))
                all_goals (refine z_lop (k + 1) (hj := ?_) (hmu := ?_) (henv := ?_) (hobj := ?_); (· omega); (· first | omega | (simp only; omega)); (· first | (simp [go_sem, AVm, CVm, lookS, hK1, *]; done) | (simp [go_sem, AVm, CVm, lookS, hK1, *] <;> (repeat' split) <;> first | omega | (simp_all; done) | (exfalso; omega) | (simp_all; omega))); (· first | (simp [go_sem, OBm, CVm, All2, lookS, hK1, *]; done) | (simp [go_sem, OBm, CVm, All2, lookS, hK1, *] <;> (repeat' split) <;> first | omega | (simp_all; done) | (exfalso; omega) | (simp_all; omega))))
              · have hon2 : ¬ 0 ≤ nx es (wkV r z es v (wx L i)) (ix (lts r.toNat) k) := fun h => hon ⟨.inr h1, h⟩
                clear hon
                repeat' (first|(refine ya ?_;first|(refine yb ?_;first|refine yc ?_)|refine ye ?_)|(refine yg ?_;intro hgs;first|(replace hgs:=zgy hgs;first|(refine yb ?_;first|refine yc ?_)|refine yy hgs ?_;clear hgs)|(refine yn (zgn hgs) ?_;clear hgs)|((fail_if_success have:=zgy hgs);refine z_spl hgs (h1:=?_) (h2:=?_)<;>clear hgs<;>intro hg hr<;>try first|contradiction|exfalso;omega))|refine yz ?_|(refine yA ?_;first|(refine yB ?_;first|refine yC ?_)|refine yE ?_)|(refine yG ?_;intro hgs;first|(replace hgs:=zgy hgs;first|(refine yB ?_;first|refine yC ?_)|refine yY hgs ?_;clear hgs)|(refine yN (zgn hgs) ?_;clear hgs)|((fail_if_success have:=zgy hgs);refine z_spll hgs (h1:=?_) (h2:=?_)<;>clear hgs<;>intro hg hr<;>try first|contradiction|exfalso;omega))|refine yZ ?_|refine zst ?_|refine k_blk_other rfl ?_|(refine zk ?_ ?_<;>intro hc hr<;>try first|contradiction|exfalso;omega))
                all_goals (refine z_lop (k + 1) (hj := ?_) (hmu := ?_) (henv := ?_) (hobj := ?_); (· omega); (· first | omega | (simp only; omega)); (· first | (simp [go_sem, AVm, CVm, lookS, hK1, *]; done) | (simp [go_sem, AVm, CVm, lookS, hK1, *] <;> (repeat' split) <;> first | omega | (simp_all; done) | (exfalso; omega) | (simp_all; omega))); (· first | (simp [go_sem, OBm, CVm, All2, lookS, hK1, *]; done) | (simp [go_sem, OBm, CVm, All2, lookS, hK1, *] <;> (repeat' split) <;> first | omega | (simp_all; done) | (exfalso; omega) | (simp_all; omega))))
        · have hkk : k = (lts r.toNat).length := by omega
          subst hkk
          repeat' (first|(refine ya ?_;first|(refine yb ?_;first|refine yc ?_)|refine ye ?_)|(refine yg ?_;intro hgs;first|(replace hgs:=zgy hgs;first|(refine yb ?_;first|refine yc ?_)|refine yy hgs ?_;clear hgs)|(refine yn (zgn hgs) ?_;clear hgs)|((fail_if_success have:=zgy hgs);refine z_spl hgs (h1:=?_) (h2:=?_)<;>clear hgs<;>intro hg hr<;>try first|contradiction|exfalso;omega))|refine yz ?_|(refine yA ?_;first|(refine yB ?_;first|refine yC ?_)|refine yE ?_)|(refine yG ?_;intro hgs;first|(replace hgs:=zgy hgs;first|(refine yB ?_;first|refine yC ?_)|refine yY hgs ?_;clear hgs)|(refine yN (zgn hgs) ?_;clear hgs)|((fail_if_success have:=zgy hgs);refine z_spll hgs (h1:=?_) (h2:=?_)<;>clear hgs<;>intro hg hr<;>try first|contradiction|exfalso;omega))|refine yZ ?_|refine zst ?_|refine k_blk_other rfl ?_|(refine zk ?_ ?_<;>intro hc hr<;>try first|contradiction|exfalso;omega))
          (refine z_lop (i + 1) (hj := ?_) (hmu := ?_) (henv := ?_) (hobj := ?_); (· omega); (· first | omega | (simp only; omega)); (· first | (simp [go_sem, AVm, CVm, lookS, hO1, hN1, *]; done) | (simp [go_sem, AVm, CVm, lookS, hO1, hN1, *] <;> (repeat' split) <;> first | omega | (simp_all; done) | (exfalso; omega) | (simp_all; omega))); (· first | (simp [go_sem, OBm, CVm, All2, lookS, hO1, hN1, *]; done) | (simp [go_sem, OBm, CVm, All2, lookS, hO1, hN1, *] <;> (repeat' split) <;> first | omega | (simp_all; done) | (exfalso; omega) | (simp_all; omega))))
    · have hii : i = L.length := by omega
      subst hii
      repeat' (first|(refine ya ?_;first|(refine yb ?_;first|refine yc ?_)|refine ye ?_)|(refine yg ?_;intro hgs;first|(replace hgs:=zgy hgs;first|(refine yb ?_;first|refine yc ?_)|refine yy hgs ?_;clear hgs)|(refine yn (zgn hgs) ?_;clear hgs)|((fail_if_success have:=zgy hgs);refine z_spl hgs (h1:=?_) (h2:=?_)<;>clear hgs<;>intro hg hr<;>try first|contradiction|exfalso;omega))|refine yz ?_|(refine yA ?_;first|(refine yB ?_;first|refine yC ?_)|refine yE ?_)|(refine yG ?_;intro hgs;first|(replace hgs:=zgy hgs;first|(refine yB ?_;first|refine yC ?_)|refine yY hgs ?_;clear hgs)|(refine yN (zgn hgs) ?_;clear hgs)|((fail_if_success have:=zgy hgs);refine z_spll hgs (h1:=?_) (h2:=?_)<;>clear hgs<;>intro hg hr<;>try first|contradiction|exfalso;omega))|refine yZ ?_|refine zst ?_|refine k_blk_other rfl ?_|(refine zk ?_ ?_<;>intro hc hr<;>try first|contradiction|exfalso;omega))
      (refine z_lop (n + 1) (hj := ?_) (hmu := ?_) (henv := ?_) (hobj := ?_); (· omega); (· first | omega | (simp only; omega)); (· first | (simp [go_sem, AVm, CVm, lookS, hT1, hL1, *]; done) | (simp [go_sem, AVm, CVm, lookS, hT1, hL1, *] <;> (repeat' split) <;> first | omega | (simp_all; done) | (exfalso; omega) | (simp_all; omega))); (· first | (simp [go_sem, OBm, CVm, All2, lookS, hT1, hL1, *]; done) | (simp [go_sem, OBm, CVm, All2, lookS, hT1, hL1, *] <;> (repeat' split) <;> first | omega | (simp_all; done) | (exfalso; omega) | (simp_all; omega))))
  · have hnn : n = M + 1 := by omega
    subst hnn
    repeat' (first|(refine ya ?_;first|(refine yb ?_;first|refine yc ?_)|refine ye ?_)|(refine yg ?_;intro hgs;first|(replace hgs:=zgy hgs;first|(refine yb ?_;first|refine yc ?_)|refine yy hgs ?_;clear hgs)|(refine yn (zgn hgs) ?_;clear hgs)|((fail_if_success have:=zgy hgs);refine z_spl hgs (h1:=?_) (h2:=?_)<;>clear hgs<;>intro hg hr<;>try first|contradiction|exfalso;omega))|refine yz ?_|(refine yA ?_;first|(refine yB ?_;first|refine yC ?_)|refine yE ?_)|(refine yG ?_;intro hgs;first|(replace hgs:=zgy hgs;first|(refine yB ?_;first|refine yC ?_)|refine yY hgs ?_;clear hgs)|(refine yN (zgn hgs) ?_;clear hgs)|((fail_if_success have:=zgy hgs);refine z_spll hgs (h1:=?_) (h2:=?_)<;>clear hgs<;>intro hg hr<;>try first|contradiction|exfalso;omega))|refine yZ ?_|refine zst ?_|refine k_blk_other rfl ?_|(refine zk ?_ ?_<;>intro hc hr<;>try first|contradiction|exfalso;omega))
    refine z_retT 136 (hv := ?_) (ho := ?_) <;> rfl
instance (priority := 2000) : Con Try.prog 30 (orS loopW_no2_S loopW_yes2_S) := con2 loopW_no2 loopW_yes2 Try.func30
end Go.Proofs.Try
