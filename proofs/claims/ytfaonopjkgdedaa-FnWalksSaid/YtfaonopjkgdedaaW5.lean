import Derived.Test.YtfaonopjkgdedaaW4
set_option linter.unusedVariables false
set_option linter.unusedSimpArgs false
set_option linter.unnecessarySimpa false
namespace Go.Proofs.Try
open Go Go.Eng
set_option linter.unnecessarySimpa false
set_option linter.unusedSimpArgs false
set_option maxHeartbeats 8000000
set_option maxRecDepth 20000
theorem lwT_sm {r z : Int} {es : List Ed} {v m : Int} (h : lwB r z es v m = true) : (lwT r z es v (m.toNat + 1)).length ≤ 1048576 ∧ ∀ w ∈ lwT r z es v (m.toNat + 1), w.length ≤ 1048576 := by
  simp only [lwB, Bool.and_eq_true, decide_eq_true_eq] at h
  have hz := isG_z (isF_g h.1)
  obtain ⟨h1, h2⟩ := lwT_ok (z := z) (es := es) (v := v) (show 1 ≤ r ∧ r ≤ 3 by omega) (m.toNat + 1)
  have h3 := lwD_mono (show m.toNat + 1 ≤ 5 by omega)
  have h4 : lwD 5 = 937 := by decide
  exact ⟨by omega, fun w hw => by have := (h2 w hw).1; omega⟩
theorem osW_map (ws : List (List Int)) : osW ws = (intss ws).map some := by simp [osW, intss]
theorem ipO_len {es : List Ed} {v : Int} {L : List (List Int)} (i : Nat) (h : i ≤ L.length) : (ipO es v L i).length ≤ i := by
  rw [ipO_eq h]
  have := List.length_filter_le (fun w => decide (rdL es v w = w.length ∧ rdV es v w = v)) (L.take i)
  rw [List.length_take] at this; omega
attribute [local irreducible] nx wkV isF lts rdL rdV wuT
def K_loopI_no : Nat → List Nat := fun i => ([[1, 2, 3], [1, 2, 3, 7], [1, 2, 3, 7, 26], [6], [1, 3, 7, 31, 32, 33], [1, 3, 7, 31, 32, 33, 34], [1, 3, 7, 9, 31, 32, 33], [1, 3, 7, 9, 10, 11, 31, 32, 33], [1, 3, 7, 9, 31, 32, 33, 52], [1, 3, 7, 31, 32, 33], [1, 3, 7, 31, 32, 33], [6]] : List (List Nat)).getD i []
attribute [go_sem] K_loopI_no
def loopI_no_S : SpecI := fun args av => ∃ (r z : Int) (es : List Ed) (v m : Int), (es.length ≤ 1048576 ∧ lwB r z es v m = false) ∧ args = [grA r z es, aI v, aI m] ∧ av = aW []
theorem loopI_no : SatI Try.prog 29 loopI_no_S := by
  refine satI_of tok okr mixed K_loopI_no Try.func29 rfl (rs := [.tmp 6]) rfl Try.ntmps29 ?_
  rintro args av ⟨r, z, es, v, m, hpre, rfl, rfl⟩
  refine ⟨by show 3 ≤ 59; decide, rfl, ?_⟩
  obtain ⟨he, hB⟩ := hpre
  cases hf : isF r z es
  · repeat' (first|(refine ya ?_;first|(refine yb ?_;first|refine yc ?_)|refine ye ?_)|(refine yg ?_;intro hgs;first|(replace hgs:=zgy hgs;first|(refine yb ?_;first|refine yc ?_)|refine yy hgs ?_;clear hgs)|(refine yn (zgn hgs) ?_;clear hgs)|((fail_if_success have:=zgy hgs);refine z_spl hgs (h1:=?_) (h2:=?_)<;>clear hgs<;>intro hg hr<;>try first|contradiction|exfalso;omega))|refine yz ?_|refine zst ?_|refine k_blk_other rfl ?_|(refine zk ?_ ?_<;>intro hc hr<;>try first|contradiction|exfalso;omega))
    refine z_retI (by first | exact .inl rfl | exact .inr rfl) ?_
    exact ⟨[], rfl, rfl⟩
  · have hz := isG_z (isF_g hf)
    have hn : ¬ ((0 ≤ v ∧ v < z) ∧ 0 ≤ m ∧ m ≤ 4) := by simpa [lwB, hf] using hB
    clear hB
    by_cases hv : 0 ≤ v ∧ v < z
    · have hm : ¬ (0 ≤ m ∧ m ≤ 4) := fun h => hn ⟨hv, h⟩
      clear hn
      repeat' (first|(refine ya ?_;first|(refine yb ?_;first|refine yc ?_)|refine ye ?_)|(refine yg ?_;intro hgs;first|(replace hgs:=zgy hgs;first|(refine yb ?_;first|refine yc ?_)|refine yy hgs ?_;clear hgs)|(refine yn (zgn hgs) ?_;clear hgs)|((fail_if_success have:=zgy hgs);refine z_spl hgs (h1:=?_) (h2:=?_)<;>clear hgs<;>intro hg hr<;>try first|contradiction|exfalso;omega))|refine yz ?_|refine zst ?_|refine k_blk_other rfl ?_|(refine zk ?_ ?_<;>intro hc hr<;>try first|contradiction|exfalso;omega))
      refine z_retI (by first | exact .inl rfl | exact .inr rfl) ?_
      exact ⟨[], rfl, rfl⟩
    · clear hn
      repeat' (first|(refine ya ?_;first|(refine yb ?_;first|refine yc ?_)|refine ye ?_)|(refine yg ?_;intro hgs;first|(replace hgs:=zgy hgs;first|(refine yb ?_;first|refine yc ?_)|refine yy hgs ?_;clear hgs)|(refine yn (zgn hgs) ?_;clear hgs)|((fail_if_success have:=zgy hgs);refine z_spl hgs (h1:=?_) (h2:=?_)<;>clear hgs<;>intro hg hr<;>try first|contradiction|exfalso;omega))|refine yz ?_|refine zst ?_|refine k_blk_other rfl ?_|(refine zk ?_ ?_<;>intro hc hr<;>try first|contradiction|exfalso;omega))
      refine z_retI (by first | exact .inl rfl | exact .inr rfl) ?_
      exact ⟨[], rfl, rfl⟩
def K_loopI_yes : Nat → List Nat := fun i => ([[1, 2, 3], [1, 2, 3, 7], [1, 2, 3, 7, 26], [6], [1, 3, 7, 31, 32, 33], [1, 3, 7, 31, 32, 33, 34], [1, 3, 7, 9, 31, 32, 33], [1, 3, 7, 9, 10, 11, 31, 32, 33], [1, 3, 7, 9, 31, 32, 33, 52], [1, 3, 7, 31, 32, 33], [1, 3, 7, 31, 32, 33], [6]] : List (List Nat)).getD i []
attribute [go_sem] K_loopI_yes
def loopI_yes_S : SpecI := fun args av => ∃ (r z : Int) (es : List Ed) (v m : Int), (es.length ≤ 1048576 ∧ lwB r z es v m = true) ∧ args = [grA r z es, aI v, aI m] ∧ av = aW (lwT r z es v (m.toNat + 1))
theorem loopI_yes : SatI Try.prog 29 loopI_yes_S := by
  refine satI_of tok okr mixed K_loopI_yes Try.func29 rfl (rs := [.tmp 6]) rfl Try.ntmps29 ?_
  rintro args av ⟨r, z, es, v, m, hpre, rfl, rfl⟩
  refine ⟨by show 3 ≤ 59; decide, rfl, ?_⟩
  obtain ⟨he, hB⟩ := hpre
  simp only [lwB, Bool.and_eq_true, decide_eq_true_eq] at hB
  obtain ⟨hf, hv, hm⟩ := hB
  have hG := isF_g hf
  have hz := isG_z hG
  have hr : 1 ≤ r ∧ r ≤ 3 := by omega
  obtain ⟨hl1, hl2⟩ := wuT_ok hr (m.toNat + 1)
  have h6 : 6 ^ (m.toNat + 1) ≤ 7776 := by
    have : m.toNat = 0 ∨ m.toNat = 1 ∨ m.toNat = 2 ∨ m.toNat = 3 ∨ m.toNat = 4 := by omega
    rcases this with h | h | h | h | h <;> rw [h] <;> decide
  have hall := ipO_all hf hv (m.toNat + 1)
  generalize hT : wuT (lts r.toNat) (m.toNat + 1) = T0 at *
  repeat' (first|(refine ya ?_;first|(refine yb ?_;first|refine z_fnF words_sat Try.func48 (hSp := by refine ⟨_, _, ⟨?_, ?_⟩, rfl, rfl, rfl⟩; (first | assumption | omega | (simp; done) | (simp; omega) | (((repeat' refine And.intro ?_ ?_) <;> first | assumption | omega | (simp; done) | (simp; omega)); done) | (simp at *; omega)); (first | assumption | omega | (simp; done) | (simp; omega) | (((repeat' refine And.intro ?_ ?_) <;> first | assumption | omega | (simp; done) | (simp; omega)); done) | (simp at *; omega))) (k0 := ?_) | refine yc ?_)|refine ye ?_)|(refine yg ?_;intro hgs;first|(replace hgs:=zgy hgs;first|(refine yb ?_;first|refine z_fnF words_sat Try.func48 (hSp := by refine ⟨_, _, ⟨?_, ?_⟩, rfl, rfl, rfl⟩; (first | assumption | omega | (simp; done) | (simp; omega) | (((repeat' refine And.intro ?_ ?_) <;> first | assumption | omega | (simp; done) | (simp; omega)); done) | (simp at *; omega)); (first | assumption | omega | (simp; done) | (simp; omega) | (((repeat' refine And.intro ?_ ?_) <;> first | assumption | omega | (simp; done) | (simp; omega)); done) | (simp at *; omega))) (k0 := ?_) | refine yc ?_)|refine yy hgs ?_;clear hgs)|(refine yn (zgn hgs) ?_;clear hgs)|((fail_if_success have:=zgy hgs);refine z_spl hgs (h1:=?_) (h2:=?_)<;>clear hgs<;>intro hg hr<;>try first|contradiction|exfalso;omega))|refine yz ?_|refine zst ?_|refine k_blk_other rfl ?_|(refine zk ?_ ?_<;>intro hc hr<;>try first|contradiction|exfalso;omega))
  refine z_loop (fun i : Nat => [(33, aI i)]) (fun i : Nat => [.obj 7 (.rowsD 27 3 (osW (ipO es v T0 i)))]) (fun i : Nat => i ≤ T0.length) (fun i : Nat => T0.length - i) (0) (h0 := ?_) (henv := ?_) (hobj := ?_) (h := ?_)
  · omega
  · simp [go_sem, AVm, CVm, lookS, ipO, osW_nil]
  · simp [go_sem, OBm, CVm, lookS, All2, ipO, osW_nil]
  intro i hi
  have hpl := ipO_len (es := es) (v := v) (L := T0) i hi
  rcases Nat.lt_or_ge i T0.length with hlt | hge
  · obtain ⟨u1, u2⟩ := hl2 _ (wx_mem hlt)
    have u3 : ∀ x ∈ wx T0 i, rg x := fun x hx => by have := lts_mem.1 (u2 x hx); unfold rg; omega
    have u4 : (wx T0 i).length ≤ 8388608 := by omega
    have hb : (osW (ipO es v T0 i)).length + [some (ints (wx T0 i))].length ≤ 1099511627776 := by rw [osW_len, List.length_singleton]; omega
    have u5 := rdL_le es v (wx T0 i)
    by_cases hc : rdL es v (wx T0 i) = (wx T0 i).length ∧ rdV es v (wx T0 i) = v
    · have hI : ipO es v T0 (i + 1) = ipO es v T0 i ++ [wx T0 i] := by rw [ipO, if_pos hc]
      obtain ⟨c1, c2⟩ := hc
      repeat' (first|(refine y_appD tok 96 440 (osW (ipO es v T0 i)) [some (ints (wx T0 i))] hb ?_)|(refine ya ?_;first|(refine yb ?_;first|refine yc ?_)|refine ye ?_)|(refine yg ?_;intro hgs;first|(replace hgs:=zgy hgs;first|(refine yb ?_;first|refine yc ?_)|refine yy hgs ?_;clear hgs)|(refine yn (zgn hgs) ?_;clear hgs)|((fail_if_success have:=zgy hgs);refine z_spl hgs (h1:=?_) (h2:=?_)<;>clear hgs<;>intro hg hr<;>try first|contradiction|exfalso;omega))|refine yz ?_|refine zst ?_|refine k_blk_other rfl ?_|(refine zk ?_ ?_<;>intro hc hr<;>try first|contradiction|exfalso;omega))
      (refine z_lop (i + 1) (hj := ?_) (hmu := ?_) (henv := ?_) (hobj := ?_); (· omega); (· first | omega | (simp only; omega)); (· first | (simp [go_sem, AVm, CVm, lookS, hI, *]; done) | (simp [go_sem, AVm, CVm, lookS, hI, *] <;> (repeat' split) <;> first | omega | (simp_all; done) | (exfalso; omega) | (simp_all; omega))); (· first | (simp [go_sem, OBm, CVm, All2, lookS, hI, *]; done) | (simp [go_sem, OBm, CVm, All2, lookS, hI, *] <;> (repeat' split) <;> first | omega | (simp_all; done) | (exfalso; omega) | (simp_all; omega))))
    · have hI : ipO es v T0 (i + 1) = ipO es v T0 i := by rw [ipO, if_neg hc]
      by_cases c1 : rdL es v (wx T0 i) = (wx T0 i).length
      · have c2 : ¬ rdV es v (wx T0 i) = v := fun h => hc ⟨c1, h⟩
        clear hc
        repeat' (first|(refine ya ?_;first|(refine yb ?_;first|refine yc ?_)|refine ye ?_)|(refine yg ?_;intro hgs;first|(replace hgs:=zgy hgs;first|(refine yb ?_;first|refine yc ?_)|refine yy hgs ?_;clear hgs)|(refine yn (zgn hgs) ?_;clear hgs)|((fail_if_success have:=zgy hgs);refine z_spl hgs (h1:=?_) (h2:=?_)<;>clear hgs<;>intro hg hr<;>try first|contradiction|exfalso;omega))|refine yz ?_|refine zst ?_|refine k_blk_other rfl ?_|(refine zk ?_ ?_<;>intro hc hr<;>try first|contradiction|exfalso;omega))
        (refine z_lop (i + 1) (hj := ?_) (hmu := ?_) (henv := ?_) (hobj := ?_); (· omega); (· first | omega | (simp only; omega)); (· first | (simp [go_sem, AVm, CVm, lookS, hI, *]; done) | (simp [go_sem, AVm, CVm, lookS, hI, *] <;> (repeat' split) <;> first | omega | (simp_all; done) | (exfalso; omega) | (simp_all; omega))); (· first | (simp [go_sem, OBm, CVm, All2, lookS, hI, *]; done) | (simp [go_sem, OBm, CVm, All2, lookS, hI, *] <;> (repeat' split) <;> first | omega | (simp_all; done) | (exfalso; omega) | (simp_all; omega))))
      · clear hc
        repeat' (first|(refine ya ?_;first|(refine yb ?_;first|refine yc ?_)|refine ye ?_)|(refine yg ?_;intro hgs;first|(replace hgs:=zgy hgs;first|(refine yb ?_;first|refine yc ?_)|refine yy hgs ?_;clear hgs)|(refine yn (zgn hgs) ?_;clear hgs)|((fail_if_success have:=zgy hgs);refine z_spl hgs (h1:=?_) (h2:=?_)<;>clear hgs<;>intro hg hr<;>try first|contradiction|exfalso;omega))|refine yz ?_|refine zst ?_|refine k_blk_other rfl ?_|(refine zk ?_ ?_<;>intro hc hr<;>try first|contradiction|exfalso;omega))
        (refine z_lop (i + 1) (hj := ?_) (hmu := ?_) (henv := ?_) (hobj := ?_); (· omega); (· first | omega | (simp only; omega)); (· first | (simp [go_sem, AVm, CVm, lookS, hI, *]; done) | (simp [go_sem, AVm, CVm, lookS, hI, *] <;> (repeat' split) <;> first | omega | (simp_all; done) | (exfalso; omega) | (simp_all; omega))); (· first | (simp [go_sem, OBm, CVm, All2, lookS, hI, *]; done) | (simp [go_sem, OBm, CVm, All2, lookS, hI, *] <;> (repeat' split) <;> first | omega | (simp_all; done) | (exfalso; omega) | (simp_all; omega))))
  · have hii : i = T0.length := by omega
    subst hii
    rw [← hall]
    repeat' (first|(refine ya ?_;first|(refine yb ?_;first|refine yc ?_)|refine ye ?_)|(refine yg ?_;intro hgs;first|(replace hgs:=zgy hgs;first|(refine yb ?_;first|refine yc ?_)|refine yy hgs ?_;clear hgs)|(refine yn (zgn hgs) ?_;clear hgs)|((fail_if_success have:=zgy hgs);refine z_spl hgs (h1:=?_) (h2:=?_)<;>clear hgs<;>intro hg hr<;>try first|contradiction|exfalso;omega))|refine yz ?_|refine zst ?_|refine k_blk_other rfl ?_|(refine zk ?_ ?_<;>intro hc hr<;>try first|contradiction|exfalso;omega))
    refine z_retI (by first | exact .inl rfl | exact .inr rfl) ?_
    exact ⟨intss (ipO es v T0 T0.length), osW_map _, rfl⟩
end Go.Proofs.Try
