import Derived.Test.YtfgpcfdoahgkpaaQ19
import Derived.Test.YtfgpcfdoahgkpaaB
set_option linter.unusedVariables false
set_option linter.unusedSimpArgs false
set_option linter.unnecessarySimpa false
namespace Go.Proofs.Try
open Go Go.Eng
set_option linter.unnecessarySimpa false
set_option linter.unusedSimpArgs false
set_option maxHeartbeats 4000000
def K_law5 : Nat → List Nat := fun i => ([[0, 1], [0, 1, 16], [4], [0, 1, 5], [0, 1, 5], [0, 1, 21], [4], [0, 1, 6], [0, 1, 6, 7], [0, 1, 6, 7, 8], [0, 1, 6, 7, 8, 9], [0, 1, 6, 7, 8, 9, 37], [4], [0, 1, 6, 7, 8, 9, 42], [4], [0, 1, 6, 7, 8, 9, 47], [4], [0, 1, 6, 7, 8, 9, 10], [0, 1, 6, 8, 9, 10], [0, 1, 6, 9, 10], [0, 1, 6, 9, 61], [4], [0, 1, 6, 9, 11], [0, 1, 6, 9, 11], [0, 1, 6, 9, 11, 12], [0, 1, 6, 9, 11, 12], [0, 1, 6, 9, 11, 12, 69], [4], [0, 1, 6, 9, 11, 72], [4], [6, 9, 11, 13], [9, 11, 81], [4], [9, 11, 12], [11, 12], [11, 12, 86], [4], [89], [4], [4]] : List (List Nat)).getD i []
attribute [go_sem] K_law5
def law5_S : Eng.Spec := fun args av objs => ∃ (ws1 : List (List Int)) (l2 : List Int), ((ws1.length ≤ 9223372036854775807 ∧ (∀ w ∈ ws1, w.length ≤ 9223372036854775807 ∧ ∀ n ∈ w, rg n)) ∧ (l2.length ≤ 9223372036854775807 ∧ (∀ n ∈ l2, rg n))) ∧ args = [aW ws1, aL l2] ∧ av = aB true ∧ objs = []
theorem law5 : Sat Try.prog 3 law5_S := by
  refine sat_of tok okr mixed K_law5 Try.func3 rfl (rs := [.tmp 4]) rfl Try.ntmps3 ?_
  rintro args av objs ⟨ws1, l2, hpre, rfl, rfl, rfl⟩
  refine ⟨by show 2 ≤ 90; decide, ?_⟩
  obtain ⟨⟨hp1, hq1⟩, ⟨hp2, hq2⟩⟩ := hpre
  have hwn1 : ∀ w ∈ ws1, w.length ≤ 9223372036854775807 := fun w hw => (hq1 w hw).1
  have hwx1 : ∀ w ∈ ws1, ∀ x ∈ w, rg x := fun w hw => (hq1 w hw).2
  by_cases hs0 : totW ws1 ≤ 1048576
  · by_cases hs1 : l2.length ≤ 1048576
    · have hw11 := tot_mem (ws := ws1) (n := 1048576) (by omega)
      have hw21 := tot_len (ws := ws1) (n := 1048576) (by omega)
      have hw41 : ∀ w ∈ ws1, w.length ≤ 4194304 := fun w hw => by have := hw11 w hw; omega
      have hw51 : ∀ w ∈ ws1, w.length ≤ 1099511627776 := fun w hw => by have := hw11 w hw; omega
      have hel := exV_len (l := l2) hw11 hwx1
      have hmt : 1 ≤ mkT ws1 1 := mkS_ge
      have hmu : mkT ws1 1 ≤ 1 + totW ws1 := mkS_le (Nat.le_refl _)
      repeat' (first|(refine ya ?_;first|(refine yb ?_;first|refine yc ?_|refine yr ?_)|refine ye ?_)|(refine yg ?_;intro hgs;first|(replace hgs:=zgy hgs;first|(refine yb ?_;first|refine yc ?_|refine yr ?_)|refine yy hgs ?_;clear hgs)|(refine yn (zgn hgs) ?_;clear hgs)|((fail_if_success have:=zgy hgs);refine z_spl hgs (h1:=?_) (h2:=?_)<;>clear hgs<;>intro hg hr<;>try first|contradiction|exfalso;omega))|refine yz ?_|refine zst ?_|refine k_blk_other rfl ?_|(refine zk ?_ ?_<;>intro hc hr<;>try first|contradiction|exfalso;omega))
      all_goals first | (refine z_ret (hv := ?_) (ho := ?_) <;> first | rfl | (simp [go_sem, *]; done) | (simp_all; done) | (simp_all; omega)) | skip
    · repeat' (first|(refine ya ?_;first|(refine yb ?_;first|refine yc ?_|refine yr ?_)|refine ye ?_)|(refine yg ?_;intro hgs;first|(replace hgs:=zgy hgs;first|(refine yb ?_;first|refine yc ?_|refine yr ?_)|refine yy hgs ?_;clear hgs)|(refine yn (zgn hgs) ?_;clear hgs)|((fail_if_success have:=zgy hgs);refine z_spl hgs (h1:=?_) (h2:=?_)<;>clear hgs<;>intro hg hr<;>try first|contradiction|exfalso;omega))|refine yz ?_|refine zst ?_|refine k_blk_other rfl ?_|(refine zk ?_ ?_<;>intro hc hr<;>try first|contradiction|exfalso;omega))
      all_goals first | (refine z_ret (hv := ?_) (ho := ?_) <;> first | rfl | (simp [go_sem, *]; done) | (simp_all; done) | (simp_all; omega)) | skip
  · repeat' (first|(refine ya ?_;first|(refine yb ?_;first|refine yc ?_|refine yr ?_)|refine ye ?_)|(refine yg ?_;intro hgs;first|(replace hgs:=zgy hgs;first|(refine yb ?_;first|refine yc ?_|refine yr ?_)|refine yy hgs ?_;clear hgs)|(refine yn (zgn hgs) ?_;clear hgs)|((fail_if_success have:=zgy hgs);refine z_spl hgs (h1:=?_) (h2:=?_)<;>clear hgs<;>intro hg hr<;>try first|contradiction|exfalso;omega))|refine yz ?_|refine zst ?_|refine k_blk_other rfl ?_|(refine zk ?_ ?_<;>intro hc hr<;>try first|contradiction|exfalso;omega))
    all_goals first | (refine z_ret (hv := ?_) (ho := ?_) <;> first | rfl | (simp [go_sem, *]; done) | (simp_all; done) | (simp_all; omega)) | skip
theorem law5_of {l : List AV} (h : All2 (ShA T) [22, 23] l) : law5_S l (.one (.sc (.bool true))) [] := by
  obtain ⟨c1, c2, rfl, hh1, hh2⟩ := all2_2 h
  obtain ⟨ws1, rfl, p1, q1⟩ := shIntSS hh1
  obtain ⟨l2, rfl, p2, q2⟩ := shInts T23 T3 hh2
  exact ⟨ws1, l2, ⟨⟨p1, q1⟩, ⟨p2, q2⟩⟩, rfl, rfl, rfl⟩
instance : Con Try.prog 3 law5_S := con law5 Try.func3
end Go.Proofs.Try
