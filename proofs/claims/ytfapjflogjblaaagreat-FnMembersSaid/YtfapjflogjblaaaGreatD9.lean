import Derived.Test.YtfapjflogjblaaaGreatD1
import Derived.Test.YtfapjflogjblaaaGreatA
import Derived.Test.YtfapjflogjblaaaGreatC
set_option linter.unusedVariables false
set_option linter.unusedSimpArgs false
set_option linter.unnecessarySimpa false
/- The laws' own helpers. -/
namespace Go.Proofs.Tryz
open Go Go.Eng
set_option linter.unnecessarySimpa false
set_option linter.unusedSimpArgs false
set_option maxHeartbeats 4000000
theorem shBytes {t e : Nat} (ht : T t = .sl e) (he : T e = .u8) {a : AV} (h : ShA T t a) : ∃ l : List Int, a = .one (.imm 1 (bys l)) ∧ l.length ≤ 9223372036854775807 := by
  simp only [ShA, ht] at h
  obtain ⟨c, rfl, h⟩ := h
  simp only [ShC, ht, he] at h
  obtain ⟨xs, rfl, hl, h⟩ := h
  have : ∃ l : List Int, xs = bys l := by
    clear hl
    induction xs with
    | nil => exact ⟨[], rfl⟩
    | cons x xs ih =>
      obtain ⟨l, rfl⟩ := ih (fun el hel => h el (by simp [hel]))
      have hx := h x (by simp)
      simp only [ShE, he] at hx
      obtain ⟨s, rfl, hs⟩ := hx
      cases s <;> first | exact ⟨_ :: l, rfl⟩ | exact hs.elim
  obtain ⟨l, rfl⟩ := this
  exact ⟨l, by simp [kOf, he], by rw [← bysLen l, ← maxLen_eq]; exact hl⟩
def K_big_sat : Nat → List Nat := fun i => ([[0], [2]] : List (List Nat)).getD i []
attribute [go_sem] K_big_sat
def big_sat_S : Eng.Spec := fun args av objs => ∃ (cd : List Int), (cd.length ≤ 9223372036854775807) ∧ args = [.one (.imm 1 (bys cd))] ∧ av = aB (decide (1048576 < (cd.length : Int))) ∧ objs = []
theorem big_sat : Sat Tryz.prog 5 big_sat_S := by
  refine sat_of tok okr mixed K_big_sat Tryz.func5 rfl (rs := [.tmp 2]) rfl Tryz.ntmps5 ?_
  rintro args av objs ⟨cd, hpre, rfl, rfl, rfl⟩
  refine ⟨by show 1 ≤ 6; decide, ?_⟩
  repeat' (first|(refine ya ?_;first|refine ye ?_)|refine yz ?_|refine zst ?_|refine k_blk_other rfl ?_|(refine zk ?_ ?_<;>intro hc hr<;>try first|contradiction|exfalso;omega))
  all_goals first | (refine z_ret (hv := ?_) (ho := ?_) <;> first | rfl | (simp [go_sem, *]; done) | (simp_all; done) | (simp_all; omega)) | skip
instance : Con Tryz.prog 5 big_sat_S := con big_sat Tryz.func5
end Go.Proofs.Tryz
