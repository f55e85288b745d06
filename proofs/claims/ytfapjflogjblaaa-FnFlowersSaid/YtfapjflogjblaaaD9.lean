import Derived.Test.YtfapjflogjblaaaD1
import Derived.Test.YtfapjflogjblaaaA
import Derived.Test.YtfapjflogjblaaaC
set_option linter.unusedVariables false
set_option linter.unusedSimpArgs false
set_option linter.unnecessarySimpa false
/- The laws' own helpers. -/
namespace Go.Proofs.Try
open Go Go.Eng
set_option linter.unnecessarySimpa false
set_option linter.unusedSimpArgs false
set_option maxHeartbeats 4000000
theorem shBytes {t e : Nat} (ht : T t = .sl e) (he : T e = .u8) {a : AV} (h : ShA T t a) : ∃ l : List Int, a = .one (.imm 1 (bys l)) ∧ l.length ≤ 9223372036854775807 := by
  simp only [ShA, ht] at h
  obtain ⟨c, rfl, h⟩ := h
  simp only [ShC, ht, he] at h
  obtain ⟨xs, rfl, hl, h⟩ := h
  have : ∃ l : List Int, xs = bys l := by
    clear hl
    induction xs with
    | nil => exact ⟨[], rfl⟩
    | cons x xs ih =>
      obtain ⟨l, rfl⟩ := ih (fun el hel => h el (by simp [hel]))
      have hx := h x (by simp)
      simp only [ShE, he] at hx
      obtain ⟨s, rfl, hs⟩ := hx
      cases s <;> first | exact ⟨_ :: l, rfl⟩ | exact hs.elim
  obtain ⟨l, rfl⟩ := this
  exact ⟨l, by simp [kOf, he], by rw [← bysLen l, ← maxLen_eq]; exact hl⟩
theorem ints_ext2 {xs ys : List Int} (hl : xs.length = ys.length) (h : ∀ j, j < xs.length → ix xs j = ix ys j) : xs = ys := by
  apply List.ext_getElem hl
  intro i h1 h2
  have := h i h1
  simpa [ix, h1, h2] using this
theorem eds_ext2 {xs ys : List Ed} (hl : xs.length = ys.length) (h : ∀ j, j < xs.length → ed xs j = ed ys j) : xs = ys := by
  apply List.ext_getElem hl
  intro i h1 h2
  have := h i h1
  simpa [ed, h1, h2] using this
def K_big_sat : Nat → List Nat := fun i => ([[0], [2]] : List (List Nat)).getD i []
attribute [go_sem] K_big_sat
def big_sat_S : Eng.Spec := fun args av objs => ∃ (cd : List Int), (cd.length ≤ 9223372036854775807) ∧ args = [.one (.imm 1 (bys cd))] ∧ av = aB (decide (1048576 < (cd.length : Int))) ∧ objs = []
theorem big_sat : Sat Try.prog 4 big_sat_S := by
  refine sat_of tok okr mixed K_big_sat Try.func4 rfl (rs := [.tmp 2]) rfl Try.ntmps4 ?_
  rintro args av objs ⟨cd, hpre, rfl, rfl, rfl⟩
  refine ⟨by show 1 ≤ 6; decide, ?_⟩
  repeat' (first|(refine ya ?_;first|refine ye ?_)|refine yz ?_|refine zst ?_|refine k_blk_other rfl ?_|(refine zk ?_ ?_<;>intro hc hr<;>try first|contradiction|exfalso;omega))
  all_goals first | (refine z_ret (hv := ?_) (ho := ?_) <;> first | rfl | (simp [go_sem, *]; done) | (simp_all; done) | (simp_all; omega)) | skip
instance : Con Try.prog 4 big_sat_S := con big_sat Try.func4
def K_sameI_sat : Nat → List Nat := fun i => ([[0, 1], [0, 1, 10], [4], [0, 1, 5], [0, 1, 5, 14], [0, 1, 5], [0, 1, 5, 25], [4], [4]] : List (List Nat)).getD i []
attribute [go_sem] K_sameI_sat
def sameI_sat_S : Eng.Spec := fun args av objs => ∃ (xs ys : List Int), (xs.length ≤ 1099511627776) ∧ args = [aL xs, aL ys] ∧ av = aB (decide (xs = ys)) ∧ objs = []
theorem sameI_sat : Sat Try.prog 61 sameI_sat_S := by
  refine sat_of tok okr mixed K_sameI_sat Try.func61 rfl (rs := [.tmp 4]) rfl Try.ntmps61 ?_
  rintro args av objs ⟨xs, ys, hpre, rfl, rfl, rfl⟩
  refine ⟨by show 2 ≤ 26; decide, ?_⟩
  by_cases hl : xs.length = ys.length
  · repeat' (first|(refine ya ?_;first|refine ye ?_)|refine yz ?_|(refine yA ?_;first|refine yE ?_)|refine yZ ?_|refine zst ?_|refine k_blk_other rfl ?_|(refine zk ?_ ?_<;>intro hc hr<;>try first|contradiction|exfalso;omega))
    refine z_loop (fun i : Nat => [(5, aI i)]) (fun i : Nat => []) (fun i : Nat => i ≤ xs.length ∧ ∀ j, j < i → ix xs j = ix ys j) (fun i : Nat => xs.length - i) (0) (h0 := ?_) (henv := ?_) (hobj := ?_) (h := ?_)
    · exact ⟨by omega, fun j hj => by omega⟩
    · simp [go_sem, AVm, CVm, lookS]
    · simp [go_sem, OBm, CVm, lookS, All2]
    rintro i ⟨hi, hall⟩
    rcases Nat.lt_or_ge i xs.length with hlt | hge
    · have hlt2 : i < ys.length := by omega
      by_cases he : ix xs i = ix ys i
      · repeat' (first|(refine ya ?_;first|refine ye ?_)|refine yz ?_|(refine yA ?_;first|refine yE ?_)|refine yZ ?_|refine zst ?_|refine k_blk_other rfl ?_|(refine zk ?_ ?_<;>intro hc hr<;>try first|contradiction|exfalso;omega))
        exact zl (i + 1) (hj := by exact ⟨by omega, fun j hj => (Nat.lt_or_ge j i).elim (hall j) fun h => by rw [show j = i by omega]; exact he⟩)
      · have hne : ¬ xs = ys := fun h => he (by rw [h])
        repeat' (first|(refine ya ?_;first|refine ye ?_)|refine yz ?_|(refine yA ?_;first|refine yE ?_)|refine yZ ?_|refine zst ?_|refine k_blk_other rfl ?_|(refine zk ?_ ?_<;>intro hc hr<;>try first|contradiction|exfalso;omega))
        all_goals first | (refine z_ret (hv := ?_) (ho := ?_) <;> first | rfl | (simp [go_sem, *]; done) | (simp_all; done) | (simp_all; omega)) | skip
    · have hx : xs = ys := ints_ext2 hl fun j hj => hall j (by omega)
      have hd : decide (xs = ys) = true := by simp [hx]
      rw [hd]
      have hi2 : ¬ i < xs.length := by omega
      clear hall hd hx
      repeat' (first|(refine ya ?_;first|refine ye ?_)|refine yz ?_|(refine yA ?_;first|refine yE ?_)|refine yZ ?_|refine zst ?_|refine k_blk_other rfl ?_|(refine zk ?_ ?_<;>intro hc hr<;>try first|contradiction|exfalso;omega))
      all_goals first | (refine z_ret (hv := ?_) (ho := ?_) <;> first | rfl | (simp [go_sem, *]; done) | (simp_all; done) | (simp_all; omega)) | skip
  · have hne : ¬ xs = ys := fun h => hl (by rw [h])
    repeat' (first|(refine ya ?_;first|refine ye ?_)|refine yz ?_|(refine yA ?_;first|refine yE ?_)|refine yZ ?_|refine zst ?_|refine k_blk_other rfl ?_|(refine zk ?_ ?_<;>intro hc hr<;>try first|contradiction|exfalso;omega))
    all_goals first | (refine z_ret (hv := ?_) (ho := ?_) <;> first | rfl | (simp [go_sem, *]; done) | (simp_all; done) | (simp_all; omega)) | skip
instance : Con Try.prog 61 sameI_sat_S := con sameI_sat Try.func61
end Go.Proofs.Try
