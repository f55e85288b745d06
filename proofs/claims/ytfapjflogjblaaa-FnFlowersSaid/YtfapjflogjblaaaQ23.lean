import Derived.Test.YtfapjflogjblaaaS2
set_option linter.unusedVariables false
set_option linter.unusedSimpArgs false
set_option linter.unnecessarySimpa false
/- Equal lists of words (the laws'). -/
namespace Go.Proofs.Try
open Go Go.Eng
set_option linter.unnecessarySimpa false
set_option linter.unusedSimpArgs false
set_option maxHeartbeats 4000000
set_option maxRecDepth 20000
def K_sameW_sat : Nat → List Nat := fun i => ([[0, 1], [0, 1, 10], [4], [0, 1, 5], [0, 1, 5, 14], [0, 1, 5], [0, 1, 5, 26], [4], [4]] : List (List Nat)).getD i []
attribute [go_sem] K_sameW_sat
def sameW_sat_S : Eng.Spec := fun args av objs => ∃ (a b : List (List Int)), (a.length ≤ 1048576 ∧ b.length ≤ 1048576 ∧ (∀ w ∈ a, w.length ≤ 1048576) ∧ (∀ w ∈ b, w.length ≤ 1048576)) ∧ args = [aW a, aW b] ∧ av = aB (decide (a = b)) ∧ objs = []
theorem sameW_sat : Sat Try.prog 25 sameW_sat_S := by
  refine sat_of tok okr mixed K_sameW_sat Try.func25 rfl (rs := [.tmp 4]) rfl Try.ntmps25 ?_
  rintro args av objs ⟨a, b, hpre, rfl, rfl, rfl⟩
  refine ⟨by show 2 ≤ 27; decide, ?_⟩
  obtain ⟨ha, hb, hma, hmb⟩ := hpre
  by_cases hl : a.length = b.length
  · repeat' (first|(refine ya ?_;first|(refine yb ?_;first|refine yc ?_)|refine ye ?_)|refine yz ?_|(refine yA ?_;first|(refine yB ?_;first|refine yC ?_)|refine yE ?_)|refine yZ ?_|refine zst ?_|refine k_blk_other rfl ?_|(refine zk ?_ ?_<;>intro hc hr<;>try first|contradiction|exfalso;omega))
    refine z_loop (fun i : Nat => [(5, aI i)]) (fun i : Nat => []) (fun i : Nat => i ≤ a.length ∧ ∀ j, j < i → wx a j = wx b j) (fun i : Nat => a.length - i) (0) (h0 := ?_) (henv := ?_) (hobj := ?_) (h := ?_)
    · exact ⟨by omega, fun j hj => by omega⟩
    · simp [go_sem, AVm, CVm, lookS]
    · simp [go_sem, OBm, CVm, lookS, All2]
    rintro i ⟨hi, hall⟩
    rcases Nat.lt_or_ge i a.length with hlt | hge
    · have hlt2 : i < b.length := by omega
      have m1 := hma _ (wx_mem hlt)
      have m2 := hmb _ (wx_mem hlt2)
      have m3 : (wx a i).length ≤ 1099511627776 := by omega
      by_cases he : wx a i = wx b i
      · have hd : decide (wx a i = wx b i) = true := decide_eq_true he
        repeat' (first|(refine ya ?_;first|(refine yb ?_;first|refine yc ?_)|refine ye ?_)|refine yz ?_|(refine yA ?_;first|(refine yB ?_;first|refine yC ?_)|refine yE ?_)|refine yZ ?_|refine zst ?_|refine k_blk_other rfl ?_|(refine zk ?_ ?_<;>intro hc hr<;>try first|contradiction|exfalso;omega))
        exact zl (i + 1) (hj := by exact ⟨by omega, fun j hj => (Nat.lt_or_ge j i).elim (hall j) fun h => by rw [show j = i by omega]; exact he⟩)
      · have hd : decide (wx a i = wx b i) = false := decide_eq_false he
        have hne : ¬ a = b := fun h => he (by rw [h])
        repeat' (first|(refine ya ?_;first|(refine yb ?_;first|refine yc ?_)|refine ye ?_)|refine yz ?_|(refine yA ?_;first|(refine yB ?_;first|refine yC ?_)|refine yE ?_)|refine yZ ?_|refine zst ?_|refine k_blk_other rfl ?_|(refine zk ?_ ?_<;>intro hc hr<;>try first|contradiction|exfalso;omega))
        all_goals first | (refine z_ret (hv := ?_) (ho := ?_) <;> first | rfl | (simp [go_sem, *]; done) | (simp_all; done) | (simp_all; omega)) | skip
    · have hx : a = b := wxs_ext3 hl fun j hj => hall j (by omega)
      have hd : decide (a = b) = true := by simp [hx]
      rw [hd]
      have hi2 : ¬ i < a.length := by omega
      clear hall hd hx
      repeat' (first|(refine ya ?_;first|(refine yb ?_;first|refine yc ?_)|refine ye ?_)|refine yz ?_|(refine yA ?_;first|(refine yB ?_;first|refine yC ?_)|refine yE ?_)|refine yZ ?_|refine zst ?_|refine k_blk_other rfl ?_|(refine zk ?_ ?_<;>intro hc hr<;>try first|contradiction|exfalso;omega))
      all_goals first | (refine z_ret (hv := ?_) (ho := ?_) <;> first | rfl | (simp [go_sem, *]; done) | (simp_all; done) | (simp_all; omega)) | skip
  · have hne : ¬ a = b := fun h => hl (by rw [h])
    repeat' (first|(refine ya ?_;first|(refine yb ?_;first|refine yc ?_)|refine ye ?_)|refine yz ?_|(refine yA ?_;first|(refine yB ?_;first|refine yC ?_)|refine yE ?_)|refine yZ ?_|refine zst ?_|refine k_blk_other rfl ?_|(refine zk ?_ ?_<;>intro hc hr<;>try first|contradiction|exfalso;omega))
    all_goals first | (refine z_ret (hv := ?_) (ho := ?_) <;> first | rfl | (simp [go_sem, *]; done) | (simp_all; done) | (simp_all; omega)) | skip
instance : Con Try.prog 25 sameW_sat_S := con sameW_sat Try.func25
end Go.Proofs.Try
