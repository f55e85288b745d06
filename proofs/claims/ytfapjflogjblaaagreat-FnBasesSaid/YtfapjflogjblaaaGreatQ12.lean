import Derived.Test.YtfapjflogjblaaaGreatZ
import Derived.Test.YtfapjflogjblaaaGreatG5
set_option maxHeartbeats 16000000
set_option maxRecDepth 20000
set_option linter.unusedVariables false
set_option linter.unusedSimpArgs false
set_option linter.unnecessarySimpa false
namespace Go.Proofs.Tryz
open Go Go.Eng
def caL (es : List Ed) (ws : List (List Int)) : Bool := ws.all fun w => lpB es (red w)
theorem caL_bad {es : List Ed} {ws : List (List Int)} {i : Nat} (hi : i < ws.length) (h : lpB es (red (wx ws i)) = false) : caL es ws = false := by
  rw [← Bool.not_eq_true]
  intro h2
  have := List.all_eq_true.1 h2 _ (wx_mem hi)
  rw [h] at this; cases this
theorem caL_all {es : List Ed} {ws : List (List Int)} (h : ∀ j, j < ws.length → lpB es (red (wx ws j)) = true) : caL es ws = true := by
  refine List.all_eq_true.2 fun w hw => ?_
  obtain ⟨i, hi, rfl⟩ := wx_of hw
  exact h i hi
noncomputable def caB (r z : Int) (es : List Ed) (ws : List (List Int)) : Bool := isC r z es && caL es ws
@[go_sem] def K_ctAll_sat (i : Nat) : List Nat := ([[1,2],[1,2,9],[4],[2,10,11,12],[2,10,11,12,13],[2,6,10,11,12],[2,10,11,12,20],[4],[2,10,11,12],[4]]).getD i []
def ctAll_sat_S : Eng.Spec := fun args av objs => ∃ (r z : Int) (es : List Ed) (ws : List (List Int)), (es.length ≤ 1048576 ∧ ws.length ≤ 1048576 ∧ (∀ w ∈ ws, w.length ≤ 4194304) ∧ (∀ w ∈ ws, ∀ x ∈ w, rg x)) ∧ args = [grA r z es, aW ws] ∧ av = aB (caB r z es ws) ∧ objs = []
theorem ctAll_sat : Sat Tryz.prog 15 ctAll_sat_S := by
  refine sat_of tok okr mixed K_ctAll_sat Tryz.func15 rfl (rs := [.tmp 4]) rfl Tryz.ntmps15 ?_
  rintro args av objs ⟨r, z, es, ws, hpre, rfl, rfl, rfl⟩
  refine ⟨by show 2 ≤ 22; decide, ?_⟩
  obtain ⟨he, hl, hw, hm⟩ := hpre
  unfold caB
  cases hok : isC r z es
  · repeat' (first|(refine ya ?_;first|refine yc ?_|refine ye ?_)|refine yz ?_|(refine yA ?_;first|refine yC ?_|refine yE ?_)|refine yZ ?_|refine zst ?_|refine zo ?_|(refine zk ?_ ?_<;>intro hc hr<;>try exact zx))
    all_goals try exact zv
  · have hg := isF_g (isC_f hok)
    repeat' (first|(refine ya ?_;first|refine yc ?_|refine ye ?_)|refine yz ?_|(refine yA ?_;first|refine yC ?_|refine yE ?_)|refine yZ ?_|refine zst ?_|refine zo ?_|(refine zk ?_ ?_<;>intro hc hr<;>try exact zx))
    refine z_loop (fun i : Nat => [(12, aI i)]) (fun i : Nat => []) (fun i : Nat => i ≤ ws.length ∧ ∀ j, j < i → lpB es (red (wx ws j)) = true) (fun i : Nat => ws.length - i) (0) (h0 := ?_) (henv := ?_) (hobj := ?_) (h := ?_)
    · exact ⟨by omega, fun j hj => by omega⟩
    · simp [go_sem, AVm, CVm, lookS]
    · simp [go_sem, OBm, CVm, lookS, All2]
    rintro i ⟨hi, hall⟩
    rcases Nat.lt_or_ge i ws.length with hlt | hge
    · have hwl := hw _ (wx_mem hlt)
      have hwm := hm _ (wx_mem hlt)
      have h1 := red_len (wx ws i)
      have h2 := red_rg hwm
      cases hb : lpB es (red (wx ws i))
      · rw [caL_bad hlt hb]
        repeat' (first|(refine ya ?_;first|refine yc ?_|refine ye ?_)|refine yz ?_|(refine yA ?_;first|refine yC ?_|refine yE ?_)|refine yZ ?_|refine zst ?_|refine zo ?_|(refine zk ?_ ?_<;>intro hc hr<;>try exact zx))
        all_goals try exact zv
      · repeat' (first|(refine ya ?_;first|refine yc ?_|refine ye ?_)|refine yz ?_|(refine yA ?_;first|refine yC ?_|refine yE ?_)|refine yZ ?_|refine zst ?_|refine zo ?_|(refine zk ?_ ?_<;>intro hc hr<;>try exact zx))
        exact zl (i + 1) (hj := by exact ⟨by omega, fun j hj => (Nat.lt_or_ge j i).elim (hall j) fun h => by rw [show j = i by omega]; exact hb⟩)
    · rw [caL_all fun j hj => hall j (by omega)]
      repeat' (first|(refine ya ?_;first|refine yc ?_|refine ye ?_)|refine yz ?_|(refine yA ?_;first|refine yC ?_|refine yE ?_)|refine yZ ?_|refine zst ?_|refine zo ?_|(refine zk ?_ ?_<;>intro hc hr<;>try exact zx))
      all_goals try exact zv
instance : Con Tryz.prog 15 ctAll_sat_S := con ctAll_sat Tryz.func15
end Go.Proofs.Tryz
