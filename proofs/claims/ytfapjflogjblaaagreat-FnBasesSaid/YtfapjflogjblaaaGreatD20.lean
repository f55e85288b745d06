import Derived.Test.YtfapjflogjblaaaGreatD17
import Derived.Test.YtfapjflogjblaaaGreatD9
import Derived.Test.YtfapjflogjblaaaGreatQ21
set_option maxHeartbeats 16000000
set_option maxRecDepth 20000
set_option linter.unusedVariables false
set_option linter.unusedSimpArgs false
set_option linter.unnecessarySimpa false
namespace Go.Proofs.Tryz
open Go Go.Eng
theorem wxs_ext {xs ys : List (List Int)} (hl : xs.length = ys.length) (h : ∀ j, j < xs.length → wx xs j = wx ys j) : xs = ys := by
  apply List.ext_getElem hl
  intro i h1 h2
  have := h i h1
  simpa [wx, h1, h2] using this
@[go_sem] def K_sameW_sat (i : Nat) : List Nat := ([[0,1],[0,1,10],[4],[0,1,5],[0,1,5,14],[0,1,5],[0,1,5,26],[4],[4]]).getD i []

def sameW_sat_S : Eng.Spec := fun args av objs => ∃ (a b : List (List Int)), (a.length ≤ 1048576 ∧ b.length ≤ 1048576 ∧ (∀ w ∈ a, w.length ≤ 1048576) ∧ (∀ w ∈ b, w.length ≤ 1048576)) ∧ args = [aW a, aW b] ∧ av = aB (decide (a = b)) ∧ objs = []
theorem sameW_sat : Sat Tryz.prog 8 sameW_sat_S := by
  refine sat_of tok okr mixed K_sameW_sat Tryz.func8 rfl (rs := [.tmp 4]) rfl Tryz.ntmps8 ?_
  rintro args av objs ⟨a, b, hpre, rfl, rfl, rfl⟩
  refine ⟨by show 2 ≤ 27; decide, ?_⟩
  obtain ⟨ha, hb, hma, hmb⟩ := hpre
  by_cases hl : a.length = b.length
  · repeat' (first|(refine ya ?_;first|refine yc ?_|refine ye ?_)|refine yz ?_|(refine yA ?_;first|refine yC ?_|refine yE ?_)|refine yZ ?_|refine zst ?_|refine zo ?_|(refine zk ?_ ?_<;>intro hc hr<;>try exact zx))
    refine z_loop (fun i : Nat => [(5, aI i)]) (fun i : Nat => []) (fun i : Nat => i ≤ a.length ∧ ∀ j, j < i → wx a j = wx b j) (fun i : Nat => a.length - i) (0) (h0 := ?_) (henv := ?_) (hobj := ?_) (h := ?_)
    · exact ⟨by omega, fun j hj => by omega⟩
    · simp [go_sem, AVm, CVm, lookS]
    · simp [go_sem, OBm, CVm, lookS, All2]
    rintro i ⟨hi, hall⟩
    rcases Nat.lt_or_ge i a.length with hlt | hge
    · have hlt2 : i < b.length := by omega
      have m1 := hma _ (wx_mem hlt)
      have m2 := hmb _ (wx_mem hlt2)
      have m3 : (wx a i).length ≤ 1099511627776 := by omega
      by_cases he : wx a i = wx b i
      · have hd : decide (wx a i = wx b i) = true := decide_eq_true he
        repeat' (first|(refine ya ?_;first|refine yc ?_|refine ye ?_)|refine yz ?_|(refine yA ?_;first|refine yC ?_|refine yE ?_)|refine yZ ?_|refine zst ?_|refine zo ?_|(refine zk ?_ ?_<;>intro hc hr<;>try exact zx))
        exact zl (i + 1) (hj := by exact ⟨by omega, fun j hj => (Nat.lt_or_ge j i).elim (hall j) fun h => by rw [show j = i by omega]; exact he⟩)
      · have hd : decide (wx a i = wx b i) = false := decide_eq_false he
        have hne : ¬ a = b := fun h => he (by rw [h])
        repeat' (first|(refine ya ?_;first|refine yc ?_|refine ye ?_)|refine yz ?_|(refine yA ?_;first|refine yC ?_|refine yE ?_)|refine yZ ?_|refine zst ?_|refine zo ?_|(refine zk ?_ ?_<;>intro hc hr<;>try exact zx))
        all_goals try exact zv
    · have hx : a = b := wxs_ext hl fun j hj => hall j (by omega)
      have hd : decide (a = b) = true := by simp [hx]
      rw [hd]
      have hi2 : ¬ i < a.length := by omega
      clear hall hd hx
      repeat' (first|(refine ya ?_;first|refine yc ?_|refine ye ?_)|refine yz ?_|(refine yA ?_;first|refine yC ?_|refine yE ?_)|refine yZ ?_|refine zst ?_|refine zo ?_|(refine zk ?_ ?_<;>intro hc hr<;>try exact zx))
      all_goals try exact zv
  · have hne : ¬ a = b := fun h => hl (by rw [h])
    repeat' (first|(refine ya ?_;first|refine yc ?_|refine ye ?_)|refine yz ?_|(refine yA ?_;first|refine yC ?_|refine yE ?_)|refine yZ ?_|refine zst ?_|refine zo ?_|(refine zk ?_ ?_<;>intro hc hr<;>try exact zx))
    all_goals try exact zv
def wl : Nat → List Ed
  | 0 => []
  | n + 1 => wl n ++ [((0 : Int), ((n : Int) + 1), (0 : Int))]
def eulG (r z : Int) (es : List Ed) : Int := if isG r z es = true then z - es.length else 0
instance : Con Tryz.prog 8 sameW_sat_S := con sameW_sat Tryz.func8
@[go_sem] def K_euler_sat (i : Nat) : List Nat := ([[1],[1,5],[2],[2]]).getD i []

def euler_sat_S : Eng.Spec := fun args av objs => ∃ (r z : Int) (es : List Ed), (es.length ≤ 1048576) ∧ args = [grA r z es] ∧ av = aI (eulG r z es) ∧ objs = []
theorem euler_sat : Sat Tryz.prog 12 euler_sat_S := by
  refine sat_of tok okr mixed K_euler_sat Tryz.func12 rfl (rs := [.tmp 2]) rfl Tryz.ntmps12 ?_
  rintro args av objs ⟨r, z, es, hpre, rfl, rfl, rfl⟩
  refine ⟨by show 1 ≤ 12; decide, ?_⟩
  cases hG : isG r z es
  · have e : eulG r z es = 0 := by unfold eulG; rw [hG]; rfl
    rw [e]
    repeat' (first|(refine ya ?_;first|refine yc ?_|refine ye ?_)|refine yz ?_|refine zst ?_|refine zo ?_|(refine zk ?_ ?_<;>intro hc hr<;>try exact zx))
    all_goals try exact zv
  · have e : eulG r z es = z - es.length := by unfold eulG; rw [if_pos hG]
    have hz := isG_z hG
    rw [e]
    repeat' (first|(refine ya ?_;first|refine yc ?_|refine ye ?_)|refine yz ?_|refine zst ?_|refine zo ?_|(refine zk ?_ ?_<;>intro hc hr<;>try exact zx))
    all_goals try exact zv
instance : Con Tryz.prog 12 euler_sat_S := con euler_sat Tryz.func12
@[go_sem] def K_euler_sat2 (i : Nat) : List Nat := ([[1],[1,5],[2],[2]]).getD i []

def euler_sat2_S : Eng.Spec := fun args av objs => ∃ (r z : Int) (es : List Ed), (es.length ≤ 1048576) ∧ args = [grA r z es] ∧ av = aI (eulG r z es) ∧ objs = []
theorem euler_sat2 : Sat Tryz.prog 13 euler_sat2_S := by
  refine sat_of tok okr mixed K_euler_sat2 Tryz.func13 rfl (rs := [.tmp 2]) rfl Tryz.ntmps13 ?_
  rintro args av objs ⟨r, z, es, hpre, rfl, rfl, rfl⟩
  refine ⟨by show 1 ≤ 12; decide, ?_⟩
  cases hG : isG r z es
  · have e : eulG r z es = 0 := by unfold eulG; rw [hG]; rfl
    rw [e]
    repeat' (first|(refine ya ?_;first|refine yc ?_|refine ye ?_)|refine yz ?_|refine zst ?_|refine zo ?_|(refine zk ?_ ?_<;>intro hc hr<;>try exact zx))
    all_goals try exact zv
  · have e : eulG r z es = z - es.length := by unfold eulG; rw [if_pos hG]
    have hz := isG_z hG
    rw [e]
    repeat' (first|(refine ya ?_;first|refine yc ?_|refine ye ?_)|refine yz ?_|refine zst ?_|refine zo ?_|(refine zk ?_ ?_<;>intro hc hr<;>try exact zx))
    all_goals try exact zv
instance : Con Tryz.prog 13 euler_sat2_S := con euler_sat2 Tryz.func13
end Go.Proofs.Tryz
