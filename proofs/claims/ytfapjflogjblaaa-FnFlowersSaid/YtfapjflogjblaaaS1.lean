import Derived.Test.YtfapjflogjblaaaJ2
import Derived.Test.YtfapjflogjblaaaS
import Derived.Test.YtfapjflogjblaaaK
set_option linter.unusedVariables false
set_option linter.unusedSimpArgs false
set_option linter.unnecessarySimpa false
/- Letters and words as texts. -/
namespace Go.Proofs.Try
open Go Go.Eng
set_option linter.unnecessarySimpa false
set_option linter.unusedSimpArgs false
set_option maxHeartbeats 8000000
set_option maxRecDepth 20000
/-! ### Bytes -/
def byt (s : List Int) : Prop := ∀ n ∈ s, 0 ≤ n ∧ n ≤ 255
theorem strI_inj {a b : List Int} (ha : byt a) (hb : byt b) (h : strI a = strI b) : a = b := by
  have h1 : a.map (fun n => UInt8.ofNat n.toNat) = b.map (fun n => UInt8.ofNat n.toNat) := by
    have := congrArg (fun x : ByteArray => x.data.toList) h
    simpa [strI] using this
  have hl : a.length = b.length := by simpa using congrArg List.length h1
  apply List.ext_getElem hl
  intro i h2 h3
  have h4 : (a.map (fun n => UInt8.ofNat n.toNat))[i]'(by simpa using h2) = (b.map (fun n => UInt8.ofNat n.toNat))[i]'(by simpa using h3) := by simp only [h1]
  simp only [List.getElem_map] at h4
  have h5 := congrArg UInt8.toNat h4
  have a1 := ha _ (List.getElem_mem h2)
  have b1 := hb _ (List.getElem_mem h3)
  simp at h5
  omega
theorem toList_data (b : ByteArray) : b.toList = b.data.toList := by
  have hs : b.size = b.data.toList.length := (Array.length_toList).symm
  have hloop : ∀ (n i : Nat) (r : List UInt8), b.size - i = n → ByteArray.toList.loop b i r = r.reverse ++ b.data.toList.drop i := by
    intro n
    induction n with
    | zero =>
      intro i r h
      unfold ByteArray.toList.loop
      rw [if_neg (by omega), List.drop_eq_nil_of_le (by omega), List.append_nil]
    | succ n ih =>
      intro i r h
      unfold ByteArray.toList.loop
      have hi : i < b.data.toList.length := by omega
      rw [if_pos (by omega), ih (i + 1) _ (by omega), List.drop_eq_getElem_cons hi]
      have hg : b.get! i = b.data.toList[i] := by
        show b.data[i]! = _
        rw [getElem!_pos b.data i (by simpa using hi)]
        simp
      rw [hg]
      simp
  unfold ByteArray.toList
  rw [hloop b.size 0 [] (by omega)]
  rfl
theorem strEq {a b : List Int} (ha : byt a) (hb : byt b) : ((strI a).toList == (strI b).toList) = decide (a = b) := by
  rw [Bool.eq_iff_iff, beq_iff_eq, decide_eq_true_eq]
  constructor
  · intro h
    rw [toList_data, toList_data] at h
    exact strI_inj ha hb (ByteArray.ext (Array.ext' h))
  · intro h; rw [h]
theorem strE0 (l : List Int) : (strI l).toList.isEmpty = decide (l = []) := by
  rw [toList_data]
  cases l <;> simp [strI]
theorem strE1 (l : List Int) : ((strI l).toList == []) = decide (l = []) := by
  rw [toList_data]
  cases l <;> simp [strI]
theorem strCat {a b : List Int} : byt a → byt b → byt (a ++ b) := fun ha hb n hn => by
  rcases List.mem_append.1 hn with h | h
  · exact ha n h
  · exact hb n h
/-! ### A letter as a text -/
def ltx (x : Int) : List Int := if 1 ≤ x ∧ x ≤ 3 then [96 + x] else if -3 ≤ x ∧ x ≤ -1 then [64 - x] else []
def ltB (x : Int) : Bool := decide (x ≠ 0 ∧ -3 ≤ x ∧ x ≤ 3)
theorem ltB_iff {x : Int} : ltB x = true ↔ x = 1 ∨ x = 2 ∨ x = 3 ∨ x = -1 ∨ x = -2 ∨ x = -3 := by unfold ltB; rw [decide_eq_true_eq]; omega
theorem ltx_len (x : Int) : (ltx x).length = if ltB x then 1 else 0 := by
  unfold ltx ltB
  split
  · rw [decide_eq_true (by omega)]; rfl
  · split
    · rw [decide_eq_true (by omega)]; rfl
    · rw [decide_eq_false (by omega)]; rfl
theorem ltx_byt (x : Int) : byt (ltx x) := by
  unfold ltx
  split
  · intro n hn; simp at hn; omega
  · split
    · intro n hn; simp at hn; omega
    · intro n hn; cases hn
/-- The first i letters of a word as a text. -/
def fwN (w : List Int) : Nat → List Int
  | 0 => []
  | i + 1 => fwN w i ++ ltx (ix w i)
def fwS (w : List Int) : List Int := if w = [] then [49] else if w.all ltB then fwN w w.length else []
theorem fwN_byt (w : List Int) : ∀ i, byt (fwN w i)
  | 0 => fun n hn => by cases hn
  | i + 1 => strCat (fwN_byt w i) (ltx_byt _)
theorem fwN_len (w : List Int) : ∀ i, (fwN w i).length ≤ i
  | 0 => by simp [fwN]
  | i + 1 => by
    have h1 := fwN_len w i
    have h2 := ltx_len (ix w i)
    rw [fwN, List.length_append, h2]
    split <;> omega
theorem fwN_len2 {w : List Int} : ∀ {i : Nat}, (∀ j, j < i → ltB (ix w j) = true) → (fwN w i).length = i
  | 0, _ => rfl
  | i + 1, h => by
    rw [fwN, List.length_append, fwN_len2 (fun j hj => h j (by omega)), ltx_len, h i (by omega)]
    rfl
theorem fwS_byt (w : List Int) : byt (fwS w) := by
  unfold fwS
  split
  · intro n hn; simp at hn; omega
  · split
    · exact fwN_byt w _
    · intro n hn; cases hn
theorem all_bad {w : List Int} {i : Nat} (hi : i < w.length) (h : ltB (ix w i) = false) : w.all ltB = false := by
  rw [← Bool.not_eq_true]
  intro h2
  have := List.all_eq_true.1 h2 _ (ix_mem hi)
  rw [h] at this; cases this
theorem all_good {w : List Int} (h : ∀ j, j < w.length → ltB (ix w j) = true) : w.all ltB = true := by
  refine List.all_eq_true.2 fun x hx => ?_
  obtain ⟨i, hi, rfl⟩ := List.mem_iff_getElem.1 hx
  have := h i hi
  simpa [ix, hi] using this
theorem nil_of {w : List Int} (h : w.length = 0) : w = [] := List.eq_nil_of_length_eq_zero h
attribute [go_sem] strE1 strE0
def K_letterText_sat : Nat → List Nat := fun i => ([[0], [0, 3], [2], [0, 10], [2], [2]] : List (List Nat)).getD i []
attribute [go_sem] K_letterText_sat
def letterText_sat_S : Eng.Spec := fun args av objs => ∃ (x : Int), (rg x) ∧ args = [aI x] ∧ av = aS (strI (ltx x)) ∧ objs = []
theorem letterText_sat : Sat Try.prog 77 letterText_sat_S := by
  refine sat_of tok okr mixed K_letterText_sat Try.func77 rfl (rs := [.tmp 2]) rfl Try.ntmps77 ?_
  rintro args av objs ⟨x, hpre, rfl, rfl, rfl⟩
  refine ⟨by show 1 ≤ 19; decide, ?_⟩
  unfold rg at hpre
  cases hb : ltB x
  · have h : ¬ (1 ≤ x ∧ x ≤ 3) ∧ ¬ (-3 ≤ x ∧ x ≤ -1) := by unfold ltB at hb; rw [decide_eq_false_iff_not] at hb; omega
    obtain ⟨h1, h2⟩ := h
    have e : ltx x = [] := by unfold ltx; rw [if_neg h1, if_neg h2]
    rw [e]
    clear hb e
    repeat' (first|(refine ya ?_;first|(refine yb ?_;first|refine yc ?_)|refine ye ?_)|refine yz ?_|refine zst ?_|refine k_blk_other rfl ?_|(refine zk ?_ ?_<;>intro hc hr<;>try first|contradiction|exfalso;omega))
    all_goals first | (refine z_ret (hv := ?_) (ho := ?_) <;> first | rfl | (simp [go_sem, *]; done) | (simp_all; done) | (simp_all; omega)) | skip
  · rcases ltB_iff.1 hb with rfl | rfl | rfl | rfl | rfl | rfl
    all_goals clear hb
    all_goals repeat' (first|(refine ya ?_;first|(refine yb ?_;first|refine yc ?_)|refine ye ?_)|refine yz ?_|refine zst ?_|refine k_blk_other rfl ?_|(refine zk ?_ ?_<;>intro hc hr<;>try first|contradiction|exfalso;omega))
    all_goals refine z_ret (hv := ?_) (ho := ?_) <;> first | rfl | decide
instance : Con Try.prog 77 letterText_sat_S := con letterText_sat Try.func77
def K_l2Letter_sat : Nat → List Nat := fun i => ([[0], [2]] : List (List Nat)).getD i []
attribute [go_sem] K_l2Letter_sat
def l2Letter_sat_S : Eng.Spec := fun args av objs => ∃ (x : Int), args = [aI x] ∧ av = aB (ltB x) ∧ objs = []
theorem l2Letter_sat : Sat Try.prog 80 l2Letter_sat_S := by
  refine sat_of tok okr mixed K_l2Letter_sat Try.func80 rfl (rs := [.tmp 2]) rfl Try.ntmps80 ?_
  rintro args av objs ⟨x, rfl, rfl, rfl⟩
  refine ⟨by show 1 ≤ 9; decide, ?_⟩
  unfold ltB
  repeat' (first|(refine ya ?_;first|(refine yb ?_;first|refine yc ?_)|refine ye ?_)|(refine yg ?_;intro hgs;first|(replace hgs:=zgy hgs;first|(refine yb ?_;first|refine yc ?_)|refine yy hgs ?_;clear hgs)|(refine yn (zgn hgs) ?_;clear hgs)|((fail_if_success have:=zgy hgs);refine z_spl hgs (h1:=?_) (h2:=?_)<;>clear hgs<;>intro hg hr<;>try first|contradiction|exfalso;omega))|refine yz ?_|refine zst ?_|refine k_blk_other rfl ?_|(refine zk ?_ ?_<;>intro hc hr<;>try first|contradiction|exfalso;omega))
  all_goals first | (refine z_ret (hv := ?_) (ho := ?_) <;> first | rfl | (simp [go_sem, *]; done) | (simp_all; done) | (simp_all; omega)) | skip
instance : Con Try.prog 80 l2Letter_sat_S := con l2Letter_sat Try.func80
def K_l2Char_sat : Nat → List Nat := fun i => ([[0], [0, 4], [2], [2]] : List (List Nat)).getD i []
attribute [go_sem] K_l2Char_sat
def l2Char_sat_S : Eng.Spec := fun args av objs => ∃ (x : Int), (ltB x = true) ∧ args = [aI x] ∧ av = aS (strI (ltx x)) ∧ objs = []
theorem l2Char_sat : Sat Try.prog 81 l2Char_sat_S := by
  refine sat_of tok okr mixed K_l2Char_sat Try.func81 rfl (rs := [.tmp 2]) rfl Try.ntmps81 ?_
  rintro args av objs ⟨x, hpre, rfl, rfl, rfl⟩
  refine ⟨by show 1 ≤ 16; decide, ?_⟩
  rcases ltB_iff.1 hpre with rfl | rfl | rfl | rfl | rfl | rfl
  all_goals clear hpre
  all_goals repeat' (first|(refine ya ?_;first|refine ye ?_)|refine yz ?_|refine zst ?_|refine k_blk_other rfl ?_|(refine zk ?_ ?_<;>intro hc hr<;>try first|contradiction|exfalso;omega))
  all_goals refine z_ret (hv := ?_) (ho := ?_) <;> first | rfl | decide
instance : Con Try.prog 81 l2Char_sat_S := con l2Char_sat Try.func81
end Go.Proofs.Try
