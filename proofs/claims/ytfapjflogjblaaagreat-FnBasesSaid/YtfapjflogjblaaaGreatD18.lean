import Derived.Test.YtfapjflogjblaaaGreatZ
import Derived.Test.YtfapjflogjblaaaGreatX
import Derived.Test.YtfapjflogjblaaaGreatR3
import Derived.Test.YtfapjflogjblaaaGreatQ21
import Derived.Test.YtfapjflogjblaaaGreatX5
set_option maxHeartbeats 16000000
set_option maxRecDepth 20000
set_option linter.unusedVariables false
set_option linter.unusedSimpArgs false
set_option linter.unnecessarySimpa false
namespace Go.Proofs.Tryz
open Go Go.Eng
def lwOn (es : List Ed) (e : Int) (w : List Int) (x : Int) : Bool := decide ((w.length = 0 ∨ x ≠ -lastI w) ∧ 0 ≤ nx es e x)
def lwK (es : List Ed) (ls : List Int) (e : Int) (w : List Int) : Nat → List (List Int)
  | 0 => []
  | k + 1 => if lwOn es e w (ix ls k) then lwK es ls e w k ++ [w ++ [ix ls k]] else lwK es ls e w k
def lwN (r z : Int) (es : List Ed) (v : Int) (ls : List Int) (L : List (List Int)) : Nat → List (List Int)
  | 0 => []
  | i + 1 => lwN r z es v ls L i ++ lwK es ls (wkV r z es v (wx L i)) (wx L i) ls.length
def lwO (r z : Int) (es : List Ed) (v : Int) (L : List (List Int)) : Nat → List (List Int)
  | 0 => []
  | i + 1 => if wkV r z es v (wx L i) = v then lwO r z es v L i ++ [wx L i] else lwO r z es v L i
def lwL (r z : Int) (es : List Ed) (v : Int) : Nat → List (List Int)
  | 0 => [[]]
  | n + 1 => lwN r z es v (lts r.toNat) (lwL r z es v n) (lwL r z es v n).length
def lwT (r z : Int) (es : List Ed) (v : Int) : Nat → List (List Int)
  | 0 => []
  | n + 1 => lwT r z es v n ++ lwO r z es v (lwL r z es v n) (lwL r z es v n).length
def lwB (r z : Int) (es : List Ed) (v m : Int) : Bool := isF r z es && decide ((0 ≤ v ∧ v < z) ∧ 0 ≤ m ∧ m ≤ 4)
def lpW (r z : Int) (es : List Ed) (v m : Int) : List (List Int) := if lwB r z es v m then lwT r z es v (m.toNat + 1) else []
theorem lwK_ok {es : List Ed} {ls : List Int} {e : Int} {w : List Int} : ∀ k, (lwK es ls e w k).length ≤ k ∧ ∀ u ∈ lwK es ls e w k, ∃ j, j < k ∧ u = w ++ [ix ls j] ∧ lwOn es e w (ix ls j) = true
  | 0 => ⟨Nat.le_refl _, by simp [lwK]⟩
  | k + 1 => by
    obtain ⟨h1, h2⟩ := lwK_ok (es := es) (ls := ls) (e := e) (w := w) k
    unfold lwK
    split
    · rename_i hc
      refine ⟨by rw [List.length_append, List.length_singleton]; omega, fun u hu => ?_⟩
      rcases List.mem_append.1 hu with hu | hu
      · obtain ⟨j, a, b⟩ := h2 u hu; exact ⟨j, by omega, b⟩
      · rw [List.mem_singleton] at hu; exact ⟨k, by omega, hu, hc⟩
    · exact ⟨by omega, fun u hu => by obtain ⟨j, a, b⟩ := h2 u hu; exact ⟨j, by omega, b⟩⟩
theorem lwN_ok {r z : Int} {es : List Ed} {v : Int} {ls : List Int} {L : List (List Int)} : ∀ i, (lwN r z es v ls L i).length ≤ i * ls.length ∧ ∀ u ∈ lwN r z es v ls L i, ∃ j k, j < i ∧ k < ls.length ∧ u = wx L j ++ [ix ls k] ∧ lwOn es (wkV r z es v (wx L j)) (wx L j) (ix ls k) = true
  | 0 => ⟨by simp [lwN], by simp [lwN]⟩
  | i + 1 => by
    obtain ⟨h1, h2⟩ := lwN_ok (r := r) (z := z) (es := es) (v := v) (ls := ls) (L := L) i
    obtain ⟨h3, h4⟩ := lwK_ok (es := es) (ls := ls) (e := wkV r z es v (wx L i)) (w := wx L i) ls.length
    refine ⟨by rw [lwN, List.length_append, Nat.succ_mul]; omega, fun u hu => ?_⟩
    rcases List.mem_append.1 hu with hu | hu
    · obtain ⟨j, k, a, b⟩ := h2 u hu; exact ⟨j, k, by omega, b⟩
    · obtain ⟨k, a, b⟩ := h4 u hu; exact ⟨i, k, by omega, a, b⟩
theorem lwO_ok {r z : Int} {es : List Ed} {v : Int} {L : List (List Int)} : ∀ i, (lwO r z es v L i).length ≤ i ∧ ∀ u ∈ lwO r z es v L i, ∃ j, j < i ∧ u = wx L j ∧ wkV r z es v (wx L j) = v
  | 0 => ⟨Nat.le_refl _, by simp [lwO]⟩
  | i + 1 => by
    obtain ⟨h1, h2⟩ := lwO_ok (r := r) (z := z) (es := es) (v := v) (L := L) i
    unfold lwO
    split
    · rename_i hc
      refine ⟨by rw [List.length_append, List.length_singleton]; omega, fun u hu => ?_⟩
      rcases List.mem_append.1 hu with hu | hu
      · obtain ⟨j, a, b⟩ := h2 u hu; exact ⟨j, by omega, b⟩
      · rw [List.mem_singleton] at hu; exact ⟨i, by omega, hu, hc⟩
    · exact ⟨by omega, fun u hu => by obtain ⟨j, a, b⟩ := h2 u hu; exact ⟨j, by omega, b⟩⟩
theorem lts_len2 {r : Int} (h : 1 ≤ r ∧ r ≤ 3) : (lts r.toNat).length ≤ 6 := by
  have : r.toNat = 1 ∨ r.toNat = 2 ∨ r.toNat = 3 := by omega
  rcases this with h | h | h <;> rw [h] <;> decide
theorem lwK_less {es : List Ed} {ls : List Int} {e : Int} {w : List Int} {j : Nat} (h0 : w.length ≠ 0) (hj : ix ls j = -lastI w) : ∀ k, j < k → (lwK es ls e w k).length + 1 ≤ k
  | 0, h => by omega
  | k + 1, h => by
    rcases Nat.lt_or_ge j k with h1 | h1
    · have := lwK_less (es := es) (e := e) h0 hj k h1
      unfold lwK
      split
      · rw [List.length_append, List.length_singleton]; omega
      · omega
    · have hjk : j = k := by omega
      subst hjk
      have h2 := (lwK_ok (es := es) (ls := ls) (e := e) (w := w) j).1
      have : lwOn es e w (ix ls j) = false := by
        unfold lwOn
        rw [decide_eq_false_iff_not]
        rintro ⟨h3 | h3, _⟩
        · exact h0 h3
        · exact h3 hj
      unfold lwK
      rw [this]
      simp only [Bool.false_eq_true, if_false]
      omega
theorem lwN_less {r z : Int} {es : List Ed} {v : Int} {ls : List Int} {L : List (List Int)} {m : Nat} (h : ∀ i, i < L.length → (lwK es ls (wkV r z es v (wx L i)) (wx L i) ls.length).length ≤ m) : ∀ i, i ≤ L.length → (lwN r z es v ls L i).length ≤ i * m
  | 0, _ => by simp [lwN]
  | i + 1, hi => by
    have h1 := lwN_less h i (by omega)
    have h2 := h i (by omega)
    rw [lwN, List.length_append, Nat.succ_mul]; omega
def lwC : Nat → Nat
  | 0 => 1
  | 1 => 6
  | n + 2 => lwC (n + 1) * 5
theorem lwL_ok {r z : Int} {es : List Ed} {v : Int} (hr : 1 ≤ r ∧ r ≤ 3) : ∀ n, (lwL r z es v n).length ≤ lwC n ∧ ∀ u ∈ lwL r z es v n, u.length = n ∧ ∀ x ∈ u, x ∈ lts r.toNat
  | 0 => ⟨by simp [lwL, lwC], fun u hu => by simp [lwL] at hu; subst hu; exact ⟨rfl, fun x hx => by cases hx⟩⟩
  | n + 1 => by
    obtain ⟨h1, h2⟩ := lwL_ok (z := z) (es := es) (v := v) hr n
    obtain ⟨h3, h4⟩ := lwN_ok (r := r) (z := z) (es := es) (v := v) (ls := lts r.toNat) (L := lwL r z es v n) (lwL r z es v n).length
    have h5 := lts_len2 hr
    refine ⟨?_, fun u hu => ?_⟩
    · match n with
      | 0 =>
        show (lwN r z es v (lts r.toNat) (lwL r z es v 0) (lwL r z es v 0).length).length ≤ 6
        have : (lwL r z es v 0).length = 1 := rfl
        rw [this] at h3 ⊢
        omega
      | n + 1 =>
        have h6 := lwN_less (r := r) (z := z) (es := es) (v := v) (ls := lts r.toNat) (L := lwL r z es v (n + 1)) (m := 5) (fun i hi => by
          obtain ⟨a, b⟩ := h2 _ (wx_mem hi)
          have hw0 : (wx (lwL r z es v (n + 1)) i).length ≠ 0 := by omega
          have hlm : lastI (wx (lwL r z es v (n + 1)) i) ∈ lts r.toNat := b _ (ix_mem (by omega))
          have hl := lts_mem.1 hlm
          obtain ⟨j, hj, ej⟩ := List.mem_iff_getElem.1 (lts_mem (n := r.toNat) (x := -lastI (wx (lwL r z es v (n + 1)) i)) |>.2 (by omega))
          have := lwK_less (es := es) (e := wkV r z es v (wx (lwL r z es v (n + 1)) i)) hw0 (j := j) (ls := lts r.toNat) (by rw [← ej]; simp [ix, hj]) _ hj
          omega) _ (Nat.le_refl _)
        show (lwN r z es v (lts r.toNat) (lwL r z es v (n + 1)) (lwL r z es v (n + 1)).length).length ≤ lwC (n + 1) * 5
        have h7 := Nat.mul_le_mul_right 5 h1
        omega
    · obtain ⟨j, k, a, b, rfl, c⟩ := h4 u hu
      obtain ⟨d, e⟩ := h2 _ (wx_mem a)
      refine ⟨by rw [List.length_append, List.length_singleton]; omega, fun x hx => ?_⟩
      rcases List.mem_append.1 hx with hx | hx
      · exact e x hx
      · rw [List.mem_singleton] at hx; subst hx; exact ix_mem b
def lwD : Nat → Nat
  | 0 => 0
  | n + 1 => lwD n + lwC n
theorem lwT_ok {r z : Int} {es : List Ed} {v : Int} (hr : 1 ≤ r ∧ r ≤ 3) : ∀ n, (lwT r z es v n).length ≤ lwD n ∧ ∀ u ∈ lwT r z es v n, u.length ≤ n ∧ (∀ x ∈ u, x ∈ lts r.toNat) ∧ wkV r z es v u = v
  | 0 => ⟨by simp [lwT], by simp [lwT]⟩
  | n + 1 => by
    obtain ⟨h1, h2⟩ := lwT_ok (z := z) (es := es) (v := v) hr n
    obtain ⟨h3, h4⟩ := lwO_ok (r := r) (z := z) (es := es) (v := v) (L := lwL r z es v n) (lwL r z es v n).length
    obtain ⟨h5, h6⟩ := lwL_ok (z := z) (es := es) (v := v) hr n
    refine ⟨by rw [lwT, List.length_append, lwD]; omega, fun u hu => ?_⟩
    rcases List.mem_append.1 hu with hu | hu
    · have := h2 u hu; exact ⟨by omega, this.2⟩
    · obtain ⟨j, a, rfl, b⟩ := h4 u hu
      have := h6 _ (wx_mem a)
      exact ⟨by omega, this.2, b⟩
theorem lwD_mono {n m : Nat} (h : n ≤ m) : lwD n ≤ lwD m := by
  induction m with
  | zero => rw [show n = 0 by omega]; exact Nat.le_refl _
  | succ m ih =>
    rcases Nat.lt_or_ge n (m + 1) with h1 | h1
    · exact Nat.le_trans (ih (by omega)) (Nat.le_add_right _ _)
    · rw [show n = m + 1 by omega]; exact Nat.le_refl _
theorem lpW_ok {r z : Int} {es : List Ed} {v m : Int} (hm : m ≤ 4) : (lpW r z es v m).length ≤ lwD (m.toNat + 1) ∧ ∀ u ∈ lpW r z es v m, u.length ≤ 5 ∧ smallW u ∧ wk es v u = some v := by
  unfold lpW
  split
  · rename_i h
    simp only [lwB, Bool.and_eq_true, decide_eq_true_eq] at h
    have hz := isG_z (isF_g h.1)
    obtain ⟨h1, h2⟩ := lwT_ok (z := z) (es := es) (v := v) (show 1 ≤ r ∧ r ≤ 3 by omega) (m.toNat + 1)
    refine ⟨h1, fun u hu => ?_⟩
    obtain ⟨a, b, c⟩ := h2 u hu
    refine ⟨by omega, fun x hx => by have := lts_mem.1 (b x hx); omega, ?_⟩
    unfold wkV at c
    split at c
    · rename_i hb
      simp only [wkB, Bool.and_eq_true, decide_eq_true_eq] at hb
      exact wk_rd.2 ⟨hb.2, c⟩
    · omega
  · exact ⟨by simp, by simp⟩
theorem osW_one (w : List Int) : osW [w] = [some (ints w)] := rfl
theorem lwOn_iff {es : List Ed} {e : Int} {w : List Int} {x : Int} : lwOn es e w x = true ↔ (w.length = 0 ∨ x ≠ -ix w (w.length - 1)) ∧ 0 ≤ nx es e x := decide_eq_true_iff
attribute [local irreducible] nx wkV isF lts
@[go_sem] def K_loopW_no2 (i : Nat) : List Nat := ([[1,2,3],[1,2,3,7],[1,2,3,7,33],[6],[1,2,3,7,8],[1,2,3,7,8,9],[1,2,3,7,8,9,10],[1,2,3,7,8,9,10,42],[1,2,3,7,8,9,10],[1,2,3,7,8,9,10,11],[1,2,3,7,8,9,10,11,12],[1,2,3,7,8,9,10,11,12,49],[1,2,3,7,8,9,10,11,12],[1,2,3,7,8,9,10,11,12,13],[1,2,3,7,8,9,10,11,12,13,14],[1,2,3,7,8,9,10,11,12,13,14,65],[1,2,3,7,8,9,10,11,12,13,14],[1,2,3,7,8,9,10,11,12,13,14,16],[1,2,3,7,8,9,10,11,12,13,14,16,75],[1,2,3,7,8,9,10,11,12,13,14,16],[1,2,3,7,8,9,10,11,12,13,14,16,104],[1,2,3,7,8,9,10,11,12,13,14,16],[1,2,3,7,8,9,10],[6]]).getD i []
def loopW_no2_S : Eng.Spec := fun args av objs => ∃ (r z : Int) (es : List Ed) (v m : Int), (es.length ≤ 1048576 ∧ lwB r z es v m = false) ∧ args = [grA r z es, aI v, aI m] ∧ av = aR 0 ∧ objs = [.rows 35 3 (.own true) (osW [])]
theorem loopW_no2 : Sat Tryz.prog 38 loopW_no2_S := by
  refine sat_of tok okr mixed K_loopW_no2 Tryz.func38 rfl (rs := [.tmp 6]) rfl Tryz.ntmps38 ?_
  rintro args av objs ⟨r, z, es, v, m, hpre, rfl, rfl, rfl⟩
  refine ⟨by show 3 ≤ 119; decide, ?_⟩
  obtain ⟨he, hB⟩ := hpre
  cases hf : isF r z es
  · repeat' (first|(refine ya ?_;first|refine yc ?_|refine ye ?_)|((first|refine yg ?_|refine yG ?_);intro hq;first|(replace hq:=zgy hq;first|refine yc ?_|refine yC ?_|refine yy hq ?_|refine yY hq ?_;clear hq)|((first|refine yn (zgn hq) ?_|refine yN (zgn hq) ?_);clear hq)|((fail_if_success have:=zgy hq);(first|refine zs hq ?_ ?_|refine zS hq ?_ ?_)<;>clear hq<;>intro hg hr<;>try exact zx))|refine yz ?_|(refine yA ?_;first|refine yC ?_|refine yE ?_)|refine yZ ?_|refine zst ?_|refine zo ?_|(refine zk ?_ ?_<;>intro hc hr<;>try exact zx))
    refine z_retT 136 (hv := ?_) (ho := ?_) <;> rfl
  · have hz := isG_z (isF_g hf)
    have hn : ¬ ((0 ≤ v ∧ v < z) ∧ 0 ≤ m ∧ m ≤ 4) := by simpa [lwB, hf] using hB
    clear hB
    by_cases hv : 0 ≤ v ∧ v < z
    · have hm : ¬ (0 ≤ m ∧ m ≤ 4) := fun h => hn ⟨hv, h⟩
      clear hn
      repeat' (first|(refine ya ?_;first|refine yc ?_|refine ye ?_)|((first|refine yg ?_|refine yG ?_);intro hq;first|(replace hq:=zgy hq;first|refine yc ?_|refine yC ?_|refine yy hq ?_|refine yY hq ?_;clear hq)|((first|refine yn (zgn hq) ?_|refine yN (zgn hq) ?_);clear hq)|((fail_if_success have:=zgy hq);(first|refine zs hq ?_ ?_|refine zS hq ?_ ?_)<;>clear hq<;>intro hg hr<;>try exact zx))|refine yz ?_|(refine yA ?_;first|refine yC ?_|refine yE ?_)|refine yZ ?_|refine zst ?_|refine zo ?_|(refine zk ?_ ?_<;>intro hc hr<;>try exact zx))
      refine z_retT 136 (hv := ?_) (ho := ?_) <;> rfl
    · clear hn
      repeat' (first|(refine ya ?_;first|refine yc ?_|refine ye ?_)|((first|refine yg ?_|refine yG ?_);intro hq;first|(replace hq:=zgy hq;first|refine yc ?_|refine yC ?_|refine yy hq ?_|refine yY hq ?_;clear hq)|((first|refine yn (zgn hq) ?_|refine yN (zgn hq) ?_);clear hq)|((fail_if_success have:=zgy hq);(first|refine zs hq ?_ ?_|refine zS hq ?_ ?_)<;>clear hq<;>intro hg hr<;>try exact zx))|refine yz ?_|(refine yA ?_;first|refine yC ?_|refine yE ?_)|refine yZ ?_|refine zst ?_|refine zo ?_|(refine zk ?_ ?_<;>intro hc hr<;>try exact zx))
      refine z_retT 136 (hv := ?_) (ho := ?_) <;> rfl
instance : Con Tryz.prog 38 loopW_no2_S := con loopW_no2 Tryz.func38
@[go_sem] def K_loopW_yes2 (i : Nat) : List Nat := ([[1,2,3],[1,2,3,7],[1,2,3,7,33],[6],[1,2,3,7,8],[1,2,3,7,8,9],[1,2,3,7,8,9,10],[1,2,3,7,8,9,10,42],[1,2,3,7,8,9,10],[1,2,3,7,8,9,10,11],[1,2,3,7,8,9,10,11,12],[1,2,3,7,8,9,10,11,12,49],[1,2,3,7,8,9,10,11,12],[1,2,3,7,8,9,10,11,12,13],[1,2,3,7,8,9,10,11,12,13,14],[1,2,3,7,8,9,10,11,12,13,14,65],[1,2,3,7,8,9,10,11,12,13,14],[1,2,3,7,8,9,10,11,12,13,14,16],[1,2,3,7,8,9,10,11,12,13,14,16,75],[1,2,3,7,8,9,10,11,12,13,14,16],[1,2,3,7,8,9,10,11,12,13,14,16,104],[1,2,3,7,8,9,10,11,12,13,14,16],[1,2,3,7,8,9,10],[6]]).getD i []
def loopW_yes2_S : Eng.Spec := fun args av objs => ∃ (r z : Int) (es : List Ed) (v m : Int), (es.length ≤ 1048576 ∧ lwB r z es v m = true) ∧ args = [grA r z es, aI v, aI m] ∧ av = aR 0 ∧ objs = [.rows 35 3 (.own false) (osW (lwT r z es v (m.toNat + 1)))]
theorem loopW_yes2 : Sat Tryz.prog 38 loopW_yes2_S := by
  refine sat_of tok okr mixed K_loopW_yes2 Tryz.func38 rfl (rs := [.tmp 6]) rfl Tryz.ntmps38 ?_
  rintro args av objs ⟨r, z, es, v, m, hpre, rfl, rfl, rfl⟩
  refine ⟨by show 3 ≤ 119; decide, ?_⟩
  obtain ⟨he, hB⟩ := hpre
  simp only [lwB, Bool.and_eq_true, decide_eq_true_eq] at hB
  obtain ⟨hf, hv, hm⟩ := hB
  have hG := isF_g hf
  have hz := isG_z hG
  have hll := lts_len r.toNat
  obtain ⟨M, hM⟩ : ∃ M : Nat, (M : Int) = m := ⟨m.toNat, by omega⟩
  have hMn : m.toNat = M := by omega
  subst hM
  rw [hMn]
  clear hMn
  repeat' (first|(refine ya ?_;first|refine yc ?_|refine ye ?_)|((first|refine yg ?_|refine yG ?_);intro hq;first|(replace hq:=zgy hq;first|refine yc ?_|refine yC ?_|refine yy hq ?_|refine yY hq ?_;clear hq)|((first|refine yn (zgn hq) ?_|refine yN (zgn hq) ?_);clear hq)|((fail_if_success have:=zgy hq);(first|refine zs hq ?_ ?_|refine zS hq ?_ ?_)<;>clear hq<;>intro hg hr<;>try exact zx))|refine yz ?_|(refine yA ?_;first|refine yC ?_|refine yE ?_)|refine yZ ?_|refine zst ?_|refine zo ?_|(refine zk ?_ ?_<;>intro hc hr<;>try exact zx))
  refine z_weak (cvs_weak (id := 288) (i2 := 280) (e' := 3) (xs := []) (by first | rfl | (simp [go_sem]; done) | (simp [go_sem]; rfl)) (.inr ⟨by first | rfl | (simp [go_sem]; done) | (simp [go_sem]; rfl), rfl⟩) (by decide)) ?_
  refine z_loop (fun n : Nat => [(10, aI n)]) (fun n : Nat => [.obj 7 (.rows 35 3 (.loc false) (osW (lwT r z es v n))), .obj 8 (.rows 35 3 (.loc false) (osW (lwL r z es v n)))]) (fun n : Nat => n ≤ M + 1) (fun n : Nat => M + 1 - n) (0) (h0 := ?_) (henv := ?_) (hobj := ?_) (h := ?_)
  · omega
  · simp [go_sem, AVm, CVm, lookS, lwT, lwL, osW_nil, osW_one]
  · simp [go_sem, OBm, CVm, lookS, All2, lwT, lwL, osW_nil, osW_one]
  intro n hn
  have hTl := (lwT_ok (z := z) (es := es) (v := v) (show 1 ≤ r ∧ r ≤ 3 by omega) n).1
  have hTm := lwD_mono (show n ≤ 5 by omega)
  have hT5 : lwD 5 = 937 := by decide
  rcases Nat.lt_or_ge n (M + 1) with hlt | hge
  · obtain ⟨hLl, hLw⟩ := lwL_ok (z := z) (es := es) (v := v) (show 1 ≤ r ∧ r ≤ 3 by omega) n
    have hLc : lwC n ≤ 750 := by
      have : n = 0 ∨ n = 1 ∨ n = 2 ∨ n = 3 ∨ n = 4 := by omega
      rcases this with h | h | h | h | h <;> rw [h] <;> decide
    have hT1 : lwT r z es v (n + 1) = lwT r z es v n ++ lwO r z es v (lwL r z es v n) (lwL r z es v n).length := rfl
    have hL1 : lwL r z es v (n + 1) = lwN r z es v (lts r.toNat) (lwL r z es v n) (lwL r z es v n).length := rfl
    generalize hL : lwL r z es v n = L at *
    generalize hTT : lwT r z es v n = TT at *
    repeat' (first|(refine ya ?_;first|refine yc ?_|refine ye ?_)|((first|refine yg ?_|refine yG ?_);intro hq;first|(replace hq:=zgy hq;first|refine yc ?_|refine yC ?_|refine yy hq ?_|refine yY hq ?_;clear hq)|((first|refine yn (zgn hq) ?_|refine yN (zgn hq) ?_);clear hq)|((fail_if_success have:=zgy hq);(first|refine zs hq ?_ ?_|refine zS hq ?_ ?_)<;>clear hq<;>intro hg hr<;>try exact zx))|refine yz ?_|(refine yA ?_;first|refine yC ?_|refine yE ?_)|refine yZ ?_|refine zst ?_|refine zo ?_|(refine zk ?_ ?_<;>intro hc hr<;>try exact zx))
    refine z_loop (fun i : Nat => [(12, aI i)]) (fun i : Nat => [.obj 7 (.rows 35 3 (.loc false) (osW (TT ++ lwO r z es v L i))), .obj 11 (.rows 35 3 (.loc false) (osW (lwN r z es v (lts r.toNat) L i)))]) (fun i : Nat => i ≤ L.length) (fun i : Nat => L.length - i) (0) (h0 := ?_) (henv := ?_) (hobj := ?_) (h := ?_)
    · omega
    · simp [go_sem, AVm, CVm, lookS, lwO, lwN, osW_nil, List.append_nil]
    · simp [go_sem, OBm, CVm, lookS, All2, lwO, lwN, osW_nil, List.append_nil]
    intro i hi
    have hOl := (lwO_ok (r := r) (z := z) (es := es) (v := v) (L := L) i).1
    have hNl := (lwN_ok (r := r) (z := z) (es := es) (v := v) (ls := lts r.toNat) (L := L) i).1
    have hOa : (TT ++ lwO r z es v L i).length ≤ 2000 := by rw [List.length_append]; omega
    have hl6 := lts_len2 (show 1 ≤ r ∧ r ≤ 3 by omega)
    have hNb : (lwN r z es v (lts r.toNat) L i).length ≤ 4500 := by
      have : i * (lts r.toNat).length ≤ 750 * 6 := Nat.mul_le_mul (by omega) hl6
      omega
    rcases Nat.lt_or_ge i L.length with hlt2 | hge2
    · obtain ⟨w1, w2⟩ := hLw _ (wx_mem hlt2)
      have w3 : ∀ x ∈ wx L i, rg x := fun x hx => by have := lts_mem.1 (w2 x hx); unfold rg; omega
      have w4 : (wx L i).length ≤ 8388608 := by omega
      have w5 : (wx L i).length ≠ 0 → -3 ≤ ix (wx L i) ((wx L i).length - 1) ∧ ix (wx L i) ((wx L i).length - 1) ≤ 3 := fun h => by
        have := lts_mem.1 (w2 _ (ix_mem (l := wx L i) (i := (wx L i).length - 1) (by omega))); omega
      have hN1 : lwN r z es v (lts r.toNat) L (i + 1) = lwN r z es v (lts r.toNat) L i ++ lwK es (lts r.toNat) (wkV r z es v (wx L i)) (wx L i) (lts r.toNat).length := rfl
      generalize hNN : lwN r z es v (lts r.toNat) L i = NN at *
      by_cases hE : wkV r z es v (wx L i) = v
      · have hO1 : lwO r z es v L (i + 1) = lwO r z es v L i ++ [wx L i] := by rw [lwO, if_pos hE]
        repeat' (first|(refine ya ?_;first|refine yc ?_|refine ye ?_)|((first|refine yg ?_|refine yG ?_);intro hq;first|(replace hq:=zgy hq;first|refine yc ?_|refine yC ?_|refine yy hq ?_|refine yY hq ?_;clear hq)|((first|refine yn (zgn hq) ?_|refine yN (zgn hq) ?_);clear hq)|((fail_if_success have:=zgy hq);(first|refine zs hq ?_ ?_|refine zS hq ?_ ?_)<;>clear hq<;>intro hg hr<;>try exact zx))|refine yz ?_|(refine yA ?_;first|refine yC ?_|refine yE ?_)|refine yZ ?_|refine zst ?_|refine zo ?_|(refine zk ?_ ?_<;>intro hc hr<;>try exact zx))
        refine z_loop (fun k : Nat => [(16, aI k)]) (fun k : Nat => [.obj 11 (.rows 35 3 (.loc false) (osW (NN ++ lwK es (lts r.toNat) (wkV r z es v (wx L i)) (wx L i) k)))]) (fun k : Nat => k ≤ (lts r.toNat).length) (fun k : Nat => (lts r.toNat).length - k) (0) (h0 := ?_) (henv := ?_) (hobj := ?_) (h := ?_)
        · omega
        · simp [go_sem, AVm, CVm, lookS, lwK, List.append_nil]
        · simp [go_sem, OBm, CVm, lookS, All2, lwK, List.append_nil]
        intro k hk
        clear hE
        have hKl := (lwK_ok (es := es) (ls := lts r.toNat) (e := wkV r z es v (wx L i)) (w := wx L i) k).1
        rcases Nat.lt_or_ge k (lts r.toNat).length with hlt3 | hge3
        · have hx0 := lts_mem.1 (ix_mem hlt3)
          have hx1 : -3 ≤ ix (lts r.toNat) k ∧ ix (lts r.toNat) k ≤ 3 := by omega
          have hx2 : rg (ix (lts r.toNat) k) := by unfold rg; omega
          have hKa : (NN ++ lwK es (lts r.toNat) (wkV r z es v (wx L i)) (wx L i) k).length ≤ 5000 := by rw [List.length_append]; omega
          clear hx0
          by_cases hon : lwOn es (wkV r z es v (wx L i)) (wx L i) (ix (lts r.toNat) k) = true
          · have hK1 : lwK es (lts r.toNat) (wkV r z es v (wx L i)) (wx L i) (k + 1) = lwK es (lts r.toNat) (wkV r z es v (wx L i)) (wx L i) k ++ [wx L i ++ [ix (lts r.toNat) k]] := by rw [lwK, if_pos hon]
            obtain ⟨hon1, hon2⟩ := lwOn_iff.1 hon
            clear hon
            by_cases h0 : (wx L i).length = 0
            · repeat' (first|(refine ya ?_;first|refine yc ?_|refine ye ?_)|((first|refine yg ?_|refine yG ?_);intro hq;first|(replace hq:=zgy hq;first|refine yc ?_|refine yC ?_|refine yy hq ?_|refine yY hq ?_;clear hq)|((first|refine yn (zgn hq) ?_|refine yN (zgn hq) ?_);clear hq)|((fail_if_success have:=zgy hq);(first|refine zs hq ?_ ?_|refine zS hq ?_ ?_)<;>clear hq<;>intro hg hr<;>try exact zx))|refine yz ?_|(refine yA ?_;first|refine yC ?_|refine yE ?_)|refine yZ ?_|refine zst ?_|refine zo ?_|(refine zk ?_ ?_<;>intro hc hr<;>try exact zx))
              all_goals (refine zm (k + 1) ?_ ?_ <;> simp [go_sem, AVm, OBm, CVm, All2, lookS, hK1, *] <;> exact zt)
            · have hon3 := hon1.resolve_left h0
              have hw5 := w5 h0
              clear hon1
              repeat' (first|(refine ya ?_;first|refine yc ?_|refine ye ?_)|((first|refine yg ?_|refine yG ?_);intro hq;first|(replace hq:=zgy hq;first|refine yc ?_|refine yC ?_|refine yy hq ?_|refine yY hq ?_;clear hq)|((first|refine yn (zgn hq) ?_|refine yN (zgn hq) ?_);clear hq)|((fail_if_success have:=zgy hq);(first|refine zs hq ?_ ?_|refine zS hq ?_ ?_)<;>clear hq<;>intro hg hr<;>try exact zx))|refine yz ?_|(refine yA ?_;first|refine yC ?_|refine yE ?_)|refine yZ ?_|refine zst ?_|refine zo ?_|(refine zk ?_ ?_<;>intro hc hr<;>try exact zx))
              all_goals (refine zm (k + 1) ?_ ?_ <;> simp [go_sem, AVm, OBm, CVm, All2, lookS, hK1, *] <;> exact zt)
          · have hK1 : lwK es (lts r.toNat) (wkV r z es v (wx L i)) (wx L i) (k + 1) = lwK es (lts r.toNat) (wkV r z es v (wx L i)) (wx L i) k := by rw [lwK, if_neg hon]
            rw [lwOn_iff] at hon
            by_cases h0 : (wx L i).length = 0
            · have hon2 : ¬ 0 ≤ nx es (wkV r z es v (wx L i)) (ix (lts r.toNat) k) := fun h => hon ⟨.inl h0, h⟩
              clear hon
              repeat' (first|(refine ya ?_;first|refine yc ?_|refine ye ?_)|((first|refine yg ?_|refine yG ?_);intro hq;first|(replace hq:=zgy hq;first|refine yc ?_|refine yC ?_|refine yy hq ?_|refine yY hq ?_;clear hq)|((first|refine yn (zgn hq) ?_|refine yN (zgn hq) ?_);clear hq)|((fail_if_success have:=zgy hq);(first|refine zs hq ?_ ?_|refine zS hq ?_ ?_)<;>clear hq<;>intro hg hr<;>try exact zx))|refine yz ?_|(refine yA ?_;first|refine yC ?_|refine yE ?_)|refine yZ ?_|refine zst ?_|refine zo ?_|(refine zk ?_ ?_<;>intro hc hr<;>try exact zx))
              all_goals (refine zm (k + 1) ?_ ?_ <;> simp [go_sem, AVm, OBm, CVm, All2, lookS, hK1, *] <;> exact zt)
            · have hw5 := w5 h0
              by_cases h1 : ix (lts r.toNat) k = -ix (wx L i) ((wx L i).length - 1)
              · clear hon
                repeat' (first|(refine ya ?_;first|refine yc ?_|refine ye ?_)|((first|refine yg ?_|refine yG ?_);intro hq;first|(replace hq:=zgy hq;first|refine yc ?_|refine yC ?_|refine yy hq ?_|refine yY hq ?_;clear hq)|((first|refine yn (zgn hq) ?_|refine yN (zgn hq) ?_);clear hq)|((fail_if_success have:=zgy hq);(first|refine zs hq ?_ ?_|refine zS hq ?_ ?_)<;>clear hq<;>intro hg hr<;>try exact zx))|refine yz ?_|(refine yA ?_;first|refine yC ?_|refine yE ?_)|refine yZ ?_|refine zst ?_|refine zo ?_|(refine zk ?_ ?_<;>intro hc hr<;>try exact zx))
                all_goals (refine zm (k + 1) ?_ ?_ <;> simp [go_sem, AVm, OBm, CVm, All2, lookS, hK1, *] <;> exact zt)
              · have hon2 : ¬ 0 ≤ nx es (wkV r z es v (wx L i)) (ix (lts r.toNat) k) := fun h => hon ⟨.inr h1, h⟩
                clear hon
                repeat' (first|(refine ya ?_;first|refine yc ?_|refine ye ?_)|((first|refine yg ?_|refine yG ?_);intro hq;first|(replace hq:=zgy hq;first|refine yc ?_|refine yC ?_|refine yy hq ?_|refine yY hq ?_;clear hq)|((first|refine yn (zgn hq) ?_|refine yN (zgn hq) ?_);clear hq)|((fail_if_success have:=zgy hq);(first|refine zs hq ?_ ?_|refine zS hq ?_ ?_)<;>clear hq<;>intro hg hr<;>try exact zx))|refine yz ?_|(refine yA ?_;first|refine yC ?_|refine yE ?_)|refine yZ ?_|refine zst ?_|refine zo ?_|(refine zk ?_ ?_<;>intro hc hr<;>try exact zx))
                all_goals (refine zm (k + 1) ?_ ?_ <;> simp [go_sem, AVm, OBm, CVm, All2, lookS, hK1, *] <;> exact zt)
        · have hkk : k = (lts r.toNat).length := by omega
          subst hkk
          repeat' (first|(refine ya ?_;first|refine yc ?_|refine ye ?_)|((first|refine yg ?_|refine yG ?_);intro hq;first|(replace hq:=zgy hq;first|refine yc ?_|refine yC ?_|refine yy hq ?_|refine yY hq ?_;clear hq)|((first|refine yn (zgn hq) ?_|refine yN (zgn hq) ?_);clear hq)|((fail_if_success have:=zgy hq);(first|refine zs hq ?_ ?_|refine zS hq ?_ ?_)<;>clear hq<;>intro hg hr<;>try exact zx))|refine yz ?_|(refine yA ?_;first|refine yC ?_|refine yE ?_)|refine yZ ?_|refine zst ?_|refine zo ?_|(refine zk ?_ ?_<;>intro hc hr<;>try exact zx))
          (refine zm (i + 1) ?_ ?_ <;> simp [go_sem, AVm, OBm, CVm, All2, lookS, hO1, hN1, *] <;> exact zt)
      · have hO1 : lwO r z es v L (i + 1) = lwO r z es v L i := by rw [lwO, if_neg hE]
        repeat' (first|(refine ya ?_;first|refine yc ?_|refine ye ?_)|((first|refine yg ?_|refine yG ?_);intro hq;first|(replace hq:=zgy hq;first|refine yc ?_|refine yC ?_|refine yy hq ?_|refine yY hq ?_;clear hq)|((first|refine yn (zgn hq) ?_|refine yN (zgn hq) ?_);clear hq)|((fail_if_success have:=zgy hq);(first|refine zs hq ?_ ?_|refine zS hq ?_ ?_)<;>clear hq<;>intro hg hr<;>try exact zx))|refine yz ?_|(refine yA ?_;first|refine yC ?_|refine yE ?_)|refine yZ ?_|refine zst ?_|refine zo ?_|(refine zk ?_ ?_<;>intro hc hr<;>try exact zx))
        refine z_loop (fun k : Nat => [(16, aI k)]) (fun k : Nat => [.obj 11 (.rows 35 3 (.loc false) (osW (NN ++ lwK es (lts r.toNat) (wkV r z es v (wx L i)) (wx L i) k)))]) (fun k : Nat => k ≤ (lts r.toNat).length) (fun k : Nat => (lts r.toNat).length - k) (0) (h0 := ?_) (henv := ?_) (hobj := ?_) (h := ?_)
        · omega
        · simp [go_sem, AVm, CVm, lookS, lwK, List.append_nil]
        · simp [go_sem, OBm, CVm, lookS, All2, lwK, List.append_nil]
        intro k hk
        have hKl := (lwK_ok (es := es) (ls := lts r.toNat) (e := wkV r z es v (wx L i)) (w := wx L i) k).1
        rcases Nat.lt_or_ge k (lts r.toNat).length with hlt3 | hge3
        · have hx0 := lts_mem.1 (ix_mem hlt3)
          have hx1 : -3 ≤ ix (lts r.toNat) k ∧ ix (lts r.toNat) k ≤ 3 := by omega
          have hx2 : rg (ix (lts r.toNat) k) := by unfold rg; omega
          have hKa : (NN ++ lwK es (lts r.toNat) (wkV r z es v (wx L i)) (wx L i) k).length ≤ 5000 := by rw [List.length_append]; omega
          clear hx0
          by_cases hon : lwOn es (wkV r z es v (wx L i)) (wx L i) (ix (lts r.toNat) k) = true
          · have hK1 : lwK es (lts r.toNat) (wkV r z es v (wx L i)) (wx L i) (k + 1) = lwK es (lts r.toNat) (wkV r z es v (wx L i)) (wx L i) k ++ [wx L i ++ [ix (lts r.toNat) k]] := by rw [lwK, if_pos hon]
            obtain ⟨hon1, hon2⟩ := lwOn_iff.1 hon
            clear hon
            by_cases h0 : (wx L i).length = 0
            · repeat' (first|(refine ya ?_;first|refine yc ?_|refine ye ?_)|((first|refine yg ?_|refine yG ?_);intro hq;first|(replace hq:=zgy hq;first|refine yc ?_|refine yC ?_|refine yy hq ?_|refine yY hq ?_;clear hq)|((first|refine yn (zgn hq) ?_|refine yN (zgn hq) ?_);clear hq)|((fail_if_success have:=zgy hq);(first|refine zs hq ?_ ?_|refine zS hq ?_ ?_)<;>clear hq<;>intro hg hr<;>try exact zx))|refine yz ?_|(refine yA ?_;first|refine yC ?_|refine yE ?_)|refine yZ ?_|refine zst ?_|refine zo ?_|(refine zk ?_ ?_<;>intro hc hr<;>try exact zx))
              all_goals (refine zm (k + 1) ?_ ?_ <;> simp [go_sem, AVm, OBm, CVm, All2, lookS, hK1, *] <;> exact zt)
            · have hon3 := hon1.resolve_left h0
              have hw5 := w5 h0
              clear hon1
              repeat' (first|(refine ya ?_;first|refine yc ?_|refine ye ?_)|((first|refine yg ?_|refine yG ?_);intro hq;first|(replace hq:=zgy hq;first|refine yc ?_|refine yC ?_|refine yy hq ?_|refine yY hq ?_;clear hq)|((first|refine yn (zgn hq) ?_|refine yN (zgn hq) ?_);clear hq)|((fail_if_success have:=zgy hq);(first|refine zs hq ?_ ?_|refine zS hq ?_ ?_)<;>clear hq<;>intro hg hr<;>try exact zx))|refine yz ?_|(refine yA ?_;first|refine yC ?_|refine yE ?_)|refine yZ ?_|refine zst ?_|refine zo ?_|(refine zk ?_ ?_<;>intro hc hr<;>try exact zx))
              all_goals (refine zm (k + 1) ?_ ?_ <;> simp [go_sem, AVm, OBm, CVm, All2, lookS, hK1, *] <;> exact zt)
          · have hK1 : lwK es (lts r.toNat) (wkV r z es v (wx L i)) (wx L i) (k + 1) = lwK es (lts r.toNat) (wkV r z es v (wx L i)) (wx L i) k := by rw [lwK, if_neg hon]
            rw [lwOn_iff] at hon
            by_cases h0 : (wx L i).length = 0
            · have hon2 : ¬ 0 ≤ nx es (wkV r z es v (wx L i)) (ix (lts r.toNat) k) := fun h => hon ⟨.inl h0, h⟩
              clear hon
              repeat' (first|(refine ya ?_;first|refine yc ?_|refine ye ?_)|((first|refine yg ?_|refine yG ?_);intro hq;first|(replace hq:=zgy hq;first|refine yc ?_|refine yC ?_|refine yy hq ?_|refine yY hq ?_;clear hq)|((first|refine yn (zgn hq) ?_|refine yN (zgn hq) ?_);clear hq)|((fail_if_success have:=zgy hq);(first|refine zs hq ?_ ?_|refine zS hq ?_ ?_)<;>clear hq<;>intro hg hr<;>try exact zx))|refine yz ?_|(refine yA ?_;first|refine yC ?_|refine yE ?_)|refine yZ ?_|refine zst ?_|refine zo ?_|(refine zk ?_ ?_<;>intro hc hr<;>try exact zx))
              all_goals (refine zm (k + 1) ?_ ?_ <;> simp [go_sem, AVm, OBm, CVm, All2, lookS, hK1, *] <;> exact zt)
            · have hw5 := w5 h0
              by_cases h1 : ix (lts r.toNat) k = -ix (wx L i) ((wx L i).length - 1)
              · clear hon
                repeat' (first|(refine ya ?_;first|refine yc ?_|refine ye ?_)|((first|refine yg ?_|refine yG ?_);intro hq;first|(replace hq:=zgy hq;first|refine yc ?_|refine yC ?_|refine yy hq ?_|refine yY hq ?_;clear hq)|((first|refine yn (zgn hq) ?_|refine yN (zgn hq) ?_);clear hq)|((fail_if_success have:=zgy hq);(first|refine zs hq ?_ ?_|refine zS hq ?_ ?_)<;>clear hq<;>intro hg hr<;>try exact zx))|refine yz ?_|(refine yA ?_;first|refine yC ?_|refine yE ?_)|refine yZ ?_|refine zst ?_|refine zo ?_|(refine zk ?_ ?_<;>intro hc hr<;>try exact zx))
                all_goals (refine zm (k + 1) ?_ ?_ <;> simp [go_sem, AVm, OBm, CVm, All2, lookS, hK1, *] <;> exact zt)
              · have hon2 : ¬ 0 ≤ nx es (wkV r z es v (wx L i)) (ix (lts r.toNat) k) := fun h => hon ⟨.inr h1, h⟩
                clear hon
                repeat' (first|(refine ya ?_;first|refine yc ?_|refine ye ?_)|((first|refine yg ?_|refine yG ?_);intro hq;first|(replace hq:=zgy hq;first|refine yc ?_|refine yC ?_|refine yy hq ?_|refine yY hq ?_;clear hq)|((first|refine yn (zgn hq) ?_|refine yN (zgn hq) ?_);clear hq)|((fail_if_success have:=zgy hq);(first|refine zs hq ?_ ?_|refine zS hq ?_ ?_)<;>clear hq<;>intro hg hr<;>try exact zx))|refine yz ?_|(refine yA ?_;first|refine yC ?_|refine yE ?_)|refine yZ ?_|refine zst ?_|refine zo ?_|(refine zk ?_ ?_<;>intro hc hr<;>try exact zx))
                all_goals (refine zm (k + 1) ?_ ?_ <;> simp [go_sem, AVm, OBm, CVm, All2, lookS, hK1, *] <;> exact zt)
        · have hkk : k = (lts r.toNat).length := by omega
          subst hkk
          repeat' (first|(refine ya ?_;first|refine yc ?_|refine ye ?_)|((first|refine yg ?_|refine yG ?_);intro hq;first|(replace hq:=zgy hq;first|refine yc ?_|refine yC ?_|refine yy hq ?_|refine yY hq ?_;clear hq)|((first|refine yn (zgn hq) ?_|refine yN (zgn hq) ?_);clear hq)|((fail_if_success have:=zgy hq);(first|refine zs hq ?_ ?_|refine zS hq ?_ ?_)<;>clear hq<;>intro hg hr<;>try exact zx))|refine yz ?_|(refine yA ?_;first|refine yC ?_|refine yE ?_)|refine yZ ?_|refine zst ?_|refine zo ?_|(refine zk ?_ ?_<;>intro hc hr<;>try exact zx))
          (refine zm (i + 1) ?_ ?_ <;> simp [go_sem, AVm, OBm, CVm, All2, lookS, hO1, hN1, *] <;> exact zt)
    · have hii : i = L.length := by omega
      subst hii
      repeat' (first|(refine ya ?_;first|refine yc ?_|refine ye ?_)|((first|refine yg ?_|refine yG ?_);intro hq;first|(replace hq:=zgy hq;first|refine yc ?_|refine yC ?_|refine yy hq ?_|refine yY hq ?_;clear hq)|((first|refine yn (zgn hq) ?_|refine yN (zgn hq) ?_);clear hq)|((fail_if_success have:=zgy hq);(first|refine zs hq ?_ ?_|refine zS hq ?_ ?_)<;>clear hq<;>intro hg hr<;>try exact zx))|refine yz ?_|(refine yA ?_;first|refine yC ?_|refine yE ?_)|refine yZ ?_|refine zst ?_|refine zo ?_|(refine zk ?_ ?_<;>intro hc hr<;>try exact zx))
      (refine zm (n + 1) ?_ ?_ <;> simp [go_sem, AVm, OBm, CVm, All2, lookS, hT1, hL1, *] <;> exact zt)
  · have hnn : n = M + 1 := by omega
    subst hnn
    repeat' (first|(refine ya ?_;first|refine yc ?_|refine ye ?_)|((first|refine yg ?_|refine yG ?_);intro hq;first|(replace hq:=zgy hq;first|refine yc ?_|refine yC ?_|refine yy hq ?_|refine yY hq ?_;clear hq)|((first|refine yn (zgn hq) ?_|refine yN (zgn hq) ?_);clear hq)|((fail_if_success have:=zgy hq);(first|refine zs hq ?_ ?_|refine zS hq ?_ ?_)<;>clear hq<;>intro hg hr<;>try exact zx))|refine yz ?_|(refine yA ?_;first|refine yC ?_|refine yE ?_)|refine yZ ?_|refine zst ?_|refine zo ?_|(refine zk ?_ ?_<;>intro hc hr<;>try exact zx))
    refine z_retT 136 (hv := ?_) (ho := ?_) <;> rfl
instance (priority := 2000) : Con Tryz.prog 38 (orS loopW_no2_S loopW_yes2_S) := con2 loopW_no2 loopW_yes2 Tryz.func38
end Go.Proofs.Tryz
