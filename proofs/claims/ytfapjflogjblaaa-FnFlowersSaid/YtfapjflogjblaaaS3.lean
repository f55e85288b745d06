import Derived.Test.YtfapjflogjblaaaS2
set_option linter.unusedVariables false
set_option linter.unusedSimpArgs false
set_option linter.unnecessarySimpa false
/- Texts cut into pieces; words read out of texts. -/
namespace Go.Proofs.Try
open Go Go.Eng
set_option linter.unnecessarySimpa false
set_option linter.unusedSimpArgs false
set_option maxHeartbeats 8000000
set_option maxRecDepth 20000
/-! ### Bytes of a text -/
theorem strI_data (s : List Int) : (strI s).data = (s.map fun n => UInt8.ofNat n.toNat).toArray := rfl
theorem strI_byte {s : List Int} (hs : byt s) {i : Nat} (hi : i < s.length) : ∃ c : UInt8, (strI s)[i]? = some c ∧ (c.toNat : Int) = ix s i := by
  refine ⟨UInt8.ofNat (ix s i).toNat, ?_, ?_⟩
  · have h1 : i < (strI s).size := by rw [strI_size]; exact hi
    rw [getElem?_pos (strI s) i h1]
    congr 1
    show (strI s).data[i] = _
    simp [strI_data, ix, hi]
  · have h := hs (ix s i) (ix_mem hi)
    simp
    omega
theorem strI_cut (s : List Int) (a b : Nat) : (strI s).extract a b = strI ((s.take b).drop a) := by
  apply ByteArray.ext
  rw [ByteArray.data_extract, strI_data, strI_data]
  apply Array.ext'
  simp [List.map_take, List.map_drop, List.drop_take]
attribute [go_sem] strI_cut
theorem byt_sub {s t : List Int} (h : byt s) (hs : ∀ x ∈ t, x ∈ s) : byt t := fun n hn => h n (hs n hn)
theorem byt_part {s : List Int} (h : byt s) (a b : Nat) : byt ((s.take b).drop a) := byt_sub h fun _ hx => List.mem_of_mem_take (List.mem_of_mem_drop hx)
/-! ### The pieces between a byte -/
def cutN (c : Int) (s : List Int) : Nat → List (List Int) × Nat
  | 0 => ([], 0)
  | i + 1 => if ix s i = c then ((cutN c s i).1 ++ [(s.take i).drop (cutN c s i).2], i + 1) else cutN c s i
def cutL (c : Int) (s : List Int) : List (List Int) := (cutN c s s.length).1 ++ [(s.take s.length).drop (cutN c s s.length).2]
theorem cutN_le (c : Int) (s : List Int) : ∀ i, (cutN c s i).2 ≤ i ∧ (cutN c s i).1.length ≤ i
  | 0 => ⟨Nat.le_refl _, Nat.le_refl _⟩
  | i + 1 => by
    have := cutN_le c s i
    unfold cutN
    split
    · exact ⟨Nat.le_refl _, by rw [List.length_append, List.length_singleton]; omega⟩
    · omega
theorem take_ix2 {l : List Int} {k : Nat} (h : k < l.length) : l.take (k + 1) = l.take k ++ [ix l k] := by rw [List.take_add_one]; simp [ix, h]
theorem part_next {s : List Int} {i f : Nat} (hi : i < s.length) (hf : f ≤ i) : (s.take i).drop f ++ [ix s i] = (s.take (i + 1)).drop f := by
  rw [take_ix2 hi, List.drop_append_of_le_length (by rw [List.length_take]; omega)]
def K_cut_sat : Nat → List Nat := fun i => ([[0, 1], [0, 1, 5], [0, 1, 5, 6], [0, 1, 5, 6, 7], [0, 1, 5, 6, 7, 12], [0, 1, 5, 6, 7], [0, 1, 5, 6, 7, 19], [0, 1, 5, 7], [0, 1, 5, 6, 7], [4]] : List (List Nat)).getD i []
attribute [go_sem] K_cut_sat
def cut_sat_S : Eng.Spec := fun args av objs => ∃ (s : List Int) (c : Int), (byt s ∧ s.length ≤ 1048576 ∧ (0 ≤ c ∧ c ≤ 255)) ∧ args = [aS (strI s), .one (.sc (.u8 c))] ∧ av = aR 0 ∧ objs = [.flat 9 1 (strs (cutL c s))]
theorem cut_sat : Sat Try.prog 53 cut_sat_S := by
  refine sat_of tok okr mixed K_cut_sat Try.func53 rfl (rs := [.tmp 4]) rfl Try.ntmps53 ?_
  rintro args av objs ⟨s, c, hpre, rfl, rfl, rfl⟩
  refine ⟨by show 2 ≤ 35; decide, ?_⟩
  obtain ⟨hs, hl, hc0⟩ := hpre
  repeat' (first|(refine ya ?_;first|refine ye ?_)|refine yz ?_|refine zst ?_|refine k_blk_other rfl ?_|(refine zk ?_ ?_<;>intro hc hr<;>try first|contradiction|exfalso;omega))
  refine z_loop (fun i : Nat => [(7, aI i), (6, aI (cutN c s i).2)]) (fun i : Nat => [.obj 5 (.flat 9 1 (strs (cutN c s i).1))]) (fun i : Nat => i ≤ s.length) (fun i : Nat => s.length - i) (0) (h0 := ?_) (henv := ?_) (hobj := ?_) (h := ?_)
  · omega
  · simp [go_sem, AVm, CVm, lookS, cutN, strs]
  · simp [go_sem, OBm, CVm, lookS, All2, cutN, strs]
  intro i hi
  obtain ⟨h1, h2⟩ := cutN_le c s i
  rcases Nat.lt_or_ge i s.length with hlt | hge
  · obtain ⟨b, hb1, hb2⟩ := strI_byte hs hlt
    by_cases he : ix s i = c
    · have hn : cutN c s (i + 1) = ((cutN c s i).1 ++ [(s.take i).drop (cutN c s i).2], i + 1) := by rw [cutN, if_pos he]
      repeat' (first|(refine ya ?_;first|refine ye ?_)|refine yz ?_|refine zst ?_|refine k_blk_other rfl ?_|(refine zk ?_ ?_<;>intro hc hr<;>try first|contradiction|exfalso;omega))
      (refine z_lop (i + 1) (hj := ?_) (hmu := ?_) (henv := ?_) (hobj := ?_); (· omega); (· first | omega | (simp only; omega)); (· first | (simp [go_sem, AVm, CVm, lookS, hn, *]; done) | (simp [go_sem, AVm, CVm, lookS, hn, *] <;> (repeat' split) <;> first | omega | (simp_all; done) | (exfalso; omega) | (simp_all; omega))); (· first | (simp [go_sem, OBm, CVm, All2, lookS, hn, *]; done) | (simp [go_sem, OBm, CVm, All2, lookS, hn, *] <;> (repeat' split) <;> first | omega | (simp_all; done) | (exfalso; omega) | (simp_all; omega))))
    · have hn : cutN c s (i + 1) = cutN c s i := by rw [cutN, if_neg he]
      repeat' (first|(refine ya ?_;first|refine ye ?_)|refine yz ?_|refine zst ?_|refine k_blk_other rfl ?_|(refine zk ?_ ?_<;>intro hc hr<;>try first|contradiction|exfalso;omega))
      (refine z_lop (i + 1) (hj := ?_) (hmu := ?_) (henv := ?_) (hobj := ?_); (· omega); (· first | omega | (simp only; omega)); (· first | (simp [go_sem, AVm, CVm, lookS, hn, *]; done) | (simp [go_sem, AVm, CVm, lookS, hn, *] <;> (repeat' split) <;> first | omega | (simp_all; done) | (exfalso; omega) | (simp_all; omega))); (· first | (simp [go_sem, OBm, CVm, All2, lookS, hn, *]; done) | (simp [go_sem, OBm, CVm, All2, lookS, hn, *] <;> (repeat' split) <;> first | omega | (simp_all; done) | (exfalso; omega) | (simp_all; omega))))
  · have hii : i = s.length := by omega
    subst hii
    have e : cutL c s = (cutN c s s.length).1 ++ [(s.take s.length).drop (cutN c s s.length).2] := rfl
    rw [e]
    repeat' (first|(refine ya ?_;first|refine ye ?_)|refine yz ?_|refine zst ?_|refine k_blk_other rfl ?_|(refine zk ?_ ?_<;>intro hc hr<;>try first|contradiction|exfalso;omega))
    all_goals first | (refine z_ret (hv := ?_) (ho := ?_) <;> first | rfl | (simp [go_sem, *]; done) | (simp_all; done) | (simp_all; omega)) | skip
instance : Con Try.prog 53 cut_sat_S := con cut_sat Try.func53
def K_cut_sat2 : Nat → List Nat := fun i => ([[0, 1], [0, 1, 5], [0, 1, 5, 6], [0, 1, 5, 6, 7], [0, 1, 5, 6, 7, 12], [0, 1, 5, 6, 7], [0, 1, 5, 6, 7, 19], [0, 1, 5, 7], [0, 1, 5, 6, 7], [0, 1, 5, 6, 7], [4]] : List (List Nat)).getD i []
attribute [go_sem] K_cut_sat2
def cut_sat2_S : Eng.Spec := fun args av objs => ∃ (s : List Int) (c : Int), (byt s ∧ s.length ≤ 1048576 ∧ (0 ≤ c ∧ c ≤ 255)) ∧ args = [aS (strI s), .one (.sc (.u8 c))] ∧ av = aR 0 ∧ objs = [.flat 9 1 (strs (cutL c s))]
theorem cut_sat2 : Sat Try.prog 57 cut_sat2_S := by
  refine sat_of tok okr mixed K_cut_sat2 Try.func57 rfl (rs := [.tmp 4]) rfl Try.ntmps57 ?_
  rintro args av objs ⟨s, c, hpre, rfl, rfl, rfl⟩
  refine ⟨by show 2 ≤ 35; decide, ?_⟩
  obtain ⟨hs, hl, hc0⟩ := hpre
  repeat' (first|(refine ya ?_;first|refine ye ?_)|refine yz ?_|refine zst ?_|refine k_blk_other rfl ?_|(refine zk ?_ ?_<;>intro hc hr<;>try first|contradiction|exfalso;omega))
  refine z_loop (fun i : Nat => [(7, aI i), (6, aS (strI ((s.take i).drop (cutN c s i).2)))]) (fun i : Nat => [.obj 5 (.flat 9 1 (strs (cutN c s i).1))]) (fun i : Nat => i ≤ s.length) (fun i : Nat => s.length - i) (0) (h0 := ?_) (henv := ?_) (hobj := ?_) (h := ?_)
  · omega
  · simp [go_sem, AVm, CVm, lookS, cutN, strs, strI_nil]
  · simp [go_sem, OBm, CVm, lookS, All2, cutN, strs, strI_nil]
  intro i hi
  obtain ⟨h1, h2⟩ := cutN_le c s i
  have h3 : ((s.take i).drop (cutN c s i).2).length ≤ 1048576 := by rw [List.length_drop, List.length_take]; omega
  rcases Nat.lt_or_ge i s.length with hlt | hge
  · obtain ⟨b, hb1, hb2⟩ := strI_byte hs hlt
    by_cases he : ix s i = c
    · have hn : cutN c s (i + 1) = ((cutN c s i).1 ++ [(s.take i).drop (cutN c s i).2], i + 1) := by rw [cutN, if_pos he]
      repeat' (first|(refine ya ?_;first|refine ye ?_)|refine yz ?_|refine zst ?_|refine k_blk_other rfl ?_|(refine zk ?_ ?_<;>intro hc hr<;>try first|contradiction|exfalso;omega))
      (refine z_lop (i + 1) (hj := ?_) (hmu := ?_) (henv := ?_) (hobj := ?_); (· omega); (· first | omega | (simp only; omega)); (· first | (simp [go_sem, AVm, CVm, lookS, hn, strI_nil, *]; done) | (simp [go_sem, AVm, CVm, lookS, hn, strI_nil, *] <;> (repeat' split) <;> first | omega | (simp_all; done) | (exfalso; omega) | (simp_all; omega))); (· first | (simp [go_sem, OBm, CVm, All2, lookS, hn, strI_nil, *]; done) | (simp [go_sem, OBm, CVm, All2, lookS, hn, strI_nil, *] <;> (repeat' split) <;> first | omega | (simp_all; done) | (exfalso; omega) | (simp_all; omega))))
    · have hn : cutN c s (i + 1) = cutN c s i := by rw [cutN, if_neg he]
      have hp := part_next hlt h1
      have hq : (s.take (i + 1)).drop i = [ix s i] := by rw [take_ix2 hlt, List.drop_append_of_le_length (by rw [List.length_take]; omega), List.drop_eq_nil_of_le (by rw [List.length_take]; omega)]; rfl
      repeat' (first|(refine ya ?_;first|refine ye ?_)|refine yz ?_|refine zst ?_|refine k_blk_other rfl ?_|(refine zk ?_ ?_<;>intro hc hr<;>try first|contradiction|exfalso;omega))
      (refine z_lop (i + 1) (hj := ?_) (hmu := ?_) (henv := ?_) (hobj := ?_); (· omega); (· first | omega | (simp only; omega)); (· first | (simp [go_sem, AVm, CVm, lookS, hn, hp, hq, *]; done) | (simp [go_sem, AVm, CVm, lookS, hn, hp, hq, *] <;> (repeat' split) <;> first | omega | (simp_all; done) | (exfalso; omega) | (simp_all; omega))); (· first | (simp [go_sem, OBm, CVm, All2, lookS, hn, hp, hq, *]; done) | (simp [go_sem, OBm, CVm, All2, lookS, hn, hp, hq, *] <;> (repeat' split) <;> first | omega | (simp_all; done) | (exfalso; omega) | (simp_all; omega))))
  · have hii : i = s.length := by omega
    subst hii
    have e : cutL c s = (cutN c s s.length).1 ++ [(s.take s.length).drop (cutN c s s.length).2] := rfl
    rw [e]
    repeat' (first|(refine ya ?_;first|refine ye ?_)|refine yz ?_|refine zst ?_|refine k_blk_other rfl ?_|(refine zk ?_ ?_<;>intro hc hr<;>try first|contradiction|exfalso;omega))
    all_goals first | (refine z_ret (hv := ?_) (ho := ?_) <;> first | rfl | (simp [go_sem, *]; done) | (simp_all; done) | (simp_all; omega)) | skip
instance : Con Try.prog 57 cut_sat2_S := con cut_sat2 Try.func57
end Go.Proofs.Try
