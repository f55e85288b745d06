import Derived.Test.YtfapjflogjblaaaS4
import Derived.Test.YtfapjflogjblaaaQ20
import Derived.Test.YtfapjflogjblaaaY
set_option linter.unusedVariables false
set_option linter.unusedSimpArgs false
set_option linter.unnecessarySimpa false
/- Lists of words as texts. -/
namespace Go.Proofs.Try
open Go Go.Eng
set_option linter.unnecessarySimpa false
set_option linter.unusedSimpArgs false
set_option maxHeartbeats 8000000
set_option maxRecDepth 20000
/-- The pieces up to the n-th, with a byte between. -/
def joinS (c : Int) (l : List (List Int)) : Nat → List Int
  | 0 => []
  | n + 1 => (if n = 0 then [] else joinS c l n ++ [c]) ++ sx l n
theorem joinS_len (c : Int) (l : List (List Int)) (B : Nat) (h : ∀ s ∈ l, s.length ≤ B) (n : Nat) (hn : n ≤ l.length) : (joinS c l n).length ≤ n * (B + 1) := by
  induction n with
  | zero => simp [joinS]
  | succ n ih =>
    have h1 := ih (by omega)
    have h2 : (sx l n).length ≤ B := by
      have : sx l n = l[n] := by simp [sx, show n < l.length by omega]
      rw [this]; exact h _ (List.getElem_mem _)
    unfold joinS
    rw [Nat.add_mul]
    split
    · simp; omega
    · simp; omega
def noneT : List Int := [110, 111, 110, 101]
theorem noneT_byt : byt noneT := by intro n hn; simp [noneT] at hn; omega
def gluC (l : List (List Int)) : List Int := if l.length = 0 then noneT else joinS 44 l l.length
theorem sx_le {l : List (List Int)} {B : Nat} (h : ∀ s ∈ l, s.length ≤ B) (i : Nat) : (sx l i).length ≤ B := by
  unfold sx
  by_cases hi : i < l.length
  · rw [List.getD_eq_getElem?_getD, List.getElem?_eq_getElem hi]; exact h _ (List.getElem_mem hi)
  · rw [List.getD_eq_getElem?_getD, List.getElem?_eq_none (by omega)]; simp
def K_gluC_sat : Nat → List Nat := fun i => ([[0, 1, 2], [0, 1, 2, 12], [6], [0, 1, 7], [1, 7, 18, 19, 20], [1, 7, 18, 19, 20, 21], [1, 7, 9, 18, 19, 20], [1, 7, 18, 19, 20], [1, 7, 18, 19, 20], [6]] : List (List Nat)).getD i []
attribute [go_sem] K_gluC_sat
def gluC_sat_S : Eng.Spec := fun args av objs => ∃ (l : List (List Int)), (l.length ≤ 1048576 ∧ (∀ s ∈ l, s.length ≤ 1048577)) ∧ args = [.one (.imm 1 (strs l)), aS (strI [44]), aS (strI noneT)] ∧ av = aS (strI (gluC l)) ∧ objs = []
theorem gluC_sat : Sat Try.prog 52 gluC_sat_S := by
  refine sat_of tok okr mixed K_gluC_sat Try.func52 rfl (rs := [.tmp 6]) rfl Try.ntmps52 ?_
  rintro args av objs ⟨l, hpre, rfl, rfl, rfl⟩
  refine ⟨by show 3 ≤ 31; decide, ?_⟩
  obtain ⟨hl, hB⟩ := hpre
  by_cases h0 : l.length = 0
  · have e : gluC l = noneT := by unfold gluC; rw [if_pos h0]
    rw [e]
    repeat' (first|(refine ya ?_;first|refine ye ?_)|refine yz ?_|refine zst ?_|refine k_blk_other rfl ?_|(refine zk ?_ ?_<;>intro hc hr<;>try first|contradiction|exfalso;omega))
    all_goals first | (refine z_ret (hv := ?_) (ho := ?_) <;> first | rfl | (simp [go_sem, *]; done) | (simp_all; done) | (simp_all; omega)) | skip
  · have e : gluC l = joinS 44 l l.length := by unfold gluC; rw [if_neg h0]
    rw [e]
    clear e
    have hb0 := sx_le hB 0
    repeat' (first|(refine ya ?_;first|refine ye ?_)|refine yz ?_|refine zst ?_|refine k_blk_other rfl ?_|(refine zk ?_ ?_<;>intro hc hr<;>try first|contradiction|exfalso;omega))
    have ht : List.take (l.length - 1) l.tail = l.tail := List.take_of_length_le (by simp)
    refine z_loop (fun i : Nat => [(20, aI i), (7, aS (strI (joinS 44 l (i + 1)))), (18, .one (.imm 1 (strs l.tail)))]) (fun i : Nat => []) (fun i : Nat => i + 1 ≤ l.length) (fun i : Nat => l.length - i) (0) (h0 := ?_) (henv := ?_) (hobj := ?_) (h := ?_)
    · omega
    · simp [go_sem, AVm, CVm, lookS, joinS, ht]
    · simp [go_sem, OBm, CVm, lookS, All2, joinS, ht]
    clear ht
    intro i hi
    have hjl : (joinS 44 l (i + 1)).length ≤ 1099513724928 := by have := joinS_len 44 l 1048577 hB (i + 1) hi; omega
    have hb1 := sx_le hB (i + 1)
    have hn : joinS 44 l (i + 1 + 1) = joinS 44 l (i + 1) ++ [44] ++ sx l (i + 1) := by rw [joinS, if_neg (by omega)]
    have hc := Nat.add_comm 1 i
    rcases Nat.lt_or_ge (i + 1) l.length with hlt | hge
    · repeat' (first|(refine ya ?_;first|refine ye ?_)|refine yz ?_|refine zst ?_|refine k_blk_other rfl ?_|(refine zk ?_ ?_<;>intro hc hr<;>try first|contradiction|exfalso;omega))
      (refine z_lop (i + 1) (hj := ?_) (hmu := ?_) (henv := ?_) (hobj := ?_); (· omega); (· first | omega | (simp only; omega)); (· first | (simp [go_sem, AVm, CVm, lookS, hn, *]; done) | (simp [go_sem, AVm, CVm, lookS, hn, *] <;> (repeat' split) <;> first | omega | (simp_all; done) | (exfalso; omega) | (simp_all; omega))); (· first | (simp [go_sem, OBm, CVm, All2, lookS, hn, *]; done) | (simp [go_sem, OBm, CVm, All2, lookS, hn, *] <;> (repeat' split) <;> first | omega | (simp_all; done) | (exfalso; omega) | (simp_all; omega))))
    · have hii : l.length = i + 1 := by omega
      rw [hii]
      repeat' (first|(refine ya ?_;first|refine ye ?_)|refine yz ?_|refine zst ?_|refine k_blk_other rfl ?_|(refine zk ?_ ?_<;>intro hc hr<;>try first|contradiction|exfalso;omega))
      all_goals first | (refine z_ret (hv := ?_) (ho := ?_) <;> first | rfl | (simp [go_sem, *]; done) | (simp_all; done) | (simp_all; omega)) | skip
def fmN (ws : List (List Int)) : Nat → List (List Int)
  | 0 => []
  | i + 1 => fmN ws i ++ [fwS (wx ws i)]
theorem fmN_len (ws : List (List Int)) : ∀ i, (fmN ws i).length = i
  | 0 => rfl
  | i + 1 => by rw [fmN, List.length_append, fmN_len ws i]; rfl
theorem fmN_at {ws : List (List Int)} {j : Nat} : ∀ {i : Nat}, j < i → sx (fmN ws i) j = fwS (wx ws j)
  | 0, h => by omega
  | i + 1, h => by
    have hl := fmN_len ws i
    rcases Nat.lt_or_ge j i with h1 | h1
    · rw [← fmN_at h1]
      simp only [fmN, sx, List.getD_eq_getElem?_getD]
      rw [List.getElem?_append_left (by omega)]
    · have : j = i := by omega
      subst this
      simp only [fmN, sx, List.getD_eq_getElem?_getD]
      rw [List.getElem?_append_right (by omega), hl]
      simp
theorem fwS_le (w : List Int) : (fwS w).length ≤ w.length + 1 := by
  unfold fwS
  split
  · simp
  · split
    · have := fwN_len w w.length; omega
    · simp
theorem fmN_le {ws : List (List Int)} (h : ∀ w ∈ ws, w.length ≤ 1048576) : ∀ i, i ≤ ws.length → ∀ s ∈ fmN ws i, s.length ≤ 1048577
  | 0, _, s, hs => by cases hs
  | i + 1, hi, s, hs => by
    rcases List.mem_append.1 hs with hs | hs
    · exact fmN_le h i (by omega) s hs
    · rw [List.mem_singleton] at hs
      subst hs
      have h1 := fwS_le (wx ws i)
      have h2 := h _ (wx_mem (ws := ws) (i := i) (by omega))
      omega
theorem small_ltB {w : List Int} (h : smallW w) : ∀ j, j < w.length → ltB (ix w j) = true := fun j hj => by
  have := h _ (ix_mem hj)
  exact ltB_iff.2 (by omega)
theorem fwS_ne {w : List Int} (h : smallW w) : fwS w ≠ [] := fun e => by
  by_cases h0 : w = []
  · subst h0; rw [fwS_nil] at e; cases e
  · rw [fwS_good h0 (small_ltB h)] at e
    have := fwN_len2 (small_ltB h)
    rw [e] at this
    exact h0 (nil_of this.symm)
def fwsS (ws : List (List Int)) : List Int := gluC (fmN ws ws.length)
theorem joinS_ne {c : Int} {l : List (List Int)} {n : Nat} (h : sx l n ≠ []) : joinS c l (n + 1) ≠ [] := fun e => by
  unfold joinS at e
  exact h (List.append_eq_nil_iff.1 e).2
attribute [local irreducible] fwS ltB isW
instance : Con Try.prog 52 gluC_sat_S := con gluC_sat Try.func52
def K_fmtWs_sat : Nat → List Nat := fun i => ([[0], [0, 3], [3, 8, 9, 10], [3, 8, 9, 10, 11], [3, 5, 8, 9, 10], [3, 6, 8, 9, 10], [3, 6, 8, 9, 10, 17], [2], [3, 8, 9, 10], [3, 8, 9, 10], [2]] : List (List Nat)).getD i []
attribute [go_sem] K_fmtWs_sat
def fmtWs_sat_S : Eng.Spec := fun args av objs => ∃ (ws : List (List Int)), (ws.length ≤ 1048576 ∧ (∀ w ∈ ws, w.length ≤ 1048576) ∧ (∀ w ∈ ws, smallW w)) ∧ args = [aW ws] ∧ av = aS (strI (fwsS ws)) ∧ objs = []
theorem fmtWs_sat : Sat Try.prog 19 fmtWs_sat_S := by
  refine sat_of tok okr mixed K_fmtWs_sat Try.func19 rfl (rs := [.tmp 2]) rfl Try.ntmps19 ?_
  rintro args av objs ⟨ws, hpre, rfl, rfl, rfl⟩
  refine ⟨by show 1 ≤ 25; decide, ?_⟩
  obtain ⟨hl, hw, hs⟩ := hpre
  have hnl := fmN_len ws ws.length
  have hnb := fmN_le hw ws.length (Nat.le_refl _)
  have hx44 : (⟨#[44]⟩ : ByteArray) = strI [44] := rfl
  have hxno : (⟨#[110, 111, 110, 101]⟩ : ByteArray) = strI noneT := rfl
  unfold fwsS
  repeat' (first|(refine ya ?_;first|(refine yb ?_;first|refine yc ?_)|refine ye ?_)|refine yz ?_|refine zst ?_|refine k_blk_other rfl ?_|(refine zk ?_ ?_<;>intro hc hr<;>try first|contradiction|exfalso;omega))
  refine z_loop (fun i : Nat => [(10, aI i)]) (fun i : Nat => [.obj 3 (.flat 9 1 (strs (fmN ws i)))]) (fun i : Nat => i ≤ ws.length) (fun i : Nat => ws.length - i) (0) (h0 := ?_) (henv := ?_) (hobj := ?_) (h := ?_)
  · omega
  · simp [go_sem, AVm, CVm, lookS, fmN, strs]
  · simp [go_sem, OBm, CVm, lookS, All2, fmN, strs]
  intro i hi
  have hfl := fmN_len ws i
  rcases Nat.lt_or_ge i ws.length with hlt | hge
  · have m1 := hw _ (wx_mem hlt)
    have m2 : ∀ x ∈ wx ws i, rg x := fun x hx => by have := hs _ (wx_mem hlt) x hx; unfold rg; omega
    have m3 := fwS_ne (hs _ (wx_mem hlt))
    have hn : fmN ws (i + 1) = fmN ws i ++ [fwS (wx ws i)] := rfl
    clear hnl hnb
    repeat' (first|(refine ya ?_;first|(refine yb ?_;first|refine yc ?_)|refine ye ?_)|refine yz ?_|refine zst ?_|refine k_blk_other rfl ?_|(refine zk ?_ ?_<;>intro hc hr<;>try first|contradiction|exfalso;omega))
    (refine z_lop (i + 1) (hj := ?_) (hmu := ?_) (henv := ?_) (hobj := ?_); (· omega); (· first | omega | (simp only; omega)); (· first | (simp [go_sem, AVm, CVm, lookS, hn, *]; done) | (simp [go_sem, AVm, CVm, lookS, hn, *] <;> (repeat' split) <;> first | omega | (simp_all; done) | (exfalso; omega) | (simp_all; omega))); (· first | (simp [go_sem, OBm, CVm, All2, lookS, hn, *]; done) | (simp [go_sem, OBm, CVm, All2, lookS, hn, *] <;> (repeat' split) <;> first | omega | (simp_all; done) | (exfalso; omega) | (simp_all; omega))))
  · have hii : i = ws.length := by omega
    subst hii
    repeat' (first|(refine ya ?_;first|(refine yb ?_;first|refine z_fn gluC_sat Try.func52 (hSp := by exact ⟨fmN ws ws.length, ⟨by omega, hnb⟩, rfl, rfl, rfl⟩) (k0 := ?_) | refine yc ?_)|refine ye ?_)|refine yz ?_|refine zst ?_|refine k_blk_other rfl ?_|(refine zk ?_ ?_<;>intro hc hr<;>try first|contradiction|exfalso;omega))
    all_goals first | (refine z_ret (hv := ?_) (ho := ?_) <;> first | rfl | (simp [go_sem, *]; done) | (simp_all; done) | (simp_all; omega)) | skip
instance : Con Try.prog 19 fmtWs_sat_S := con fmtWs_sat Try.func19
def K_fmtWs_sat2 : Nat → List Nat := fun i => ([[0], [0, 3], [0, 3, 4], [0, 3, 4, 9], [0, 3, 4], [0, 3, 4, 13], [0, 3, 4], [0, 3, 4, 5], [0, 3, 4, 5, 22], [2], [0, 3, 4], [3, 27], [2], [2]] : List (List Nat)).getD i []
attribute [go_sem] K_fmtWs_sat2
def fmtWs_sat2_S : Eng.Spec := fun args av objs => ∃ (ws : List (List Int)), (ws.length ≤ 1048576 ∧ (∀ w ∈ ws, w.length ≤ 1048576) ∧ (∀ w ∈ ws, smallW w)) ∧ args = [aW ws] ∧ av = aS (strI (fwsS ws)) ∧ objs = []
theorem fmtWs_sat2 : Sat Try.prog 24 fmtWs_sat2_S := by
  refine sat_of tok okr mixed K_fmtWs_sat2 Try.func24 rfl (rs := [.tmp 2]) rfl Try.ntmps24 ?_
  rintro args av objs ⟨ws, hpre, rfl, rfl, rfl⟩
  refine ⟨by show 1 ≤ 29; decide, ?_⟩
  obtain ⟨hl, hw, hs⟩ := hpre
  have hnl := fmN_len ws ws.length
  have hnb := fmN_le hw ws.length (Nat.le_refl _)
  have hx44 : (⟨#[44]⟩ : ByteArray) = strI [44] := rfl
  have hxno : (⟨#[110, 111, 110, 101]⟩ : ByteArray) = strI noneT := rfl
  unfold fwsS
  repeat' (first|(refine ya ?_;first|(refine yb ?_;first|refine yc ?_)|refine ye ?_)|refine yz ?_|refine zst ?_|refine k_blk_other rfl ?_|(refine zk ?_ ?_<;>intro hc hr<;>try first|contradiction|exfalso;omega))
  refine z_loop (fun i : Nat => [(4, aI i), (3, aS (strI (joinS 44 (fmN ws ws.length) i)))]) (fun i : Nat => []) (fun i : Nat => i ≤ ws.length) (fun i : Nat => ws.length - i) (0) (h0 := ?_) (henv := ?_) (hobj := ?_) (h := ?_)
  · omega
  · simp [go_sem, AVm, CVm, lookS, joinS, strI_nil]
  · simp [go_sem, OBm, CVm, lookS, All2, joinS, strI_nil]
  intro i hi
  have hjl : (joinS 44 (fmN ws ws.length) i).length ≤ 1099513724928 := by have := joinS_len 44 (fmN ws ws.length) 1048577 hnb i (by omega); omega
  rcases Nat.lt_or_ge i ws.length with hlt | hge
  · have m1 := hw _ (wx_mem hlt)
    have m2 : ∀ x ∈ wx ws i, rg x := fun x hx => by have := hs _ (wx_mem hlt) x hx; unfold rg; omega
    have m3 := fwS_ne (hs _ (wx_mem hlt))
    have m4 := fwS_le (wx ws i)
    have hat := fmN_at (ws := ws) hlt
    rcases Nat.eq_zero_or_pos i with h0 | h0
    · subst h0
      have hn : joinS 44 (fmN ws ws.length) 1 = fwS (wx ws 0) := by rw [joinS, if_pos rfl, hat]; rfl
      have hn0 : joinS 44 (fmN ws ws.length) 0 = [] := rfl
      clear hnl hnb
      repeat' (first|(refine ya ?_;first|(refine yb ?_;first|refine yc ?_)|refine ye ?_)|refine yz ?_|refine zst ?_|refine k_blk_other rfl ?_|(refine zk ?_ ?_<;>intro hc hr<;>try first|contradiction|exfalso;omega))
      (refine z_lop (1) (hj := ?_) (hmu := ?_) (henv := ?_) (hobj := ?_); (· omega); (· first | omega | (simp only; omega)); (· first | (simp [go_sem, AVm, CVm, lookS, hn, hn0, *]; done) | (simp [go_sem, AVm, CVm, lookS, hn, hn0, *] <;> (repeat' split) <;> first | omega | (simp_all; done) | (exfalso; omega) | (simp_all; omega))); (· first | (simp [go_sem, OBm, CVm, All2, lookS, hn, hn0, *]; done) | (simp [go_sem, OBm, CVm, All2, lookS, hn, hn0, *] <;> (repeat' split) <;> first | omega | (simp_all; done) | (exfalso; omega) | (simp_all; omega))))
    · have hn : joinS 44 (fmN ws ws.length) (i + 1) = joinS 44 (fmN ws ws.length) i ++ [44] ++ fwS (wx ws i) := by rw [joinS, if_neg (by omega), hat]
      clear hnl hnb
      repeat' (first|(refine ya ?_;first|(refine yb ?_;first|refine yc ?_)|refine ye ?_)|refine yz ?_|refine zst ?_|refine k_blk_other rfl ?_|(refine zk ?_ ?_<;>intro hc hr<;>try first|contradiction|exfalso;omega))
      (refine z_lop (i + 1) (hj := ?_) (hmu := ?_) (henv := ?_) (hobj := ?_); (· omega); (· first | omega | (simp only; omega)); (· first | (simp [go_sem, AVm, CVm, lookS, hn, *]; done) | (simp [go_sem, AVm, CVm, lookS, hn, *] <;> (repeat' split) <;> first | omega | (simp_all; done) | (exfalso; omega) | (simp_all; omega))); (· first | (simp [go_sem, OBm, CVm, All2, lookS, hn, *]; done) | (simp [go_sem, OBm, CVm, All2, lookS, hn, *] <;> (repeat' split) <;> first | omega | (simp_all; done) | (exfalso; omega) | (simp_all; omega))))
  · have hii : i = ws.length := by omega
    subst hii
    rcases Nat.eq_zero_or_pos ws.length with h0 | h0
    · have e : gluC (fmN ws ws.length) = noneT := by unfold gluC; rw [if_pos (by omega)]
      have e2 : joinS 44 (fmN ws ws.length) ws.length = [] := by rw [h0]; rfl
      rw [e, e2]
      clear e e2
      repeat' (first|(refine ya ?_;first|(refine yb ?_;first|refine yc ?_)|refine ye ?_)|refine yz ?_|refine zst ?_|refine k_blk_other rfl ?_|(refine zk ?_ ?_<;>intro hc hr<;>try first|contradiction|exfalso;omega))
      all_goals first | (refine z_ret (hv := ?_) (ho := ?_) <;> first | rfl | (simp [go_sem, *]; done) | (simp_all; done) | (simp_all; omega)) | skip
    · have e : gluC (fmN ws ws.length) = joinS 44 (fmN ws ws.length) ws.length := by unfold gluC; rw [if_neg (by omega), hnl]
      have hne : joinS 44 (fmN ws ws.length) ws.length ≠ [] := by
        obtain ⟨k, hk⟩ : ∃ k, ws.length = k + 1 := ⟨ws.length - 1, by omega⟩
        rw [hk]
        refine joinS_ne ?_
        rw [fmN_at (by omega)]
        exact fwS_ne (hs _ (wx_mem (by omega)))
      rw [e]
      clear e
      repeat' (first|(refine ya ?_;first|(refine yb ?_;first|refine yc ?_)|refine ye ?_)|refine yz ?_|refine zst ?_|refine k_blk_other rfl ?_|(refine zk ?_ ?_<;>intro hc hr<;>try first|contradiction|exfalso;omega))
      all_goals first | (refine z_ret (hv := ?_) (ho := ?_) <;> first | rfl | (simp [go_sem, *]; done) | (simp_all; done) | (simp_all; omega)) | skip
instance : Con Try.prog 24 fmtWs_sat2_S := con fmtWs_sat2 Try.func24
end Go.Proofs.Try
