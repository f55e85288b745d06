import Derived.Test.YtfapjflogjblaaaS6
import Derived.Test.YtfapjflogjblaaaD24
import Derived.Test.YtfapjflogjblaaaX7
set_option linter.unusedVariables false
set_option linter.unusedSimpArgs false
set_option linter.unnecessarySimpa false
/- The specification's draws of texts and of pairs of lists of words. -/
namespace Go.Proofs.Try
open Go Go.Eng
set_option linter.unnecessarySimpa false
set_option linter.unusedSimpArgs false
set_option maxHeartbeats 8000000
set_option maxRecDepth 20000
theorem bytesOne (n : Int) : bytesOf [[Sc.u8 n]] = some [UInt8.ofNat n.toNat] := rfl
theorem strOne (n : Int) : (⟨#[UInt8.ofNat n.toNat]⟩ : ByteArray) = strI [n] := rfl
attribute [go_sem] bytesOne strOne
theorem w8_rg (n : Int) : 0 ≤ w8 n ∧ w8 n ≤ 255 := by
  unfold w8 IntKind.wrap
  simp [IntKind.signed, IntKind.bits]
  omega
/-! ### A text spoilt -/
def spM (cd : List Int) (cu : Cu) (s : List Int) : Int := beV cd (beS cd cu s.length) 4
def spK (cd : List Int) (cu : Cu) (s : List Int) : Nat := (beV cd cu s.length).toNat
def spD (cd : List Int) (cu : Cu) (s : List Int) : Cu := beS cd (beS cd cu s.length) 4
def spX (cd : List Int) (cu : Cu) (s : List Int) : Int := w8 (bXor (ix s (spK cd cu s)) (1 + beV cd (spD cd cu s) 255))
def spS (cd : List Int) (cu : Cu) (s : List Int) : List Int :=
  if spM cd cu s = 0 then s.take (spK cd cu s) ++ s.drop (spK cd cu s + 1) else if spM cd cu s = 1 then s.take (spK cd cu s) ++ [byV cd (spD cd cu s)] ++ s.drop (spK cd cu s)
  else if spM cd cu s = 2 then s.take (spK cd cu s) else s.take (spK cd cu s) ++ [spX cd cu s] ++ s.drop (spK cd cu s + 1)
def spC (cd : List Int) (cu : Cu) (s : List Int) : Cu :=
  if spM cd cu s = 0 then spD cd cu s else if spM cd cu s = 1 then byS cd (spD cd cu s) else if spM cd cu s = 2 then spD cd cu s else beS cd (spD cd cu s) 255
theorem spS_ok {cd : List Int} {cu : Cu} {s : List Int} (hs : byt s) : byt (spS cd cu s) ∧ (spS cd cu s).length ≤ s.length + 1 := by
  have h1 : ∀ k, byt (s.take k) := fun k => byt_sub hs fun _ hx => List.mem_of_mem_take hx
  have h2 : ∀ k, byt (s.drop k) := fun k => byt_sub hs fun _ hx => List.mem_of_mem_drop hx
  have h3 : byt [byV cd (spD cd cu s)] := by intro n hn; rw [List.mem_singleton] at hn; subst hn; exact byV_rg ..
  have h4 : byt [spX cd cu s] := by intro n hn; rw [List.mem_singleton] at hn; subst hn; exact w8_rg _
  unfold spS
  split
  · exact ⟨strCat (h1 _) (h2 _), by rw [List.length_append, List.length_take, List.length_drop]; omega⟩
  · split
    · exact ⟨strCat (strCat (h1 _) h3) (h2 _), by rw [List.length_append, List.length_append, List.length_take, List.length_drop, List.length_singleton]; omega⟩
    · split
      · exact ⟨h1 _, by rw [List.length_take]; omega⟩
      · exact ⟨strCat (strCat (h1 _) h4) (h2 _), by rw [List.length_append, List.length_append, List.length_take, List.length_drop, List.length_singleton]; omega⟩
attribute [local irreducible] beV beS byV byS nwC
def K_spoil_sat : Nat → List Nat := fun i => ([[0, 1], [0, 1, 8], [4], [0, 1, 5], [0, 1, 5, 16], [0, 1, 5, 16, 17], [4], [0, 1, 5, 16, 27], [4], [0, 1, 5, 42], [4], [4]] : List (List Nat)).getD i []
attribute [go_sem] K_spoil_sat
def spoil_sat_S : SpecB := fun args bs i h av objs i' h' => ∃ (cd : List Int) (cu : Cu) (s : List Int), (cd.length ≤ 1048576 ∧ byt s ∧ s ≠ [] ∧ s.length ≤ 200) ∧ args = [aC, aS (strI s)] ∧ bs = bys cd ∧ i = (cu.p : Int) ∧ h = cu.q ∧ av = aS (strI (spS cd cu s)) ∧ objs = [] ∧ i' = ((spC cd cu s).p : Int) ∧ h' = (spC cd cu s).q
theorem spoil_sat : SatB Try.prog 55 83 spoil_sat_S := by
  refine satB_of tok okr mixed K_spoil_sat Try.func55 rfl (rs := [.tmp 4]) rfl Try.ntmps55 ?_
  rintro args bs i h av objs i' h' ⟨cd, cu, s, hpre, rfl, rfl, rfl, rfl, rfl, rfl, rfl, rfl⟩
  refine ⟨by show 2 ≤ 67; decide, fun u S W pv => ?_⟩
  obtain ⟨hcd, hs, h0, hl⟩ := hpre
  have hl0 : s.length ≠ 0 := fun e => h0 (nil_of e)
  have hk := beV_rg cd cu (n := s.length) (by omega)
  have hki : (beV cd cu s.length).toNat < s.length := by omega
  have hto : (beV cd cu s.length + 1).toNat = (beV cd cu s.length).toNat + 1 := by omega
  have hx := w8_rg (bXor (ix s (beV cd cu s.length).toNat) (1 + beV cd (beS cd (beS cd cu s.length) 4) 255))
  have hbv := byV_rg cd (beS cd (beS cd cu s.length) 4)
  have hb5 := beV_rg cd (beS cd (beS cd cu s.length) 4) (n := 255) (by decide)
  obtain ⟨b, hb1, hb2⟩ := strI_byte hs hki
  have hix := hs _ (ix_mem hki)
  unfold spS spC spX
  unfold spM spK spD at *
  by_cases k0 : beV cd (beS cd cu s.length) 4 = 0
  · rw [if_pos k0, if_pos k0]
    repeat' (first|(refine ya ?_;first|(refine yb ?_;first|refine yc ?_|refine yq ?_)|refine ye ?_)|refine yz ?_|(refine yA ?_;first|(refine yB ?_;first|refine yC ?_|refine yQ ?_)|refine yE ?_)|refine yZ ?_|refine zst ?_|refine k_blk_other rfl ?_|(refine zk ?_ ?_<;>intro hc hr<;>try first|contradiction|exfalso;omega))
    all_goals first | (refine z_retB (hv := ?_) (ho := ?_) (hc := ?_) <;> first | rfl | (simp [go_sem, hto, *]; done) | (simp_all [hto]; done) | (simp_all [hto]; omega)) | skip
  · rw [if_neg k0, if_neg k0]
    by_cases k1 : beV cd (beS cd cu s.length) 4 = 1
    · rw [if_pos k1, if_pos k1]
      repeat' (first|(refine ya ?_;first|(refine yb ?_;first|refine yc ?_|refine yq ?_)|refine ye ?_)|refine yz ?_|(refine yA ?_;first|(refine yB ?_;first|refine yC ?_|refine yQ ?_)|refine yE ?_)|refine yZ ?_|refine zst ?_|refine k_blk_other rfl ?_|(refine zk ?_ ?_<;>intro hc hr<;>try first|contradiction|exfalso;omega))
      all_goals first | (refine z_retB (hv := ?_) (ho := ?_) (hc := ?_) <;> first | rfl | (simp [go_sem, hto, *]; done) | (simp_all [hto]; done) | (simp_all [hto]; omega)) | skip
    · rw [if_neg k1, if_neg k1]
      by_cases k2 : beV cd (beS cd cu s.length) 4 = 2
      · rw [if_pos k2, if_pos k2]
        repeat' (first|(refine ya ?_;first|(refine yb ?_;first|refine yc ?_|refine yq ?_)|refine ye ?_)|refine yz ?_|(refine yA ?_;first|(refine yB ?_;first|refine yC ?_|refine yQ ?_)|refine yE ?_)|refine yZ ?_|refine zst ?_|refine k_blk_other rfl ?_|(refine zk ?_ ?_<;>intro hc hr<;>try first|contradiction|exfalso;omega))
        all_goals first | (refine z_retB (hv := ?_) (ho := ?_) (hc := ?_) <;> first | rfl | (simp [go_sem, hto, *]; done) | (simp_all [hto]; done) | (simp_all [hto]; omega)) | skip
      · rw [if_neg k2, if_neg k2]
        repeat' (first|(refine ya ?_;first|(refine yb ?_;first|refine yc ?_|refine yq ?_)|refine ye ?_)|refine yz ?_|(refine yA ?_;first|(refine yB ?_;first|refine yC ?_|refine yQ ?_)|refine yE ?_)|refine yZ ?_|refine zst ?_|refine k_blk_other rfl ?_|(refine zk ?_ ?_<;>intro hc hr<;>try first|contradiction|exfalso;omega))
        all_goals first | (refine z_retB (hv := ?_) (ho := ?_) (hc := ?_) <;> first | rfl | (simp [go_sem, hto, *]; done) | (simp_all [hto]; done) | (simp_all [hto]; omega)) | skip
def pkL : List (List Int) := [[], noneT, [49], [97, 44, 44, 98], [97, 98, 44, 49], [97, 44, 32, 98], [97, 65]]
theorem pkL_all : ∀ s ∈ pkL, (∀ n ∈ s, 0 ≤ n ∧ n ≤ 255) ∧ s.length ≤ 10 := by decide
theorem pkL_ok (i : Nat) : byt (sx pkL i) ∧ (sx pkL i).length ≤ 10 := by
  rcases Nat.lt_or_ge i pkL.length with h | h
  · exact pkL_all _ (sx_mem h)
  · have : sx pkL i = [] := by unfold sx; rw [List.getD_eq_getElem?_getD, List.getElem?_eq_none h]; rfl
    rw [this]; exact ⟨(fun n hn => by cases hn), by simp⟩
instance : ConB Try.prog 55 83 spoil_sat_S := conB spoil_sat Try.func55
def K_pickS_sat : Nat → List Nat := fun i => ([[0, 1], [4]] : List (List Nat)).getD i []
attribute [go_sem] K_pickS_sat
def pickS_sat_S : SpecB := fun args bs i h av objs i' h' => ∃ (cd : List Int) (cu : Cu) , (cd.length ≤ 1048576) ∧ args = [aC, .one (.imm 1 (strs pkL))] ∧ bs = bys cd ∧ i = (cu.p : Int) ∧ h = cu.q ∧ av = aS (strI (sx pkL (beV cd cu 7).toNat)) ∧ objs = [] ∧ i' = ((beS cd cu 7).p : Int) ∧ h' = (beS cd cu 7).q
theorem pickS_sat : SatB Try.prog 56 83 pickS_sat_S := by
  refine satB_of tok okr mixed K_pickS_sat Try.func56 rfl (rs := [.tmp 4]) rfl Try.ntmps56 ?_
  rintro args bs i h av objs i' h' ⟨cd, cu, hpre, rfl, rfl, rfl, rfl, rfl, rfl, rfl, rfl⟩
  refine ⟨by show 2 ≤ 12; decide, fun u S W pv => ?_⟩
  have hb := beV_rg cd cu (n := 7) (by decide)
  have hl : pkL.length = 7 := rfl
  have hki : (beV cd cu 7).toNat < pkL.length := by omega
  generalize pkL = l at *
  repeat' (first|(refine ya ?_;first|(refine yb ?_;first|refine yq ?_)|refine ye ?_)|refine yz ?_|refine zst ?_|refine k_blk_other rfl ?_|(refine zk ?_ ?_<;>intro hc hr<;>try first|contradiction|exfalso;omega))
  all_goals first | (refine z_retB (hv := ?_) (ho := ?_) (hc := ?_) <;> first | rfl | (simp [go_sem, *]; done) | (simp_all; done) | (simp_all; omega)) | skip
/-! ### A rank and a text -/
def dPq (cd : List Int) : List Int := fwsS (l6Aw cd (nwC cd))
def dPk (cd : List Int) : Int := beV cd (l6Ac cd (nwC cd)) 4
def dPc (cd : List Int) : Cu := beS cd (l6Ac cd (nwC cd)) 4
def dPs (cd : List Int) : List Int := if dPk cd = 0 then spS cd (dPc cd) (dPq cd) else if dPk cd = 1 then sx pkL (beV cd (dPc cd) 7).toNat else dPq cd
theorem joinS_byt {c : Int} {l : List (List Int)} (hc : 0 ≤ c ∧ c ≤ 255) (h : ∀ i, byt (sx l i)) : ∀ n, byt (joinS c l n)
  | 0 => fun n hn => by cases hn
  | n + 1 => by
    unfold joinS
    split
    · exact strCat (fun n hn => by cases hn) (h n)
    · exact strCat (strCat (joinS_byt hc h n) (fun m hm => by rw [List.mem_singleton] at hm; subst hm; exact hc)) (h n)
theorem fmN_byt (ws : List (List Int)) (i : Nat) (j : Nat) : byt (sx (fmN ws i) j) := by
  rcases Nat.lt_or_ge j i with h | h
  · rw [fmN_at h]; exact fwS_byt _
  · have : sx (fmN ws i) j = [] := by unfold sx; rw [List.getD_eq_getElem?_getD, List.getElem?_eq_none (by rw [fmN_len]; exact h)]; rfl
    rw [this]; exact fun n hn => by cases hn
theorem fmN_le5 {ws : List (List Int)} {B : Nat} (h : ∀ w ∈ ws, w.length ≤ B) : ∀ i, i ≤ ws.length → ∀ s ∈ fmN ws i, s.length ≤ B + 1
  | 0, _, s, hs => by cases hs
  | i + 1, hi, s, hs => by
    rcases List.mem_append.1 hs with hs | hs
    · exact fmN_le5 h i (by omega) s hs
    · rw [List.mem_singleton] at hs
      subst hs
      have h1 := fwS_le (wx ws i)
      have h2 := h _ (wx_mem (ws := ws) (i := i) (by omega))
      omega
theorem fwsS_ok {ws : List (List Int)} (h1 : ws.length ≤ 4) (h2 : ∀ w ∈ ws, w.length ≤ 5) (h3 : ∀ w ∈ ws, smallW w) : byt (fwsS ws) ∧ fwsS ws ≠ [] ∧ (fwsS ws).length ≤ 100 := by
  have hl := fmN_len ws ws.length
  unfold fwsS gluC
  split
  · exact ⟨noneT_byt, by decide, by decide⟩
  · rename_i h0
    refine ⟨joinS_byt (by decide) (fmN_byt ws _) _, ?_, ?_⟩
    · obtain ⟨k, hk⟩ : ∃ k, ws.length = k + 1 := ⟨ws.length - 1, by omega⟩
      rw [hl, hk]
      refine joinS_ne ?_
      rw [fmN_at (by omega)]
      exact fwS_ne (h3 _ (wx_mem (by omega)))
    · have := joinS_len 44 (fmN ws ws.length) 6 (fmN_le5 h2 _ (Nat.le_refl _)) _ (Nat.le_refl _)
      omega
theorem dPs_ok (cd : List Int) : byt (dPs cd) ∧ (dPs cd).length ≤ 1000 := by
  obtain ⟨_, a3, a4, a5⟩ := l6A_ok cd (nwC cd)
  obtain ⟨f1, f2, f3⟩ := fwsS_ok a3 a4 a5
  unfold dPs
  split
  · obtain ⟨g1, g2⟩ := spS_ok (cd := cd) (cu := dPc cd) (s := dPq cd) f1
    have : (dPq cd).length ≤ 100 := f3
    exact ⟨g1, by omega⟩
  · split
    · have := pkL_ok (beV cd (dPc cd) 7).toNat
      exact ⟨this.1, by omega⟩
    · exact ⟨f1, by have : (dPq cd).length ≤ 100 := f3; omega⟩
theorem dPq_eq (cd : List Int) : fwsS (l6Aw cd (nwC cd)) = dPq cd := rfl
theorem dPk_eq (cd : List Int) : beV cd (l6Ac cd (nwC cd)) 4 = dPk cd := rfl
theorem dPc_eq (cd : List Int) : beS cd (l6Ac cd (nwC cd)) 4 = dPc cd := rfl
attribute [local irreducible] l6Ar l6Aw l6Ac fwsS spS spC dPq
instance : ConB Try.prog 56 83 pickS_sat_S := conB pickS_sat Try.func56
def K_dPsW_sat : Nat → List Nat := fun i => ([[0], [4], [4, 5, 6], [4, 5, 7], [4, 5, 7, 18], [4, 5, 7, 18, 19], [2, 3], [4, 5, 7, 25], [2, 3], [2, 3]] : List (List Nat)).getD i []
attribute [go_sem] K_dPsW_sat
def dPsW_sat_S : Eng.Spec := fun args av objs => ∃ (cd : List Int), (cd.length ≤ 1048576) ∧ args = [.one (.imm 1 (bys cd))] ∧ av = .tup [aI (l6Ar cd (nwC cd)), aS (strI (dPs cd))] ∧ objs = []
theorem dPsW_sat : Sat Try.prog 21 dPsW_sat_S := by
  refine sat_of tok okr mixed K_dPsW_sat Try.func21 rfl (rs := [.tmp 2, .tmp 3]) rfl Try.ntmps21 ?_
  rintro args av objs ⟨cd, hpre, rfl, rfl, rfl⟩
  refine ⟨by show 1 ≤ 33; decide, ?_⟩
  obtain ⟨_, a3, a4, a5⟩ := l6A_ok cd (nwC cd)
  obtain ⟨f1, f2, f3⟩ := fwsS_ok a3 a4 a5
  have f4 : (fwsS (l6Aw cd (nwC cd))).length ≤ 200 := by omega
  have a6 : (l6Aw cd (nwC cd)).length ≤ 1048576 := by omega
  have a7 : ∀ w ∈ l6Aw cd (nwC cd), w.length ≤ 1048576 := fun w hw => by have := a4 w hw; omega
  unfold dPs
  rw [← dPq_eq, ← dPk_eq, ← dPc_eq]
  by_cases k0 : beV cd (l6Ac cd (nwC cd)) 4 = 0
  · rw [if_pos k0]
    repeat' (first|(refine ya ?_;first|(refine yb ?_;first|refine yc ?_|refine yq ?_|refine ym ?_)|refine ye ?_)|refine yz ?_|refine zst ?_|refine k_blk_other rfl ?_|(refine zk ?_ ?_<;>intro hc hr<;>try first|contradiction|exfalso;omega))
    all_goals first | (refine z_ret (hv := ?_) (ho := ?_) <;> first | rfl | (simp [go_sem, *]; done) | (simp_all; done) | (simp_all; omega)) | skip
  · rw [if_neg k0]
    by_cases k1 : beV cd (l6Ac cd (nwC cd)) 4 = 1
    · rw [if_pos k1]
      repeat' (first|(refine ya ?_;first|(refine yb ?_;first|refine yc ?_|refine yq ?_|refine ym ?_)|refine ye ?_)|refine yz ?_|refine zst ?_|refine k_blk_other rfl ?_|(refine zk ?_ ?_<;>intro hc hr<;>try first|contradiction|exfalso;omega))
      all_goals first | (refine z_ret (hv := ?_) (ho := ?_) <;> first | rfl | (simp [go_sem, *]; done) | (simp_all; done) | (simp_all; omega)) | skip
    · rw [if_neg k1]
      repeat' (first|(refine ya ?_;first|(refine yb ?_;first|refine yc ?_|refine yq ?_|refine ym ?_)|refine ye ?_)|refine yz ?_|refine zst ?_|refine k_blk_other rfl ?_|(refine zk ?_ ?_<;>intro hc hr<;>try first|contradiction|exfalso;omega))
      all_goals first | (refine z_ret (hv := ?_) (ho := ?_) <;> first | rfl | (simp [go_sem, *]; done) | (simp_all; done) | (simp_all; omega)) | skip
/-! ### Paths -/
def dAc (cd : List Int) : Cu := (l4A cd (nwC cd)).2
def dAu (cd : List Int) : Int := beV cd (dAc cd) 4 - beV cd (beS cd (dAc cd) 4) 2 * beV cd (beS cd (beS cd (dAc cd) 4) 2) 2
def dAd (cd : List Int) : Cu := beS cd (beS cd (beS cd (dAc cd) 4) 2) 2
def dAv (cd : List Int) : Int := beV cd (dAd cd) 4
def dAw (cd : List Int) : List Int := (l2W cd 2 5 (beS cd (dAd cd) 4)).1
theorem bit_mul2 {a b : Int} (ha : 0 ≤ a ∧ a < 2) (hb : 0 ≤ b ∧ b < 2) : 0 ≤ a * b ∧ a * b ≤ 1 := by
  have h1 : a = 0 ∨ a = 1 := by omega
  rcases h1 with rfl | rfl
  · simp
  · simp; omega
theorem dAw_len (cd : List Int) : (dAw cd).length ≤ 5 := by
  obtain ⟨h1, _⟩ := l2W_ok cd (r := 2) (m := 5) (beS cd (dAd cd) 4) (by omega) (by omega)
  unfold dAw; omega
attribute [local irreducible] l4A l2W
instance : Con Try.prog 21 dPsW_sat_S := con dPsW_sat Try.func21
def K_dAP_sat : Nat → List Nat := fun i => ([[0, 2], [2, 6], [2, 6, 7], [2, 6, 7, 8], [2, 6, 7, 8, 9], [2, 3, 4, 5]] : List (List Nat)).getD i []
attribute [go_sem] K_dAP_sat
def dAP_sat_S : Eng.Spec := fun args av objs => ∃ (cd : List Int), (cd.length ≤ 1048576) ∧ args = [.one (.imm 1 (bys cd))] ∧ av = .tup [gT (l4A cd (nwC cd)).1, aI (dAu cd), .one (.ref 1), aI (dAv cd)] ∧ objs = [oE 56 (l4A cd (nwC cd)).1.es, oL 3 (dAw cd)]
theorem dAP_sat : Sat Try.prog 13 dAP_sat_S := by
  refine sat_of tok okr mixed K_dAP_sat Try.func13 rfl (rs := [.cell 2 29, .tmp 3, .tmp 4, .tmp 5]) rfl Try.ntmps13 ?_
  rintro args av objs ⟨cd, hpre, rfl, rfl, rfl⟩
  refine ⟨by show 1 ≤ 29; decide, ?_⟩
  have hm := bit_mul2 (beV_rg cd (beS cd (l4A cd (nwC cd)).2 4) (n := 2) (by decide)) (beV_rg cd (beS cd (beS cd (l4A cd (nwC cd)).2 4) 2) (n := 2) (by decide))
  have h4 := beV_rg cd (l4A cd (nwC cd)).2 (n := 4) (by decide)
  unfold dAu dAv dAw
  unfold dAd
  unfold dAc
  repeat' (first|(refine ya ?_;first|(refine yb ?_;first|refine yq ?_|refine ym ?_)|refine ye ?_)|refine yz ?_|(refine yA ?_;first|(refine yB ?_;first|refine yQ ?_|refine yM ?_)|refine yE ?_)|refine yZ ?_|refine zst ?_|refine k_blk_other rfl ?_|(refine zk ?_ ?_<;>intro hc hr<;>try first|contradiction|exfalso;omega))
  all_goals first | (refine z_ret (hv := ?_) (ho := ?_) <;> first | rfl | (simp [go_sem, *]; done) | (simp_all; done) | (simp_all; omega)) | skip
attribute [local irreducible] dAu dAv dAw
instance : Con Try.prog 13 dAP_sat_S := con dAP_sat Try.func13
def K_dAQ_sat : Nat → List Nat := fun i => ([[0, 2], [2, 4, 6], [2, 3]] : List (List Nat)).getD i []
attribute [go_sem] K_dAQ_sat
def dAQ_sat_S : Eng.Spec := fun args av objs => ∃ (cd : List Int), (cd.length ≤ 1048576) ∧ args = [.one (.imm 1 (bys cd))] ∧ av = .tup [gT (l4A cd (nwC cd)).1, .one (.ref 1)] ∧ objs = [oE 56 (l4A cd (nwC cd)).1.es, oL 3 (dAw cd)]
theorem dAQ_sat : Sat Try.prog 16 dAQ_sat_S := by
  refine sat_of tok okr mixed K_dAQ_sat Try.func16 rfl (rs := [.cell 2 29, .tmp 3]) rfl Try.ntmps16 ?_
  rintro args av objs ⟨cd, hpre, rfl, rfl, rfl⟩
  refine ⟨by show 1 ≤ 17; decide, ?_⟩
  repeat' (first|(refine ya ?_;first|(refine yb ?_;first|refine yc ?_)|refine ye ?_)|refine yz ?_|refine zst ?_|refine k_blk_other rfl ?_|(refine zk ?_ ?_<;>intro hc hr<;>try first|contradiction|exfalso;omega))
  all_goals first | (refine z_ret (hv := ?_) (ho := ?_) <;> first | rfl | (simp [go_sem, *]; done) | (simp_all; done) | (simp_all; omega)) | skip
/-! ### Two lists of words -/
def eqB (cd : List Int) : List (List Int) := if beV cd (l6Ac cd (nwC cd)) 2 = 0 then l6Aw cd (nwC cd) else l6Aw cd (beS cd (l6Ac cd (nwC cd)) 2)
theorem osW_mapS (ws : List (List Int)) : osW ws = (intss ws).map some := by simp [osW, intss]
instance : Con Try.prog 16 dAQ_sat_S := con dAQ_sat Try.func16
def K_dEL_sat : Nat → List Nat := fun i => ([[0], [4], [4, 6], [4, 6, 17], [2, 3], [6, 8], [2, 3]] : List (List Nat)).getD i []
attribute [go_sem] K_dEL_sat
def dEL_sat_S : SpecI := fun args av => ∃ (cd : List Int), (cd.length ≤ 1048576) ∧ args = [.one (.imm 1 (bys cd))] ∧ av = .tup [aW (l6Aw cd (nwC cd)), aW (eqB cd)]
theorem dEL_sat : SatI Try.prog 23 dEL_sat_S := by
  refine satI_of tok okr mixed K_dEL_sat Try.func23 rfl (rs := [.tmp 2, .tmp 3]) rfl Try.ntmps23 ?_
  rintro args av ⟨cd, hpre, rfl, rfl⟩
  refine ⟨by show 1 ≤ 29; decide, rfl, ?_⟩
  obtain ⟨_, a3, a4, a5⟩ := l6A_ok cd (nwC cd)
  have hle : (osW []).length + (osW (l6Aw cd (nwC cd))).length ≤ 1099511627776 := by rw [osW_len, osW_len]; simp; omega
  unfold eqB
  by_cases k0 : beV cd (l6Ac cd (nwC cd)) 2 = 0
  · rw [if_pos k0]
    repeat' (first|(refine yqF ?_)|(refine y_appD tok 152 104 (osW []) (osW (l6Aw cd (nwC cd))) hle ?_)|(refine ya ?_;first|(refine yb ?_;first|refine yq ?_|refine ym ?_)|refine ye ?_)|refine yz ?_|refine zst ?_|refine k_blk_other rfl ?_|(refine zk ?_ ?_<;>intro hc hr<;>try first|contradiction|exfalso;omega))
    refine z_retI (by first | exact .inl rfl | exact .inr rfl) ?_
    exact ⟨_, rfl, ⟨intss (l6Aw cd (nwC cd)), osW_mapS _, rfl⟩, ⟨intss (l6Aw cd (nwC cd)), osW_mapS _, rfl⟩, trivial⟩
  · rw [if_neg k0]
    repeat' (first|(refine yqF ?_)|(refine ya ?_;first|(refine yb ?_;first|refine yq ?_|refine ym ?_)|refine ye ?_)|refine yz ?_|refine zst ?_|refine k_blk_other rfl ?_|(refine zk ?_ ?_<;>intro hc hr<;>try first|contradiction|exfalso;omega))
    refine z_retI (by first | exact .inl rfl | exact .inr rfl) ?_
    exact ⟨_, rfl, ⟨intss (l6Aw cd (nwC cd)), osW_mapS _, rfl⟩, ⟨intss (l6Aw cd (beS cd (l6Ac cd (nwC cd)) 2)), osW_mapS _, rfl⟩, trivial⟩
end Go.Proofs.Try
