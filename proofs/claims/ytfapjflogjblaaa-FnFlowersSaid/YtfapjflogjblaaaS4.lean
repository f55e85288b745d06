import Derived.Test.YtfapjflogjblaaaS3
set_option linter.unusedVariables false
set_option linter.unusedSimpArgs false
set_option linter.unnecessarySimpa false
/- Words read out of texts. -/
namespace Go.Proofs.Try
open Go Go.Eng
set_option linter.unnecessarySimpa false
set_option linter.unusedSimpArgs false
set_option maxHeartbeats 8000000
set_option maxRecDepth 20000
/-- The letter of a byte. -/
def lof (n : Int) : Int := if 97 ≤ n ∧ n ≤ 99 then n - 96 else if 65 ≤ n ∧ n ≤ 67 then 64 - n else 0
theorem lof_rg (n : Int) : -3 ≤ lof n ∧ lof n ≤ 3 := by unfold lof; split <;> (try split) <;> omega
def gdc (n : Int) : Prop := (97 ≤ n ∧ n ≤ 99) ∨ (65 ≤ n ∧ n ≤ 67)
theorem lof_ltx {n : Int} (h : gdc n) : ltx (lof n) = [n] ∧ ltB (lof n) = true := by
  unfold gdc at h
  rcases h with h | h
  · have : n = 97 ∨ n = 98 ∨ n = 99 := by omega
    rcases this with rfl | rfl | rfl <;> decide
  · have : n = 65 ∨ n = 66 ∨ n = 67 := by omega
    rcases this with rfl | rfl | rfl <;> decide
theorem lof_bad {n : Int} (h : ¬ gdc n) : lof n = 0 := by
  unfold gdc at h
  unfold lof
  rw [if_neg (by omega), if_neg (by omega)]
def pwW (s : List Int) : List Int := if s = [49] then [] else s.map lof
def pwB (r : Int) (s : List Int) : Bool := isW r (pwW s) && decide (fwS (pwW s) = s)
def pwR (r : Int) (s : List Int) : List Int := if pwB r s then pwW s else []
theorem ix_map {s : List Int} {i : Nat} (h : i < s.length) : ix (s.map lof) i = lof (ix s i) := by simp [ix, h]
def plN (s : List Int) : Nat → List Int
  | 0 => []
  | i + 1 => plN s i ++ [lof (ix s i)]
theorem plN_len (s : List Int) : ∀ i, (plN s i).length = i
  | 0 => rfl
  | i + 1 => by rw [plN, List.length_append, plN_len s i]; rfl
theorem plN_eq {s : List Int} : ∀ {i : Nat}, i ≤ s.length → plN s i = (s.take i).map lof
  | 0, _ => by simp [plN]
  | i + 1, h => by rw [plN, plN_eq (by omega), take_ix2 (by omega), List.map_append]; rfl
theorem plN_all (s : List Int) : plN s s.length = s.map lof := by rw [plN_eq (Nat.le_refl _), List.take_length]
theorem plN_s (s : List Int) (i : Nat) : plN s (i + 1) = plN s i ++ [lof (ix s i)] := rfl
theorem fwN_lof {s : List Int} : ∀ {i : Nat}, i ≤ s.length → (∀ j, j < i → gdc (ix s j)) → fwN (s.map lof) i = s.take i
  | 0, _, _ => by simp [fwN]
  | i + 1, h, hg => by
    rw [fwN, fwN_lof (by omega) (fun j hj => hg j (by omega)), ix_map (by omega), (lof_ltx (hg i (by omega))).1, take_ix2 (by omega)]
/-- A text of letters comes back. -/
theorem fwS_lof {s : List Int} (h0 : s ≠ []) (hg : ∀ j, j < s.length → gdc (ix s j)) : fwS (s.map lof) = s := by
  rw [fwS_good (by simpa using h0) (fun j hj => ?_), List.length_map, fwN_lof (Nat.le_refl _) hg, List.take_length]
  rw [List.length_map] at hj
  rw [ix_map hj]
  exact (lof_ltx (hg j hj)).2
theorem pwW_one : pwW [49] = [] := rfl
theorem pwW_else {s : List Int} (h : s ≠ [49]) : pwW s = s.map lof := by unfold pwW; rw [if_neg h]
theorem pwW_len (s : List Int) : (pwW s).length ≤ s.length := by unfold pwW; split <;> simp
theorem pwW_rg (s : List Int) : ∀ x ∈ pwW s, -3 ≤ x ∧ x ≤ 3 := fun x hx => by
  unfold pwW at hx
  split at hx
  · cases hx
  · obtain ⟨n, _, rfl⟩ := List.mem_map.1 hx; exact lof_rg n
theorem isW_z {r : Int} {w : List Int} {i : Nat} (hi : i < w.length) (h : ix w i = 0) : isW r w = false := by
  rw [← Bool.not_eq_true]
  intro h2
  have := isW_at h2 hi
  omega
theorem pwB_bad {r : Int} {s : List Int} {i : Nat} (hs : s ≠ [49]) (hi : i < s.length) (h : ¬ gdc (ix s i)) : pwB r s = false := by
  unfold pwB
  rw [pwW_else hs, isW_z (i := i) (by simpa using hi) (by rw [ix_map hi]; exact lof_bad h)]
  rfl
theorem pwB_nil {r : Int} : pwB r [] = false := by
  unfold pwB
  rw [show pwW [] = [] from rfl, fwS_nil]
  simp
theorem pwB_good {r : Int} {s : List Int} (hs : s ≠ [49]) (h0 : s ≠ []) (hg : ∀ j, j < s.length → gdc (ix s j)) : pwB r s = isW r (s.map lof) := by
  unfold pwB
  rw [pwW_else hs, fwS_lof h0 hg]
  simp
theorem byt49 : byt [49] := by intro n hn; simp at hn; omega
theorem str49 {s : List Int} (hs : byt s) : ((strI s).toList = ([49] : List UInt8)) ↔ s = [49] := by
  have h := strEq hs byt49
  have e : (strI [49]).toList = ([49] : List UInt8) := by rw [toList_data]; rfl
  rw [e, Bool.eq_iff_iff, beq_iff_eq, decide_eq_true_eq] at h
  exact h
attribute [local irreducible] lof fwS isW ltx
def K_letterOf_sat : Nat → List Nat := fun i => ([[0], [0, 3], [2], [0, 14], [2], [2]] : List (List Nat)).getD i []
attribute [go_sem] K_letterOf_sat
def letterOf_sat_S : Eng.Spec := fun args av objs => ∃ (n : Int), (0 ≤ n ∧ n ≤ 255) ∧ args = [.one (.sc (.u8 n))] ∧ av = aI (lof n) ∧ objs = []
theorem letterOf_sat : Sat Try.prog 78 letterOf_sat_S := by
  refine sat_of tok okr mixed K_letterOf_sat Try.func78 rfl (rs := [.tmp 2]) rfl Try.ntmps78 ?_
  rintro args av objs ⟨n, hpre, rfl, rfl, rfl⟩
  refine ⟨by show 1 ≤ 26; decide, ?_⟩
  unfold lof
  by_cases h1 : 97 ≤ n ∧ n ≤ 99
  · rw [if_pos h1]
    repeat' (first|(refine ya ?_;first|refine ye ?_)|(refine yg ?_;intro hgs;first|(replace hgs:=zgy hgs;first|refine yy hgs ?_;clear hgs)|(refine yn (zgn hgs) ?_;clear hgs)|((fail_if_success have:=zgy hgs);refine z_spl hgs (h1:=?_) (h2:=?_)<;>clear hgs<;>intro hg hr<;>try first|contradiction|exfalso;omega))|refine yz ?_|refine zst ?_|refine k_blk_other rfl ?_|(refine zk ?_ ?_<;>intro hc hr<;>try first|contradiction|exfalso;omega))
    all_goals first | (refine z_ret (hv := ?_) (ho := ?_) <;> first | rfl | (simp [go_sem, *]; done) | (simp_all; done) | (simp_all; omega)) | skip
  · rw [if_neg h1]
    by_cases h2 : 65 ≤ n ∧ n ≤ 67
    · rw [if_pos h2]
      have h3 : ¬ 97 ≤ n := by omega
      clear h1
      repeat' (first|(refine ya ?_;first|refine ye ?_)|(refine yg ?_;intro hgs;first|(replace hgs:=zgy hgs;first|refine yy hgs ?_;clear hgs)|(refine yn (zgn hgs) ?_;clear hgs)|((fail_if_success have:=zgy hgs);refine z_spl hgs (h1:=?_) (h2:=?_)<;>clear hgs<;>intro hg hr<;>try first|contradiction|exfalso;omega))|refine yz ?_|refine zst ?_|refine k_blk_other rfl ?_|(refine zk ?_ ?_<;>intro hc hr<;>try first|contradiction|exfalso;omega))
      all_goals first | (refine z_ret (hv := ?_) (ho := ?_) <;> first | rfl | (simp [go_sem, *]; done) | (simp_all; done) | (simp_all; omega)) | skip
    · rw [if_neg h2]
      have h3 : ¬ 97 ≤ n ∨ ¬ n ≤ 99 := by omega
      have h4 : ¬ 65 ≤ n ∨ ¬ n ≤ 67 := by omega
      clear h1 h2
      rcases h3 with h3 | h3 <;> rcases h4 with h4 | h4
      all_goals repeat' (first|(refine ya ?_;first|refine ye ?_)|(refine yg ?_;intro hgs;first|(replace hgs:=zgy hgs;first|refine yy hgs ?_;clear hgs)|(refine yn (zgn hgs) ?_;clear hgs)|((fail_if_success have:=zgy hgs);refine z_spl hgs (h1:=?_) (h2:=?_)<;>clear hgs<;>intro hg hr<;>try first|contradiction|exfalso;omega))|refine yz ?_|refine zst ?_|refine k_blk_other rfl ?_|(refine zk ?_ ?_<;>intro hc hr<;>try first|contradiction|exfalso;omega))
      all_goals first | (refine z_ret (hv := ?_) (ho := ?_) <;> first | rfl | (simp [go_sem, *]; done) | (simp_all; done) | (simp_all; omega)) | skip
instance : Con Try.prog 78 letterOf_sat_S := con letterOf_sat Try.func78
def K_parW_sat : Nat → List Nat := fun i => ([[0, 1], [0, 1, 6], [0, 1, 6, 10], [0, 1, 6, 7], [0, 1, 6, 7, 14], [0, 1, 6, 7], [0, 1, 6, 7], [6, 33], [4, 5], [4, 5]] : List (List Nat)).getD i []
attribute [go_sem] K_parW_sat
def parW_sat_S : Eng.Spec := fun args av objs => ∃ (r : Int) (s : List Int), (byt s ∧ s.length ≤ 1048576) ∧ args = [aI r, aS (strI s)] ∧ av = .tup [aR 0, aB (pwB r s)] ∧ objs = [oL 3 (pwR r s)]
theorem parW_sat : Sat Try.prog 54 parW_sat_S := by
  refine sat_of tok okr mixed K_parW_sat Try.func54 rfl (rs := [.tmp 4, .tmp 5]) rfl Try.ntmps54 ?_
  rintro args av objs ⟨r, s, hpre, rfl, rfl, rfl⟩
  refine ⟨by show 2 ≤ 36; decide, ?_⟩
  obtain ⟨hs, hl⟩ := hpre
  have hq0 := str49 hs
  have hq2 := strEq (fwS_byt (pwW s)) hs
  have hwl := pwW_len s
  have hwr : ∀ x ∈ pwW s, rg x := fun x hx => by have := pwW_rg s x hx; unfold rg; omega
  have hw1 : (pwW s).length ≤ 1048576 := by omega
  have hw2 : (pwW s).length ≤ 1099511627776 := by omega
  by_cases h1 : s = [49]
  · have ew : pwW s = [] := by rw [h1]; rfl
    have eR : pwR r s = [] := by unfold pwR; rw [ew]; split <;> rfl
    have eF : (strI (fwS [])).toList = ([49] : List UInt8) := (str49 (fwS_byt [])).2 fwS_nil
    have eB : pwB r s = isW r [] := by unfold pwB; rw [ew, fwS_nil, h1]; simp
    have hq := hq0.2 h1
    rw [eR, eB]
    clear eR eB ew hq2 hwl hwr hw1 hw2 h1 hq0
    cases hw : isW r []
    · repeat' (first|(refine ya ?_;first|(refine yb ?_;first|refine z_fn isWord_sat Try.func35 (hSp := by refine ⟨_, [], ?_, rfl, rfl, rfl⟩; (first | assumption | omega | (simp; done) | (simp; omega) | (((repeat' refine And.intro ?_ ?_) <;> first | assumption | omega | (simp; done) | (simp; omega)); done) | (simp at *; omega))) (k0 := ?_) | refine z_fn fmtW_sat Try.func51 (hSp := by exact ⟨[], ⟨by simp, by simp⟩, rfl, rfl, rfl⟩) (k0 := ?_) | refine yc ?_)|refine ye ?_)|(refine yg ?_;intro hgs;first|(replace hgs:=zgy hgs;first|(refine yb ?_;first|refine z_fn isWord_sat Try.func35 (hSp := by refine ⟨_, [], ?_, rfl, rfl, rfl⟩; (first | assumption | omega | (simp; done) | (simp; omega) | (((repeat' refine And.intro ?_ ?_) <;> first | assumption | omega | (simp; done) | (simp; omega)); done) | (simp at *; omega))) (k0 := ?_) | refine z_fn fmtW_sat Try.func51 (hSp := by exact ⟨[], ⟨by simp, by simp⟩, rfl, rfl, rfl⟩) (k0 := ?_) | refine yc ?_)|refine yy hgs ?_;clear hgs)|(refine yn (zgn hgs) ?_;clear hgs)|((fail_if_success have:=zgy hgs);refine z_spl hgs (h1:=?_) (h2:=?_)<;>clear hgs<;>intro hg hr<;>try first|contradiction|exfalso;omega))|refine yz ?_|refine zst ?_|refine k_blk_other rfl ?_|(refine zk ?_ ?_<;>intro hc hr<;>try first|contradiction|exfalso;omega))
      all_goals first | (refine z_ret (hv := ?_) (ho := ?_) <;> first | rfl | (simp [go_sem, *]; done) | (simp_all; done) | (simp_all; omega)) | skip
    · repeat' (first|(refine ya ?_;first|(refine yb ?_;first|refine z_fn isWord_sat Try.func35 (hSp := by refine ⟨_, [], ?_, rfl, rfl, rfl⟩; (first | assumption | omega | (simp; done) | (simp; omega) | (((repeat' refine And.intro ?_ ?_) <;> first | assumption | omega | (simp; done) | (simp; omega)); done) | (simp at *; omega))) (k0 := ?_) | refine z_fn fmtW_sat Try.func51 (hSp := by exact ⟨[], ⟨by simp, by simp⟩, rfl, rfl, rfl⟩) (k0 := ?_) | refine yc ?_)|refine ye ?_)|(refine yg ?_;intro hgs;first|(replace hgs:=zgy hgs;first|(refine yb ?_;first|refine z_fn isWord_sat Try.func35 (hSp := by refine ⟨_, [], ?_, rfl, rfl, rfl⟩; (first | assumption | omega | (simp; done) | (simp; omega) | (((repeat' refine And.intro ?_ ?_) <;> first | assumption | omega | (simp; done) | (simp; omega)); done) | (simp at *; omega))) (k0 := ?_) | refine z_fn fmtW_sat Try.func51 (hSp := by exact ⟨[], ⟨by simp, by simp⟩, rfl, rfl, rfl⟩) (k0 := ?_) | refine yc ?_)|refine yy hgs ?_;clear hgs)|(refine yn (zgn hgs) ?_;clear hgs)|((fail_if_success have:=zgy hgs);refine z_spl hgs (h1:=?_) (h2:=?_)<;>clear hgs<;>intro hg hr<;>try first|contradiction|exfalso;omega))|refine yz ?_|refine zst ?_|refine k_blk_other rfl ?_|(refine zk ?_ ?_<;>intro hc hr<;>try first|contradiction|exfalso;omega))
      all_goals first | (refine z_ret (hv := ?_) (ho := ?_) <;> first | rfl | (simp [go_sem, *]; done) | (simp_all; done) | (simp_all; omega)) | skip
  · have e1 := pwW_else h1
    have hq : ¬ (strI s).toList = ([49] : List UInt8) := fun h => h1 (hq0.1 h)
    repeat' (first|(refine ya ?_;first|(refine yb ?_;first|refine yc ?_)|refine ye ?_)|(refine yg ?_;intro hgs;first|(replace hgs:=zgy hgs;first|(refine yb ?_;first|refine yc ?_)|refine yy hgs ?_;clear hgs)|(refine yn (zgn hgs) ?_;clear hgs)|((fail_if_success have:=zgy hgs);refine z_spl hgs (h1:=?_) (h2:=?_)<;>clear hgs<;>intro hg hr<;>try first|contradiction|exfalso;omega))|refine yz ?_|refine zst ?_|refine k_blk_other rfl ?_|(refine zk ?_ ?_<;>intro hc hr<;>try first|contradiction|exfalso;omega))
    refine z_loop (fun i : Nat => [(7, aI i)]) (fun i : Nat => [.obj 6 (oL 3 (plN s i))]) (fun i : Nat => i ≤ s.length) (fun i : Nat => s.length - i) (0) (h0 := ?_) (henv := ?_) (hobj := ?_) (h := ?_)
    · omega
    · simp [go_sem, AVm, CVm, lookS, plN, ints]
    · simp [go_sem, OBm, CVm, lookS, All2, plN, ints]
    intro i hi
    rcases Nat.lt_or_ge i s.length with hlt | hge
    · obtain ⟨b, hb1, hb2⟩ := strI_byte hs hlt
      have hn := plN_s s i
      have hix := hs (ix s i) (ix_mem hlt)
      have hlo := lof_rg (ix s i)
      have hml : (plN s i).length ≤ 1048576 := by rw [plN_len]; omega
      clear hq hq2 hwr e1
      repeat' (first|(refine ya ?_;first|(refine yb ?_;first|refine yc ?_)|refine ye ?_)|(refine yg ?_;intro hgs;first|(replace hgs:=zgy hgs;first|(refine yb ?_;first|refine yc ?_)|refine yy hgs ?_;clear hgs)|(refine yn (zgn hgs) ?_;clear hgs)|((fail_if_success have:=zgy hgs);refine z_spl hgs (h1:=?_) (h2:=?_)<;>clear hgs<;>intro hg hr<;>try first|contradiction|exfalso;omega))|refine yz ?_|refine zst ?_|refine k_blk_other rfl ?_|(refine zk ?_ ?_<;>intro hc hr<;>try first|contradiction|exfalso;omega))
      (refine z_lop (i + 1) (hj := ?_) (hmu := ?_) (henv := ?_) (hobj := ?_); (· omega); (· first | omega | (simp only; omega)); (· first | (simp [go_sem, AVm, CVm, lookS, hn, *]; done) | (simp [go_sem, AVm, CVm, lookS, hn, *] <;> (repeat' split) <;> first | omega | (simp_all; done) | (exfalso; omega) | (simp_all; omega))); (· first | (simp [go_sem, OBm, CVm, All2, lookS, hn, *]; done) | (simp [go_sem, OBm, CVm, All2, lookS, hn, *] <;> (repeat' split) <;> first | omega | (simp_all; done) | (exfalso; omega) | (simp_all; omega))))
    · have hii : i = s.length := by omega
      subst hii
      rw [plN_all, ← e1]
      clear hq
      cases hw : isW r (pwW s)
      · have eB : pwB r s = false := by unfold pwB; rw [hw]; rfl
        have eR : pwR r s = [] := by unfold pwR; rw [eB]; rfl
        rw [eR, eB]
        clear eR eB hq2
        repeat' (first|(refine ya ?_;first|(refine yb ?_;first|refine yc ?_)|refine ye ?_)|(refine yg ?_;intro hgs;first|(replace hgs:=zgy hgs;first|(refine yb ?_;first|refine yc ?_)|refine yy hgs ?_;clear hgs)|(refine yn (zgn hgs) ?_;clear hgs)|((fail_if_success have:=zgy hgs);refine z_spl hgs (h1:=?_) (h2:=?_)<;>clear hgs<;>intro hg hr<;>try first|contradiction|exfalso;omega))|refine yz ?_|refine zst ?_|refine k_blk_other rfl ?_|(refine zk ?_ ?_<;>intro hc hr<;>try first|contradiction|exfalso;omega))
        all_goals first | (refine z_ret (hv := ?_) (ho := ?_) <;> first | rfl | (simp [go_sem, *]; done) | (simp_all; done) | (simp_all; omega)) | skip
      · by_cases hf : fwS (pwW s) = s
        · have eB : pwB r s = true := by unfold pwB; rw [hw, decide_eq_true hf]; rfl
          have eR : pwR r s = pwW s := by unfold pwR; rw [eB]; rfl
          rw [decide_eq_true hf] at hq2
          rw [eR, eB]
          clear eR eB hf
          repeat' (first|(refine ya ?_;first|(refine yb ?_;first|refine yc ?_)|refine ye ?_)|(refine yg ?_;intro hgs;first|(replace hgs:=zgy hgs;first|(refine yb ?_;first|refine yc ?_)|refine yy hgs ?_;clear hgs)|(refine yn (zgn hgs) ?_;clear hgs)|((fail_if_success have:=zgy hgs);refine z_spl hgs (h1:=?_) (h2:=?_)<;>clear hgs<;>intro hg hr<;>try first|contradiction|exfalso;omega))|refine yz ?_|refine zst ?_|refine k_blk_other rfl ?_|(refine zk ?_ ?_<;>intro hc hr<;>try first|contradiction|exfalso;omega))
          all_goals first | (refine z_ret (hv := ?_) (ho := ?_) <;> first | rfl | (simp [go_sem, *]; done) | (simp_all; done) | (simp_all; omega)) | skip
        · have eB : pwB r s = false := by unfold pwB; rw [hw, decide_eq_false hf]; rfl
          have eR : pwR r s = [] := by unfold pwR; rw [eB]; rfl
          rw [decide_eq_false hf] at hq2
          rw [eR, eB]
          clear eR eB hf
          repeat' (first|(refine ya ?_;first|(refine yb ?_;first|refine yc ?_)|refine ye ?_)|(refine yg ?_;intro hgs;first|(replace hgs:=zgy hgs;first|(refine yb ?_;first|refine yc ?_)|refine yy hgs ?_;clear hgs)|(refine yn (zgn hgs) ?_;clear hgs)|((fail_if_success have:=zgy hgs);refine z_spl hgs (h1:=?_) (h2:=?_)<;>clear hgs<;>intro hg hr<;>try first|contradiction|exfalso;omega))|refine yz ?_|refine zst ?_|refine k_blk_other rfl ?_|(refine zk ?_ ?_<;>intro hc hr<;>try first|contradiction|exfalso;omega))
          all_goals first | (refine z_ret (hv := ?_) (ho := ?_) <;> first | rfl | (simp [go_sem, *]; done) | (simp_all; done) | (simp_all; omega)) | skip
instance : Con Try.prog 54 parW_sat_S := con parW_sat Try.func54
def K_parW_sat2 : Nat → List Nat := fun i => ([[0, 1], [0, 1, 6], [0, 1, 6, 7], [0, 1, 6, 7, 16], [0, 1, 6, 7], [4, 5], [0, 1, 6, 7, 20], [0, 1, 6, 7], [0, 1, 6, 7, 40], [0, 1, 6, 7], [6, 68], [4, 5], [4, 5]] : List (List Nat)).getD i []
attribute [go_sem] K_parW_sat2
def parW_sat2_S : Eng.Spec := fun args av objs => ∃ (r : Int) (s : List Int), (byt s ∧ s.length ≤ 1048576) ∧ args = [aI r, aS (strI s)] ∧ av = .tup [aR 0, aB (pwB r s)] ∧ objs = [oL 3 (pwR r s)]
theorem parW_sat2 : Sat Try.prog 58 parW_sat2_S := by
  refine sat_of tok okr mixed K_parW_sat2 Try.func58 rfl (rs := [.tmp 4, .tmp 5]) rfl Try.ntmps58 ?_
  rintro args av objs ⟨r, s, hpre, rfl, rfl, rfl⟩
  refine ⟨by show 2 ≤ 71; decide, ?_⟩
  obtain ⟨hs, hl⟩ := hpre
  have hq0 := str49 hs
  by_cases h1 : s = [49]
  · have ew : pwW s = [] := by rw [h1]; rfl
    have eR : pwR r s = [] := by unfold pwR; rw [ew]; split <;> rfl
    have eB : pwB r s = isW r [] := by unfold pwB; rw [ew, fwS_nil, h1]; simp
    have h0 : s ≠ [] := by rw [h1]; simp
    have hl1 : s.length = 1 := by rw [h1]; rfl
    have hq := hq0.2 h1
    rw [eR, eB]
    clear eR eB ew h1 hq0
    cases hw : isW r []
    · repeat' (first|(refine ya ?_;first|(refine yb ?_;first|refine yc ?_)|refine ye ?_)|(refine yg ?_;intro hgs;first|(replace hgs:=zgy hgs;first|(refine yb ?_;first|refine yc ?_)|refine yy hgs ?_;clear hgs)|(refine yn (zgn hgs) ?_;clear hgs)|((fail_if_success have:=zgy hgs);refine z_spl hgs (h1:=?_) (h2:=?_)<;>clear hgs<;>intro hg hr<;>try first|contradiction|exfalso;omega))|refine yz ?_|refine zst ?_|refine k_blk_other rfl ?_|(refine zk ?_ ?_<;>intro hc hr<;>try first|contradiction|exfalso;omega))
      refine z_loop (fun i : Nat => []) (fun i : Nat => []) (fun i : Nat => i = 0) (fun i : Nat => 0 - i) (0) (h0 := ?_) (henv := ?_) (hobj := ?_) (h := ?_)
      · omega
      · simp [go_sem, AVm, CVm, lookS]
      · simp [go_sem, OBm, CVm, lookS, All2]
      intro i hi
      repeat' (first|(refine ya ?_;first|(refine yb ?_;first|refine z_fn isWord_sat2 Try.func36 (hSp := by refine ⟨_, [], ?_, rfl, rfl, rfl⟩; (first | assumption | omega | (simp; done) | (simp; omega) | (((repeat' refine And.intro ?_ ?_) <;> first | assumption | omega | (simp; done) | (simp; omega)); done) | (simp at *; omega))) (k0 := ?_) | refine yc ?_)|refine ye ?_)|(refine yg ?_;intro hgs;first|(replace hgs:=zgy hgs;first|(refine yb ?_;first|refine z_fn isWord_sat2 Try.func36 (hSp := by refine ⟨_, [], ?_, rfl, rfl, rfl⟩; (first | assumption | omega | (simp; done) | (simp; omega) | (((repeat' refine And.intro ?_ ?_) <;> first | assumption | omega | (simp; done) | (simp; omega)); done) | (simp at *; omega))) (k0 := ?_) | refine yc ?_)|refine yy hgs ?_;clear hgs)|(refine yn (zgn hgs) ?_;clear hgs)|((fail_if_success have:=zgy hgs);refine z_spl hgs (h1:=?_) (h2:=?_)<;>clear hgs<;>intro hg hr<;>try first|contradiction|exfalso;omega))|refine yz ?_|refine zst ?_|refine k_blk_other rfl ?_|(refine zk ?_ ?_<;>intro hc hr<;>try first|contradiction|exfalso;omega))
      all_goals first | (refine z_ret (hv := ?_) (ho := ?_) <;> first | rfl | (simp [go_sem, *]; done) | (simp_all; done) | (simp_all; omega)) | skip
    · repeat' (first|(refine ya ?_;first|(refine yb ?_;first|refine yc ?_)|refine ye ?_)|(refine yg ?_;intro hgs;first|(replace hgs:=zgy hgs;first|(refine yb ?_;first|refine yc ?_)|refine yy hgs ?_;clear hgs)|(refine yn (zgn hgs) ?_;clear hgs)|((fail_if_success have:=zgy hgs);refine z_spl hgs (h1:=?_) (h2:=?_)<;>clear hgs<;>intro hg hr<;>try first|contradiction|exfalso;omega))|refine yz ?_|refine zst ?_|refine k_blk_other rfl ?_|(refine zk ?_ ?_<;>intro hc hr<;>try first|contradiction|exfalso;omega))
      refine z_loop (fun i : Nat => []) (fun i : Nat => []) (fun i : Nat => i = 0) (fun i : Nat => 0 - i) (0) (h0 := ?_) (henv := ?_) (hobj := ?_) (h := ?_)
      · omega
      · simp [go_sem, AVm, CVm, lookS]
      · simp [go_sem, OBm, CVm, lookS, All2]
      intro i hi
      repeat' (first|(refine ya ?_;first|(refine yb ?_;first|refine z_fn isWord_sat2 Try.func36 (hSp := by refine ⟨_, [], ?_, rfl, rfl, rfl⟩; (first | assumption | omega | (simp; done) | (simp; omega) | (((repeat' refine And.intro ?_ ?_) <;> first | assumption | omega | (simp; done) | (simp; omega)); done) | (simp at *; omega))) (k0 := ?_) | refine yc ?_)|refine ye ?_)|(refine yg ?_;intro hgs;first|(replace hgs:=zgy hgs;first|(refine yb ?_;first|refine z_fn isWord_sat2 Try.func36 (hSp := by refine ⟨_, [], ?_, rfl, rfl, rfl⟩; (first | assumption | omega | (simp; done) | (simp; omega) | (((repeat' refine And.intro ?_ ?_) <;> first | assumption | omega | (simp; done) | (simp; omega)); done) | (simp at *; omega))) (k0 := ?_) | refine yc ?_)|refine yy hgs ?_;clear hgs)|(refine yn (zgn hgs) ?_;clear hgs)|((fail_if_success have:=zgy hgs);refine z_spl hgs (h1:=?_) (h2:=?_)<;>clear hgs<;>intro hg hr<;>try first|contradiction|exfalso;omega))|refine yz ?_|refine zst ?_|refine k_blk_other rfl ?_|(refine zk ?_ ?_<;>intro hc hr<;>try first|contradiction|exfalso;omega))
      all_goals first | (refine z_ret (hv := ?_) (ho := ?_) <;> first | rfl | (simp [go_sem, *]; done) | (simp_all; done) | (simp_all; omega)) | skip
  · have hq : ¬ (strI s).toList = ([49] : List UInt8) := fun h => h1 (hq0.1 h)
    repeat' (first|(refine ya ?_;first|(refine yb ?_;first|refine yc ?_)|refine ye ?_)|(refine yg ?_;intro hgs;first|(replace hgs:=zgy hgs;first|(refine yb ?_;first|refine yc ?_)|refine yy hgs ?_;clear hgs)|(refine yn (zgn hgs) ?_;clear hgs)|((fail_if_success have:=zgy hgs);refine z_spl hgs (h1:=?_) (h2:=?_)<;>clear hgs<;>intro hg hr<;>try first|contradiction|exfalso;omega))|refine yz ?_|refine zst ?_|refine k_blk_other rfl ?_|(refine zk ?_ ?_<;>intro hc hr<;>try first|contradiction|exfalso;omega))
    refine z_loop (fun i : Nat => [(7, aI i)]) (fun i : Nat => [.obj 6 (oL 3 (plN s i))]) (fun i : Nat => i ≤ s.length ∧ ∀ j, j < i → gdc (ix s j)) (fun i : Nat => s.length - i) (0) (h0 := ?_) (henv := ?_) (hobj := ?_) (h := ?_)
    · exact ⟨by omega, fun j hj => by omega⟩
    · simp [go_sem, AVm, CVm, lookS, plN, ints]
    · simp [go_sem, OBm, CVm, lookS, All2, plN, ints]
    rintro i ⟨hi, hall⟩
    rcases Nat.lt_or_ge i s.length with hlt | hge
    · obtain ⟨b, hb1, hb2⟩ := strI_byte hs hlt
      have hn := plN_s s i
      have hix := hs (ix s i) (ix_mem hlt)
      have hml : (plN s i).length ≤ 1048576 := by rw [plN_len]; omega
      by_cases g1 : 97 ≤ ix s i ∧ ix s i ≤ 99
      · have hlo : lof (ix s i) = ix s i - 97 + 1 := by unfold lof; rw [if_pos g1]; omega
        have hI : ∀ j, j < i + 1 → gdc (ix s j) := fun j hj => (Nat.lt_or_ge j i).elim (hall j) fun h => by rw [show j = i by omega]; exact .inl g1
        rw [hlo] at hn
        clear hall
        repeat' (first|(refine ya ?_;first|(refine yb ?_;first|refine yc ?_)|refine ye ?_)|(refine yg ?_;intro hgs;first|(replace hgs:=zgy hgs;first|(refine yb ?_;first|refine yc ?_)|refine yy hgs ?_;clear hgs)|(refine yn (zgn hgs) ?_;clear hgs)|((fail_if_success have:=zgy hgs);refine z_spl hgs (h1:=?_) (h2:=?_)<;>clear hgs<;>intro hg hr<;>try first|contradiction|exfalso;omega))|refine yz ?_|refine zst ?_|refine k_blk_other rfl ?_|(refine zk ?_ ?_<;>intro hc hr<;>try first|contradiction|exfalso;omega))
        (refine z_lop (i + 1) (hj := ?_) (hmu := ?_) (henv := ?_) (hobj := ?_); (· exact ⟨by omega, hI⟩); (· first | omega | (simp only; omega)); (· first | (simp [go_sem, AVm, CVm, lookS, hn, *]; done) | (simp [go_sem, AVm, CVm, lookS, hn, *] <;> (repeat' split) <;> first | omega | (simp_all; done) | (exfalso; omega) | (simp_all; omega))); (· first | (simp [go_sem, OBm, CVm, All2, lookS, hn, *]; done) | (simp [go_sem, OBm, CVm, All2, lookS, hn, *] <;> (repeat' split) <;> first | omega | (simp_all; done) | (exfalso; omega) | (simp_all; omega))))
      · by_cases g2 : 65 ≤ ix s i ∧ ix s i ≤ 67
        · have hlo : lof (ix s i) = -(ix s i - 65) - 1 := by unfold lof; rw [if_neg g1, if_pos g2]; omega
          have hI : ∀ j, j < i + 1 → gdc (ix s j) := fun j hj => (Nat.lt_or_ge j i).elim (hall j) fun h => by rw [show j = i by omega]; exact .inr g2
          have g3 : ¬ 97 ≤ ix s i := by omega
          rw [hlo] at hn
          clear hall g1
          repeat' (first|(refine ya ?_;first|(refine yb ?_;first|refine yc ?_)|refine ye ?_)|(refine yg ?_;intro hgs;first|(replace hgs:=zgy hgs;first|(refine yb ?_;first|refine yc ?_)|refine yy hgs ?_;clear hgs)|(refine yn (zgn hgs) ?_;clear hgs)|((fail_if_success have:=zgy hgs);refine z_spl hgs (h1:=?_) (h2:=?_)<;>clear hgs<;>intro hg hr<;>try first|contradiction|exfalso;omega))|refine yz ?_|refine zst ?_|refine k_blk_other rfl ?_|(refine zk ?_ ?_<;>intro hc hr<;>try first|contradiction|exfalso;omega))
          (refine z_lop (i + 1) (hj := ?_) (hmu := ?_) (henv := ?_) (hobj := ?_); (· exact ⟨by omega, hI⟩); (· first | omega | (simp only; omega)); (· first | (simp [go_sem, AVm, CVm, lookS, hn, *]; done) | (simp [go_sem, AVm, CVm, lookS, hn, *] <;> (repeat' split) <;> first | omega | (simp_all; done) | (exfalso; omega) | (simp_all; omega))); (· first | (simp [go_sem, OBm, CVm, All2, lookS, hn, *]; done) | (simp [go_sem, OBm, CVm, All2, lookS, hn, *] <;> (repeat' split) <;> first | omega | (simp_all; done) | (exfalso; omega) | (simp_all; omega))))
        · have hb : ¬ gdc (ix s i) := fun h => h.elim g1 g2
          have eB := pwB_bad (r := r) h1 hlt hb
          have eR : pwR r s = [] := by unfold pwR; rw [eB]; rfl
          have h3 : ¬ 97 ≤ ix s i ∨ ¬ ix s i ≤ 99 := by omega
          have h4 : ¬ 65 ≤ ix s i ∨ ¬ ix s i ≤ 67 := by omega
          rw [eR, eB]
          clear hall g1 g2 hb eR eB hn
          rcases h3 with h3 | h3 <;> rcases h4 with h4 | h4
          all_goals repeat' (first|(refine ya ?_;first|(refine yb ?_;first|refine yc ?_)|refine ye ?_)|(refine yg ?_;intro hgs;first|(replace hgs:=zgy hgs;first|(refine yb ?_;first|refine yc ?_)|refine yy hgs ?_;clear hgs)|(refine yn (zgn hgs) ?_;clear hgs)|((fail_if_success have:=zgy hgs);refine z_spl hgs (h1:=?_) (h2:=?_)<;>clear hgs<;>intro hg hr<;>try first|contradiction|exfalso;omega))|refine yz ?_|refine zst ?_|refine k_blk_other rfl ?_|(refine zk ?_ ?_<;>intro hc hr<;>try first|contradiction|exfalso;omega))
          all_goals first | (refine z_ret (hv := ?_) (ho := ?_) <;> first | rfl | (simp [go_sem, *]; done) | (simp_all; done) | (simp_all; omega)) | skip
    · have hii : i = s.length := by omega
      subst hii
      rw [plN_all]
      by_cases h0 : s = []
      · have eB : pwB r s = false := by rw [h0]; exact pwB_nil
        have eR : pwR r s = [] := by unfold pwR; rw [eB]; rfl
        rw [eR, eB]
        clear eR eB hall
        repeat' (first|(refine ya ?_;first|(refine yb ?_;first|refine yc ?_)|refine ye ?_)|(refine yg ?_;intro hgs;first|(replace hgs:=zgy hgs;first|(refine yb ?_;first|refine yc ?_)|refine yy hgs ?_;clear hgs)|(refine yn (zgn hgs) ?_;clear hgs)|((fail_if_success have:=zgy hgs);refine z_spl hgs (h1:=?_) (h2:=?_)<;>clear hgs<;>intro hg hr<;>try first|contradiction|exfalso;omega))|refine yz ?_|refine zst ?_|refine k_blk_other rfl ?_|(refine zk ?_ ?_<;>intro hc hr<;>try first|contradiction|exfalso;omega))
        all_goals first | (refine z_ret (hv := ?_) (ho := ?_) <;> first | rfl | (simp [go_sem, *]; done) | (simp_all; done) | (simp_all; omega)) | skip
      · have eB := pwB_good (r := r) h1 h0 hall
        have hml : (s.map lof).length ≤ 1099511627776 := by rw [List.length_map]; omega
        cases hw : isW r (s.map lof)
        · rw [hw] at eB
          have eR : pwR r s = [] := by unfold pwR; rw [eB]; rfl
          rw [eR, eB]
          clear eR eB hall
          repeat' (first|(refine ya ?_;first|(refine yb ?_;first|refine yc ?_)|refine ye ?_)|(refine yg ?_;intro hgs;first|(replace hgs:=zgy hgs;first|(refine yb ?_;first|refine yc ?_)|refine yy hgs ?_;clear hgs)|(refine yn (zgn hgs) ?_;clear hgs)|((fail_if_success have:=zgy hgs);refine z_spl hgs (h1:=?_) (h2:=?_)<;>clear hgs<;>intro hg hr<;>try first|contradiction|exfalso;omega))|refine yz ?_|refine zst ?_|refine k_blk_other rfl ?_|(refine zk ?_ ?_<;>intro hc hr<;>try first|contradiction|exfalso;omega))
          all_goals first | (refine z_ret (hv := ?_) (ho := ?_) <;> first | rfl | (simp [go_sem, *]; done) | (simp_all; done) | (simp_all; omega)) | skip
        · rw [hw] at eB
          have eR : pwR r s = s.map lof := by unfold pwR; rw [eB, pwW_else h1]; rfl
          rw [eR, eB]
          clear eR eB hall
          repeat' (first|(refine ya ?_;first|(refine yb ?_;first|refine yc ?_)|refine ye ?_)|(refine yg ?_;intro hgs;first|(replace hgs:=zgy hgs;first|(refine yb ?_;first|refine yc ?_)|refine yy hgs ?_;clear hgs)|(refine yn (zgn hgs) ?_;clear hgs)|((fail_if_success have:=zgy hgs);refine z_spl hgs (h1:=?_) (h2:=?_)<;>clear hgs<;>intro hg hr<;>try first|contradiction|exfalso;omega))|refine yz ?_|refine zst ?_|refine k_blk_other rfl ?_|(refine zk ?_ ?_<;>intro hc hr<;>try first|contradiction|exfalso;omega))
          all_goals first | (refine z_ret (hv := ?_) (ho := ?_) <;> first | rfl | (simp [go_sem, *]; done) | (simp_all; done) | (simp_all; omega)) | skip
instance : Con Try.prog 58 parW_sat2_S := con parW_sat2 Try.func58
end Go.Proofs.Try
