import Derived.Test.YtfapjflogjblaaaS5
set_option linter.unusedVariables false
set_option linter.unusedSimpArgs false
set_option linter.unnecessarySimpa false
/- Lists of words read out of texts. -/
namespace Go.Proofs.Try
open Go Go.Eng
set_option linter.unnecessarySimpa false
set_option linter.unusedSimpArgs false
set_option maxHeartbeats 8000000
set_option maxRecDepth 20000
theorem cutN_ok {c : Int} {s : List Int} (h : byt s) : ∀ i, i ≤ s.length → ∀ p ∈ (cutN c s i).1, byt p ∧ p.length ≤ s.length
  | 0, _, p, hp => by cases hp
  | i + 1, hi, p, hp => by
    unfold cutN at hp
    split at hp
    · rcases List.mem_append.1 hp with hp | hp
      · exact cutN_ok h i (by omega) p hp
      · rw [List.mem_singleton] at hp
        subst hp
        exact ⟨byt_part h _ _, by rw [List.length_drop, List.length_take]; omega⟩
    · exact cutN_ok h i (by omega) p hp
theorem cutL_ok {c : Int} {s : List Int} (h : byt s) : (∀ p ∈ cutL c s, byt p ∧ p.length ≤ s.length) ∧ (cutL c s).length ≤ s.length + 1 := by
  constructor
  · intro p hp
    rcases List.mem_append.1 hp with hp | hp
    · exact cutN_ok h _ (Nat.le_refl _) p hp
    · rw [List.mem_singleton] at hp
      subst hp
      exact ⟨byt_part h _ _, by rw [List.length_drop, List.length_take]; omega⟩
  · have := (cutN_le c s s.length).2
    unfold cutL
    rw [List.length_append, List.length_singleton]; omega
theorem sx_mem {l : List (List Int)} {i : Nat} (h : i < l.length) : sx l i ∈ l := by
  unfold sx
  rw [List.getD_eq_getElem?_getD, List.getElem?_eq_getElem h]; exact List.getElem_mem _
def pmN (P : List (List Int)) : Nat → List (List Int)
  | 0 => []
  | i + 1 => pmN P i ++ [pwW (sx P i)]
theorem pmN_len (P : List (List Int)) : ∀ i, (pmN P i).length = i
  | 0 => rfl
  | i + 1 => by rw [pmN, List.length_append, pmN_len P i]; rfl
theorem pmN_le {P : List (List Int)} {B : Nat} (h : ∀ p ∈ P, p.length ≤ B) : ∀ i, i ≤ P.length → ∀ w ∈ pmN P i, w.length ≤ B
  | 0, _, w, hw => by cases hw
  | i + 1, hi, w, hw => by
    rcases List.mem_append.1 hw with hw | hw
    · exact pmN_le h i (by omega) w hw
    · rw [List.mem_singleton] at hw
      subst hw
      exact Nat.le_trans (pwW_len _) (h _ (sx_mem (by omega)))
def psB (r : Int) (s : List Int) : Bool := if s = noneT then decide (1 ≤ r ∧ r ≤ 3) else (cutL 44 s).all (pwB r) && awB r (pmN (cutL 44 s) (cutL 44 s).length)
def psR (r : Int) (s : List Int) : List (List Int) := if s = noneT then [] else if psB r s then pmN (cutL 44 s) (cutL 44 s).length else []
def psT (r : Int) (s : List Int) : Bool := decide (s = noneT) || !psB r s
theorem awB_nil (r : Int) : awB r [] = decide (1 ≤ r ∧ r ≤ 3) := by
  unfold awB
  rw [Bool.eq_iff_iff]
  simp [awA, tlW, tlN]
theorem str_none {s : List Int} (hs : byt s) : ((strI s).toList = ([110, 111, 110, 101] : List UInt8)) ↔ s = noneT := by
  have h := strEq hs noneT_byt
  have e : (strI noneT).toList = ([110, 111, 110, 101] : List UInt8) := by rw [toList_data]; rfl
  rw [e, Bool.eq_iff_iff, beq_iff_eq, decide_eq_true_eq] at h
  exact h
theorem ps_no {r : Int} {s : List Int} (h : psB r s = false) : psR r s = [] ∧ psT r s = true := by
  constructor
  · unfold psR; split
    · rfl
    · rw [h]; rfl
  · unfold psT; rw [h]; simp
theorem ps_none {r : Int} {s : List Int} (h : s = noneT) : psB r s = decide (1 ≤ r ∧ r ≤ 3) ∧ psR r s = [] ∧ psT r s = true := ⟨by unfold psB; rw [if_pos h], by unfold psR; rw [if_pos h], by unfold psT; rw [decide_eq_true h]; rfl⟩
theorem ps_bad {r : Int} {s : List Int} (hn : s ≠ noneT) {i : Nat} (hi : i < (cutL 44 s).length) (h : pwB r (sx (cutL 44 s) i) = false) : psB r s = false := by
  unfold psB
  rw [if_neg hn]
  have : (cutL 44 s).all (pwB r) = false := by
    rw [← Bool.not_eq_true]
    intro h2
    have := List.all_eq_true.1 h2 _ (sx_mem hi)
    rw [h] at this; cases this
  rw [this]; rfl
theorem ps_all {r : Int} {s : List Int} (hn : s ≠ noneT) (h : ∀ j, j < (cutL 44 s).length → pwB r (sx (cutL 44 s) j) = true) : psB r s = awB r (pmN (cutL 44 s) (cutL 44 s).length) := by
  unfold psB
  rw [if_neg hn]
  have : (cutL 44 s).all (pwB r) = true := by
    refine List.all_eq_true.2 fun x hx => ?_
    obtain ⟨i, hi, rfl⟩ := List.mem_iff_getElem.1 hx
    have := h i hi
    simpa [sx, hi] using this
  rw [this]; rfl
theorem ps_yes {r : Int} {s : List Int} (hn : s ≠ noneT) (h : psB r s = true) : psR r s = pmN (cutL 44 s) (cutL 44 s).length ∧ psT r s = false := ⟨by unfold psR; rw [if_neg hn, if_pos h], by unfold psT; rw [decide_eq_false hn, h]; rfl⟩
theorem cutL_none : cutL 44 noneT = [noneT] := by decide
theorem pwB_none {r : Int} : pwB r noneT = false := pwB_bad (i := 0) (by decide) (by decide) (by unfold gdc; decide)
attribute [local irreducible] cutL pwB pwW awB psB psR psT
def K_parWs_sat : Nat → List Nat := fun i => ([[0, 1], [0, 1, 6], [0, 1, 6, 13], [0, 6, 15, 16, 17], [0, 6, 15, 16, 17, 18], [0, 6, 8, 15, 16, 17], [0, 6, 9, 10, 15, 16, 17], [0, 6, 9, 15, 16, 17, 28], [4, 5], [0, 6, 15, 16, 17], [0, 6, 15, 16, 17], [6, 38], [4, 5], [4, 5]] : List (List Nat)).getD i []
attribute [go_sem] K_parWs_sat
def parWs_sat_S : Eng.Spec := fun args av objs => ∃ (r : Int) (s : List Int), (byt s ∧ s.length ≤ 1000000) ∧ args = [aI r, aS (strI s)] ∧ av = .tup [aR 0, aB (psB r s)] ∧ objs = [.rows 34 3 (.own (psT r s)) (osW (psR r s))]
theorem parWs_sat : Sat Try.prog 20 parWs_sat_S := by
  refine sat_of tok okr mixed K_parWs_sat Try.func20 rfl (rs := [.tmp 4, .tmp 5]) rfl Try.ntmps20 ?_
  rintro args av objs ⟨r, s, hpre, rfl, rfl, rfl⟩
  refine ⟨by show 2 ≤ 41; decide, ?_⟩
  obtain ⟨hs, hl⟩ := hpre
  have hq0 := str_none hs
  obtain ⟨hp1, hp2⟩ := cutL_ok (c := 44) hs
  have hl2 : s.length ≤ 1048576 := by omega
  by_cases h1 : s = noneT
  · have hq := hq0.2 h1
    obtain ⟨eB, eR, eT⟩ := ps_none (r := r) h1
    rw [← awB_nil] at eB
    rw [eB, eR, eT]
    clear eB eR eT h1 hq0 hp1 hp2
    cases hw : awB r []
    · repeat' (first|(refine ya ?_;first|(refine yb ?_;first|refine z_fn areW_sat Try.func9 (hSp := by exact ⟨_, [], ⟨by simp, by simp⟩, rfl, rfl, rfl⟩) (k0 := ?_) | refine yc ?_)|refine ye ?_)|refine yz ?_|refine zst ?_|refine k_blk_other rfl ?_|(refine zk ?_ ?_<;>intro hc hr<;>try first|contradiction|exfalso;omega))
      refine z_retT 312 (hv := ?_) (ho := ?_) <;> rfl
    · repeat' (first|(refine ya ?_;first|(refine yb ?_;first|refine z_fn areW_sat Try.func9 (hSp := by exact ⟨_, [], ⟨by simp, by simp⟩, rfl, rfl, rfl⟩) (k0 := ?_) | refine yc ?_)|refine ye ?_)|refine yz ?_|refine zst ?_|refine k_blk_other rfl ?_|(refine zk ?_ ?_<;>intro hc hr<;>try first|contradiction|exfalso;omega))
      refine z_retT 88 (hv := ?_) (ho := ?_) <;> rfl
  · have hq : ¬ (strI s).toList = ([110, 111, 110, 101] : List UInt8) := fun h => h1 (hq0.1 h)
    clear hq0
    repeat' (first|(refine ya ?_;first|(refine yb ?_;first|refine yc ?_)|refine ye ?_)|refine yz ?_|refine zst ?_|refine k_blk_other rfl ?_|(refine zk ?_ ?_<;>intro hc hr<;>try first|contradiction|exfalso;omega))
    refine z_loop (fun i : Nat => [(17, aI i)]) (fun i : Nat => [.obj 6 (.rows 34 3 (.loc false) (osW (pmN (cutL 44 s) i)))]) (fun i : Nat => i ≤ (cutL 44 s).length ∧ ∀ j, j < i → pwB r (sx (cutL 44 s) j) = true) (fun i : Nat => (cutL 44 s).length - i) (0) (h0 := ?_) (henv := ?_) (hobj := ?_) (h := ?_)
    · exact ⟨by omega, fun j hj => by omega⟩
    · simp [go_sem, AVm, CVm, lookS, pmN, osW_nil]
    · simp [go_sem, OBm, CVm, lookS, All2, pmN, osW_nil]
    rintro i ⟨hi, hall⟩
    have hml := pmN_len (cutL 44 s) i
    rcases Nat.lt_or_ge i (cutL 44 s).length with hlt | hge
    · obtain ⟨b1, b2⟩ := hp1 _ (sx_mem hlt)
      have b3 : (sx (cutL 44 s) i).length ≤ 1048576 := by omega
      cases hb : pwB r (sx (cutL 44 s) i)
      · have eB := ps_bad h1 hlt hb
        obtain ⟨eR, eT⟩ := ps_no eB
        rw [eB, eR, eT]
        clear eB eR eT hall hq hp1
        repeat' (first|(refine ya ?_;first|(refine yb ?_;first|refine yc ?_)|refine ye ?_)|refine yz ?_|refine zst ?_|refine k_blk_other rfl ?_|(refine zk ?_ ?_<;>intro hc hr<;>try first|contradiction|exfalso;omega))
        refine z_retT 232 (hv := ?_) (ho := ?_) <;> rfl
      · have eR : pwR r (sx (cutL 44 s) i) = pwW (sx (cutL 44 s) i) := by unfold pwR; rw [if_pos hb]
        have hn : pmN (cutL 44 s) (i + 1) = pmN (cutL 44 s) i ++ [pwW (sx (cutL 44 s) i)] := rfl
        have hI : ∀ j, j < i + 1 → pwB r (sx (cutL 44 s) j) = true := fun j hj => (Nat.lt_or_ge j i).elim (hall j) fun h => by rw [show j = i by omega]; exact hb
        clear hall hq hp1
        repeat' (first|(refine ya ?_;first|(refine yb ?_;first|refine yc ?_)|refine ye ?_)|refine yz ?_|refine zst ?_|refine k_blk_other rfl ?_|(refine zk ?_ ?_<;>intro hc hr<;>try first|contradiction|exfalso;omega))
        (refine z_lop (i + 1) (hj := ?_) (hmu := ?_) (henv := ?_) (hobj := ?_); (· exact ⟨by omega, hI⟩); (· first | omega | (simp only; omega)); (· first | (simp [go_sem, AVm, CVm, lookS, hn, eR, *]; done) | (simp [go_sem, AVm, CVm, lookS, hn, eR, *] <;> (repeat' split) <;> first | omega | (simp_all; done) | (exfalso; omega) | (simp_all; omega))); (· first | (simp [go_sem, OBm, CVm, All2, lookS, hn, eR, *]; done) | (simp [go_sem, OBm, CVm, All2, lookS, hn, eR, *] <;> (repeat' split) <;> first | omega | (simp_all; done) | (exfalso; omega) | (simp_all; omega))))
    · have hii : i = (cutL 44 s).length := by omega
      have hpl := pmN_le (B := s.length) (fun p hp => (hp1 p hp).2) i hi
      have hpm : ∀ w ∈ pmN (cutL 44 s) i, w.length ≤ 1048576 := fun w hw => by have := hpl w hw; omega
      have hpn : (pmN (cutL 44 s) i).length ≤ 1048576 := by omega
      have hI : ∀ j, j < (cutL 44 s).length → pwB r (sx (cutL 44 s) j) = true := fun j hj => hall j (by omega)
      have eA := ps_all h1 hI
      rw [← hii] at eA
      have hnl : ¬ i < (cutL 44 s).length := by omega
      cases hw : awB r (pmN (cutL 44 s) i)
      · rw [hw] at eA
        obtain ⟨eR, eT⟩ := ps_no eA
        rw [eA, eR, eT]
        clear eA eR eT hall hI hq hp1 hpl hii hml
        repeat' (first|(refine ya ?_;first|(refine yb ?_;first|refine yc ?_)|refine ye ?_)|refine yz ?_|refine zst ?_|refine k_blk_other rfl ?_|(refine zk ?_ ?_<;>intro hc hr<;>try first|contradiction|exfalso;omega))
        refine z_retT 312 (hv := ?_) (ho := ?_) <;> rfl
      · rw [hw] at eA
        obtain ⟨eR, eT⟩ := ps_yes h1 eA
        rw [← hii] at eR
        rw [eA, eR, eT]
        clear eA eR eT hall hI hq hp1 hpl hii hml
        repeat' (first|(refine ya ?_;first|(refine yb ?_;first|refine yc ?_)|refine ye ?_)|refine yz ?_|refine zst ?_|refine k_blk_other rfl ?_|(refine zk ?_ ?_<;>intro hc hr<;>try first|contradiction|exfalso;omega))
        refine z_retT 88 (hv := ?_) (ho := ?_) <;> rfl
instance : Con Try.prog 20 parWs_sat_S := con parWs_sat Try.func20
def K_parWs_sat2 : Nat → List Nat := fun i => ([[0, 1], [0, 1, 6], [0, 1, 6, 17], [4, 5], [0, 6, 7], [0, 6, 7, 8], [0, 6, 7, 8, 24], [0, 6, 7, 8], [0, 6, 7, 8, 9, 10], [0, 6, 7, 8, 9, 37], [4, 5], [0, 6, 7, 8], [6, 46], [4, 5], [4, 5]] : List (List Nat)).getD i []
attribute [go_sem] K_parWs_sat2
def parWs_sat2_S : Eng.Spec := fun args av objs => ∃ (r : Int) (s : List Int), (byt s ∧ s.length ≤ 1000000) ∧ args = [aI r, aS (strI s)] ∧ av = .tup [aR 0, aB (psB r s)] ∧ objs = [.rows 34 3 (.own (psT r s)) (osW (psR r s))]
theorem parWs_sat2 : Sat Try.prog 22 parWs_sat2_S := by
  refine sat_of tok okr mixed K_parWs_sat2 Try.func22 rfl (rs := [.tmp 4, .tmp 5]) rfl Try.ntmps22 ?_
  rintro args av objs ⟨r, s, hpre, rfl, rfl, rfl⟩
  refine ⟨by show 2 ≤ 49; decide, ?_⟩
  obtain ⟨hs, hl⟩ := hpre
  have hq0 := str_none hs
  obtain ⟨hp1, hp2⟩ := cutL_ok (c := 44) hs
  have hl2 : s.length ≤ 1048576 := by omega
  by_cases h1 : s = noneT
  · have hq := hq0.2 h1
    obtain ⟨eB, eR, eT⟩ := ps_none (r := r) h1
    rw [eB, eR, eT]
    by_cases hr3 : 1 ≤ r ∧ r ≤ 3
    · rw [decide_eq_true hr3]
      clear eB eR eT h1 hq0 hp1 hp2
      repeat' (first|(refine ya ?_;first|(refine yb ?_;first|refine yc ?_)|refine ye ?_)|(refine yg ?_;intro hgs;first|(replace hgs:=zgy hgs;first|(refine yb ?_;first|refine yc ?_)|refine yy hgs ?_;clear hgs)|(refine yn (zgn hgs) ?_;clear hgs)|((fail_if_success have:=zgy hgs);refine z_spl hgs (h1:=?_) (h2:=?_)<;>clear hgs<;>intro hg hr<;>try first|contradiction|exfalso;omega))|refine yz ?_|refine zst ?_|refine k_blk_other rfl ?_|(refine zk ?_ ?_<;>intro hc hr<;>try first|contradiction|exfalso;omega))
      refine z_retT 88 (hv := ?_) (ho := ?_) <;> rfl
    · rw [decide_eq_false hr3]
      have hP : cutL 44 s = [noneT] := by rw [h1]; exact cutL_none
      have hb : pwB r noneT = false := pwB_none
      have hby := noneT_byt
      have hpl : noneT.length ≤ 1048576 := by decide
      have hsx : sx [noneT] 0 = noneT := rfl
      clear eB eR eT h1 hq0 hp1 hp2
      repeat' (first|(refine ya ?_;first|(refine yb ?_;first|refine yc ?_)|refine ye ?_)|(refine yg ?_;intro hgs;first|(replace hgs:=zgy hgs;first|(refine yb ?_;first|refine yc ?_)|refine yy hgs ?_;clear hgs)|(refine yn (zgn hgs) ?_;clear hgs)|((fail_if_success have:=zgy hgs);refine z_spl hgs (h1:=?_) (h2:=?_)<;>clear hgs<;>intro hg hr<;>try first|contradiction|exfalso;omega))|refine yz ?_|refine zst ?_|refine k_blk_other rfl ?_|(refine zk ?_ ?_<;>intro hc hr<;>try first|contradiction|exfalso;omega))
      refine z_loop (fun i : Nat => [(8, aI 0)]) (fun i : Nat => []) (fun i : Nat => i = 0) (fun i : Nat => 0 - i) (0) (h0 := ?_) (henv := ?_) (hobj := ?_) (h := ?_)
      · omega
      · simp [go_sem, AVm, CVm, lookS]
      · simp [go_sem, OBm, CVm, lookS, All2]
      intro i hi
      repeat' (first|(refine ya ?_;first|(refine yb ?_;first|refine z_fn parW_sat2 Try.func58 (hSp := by refine ⟨r, noneT, ⟨?_, ?_⟩, rfl, rfl, rfl⟩; (first | assumption | omega | (simp; done) | (simp; omega) | (((repeat' refine And.intro ?_ ?_) <;> first | assumption | omega | (simp; done) | (simp; omega)); done) | (simp at *; omega)); (first | assumption | omega | (simp; done) | (simp; omega) | (((repeat' refine And.intro ?_ ?_) <;> first | assumption | omega | (simp; done) | (simp; omega)); done) | (simp at *; omega))) (k0 := ?_) | refine yc ?_)|refine ye ?_)|(refine yg ?_;intro hgs;first|(replace hgs:=zgy hgs;first|(refine yb ?_;first|refine z_fn parW_sat2 Try.func58 (hSp := by refine ⟨r, noneT, ⟨?_, ?_⟩, rfl, rfl, rfl⟩; (first | assumption | omega | (simp; done) | (simp; omega) | (((repeat' refine And.intro ?_ ?_) <;> first | assumption | omega | (simp; done) | (simp; omega)); done) | (simp at *; omega)); (first | assumption | omega | (simp; done) | (simp; omega) | (((repeat' refine And.intro ?_ ?_) <;> first | assumption | omega | (simp; done) | (simp; omega)); done) | (simp at *; omega))) (k0 := ?_) | refine yc ?_)|refine yy hgs ?_;clear hgs)|(refine yn (zgn hgs) ?_;clear hgs)|((fail_if_success have:=zgy hgs);refine z_spl hgs (h1:=?_) (h2:=?_)<;>clear hgs<;>intro hg hr<;>try first|contradiction|exfalso;omega))|refine yz ?_|refine zst ?_|refine k_blk_other rfl ?_|(refine zk ?_ ?_<;>intro hc hr<;>try first|contradiction|exfalso;omega))
      refine z_retT 304 (hv := ?_) (ho := ?_) <;> rfl
  · have hq : ¬ (strI s).toList = ([110, 111, 110, 101] : List UInt8) := fun h => h1 (hq0.1 h)
    clear hq0
    repeat' (first|(refine ya ?_;first|(refine yb ?_;first|refine yc ?_)|refine ye ?_)|(refine yg ?_;intro hgs;first|(replace hgs:=zgy hgs;first|(refine yb ?_;first|refine yc ?_)|refine yy hgs ?_;clear hgs)|(refine yn (zgn hgs) ?_;clear hgs)|((fail_if_success have:=zgy hgs);refine z_spl hgs (h1:=?_) (h2:=?_)<;>clear hgs<;>intro hg hr<;>try first|contradiction|exfalso;omega))|refine yz ?_|refine zst ?_|refine k_blk_other rfl ?_|(refine zk ?_ ?_<;>intro hc hr<;>try first|contradiction|exfalso;omega))
    refine z_loop (fun i : Nat => [(8, aI i)]) (fun i : Nat => [.obj 6 (.rows 34 3 (.loc false) (osW (pmN (cutL 44 s) i)))]) (fun i : Nat => i ≤ (cutL 44 s).length ∧ ∀ j, j < i → pwB r (sx (cutL 44 s) j) = true) (fun i : Nat => (cutL 44 s).length - i) (0) (h0 := ?_) (henv := ?_) (hobj := ?_) (h := ?_)
    · exact ⟨by omega, fun j hj => by omega⟩
    · simp [go_sem, AVm, CVm, lookS, pmN, osW_nil]
    · simp [go_sem, OBm, CVm, lookS, All2, pmN, osW_nil]
    rintro i ⟨hi, hall⟩
    have hml := pmN_len (cutL 44 s) i
    rcases Nat.lt_or_ge i (cutL 44 s).length with hlt | hge
    · obtain ⟨b1, b2⟩ := hp1 _ (sx_mem hlt)
      have b3 : (sx (cutL 44 s) i).length ≤ 1048576 := by omega
      cases hb : pwB r (sx (cutL 44 s) i)
      · have eB := ps_bad h1 hlt hb
        obtain ⟨eR, eT⟩ := ps_no eB
        rw [eB, eR, eT]
        clear eB eR eT hall hq hp1
        repeat' (first|(refine ya ?_;first|(refine yb ?_;first|refine yc ?_)|refine ye ?_)|(refine yg ?_;intro hgs;first|(replace hgs:=zgy hgs;first|(refine yb ?_;first|refine yc ?_)|refine yy hgs ?_;clear hgs)|(refine yn (zgn hgs) ?_;clear hgs)|((fail_if_success have:=zgy hgs);refine z_spl hgs (h1:=?_) (h2:=?_)<;>clear hgs<;>intro hg hr<;>try first|contradiction|exfalso;omega))|refine yz ?_|refine zst ?_|refine k_blk_other rfl ?_|(refine zk ?_ ?_<;>intro hc hr<;>try first|contradiction|exfalso;omega))
        refine z_retT 304 (hv := ?_) (ho := ?_) <;> rfl
      · have eR : pwR r (sx (cutL 44 s) i) = pwW (sx (cutL 44 s) i) := by unfold pwR; rw [if_pos hb]
        have hn : pmN (cutL 44 s) (i + 1) = pmN (cutL 44 s) i ++ [pwW (sx (cutL 44 s) i)] := rfl
        have hI : ∀ j, j < i + 1 → pwB r (sx (cutL 44 s) j) = true := fun j hj => (Nat.lt_or_ge j i).elim (hall j) fun h => by rw [show j = i by omega]; exact hb
        clear hall hq hp1
        repeat' (first|(refine ya ?_;first|(refine yb ?_;first|refine yc ?_)|refine ye ?_)|(refine yg ?_;intro hgs;first|(replace hgs:=zgy hgs;first|(refine yb ?_;first|refine yc ?_)|refine yy hgs ?_;clear hgs)|(refine yn (zgn hgs) ?_;clear hgs)|((fail_if_success have:=zgy hgs);refine z_spl hgs (h1:=?_) (h2:=?_)<;>clear hgs<;>intro hg hr<;>try first|contradiction|exfalso;omega))|refine yz ?_|refine zst ?_|refine k_blk_other rfl ?_|(refine zk ?_ ?_<;>intro hc hr<;>try first|contradiction|exfalso;omega))
        (refine z_lop (i + 1) (hj := ?_) (hmu := ?_) (henv := ?_) (hobj := ?_); (· exact ⟨by omega, hI⟩); (· first | omega | (simp only; omega)); (· first | (simp [go_sem, AVm, CVm, lookS, hn, eR, *]; done) | (simp [go_sem, AVm, CVm, lookS, hn, eR, *] <;> (repeat' split) <;> first | omega | (simp_all; done) | (exfalso; omega) | (simp_all; omega))); (· first | (simp [go_sem, OBm, CVm, All2, lookS, hn, eR, *]; done) | (simp [go_sem, OBm, CVm, All2, lookS, hn, eR, *] <;> (repeat' split) <;> first | omega | (simp_all; done) | (exfalso; omega) | (simp_all; omega))))
    · have hii : i = (cutL 44 s).length := by omega
      have hpl := pmN_le (B := s.length) (fun p hp => (hp1 p hp).2) i hi
      have hpm : ∀ w ∈ pmN (cutL 44 s) i, w.length ≤ 1048576 := fun w hw => by have := hpl w hw; omega
      have hpn : (pmN (cutL 44 s) i).length ≤ 1048576 := by omega
      have hI : ∀ j, j < (cutL 44 s).length → pwB r (sx (cutL 44 s) j) = true := fun j hj => hall j (by omega)
      have eA := ps_all h1 hI
      rw [← hii] at eA
      have hnl : ¬ i < (cutL 44 s).length := by omega
      cases hw : awB r (pmN (cutL 44 s) i)
      · rw [hw] at eA
        obtain ⟨eR, eT⟩ := ps_no eA
        rw [eA, eR, eT]
        clear eA eR eT hall hI hq hp1 hpl hii hml
        repeat' (first|(refine ya ?_;first|(refine yb ?_;first|refine yc ?_)|refine ye ?_)|(refine yg ?_;intro hgs;first|(replace hgs:=zgy hgs;first|(refine yb ?_;first|refine yc ?_)|refine yy hgs ?_;clear hgs)|(refine yn (zgn hgs) ?_;clear hgs)|((fail_if_success have:=zgy hgs);refine z_spl hgs (h1:=?_) (h2:=?_)<;>clear hgs<;>intro hg hr<;>try first|contradiction|exfalso;omega))|refine yz ?_|refine zst ?_|refine k_blk_other rfl ?_|(refine zk ?_ ?_<;>intro hc hr<;>try first|contradiction|exfalso;omega))
        refine z_retT 376 (hv := ?_) (ho := ?_) <;> rfl
      · rw [hw] at eA
        obtain ⟨eR, eT⟩ := ps_yes h1 eA
        rw [← hii] at eR
        rw [eA, eR, eT]
        clear eA eR eT hall hI hq hp1 hpl hii hml
        repeat' (first|(refine ya ?_;first|(refine yb ?_;first|refine yc ?_)|refine ye ?_)|(refine yg ?_;intro hgs;first|(replace hgs:=zgy hgs;first|(refine yb ?_;first|refine yc ?_)|refine yy hgs ?_;clear hgs)|(refine yn (zgn hgs) ?_;clear hgs)|((fail_if_success have:=zgy hgs);refine z_spl hgs (h1:=?_) (h2:=?_)<;>clear hgs<;>intro hg hr<;>try first|contradiction|exfalso;omega))|refine yz ?_|refine zst ?_|refine k_blk_other rfl ?_|(refine zk ?_ ?_<;>intro hc hr<;>try first|contradiction|exfalso;omega))
        refine z_retT 88 (hv := ?_) (ho := ?_) <;> rfl
instance : Con Try.prog 22 parWs_sat2_S := con parWs_sat2 Try.func22
end Go.Proofs.Try
