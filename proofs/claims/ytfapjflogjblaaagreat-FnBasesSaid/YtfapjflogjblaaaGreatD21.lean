import Derived.Test.YtfapjflogjblaaaGreatD19
import Derived.Test.YtfapjflogjblaaaGreatD20
set_option maxHeartbeats 16000000
set_option maxRecDepth 20000
set_option linter.unusedVariables false
set_option linter.unusedSimpArgs false
set_option linter.unnecessarySimpa false
namespace Go.Proofs.Tryz
open Go Go.Eng
theorem z_retO {T : Tys} {s : AS} {ty : Nat} {i h : Int} {objs : List Eng.Obj} {rs : List ResultVar} {av av' : AV} {acc : Acc} {u : Value} {S : Nat → Prop} {W : World} {L : List Nat} {pv : Value} {e : Exit} (he : e = .ret ∨ e = .normal := by first | exact .inl rfl | exact .inr rfl) (h0 : retA T s rs = some (av', acc) := by simp [go_sem]; first | exact ⟨rfl, rfl⟩ | rfl) (hv : av' = av) (ho : acc.map (·.1) = objs)
    (hc : s.obj 0 = some (cur ty (.val u) i h)) (ha : (acc.all fun p => match p.2 with | some id => id != 0 && id != 5 | none => false) = true := by rfl) (h1 : s.obj 1 = some (.pin S W) := by rfl) (h3 : s.obj 3 = some (.stay 0 pv) := by rfl) (h5 : s.obj 5 = some (.res L W) := by rfl) : retOKR T rs ty av objs i h u S W L pv e s := by
  subst hv
  rcases he with rfl | rfl <;> exact ⟨acc, _, .inl rfl, h0, ho, ha, hc, h1, h3, h5⟩
theorem pick3 {n : Int} (h : 0 ≤ n ∧ n < 3) : 0 ≤ elI [[.int 0], [.int 1], [.int 4]] n.toNat ∧ elI [[.int 0], [.int 1], [.int 4]] n.toNat ≤ 4 := by
  have : n.toNat = 0 ∨ n.toNat = 1 ∨ n.toNat = 2 := by omega
  rcases this with h | h | h <;> rw [h] <;> decide
def l6R (cd : List Int) (c : Cu) : Int := elI [[.int 1], [.int 2], [.int 2], [.int 2], [.int 3]] (beV cd c 5).toNat
theorem l6R_ok (cd : List Int) (c : Cu) : 1 ≤ l6R cd c ∧ l6R cd c ≤ 3 := pick5 (beV_rg cd c (n := 5) (by decide))
theorem l6R_eq (cd : List Int) (c : Cu) : elI [[.int 1], [.int 2], [.int 2], [.int 2], [.int 3]] (beV cd c 5).toNat = l6R cd c := rfl
def l6Q (cd : List Int) (c : Cu) : Int := elI [[.int 0], [.int 1], [.int 4]] (beV cd c 3).toNat
theorem l6Q_ok (cd : List Int) (c : Cu) : 0 ≤ l6Q cd c ∧ l6Q cd c ≤ 4 := pick3 (beV_rg cd c (n := 3) (by decide))
theorem l6Q_eq (cd : List Int) (c : Cu) : elI [[.int 0], [.int 1], [.int 4]] (beV cd c 3).toNat = l6Q cd c := rfl
def l6L (cd : List Int) (cu : Cu) : List (List Int) × Cu := l6W cd (l6R cd cu) (beS cd cu 5)
theorem l6L_eq (cd : List Int) (cu : Cu) : l6W cd (l6R cd cu) (beS cd cu 5) = l6L cd cu := rfl
attribute [go_sem] l6R_eq l6Q_eq l6L_eq
theorem l6L_ok (cd : List Int) (cu : Cu) : (l6L cd cu).1.length ≤ 3 ∧ (∀ w ∈ (l6L cd cu).1, w.length ≤ 5) ∧ awB (l6R cd cu) (l6L cd cu).1 = true := l6W_ok cd _ (l6R_ok cd cu)
def l6k (cd : List Int) (cu : Cu) : Int := beV cd (l6L cd cu).2 14
def l6d (cd : List Int) (cu : Cu) : Cu := beS cd (l6L cd cu).2 14
def l6Ar (cd : List Int) (cu : Cu) : Int := if l6k cd cu = 0 then l6Q cd (l6d cd cu) else l6R cd cu
def l6Aw (cd : List Int) (cu : Cu) : List (List Int) := if l6k cd cu = 1 then (l6L cd cu).1 ++ [[1, -1]] else (l6L cd cu).1
def l6Ac (cd : List Int) (cu : Cu) : Cu := if l6k cd cu = 0 then beS cd (l6d cd cu) 3 else l6d cd cu
theorem isW_sm {r : Int} {w : List Int} (h : isW r w = true) : smallW w := fun x hx => by
  obtain ⟨i, hi, rfl⟩ := List.mem_iff_getElem.1 hx
  have := isW_at h hi
  simp only [ix, List.getD_eq_getElem?_getD, List.getElem?_eq_getElem hi, Option.getD_some] at this
  omega
theorem l6A_ok (cd : List Int) (cu : Cu) : (0 ≤ l6Ar cd cu ∧ l6Ar cd cu ≤ 4) ∧ (l6Aw cd cu).length ≤ 4 ∧ (∀ w ∈ l6Aw cd cu, w.length ≤ 5) ∧ ∀ w ∈ l6Aw cd cu, smallW w := by
  obtain ⟨h1, h2, h3⟩ := l6L_ok cd cu
  have h4 := l6R_ok cd cu
  have h5 := l6Q_ok cd (l6d cd cu)
  refine ⟨by unfold l6Ar; split <;> omega, ?_⟩
  unfold l6Aw
  split
  · refine ⟨by rw [List.length_append, List.length_singleton]; omega, fun w hw => ?_, fun w hw => ?_⟩
    · rcases List.mem_append.1 hw with hw | hw
      · exact h2 w hw
      · rw [List.mem_singleton] at hw; subst hw; decide
    · rcases List.mem_append.1 hw with hw | hw
      · exact isW_sm (awB_all h3 w hw)
      · rw [List.mem_singleton] at hw; subst hw; intro x hx; simp at hx; omega
  · exact ⟨by omega, h2, fun w hw => isW_sm (awB_all h3 w hw)⟩
attribute [local irreducible] beV beS byV byS nwC l6W l2W sgG flG coreG canG l9R l9L awB l4A l4G l6R l6Q l6L l9A l9W bsW
@[go_sem] def K_l6A_sat (i : Nat) : List Nat := ([[0],[0,4],[0,4,5],[0,4,5,13],[0,4,5,13,14],[4,5],[4,5,19],[4,5],[2,3]]).getD i []
def l6A_sat_S : SpecB := fun args bs i h av objs i' h' => ∃ (cd : List Int) (cu : Cu) , (cd.length ≤ 1048576) ∧ args = [aC] ∧ bs = bys cd ∧ i = (cu.p : Int) ∧ h = cu.q ∧ av = .tup [aI (l6Ar cd cu), aR 0] ∧ objs = [.rows 35 3 (.own false) (osW (l6Aw cd cu))] ∧ i' = ((l6Ac cd cu).p : Int) ∧ h' = (l6Ac cd cu).q
theorem l6A_sat : SatB Tryz.prog 79 89 l6A_sat_S := by
  refine satB_ofR tok okr mixed K_l6A_sat Tryz.func79 rfl (rs := [.tmp 2, .tmp 3]) rfl Tryz.ntmps79 ?_
  rintro args bs i h av objs i' h' ⟨cd, cu, hpre, rfl, rfl, rfl, rfl, rfl, rfl, rfl, rfl⟩
  refine ⟨by show 1 ≤ 27; decide, rfl, fun u S W L pv him => ?_⟩
  have hr := l6R_ok cd cu
  obtain ⟨h1, h2, h3⟩ := l6L_ok cd cu
  have hk : l6k cd cu = beV cd (l6L cd cu).2 14 := rfl
  have hd : l6d cd cu = beS cd (l6L cd cu).2 14 := rfl
  by_cases k0 : l6k cd cu = 0
  · have e1 : l6Ar cd cu = l6Q cd (l6d cd cu) := by unfold l6Ar; rw [if_pos k0]
    have e2 : l6Aw cd cu = (l6L cd cu).1 := by unfold l6Aw; rw [if_neg (by omega)]
    have e3 : l6Ac cd cu = beS cd (l6d cd cu) 3 := by unfold l6Ac; rw [if_pos k0]
    rw [e1, e2, e3, hd]
    rw [hk] at k0
    clear e1 e2 e3 hk hd h2 h3
    repeat' (first|(refine ya ?_;first|(refine yb ?_;first|refine yh ?_)|refine ye ?_)|refine yz ?_|refine zst ?_|refine zo ?_|(refine zk ?_ ?_<;>intro hc hr<;>try exact zx))
    refine z_retO (hv := ?_) (ho := ?_) (hc := ?_) <;> rfl
  · have e1 : l6Ar cd cu = l6R cd cu := by unfold l6Ar; rw [if_neg k0]
    have e3 : l6Ac cd cu = l6d cd cu := by unfold l6Ac; rw [if_neg k0]
    by_cases k1 : l6k cd cu = 1
    · have e2 : l6Aw cd cu = (l6L cd cu).1 ++ [[1, -1]] := by unfold l6Aw; rw [if_pos k1]
      rw [e1, e2, e3, hd]
      rw [hk] at k0 k1
      clear e1 e2 e3 hk hd h2 h3
      repeat' (first|(refine ya ?_;first|(refine yb ?_;first|refine yh ?_)|refine ye ?_)|refine yz ?_|refine zst ?_|refine zo ?_|(refine zk ?_ ?_<;>intro hc hr<;>try exact zx))
      refine z_retR 192 (hv := ?_) (ho := ?_) (hc := ?_) <;> first | rfl | (simp [osW, ints]; done)
    · have e2 : l6Aw cd cu = (l6L cd cu).1 := by unfold l6Aw; rw [if_neg k1]
      rw [e1, e2, e3, hd]
      rw [hk] at k0 k1
      clear e1 e2 e3 hk hd h2 h3
      repeat' (first|(refine ya ?_;first|(refine yb ?_;first|refine yh ?_)|refine ye ?_)|refine yz ?_|refine zst ?_|refine zo ?_|(refine zk ?_ ?_<;>intro hc hr<;>try exact zx))
      refine z_retO (hv := ?_) (ho := ?_) (hc := ?_) <;> rfl
instance : ConB Tryz.prog 79 89 l6A_sat_S := conB l6A_sat Tryz.func79
@[go_sem] def K_dFB_sat (i : Nat) : List Nat := ([[0],[4,5],[2,3]]).getD i []
def dFB_sat_S : Eng.Spec := fun args av objs => ∃ (cd : List Int), (cd.length ≤ 1048576) ∧ args = [.one (.imm 1 (bys cd))] ∧ av = .tup [aI (l6Ar cd (nwC cd)), aR 0] ∧ objs = [.rows 35 3 (.own false) (osW (l6Aw cd (nwC cd)))]
theorem dFB_sat : Sat Tryz.prog 25 dFB_sat_S := by
  refine sat_of tok okr mixed K_dFB_sat Tryz.func25 rfl (rs := [.tmp 2, .tmp 3]) rfl Tryz.ntmps25 ?_
  rintro args av objs ⟨cd, hpre, rfl, rfl, rfl⟩
  refine ⟨by show 1 ≤ 14; decide, ?_⟩
  repeat' (first|(refine ya ?_;first|(refine yb ?_;first|refine yq ?_|refine ym ?_)|refine ye ?_)|refine yz ?_|refine zst ?_|refine zo ?_|(refine zk ?_ ?_<;>intro hc hr<;>try exact zx))
  all_goals try exact zv
def dXN (cd : List Int) (c : Cu) : Nat → List Int × Cu
  | 0 => ([], c)
  | i + 1 => ((dXN cd c i).1 ++ [beV cd (dXN cd c i).2 7 - 3], beS cd (dXN cd c i).2 7)
theorem dXN_ok (cd : List Int) (c : Cu) : ∀ i, (dXN cd c i).1.length = i ∧ ∀ x ∈ (dXN cd c i).1, -3 ≤ x ∧ x ≤ 3
  | 0 => ⟨rfl, by simp [dXN]⟩
  | i + 1 => by
    obtain ⟨h1, h2⟩ := dXN_ok cd c i
    have hb := beV_rg cd (dXN cd c i).2 (n := 7) (by decide)
    refine ⟨by simp [dXN, h1], fun x hx => ?_⟩
    rcases List.mem_append.1 hx with hx | hx
    · exact h2 x hx
    · rw [List.mem_singleton] at hx; subst hx; omega
def dXl (cd : List Int) : List (List Int) × Cu := l6W cd 2 (nwC cd)
theorem dXl_ok (cd : List Int) : (dXl cd).1.length ≤ 3 ∧ (∀ w ∈ (dXl cd).1, w.length ≤ 5) ∧ awB 2 (dXl cd).1 = true := l6W_ok cd _ (by omega)
theorem dXl_eq (cd : List Int) : l6W cd 2 (nwC cd) = dXl cd := rfl
def dXx (cd : List Int) : List Int := (dXN cd (beS cd (dXl cd).2 6) (beV cd (dXl cd).2 6).toNat).1
theorem dXx_ok (cd : List Int) : (dXx cd).length ≤ 5 ∧ ∀ x ∈ dXx cd, -3 ≤ x ∧ x ≤ 3 := by
  have hb := beV_rg cd (dXl cd).2 (n := 6) (by decide)
  obtain ⟨h1, h2⟩ := dXN_ok cd (beS cd (dXl cd).2 6) (beV cd (dXl cd).2 6).toNat
  exact ⟨by unfold dXx; rw [h1]; omega, h2⟩
attribute [go_sem] dXl_eq
attribute [local irreducible] dXl
instance : Con Tryz.prog 25 dFB_sat_S := con dFB_sat Tryz.func25
@[go_sem] def K_dEB_sat (i : Nat) : List Nat := ([[0],[4],[4,5],[4,5,6],[4,5,6,7],[4,5,6,7,16],[4,5,6,7],[4,5,6,7],[2,3]]).getD i []
def dEB_sat_S : Eng.Spec := fun args av objs => ∃ (cd : List Int), (cd.length ≤ 1048576) ∧ args = [.one (.imm 1 (bys cd))] ∧ av = .tup [aR 0, aR 1] ∧ objs = [.rows 35 3 (.own false) (osW (dXl cd).1), oL 3 (dXx cd)]
theorem dEB_sat : Sat Tryz.prog 27 dEB_sat_S := by
  refine sat_of tok okr mixed K_dEB_sat Tryz.func27 rfl (rs := [.tmp 2, .tmp 3]) rfl Tryz.ntmps27 ?_
  rintro args av objs ⟨cd, hpre, rfl, rfl, rfl⟩
  refine ⟨by show 1 ≤ 27; decide, ?_⟩
  have hb := beV_rg cd (dXl cd).2 (n := 6) (by decide)
  obtain ⟨k, hk⟩ : ∃ k : Nat, (k : Int) = beV cd (dXl cd).2 6 := ⟨_, Int.toNat_of_nonneg hb.1⟩
  have hkn : (beV cd (dXl cd).2 6).toNat = k := by omega
  have hk8 : k ≤ 5 := by omega
  unfold dXx
  rw [hkn]
  repeat' (first|(refine ya ?_;first|(refine yb ?_;first|refine yq ?_|refine ym ?_)|refine ye ?_)|refine yz ?_|refine zst ?_|refine zo ?_|(refine zk ?_ ?_<;>intro hc hr<;>try exact zx))
  refine z_loop (fun i : Nat => [(7, aI ((k : Int) - i))]) (fun i : Nat => [.obj 6 (oL 3 (dXN cd (beS cd (dXl cd).2 6) i).1), .cell 4 1 (.sc (.int ((dXN cd (beS cd (dXl cd).2 6) i).2.p : Int))), .cell 4 2 (.sc (.int (dXN cd (beS cd (dXl cd).2 6) i).2.q))]) (fun i : Nat => i ≤ k) (fun i : Nat => k - i) (0) (h0 := ?_) (henv := ?_) (hobj := ?_) (h := ?_)
  · omega
  · simp [go_sem, AVm, CVm, lookS, dXN, hk]
  · simp [go_sem, OBm, CVm, lookS, All2, dXN, hk]
  intro i hi
  have hl := (dXN_ok cd (beS cd (dXl cd).2 6) i).1
  have hn : dXN cd (beS cd (dXl cd).2 6) (i + 1) = ((dXN cd (beS cd (dXl cd).2 6) i).1 ++ [beV cd (dXN cd (beS cd (dXl cd).2 6) i).2 7 - 3], beS cd (dXN cd (beS cd (dXl cd).2 6) i).2 7) := rfl
  generalize hT : dXN cd (beS cd (dXl cd).2 6) i = t at *
  obtain ⟨w, c⟩ := t
  simp only at hl hn ⊢
  have hb2 := beV_rg cd c (n := 7) (by decide)
  clear hk hkn hb
  rcases Nat.lt_or_ge i k with hlt | hge
  · repeat' (first|(refine ya ?_;first|(refine yb ?_;first|refine yq ?_|refine ym ?_)|refine ye ?_)|refine yz ?_|refine zst ?_|refine zo ?_|(refine zk ?_ ?_<;>intro hc hr<;>try exact zx))
    (refine zm (i + 1) ?_ ?_ <;> simp [go_sem, AVm, OBm, CVm, All2, lookS, hn, *] <;> exact zt)
  · have hii : i = k := by omega
    subst hii
    rw [hT]
    clear hT hn
    repeat' (first|(refine ya ?_;first|(refine yb ?_;first|refine yq ?_|refine ym ?_)|refine ye ?_)|refine yz ?_|refine zst ?_|refine zo ?_|(refine zk ?_ ?_<;>intro hc hr<;>try exact zx))
    all_goals try exact zv
attribute [local irreducible] dXx
instance : Con Tryz.prog 27 dEB_sat_S := con dEB_sat Tryz.func27
@[go_sem] def K_dFX_sat (i : Nat) : List Nat := ([[0],[4],[2]]).getD i []
def dFX_sat_S : Eng.Spec := fun args av objs => ∃ (cd : List Int), (cd.length ≤ 1048576) ∧ args = [.one (.imm 1 (bys cd))] ∧ av = aR 0 ∧ objs = [oL 3 (dXx cd)]
theorem dFX_sat : Sat Tryz.prog 28 dFX_sat_S := by
  refine sat_of tok okr mixed K_dFX_sat Tryz.func28 rfl (rs := [.tmp 2]) rfl Tryz.ntmps28 ?_
  rintro args av objs ⟨cd, hpre, rfl, rfl, rfl⟩
  refine ⟨by show 1 ≤ 11; decide, ?_⟩
  repeat' (first|(refine ya ?_;first|refine yc ?_|refine ye ?_)|refine yz ?_|refine zst ?_|refine zo ?_|(refine zk ?_ ?_<;>intro hc hr<;>try exact zx))
  all_goals try exact zv
instance : Con Tryz.prog 28 dFX_sat_S := con dFX_sat Tryz.func28
@[go_sem] def K_dBO_sat (i : Nat) : List Nat := ([[0,2],[2]]).getD i []
def dBO_sat_S : Eng.Spec := fun args av objs => ∃ (cd : List Int), (cd.length ≤ 1048576) ∧ args = [.one (.imm 1 (bys cd))] ∧ av = gT (l9A cd (nwC cd)).1 ∧ objs = [oE 65 (l9A cd (nwC cd)).1.es]
theorem dBO_sat : Sat Tryz.prog 6 dBO_sat_S := by
  refine sat_of tok okr mixed K_dBO_sat Tryz.func6 rfl (rs := [.cell 2 26]) rfl Tryz.ntmps6 ?_
  rintro args av objs ⟨cd, hpre, rfl, rfl, rfl⟩
  refine ⟨by show 1 ≤ 6; decide, ?_⟩
  repeat' (first|(refine ya ?_;first|(refine yb ?_;first|refine yq ?_|refine ym ?_)|refine ye ?_)|refine yz ?_|refine zst ?_|refine zo ?_|(refine zk ?_ ?_<;>intro hc hr<;>try exact zx))
  all_goals try exact zv
instance : Con Tryz.prog 6 dBO_sat_S := con dBO_sat Tryz.func6
@[go_sem] def K_dRI_sat (i : Nat) : List Nat := ([[0,2],[2,4,5],[2,3]]).getD i []
def dRI_sat_S : Eng.Spec := fun args av objs => ∃ (cd : List Int), (cd.length ≤ 1048576) ∧ args = [.one (.imm 1 (bys cd))] ∧ av = .tup [gT (l9A cd (nwC cd)).1, .one (.ref 1)] ∧ objs = [oE 65 (l9A cd (nwC cd)).1.es, oL 3 (l9W cd (l9A cd (nwC cd)).1 (l9A cd (nwC cd)).2).1]
theorem dRI_sat : Sat Tryz.prog 19 dRI_sat_S := by
  refine sat_of tok okr mixed K_dRI_sat Tryz.func19 rfl (rs := [.cell 2 26, .tmp 3]) rfl Tryz.ntmps19 ?_
  rintro args av objs ⟨cd, hpre, rfl, rfl, rfl⟩
  refine ⟨by show 1 ≤ 13; decide, ?_⟩
  repeat' (first|(refine ya ?_;first|refine yc ?_|refine ye ?_)|refine yz ?_|refine zst ?_|refine zo ?_|(refine zk ?_ ?_<;>intro hc hr<;>try exact zx))
  all_goals try exact zv
noncomputable def dGB (cd : List Int) : Bool := decide (beV cd (l9A cd (nwC cd)).2 2 = 0) && !isC (l9A cd (nwC cd)).1.r (l9A cd (nwC cd)).1.z (l9A cd (nwC cd)).1.es
noncomputable def dGW (cd : List Int) : List (List Int) := if beV cd (l9A cd (nwC cd)).2 2 = 0 then (if isC (l9A cd (nwC cd)).1.r (l9A cd (nwC cd)).1.z (l9A cd (nwC cd)).1.es = true then bsW (l9A cd (nwC cd)).1.r (l9A cd (nwC cd)).1.z (l9A cd (nwC cd)).1.es else []) else (l6W cd (mn3 (l9A cd (nwC cd)).1.r) (beS cd (l9A cd (nwC cd)).2 2)).1
theorem dGW_ok (cd : List Int) : (dGW cd).length ≤ 120 ∧ ∀ w ∈ dGW cd, w.length ≤ 81 := by
  unfold dGW
  split
  · split
    · rename_i h
      exact ⟨bsW_len, fun w hw => (bsW_ok (isC_f h) w hw).1⟩
    · exact ⟨by simp, by simp⟩
  · obtain ⟨h1, h2, _⟩ := l6W_ok cd (beS cd (l9A cd (nwC cd)).2 2) (mn3_ok (l9A cd (nwC cd)).1.r)
    exact ⟨by omega, fun w hw => by have := h2 w hw; omega⟩
instance : Con Tryz.prog 19 dRI_sat_S := con dRI_sat Tryz.func19
@[go_sem] def K_dGA_sat (i : Nat) : List Nat := ([[0,2],[2,4],[2,4,5],[2,4,5,11],[2,3],[2,3]]).getD i []
def dGA_sat_S : Eng.Spec := fun args av objs => ∃ (cd : List Int), (cd.length ≤ 1048576) ∧ args = [.one (.imm 1 (bys cd))] ∧ av = .tup [gT (l9A cd (nwC cd)).1, .one (.ref 1)] ∧ objs = [oE 65 (l9A cd (nwC cd)).1.es, .rows 35 3 (.own (dGB cd)) (osW (dGW cd))]
theorem dGA_sat : Sat Tryz.prog 26 dGA_sat_S := by
  refine sat_of tok okr mixed K_dGA_sat Tryz.func26 rfl (rs := [.cell 2 26, .tmp 3]) rfl Tryz.ntmps26 ?_
  rintro args av objs ⟨cd, hpre, rfl, rfl, rfl⟩
  refine ⟨by show 1 ≤ 22; decide, ?_⟩
  have hes := l9A_es cd (nwC cd)
  have hm := mn3_ok (l9A cd (nwC cd)).1.r
  by_cases k0 : beV cd (l9A cd (nwC cd)).2 2 = 0
  · cases hc : isC (l9A cd (nwC cd)).1.r (l9A cd (nwC cd)).1.z (l9A cd (nwC cd)).1.es
    · have e1 : dGB cd = true := by unfold dGB; rw [hc, decide_eq_true k0]; rfl
      have e2 : dGW cd = [] := by unfold dGW; rw [if_pos k0, hc]; rfl
      rw [e1, e2]
      clear e1 e2
      repeat' (first|(refine ya ?_;first|(refine yb ?_;first|refine z_fn basis_no2 Tryz.func9 (hSp := by refine ⟨_, _, _, ⟨?_, ?_⟩, rfl, rfl, rfl⟩; exact zp; exact zp) (k0 := ?_) | refine yc ?_|refine yq ?_|refine ym ?_)|refine ye ?_)|refine yz ?_|(refine yA ?_;first|(refine yB ?_;first|refine z_fnl basis_no2 Tryz.func9 (hSp := by refine ⟨_, _, _, ⟨?_, ?_⟩, rfl, rfl, rfl⟩; exact zp; exact zp) (k0 := ?_) | refine yC ?_|refine yQ ?_|refine yM ?_)|refine yE ?_)|refine yZ ?_|refine zst ?_|refine zo ?_|(refine zk ?_ ?_<;>intro hc hr<;>try exact zx))
      all_goals try exact zv
    · have e1 : dGB cd = false := by unfold dGB; rw [hc, decide_eq_true k0]; rfl
      have e2 : dGW cd = bsW (l9A cd (nwC cd)).1.r (l9A cd (nwC cd)).1.z (l9A cd (nwC cd)).1.es := by unfold dGW; rw [if_pos k0, if_pos hc]
      rw [e1, e2]
      clear e1 e2
      repeat' (first|(refine ya ?_;first|(refine yb ?_;first|refine z_fn basis_yes2 Tryz.func9 (hSp := by refine ⟨_, _, _, ⟨?_, ?_⟩, rfl, rfl, rfl⟩; exact zp; exact zp) (k0 := ?_) | refine yc ?_|refine yq ?_|refine ym ?_)|refine ye ?_)|refine yz ?_|(refine yA ?_;first|(refine yB ?_;first|refine z_fnl basis_yes2 Tryz.func9 (hSp := by refine ⟨_, _, _, ⟨?_, ?_⟩, rfl, rfl, rfl⟩; exact zp; exact zp) (k0 := ?_) | refine yC ?_|refine yQ ?_|refine yM ?_)|refine yE ?_)|refine yZ ?_|refine zst ?_|refine zo ?_|(refine zk ?_ ?_<;>intro hc hr<;>try exact zx))
      all_goals try exact zv
  · have e1 : dGB cd = false := by unfold dGB; rw [decide_eq_false k0]; rfl
    have e2 : dGW cd = (l6W cd (mn3 (l9A cd (nwC cd)).1.r) (beS cd (l9A cd (nwC cd)).2 2)).1 := by unfold dGW; rw [if_neg k0]
    rw [e1, e2]
    clear e1 e2
    unfold mn3 at *
    repeat' (first|(refine ya ?_;first|(refine yb ?_;first|refine yc ?_|refine yq ?_|refine ym ?_)|refine ye ?_)|refine yz ?_|(refine yA ?_;first|(refine yB ?_;first|refine yC ?_|refine yQ ?_|refine yM ?_)|refine yE ?_)|refine yZ ?_|refine zst ?_|refine zo ?_|(refine zk ?_ ?_<;>intro hc hr<;>try exact zx))
    all_goals try exact zv
instance : Con Tryz.prog 26 dGA_sat_S := con dGA_sat Tryz.func26
end Go.Proofs.Tryz
