import Derived.Test.YtfapjflogjblaaaD4
import Derived.Test.YtfapjflogjblaaaY
import Derived.Test.YtfapjflogjblaaaX7
set_option linter.unusedVariables false
set_option linter.unusedSimpArgs false
set_option linter.unnecessarySimpa false
/- The specification's draws of lists of words. -/
namespace Go.Proofs.Try
open Go Go.Eng
set_option linter.unnecessarySimpa false
set_option linter.unusedSimpArgs false
set_option maxHeartbeats 4000000
set_option maxRecDepth 20000
theorem z_retO {T : Tys} {s : AS} {ty : Nat} {i h : Int} {objs : List Eng.Obj} {rs : List ResultVar} {av av' : AV} {acc : Acc} {u : Value} {S : Nat → Prop} {W : World} {L : List Nat} {pv : Value} {e : Exit} (he : e = .ret ∨ e = .normal := by first | exact .inl rfl | exact .inr rfl) (h0 : retA T s rs = some (av', acc) := by simp [go_sem]; first | exact ⟨rfl, rfl⟩ | rfl) (hv : av' = av) (ho : acc.map (·.1) = objs)
    (hc : s.obj 0 = some (cur ty (.val u) i h)) (ha : (acc.all fun p => match p.2 with | some id => id != 0 && id != 5 | none => false) = true := by rfl) (h1 : s.obj 1 = some (.pin S W) := by rfl) (h3 : s.obj 3 = some (.stay 0 pv) := by rfl) (h5 : s.obj 5 = some (.res L W) := by rfl) : retOKR T rs ty av objs i h u S W L pv e s := by
  subst hv
  rcases he with rfl | rfl <;> exact ⟨acc, _, .inl rfl, h0, ho, ha, hc, h1, h3, h5⟩
theorem awB_all {r : Int} {ws : List (List Int)} (h : awB r ws = true) : ∀ w ∈ ws, isW r w = true := by
  simp only [awB, awA, Bool.and_eq_true, decide_eq_true_eq, List.all_eq_true] at h
  exact h.2.1
theorem pick3 {n : Int} (h : 0 ≤ n ∧ n < 3) : 0 ≤ elI [[.int 0], [.int 1], [.int 4]] n.toNat ∧ elI [[.int 0], [.int 1], [.int 4]] n.toNat ≤ 4 := by
  have : n.toNat = 0 ∨ n.toNat = 1 ∨ n.toNat = 2 := by omega
  rcases this with h | h | h <;> rw [h] <;> decide
def l6R (cd : List Int) (c : Cu) : Int := elI [[.int 1], [.int 2], [.int 2], [.int 2], [.int 3]] (beV cd c 5).toNat
theorem l6R_ok (cd : List Int) (c : Cu) : 1 ≤ l6R cd c ∧ l6R cd c ≤ 3 := pick5 (beV_rg cd c (n := 5) (by decide))
theorem l6R_eq (cd : List Int) (c : Cu) : elI [[.int 1], [.int 2], [.int 2], [.int 2], [.int 3]] (beV cd c 5).toNat = l6R cd c := rfl
def l6Q (cd : List Int) (c : Cu) : Int := elI [[.int 0], [.int 1], [.int 4]] (beV cd c 3).toNat
theorem l6Q_ok (cd : List Int) (c : Cu) : 0 ≤ l6Q cd c ∧ l6Q cd c ≤ 4 := pick3 (beV_rg cd c (n := 3) (by decide))
theorem l6Q_eq (cd : List Int) (c : Cu) : elI [[.int 0], [.int 1], [.int 4]] (beV cd c 3).toNat = l6Q cd c := rfl
def l6L (cd : List Int) (cu : Cu) : List (List Int) × Cu := l6W cd (l6R cd cu) (beS cd cu 5)
theorem l6L_eq (cd : List Int) (cu : Cu) : l6W cd (l6R cd cu) (beS cd cu 5) = l6L cd cu := rfl
attribute [go_sem] l6R_eq l6Q_eq l6L_eq
theorem l6L_ok (cd : List Int) (cu : Cu) : (l6L cd cu).1.length ≤ 3 ∧ (∀ w ∈ (l6L cd cu).1, w.length ≤ 5) ∧ awB (l6R cd cu) (l6L cd cu).1 = true := l6W_ok cd _ (l6R_ok cd cu)
def l6k (cd : List Int) (cu : Cu) : Int := beV cd (l6L cd cu).2 14
def l6d (cd : List Int) (cu : Cu) : Cu := beS cd (l6L cd cu).2 14
/-- The rank, the words, what is behind. -/
def l6Ar (cd : List Int) (cu : Cu) : Int := if l6k cd cu = 0 then l6Q cd (l6d cd cu) else l6R cd cu
def l6Aw (cd : List Int) (cu : Cu) : List (List Int) := if l6k cd cu = 1 then (l6L cd cu).1 ++ [[1, -1]] else (l6L cd cu).1
def l6Ac (cd : List Int) (cu : Cu) : Cu := if l6k cd cu = 0 then beS cd (l6d cd cu) 3 else l6d cd cu
theorem isW_sm {r : Int} {w : List Int} (h : isW r w = true) : smallW w := fun x hx => by
  obtain ⟨i, hi, rfl⟩ := List.mem_iff_getElem.1 hx
  have := isW_at h hi
  simp only [ix, List.getD_eq_getElem?_getD, List.getElem?_eq_getElem hi, Option.getD_some] at this
  omega
theorem l6A_ok (cd : List Int) (cu : Cu) : (0 ≤ l6Ar cd cu ∧ l6Ar cd cu ≤ 4) ∧ (l6Aw cd cu).length ≤ 4 ∧ (∀ w ∈ l6Aw cd cu, w.length ≤ 5) ∧ ∀ w ∈ l6Aw cd cu, smallW w := by
  obtain ⟨h1, h2, h3⟩ := l6L_ok cd cu
  have h4 := l6R_ok cd cu
  have h5 := l6Q_ok cd (l6d cd cu)
  refine ⟨by unfold l6Ar; split <;> omega, ?_⟩
  unfold l6Aw
  split
  · refine ⟨by rw [List.length_append, List.length_singleton]; omega, fun w hw => ?_, fun w hw => ?_⟩
    · rcases List.mem_append.1 hw with hw | hw
      · exact h2 w hw
      · rw [List.mem_singleton] at hw; subst hw; decide
    · rcases List.mem_append.1 hw with hw | hw
      · exact isW_sm (awB_all h3 w hw)
      · rw [List.mem_singleton] at hw; subst hw; intro x hx; simp at hx; omega
  · exact ⟨by omega, h2, fun w hw => isW_sm (awB_all h3 w hw)⟩
attribute [local irreducible] beV beS byV byS nwC l6W l2W awB l4A l4G l6R l6Q l6L
def K_l6A_sat : Nat → List Nat := fun i => ([[0], [0, 4], [0, 4, 5], [0, 4, 5, 13], [0, 4, 5, 13, 14], [4, 5], [4, 5, 19], [4, 5], [2, 3]] : List (List Nat)).getD i []
attribute [go_sem] K_l6A_sat
def l6A_sat_S : SpecB := fun args bs i h av objs i' h' => ∃ (cd : List Int) (cu : Cu) , (cd.length ≤ 1048576) ∧ args = [aC] ∧ bs = bys cd ∧ i = (cu.p : Int) ∧ h = cu.q ∧ av = .tup [aI (l6Ar cd cu), aR 0] ∧ objs = [.rows 34 3 (.own false) (osW (l6Aw cd cu))] ∧ i' = ((l6Ac cd cu).p : Int) ∧ h' = (l6Ac cd cu).q
theorem l6A_sat : SatB Try.prog 30 83 l6A_sat_S := by
  refine satB_ofR tok okr mixed K_l6A_sat Try.func30 rfl (rs := [.tmp 2, .tmp 3]) rfl Try.ntmps30 ?_
  rintro args bs i h av objs i' h' ⟨cd, cu, hpre, rfl, rfl, rfl, rfl, rfl, rfl, rfl, rfl⟩
  refine ⟨by show 1 ≤ 27; decide, rfl, fun u S W L pv him => ?_⟩
  have hr := l6R_ok cd cu
  obtain ⟨h1, h2, h3⟩ := l6L_ok cd cu
  have hk : l6k cd cu = beV cd (l6L cd cu).2 14 := rfl
  have hd : l6d cd cu = beS cd (l6L cd cu).2 14 := rfl
  by_cases k0 : l6k cd cu = 0
  · have e1 : l6Ar cd cu = l6Q cd (l6d cd cu) := by unfold l6Ar; rw [if_pos k0]
    have e2 : l6Aw cd cu = (l6L cd cu).1 := by unfold l6Aw; rw [if_neg (by omega)]
    have e3 : l6Ac cd cu = beS cd (l6d cd cu) 3 := by unfold l6Ac; rw [if_pos k0]
    rw [e1, e2, e3, hd]
    rw [hk] at k0
    clear e1 e2 e3 hk hd h2 h3
    repeat' (first|(refine ya ?_;first|(refine yb ?_;first|refine yh ?_)|refine ye ?_)|refine yz ?_|refine zst ?_|refine k_blk_other rfl ?_|(refine zk ?_ ?_<;>intro hc hr<;>try first|contradiction|exfalso;omega))
    refine z_retO (hv := ?_) (ho := ?_) (hc := ?_) <;> rfl
  · have e1 : l6Ar cd cu = l6R cd cu := by unfold l6Ar; rw [if_neg k0]
    have e3 : l6Ac cd cu = l6d cd cu := by unfold l6Ac; rw [if_neg k0]
    by_cases k1 : l6k cd cu = 1
    · have e2 : l6Aw cd cu = (l6L cd cu).1 ++ [[1, -1]] := by unfold l6Aw; rw [if_pos k1]
      rw [e1, e2, e3, hd]
      rw [hk] at k0 k1
      clear e1 e2 e3 hk hd h2 h3
      repeat' (first|(refine ya ?_;first|(refine yb ?_;first|refine yh ?_)|refine ye ?_)|refine yz ?_|refine zst ?_|refine k_blk_other rfl ?_|(refine zk ?_ ?_<;>intro hc hr<;>try first|contradiction|exfalso;omega))
      refine z_retR 192 (hv := ?_) (ho := ?_) (hc := ?_) <;> first | rfl | (simp [osW, ints]; done)
    · have e2 : l6Aw cd cu = (l6L cd cu).1 := by unfold l6Aw; rw [if_neg k1]
      rw [e1, e2, e3, hd]
      rw [hk] at k0 k1
      clear e1 e2 e3 hk hd h2 h3
      repeat' (first|(refine ya ?_;first|(refine yb ?_;first|refine yh ?_)|refine ye ?_)|refine yz ?_|refine zst ?_|refine k_blk_other rfl ?_|(refine zk ?_ ?_<;>intro hc hr<;>try first|contradiction|exfalso;omega))
      refine z_retO (hv := ?_) (ho := ?_) (hc := ?_) <;> rfl
instance : ConB Try.prog 30 83 l6A_sat_S := conB l6A_sat Try.func30
def K_dFO_sat : Nat → List Nat := fun i => ([[0], [4, 5], [2, 3]] : List (List Nat)).getD i []
attribute [go_sem] K_dFO_sat
def dFO_sat_S : Eng.Spec := fun args av objs => ∃ (cd : List Int), (cd.length ≤ 1048576) ∧ args = [.one (.imm 1 (bys cd))] ∧ av = .tup [aI (l6Ar cd (nwC cd)), aR 0] ∧ objs = [.rows 34 3 (.own false) (osW (l6Aw cd (nwC cd)))]
theorem dFO_sat : Sat Try.prog 5 dFO_sat_S := by
  refine sat_of tok okr mixed K_dFO_sat Try.func5 rfl (rs := [.tmp 2, .tmp 3]) rfl Try.ntmps5 ?_
  rintro args av objs ⟨cd, hpre, rfl, rfl, rfl⟩
  refine ⟨by show 1 ≤ 14; decide, ?_⟩
  repeat' (first|(refine ya ?_;first|(refine yb ?_;first|refine yq ?_|refine ym ?_)|refine ye ?_)|refine yz ?_|refine zst ?_|refine k_blk_other rfl ?_|(refine zk ?_ ?_<;>intro hc hr<;>try first|contradiction|exfalso;omega))
  all_goals first | (refine z_ret (hv := ?_) (ho := ?_) <;> first | rfl | (simp [go_sem, *]; done) | (simp_all; done) | (simp_all; omega)) | skip
instance : Con Try.prog 5 dFO_sat_S := con dFO_sat Try.func5
end Go.Proofs.Try
