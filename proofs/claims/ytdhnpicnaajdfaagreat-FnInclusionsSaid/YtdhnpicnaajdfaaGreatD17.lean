import Derived.Test.YtdhnpicnaajdfaaGreatD4
import Derived.Test.YtdhnpicnaajdfaaGreatQ14
set_option linter.unusedVariables false
set_option linter.unusedSimpArgs false
set_option linter.unnecessarySimpa false
/- The specification's draws: subgroups. -/
namespace Go.Proofs.Tryz
open Go Go.Eng
set_option linter.unnecessarySimpa false
set_option linter.unusedSimpArgs false
set_option maxHeartbeats 4000000
set_option maxRecDepth 20000
def l9R (cd : List Int) (c : Cu) : Int := elI [[.int 1], [.int 2], [.int 2], [.int 2], [.int 2], [.int 3]] (beV cd c 6).toNat
theorem pick6 {n : Int} (h : 0 ≤ n ∧ n < 6) : 1 ≤ elI [[.int 1], [.int 2], [.int 2], [.int 2], [.int 2], [.int 3]] n.toNat ∧ elI [[.int 1], [.int 2], [.int 2], [.int 2], [.int 2], [.int 3]] n.toNat ≤ 3 := by
  have : n.toNat = 0 ∨ n.toNat = 1 ∨ n.toNat = 2 ∨ n.toNat = 3 ∨ n.toNat = 4 ∨ n.toNat = 5 := by omega
  rcases this with h | h | h | h | h | h <;> rw [h] <;> decide
theorem l9R_ok (cd : List Int) (c : Cu) : 1 ≤ l9R cd c ∧ l9R cd c ≤ 3 := pick6 (beV_rg cd c (n := 6) (by decide))
/-- The first list, what is behind it; the second list, what is behind that. -/
def l9L (cd : List Int) (cu : Cu) : List (List Int) × Cu := l6W cd (l9R cd cu) (beS cd cu 6)
def l9M (cd : List Int) (cu : Cu) : List (List Int) × Cu := l6W cd (l9R cd cu) (l9L cd cu).2
def l9N (cd : List Int) (cu : Cu) : List (List Int) := if beV cd (l9M cd cu).2 3 = 0 ∧ 0 < (l9L cd cu).1.length then (l9M cd cu).1 ++ [wx (l9L cd cu).1 0] else (l9M cd cu).1
def l9C (cd : List Int) (cu : Cu) : Cu := beS cd (l9M cd cu).2 3
noncomputable def l9a (cd : List Int) (cu : Cu) : Gr := sgG (l9R cd cu) (l9L cd cu).1
noncomputable def l9b (cd : List Int) (cu : Cu) : Gr := sgG (l9R cd cu) (l9N cd cu)
theorem l9R_eq (cd : List Int) (c : Cu) : elI [[.int 1], [.int 2], [.int 2], [.int 2], [.int 2], [.int 3]] (beV cd c 6).toNat = l9R cd c := rfl
theorem l9L_eq (cd : List Int) (cu : Cu) : l6W cd (l9R cd cu) (beS cd cu 6) = l9L cd cu := rfl
theorem l9M_eq (cd : List Int) (cu : Cu) : l6W cd (l9R cd cu) (l9L cd cu).2 = l9M cd cu := rfl
theorem l9a_eq (cd : List Int) (cu : Cu) : sgG (l9R cd cu) (l9L cd cu).1 = l9a cd cu := rfl
attribute [go_sem] l9R_eq l9L_eq l9M_eq l9a_eq
theorem l9L_ok (cd : List Int) (cu : Cu) : (l9L cd cu).1.length ≤ 3 ∧ (∀ w ∈ (l9L cd cu).1, w.length ≤ 5) ∧ awB (l9R cd cu) (l9L cd cu).1 = true := l6W_ok cd _ (l9R_ok cd cu)
theorem l9M_ok (cd : List Int) (cu : Cu) : (l9M cd cu).1.length ≤ 3 ∧ (∀ w ∈ (l9M cd cu).1, w.length ≤ 5) ∧ awB (l9R cd cu) (l9M cd cu).1 = true := l6W_ok cd _ (l9R_ok cd cu)
theorem awB_all {r : Int} {ws : List (List Int)} (h : awB r ws = true) : ∀ w ∈ ws, isW r w = true := by
  simp only [awB, awA, Bool.and_eq_true, decide_eq_true_eq, List.all_eq_true] at h
  exact h.2.1
theorem awB_of {r : Int} {ws : List (List Int)} (hr : 1 ≤ r ∧ r ≤ 3) (hl : ws.length ≤ 4) (hw : ∀ w ∈ ws, w.length ≤ 5) (h : ∀ w ∈ ws, isW r w = true) : awB r ws = true := by
  rw [awB_yes ⟨hr.1, hr.2, by omega⟩ (List.all_eq_true.2 h), decide_eq_true_eq]
  have := tlW_le hw
  omega
theorem l9N_ok (cd : List Int) (cu : Cu) : (l9N cd cu).length ≤ 4 ∧ (∀ w ∈ (l9N cd cu), w.length ≤ 5) ∧ awB (l9R cd cu) (l9N cd cu) = true := by
  obtain ⟨a1, a2, a3⟩ := l9L_ok cd cu
  obtain ⟨b1, b2, b3⟩ := l9M_ok cd cu
  have hr := l9R_ok cd cu
  unfold l9N
  split
  · rename_i h
    have hm := wx_mem (ws := (l9L cd cu).1) (i := 0) h.2
    have e : ((l9M cd cu).1 ++ [wx (l9L cd cu).1 0]).length ≤ 4 := by rw [List.length_append, List.length_singleton]; omega
    have e2 : ∀ w ∈ (l9M cd cu).1 ++ [wx (l9L cd cu).1 0], w.length ≤ 5 ∧ isW (l9R cd cu) w = true := fun w hw => by
      rcases List.mem_append.1 hw with hw | hw
      · exact ⟨b2 w hw, awB_all b3 w hw⟩
      · rw [List.mem_singleton] at hw; subst hw; exact ⟨a2 _ hm, awB_all a3 _ hm⟩
    exact ⟨e, fun w hw => (e2 w hw).1, awB_of hr e (fun w hw => (e2 w hw).1) fun w hw => (e2 w hw).2⟩
  · exact ⟨by omega, b2, b3⟩
theorem l9a_es (cd : List Int) (cu : Cu) : (l9a cd cu).es.length ≤ 1048576 := sgG_es _ _
theorem l9b_es (cd : List Int) (cu : Cu) : (l9b cd cu).es.length ≤ 1048576 := sgG_es _ _
attribute [local irreducible] beV beS byV byS nwC l6W l2W sgG flG coreG canG l9R l9L l9M l9N l9a l9b awB l4A l4G
def K_l9Two_sat : Nat → List Nat := fun i => ([[0, 2, 3], [0, 2, 3, 4], [0, 2, 3, 4, 5], [0, 2, 3, 4, 5, 6], [0, 2, 3, 4, 5, 6, 8], [2, 3, 4, 5, 6, 8, 32], [2, 3, 4, 6, 8], [2, 3, 6, 9], [2, 3]] : List (List Nat)).getD i []
attribute [go_sem] K_l9Two_sat
def l9Two_sat_S : SpecB := fun args bs i h av objs i' h' => ∃ (cd : List Int) (cu : Cu) , (cd.length ≤ 1048576) ∧ args = [aC] ∧ bs = bys cd ∧ i = (cu.p : Int) ∧ h = cu.q ∧ av = .tup [gT (l9a cd cu), .agg [.sc (.int (l9b cd cu).r), .sc (.int (l9b cd cu).z), .ref 1]] ∧ objs = [oE 42 (l9a cd cu).es, oE 42 (l9b cd cu).es] ∧ i' = ((l9C cd cu).p : Int) ∧ h' = (l9C cd cu).q
theorem l9Two_sat : SatB Tryz.prog 58 99 l9Two_sat_S := by
  refine satB_of tok okr mixed K_l9Two_sat Tryz.func58 rfl (rs := [.cell 2 26, .cell 3 26]) rfl Tryz.ntmps58 ?_
  rintro args bs i h av objs i' h' ⟨cd, cu, hpre, rfl, rfl, rfl, rfl, rfl, rfl, rfl, rfl⟩
  refine ⟨by show 1 ≤ 47; decide, fun u S W pv => ?_⟩
  have hr := l9R_ok cd cu
  obtain ⟨a1, a2, a3⟩ := l9L_ok cd cu
  obtain ⟨b1, b2, b3⟩ := l9M_ok cd cu
  have n0 := l9N_ok cd cu
  have a5 : ∀ w ∈ (l9L cd cu).1, w.length ≤ 1048576 := fun w hw => by have := a2 w hw; omega
  have b5 : ∀ w ∈ (l9M cd cu).1, w.length ≤ 1048576 := fun w hw => by have := b2 w hw; omega
  have hes := l9a_es cd cu
  clear a2 b2
  unfold l9b
  by_cases k0 : beV cd (l9M cd cu).2 3 = 0 ∧ 0 < (l9L cd cu).1.length
  · have e : l9N cd cu = (l9M cd cu).1 ++ [wx (l9L cd cu).1 0] := by unfold l9N; rw [if_pos k0]
    rw [e] at n0 ⊢
    clear e
    obtain ⟨n1, n2, n3⟩ := n0
    have n5 : ∀ w ∈ (l9M cd cu).1 ++ [wx (l9L cd cu).1 0], w.length ≤ 1048576 := fun w hw => by have := n2 w hw; omega
    obtain ⟨k1, k2⟩ := k0
    clear n2
    unfold l9C
    repeat' (first|(refine ya ?_;first|(refine yb ?_;first|refine z_fn subg_yes2 Tryz.func104 (hSp := by refine ⟨_, _, ⟨?_, ?_, ?_⟩, rfl, rfl, rfl⟩; (first | assumption | omega | (simp; done) | (simp; omega) | (((repeat' refine And.intro ?_ ?_) <;> first | assumption | omega | (simp; done) | (simp; omega)); done) | (simp at *; omega)); (first | assumption | omega | (simp; done) | (simp; omega) | (((repeat' refine And.intro ?_ ?_) <;> first | assumption | omega | (simp; done) | (simp; omega)); done) | (simp at *; omega)); (first | assumption | omega | (simp; done) | (simp; omega) | (((repeat' refine And.intro ?_ ?_) <;> first | assumption | omega | (simp; done) | (simp; omega)); done) | (simp at *; omega))) (k0 := ?_) | refine yc ?_|refine yq ?_)|refine ye ?_)|(refine yg ?_;intro hgs;first|(replace hgs:=zgy hgs;first|(refine yb ?_;first|refine z_fn subg_yes2 Tryz.func104 (hSp := by refine ⟨_, _, ⟨?_, ?_, ?_⟩, rfl, rfl, rfl⟩; (first | assumption | omega | (simp; done) | (simp; omega) | (((repeat' refine And.intro ?_ ?_) <;> first | assumption | omega | (simp; done) | (simp; omega)); done) | (simp at *; omega)); (first | assumption | omega | (simp; done) | (simp; omega) | (((repeat' refine And.intro ?_ ?_) <;> first | assumption | omega | (simp; done) | (simp; omega)); done) | (simp at *; omega)); (first | assumption | omega | (simp; done) | (simp; omega) | (((repeat' refine And.intro ?_ ?_) <;> first | assumption | omega | (simp; done) | (simp; omega)); done) | (simp at *; omega))) (k0 := ?_) | refine yc ?_|refine yq ?_)|refine yy hgs ?_;clear hgs)|(refine yn (zgn hgs) ?_;clear hgs)|((fail_if_success have:=zgy hgs);refine z_spl hgs (h1:=?_) (h2:=?_)<;>clear hgs<;>intro hg hr<;>try first|contradiction|exfalso;omega))|refine yz ?_|(refine yA ?_;first|(refine yB ?_;first|refine z_fnl subg_yes2 Tryz.func104 (hSp := by refine ⟨_, _, ⟨?_, ?_, ?_⟩, rfl, rfl, rfl⟩; (first | assumption | omega | (simp; done) | (simp; omega) | (((repeat' refine And.intro ?_ ?_) <;> first | assumption | omega | (simp; done) | (simp; omega)); done) | (simp at *; omega)); (first | assumption | omega | (simp; done) | (simp; omega) | (((repeat' refine And.intro ?_ ?_) <;> first | assumption | omega | (simp; done) | (simp; omega)); done) | (simp at *; omega)); (first | assumption | omega | (simp; done) | (simp; omega) | (((repeat' refine And.intro ?_ ?_) <;> first | assumption | omega | (simp; done) | (simp; omega)); done) | (simp at *; omega))) (k0 := ?_) | refine yC ?_|refine yQ ?_)|refine yE ?_)|(refine yG ?_;intro hgs;first|(replace hgs:=zgy hgs;first|(refine yB ?_;first|refine z_fnl subg_yes2 Tryz.func104 (hSp := by refine ⟨_, _, ⟨?_, ?_, ?_⟩, rfl, rfl, rfl⟩; (first | assumption | omega | (simp; done) | (simp; omega) | (((repeat' refine And.intro ?_ ?_) <;> first | assumption | omega | (simp; done) | (simp; omega)); done) | (simp at *; omega)); (first | assumption | omega | (simp; done) | (simp; omega) | (((repeat' refine And.intro ?_ ?_) <;> first | assumption | omega | (simp; done) | (simp; omega)); done) | (simp at *; omega)); (first | assumption | omega | (simp; done) | (simp; omega) | (((repeat' refine And.intro ?_ ?_) <;> first | assumption | omega | (simp; done) | (simp; omega)); done) | (simp at *; omega))) (k0 := ?_) | refine yC ?_|refine yQ ?_)|refine yY hgs ?_;clear hgs)|(refine yN (zgn hgs) ?_;clear hgs)|((fail_if_success have:=zgy hgs);refine z_spll hgs (h1:=?_) (h2:=?_)<;>clear hgs<;>intro hg hr<;>try first|contradiction|exfalso;omega))|refine yZ ?_|refine zst ?_|refine k_blk_other rfl ?_|(refine zk ?_ ?_<;>intro hc hr<;>try first|contradiction|exfalso;omega))
    all_goals first | (refine z_retB (hv := ?_) (ho := ?_) (hc := ?_) <;> first | rfl | (simp [go_sem, *]; done) | (simp_all; done) | (simp_all; omega)) | skip
  · have e : l9N cd cu = (l9M cd cu).1 := by unfold l9N; rw [if_neg k0]
    rw [e] at n0 ⊢
    clear e n0
    have hor : ¬ beV cd (l9M cd cu).2 3 = 0 ∨ ¬ 0 < (l9L cd cu).1.length := by
      by_cases h1 : beV cd (l9M cd cu).2 3 = 0
      · exact .inr fun h2 => k0 ⟨h1, h2⟩
      · exact .inl h1
    clear k0
    unfold l9C
    rcases hor with k1 | k1
    · repeat' (first|(refine ya ?_;first|(refine yb ?_;first|refine z_fn subg_yes2 Tryz.func104 (hSp := by refine ⟨_, _, ⟨?_, ?_, ?_⟩, rfl, rfl, rfl⟩; (first | assumption | omega | (simp; done) | (simp; omega) | (((repeat' refine And.intro ?_ ?_) <;> first | assumption | omega | (simp; done) | (simp; omega)); done) | (simp at *; omega)); (first | assumption | omega | (simp; done) | (simp; omega) | (((repeat' refine And.intro ?_ ?_) <;> first | assumption | omega | (simp; done) | (simp; omega)); done) | (simp at *; omega)); (first | assumption | omega | (simp; done) | (simp; omega) | (((repeat' refine And.intro ?_ ?_) <;> first | assumption | omega | (simp; done) | (simp; omega)); done) | (simp at *; omega))) (k0 := ?_) | refine yc ?_|refine yq ?_)|refine ye ?_)|(refine yg ?_;intro hgs;first|(replace hgs:=zgy hgs;first|(refine yb ?_;first|refine z_fn subg_yes2 Tryz.func104 (hSp := by refine ⟨_, _, ⟨?_, ?_, ?_⟩, rfl, rfl, rfl⟩; (first | assumption | omega | (simp; done) | (simp; omega) | (((repeat' refine And.intro ?_ ?_) <;> first | assumption | omega | (simp; done) | (simp; omega)); done) | (simp at *; omega)); (first | assumption | omega | (simp; done) | (simp; omega) | (((repeat' refine And.intro ?_ ?_) <;> first | assumption | omega | (simp; done) | (simp; omega)); done) | (simp at *; omega)); (first | assumption | omega | (simp; done) | (simp; omega) | (((repeat' refine And.intro ?_ ?_) <;> first | assumption | omega | (simp; done) | (simp; omega)); done) | (simp at *; omega))) (k0 := ?_) | refine yc ?_|refine yq ?_)|refine yy hgs ?_;clear hgs)|(refine yn (zgn hgs) ?_;clear hgs)|((fail_if_success have:=zgy hgs);refine z_spl hgs (h1:=?_) (h2:=?_)<;>clear hgs<;>intro hg hr<;>try first|contradiction|exfalso;omega))|refine yz ?_|(refine yA ?_;first|(refine yB ?_;first|refine z_fnl subg_yes2 Tryz.func104 (hSp := by refine ⟨_, _, ⟨?_, ?_, ?_⟩, rfl, rfl, rfl⟩; (first | assumption | omega | (simp; done) | (simp; omega) | (((repeat' refine And.intro ?_ ?_) <;> first | assumption | omega | (simp; done) | (simp; omega)); done) | (simp at *; omega)); (first | assumption | omega | (simp; done) | (simp; omega) | (((repeat' refine And.intro ?_ ?_) <;> first | assumption | omega | (simp; done) | (simp; omega)); done) | (simp at *; omega)); (first | assumption | omega | (simp; done) | (simp; omega) | (((repeat' refine And.intro ?_ ?_) <;> first | assumption | omega | (simp; done) | (simp; omega)); done) | (simp at *; omega))) (k0 := ?_) | refine yC ?_|refine yQ ?_)|refine yE ?_)|(refine yG ?_;intro hgs;first|(replace hgs:=zgy hgs;first|(refine yB ?_;first|refine z_fnl subg_yes2 Tryz.func104 (hSp := by refine ⟨_, _, ⟨?_, ?_, ?_⟩, rfl, rfl, rfl⟩; (first | assumption | omega | (simp; done) | (simp; omega) | (((repeat' refine And.intro ?_ ?_) <;> first | assumption | omega | (simp; done) | (simp; omega)); done) | (simp at *; omega)); (first | assumption | omega | (simp; done) | (simp; omega) | (((repeat' refine And.intro ?_ ?_) <;> first | assumption | omega | (simp; done) | (simp; omega)); done) | (simp at *; omega)); (first | assumption | omega | (simp; done) | (simp; omega) | (((repeat' refine And.intro ?_ ?_) <;> first | assumption | omega | (simp; done) | (simp; omega)); done) | (simp at *; omega))) (k0 := ?_) | refine yC ?_|refine yQ ?_)|refine yY hgs ?_;clear hgs)|(refine yN (zgn hgs) ?_;clear hgs)|((fail_if_success have:=zgy hgs);refine z_spll hgs (h1:=?_) (h2:=?_)<;>clear hgs<;>intro hg hr<;>try first|contradiction|exfalso;omega))|refine yZ ?_|refine zst ?_|refine k_blk_other rfl ?_|(refine zk ?_ ?_<;>intro hc hr<;>try first|contradiction|exfalso;omega))
      all_goals first | (refine z_retB (hv := ?_) (ho := ?_) (hc := ?_) <;> first | rfl | (simp [go_sem, *]; done) | (simp_all; done) | (simp_all; omega)) | skip
    · repeat' (first|(refine ya ?_;first|(refine yb ?_;first|refine z_fn subg_yes2 Tryz.func104 (hSp := by refine ⟨_, _, ⟨?_, ?_, ?_⟩, rfl, rfl, rfl⟩; (first | assumption | omega | (simp; done) | (simp; omega) | (((repeat' refine And.intro ?_ ?_) <;> first | assumption | omega | (simp; done) | (simp; omega)); done) | (simp at *; omega)); (first | assumption | omega | (simp; done) | (simp; omega) | (((repeat' refine And.intro ?_ ?_) <;> first | assumption | omega | (simp; done) | (simp; omega)); done) | (simp at *; omega)); (first | assumption | omega | (simp; done) | (simp; omega) | (((repeat' refine And.intro ?_ ?_) <;> first | assumption | omega | (simp; done) | (simp; omega)); done) | (simp at *; omega))) (k0 := ?_) | refine yc ?_|refine yq ?_)|refine ye ?_)|(refine yg ?_;intro hgs;first|(replace hgs:=zgy hgs;first|(refine yb ?_;first|refine z_fn subg_yes2 Tryz.func104 (hSp := by refine ⟨_, _, ⟨?_, ?_, ?_⟩, rfl, rfl, rfl⟩; (first | assumption | omega | (simp; done) | (simp; omega) | (((repeat' refine And.intro ?_ ?_) <;> first | assumption | omega | (simp; done) | (simp; omega)); done) | (simp at *; omega)); (first | assumption | omega | (simp; done) | (simp; omega) | (((repeat' refine And.intro ?_ ?_) <;> first | assumption | omega | (simp; done) | (simp; omega)); done) | (simp at *; omega)); (first | assumption | omega | (simp; done) | (simp; omega) | (((repeat' refine And.intro ?_ ?_) <;> first | assumption | omega | (simp; done) | (simp; omega)); done) | (simp at *; omega))) (k0 := ?_) | refine yc ?_|refine yq ?_)|refine yy hgs ?_;clear hgs)|(refine yn (zgn hgs) ?_;clear hgs)|((fail_if_success have:=zgy hgs);refine z_spl hgs (h1:=?_) (h2:=?_)<;>clear hgs<;>intro hg hr<;>try first|contradiction|exfalso;omega))|refine yz ?_|(refine yA ?_;first|(refine yB ?_;first|refine z_fnl subg_yes2 Tryz.func104 (hSp := by refine ⟨_, _, ⟨?_, ?_, ?_⟩, rfl, rfl, rfl⟩; (first | assumption | omega | (simp; done) | (simp; omega) | (((repeat' refine And.intro ?_ ?_) <;> first | assumption | omega | (simp; done) | (simp; omega)); done) | (simp at *; omega)); (first | assumption | omega | (simp; done) | (simp; omega) | (((repeat' refine And.intro ?_ ?_) <;> first | assumption | omega | (simp; done) | (simp; omega)); done) | (simp at *; omega)); (first | assumption | omega | (simp; done) | (simp; omega) | (((repeat' refine And.intro ?_ ?_) <;> first | assumption | omega | (simp; done) | (simp; omega)); done) | (simp at *; omega))) (k0 := ?_) | refine yC ?_|refine yQ ?_)|refine yE ?_)|(refine yG ?_;intro hgs;first|(replace hgs:=zgy hgs;first|(refine yB ?_;first|refine z_fnl subg_yes2 Tryz.func104 (hSp := by refine ⟨_, _, ⟨?_, ?_, ?_⟩, rfl, rfl, rfl⟩; (first | assumption | omega | (simp; done) | (simp; omega) | (((repeat' refine And.intro ?_ ?_) <;> first | assumption | omega | (simp; done) | (simp; omega)); done) | (simp at *; omega)); (first | assumption | omega | (simp; done) | (simp; omega) | (((repeat' refine And.intro ?_ ?_) <;> first | assumption | omega | (simp; done) | (simp; omega)); done) | (simp at *; omega)); (first | assumption | omega | (simp; done) | (simp; omega) | (((repeat' refine And.intro ?_ ?_) <;> first | assumption | omega | (simp; done) | (simp; omega)); done) | (simp at *; omega))) (k0 := ?_) | refine yC ?_|refine yQ ?_)|refine yY hgs ?_;clear hgs)|(refine yN (zgn hgs) ?_;clear hgs)|((fail_if_success have:=zgy hgs);refine z_spll hgs (h1:=?_) (h2:=?_)<;>clear hgs<;>intro hg hr<;>try first|contradiction|exfalso;omega))|refine yZ ?_|refine zst ?_|refine k_blk_other rfl ?_|(refine zk ?_ ?_<;>intro hc hr<;>try first|contradiction|exfalso;omega))
      all_goals first | (refine z_retB (hv := ?_) (ho := ?_) (hc := ?_) <;> first | rfl | (simp [go_sem, *]; done) | (simp_all; done) | (simp_all; omega)) | skip
noncomputable def dII (cd : List Int) : Gr := if beV cd (l9C cd (nwC cd)) 10 = 0 then (l4A cd (beS cd (l9C cd (nwC cd)) 10)).1 else l9b cd (nwC cd)
theorem dII_es (cd : List Int) : (dII cd).es.length ≤ 1048576 := by
  unfold dII
  split
  · have := l4A_ok cd (beS cd (l9C cd (nwC cd)) 10); omega
  · exact l9b_es _ _
instance : ConB Tryz.prog 58 99 l9Two_sat_S := conB l9Two_sat Tryz.func58
def K_dII_sat : Nat → List Nat := fun i => ([[0, 2, 3], [2, 3, 4], [2, 3, 4, 5, 6], [2, 3, 4, 5, 6, 15], [2, 3], [2, 3]] : List (List Nat)).getD i []
attribute [go_sem] K_dII_sat
def dII_sat_S : Eng.Spec := fun args av objs => ∃ (cd : List Int), (cd.length ≤ 1048576) ∧ args = [.one (.imm 1 (bys cd))] ∧ av = .tup [gT (l9a cd (nwC cd)), .agg [.sc (.int (dII cd).r), .sc (.int (dII cd).z), .ref 1]] ∧ objs = [oE 42 (l9a cd (nwC cd)).es, oE 42 (dII cd).es]
theorem dII_sat : Sat Tryz.prog 8 dII_sat_S := by
  refine sat_of tok okr mixed K_dII_sat Tryz.func8 rfl (rs := [.cell 2 26, .cell 3 26]) rfl Tryz.ntmps8 ?_
  rintro args av objs ⟨cd, hpre, rfl, rfl, rfl⟩
  refine ⟨by show 1 ≤ 21; decide, ?_⟩
  by_cases k0 : beV cd (l9C cd (nwC cd)) 10 = 0
  · have e : dII cd = (l4A cd (beS cd (l9C cd (nwC cd)) 10)).1 := by unfold dII; rw [if_pos k0]
    rw [e]
    repeat' (first|(refine ya ?_;first|(refine yb ?_;first|refine yq ?_|refine ym ?_)|refine ye ?_)|refine yz ?_|(refine yA ?_;first|(refine yB ?_;first|refine yQ ?_|refine yM ?_)|refine yE ?_)|refine yZ ?_|refine zst ?_|refine k_blk_other rfl ?_|(refine zk ?_ ?_<;>intro hc hr<;>try first|contradiction|exfalso;omega))
    all_goals first | (refine z_ret (hv := ?_) (ho := ?_) <;> first | rfl | (simp [go_sem, *]; done) | (simp_all; done) | (simp_all; omega)) | skip
  · have e : dII cd = l9b cd (nwC cd) := by unfold dII; rw [if_neg k0]
    rw [e]
    repeat' (first|(refine ya ?_;first|(refine yb ?_;first|refine yq ?_|refine ym ?_)|refine ye ?_)|refine yz ?_|(refine yA ?_;first|(refine yB ?_;first|refine yQ ?_|refine yM ?_)|refine yE ?_)|refine yZ ?_|refine zst ?_|refine k_blk_other rfl ?_|(refine zk ?_ ?_<;>intro hc hr<;>try first|contradiction|exfalso;omega))
    all_goals first | (refine z_ret (hv := ?_) (ho := ?_) <;> first | rfl | (simp [go_sem, *]; done) | (simp_all; done) | (simp_all; omega)) | skip
instance : Con Tryz.prog 8 dII_sat_S := con dII_sat Tryz.func8
end Go.Proofs.Tryz
