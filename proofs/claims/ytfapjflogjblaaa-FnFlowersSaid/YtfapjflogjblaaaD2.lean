import Derived.Test.YtfapjflogjblaaaD1
import Derived.Test.YtfapjflogjblaaaC
import Derived.Test.YtfapjflogjblaaaA
set_option linter.unusedVariables false
set_option linter.unusedSimpArgs false
set_option linter.unnecessarySimpa false
/- The specification's draws: graphs. -/
namespace Go.Proofs.Try
open Go Go.Eng
set_option linter.unnecessarySimpa false
set_option linter.unusedSimpArgs false
set_option maxHeartbeats 4000000
set_option maxRecDepth 20000
def adC (g : Gr) (e : Ed) : Bool := isG g.r g.z g.es && (edOk g.r g.z e && decide (g.es.length < 120))
def adE (g : Gr) (e : Ed) : Gr := if adC g e = true then ⟨g.r, g.z, put g.es e⟩ else g
def adB (g : Gr) (e : Ed) : Bool := adC g e && decide (g.es.length < (put g.es e).length)
theorem put_le (es : List Ed) (e : Ed) : (put es e).length ≤ 2 * es.length + 1 := by
  have := putN_len es e es.length (Nat.le_refl _)
  unfold put
  split
  · omega
  · simp; omega
theorem adE_r (g : Gr) (e : Ed) : (adE g e).r = g.r := by unfold adE; split <;> rfl
theorem adE_z (g : Gr) (e : Ed) : (adE g e).z = g.z := by unfold adE; split <;> rfl
theorem adE_es (g : Gr) (e : Ed) (h : g.es.length ≤ 240) : (adE g e).es.length ≤ 240 := by
  unfold adE
  split
  · rename_i hc
    simp only [adC, Bool.and_eq_true, decide_eq_true_eq] at hc
    have := put_le g.es e
    simp only; omega
  · exact h
def K_addE_sat : Nat → List Nat := fun i => ([[2, 3, 4], [2, 3, 4, 6], [2, 3, 4, 6, 23], [4, 5], [2, 4, 6], [4, 5]] : List (List Nat)).getD i []
attribute [go_sem] K_addE_sat
def addE_sat_S : Eng.Spec := fun args av objs => ∃ (r z : Int) (es : List Ed) (a b c : Int), (es.length ≤ 1048576) ∧ args = [grA r z es, .agg [.sc (.int a), .sc (.int b), .sc (.int c)]] ∧ av = .tup [gT (adE ⟨r, z, es⟩ (a, b, c)), aB (adB ⟨r, z, es⟩ (a, b, c))] ∧ objs = [oE 56 (adE ⟨r, z, es⟩ (a, b, c)).es]
theorem addE_sat : Sat Try.prog 82 addE_sat_S := by
  refine sat_of tok okr mixed K_addE_sat Try.func82 rfl (rs := [.cell 4 29, .tmp 5]) rfl Try.ntmps82 ?_
  rintro args av objs ⟨r, z, es, a, b, c, hpre, rfl, rfl, rfl⟩
  refine ⟨by show 2 ≤ 38; decide, ?_⟩
  have hno : adC ⟨r, z, es⟩ (a, b, c) = false → adE ⟨r, z, es⟩ (a, b, c) = ⟨r, z, es⟩ ∧ adB ⟨r, z, es⟩ (a, b, c) = false := fun h => ⟨by unfold adE; rw [h]; rfl, by unfold adB; rw [h]; rfl⟩
  have hyes : adC ⟨r, z, es⟩ (a, b, c) = true → adE ⟨r, z, es⟩ (a, b, c) = ⟨r, z, put es (a, b, c)⟩ ∧ adB ⟨r, z, es⟩ (a, b, c) = decide (es.length < (put es (a, b, c)).length) := fun h => ⟨by unfold adE; rw [h]; rfl, by unfold adB; rw [h]; rfl⟩
  cases h1 : isG r z es
  · obtain ⟨e1, e2⟩ := hno (by simp [adC, h1])
    rw [e1, e2]
    clear hno hyes
    repeat' (first|(refine ya ?_;first|(refine yb ?_;first|refine yc ?_)|refine ye ?_)|(refine yg ?_;intro hgs;first|(replace hgs:=zgy hgs;first|(refine yb ?_;first|refine yc ?_)|refine yy hgs ?_;clear hgs)|(refine yn (zgn hgs) ?_;clear hgs)|((fail_if_success have:=zgy hgs);refine z_spl hgs (h1:=?_) (h2:=?_)<;>clear hgs<;>intro hg hr<;>try first|contradiction|exfalso;omega))|refine yz ?_|(refine yA ?_;first|(refine yB ?_;first|refine yC ?_)|refine yE ?_)|(refine yG ?_;intro hgs;first|(replace hgs:=zgy hgs;first|(refine yB ?_;first|refine yC ?_)|refine yY hgs ?_;clear hgs)|(refine yN (zgn hgs) ?_;clear hgs)|((fail_if_success have:=zgy hgs);refine z_spll hgs (h1:=?_) (h2:=?_)<;>clear hgs<;>intro hg hr<;>try first|contradiction|exfalso;omega))|refine yZ ?_|refine zst ?_|refine k_blk_other rfl ?_|(refine zk ?_ ?_<;>intro hc hr<;>try first|contradiction|exfalso;omega))
    all_goals first | (refine z_ret (hv := ?_) (ho := ?_) <;> first | rfl | (simp [go_sem, *]; done) | (simp_all; done) | (simp_all; omega)) | skip
  · cases h2 : edOk r z (a, b, c)
    · obtain ⟨e1, e2⟩ := hno (by simp [adC, h2])
      rw [e1, e2]
      clear hno hyes
      repeat' (first|(refine ya ?_;first|(refine yb ?_;first|refine yc ?_)|refine ye ?_)|(refine yg ?_;intro hgs;first|(replace hgs:=zgy hgs;first|(refine yb ?_;first|refine yc ?_)|refine yy hgs ?_;clear hgs)|(refine yn (zgn hgs) ?_;clear hgs)|((fail_if_success have:=zgy hgs);refine z_spl hgs (h1:=?_) (h2:=?_)<;>clear hgs<;>intro hg hr<;>try first|contradiction|exfalso;omega))|refine yz ?_|(refine yA ?_;first|(refine yB ?_;first|refine yC ?_)|refine yE ?_)|(refine yG ?_;intro hgs;first|(replace hgs:=zgy hgs;first|(refine yB ?_;first|refine yC ?_)|refine yY hgs ?_;clear hgs)|(refine yN (zgn hgs) ?_;clear hgs)|((fail_if_success have:=zgy hgs);refine z_spll hgs (h1:=?_) (h2:=?_)<;>clear hgs<;>intro hg hr<;>try first|contradiction|exfalso;omega))|refine yZ ?_|refine zst ?_|refine k_blk_other rfl ?_|(refine zk ?_ ?_<;>intro hc hr<;>try first|contradiction|exfalso;omega))
      all_goals first | (refine z_ret (hv := ?_) (ho := ?_) <;> first | rfl | (simp [go_sem, *]; done) | (simp_all; done) | (simp_all; omega)) | skip
    · by_cases h3 : es.length < 120
      · obtain ⟨e1, e2⟩ := hyes (by simp [adC, h1, h2, h3])
        have h4 : (es.length : Int) < 120 := by omega
        rw [e1, e2]
        clear hno hyes
        repeat' (first|(refine ya ?_;first|(refine yb ?_;first|refine yc ?_)|refine ye ?_)|(refine yg ?_;intro hgs;first|(replace hgs:=zgy hgs;first|(refine yb ?_;first|refine yc ?_)|refine yy hgs ?_;clear hgs)|(refine yn (zgn hgs) ?_;clear hgs)|((fail_if_success have:=zgy hgs);refine z_spl hgs (h1:=?_) (h2:=?_)<;>clear hgs<;>intro hg hr<;>try first|contradiction|exfalso;omega))|refine yz ?_|(refine yA ?_;first|(refine yB ?_;first|refine yC ?_)|refine yE ?_)|(refine yG ?_;intro hgs;first|(replace hgs:=zgy hgs;first|(refine yB ?_;first|refine yC ?_)|refine yY hgs ?_;clear hgs)|(refine yN (zgn hgs) ?_;clear hgs)|((fail_if_success have:=zgy hgs);refine z_spll hgs (h1:=?_) (h2:=?_)<;>clear hgs<;>intro hg hr<;>try first|contradiction|exfalso;omega))|refine yZ ?_|refine zst ?_|refine k_blk_other rfl ?_|(refine zk ?_ ?_<;>intro hc hr<;>try first|contradiction|exfalso;omega))
        all_goals first | (refine z_ret (hv := ?_) (ho := ?_) <;> first | rfl | (simp [go_sem, *]; done) | (simp_all; done) | (simp_all; omega)) | skip
      · obtain ⟨e1, e2⟩ := hno (by simp [adC, h3])
        rw [e1, e2]
        clear hno hyes
        repeat' (first|(refine ya ?_;first|(refine yb ?_;first|refine yc ?_)|refine ye ?_)|(refine yg ?_;intro hgs;first|(replace hgs:=zgy hgs;first|(refine yb ?_;first|refine yc ?_)|refine yy hgs ?_;clear hgs)|(refine yn (zgn hgs) ?_;clear hgs)|((fail_if_success have:=zgy hgs);refine z_spl hgs (h1:=?_) (h2:=?_)<;>clear hgs<;>intro hg hr<;>try first|contradiction|exfalso;omega))|refine yz ?_|(refine yA ?_;first|(refine yB ?_;first|refine yC ?_)|refine yE ?_)|(refine yG ?_;intro hgs;first|(replace hgs:=zgy hgs;first|(refine yB ?_;first|refine yC ?_)|refine yY hgs ?_;clear hgs)|(refine yN (zgn hgs) ?_;clear hgs)|((fail_if_success have:=zgy hgs);refine z_spll hgs (h1:=?_) (h2:=?_)<;>clear hgs<;>intro hg hr<;>try first|contradiction|exfalso;omega))|refine yZ ?_|refine zst ?_|refine k_blk_other rfl ?_|(refine zk ?_ ?_<;>intro hc hr<;>try first|contradiction|exfalso;omega))
        all_goals first | (refine z_ret (hv := ?_) (ho := ?_) <;> first | rfl | (simp [go_sem, *]; done) | (simp_all; done) | (simp_all; omega)) | skip
def l4E (cd : List Int) (g : Gr) (c : Cu) : Gr × Cu :=
  (adE g (beV cd c g.z, 1 + beV cd (beS cd c g.z) g.r, beV cd (beS cd (beS cd c g.z) g.r) g.z), beS cd (beS cd (beS cd c g.z) g.r) g.z)
def l4N (cd : List Int) (g : Gr) (c : Cu) : Nat → Gr × Cu
  | 0 => (g, c)
  | i + 1 => l4E cd (l4N cd g c i).1 (l4N cd g c i).2
theorem l4N_ok (cd : List Int) (g : Gr) (c : Cu) (h : g.es.length ≤ 240) : ∀ i, (l4N cd g c i).1.r = g.r ∧ (l4N cd g c i).1.z = g.z ∧ (l4N cd g c i).1.es.length ≤ 240
  | 0 => ⟨rfl, rfl, h⟩
  | i + 1 => by
    obtain ⟨h1, h2, h3⟩ := l4N_ok cd g c h i
    exact ⟨(adE_r _ _).trans h1, (adE_z _ _).trans h2, adE_es _ _ h3⟩
def l4S (cd : List Int) (cu : Cu) : Gr := ⟨elI [[.int 1], [.int 2], [.int 2], [.int 2], [.int 3]] (beV cd cu 5).toNat, 1 + beV cd (beS cd cu 5) 5, []⟩
def l4G (cd : List Int) (cu : Cu) : Gr × Cu := l4N cd (l4S cd cu) (beS cd (beS cd (beS cd cu 5) 5) 9) (beV cd (beS cd (beS cd cu 5) 5) 9).toNat
theorem pick5 {n : Int} (h : 0 ≤ n ∧ n < 5) : 1 ≤ elI [[.int 1], [.int 2], [.int 2], [.int 2], [.int 3]] n.toNat ∧ elI [[.int 1], [.int 2], [.int 2], [.int 2], [.int 3]] n.toNat ≤ 3 := by
  have : n.toNat = 0 ∨ n.toNat = 1 ∨ n.toNat = 2 ∨ n.toNat = 3 ∨ n.toNat = 4 := by omega
  rcases this with h | h | h | h | h <;> rw [h] <;> decide
theorem l4S_ok (cd : List Int) (cu : Cu) : 1 ≤ (l4S cd cu).r ∧ (l4S cd cu).r ≤ 3 ∧ 1 ≤ (l4S cd cu).z ∧ (l4S cd cu).z ≤ 5 := by
  have h1 := pick5 (beV_rg cd cu (n := 5) (by decide))
  have h2 := beV_rg cd (beS cd cu 5) (n := 5) (by decide)
  exact ⟨h1.1, h1.2, by show 1 ≤ 1 + beV cd (beS cd cu 5) 5; omega, by show 1 + beV cd (beS cd cu 5) 5 ≤ 5; omega⟩
theorem l4G_ok (cd : List Int) (cu : Cu) : 1 ≤ (l4G cd cu).1.r ∧ (l4G cd cu).1.r ≤ 3 ∧ 1 ≤ (l4G cd cu).1.z ∧ (l4G cd cu).1.z ≤ 5 ∧ (l4G cd cu).1.es.length ≤ 240 := by
  obtain ⟨h1, h2, h3⟩ := l4N_ok cd (l4S cd cu) (beS cd (beS cd (beS cd cu 5) 5) 9) (by simp [l4S]) (beV cd (beS cd (beS cd cu 5) 5) 9).toNat
  have h4 := l4S_ok cd cu
  unfold l4G
  rw [h1, h2]
  exact ⟨h4.1, h4.2.1, h4.2.2.1, h4.2.2.2, h3⟩
instance : Con Try.prog 82 addE_sat_S := con addE_sat Try.func82
def K_l4G_sat : Nat → List Nat := fun i => ([[0, 2], [0, 2, 3], [0, 2, 3, 4], [0, 2, 3, 4, 16], [0, 2, 3, 4], [0, 2, 3, 4, 5], [0, 2, 3, 4], [2]] : List (List Nat)).getD i []
attribute [go_sem] K_l4G_sat
def l4G_sat_S : SpecB := fun args bs i h av objs i' h' => ∃ (cd : List Int) (cu : Cu) , (cd.length ≤ 1048576) ∧ args = [aC] ∧ bs = bys cd ∧ i = (cu.p : Int) ∧ h = cu.q ∧ av = gT (l4G cd cu).1 ∧ objs = [oE 56 (l4G cd cu).1.es] ∧ i' = (((l4G cd cu).2).p : Int) ∧ h' = ((l4G cd cu).2).q
theorem l4G_sat : SatB Try.prog 70 83 l4G_sat_S := by
  refine satB_of tok okr mixed K_l4G_sat Try.func70 rfl (rs := [.cell 2 29]) rfl Try.ntmps70 ?_
  rintro args bs i h av objs i' h' ⟨cd, cu, hpre, rfl, rfl, rfl, rfl, rfl, rfl, rfl, rfl⟩
  refine ⟨by show 1 ≤ 40; decide, fun u S W pv => ?_⟩
  have h0 := beV_rg cd cu (n := 5) (by decide)
  have h1 := beV_rg cd (beS cd cu 5) (n := 5) (by decide)
  have h2 := beV_rg cd (beS cd (beS cd cu 5) 5) (n := 9) (by decide)
  have hS := l4S_ok cd cu
  unfold l4G
  obtain ⟨m, hm⟩ : ∃ m : Nat, (m : Int) = beV cd (beS cd (beS cd cu 5) 5) 9 := ⟨_, Int.toNat_of_nonneg h2.1⟩
  have hmn : (beV cd (beS cd (beS cd cu 5) 5) 9).toNat = m := by omega
  rw [hmn]
  repeat' (first|(refine ya ?_;first|(refine yb ?_;first|refine yc ?_|refine yq ?_)|refine ye ?_)|refine yz ?_|(refine yA ?_;first|(refine yB ?_;first|refine yC ?_|refine yQ ?_)|refine yE ?_)|refine yZ ?_|refine zst ?_|refine k_blk_other rfl ?_|(refine zk ?_ ?_<;>intro hc hr<;>try first|contradiction|exfalso;omega))
  refine z_loop (fun i : Nat => [(4, aI ((m : Int) - i))]) (fun i : Nat => [.cell 3 0 (.sc (.int (l4N cd (l4S cd cu) (beS cd (beS cd (beS cd cu 5) 5) 9) i).1.r)), .cell 3 1 (.sc (.int (l4N cd (l4S cd cu) (beS cd (beS cd (beS cd cu 5) 5) 9) i).1.z)), .cell 3 2 (.ref 900), .inner 3 (oE 56 (l4N cd (l4S cd cu) (beS cd (beS cd (beS cd cu 5) 5) 9) i).1.es), .cell 0 1 (.sc (.int ((l4N cd (l4S cd cu) (beS cd (beS cd (beS cd cu 5) 5) 9) i).2.p : Int))), .cell 0 2 (.sc (.int (l4N cd (l4S cd cu) (beS cd (beS cd (beS cd cu 5) 5) 9) i).2.q))]) (fun i : Nat => i ≤ m) (fun i : Nat => m - i) (0) (h0 := ?_) (henv := ?_) (hobj := ?_) (h := ?_)
  · omega
  · simp [go_sem, AVm, CVm, lookS, l4N, l4S, hm, edsNil]
  · simp [go_sem, OBm, CVm, lookS, All2, l4N, l4S, hm, edsNil]
  intro i hi
  obtain ⟨h3, h4, h5⟩ := l4N_ok cd (l4S cd cu) (beS cd (beS cd (beS cd cu 5) 5) 9) (by simp [l4S]) i
  have hn : l4N cd (l4S cd cu) (beS cd (beS cd (beS cd cu 5) 5) 9) (i + 1) = l4E cd (l4N cd (l4S cd cu) (beS cd (beS cd (beS cd cu 5) 5) 9) i).1 (l4N cd (l4S cd cu) (beS cd (beS cd (beS cd cu 5) 5) 9) i).2 := rfl
  rw [← h3, ← h4] at hS
  have hM : m ≤ 8 := by omega
  generalize hT : l4N cd (l4S cd cu) (beS cd (beS cd (beS cd cu 5) 5) 9) i = t at *
  obtain ⟨⟨r, z, es⟩, c⟩ := t
  simp only at h5 hn hS ⊢
  clear h0 h1 h2 h3 h4
  rcases Nat.lt_or_ge i m with hlt | hge
  · unfold l4E at hn
    simp only at hn
    have hb := beV_rg cd (beS cd c z) (n := r) (by omega)
    have hm8 : m ≤ 8 := hM
    clear hm hmn hM
    repeat' (first|(refine ya ?_;first|(refine yb ?_;first|refine yc ?_|refine yq ?_)|refine ye ?_)|refine yz ?_|(refine yA ?_;first|(refine yB ?_;first|refine yC ?_|refine yQ ?_)|refine yE ?_)|refine yZ ?_|refine zst ?_|refine k_blk_other rfl ?_|(refine zk ?_ ?_<;>intro hc hr<;>try first|contradiction|exfalso;omega))
    (refine z_lop (i + 1) (hj := ?_) (hmu := ?_) (henv := ?_) (hobj := ?_); (· omega); (· first | omega | (simp only; omega)); (· first | (simp [go_sem, AVm, CVm, lookS, hn, *]; done) | (simp [go_sem, AVm, CVm, lookS, hn, *] <;> (repeat' split) <;> first | omega | (simp_all; done) | (exfalso; omega) | (simp_all; omega))); (· first | (simp [go_sem, OBm, CVm, All2, lookS, hn, *]; done) | (simp [go_sem, OBm, CVm, All2, lookS, hn, *] <;> (repeat' split) <;> first | omega | (simp_all; done) | (exfalso; omega) | (simp_all; omega))))
  · have hii : i = m := by omega
    subst hii
    rw [hT]
    clear hm hmn
    repeat' (first|(refine ya ?_;first|(refine yb ?_;first|refine yc ?_|refine yq ?_)|refine ye ?_)|refine yz ?_|(refine yA ?_;first|(refine yB ?_;first|refine yC ?_|refine yQ ?_)|refine yE ?_)|refine yZ ?_|refine zst ?_|refine k_blk_other rfl ?_|(refine zk ?_ ?_<;>intro hc hr<;>try first|contradiction|exfalso;omega))
    all_goals first | (refine z_retB (hv := ?_) (ho := ?_) (hc := ?_) <;> first | rfl | (simp [go_sem, *]; done) | (simp_all; done) | (simp_all; omega)) | skip
instance : ConB Try.prog 70 83 l4G_sat_S := conB l4G_sat Try.func70
end Go.Proofs.Try
