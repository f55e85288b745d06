import Derived.Test.YtdhnpicnaajdfaaV6
set_option linter.unusedVariables false
set_option linter.unusedSimpArgs false
set_option linter.unnecessarySimpa false
namespace Go.Proofs.Try
open Go Go.Eng
set_option linter.unnecessarySimpa false
set_option linter.unusedSimpArgs false
set_option maxHeartbeats 4000000
attribute [go_sem] eqScs TI.allInt
def K_replay_sat2 : Nat → List Nat := fun i => ([[1, 2, 4], [1, 2, 4, 6], [1, 2, 4, 6, 7], [1, 2, 4, 6, 7, 18], [1, 2, 4, 6, 7], [1, 2, 4, 6, 7, 8], [1, 2, 4, 6, 7, 8, 9], [1, 2, 4, 6, 7, 8, 9, 10], [1, 2, 4, 6, 7, 8, 9, 10, 26], [1, 2, 4, 6, 7, 8, 9, 10], [1, 2, 4, 6, 7, 8, 9, 10], [1, 2, 4, 6, 7, 8, 11, 12], [1, 2, 4, 6, 7, 11, 55], [4, 5], [1, 2, 4, 6, 7], [4, 5]] : List (List Nat)).getD i []
attribute [go_sem] K_replay_sat2
def replay_sat2_S : Eng.Spec := fun args av objs => ∃ (r z : Int) (es : List Ed) (l : List Fd), (es.length ≤ 1048576 ∧ l.length ≤ 1099511627776) ∧ args = [grA r z es, aF l] ∧ av = .tup [gT (rep ⟨r, z, es⟩ l), aB (repAll ⟨r, z, es⟩ l)] ∧ objs = [oE 73 (rep ⟨r, z, es⟩ l).es]
theorem replay_sat2 : Sat Try.prog 23 replay_sat2_S := by
  refine sat_of tok okr mixed K_replay_sat2 Try.func23 rfl (rs := [.cell 4 26, .tmp 5]) rfl Try.ntmps23 ?_
  rintro args av objs ⟨r, z, es, l, hpre, rfl, rfl, rfl⟩
  refine ⟨by show 2 ≤ 62; decide, ?_⟩
  cases hok : isG r z es
  · obtain ⟨e1, e2⟩ := rep_no (g := ⟨r, z, es⟩) (l := l) hok
    rw [e1, e2]
    have hfl := foldsOf_lenG es
    have hfl2 : es.length * es.length ≤ 1048576 * 1048576 := Nat.mul_le_mul hpre.1 hpre.1
    have hfl3 : (foldsOf es).length ≤ 1099511627776 := by omega
    clear hfl hfl2
    repeat' (first|(refine ya ?_;first|(refine yb ?_;first|refine yc ?_)|refine ye ?_)|(refine yg ?_;intro hgs;first|(replace hgs:=zgy hgs;first|(refine yb ?_;first|refine yc ?_)|refine yy hgs ?_;clear hgs)|(refine yn (zgn hgs) ?_;clear hgs)|((fail_if_success have:=zgy hgs);refine z_spl hgs (h1:=?_) (h2:=?_)<;>clear hgs<;>intro hg hr<;>try first|contradiction|exfalso;omega))|refine yz ?_|(refine yA ?_;first|(refine yB ?_;first|refine yC ?_)|refine yE ?_)|(refine yG ?_;intro hgs;first|(replace hgs:=zgy hgs;first|(refine yB ?_;first|refine yC ?_)|refine yY hgs ?_;clear hgs)|(refine yN (zgn hgs) ?_;clear hgs)|((fail_if_success have:=zgy hgs);refine z_spll hgs (h1:=?_) (h2:=?_)<;>clear hgs<;>intro hg hr<;>try first|contradiction|exfalso;omega))|refine yZ ?_|refine zst ?_|refine k_blk_other rfl ?_|(refine zk ?_ ?_<;>intro hc hr<;>try first|contradiction|exfalso;omega))
    refine z_loop (fun i : Nat => [(7, aI i)]) (fun i : Nat => []) (fun i : Nat => True) (fun i : Nat => 0) (0) (h0 := ?_) (henv := ?_) (hobj := ?_) (h := ?_)
    · trivial
    · simp [go_sem, AVm, CVm, lookS]
    · simp [go_sem, OBm, CVm, lookS, All2]
    intro i _
    repeat' (first|(refine ya ?_;first|(refine yb ?_;first|refine yc ?_)|refine ye ?_)|(refine yg ?_;intro hgs;first|(replace hgs:=zgy hgs;first|(refine yb ?_;first|refine yc ?_)|refine yy hgs ?_;clear hgs)|(refine yn (zgn hgs) ?_;clear hgs)|((fail_if_success have:=zgy hgs);refine z_spl hgs (h1:=?_) (h2:=?_)<;>clear hgs<;>intro hg hr<;>try first|contradiction|exfalso;omega))|refine yz ?_|(refine yA ?_;first|(refine yB ?_;first|refine yC ?_)|refine yE ?_)|(refine yG ?_;intro hgs;first|(replace hgs:=zgy hgs;first|(refine yB ?_;first|refine yC ?_)|refine yY hgs ?_;clear hgs)|(refine yN (zgn hgs) ?_;clear hgs)|((fail_if_success have:=zgy hgs);refine z_spll hgs (h1:=?_) (h2:=?_)<;>clear hgs<;>intro hg hr<;>try first|contradiction|exfalso;omega))|refine yZ ?_|refine zst ?_|refine k_blk_other rfl ?_|(refine zk ?_ ?_<;>intro hc hr<;>try first|contradiction|exfalso;omega))
    · generalize foldsOf es = F at hfl3 ⊢
      refine z_loop (fun j : Nat × Bool => [(8, aB j.2), (10, aI j.1)]) (fun j : Nat × Bool => []) (fun j : Nat × Bool => j.1 ≤ F.length) (fun j : Nat × Bool => F.length - j.1) ((0, false)) (h0 := ?_) (henv := ?_) (hobj := ?_) (h := ?_)
      · omega
      · simp [go_sem, AVm, CVm, lookS]
      · simp [go_sem, OBm, CVm, lookS, All2]
      rintro ⟨j, b⟩ hj
      simp only at hj ⊢
      have hfi : merge ⟨r, z, es⟩ (fd l i).1 (fd l i).2 = ⟨r, z, es⟩ ∧ mergeOk ⟨r, z, es⟩ (fd l i).1 (fd l i).2 = false := by
        have : mergeOk ⟨r, z, es⟩ (fd l i).1 (fd l i).2 = false := by simp [mergeOk, Gr.ok, hok]
        exact ⟨merge_no this, this⟩
      obtain ⟨hf1, hf2⟩ := hfi
      repeat' (first|(refine ya ?_;first|(refine yb ?_;first|refine yc ?_)|refine ye ?_)|(refine yg ?_;intro hgs;first|(replace hgs:=zgy hgs;first|(refine yb ?_;first|refine yc ?_)|refine yy hgs ?_;clear hgs)|(refine yn (zgn hgs) ?_;clear hgs)|((fail_if_success have:=zgy hgs);refine z_spl hgs (h1:=?_) (h2:=?_)<;>clear hgs<;>intro hg hr<;>try first|contradiction|exfalso;omega))|refine yz ?_|(refine yA ?_;first|(refine yB ?_;first|refine yC ?_)|refine yE ?_)|(refine yG ?_;intro hgs;first|(replace hgs:=zgy hgs;first|(refine yB ?_;first|refine yC ?_)|refine yY hgs ?_;clear hgs)|(refine yN (zgn hgs) ?_;clear hgs)|((fail_if_success have:=zgy hgs);refine z_spll hgs (h1:=?_) (h2:=?_)<;>clear hgs<;>intro hg hr<;>try first|contradiction|exfalso;omega))|refine yZ ?_|refine zst ?_|refine k_blk_other rfl ?_|(refine zk ?_ ?_<;>intro hc hr<;>try first|contradiction|exfalso;omega))
      · exact zl ((j + 1, true))
      · exact zl ((j + 1, (b || (fd F j).1 == (fd l i).1 && (fd F j).2 == (fd l i).2)))
      · all_goals first | (refine z_ret (hv := ?_) (ho := ?_) <;> first | rfl | (simp [go_sem, *]; done) | (simp_all; done) | (simp_all; omega)) | skip
    · all_goals first | (refine z_ret (hv := ?_) (ho := ?_) <;> first | rfl | (simp [go_sem, *]; done) | (simp_all; done) | (simp_all; omega)) | skip
  · have hg : (⟨r, z, es⟩ : Gr).ok = true := hok
    repeat' (first|(refine ya ?_;first|(refine yb ?_;first|refine yc ?_)|refine ye ?_)|(refine yg ?_;intro hgs;first|(replace hgs:=zgy hgs;first|(refine yb ?_;first|refine yc ?_)|refine yy hgs ?_;clear hgs)|(refine yn (zgn hgs) ?_;clear hgs)|((fail_if_success have:=zgy hgs);refine z_spl hgs (h1:=?_) (h2:=?_)<;>clear hgs<;>intro hg hr<;>try first|contradiction|exfalso;omega))|refine yz ?_|(refine yA ?_;first|(refine yB ?_;first|refine yC ?_)|refine yE ?_)|(refine yG ?_;intro hgs;first|(replace hgs:=zgy hgs;first|(refine yB ?_;first|refine yC ?_)|refine yY hgs ?_;clear hgs)|(refine yN (zgn hgs) ?_;clear hgs)|((fail_if_success have:=zgy hgs);refine z_spll hgs (h1:=?_) (h2:=?_)<;>clear hgs<;>intro hg hr<;>try first|contradiction|exfalso;omega))|refine yZ ?_|refine zst ?_|refine k_blk_other rfl ?_|(refine zk ?_ ?_<;>intro hc hr<;>try first|contradiction|exfalso;omega))
    refine z_loop (fun i : Nat => [(7, aI i)]) (fun i : Nat => [.cell 6 0 (.sc (.int (repN ⟨r, z, es⟩ l i).r)), .cell 6 1 (.sc (.int (repN ⟨r, z, es⟩ l i).z)), .inner 6 (oE 73 (repN ⟨r, z, es⟩ l i).es)]) (fun i : Nat => i ≤ l.length ∧ repOk ⟨r, z, es⟩ l i = true) (fun i : Nat => l.length - i) (0) (h0 := ?_) (henv := ?_) (hobj := ?_) (h := ?_)
    · exact ⟨by omega, rfl⟩
    · simp [go_sem, AVm, CVm, lookS, repN]
    · simp [go_sem, OBm, CVm, lookS, All2, repN]
    rintro i ⟨hi, hro⟩
    have h1 := repN_ok hg i hro
    have hz := ok_z h1
    have hfl := foldsOf_len hz.2.2.1
    repeat' (first|(refine ya ?_;first|(refine yb ?_;first|refine yc ?_)|refine ye ?_)|(refine yg ?_;intro hgs;first|(replace hgs:=zgy hgs;first|(refine yb ?_;first|refine yc ?_)|refine yy hgs ?_;clear hgs)|(refine yn (zgn hgs) ?_;clear hgs)|((fail_if_success have:=zgy hgs);refine z_spl hgs (h1:=?_) (h2:=?_)<;>clear hgs<;>intro hg hr<;>try first|contradiction|exfalso;omega))|refine yz ?_|(refine yA ?_;first|(refine yB ?_;first|refine yC ?_)|refine yE ?_)|(refine yG ?_;intro hgs;first|(replace hgs:=zgy hgs;first|(refine yB ?_;first|refine yC ?_)|refine yY hgs ?_;clear hgs)|(refine yN (zgn hgs) ?_;clear hgs)|((fail_if_success have:=zgy hgs);refine z_spll hgs (h1:=?_) (h2:=?_)<;>clear hgs<;>intro hg hr<;>try first|contradiction|exfalso;omega))|refine yZ ?_|refine zst ?_|refine k_blk_other rfl ?_|(refine zk ?_ ?_<;>intro hc hr<;>try first|contradiction|exfalso;omega))
    · refine z_loop (fun j : Nat => [(8, aB (inN (foldsOf (repN ⟨r, z, es⟩ l i).es) (fd l i) j)), (10, aI j)]) (fun j : Nat => []) (fun j : Nat => j ≤ (foldsOf (repN ⟨r, z, es⟩ l i).es).length) (fun j : Nat => (foldsOf (repN ⟨r, z, es⟩ l i).es).length - j) (0) (h0 := ?_) (henv := ?_) (hobj := ?_) (h := ?_)
      · omega
      · simp [go_sem, AVm, CVm, lookS, inN_0]
      · simp [go_sem, OBm, CVm, lookS, All2, inN_0]
      intro j hj
      rcases Nat.lt_or_ge j (foldsOf (repN ⟨r, z, es⟩ l i).es).length with hjl | hjl
      · have hin := inN_succ (f := fd l i) hjl
        have hd : decide (fd (foldsOf (repN ⟨r, z, es⟩ l i).es) j = fd l i) = ((fd (foldsOf (repN ⟨r, z, es⟩ l i).es) j).1 == (fd l i).1 && (fd (foldsOf (repN ⟨r, z, es⟩ l i).es) j).2 == (fd l i).2) := by
          rw [Bool.eq_iff_iff]
          simp [Prod.ext_iff]
        repeat' (first|(refine ya ?_;first|(refine yb ?_;first|refine yc ?_)|refine ye ?_)|(refine yg ?_;intro hgs;first|(replace hgs:=zgy hgs;first|(refine yb ?_;first|refine yc ?_)|refine yy hgs ?_;clear hgs)|(refine yn (zgn hgs) ?_;clear hgs)|((fail_if_success have:=zgy hgs);refine z_spl hgs (h1:=?_) (h2:=?_)<;>clear hgs<;>intro hg hr<;>try first|contradiction|exfalso;omega))|refine yz ?_|(refine yA ?_;first|(refine yB ?_;first|refine yC ?_)|refine yE ?_)|(refine yG ?_;intro hgs;first|(replace hgs:=zgy hgs;first|(refine yB ?_;first|refine yC ?_)|refine yY hgs ?_;clear hgs)|(refine yN (zgn hgs) ?_;clear hgs)|((fail_if_success have:=zgy hgs);refine z_spll hgs (h1:=?_) (h2:=?_)<;>clear hgs<;>intro hg hr<;>try first|contradiction|exfalso;omega))|refine yZ ?_|refine zst ?_|refine k_blk_other rfl ?_|(refine zk ?_ ?_<;>intro hc hr<;>try first|contradiction|exfalso;omega))
        · (refine z_lop (j + 1) (hj := ?_) (hmu := ?_) (henv := ?_) (hobj := ?_); (· omega); (· first | omega | (simp only; omega)); (· first | (simp [go_sem, AVm, CVm, lookS, hin, *]; done) | (simp [go_sem, AVm, CVm, lookS, hin, *] <;> (repeat' split) <;> first | omega | (simp_all; done) | (exfalso; omega) | (simp_all; omega))); (· first | (simp [go_sem, OBm, CVm, All2, lookS, hin, *]; done) | (simp [go_sem, OBm, CVm, All2, lookS, hin, *] <;> (repeat' split) <;> first | omega | (simp_all; done) | (exfalso; omega) | (simp_all; omega))))
        · (refine z_lop (j + 1) (hj := ?_) (hmu := ?_) (henv := ?_) (hobj := ?_); (· omega); (· first | omega | (simp only; omega)); (· first | (simp [go_sem, AVm, CVm, lookS, hin, hd, *]; done) | (simp [go_sem, AVm, CVm, lookS, hin, hd, *] <;> (repeat' split) <;> first | omega | (simp_all; done) | (exfalso; omega) | (simp_all; omega))); (· first | (simp [go_sem, OBm, CVm, All2, lookS, hin, hd, *]; done) | (simp [go_sem, OBm, CVm, All2, lookS, hin, hd, *] <;> (repeat' split) <;> first | omega | (simp_all; done) | (exfalso; omega) | (simp_all; omega))))
      · have hjj : j = (foldsOf (repN ⟨r, z, es⟩ l i).es).length := by omega
        subst hjj
        rw [inN_all]
        by_cases hmem : fd l i ∈ foldsOf (repN ⟨r, z, es⟩ l i).es
        · have hm := folds_ok h1 hmem
          have hro2 : repOk ⟨r, z, es⟩ l (i + 1) = true := by simp [repOk, hro, hmem]
          simp only [hmem, decide_true]
          repeat' (first|(refine ya ?_;first|(refine yb ?_;first|refine yc ?_)|refine ye ?_)|(refine yg ?_;intro hgs;first|(replace hgs:=zgy hgs;first|(refine yb ?_;first|refine yc ?_)|refine yy hgs ?_;clear hgs)|(refine yn (zgn hgs) ?_;clear hgs)|((fail_if_success have:=zgy hgs);refine z_spl hgs (h1:=?_) (h2:=?_)<;>clear hgs<;>intro hg hr<;>try first|contradiction|exfalso;omega))|refine yz ?_|(refine yA ?_;first|(refine yB ?_;first|refine yC ?_)|refine yE ?_)|(refine yG ?_;intro hgs;first|(replace hgs:=zgy hgs;first|(refine yB ?_;first|refine yC ?_)|refine yY hgs ?_;clear hgs)|(refine yN (zgn hgs) ?_;clear hgs)|((fail_if_success have:=zgy hgs);refine z_spll hgs (h1:=?_) (h2:=?_)<;>clear hgs<;>intro hg hr<;>try first|contradiction|exfalso;omega))|refine yZ ?_|refine zst ?_|refine k_blk_other rfl ?_|(refine zk ?_ ?_<;>intro hc hr<;>try first|contradiction|exfalso;omega))
          all_goals first | (refine z_lop (i + 1) (hj := ?_) (hmu := ?_) (henv := ?_) (hobj := ?_); (· exact ⟨by omega, hro2⟩); (· first | omega | (simp only; omega)); (· first | (simp [go_sem, AVm, CVm, lookS, repN, *]; done) | (simp [go_sem, AVm, CVm, lookS, repN, *] <;> (repeat' split) <;> first | omega | (simp_all; done) | (exfalso; omega) | (simp_all; omega))); (· first | (simp [go_sem, OBm, CVm, All2, lookS, repN, *]; done) | (simp [go_sem, OBm, CVm, All2, lookS, repN, *] <;> (repeat' split) <;> first | omega | (simp_all; done) | (exfalso; omega) | (simp_all; omega)))) | skip
        · obtain ⟨e1, e2⟩ := rep_bad (g := ⟨r, z, es⟩) (l := l) (i := i) (by assumption) hmem
          simp only [hmem, decide_false]
          repeat' (first|(refine ya ?_;first|(refine yb ?_;first|refine yc ?_)|refine ye ?_)|(refine yg ?_;intro hgs;first|(replace hgs:=zgy hgs;first|(refine yb ?_;first|refine yc ?_)|refine yy hgs ?_;clear hgs)|(refine yn (zgn hgs) ?_;clear hgs)|((fail_if_success have:=zgy hgs);refine z_spl hgs (h1:=?_) (h2:=?_)<;>clear hgs<;>intro hg hr<;>try first|contradiction|exfalso;omega))|refine yz ?_|(refine yA ?_;first|(refine yB ?_;first|refine yC ?_)|refine yE ?_)|(refine yG ?_;intro hgs;first|(replace hgs:=zgy hgs;first|(refine yB ?_;first|refine yC ?_)|refine yY hgs ?_;clear hgs)|(refine yN (zgn hgs) ?_;clear hgs)|((fail_if_success have:=zgy hgs);refine z_spll hgs (h1:=?_) (h2:=?_)<;>clear hgs<;>intro hg hr<;>try first|contradiction|exfalso;omega))|refine yZ ?_|refine zst ?_|refine k_blk_other rfl ?_|(refine zk ?_ ?_<;>intro hc hr<;>try first|contradiction|exfalso;omega))
          all_goals first | (refine z_ret (hv := ?_) (ho := ?_) <;> first | rfl | (simp [go_sem, e1, e2, *]; done) | (simp_all [e1, e2]; done) | (simp_all [e1, e2]; omega)) | skip
    · have hii : i = l.length := by omega
      subst hii
      obtain ⟨e1, e2⟩ := rep_yes hg hro
      all_goals first | (refine z_ret (hv := ?_) (ho := ?_) <;> first | rfl | (simp [go_sem, e1, e2, *]; done) | (simp_all [e1, e2]; done) | (simp_all [e1, e2]; omega)) | skip
instance : Con Try.prog 23 replay_sat2_S := con replay_sat2 Try.func23
end Go.Proofs.Try
