import Derived.Test.YtdhnpicnaajdfaaV6
set_option linter.unusedVariables false
set_option linter.unusedSimpArgs false
set_option linter.unnecessarySimpa false
namespace Go.Proofs.Try
open Go Go.Eng
set_option linter.unnecessarySimpa false
set_option linter.unusedSimpArgs false
set_option maxHeartbeats 1000000
def K_replay_sat : Nat → List Nat := fun i => ([[1, 2, 4], [1, 2, 4, 14], [4, 5], [1, 2, 4, 6], [2, 4, 6, 19, 20, 21], [2, 4, 6, 19, 20, 21, 22], [2, 4, 6, 8, 19, 20, 21], [2, 4, 6, 8, 9, 19, 20, 21], [2, 4, 6, 8, 9, 19, 20, 21, 26, 27, 28], [2, 4, 6, 8, 9, 19, 20, 21, 26, 27, 28, 29], [2, 4, 6, 8, 9, 11, 19, 20, 21, 26, 27, 28], [2, 4, 6, 8, 9, 19, 20, 21, 26, 27, 28], [2, 4, 6, 8, 9, 19, 20, 21, 26, 27, 28], [2, 4, 6, 8, 19, 20, 21, 40], [4, 5], [2, 4, 6, 19, 20, 21], [2, 4, 6, 19, 20, 21], [4, 5]] : List (List Nat)).getD i []
attribute [go_sem] K_replay_sat
def replay_sat_S : Eng.Spec := fun args av objs => ∃ (r z : Int) (es : List Ed) (l : List Fd), (es.length ≤ 1048576 ∧ l.length ≤ 1099511627776) ∧ args = [grA r z es, aF l] ∧ av = .tup [gT (rep ⟨r, z, es⟩ l), aB (repAll ⟨r, z, es⟩ l)] ∧ objs = [oE 73 (rep ⟨r, z, es⟩ l).es]
theorem replay_sat : Sat Try.prog 13 replay_sat_S := by
  refine sat_of tok okr mixed K_replay_sat Try.func13 rfl (rs := [.cell 4 26, .tmp 5]) rfl Try.ntmps13 ?_
  rintro args av objs ⟨r, z, es, l, hpre, rfl, rfl, rfl⟩
  refine ⟨by show 2 ≤ 51; decide, ?_⟩
  cases hok : isG r z es
  · obtain ⟨e1, e2⟩ := rep_no (g := ⟨r, z, es⟩) (l := l) hok
    rw [e1, e2]
    repeat' (first|(refine ya ?_;first|(refine yb ?_;first|refine yc ?_)|refine ye ?_)|(refine yg ?_;intro hgs;first|(replace hgs:=zgy hgs;first|(refine yb ?_;first|refine yc ?_)|refine yy hgs ?_;clear hgs)|(refine yn (zgn hgs) ?_;clear hgs)|((fail_if_success have:=zgy hgs);refine z_spl hgs (h1:=?_) (h2:=?_)<;>clear hgs<;>intro hg hr<;>try first|contradiction|exfalso;omega))|refine yz ?_|refine zst ?_|refine k_blk_other rfl ?_|(refine zk ?_ ?_<;>intro hc hr<;>try first|contradiction|exfalso;omega))
    all_goals first | (refine z_ret (hv := ?_) (ho := ?_) <;> first | rfl | (simp [go_sem, *]; done) | (simp_all; done) | (simp_all; omega)) | skip
  · have hg : (⟨r, z, es⟩ : Gr).ok = true := hok
    repeat' (first|(refine ya ?_;first|(refine yb ?_;first|refine yc ?_)|refine ye ?_)|(refine yg ?_;intro hgs;first|(replace hgs:=zgy hgs;first|(refine yb ?_;first|refine yc ?_)|refine yy hgs ?_;clear hgs)|(refine yn (zgn hgs) ?_;clear hgs)|((fail_if_success have:=zgy hgs);refine z_spl hgs (h1:=?_) (h2:=?_)<;>clear hgs<;>intro hg hr<;>try first|contradiction|exfalso;omega))|refine yz ?_|refine zst ?_|refine k_blk_other rfl ?_|(refine zk ?_ ?_<;>intro hc hr<;>try first|contradiction|exfalso;omega))
    refine z_loop (fun i : Nat => [(21, aI i)]) (fun i : Nat => [.cell 6 0 (.sc (.int (repN ⟨r, z, es⟩ l i).r)), .cell 6 1 (.sc (.int (repN ⟨r, z, es⟩ l i).z)), .inner 6 (oE 73 (repN ⟨r, z, es⟩ l i).es)]) (fun i : Nat => i ≤ l.length ∧ repOk ⟨r, z, es⟩ l i = true) (fun i : Nat => l.length - i) (0) (h0 := ?_) (henv := ?_) (hobj := ?_) (h := ?_)
    · exact ⟨by omega, rfl⟩
    · simp [go_sem, AVm, CVm, lookS, repN]
    · simp [go_sem, OBm, CVm, lookS, All2, repN]
    rintro i ⟨hi, hro⟩
    have h1 := repN_ok hg i hro
    have hz := ok_z h1
    have hfl := foldsOf_len hz.2.2.1
    repeat' (first|(refine ya ?_;first|(refine yb ?_;first|refine yc ?_)|refine ye ?_)|(refine yg ?_;intro hgs;first|(replace hgs:=zgy hgs;first|(refine yb ?_;first|refine yc ?_)|refine yy hgs ?_;clear hgs)|(refine yn (zgn hgs) ?_;clear hgs)|((fail_if_success have:=zgy hgs);refine z_spl hgs (h1:=?_) (h2:=?_)<;>clear hgs<;>intro hg hr<;>try first|contradiction|exfalso;omega))|refine yz ?_|refine zst ?_|refine k_blk_other rfl ?_|(refine zk ?_ ?_<;>intro hc hr<;>try first|contradiction|exfalso;omega))
    · refine z_loop (fun j : Nat => [(9, aB (inN (foldsOf (repN ⟨r, z, es⟩ l i).es) (fd l i) j)), (28, aI j)]) (fun j : Nat => []) (fun j : Nat => j ≤ (foldsOf (repN ⟨r, z, es⟩ l i).es).length) (fun j : Nat => (foldsOf (repN ⟨r, z, es⟩ l i).es).length - j) (0) (h0 := ?_) (henv := ?_) (hobj := ?_) (h := ?_)
      · omega
      · simp [go_sem, AVm, CVm, lookS, inN_0]
      · simp [go_sem, OBm, CVm, lookS, All2, inN_0]
      intro j hj
      rcases Nat.lt_or_ge j (foldsOf (repN ⟨r, z, es⟩ l i).es).length with hjl | hjl
      · have hin := inN_succ (f := fd l i) hjl
        have hd : decide (fd (foldsOf (repN ⟨r, z, es⟩ l i).es) j = fd l i) = ((fd (foldsOf (repN ⟨r, z, es⟩ l i).es) j).1 == (fd l i).1 && (fd (foldsOf (repN ⟨r, z, es⟩ l i).es) j).2 == (fd l i).2) := by
          rw [Bool.eq_iff_iff]
          simp [Prod.ext_iff]
        repeat' (first|(refine ya ?_;first|(refine yb ?_;first|refine yc ?_)|refine ye ?_)|(refine yg ?_;intro hgs;first|(replace hgs:=zgy hgs;first|(refine yb ?_;first|refine yc ?_)|refine yy hgs ?_;clear hgs)|(refine yn (zgn hgs) ?_;clear hgs)|((fail_if_success have:=zgy hgs);refine z_spl hgs (h1:=?_) (h2:=?_)<;>clear hgs<;>intro hg hr<;>try first|contradiction|exfalso;omega))|refine yz ?_|refine zst ?_|refine k_blk_other rfl ?_|(refine zk ?_ ?_<;>intro hc hr<;>try first|contradiction|exfalso;omega))
        · (refine z_lop (j + 1) (hj := ?_) (hmu := ?_) (henv := ?_) (hobj := ?_); (· omega); (· first | omega | (simp only; omega)); (· first | (simp [go_sem, AVm, CVm, lookS, hin, *]; done) | (simp [go_sem, AVm, CVm, lookS, hin, *] <;> (repeat' split) <;> first | omega | (simp_all; done) | (exfalso; omega) | (simp_all; omega))); (· first | (simp [go_sem, OBm, CVm, All2, lookS, hin, *]; done) | (simp [go_sem, OBm, CVm, All2, lookS, hin, *] <;> (repeat' split) <;> first | omega | (simp_all; done) | (exfalso; omega) | (simp_all; omega))))
        · (refine z_lop (j + 1) (hj := ?_) (hmu := ?_) (henv := ?_) (hobj := ?_); (· omega); (· first | omega | (simp only; omega)); (· first | (simp [go_sem, AVm, CVm, lookS, hin, hd, *]; done) | (simp [go_sem, AVm, CVm, lookS, hin, hd, *] <;> (repeat' split) <;> first | omega | (simp_all; done) | (exfalso; omega) | (simp_all; omega))); (· first | (simp [go_sem, OBm, CVm, All2, lookS, hin, hd, *]; done) | (simp [go_sem, OBm, CVm, All2, lookS, hin, hd, *] <;> (repeat' split) <;> first | omega | (simp_all; done) | (exfalso; omega) | (simp_all; omega))))
      · have hjj : j = (foldsOf (repN ⟨r, z, es⟩ l i).es).length := by omega
        subst hjj
        rw [inN_all]
        by_cases hmem : fd l i ∈ foldsOf (repN ⟨r, z, es⟩ l i).es
        · have hm := folds_ok h1 hmem
          have hro2 : repOk ⟨r, z, es⟩ l (i + 1) = true := by simp [repOk, hro, hmem]
          simp only [hmem, decide_true]
          repeat' (first|(refine ya ?_;first|(refine yb ?_;first|refine yc ?_)|refine ye ?_)|(refine yg ?_;intro hgs;first|(replace hgs:=zgy hgs;first|(refine yb ?_;first|refine yc ?_)|refine yy hgs ?_;clear hgs)|(refine yn (zgn hgs) ?_;clear hgs)|((fail_if_success have:=zgy hgs);refine z_spl hgs (h1:=?_) (h2:=?_)<;>clear hgs<;>intro hg hr<;>try first|contradiction|exfalso;omega))|refine yz ?_|refine zst ?_|refine k_blk_other rfl ?_|(refine zk ?_ ?_<;>intro hc hr<;>try first|contradiction|exfalso;omega))
          (refine z_lop (i + 1) (hj := ?_) (hmu := ?_) (henv := ?_) (hobj := ?_); (· exact ⟨by omega, hro2⟩); (· first | omega | (simp only; omega)); (· first | (simp [go_sem, AVm, CVm, lookS, repN, *]; done) | (simp [go_sem, AVm, CVm, lookS, repN, *] <;> (repeat' split) <;> first | omega | (simp_all; done) | (exfalso; omega) | (simp_all; omega))); (· first | (simp [go_sem, OBm, CVm, All2, lookS, repN, *]; done) | (simp [go_sem, OBm, CVm, All2, lookS, repN, *] <;> (repeat' split) <;> first | omega | (simp_all; done) | (exfalso; omega) | (simp_all; omega))))
        · obtain ⟨e1, e2⟩ := rep_bad (g := ⟨r, z, es⟩) (l := l) (i := i) (by assumption) hmem
          simp only [hmem, decide_false]
          repeat' (first|(refine ya ?_;first|(refine yb ?_;first|refine yc ?_)|refine ye ?_)|(refine yg ?_;intro hgs;first|(replace hgs:=zgy hgs;first|(refine yb ?_;first|refine yc ?_)|refine yy hgs ?_;clear hgs)|(refine yn (zgn hgs) ?_;clear hgs)|((fail_if_success have:=zgy hgs);refine z_spl hgs (h1:=?_) (h2:=?_)<;>clear hgs<;>intro hg hr<;>try first|contradiction|exfalso;omega))|refine yz ?_|refine zst ?_|refine k_blk_other rfl ?_|(refine zk ?_ ?_<;>intro hc hr<;>try first|contradiction|exfalso;omega))
          all_goals first | (refine z_ret (hv := ?_) (ho := ?_) <;> first | rfl | (simp [go_sem, e1, e2, *]; done) | (simp_all [e1, e2]; done) | (simp_all [e1, e2]; omega)) | skip
    · have hii : i = l.length := by omega
      subst hii
      obtain ⟨e1, e2⟩ := rep_yes hg hro
      all_goals first | (refine z_ret (hv := ?_) (ho := ?_) <;> first | rfl | (simp [go_sem, e1, e2, *]; done) | (simp_all [e1, e2]; done) | (simp_all [e1, e2]; omega)) | skip
instance : Con Try.prog 13 replay_sat_S := con replay_sat Try.func13
end Go.Proofs.Try
