import Derived.Test.YtdhnpicnaajdfaaV5
set_option linter.unusedVariables false
set_option linter.unusedSimpArgs false
set_option linter.unnecessarySimpa false
namespace Go.Proofs.Try
open Go Go.Eng
set_option linter.unnecessarySimpa false
set_option linter.unusedSimpArgs false
set_option maxHeartbeats 4000000
def K_foldIO_sat2 : Nat → List Nat := fun i => ([[1, 2, 4], [1, 2, 4, 6], [1, 2, 4, 6, 7], [1, 2, 4, 6, 7, 8], [1, 2, 4, 6, 7, 8, 19], [1, 2, 4, 6, 7, 8], [1, 2, 4, 6, 7, 8, 9], [1, 2, 4, 6, 7, 8, 9, 26], [4, 5], [1, 2, 4, 6, 7, 8, 9, 10], [1, 2, 4, 6, 7, 8, 9, 10, 39], [1, 2, 4, 6, 7, 8, 9, 10], [1, 2, 4, 6, 7, 8, 9, 10], [1, 2, 4, 6, 7, 8], [4, 5]] : List (List Nat)).getD i []
attribute [go_sem] K_foldIO_sat2
def foldIO_sat2_S : Eng.Spec := fun args av objs => ∃ (r z : Int) (es : List Ed) (cs : List Int), (es.length ≤ 1099511627776 ∧ cs.length ≤ 1099511627776) ∧ args = [grA r z es, aL cs] ∧ av = .tup [gT (foldO cs ⟨r, z, es⟩).1, .one (.ref 1)] ∧ objs = [oE 73 (foldO cs ⟨r, z, es⟩).1.es, oF 37 (foldO cs ⟨r, z, es⟩).2]
theorem foldIO_sat2 : Sat Try.prog 26 foldIO_sat2_S := by
  refine sat_of tok okr mixed K_foldIO_sat2 Try.func26 rfl (rs := [.cell 4 26, .tmp 5]) rfl Try.ntmps26 ?_
  rintro args av objs ⟨r, z, es, cs, hpre, rfl, rfl, rfl⟩
  refine ⟨by show 2 ≤ 65; decide, ?_⟩
  cases hok : isG r z es
  · rw [foldO_no (show (⟨r, z, es⟩ : Gr).ok = false from hok)]
    repeat' (first|(refine ya ?_;first|(refine yb ?_;first|refine yc ?_)|refine ye ?_)|(refine yg ?_;intro hgs;first|(replace hgs:=zgy hgs;first|(refine yb ?_;first|refine yc ?_)|refine yy hgs ?_;clear hgs)|(refine yn (zgn hgs) ?_;clear hgs)|((fail_if_success have:=zgy hgs);refine z_spl hgs (h1:=?_) (h2:=?_)<;>clear hgs<;>intro hg hr<;>try first|contradiction|exfalso;omega))|refine yz ?_|(refine yA ?_;first|(refine yB ?_;first|refine yC ?_)|refine yE ?_)|(refine yG ?_;intro hgs;first|(replace hgs:=zgy hgs;first|(refine yB ?_;first|refine yC ?_)|refine yY hgs ?_;clear hgs)|(refine yN (zgn hgs) ?_;clear hgs)|((fail_if_success have:=zgy hgs);refine z_spll hgs (h1:=?_) (h2:=?_)<;>clear hgs<;>intro hg hr<;>try first|contradiction|exfalso;omega))|refine yZ ?_|refine zst ?_|refine k_blk_other rfl ?_|(refine zk ?_ ?_<;>intro hc hr<;>try first|contradiction|exfalso;omega))
    refine z_loop (fun i : Nat => []) (fun i : Nat => []) (fun i : Nat => True) (fun i : Nat => 0) (0) (h0 := ?_) (henv := ?_) (hobj := ?_) (h := ?_)
    · trivial
    · simp [go_sem, AVm, CVm, lookS]
    · simp [go_sem, OBm, CVm, lookS, All2]
    intro i _
    repeat' (first|(refine ya ?_;first|(refine yb ?_;first|refine yc ?_)|refine ye ?_)|(refine yg ?_;intro hgs;first|(replace hgs:=zgy hgs;first|(refine yb ?_;first|refine yc ?_)|refine yy hgs ?_;clear hgs)|(refine yn (zgn hgs) ?_;clear hgs)|((fail_if_success have:=zgy hgs);refine z_spl hgs (h1:=?_) (h2:=?_)<;>clear hgs<;>intro hg hr<;>try first|contradiction|exfalso;omega))|refine yz ?_|(refine yA ?_;first|(refine yB ?_;first|refine yC ?_)|refine yE ?_)|(refine yG ?_;intro hgs;first|(replace hgs:=zgy hgs;first|(refine yB ?_;first|refine yC ?_)|refine yY hgs ?_;clear hgs)|(refine yN (zgn hgs) ?_;clear hgs)|((fail_if_success have:=zgy hgs);refine z_spll hgs (h1:=?_) (h2:=?_)<;>clear hgs<;>intro hg hr<;>try first|contradiction|exfalso;omega))|refine yZ ?_|refine zst ?_|refine k_blk_other rfl ?_|(refine zk ?_ ?_<;>intro hc hr<;>try first|contradiction|exfalso;omega))
    all_goals first | (refine z_ret (hv := ?_) (ho := ?_) <;> first | rfl | (simp [go_sem, *]; done) | (simp_all; done) | (simp_all; omega)) | skip
  · have hg : (⟨r, z, es⟩ : Gr).ok = true := hok
    repeat' (first|(refine ya ?_;first|(refine yb ?_;first|refine yc ?_)|refine ye ?_)|(refine yg ?_;intro hgs;first|(replace hgs:=zgy hgs;first|(refine yb ?_;first|refine yc ?_)|refine yy hgs ?_;clear hgs)|(refine yn (zgn hgs) ?_;clear hgs)|((fail_if_success have:=zgy hgs);refine z_spl hgs (h1:=?_) (h2:=?_)<;>clear hgs<;>intro hg hr<;>try first|contradiction|exfalso;omega))|refine yz ?_|(refine yA ?_;first|(refine yB ?_;first|refine yC ?_)|refine yE ?_)|(refine yG ?_;intro hgs;first|(replace hgs:=zgy hgs;first|(refine yB ?_;first|refine yC ?_)|refine yY hgs ?_;clear hgs)|(refine yN (zgn hgs) ?_;clear hgs)|((fail_if_success have:=zgy hgs);refine z_spll hgs (h1:=?_) (h2:=?_)<;>clear hgs<;>intro hg hr<;>try first|contradiction|exfalso;omega))|refine yZ ?_|refine zst ?_|refine k_blk_other rfl ?_|(refine zk ?_ ?_<;>intro hc hr<;>try first|contradiction|exfalso;omega))
    refine z_loop (fun i : Nat => [(8, aI i)]) (fun i : Nat => [.cell 6 0 (.sc (.int (fio cs ⟨r, z, es⟩ i).1.r)), .cell 6 1 (.sc (.int (fio cs ⟨r, z, es⟩ i).1.z)), .inner 6 (oE 73 (fio cs ⟨r, z, es⟩ i).1.es), .obj 7 (oF 37 (fio cs ⟨r, z, es⟩ i).2)]) (fun i : Nat => i ≤ 40) (fun i : Nat => 40 - i) (0) (h0 := ?_) (henv := ?_) (hobj := ?_) (h := ?_)
    · omega
    · simp [go_sem, AVm, CVm, lookS, fio]
    · simp [go_sem, OBm, CVm, lookS, All2, fio]
    intro i hi
    obtain ⟨h1, h2, h3, h4⟩ := fio_ok (cs := cs) hg i
    have hz := ok_z h1
    have hfl := foldsOf_len hz.2.2.1
    by_cases h : (foldsOf (fio cs ⟨r, z, es⟩ i).1.es).length = 0
    · rw [foldO_at hg h (by omega)]
      repeat' (first|(refine ya ?_;first|(refine yb ?_;first|refine yc ?_)|refine ye ?_)|(refine yg ?_;intro hgs;first|(replace hgs:=zgy hgs;first|(refine yb ?_;first|refine yc ?_)|refine yy hgs ?_;clear hgs)|(refine yn (zgn hgs) ?_;clear hgs)|((fail_if_success have:=zgy hgs);refine z_spl hgs (h1:=?_) (h2:=?_)<;>clear hgs<;>intro hg hr<;>try first|contradiction|exfalso;omega))|refine yz ?_|(refine yA ?_;first|(refine yB ?_;first|refine yC ?_)|refine yE ?_)|(refine yG ?_;intro hgs;first|(replace hgs:=zgy hgs;first|(refine yB ?_;first|refine yC ?_)|refine yY hgs ?_;clear hgs)|(refine yN (zgn hgs) ?_;clear hgs)|((fail_if_success have:=zgy hgs);refine z_spll hgs (h1:=?_) (h2:=?_)<;>clear hgs<;>intro hg hr<;>try first|contradiction|exfalso;omega))|refine yZ ?_|refine zst ?_|refine k_blk_other rfl ?_|(refine zk ?_ ?_<;>intro hc hr<;>try first|contradiction|exfalso;omega))
      all_goals first | (refine z_ret (hv := ?_) (ho := ?_) <;> first | rfl | (simp [go_sem, *]; done) | (simp_all; done) | (simp_all; omega)) | skip
    · have hs := fio_succ h
      have hlt := fio_lt hg h
      have hp := pickF_lt (cs := cs) (i := i) (lenPos h)
      have h5 := h4 h
      have hm := folds_ok h1 (fd_mem hp)
      have ht : 0 < ix cs i → i < cs.length → (ix cs i).tmod ((foldsOf (fio cs ⟨r, z, es⟩ i).1.es).length : Int) = ((pickF cs (foldsOf (fio cs ⟨r, z, es⟩ i).1.es).length i : Nat) : Int) := fun h6 h7 => by
        have := Int.emod_nonneg (ix cs i) (show ((foldsOf (fio cs ⟨r, z, es⟩ i).1.es).length : Int) ≠ 0 by omega)
        rw [pickF, if_pos ⟨h7, h6⟩, Int.tmod_eq_emod_of_nonneg (by omega)]
        omega
      repeat' (first|(refine ya ?_;first|(refine yb ?_;first|refine yc ?_)|refine ye ?_)|(refine yg ?_;intro hgs;first|(replace hgs:=zgy hgs;first|(refine yb ?_;first|refine yc ?_)|refine yy hgs ?_;clear hgs)|(refine yn (zgn hgs) ?_;clear hgs)|((fail_if_success have:=zgy hgs);refine z_spl hgs (h1:=?_) (h2:=?_)<;>clear hgs<;>intro hg hr<;>try first|contradiction|exfalso;omega))|refine yz ?_|(refine yA ?_;first|(refine yB ?_;first|refine yC ?_)|refine yE ?_)|(refine yG ?_;intro hgs;first|(replace hgs:=zgy hgs;first|(refine yB ?_;first|refine yC ?_)|refine yY hgs ?_;clear hgs)|(refine yN (zgn hgs) ?_;clear hgs)|((fail_if_success have:=zgy hgs);refine z_spll hgs (h1:=?_) (h2:=?_)<;>clear hgs<;>intro hg hr<;>try first|contradiction|exfalso;omega))|refine yZ ?_|refine zst ?_|refine k_blk_other rfl ?_|(refine zk ?_ ?_<;>intro hc hr<;>try first|contradiction|exfalso;omega))
      · (refine z_lop (i + 1) (hj := ?_) (hmu := ?_) (henv := ?_) (hobj := ?_); (· omega); (· first | omega | (simp only; omega)); (· first | (simp [go_sem, AVm, CVm, lookS, hs, *]; done) | (simp [go_sem, AVm, CVm, lookS, hs, *] <;> (repeat' split) <;> first | omega | (simp_all; done) | (exfalso; omega) | (simp_all; omega))); (· first | (simp [go_sem, OBm, CVm, All2, lookS, hs, *]; done) | (simp [go_sem, OBm, CVm, All2, lookS, hs, *] <;> (repeat' split) <;> first | omega | (simp_all; done) | (exfalso; omega) | (simp_all; omega))))
      · (refine z_lop (i + 1) (hj := ?_) (hmu := ?_) (henv := ?_) (hobj := ?_); (· omega); (· first | omega | (simp only; omega)); (· first | (simp [go_sem, AVm, CVm, lookS, hs, pickF, show ¬ 0 < ix cs i by omega, *]; done) | (simp [go_sem, AVm, CVm, lookS, hs, pickF, show ¬ 0 < ix cs i by omega, *] <;> (repeat' split) <;> first | omega | (simp_all; done) | (exfalso; omega) | (simp_all; omega))); (· first | (simp [go_sem, OBm, CVm, All2, lookS, hs, pickF, show ¬ 0 < ix cs i by omega, *]; done) | (simp [go_sem, OBm, CVm, All2, lookS, hs, pickF, show ¬ 0 < ix cs i by omega, *] <;> (repeat' split) <;> first | omega | (simp_all; done) | (exfalso; omega) | (simp_all; omega))))
      · (refine z_lop (i + 1) (hj := ?_) (hmu := ?_) (henv := ?_) (hobj := ?_); (· omega); (· first | omega | (simp only; omega)); (· first | (simp [go_sem, AVm, CVm, lookS, hs, pickF, show ¬ i < cs.length by omega, *]; done) | (simp [go_sem, AVm, CVm, lookS, hs, pickF, show ¬ i < cs.length by omega, *] <;> (repeat' split) <;> first | omega | (simp_all; done) | (exfalso; omega) | (simp_all; omega))); (· first | (simp [go_sem, OBm, CVm, All2, lookS, hs, pickF, show ¬ i < cs.length by omega, *]; done) | (simp [go_sem, OBm, CVm, All2, lookS, hs, pickF, show ¬ i < cs.length by omega, *] <;> (repeat' split) <;> first | omega | (simp_all; done) | (exfalso; omega) | (simp_all; omega))))
instance : Con Try.prog 26 foldIO_sat2_S := con foldIO_sat2 Try.func26
end Go.Proofs.Try
