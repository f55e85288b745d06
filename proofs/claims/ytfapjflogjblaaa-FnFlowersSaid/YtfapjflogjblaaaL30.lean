import Derived.Test.YtfapjflogjblaaaS7
import Derived.Test.YtfapjflogjblaaaS8
import Derived.Test.YtfapjflogjblaaaS
import Derived.Test.YtfapjflogjblaaaQ22
import Derived.Test.YtfapjflogjblaaaQ23
import Derived.Test.YtfapjflogjblaaaD9
set_option linter.unusedVariables false
set_option linter.unusedSimpArgs false
set_option linter.unnecessarySimpa false
namespace Go.Proofs.Try
open Go Go.Eng
set_option linter.unnecessarySimpa false
set_option linter.unusedSimpArgs false
set_option maxHeartbeats 8000000
set_option maxRecDepth 20000
theorem eqB_ok (cd : List Int) : (eqB cd).length ≤ 4 ∧ ∀ w ∈ eqB cd, w.length ≤ 5 := by
  unfold eqB
  split
  · obtain ⟨_, a3, a4, _⟩ := l6A_ok cd (nwC cd); exact ⟨a3, a4⟩
  · obtain ⟨_, a3, a4, _⟩ := l6A_ok cd (beS cd (l6Ac cd (nwC cd)) 2); exact ⟨a3, a4⟩
theorem l4A_es (cd : List Int) : (l4A cd (nwC cd)).1.es.length ≤ 1048576 := by have := l4A_ok cd (nwC cd); omega
attribute [local irreducible] beV beS byV byS nwC l4A l6Ar l6Aw l6Ac eqB dAu dAv dAw dPs fwsS psB psR psT flG awB conn tlW pth pthOk szF
def K_law30 : Nat → List Nat := fun i => ([[0], [0, 37], [2], [0, 3, 4], [0, 3, 4, 5, 6], [0, 3, 4, 5, 6, 7, 8], [0, 3, 4, 6, 7, 72], [2], [0, 3, 4, 7, 73], [0, 3, 4, 7, 9], [0, 3, 4, 7, 9, 10], [0, 3, 4, 7, 9, 10, 77], [0, 3, 4, 7, 9, 10], [0, 3, 4, 7, 9, 10], [0, 3, 4, 102], [2], [0, 3, 4, 11, 12, 13, 14], [0, 3, 4, 11, 12, 13, 14, 15, 16], [0, 3, 4, 15, 16, 17, 18], [0, 3, 4, 15, 16, 17, 18, 19, 20], [0, 3, 4, 15, 16, 17, 18, 19, 20, 21, 22], [0, 3, 4, 15, 16, 17, 18, 21, 22, 23, 24], [0, 3, 4, 15, 16, 17, 18, 21, 22, 23, 24, 25], [0, 3, 4, 15, 16, 17, 18, 21, 22, 23, 24, 25, 26, 27], [0, 3, 4, 15, 16, 17, 18, 21, 22, 23, 24, 25, 26, 27, 28, 29], [0, 3, 4, 15, 16, 17, 18, 21, 22, 23, 24, 25, 26, 27, 28, 29, 31], [0, 3, 4, 15, 16, 17, 18, 21, 22, 23, 24, 25, 26, 27, 31, 33], [3, 4, 15, 16, 17, 18, 21, 22, 23, 24, 25, 26, 27, 31, 33, 34, 35], [2]] : List (List Nat)).getD i []
attribute [go_sem] K_law30
def law30_S : Eng.Spec := fun args av objs => ∃ (cd : List Int), (cd.length ≤ 9223372036854775807) ∧ args = [.one (.imm 1 (bys cd))] ∧ av = aB true ∧ objs = []
theorem law30 : Sat Try.prog 3 law30_S := by
  refine sat_of tok okr mixed K_law30 Try.func3 rfl (rs := [.tmp 2]) rfl Try.ntmps3 ?_
  rintro args av objs ⟨cd, hpre, rfl, rfl, rfl⟩
  refine ⟨by show 1 ≤ 234; decide, ?_⟩
  by_cases hs0 : cd.length ≤ 1048576
  · obtain ⟨⟨a1, a2⟩, a3, a4, a5⟩ := l6A_ok cd (nwC cd)
    obtain ⟨f1, f2, f3⟩ := fwsS_ok a3 a4 a5
    obtain ⟨b1, b2⟩ := back_law (r := l6Ar cd (nwC cd)) a5
    obtain ⟨p1, p2⟩ := dPs_ok cd
    obtain ⟨q1, q2⟩ := eqB_ok cd
    have a6 : (l6Aw cd (nwC cd)).length ≤ 1048576 := by omega
    have a7 : ∀ w ∈ l6Aw cd (nwC cd), w.length ≤ 1048576 := fun w hw => by have := a4 w hw; omega
    have f4 : (fwsS (l6Aw cd (nwC cd))).length ≤ 1000000 := by omega
    have p3 : (dPs cd).length ≤ 1000000 := by omega
    have q3 : (eqB cd).length ≤ 1048576 := by omega
    have q4 : ∀ w ∈ eqB cd, w.length ≤ 1048576 := fun w hw => by have := q2 w hw; omega
    have hw5 := dAw_len cd
    have hw6 : (dAw cd).length ≤ 1048576 := by omega
    have h4 := l4A_es cd
    have hfe := flG_es (l6Ar cd (nwC cd)) (l6Aw cd (nwC cd))
    have hpe := pth_es (u := dAu cd) (v := dAv cd) (w := dAw cd) (n := 1048576) h4 (by omega)
    have hqe := pth_es (u := 0) (v := 0) (w := dAw cd) (n := 1048576) h4 (by omega)
    have hsz := szF_rg a3 a4
    cases haw : awB (l6Ar cd (nwC cd)) (l6Aw cd (nwC cd))
    · rw [haw] at b1
      clear b2 hsz
      repeat' (first|(refine ya ?_;first|(refine yb ?_;first|refine z_fn flower_no Try.func6 (hSp := by refine ⟨_, _, ⟨?_, ?_, ?_⟩, rfl, rfl, rfl⟩; (first | assumption | omega | (simp; done) | (simp; omega) | (((repeat' refine And.intro ?_ ?_) <;> first | assumption | omega | (simp; done) | (simp; omega)); done) | (simp at *; omega)); (first | assumption | omega | (simp; done) | (simp; omega) | (((repeat' refine And.intro ?_ ?_) <;> first | assumption | omega | (simp; done) | (simp; omega)); done) | (simp at *; omega)); (first | assumption | omega | (simp; done) | (simp; omega) | (((repeat' refine And.intro ?_ ?_) <;> first | assumption | omega | (simp; done) | (simp; omega)); done) | (simp at *; omega))) (k0 := ?_) | refine z_fn flower_no2 Try.func7 (hSp := by refine ⟨_, _, ⟨?_, ?_, ?_⟩, rfl, rfl, rfl⟩; (first | assumption | omega | (simp; done) | (simp; omega) | (((repeat' refine And.intro ?_ ?_) <;> first | assumption | omega | (simp; done) | (simp; omega)); done) | (simp at *; omega)); (first | assumption | omega | (simp; done) | (simp; omega) | (((repeat' refine And.intro ?_ ?_) <;> first | assumption | omega | (simp; done) | (simp; omega)); done) | (simp at *; omega)); (first | assumption | omega | (simp; done) | (simp; omega) | (((repeat' refine And.intro ?_ ?_) <;> first | assumption | omega | (simp; done) | (simp; omega)); done) | (simp at *; omega))) (k0 := ?_) | refine z_fn eqG_sat2 Try.func8 (hSp := by refine ⟨_, _, [], _, _, [], ?_, rfl, rfl, rfl⟩; (first | assumption | omega | (simp; done) | (simp; omega) | (((repeat' refine And.intro ?_ ?_) <;> first | assumption | omega | (simp; done) | (simp; omega)); done) | (simp at *; omega))) (k0 := ?_) | refine z_fnI dEL_sat Try.func23 (hSp := by refine ⟨_, ?_, rfl, rfl⟩; (first | assumption | omega | (simp; done) | (simp; omega) | (((repeat' refine And.intro ?_ ?_) <;> first | assumption | omega | (simp; done) | (simp; omega)); done) | (simp at *; omega))) (k0 := ?_) | refine yc ?_)|refine ye ?_)|(refine yg ?_;intro hgs;first|(replace hgs:=zgy hgs;first|(refine yb ?_;first|refine z_fn flower_no Try.func6 (hSp := by refine ⟨_, _, ⟨?_, ?_, ?_⟩, rfl, rfl, rfl⟩; (first | assumption | omega | (simp; done) | (simp; omega) | (((repeat' refine And.intro ?_ ?_) <;> first | assumption | omega | (simp; done) | (simp; omega)); done) | (simp at *; omega)); (first | assumption | omega | (simp; done) | (simp; omega) | (((repeat' refine And.intro ?_ ?_) <;> first | assumption | omega | (simp; done) | (simp; omega)); done) | (simp at *; omega)); (first | assumption | omega | (simp; done) | (simp; omega) | (((repeat' refine And.intro ?_ ?_) <;> first | assumption | omega | (simp; done) | (simp; omega)); done) | (simp at *; omega))) (k0 := ?_) | refine z_fn flower_no2 Try.func7 (hSp := by refine ⟨_, _, ⟨?_, ?_, ?_⟩, rfl, rfl, rfl⟩; (first | assumption | omega | (simp; done) | (simp; omega) | (((repeat' refine And.intro ?_ ?_) <;> first | assumption | omega | (simp; done) | (simp; omega)); done) | (simp at *; omega)); (first | assumption | omega | (simp; done) | (simp; omega) | (((repeat' refine And.intro ?_ ?_) <;> first | assumption | omega | (simp; done) | (simp; omega)); done) | (simp at *; omega)); (first | assumption | omega | (simp; done) | (simp; omega) | (((repeat' refine And.intro ?_ ?_) <;> first | assumption | omega | (simp; done) | (simp; omega)); done) | (simp at *; omega))) (k0 := ?_) | refine z_fn eqG_sat2 Try.func8 (hSp := by refine ⟨_, _, [], _, _, [], ?_, rfl, rfl, rfl⟩; (first | assumption | omega | (simp; done) | (simp; omega) | (((repeat' refine And.intro ?_ ?_) <;> first | assumption | omega | (simp; done) | (simp; omega)); done) | (simp at *; omega))) (k0 := ?_) | refine z_fnI dEL_sat Try.func23 (hSp := by refine ⟨_, ?_, rfl, rfl⟩; (first | assumption | omega | (simp; done) | (simp; omega) | (((repeat' refine And.intro ?_ ?_) <;> first | assumption | omega | (simp; done) | (simp; omega)); done) | (simp at *; omega))) (k0 := ?_) | refine yc ?_)|refine yy hgs ?_;clear hgs)|(refine yn (zgn hgs) ?_;clear hgs)|((fail_if_success have:=zgy hgs);refine z_spl hgs (h1:=?_) (h2:=?_)<;>clear hgs<;>intro hg hr<;>try first|contradiction|exfalso;omega))|refine yt ?_|refine yz ?_|refine zst ?_|refine k_blk_other rfl ?_|(refine zk ?_ ?_<;>intro hc hr<;>try first|contradiction|exfalso;omega))
      all_goals first | (refine z_ret (hv := ?_) (ho := ?_) <;> first | rfl | (simp [go_sem, *]; done) | (simp_all; done) | (simp_all; omega)) | skip
    · have b3 := b2 haw
      have r1 : (psR (l6Ar cd (nwC cd)) (fwsS (l6Aw cd (nwC cd)))).length ≤ 1048576 := by rw [b3]; exact a6
      have r2 : ∀ w ∈ psR (l6Ar cd (nwC cd)) (fwsS (l6Aw cd (nwC cd))), w.length ≤ 1048576 := by rw [b3]; exact a7
      rw [haw] at b1
      obtain ⟨g1, g2, g3, g4⟩ := flower_law haw
      have g5 : conn ⟨(flG (l6Ar cd (nwC cd)) (l6Aw cd (nwC cd))).r, (flG (l6Ar cd (nwC cd)) (l6Aw cd (nwC cd))).z, (flG (l6Ar cd (nwC cd)) (l6Aw cd (nwC cd))).es⟩ = true := g3
      clear b2 g3
      repeat' (first|(refine ya ?_;first|(refine yb ?_;first|refine z_fn flower_yes Try.func6 (hSp := by refine ⟨_, _, ⟨?_, ?_, ?_⟩, rfl, rfl, rfl⟩; (first | assumption | omega | (simp; done) | (simp; omega) | (((repeat' refine And.intro ?_ ?_) <;> first | assumption | omega | (simp; done) | (simp; omega)); done) | (simp at *; omega)); (first | assumption | omega | (simp; done) | (simp; omega) | (((repeat' refine And.intro ?_ ?_) <;> first | assumption | omega | (simp; done) | (simp; omega)); done) | (simp at *; omega)); (first | assumption | omega | (simp; done) | (simp; omega) | (((repeat' refine And.intro ?_ ?_) <;> first | assumption | omega | (simp; done) | (simp; omega)); done) | (simp at *; omega))) (k0 := ?_) | refine z_fn flower_yes2 Try.func7 (hSp := by refine ⟨_, _, ⟨?_, ?_, ?_⟩, rfl, rfl, rfl⟩; (first | assumption | omega | (simp; done) | (simp; omega) | (((repeat' refine And.intro ?_ ?_) <;> first | assumption | omega | (simp; done) | (simp; omega)); done) | (simp at *; omega)); (first | assumption | omega | (simp; done) | (simp; omega) | (((repeat' refine And.intro ?_ ?_) <;> first | assumption | omega | (simp; done) | (simp; omega)); done) | (simp at *; omega)); (first | assumption | omega | (simp; done) | (simp; omega) | (((repeat' refine And.intro ?_ ?_) <;> first | assumption | omega | (simp; done) | (simp; omega)); done) | (simp at *; omega))) (k0 := ?_) | refine yc ?_)|refine ye ?_)|(refine yg ?_;intro hgs;first|(replace hgs:=zgy hgs;first|(refine yb ?_;first|refine z_fn flower_yes Try.func6 (hSp := by refine ⟨_, _, ⟨?_, ?_, ?_⟩, rfl, rfl, rfl⟩; (first | assumption | omega | (simp; done) | (simp; omega) | (((repeat' refine And.intro ?_ ?_) <;> first | assumption | omega | (simp; done) | (simp; omega)); done) | (simp at *; omega)); (first | assumption | omega | (simp; done) | (simp; omega) | (((repeat' refine And.intro ?_ ?_) <;> first | assumption | omega | (simp; done) | (simp; omega)); done) | (simp at *; omega)); (first | assumption | omega | (simp; done) | (simp; omega) | (((repeat' refine And.intro ?_ ?_) <;> first | assumption | omega | (simp; done) | (simp; omega)); done) | (simp at *; omega))) (k0 := ?_) | refine z_fn flower_yes2 Try.func7 (hSp := by refine ⟨_, _, ⟨?_, ?_, ?_⟩, rfl, rfl, rfl⟩; (first | assumption | omega | (simp; done) | (simp; omega) | (((repeat' refine And.intro ?_ ?_) <;> first | assumption | omega | (simp; done) | (simp; omega)); done) | (simp at *; omega)); (first | assumption | omega | (simp; done) | (simp; omega) | (((repeat' refine And.intro ?_ ?_) <;> first | assumption | omega | (simp; done) | (simp; omega)); done) | (simp at *; omega)); (first | assumption | omega | (simp; done) | (simp; omega) | (((repeat' refine And.intro ?_ ?_) <;> first | assumption | omega | (simp; done) | (simp; omega)); done) | (simp at *; omega))) (k0 := ?_) | refine yc ?_)|refine yy hgs ?_;clear hgs)|(refine yn (zgn hgs) ?_;clear hgs)|((fail_if_success have:=zgy hgs);refine z_spl hgs (h1:=?_) (h2:=?_)<;>clear hgs<;>intro hg hr<;>try first|contradiction|exfalso;omega))|refine yt ?_|refine yz ?_|refine zst ?_|refine k_blk_other rfl ?_|(refine zk ?_ ?_<;>intro hc hr<;>try first|contradiction|exfalso;omega))
      refine z_loop (fun i : Nat => [(10, aI i), (9, aI (szF (l6Aw cd (nwC cd)) i))]) (fun i : Nat => [.obj 4 (.rows 34 3 (.loc false) (osW (l6Aw cd (nwC cd))))]) (fun i : Nat => i ≤ (l6Aw cd (nwC cd)).length) (fun i : Nat => (l6Aw cd (nwC cd)).length - i) (0) (h0 := ?_) (henv := ?_) (hobj := ?_) (h := ?_)
      · omega
      · simp [go_sem, AVm, CVm, lookS, szF0]
      · simp [go_sem, OBm, CVm, lookS, All2, szF0]
      intro i hi
      have hsi := hsz i hi
      rcases Nat.lt_or_ge i (l6Aw cd (nwC cd)).length with hlt | hge
      · have m1 := a4 _ (wx_mem hlt)
        have hn : szF (l6Aw cd (nwC cd)) (i + 1) = szF (l6Aw cd (nwC cd)) i + (if 0 < ((wx (l6Aw cd (nwC cd)) i).length : Int) - 1 then ((wx (l6Aw cd (nwC cd)) i).length : Int) - 1 else 0) := szF_s _ _
        by_cases hl1 : 0 < ((wx (l6Aw cd (nwC cd)) i).length : Int) - 1
        · rw [if_pos hl1] at hn
          clear hsz b3 g1 g2 g5
          repeat' (first|(refine ya ?_;first|(refine yb ?_;first|refine yc ?_)|refine ye ?_)|(refine yg ?_;intro hgs;first|(replace hgs:=zgy hgs;first|(refine yb ?_;first|refine yc ?_)|refine yy hgs ?_;clear hgs)|(refine yn (zgn hgs) ?_;clear hgs)|((fail_if_success have:=zgy hgs);refine z_spl hgs (h1:=?_) (h2:=?_)<;>clear hgs<;>intro hg hr<;>try first|contradiction|exfalso;omega))|refine yt ?_|refine yz ?_|refine zst ?_|refine k_blk_other rfl ?_|(refine zk ?_ ?_<;>intro hc hr<;>try first|contradiction|exfalso;omega))
          (refine z_lop (i + 1) (hj := ?_) (hmu := ?_) (henv := ?_) (hobj := ?_); (· omega); (· first | omega | (simp only; omega)); (· first | (simp [go_sem, AVm, CVm, lookS, hn, *]; done) | (simp [go_sem, AVm, CVm, lookS, hn, *] <;> (repeat' split) <;> first | omega | (simp_all; done) | (exfalso; omega) | (simp_all; omega))); (· first | (simp [go_sem, OBm, CVm, All2, lookS, hn, *]; done) | (simp [go_sem, OBm, CVm, All2, lookS, hn, *] <;> (repeat' split) <;> first | omega | (simp_all; done) | (exfalso; omega) | (simp_all; omega))))
        · rw [if_neg hl1] at hn
          clear hsz b3 g1 g2 g5
          repeat' (first|(refine ya ?_;first|(refine yb ?_;first|refine yc ?_)|refine ye ?_)|(refine yg ?_;intro hgs;first|(replace hgs:=zgy hgs;first|(refine yb ?_;first|refine yc ?_)|refine yy hgs ?_;clear hgs)|(refine yn (zgn hgs) ?_;clear hgs)|((fail_if_success have:=zgy hgs);refine z_spl hgs (h1:=?_) (h2:=?_)<;>clear hgs<;>intro hg hr<;>try first|contradiction|exfalso;omega))|refine yt ?_|refine yz ?_|refine zst ?_|refine k_blk_other rfl ?_|(refine zk ?_ ?_<;>intro hc hr<;>try first|contradiction|exfalso;omega))
          (refine z_lop (i + 1) (hj := ?_) (hmu := ?_) (henv := ?_) (hobj := ?_); (· omega); (· first | omega | (simp only; omega)); (· first | (simp [go_sem, AVm, CVm, lookS, hn, *]; done) | (simp [go_sem, AVm, CVm, lookS, hn, *] <;> (repeat' split) <;> first | omega | (simp_all; done) | (exfalso; omega) | (simp_all; omega))); (· first | (simp [go_sem, OBm, CVm, All2, lookS, hn, *]; done) | (simp [go_sem, OBm, CVm, All2, lookS, hn, *] <;> (repeat' split) <;> first | omega | (simp_all; done) | (exfalso; omega) | (simp_all; omega))))
      · have hii : i = (l6Aw cd (nwC cd)).length := by omega
        subst hii
        clear hsz
        repeat' (first|(refine ya ?_;first|(refine yb ?_;first|refine z_fnI dEL_sat Try.func23 (hSp := by refine ⟨_, ?_, rfl, rfl⟩; (first | assumption | omega | (simp; done) | (simp; omega) | (((repeat' refine And.intro ?_ ?_) <;> first | assumption | omega | (simp; done) | (simp; omega)); done) | (simp at *; omega))) (k0 := ?_) | refine yc ?_)|refine ye ?_)|(refine yg ?_;intro hgs;first|(replace hgs:=zgy hgs;first|(refine yb ?_;first|refine z_fnI dEL_sat Try.func23 (hSp := by refine ⟨_, ?_, rfl, rfl⟩; (first | assumption | omega | (simp; done) | (simp; omega) | (((repeat' refine And.intro ?_ ?_) <;> first | assumption | omega | (simp; done) | (simp; omega)); done) | (simp at *; omega))) (k0 := ?_) | refine yc ?_)|refine yy hgs ?_;clear hgs)|(refine yn (zgn hgs) ?_;clear hgs)|((fail_if_success have:=zgy hgs);refine z_spl hgs (h1:=?_) (h2:=?_)<;>clear hgs<;>intro hg hr<;>try first|contradiction|exfalso;omega))|refine yt ?_|refine yz ?_|refine zst ?_|refine k_blk_other rfl ?_|(refine zk ?_ ?_<;>intro hc hr<;>try first|contradiction|exfalso;omega))
        all_goals first | (refine z_ret (hv := ?_) (ho := ?_) <;> first | rfl | (simp [go_sem, *]; done) | (simp_all; done) | (simp_all; omega)) | skip
  · repeat' (first|(refine ya ?_;first|(refine yb ?_;first|refine yc ?_)|refine ye ?_)|(refine yg ?_;intro hgs;first|(replace hgs:=zgy hgs;first|(refine yb ?_;first|refine yc ?_)|refine yy hgs ?_;clear hgs)|(refine yn (zgn hgs) ?_;clear hgs)|((fail_if_success have:=zgy hgs);refine z_spl hgs (h1:=?_) (h2:=?_)<;>clear hgs<;>intro hg hr<;>try first|contradiction|exfalso;omega))|refine yt ?_|refine yz ?_|refine zst ?_|refine k_blk_other rfl ?_|(refine zk ?_ ?_<;>intro hc hr<;>try first|contradiction|exfalso;omega))
    all_goals first | (refine z_ret (hv := ?_) (ho := ?_) <;> first | rfl | (simp [go_sem, *]; done) | (simp_all; done) | (simp_all; omega)) | skip
theorem law30_of {l : List AV} (h : All2 (ShA T) [22] l) : law30_S l (.one (.sc (.bool true))) [] := by
  obtain ⟨c, rfl, hh⟩ := all2_1 h
  obtain ⟨cd, rfl, p⟩ := shBytes T22 T5 hh
  exact ⟨cd, p, rfl, rfl, rfl⟩
instance : Con Try.prog 3 law30_S := con law30 Try.func3
end Go.Proofs.Try
