import Derived.Test.YtfapjflogjblaaaGreatD17
import Derived.Test.YtfapjflogjblaaaGreatD9
import Derived.Test.YtfapjflogjblaaaGreatQ21
set_option linter.unusedVariables false
set_option linter.unusedSimpArgs false
set_option linter.unnecessarySimpa false
/- The specification's draws: lists of words, indices; small contracts that the laws of members and bases need. -/
namespace Go.Proofs.Tryz
open Go Go.Eng
set_option linter.unnecessarySimpa false
set_option linter.unusedSimpArgs false
set_option maxHeartbeats 4000000
set_option maxRecDepth 20000
/-! ### Trivial and whole groups -/
def K_newG_no : Nat → List Nat := fun i => ([[0, 2], [0, 2, 6], [2, 3], [2, 3]] : List (List Nat)).getD i []
attribute [go_sem] K_newG_no
def newG_no_S : Eng.Spec := fun args av objs => ∃ (r : Int), (¬ (1 ≤ r ∧ r ≤ 3)) ∧ args = [aI r] ∧ av = .tup [.agg [.sc (.int 0), .sc (.int 0), .nil], aB false] ∧ objs = []
theorem newG_no : Sat Tryz.prog 91 newG_no_S := by
  refine sat_of tok okr mixed K_newG_no Tryz.func91 rfl (rs := [.cell 2 26, .tmp 3]) rfl Tryz.ntmps91 ?_
  rintro args av objs ⟨r, hpre, rfl, rfl, rfl⟩
  refine ⟨by show 1 ≤ 10; decide, ?_⟩
  repeat' (first|(refine ya ?_;first|(refine yb ?_;first|refine yc ?_)|refine ye ?_)|refine yz ?_|refine zst ?_|refine k_blk_other rfl ?_|(refine zk ?_ ?_<;>intro hc hr<;>try first|contradiction|exfalso;omega))
  all_goals first | (refine z_ret (hv := ?_) (ho := ?_) <;> first | rfl | (simp [go_sem, *]; done) | (simp_all; done) | (simp_all; omega)) | skip
instance : Con Tryz.prog 91 newG_no_S := con newG_no Tryz.func91
def K_triv_yes : Nat → List Nat := fun i => ([[0, 2], [2, 3]] : List (List Nat)).getD i []
attribute [go_sem] K_triv_yes
def triv_yes_S : Eng.Spec := fun args av objs => ∃ (r : Int), (1 ≤ r ∧ r ≤ 3) ∧ args = [aI r] ∧ av = .tup [.agg [.sc (.int r), .sc (.int 1), .nil], aB true] ∧ objs = []
theorem triv_yes : Sat Tryz.prog 43 triv_yes_S := by
  refine sat_of tok okr mixed K_triv_yes Tryz.func43 rfl (rs := [.cell 2 26, .tmp 3]) rfl Tryz.ntmps43 ?_
  rintro args av objs ⟨r, hpre, rfl, rfl, rfl⟩
  refine ⟨by show 1 ≤ 8; decide, ?_⟩
  repeat' (first|(refine ya ?_;first|(refine yb ?_;first|refine z_fn newG_yes Tryz.func91 (hSp := by refine ⟨_, ?_, rfl, rfl, rfl⟩; (first | assumption | omega | (simp; done) | (simp; omega) | (((repeat' refine And.intro ?_ ?_) <;> first | assumption | omega | (simp; done) | (simp; omega)); done) | (simp at *; omega))) (k0 := ?_) | refine yc ?_)|refine ye ?_)|refine yz ?_|refine zst ?_|refine k_blk_other rfl ?_|(refine zk ?_ ?_<;>intro hc hr<;>try first|contradiction|exfalso;omega))
  all_goals first | (refine z_ret (hv := ?_) (ho := ?_) <;> first | rfl | (simp [go_sem, *]; done) | (simp_all; done) | (simp_all; omega)) | skip
instance : Con Tryz.prog 43 triv_yes_S := con triv_yes Tryz.func43
def K_triv_no : Nat → List Nat := fun i => ([[0, 2], [2, 3]] : List (List Nat)).getD i []
attribute [go_sem] K_triv_no
def triv_no_S : Eng.Spec := fun args av objs => ∃ (r : Int), (¬ (1 ≤ r ∧ r ≤ 3)) ∧ args = [aI r] ∧ av = .tup [.agg [.sc (.int 0), .sc (.int 0), .nil], aB false] ∧ objs = []
theorem triv_no : Sat Tryz.prog 43 triv_no_S := by
  refine sat_of tok okr mixed K_triv_no Tryz.func43 rfl (rs := [.cell 2 26, .tmp 3]) rfl Tryz.ntmps43 ?_
  rintro args av objs ⟨r, hpre, rfl, rfl, rfl⟩
  refine ⟨by show 1 ≤ 8; decide, ?_⟩
  repeat' (first|(refine ya ?_;first|(refine yb ?_;first|refine yc ?_)|refine ye ?_)|refine yz ?_|refine zst ?_|refine k_blk_other rfl ?_|(refine zk ?_ ?_<;>intro hc hr<;>try first|contradiction|exfalso;omega))
  all_goals first | (refine z_ret (hv := ?_) (ho := ?_) <;> first | rfl | (simp [go_sem, *]; done) | (simp_all; done) | (simp_all; omega)) | skip
instance (priority := 2000) : Con Tryz.prog 43 (orS triv_yes_S triv_no_S) := con2 triv_yes triv_no Tryz.func43
def K_newG_no2 : Nat → List Nat := fun i => ([[0, 2], [0, 2, 6], [2, 3], [2, 3]] : List (List Nat)).getD i []
attribute [go_sem] K_newG_no2
def newG_no2_S : Eng.Spec := fun args av objs => ∃ (r : Int), (¬ (1 ≤ r ∧ r ≤ 3)) ∧ args = [aI r] ∧ av = .tup [.agg [.sc (.int 0), .sc (.int 0), .nil], aB false] ∧ objs = []
theorem newG_no2 : Sat Tryz.prog 92 newG_no2_S := by
  refine sat_of tok okr mixed K_newG_no2 Tryz.func92 rfl (rs := [.cell 2 26, .tmp 3]) rfl Tryz.ntmps92 ?_
  rintro args av objs ⟨r, hpre, rfl, rfl, rfl⟩
  refine ⟨by show 1 ≤ 10; decide, ?_⟩
  repeat' (first|(refine ya ?_;first|(refine yb ?_;first|refine yc ?_)|refine ye ?_)|refine yz ?_|refine zst ?_|refine k_blk_other rfl ?_|(refine zk ?_ ?_<;>intro hc hr<;>try first|contradiction|exfalso;omega))
  all_goals first | (refine z_ret (hv := ?_) (ho := ?_) <;> first | rfl | (simp [go_sem, *]; done) | (simp_all; done) | (simp_all; omega)) | skip
instance : Con Tryz.prog 92 newG_no2_S := con newG_no2 Tryz.func92
def K_triv_yes2 : Nat → List Nat := fun i => ([[0, 2], [2, 4, 5], [2, 3]] : List (List Nat)).getD i []
attribute [go_sem] K_triv_yes2
def triv_yes2_S : Eng.Spec := fun args av objs => ∃ (r : Int), (1 ≤ r ∧ r ≤ 3) ∧ args = [aI r] ∧ av = .tup [.agg [.sc (.int r), .sc (.int 1), .nil], aB true] ∧ objs = []
theorem triv_yes2 : Sat Tryz.prog 44 triv_yes2_S := by
  refine sat_of tok okr mixed K_triv_yes2 Tryz.func44 rfl (rs := [.cell 2 26, .tmp 3]) rfl Tryz.ntmps44 ?_
  rintro args av objs ⟨r, hpre, rfl, rfl, rfl⟩
  refine ⟨by show 1 ≤ 13; decide, ?_⟩
  repeat' (first|(refine ya ?_;first|(refine yb ?_;first|refine z_fn newG_yes2 Tryz.func92 (hSp := by refine ⟨_, ?_, rfl, rfl, rfl⟩; (first | assumption | omega | (simp; done) | (simp; omega) | (((repeat' refine And.intro ?_ ?_) <;> first | assumption | omega | (simp; done) | (simp; omega)); done) | (simp at *; omega))) (k0 := ?_) | refine yc ?_)|refine ye ?_)|refine yz ?_|refine zst ?_|refine k_blk_other rfl ?_|(refine zk ?_ ?_<;>intro hc hr<;>try first|contradiction|exfalso;omega))
  all_goals first | (refine z_ret (hv := ?_) (ho := ?_) <;> first | rfl | (simp [go_sem, *]; done) | (simp_all; done) | (simp_all; omega)) | skip
instance : Con Tryz.prog 44 triv_yes2_S := con triv_yes2 Tryz.func44
def K_triv_no2 : Nat → List Nat := fun i => ([[0, 2], [2, 4, 5], [2, 3]] : List (List Nat)).getD i []
attribute [go_sem] K_triv_no2
def triv_no2_S : Eng.Spec := fun args av objs => ∃ (r : Int), (¬ (1 ≤ r ∧ r ≤ 3)) ∧ args = [aI r] ∧ av = .tup [.agg [.sc (.int 0), .sc (.int 0), .nil], aB false] ∧ objs = []
theorem triv_no2 : Sat Tryz.prog 44 triv_no2_S := by
  refine sat_of tok okr mixed K_triv_no2 Tryz.func44 rfl (rs := [.cell 2 26, .tmp 3]) rfl Tryz.ntmps44 ?_
  rintro args av objs ⟨r, hpre, rfl, rfl, rfl⟩
  refine ⟨by show 1 ≤ 13; decide, ?_⟩
  repeat' (first|(refine ya ?_;first|(refine yb ?_;first|refine yc ?_)|refine ye ?_)|refine yz ?_|refine zst ?_|refine k_blk_other rfl ?_|(refine zk ?_ ?_<;>intro hc hr<;>try first|contradiction|exfalso;omega))
  all_goals first | (refine z_ret (hv := ?_) (ho := ?_) <;> first | rfl | (simp [go_sem, *]; done) | (simp_all; done) | (simp_all; omega)) | skip
def wl : Nat → List Ed
  | 0 => []
  | n + 1 => wl n ++ [((0 : Int), ((n : Int) + 1), (0 : Int))]
theorem wl_len (n : Nat) : (wl n).length = n := by induction n with | zero => rfl | succ n ih => simp [wl, ih]
theorem wl_s (n : Nat) : wl (n + 1) = wl n ++ [((0 : Int), ((n : Int) + 1), (0 : Int))] := rfl
theorem wl_isG {n : Nat} {r : Int} (h : (n : Int) ≤ r) (hr : 1 ≤ r ∧ r ≤ 3) : isG r 1 (wl n) = true := by
  have hn : n = 0 ∨ n = 1 ∨ n = 2 ∨ n = 3 := by omega
  have hrr : r = 1 ∨ r = 2 ∨ r = 3 := by omega
  rcases hn with rfl | rfl | rfl | rfl <;> rcases hrr with rfl | rfl | rfl <;> first | omega | decide
theorem wl_put {n : Nat} (h : n ≤ 2) : put (wl n) (0, (n : Int) + 1, 0) = wl (n + 1) := by
  have hn : n = 0 ∨ n = 1 ∨ n = 2 := by omega
  rcases hn with rfl | rfl | rfl <;> decide
theorem wl_adE {n : Nat} {r : Int} (h : (n : Int) + 1 ≤ r) (hr : 1 ≤ r ∧ r ≤ 3) : adE ⟨r, 1, wl n⟩ (0, (n : Int) + 1, 0) = ⟨r, 1, wl (n + 1)⟩ := by
  unfold adE adC
  have h1 := wl_isG (n := n) (by omega) hr
  have h2 := wl_len n
  simp only [h1, edOk]
  rw [if_pos]
  · rw [wl_put (by omega)]
  · simp [h2, w64Id]; omega
instance (priority := 2000) : Con Tryz.prog 44 (orS triv_yes2_S triv_no2_S) := con2 triv_yes2 triv_no2 Tryz.func44
def K_whole_yes : Nat → List Nat := fun i => ([[0, 2], [0, 2, 4, 5], [0, 2, 4, 5, 6], [0, 2, 4, 5, 6, 17], [0, 2, 4, 5, 6], [0, 2, 4, 5, 6], [2, 3]] : List (List Nat)).getD i []
attribute [go_sem] K_whole_yes
def whole_yes_S : Eng.Spec := fun args av objs => ∃ (r : Int), (1 ≤ r ∧ r ≤ 3) ∧ args = [aI r] ∧ av = .tup [.agg [.sc (.int r), .sc (.int 1), .ref 0], aB true] ∧ objs = [oE 65 (wl r.toNat)]
theorem whole_yes : Sat Tryz.prog 45 whole_yes_S := by
  refine sat_of tok okr mixed K_whole_yes Tryz.func45 rfl (rs := [.cell 2 26, .tmp 3]) rfl Tryz.ntmps45 ?_
  rintro args av objs ⟨r, hpre, rfl, rfl, rfl⟩
  refine ⟨by show 1 ≤ 29; decide, ?_⟩
  obtain ⟨m, hm⟩ : ∃ m : Nat, (m : Int) = r := ⟨r.toNat, by omega⟩
  have hmn : r.toNat = m := by omega
  subst hm
  rw [hmn]
  clear hmn
  repeat' (first|(refine ya ?_;first|(refine yb ?_;first|refine z_fn newG_yes Tryz.func91 (hSp := by refine ⟨_, ?_, rfl, rfl, rfl⟩; (first | assumption | omega | (simp; done) | (simp; omega) | (((repeat' refine And.intro ?_ ?_) <;> first | assumption | omega | (simp; done) | (simp; omega)); done) | (simp at *; omega))) (k0 := ?_) | refine yc ?_)|refine ye ?_)|(refine yg ?_;intro hgs;first|(replace hgs:=zgy hgs;first|(refine yb ?_;first|refine z_fn newG_yes Tryz.func91 (hSp := by refine ⟨_, ?_, rfl, rfl, rfl⟩; (first | assumption | omega | (simp; done) | (simp; omega) | (((repeat' refine And.intro ?_ ?_) <;> first | assumption | omega | (simp; done) | (simp; omega)); done) | (simp at *; omega))) (k0 := ?_) | refine yc ?_)|refine yy hgs ?_;clear hgs)|(refine yn (zgn hgs) ?_;clear hgs)|((fail_if_success have:=zgy hgs);refine z_spl hgs (h1:=?_) (h2:=?_)<;>clear hgs<;>intro hg hr<;>try first|contradiction|exfalso;omega))|refine yz ?_|refine zst ?_|refine k_blk_other rfl ?_|(refine zk ?_ ?_<;>intro hc hr<;>try first|contradiction|exfalso;omega))
  refine z_loop (fun i : Nat => [(6, aI ((i : Int) + 1))]) (fun i : Nat => [.cell 4 2 (.ref 900), .inner 4 (oE 65 (wl i))]) (fun i : Nat => i ≤ m) (fun i : Nat => m - i) (0) (h0 := ?_) (henv := ?_) (hobj := ?_) (h := ?_)
  · omega
  · simp [go_sem, AVm, CVm, lookS, wl, edsNil']
  · simp [go_sem, OBm, CVm, lookS, All2, wl, edsNil']
  intro i hi
  have hl := wl_len i
  have hs := wl_s i
  rcases Nat.lt_or_ge i m with hlt | hge
  · repeat' (first|(refine ya ?_;first|(refine yb ?_;first|refine yc ?_)|refine ye ?_)|(refine yg ?_;intro hgs;first|(replace hgs:=zgy hgs;first|(refine yb ?_;first|refine yc ?_)|refine yy hgs ?_;clear hgs)|(refine yn (zgn hgs) ?_;clear hgs)|((fail_if_success have:=zgy hgs);refine z_spl hgs (h1:=?_) (h2:=?_)<;>clear hgs<;>intro hg hr<;>try first|contradiction|exfalso;omega))|refine yz ?_|refine zst ?_|refine k_blk_other rfl ?_|(refine zk ?_ ?_<;>intro hc hr<;>try first|contradiction|exfalso;omega))
    (refine z_lop (i + 1) (hj := ?_) (hmu := ?_) (henv := ?_) (hobj := ?_); (· omega); (· first | omega | (simp only; omega)); (· first | (simp [go_sem, AVm, CVm, lookS, hs, *]; done) | (simp [go_sem, AVm, CVm, lookS, hs, *] <;> (repeat' split) <;> first | omega | (simp_all; done) | (exfalso; omega) | (simp_all; omega))); (· first | (simp [go_sem, OBm, CVm, All2, lookS, hs, *]; done) | (simp [go_sem, OBm, CVm, All2, lookS, hs, *] <;> (repeat' split) <;> first | omega | (simp_all; done) | (exfalso; omega) | (simp_all; omega))))
  · have hii : i = m := by omega
    subst hii
    repeat' (first|(refine ya ?_;first|(refine yb ?_;first|refine yc ?_)|refine ye ?_)|(refine yg ?_;intro hgs;first|(replace hgs:=zgy hgs;first|(refine yb ?_;first|refine yc ?_)|refine yy hgs ?_;clear hgs)|(refine yn (zgn hgs) ?_;clear hgs)|((fail_if_success have:=zgy hgs);refine z_spl hgs (h1:=?_) (h2:=?_)<;>clear hgs<;>intro hg hr<;>try first|contradiction|exfalso;omega))|refine yz ?_|refine zst ?_|refine k_blk_other rfl ?_|(refine zk ?_ ?_<;>intro hc hr<;>try first|contradiction|exfalso;omega))
    all_goals first | (refine z_ret (hv := ?_) (ho := ?_) <;> first | rfl | (simp [go_sem, *]; done) | (simp_all; done) | (simp_all; omega)) | skip
instance : Con Tryz.prog 45 whole_yes_S := con whole_yes Tryz.func45
def K_whole_no : Nat → List Nat := fun i => ([[0, 2], [0, 2, 4, 5], [0, 2, 4, 5, 6], [0, 2, 4, 5, 6, 17], [0, 2, 4, 5, 6], [0, 2, 4, 5, 6], [2, 3]] : List (List Nat)).getD i []
attribute [go_sem] K_whole_no
def whole_no_S : Eng.Spec := fun args av objs => ∃ (r : Int), (¬ (1 ≤ r ∧ r ≤ 3)) ∧ args = [aI r] ∧ av = .tup [.agg [.sc (.int 0), .sc (.int 0), .nil], aB false] ∧ objs = []
theorem whole_no : Sat Tryz.prog 45 whole_no_S := by
  refine sat_of tok okr mixed K_whole_no Tryz.func45 rfl (rs := [.cell 2 26, .tmp 3]) rfl Tryz.ntmps45 ?_
  rintro args av objs ⟨r, hpre, rfl, rfl, rfl⟩
  refine ⟨by show 1 ≤ 29; decide, ?_⟩
  repeat' (first|(refine ya ?_;first|(refine yb ?_;first|refine yc ?_)|refine ye ?_)|(refine yg ?_;intro hgs;first|(replace hgs:=zgy hgs;first|(refine yb ?_;first|refine yc ?_)|refine yy hgs ?_;clear hgs)|(refine yn (zgn hgs) ?_;clear hgs)|((fail_if_success have:=zgy hgs);refine z_spl hgs (h1:=?_) (h2:=?_)<;>clear hgs<;>intro hg hr<;>try first|contradiction|exfalso;omega))|refine yz ?_|refine zst ?_|refine k_blk_other rfl ?_|(refine zk ?_ ?_<;>intro hc hr<;>try first|contradiction|exfalso;omega))
  refine z_loop (fun i : Nat => []) (fun i : Nat => []) (fun i : Nat => i = 0) (fun i : Nat => 0 - i) (0) (h0 := ?_) (henv := ?_) (hobj := ?_) (h := ?_)
  · omega
  · simp [go_sem, AVm, CVm, lookS]
  · simp [go_sem, OBm, CVm, lookS, All2]
  intro i hi
  repeat' (first|(refine ya ?_;first|(refine yb ?_;first|refine yc ?_)|refine ye ?_)|(refine yg ?_;intro hgs;first|(replace hgs:=zgy hgs;first|(refine yb ?_;first|refine yc ?_)|refine yy hgs ?_;clear hgs)|(refine yn (zgn hgs) ?_;clear hgs)|((fail_if_success have:=zgy hgs);refine z_spl hgs (h1:=?_) (h2:=?_)<;>clear hgs<;>intro hg hr<;>try first|contradiction|exfalso;omega))|refine yz ?_|refine zst ?_|refine k_blk_other rfl ?_|(refine zk ?_ ?_<;>intro hc hr<;>try first|contradiction|exfalso;omega))
  all_goals first | (refine z_ret (hv := ?_) (ho := ?_) <;> first | rfl | (simp [go_sem, *]; done) | (simp_all; done) | (simp_all; omega)) | skip
instance (priority := 2000) : Con Tryz.prog 45 (orS whole_yes_S whole_no_S) := con2 whole_yes whole_no Tryz.func45
def K_whole_yes2 : Nat → List Nat := fun i => ([[0, 2], [0, 2, 4, 5], [0, 2, 4, 5, 6], [0, 2, 4, 5, 6, 19], [0, 2, 4, 5, 6], [0, 2, 4, 5, 6, 7], [0, 2, 4, 5, 6], [2, 3]] : List (List Nat)).getD i []
attribute [go_sem] K_whole_yes2
def whole_yes2_S : Eng.Spec := fun args av objs => ∃ (r : Int), (1 ≤ r ∧ r ≤ 3) ∧ args = [aI r] ∧ av = .tup [.agg [.sc (.int r), .sc (.int 1), .ref 0], aB true] ∧ objs = [oE 65 (wl r.toNat)]
theorem whole_yes2 : Sat Tryz.prog 46 whole_yes2_S := by
  refine sat_of tok okr mixed K_whole_yes2 Tryz.func46 rfl (rs := [.cell 2 26, .tmp 3]) rfl Tryz.ntmps46 ?_
  rintro args av objs ⟨r, hpre, rfl, rfl, rfl⟩
  refine ⟨by show 1 ≤ 32; decide, ?_⟩
  obtain ⟨m, hm⟩ : ∃ m : Nat, (m : Int) = r := ⟨r.toNat, by omega⟩
  have hmn : r.toNat = m := by omega
  subst hm
  rw [hmn]
  clear hmn
  repeat' (first|(refine ya ?_;first|(refine yb ?_;first|refine z_fn newG_yes2 Tryz.func92 (hSp := by refine ⟨_, ?_, rfl, rfl, rfl⟩; (first | assumption | omega | (simp; done) | (simp; omega) | (((repeat' refine And.intro ?_ ?_) <;> first | assumption | omega | (simp; done) | (simp; omega)); done) | (simp at *; omega))) (k0 := ?_) | refine yc ?_)|refine ye ?_)|(refine yg ?_;intro hgs;first|(replace hgs:=zgy hgs;first|(refine yb ?_;first|refine z_fn newG_yes2 Tryz.func92 (hSp := by refine ⟨_, ?_, rfl, rfl, rfl⟩; (first | assumption | omega | (simp; done) | (simp; omega) | (((repeat' refine And.intro ?_ ?_) <;> first | assumption | omega | (simp; done) | (simp; omega)); done) | (simp at *; omega))) (k0 := ?_) | refine yc ?_)|refine yy hgs ?_;clear hgs)|(refine yn (zgn hgs) ?_;clear hgs)|((fail_if_success have:=zgy hgs);refine z_spl hgs (h1:=?_) (h2:=?_)<;>clear hgs<;>intro hg hr<;>try first|contradiction|exfalso;omega))|refine yz ?_|refine zst ?_|refine k_blk_other rfl ?_|(refine zk ?_ ?_<;>intro hc hr<;>try first|contradiction|exfalso;omega))
  refine z_loop (fun i : Nat => [(6, aI ((i : Int) + 1))]) (fun i : Nat => [.cell 4 2 (.ref 900), .inner 4 (oE 65 (wl i))]) (fun i : Nat => i ≤ m) (fun i : Nat => m - i) (0) (h0 := ?_) (henv := ?_) (hobj := ?_) (h := ?_)
  · omega
  · simp [go_sem, AVm, CVm, lookS, wl, edsNil']
  · simp [go_sem, OBm, CVm, lookS, All2, wl, edsNil']
  intro i hi
  have hl := wl_len i
  rcases Nat.lt_or_ge i m with hlt | hge
  · have hs := wl_adE (n := i) (r := (m : Int)) (by omega) (by omega)
    repeat' (first|(refine ya ?_;first|(refine yb ?_;first|refine yc ?_)|refine ye ?_)|(refine yg ?_;intro hgs;first|(replace hgs:=zgy hgs;first|(refine yb ?_;first|refine yc ?_)|refine yy hgs ?_;clear hgs)|(refine yn (zgn hgs) ?_;clear hgs)|((fail_if_success have:=zgy hgs);refine z_spl hgs (h1:=?_) (h2:=?_)<;>clear hgs<;>intro hg hr<;>try first|contradiction|exfalso;omega))|refine yz ?_|refine zst ?_|refine k_blk_other rfl ?_|(refine zk ?_ ?_<;>intro hc hr<;>try first|contradiction|exfalso;omega))
    (refine z_lop (i + 1) (hj := ?_) (hmu := ?_) (henv := ?_) (hobj := ?_); (· omega); (· first | omega | (simp only; omega)); (· first | (simp [go_sem, AVm, CVm, lookS, hs, *]; done) | (simp [go_sem, AVm, CVm, lookS, hs, *] <;> (repeat' split) <;> first | omega | (simp_all; done) | (exfalso; omega) | (simp_all; omega))); (· first | (simp [go_sem, OBm, CVm, All2, lookS, hs, *]; done) | (simp [go_sem, OBm, CVm, All2, lookS, hs, *] <;> (repeat' split) <;> first | omega | (simp_all; done) | (exfalso; omega) | (simp_all; omega))))
  · have hii : i = m := by omega
    subst hii
    repeat' (first|(refine ya ?_;first|(refine yb ?_;first|refine yc ?_)|refine ye ?_)|(refine yg ?_;intro hgs;first|(replace hgs:=zgy hgs;first|(refine yb ?_;first|refine yc ?_)|refine yy hgs ?_;clear hgs)|(refine yn (zgn hgs) ?_;clear hgs)|((fail_if_success have:=zgy hgs);refine z_spl hgs (h1:=?_) (h2:=?_)<;>clear hgs<;>intro hg hr<;>try first|contradiction|exfalso;omega))|refine yz ?_|refine zst ?_|refine k_blk_other rfl ?_|(refine zk ?_ ?_<;>intro hc hr<;>try first|contradiction|exfalso;omega))
    all_goals first | (refine z_ret (hv := ?_) (ho := ?_) <;> first | rfl | (simp [go_sem, *]; done) | (simp_all; done) | (simp_all; omega)) | skip
instance : Con Tryz.prog 46 whole_yes2_S := con whole_yes2 Tryz.func46
def K_whole_no2 : Nat → List Nat := fun i => ([[0, 2], [0, 2, 4, 5], [0, 2, 4, 5, 6], [0, 2, 4, 5, 6, 19], [0, 2, 4, 5, 6], [0, 2, 4, 5, 6, 7], [0, 2, 4, 5, 6], [2, 3]] : List (List Nat)).getD i []
attribute [go_sem] K_whole_no2
def whole_no2_S : Eng.Spec := fun args av objs => ∃ (r : Int), (¬ (1 ≤ r ∧ r ≤ 3)) ∧ args = [aI r] ∧ av = .tup [.agg [.sc (.int 0), .sc (.int 0), .nil], aB false] ∧ objs = []
theorem whole_no2 : Sat Tryz.prog 46 whole_no2_S := by
  refine sat_of tok okr mixed K_whole_no2 Tryz.func46 rfl (rs := [.cell 2 26, .tmp 3]) rfl Tryz.ntmps46 ?_
  rintro args av objs ⟨r, hpre, rfl, rfl, rfl⟩
  refine ⟨by show 1 ≤ 32; decide, ?_⟩
  repeat' (first|(refine ya ?_;first|(refine yb ?_;first|refine yc ?_)|refine ye ?_)|(refine yg ?_;intro hgs;first|(replace hgs:=zgy hgs;first|(refine yb ?_;first|refine yc ?_)|refine yy hgs ?_;clear hgs)|(refine yn (zgn hgs) ?_;clear hgs)|((fail_if_success have:=zgy hgs);refine z_spl hgs (h1:=?_) (h2:=?_)<;>clear hgs<;>intro hg hr<;>try first|contradiction|exfalso;omega))|refine yz ?_|refine zst ?_|refine k_blk_other rfl ?_|(refine zk ?_ ?_<;>intro hc hr<;>try first|contradiction|exfalso;omega))
  refine z_loop (fun i : Nat => []) (fun i : Nat => []) (fun i : Nat => i = 0) (fun i : Nat => 0 - i) (0) (h0 := ?_) (henv := ?_) (hobj := ?_) (h := ?_)
  · omega
  · simp [go_sem, AVm, CVm, lookS]
  · simp [go_sem, OBm, CVm, lookS, All2]
  intro i hi
  repeat' (first|(refine ya ?_;first|(refine yb ?_;first|refine yc ?_)|refine ye ?_)|(refine yg ?_;intro hgs;first|(replace hgs:=zgy hgs;first|(refine yb ?_;first|refine yc ?_)|refine yy hgs ?_;clear hgs)|(refine yn (zgn hgs) ?_;clear hgs)|((fail_if_success have:=zgy hgs);refine z_spl hgs (h1:=?_) (h2:=?_)<;>clear hgs<;>intro hg hr<;>try first|contradiction|exfalso;omega))|refine yz ?_|refine zst ?_|refine k_blk_other rfl ?_|(refine zk ?_ ?_<;>intro hc hr<;>try first|contradiction|exfalso;omega))
  all_goals first | (refine z_ret (hv := ?_) (ho := ?_) <;> first | rfl | (simp [go_sem, *]; done) | (simp_all; done) | (simp_all; omega)) | skip
instance (priority := 2000) : Con Tryz.prog 46 (orS whole_yes2_S whole_no2_S) := con2 whole_yes2 whole_no2 Tryz.func46
end Go.Proofs.Tryz
