import Derived.Test.YtfgpcfdoahgkpaaGreatQ11
import Derived.Test.YtfgpcfdoahgkpaaGreatB
import Derived.Test.YtfgpcfdoahgkpaaGreatQ21
set_option linter.unusedVariables false
set_option linter.unusedSimpArgs false
set_option linter.unnecessarySimpa false
namespace Go.Proofs.Tryz
open Go Go.Eng
set_option linter.unnecessarySimpa false
set_option linter.unusedSimpArgs false
set_option maxHeartbeats 4000000
theorem nzN_mem {r z : Int} {es : List Ed} {w : List Int} : ∀ {n : Nat}, w ∈ nzN r z es n → ∃ v : Int, w = pw r z es 0 v
  | 0, h => by cases h
  | n + 1, h => by
    rw [nzN] at h
    split at h
    · rcases List.mem_append.1 h with h | h
      · exact nzN_mem h
      · rw [List.mem_singleton] at h; exact ⟨_, h⟩
    · exact nzN_mem h
def K_law57 : Nat → List Nat := fun i => ([[1], [1, 3], [1, 3], [1, 15], [2], [1, 4], [1, 4, 5], [1, 4, 5, 6], [1, 4, 5, 6, 26], [2], [1, 4, 5, 6, 31], [2], [1, 4, 5, 6, 7], [1, 4, 6, 7], [1, 4, 6, 42], [2], [1, 4, 6, 8], [1, 4, 6, 8], [1, 4, 6, 8, 9], [1, 4, 6, 8, 9], [1, 4, 6, 8, 9, 50], [2], [1, 4, 6, 8, 53], [2], [4, 6, 8, 10], [6, 8, 60], [2], [6, 8, 9], [8, 9], [8, 9, 65], [2], [68], [2], [2]] : List (List Nat)).getD i []
attribute [go_sem] K_law57
def law57_S : Eng.Spec := fun args av objs => ∃ (r z : Int) (es : List Ed), ((es.length ≤ 9223372036854775807)) ∧ args = [grA r z es] ∧ av = aB true ∧ objs = []
theorem law57 : Sat Tryz.prog 8 law57_S := by
  refine sat_of tok okr mixed K_law57 Tryz.func8 rfl (rs := [.tmp 2]) rfl Tryz.ntmps8 ?_
  rintro args av objs ⟨r, z, es, hpre, rfl, rfl, rfl⟩
  refine ⟨by show 1 ≤ 69; decide, ?_⟩
  by_cases hs0 : es.length ≤ 1048576
  · cases hok : isFi r z es
    · have ht0 : totW [] ≤ 1048576 := by decide
      have hm0 : mkT [] 1 = 1 := rfl
      repeat' (first|(refine ya ?_;first|(refine yb ?_;first|refine yc ?_|refine yr ?_)|refine ye ?_)|(refine yg ?_;intro hgs;first|(replace hgs:=zgy hgs;first|(refine yb ?_;first|refine yc ?_|refine yr ?_)|refine yy hgs ?_;clear hgs)|(refine yn (zgn hgs) ?_;clear hgs)|((fail_if_success have:=zgy hgs);refine z_spl hgs (h1:=?_) (h2:=?_)<;>clear hgs<;>intro hg hr<;>try first|contradiction|exfalso;omega))|refine yz ?_|(refine yA ?_;first|(refine yB ?_;first|refine yC ?_|refine yR ?_)|refine yE ?_)|(refine yG ?_;intro hgs;first|(replace hgs:=zgy hgs;first|(refine yB ?_;first|refine yC ?_|refine yR ?_)|refine yY hgs ?_;clear hgs)|(refine yN (zgn hgs) ?_;clear hgs)|((fail_if_success have:=zgy hgs);refine z_spll hgs (h1:=?_) (h2:=?_)<;>clear hgs<;>intro hg hr<;>try first|contradiction|exfalso;omega))|refine yZ ?_|refine zst ?_|refine k_blk_other rfl ?_|(refine zk ?_ ?_<;>intro hc hr<;>try first|contradiction|exfalso;omega))
      all_goals first | (refine z_ret (hv := ?_) (ho := ?_) <;> first | rfl | (simp [go_sem, *]; done) | (simp_all; done) | (simp_all; omega)) | skip
    · have hf := isC_f (isFi_c hok)
      have hz := isG_z (isF_g hf)
      have hwl := nzN_len r z es z.toNat
      have hwm : ∀ w ∈ nzN r z es z.toNat, w.length ≤ 40 := fun w hw => by obtain ⟨v, rfl⟩ := nzN_mem hw; exact pw_len
      have htw := totW_le (n := 40) (m := 40) (by omega) hwm
      have hw5 : ∀ w ∈ nzN r z es z.toNat, w.length ≤ 1099511627776 := fun w hw => by have := hwm w hw; omega
      have hmw := mkW_len (nzN r z es z.toNat) 1
      have hmt : 1 ≤ mkT (nzN r z es z.toNat) 1 := mkS_ge
      repeat' (first|(refine ya ?_;first|(refine yb ?_;first|refine yc ?_|refine yr ?_)|refine ye ?_)|(refine yg ?_;intro hgs;first|(replace hgs:=zgy hgs;first|(refine yb ?_;first|refine yc ?_|refine yr ?_)|refine yy hgs ?_;clear hgs)|(refine yn (zgn hgs) ?_;clear hgs)|((fail_if_success have:=zgy hgs);refine z_spl hgs (h1:=?_) (h2:=?_)<;>clear hgs<;>intro hg hr<;>try first|contradiction|exfalso;omega))|refine yz ?_|(refine yA ?_;first|(refine yB ?_;first|refine yC ?_|refine yR ?_)|refine yE ?_)|(refine yG ?_;intro hgs;first|(replace hgs:=zgy hgs;first|(refine yB ?_;first|refine yC ?_|refine yR ?_)|refine yY hgs ?_;clear hgs)|(refine yN (zgn hgs) ?_;clear hgs)|((fail_if_success have:=zgy hgs);refine z_spll hgs (h1:=?_) (h2:=?_)<;>clear hgs<;>intro hg hr<;>try first|contradiction|exfalso;omega))|refine yZ ?_|refine zst ?_|refine k_blk_other rfl ?_|(refine zk ?_ ?_<;>intro hc hr<;>try first|contradiction|exfalso;omega))
      all_goals first | (refine z_ret (hv := ?_) (ho := ?_) <;> first | rfl | (simp [go_sem, *]; done) | (simp_all; done) | (simp_all; omega)) | skip
  · repeat' (first|(refine ya ?_;first|(refine yb ?_;first|refine yc ?_|refine yr ?_)|refine ye ?_)|(refine yg ?_;intro hgs;first|(replace hgs:=zgy hgs;first|(refine yb ?_;first|refine yc ?_|refine yr ?_)|refine yy hgs ?_;clear hgs)|(refine yn (zgn hgs) ?_;clear hgs)|((fail_if_success have:=zgy hgs);refine z_spl hgs (h1:=?_) (h2:=?_)<;>clear hgs<;>intro hg hr<;>try first|contradiction|exfalso;omega))|refine yz ?_|(refine yA ?_;first|(refine yB ?_;first|refine yC ?_|refine yR ?_)|refine yE ?_)|(refine yG ?_;intro hgs;first|(replace hgs:=zgy hgs;first|(refine yB ?_;first|refine yC ?_|refine yR ?_)|refine yY hgs ?_;clear hgs)|(refine yN (zgn hgs) ?_;clear hgs)|((fail_if_success have:=zgy hgs);refine z_spll hgs (h1:=?_) (h2:=?_)<;>clear hgs<;>intro hg hr<;>try first|contradiction|exfalso;omega))|refine yZ ?_|refine zst ?_|refine k_blk_other rfl ?_|(refine zk ?_ ?_<;>intro hc hr<;>try first|contradiction|exfalso;omega))
    all_goals first | (refine z_ret (hv := ?_) (ho := ?_) <;> first | rfl | (simp [go_sem, *]; done) | (simp_all; done) | (simp_all; omega)) | skip
theorem law57_of {l : List AV} (h : All2 (ShA T) [24] l) : law57_S l (.one (.sc (.bool true))) [] := by
  obtain ⟨c, rfl, hh⟩ := all2_1 h
  obtain ⟨r, z, es, rfl, p, _⟩ := shGraph hh
  exact ⟨r, z, es, p, rfl, rfl, rfl⟩
instance : Con Tryz.prog 8 law57_S := con law57 Tryz.func8
end Go.Proofs.Tryz
