import Derived.Test.YtfapjflogjblaaaA
import Derived.Test.YtfapjflogjblaaaC
import Derived.Test.YtfapjflogjblaaaE2
set_option linter.unusedVariables false
set_option linter.unusedSimpArgs false
set_option linter.unnecessarySimpa false
/- The specification's draws: the cursor. -/
namespace Go.Proofs.Try
open Go Go.Eng
set_option linter.unnecessarySimpa false
set_option linter.unusedSimpArgs false
set_option maxHeartbeats 4000000
set_option maxRecDepth 20000
structure Cu where
  p : Nat
  q : Int
def bys (l : List Int) : List El := l.map fun n => [.u8 n]
theorem bysLen (l : List Int) : (bys l).length = l.length := by simp [bys]
theorem bysAt {l : List Int} {i : Nat} (h : i < l.length) : (bys l)[i]? = some [.u8 (ix l i)] := by
  simp [bys, ix, h]
attribute [go_sem] bysLen bysAt
def byH (q : Int) : Int := w64 (w64 (q * 6364136223846793005) + 1442695040888963407)
def byX (q : Int) : Int := bAnd (bXor (bShr (byH q) 33) (bShr (byH q) 45)) 255
def byV (cd : List Int) (c : Cu) : Int := if c.p < cd.length then bAnd (w64 (byX c.q + w64 (ix cd c.p))) 255 else byX c.q
def byS (cd : List Int) (c : Cu) : Cu := ⟨if c.p < cd.length then c.p + 1 else c.p, byH c.q⟩
theorem bAnd_rg (a : Int) : 0 ≤ bAnd a 255 ∧ bAnd a 255 ≤ 255 := by
  unfold bAnd
  have h : (BitVec.ofInt 64 a &&& BitVec.ofInt 64 255).toNat ≤ 255 := by
    rw [BitVec.toNat_and]
    exact Nat.le_trans Nat.and_le_right (by decide)
  generalize (BitVec.ofInt 64 a &&& BitVec.ofInt 64 255).toNat = n at h
  have : IntKind.i64.wrap n = (n : Int) := by rw [IntKind.wrap_i64]; omega
  rw [this]; omega
theorem byV_rg (cd : List Int) (c : Cu) : 0 ≤ byV cd c ∧ byV cd c ≤ 255 := by
  unfold byV
  split
  · exact bAnd_rg _
  · exact bAnd_rg _
/-- A number below n, for n up to 256. -/
def beV (cd : List Int) (c : Cu) (n : Int) : Int := if n ≤ 0 then 0 else (byV cd c).tmod n
def beS (cd : List Int) (c : Cu) (n : Int) : Cu := if n ≤ 0 then c else byS cd c
theorem beV_rg (cd : List Int) (c : Cu) {n : Int} (h : 0 < n) : 0 ≤ beV cd c n ∧ beV cd c n < n := by
  have := byV_rg cd c
  unfold beV
  rw [if_neg (by omega)]
  exact ⟨Int.tmod_nonneg _ this.1, Int.tmod_lt_of_pos _ h⟩
theorem beV_0 (cd : List Int) (c : Cu) {n : Int} (h : n ≤ 0) : beV cd c n = 0 ∧ beS cd c n = c := by
  unfold beV beS; rw [if_pos h, if_pos h]; exact ⟨rfl, rfl⟩
theorem beV_n (cd : List Int) (c : Cu) {n : Int} (h : 0 < n) : beV cd c n = (byV cd c).tmod n ∧ beS cd c n = byS cd c := by
  unfold beV beS; rw [if_neg (by omega), if_neg (by omega)]; exact ⟨rfl, rfl⟩
def nwH (cd : List Int) : Nat → Int
  | 0 => 10101 + cd.length
  | i + 1 => bAnd (w64 (w64 (w64 (nwH cd i * 131) + w64 (ix cd i)) + 7)) 1073741823
def nwC (cd : List Int) : Cu := ⟨0, nwH cd (min cd.length 4000)⟩
def K_new_sat : Nat → List Nat := fun i => ([[0], [0, 3], [0, 3, 4], [0, 3, 4, 15], [0, 3, 4], [0, 3, 4], [2]] : List (List Nat)).getD i []
attribute [go_sem] K_new_sat
def new_sat_S : List El → Int → Int → Prop := fun bs i h => ∃ (cd : List Int), (cd.length ≤ 1048576) ∧ bs = bys cd ∧ i = ((nwC cd).p : Int) ∧ h = (nwC cd).q
theorem new_sat : SatN Try.prog 31 83 new_sat_S := by
  refine satN_of tok okr mixed K_new_sat Try.func31 rfl (r := .tmp 2) rfl Try.ntmps31 (by decide) ?_
  rintro bs i h ⟨cd, hpre, rfl, rfl, rfl⟩ u
  repeat' (first|(refine ya ?_;first|refine ye ?_)|(refine yg ?_;intro hgs;first|(replace hgs:=zgy hgs;first|refine yy hgs ?_;clear hgs)|(refine yn (zgn hgs) ?_;clear hgs)|((fail_if_success have:=zgy hgs);refine z_spl hgs (h1:=?_) (h2:=?_)<;>clear hgs<;>intro hg hr<;>try first|contradiction|exfalso;omega))|refine yz ?_|refine zst ?_|refine k_blk_other rfl ?_|(refine zk ?_ ?_<;>intro hc hr<;>try first|contradiction|exfalso;omega))
  refine z_loop (fun i : Nat => [(4, aI i), (3, aI (nwH cd i))]) (fun i : Nat => []) (fun i : Nat => i ≤ min cd.length 4000) (fun i : Nat => 4000 - i) (0) (h0 := ?_) (henv := ?_) (hobj := ?_) (h := ?_)
  · omega
  · simp [go_sem, AVm, CVm, lookS, nwH]
  · simp [go_sem, OBm, CVm, lookS, All2, nwH]
  intro i hi
  rcases Nat.lt_or_ge i (min cd.length 4000) with hlt | hge
  · have hs : nwH cd (i + 1) = bAnd (w64 (w64 (w64 (nwH cd i * 131) + w64 (ix cd i)) + 7)) 1073741823 := rfl
    have h1 : i < cd.length := by omega
    have h2 : (i : Int) < 4000 := by omega
    repeat' (first|(refine ya ?_;first|refine ye ?_)|(refine yg ?_;intro hgs;first|(replace hgs:=zgy hgs;first|refine yy hgs ?_;clear hgs)|(refine yn (zgn hgs) ?_;clear hgs)|((fail_if_success have:=zgy hgs);refine z_spl hgs (h1:=?_) (h2:=?_)<;>clear hgs<;>intro hg hr<;>try first|contradiction|exfalso;omega))|refine yz ?_|refine zst ?_|refine k_blk_other rfl ?_|(refine zk ?_ ?_<;>intro hc hr<;>try first|contradiction|exfalso;omega))
    (refine z_lop (i + 1) (hj := ?_) (hmu := ?_) (henv := ?_) (hobj := ?_); (· omega); (· first | omega | (simp only; omega)); (· first | (simp [go_sem, AVm, CVm, lookS, hs, *]; done) | (simp [go_sem, AVm, CVm, lookS, hs, *] <;> (repeat' split) <;> first | omega | (simp_all; done) | (exfalso; omega) | (simp_all; omega))); (· first | (simp [go_sem, OBm, CVm, All2, lookS, hs, *]; done) | (simp [go_sem, OBm, CVm, All2, lookS, hs, *] <;> (repeat' split) <;> first | omega | (simp_all; done) | (exfalso; omega) | (simp_all; omega))))
  · have hii : i = min cd.length 4000 := by omega
    have hor : ¬ i < cd.length ∨ ¬ (i : Int) < 4000 := by omega
    repeat' (first|(refine ya ?_;first|refine ye ?_)|(refine yg ?_;intro hgs;first|(replace hgs:=zgy hgs;first|refine yy hgs ?_;clear hgs)|(refine yn (zgn hgs) ?_;clear hgs)|((fail_if_success have:=zgy hgs);refine z_spl hgs (h1:=?_) (h2:=?_)<;>clear hgs<;>intro hg hr<;>try first|contradiction|exfalso;omega))|refine yz ?_|refine zst ?_|refine k_blk_other rfl ?_|(refine zk ?_ ?_<;>intro hc hr<;>try first|contradiction|exfalso;omega))
    all_goals (refine ⟨_, rfl, ?_⟩)
    all_goals first | (simp only [nwC, ← hii]; rfl) | (have e : min cd.length 4000 = cd.length := by omega
                                                       simp only [nwC, e]; rfl)
instance : ConN Try.prog 31 83 new_sat_S := conN new_sat Try.func31
def K_byte_sat : Nat → List Nat := fun i => ([[0], [0], [0, 3], [0, 3, 34], [0, 3], [3], [2]] : List (List Nat)).getD i []
attribute [go_sem] K_byte_sat
def byte_sat_S : SpecB := fun args bs i h av objs i' h' => ∃ (cd : List Int) (cu : Cu) , (cd.length ≤ 1048576) ∧ args = [aC] ∧ bs = bys cd ∧ i = (cu.p : Int) ∧ h = cu.q ∧ av = aI (byV cd cu) ∧ objs = [] ∧ i' = ((byS cd cu).p : Int) ∧ h' = (byS cd cu).q
theorem byte_sat : SatB Try.prog 71 83 byte_sat_S := by
  refine satB_of tok okr mixed K_byte_sat Try.func71 rfl (rs := [.tmp 2]) rfl Try.ntmps71 ?_
  rintro args bs i h av objs i' h' ⟨cd, cu, hpre, rfl, rfl, rfl, rfl, rfl, rfl, rfl, rfl⟩
  refine ⟨by show 1 ≤ 58; decide, fun u S W pv => ?_⟩
  by_cases h : cu.p < cd.length
  · have e1 : byV cd cu = bAnd (w64 (byX cu.q + w64 (ix cd cu.p))) 255 := by unfold byV; rw [if_pos h]
    have e2 : byS cd cu = ⟨cu.p + 1, byH cu.q⟩ := by unfold byS; rw [if_pos h]
    rw [e1, e2]
    repeat' (first|(refine ya ?_;first|refine ye ?_)|refine yz ?_|(refine yA ?_;first|refine yE ?_)|refine yZ ?_|refine zst ?_|refine k_blk_other rfl ?_|(refine zk ?_ ?_<;>intro hc hr<;>try first|contradiction|exfalso;omega))
    all_goals first | (refine z_retB (hv := ?_) (ho := ?_) (hc := ?_) <;> first | rfl | (simp [go_sem, byX, byH, *]; done) | (simp_all [byX, byH]; done) | (simp_all [byX, byH]; omega)) | skip
  · have e1 : byV cd cu = byX cu.q := by unfold byV; rw [if_neg h]
    have e2 : byS cd cu = ⟨cu.p, byH cu.q⟩ := by unfold byS; rw [if_neg h]
    rw [e1, e2]
    repeat' (first|(refine ya ?_;first|refine ye ?_)|refine yz ?_|(refine yA ?_;first|refine yE ?_)|refine yZ ?_|refine zst ?_|refine k_blk_other rfl ?_|(refine zk ?_ ?_<;>intro hc hr<;>try first|contradiction|exfalso;omega))
    all_goals first | (refine z_retB (hv := ?_) (ho := ?_) (hc := ?_) <;> first | rfl | (simp [go_sem, byX, byH, *]; done) | (simp_all [byX, byH]; done) | (simp_all [byX, byH]; omega)) | skip
instance : ConB Try.prog 71 83 byte_sat_S := conB byte_sat Try.func71
def K_below_sat : Nat → List Nat := fun i => ([[0, 1], [0, 1, 10], [4], [0, 1, 12], [4], [0, 1, 5], [0, 1, 5, 6], [0, 1, 5, 6, 7], [1, 5, 6, 7, 8], [4]] : List (List Nat)).getD i []
attribute [go_sem] K_below_sat
def below_sat_S : SpecB := fun args bs i h av objs i' h' => ∃ (cd : List Int) (cu : Cu) (n : Int), (cd.length ≤ 1048576 ∧ n ≤ 256) ∧ args = [aC, aI n] ∧ bs = bys cd ∧ i = (cu.p : Int) ∧ h = cu.q ∧ av = aI (beV cd cu n) ∧ objs = [] ∧ i' = ((beS cd cu n).p : Int) ∧ h' = (beS cd cu n).q
theorem below_sat : SatB Try.prog 42 83 below_sat_S := by
  refine satB_of tok okr mixed K_below_sat Try.func42 rfl (rs := [.tmp 4]) rfl Try.ntmps42 ?_
  rintro args bs i h av objs i' h' ⟨cd, cu, n, hpre, rfl, rfl, rfl, rfl, rfl, rfl, rfl, rfl⟩
  refine ⟨by show 2 ≤ 37; decide, fun u S W pv => ?_⟩
  obtain ⟨hcd, hn⟩ := hpre
  rcases Int.lt_or_le 0 n with h0 | h0
  · rw [(beV_n cd cu h0).1, (beV_n cd cu h0).2]
    have hv := byV_rg cd cu
    have hn0 : n ≠ 0 := by omega
    repeat' (first|(refine ya ?_;first|(refine yb ?_;first|refine yq ?_)|refine ye ?_)|refine yz ?_|refine zst ?_|refine k_blk_other rfl ?_|(refine zk ?_ ?_<;>intro hc hr<;>try first|contradiction|exfalso;omega))
    all_goals first | (refine z_retB (hv := ?_) (ho := ?_) (hc := ?_) <;> first | rfl | (simp [go_sem, *]; done) | (simp_all; done) | (simp_all; omega)) | skip
  · rw [(beV_0 cd cu h0).1, (beV_0 cd cu h0).2]
    repeat' (first|(refine ya ?_;first|(refine yb ?_;first|refine yq ?_)|refine ye ?_)|refine yz ?_|refine zst ?_|refine k_blk_other rfl ?_|(refine zk ?_ ?_<;>intro hc hr<;>try first|contradiction|exfalso;omega))
    all_goals first | (refine z_retB (hv := ?_) (ho := ?_) (hc := ?_) <;> first | rfl | (simp [go_sem, *]; done) | (simp_all; done) | (simp_all; omega)) | skip
instance : ConB Try.prog 42 83 below_sat_S := conB below_sat Try.func42
def K_once_sat : Nat → List Nat := fun i => ([[0, 1], [4]] : List (List Nat)).getD i []
attribute [go_sem] K_once_sat
def once_sat_S : SpecB := fun args bs i h av objs i' h' => ∃ (cd : List Int) (cu : Cu) (n : Int), (cd.length ≤ 1048576 ∧ n ≤ 256) ∧ args = [aC, aI n] ∧ bs = bys cd ∧ i = (cu.p : Int) ∧ h = cu.q ∧ av = aB (beV cd cu n == 0) ∧ objs = [] ∧ i' = ((beS cd cu n).p : Int) ∧ h' = (beS cd cu n).q
theorem once_sat : SatB Try.prog 59 83 once_sat_S := by
  refine satB_of tok okr mixed K_once_sat Try.func59 rfl (rs := [.tmp 4]) rfl Try.ntmps59 ?_
  rintro args bs i h av objs i' h' ⟨cd, cu, n, hpre, rfl, rfl, rfl, rfl, rfl, rfl, rfl, rfl⟩
  refine ⟨by show 2 ≤ 9; decide, fun u S W pv => ?_⟩
  obtain ⟨hcd, hn⟩ := hpre
  repeat' (first|(refine ya ?_;first|(refine yb ?_;first|refine yq ?_)|refine ye ?_)|refine yz ?_|refine zst ?_|refine k_blk_other rfl ?_|(refine zk ?_ ?_<;>intro hc hr<;>try first|contradiction|exfalso;omega))
  all_goals first | (refine z_retB (hv := ?_) (ho := ?_) (hc := ?_) <;> first | rfl | (simp [go_sem, *]; done) | (simp_all; done) | (simp_all; omega)) | skip
/-- Lists of numbers, as they lie. -/
def okI : List El → Bool
  | [] => true
  | [.int _] :: r => okI r
  | _ => false
attribute [simp] okI
def elI (xs : List El) (i : Nat) : Int := match xs[i]? with
  | some [.int n] => n
  | _ => 0
theorem okI_ints : ∀ {xs : List El}, okI xs = true → ∃ l, xs = ints l
  | [], _ => ⟨[], rfl⟩
  | [.int n] :: r, h => by
    obtain ⟨l, rfl⟩ := okI_ints (xs := r) h
    exact ⟨n :: l, rfl⟩
  | [] :: _, h => by simp [okI] at h
  | [.bool _] :: _, h => by simp [okI] at h
  | [.str _] :: _, h => by simp [okI] at h
  | [.u8 _] :: _, h => by simp [okI] at h
  | (_ :: _ :: _) :: _, h => by simp [okI] at h
theorem elI_ints (l : List Int) (i : Nat) : elI (ints l) i = ix l i := by
  unfold elI
  rcases Nat.lt_or_ge i l.length with h | h
  · rw [intsAt h]
  · have : (ints l)[i]? = none := by simp [ints]; omega
    rw [this]
    simp [ix, h]
instance : ConB Try.prog 59 83 once_sat_S := conB once_sat Try.func59
def K_pick_sat : Nat → List Nat := fun i => ([[0, 1], [4]] : List (List Nat)).getD i []
attribute [go_sem] K_pick_sat
def pick_sat_S : SpecB := fun args bs i h av objs i' h' => ∃ (cd : List Int) (cu : Cu) (xs : List El), (cd.length ≤ 1048576 ∧ (0 < xs.length ∧ xs.length ≤ 256) ∧ okI xs = true) ∧ args = [aC, .one (.imm 1 xs)] ∧ bs = bys cd ∧ i = (cu.p : Int) ∧ h = cu.q ∧ av = aI (elI xs (beV cd cu xs.length).toNat) ∧ objs = [] ∧ i' = ((beS cd cu xs.length).p : Int) ∧ h' = (beS cd cu xs.length).q
theorem pick_sat : SatB Try.prog 64 83 pick_sat_S := by
  refine satB_of tok okr mixed K_pick_sat Try.func64 rfl (rs := [.tmp 4]) rfl Try.ntmps64 ?_
  rintro args bs i h av objs i' h' ⟨cd, cu, xs, hpre, rfl, rfl, rfl, rfl, rfl, rfl, rfl, rfl⟩
  refine ⟨by show 2 ≤ 12; decide, fun u S W pv => ?_⟩
  obtain ⟨hcd, ⟨hn, hn2⟩, hI⟩ := hpre
  obtain ⟨l, rfl⟩ := okI_ints hI
  rw [elI_ints]
  rw [intsLen] at *
  have hb := beV_rg cd cu (n := l.length) (by omega)
  repeat' (first|(refine ya ?_;first|(refine yb ?_;first|refine yq ?_)|refine ye ?_)|refine yz ?_|refine zst ?_|refine k_blk_other rfl ?_|(refine zk ?_ ?_<;>intro hc hr<;>try first|contradiction|exfalso;omega))
  all_goals first | (refine z_retB (hv := ?_) (ho := ?_) (hc := ?_) <;> first | rfl | (simp [go_sem, *]; done) | (simp_all; done) | (simp_all; omega)) | skip
instance : ConB Try.prog 64 83 pick_sat_S := conB pick_sat Try.func64
end Go.Proofs.Try
