import Derived.Test.YtfapjflogjblaaaGreatA
import Derived.Test.YtfapjflogjblaaaGreatC
import Derived.Test.YtfapjflogjblaaaGreatE2
set_option maxHeartbeats 16000000
set_option maxRecDepth 20000
set_option linter.unusedVariables false
set_option linter.unusedSimpArgs false
set_option linter.unnecessarySimpa false
namespace Go.Proofs.Tryz
open Go Go.Eng
structure Cu where
  p : Nat
  q : Int
def bys (l : List Int) : List El := l.map fun n => [.u8 n]
theorem bysLen (l : List Int) : (bys l).length = l.length := by simp [bys]
theorem bysAt {l : List Int} {i : Nat} (h : i < l.length) : (bys l)[i]? = some [.u8 (ix l i)] := by
  simp [bys, ix, h]
attribute [go_sem] bysLen bysAt
def byH (q : Int) : Int := w64 (w64 (q * 6364136223846793005) + 1442695040888963407)
def byX (q : Int) : Int := bAnd (bXor (bShr (byH q) 33) (bShr (byH q) 45)) 255
def byV (cd : List Int) (c : Cu) : Int := if c.p < cd.length then bAnd (w64 (byX c.q + w64 (ix cd c.p))) 255 else byX c.q
def byS (cd : List Int) (c : Cu) : Cu := ⟨if c.p < cd.length then c.p + 1 else c.p, byH c.q⟩
theorem bAnd_rg (a : Int) : 0 ≤ bAnd a 255 ∧ bAnd a 255 ≤ 255 := by
  unfold bAnd
  have h : (BitVec.ofInt 64 a &&& BitVec.ofInt 64 255).toNat ≤ 255 := by
    rw [BitVec.toNat_and]
    exact Nat.le_trans Nat.and_le_right (by decide)
  generalize (BitVec.ofInt 64 a &&& BitVec.ofInt 64 255).toNat = n at h
  have : IntKind.i64.wrap n = (n : Int) := by rw [IntKind.wrap_i64]; omega
  rw [this]; omega
theorem byV_rg (cd : List Int) (c : Cu) : 0 ≤ byV cd c ∧ byV cd c ≤ 255 := by
  unfold byV
  split
  · exact bAnd_rg _
  · exact bAnd_rg _
def beV (cd : List Int) (c : Cu) (n : Int) : Int := if n ≤ 0 then 0 else (byV cd c).tmod n
def beS (cd : List Int) (c : Cu) (n : Int) : Cu := if n ≤ 0 then c else byS cd c
theorem beV_rg (cd : List Int) (c : Cu) {n : Int} (h : 0 < n) : 0 ≤ beV cd c n ∧ beV cd c n < n := by
  have := byV_rg cd c
  unfold beV
  rw [if_neg (by omega)]
  exact ⟨Int.tmod_nonneg _ this.1, Int.tmod_lt_of_pos _ h⟩
theorem beV_0 (cd : List Int) (c : Cu) {n : Int} (h : n ≤ 0) : beV cd c n = 0 ∧ beS cd c n = c := by
  unfold beV beS; rw [if_pos h, if_pos h]; exact ⟨rfl, rfl⟩
theorem beV_n (cd : List Int) (c : Cu) {n : Int} (h : 0 < n) : beV cd c n = (byV cd c).tmod n ∧ beS cd c n = byS cd c := by
  unfold beV beS; rw [if_neg (by omega), if_neg (by omega)]; exact ⟨rfl, rfl⟩
def nwH (cd : List Int) : Nat → Int
  | 0 => 10101 + cd.length
  | i + 1 => bAnd (w64 (w64 (w64 (nwH cd i * 131) + w64 (ix cd i)) + 7)) 1073741823
def nwC (cd : List Int) : Cu := ⟨0, nwH cd (min cd.length 4000)⟩
@[go_sem] def K_new_sat (i : Nat) : List Nat := ([[0],[0,3],[0,3,4],[0,3,4,15],[0,3,4],[0,3,4],[2]]).getD i []
def new_sat_S : List El → Int → Int → Prop := fun bs i h => ∃ (cd : List Int), (cd.length ≤ 1048576) ∧ bs = bys cd ∧ i = ((nwC cd).p : Int) ∧ h = (nwC cd).q
theorem new_sat : SatN Tryz.prog 56 89 new_sat_S := by
  refine satN_of tok okr mixed K_new_sat Tryz.func56 rfl (r := .tmp 2) rfl Tryz.ntmps56 (by decide) ?_
  rintro bs i h ⟨cd, hpre, rfl, rfl, rfl⟩ u
  repeat' (first|(refine ya ?_;first|refine ye ?_)|(refine yg ?_;intro hq;first|(replace hq:=zgy hq;first|refine yy hq ?_;clear hq)|(refine yn (zgn hq) ?_;clear hq)|((fail_if_success have:=zgy hq);refine zs hq ?_ ?_<;>clear hq<;>intro hg hr<;>try exact zx))|refine yz ?_|refine zst ?_|refine zo ?_|(refine zk ?_ ?_<;>intro hc hr<;>try exact zx))
  refine z_loop (fun i : Nat => [(4, aI i), (3, aI (nwH cd i))]) (fun i : Nat => []) (fun i : Nat => i ≤ min cd.length 4000) (fun i : Nat => 4000 - i) (0) (h0 := ?_) (henv := ?_) (hobj := ?_) (h := ?_)
  · omega
  · simp [go_sem, AVm, CVm, lookS, nwH]
  · simp [go_sem, OBm, CVm, lookS, All2, nwH]
  intro i hi
  rcases Nat.lt_or_ge i (min cd.length 4000) with hlt | hge
  · have hs : nwH cd (i + 1) = bAnd (w64 (w64 (w64 (nwH cd i * 131) + w64 (ix cd i)) + 7)) 1073741823 := rfl
    have h1 : i < cd.length := by omega
    have h2 : (i : Int) < 4000 := by omega
    repeat' (first|(refine ya ?_;first|refine ye ?_)|(refine yg ?_;intro hq;first|(replace hq:=zgy hq;first|refine yy hq ?_;clear hq)|(refine yn (zgn hq) ?_;clear hq)|((fail_if_success have:=zgy hq);refine zs hq ?_ ?_<;>clear hq<;>intro hg hr<;>try exact zx))|refine yz ?_|refine zst ?_|refine zo ?_|(refine zk ?_ ?_<;>intro hc hr<;>try exact zx))
    (refine zm (i + 1) ?_ ?_ <;> simp [go_sem, AVm, OBm, CVm, All2, lookS, hs, *] <;> exact zt)
  · have hii : i = min cd.length 4000 := by omega
    have hor : ¬ i < cd.length ∨ ¬ (i : Int) < 4000 := by omega
    repeat' (first|(refine ya ?_;first|refine ye ?_)|(refine yg ?_;intro hq;first|(replace hq:=zgy hq;first|refine yy hq ?_;clear hq)|(refine yn (zgn hq) ?_;clear hq)|((fail_if_success have:=zgy hq);refine zs hq ?_ ?_<;>clear hq<;>intro hg hr<;>try exact zx))|refine yz ?_|refine zst ?_|refine zo ?_|(refine zk ?_ ?_<;>intro hc hr<;>try exact zx))
    all_goals (refine ⟨_, rfl, ?_⟩)
    all_goals first | (simp only [nwC, ← hii]; rfl) | (have e : min cd.length 4000 = cd.length := by omega
                                                       simp only [nwC, e]; rfl)
instance : ConN Tryz.prog 56 89 new_sat_S := conN new_sat Tryz.func56
@[go_sem] def K_byte_sat (i : Nat) : List Nat := ([[0],[0],[0,3],[0,3,34],[0,3],[3],[2]]).getD i []
def byte_sat_S : SpecB := fun args bs i h av objs i' h' => ∃ (cd : List Int) (cu : Cu) , (cd.length ≤ 1048576) ∧ args = [aC] ∧ bs = bys cd ∧ i = (cu.p : Int) ∧ h = cu.q ∧ av = aI (byV cd cu) ∧ objs = [] ∧ i' = ((byS cd cu).p : Int) ∧ h' = (byS cd cu).q
theorem byte_sat : SatB Tryz.prog 120 89 byte_sat_S := by
  refine satB_of tok okr mixed K_byte_sat Tryz.func120 rfl (rs := [.tmp 2]) rfl Tryz.ntmps120 ?_
  rintro args bs i h av objs i' h' ⟨cd, cu, hpre, rfl, rfl, rfl, rfl, rfl, rfl, rfl, rfl⟩
  refine ⟨by show 1 ≤ 58; decide, fun u S W pv => ?_⟩
  by_cases h : cu.p < cd.length
  · have e1 : byV cd cu = bAnd (w64 (byX cu.q + w64 (ix cd cu.p))) 255 := by unfold byV; rw [if_pos h]
    have e2 : byS cd cu = ⟨cu.p + 1, byH cu.q⟩ := by unfold byS; rw [if_pos h]
    rw [e1, e2]
    repeat' (first|(refine ya ?_;first|refine ye ?_)|refine yz ?_|(refine yA ?_;first|refine yE ?_)|refine yZ ?_|refine zst ?_|refine zo ?_|(refine zk ?_ ?_<;>intro hc hr<;>try exact zx))
    all_goals first | (refine z_retB (hv := ?_) (ho := ?_) (hc := ?_) <;> first | rfl | (simp [go_sem, byX, byH, *]; done) | (simp_all [byX, byH]; done) | (simp_all [byX, byH]; omega)) | skip
  · have e1 : byV cd cu = byX cu.q := by unfold byV; rw [if_neg h]
    have e2 : byS cd cu = ⟨cu.p, byH cu.q⟩ := by unfold byS; rw [if_neg h]
    rw [e1, e2]
    repeat' (first|(refine ya ?_;first|refine ye ?_)|refine yz ?_|(refine yA ?_;first|refine yE ?_)|refine yZ ?_|refine zst ?_|refine zo ?_|(refine zk ?_ ?_<;>intro hc hr<;>try exact zx))
    all_goals first | (refine z_retB (hv := ?_) (ho := ?_) (hc := ?_) <;> first | rfl | (simp [go_sem, byX, byH, *]; done) | (simp_all [byX, byH]; done) | (simp_all [byX, byH]; omega)) | skip
instance : ConB Tryz.prog 120 89 byte_sat_S := conB byte_sat Tryz.func120
@[go_sem] def K_below_sat (i : Nat) : List Nat := ([[0,1],[0,1,10],[4],[0,1,12],[4],[0,1,5],[0,1,5,6],[0,1,5,6,7],[1,5,6,7,8],[4]]).getD i []
def below_sat_S : SpecB := fun args bs i h av objs i' h' => ∃ (cd : List Int) (cu : Cu) (n : Int), (cd.length ≤ 1048576 ∧ n ≤ 256) ∧ args = [aC, aI n] ∧ bs = bys cd ∧ i = (cu.p : Int) ∧ h = cu.q ∧ av = aI (beV cd cu n) ∧ objs = [] ∧ i' = ((beS cd cu n).p : Int) ∧ h' = (beS cd cu n).q
theorem below_sat : SatB Tryz.prog 82 89 below_sat_S := by
  refine satB_of tok okr mixed K_below_sat Tryz.func82 rfl (rs := [.tmp 4]) rfl Tryz.ntmps82 ?_
  rintro args bs i h av objs i' h' ⟨cd, cu, n, hpre, rfl, rfl, rfl, rfl, rfl, rfl, rfl, rfl⟩
  refine ⟨by show 2 ≤ 37; decide, fun u S W pv => ?_⟩
  obtain ⟨hcd, hn⟩ := hpre
  rcases Int.lt_or_le 0 n with h0 | h0
  · rw [(beV_n cd cu h0).1, (beV_n cd cu h0).2]
    have hv := byV_rg cd cu
    have hn0 : n ≠ 0 := by omega
    repeat' (first|(refine ya ?_;first|(refine yb ?_;first|refine yq ?_)|refine ye ?_)|refine yz ?_|refine zst ?_|refine zo ?_|(refine zk ?_ ?_<;>intro hc hr<;>try exact zx))
    all_goals try exact zb
  · rw [(beV_0 cd cu h0).1, (beV_0 cd cu h0).2]
    repeat' (first|(refine ya ?_;first|(refine yb ?_;first|refine yq ?_)|refine ye ?_)|refine yz ?_|refine zst ?_|refine zo ?_|(refine zk ?_ ?_<;>intro hc hr<;>try exact zx))
    all_goals try exact zb
instance : ConB Tryz.prog 82 89 below_sat_S := conB below_sat Tryz.func82
@[go_sem] def K_once_sat (i : Nat) : List Nat := ([[0,1],[4]]).getD i []
def once_sat_S : SpecB := fun args bs i h av objs i' h' => ∃ (cd : List Int) (cu : Cu) (n : Int), (cd.length ≤ 1048576 ∧ n ≤ 256) ∧ args = [aC, aI n] ∧ bs = bys cd ∧ i = (cu.p : Int) ∧ h = cu.q ∧ av = aB (beV cd cu n == 0) ∧ objs = [] ∧ i' = ((beS cd cu n).p : Int) ∧ h' = (beS cd cu n).q
theorem once_sat : SatB Tryz.prog 80 89 once_sat_S := by
  refine satB_of tok okr mixed K_once_sat Tryz.func80 rfl (rs := [.tmp 4]) rfl Tryz.ntmps80 ?_
  rintro args bs i h av objs i' h' ⟨cd, cu, n, hpre, rfl, rfl, rfl, rfl, rfl, rfl, rfl, rfl⟩
  refine ⟨by show 2 ≤ 9; decide, fun u S W pv => ?_⟩
  obtain ⟨hcd, hn⟩ := hpre
  repeat' (first|(refine ya ?_;first|(refine yb ?_;first|refine yq ?_)|refine ye ?_)|refine yz ?_|refine zst ?_|refine zo ?_|(refine zk ?_ ?_<;>intro hc hr<;>try exact zx))
  all_goals try exact zb
def okI : List El → Bool
  | [] => true
  | [.int _] :: r => okI r
  | _ => false
attribute [simp] okI
def elI (xs : List El) (i : Nat) : Int := match xs[i]? with
  | some [.int n] => n
  | _ => 0
theorem okI_ints : ∀ {xs : List El}, okI xs = true → ∃ l, xs = ints l
  | [], _ => ⟨[], rfl⟩
  | [.int n] :: r, h => by
    obtain ⟨l, rfl⟩ := okI_ints (xs := r) h
    exact ⟨n :: l, rfl⟩
  | [] :: _, h => by simp [okI] at h
  | [.bool _] :: _, h => by simp [okI] at h
  | [.str _] :: _, h => by simp [okI] at h
  | [.u8 _] :: _, h => by simp [okI] at h
  | (_ :: _ :: _) :: _, h => by simp [okI] at h
theorem elI_ints (l : List Int) (i : Nat) : elI (ints l) i = ix l i := by
  unfold elI
  rcases Nat.lt_or_ge i l.length with h | h
  · rw [intsAt h]
  · have : (ints l)[i]? = none := by simp [ints]; omega
    rw [this]
    simp [ix, h]
instance : ConB Tryz.prog 80 89 once_sat_S := conB once_sat Tryz.func80
@[go_sem] def K_pick_sat (i : Nat) : List Nat := ([[0,1],[4]]).getD i []
def pick_sat_S : SpecB := fun args bs i h av objs i' h' => ∃ (cd : List Int) (cu : Cu) (xs : List El), (cd.length ≤ 1048576 ∧ (0 < xs.length ∧ xs.length ≤ 256) ∧ okI xs = true) ∧ args = [aC, .one (.imm 1 xs)] ∧ bs = bys cd ∧ i = (cu.p : Int) ∧ h = cu.q ∧ av = aI (elI xs (beV cd cu xs.length).toNat) ∧ objs = [] ∧ i' = ((beS cd cu xs.length).p : Int) ∧ h' = (beS cd cu xs.length).q
theorem pick_sat : SatB Tryz.prog 118 89 pick_sat_S := by
  refine satB_of tok okr mixed K_pick_sat Tryz.func118 rfl (rs := [.tmp 4]) rfl Tryz.ntmps118 ?_
  rintro args bs i h av objs i' h' ⟨cd, cu, xs, hpre, rfl, rfl, rfl, rfl, rfl, rfl, rfl, rfl⟩
  refine ⟨by show 2 ≤ 12; decide, fun u S W pv => ?_⟩
  obtain ⟨hcd, ⟨hn, hn2⟩, hI⟩ := hpre
  obtain ⟨l, rfl⟩ := okI_ints hI
  rw [elI_ints]
  rw [intsLen] at *
  have hb := beV_rg cd cu (n := l.length) (by omega)
  repeat' (first|(refine ya ?_;first|(refine yb ?_;first|refine yq ?_)|refine ye ?_)|refine yz ?_|refine zst ?_|refine zo ?_|(refine zk ?_ ?_<;>intro hc hr<;>try exact zx))
  all_goals try exact zb
instance : ConB Tryz.prog 118 89 pick_sat_S := conB pick_sat Tryz.func118
end Go.Proofs.Tryz
