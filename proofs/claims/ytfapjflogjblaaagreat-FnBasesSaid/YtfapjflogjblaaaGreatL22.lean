import Derived.Test.YtfapjflogjblaaaGreatD16
import Derived.Test.YtfapjflogjblaaaGreatD21
import Derived.Test.YtfapjflogjblaaaGreatD22
import Derived.Test.YtfapjflogjblaaaGreatQ18
import Derived.Test.YtfapjflogjblaaaGreatQ13
import Derived.Test.YtfapjflogjblaaaGreatQ12
import Derived.Test.YtfapjflogjblaaaGreatQ19
import Derived.Test.YtfapjflogjblaaaGreatJ3
set_option maxHeartbeats 16000000
set_option maxRecDepth 20000
set_option linter.unusedVariables false
set_option linter.unusedSimpArgs false
set_option linter.unnecessarySimpa false
namespace Go.Proofs.Tryz
open Go Go.Eng
theorem hom_refl (es : List Ed) : homB es es = true := homB_iff.2 ⟨fun v => v, rfl, fun v x h => ⟨h, rfl⟩⟩
theorem eul_rg (r z : Int) (es : List Ed) : -120 ≤ eulG r z es ∧ eulG r z es ≤ 40 := by
  unfold eulG
  split
  · rename_i h; have := isG_z h; omega
  · omega
theorem bases_law {r z : Int} {es : List Ed} (hc : isC r z es = true) : ((bsW r z es).length : Int) = rkO r z es ∧ rkO r z es = 1 - eulG r z es ∧ caB r z es (bsW r z es) = true ∧ (awB r (bsW r z es) = true → gaB r z es (bsW r z es) = true ∧ fbB r (bsW r z es) = true) := by
  have hf := isC_f hc
  have hr := ext_rank hc
  have hk : rkO r z es = es.length - z + 1 := by unfold rkO; rw [if_pos hc]
  refine ⟨by omega, ?_, ?_, fun hw => ?_⟩
  · rw [hk]; unfold eulG; rw [if_pos (isF_g hf)]; omega
  · unfold caB; rw [hc, caL_hom hf (isC_gone hc) hf, hom_refl]; rfl
  · have hs := sgG_eq hc hw
    constructor
    · unfold gaB; rw [hc, hw, hs]; simp
    · unfold fbB; rw [hw, hs]; simp [hk]; omega
theorem rwO_rg {r z : Int} {es : List Ed} {w : List Int} : ∀ x ∈ rwO r z es w, rg x := fun x hx => by
  unfold rwO at hx
  split at hx
  · have := extL_len (r := r) (z := z) (es := es)
    exact rwN_mem (by omega) _ x (red_mem hx)
  · cases hx
attribute [local irreducible] beV beS byV byS nwC l9A l9W isC bsW rkO eulG caB gaB fbB awB ctB rwO exV red dXl dXx dGW dGB l6Ar l6Aw
@[go_sem] def K_law22 (i : Nat) : List Nat := ([[0],[0,19],[2],[0,3],[0,3,4],[0,3,4,42],[2],[0,3,4,44],[0,3,4,63],[2],[0,80],[2],[0,5,6],[0,5,6,7,8],[0,5,6,7,8,9,10],[0,119],[2],[0,11,12],[0,11,12,13,14],[0,11,12,13,14,15,16],[11,12,13,14,15,16,17],[2]]).getD i []
def law22_S : Eng.Spec := fun args av objs => ∃ (cd : List Int), (cd.length ≤ 9223372036854775807) ∧ args = [.one (.imm 1 (bys cd))] ∧ av = aB true ∧ objs = []
theorem law22 : Sat Tryz.prog 3 law22_S := by
  refine sat_of tok okr mixed K_law22 Tryz.func3 rfl (rs := [.tmp 2]) rfl Tryz.ntmps3 ?_
  rintro args av objs ⟨cd, hpre, rfl, rfl, rfl⟩
  refine ⟨by show 1 ≤ 169; decide, ?_⟩
  by_cases hs0 : cd.length ≤ 1048576
  · have hes := l9A_es cd (nwC cd)
    have heu := eul_rg (l9A cd (nwC cd)).1.r (l9A cd (nwC cd)).1.z (l9A cd (nwC cd)).1.es
    obtain ⟨hw1, hw0⟩ := l9W_ok cd (l9A cd (nwC cd)).1 (l9A cd (nwC cd)).2
    have hw2 : ∀ x ∈ (l9W cd (l9A cd (nwC cd)).1 (l9A cd (nwC cd)).2).1, rg x := fun x hx => by have := hw0 x hx; unfold rg; omega
    obtain ⟨⟨ha1, ha2⟩, ha3, ha4, ha5⟩ := l6A_ok cd (nwC cd)
    have ha6 : ∀ w ∈ l6Aw cd (nwC cd), w.length ≤ 1048576 := fun w hw => by have := ha4 w hw; omega
    obtain ⟨hg1, hg2⟩ := dGW_ok cd
    have hg3 : ∀ w ∈ dGW cd, w.length ≤ 1048576 := fun w hw => by have := hg2 w hw; omega
    obtain ⟨hx1, hx2, hx3⟩ := dXl_ok cd
    have hx4 : ∀ w ∈ (dXl cd).1, w.length ≤ 1048576 := fun w hw => by have := hx2 w hw; omega
    have hx5 : ∀ w ∈ (dXl cd).1, ∀ x ∈ w, rg x := fun w hw x hx => by have := isW_sm (awB_all hx3 w hw) x hx; unfold rg; omega
    obtain ⟨hy1, hy0⟩ := dXx_ok cd
    have hy2 : ∀ x ∈ dXx cd, rg x := fun x hx => by have := hy0 x hx; unfold rg; omega
    have hev := exV_len (ws := (dXl cd).1) (l := dXx cd) hx4 hx5
    have hrl := red_len (l9W cd (l9A cd (nwC cd)).1 (l9A cd (nwC cd)).2).1
    have hol := rwO_len (r := (l9A cd (nwC cd)).1.r) (z := (l9A cd (nwC cd)).1.z) (es := (l9A cd (nwC cd)).1.es) (w := (l9W cd (l9A cd (nwC cd)).1 (l9A cd (nwC cd)).2).1)
    have hor := rwO_rg (r := (l9A cd (nwC cd)).1.r) (z := (l9A cd (nwC cd)).1.z) (es := (l9A cd (nwC cd)).1.es) (w := (l9W cd (l9A cd (nwC cd)).1 (l9A cd (nwC cd)).2).1)
    clear hw0 ha4 ha5 hg2 hx2 hx3 hy0
    cases hc : isC (l9A cd (nwC cd)).1.r (l9A cd (nwC cd)).1.z (l9A cd (nwC cd)).1.es
    · have hct : ctB (l9A cd (nwC cd)).1.r (l9A cd (nwC cd)).1.z (l9A cd (nwC cd)).1.es (l9W cd (l9A cd (nwC cd)).1 (l9A cd (nwC cd)).2).1 = false := by unfold ctB; rw [hc]; rfl
      repeat' (first|(refine ya ?_;first|(refine yb ?_;first|refine z_fn formatIndices_sat Tryz.func32 (hSp := by refine ⟨_, ?_, ?_, rfl, rfl, rfl⟩; exact zp; exact zp) (k0 := ?_) | refine z_fn formatIndices_sat2 Tryz.func33 (hSp := by refine ⟨_, ?_, ?_, rfl, rfl, rfl⟩; exact zp; exact zp) (k0 := ?_) | refine z_fn basis_no Tryz.func7 (hSp := by refine ⟨_, _, _, ⟨?_, ?_⟩, rfl, rfl, rfl⟩; exact zp; exact zp) (k0 := ?_) | refine z_fn basis_no2 Tryz.func9 (hSp := by refine ⟨_, _, _, ⟨?_, ?_⟩, rfl, rfl, rfl⟩; exact zp; exact zp) (k0 := ?_) | refine yc ?_)|refine ye ?_)|((first|refine yg ?_|refine yG ?_);intro hq;first|(replace hq:=zgy hq;first|(refine yb ?_;first|refine z_fn formatIndices_sat Tryz.func32 (hSp := by refine ⟨_, ?_, ?_, rfl, rfl, rfl⟩; exact zp; exact zp) (k0 := ?_) | refine z_fn formatIndices_sat2 Tryz.func33 (hSp := by refine ⟨_, ?_, ?_, rfl, rfl, rfl⟩; exact zp; exact zp) (k0 := ?_) | refine z_fn basis_no Tryz.func7 (hSp := by refine ⟨_, _, _, ⟨?_, ?_⟩, rfl, rfl, rfl⟩; exact zp; exact zp) (k0 := ?_) | refine z_fn basis_no2 Tryz.func9 (hSp := by refine ⟨_, _, _, ⟨?_, ?_⟩, rfl, rfl, rfl⟩; exact zp; exact zp) (k0 := ?_) | refine yc ?_)|(refine yB ?_;first|refine z_fnl formatIndices_sat Tryz.func32 (hSp := by refine ⟨_, ?_, ?_, rfl, rfl, rfl⟩; exact zp; exact zp) (k0 := ?_) | refine z_fnl formatIndices_sat2 Tryz.func33 (hSp := by refine ⟨_, ?_, ?_, rfl, rfl, rfl⟩; exact zp; exact zp) (k0 := ?_) | refine z_fnl basis_no Tryz.func7 (hSp := by refine ⟨_, _, _, ⟨?_, ?_⟩, rfl, rfl, rfl⟩; exact zp; exact zp) (k0 := ?_) | refine z_fnl basis_no2 Tryz.func9 (hSp := by refine ⟨_, _, _, ⟨?_, ?_⟩, rfl, rfl, rfl⟩; exact zp; exact zp) (k0 := ?_) | refine yC ?_)|refine yy hq ?_|refine yY hq ?_;clear hq)|((first|refine yn (zgn hq) ?_|refine yN (zgn hq) ?_);clear hq)|((fail_if_success have:=zgy hq);(first|refine zs hq ?_ ?_|refine zS hq ?_ ?_)<;>clear hq<;>intro hg hr<;>try exact zx))|refine yt ?_|refine yz ?_|(refine yA ?_;first|(refine yB ?_;first|refine z_fnl formatIndices_sat Tryz.func32 (hSp := by refine ⟨_, ?_, ?_, rfl, rfl, rfl⟩; exact zp; exact zp) (k0 := ?_) | refine z_fnl formatIndices_sat2 Tryz.func33 (hSp := by refine ⟨_, ?_, ?_, rfl, rfl, rfl⟩; exact zp; exact zp) (k0 := ?_) | refine z_fnl basis_no Tryz.func7 (hSp := by refine ⟨_, _, _, ⟨?_, ?_⟩, rfl, rfl, rfl⟩; exact zp; exact zp) (k0 := ?_) | refine z_fnl basis_no2 Tryz.func9 (hSp := by refine ⟨_, _, _, ⟨?_, ?_⟩, rfl, rfl, rfl⟩; exact zp; exact zp) (k0 := ?_) | refine yC ?_)|refine yE ?_)|refine yT ?_|refine yZ ?_|refine zst ?_|refine zo ?_|(refine zk ?_ ?_<;>intro hc hr<;>try exact zx))
      all_goals try exact zv
    · have hf := isC_f hc
      obtain ⟨g1, g2, g3, g4⟩ := bases_law hc
      have b1 := bsW_len (r := (l9A cd (nwC cd)).1.r) (z := (l9A cd (nwC cd)).1.z) (es := (l9A cd (nwC cd)).1.es)
      have b2 : ∀ w ∈ bsW (l9A cd (nwC cd)).1.r (l9A cd (nwC cd)).1.z (l9A cd (nwC cd)).1.es, w.length ≤ 1048576 := fun w hw => by have := (bsW_ok hf w hw).1; omega
      have b3 : ∀ w ∈ bsW (l9A cd (nwC cd)).1.r (l9A cd (nwC cd)).1.z (l9A cd (nwC cd)).1.es, ∀ x ∈ w, rg x := fun w hw => (bsW_ok hf w hw).2
      have b4 : ∀ w ∈ bsW (l9A cd (nwC cd)).1.r (l9A cd (nwC cd)).1.z (l9A cd (nwC cd)).1.es, w.length ≤ 4194304 := fun w hw => by have := b2 w hw; omega
      have e1 : rkO (l9A cd (nwC cd)).1.r (l9A cd (nwC cd)).1.z (l9A cd (nwC cd)).1.es = ((bsW (l9A cd (nwC cd)).1.r (l9A cd (nwC cd)).1.z (l9A cd (nwC cd)).1.es).length : Int) := g1.symm
      have e3 : 1 - eulG (l9A cd (nwC cd)).1.r (l9A cd (nwC cd)).1.z (l9A cd (nwC cd)).1.es = ((bsW (l9A cd (nwC cd)).1.r (l9A cd (nwC cd)).1.z (l9A cd (nwC cd)).1.es).length : Int) := by omega
      clear g1 g2
      have x1 : ctB (l9A cd (nwC cd)).1.r (l9A cd (nwC cd)).1.z (l9A cd (nwC cd)).1.es (l9W cd (l9A cd (nwC cd)).1 (l9A cd (nwC cd)).2).1 = true → exV (bsW (l9A cd (nwC cd)).1.r (l9A cd (nwC cd)).1.z (l9A cd (nwC cd)).1.es) (rwO (l9A cd (nwC cd)).1.r (l9A cd (nwC cd)).1.z (l9A cd (nwC cd)).1.es (l9W cd (l9A cd (nwC cd)).1 (l9A cd (nwC cd)).2).1) = red (l9W cd (l9A cd (nwC cd)).1 (l9A cd (nwC cd)).2).1 := fun h => rw_ex hc h (by omega)
      have x2 : ctB (l9A cd (nwC cd)).1.r (l9A cd (nwC cd)).1.z (l9A cd (nwC cd)).1.es (l9W cd (l9A cd (nwC cd)).1 (l9A cd (nwC cd)).2).1 = true → (exV (bsW (l9A cd (nwC cd)).1.r (l9A cd (nwC cd)).1.z (l9A cd (nwC cd)).1.es) (rwO (l9A cd (nwC cd)).1.r (l9A cd (nwC cd)).1.z (l9A cd (nwC cd)).1.es (l9W cd (l9A cd (nwC cd)).1 (l9A cd (nwC cd)).2).1)).length ≤ 1048576 := fun h => by rw [x1 h]; omega
      cases hct : ctB (l9A cd (nwC cd)).1.r (l9A cd (nwC cd)).1.z (l9A cd (nwC cd)).1.es (l9W cd (l9A cd (nwC cd)).1 (l9A cd (nwC cd)).2).1 <;> cases haw : awB (l9A cd (nwC cd)).1.r (bsW (l9A cd (nwC cd)).1.r (l9A cd (nwC cd)).1.z (l9A cd (nwC cd)).1.es) <;> (try have g5 := (g4 haw).1) <;> (try have g6 := (g4 haw).2) <;> (try have hex := x1 hct) <;> (try have he1 := x2 hct) <;> clear g4 x1 x2
      all_goals repeat' (first|(refine ya ?_;first|(refine yb ?_;first|refine z_fn formatIndices_sat Tryz.func32 (hSp := by refine ⟨_, ?_, ?_, rfl, rfl, rfl⟩; exact zp; exact zp) (k0 := ?_) | refine z_fn formatIndices_sat2 Tryz.func33 (hSp := by refine ⟨_, ?_, ?_, rfl, rfl, rfl⟩; exact zp; exact zp) (k0 := ?_) | refine z_fn basis_yes Tryz.func7 (hSp := by refine ⟨_, _, _, ⟨?_, ?_⟩, rfl, rfl, rfl⟩; exact zp; exact zp) (k0 := ?_) | refine z_fn basis_yes2 Tryz.func9 (hSp := by refine ⟨_, _, _, ⟨?_, ?_⟩, rfl, rfl, rfl⟩; exact zp; exact zp) (k0 := ?_) | refine yc ?_)|refine ye ?_)|((first|refine yg ?_|refine yG ?_);intro hq;first|(replace hq:=zgy hq;first|(refine yb ?_;first|refine z_fn formatIndices_sat Tryz.func32 (hSp := by refine ⟨_, ?_, ?_, rfl, rfl, rfl⟩; exact zp; exact zp) (k0 := ?_) | refine z_fn formatIndices_sat2 Tryz.func33 (hSp := by refine ⟨_, ?_, ?_, rfl, rfl, rfl⟩; exact zp; exact zp) (k0 := ?_) | refine z_fn basis_yes Tryz.func7 (hSp := by refine ⟨_, _, _, ⟨?_, ?_⟩, rfl, rfl, rfl⟩; exact zp; exact zp) (k0 := ?_) | refine z_fn basis_yes2 Tryz.func9 (hSp := by refine ⟨_, _, _, ⟨?_, ?_⟩, rfl, rfl, rfl⟩; exact zp; exact zp) (k0 := ?_) | refine yc ?_)|(refine yB ?_;first|refine z_fnl formatIndices_sat Tryz.func32 (hSp := by refine ⟨_, ?_, ?_, rfl, rfl, rfl⟩; exact zp; exact zp) (k0 := ?_) | refine z_fnl formatIndices_sat2 Tryz.func33 (hSp := by refine ⟨_, ?_, ?_, rfl, rfl, rfl⟩; exact zp; exact zp) (k0 := ?_) | refine z_fnl basis_yes Tryz.func7 (hSp := by refine ⟨_, _, _, ⟨?_, ?_⟩, rfl, rfl, rfl⟩; exact zp; exact zp) (k0 := ?_) | refine z_fnl basis_yes2 Tryz.func9 (hSp := by refine ⟨_, _, _, ⟨?_, ?_⟩, rfl, rfl, rfl⟩; exact zp; exact zp) (k0 := ?_) | refine yC ?_)|refine yy hq ?_|refine yY hq ?_;clear hq)|((first|refine yn (zgn hq) ?_|refine yN (zgn hq) ?_);clear hq)|((fail_if_success have:=zgy hq);(first|refine zs hq ?_ ?_|refine zS hq ?_ ?_)<;>clear hq<;>intro hg hr<;>try exact zx))|refine yt ?_|refine yz ?_|(refine yA ?_;first|(refine yB ?_;first|refine z_fnl formatIndices_sat Tryz.func32 (hSp := by refine ⟨_, ?_, ?_, rfl, rfl, rfl⟩; exact zp; exact zp) (k0 := ?_) | refine z_fnl formatIndices_sat2 Tryz.func33 (hSp := by refine ⟨_, ?_, ?_, rfl, rfl, rfl⟩; exact zp; exact zp) (k0 := ?_) | refine z_fnl basis_yes Tryz.func7 (hSp := by refine ⟨_, _, _, ⟨?_, ?_⟩, rfl, rfl, rfl⟩; exact zp; exact zp) (k0 := ?_) | refine z_fnl basis_yes2 Tryz.func9 (hSp := by refine ⟨_, _, _, ⟨?_, ?_⟩, rfl, rfl, rfl⟩; exact zp; exact zp) (k0 := ?_) | refine yC ?_)|refine yE ?_)|refine yT ?_|refine yZ ?_|refine zst ?_|refine zo ?_|(refine zk ?_ ?_<;>intro hc hr<;>try exact zx))
      all_goals try exact zv
  · repeat' (first|(refine ya ?_;first|refine yc ?_|refine ye ?_)|((first|refine yg ?_|refine yG ?_);intro hq;first|(replace hq:=zgy hq;first|refine yc ?_|refine yC ?_|refine yy hq ?_|refine yY hq ?_;clear hq)|((first|refine yn (zgn hq) ?_|refine yN (zgn hq) ?_);clear hq)|((fail_if_success have:=zgy hq);(first|refine zs hq ?_ ?_|refine zS hq ?_ ?_)<;>clear hq<;>intro hg hr<;>try exact zx))|refine yt ?_|refine yz ?_|(refine yA ?_;first|refine yC ?_|refine yE ?_)|refine yT ?_|refine yZ ?_|refine zst ?_|refine zo ?_|(refine zk ?_ ?_<;>intro hc hr<;>try exact zx))
    all_goals try exact zv
theorem law22_of {l : List AV} (h : All2 (ShA T) [22] l) : law22_S l (.one (.sc (.bool true))) [] := by
  obtain ⟨c, rfl, hh⟩ := all2_1 h
  obtain ⟨cd, rfl, p⟩ := shBytes T22 T5 hh
  exact ⟨cd, p, rfl, rfl, rfl⟩
instance : Con Tryz.prog 3 law22_S := con law22 Tryz.func3
end Go.Proofs.Tryz
