import Derived.Test.YtfaonopjkgdedaaC
import Derived.Test.YtfaonopjkgdedaaA
set_option linter.unusedVariables false
set_option linter.unusedSimpArgs false
set_option linter.unnecessarySimpa false
namespace Go.Proofs.Try
open Go Go.Eng
set_option linter.unnecessarySimpa false
set_option linter.unusedSimpArgs false
set_option maxHeartbeats 4000000
theorem jn_lf {g : Gr} {v : Int} (h0 : 0 ≤ v) (h1 : v < g.z) : lf g v = (decide (deg g.es v < 2) || !bx (jn g.es 0 g.z) v.toNat) := by
  classical
  unfold lf
  congr 2
  rw [decide_eq_decide (q := Rch g.es 0 v) |>.2 (rl_mem.trans ⟨fun h => h.2, fun h => ⟨⟨h0, h1⟩, h⟩⟩)]
  have : v.toNat < g.z.toNat := by omega
  simp only [bx, jn]
  rw [List.getD_eq_getElem?_getD, List.getElem?_map, List.getElem?_range this]
  simp only [Option.map_some, Option.getD_some]
  rw [show ((v.toNat : Nat) : Int) = v by omega]
theorem allN_0 : allN 0 = [] := rfl
end Go.Proofs.Try
namespace Go.Proofs.Try
open Go Go.Eng
set_option linter.unnecessarySimpa false
set_option linter.unusedSimpArgs false
set_option maxHeartbeats 4000000
theorem isC_no {r z : Int} {es : List Ed} (h : isF r z es = false) : isC r z es = false := by simp [isC, h]
theorem isC_eq {r z : Int} {es : List Ed} (h : isF r z es = true) : isC r z es = (decide (gone ⟨r, z, es⟩ = 0) && decide ((canG ⟨r, z, es⟩).r = r ∧ (canG ⟨r, z, es⟩).z = z ∧ (canG ⟨r, z, es⟩).es = es)) := by simp [isC, h]
theorem deg_nil (v : Int) : deg [] v = 0 := rfl
theorem isC_one {r z : Int} (h : isC r z [] = true) : z = 1 := by
  have hz := isG_z (isF_g (isC_f h))
  rcases (show z = 1 ∨ 1 < z by omega) with h1 | h1
  · exact h1
  · have := gone_no (isC_gone h) (v := 1) (by omega) h1
    simp [lf, deg_nil] at this
noncomputable def isTr (r z : Int) (es : List Ed) : Bool := isC r z es && decide (es.length = 0)
noncomputable def isWh (r z : Int) (es : List Ed) : Bool := isC r z es && decide (z = 1) && ((es.length : Int) == r)
noncomputable def rkO (r z : Int) (es : List Ed) : Int := if isC r z es then (es.length : Int) - z + 1 else -1
noncomputable def isFi (r z : Int) (es : List Ed) : Bool := isC r z es && (((miss r z es).length : Int) == 0)
theorem miss_len {r z : Int} {es : List Ed} : (miss r z es).length ≤ 240 := by
  cases hok : isF r z es
  · rw [miss_no hok]; simp
  · have hz := isG_z (isF_g hok)
    rw [miss_yes hok]
    have h1 := msV_len es (lts r.toNat) z.toNat
    have h2 := lts_len r.toNat
    have h3 : z.toNat * (lts r.toNat).length ≤ 40 * 6 := Nat.mul_le_mul (by omega) (by omega)
    omega
end Go.Proofs.Try
