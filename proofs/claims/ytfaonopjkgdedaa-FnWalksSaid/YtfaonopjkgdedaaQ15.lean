import Derived.Test.YtfaonopjkgdedaaR3
import Derived.Test.YtfaonopjkgdedaaG5
set_option linter.unusedVariables false
set_option linter.unusedSimpArgs false
set_option linter.unnecessarySimpa false
namespace Go.Proofs.Try
open Go Go.Eng
set_option linter.unnecessarySimpa false
set_option linter.unusedSimpArgs false
set_option maxHeartbeats 4000000
/-- The tree's words as rows, each vertex found. -/
def tabR (r z : Int) (es : List Ed) : List (Option (List El)) := (List.range z.toNat).map fun n : Nat => some (ints (twd r z es (n : Int)))
theorem tabR_len (r z : Int) (es : List Ed) : (tabR r z es).length = z.toNat := by simp [tabR]
theorem tabR_at {r z v : Int} {es : List Ed} (h0 : 0 ≤ v) (h1 : v < z) : (tabR r z es)[v.toNat]? = some (some (ints (twd r z es v))) := by
  have h : v.toNat < z.toNat := by omega
  simp only [tabR, List.getElem?_map, List.getElem?_range h, Option.map_some]
  rw [show ((v.toNat : Nat) : Int) = v by omega]
attribute [go_sem] tabR_len tabR_at
theorem tabR_eq {r z : Int} {es : List Ed} (hf : isF r z es = true) (ha : allB r z es) : tabO z (wf (bfs r z es 0)) = tabR r z es := by
  unfold tabO tabR
  refine List.map_congr_left fun n hn => ?_
  rw [List.mem_range] at hn
  obtain ⟨j, hj, ej⟩ := ha n (by omega) (by omega)
  rw [← ej, twd_at hf hj, wf_at (BF_bfs hf).nd hj]; rfl
end Go.Proofs.Try
