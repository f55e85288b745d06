import Derived.Test.YtfaonopjkgdedaaG5
import Derived.Test.YtfaonopjkgdedaaE2
set_option linter.unusedVariables false
set_option linter.unusedSimpArgs false
set_option linter.unnecessarySimpa false
/- The laws' marks on lists of words. -/
namespace Go.Proofs.Try
open Go Go.Eng
set_option linter.unnecessarySimpa false
set_option linter.unusedSimpArgs false
set_option maxHeartbeats 4000000
/-- Where the marks of row i begin. -/
def mkS (ws : List (List Int)) (k : Int) : Nat → Int
  | 0 => k
  | i + 1 => mkS ws k i + (wx ws i).length
theorem mkS_eq (ws : List (List Int)) (k : Int) : ∀ i, mkS ws k i + ws.length = k + totN ws i
  | 0 => by simp [mkS, totN]
  | i + 1 => by have := mkS_eq ws k i; simp only [mkS, totN]; omega
/-- The first i rows marked. -/
def mkR (ws : List (List Int)) (k : Int) : Nat → List (List Int)
  | 0 => ws
  | i + 1 => (mkR ws k i).set i (mkI (wx ws i).length (mkS ws k i))
theorem mkR_len (ws : List (List Int)) (k : Int) (i : Nat) : (mkR ws k i).length = ws.length := by
  induction i with
  | zero => rfl
  | succ i ih => simp [mkR, ih]
theorem mkR_ge {ws : List (List Int)} {k : Int} {j : Nat} : ∀ {i : Nat}, i ≤ j → wx (mkR ws k i) j = wx ws j
  | 0, _ => rfl
  | i + 1, h => by
    have ih := mkR_ge (ws := ws) (k := k) (i := i) (j := j) (by omega)
    rw [← ih]
    simp only [mkR, wx, List.getD_eq_getElem?_getD]
    rw [List.getElem?_set_ne (by omega)]
theorem mkR_lt {ws : List (List Int)} {k : Int} {j : Nat} (hj : j < ws.length) : ∀ {i : Nat}, j < i → wx (mkR ws k i) j = mkI (wx ws j).length (mkS ws k j)
  | 0, h => by omega
  | i + 1, h => by
    rcases Nat.lt_or_ge j i with h1 | h1
    · have ih := mkR_lt (ws := ws) (k := k) hj h1
      rw [← ih]
      simp only [mkR, wx, List.getD_eq_getElem?_getD]
      rw [List.getElem?_set_ne (by omega)]
    · have : j = i := by omega
      subst this
      simp only [mkR, wx, List.getD_eq_getElem?_getD]
      rw [List.getElem?_set_self (by rw [mkR_len]; exact hj)]
      rfl
def mkW (ws : List (List Int)) (k : Int) : List (List Int) := mkR ws k ws.length
def mkT (ws : List (List Int)) (k : Int) : Int := mkS ws k ws.length
theorem mkW_len (ws : List (List Int)) (k : Int) : (mkW ws k).length = ws.length := mkR_len ..
theorem mkW_at {ws : List (List Int)} {k : Int} {j : Nat} (hj : j < ws.length) : wx (mkW ws k) j = mkI (wx ws j).length (mkS ws k j) := mkR_lt hj hj
theorem osW_set {ws : List (List Int)} {i : Nat} {w : List Int} : (osW ws).set i (some (ints w)) = osW (ws.set i w) := by simp [osW, List.map_set]
theorem osW_gt {ws : List (List Int)} {i : Nat} (h : i < ws.length) : (osW ws)[i]? = some (some (ints (wx ws i))) := osW_at h
theorem mkS_le {ws : List (List Int)} {k : Int} {i : Nat} (hi : i ≤ ws.length) : mkS ws k i ≤ k + totW ws := by
  have h1 := mkS_eq ws k i
  have h2 := totN_w hi
  omega
theorem mkS_ge {ws : List (List Int)} {k : Int} : ∀ {i : Nat}, k ≤ mkS ws k i
  | 0 => Int.le_refl _
  | i + 1 => by have := mkS_ge (ws := ws) (k := k) (i := i); simp only [mkS]; omega
end Go.Proofs.Try
