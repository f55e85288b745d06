import Derived.Test.YtfapjflogjblaaaGreatY
set_option maxHeartbeats 16000000
set_option maxRecDepth 20000
set_option linter.unusedVariables false
set_option linter.unusedSimpArgs false
set_option linter.unnecessarySimpa false
namespace Go.Proofs.Tryz
open Go Go.Eng
theorem Rch.trans {es : List Ed} {a b c : Int} (h : Rch es a b) (h2 : Rch es b c) : Rch es a c := by
  induction h2 with
  | base => exact h
  | fwd he _ ih => exact .fwd he ih
  | bwd he _ ih => exact .bwd he ih
theorem Rch.symm {es : List Ed} {a b : Int} (h : Rch es a b) : Rch es b a := by
  induction h with
  | base => exact .base
  | fwd he _ ih => exact Rch.trans (.bwd he .base) ih
  | bwd he _ ih => exact Rch.trans (.fwd he .base) ih
structure Lfs (g : Gr) (b : Int) : Prop where
  dg : ∀ v, 0 ≤ v → v < g.z → v ≠ b → 2 ≤ deg g.es v
  rc : ∀ v, 0 ≤ v → v < g.z → Rch g.es b v
theorem ix_get {o : List Int} {i : Nat} (h : i < o.length) : ix o i = o[i] := by simp [ix, h]
theorem pos_ix {o : List Int} (hn : o.Nodup) {i : Nat} (hi : i < o.length) : pos o o.length (ix o i) = i := by
  have h0 : 0 ≤ pos o o.length (ix o i) := by
    rcases (show pos o o.length (ix o i) < 0 ∨ 0 ≤ pos o o.length (ix o i) by omega) with h | h
    · have := (pos_neg (Nat.le_refl _)).1 h
      rw [List.take_length] at this
      exact (this (ix_mem hi)).elim
    · exact h
  have h1 := pos_at h0
  have h2 : (pos o o.length (ix o i)).toNat = i := by
    have e1 : ix o (pos o o.length (ix o i)).toNat = o[(pos o o.length (ix o i)).toNat]'h1.2 := ix_get h1.2
    have e2 : ix o i = o[i] := ix_get hi
    rcases Nat.lt_trichotomy (pos o o.length (ix o i)).toNat i with h3 | h3 | h3
    · exact (List.pairwise_iff_getElem.1 hn _ _ h1.2 hi h3 (by rw [← e1, ← e2, ← h1.1])).elim
    · exact h3
    · exact (List.pairwise_iff_getElem.1 hn _ _ hi h1.2 h3 (by rw [← e1, ← e2, ← h1.1])).elim
  omega
def eqG (a b : Gr) : Prop := a.r = b.r ∧ a.z = b.z ∧ a.es = b.es
instance (a b : Gr) : Decidable (eqG a b) := inferInstanceAs (Decidable (_ ∧ _ ∧ _))
end Go.Proofs.Tryz
