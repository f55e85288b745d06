import Derived.Test.YtfapjflogjblaaaA
set_option linter.unusedVariables false
set_option linter.unusedSimpArgs false
set_option linter.unnecessarySimpa false
namespace Go.Proofs.Try
open Go Go.Eng
set_option linter.unnecessarySimpa false
set_option linter.unusedSimpArgs false
set_option maxHeartbeats 4000000

/-! ### Bytes and strings: both by lists of numbers -/
theorem w8Id {n : Int} (h : 0 ≤ n ∧ n ≤ 255) : w8 n = n := by
  unfold w8 IntKind.wrap
  simp [IntKind.signed, IntKind.bits]
  omega
def u8s (l : List Int) : List El := l.map fun n => [.u8 n]
theorem u8sLen (l : List Int) : (u8s l).length = l.length := by simp [u8s]
theorem u8sAt {l : List Int} {i : Nat} (h : i < l.length) : (u8s l)[i]? = some [.u8 (ix l i)] := by simp [u8s, ix, h]
theorem u8sSet (l : List Int) (i : Nat) (a : Int) : (u8s l).set i [.u8 a] = u8s (l.set i a) := by simp [u8s, List.map_set]
theorem u8sApp (l : List Int) (a : Int) : u8s l ++ [[.u8 a]] = u8s (l ++ [a]) := by simp [u8s]
theorem u8sOne (a : Int) : [[Sc.u8 a]] = u8s [a] := rfl
theorem u8sNil : u8s [] = [] := rfl
theorem u8sBytes (l : List Int) : bytesOf (u8s l) = some (l.map fun n => UInt8.ofNat n.toNat) := by
  induction l with
  | nil => rfl
  | cons a l ih =>
    have : u8s (a :: l) = [.u8 a] :: u8s l := rfl
    rw [this, bytesOf, ih]
    rfl
def strI (l : List Int) : ByteArray := ⟨(l.map fun n => UInt8.ofNat n.toNat).toArray⟩
theorem strI_size (l : List Int) : (strI l).size = l.length := by simp [strI, ByteArray.size]
theorem strI_app (a b : List Int) : strI a ++ strI b = strI (a ++ b) := by
  apply ByteArray.ext
  simp [strI]
theorem strI_cons (a : Int) (l : List Int) : (⟨#[UInt8.ofNat a.toNat]⟩ : ByteArray) ++ strI l = strI (a :: l) := by
  rw [show (⟨#[UInt8.ofNat a.toNat]⟩ : ByteArray) = strI [a] from rfl, strI_app]
  rfl
theorem strI_nil : (⟨#[]⟩ : ByteArray) = strI [] := rfl
theorem strI_mk (l : List Int) : (⟨(l.map fun n => UInt8.ofNat n.toNat).toArray⟩ : ByteArray) = strI l := rfl
attribute [go_sem] u8sLen u8sAt u8sSet u8sApp u8sNil u8sBytes strI_size strI_app w8Id

def revI (n : Nat) : List Int := if h : n = 0 then [] else (48 + (n : Int) % 10) :: revI (n / 10)
termination_by n
decreasing_by omega
theorem revI_0 : revI 0 = [] := by unfold revI; simp
theorem revI_s {n : Nat} (h : n ≠ 0) : revI n = (48 + (n : Int) % 10) :: revI (n / 10) := by rw [revI]; simp [h]
theorem revI_len (k : Nat) : ∀ n : Nat, n < 10 ^ k → (revI n).length ≤ k := by
  induction k with
  | zero => intro n h; have : n = 0 := by simpa using h
            subst this; simp [revI_0]
  | succ k ih =>
    intro n h
    by_cases h0 : n = 0
    · subst h0; simp [revI_0]
    · rw [revI_s h0]
      have := ih (n / 10) (by rw [Nat.div_lt_iff_lt_mul (by omega)]; rw [Nat.pow_succ] at h; exact h)
      simp; omega
def fmtI (n : Int) : List Int := if n = 0 then [48] else (if n < 0 then [45] else []) ++ (revI n.natAbs).reverse
theorem fmtI_len {n : Int} (h : rg n) : (fmtI n).length ≤ 21 := by
  have h1 : (revI n.natAbs).length ≤ 20 := by
    apply revI_len
    have h2 : (10 : Nat) ^ 20 = 100000000000000000000 := by decide
    unfold rg at h
    omega
  unfold fmtI
  split
  · simp
  · split <;> simp <;> omega
theorem fmtI_ne (n : Int) : fmtI n ≠ [] := by
  unfold fmtI
  split
  · simp
  · rename_i h
    have : n.natAbs ≠ 0 := by omega
    rw [revI_s this]
    simp
def dg (m : Int) : Int := if m.tmod 10 < 0 then - m.tmod 10 else m.tmod 10
theorem dg_eq (m : Int) : dg m = (m.natAbs : Int) % 10 := by
  unfold dg
  rcases Int.le_total 0 m with h | h
  · rw [Int.tmod_eq_emod_of_nonneg h]
    split <;> omega
  · have h2 : m.tmod 10 = - ((-m) % 10) := by
      have : m = -(-m) := by omega
      rw [this, Int.neg_tmod, Int.tmod_eq_emod_of_nonneg (by omega)]
      simp
    rw [h2]
    split <;> omega
theorem dv_eq (m : Int) : (m.tdiv 10).natAbs = m.natAbs / 10 := by
  rw [Int.natAbs_tdiv]; rfl
theorem fmt_step {m n : Int} {out : List Int} (h0 : m ≠ 0) (hrev : (revI m.natAbs).reverse ++ out = (revI n.natAbs).reverse) (hlen : (revI m.natAbs).length + out.length ≤ 20) :
    (revI (m.tdiv 10).natAbs).reverse ++ ((48 + dg m) :: out) = (revI n.natAbs).reverse ∧ (revI (m.tdiv 10).natAbs).length + ((48 + dg m) :: out).length ≤ 20 := by
  have h1 : m.natAbs ≠ 0 := by omega
  rw [revI_s h1] at hrev hlen
  rw [dv_eq, dg_eq, ← hrev]
  simp only [List.reverse_cons, List.append_assoc, List.singleton_append, List.length_cons] at hlen ⊢
  exact ⟨trivial, by omega⟩
def fmt_S : Eng.Spec := fun args av objs => ∃ n : Int, rg n ∧ args = [AV.one (.sc (.int n))] ∧ av = AV.one (.sc (.str (strI (fmtI n)))) ∧ objs = []
theorem ix_set {l : List Int} {i j : Nat} {a : Int} (h : i < l.length) : ix (l.set i a) j = if i = j then a else ix l j := by
  simp only [ix, List.getD_eq_getElem?_getD, List.getElem?_set]
  by_cases hij : i = j
  · subst hij; simp [h]
  · simp [hij]
theorem ints_ext {xs ys : List Int} (hl : xs.length = ys.length) (h : ∀ j, j < xs.length → ix xs j = ix ys j) : xs = ys := by
  apply List.ext_getElem hl
  intro i h1 h2
  have := h i h1
  simpa [ix, h1, h2] using this
theorem ix_rev {l : List Int} {j : Nat} (h : j < l.length) : ix l.reverse j = ix l (l.length - 1 - j) := by
  have h2 : l.length - 1 - j < l.length := by omega
  simp [ix, h, h2]
def Rv (L : List Int) (k : Nat) (M : List Int) : Prop := M.length = L.length ∧ 2 * k ≤ L.length ∧ ∀ x, x < L.length → ix M x = if x < k ∨ L.length - k ≤ x then ix L (L.length - 1 - x) else ix L x
theorem Rv_0 (L : List Int) : Rv L 0 L := ⟨rfl, by omega, fun x hx => by rw [if_neg (by omega)]⟩
theorem Rv_step {L M : List Int} {k : Nat} (h : Rv L k M) (hk : k + 1 + k + 1 ≤ L.length) : Rv L (k + 1) ((M.set k (ix M (L.length - 1 - k))).set (L.length - 1 - k) (ix M k)) := by
  obtain ⟨h1, h2, h3⟩ := h
  refine ⟨by simp [h1], by omega, fun x hx => ?_⟩
  rw [ix_set (by simp [h1]; omega), ix_set (by omega), h3 k (by omega), h3 _ (show L.length - 1 - k < L.length by omega), h3 x hx]
  rw [if_neg (show ¬ (k < k ∨ L.length - k ≤ k) by omega), if_neg (show ¬ (L.length - 1 - k < k ∨ L.length - k ≤ L.length - 1 - k) by omega)]
  by_cases e1 : L.length - 1 - k = x
  · rw [if_pos e1, if_pos (by omega)]; congr 1; omega
  · rw [if_neg e1]
    by_cases e2 : k = x
    · rw [if_pos e2, if_pos (by omega)]; congr 1; omega
    · rw [if_neg e2]
      by_cases e3 : x < k ∨ L.length - k ≤ x
      · rw [if_pos e3, if_pos (by omega)]
      · rw [if_neg e3, if_neg (by omega)]
theorem Rv_end {L M : List Int} {k : Nat} (h : Rv L k M) (hk : L.length ≤ k + 1 + k) : M = L.reverse := by
  obtain ⟨h1, h2, h3⟩ := h
  refine ints_ext (by simp [h1]) (fun j hj => ?_)
  rw [h1] at hj
  rw [ix_rev hj, h3 j hj]
  by_cases e3 : j < k ∨ L.length - k ≤ j
  · rw [if_pos e3]
  · rw [if_neg e3]; congr 1; omega
end Go.Proofs.Try
