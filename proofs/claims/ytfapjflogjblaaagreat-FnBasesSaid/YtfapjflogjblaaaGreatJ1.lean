import Derived.Test.YtfapjflogjblaaaGreatA
set_option maxHeartbeats 16000000
set_option maxRecDepth 20000
set_option linter.unusedVariables false
set_option linter.unusedSimpArgs false
set_option linter.unnecessarySimpa false
namespace Go.Proofs.Tryz
open Go Go.Eng

theorem w8Id {n : Int} (h : 0 ≤ n ∧ n ≤ 255) : w8 n = n := by
  unfold w8 IntKind.wrap
  simp [IntKind.signed, IntKind.bits]
  omega
def u8s (l : List Int) : List El := l.map fun n => [.u8 n]
theorem u8sLen (l : List Int) : (u8s l).length = l.length := by simp [u8s]
theorem u8sAt {l : List Int} {i : Nat} (h : i < l.length) : (u8s l)[i]? = some [.u8 (ix l i)] := by simp [u8s, ix, h]
theorem u8sSet (l : List Int) (i : Nat) (a : Int) : (u8s l).set i [.u8 a] = u8s (l.set i a) := by simp [u8s, List.map_set]
theorem u8sApp (l : List Int) (a : Int) : u8s l ++ [[.u8 a]] = u8s (l ++ [a]) := by simp [u8s]
theorem u8sOne (a : Int) : [[Sc.u8 a]] = u8s [a] := rfl
theorem u8sNil : u8s [] = [] := rfl
theorem u8sBytes (l : List Int) : bytesOf (u8s l) = some (l.map fun n => UInt8.ofNat n.toNat) := by
  induction l with
  | nil => rfl
  | cons a l ih =>
    have : u8s (a :: l) = [.u8 a] :: u8s l := rfl
    rw [this, bytesOf, ih]
    rfl
def strI (l : List Int) : ByteArray := ⟨(l.map fun n => UInt8.ofNat n.toNat).toArray⟩
theorem strI_size (l : List Int) : (strI l).size = l.length := by simp [strI, ByteArray.size]
theorem strI_app (a b : List Int) : strI a ++ strI b = strI (a ++ b) := by
  apply ByteArray.ext
  simp [strI]
theorem strI_cons (a : Int) (l : List Int) : (⟨#[UInt8.ofNat a.toNat]⟩ : ByteArray) ++ strI l = strI (a :: l) := by
  rw [show (⟨#[UInt8.ofNat a.toNat]⟩ : ByteArray) = strI [a] from rfl, strI_app]
  rfl
theorem strI_nil : (⟨#[]⟩ : ByteArray) = strI [] := rfl
theorem strI_mk (l : List Int) : (⟨(l.map fun n => UInt8.ofNat n.toNat).toArray⟩ : ByteArray) = strI l := rfl
attribute [go_sem] u8sLen u8sAt u8sSet u8sApp u8sNil u8sBytes strI_size strI_app w8Id

def revI (n : Nat) : List Int := if h : n = 0 then [] else (48 + (n : Int) % 10) :: revI (n / 10)
termination_by n
decreasing_by omega
theorem revI_0 : revI 0 = [] := by unfold revI; simp
theorem revI_s {n : Nat} (h : n ≠ 0) : revI n = (48 + (n : Int) % 10) :: revI (n / 10) := by rw [revI]; simp [h]
theorem revI_len (k : Nat) : ∀ n : Nat, n < 10 ^ k → (revI n).length ≤ k := by
  induction k with
  | zero => intro n h; have : n = 0 := by simpa using h
            subst this; simp [revI_0]
  | succ k ih =>
    intro n h
    by_cases h0 : n = 0
    · subst h0; simp [revI_0]
    · rw [revI_s h0]
      have := ih (n / 10) (by rw [Nat.div_lt_iff_lt_mul (by omega)]; rw [Nat.pow_succ] at h; exact h)
      simp; omega
def fmtI (n : Int) : List Int := if n = 0 then [48] else (if n < 0 then [45] else []) ++ (revI n.natAbs).reverse
theorem fmtI_len {n : Int} (h : rg n) : (fmtI n).length ≤ 21 := by
  have h1 : (revI n.natAbs).length ≤ 20 := by
    apply revI_len
    have h2 : (10 : Nat) ^ 20 = 100000000000000000000 := by decide
    unfold rg at h
    omega
  unfold fmtI
  split
  · simp
  · split <;> simp <;> omega
theorem fmtI_ne (n : Int) : fmtI n ≠ [] := by
  unfold fmtI
  split
  · simp
  · rename_i h
    have : n.natAbs ≠ 0 := by omega
    rw [revI_s this]
    simp
def dg (m : Int) : Int := if m.tmod 10 < 0 then - m.tmod 10 else m.tmod 10
theorem dg_eq (m : Int) : dg m = (m.natAbs : Int) % 10 := by
  unfold dg
  rcases Int.le_total 0 m with h | h
  · rw [Int.tmod_eq_emod_of_nonneg h]
    split <;> omega
  · have h2 : m.tmod 10 = - ((-m) % 10) := by
      have : m = -(-m) := by omega
      rw [this, Int.neg_tmod, Int.tmod_eq_emod_of_nonneg (by omega)]
      simp
    rw [h2]
    split <;> omega
theorem dv_eq (m : Int) : (m.tdiv 10).natAbs = m.natAbs / 10 := by
  rw [Int.natAbs_tdiv]; rfl
theorem fmt_step {m n : Int} {out : List Int} (h0 : m ≠ 0) (hrev : (revI m.natAbs).reverse ++ out = (revI n.natAbs).reverse) (hlen : (revI m.natAbs).length + out.length ≤ 20) :
    (revI (m.tdiv 10).natAbs).reverse ++ ((48 + dg m) :: out) = (revI n.natAbs).reverse ∧ (revI (m.tdiv 10).natAbs).length + ((48 + dg m) :: out).length ≤ 20 := by
  have h1 : m.natAbs ≠ 0 := by omega
  rw [revI_s h1] at hrev hlen
  rw [dv_eq, dg_eq, ← hrev]
  simp only [List.reverse_cons, List.append_assoc, List.singleton_append, List.length_cons] at hlen ⊢
  exact ⟨trivial, by omega⟩
def fmt_S : Eng.Spec := fun args av objs => ∃ n : Int, rg n ∧ args = [AV.one (.sc (.int n))] ∧ av = AV.one (.sc (.str (strI (fmtI n)))) ∧ objs = []
def K86 : Nat → List Nat := fun i => ([[0],[0,7],[2],[0,3],[0,3,4],[0,3,4,11],[0,3,4,5],[0,3,4,5,15],[0,3,4,5],[0,3,4],[0,3,4],[3,27],[2],[2]] : List (List Nat)).getD i []
theorem formatInt_sat2 : Sat Tryz.prog 86 fmt_S := by
  refine sat_of tok okr mixed K86 Tryz.func86 rfl (rs := [.tmp 2]) rfl rfl ?_
  rintro args av objs ⟨n, hn, rfl, rfl, rfl⟩
  refine ⟨by show 1 ≤ 31; decide, ?_⟩
  repeat' (first
    | refine w_op rfl (by simp (disch := first | omega | (simp; omega)) [go_sem, Tryz.ntmps86, -Option.map_eq_some_iff]; rfl) ?_
    | refine w_end (by simp [go_sem, K86]; rfl) ?_
    | refine w_op rfl (by simp (disch := first | omega | (simp; omega)) [go_sem, Tryz.ntmps86, -Option.map_eq_some_iff, *]; rfl) ?_
    | refine zst ?_
    | refine zo ?_
    | (refine zk ?_ ?_<;>intro hc hr<;>try exact zx))
  · refine k_ret (by simp [go_sem]; first | exact ⟨rfl, rfl⟩ | rfl) ?_ rfl
    have : n = 0 := by simpa using hc
    simp [fmtI, this, strI]
  · refine a_loop (fun p : Int × List Int => ⟨31, [(0, AV.one (.sc (.int p.1))), (3, AV.one (.sc (.str (strI p.2)))), (4, AV.one (.sc (.bool (decide (n < 0)))))], [], []⟩) (fun p => rg p.1 ∧ p.2.length ≤ 1000000 ∧ (revI p.1.natAbs).reverse ++ p.2 = (revI n.natAbs).reverse ∧ (revI p.1.natAbs).length + p.2.length ≤ 20) (fun p => p.1.natAbs) (n, []) ?_ ?_ ?_
    · refine ⟨hn, by simp, by simp, ?_⟩
      have : (revI n.natAbs).length ≤ 20 := by
        apply revI_len
        have h2 : (10 : Nat) ^ 20 = 100000000000000000000 := by decide
        unfold rg at hn
        omega
      simpa using this
    · exact weak_of [] rfl (by decide) (by simp [go_sem, AVm, CVm, lookS, strI_nil]) (by simp [go_sem, OBm, CVm, lookS, All2, strI_nil]) rfl
    rintro ⟨m, out⟩ ⟨hm, ho, hrev, hlen⟩
    unfold rg at hm hn
    have hd := dg_eq m
    have hv := dv_eq m
    have hd2 : -10 < m.tmod 10 ∧ m.tmod 10 < 10 := by unfold dg at hd; split at hd <;> omega
    have hv2 : -922337203685477580 ≤ m.tdiv 10 ∧ m.tdiv 10 ≤ 922337203685477580 := by omega
    simp only at ho hrev hlen ⊢
    repeat' (first
    | refine w_op rfl (by simp (disch := first | omega | (simp; omega)) [go_sem, u8sOne, strI_mk, Tryz.ntmps86, -Option.map_eq_some_iff]; rfl) ?_
    | refine w_end (by simp [go_sem, K86]; rfl) ?_
    | refine w_op rfl (by simp (disch := first | omega | (simp; omega)) [go_sem, u8sOne, strI_mk, Tryz.ntmps86, -Option.map_eq_some_iff, *]; rfl) ?_
    | refine zst ?_
    | refine zo ?_
    | (refine zk ?_ ?_<;>intro hc hr<;>try exact zx))
    · obtain ⟨s1, s2⟩ := fmt_step (by assumption) hrev hlen
      have e : dg m = - m.tmod 10 := by unfold dg; rw [if_pos hc]
      rw [e] at s1 s2
      refine k_lop (m.tdiv 10, (48 + -m.tmod 10) :: out) ⟨⟨by omega, by omega⟩, by simp; omega, s1, s2⟩ (by simp only; omega) (weak_of [] rfl (by decide) ?_ ?_ rfl)
      · simp [go_sem, AVm, CVm, lookS, strI_cons]
      · simp
    · obtain ⟨s1, s2⟩ := fmt_step (by assumption) hrev hlen
      have e : dg m = m.tmod 10 := by unfold dg; rw [if_neg (by omega)]
      rw [e] at s1 s2
      refine k_lop (m.tdiv 10, (48 + m.tmod 10) :: out) ⟨⟨by omega, by omega⟩, by simp; omega, s1, s2⟩ (by simp only; omega) (weak_of [] rfl (by decide) ?_ ?_ rfl)
      · simp [go_sem, AVm, CVm, lookS, strI_cons]
      · simp
    all_goals have hm0 : m = 0 := by assumption
    all_goals subst hm0
    all_goals rw [show (0 : Int).natAbs = 0 from rfl, revI_0] at hrev
    all_goals have hno : ¬ n = 0 := by omega
    · simp at hrev
      have hneg : n < 0 := by assumption
      rw [show fmtI n = [45] ++ (revI n.natAbs).reverse from by simp [fmtI, hno, hneg], hrev]
      refine k_ret (by simp [go_sem]; first | exact ⟨rfl, rfl⟩ | rfl) ?_ rfl
      rw [show (⟨#[45]⟩ : ByteArray) = strI [45] from rfl, strI_app]
    · simp at hrev
      have hneg : 0 ≤ n := by assumption
      rw [show fmtI n = (revI n.natAbs).reverse from by simp [fmtI, hno, Int.not_lt.2 hneg], hrev]
      refine k_ret (by simp [go_sem]; first | exact ⟨rfl, rfl⟩ | rfl) ?_ rfl
      rfl

theorem ix_set {l : List Int} {i j : Nat} {a : Int} (h : i < l.length) : ix (l.set i a) j = if i = j then a else ix l j := by
  simp only [ix, List.getD_eq_getElem?_getD, List.getElem?_set]
  by_cases hij : i = j
  · subst hij; simp [h]
  · simp [hij]
theorem ints_ext {xs ys : List Int} (hl : xs.length = ys.length) (h : ∀ j, j < xs.length → ix xs j = ix ys j) : xs = ys := by
  apply List.ext_getElem hl
  intro i h1 h2
  have := h i h1
  simpa [ix, h1, h2] using this
theorem ix_rev {l : List Int} {j : Nat} (h : j < l.length) : ix l.reverse j = ix l (l.length - 1 - j) := by
  have h2 : l.length - 1 - j < l.length := by omega
  simp [ix, h, h2]
def Rv (L : List Int) (k : Nat) (M : List Int) : Prop := M.length = L.length ∧ 2 * k ≤ L.length ∧ ∀ x, x < L.length → ix M x = if x < k ∨ L.length - k ≤ x then ix L (L.length - 1 - x) else ix L x
theorem Rv_0 (L : List Int) : Rv L 0 L := ⟨rfl, by omega, fun x hx => by rw [if_neg (by omega)]⟩
theorem Rv_step {L M : List Int} {k : Nat} (h : Rv L k M) (hk : k + 1 + k + 1 ≤ L.length) : Rv L (k + 1) ((M.set k (ix M (L.length - 1 - k))).set (L.length - 1 - k) (ix M k)) := by
  obtain ⟨h1, h2, h3⟩ := h
  refine ⟨by simp [h1], by omega, fun x hx => ?_⟩
  rw [ix_set (by simp [h1]; omega), ix_set (by omega), h3 k (by omega), h3 _ (show L.length - 1 - k < L.length by omega), h3 x hx]
  rw [if_neg (show ¬ (k < k ∨ L.length - k ≤ k) by omega), if_neg (show ¬ (L.length - 1 - k < k ∨ L.length - k ≤ L.length - 1 - k) by omega)]
  by_cases e1 : L.length - 1 - k = x
  · rw [if_pos e1, if_pos (by omega)]; congr 1; omega
  · rw [if_neg e1]
    by_cases e2 : k = x
    · rw [if_pos e2, if_pos (by omega)]; congr 1; omega
    · rw [if_neg e2]
      by_cases e3 : x < k ∨ L.length - k ≤ x
      · rw [if_pos e3, if_pos (by omega)]
      · rw [if_neg e3, if_neg (by omega)]
theorem Rv_end {L M : List Int} {k : Nat} (h : Rv L k M) (hk : L.length ≤ k + 1 + k) : M = L.reverse := by
  obtain ⟨h1, h2, h3⟩ := h
  refine ints_ext (by simp [h1]) (fun j hj => ?_)
  rw [h1] at hj
  rw [ix_rev hj, h3 j hj]
  by_cases e3 : j < k ∨ L.length - k ≤ j
  · rw [if_pos e3]
  · rw [if_neg e3]; congr 1; omega
def K84 : Nat → List Nat := fun i => ([[0],[0,9],[2],[0,3],[0,3,4],[0,3,4,13],[0,3,4],[0,3,4,5],[0,3,4,5,19],[0,3,4,5],[0,3,4],[3,29],[3],[3,6,7],[3,6,7,38],[3,6,7],[3,6,7],[2]] : List (List Nat)).getD i []
theorem formatInt_sat : Sat Tryz.prog 84 fmt_S := by
  refine sat_of tok okr mixed K84 Tryz.func84 rfl (rs := [.tmp 2]) rfl rfl ?_
  rintro args av objs ⟨n, hn, rfl, rfl, rfl⟩
  refine ⟨by show 1 ≤ 59; decide, ?_⟩
  repeat' (first
    | refine w_op rfl (by simp (disch := first | omega | (simp; omega)) [go_sem, u8sNil, Tryz.ntmps84, -Option.map_eq_some_iff]; rfl) ?_
    | refine l_op rfl (by simp (disch := first | omega | (simp; omega)) [go_sem, u8sNil, Tryz.ntmps84, -Option.map_eq_some_iff]; exact ⟨rfl, rfl⟩) ?_
    | refine w_end (by simp [go_sem, K84]; rfl) ?_
    | refine l_end (by kernel_rfl) (by simp [go_sem, K84]; rfl) ?_
    | refine w_op rfl (by simp (disch := first | omega | (simp; omega)) [go_sem, u8sNil, Tryz.ntmps84, -Option.map_eq_some_iff, *]; rfl) ?_
    | refine zst ?_
    | refine zo ?_
    | (refine zk ?_ ?_<;>intro hc hr<;>try exact zx))
  · refine k_ret (by simp [go_sem]; first | exact ⟨rfl, rfl⟩ | rfl) ?_ rfl
    have : n = 0 := by simpa using hc
    simp [fmtI, this, strI]
  have hlen0 : (revI n.natAbs).length ≤ 20 := by
    apply revI_len
    have h2 : (10 : Nat) ^ 20 = 100000000000000000000 := by decide
    unfold rg at hn
    omega
  refine a_loop (fun p : Int × List Int => ⟨59, [(0, AV.one (.sc (.int n))), (3, AV.one (.ref 3)), (4, AV.one (.sc (.int p.1)))], [(3, some (.flat 5 1 (u8s p.2)))], [3]⟩) (fun p => rg p.1 ∧ p.2 ++ revI p.1.natAbs = revI n.natAbs ∧ (revI p.1.natAbs).length + p.2.length ≤ 20) (fun p => p.1.natAbs) (n, []) ⟨hn, by simp, by simpa using hlen0⟩ ?_ ?_
  · exact weak_of [(3, .obj 80)] rfl (by decide) (by simp [go_sem, AVm, CVm, lookS, u8s]) (by simp [go_sem, OBm, CVm, lookS, All2, u8s]) rfl
  rintro ⟨m, out⟩ ⟨hm, hrev, hlen⟩
  unfold rg at hm hn
  have hd := dg_eq m
  have hv := dv_eq m
  have hd2 : -10 < m.tmod 10 ∧ m.tmod 10 < 10 := by unfold dg at hd; split at hd <;> omega
  have hv2 : -922337203685477580 ≤ m.tdiv 10 ∧ m.tdiv 10 ≤ 922337203685477580 := by omega
  simp only at hrev hlen ⊢
  repeat' (first
    | refine w_op rfl (by simp (disch := first | omega | (simp; omega)) [go_sem, Tryz.ntmps84, -Option.map_eq_some_iff]; rfl) ?_
    | refine l_op rfl (by simp (disch := first | omega | (simp; omega)) [go_sem, Tryz.ntmps84, -Option.map_eq_some_iff]; exact ⟨rfl, rfl⟩) ?_
    | refine w_end (by simp [go_sem, K84]; rfl) ?_
    | refine l_end (by kernel_rfl) (by simp [go_sem, K84]; rfl) ?_
    | refine w_op rfl (by simp (disch := first | omega | (simp; omega)) [go_sem, Tryz.ntmps84, -Option.map_eq_some_iff, *]; rfl) ?_
    | refine zst ?_
    | refine zo ?_
    | (refine zk ?_ ?_<;>intro hc hr<;>try exact zx))
  · have e : dg m = - m.tmod 10 := by unfold dg; rw [if_pos hc]
    rw [revI_s (n := m.natAbs) (by omega), ← dv_eq, ← dg_eq, e] at hrev hlen
    refine k_lop (m.tdiv 10, out ++ [48 + -m.tmod 10]) ⟨⟨by omega, by omega⟩, by simpa using hrev, by simp at hlen ⊢; omega⟩ (by simp only; omega) (weak_of [(3, .obj 216)] rfl (by decide) ?_ ?_ rfl)
    · simp [go_sem, AVm, CVm, lookS]
    · simp [go_sem, OBm, CVm, lookS, All2]
  · have e : dg m = m.tmod 10 := by unfold dg; rw [if_neg (by omega)]
    rw [revI_s (n := m.natAbs) (by omega), ← dv_eq, ← dg_eq, e] at hrev hlen
    refine k_lop (m.tdiv 10, out ++ [48 + m.tmod 10]) ⟨⟨by omega, by omega⟩, by simpa using hrev, by simp at hlen ⊢; omega⟩ (by simp only; omega) (weak_of [(3, .obj 216)] rfl (by decide) ?_ ?_ rfl)
    · simp [go_sem, AVm, CVm, lookS]
    · simp [go_sem, OBm, CVm, lookS, All2]
  all_goals
    have hm0 : m = 0 := by assumption
    subst hm0
    rw [show (0 : Int).natAbs = 0 from rfl, revI_0, List.append_nil] at hrev
    subst hrev
    have hno : ¬ n = 0 := by omega
    clear hd hv hd2 hv2
  · have hneg : n < 0 := by assumption
    refine a_loop (fun p : Nat × List Int => ⟨59, [(3, AV.one (.ref 3)), (6, AV.one (.sc (.int p.1))), (7, AV.one (.sc (.int (((revI n.natAbs ++ [45]).length : Int) - 1 - p.1))))], [(3, some (.flat 5 1 (u8s p.2)))], [3]⟩) (fun p => Rv ((revI n.natAbs ++ [45])) p.1 p.2) (fun p => (revI n.natAbs ++ [45]).length - 2 * p.1) (0, (revI n.natAbs ++ [45])) (Rv_0 _) ?_ ?_
    · refine weak_of [(3, .obj 256)] rfl (by decide) ?_ ?_ rfl
      · simp [go_sem, AVm, CVm, lookS]
        try omega
      · simp [go_sem, OBm, CVm, lookS, All2]
    rintro ⟨k, M⟩ hR
    have hM : M.length = (revI n.natAbs ++ [45]).length := hR.1
    have hk2 : 2 * k ≤ (revI n.natAbs ++ [45]).length := hR.2.1
    generalize hLL : (revI n.natAbs ++ [45]) = L at hR hM hk2 ⊢
    have hL21 : L.length ≤ 21 := by rw [← hLL]; first | omega | (simp; omega)
    have e1 : ((L.length : Int) - 1 - k).toNat = L.length - 1 - k := by omega
    simp only at hM hk2 ⊢
    repeat' (first
    | refine w_op rfl (by simp (disch := first | omega | (simp; omega)) [go_sem, e1, Tryz.ntmps84, -Option.map_eq_some_iff]; rfl) ?_
    | refine l_op rfl (by simp (disch := first | omega | (simp; omega)) [go_sem, e1, Tryz.ntmps84, -Option.map_eq_some_iff]; exact ⟨rfl, rfl⟩) ?_
    | refine w_end (by simp [go_sem, K84]; rfl) ?_
    | refine l_end (by kernel_rfl) (by simp [go_sem, K84]; rfl) ?_
    | refine w_op rfl (by simp (disch := first | omega | (simp; omega)) [go_sem, e1, Tryz.ntmps84, -Option.map_eq_some_iff, *]; rfl) ?_
    | refine zst ?_
    | refine zo ?_
    | (refine zk ?_ ?_<;>intro hc hr<;>try exact zx))
    · have hs := Rv_step hR (by omega)
      refine k_lop (k + 1, _) hs (by simp only; omega) (weak_of [(3, .obj 3)] rfl (by decide) ?_ ?_ rfl)
      · simp [go_sem, AVm, CVm, lookS]
        omega
      · simp [go_sem, OBm, CVm, lookS, All2]
    · have hs := Rv_end hR (by omega)
      subst hs
      rw [show fmtI n = L.reverse from by rw [← hLL]; simp [fmtI, hno, hneg]]
      refine k_ret (by simp [go_sem]; first | exact ⟨rfl, rfl⟩ | rfl) ?_ rfl
      simp [strI]
  · have hneg : ¬ n < 0 := by omega
    refine a_loop (fun p : Nat × List Int => ⟨59, [(3, AV.one (.ref 3)), (6, AV.one (.sc (.int p.1))), (7, AV.one (.sc (.int (((revI n.natAbs).length : Int) - 1 - p.1))))], [(3, some (.flat 5 1 (u8s p.2)))], [3]⟩) (fun p => Rv ((revI n.natAbs)) p.1 p.2) (fun p => (revI n.natAbs).length - 2 * p.1) (0, (revI n.natAbs)) (Rv_0 _) ?_ ?_
    · refine weak_of [(3, .obj 3)] rfl (by decide) ?_ ?_ rfl
      · simp [go_sem, AVm, CVm, lookS]
        try omega
      · simp [go_sem, OBm, CVm, lookS, All2]
    rintro ⟨k, M⟩ hR
    have hM : M.length = (revI n.natAbs).length := hR.1
    have hk2 : 2 * k ≤ (revI n.natAbs).length := hR.2.1
    generalize hLL : (revI n.natAbs) = L at hR hM hk2 ⊢
    have hL21 : L.length ≤ 21 := by rw [← hLL]; first | omega | (simp; omega)
    have e1 : ((L.length : Int) - 1 - k).toNat = L.length - 1 - k := by omega
    simp only at hM hk2 ⊢
    repeat' (first
    | refine w_op rfl (by simp (disch := first | omega | (simp; omega)) [go_sem, e1, Tryz.ntmps84, -Option.map_eq_some_iff]; rfl) ?_
    | refine l_op rfl (by simp (disch := first | omega | (simp; omega)) [go_sem, e1, Tryz.ntmps84, -Option.map_eq_some_iff]; exact ⟨rfl, rfl⟩) ?_
    | refine w_end (by simp [go_sem, K84]; rfl) ?_
    | refine l_end (by kernel_rfl) (by simp [go_sem, K84]; rfl) ?_
    | refine w_op rfl (by simp (disch := first | omega | (simp; omega)) [go_sem, e1, Tryz.ntmps84, -Option.map_eq_some_iff, *]; rfl) ?_
    | refine zst ?_
    | refine zo ?_
    | (refine zk ?_ ?_<;>intro hc hr<;>try exact zx))
    · have hs := Rv_step hR (by omega)
      refine k_lop (k + 1, _) hs (by simp only; omega) (weak_of [(3, .obj 3)] rfl (by decide) ?_ ?_ rfl)
      · simp [go_sem, AVm, CVm, lookS]
        omega
      · simp [go_sem, OBm, CVm, lookS, All2]
    · have hs := Rv_end hR (by omega)
      subst hs
      rw [show fmtI n = L.reverse from by rw [← hLL]; simp [fmtI, hno, hneg]]
      refine k_ret (by simp [go_sem]; first | exact ⟨rfl, rfl⟩ | rfl) ?_ rfl
      simp [strI]
end Go.Proofs.Tryz
