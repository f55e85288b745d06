import Derived.Test.YtfaonopjkgdedaaE2
import Derived.Test.YtfaonopjkgdedaaR
import Derived.Test.YtfaonopjkgdedaaD
import Derived.Test.YtfaonopjkgdedaaA
set_option linter.unusedVariables false
set_option linter.unusedSimpArgs false
set_option linter.unnecessarySimpa false
/- The engine: an operation whose guard's own operation was passed over. -/
namespace Go.Eng
open Go Go.RowKit
section
variable {s s' : AS} {P : Program} {T : Tys} {E : Reck}
variable {ops : Array Oper} {o : Oper} {r : List Oper} {k : AS → Prop} {tr : List (Option Eff)} {kl : List (Option Eff) → AS → Prop}
theorem z_noT {j : Nat} {want : Bool} (hp : o.guard = some (j, want) := by rfl) (h : guardAV ops s j = .tup [] := by rfl) (hd : Oper.dstOk o s.n = true := by rfl) (hs : s.app o.dst skipE = s' := by simp [go_sem, skipE]; rfl) (k0 : walkN P E ops r s' k) : walkN P E ops (o :: r) s k := w_no (by simp only [gsay, hp, h]) hd hs k0
theorem z_noTl {j : Nat} {want : Bool} (hp : o.guard = some (j, want) := by rfl) (h : guardAV ops s j = .tup [] := by rfl) (hd : Oper.dstOk o s.n = true := by rfl) (hs : s.app o.dst skipE = s' := by simp [go_sem, skipE]; rfl) (k0 : walkL P E ops r s' (tr ++ [none]) kl) : walkL P E ops (o :: r) s tr kl := l_no (by simp only [gsay, hp, h]) hd hs k0
end
end Go.Eng
/- Plain: words; paths added. -/
namespace Go.Proofs.Try
open Go Go.Eng
/-! ### Words -/
def w1 (r : Int) (w : List Int) (i : Nat) : Bool := decide (ix w i ≠ 0 ∧ -r ≤ ix w i ∧ ix w i ≤ r ∧ (i = 0 ∨ ix w i ≠ -ix w (i - 1)))
def wOk (r : Int) (w : List Int) : Nat → Bool
  | 0 => true
  | i + 1 => wOk r w i && w1 r w i
def isW (r : Int) (w : List Int) : Bool := decide (1 ≤ r ∧ r ≤ 3 ∧ w.length ≤ 24) && wOk r w w.length
theorem wOk_mono {r : Int} {w : List Int} {i j : Nat} (hij : i ≤ j) (h : wOk r w j = true) : wOk r w i = true := by
  induction j with
  | zero => have : i = 0 := by omega
            subst this; exact h
  | succ j ih =>
    rcases Nat.lt_or_ge i (j + 1) with h1 | h1
    · simp only [wOk, Bool.and_eq_true] at h
      exact ih (by omega) h.1
    · have : i = j + 1 := by omega
      subst this; exact h
theorem wOk_at {r : Int} {w : List Int} {n i : Nat} (h : wOk r w n = true) (hi : i < n) : w1 r w i = true := by
  have := wOk_mono (show i + 1 ≤ n from hi) h
  simp only [wOk, Bool.and_eq_true] at this
  exact this.2
theorem w1_iff {r : Int} {w : List Int} {i : Nat} : w1 r w i = true ↔ ix w i ≠ 0 ∧ -r ≤ ix w i ∧ ix w i ≤ r ∧ (i = 0 ∨ ix w i ≠ -ix w (i - 1)) := by simp only [w1, decide_eq_true_eq]
theorem wOk_step {r : Int} {w : List Int} {i : Nat} (h : wOk r w i = true) (h1 : ix w i ≠ 0 ∧ -r ≤ ix w i ∧ ix w i ≤ r ∧ (i = 0 ∨ ix w i ≠ -ix w (i - 1))) : wOk r w (i + 1) = true := by
  simp only [wOk, Bool.and_eq_true]; exact ⟨h, w1_iff.2 h1⟩
theorem wOk_bad {r : Int} {w : List Int} {i : Nat} (hi : i < w.length) (h1 : ¬ (ix w i ≠ 0 ∧ -r ≤ ix w i ∧ ix w i ≤ r ∧ (i = 0 ∨ ix w i ≠ -ix w (i - 1)))) : isW r w = false := by
  rw [← Bool.not_eq_true]
  intro h
  simp only [isW, Bool.and_eq_true] at h
  exact h1 (w1_iff.1 (wOk_at h.2 hi))
theorem isW_iff {r : Int} {w : List Int} : isW r w = true ↔ (1 ≤ r ∧ r ≤ 3 ∧ w.length ≤ 24) ∧ wOk r w w.length = true := by simp [isW]
theorem isW_no {r : Int} {w : List Int} (h : ¬ (1 ≤ r ∧ r ≤ 3 ∧ w.length ≤ 24)) : isW r w = false := by simp [isW, h]
theorem isW_at {r : Int} {w : List Int} {i : Nat} (h : isW r w = true) (hi : i < w.length) : ix w i ≠ 0 ∧ -r ≤ ix w i ∧ ix w i ≤ r ∧ 1 ≤ r ∧ r ≤ 3 := by
  obtain ⟨h1, h2⟩ := isW_iff.1 h
  have := w1_iff.1 (wOk_at h2 hi)
  omega
theorem isW_len {r : Int} {w : List Int} (h : isW r w = true) : 1 ≤ r ∧ r ≤ 3 ∧ w.length ≤ 24 := (isW_iff.1 h).1
/-! ### Paths -/
def vtx (u v z : Int) (n i : Nat) : Int := if i = 0 then u else if i = n then v else z + i - 1
def stE (a x b : Int) : Ed := if x < 0 then (b, -x, a) else (a, x, b)
def pthN (u v z : Int) (w : List Int) : Nat → List Ed
  | 0 => []
  | i + 1 => pthN u v z w i ++ [stE (vtx u v z w.length i) (ix w i) (vtx u v z w.length (i + 1))]
theorem pthN_len (u v z : Int) (w : List Int) (i : Nat) : (pthN u v z w i).length = i := by
  induction i with
  | zero => rfl
  | succ i ih => simp [pthN, ih]
def szN (z : Int) (n i : Nat) : Int := if i < n then z + i else z + n - 1
def pthOk (g : Gr) (u : Int) (w : List Int) (v : Int) : Bool := g.ok && decide (0 ≤ u ∧ u < g.z ∧ 0 ≤ v ∧ v < g.z ∧ 0 < w.length ∧ g.z + w.length - 1 ≤ 40 ∧ g.es.length + w.length ≤ 120) && isW g.r w
def pth (g : Gr) (u : Int) (w : List Int) (v : Int) : Gr := if pthOk g u w v then ⟨g.r, g.z + w.length - 1, norm (g.es ++ pthN u v g.z w w.length)⟩ else g
theorem pthOk_iff {r z : Int} {es : List Ed} {u v : Int} {w : List Int} : pthOk ⟨r, z, es⟩ u w v = true ↔ isG r z es = true ∧ (0 ≤ u ∧ u < z ∧ 0 ≤ v ∧ v < z ∧ 0 < w.length ∧ z + w.length - 1 ≤ 40 ∧ es.length + w.length ≤ 120) ∧ isW r w = true := by
  unfold pthOk
  rw [Bool.and_eq_true, Bool.and_eq_true, decide_eq_true_eq, and_assoc]
  rfl
theorem pth_no {g : Gr} {u v : Int} {w : List Int} (h : pthOk g u w v = false) : pth g u w v = g := by simp [pth, h]
theorem pth_yes {g : Gr} {u v : Int} {w : List Int} (h : pthOk g u w v = true) : pth g u w v = ⟨g.r, g.z + w.length - 1, norm (g.es ++ pthN u v g.z w w.length)⟩ := by simp [pth, h]
theorem vtx_in {u v z : Int} {n i : Nat} (hu : 0 ≤ u ∧ u < z) (hv : 0 ≤ v ∧ v < z) (hi : i ≤ n) : 0 ≤ vtx u v z n i ∧ vtx u v z n i < z + n - 1 ∨ n = 0 := by
  by_cases hn : n = 0
  · exact .inr hn
  · left; unfold vtx; split <;> (try split) <;> omega
theorem stE_in {r z a x b : Int} (ha : 0 ≤ a ∧ a < z) (hb : 0 ≤ b ∧ b < z) (hx : x ≠ 0 ∧ -r ≤ x ∧ x ≤ r) : inR r z (stE a x b) := by
  unfold inR stE; split <;> simp only <;> omega
theorem pthN_in {r u v z : Int} {w : List Int} (hu : 0 ≤ u ∧ u < z) (hv : 0 ≤ v ∧ v < z) (hw : isW r w = true) (h0 : 0 < w.length) : ∀ i, i ≤ w.length → ∀ e ∈ pthN u v z w i, inR r (z + w.length - 1) e := by
  intro i
  induction i with
  | zero => intro _ e he; cases he
  | succ i ih =>
    intro hi e he
    rcases List.mem_append.1 he with h | h
    · exact ih (by omega) e h
    · rw [List.mem_singleton] at h
      subst h
      have h1 := vtx_in (n := w.length) (i := i) hu hv (by omega)
      have h2 := vtx_in (n := w.length) (i := i + 1) hu hv (by omega)
      have h3 := isW_at hw (show i < w.length by omega)
      exact stE_in (by omega) (by omega) (by omega)
theorem norm_self {es : List Ed} (h : asc es) : norm es = es := (norm_uniq h fun x => Iff.rfl).symm
theorem pth_ok {g : Gr} {u v : Int} {w : List Int} (hg : g.ok = true) : (pth g u w v).ok = true := by
  cases h : pthOk g u w v with
  | false => rw [pth_no h]; exact hg
  | true =>
    rw [pth_yes h]
    obtain ⟨r, z, es⟩ := g
    obtain ⟨h1, h2, h3⟩ := pthOk_iff.1 h
    obtain ⟨hz, _, hr⟩ := isG_iff.1 h1
    show isG r (z + w.length - 1) (norm (es ++ pthN u v z w w.length)) = true
    refine norm_ok ⟨hz.1, hz.2.1⟩ ⟨by omega, by omega⟩ (by simp only [List.length_append, pthN_len]; omega) fun e he => ?_
    rcases List.mem_append.1 he with h4 | h4
    · have := hr e h4
      unfold inR at this ⊢
      omega
    · exact pthN_in (by omega) (by omega) h3 (by omega) _ (Nat.le_refl _) e h4
theorem pth_es {g : Gr} {u v : Int} {w : List Int} {n : Nat} (h : g.es.length ≤ n) (hn : 120 ≤ n) : (pth g u w v).es.length ≤ n := by
  cases hp : pthOk g u w v with
  | false => rw [pth_no hp]; exact h
  | true =>
    rw [pth_yes hp]
    obtain ⟨r, z, es⟩ := g
    obtain ⟨h1, h2, h3⟩ := pthOk_iff.1 hp
    have := norm_len (es ++ pthN u v z w w.length)
    simp only [List.length_append, pthN_len] at this
    simp only
    omega
end Go.Proofs.Try
namespace Go.Proofs.Try
open Go Go.Eng
set_option linter.unnecessarySimpa false
set_option linter.unusedSimpArgs false
set_option maxHeartbeats 4000000
def K_areInverse_sat : Nat → List Nat := fun i => ([[0, 1], [4]] : List (List Nat)).getD i []
attribute [go_sem] K_areInverse_sat
def areInverse_sat_S : Eng.Spec := fun args av objs => ∃ (a b : Int), (-1000000 ≤ a ∧ a ≤ 1000000) ∧ args = [aI a, aI b] ∧ av = aB (decide (a ≠ 0 ∧ b = -a)) ∧ objs = []
theorem areInverse_sat : Sat Try.prog 64 areInverse_sat_S := by
  refine sat_of tok okr mixed K_areInverse_sat Try.func64 rfl (rs := [.tmp 4]) rfl Try.ntmps64 ?_
  rintro args av objs ⟨a, b, hpre, rfl, rfl, rfl⟩
  refine ⟨by show 2 ≤ 17; decide, ?_⟩
  repeat' (first|(refine ya ?_;first|refine ye ?_)|(refine yg ?_;intro hgs;first|(replace hgs:=zgy hgs;first|refine yy hgs ?_;clear hgs)|(refine yn (zgn hgs) ?_;clear hgs)|((fail_if_success have:=zgy hgs);refine z_spl hgs (h1:=?_) (h2:=?_)<;>clear hgs<;>intro hg hr<;>try first|contradiction|exfalso;omega))|refine yz ?_|refine zst ?_|refine k_blk_other rfl ?_|(refine zk ?_ ?_<;>intro hc hr<;>try first|contradiction|exfalso;omega))
  all_goals refine z_ret (hv := ?_) (ho := ?_)
  all_goals have ha : ¬ a = -9223372036854775808 := by omega
  all_goals first | rfl | (simp_all; done) | (simp [ha, Bool.beq_eq_decide_eq]; done)
instance : Con Try.prog 64 areInverse_sat_S := con areInverse_sat Try.func64
end Go.Proofs.Try
namespace Go.Proofs.Try
open Go Go.Eng
set_option linter.unnecessarySimpa false
set_option linter.unusedSimpArgs false
set_option maxHeartbeats 4000000
theorem vtx_0 (u v z : Int) (n : Nat) : vtx u v z n 0 = u := by simp [vtx]
theorem vtx_n {u v z : Int} {n : Nat} (h : 0 < n) : vtx u v z n n = v := by unfold vtx; rw [if_neg (by omega), if_pos rfl]
theorem vtx_m {u v z : Int} {n i : Nat} (h : i + 1 < n) : vtx u v z n (i + 1) = z + i := by
  simp only [vtx]; rw [if_neg (by omega), if_neg (by omega)]; omega
theorem szN_m {z : Int} {n i : Nat} (h : i < n) : szN z n i = z + i := by simp [szN, h]
theorem szN_n (z : Int) (n : Nat) : szN z n n = z + n - 1 := by simp [szN]
theorem pthN_s (u v z : Int) (w : List Int) (i : Nat) : pthN u v z w (i + 1) = pthN u v z w i ++ [stE (vtx u v z w.length i) (ix w i) (vtx u v z w.length (i + 1))] := rfl
end Go.Proofs.Try
namespace Go.Proofs.Try
open Go Go.Eng
set_option linter.unnecessarySimpa false
set_option linter.unusedSimpArgs false
set_option maxHeartbeats 4000000
end Go.Proofs.Try
