import Derived.Test.YtfapjflogjblaaaE2
import Derived.Test.YtfapjflogjblaaaR
import Derived.Test.YtfapjflogjblaaaD
import Derived.Test.YtfapjflogjblaaaA
set_option linter.unusedVariables false
set_option linter.unusedSimpArgs false
set_option linter.unnecessarySimpa false
/- The engine: an operation whose guard's own operation was passed over. -/
namespace Go.Eng
open Go Go.RowKit
section
variable {s s' : AS} {P : Program} {T : Tys} {E : Reck}
variable {ops : Array Oper} {o : Oper} {r : List Oper} {k : AS → Prop} {tr : List (Option Eff)} {kl : List (Option Eff) → AS → Prop}
theorem z_noT {j : Nat} {want : Bool} (hp : o.guard = some (j, want) := by rfl) (h : guardAV ops s j = .tup [] := by rfl) (hd : Oper.dstOk o s.n = true := by rfl) (hs : s.app o.dst skipE = s' := by simp [go_sem, skipE]; rfl) (k0 : walkN P E ops r s' k) : walkN P E ops (o :: r) s k := w_no (by simp only [gsay, hp, h]) hd hs k0
theorem z_noTl {j : Nat} {want : Bool} (hp : o.guard = some (j, want) := by rfl) (h : guardAV ops s j = .tup [] := by rfl) (hd : Oper.dstOk o s.n = true := by rfl) (hs : s.app o.dst skipE = s' := by simp [go_sem, skipE]; rfl) (k0 : walkL P E ops r s' (tr ++ [none]) kl) : walkL P E ops (o :: r) s tr kl := l_no (by simp only [gsay, hp, h]) hd hs k0
end
end Go.Eng
/- Plain: words; paths added. -/
namespace Go.Proofs.Try
open Go Go.Eng
/-! ### Words -/
def w1 (r : Int) (w : List Int) (i : Nat) : Bool := decide (ix w i ≠ 0 ∧ -r ≤ ix w i ∧ ix w i ≤ r ∧ (i = 0 ∨ ix w i ≠ -ix w (i - 1)))
def wOk (r : Int) (w : List Int) : Nat → Bool
  | 0 => true
  | i + 1 => wOk r w i && w1 r w i
def isW (r : Int) (w : List Int) : Bool := decide (1 ≤ r ∧ r ≤ 3 ∧ w.length ≤ 24) && wOk r w w.length
theorem wOk_mono {r : Int} {w : List Int} {i j : Nat} (hij : i ≤ j) (h : wOk r w j = true) : wOk r w i = true := by
  induction j with
  | zero => have : i = 0 := by omega
            subst this; exact h
  | succ j ih =>
    rcases Nat.lt_or_ge i (j + 1) with h1 | h1
    · simp only [wOk, Bool.and_eq_true] at h
      exact ih (by omega) h.1
    · have : i = j + 1 := by omega
      subst this; exact h
theorem wOk_at {r : Int} {w : List Int} {n i : Nat} (h : wOk r w n = true) (hi : i < n) : w1 r w i = true := by
  have := wOk_mono (show i + 1 ≤ n from hi) h
  simp only [wOk, Bool.and_eq_true] at this
  exact this.2
theorem w1_iff {r : Int} {w : List Int} {i : Nat} : w1 r w i = true ↔ ix w i ≠ 0 ∧ -r ≤ ix w i ∧ ix w i ≤ r ∧ (i = 0 ∨ ix w i ≠ -ix w (i - 1)) := by simp only [w1, decide_eq_true_eq]
theorem wOk_step {r : Int} {w : List Int} {i : Nat} (h : wOk r w i = true) (h1 : ix w i ≠ 0 ∧ -r ≤ ix w i ∧ ix w i ≤ r ∧ (i = 0 ∨ ix w i ≠ -ix w (i - 1))) : wOk r w (i + 1) = true := by
  simp only [wOk, Bool.and_eq_true]; exact ⟨h, w1_iff.2 h1⟩
theorem wOk_bad {r : Int} {w : List Int} {i : Nat} (hi : i < w.length) (h1 : ¬ (ix w i ≠ 0 ∧ -r ≤ ix w i ∧ ix w i ≤ r ∧ (i = 0 ∨ ix w i ≠ -ix w (i - 1)))) : isW r w = false := by
  rw [← Bool.not_eq_true]
  intro h
  simp only [isW, Bool.and_eq_true] at h
  exact h1 (w1_iff.1 (wOk_at h.2 hi))
theorem isW_iff {r : Int} {w : List Int} : isW r w = true ↔ (1 ≤ r ∧ r ≤ 3 ∧ w.length ≤ 24) ∧ wOk r w w.length = true := by simp [isW]
theorem isW_no {r : Int} {w : List Int} (h : ¬ (1 ≤ r ∧ r ≤ 3 ∧ w.length ≤ 24)) : isW r w = false := by simp [isW, h]
theorem isW_at {r : Int} {w : List Int} {i : Nat} (h : isW r w = true) (hi : i < w.length) : ix w i ≠ 0 ∧ -r ≤ ix w i ∧ ix w i ≤ r ∧ 1 ≤ r ∧ r ≤ 3 := by
  obtain ⟨h1, h2⟩ := isW_iff.1 h
  have := w1_iff.1 (wOk_at h2 hi)
  omega
theorem isW_len {r : Int} {w : List Int} (h : isW r w = true) : 1 ≤ r ∧ r ≤ 3 ∧ w.length ≤ 24 := (isW_iff.1 h).1
/-! ### Paths -/
def vtx (u v z : Int) (n i : Nat) : Int := if i = 0 then u else if i = n then v else z + i - 1
def stE (a x b : Int) : Ed := if x < 0 then (b, -x, a) else (a, x, b)
def pthN (u v z : Int) (w : List Int) : Nat → List Ed
  | 0 => []
  | i + 1 => pthN u v z w i ++ [stE (vtx u v z w.length i) (ix w i) (vtx u v z w.length (i + 1))]
theorem pthN_len (u v z : Int) (w : List Int) (i : Nat) : (pthN u v z w i).length = i := by
  induction i with
  | zero => rfl
  | succ i ih => simp [pthN, ih]
def szN (z : Int) (n i : Nat) : Int := if i < n then z + i else z + n - 1
def pthOk (g : Gr) (u : Int) (w : List Int) (v : Int) : Bool := g.ok && decide (0 ≤ u ∧ u < g.z ∧ 0 ≤ v ∧ v < g.z ∧ 0 < w.length ∧ g.z + w.length - 1 ≤ 40 ∧ g.es.length + w.length ≤ 120) && isW g.r w
def pth (g : Gr) (u : Int) (w : List Int) (v : Int) : Gr := if pthOk g u w v then ⟨g.r, g.z + w.length - 1, norm (g.es ++ pthN u v g.z w w.length)⟩ else g
theorem pthOk_iff {r z : Int} {es : List Ed} {u v : Int} {w : List Int} : pthOk ⟨r, z, es⟩ u w v = true ↔ isG r z es = true ∧ (0 ≤ u ∧ u < z ∧ 0 ≤ v ∧ v < z ∧ 0 < w.length ∧ z + w.length - 1 ≤ 40 ∧ es.length + w.length ≤ 120) ∧ isW r w = true := by
  unfold pthOk
  rw [Bool.and_eq_true, Bool.and_eq_true, decide_eq_true_eq, and_assoc]
  rfl
theorem pth_no {g : Gr} {u v : Int} {w : List Int} (h : pthOk g u w v = false) : pth g u w v = g := by simp [pth, h]
theorem pth_yes {g : Gr} {u v : Int} {w : List Int} (h : pthOk g u w v = true) : pth g u w v = ⟨g.r, g.z + w.length - 1, norm (g.es ++ pthN u v g.z w w.length)⟩ := by simp [pth, h]
theorem vtx_in {u v z : Int} {n i : Nat} (hu : 0 ≤ u ∧ u < z) (hv : 0 ≤ v ∧ v < z) (hi : i ≤ n) : 0 ≤ vtx u v z n i ∧ vtx u v z n i < z + n - 1 ∨ n = 0 := by
  by_cases hn : n = 0
  · exact .inr hn
  · left; unfold vtx; split <;> (try split) <;> omega
theorem stE_in {r z a x b : Int} (ha : 0 ≤ a ∧ a < z) (hb : 0 ≤ b ∧ b < z) (hx : x ≠ 0 ∧ -r ≤ x ∧ x ≤ r) : inR r z (stE a x b) := by
  unfold inR stE; split <;> simp only <;> omega
theorem pthN_in {r u v z : Int} {w : List Int} (hu : 0 ≤ u ∧ u < z) (hv : 0 ≤ v ∧ v < z) (hw : isW r w = true) (h0 : 0 < w.length) : ∀ i, i ≤ w.length → ∀ e ∈ pthN u v z w i, inR r (z + w.length - 1) e := by
  intro i
  induction i with
  | zero => intro _ e he; cases he
  | succ i ih =>
    intro hi e he
    rcases List.mem_append.1 he with h | h
    · exact ih (by omega) e h
    · rw [List.mem_singleton] at h
      subst h
      have h1 := vtx_in (n := w.length) (i := i) hu hv (by omega)
      have h2 := vtx_in (n := w.length) (i := i + 1) hu hv (by omega)
      have h3 := isW_at hw (show i < w.length by omega)
      exact stE_in (by omega) (by omega) (by omega)
theorem norm_self {es : List Ed} (h : asc es) : norm es = es := (norm_uniq h fun x => Iff.rfl).symm
theorem pth_ok {g : Gr} {u v : Int} {w : List Int} (hg : g.ok = true) : (pth g u w v).ok = true := by
  cases h : pthOk g u w v with
  | false => rw [pth_no h]; exact hg
  | true =>
    rw [pth_yes h]
    obtain ⟨r, z, es⟩ := g
    obtain ⟨h1, h2, h3⟩ := pthOk_iff.1 h
    obtain ⟨hz, _, hr⟩ := isG_iff.1 h1
    show isG r (z + w.length - 1) (norm (es ++ pthN u v z w w.length)) = true
    refine norm_ok ⟨hz.1, hz.2.1⟩ ⟨by omega, by omega⟩ (by simp only [List.length_append, pthN_len]; omega) fun e he => ?_
    rcases List.mem_append.1 he with h4 | h4
    · have := hr e h4
      unfold inR at this ⊢
      omega
    · exact pthN_in (by omega) (by omega) h3 (by omega) _ (Nat.le_refl _) e h4
theorem pth_es {g : Gr} {u v : Int} {w : List Int} {n : Nat} (h : g.es.length ≤ n) (hn : 120 ≤ n) : (pth g u w v).es.length ≤ n := by
  cases hp : pthOk g u w v with
  | false => rw [pth_no hp]; exact h
  | true =>
    rw [pth_yes hp]
    obtain ⟨r, z, es⟩ := g
    obtain ⟨h1, h2, h3⟩ := pthOk_iff.1 hp
    have := norm_len (es ++ pthN u v z w w.length)
    simp only [List.length_append, pthN_len] at this
    simp only
    omega
end Go.Proofs.Try
namespace Go.Proofs.Try
open Go Go.Eng
set_option linter.unnecessarySimpa false
set_option linter.unusedSimpArgs false
set_option maxHeartbeats 4000000
def K_isLetter_sat : Nat → List Nat := fun i => ([[0, 1], [4]] : List (List Nat)).getD i []
attribute [go_sem] K_isLetter_sat
def isLetter_sat_S : Eng.Spec := fun args av objs => ∃ (r x : Int), (1 ≤ r ∧ r ≤ 3) ∧ args = [aI r, aI x] ∧ av = aB (decide (x ≠ 0 ∧ -r ≤ x ∧ x ≤ r)) ∧ objs = []
theorem isLetter_sat : Sat Try.prog 66 isLetter_sat_S := by
  refine sat_of tok okr mixed K_isLetter_sat Try.func66 rfl (rs := [.tmp 4]) rfl Try.ntmps66 ?_
  rintro args av objs ⟨r, x, hpre, rfl, rfl, rfl⟩
  refine ⟨by show 2 ≤ 14; decide, ?_⟩
  repeat' (first|(refine ya ?_;first|(refine yb ?_;first|refine yc ?_)|refine ye ?_)|(refine yg ?_;intro hgs;first|(replace hgs:=zgy hgs;first|(refine yb ?_;first|refine yc ?_)|refine yy hgs ?_;clear hgs)|(refine yn (zgn hgs) ?_;clear hgs)|((fail_if_success have:=zgy hgs);refine z_spl hgs (h1:=?_) (h2:=?_)<;>clear hgs<;>intro hg hr<;>try first|contradiction|exfalso;omega))|refine yz ?_|refine zst ?_|refine k_blk_other rfl ?_|(refine zk ?_ ?_<;>intro hc hr<;>try first|contradiction|exfalso;omega))
  all_goals refine z_ret (hv := ?_) (ho := ?_)
  all_goals simp_all
  all_goals omega
instance : Con Try.prog 66 isLetter_sat_S := con isLetter_sat Try.func66
def K_areInverse_sat : Nat → List Nat := fun i => ([[0, 1], [4]] : List (List Nat)).getD i []
attribute [go_sem] K_areInverse_sat
def areInverse_sat_S : Eng.Spec := fun args av objs => ∃ (a b : Int), (-1000000 ≤ a ∧ a ≤ 1000000) ∧ args = [aI a, aI b] ∧ av = aB (decide (a ≠ 0 ∧ b = -a)) ∧ objs = []
theorem areInverse_sat : Sat Try.prog 67 areInverse_sat_S := by
  refine sat_of tok okr mixed K_areInverse_sat Try.func67 rfl (rs := [.tmp 4]) rfl Try.ntmps67 ?_
  rintro args av objs ⟨a, b, hpre, rfl, rfl, rfl⟩
  refine ⟨by show 2 ≤ 17; decide, ?_⟩
  repeat' (first|(refine ya ?_;first|refine ye ?_)|(refine yg ?_;intro hgs;first|(replace hgs:=zgy hgs;first|refine yy hgs ?_;clear hgs)|(refine yn (zgn hgs) ?_;clear hgs)|((fail_if_success have:=zgy hgs);refine z_spl hgs (h1:=?_) (h2:=?_)<;>clear hgs<;>intro hg hr<;>try first|contradiction|exfalso;omega))|refine yz ?_|refine zst ?_|refine k_blk_other rfl ?_|(refine zk ?_ ?_<;>intro hc hr<;>try first|contradiction|exfalso;omega))
  all_goals refine z_ret (hv := ?_) (ho := ?_)
  all_goals have ha : ¬ a = -9223372036854775808 := by omega
  all_goals first | rfl | (simp_all; done) | (simp [ha, Bool.beq_eq_decide_eq]; done)
instance : Con Try.prog 67 areInverse_sat_S := con areInverse_sat Try.func67
def K_isWord_sat : Nat → List Nat := fun i => ([[0, 1], [0, 1, 14], [4], [0, 1, 15, 16, 17], [0, 1, 15, 16, 17, 18], [0, 1, 5, 6, 15, 16, 17], [0, 1, 15, 16, 17, 38], [4], [0, 1, 15, 16, 17], [4]] : List (List Nat)).getD i []
attribute [go_sem] K_isWord_sat
def isWord_sat_S : Eng.Spec := fun args av objs => ∃ (r : Int) (w : List Int), (w.length ≤ 1099511627776) ∧ args = [aI r, aL w] ∧ av = aB (isW r w) ∧ objs = []
theorem isWord_sat : Sat Try.prog 35 isWord_sat_S := by
  refine sat_of tok okr mixed K_isWord_sat Try.func35 rfl (rs := [.tmp 4]) rfl Try.ntmps35 ?_
  rintro args av objs ⟨r, w, hpre, rfl, rfl, rfl⟩
  refine ⟨by show 2 ≤ 40; decide, ?_⟩
  by_cases hb : 1 ≤ r ∧ r ≤ 3 ∧ w.length ≤ 24
  · repeat' (first|(refine ya ?_;first|(refine yb ?_;first|refine yc ?_)|refine ye ?_)|(refine yg ?_;intro hgs;first|(replace hgs:=zgy hgs;first|(refine yb ?_;first|refine yc ?_)|refine yy hgs ?_;clear hgs)|(refine yn (zgn hgs) ?_;clear hgs)|((fail_if_success have:=zgy hgs);refine z_spl hgs (h1:=?_) (h2:=?_)<;>clear hgs<;>intro hg hr<;>try first|contradiction|exfalso;omega))|refine yt ?_|refine yz ?_|refine zst ?_|refine k_blk_other rfl ?_|(refine zk ?_ ?_<;>intro hc hr<;>try first|contradiction|exfalso;omega))
    refine z_loop (fun i : Nat => [(17, aI i)]) (fun i : Nat => []) (fun i : Nat => i ≤ w.length ∧ wOk r w i = true) (fun i : Nat => w.length - i) (0) (h0 := ?_) (henv := ?_) (hobj := ?_) (h := ?_)
    · exact ⟨by omega, rfl⟩
    · simp [go_sem, AVm, CVm, lookS]
    · simp [go_sem, OBm, CVm, lookS, All2]
    rintro i ⟨hi, hok⟩
    rcases Nat.lt_or_ge i w.length with hlt | hge
    · have hprev : 0 < i → -r ≤ ix w (i - 1) ∧ ix w (i - 1) ≤ r ∧ ix w (i - 1) ≠ 0 := fun h => by
        have := w1_iff.1 (wOk_at hok (show i - 1 < i by omega))
        omega
      have e1 : ((i : Int) - 1).toNat = i - 1 := by omega
      repeat' (first|(refine ya ?_;first|(refine yb ?_;first|refine yc ?_)|refine ye ?_)|(refine yg ?_;intro hgs;first|(replace hgs:=zgy hgs;first|(refine yb ?_;first|refine yc ?_)|refine yy hgs ?_;clear hgs)|(refine yn (zgn hgs) ?_;clear hgs)|((fail_if_success have:=zgy hgs);refine z_spl hgs (h1:=?_) (h2:=?_)<;>clear hgs<;>intro hg hr<;>try first|contradiction|exfalso;omega))|refine yt ?_|refine yz ?_|refine zst ?_|refine k_blk_other rfl ?_|(refine zk ?_ ?_<;>intro hc hr<;>try first|contradiction|exfalso;omega))
      all_goals first
        | (have := wOk_bad (r := r) (w := w) hlt (by omega); rw [this]; all_goals first | (refine z_ret (hv := ?_) (ho := ?_) <;> first | rfl | (simp [go_sem, *]; done) | (simp_all; done) | (simp_all; omega)) | skip; done)
        | (have := wOk_step hok (by omega); exact zl (i + 1) (hj := by exact ⟨by omega, this⟩))
        | trace_state
    · have hii : i = w.length := by omega
      subst hii
      have : isW r w = true := isW_iff.2 ⟨hb, hok⟩
      rw [this]
      repeat' (first|(refine ya ?_;first|(refine yb ?_;first|refine yc ?_)|refine ye ?_)|(refine yg ?_;intro hgs;first|(replace hgs:=zgy hgs;first|(refine yb ?_;first|refine yc ?_)|refine yy hgs ?_;clear hgs)|(refine yn (zgn hgs) ?_;clear hgs)|((fail_if_success have:=zgy hgs);refine z_spl hgs (h1:=?_) (h2:=?_)<;>clear hgs<;>intro hg hr<;>try first|contradiction|exfalso;omega))|refine yt ?_|refine yz ?_|refine zst ?_|refine k_blk_other rfl ?_|(refine zk ?_ ?_<;>intro hc hr<;>try first|contradiction|exfalso;omega))
      all_goals first | (refine z_ret (hv := ?_) (ho := ?_) <;> first | rfl | (simp [go_sem, *]; done) | (simp_all; done) | (simp_all; omega)) | skip
  · rw [isW_no hb]
    repeat' (first|(refine ya ?_;first|(refine yb ?_;first|refine yc ?_)|refine ye ?_)|(refine yg ?_;intro hgs;first|(replace hgs:=zgy hgs;first|(refine yb ?_;first|refine yc ?_)|refine yy hgs ?_;clear hgs)|(refine yn (zgn hgs) ?_;clear hgs)|((fail_if_success have:=zgy hgs);refine z_spl hgs (h1:=?_) (h2:=?_)<;>clear hgs<;>intro hg hr<;>try first|contradiction|exfalso;omega))|refine yt ?_|refine yz ?_|refine zst ?_|refine k_blk_other rfl ?_|(refine zk ?_ ?_<;>intro hc hr<;>try first|contradiction|exfalso;omega))
    all_goals first | (refine z_ret (hv := ?_) (ho := ?_) <;> first | rfl | (simp [go_sem, *]; done) | (simp_all; done) | (simp_all; omega)) | skip
instance : Con Try.prog 35 isWord_sat_S := con isWord_sat Try.func35
def K_isWord_sat2 : Nat → List Nat := fun i => ([[0, 1], [0, 1, 5], [0, 1, 5, 9], [0, 1, 5], [0, 1, 5, 44], [4], [4]] : List (List Nat)).getD i []
attribute [go_sem] K_isWord_sat2
def isWord_sat2_S : Eng.Spec := fun args av objs => ∃ (r : Int) (w : List Int), (w.length ≤ 1099511627776) ∧ args = [aI r, aL w] ∧ av = aB (isW r w) ∧ objs = []
theorem isWord_sat2 : Sat Try.prog 36 isWord_sat2_S := by
  refine sat_of tok okr mixed K_isWord_sat2 Try.func36 rfl (rs := [.tmp 4]) rfl Try.ntmps36 ?_
  rintro args av objs ⟨r, w, hpre, rfl, rfl, rfl⟩
  refine ⟨by show 2 ≤ 52; decide, ?_⟩
  by_cases hb : 1 ≤ r ∧ r ≤ 3 ∧ w.length ≤ 24
  · repeat' (first|(refine ya ?_;first|(refine yb ?_;first|refine yc ?_)|refine ye ?_)|(refine yg ?_;intro hgs;first|(replace hgs:=zgy hgs;first|(refine yb ?_;first|refine yc ?_)|refine yy hgs ?_;clear hgs)|(refine yn (zgn hgs) ?_;clear hgs)|((fail_if_success have:=zgy hgs);refine z_spl hgs (h1:=?_) (h2:=?_)<;>clear hgs<;>intro hg hr<;>try first|contradiction|exfalso;omega))|refine yt ?_|refine yz ?_|(refine yA ?_;first|(refine yB ?_;first|refine yC ?_)|refine yE ?_)|(refine yG ?_;intro hgs;first|(replace hgs:=zgy hgs;first|(refine yB ?_;first|refine yC ?_)|refine yY hgs ?_;clear hgs)|(refine yN (zgn hgs) ?_;clear hgs)|((fail_if_success have:=zgy hgs);refine z_spll hgs (h1:=?_) (h2:=?_)<;>clear hgs<;>intro hg hr<;>try first|contradiction|exfalso;omega))|refine yT ?_|refine yZ ?_|refine zst ?_|refine k_blk_other rfl ?_|(refine zk ?_ ?_<;>intro hc hr<;>try first|contradiction|exfalso;omega))
    refine z_loop (fun i : Nat => [(5, aI i)]) (fun i : Nat => []) (fun i : Nat => i ≤ w.length ∧ wOk r w i = true) (fun i : Nat => w.length - i) (0) (h0 := ?_) (henv := ?_) (hobj := ?_) (h := ?_)
    · exact ⟨by omega, rfl⟩
    · simp [go_sem, AVm, CVm, lookS]
    · simp [go_sem, OBm, CVm, lookS, All2]
    rintro i ⟨hi, hok⟩
    rcases Nat.lt_or_ge i w.length with hlt | hge
    · have hprev : 0 < i → -r ≤ ix w (i - 1) ∧ ix w (i - 1) ≤ r ∧ ix w (i - 1) ≠ 0 := fun h => by
        have := w1_iff.1 (wOk_at hok (show i - 1 < i by omega))
        omega
      have e1 : ((i : Int) - 1).toNat = i - 1 := by omega
      repeat' (first|(refine ya ?_;first|(refine yb ?_;first|refine yc ?_)|refine ye ?_)|(refine yg ?_;intro hgs;first|(replace hgs:=zgy hgs;first|(refine yb ?_;first|refine yc ?_)|refine yy hgs ?_;clear hgs)|(refine yn (zgn hgs) ?_;clear hgs)|((fail_if_success have:=zgy hgs);refine z_spl hgs (h1:=?_) (h2:=?_)<;>clear hgs<;>intro hg hr<;>try first|contradiction|exfalso;omega))|refine yt ?_|refine yz ?_|(refine yA ?_;first|(refine yB ?_;first|refine yC ?_)|refine yE ?_)|(refine yG ?_;intro hgs;first|(replace hgs:=zgy hgs;first|(refine yB ?_;first|refine yC ?_)|refine yY hgs ?_;clear hgs)|(refine yN (zgn hgs) ?_;clear hgs)|((fail_if_success have:=zgy hgs);refine z_spll hgs (h1:=?_) (h2:=?_)<;>clear hgs<;>intro hg hr<;>try first|contradiction|exfalso;omega))|refine yT ?_|refine yZ ?_|refine zst ?_|refine k_blk_other rfl ?_|(refine zk ?_ ?_<;>intro hc hr<;>try first|contradiction|exfalso;omega))
      all_goals first
        | (have := wOk_bad (r := r) (w := w) hlt (by omega); rw [this]; all_goals first | (refine z_ret (hv := ?_) (ho := ?_) <;> first | rfl | (simp [go_sem, *]; done) | (simp_all; done) | (simp_all; omega)) | skip; done)
        | (have := wOk_step hok (by omega); exact zl (i + 1) (hj := by exact ⟨by omega, this⟩))
        | trace_state
    · have hii : i = w.length := by omega
      subst hii
      have : isW r w = true := isW_iff.2 ⟨hb, hok⟩
      rw [this]
      repeat' (first|(refine ya ?_;first|(refine yb ?_;first|refine yc ?_)|refine ye ?_)|(refine yg ?_;intro hgs;first|(replace hgs:=zgy hgs;first|(refine yb ?_;first|refine yc ?_)|refine yy hgs ?_;clear hgs)|(refine yn (zgn hgs) ?_;clear hgs)|((fail_if_success have:=zgy hgs);refine z_spl hgs (h1:=?_) (h2:=?_)<;>clear hgs<;>intro hg hr<;>try first|contradiction|exfalso;omega))|refine yt ?_|refine yz ?_|(refine yA ?_;first|(refine yB ?_;first|refine yC ?_)|refine yE ?_)|(refine yG ?_;intro hgs;first|(replace hgs:=zgy hgs;first|(refine yB ?_;first|refine yC ?_)|refine yY hgs ?_;clear hgs)|(refine yN (zgn hgs) ?_;clear hgs)|((fail_if_success have:=zgy hgs);refine z_spll hgs (h1:=?_) (h2:=?_)<;>clear hgs<;>intro hg hr<;>try first|contradiction|exfalso;omega))|refine yT ?_|refine yZ ?_|refine zst ?_|refine k_blk_other rfl ?_|(refine zk ?_ ?_<;>intro hc hr<;>try first|contradiction|exfalso;omega))
      all_goals first | (refine z_ret (hv := ?_) (ho := ?_) <;> first | rfl | (simp [go_sem, *]; done) | (simp_all; done) | (simp_all; omega)) | skip
  · rw [isW_no hb]
    repeat' (first|(refine ya ?_;first|(refine yb ?_;first|refine yc ?_)|refine ye ?_)|(refine yg ?_;intro hgs;first|(replace hgs:=zgy hgs;first|(refine yb ?_;first|refine yc ?_)|refine yy hgs ?_;clear hgs)|(refine yn (zgn hgs) ?_;clear hgs)|((fail_if_success have:=zgy hgs);refine z_spl hgs (h1:=?_) (h2:=?_)<;>clear hgs<;>intro hg hr<;>try first|contradiction|exfalso;omega))|refine yt ?_|refine yz ?_|(refine yA ?_;first|(refine yB ?_;first|refine yC ?_)|refine yE ?_)|(refine yG ?_;intro hgs;first|(replace hgs:=zgy hgs;first|(refine yB ?_;first|refine yC ?_)|refine yY hgs ?_;clear hgs)|(refine yN (zgn hgs) ?_;clear hgs)|((fail_if_success have:=zgy hgs);refine z_spll hgs (h1:=?_) (h2:=?_)<;>clear hgs<;>intro hg hr<;>try first|contradiction|exfalso;omega))|refine yT ?_|refine yZ ?_|refine zst ?_|refine k_blk_other rfl ?_|(refine zk ?_ ?_<;>intro hc hr<;>try first|contradiction|exfalso;omega))
    refine z_loop (fun i : Nat => [(5, aI i)]) (fun i : Nat => []) (fun i : Nat => i ≤ w.length) (fun i : Nat => w.length - i) (0) (h0 := ?_) (henv := ?_) (hobj := ?_) (h := ?_)
    · omega
    · simp [go_sem, AVm, CVm, lookS]
    · simp [go_sem, OBm, CVm, lookS, All2]
    intro i hi
    have e1 : ((i : Int) - 1).toNat = i - 1 := by omega
    repeat' (first|(refine ya ?_;first|(refine yb ?_;first|refine yc ?_)|refine ye ?_)|(refine yg ?_;intro hgs;first|(replace hgs:=zgy hgs;first|(refine yb ?_;first|refine yc ?_)|refine yy hgs ?_;clear hgs)|(refine yn (zgn hgs) ?_;clear hgs)|((fail_if_success have:=zgy hgs);refine z_spl hgs (h1:=?_) (h2:=?_)<;>clear hgs<;>intro hg hr<;>try first|contradiction|exfalso;omega))|refine yt ?_|refine yz ?_|(refine yA ?_;first|(refine yB ?_;first|refine yC ?_)|refine yE ?_)|(refine yG ?_;intro hgs;first|(replace hgs:=zgy hgs;first|(refine yB ?_;first|refine yC ?_)|refine yY hgs ?_;clear hgs)|(refine yN (zgn hgs) ?_;clear hgs)|((fail_if_success have:=zgy hgs);refine z_spll hgs (h1:=?_) (h2:=?_)<;>clear hgs<;>intro hg hr<;>try first|contradiction|exfalso;omega))|refine yT ?_|refine yZ ?_|refine zst ?_|refine k_blk_other rfl ?_|(refine zk ?_ ?_<;>intro hc hr<;>try first|contradiction|exfalso;omega))
    all_goals first | (exact zl (i + 1); done) | skip
    all_goals trace_state
    all_goals first | (refine z_ret (hv := ?_) (ho := ?_) <;> first | rfl | (simp [go_sem, *]; done) | (simp_all; done) | (simp_all; omega)) | skip
instance : Con Try.prog 36 isWord_sat2_S := con isWord_sat2 Try.func36
end Go.Proofs.Try
namespace Go.Proofs.Try
open Go Go.Eng
set_option linter.unnecessarySimpa false
set_option linter.unusedSimpArgs false
set_option maxHeartbeats 4000000
theorem vtx_0 (u v z : Int) (n : Nat) : vtx u v z n 0 = u := by simp [vtx]
theorem vtx_n {u v z : Int} {n : Nat} (h : 0 < n) : vtx u v z n n = v := by unfold vtx; rw [if_neg (by omega), if_pos rfl]
theorem vtx_m {u v z : Int} {n i : Nat} (h : i + 1 < n) : vtx u v z n (i + 1) = z + i := by
  simp only [vtx]; rw [if_neg (by omega), if_neg (by omega)]; omega
theorem szN_m {z : Int} {n i : Nat} (h : i < n) : szN z n i = z + i := by simp [szN, h]
theorem szN_n (z : Int) (n : Nat) : szN z n n = z + n - 1 := by simp [szN]
theorem pthN_s (u v z : Int) (w : List Int) (i : Nat) : pthN u v z w (i + 1) = pthN u v z w i ++ [stE (vtx u v z w.length i) (ix w i) (vtx u v z w.length (i + 1))] := rfl
def K_step_sat : Nat → List Nat := fun i => ([[0, 1, 2, 6], [0, 1, 2, 6, 8], [6], [6]] : List (List Nat)).getD i []
attribute [go_sem] K_step_sat
def step_sat_S : Eng.Spec := fun args av objs => ∃ (u x v : Int), (-1000000 ≤ x ∧ x ≤ 1000000) ∧ args = [aI u, aI x, aI v] ∧ av = .agg [.sc (.int (stE u x v).1), .sc (.int (stE u x v).2.1), .sc (.int (stE u x v).2.2)] ∧ objs = []
theorem step_sat : Sat Try.prog 46 step_sat_S := by
  refine sat_of tok okr mixed K_step_sat Try.func46 rfl (rs := [.cell 6 56]) rfl Try.ntmps46 ?_
  rintro args av objs ⟨u, x, v, hpre, rfl, rfl, rfl⟩
  refine ⟨by show 3 ≤ 18; decide, ?_⟩
  by_cases hx : x < 0
  · have : stE u x v = (v, -x, u) := by simp [stE, hx]
    rw [this]
    repeat' (first|(refine ya ?_;first|refine ye ?_)|refine yz ?_|refine zst ?_|refine k_blk_other rfl ?_|(refine zk ?_ ?_<;>intro hc hr<;>try first|contradiction|exfalso;omega))
    all_goals first | (refine z_ret (hv := ?_) (ho := ?_) <;> first | rfl | (simp [go_sem, *]; done) | (simp_all; done) | (simp_all; omega)) | skip
  · have : stE u x v = (u, x, v) := by simp [stE, hx]
    rw [this]
    repeat' (first|(refine ya ?_;first|refine ye ?_)|refine yz ?_|refine zst ?_|refine k_blk_other rfl ?_|(refine zk ?_ ?_<;>intro hc hr<;>try first|contradiction|exfalso;omega))
    all_goals first | (refine z_ret (hv := ?_) (ho := ?_) <;> first | rfl | (simp [go_sem, *]; done) | (simp_all; done) | (simp_all; omega)) | skip
instance : Con Try.prog 46 step_sat_S := con step_sat Try.func46
def K_addPath_sat : Nat → List Nat := fun i => ([[1, 2, 3, 4, 8], [1, 2, 3, 4, 8, 10], [1, 2, 3, 8, 10, 61], [8, 9], [2, 3, 8, 10, 11], [2, 3, 8, 10, 11, 64, 65, 66], [2, 3, 8, 10, 11, 64, 65, 66, 67], [2, 3, 8, 10, 11, 12, 13, 64, 65, 66], [2, 3, 8, 10, 11, 12, 13, 14, 64, 65, 66], [2, 3, 8, 10, 11, 13, 14, 64, 65, 66, 76], [2, 3, 8, 10, 11, 13, 14, 64, 65, 66], [2, 3, 8, 10, 11, 13, 14, 64, 65, 66], [2, 3, 8, 10, 14, 64, 65, 66], [2, 3, 8, 10, 11, 64, 65, 66], [2, 3, 8, 10, 11, 64, 65, 66], [8, 10], [8, 9]] : List (List Nat)).getD i []
attribute [go_sem] K_addPath_sat
def addPath_sat_S : Eng.Spec := fun args av objs => ∃ (r z : Int) (es : List Ed) (u : Int) (w : List Int) (v : Int), (es.length ≤ 1048576 ∧ w.length ≤ 1048576) ∧ args = [grA r z es, aI u, aL w, aI v] ∧ av = .tup [gT (pth ⟨r, z, es⟩ u w v), aB (pthOk ⟨r, z, es⟩ u w v)] ∧ objs = [oE 56 (pth ⟨r, z, es⟩ u w v).es]
theorem addPath_sat : Sat Try.prog 14 addPath_sat_S := by
  refine sat_of tok okr mixed K_addPath_sat Try.func14 rfl (rs := [.cell 8 29, .tmp 9]) rfl Try.ntmps14 ?_
  rintro args av objs ⟨r, z, es, u, w, v, hpre, rfl, rfl, rfl⟩
  refine ⟨by show 4 ≤ 99; decide, ?_⟩
  cases hG : isG r z es
  · have hok : pthOk ⟨r, z, es⟩ u w v = false := by simp [pthOk, Gr.ok, hG]
    rw [pth_no hok, hok]
    repeat' (first|(refine ya ?_;first|(refine yb ?_;first|refine yc ?_)|refine ye ?_)|(refine yg ?_;intro hgs;first|(replace hgs:=zgy hgs;first|(refine yb ?_;first|refine yc ?_)|refine yy hgs ?_;clear hgs)|(refine yn (zgn hgs) ?_;clear hgs)|((fail_if_success have:=zgy hgs);refine z_spl hgs (h1:=?_) (h2:=?_)<;>clear hgs<;>intro hg hr<;>try first|contradiction|exfalso;omega))|refine yz ?_|(refine yA ?_;first|(refine yB ?_;first|refine yC ?_)|refine yE ?_)|(refine yG ?_;intro hgs;first|(replace hgs:=zgy hgs;first|(refine yB ?_;first|refine yC ?_)|refine yY hgs ?_;clear hgs)|(refine yN (zgn hgs) ?_;clear hgs)|((fail_if_success have:=zgy hgs);refine z_spll hgs (h1:=?_) (h2:=?_)<;>clear hgs<;>intro hg hr<;>try first|contradiction|exfalso;omega))|refine yZ ?_|refine zst ?_|refine k_blk_other rfl ?_|(refine zk ?_ ?_<;>intro hc hr<;>try first|contradiction|exfalso;omega))
    all_goals first | (refine z_ret (hv := ?_) (ho := ?_) <;> first | rfl | (simp [go_sem, *]; done) | (simp_all; done) | (simp_all; omega)) | skip
  have hz := isG_z hG
  cases hW : isW r w
  · have hok : pthOk ⟨r, z, es⟩ u w v = false := by simp [pthOk, hW]
    rw [pth_no hok, hok]
    repeat' (first|(refine ya ?_;first|(refine yb ?_;first|refine yc ?_)|refine ye ?_)|(refine yg ?_;intro hgs;first|(replace hgs:=zgy hgs;first|(refine yb ?_;first|refine yc ?_)|refine yy hgs ?_;clear hgs)|(refine yn (zgn hgs) ?_;clear hgs)|((fail_if_success have:=zgy hgs);refine z_spl hgs (h1:=?_) (h2:=?_)<;>clear hgs<;>intro hg hr<;>try first|contradiction|exfalso;omega))|refine yz ?_|(refine yA ?_;first|(refine yB ?_;first|refine yC ?_)|refine yE ?_)|(refine yG ?_;intro hgs;first|(replace hgs:=zgy hgs;first|(refine yB ?_;first|refine yC ?_)|refine yY hgs ?_;clear hgs)|(refine yN (zgn hgs) ?_;clear hgs)|((fail_if_success have:=zgy hgs);refine z_spll hgs (h1:=?_) (h2:=?_)<;>clear hgs<;>intro hg hr<;>try first|contradiction|exfalso;omega))|refine yZ ?_|refine zst ?_|refine k_blk_other rfl ?_|(refine zk ?_ ?_<;>intro hc hr<;>try first|contradiction|exfalso;omega))
    all_goals first | (refine z_ret (hv := ?_) (ho := ?_) <;> first | rfl | (simp [go_sem, *]; done) | (simp_all; done) | (simp_all; omega)) | skip
  have hwl := isW_len hW
  cases hok : pthOk ⟨r, z, es⟩ u w v
  · rw [pth_no hok]
    repeat' (first|(refine ya ?_;first|(refine yb ?_;first|refine yc ?_)|refine ye ?_)|(refine yg ?_;intro hgs;first|(replace hgs:=zgy hgs;first|(refine yb ?_;first|refine yc ?_)|refine yy hgs ?_;clear hgs)|(refine yn (zgn hgs) ?_;clear hgs)|((fail_if_success have:=zgy hgs);refine z_spl hgs (h1:=?_) (h2:=?_)<;>clear hgs<;>intro hg hr<;>try first|contradiction|exfalso;omega))|refine yz ?_|(refine yA ?_;first|(refine yB ?_;first|refine yC ?_)|refine yE ?_)|(refine yG ?_;intro hgs;first|(replace hgs:=zgy hgs;first|(refine yB ?_;first|refine yC ?_)|refine yY hgs ?_;clear hgs)|(refine yN (zgn hgs) ?_;clear hgs)|((fail_if_success have:=zgy hgs);refine z_spll hgs (h1:=?_) (h2:=?_)<;>clear hgs<;>intro hg hr<;>try first|contradiction|exfalso;omega))|refine yZ ?_|refine zst ?_|refine k_blk_other rfl ?_|(refine zk ?_ ?_<;>intro hc hr<;>try first|contradiction|exfalso;omega))
    all_goals first | (refine z_ret (hv := ?_) (ho := ?_) <;> first | rfl | (simp [go_sem, *]; done) | (simp_all; done) | (simp_all; omega)) | skip
    all_goals (exfalso; have := pthOk_iff.2 ⟨hG, (show 0 ≤ u ∧ u < z ∧ 0 ≤ v ∧ v < z ∧ 0 < w.length ∧ z + w.length - 1 ≤ 40 ∧ es.length + w.length ≤ 120 by omega), hW⟩; rw [hok] at this; cases this)
  rw [pth_yes hok]
  obtain ⟨_, hb, _⟩ := pthOk_iff.1 hok
  have hne : w ≠ [] := by rintro rfl; simp at hb
  repeat' (first|(refine ya ?_;first|(refine yb ?_;first|refine yc ?_)|refine ye ?_)|(refine yg ?_;intro hgs;first|(replace hgs:=zgy hgs;first|(refine yb ?_;first|refine yc ?_)|refine yy hgs ?_;clear hgs)|(refine yn (zgn hgs) ?_;clear hgs)|((fail_if_success have:=zgy hgs);refine z_spl hgs (h1:=?_) (h2:=?_)<;>clear hgs<;>intro hg hr<;>try first|contradiction|exfalso;omega))|refine yz ?_|(refine yA ?_;first|(refine yB ?_;first|refine yC ?_)|refine yE ?_)|(refine yG ?_;intro hgs;first|(replace hgs:=zgy hgs;first|(refine yB ?_;first|refine yC ?_)|refine yY hgs ?_;clear hgs)|(refine yN (zgn hgs) ?_;clear hgs)|((fail_if_success have:=zgy hgs);refine z_spll hgs (h1:=?_) (h2:=?_)<;>clear hgs<;>intro hg hr<;>try first|contradiction|exfalso;omega))|refine yZ ?_|refine zst ?_|refine k_blk_other rfl ?_|(refine zk ?_ ?_<;>intro hc hr<;>try first|contradiction|exfalso;omega))
  refine z_loop (fun i : Nat => [(66, aI i), (11, aI (vtx u v z w.length i))]) (fun i : Nat => [.cell 10 1 (.sc (.int (szN z w.length i))), .cell 10 2 (.ref 900), .inner 10 (oE 56 (es ++ pthN u v z w i))]) (fun i : Nat => i ≤ w.length) (fun i : Nat => w.length - i) (0) (h0 := ?_) (henv := ?_) (hobj := ?_) (h := ?_)
  · omega
  · simp [go_sem, AVm, CVm, lookS, vtx_0, szN_m (z := z) (show 0 < w.length by omega), pthN]
  · simp [go_sem, OBm, CVm, lookS, All2, vtx_0, szN_m (z := z) (show 0 < w.length by omega), pthN]
  intro i hi
  have hpl := pthN_len u v z w i
  rcases Nat.lt_or_ge i w.length with hlt | hge
  · have hx := isW_at hW hlt
    have hs := szN_m (z := z) hlt
    by_cases hlast : i + 1 < w.length
    · have hv := vtx_m (u := u) (v := v) (z := z) hlast
      have hs2 := szN_m (z := z) hlast
      repeat' (first|(refine ya ?_;first|(refine yb ?_;first|refine yc ?_)|refine ye ?_)|(refine yg ?_;intro hgs;first|(replace hgs:=zgy hgs;first|(refine yb ?_;first|refine yc ?_)|refine yy hgs ?_;clear hgs)|(refine yn (zgn hgs) ?_;clear hgs)|((fail_if_success have:=zgy hgs);refine z_spl hgs (h1:=?_) (h2:=?_)<;>clear hgs<;>intro hg hr<;>try first|contradiction|exfalso;omega))|refine yz ?_|(refine yA ?_;first|(refine yB ?_;first|refine yC ?_)|refine yE ?_)|(refine yG ?_;intro hgs;first|(replace hgs:=zgy hgs;first|(refine yB ?_;first|refine yC ?_)|refine yY hgs ?_;clear hgs)|(refine yN (zgn hgs) ?_;clear hgs)|((fail_if_success have:=zgy hgs);refine z_spll hgs (h1:=?_) (h2:=?_)<;>clear hgs<;>intro hg hr<;>try first|contradiction|exfalso;omega))|refine yZ ?_|refine zst ?_|refine k_blk_other rfl ?_|(refine zk ?_ ?_<;>intro hc hr<;>try first|contradiction|exfalso;omega))
      (refine z_lop (i + 1) (hj := ?_) (hmu := ?_) (henv := ?_) (hobj := ?_); (· omega); (· first | omega | (simp only; omega)); (· first | (simp [go_sem, AVm, CVm, lookS, pthN_s, *]; done) | (simp [go_sem, AVm, CVm, lookS, pthN_s, *] <;> (repeat' split) <;> first | omega | (simp_all; done) | (exfalso; omega) | (simp_all; omega))); (· first | (simp [go_sem, OBm, CVm, All2, lookS, pthN_s, *]; done) | (simp [go_sem, OBm, CVm, All2, lookS, pthN_s, *] <;> (repeat' split) <;> first | omega | (simp_all; done) | (exfalso; omega) | (simp_all; omega))))
    · have hlast2 : i + 1 = w.length := by omega
      have hv : vtx u v z w.length (i + 1) = v := by rw [hlast2]; exact vtx_n (by omega)
      have hs2 : szN z w.length (i + 1) = z + i := by rw [hlast2, szN_n]; omega
      clear hlast2
      repeat' (first|(refine ya ?_;first|(refine yb ?_;first|refine yc ?_)|refine ye ?_)|(refine yg ?_;intro hgs;first|(replace hgs:=zgy hgs;first|(refine yb ?_;first|refine yc ?_)|refine yy hgs ?_;clear hgs)|(refine yn (zgn hgs) ?_;clear hgs)|((fail_if_success have:=zgy hgs);refine z_spl hgs (h1:=?_) (h2:=?_)<;>clear hgs<;>intro hg hr<;>try first|contradiction|exfalso;omega))|refine yz ?_|(refine yA ?_;first|(refine yB ?_;first|refine yC ?_)|refine yE ?_)|(refine yG ?_;intro hgs;first|(replace hgs:=zgy hgs;first|(refine yB ?_;first|refine yC ?_)|refine yY hgs ?_;clear hgs)|(refine yN (zgn hgs) ?_;clear hgs)|((fail_if_success have:=zgy hgs);refine z_spll hgs (h1:=?_) (h2:=?_)<;>clear hgs<;>intro hg hr<;>try first|contradiction|exfalso;omega))|refine yZ ?_|refine zst ?_|refine k_blk_other rfl ?_|(refine zk ?_ ?_<;>intro hc hr<;>try first|contradiction|exfalso;omega))
      (refine z_lop (i + 1) (hj := ?_) (hmu := ?_) (henv := ?_) (hobj := ?_); (· omega); (· first | omega | (simp only; omega)); (· first | (simp [go_sem, AVm, CVm, lookS, pthN_s, *]; done) | (simp [go_sem, AVm, CVm, lookS, pthN_s, *] <;> (repeat' split) <;> first | omega | (simp_all; done) | (exfalso; omega) | (simp_all; omega))); (· first | (simp [go_sem, OBm, CVm, All2, lookS, pthN_s, *]; done) | (simp [go_sem, OBm, CVm, All2, lookS, pthN_s, *] <;> (repeat' split) <;> first | omega | (simp_all; done) | (exfalso; omega) | (simp_all; omega))))
  · have hii : i = w.length := by omega
    subst hii
    repeat' (first|(refine ya ?_;first|(refine yb ?_;first|refine yc ?_)|refine ye ?_)|(refine yg ?_;intro hgs;first|(replace hgs:=zgy hgs;first|(refine yb ?_;first|refine yc ?_)|refine yy hgs ?_;clear hgs)|(refine yn (zgn hgs) ?_;clear hgs)|((fail_if_success have:=zgy hgs);refine z_spl hgs (h1:=?_) (h2:=?_)<;>clear hgs<;>intro hg hr<;>try first|contradiction|exfalso;omega))|refine yz ?_|(refine yA ?_;first|(refine yB ?_;first|refine yC ?_)|refine yE ?_)|(refine yG ?_;intro hgs;first|(replace hgs:=zgy hgs;first|(refine yB ?_;first|refine yC ?_)|refine yY hgs ?_;clear hgs)|(refine yN (zgn hgs) ?_;clear hgs)|((fail_if_success have:=zgy hgs);refine z_spll hgs (h1:=?_) (h2:=?_)<;>clear hgs<;>intro hg hr<;>try first|contradiction|exfalso;omega))|refine yZ ?_|refine zst ?_|refine k_blk_other rfl ?_|(refine zk ?_ ?_<;>intro hc hr<;>try first|contradiction|exfalso;omega))
    all_goals first | (refine z_ret (hv := ?_) (ho := ?_) <;> first | rfl | (simp [go_sem, szN_n, *]; done) | (simp_all [szN_n]; done) | (simp_all [szN_n]; omega)) | skip
instance : Con Try.prog 14 addPath_sat_S := con addPath_sat Try.func14
def K_addPath_sat2 : Nat → List Nat := fun i => ([[1, 2, 3, 4, 8], [1, 2, 3, 4, 8, 10], [1, 2, 3, 8, 10, 64], [8, 9], [2, 3, 8, 10, 11], [2, 3, 8, 10, 11, 12], [2, 3, 8, 10, 11, 12, 70], [2, 3, 8, 10, 11, 12], [2, 3, 8, 10, 11, 12, 13], [2, 3, 8, 10, 11, 12, 13, 78], [2, 3, 8, 10, 11, 12, 13], [2, 3, 8, 10, 11, 12, 13], [2, 3, 8, 10, 11, 12, 13, 89], [2, 3, 8, 10, 12, 13], [2, 3, 8, 10, 12, 13], [2, 3, 8, 10, 11, 12], [8, 9]] : List (List Nat)).getD i []
attribute [go_sem] K_addPath_sat2
def addPath_sat2_S : Eng.Spec := fun args av objs => ∃ (r z : Int) (es : List Ed) (u : Int) (w : List Int) (v : Int), (es.length ≤ 1048576 ∧ w.length ≤ 1048576) ∧ args = [grA r z es, aI u, aL w, aI v] ∧ av = .tup [gT (pth ⟨r, z, es⟩ u w v), aB (pthOk ⟨r, z, es⟩ u w v)] ∧ objs = [oE 56 (pth ⟨r, z, es⟩ u w v).es]
theorem addPath_sat2 : Sat Try.prog 15 addPath_sat2_S := by
  refine sat_of tok okr mixed K_addPath_sat2 Try.func15 rfl (rs := [.cell 8 29, .tmp 9]) rfl Try.ntmps15 ?_
  rintro args av objs ⟨r, z, es, u, w, v, hpre, rfl, rfl, rfl⟩
  refine ⟨by show 4 ≤ 115; decide, ?_⟩
  cases hG : isG r z es
  · have hok : pthOk ⟨r, z, es⟩ u w v = false := by simp [pthOk, Gr.ok, hG]
    rw [pth_no hok, hok]
    repeat' (first|(refine ya ?_;first|(refine yb ?_;first|refine yc ?_)|refine ye ?_)|(refine yg ?_;intro hgs;first|(replace hgs:=zgy hgs;first|(refine yb ?_;first|refine yc ?_)|refine yy hgs ?_;clear hgs)|(refine yn (zgn hgs) ?_;clear hgs)|((fail_if_success have:=zgy hgs);refine z_spl hgs (h1:=?_) (h2:=?_)<;>clear hgs<;>intro hg hr<;>try first|contradiction|exfalso;omega))|refine yz ?_|(refine yA ?_;first|(refine yB ?_;first|refine yC ?_)|refine yE ?_)|(refine yG ?_;intro hgs;first|(replace hgs:=zgy hgs;first|(refine yB ?_;first|refine yC ?_)|refine yY hgs ?_;clear hgs)|(refine yN (zgn hgs) ?_;clear hgs)|((fail_if_success have:=zgy hgs);refine z_spll hgs (h1:=?_) (h2:=?_)<;>clear hgs<;>intro hg hr<;>try first|contradiction|exfalso;omega))|refine yZ ?_|refine zst ?_|refine k_blk_other rfl ?_|(refine zk ?_ ?_<;>intro hc hr<;>try first|contradiction|exfalso;omega))
    all_goals first | (refine z_ret (hv := ?_) (ho := ?_) <;> first | rfl | (simp [go_sem, *]; done) | (simp_all; done) | (simp_all; omega)) | skip
  have hz := isG_z hG
  cases hW : isW r w
  · have hok : pthOk ⟨r, z, es⟩ u w v = false := by simp [pthOk, hW]
    rw [pth_no hok, hok]
    repeat' (first|(refine ya ?_;first|(refine yb ?_;first|refine yc ?_)|refine ye ?_)|(refine yg ?_;intro hgs;first|(replace hgs:=zgy hgs;first|(refine yb ?_;first|refine yc ?_)|refine yy hgs ?_;clear hgs)|(refine yn (zgn hgs) ?_;clear hgs)|((fail_if_success have:=zgy hgs);refine z_spl hgs (h1:=?_) (h2:=?_)<;>clear hgs<;>intro hg hr<;>try first|contradiction|exfalso;omega))|refine yz ?_|(refine yA ?_;first|(refine yB ?_;first|refine yC ?_)|refine yE ?_)|(refine yG ?_;intro hgs;first|(replace hgs:=zgy hgs;first|(refine yB ?_;first|refine yC ?_)|refine yY hgs ?_;clear hgs)|(refine yN (zgn hgs) ?_;clear hgs)|((fail_if_success have:=zgy hgs);refine z_spll hgs (h1:=?_) (h2:=?_)<;>clear hgs<;>intro hg hr<;>try first|contradiction|exfalso;omega))|refine yZ ?_|refine zst ?_|refine k_blk_other rfl ?_|(refine zk ?_ ?_<;>intro hc hr<;>try first|contradiction|exfalso;omega))
    all_goals first | (refine z_ret (hv := ?_) (ho := ?_) <;> first | rfl | (simp [go_sem, *]; done) | (simp_all; done) | (simp_all; omega)) | skip
  have hwl := isW_len hW
  cases hok : pthOk ⟨r, z, es⟩ u w v
  · rw [pth_no hok]
    repeat' (first|(refine ya ?_;first|(refine yb ?_;first|refine yc ?_)|refine ye ?_)|(refine yg ?_;intro hgs;first|(replace hgs:=zgy hgs;first|(refine yb ?_;first|refine yc ?_)|refine yy hgs ?_;clear hgs)|(refine yn (zgn hgs) ?_;clear hgs)|((fail_if_success have:=zgy hgs);refine z_spl hgs (h1:=?_) (h2:=?_)<;>clear hgs<;>intro hg hr<;>try first|contradiction|exfalso;omega))|refine yz ?_|(refine yA ?_;first|(refine yB ?_;first|refine yC ?_)|refine yE ?_)|(refine yG ?_;intro hgs;first|(replace hgs:=zgy hgs;first|(refine yB ?_;first|refine yC ?_)|refine yY hgs ?_;clear hgs)|(refine yN (zgn hgs) ?_;clear hgs)|((fail_if_success have:=zgy hgs);refine z_spll hgs (h1:=?_) (h2:=?_)<;>clear hgs<;>intro hg hr<;>try first|contradiction|exfalso;omega))|refine yZ ?_|refine zst ?_|refine k_blk_other rfl ?_|(refine zk ?_ ?_<;>intro hc hr<;>try first|contradiction|exfalso;omega))
    all_goals first | (refine z_ret (hv := ?_) (ho := ?_) <;> first | rfl | (simp [go_sem, *]; done) | (simp_all; done) | (simp_all; omega)) | skip
    all_goals (exfalso; have := pthOk_iff.2 ⟨hG, (show 0 ≤ u ∧ u < z ∧ 0 ≤ v ∧ v < z ∧ 0 < w.length ∧ z + w.length - 1 ≤ 40 ∧ es.length + w.length ≤ 120 by omega), hW⟩; rw [hok] at this; cases this)
  rw [pth_yes hok]
  obtain ⟨_, hb, _⟩ := pthOk_iff.1 hok
  have hne : w ≠ [] := by rintro rfl; simp at hb
  have hasc := (isG_iff.1 hG).2.1
  repeat' (first|(refine ya ?_;first|(refine yb ?_;first|refine yc ?_)|refine ye ?_)|(refine yg ?_;intro hgs;first|(replace hgs:=zgy hgs;first|(refine yb ?_;first|refine yc ?_)|refine yy hgs ?_;clear hgs)|(refine yn (zgn hgs) ?_;clear hgs)|((fail_if_success have:=zgy hgs);refine z_spl hgs (h1:=?_) (h2:=?_)<;>clear hgs<;>intro hg hr<;>try first|contradiction|exfalso;omega))|refine yz ?_|(refine yA ?_;first|(refine yB ?_;first|refine yC ?_)|refine yE ?_)|(refine yG ?_;intro hgs;first|(replace hgs:=zgy hgs;first|(refine yB ?_;first|refine yC ?_)|refine yY hgs ?_;clear hgs)|(refine yN (zgn hgs) ?_;clear hgs)|((fail_if_success have:=zgy hgs);refine z_spll hgs (h1:=?_) (h2:=?_)<;>clear hgs<;>intro hg hr<;>try first|contradiction|exfalso;omega))|refine yZ ?_|refine zst ?_|refine k_blk_other rfl ?_|(refine zk ?_ ?_<;>intro hc hr<;>try first|contradiction|exfalso;omega))
  refine z_loop (fun i : Nat => [(12, aI i), (11, aI (vtx u v z w.length i))]) (fun i : Nat => [.cell 10 1 (.sc (.int (szN z w.length i))), .cell 10 2 (.ref 900), .inner 10 (oE 56 (norm (es ++ pthN u v z w i)))]) (fun i : Nat => i ≤ w.length) (fun i : Nat => w.length - i) (0) (h0 := ?_) (henv := ?_) (hobj := ?_) (h := ?_)
  · omega
  · simp [go_sem, AVm, CVm, lookS, vtx_0, szN_m (z := z) (show 0 < w.length by omega), pthN, norm_self hasc]
  · simp [go_sem, OBm, CVm, lookS, All2, vtx_0, szN_m (z := z) (show 0 < w.length by omega), pthN, norm_self hasc]
  intro i hi
  have hpl := pthN_len u v z w i
  have hnl := norm_len (es ++ pthN u v z w i)
  rw [List.length_append, hpl] at hnl
  rcases Nat.lt_or_ge i w.length with hlt | hge
  · have hx := isW_at hW hlt
    have hs := szN_m (z := z) hlt
    have hpn : ∀ e : Ed, e = stE (vtx u v z w.length i) (ix w i) (vtx u v z w.length (i + 1)) → put (norm (es ++ pthN u v z w i)) e = norm (es ++ pthN u v z w (i + 1)) := fun e he => by rw [norm_snoc, pthN_s, ← List.append_assoc, he]
    by_cases hlast : i + 1 < w.length
    · have hv := vtx_m (u := u) (v := v) (z := z) hlast
      have hs2 := szN_m (z := z) hlast
      repeat' (first|(refine ya ?_;first|(refine yb ?_;first|refine yc ?_)|refine ye ?_)|(refine yg ?_;intro hgs;first|(replace hgs:=zgy hgs;first|(refine yb ?_;first|refine yc ?_)|refine yy hgs ?_;clear hgs)|(refine yn (zgn hgs) ?_;clear hgs)|((fail_if_success have:=zgy hgs);refine z_spl hgs (h1:=?_) (h2:=?_)<;>clear hgs<;>intro hg hr<;>try first|contradiction|exfalso;omega))|refine yz ?_|(refine yA ?_;first|(refine yB ?_;first|refine yC ?_)|refine yE ?_)|(refine yG ?_;intro hgs;first|(replace hgs:=zgy hgs;first|(refine yB ?_;first|refine yC ?_)|refine yY hgs ?_;clear hgs)|(refine yN (zgn hgs) ?_;clear hgs)|((fail_if_success have:=zgy hgs);refine z_spll hgs (h1:=?_) (h2:=?_)<;>clear hgs<;>intro hg hr<;>try first|contradiction|exfalso;omega))|refine yZ ?_|refine zst ?_|refine k_blk_other rfl ?_|(refine zk ?_ ?_<;>intro hc hr<;>try first|contradiction|exfalso;omega))
      · have hq := hpn (vtx u v z w.length i, ix w i, z + i) (by rw [hv]; simp [stE, show ¬ ix w i < 0 by omega])
        exact zl (i + 1)
      · have hq := hpn (z + i, -ix w i, vtx u v z w.length i) (by rw [hv]; simp [stE, show ix w i < 0 by omega])
        exact zl (i + 1)
    · have hlast2 : i + 1 = w.length := by omega
      have hv : vtx u v z w.length (i + 1) = v := by rw [hlast2]; exact vtx_n (by omega)
      have hs2 : szN z w.length (i + 1) = z + i := by rw [hlast2, szN_n]; omega
      clear hlast2
      repeat' (first|(refine ya ?_;first|(refine yb ?_;first|refine yc ?_)|refine ye ?_)|(refine yg ?_;intro hgs;first|(replace hgs:=zgy hgs;first|(refine yb ?_;first|refine yc ?_)|refine yy hgs ?_;clear hgs)|(refine yn (zgn hgs) ?_;clear hgs)|((fail_if_success have:=zgy hgs);refine z_spl hgs (h1:=?_) (h2:=?_)<;>clear hgs<;>intro hg hr<;>try first|contradiction|exfalso;omega))|refine yz ?_|(refine yA ?_;first|(refine yB ?_;first|refine yC ?_)|refine yE ?_)|(refine yG ?_;intro hgs;first|(replace hgs:=zgy hgs;first|(refine yB ?_;first|refine yC ?_)|refine yY hgs ?_;clear hgs)|(refine yN (zgn hgs) ?_;clear hgs)|((fail_if_success have:=zgy hgs);refine z_spll hgs (h1:=?_) (h2:=?_)<;>clear hgs<;>intro hg hr<;>try first|contradiction|exfalso;omega))|refine yZ ?_|refine zst ?_|refine k_blk_other rfl ?_|(refine zk ?_ ?_<;>intro hc hr<;>try first|contradiction|exfalso;omega))
      · have hq := hpn (vtx u v z w.length i, ix w i, v) (by rw [hv]; simp [stE, show ¬ ix w i < 0 by omega])
        exact zl (i + 1)
      · have hq := hpn (v, -ix w i, vtx u v z w.length i) (by rw [hv]; simp [stE, show ix w i < 0 by omega])
        exact zl (i + 1)
  · have hii : i = w.length := by omega
    subst hii
    repeat' (first|(refine ya ?_;first|(refine yb ?_;first|refine yc ?_)|refine ye ?_)|(refine yg ?_;intro hgs;first|(replace hgs:=zgy hgs;first|(refine yb ?_;first|refine yc ?_)|refine yy hgs ?_;clear hgs)|(refine yn (zgn hgs) ?_;clear hgs)|((fail_if_success have:=zgy hgs);refine z_spl hgs (h1:=?_) (h2:=?_)<;>clear hgs<;>intro hg hr<;>try first|contradiction|exfalso;omega))|refine yz ?_|(refine yA ?_;first|(refine yB ?_;first|refine yC ?_)|refine yE ?_)|(refine yG ?_;intro hgs;first|(replace hgs:=zgy hgs;first|(refine yB ?_;first|refine yC ?_)|refine yY hgs ?_;clear hgs)|(refine yN (zgn hgs) ?_;clear hgs)|((fail_if_success have:=zgy hgs);refine z_spll hgs (h1:=?_) (h2:=?_)<;>clear hgs<;>intro hg hr<;>try first|contradiction|exfalso;omega))|refine yZ ?_|refine zst ?_|refine k_blk_other rfl ?_|(refine zk ?_ ?_<;>intro hc hr<;>try first|contradiction|exfalso;omega))
    all_goals first | (refine z_ret (hv := ?_) (ho := ?_) <;> first | rfl | (simp [go_sem, szN_n, *]; done) | (simp_all [szN_n]; done) | (simp_all [szN_n]; omega)) | skip
instance : Con Try.prog 15 addPath_sat2_S := con addPath_sat2 Try.func15
end Go.Proofs.Try
namespace Go.Proofs.Try
open Go Go.Eng
set_option linter.unnecessarySimpa false
set_option linter.unusedSimpArgs false
set_option maxHeartbeats 4000000
def K_petal_sat : Nat → List Nat := fun i => ([[1, 2, 4], [4, 5]] : List (List Nat)).getD i []
attribute [go_sem] K_petal_sat
def petal_sat_S : Eng.Spec := fun args av objs => ∃ (r z : Int) (es : List Ed) (w : List Int), (es.length ≤ 1048576 ∧ w.length ≤ 1048576) ∧ args = [grA r z es, aL w] ∧ av = .tup [gT (pth ⟨r, z, es⟩ 0 w 0), aB (pthOk ⟨r, z, es⟩ 0 w 0)] ∧ objs = [oE 56 (pth ⟨r, z, es⟩ 0 w 0).es]
theorem petal_sat : Sat Try.prog 17 petal_sat_S := by
  refine sat_of tok okr mixed K_petal_sat Try.func17 rfl (rs := [.cell 4 29, .tmp 5]) rfl Try.ntmps17 ?_
  rintro args av objs ⟨r, z, es, w, hpre, rfl, rfl, rfl⟩
  refine ⟨by show 2 ≤ 11; decide, ?_⟩
  have hm := pth_es (g := ⟨r, z, es⟩) (u := 0) (w := w) (v := 0) (n := 1048576) hpre.1 (by omega)
  repeat' (first|(refine ya ?_;first|(refine yb ?_;first|refine yc ?_)|refine ye ?_)|refine yz ?_|refine zst ?_|refine k_blk_other rfl ?_|(refine zk ?_ ?_<;>intro hc hr<;>try first|contradiction|exfalso;omega))
  all_goals first | (refine z_ret (hv := ?_) (ho := ?_) <;> first | rfl | (simp [go_sem, *]; done) | (simp_all; done) | (simp_all; omega)) | skip
instance : Con Try.prog 17 petal_sat_S := con petal_sat Try.func17
def K_petal_sat2 : Nat → List Nat := fun i => ([[1, 2, 4], [4, 6, 7], [4, 5]] : List (List Nat)).getD i []
attribute [go_sem] K_petal_sat2
def petal_sat2_S : Eng.Spec := fun args av objs => ∃ (r z : Int) (es : List Ed) (w : List Int), (es.length ≤ 1048576 ∧ w.length ≤ 1048576) ∧ args = [grA r z es, aL w] ∧ av = .tup [gT (pth ⟨r, z, es⟩ 0 w 0), aB (pthOk ⟨r, z, es⟩ 0 w 0)] ∧ objs = [oE 56 (pth ⟨r, z, es⟩ 0 w 0).es]
theorem petal_sat2 : Sat Try.prog 18 petal_sat2_S := by
  refine sat_of tok okr mixed K_petal_sat2 Try.func18 rfl (rs := [.cell 4 29, .tmp 5]) rfl Try.ntmps18 ?_
  rintro args av objs ⟨r, z, es, w, hpre, rfl, rfl, rfl⟩
  refine ⟨by show 2 ≤ 16; decide, ?_⟩
  have hm := pth_es (g := ⟨r, z, es⟩) (u := 0) (w := w) (v := 0) (n := 1048576) hpre.1 (by omega)
  repeat' (first|(refine ya ?_;first|(refine yb ?_;first|refine yc ?_)|refine ye ?_)|refine yz ?_|refine zst ?_|refine k_blk_other rfl ?_|(refine zk ?_ ?_<;>intro hc hr<;>try first|contradiction|exfalso;omega))
  all_goals first | (refine z_ret (hv := ?_) (ho := ?_) <;> first | rfl | (simp [go_sem, *]; done) | (simp_all; done) | (simp_all; omega)) | skip
instance : Con Try.prog 18 petal_sat2_S := con petal_sat2 Try.func18
end Go.Proofs.Try
