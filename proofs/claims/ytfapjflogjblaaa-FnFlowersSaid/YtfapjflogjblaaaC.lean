import Derived.Test.YtfapjflogjblaaaD
import Derived.Test.YtfapjflogjblaaaU4
import Derived.Test.YtfapjflogjblaaaK
import Derived.Test.YtfapjflogjblaaaS
import Derived.Test.YtfapjflogjblaaaN
import Derived.Test.YtfapjflogjblaaaR
set_option linter.unusedVariables false
set_option linter.unusedSimpArgs false
set_option linter.unnecessarySimpa false
/- Plain: folding on and on, trimming, canonical numbers, cores. -/
namespace Go.Proofs.Try
open Go Go.Eng
theorem pick_nil (n i : Nat) : pickF [] n i = 0 := by simp [pickF]
theorem fio_once {g : Gr} (hg : g.ok = true) {i : Nat} (h : ¬ (foldsOf (fio [] g i).1.es).length = 0) :
    ffOk (fio [] g i).1.r (fio [] g i).1.z (fio [] g i).1.es = true ∧ fio [] g (i + 1) = (foldOnce (fio [] g i).1, (fio [] g i).2 ++ [ffF (fio [] g i).1.r (fio [] g i).1.z (fio [] g i).1.es]) := by
  have h1 := (fio_ok (cs := []) hg i).1
  have h2 : ffOk (fio [] g i).1.r (fio [] g i).1.z (fio [] g i).1.es = true := ff_iff.2 ⟨h1, lenPos h⟩
  refine ⟨h2, ?_⟩
  rw [fio_succ h, pick_nil]
  simp only [foldOnce, ffF, h2, if_true]
theorem fio_end {g : Gr} {i : Nat} (h : (foldsOf (fio [] g i).1.es).length = 0) : ffOk (fio [] g i).1.r (fio [] g i).1.z (fio [] g i).1.es = false := by
  rw [← Bool.not_eq_true]
  intro h2
  have := (ff_iff.1 h2).2
  omega

/-! ### Degrees, leaves -/
def dgN (es : List Ed) (v : Int) : Nat → Int
  | 0 => 0
  | n + 1 => dgN es v n + (if (ed es n).1 = v then 1 else 0) + (if (ed es n).2.2 = v then 1 else 0)
theorem dgN_le (es : List Ed) (v : Int) (n : Nat) : 0 ≤ dgN es v n ∧ dgN es v n ≤ 2 * n := by
  induction n with
  | zero => simp [dgN]
  | succ n ih => unfold dgN; split <;> split <;> omega
def deg (es : List Ed) (v : Int) : Int := dgN es v es.length
open Classical in
noncomputable def lf (g : Gr) (v : Int) : Bool := decide (deg g.es v < 2) || !decide (v ∈ rl g.es 0 g.z)
noncomputable def goneN (g : Gr) : Nat → Int
  | 0 => 0
  | n + 1 => if goneN g n ≠ 0 then goneN g n else if lf g (n + 1) then n + 1 else 0
noncomputable def gone (g : Gr) : Int := goneN g (g.z - 1).toNat
theorem goneN_le (g : Gr) (n : Nat) : 0 ≤ goneN g n ∧ goneN g n ≤ n := by
  induction n with
  | zero => simp [goneN]
  | succ n ih => unfold goneN; split; · omega
                 split <;> omega
theorem goneN_keep {g : Gr} {n : Nat} (h : goneN g n ≠ 0) : ∀ k, goneN g (n + k) = goneN g n
  | 0 => rfl
  | k + 1 => by
    have ih := goneN_keep h k
    show goneN g (n + k + 1) = _
    rw [goneN, ih, if_pos h]
theorem gone_at {g : Gr} {n : Nat} (h : goneN g n ≠ 0) (hn : n ≤ (g.z - 1).toNat) : gone g = goneN g n := by
  have := goneN_keep h ((g.z - 1).toNat - n)
  rw [← this, gone]
  congr 1; omega
theorem gone_in {g : Gr} : 0 ≤ gone g ∧ (gone g ≠ 0 → gone g < g.z) := by
  have := goneN_le g (g.z - 1).toNat
  unfold gone
  omega
theorem goneN_lf {g : Gr} {n : Nat} (h : goneN g n ≠ 0) : lf g (goneN g n) = true := by
  induction n with
  | zero => simp [goneN] at h
  | succ n ih =>
    unfold goneN at h ⊢
    split
    · rename_i h1; exact ih h1
    · rename_i h1
      rw [if_neg h1] at h
      split
      · rename_i h2; exact h2
      · rename_i h2; rw [if_neg h2] at h; exact (h rfl).elim
theorem goneN_no {g : Gr} {n : Nat} (h : goneN g n = 0) : ∀ v : Int, 1 ≤ v → v ≤ n → lf g v = false := by
  induction n with
  | zero => intro v h1 h2; omega
  | succ n ih =>
    intro v h1 h2
    unfold goneN at h
    by_cases h3 : goneN g n = 0
    · rw [if_neg (by omega)] at h
      by_cases h4 : v ≤ n
      · exact ih h3 v h1 h4
      · have hv : v = (n : Int) + 1 := by omega
        rw [hv]
        by_cases h5 : lf g ((n : Int) + 1) = true
        · rw [if_pos h5] at h; omega
        · simpa using h5
    · rw [if_pos h3] at h; exact (h3 h).elim
theorem gone_no {g : Gr} (h : gone g = 0) {v : Int} (h1 : 1 ≤ v) (h2 : v < g.z) : lf g v = false := goneN_no h v h1 (by omega)

/-! ### All vertices but one -/
def othN (v : Int) : Nat → List Int
  | 0 => []
  | n + 1 => if (n : Int) = v then othN v n else othN v n ++ [(n : Int)]
theorem othN_mem {v u : Int} {n : Nat} : u ∈ othN v n ↔ 0 ≤ u ∧ u < n ∧ u ≠ v := by
  induction n with
  | zero => simp [othN]; omega
  | succ n ih =>
    unfold othN
    split
    · rw [ih]; omega
    · rw [List.mem_append, ih, List.mem_singleton]; omega
theorem othN_asc (v : Int) (n : Nat) : ascI (othN v n) := by
  induction n with
  | zero => exact List.Pairwise.nil
  | succ n ih =>
    unfold othN
    split
    · exact ih
    · refine List.pairwise_append.2 ⟨ih, by simp, fun x hx y hy => ?_⟩
      have := othN_mem.1 hx
      rw [List.mem_singleton] at hy
      omega
theorem othN_lt {v : Int} {n : Nat} (h : (n : Int) ≤ v) : (othN v n).length = n := by
  induction n with
  | zero => rfl
  | succ n ih => unfold othN; rw [if_neg (by omega)]; simp [ih (by omega)]
theorem othN_len {v : Int} {n : Nat} (h0 : 0 ≤ v) (h : v < n) : (othN v n).length = n - 1 := by
  induction n with
  | zero => omega
  | succ n ih =>
    unfold othN
    split
    · rw [othN_lt (by omega)]; omega
    · simp [ih (by omega)]; omega
theorem othN_le (v : Int) (n : Nat) : (othN v n).length ≤ n := by
  induction n with
  | zero => simp [othN]
  | succ n ih =>
    unfold othN
    split
    · omega
    · simp only [List.length_append, List.length_cons, List.length_nil]; omega
theorem asc_nodup {l : List Int} (h : ascI l) : l.Nodup := by
  unfold ascI at h
  exact h.imp (fun h => by omega)
def rstN (l : List Int) (v : Int) : Nat → List Int
  | 0 => []
  | n + 1 => if (n : Int) = v then rstN l v n else rstN l v n ++ [ix l n]
theorem rstN_le (l : List Int) (v : Int) (n : Nat) : (rstN l v n).length ≤ n := by
  induction n with
  | zero => simp [rstN]
  | succ n ih =>
    unfold rstN
    split
    · omega
    · simp only [List.length_append, List.length_cons, List.length_nil]; omega
theorem rstN_lt {l : List Int} {v : Int} {n : Nat} (h : (n : Int) ≤ v) (hn : n ≤ l.length) : rstN l v n = l.take n := by
  induction n with
  | zero => simp [rstN]
  | succ n ih =>
    unfold rstN
    rw [if_neg (by omega), ih (by omega) (by omega), List.take_add_one]
    simp [ix, show n < l.length by omega]
theorem rstN_eq {l : List Int} {v : Int} {n : Nat} (h0 : 0 ≤ v) (h : v < n) (hn : n ≤ l.length) : rstN l v n = l.take v.toNat ++ (l.take n).drop (v.toNat + 1) := by
  induction n with
  | zero => omega
  | succ n ih =>
    unfold rstN
    split
    · rename_i hv
      rw [rstN_lt (by omega) (by omega)]
      have : v.toNat = n := by omega
      rw [this]
      simp
    · rw [ih (by omega) (by omega), List.append_assoc]
      congr 1
      rw [List.take_add_one, List.drop_append_of_le_length (by rw [List.length_take]; omega)]
      simp [ix, show n < l.length by omega]

/-! ### Orders that may be taken -/
theorem pos_neg {o : List Int} {v : Int} : ∀ {n : Nat}, n ≤ o.length → (pos o n v < 0 ↔ v ∉ o.take n)
  | 0, _ => by simp [pos]
  | n + 1, h => by
    have ih := pos_neg (o := o) (v := v) (n := n) (by omega)
    have ht : o.take (n + 1) = o.take n ++ [ix o n] := by rw [List.take_add_one]; simp [ix, show n < o.length by omega]
    rw [ht, List.mem_append, List.mem_singleton]
    unfold pos
    split
    · rename_i hv
      constructor
      · intro h2; omega
      · intro h2; exact (h2 (.inr (by first | exact hv | exact hv.symm))).elim
    · rename_i hv
      rw [ih]
      constructor
      · rintro h2 (h3 | h3)
        · exact h2 h3
        · exact hv (by first | exact h3 | exact h3.symm)
      · exact fun h2 h3 => h2 (.inl h3)
theorem renOk_of {o : List Int} {z : Int} (hn : o.Nodup) (hb : ∀ u ∈ o, 0 ≤ u ∧ u < z) : ∀ {n : Nat}, n ≤ o.length → renOk o z n = true
  | 0, _ => rfl
  | n + 1, h => by
    have ih := renOk_of hn hb (n := n) (by omega)
    have hm := hb _ (ix_mem (l := o) (i := n) (by omega))
    have hp : pos o n (ix o n) < 0 := by
      refine (pos_neg (by omega)).2 fun hm2 => ?_
      obtain ⟨i, hi, he⟩ := List.mem_iff_getElem.1 hm2
      rw [List.length_take] at hi
      have he2 : o[i] = o[n] := by
        have : ix o n = o[n] := by simp [ix, show n < o.length by omega]
        rw [← this, ← he, List.getElem_take]
      exact List.pairwise_iff_getElem.1 hn i n (by omega) (by omega) (by omega) he2
    unfold renOk
    simp [ih, hm, hp]
theorem renV_of {r z : Int} {es : List Ed} {o : List Int} (hg : isG r z es = true) (h0 : 0 < o.length) (hn : o.Nodup) (hb : ∀ u ∈ o, 0 ≤ u ∧ u < z) : renV ⟨r, z, es⟩ o = true := by
  have hz := isG_z hg
  have := nodup_len (by omega) hn hb
  exact renV_iff.2 ⟨hg, ⟨h0, by omega⟩, renOk_of hn hb (Nat.le_refl _)⟩

/-! ### Trimming -/
def allN : Nat → List Int
  | 0 => []
  | n + 1 => allN n ++ [(n : Int)]
theorem allN_len (n : Nat) : (allN n).length = n := by
  induction n with
  | zero => rfl
  | succ n ih => simp [allN, ih]
noncomputable def trm (g : Gr) : Nat → Gr × List Int
  | 0 => (g, allN g.z.toNat)
  | i + 1 => if gone (trm g i).1 = 0 then trm g i else
      (prt (othN (gone (trm g i).1) (trm g i).1.z.toNat) (trm g i).1, rstN (trm g i).2 (gone (trm g i).1) (trm g i).1.z.toNat)
noncomputable def trimG (g : Gr) : Gr × List Int := if g.ok then trm g 40 else (g, [])
theorem trm_stop {g : Gr} {i : Nat} (h : gone (trm g i).1 = 0) : ∀ k, trm g (i + k) = trm g i
  | 0 => rfl
  | k + 1 => by
    have ih := trm_stop h k
    show trm g (i + k + 1) = _
    rw [trm, ih, if_pos h]
theorem trm_ok {g : Gr} (hg : g.ok = true) : ∀ i, (trm g i).1.ok = true ∧ (trm g i).2.length = (trm g i).1.z.toNat ∧ (trm g i).1.r = g.r ∧ (trm g i).1.z ≤ g.z ∧ (gone (trm g i).1 ≠ 0 → (trm g i).1.z + i ≤ g.z)
  | 0 => ⟨hg, allN_len _, rfl, Int.le_refl _, fun _ => by simp [trm]⟩
  | i + 1 => by
    obtain ⟨h1, h2, h3, h4, h5⟩ := trm_ok hg i
    unfold trm
    split
    · rename_i h; exact ⟨h1, h2, h3, h4, fun h6 => (h6 h).elim⟩
    · rename_i h
      have hz := ok_z h1
      have hin := gone_in (g := (trm g i).1)
      have hl := othN_len (v := gone (trm g i).1) (n := (trm g i).1.z.toNat) hin.1 (by have := hin.2 h; omega)
      have h6 := hin.2 h
      have h7 := h5 h
      refine ⟨prt_ok h1 (by omega) (by omega), ?_, h3, ?_, fun _ => ?_⟩
      · rw [rstN_eq hin.1 (by omega) (by omega)]
        show _ = (((othN (gone (trm g i).1) (trm g i).1.z.toNat).length : Nat) : Int).toNat
        simp only [List.length_append, List.length_take, List.length_drop]
        omega
      · show ((othN (gone (trm g i).1) (trm g i).1.z.toNat).length : Int) ≤ g.z
        omega
      · show ((othN (gone (trm g i).1) (trm g i).1.z.toNat).length : Int) + ((i + 1 : Nat) : Int) ≤ g.z
        omega
theorem trm_lt {g : Gr} (hg : g.ok = true) {i : Nat} (h : gone (trm g i).1 ≠ 0) : i < 39 := by
  have hz := ok_z hg
  have h1 := (trm_ok hg i).2.2.2.2 h
  have h2 := gone_in (g := (trm g i).1)
  have := h2.2 h
  omega
theorem trim_at {g : Gr} (hg : g.ok = true) {i : Nat} (h : gone (trm g i).1 = 0) (hi : i ≤ 40) : trimG g = trm g i := by
  unfold trimG
  rw [if_pos hg, ← trm_stop h (40 - i)]
  congr 1; omega
theorem trim_no {g : Gr} (hg : g.ok = false) : trimG g = (g, []) := by simp [trimG, hg]
theorem trim_done {g : Gr} (hg : g.ok = true) : gone (trimG g).1 = 0 := by
  unfold trimG
  rw [if_pos hg]
  exact Decidable.byContradiction fun h => by have := trm_lt hg h; omega
theorem trim_ok {g : Gr} (hg : g.ok = true) : (trimG g).1.ok = true := by
  unfold trimG; rw [if_pos hg]; exact (trm_ok hg 40).1
theorem trim_z {g : Gr} (hg : g.ok = true) : (trimG g).1.z ≤ g.z := by
  unfold trimG; rw [if_pos hg]; exact (trm_ok hg 40).2.2.2.1
theorem trim_len {g : Gr} : (trimG g).2.length ≤ 40 := by
  unfold trimG
  split
  · rename_i hg
    have h := trm_ok hg 40
    have := ok_z h.1
    omega
  · simp
theorem trim_es {g : Gr} {n : Nat} (h : g.es.length ≤ n) (hn : 120 ≤ n) : (trimG g).1.es.length ≤ n := by
  cases hg : g.ok
  · rw [trim_no hg]; exact h
  · have := ok_z (trim_ok hg); omega
theorem trm_z {g : Gr} (hg : g.ok = true) : ∀ i, (trm g i).1.z = g.z → gone g = 0 ∨ i = 0
  | 0, _ => .inr rfl
  | i + 1, h => by
    left
    unfold trm at h
    split at h
    · rename_i h0
      rcases trm_z hg i h with h1 | h1
      · exact h1
      · subst h1; exact h0
    · rename_i h0
      have h1 := (trm_ok hg i).2.2.2.2 h0
      have h2 := gone_in (g := (trm g i).1)
      have h3 := h2.2 h0
      have h4 := (trm_ok hg i).2.2.2.1
      have hl := othN_len (v := gone (trm g i).1) (n := (trm g i).1.z.toNat) h2.1 (by omega)
      have : ((othN (gone (trm g i).1) (trm g i).1.z.toNat).length : Int) = g.z := h
      omega
/-- Trimming keeps the vertices only where there is nothing to trim. -/
theorem trim_size {g : Gr} (hg : g.ok = true) : (trimG g).1.z = g.z ↔ gone g = 0 := by
  constructor
  · intro h
    unfold trimG at h
    rw [if_pos hg] at h
    rcases trm_z hg 40 h with h1 | h1
    · exact h1
    · omega
  · intro h
    rw [trim_at hg (i := 0) h (by omega)]; rfl
theorem trim_self {g : Gr} (hg : g.ok = true) (h : gone g = 0) : (trimG g).1 = g := by
  rw [trim_at hg (i := 0) h (by omega)]; rfl

/-! ### Canonical numbers, cores -/
theorem can_ren {r z : Int} {es : List Ed} (h : isF r z es = true) : renV ⟨r, z, es⟩ (canO r z es) = true := by
  have hz := isG_z (isF_g h)
  have hb := BI_bfs (v := 0) (isF_g h) (by omega)
  rw [canO_yes h]
  exact renV_of (isF_g h) (by rw [vxs_len]; exact hb.pos) hb.nd hb.inz
def canG (g : Gr) : Gr := ren g (canO g.r g.z g.es)
theorem canG_no {r z : Int} {es : List Ed} (h : isF r z es = false) : canG ⟨r, z, es⟩ = ⟨r, z, es⟩ := by
  unfold canG
  rw [canO_no h]
  refine ren_no ?_
  simp [renV]
theorem canG_yes {r z : Int} {es : List Ed} (h : isF r z es = true) : canG ⟨r, z, es⟩ = prt (canO r z es) ⟨r, z, es⟩ := by
  unfold canG
  exact ren_yes (can_ren h)
theorem canG_es {g : Gr} {n : Nat} (h : g.es.length ≤ n) (hn : 120 ≤ n) : (canG g).es.length ≤ n := ren_es h hn
theorem canG_ok {g : Gr} (h : g.ok = true) : (canG g).ok = true := ren_ok h
noncomputable def coreG (g : Gr) : Gr := canG (trimG (foldO [] g).1).1
theorem coreG_es {g : Gr} {n : Nat} (h : g.es.length ≤ n) (hn : 120 ≤ n) : (coreG g).es.length ≤ n := canG_es (trim_es (foldO_es h hn) hn) hn
theorem coreG_ok {g : Gr} (h : g.ok = true) : (coreG g).ok = true := canG_ok (trim_ok (foldO_ok h))
noncomputable def isC (r z : Int) (es : List Ed) : Bool := isF r z es && (decide (gone ⟨r, z, es⟩ = 0) && decide ((canG ⟨r, z, es⟩).r = r ∧ (canG ⟨r, z, es⟩).z = z ∧ (canG ⟨r, z, es⟩).es = es))
theorem isC_f {r z : Int} {es : List Ed} (h : isC r z es = true) : isF r z es = true := by
  simp only [isC, Bool.and_eq_true] at h; exact h.1
theorem isC_gone {r z : Int} {es : List Ed} (h : isC r z es = true) : gone ⟨r, z, es⟩ = 0 := by
  simp only [isC, Bool.and_eq_true, decide_eq_true_eq] at h; exact h.2.1
theorem isC_can {r z : Int} {es : List Ed} (h : isC r z es = true) : canG ⟨r, z, es⟩ = ⟨r, z, es⟩ := by
  simp only [isC, Bool.and_eq_true, decide_eq_true_eq] at h
  obtain ⟨_, _, h1, h2, h3⟩ := h
  generalize canG ⟨r, z, es⟩ = c at *
  obtain ⟨a, b, c⟩ := c
  simp only at h1 h2 h3
  subst h1; subst h2; subst h3; rfl
end Go.Proofs.Try
/- Plain: words: products, inverses; where a word leads. -/
namespace Go.Proofs.Try
open Go Go.Eng
/-! ### Lists of words -/
def intss (ws : List (List Int)) : List (List El) := ws.map ints
def wx (ws : List (List Int)) (i : Nat) : List Int := ws.getD i []
theorem intssLen (ws : List (List Int)) : (intss ws).length = ws.length := by simp [intss]
theorem intssAt {ws : List (List Int)} {i : Nat} (h : i < ws.length) : (intss ws)[i]? = some (ints (wx ws i)) := by
  simp [intss, wx, h]
attribute [go_sem] intssLen intssAt
abbrev aW (ws : List (List Int)) : AV := .one (.imm2 (intss ws))
theorem wx_mem {ws : List (List Int)} {i : Nat} (h : i < ws.length) : wx ws i ∈ ws := by
  simp only [wx]
  rw [List.getD_eq_getElem?_getD, List.getElem?_eq_getElem h]
  simp
theorem exFlat {P : Nat → Nat → List El → Prop} {a b : Nat} {l : List El} : (∃ e k xs, (a = e ∧ b = k ∧ l = xs) ∧ P e k xs) ↔ P a b l := ⟨fun ⟨_, _, _, ⟨h1, h2, h3⟩, h⟩ => by subst h1; subst h2; subst h3; exact h, fun h => ⟨_, _, _, ⟨rfl, rfl, rfl⟩, h⟩⟩
/-! ### Reduced products -/
def inv2 (a b : Int) : Bool := decide (a ≠ 0 ∧ a ≠ -9223372036854775808 ∧ b = -a)
def rdS (out : List Int) (x : Int) : List Int := if 0 < out.length ∧ inv2 (ix out (out.length - 1)) x = true then out.take (out.length - 1) else out ++ [x]
def rdN (w out : List Int) (i : Nat) : List Int := (w.take i).foldl rdS out
theorem rdN_0 (w out : List Int) : rdN w out 0 = out := rfl
theorem rdN_s {w out : List Int} {i : Nat} (h : i < w.length) : rdN w out (i + 1) = rdS (rdN w out i) (ix w i) := by
  simp only [rdN]
  rw [List.take_add_one, List.foldl_append]
  simp [ix, h]
theorem rdN_all (w out : List Int) : rdN w out w.length = w.foldl rdS out := by simp [rdN]
def red (w : List Int) : List Int := w.foldl rdS []
def prN (ws : List (List Int)) (i : Nat) : List Int := (ws.take i).flatten.foldl rdS []
theorem prN_s {ws : List (List Int)} {i : Nat} (h : i < ws.length) : prN ws (i + 1) = rdN (wx ws i) (prN ws i) (wx ws i).length := by
  simp only [prN]
  rw [rdN_all, List.take_add_one, List.flatten_append, List.foldl_append]
  simp [wx, h]
theorem prN_0 (ws : List (List Int)) : prN ws 0 = [] := rfl
theorem prN_all (ws : List (List Int)) : prN ws ws.length = red ws.flatten := by simp [prN, red]
theorem rdS_len (out : List Int) (x : Int) : (rdS out x).length ≤ out.length + 1 := by
  unfold rdS; split
  · rw [List.length_take]; omega
  · simp
theorem rdF_len (w : List Int) : ∀ out : List Int, (w.foldl rdS out).length ≤ out.length + w.length := by
  induction w with
  | nil => intro out; simp
  | cons x r ih => intro out; have := ih (rdS out x); have := rdS_len out x; simp only [List.foldl_cons, List.length_cons]; omega
theorem rdN_len (w out : List Int) (i : Nat) : (rdN w out i).length ≤ out.length + i := by
  have := rdF_len (w.take i) out
  have h : (w.take i).length ≤ i := List.length_take_le ..
  simp only [rdN]; omega
theorem red_len (w : List Int) : (red w).length ≤ w.length := by simpa [red] using rdF_len w []
theorem rdF_mem {w : List Int} {x : Int} : ∀ {out : List Int}, x ∈ w.foldl rdS out → x ∈ out ∨ x ∈ w := by
  induction w with
  | nil => intro out h; exact .inl h
  | cons y r ih =>
    intro out h
    rcases ih h with h | h
    · unfold rdS at h
      split at h
      · exact .inl (List.mem_of_mem_take h)
      · rcases List.mem_append.1 h with h | h
        · exact .inl h
        · exact .inr (by simp at h; simp [h])
    · exact .inr (List.mem_cons_of_mem _ h)
theorem red_mem {w : List Int} {x : Int} (h : x ∈ red w) : x ∈ w := by
  rcases rdF_mem h with h | h
  · cases h
  · exact h
theorem rdN_mem {w out : List Int} {i : Nat} (h1 : ∀ x ∈ out, rg x) (h2 : ∀ x ∈ w, rg x) : ∀ x ∈ rdN w out i, rg x := fun x hx => by
  rcases rdF_mem hx with h | h
  · exact h1 x h
  · exact h2 x (List.mem_of_mem_take h)
theorem prN_len {ws : List (List Int)} {M : Nat} (h : ∀ i, i < ws.length → (wx ws i).length ≤ M) : ∀ i, i ≤ ws.length → (prN ws i).length ≤ i * M
  | 0, _ => by simp [prN]
  | i + 1, hi => by
    have ih := prN_len h i (by omega)
    have h1 := rdN_len (wx ws i) (prN ws i) (wx ws i).length
    have h2 := h i (by omega)
    rw [prN_s (by omega), Nat.succ_mul]
    omega
theorem prN_mem {ws : List (List Int)} (h : ∀ w ∈ ws, ∀ x ∈ w, rg x) {i : Nat} : ∀ x ∈ prN ws i, rg x := fun x hx => by
  rcases rdF_mem hx with h1 | h1
  · cases h1
  · obtain ⟨w, hw, hx⟩ := List.mem_flatten.1 h1
    exact h w (List.mem_of_mem_take hw) x hx
theorem rdS_cut {R : List Int} {x : Int} (h0 : 0 < R.length) (h : inv2 (ix R (R.length - 1)) x = true) : rdS R x = R.take (R.length - 1) := by
  unfold rdS; rw [if_pos ⟨h0, h⟩]
theorem rdS_put {R : List Int} {x : Int} (h : ¬ (0 < R.length ∧ inv2 (ix R (R.length - 1)) x = true)) : rdS R x = R ++ [x] := by
  unfold rdS; rw [if_neg h]
/-- No two neighbours are inverse. -/
def isRd (w : List Int) : Prop := ∀ i, i + 1 < w.length → inv2 (ix w i) (ix w (i + 1)) = false
theorem ix_app {a b : List Int} {i : Nat} (h : i < a.length) : ix (a ++ b) i = ix a i := by
  simp [ix, List.getElem?_append_left h]
theorem ix_app2 {a b : List Int} {i : Nat} (h : a.length ≤ i) : ix (a ++ b) i = ix b (i - a.length) := by
  simp [ix, List.getElem?_append_right h]
theorem ix_take {a : List Int} {i n : Nat} (h : i < n) : ix (a.take n) i = ix a i := by
  simp [ix, List.getElem?_take_of_lt h]
theorem rdS_rd {out : List Int} {x : Int} (h : isRd out) : isRd (rdS out x) := by
  unfold rdS
  split
  · intro i hi
    rw [List.length_take] at hi
    rw [ix_take (by omega), ix_take (by omega)]
    exact h i (by omega)
  · rename_i hc
    intro i hi
    rw [List.length_append, List.length_singleton] at hi
    rw [ix_app (by omega)]
    rcases Nat.lt_or_ge (i + 1) out.length with h1 | h1
    · rw [ix_app h1]; exact h i h1
    · rw [ix_app2 h1, show i + 1 - out.length = 0 by omega]
      have : i = out.length - 1 := by omega
      subst this
      rw [← Bool.not_eq_true]
      intro h2
      exact hc ⟨by omega, by simpa [ix] using h2⟩
theorem red_rd (w : List Int) : isRd (red w) := by
  suffices H : ∀ out : List Int, isRd out → isRd (w.foldl rdS out) from H [] (fun i hi => by simp at hi)
  induction w with
  | nil => intro out h; exact h
  | cons x r ih => intro out h; exact ih _ (rdS_rd h)
theorem rd_fix {w : List Int} (h : isRd w) : ∀ i, i ≤ w.length → rdN w [] i = w.take i
  | 0, _ => by simp [rdN]
  | i + 1, hi => by
    rw [rdN_s (by omega), rd_fix h i (by omega)]
    unfold rdS
    rw [if_neg, List.take_add_one]
    · simp [ix, show i < w.length by omega]
    · rintro ⟨h1, h2⟩
      rw [List.length_take] at h1 h2
      rw [show min i w.length - 1 = i - 1 by omega, ix_take (by omega)] at h2
      have := h (i - 1) (by omega)
      rw [show i - 1 + 1 = i by omega, h2] at this
      cases this
theorem red_red {w : List Int} (h : isRd w) : red w = w := by
  have := rd_fix h w.length (Nat.le_refl _)
  rw [rdN_all] at this
  simpa [red] using this
theorem red_app (a b : List Int) : red (red a ++ b) = red (a ++ b) := by
  have h1 : red (a ++ b) = b.foldl rdS (red a) := by simp [red]
  have h2 : red (red a ++ b) = b.foldl rdS (red (red a)) := by simp [red]
  rw [h1, h2, red_red (red_rd a)]
/-! ### Inverses -/
def ngI (x : Int) : Int := w64 (-x)
def ivN (w : List Int) : Nat → List Int
  | 0 => []
  | k + 1 => ivN w k ++ [ngI (ix w (w.length - 1 - k))]
theorem ivN_len (w : List Int) (k : Nat) : (ivN w k).length = k := by
  induction k with
  | zero => rfl
  | succ k ih => simp [ivN, ih]
def ivW (w : List Int) : List Int := ivN w w.length
theorem ivW_len (w : List Int) : (ivW w).length = w.length := ivN_len ..
/-! ### Where a word leads -/
def vN (es : List Ed) (v : Int) (w : List Int) : Nat → Int
  | 0 => v
  | i + 1 => nx es (vN es v w i) (ix w i)
def rdk (es : List Ed) (v : Int) (w : List Int) : Nat → Nat
  | 0 => 0
  | n + 1 => if rdk es v w n = n ∧ 0 ≤ nx es (vN es v w n) (ix w n) then n + 1 else rdk es v w n
def rdL (es : List Ed) (v : Int) (w : List Int) : Nat := rdk es v w w.length
theorem rdk_le (es : List Ed) (v : Int) (w : List Int) (n : Nat) : rdk es v w n ≤ n := by
  induction n with
  | zero => simp [rdk]
  | succ n ih => unfold rdk; split <;> omega
theorem rdk_go {es : List Ed} {v : Int} {w : List Int} {n : Nat} (h : rdk es v w n = n) (h2 : 0 ≤ nx es (vN es v w n) (ix w n)) : rdk es v w (n + 1) = n + 1 := by
  unfold rdk; rw [if_pos ⟨h, h2⟩]
theorem rdk_stop {es : List Ed} {v : Int} {w : List Int} {n : Nat} (h : rdk es v w n = n) (h2 : nx es (vN es v w n) (ix w n) < 0) : ∀ k, rdk es v w (n + 1 + k) = n
  | 0 => by show rdk es v w (n + 1) = n; unfold rdk; rw [if_neg (by omega)]; exact h
  | k + 1 => by
    have ih := rdk_stop h h2 k
    show rdk es v w (n + 1 + k + 1) = n
    unfold rdk
    rw [ih, if_neg (by omega)]
theorem rdL_stop {es : List Ed} {v : Int} {w : List Int} {n : Nat} (hn : n < w.length) (h : rdk es v w n = n) (h2 : nx es (vN es v w n) (ix w n) < 0) : rdL es v w = n := by
  have := rdk_stop h h2 (w.length - (n + 1))
  rw [← this, rdL]
  congr 1; omega
theorem rdL_le (es : List Ed) (v : Int) (w : List Int) : rdL es v w ≤ w.length := rdk_le ..
theorem rdk_mono {es : List Ed} {v : Int} {w : List Int} {n : Nat} (h : rdk es v w n = n) : ∀ k, k ≤ n → rdk es v w k = k := by
  induction n with
  | zero => intro k hk; have : k = 0 := by omega
            subst this; rfl
  | succ n ih =>
    unfold rdk at h
    split at h
    · rename_i hc
      intro k hk
      rcases Nat.lt_or_ge k (n + 1) with h1 | h1
      · exact ih hc.1 k (by omega)
      · have : k = n + 1 := by omega
        subst this
        unfold rdk; rw [if_pos hc]
    · have := rdk_le es v w n; omega
theorem vN_in {r z : Int} {es : List Ed} {v : Int} {w : List Int} (hg : isG r z es = true) (hv : 0 ≤ v ∧ v < z) {n : Nat} (h : rdk es v w n = n) : 0 ≤ vN es v w n ∧ vN es v w n < z := by
  cases n with
  | zero => exact hv
  | succ n =>
    unfold rdk at h
    split at h
    · rename_i hc
      exact ⟨hc.2, (nx_in hg).2⟩
    · have := rdk_le es v w n; omega
theorem rdL_at (es : List Ed) (v : Int) (w : List Int) : rdk es v w (rdL es v w) = rdL es v w := by
  suffices H : ∀ n, rdk es v w (rdk es v w n) = rdk es v w n from H _
  intro n
  induction n with
  | zero => rfl
  | succ n ih =>
    by_cases h : rdk es v w n = n ∧ 0 ≤ nx es (vN es v w n) (ix w n)
    · have h1 := rdk_go h.1 h.2
      rw [h1, h1]
    · have h1 : rdk es v w (n + 1) = rdk es v w n := by rw [rdk, if_neg h]
      rw [h1]; exact ih
end Go.Proofs.Try
/- Plain: the edges of the search's tree; the other edges. -/
namespace Go.Proofs.Try
open Go Go.Eng
/-- The edge through which the search found entry j: by the last letter of its word, backwards. -/
def lastI (w : List Int) : Int := ix w (w.length - 1)
def tE (es : List Ed) (p : Int × List Int) : Ed := stE (nx es p.1 (-lastI p.2)) (lastI p.2) p.1
def teN (es : List Ed) (st : BS) : Nat → List Ed
  | 0 => []
  | j + 1 => teN es st j ++ [tE es (bsa st (j + 1))]
def teL (es : List Ed) (st : BS) : List Ed := teN es st (st.length - 1)
theorem teN_len (es : List Ed) (st : BS) (j : Nat) : (teN es st j).length = j := by
  induction j with
  | zero => rfl
  | succ j ih => simp [teN, ih]
theorem teN_app {es : List Ed} {st : BS} {q : Int × List Int} : ∀ {j : Nat}, j + 1 ≤ st.length → teN es (st ++ [q]) j = teN es st j
  | 0, _ => rfl
  | j + 1, h => by
    simp only [teN]
    rw [teN_app (by omega), bsa_app (by omega)]
theorem teL_app {es : List Ed} {st : BS} {q : Int × List Int} (h : 0 < st.length) : teL es (st ++ [q]) = teL es st ++ [tE es q] := by
  unfold teL
  rw [List.length_append, List.length_singleton, show st.length + 1 - 1 = (st.length - 1) + 1 by omega]
  simp only [teN]
  rw [teN_app (by omega), show st.length - 1 + 1 = st.length by omega]
  congr 2
  simp [bsa]
theorem lastI_app (w : List Int) (x : Int) : lastI (w ++ [x]) = x := by simp [lastI, ix]
theorem tE_step {r z : Int} {es : List Ed} {u x : Int} {w : List Int} (hf : isF r z es = true) (h : 0 ≤ nx es u x) : tE es (nx es u x, w ++ [x]) = stE u x (nx es u x) := by
  unfold tE
  simp only [lastI_app]
  rw [nx_back hf h]
/-- The tree's edges in order, of a folded graph. -/
def treeL (r z : Int) (es : List Ed) : List Ed := if isF r z es then norm (teL es (bfs r z es 0)) else []
theorem treeL_no {r z : Int} {es : List Ed} (h : isF r z es = false) : treeL r z es = [] := by simp [treeL, h]
theorem treeL_yes {r z : Int} {es : List Ed} (h : isF r z es = true) : treeL r z es = norm (teL es (bfs r z es 0)) := by simp [treeL, h]
theorem treeL_len {r z : Int} {es : List Ed} : (treeL r z es).length ≤ 40 := by
  cases h : isF r z es
  · rw [treeL_no h]; simp
  · rw [treeL_yes h]
    have hz := isG_z (isF_g h)
    have h1 := norm_len (teL es (bfs r z es 0))
    have h2 := teN_len es (bfs r z es 0) ((bfs r z es 0).length - 1)
    have h3 := bfs_len (v := 0) (isF_g h) (by omega)
    simp only [teL] at h1 ⊢
    omega
def xtN (es ts : List Ed) : Nat → List Ed
  | 0 => []
  | i + 1 => if ed es i ∈ ts then xtN es ts i else xtN es ts i ++ [ed es i]
theorem xtN_len (es ts : List Ed) (i : Nat) : (xtN es ts i).length ≤ i := by
  induction i with
  | zero => simp [xtN]
  | succ i ih =>
    unfold xtN
    split
    · omega
    · simp only [List.length_append, List.length_cons, List.length_nil]; omega
def extL (r z : Int) (es : List Ed) : List Ed := if isF r z es then xtN es (treeL r z es) es.length else []
theorem extL_no {r z : Int} {es : List Ed} (h : isF r z es = false) : extL r z es = [] := by simp [extL, h]
theorem extL_yes {r z : Int} {es : List Ed} (h : isF r z es = true) : extL r z es = xtN es (treeL r z es) es.length := by simp [extL, h]
theorem extL_len {r z : Int} {es : List Ed} : (extL r z es).length ≤ 120 := by
  cases h : isF r z es
  · rw [extL_no h]; simp
  · rw [extL_yes h]
    have hz := isG_z (isF_g h)
    have := xtN_len es (treeL r z es) es.length
    omega
/-- A word of the search is made of letters. -/
structure BL (r : Int) (st : BS) : Prop where
  let_ : ∀ i, i < st.length → ∀ x ∈ (bsa st i).2, -r ≤ x ∧ x ≤ r ∧ x ≠ 0
  ne : ∀ i, 0 < i → i < st.length → (bsa st i).2 ≠ []
theorem BL_0 (r v : Int) : BL r [(v, [])] := ⟨fun i hi x hx => by have : i = 0 := by simpa using hi
                                                                  subst this; simp [bsa] at hx, fun i h0 hi => by simp at hi; omega⟩
theorem BL_step {r z : Int} {es : List Ed} {x : Int} {st : BS} {i : Nat} (hg : isG r z es = true) (h : BL r st) (hi : i < st.length) : BL r (bStep es (bsa st i) x st) := by
  unfold bStep
  split
  · rename_i hc
    have hx := nx_v hg hc.1
    refine ⟨fun j hj y hy => ?_, fun j h0 hj => ?_⟩
    · rcases Nat.lt_or_ge j st.length with h1 | h1
      · rw [bsa_app h1] at hy; exact h.let_ j h1 y hy
      · have : j = st.length := by simp at hj; omega
        subst this
        simp [bsa] at hy
        rcases hy with hy | rfl
        · exact h.let_ i hi y (by simpa [bsa] using hy)
        · exact ⟨hx.2.2.1, hx.2.2.2.1, hx.2.2.2.2⟩
    · rcases Nat.lt_or_ge j st.length with h1 | h1
      · rw [bsa_app h1]; exact h.ne j h0 h1
      · have : j = st.length := by simp at hj; omega
        subst this
        simp [bsa]
  · exact h
theorem BL_in {r z : Int} {es : List Ed} {ls : List Int} {v : Int} {st : BS} {i : Nat} (hg : isG r z es = true) (hB : BI r z es v st) (h : BL r st) (hi : i < st.length) (k : Nat) : BL r (bIn es ls (bsa st i) st k) := by
  induction k with
  | zero => exact h
  | succ k ih =>
    have h1 := BI_in (ls := ls) hg hB hi k
    have := BL_step (x := ix ls k) hg ih (i := i) (by omega)
    rw [h1.2.1] at this
    exact this
theorem BL_out {r z : Int} {es : List Ed} {ls : List Int} {v : Int} (hg : isG r z es = true) (hv : 0 ≤ v ∧ v < z) (n : Nat) : BL r (bOut es ls v n) := by
  induction n with
  | zero => exact BL_0 r v
  | succ n ih =>
    unfold bOut
    split
    · rename_i h; exact BL_in hg (BI_out hg hv n) ih h _
    · exact ih
theorem lastI_let {r : Int} {st : BS} (h : BL r st) {i : Nat} (h0 : 0 < i) (hi : i < st.length) : -r ≤ lastI (bsa st i).2 ∧ lastI (bsa st i).2 ≤ r ∧ lastI (bsa st i).2 ≠ 0 := by
  have hne := h.ne i h0 hi
  have : 0 < (bsa st i).2.length := List.length_pos_iff.2 hne
  exact h.let_ i hi _ (ix_mem (by omega))
theorem pw_rg {r z : Int} {es : List Ed} {u v : Int} : ∀ x ∈ pw r z es u v, rg x := by
  unfold pw
  by_cases h : isF r z es = true ∧ 0 ≤ u ∧ u < z ∧ 0 ≤ v ∧ v < z
  · have hG := isF_g h.1
    have hz := isG_z hG
    rw [pwO_yes h]
    cases hw : wf (bfs r z es u) v with
    | none => simp
    | some w =>
      have hm := wf_mem hw
      obtain ⟨i, hi, he⟩ := List.mem_iff_getElem.1 hm
      have hL : BL r (bfs r z es u) := BL_out hG ⟨h.2.1, h.2.2.1⟩ _
      intro x hx
      have := hL.let_ i hi x (by simp [bsa, hi, he]; exact hx)
      unfold rg; omega
  · rw [pwO_no h]; simp
theorem w64_rg (x : Int) : rg (w64 x) := by
  unfold rg w64
  rw [IntKind.wrap_i64]
  omega
theorem ivN_rg {w : List Int} : ∀ {k : Nat}, ∀ x ∈ ivN w k, rg x
  | 0, x, h => by cases h
  | k + 1, x, h => by
    simp only [ivN, List.mem_append, List.mem_singleton] at h
    rcases h with h | rfl
    · exact ivN_rg x h
    · exact w64_rg _
theorem ivW_rg {w : List Int} : ∀ x ∈ ivW w, rg x := ivN_rg
end Go.Proofs.Try
/- Plain: the search finds what can be reached; folded graphs by their edges; renumbering keeps them folded. -/
namespace Go.Proofs.Try
open Go Go.Eng
theorem bStep_pre (es : List Ed) (p : Int × List Int) (x : Int) (st : BS) : st <+: bStep es p x st := by
  unfold bStep; split
  · exact List.prefix_append ..
  · exact List.prefix_refl _
theorem bIn_pre (es : List Ed) (ls : List Int) (p : Int × List Int) (st : BS) (k : Nat) : st <+: bIn es ls p st k := by
  induction k with
  | zero => exact List.prefix_refl _
  | succ k ih => exact ih.trans (bStep_pre ..)
theorem bIn_pre2 (es : List Ed) (ls : List Int) (p : Int × List Int) (st : BS) (k : Nat) : ∀ j, bIn es ls p st k <+: bIn es ls p st (k + j)
  | 0 => List.prefix_refl _
  | j + 1 => (bIn_pre2 es ls p st k j).trans (bStep_pre ..)
theorem bOut_pre (es : List Ed) (ls : List Int) (v : Int) (n : Nat) : ∀ k, bOut es ls v n <+: bOut es ls v (n + k)
  | 0 => List.prefix_refl _
  | k + 1 => by
    refine (bOut_pre es ls v n k).trans ?_
    show bOut es ls v (n + k) <+: bOut es ls v (n + k + 1)
    rw [bOut]
    split
    · exact bIn_pre ..
    · exact List.prefix_refl _
theorem pre_len {st st' : BS} (h : st <+: st') : st.length ≤ st'.length := h.length_le
theorem pre_bsa {st st' : BS} (h : st <+: st') {i : Nat} (hi : i < st.length) : bsa st' i = bsa st i := by
  obtain ⟨t, rfl⟩ := h
  simp [bsa, List.getElem?_append_left hi]
theorem pre_vxs {st st' : BS} (h : st <+: st') {u : Int} (hu : u ∈ vxs st) : u ∈ vxs st' := by
  obtain ⟨t, rfl⟩ := h
  simp only [vxs, List.map_append, List.mem_append]
  exact .inl hu
theorem vxs_at {st : BS} {i : Nat} (h : i < st.length) : (bsa st i).1 ∈ vxs st := by
  rw [← vxs_ix]; exact ix_mem (by rw [vxs_len]; exact h)
theorem at_vxs {st : BS} {u : Int} (h : u ∈ vxs st) : ∃ i, i < st.length ∧ (bsa st i).1 = u := by
  simp only [vxs, List.mem_map] at h
  obtain ⟨p, hp, rfl⟩ := h
  obtain ⟨i, hi, rfl⟩ := List.mem_iff_getElem.1 hp
  exact ⟨i, hi, by simp [bsa, hi]⟩
theorem bIn_has {es : List Ed} {ls : List Int} {p : Int × List Int} {st : BS} {j : Nat} : ∀ {k : Nat}, j < k → 0 ≤ nx es p.1 (ix ls j) → nx es p.1 (ix ls j) ∈ vxs (bIn es ls p st k)
  | 0, h, _ => by omega
  | k + 1, h, h0 => by
    rcases Nat.lt_or_ge j k with h1 | h1
    · exact pre_vxs (bStep_pre ..) (bIn_has h1 h0)
    · have : j = k := by omega
      subst this
      show _ ∈ vxs (bStep es p (ix ls j) (bIn es ls p st j))
      unfold bStep
      split
      · simp [vxs]
      · rename_i hc
        exact Decidable.byContradiction fun hn => hc ⟨h0, hn⟩
theorem bfs_pre {r z : Int} {es : List Ed} {v : Int} {n : Nat} (h : n ≤ z.toNat) : bOut es (lts r.toNat) v n <+: bfs r z es v := by
  have := bOut_pre es (lts r.toNat) v n (z.toNat - n)
  rwa [show n + (z.toNat - n) = z.toNat by omega] at this
theorem bfs_now {r z : Int} {es : List Ed} {v : Int} {i : Nat} (hg : isG r z es = true) (hv : 0 ≤ v ∧ v < z) (hi : i < (bfs r z es v).length) : i < (bOut es (lts r.toNat) v i).length ∧ i < z.toNat := by
  have hz := isG_z hg
  have hl := (BI_bfs hg hv).len (by omega)
  refine ⟨?_, by omega⟩
  rcases Nat.lt_or_ge i (bOut es (lts r.toNat) v i).length with h | h
  · exact h
  · have := bOut_stop h (z.toNat - i)
    rw [show i + (z.toNat - i) = z.toNat by omega] at this
    rw [bfs, this] at hi
    omega
/-- What is found is closed under steps. -/
theorem bfs_step {r z : Int} {es : List Ed} {v u x : Int} (hg : isG r z es = true) (hv : 0 ≤ v ∧ v < z) (hu : u ∈ vxs (bfs r z es v)) (h : 0 ≤ nx es u x) : nx es u x ∈ vxs (bfs r z es v) := by
  have hz := isG_z hg
  obtain ⟨i, hi, rfl⟩ := at_vxs hu
  obtain ⟨h1, h2⟩ := bfs_now hg hv hi
  have hp := bfs_pre (r := r) (es := es) (v := v) (z := z) (n := i) (by omega)
  have hq := bfs_pre (r := r) (es := es) (v := v) (z := z) (n := i + 1) (by omega)
  rw [pre_bsa hp h1] at h ⊢
  refine pre_vxs hq ?_
  rw [bOut, if_pos h1]
  have hx := nx_v hg h
  obtain ⟨j, hj, he⟩ := List.mem_iff_getElem.1 (lts_mem (n := r.toNat) (x := x) |>.2 ⟨hx.2.2.2.2, by omega, by omega⟩)
  have he2 : ix (lts r.toNat) j = x := by simp [ix, hj, he]
  have := bIn_has (es := es) (ls := lts r.toNat) (p := bsa (bOut es (lts r.toNat) v i) i) (st := bOut es (lts r.toNat) v i) hj (by rw [he2]; exact h)
  rwa [he2] at this
theorem bfs_0 {r z : Int} {es : List Ed} {v : Int} : v ∈ vxs (bfs r z es v) := by
  have h : bOut es (lts r.toNat) v 0 <+: bfs r z es v := by
    have := bOut_pre es (lts r.toNat) v 0 z.toNat
    rwa [Nat.zero_add] at this
  exact pre_vxs h (by simp [bOut, vxs])
theorem bfs_bsa0 {r z : Int} {es : List Ed} {v : Int} : bsa (bfs r z es v) 0 = (v, []) := by
  have h : bOut es (lts r.toNat) v 0 <+: bfs r z es v := by
    have := bOut_pre es (lts r.toNat) v 0 z.toNat
    rwa [Nat.zero_add] at this
  rw [pre_bsa h (by simp [bOut])]
  simp [bOut, bsa]
theorem edge_nx {r z : Int} {es : List Ed} {e : Ed} (hf : isF r z es = true) (he : e ∈ es) : nx es e.1 e.2.1 = e.2.2 ∧ nx es e.2.2 (-e.2.1) = e.1 := by
  have hr := (isG_iff.1 (isF_g hf)).2.2 e he
  unfold inR at hr
  refine ⟨(nx_iff hf (by omega)).2 ⟨by omega, ?_⟩, (nx_iff hf (by omega)).2 ⟨by omega, ?_⟩⟩
  · rw [if_neg (by omega)]; exact he
  · rw [if_pos (by omega)]; simpa using he
theorem rch_bfs {r z : Int} {es : List Ed} {v u : Int} (hf : isF r z es = true) (hv : 0 ≤ v ∧ v < z) (h : Rch es v u) : u ∈ vxs (bfs r z es v) := by
  have hR := (isG_iff.1 (isF_g hf)).2.2
  induction h with
  | base => exact bfs_0
  | fwd he _ ih =>
    have h1 := edge_nx hf he
    have h2 := hR _ he
    unfold inR at h2
    have := bfs_step (isF_g hf) hv ih (x := _) (by rw [h1.1]; omega)
    rwa [h1.1] at this
  | bwd he _ ih =>
    have h1 := edge_nx hf he
    have h2 := hR _ he
    unfold inR at h2
    have := bfs_step (isF_g hf) hv ih (x := _) (by rw [h1.2]; omega)
    rwa [h1.2] at this
/-- Every entry but the first comes by a letter from one ahead of it. -/
def BP (es : List Ed) (st : BS) : Prop := ∀ j, 0 < j → j < st.length → ∃ i x, i < j ∧ 0 ≤ nx es (bsa st i).1 x ∧ bsa st j = (nx es (bsa st i).1 x, (bsa st i).2 ++ [x])
theorem BP_step {es : List Ed} {x : Int} {st : BS} {i : Nat} (h : BP es st) (hi : i < st.length) : BP es (bStep es (bsa st i) x st) := by
  unfold bStep
  split
  · rename_i hc
    intro j h0 hj
    rcases Nat.lt_or_ge j st.length with h1 | h1
    · obtain ⟨k, y, h2, h3, h4⟩ := h j h0 h1
      refine ⟨k, y, h2, ?_⟩
      rw [bsa_app (by omega), bsa_app h1]
      exact ⟨h3, h4⟩
    · have : j = st.length := by simp at hj; omega
      subst this
      refine ⟨i, x, hi, ?_⟩
      rw [bsa_app hi]
      exact ⟨hc.1, by simp [bsa]⟩
  · exact h
theorem BP_in {r z : Int} {es : List Ed} {ls : List Int} {v : Int} {st : BS} {i : Nat} (hg : isG r z es = true) (hB : BI r z es v st) (h : BP es st) (hi : i < st.length) (k : Nat) : BP es (bIn es ls (bsa st i) st k) := by
  induction k with
  | zero => exact h
  | succ k ih =>
    have h1 := BI_in (ls := ls) hg hB hi k
    have := BP_step (x := ix ls k) ih (i := i) (by omega)
    rw [h1.2.1] at this
    exact this
theorem BP_out {r z : Int} {es : List Ed} {ls : List Int} {v : Int} (hg : isG r z es = true) (hv : 0 ≤ v ∧ v < z) (n : Nat) : BP es (bOut es ls v n) := by
  induction n with
  | zero => intro j h0 hj; simp [bOut] at hj; omega
  | succ n ih =>
    unfold bOut
    split
    · rename_i h; exact BP_in hg (BI_out hg hv n) ih h _
    · exact ih
theorem BP_bfs {r z : Int} {es : List Ed} {v : Int} (hg : isG r z es = true) (hv : 0 ≤ v ∧ v < z) : BP es (bfs r z es v) := BP_out hg hv _
theorem nx_rch {es : List Ed} {v u x : Int} (hu : Rch es v u) (h : 0 ≤ nx es u x) : Rch es v (nx es u x) := by
  obtain ⟨hx, he⟩ := nx_edge h
  by_cases h0 : x < 0
  · rw [if_pos h0] at he; exact Rch.bwd he hu
  · rw [if_neg h0] at he; exact Rch.fwd he hu
theorem bfs_rch {r z : Int} {es : List Ed} {v u : Int} (hg : isG r z es = true) (hv : 0 ≤ v ∧ v < z) (h : u ∈ vxs (bfs r z es v)) : Rch es v u := by
  obtain ⟨i, hi, rfl⟩ := at_vxs h
  induction i using Nat.strongRecOn with
  | ind i ih =>
    rcases Nat.eq_zero_or_pos i with h0 | h0
    · subst h0; rw [bfs_bsa0]; exact .base
    · obtain ⟨k, x, h1, h2, h3⟩ := BP_bfs hg hv i h0 hi
      rw [h3]
      exact nx_rch (ih k h1 (by omega) (vxs_at (by omega))) h2

/-! ### Folded, told by the edges -/
theorem prF_mem {es : List Ed} (h : prF es = true) {a b : Ed} (ha : a ∈ es) (hb : b ∈ es) (hf : fd2 a b = true) : a = b := by
  obtain ⟨i, hi, rfl⟩ := mem_ed ha
  obtain ⟨j, hj, rfl⟩ := mem_ed hb
  rcases Nat.lt_trichotomy i j with h1 | h1 | h1
  · rw [prF_iff.1 h i j h1 hj] at hf; cases hf
  · subst h1; rfl
  · rw [fd2_comm, prF_iff.1 h j i h1 hi] at hf; cases hf
theorem prF_of {es : List Ed} (ha : asc es) (h : ∀ a ∈ es, ∀ b ∈ es, fd2 a b = true → a = b) : prF es = true := by
  refine prF_iff.2 fun i j hij hj => ?_
  rw [← Bool.not_eq_true]
  intro hf
  have he := h _ (ed_mem (by omega)) _ (ed_mem hj) hf
  have := List.pairwise_iff_getElem.1 ha i j (by omega) hj hij
  have h1 : ed es i = es[i] := by simp [ed, show i < es.length by omega]
  have h2 : ed es j = es[j] := by simp [ed, hj]
  rw [← h1, ← h2, he] at this
  exact ltE_irr this
/-- Places are told apart by their numbers. -/
theorem pos_at {o : List Int} {v : Int} : ∀ {n : Nat}, 0 ≤ pos o n v → v = ix o (pos o n v).toNat ∧ (pos o n v).toNat < n
  | 0, h => by simp [pos] at h
  | n + 1, h => by
    unfold pos at h ⊢
    by_cases hv : v = ix o n
    · rw [if_pos hv]; exact ⟨by simpa using hv, by simp⟩
    · rw [if_neg hv] at h ⊢
      have := pos_at h
      exact ⟨this.1, by omega⟩
theorem pos_inj {o : List Int} {n : Nat} {u v : Int} (h : 0 ≤ pos o n u) (he : pos o n u = pos o n v) : u = v := by
  have h1 := (pos_at h).1
  have h2 := (pos_at (he ▸ h : 0 ≤ pos o n v)).1
  rw [he] at h1
  rw [h1, ← h2]
theorem prtN_mem2 {o : List Int} {es : List Ed} {e : Ed} : ∀ {n : Nat}, n ≤ es.length → (e ∈ prtN o es n ↔ ∃ i, i < n ∧ 0 ≤ pos o o.length (ed es i).1 ∧ 0 ≤ pos o o.length (ed es i).2.2 ∧ e = mvE o (ed es i))
  | 0, _ => by simp [prtN]
  | n + 1, h => by
    have ih := prtN_mem2 (o := o) (es := es) (e := e) (n := n) (by omega)
    unfold prtN
    split
    · rename_i hc
      rw [List.mem_append, ih, List.mem_singleton]
      constructor
      · rintro (⟨i, h1, h2⟩ | rfl)
        · exact ⟨i, by omega, h2⟩
        · exact ⟨n, by omega, hc.1, hc.2, rfl⟩
      · rintro ⟨i, h1, h2, h3, h4⟩
        by_cases hin : i = n
        · subst hin; exact .inr h4
        · exact .inl ⟨i, by omega, h2, h3, h4⟩
    · rename_i hc
      rw [ih]
      constructor
      · rintro ⟨i, h1, h2⟩; exact ⟨i, by omega, h2⟩
      · rintro ⟨i, h1, h2, h3, h4⟩
        by_cases hin : i = n
        · subst hin; exact (hc ⟨h2, h3⟩).elim
        · exact ⟨i, by omega, h2, h3, h4⟩
theorem prt_mem {o : List Int} {g : Gr} {e : Ed} : e ∈ (prt o g).es ↔ ∃ x ∈ g.es, 0 ≤ pos o o.length x.1 ∧ 0 ≤ pos o o.length x.2.2 ∧ e = mvE o x := by
  show e ∈ norm (prtN o g.es g.es.length) ↔ _
  rw [norm_mem, prtN_mem2 (Nat.le_refl _)]
  constructor
  · rintro ⟨i, h1, h2⟩; exact ⟨_, ed_mem h1, h2⟩
  · rintro ⟨x, h1, h2⟩
    obtain ⟨i, h3, rfl⟩ := mem_ed h1
    exact ⟨i, h3, h2⟩
theorem prt_F {r z : Int} {es : List Ed} {o : List Int} (hf : isF r z es = true) (h : renV ⟨r, z, es⟩ o = true) : isF (prt o ⟨r, z, es⟩).r (prt o ⟨r, z, es⟩).z (prt o ⟨r, z, es⟩).es = true := by
  obtain ⟨hG, ⟨h0, h1⟩, _⟩ := renV_iff.1 h
  have hok : (prt o ⟨r, z, es⟩).ok = true := prt_ok hG h0 h1
  refine isF_yes hok (prF_of (isG_iff.1 hok).2.1 fun a ha b hb hab => ?_)
  obtain ⟨x, hx, hx1, hx2, rfl⟩ := prt_mem.1 ha
  obtain ⟨y, hy, hy1, hy2, rfl⟩ := prt_mem.1 hb
  have hxy : fd2 x y = true := by
    simp only [fd2, mvE, Bool.and_eq_true, Bool.or_eq_true, decide_eq_true_eq] at hab ⊢
    exact ⟨of_decide_eq_true hab.1, hab.2.imp (fun h => pos_inj hx1 (of_decide_eq_true h)) (fun h => pos_inj hx2 (of_decide_eq_true h))⟩
  rw [prF_mem (isF_p hf) hx hy hxy]
theorem pair_none {a b : Ed} {f : Fd} (h : fd2 a b = false) (hm : f ∈ pairF a b) : False := by
  simp only [fd2, Bool.and_eq_false_imp, Bool.or_eq_false_iff, decide_eq_true_eq, decide_eq_false_iff_not] at h
  unfold pairF at hm
  split at hm
  · rename_i hl
    have := h hl
    rw [if_neg this.1, if_neg this.2] at hm
    cases hm
  · cases hm
theorem pair_some {a b : Ed} (h : fd2 a b = true) : ∃ f, f ∈ pairF a b := by
  simp only [fd2, Bool.and_eq_true, Bool.or_eq_true, decide_eq_true_eq] at h
  unfold pairF
  rw [if_pos h.1]
  rcases h.2 with h2 | h2
  · rw [if_pos h2]; exact ⟨_, List.mem_append.2 (.inl (List.mem_singleton.2 rfl))⟩
  · rw [if_pos h2]; exact ⟨_, List.mem_append.2 (.inr (List.mem_singleton.2 rfl))⟩
theorem innerF_has {es : List Ed} {i j : Nat} {f : Fd} (hm : f ∈ pairF (ed es i) (ed es (i + 1 + j))) : ∀ {n : Nat}, j < n → f ∈ innerF es i n
  | 0, h => by omega
  | n + 1, h => by
    unfold innerF
    rcases Nat.lt_or_ge j n with h1 | h1
    · exact List.mem_append.2 (.inl (innerF_has hm h1))
    · have : j = n := by omega
      subst this
      exact List.mem_append.2 (.inr hm)
theorem outerF_has {es : List Ed} {i : Nat} {f : Fd} (hm : f ∈ innerF es i (es.length - (i + 1))) : ∀ {n : Nat}, i < n → f ∈ outerF es n
  | 0, h => by omega
  | n + 1, h => by
    unfold outerF
    rcases Nat.lt_or_ge i n with h1 | h1
    · exact List.mem_append.2 (.inl (outerF_has hm h1))
    · have : i = n := by omega
      subst this
      exact List.mem_append.2 (.inr hm)
theorem folds_of_pair {es : List Ed} {i j : Nat} (hij : i < j) (hj : j < es.length) (h : fd2 (ed es i) (ed es j) = true) : ∃ f, f ∈ foldsOf es := by
  obtain ⟨f, hf⟩ := pair_some h
  refine ⟨f, outerF_has (i := i) (innerF_has (i := i) (j := j - (i + 1)) ?_ (by omega)) (by omega)⟩
  rw [show i + 1 + (j - (i + 1)) = j by omega]
  exact hf
/-- A valid graph without folds is folded; a folded one has none. -/
theorem folds_none {es : List Ed} : (foldsOf es).length = 0 ↔ prF es = true := by
  constructor
  · intro h
    refine prF_iff.2 fun i j hij hj => ?_
    rw [← Bool.not_eq_true]
    intro hf
    have : ∃ f, f ∈ foldsOf es := folds_of_pair hij hj hf
    obtain ⟨f, hfm⟩ := this
    rw [List.eq_nil_of_length_eq_zero h] at hfm
    cases hfm
  · intro h
    rcases Nat.eq_zero_or_pos (foldsOf es).length with h0 | h0
    · exact h0
    · obtain ⟨i, j, hij, hj, hm⟩ := foldsOf_mem (fd_mem h0)
      have := prF_iff.1 h i j hij hj
      exact (pair_none this hm).elim
theorem foldO_self {r z : Int} {es : List Ed} (hf : isF r z es = true) : foldO [] ⟨r, z, es⟩ = (⟨r, z, es⟩, []) := by
  have hok : (⟨r, z, es⟩ : Gr).ok = true := isF_g hf
  exact foldO_at hok (i := 0) (folds_none.2 (isF_p hf)) (by omega)
theorem foldO_F {g : Gr} (h : g.ok = true) {cs : List Int} : isF (foldO cs g).1.r (foldO cs g).1.z (foldO cs g).1.es = true :=
  isF_yes (foldO_ok h) (folds_none.1 (foldO_done h))
end Go.Proofs.Try
/- Plain: degrees under new numbers; the base moved; graphs without a tail at the base. -/
namespace Go.Proofs.Try
open Go Go.Eng
def cnt (es : List Ed) (v : Int) : Nat := (es.countP fun e => decide (e.1 = v)) + es.countP fun e => decide (e.2.2 = v)
theorem dgN_cnt (es : List Ed) (v : Int) : ∀ n, n ≤ es.length → dgN es v n = (cnt (es.take n) v : Int)
  | 0, _ => by simp [dgN, cnt]
  | n + 1, h => by
    have ih := dgN_cnt es v n (by omega)
    have ht : es.take (n + 1) = es.take n ++ [ed es n] := by rw [List.take_add_one]; simp [ed, show n < es.length by omega]
    unfold dgN
    rw [ih, ht]
    simp only [cnt, List.countP_append, List.countP_cons, List.countP_nil, decide_eq_true_eq]
    split <;> split <;> simp <;> omega
theorem deg_cnt (es : List Ed) (v : Int) : deg es v = (cnt es v : Int) := by
  have := dgN_cnt es v es.length (Nat.le_refl _)
  rwa [List.take_length] at this
theorem cnt_perm {a b : List Ed} (h : a.Perm b) (v : Int) : cnt a v = cnt b v := by
  unfold cnt; rw [h.countP_eq, h.countP_eq]
theorem asc_nodupE {l : List Ed} (h : asc l) : l.Nodup := by
  unfold asc at h
  exact h.imp (fun {a b} h e => by subst e; exact ltE_irr h)
theorem norm_asc' (l : List Ed) : asc (norm l) := (norm_go l [] List.Pairwise.nil).1
theorem norm_perm {l : List Ed} (h : l.Nodup) : (norm l).Perm l :=
  (List.perm_ext_iff_of_nodup (asc_nodupE (norm_asc' l)) h).2 fun _ => norm_mem
/-- All vertices, in some order. -/
structure Full_ (o : List Int) (z : Int) : Prop where
  nd : o.Nodup
  mem : ∀ u, u ∈ o ↔ 0 ≤ u ∧ u < z
theorem full_len {o : List Int} {z : Int} (h : Full_ o z) (hz : 0 ≤ z) : (o.length : Int) = z := by
  have h1 := nodup_len hz h.nd (fun u hu => (h.mem u).1 hu)
  have h2 : (nI o).length = o.length := nI_nodup h.nd
  have h3 : nI o = allN z.toNat := by
    refine ascI_ext (nI_asc o) ?_ fun x => ?_
    · suffices H : ∀ n, ascI (allN n) ∧ ∀ u ∈ allN n, 0 ≤ u ∧ u < n from (H _).1
      intro n
      induction n with
      | zero => exact ⟨List.Pairwise.nil, by simp [allN]⟩
      | succ n ih =>
        refine ⟨List.pairwise_append.2 ⟨ih.1, by simp, fun x hx y hy => ?_⟩, fun u hu => ?_⟩
        · have := ih.2 x hx; rw [List.mem_singleton] at hy; omega
        · rcases List.mem_append.1 hu with hu | hu
          · have := ih.2 u hu; omega
          · rw [List.mem_singleton] at hu; omega
    · rw [nI_mem, h.mem]
      suffices H : ∀ n : Nat, x ∈ allN n ↔ 0 ≤ x ∧ x < n by rw [H]; omega
      intro n
      induction n with
      | zero => simp only [allN, List.not_mem_nil, false_iff]; omega
      | succ n ih => simp only [allN, List.mem_append, ih, List.mem_singleton]; omega
  rw [← h2, h3, allN_len]; omega
theorem full_pos {o : List Int} {z v : Int} (h : Full_ o z) (hv : 0 ≤ v ∧ v < z) : 0 ≤ pos o o.length v := by
  rcases (show pos o o.length v < 0 ∨ 0 ≤ pos o o.length v by omega) with h1 | h1
  · have := (pos_neg (Nat.le_refl _)).1 h1
    rw [List.take_length] at this
    exact (this ((h.mem v).2 hv)).elim
  · exact h1
theorem full_prtN {r z : Int} {es : List Ed} {o : List Int} (hg : isG r z es = true) (h : Full_ o z) : ∀ n, n ≤ es.length → prtN o es n = (es.take n).map (mvE o)
  | 0, _ => by simp [prtN]
  | n + 1, hn => by
    have ih := full_prtN hg h n (by omega)
    have hr := (isG_iff.1 hg).2.2 _ (ed_mem (es := es) (i := n) (by omega))
    unfold inR at hr
    have ht : es.take (n + 1) = es.take n ++ [ed es n] := by rw [List.take_add_one]; simp [ed, show n < es.length by omega]
    unfold prtN
    rw [if_pos ⟨full_pos h ⟨hr.1, hr.2.1⟩, full_pos h ⟨hr.2.2.1, hr.2.2.2.1⟩⟩, ih, ht, List.map_append, List.map_singleton]
theorem full_perm {r z : Int} {es : List Ed} {o : List Int} (hg : isG r z es = true) (h : Full_ o z) : (prt o ⟨r, z, es⟩).es.Perm (es.map (mvE o)) := by
  have h1 : prtN o es es.length = es.map (mvE o) := by
    have := full_prtN hg h es.length (Nat.le_refl _)
    rwa [List.take_length] at this
  show (norm (prtN o es es.length)).Perm _
  rw [h1]
  refine norm_perm ?_
  have hnd := asc_nodupE (isG_iff.1 hg).2.1
  have hR := (isG_iff.1 hg).2.2
  unfold List.Nodup
  rw [List.pairwise_map]
  refine List.Pairwise.imp_of_mem (fun {a b} ha hb hab he => hab ?_) hnd
  have h2 := hR a ha
  have h3 := hR b hb
  unfold inR at h2 h3
  simp only [mvE, Prod.mk.injEq] at he
  have e1 := pos_inj (full_pos h ⟨h2.1, h2.2.1⟩) he.1
  have e2 := pos_inj (full_pos h ⟨h2.2.2.1, h2.2.2.2.1⟩) he.2.2
  exact Prod.ext e1 (Prod.ext he.2.1 e2)
theorem full_eslen {r z : Int} {es : List Ed} {o : List Int} (hg : isG r z es = true) (h : Full_ o z) : (prt o ⟨r, z, es⟩).es.length = es.length := by
  rw [(full_perm hg h).length_eq, List.length_map]
theorem full_deg {r z v : Int} {es : List Ed} {o : List Int} (hg : isG r z es = true) (h : Full_ o z) (hv : 0 ≤ v ∧ v < z) : deg (prt o ⟨r, z, es⟩).es (pos o o.length v) = deg es v := by
  rw [deg_cnt, deg_cnt, cnt_perm (full_perm hg h)]
  have hp := full_pos h hv
  unfold cnt
  rw [List.countP_map, List.countP_map]
  congr 2
  · refine List.countP_congr fun e _ => ?_
    exact ⟨fun h3 => decide_eq_true (pos_inj hp (of_decide_eq_true h3).symm).symm, fun h3 => decide_eq_true (congrArg _ (of_decide_eq_true h3))⟩
  · refine List.countP_congr fun e _ => ?_
    exact ⟨fun h3 => decide_eq_true (pos_inj hp (of_decide_eq_true h3).symm).symm, fun h3 => decide_eq_true (congrArg _ (of_decide_eq_true h3))⟩

/-! ### The base moved -/
def mvO (z v : Int) : List Int := v :: othN v z.toNat
theorem mvO_full {z v : Int} (h : 0 ≤ v ∧ v < z) : Full_ (mvO z v) z := by
  refine ⟨List.nodup_cons.2 ⟨fun hm => ?_, asc_nodup (othN_asc ..)⟩, fun u => ?_⟩
  · exact (othN_mem.1 hm).2.2 rfl
  · unfold mvO
    rw [List.mem_cons, othN_mem]
    omega
theorem mvO_ren {r z v : Int} {es : List Ed} (hg : isG r z es = true) (h : 0 ≤ v ∧ v < z) : renV ⟨r, z, es⟩ (mvO z v) = true :=
  renV_of hg (by simp [mvO]) (mvO_full h).nd fun u hu => ((mvO_full h).mem u).1 hu
noncomputable def movG (g : Gr) (v : Int) : Gr := if isF g.r g.z g.es = true ∧ 0 ≤ v ∧ v < g.z then coreG (prt (mvO g.z v) g) else g
def movB (g : Gr) (v : Int) : Bool := isF g.r g.z g.es && decide (0 ≤ v ∧ v < g.z)
theorem movG_yes {r z v : Int} {es : List Ed} (hf : isF r z es = true) (hv : 0 ≤ v ∧ v < z) : movG ⟨r, z, es⟩ v = coreG (prt (mvO z v) ⟨r, z, es⟩) := by
  unfold movG; rw [if_pos ⟨hf, hv⟩]
theorem trm_F {g : Gr} (h : isF g.r g.z g.es = true) : ∀ i, isF (trm g i).1.r (trm g i).1.z (trm g i).1.es = true
  | 0 => h
  | i + 1 => by
    have ih := trm_F h i
    unfold trm
    split
    · exact ih
    · rename_i h0
      have hG : g.ok = true := isF_g h
      have hok := (trm_ok hG i).1
      have hz := ok_z hok
      have hin := gone_in (g := (trm g i).1)
      have h2 := hin.2 h0
      have h3 := hin.1
      have hl := othN_len (v := gone (trm g i).1) (n := (trm g i).1.z.toNat) h3 (by omega)
      clear hin
      generalize trm g i = T at *
      obtain ⟨⟨r1, z1, es1⟩, l1⟩ := T
      simp only at hz h2 hl ih h3 ⊢
      have hl : (othN (gone ⟨r1, z1, es1⟩) z1.toNat).length = z1.toNat - 1 := hl
      have h2 : gone ⟨r1, z1, es1⟩ < z1 := h2
      have h3 : 0 ≤ gone ⟨r1, z1, es1⟩ := h3
      have h0 : gone ⟨r1, z1, es1⟩ ≠ 0 := h0
      have hq : renV ⟨r1, z1, es1⟩ (othN (gone ⟨r1, z1, es1⟩) z1.toNat) = true := renV_of hok (by omega) (asc_nodup (othN_asc ..)) fun u hu => by have := othN_mem.1 hu; omega
      exact prt_F ih hq
theorem trim_F {g : Gr} (h : isF g.r g.z g.es = true) : isF (trimG g).1.r (trimG g).1.z (trimG g).1.es = true := by
  unfold trimG
  rw [if_pos (show g.ok = true from isF_g h)]
  exact trm_F h 40
theorem canG_F {g : Gr} (h : isF g.r g.z g.es = true) : isF (canG g).r (canG g).z (canG g).es = true := by
  rw [canG_yes h]
  exact prt_F h (can_ren h)
theorem coreG_F {g : Gr} (h : g.ok = true) : isF (coreG g).r (coreG g).z (coreG g).es = true := canG_F (trim_F (foldO_F h))
theorem canG_z {g : Gr} (h : isF g.r g.z g.es = true) : (canG g).z = (canO g.r g.z g.es).length := by rw [canG_yes h]; rfl
theorem canG_le {g : Gr} (h : isF g.r g.z g.es = true) : (canG g).z ≤ g.z := by
  have hz := isG_z (isF_g h)
  rw [canG_z h, canO_yes h, vxs_len]
  have := (BI_bfs (v := 0) (isF_g h) (by omega)).len (by omega)
  omega
theorem movG_F {g : Gr} {v : Int} (h : isF g.r g.z g.es = true) : isF (movG g v).r (movG g v).z (movG g v).es = true := by
  unfold movG
  split
  · rename_i hc
    exact coreG_F (by
      have hr := mvO_ren (r := g.r) (es := g.es) (isF_g h) hc.2
      have := renV_iff.1 hr
      exact prt_ok (isF_g h) this.2.1.1 this.2.1.2)
  · exact h
/-- The base moved from the end of a tail: the tail gets shorter. -/
theorem movG_less {r z v : Int} {es : List Ed} (hf : isF r z es = true) (hv : 0 < v ∧ v < z) (hd : deg es 0 < 2) : (movG ⟨r, z, es⟩ v).z < z := by
  have hz := isG_z (isF_g hf)
  have hv' : 0 ≤ v ∧ v < z := by omega
  rw [movG_yes hf hv']
  have hr := mvO_ren (isF_g hf) hv'
  have hfull := mvO_full hv'
  have hF := prt_F hf hr
  have hlen := full_len hfull (by omega)
  generalize hg1 : prt (mvO z v) ⟨r, z, es⟩ = g1 at *
  have hz1 : g1.z = z := by rw [← hg1]; exact hlen
  have hok : g1.ok = true := isF_g hF
  have h1 : (foldO [] g1).1 = g1 := by
    have := foldO_self hF
    rw [show (⟨g1.r, g1.z, g1.es⟩ : Gr) = g1 from rfl] at this
    rw [this]
  unfold coreG
  rw [h1]
  have h2 := canG_le (trim_F hF)
  have h3 := trim_z hok
  have h4 : (trimG g1).1.z ≠ g1.z := by
    intro he
    have hgone := (trim_size hok).1 he
    have hp := full_pos hfull (v := 0) (by omega)
    have hat := pos_at hp
    have hp1 : 1 ≤ pos (mvO z v) (mvO z v).length 0 := by
      rcases (show pos (mvO z v) (mvO z v).length 0 = 0 ∨ 1 ≤ pos (mvO z v) (mvO z v).length 0 by omega) with h0 | h0
      · have := hat.1
        rw [h0] at this
        simp [mvO, ix] at this
        omega
      · exact h0
    have hl := gone_no hgone hp1 (by have := pos_le (mvO z v) (mvO z v).length 0; omega)
    have hdg := full_deg (isF_g hf) hfull (v := 0) (by omega)
    rw [hg1] at hdg
    simp only [lf, Bool.or_eq_false_iff, decide_eq_false_iff_not] at hl
    have := hl.1
    rw [hdg] at this
    omega
  omega
end Go.Proofs.Try
namespace Go.Proofs.Try
open Go Go.Eng
set_option linter.unnecessarySimpa false
set_option linter.unusedSimpArgs false
set_option maxHeartbeats 4000000
attribute [go_sem] eqScs TI.allInt
def idE (a : List Ed) (e : Ed) : Nat → Int
  | 0 => -1
  | n + 1 => if 0 ≤ idE a e n then idE a e n else if ed a n = e then (n : Int) else -1
theorem idE_le (a : List Ed) (e : Ed) (n : Nat) : -1 ≤ idE a e n ∧ idE a e n < n := by
  induction n with
  | zero => simp [idE]
  | succ n ih => unfold idE; split; · omega
                 split <;> omega
theorem idE_no {a : List Ed} {e : Ed} {n : Nat} (h : idE a e n < 0) : idE a e n = -1 := by have := idE_le a e n; omega
theorem idE_keep {a : List Ed} {e : Ed} {n : Nat} (h : 0 ≤ idE a e n) : ∀ k, idE a e (n + k) = idE a e n
  | 0 => rfl
  | k + 1 => by
    have ih := idE_keep h k
    show idE a e (n + k + 1) = _
    rw [idE, ih, if_pos h]
theorem idE_at {a : List Ed} {e : Ed} {n : Nat} (hn : n < a.length) (h : idE a e n < 0) (he : ed a n = e) : idE a e a.length = n := by
  have h1 : idE a e (n + 1) = n := by rw [idE, if_neg (by omega), if_pos he]
  have := idE_keep (n := n + 1) (e := e) (a := a) (by omega) (a.length - (n + 1))
  rw [show n + 1 + (a.length - (n + 1)) = a.length by omega] at this
  rw [this, h1]
theorem idE_next {a : List Ed} {e : Ed} {n : Nat} (h : idE a e n < 0) (he : ed a n ≠ e) : idE a e (n + 1) < 0 := by
  rw [idE, if_neg (by omega), if_neg he]; omega
theorem idE_mem {a : List Ed} {e : Ed} : 0 ≤ idE a e a.length ↔ e ∈ a := by
  suffices H : ∀ n, n ≤ a.length → (0 ≤ idE a e n ↔ ∃ i, i < n ∧ ed a i = e) by
    rw [H _ (Nat.le_refl _)]
    exact ⟨fun ⟨i, h1, h2⟩ => h2 ▸ ed_mem h1, fun h => mem_ed h⟩
  intro n
  induction n with
  | zero => intro _; simp [idE]
  | succ n ih =>
    intro hn
    have ih := ih (by omega)
    unfold idE
    by_cases h1 : 0 ≤ idE a e n
    · rw [if_pos h1]
      obtain ⟨i, h2, h3⟩ := ih.1 h1
      exact ⟨fun _ => ⟨i, by omega, h3⟩, fun _ => h1⟩
    · rw [if_neg h1]
      have h4 : ¬ ∃ i, i < n ∧ ed a i = e := fun h => h1 (ih.2 h)
      split
      · rename_i h5; exact ⟨fun _ => ⟨n, by omega, h5⟩, fun _ => by omega⟩
      · rename_i h5
        refine ⟨fun h => by omega, fun ⟨i, h6, h7⟩ => ?_⟩
        by_cases h8 : i = n
        · subst h8; exact (h5 h7).elim
        · exact (h4 ⟨i, by omega, h7⟩).elim
end Go.Proofs.Try
