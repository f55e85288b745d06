import Derived.Test.YtfapjflogjblaaaN
import Derived.Test.YtfapjflogjblaaaB
import Derived.Test.YtfapjflogjblaaaA
set_option linter.unusedVariables false
set_option linter.unusedSimpArgs false
set_option linter.unnecessarySimpa false
/- Plain: graphs; edges changed one by one; vertices merged. -/
namespace Go.Proofs.Try
open Go Go.Eng
structure Gr where
  r : Int
  z : Int
  es : List Ed
abbrev gT (g : Gr) : AV := .agg [.sc (.int g.r), .sc (.int g.z), .ref 0]
abbrev gI (g : Gr) : AV := .agg [.sc (.int g.r), .sc (.int g.z), .imm 3 (eds g.es)]
abbrev oE (e : Nat) (l : List Ed) : Go.Eng.Obj := .flat e 3 (eds l)
def Gr.ok (g : Gr) : Bool := isG g.r g.z g.es
theorem isG_z {r z : Int} {es : List Ed} (h : isG r z es = true) : 1 ≤ r ∧ r ≤ 3 ∧ 1 ≤ z ∧ z ≤ 40 ∧ es.length ≤ 120 := by
  simp only [isG, Bool.and_eq_true, decide_eq_true_eq] at h
  omega
theorem isG_at {r z : Int} {es : List Ed} (h : isG r z es = true) {i : Nat} (hi : i < es.length) : 0 ≤ (ed es i).1 ∧ (ed es i).1 < z ∧ 0 ≤ (ed es i).2.2 ∧ (ed es i).2.2 < z ∧ 1 ≤ (ed es i).2.1 ∧ (ed es i).2.1 ≤ r := by
  have hz := isG_z h
  simp only [isG, okAll, Bool.and_eq_true, List.all_eq_true, List.mem_range] at h
  have h1 := h.1 i hi
  simp only [ok1, edOk, Bool.and_eq_true, decide_eq_true_eq] at h1
  rw [w64Id (by omega)] at h1
  omega
/-! ### A list changed from the front on -/
def updN (f : Ed → Ed) (es : List Ed) (i : Nat) : List Ed := (es.take i).map f ++ es.drop i
theorem updN_len {f : Ed → Ed} {es : List Ed} {i : Nat} (h : i ≤ es.length) : (updN f es i).length = es.length := by simp [updN]; omega
theorem updN_0 (f : Ed → Ed) (es : List Ed) : updN f es 0 = es := by simp [updN]
theorem updN_all (f : Ed → Ed) (es : List Ed) : updN f es es.length = es.map f := by simp [updN]
theorem updN_at {f : Ed → Ed} {es : List Ed} {i : Nat} (h : i < es.length) : ed (updN f es i) i = ed es i := by
  unfold updN ed
  rw [List.getD_eq_getElem?_getD, List.getElem?_append_right (by simp; omega)]
  simp [Nat.min_eq_left (Nat.le_of_lt h)]
theorem updN_set {f : Ed → Ed} {es : List Ed} {i : Nat} (h : i < es.length) : (updN f es i).set i (f (ed es i)) = updN f es (i + 1) := by
  have e2 : es.take (i + 1) = es.take i ++ [ed es i] := by rw [List.take_add_one]; simp [ed, h]
  have e1 : es.drop i = ed es i :: es.drop (i + 1) := by rw [List.drop_eq_getElem_cons h]; simp [ed, h]
  unfold updN
  rw [e2, e1, List.set_append_right _ _ (by simp; omega)]
  simp [Nat.min_eq_left (Nat.le_of_lt h)]
/-! ### Two vertices merged -/
def newV (v k d : Int) : Int := if v = d then k else if d < v then v - 1 else v
def mapE (k d : Int) (e : Ed) : Ed := (newV e.1 k d, e.2.1, newV e.2.2 k d)
def mergeOk (g : Gr) (k d : Int) : Bool := g.ok && decide (0 ≤ k ∧ k < d ∧ d < g.z)
def merge (g : Gr) (k d : Int) : Gr := if mergeOk g k d then ⟨g.r, g.z - 1, norm (g.es.map (mapE k d))⟩ else g
theorem merge_yes {g : Gr} {k d : Int} (h : mergeOk g k d = true) : merge g k d = ⟨g.r, g.z - 1, norm (g.es.map (mapE k d))⟩ := by simp [merge, h]
theorem mergeOk_iff {r z : Int} {es : List Ed} {k d : Int} : mergeOk ⟨r, z, es⟩ k d = true ↔ isG r z es = true ∧ 0 ≤ k ∧ k < d ∧ d < z := by simp [mergeOk, Gr.ok]
theorem merge_no {g : Gr} {k d : Int} (h : mergeOk g k d = false) : merge g k d = g := by simp [merge, h]
theorem putF_len (l : List Ed) : ∀ a : List Ed, (l.foldl put a).length ≤ a.length + l.length := by
  induction l with
  | nil => intro a; simp
  | cons e l ih =>
    intro a
    simp only [List.foldl_cons, List.length_cons]
    have := ih (put a e)
    have h2 : (put a e).length ≤ a.length + 1 := by
      rw [put_ins]
      clear ih this
      induction a with
      | nil => simp [ins]
      | cons x a ih => unfold ins; split <;> (try split) <;> simp <;> omega
    omega
theorem norm_len (l : List Ed) : (norm l).length ≤ l.length := by
  rw [← norm_put]
  simpa using putF_len l []
theorem takeEd {es : List Ed} {i : Nat} (h : i < es.length) : es.take (i + 1) = es.take i ++ [ed es i] := by rw [List.take_add_one]; simp [ed, h]
theorem norm_snoc (l : List Ed) (e : Ed) : put (norm l) e = norm (l ++ [e]) := by
  rw [← norm_put, ← norm_put, List.foldl_append]; rfl
def mergeN (k d : Int) (es : List Ed) (i : Nat) : List Ed := norm ((es.take i).map (mapE k d))
theorem mergeN_0 (k d : Int) (es : List Ed) : mergeN k d es 0 = [] := rfl
theorem mergeN_succ {k d : Int} {es : List Ed} {i : Nat} (h : i < es.length) : put (mergeN k d es i) (newV (ed es i).1 k d, (ed es i).2.1, newV (ed es i).2.2 k d) = mergeN k d es (i + 1) := by
  unfold mergeN; rw [norm_snoc, takeEd h]; simp [mapE]
theorem mergeN_all (k d : Int) (es : List Ed) : mergeN k d es es.length = norm (es.map (mapE k d)) := by simp [mergeN]
theorem mergeN_len (k d : Int) (es : List Ed) (i : Nat) : (mergeN k d es i).length ≤ i := by
  have := norm_len ((es.take i).map (mapE k d))
  simp only [List.length_map, List.length_take] at this
  unfold mergeN
  omega
end Go.Proofs.Try
namespace Go.Proofs.Try
open Go Go.Eng
set_option linter.unnecessarySimpa false
set_option linter.unusedSimpArgs false
set_option maxHeartbeats 4000000
def K_copyGraph_sat : Nat → List Nat := fun i => ([[1, 2], [2]] : List (List Nat)).getD i []
attribute [go_sem] K_copyGraph_sat
def copyGraph_sat_S : Eng.Spec := fun args av objs => ∃ (r z : Int) (es : List Ed), (es.length ≤ 1099511627776) ∧ args = [grA r z es] ∧ av = gT ⟨r, z, es⟩ ∧ objs = [oE 56 es]
theorem copyGraph_sat : Sat Try.prog 44 copyGraph_sat_S := by
  refine sat_of tok okr mixed K_copyGraph_sat Try.func44 rfl (rs := [.cell 2 29]) rfl Try.ntmps44 ?_
  rintro args av objs ⟨r, z, es, hpre, rfl, rfl, rfl⟩
  refine ⟨by show 1 ≤ 12; decide, ?_⟩
  repeat' (first|(refine ya ?_;first|refine ye ?_)|refine yz ?_|(refine yA ?_;first|refine yE ?_)|refine yZ ?_|refine zst ?_|refine k_blk_other rfl ?_|(refine zk ?_ ?_<;>intro hc hr<;>try first|contradiction|exfalso;omega))
  all_goals refine z_ret (hv := ?_) (ho := ?_)
  all_goals simp [go_sem]
instance : Con Try.prog 44 copyGraph_sat_S := con copyGraph_sat Try.func44
end Go.Proofs.Try
namespace Go.Proofs.Try
open Go Go.Eng
set_option linter.unnecessarySimpa false
set_option linter.unusedSimpArgs false
set_option maxHeartbeats 4000000
end Go.Proofs.Try
/- Plain: what a valid graph is; merging keeps it so; the folds of a valid graph. -/
namespace Go.Proofs.Try
open Go Go.Eng
def inR (r z : Int) (e : Ed) : Prop := 0 ≤ e.1 ∧ e.1 < z ∧ 0 ≤ e.2.2 ∧ e.2.2 < z ∧ 1 ≤ e.2.1 ∧ e.2.1 ≤ r
theorem ed_mem {es : List Ed} {i : Nat} (h : i < es.length) : ed es i ∈ es := by
  unfold ed
  rw [List.getD_eq_getElem?_getD, List.getElem?_eq_getElem h]
  exact List.getElem_mem h
theorem mem_ed {es : List Ed} {e : Ed} (h : e ∈ es) : ∃ i, i < es.length ∧ ed es i = e := by
  obtain ⟨i, hi, rfl⟩ := List.mem_iff_getElem.1 h
  exact ⟨i, hi, by simp [ed, hi]⟩
theorem asc_iff (es : List Ed) : asc es ↔ ∀ i, i < es.length → i = 0 ∨ cmpE (ed es (i - 1)) (ed es i) < 0 := by
  constructor
  · intro h i hi
    rcases Nat.eq_zero_or_pos i with h0 | h0
    · exact .inl h0
    · right
      rw [cmpE_lt]
      have := List.pairwise_iff_getElem.1 h (i - 1) i (by omega) hi (by omega)
      simpa [ed, hi, show i - 1 < es.length by omega] using this
  · intro h
    have key : ∀ j, j < es.length → ∀ i, i < j → ltE (ed es i) (ed es j) := by
      intro j
      induction j with
      | zero => intro _ i hi; omega
      | succ j ih =>
        intro hj i hi
        have h1 := (h (j + 1) hj).resolve_left (by omega)
        rw [cmpE_lt] at h1
        simp only [Nat.add_sub_cancel] at h1
        rcases Nat.lt_or_ge i j with h2 | h2
        · exact ltE_trans (ih (by omega) i h2) h1
        · have : i = j := by omega
          subst this; exact h1
    refine List.pairwise_iff_getElem.2 fun i j hi hj hij => ?_
    have := key j hj i hij
    simpa [ed, hi, hj] using this
theorem isG_iff {r z : Int} {es : List Ed} : isG r z es = true ↔ (1 ≤ r ∧ r ≤ 3 ∧ 1 ≤ z ∧ z ≤ 40 ∧ es.length ≤ 120) ∧ asc es ∧ ∀ e ∈ es, inR r z e := by
  constructor
  · intro h
    refine ⟨isG_z h, (asc_iff es).2 fun i hi => ?_, fun e he => ?_⟩
    · simp only [isG, okAll, Bool.and_eq_true, List.all_eq_true, List.mem_range] at h
      have h1 := h.1 i hi
      simp only [ok1, Bool.and_eq_true, Bool.or_eq_true, decide_eq_true_eq] at h1
      exact h1.2
    · obtain ⟨i, hi, rfl⟩ := mem_ed he
      have := isG_at h hi
      exact ⟨this.1, this.2.1, this.2.2.1, this.2.2.2.1, this.2.2.2.2.1, this.2.2.2.2.2⟩
  · rintro ⟨hz, ha, hr⟩
    simp only [isG, okAll, Bool.and_eq_true, List.all_eq_true, List.mem_range, decide_eq_true_eq]
    refine ⟨fun i hi => ?_, by omega⟩
    have h1 := hr _ (ed_mem hi)
    have h2 := (asc_iff es).1 ha i hi
    simp only [ok1, edOk, Bool.and_eq_true, Bool.or_eq_true, decide_eq_true_eq]
    rw [w64Id (by omega)]
    unfold inR at h1
    refine ⟨⟨⟨⟨by omega, by omega⟩, ⟨by omega, by omega⟩⟩, ⟨by omega, by omega⟩⟩, h2⟩
theorem ok_iff {g : Gr} : g.ok = true ↔ (1 ≤ g.r ∧ g.r ≤ 3 ∧ 1 ≤ g.z ∧ g.z ≤ 40 ∧ g.es.length ≤ 120) ∧ asc g.es ∧ ∀ e ∈ g.es, inR g.r g.z e := isG_iff
theorem newV_in {v k d z : Int} (h0 : 0 ≤ v) (h1 : v < z) (hk : 0 ≤ k) (hd : k < d) (hz : d < z) : 0 ≤ newV v k d ∧ newV v k d < z - 1 := by
  unfold newV; split <;> (try split) <;> omega
theorem norm_ok {r z : Int} {l : List Ed} (hr : 1 ≤ r ∧ r ≤ 3) (hz : 1 ≤ z ∧ z ≤ 40) (hl : l.length ≤ 120) (h : ∀ e ∈ l, inR r z e) : isG r z (norm l) = true := by
  have := norm_len l
  exact isG_iff.2 ⟨⟨hr.1, hr.2, hz.1, hz.2, by omega⟩, norm_asc l, fun e he => h e (norm_mem.1 he)⟩
theorem merge_ok {g : Gr} {k d : Int} (h : mergeOk g k d = true) : (merge g k d).ok = true := by
  obtain ⟨r, z, es⟩ := g
  rw [merge_yes h]
  obtain ⟨hG, h0, h1, h2⟩ := mergeOk_iff.1 h
  obtain ⟨hz, _, hr⟩ := isG_iff.1 hG
  refine norm_ok ⟨hz.1, hz.2.1⟩ ⟨by simp only; omega, by simp only; omega⟩ (by simpa using hz.2.2.2.2) fun e he => ?_
  obtain ⟨x, hx, rfl⟩ := List.mem_map.1 he
  have hx' := hr x hx
  unfold inR at hx'
  have n1 := newV_in hx'.1 hx'.2.1 h0 h1 h2
  have n2 := newV_in hx'.2.2.1 hx'.2.2.2.1 h0 h1 h2
  simp only [inR, mapE]
  omega
theorem merge_z {g : Gr} {k d : Int} (h : mergeOk g k d = true) : (merge g k d).z = g.z - 1 := by rw [merge_yes h]
theorem merge_r {g : Gr} {k d : Int} : (merge g k d).r = g.r := by unfold merge; split <;> rfl
/-! ### Folds -/
theorem foldsOf_mem {es : List Ed} {f : Fd} (h : f ∈ foldsOf es) : ∃ i j, i < j ∧ j < es.length ∧ f ∈ pairF (ed es i) (ed es j) := by
  have inner : ∀ i n, f ∈ innerF es i n → ∃ j, i < j ∧ j < i + 1 + n ∧ f ∈ pairF (ed es i) (ed es j) := by
    intro i n
    induction n with
    | zero => intro h; cases h
    | succ n ih =>
      intro h
      rcases List.mem_append.1 h with h | h
      · obtain ⟨j, h1, h2, h3⟩ := ih h; exact ⟨j, h1, by omega, h3⟩
      · exact ⟨i + 1 + n, by omega, by omega, h⟩
  have outer : ∀ n, n ≤ es.length → f ∈ outerF es n → ∃ i j, i < j ∧ j < es.length ∧ f ∈ pairF (ed es i) (ed es j) := by
    intro n
    induction n with
    | zero => intro _ h; cases h
    | succ n ih =>
      intro hn h
      rcases List.mem_append.1 h with h | h
      · exact ih (by omega) h
      · obtain ⟨j, h1, h2, h3⟩ := inner _ _ h; exact ⟨n, j, h1, by omega, h3⟩
  exact outer _ (Nat.le_refl _) h
theorem folds_ok {g : Gr} {f : Fd} (hg : g.ok = true) (h : f ∈ foldsOf g.es) : mergeOk g f.1 f.2 = true := by
  obtain ⟨r, z, es⟩ := g
  obtain ⟨hz, ha, hr⟩ := isG_iff.1 hg
  obtain ⟨i, j, hij, hj, hf⟩ := foldsOf_mem h
  dsimp only at hz hj hf
  have h1 := hr _ (ed_mem (show i < es.length by omega))
  have h2 := hr _ (ed_mem hj)
  have hlt : ltE (ed es i) (ed es j) := by
    have := List.pairwise_iff_getElem.1 (show asc es from ha) i j (show i < es.length by omega) hj hij
    simpa [ed, show j < es.length from hj, show i < es.length by omega] using this
  refine mergeOk_iff.2 ⟨hg, ?_⟩
  dsimp only at h1 h2 ⊢
  generalize ed es i = a at *
  generalize ed es j = b at *
  unfold inR at h1 h2
  unfold ltE at hlt
  unfold pairF at hf
  split at hf
  · rename_i hl
    rcases List.mem_append.1 hf with hf | hf
    · split at hf
      · rename_i he
        simp only [List.mem_singleton] at hf
        subst hf
        simp only [mnI, mxI]
        split <;> split <;> omega
      · cases hf
    · split at hf
      · rename_i he
        simp only [List.mem_singleton] at hf
        subst hf
        simp only [mnI, mxI]
        split <;> split <;> omega
      · cases hf
  · cases hf
theorem fd_mem {l : List Fd} {i : Nat} (h : i < l.length) : fd l i ∈ l := by
  unfold fd
  rw [List.getD_eq_getElem?_getD, List.getElem?_eq_getElem h]
  exact List.getElem_mem h
end Go.Proofs.Try
namespace Go.Proofs.Try
open Go Go.Eng
set_option linter.unnecessarySimpa false
set_option linter.unusedSimpArgs false
set_option maxHeartbeats 4000000
/-! ### One fold -/
def foldOnce (g : Gr) : Gr := if ffOk g.r g.z g.es then merge g (ffF g.r g.z g.es).1 (ffF g.r g.z g.es).2 else g
theorem foldOnce_yes {r z : Int} {es : List Ed} (h : ffOk r z es = true) : foldOnce ⟨r, z, es⟩ = merge ⟨r, z, es⟩ (ffF r z es).1 (ffF r z es).2 := by simp [foldOnce, h]
theorem foldOnce_no {r z : Int} {es : List Ed} (h : ffOk r z es = false) : foldOnce ⟨r, z, es⟩ = ⟨r, z, es⟩ := by simp [foldOnce, h]
theorem ffF_no {r z : Int} {es : List Ed} (h : ffOk r z es = false) : ffF r z es = (0, 0) := by simp [ffF, h]
theorem ff_iff {g : Gr} : ffOk g.r g.z g.es = true ↔ g.ok = true ∧ 0 < (foldsOf g.es).length := by simp [ffOk, Gr.ok]
theorem ffF_mem {g : Gr} (h : ffOk g.r g.z g.es = true) : ffF g.r g.z g.es ∈ foldsOf g.es := by
  have := ff_iff.1 h
  simp only [ffF, h, if_true]
  exact fd_mem this.2
end Go.Proofs.Try
