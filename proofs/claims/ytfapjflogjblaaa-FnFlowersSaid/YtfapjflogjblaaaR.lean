import Derived.Test.YtfapjflogjblaaaD
import Derived.Test.YtfapjflogjblaaaA
set_option linter.unusedVariables false
set_option linter.unusedSimpArgs false
set_option linter.unnecessarySimpa false
/- Plain: ascending lists of ints; what can be reached along edges. -/
namespace Go.Proofs.Try
open Go Go.Eng
def ascI (l : List Int) : Prop := l.Pairwise (· < ·)
def insI (x : Int) : List Int → List Int
  | [] => [x]
  | y :: r => if y = x then y :: r else if x < y then x :: y :: r else y :: insI x r
def addStep (x : Int) (st : List Int × Bool) (y : Int) : List Int × Bool :=
  if y = x then (st.1 ++ [y], true)
  else if x < y ∧ st.2 = false then (st.1 ++ [x] ++ [y], true)
  else (st.1 ++ [y], st.2)
def addN (l : List Int) (x : Int) (i : Nat) : List Int × Bool := (l.take i).foldl (addStep x) ([], false)
theorem addN_succ {l : List Int} {x : Int} {i : Nat} (h : i < l.length) : addN l x (i + 1) = addStep x (addN l x i) (ix l i) := by
  simp only [addN]
  rw [List.take_add_one, List.foldl_append]
  simp [h, ix]
theorem addN_len (l : List Int) (x : Int) (i : Nat) (h : i ≤ l.length) : (addN l x i).1.length ≤ 2 * i := by
  induction i with
  | zero => simp [addN]
  | succ i ih =>
    rw [addN_succ (by omega)]
    have := ih (by omega)
    unfold addStep
    split
    · simp; omega
    · split <;> simp <;> omega
def addF (x : Int) (r : List Int × Bool) : List Int := if r.2 then r.1 else r.1 ++ [x]
theorem add_true (x : Int) : ∀ (l acc : List Int), l.foldl (addStep x) (acc, true) = (acc ++ l, true)
  | [], acc => by simp
  | y :: r, acc => by
    rw [List.foldl_cons]
    have : addStep x (acc, true) y = (acc ++ [y], true) := by unfold addStep; split <;> simp
    rw [this, add_true x r]
    simp
theorem add_false (x : Int) : ∀ (l acc : List Int), addF x (l.foldl (addStep x) (acc, false)) = acc ++ insI x l
  | [], acc => by simp [insI, addF]
  | y :: r, acc => by
    rw [List.foldl_cons]
    by_cases h0 : y = x
    · rw [show addStep x (acc, false) y = (acc ++ [y], true) from by simp [addStep, h0], add_true]
      simp [addF, insI, h0]
    · by_cases h1 : x < y
      · rw [show addStep x (acc, false) y = (acc ++ [x] ++ [y], true) from by simp [addStep, h0, h1], add_true]
        simp [addF, insI, h0, h1]
      · rw [show addStep x (acc, false) y = (acc ++ [y], false) from by simp [addStep, h0, h1], add_false x r]
        simp [insI, h0, h1]
theorem addN_ins (l : List Int) (x : Int) : addF x (addN l x l.length) = insI x l := by
  have := add_false x l []
  simp only [addN, List.take_length]
  simpa using this
theorem insI_mem {x y : Int} : ∀ {l : List Int}, y ∈ insI x l ↔ y = x ∨ y ∈ l
  | [] => by simp [insI]
  | z :: r => by
    unfold insI
    split
    · rename_i h; subst h; simp
    · split
      · simp
      · simp only [List.mem_cons, insI_mem (l := r)]
        constructor <;> (rintro (h | h | h) <;> simp [h])
theorem insI_asc {x : Int} : ∀ {l : List Int}, ascI l → ascI (insI x l)
  | [], _ => by simp [insI, ascI]
  | y :: r, h => by
    unfold insI
    unfold ascI at h ⊢
    rw [List.pairwise_cons] at h
    split
    · exact List.pairwise_cons.2 h
    · rename_i h0
      split
      · rename_i h1
        refine List.pairwise_cons.2 ⟨fun z hz => ?_, List.pairwise_cons.2 h⟩
        rcases List.mem_cons.1 hz with rfl | hz
        · exact h1
        · exact Int.lt_trans h1 (h.1 z hz)
      · rename_i h1
        refine List.pairwise_cons.2 ⟨fun z hz => ?_, insI_asc h.2⟩
        rcases insI_mem.1 hz with rfl | hz
        · omega
        · exact h.1 z hz
theorem insI_len (x : Int) (l : List Int) : (insI x l).length ≤ l.length + 1 := by
  induction l with
  | nil => simp [insI]
  | cons y r ih => unfold insI; split <;> (try split) <;> simp <;> omega
theorem ascI_ext : ∀ {a b : List Int}, ascI a → ascI b → (∀ x, x ∈ a ↔ x ∈ b) → a = b
  | [], [], _, _, _ => rfl
  | [], y :: b, _, _, h => by have := (h y).2 (by simp); simp at this
  | x :: a, [], _, _, h => by have := (h x).1 (by simp); simp at this
  | x :: a, y :: b, ha, hb, h => by
    unfold ascI at ha hb
    rw [List.pairwise_cons] at ha hb
    have hxy : x = y := by
      rcases List.mem_cons.1 ((h x).1 (by simp)) with e | h1
      · exact e
      rcases List.mem_cons.1 ((h y).2 (by simp)) with e | h2
      · exact e.symm
      have := ha.1 y h2
      have := hb.1 x h1
      omega
    subst hxy
    rw [ascI_ext (a := a) (b := b) ha.2 hb.2 fun z => ?_]
    constructor
    · intro hz
      rcases List.mem_cons.1 ((h z).1 (by simp [hz])) with e | h1
      · subst e; have := ha.1 z hz; omega
      · exact h1
    · intro hz
      rcases List.mem_cons.1 ((h z).2 (by simp [hz])) with e | h1
      · subst e; have := hb.1 z hz; omega
      · exact h1
/-! ### Reach -/
inductive Rch (es : List Ed) (v : Int) : Int → Prop
  | base : Rch es v v
  | fwd {e : Ed} : e ∈ es → Rch es v e.1 → Rch es v e.2.2
  | bwd {e : Ed} : e ∈ es → Rch es v e.2.2 → Rch es v e.1
theorem rch_min {es : List Ed} {v u : Int} {S : Int → Prop} (hv : S v) (hc : ∀ e ∈ es, S e.1 ↔ S e.2.2) (h : Rch es v u) : S u := by
  induction h with
  | base => exact hv
  | fwd he _ ih => exact (hc _ he).1 ih
  | bwd he _ ih => exact (hc _ he).2 ih
open Classical in
/-- The vertices below a size that are reached, in order. -/
noncomputable def rl (es : List Ed) (v z : Int) : List Int := ((List.range z.toNat).map (fun n : Nat => (n : Int))).filter fun u => decide (Rch es v u)
open Classical in
noncomputable def jn (es : List Ed) (v z : Int) : List Bool := (List.range z.toNat).map fun n : Nat => decide (Rch es v (n : Int))
theorem rl_asc (es : List Ed) (v z : Int) : ascI (rl es v z) := by
  unfold rl ascI
  refine List.Pairwise.filter _ ?_
  rw [List.pairwise_map]
  exact List.pairwise_lt_range.imp fun h => by omega
theorem rl_mem {es : List Ed} {v z u : Int} : u ∈ rl es v z ↔ (0 ≤ u ∧ u < z) ∧ Rch es v u := by
  unfold rl
  simp only [List.mem_filter, List.mem_map, List.mem_range, decide_eq_true_eq]
  constructor
  · rintro ⟨⟨n, hn, rfl⟩, h⟩; exact ⟨by omega, h⟩
  · rintro ⟨h1, h2⟩; exact ⟨⟨u.toNat, by omega, by omega⟩, h2⟩
theorem rl_len (es : List Ed) (v z : Int) : (rl es v z).length ≤ z.toNat := by
  unfold rl
  refine Nat.le_trans (List.length_filter_le _ _) ?_
  simp
theorem jn_len (es : List Ed) (v z : Int) : (jn es v z).length = z.toNat := by simp [jn]
/-- A list that is in order, reached, closed and has the first one is the list. -/
theorem rl_uniq {es : List Ed} {r v z : Int} {l : List Int} (hr : ∀ e ∈ es, inR r z e) (hv : 0 ≤ v ∧ v < z) (ha : ascI l) (h1 : ∀ u ∈ l, Rch es v u) (h2 : v ∈ l) (h3 : ∀ e ∈ es, e.1 ∈ l ↔ e.2.2 ∈ l) : l = rl es v z := by
  refine ascI_ext ha (rl_asc es v z) fun u => ?_
  rw [rl_mem]
  constructor
  · intro h
    refine ⟨?_, h1 u h⟩
    have := rch_min (S := fun u => 0 ≤ u ∧ u < z) hv (fun e he => by have := hr e he; unfold inR at this; constructor <;> intro _ <;> omega) (h1 u h)
    exact this
  · rintro ⟨_, h⟩
    exact rch_min (S := fun u => u ∈ l) h2 h3 h
/-! ### The reference's rounds -/
def stp (l : List Int) (e : Ed) : List Int :=
  let l1 := if e.1 ∈ l then insI e.2.2 l else l
  if e.2.2 ∈ l1 then insI e.1 l1 else l1
def meas (es : List Ed) (l : List Int) : Nat := es.countP fun e => decide (e.1 ∈ l ∧ e.2.2 ∈ l)
theorem meas_le (es : List Ed) (l : List Int) : meas es l ≤ es.length := List.countP_le_length
theorem meas_mono {es : List Ed} {l m : List Int} (h : ∀ u ∈ l, u ∈ m) : meas es l ≤ meas es m := by
  refine List.countP_mono_left fun e _ => ?_
  simp only [decide_eq_true_eq]
  exact fun ⟨a, b⟩ => ⟨h _ a, h _ b⟩
theorem meas_lt {es : List Ed} {l m : List Int} {e : Ed} (h : ∀ u ∈ l, u ∈ m) (he : e ∈ es) (h1 : ¬ (e.1 ∈ l ∧ e.2.2 ∈ l)) (h2 : e.1 ∈ m ∧ e.2.2 ∈ m) : meas es l < meas es m := by
  obtain ⟨a, b, rfl⟩ := List.append_of_mem he
  have e1 := meas_mono (es := a) h
  have e2 := meas_mono (es := b) h
  simp only [meas, List.countP_append, List.countP_cons] at e1 e2 ⊢
  rw [if_neg (by simpa using fun a b => h1 ⟨a, b⟩), if_pos (by simpa using h2)]
  omega
theorem stp_mem {l : List Int} {e : Ed} {u : Int} : u ∈ stp l e ↔ u ∈ l ∨ ((e.1 ∈ l ∨ e.2.2 ∈ l) ∧ (u = e.1 ∨ u = e.2.2)) := by
  unfold stp
  by_cases h1 : e.1 ∈ l
  · simp only [h1, if_true, insI_mem, true_or, true_and]
    constructor
    · rintro (h | h | h) <;> simp [h]
    · rintro (h | h | h) <;> simp [h]
  · by_cases h2 : e.2.2 ∈ l
    · simp only [h1, if_false, h2, if_true, insI_mem, or_true, true_and]
      constructor
      · rintro (h | h)
        · simp [h]
        · simp [h]
      · rintro (h | h | h)
        · simp [h]
        · simp [h]
        · subst h; simp [h2]
    · simp [h1, h2]
theorem stp_asc {l : List Int} {e : Ed} (h : ascI l) : ascI (stp l e) := by
  unfold stp
  dsimp only
  split <;> split <;> first | exact insI_asc (insI_asc h) | exact insI_asc h | exact h
theorem stp_same {l : List Int} {e : Ed} (h : e.1 ∈ l ↔ e.2.2 ∈ l) : ∀ u, u ∈ stp l e ↔ u ∈ l := by
  intro u
  rw [stp_mem]
  constructor
  · rintro (h1 | ⟨h1, h2⟩)
    · exact h1
    · have : e.1 ∈ l ∧ e.2.2 ∈ l := by
        rcases h1 with h1 | h1
        · exact ⟨h1, h.1 h1⟩
        · exact ⟨h.2 h1, h1⟩
      rcases h2 with rfl | rfl
      · exact this.1
      · exact this.2
  · exact .inl
structure RI (es : List Ed) (v z : Int) (l : List Int) : Prop where
  asc : ascI l
  rch : ∀ u ∈ l, Rch es v u
  has : v ∈ l
  inz : ∀ u ∈ l, 0 ≤ u ∧ u < z
def clo (es : List Ed) (l : List Int) : Prop := ∀ e ∈ es, e.1 ∈ l ↔ e.2.2 ∈ l
theorem RI_0 {es : List Ed} {v z : Int} (hv : 0 ≤ v ∧ v < z) : RI es v z [v] := ⟨by simp [ascI], by rintro u hu; rw [List.mem_singleton] at hu; subst hu; exact .base, by simp, by rintro u hu; rw [List.mem_singleton] at hu; subst hu; exact hv⟩
theorem RI_stp {es : List Ed} {r v z : Int} {l : List Int} {e : Ed} (hr : ∀ e ∈ es, inR r z e) (h : RI es v z l) (he : e ∈ es) : RI es v z (stp l e) := by
  refine ⟨stp_asc h.asc, fun u hu => ?_, stp_mem.2 (.inl h.has), fun u hu => ?_⟩
  · rcases stp_mem.1 hu with h1 | ⟨h1, h2⟩
    · exact h.rch u h1
    · have hb : Rch es v e.1 ∧ Rch es v e.2.2 := by
        rcases h1 with h1 | h1
        · exact ⟨h.rch _ h1, .fwd he (h.rch _ h1)⟩
        · exact ⟨.bwd he (h.rch _ h1), h.rch _ h1⟩
      rcases h2 with rfl | rfl
      · exact hb.1
      · exact hb.2
  · have hi := hr e he
    unfold inR at hi
    rcases stp_mem.1 hu with h1 | ⟨_, rfl | rfl⟩
    · exact h.inz u h1
    · omega
    · omega
theorem asc_len : ∀ {l : List Int} {n : Nat} {a : Int}, ascI l → (∀ u ∈ l, a ≤ u ∧ u < a + n) → l.length ≤ n
  | [], n, a, _, _ => by simp
  | x :: l, n, a, h, hz => by
    have h' := List.pairwise_cons.1 h
    have hx := hz x (by simp)
    obtain ⟨m, rfl⟩ : ∃ m, n = m + 1 := ⟨n - 1, by omega⟩
    have := asc_len (l := l) (n := m) (a := a + 1) h'.2 (fun u hu => by
      have h1 := h'.1 u hu
      have h2 := hz u (by simp [hu])
      omega)
    simp; omega
theorem RI_len {es : List Ed} {v z : Int} {l : List Int} (h : RI es v z l) (hz : 0 ≤ z) : l.length ≤ z.toNat := asc_len (a := 0) h.asc fun u hu => by have := h.inz u hu; omega
/-- The state within a round: nothing has been added yet, and the edges so far are closed; or an edge more has come in. -/
def RR (es : List Ed) (l0 l : List Int) (i : Nat) : Prop := (∀ u ∈ l0, u ∈ l) ∧ ((∀ u ∈ l, u ∈ l0) ∧ (∀ j, j < i → ((ed es j).1 ∈ l ↔ (ed es j).2.2 ∈ l)) ∨ (¬ clo es l0 ∧ meas es l0 < meas es l))
theorem RR_0 (es : List Ed) (l : List Int) : RR es l l 0 := ⟨fun _ h => h, .inl ⟨fun _ h => h, fun j hj => by omega⟩⟩
theorem RR_stp {es : List Ed} {l0 l : List Int} {i : Nat} (h : RR es l0 l i) (hi : i < es.length) : RR es l0 (stp l (ed es i)) (i + 1) := by
  refine ⟨fun u hu => stp_mem.2 (.inl (h.1 u hu)), ?_⟩
  rcases h.2 with ⟨h1, h2⟩ | h1
  · by_cases hs : (ed es i).1 ∈ l ↔ (ed es i).2.2 ∈ l
    · have hm := stp_same hs
      refine .inl ⟨fun u hu => h1 u ((hm u).1 hu), fun j hj => ?_⟩
      rw [hm, hm]
      rcases Nat.lt_or_ge j i with h3 | h3
      · exact h2 j h3
      · have : j = i := by omega
        subst this; exact hs
    · refine .inr ⟨fun hc => hs ?_, Nat.lt_of_le_of_lt (meas_mono h.1) (meas_lt (e := ed es i) (fun u hu => stp_mem.2 (.inl hu)) (ed_mem hi) (fun hh => hs ⟨fun _ => hh.2, fun _ => hh.1⟩) ?_)⟩
      · have := hc _ (ed_mem hi)
        exact ⟨fun hh => h.1 _ (this.1 (h1 _ hh)), fun hh => h.1 _ (this.2 (h1 _ hh))⟩
      have : (ed es i).1 ∈ l ∨ (ed es i).2.2 ∈ l := by
        by_cases h5 : (ed es i).1 ∈ l
        · exact .inl h5
        · by_cases h6 : (ed es i).2.2 ∈ l
          · exact .inr h6
          · exact absurd ⟨fun h => absurd h h5, fun h => absurd h h6⟩ hs
      exact ⟨stp_mem.2 (.inr ⟨this, .inl rfl⟩), stp_mem.2 (.inr ⟨this, .inr rfl⟩)⟩
  · exact .inr ⟨h1.1, Nat.lt_of_lt_of_le h1.2 (meas_mono fun u hu => stp_mem.2 (.inl hu))⟩
/-- Between the rounds. -/
def RK (es : List Ed) (l : List Int) (k : Nat) : Prop := clo es l ∨ k ≤ meas es l
theorem RK_next {es : List Ed} {l0 l : List Int} {k : Nat} (h : RK es l0 k) (hr : RR es l0 l es.length) : RK es l (k + 1) := by
  rcases hr.2 with ⟨h1, h2⟩ | h1
  · refine .inl fun e he => ?_
    obtain ⟨j, hj, rfl⟩ := mem_ed he
    exact h2 j hj
  · rcases h with h | h
    · exact absurd h h1.1
    · have := h1.2
      exact .inr (by omega)
theorem RK_end {es : List Ed} {l : List Int} (h : RK es l (es.length + 1)) : clo es l := by
  rcases h with h | h
  · exact h
  · have := meas_le es l; omega
end Go.Proofs.Try
/- Plain: lists of truths; the marks of what is reached. -/
namespace Go.Proofs.Try
open Go Go.Eng
def bls (l : List Bool) : List El := l.map fun b => [.bool b]
def bx (l : List Bool) (i : Nat) : Bool := l.getD i false
theorem blsLen (l : List Bool) : (bls l).length = l.length := by simp [bls]
theorem blsAt {l : List Bool} {i : Nat} (h : i < l.length) : (bls l)[i]? = some [.bool (bx l i)] := by simp [bls, bx, h]
theorem blsSet (l : List Bool) (i : Nat) (b : Bool) : (bls l).set i [.bool b] = bls (l.set i b) := by simp [bls, List.map_set]
theorem zB_eq (n : Nat) : List.replicate n [Sc.bool false] = bls (List.replicate n false) := by simp [bls]
theorem bx_set {l : List Bool} {i j : Nat} {b : Bool} (h : i < l.length) : bx (l.set i b) j = if i = j then b else bx l j := by
  simp only [bx, List.getD_eq_getElem?_getD, List.getElem?_set]
  by_cases hij : i = j
  · subst hij; simp [h]
  · simp [hij]
theorem bx_rep (n i : Nat) : bx (List.replicate n false) i = false := by
  simp only [bx, List.getD_eq_getElem?_getD, List.getElem?_replicate]
  split <;> rfl
theorem bls_ext {a b : List Bool} (hl : a.length = b.length) (h : ∀ i, i < a.length → bx a i = bx b i) : a = b := by
  apply List.ext_getElem hl
  intro i h1 h2
  have := h i h1
  simpa [bx, h1, h2] using this
attribute [go_sem] blsLen blsAt blsSet zB_eq
abbrev oBl (e : Nat) (l : List Bool) : Go.Eng.Obj := .flat e 1 (bls l)
/-! ### Marks -/
def cf (l : List Bool) : Nat := l.countP (fun b => !b)
theorem cf_set : ∀ {l : List Bool} {i : Nat}, cf (l.set i true) ≤ cf l ∧ (i < l.length → bx l i = false → cf (l.set i true) < cf l)
  | [], i => by simp [cf]
  | b :: l, 0 => by cases b <;> simp [cf, bx]
  | b :: l, i + 1 => by
    have := cf_set (l := l) (i := i)
    simp only [cf, List.set_cons_succ, List.countP_cons, List.length_cons] at this ⊢
    refine ⟨by omega, fun h1 h2 => ?_⟩
    have h3 := this.2 (by omega) (by simpa [bx] using h2)
    omega
structure JI (es : List Ed) (v z : Int) (bs : List Bool) : Prop where
  len : bs.length = z.toNat
  has : bx bs v.toNat = true
  rch : ∀ u : Nat, u < bs.length → bx bs u = true → Rch es v (u : Int)
theorem JI_0 {es : List Ed} {v z : Int} (h : 0 ≤ v ∧ v < z) : JI es v z ((List.replicate z.toNat false).set v.toNat true) := by
  have hl : v.toNat < (List.replicate z.toNat false).length := by simp; omega
  refine ⟨by simp, by rw [bx_set hl]; simp, fun u hu hb => ?_⟩
  rw [bx_set hl] at hb
  split at hb
  · rename_i e
    have : (u : Int) = v := by omega
    rw [this]; exact .base
  · rw [bx_rep] at hb; cases hb
theorem JI_set {es : List Ed} {r v z : Int} {bs : List Bool} {e : Ed} (hr : inR r z e) (he : e ∈ es) (h : JI es v z bs) (hne : bx bs e.1.toNat ≠ bx bs e.2.2.toNat) : JI es v z ((bs.set e.1.toNat true).set e.2.2.toNat true) ∧ cf ((bs.set e.1.toNat true).set e.2.2.toNat true) < cf bs := by
  unfold inR at hr
  have hl := h.len
  have h1 : e.1.toNat < bs.length := by omega
  have h2 : e.2.2.toNat < bs.length := by omega
  have h2' : e.2.2.toNat < (bs.set e.1.toNat true).length := by simpa using h2
  have hb : Rch es v e.1 ∧ Rch es v e.2.2 := by
    cases hx : bx bs e.1.toNat with
    | true =>
      have := h.rch _ h1 hx
      rw [show ((e.1.toNat : Nat) : Int) = e.1 by omega] at this
      exact ⟨this, .fwd he this⟩
    | false =>
      have hy : bx bs e.2.2.toNat = true := by cases hy : bx bs e.2.2.toNat <;> simp_all
      have := h.rch _ h2 hy
      rw [show ((e.2.2.toNat : Nat) : Int) = e.2.2 by omega] at this
      exact ⟨.bwd he this, this⟩
  refine ⟨⟨by simp [hl], ?_, fun u hu hu2 => ?_⟩, ?_⟩
  · rw [bx_set h2', bx_set h1]
    split
    · rfl
    · split
      · rfl
      · exact h.has
  · rw [bx_set h2', bx_set h1] at hu2
    split at hu2
    · rename_i e1
      rw [← e1, show ((e.2.2.toNat : Nat) : Int) = e.2.2 by omega]; exact hb.2
    · split at hu2
      · rename_i e1
        rw [← e1, show ((e.1.toNat : Nat) : Int) = e.1 by omega]; exact hb.1
      · exact h.rch u (by simpa using hu) hu2
  · have c1 := cf_set (l := bs) (i := e.1.toNat)
    have c2 := cf_set (l := bs.set e.1.toNat true) (i := e.2.2.toNat)
    cases hx : bx bs e.1.toNat with
    | false => have := c1.2 h1 hx; omega
    | true =>
      have hy : bx bs e.2.2.toNat = false := by cases hy : bx bs e.2.2.toNat <;> simp_all
      have hy2 : bx (bs.set e.1.toNat true) e.2.2.toNat = false := by
        rw [bx_set h1]
        split
        · rename_i e1; rw [e1] at hx; simp_all
        · exact hy
      have := c2.2 h2' hy2
      omega
/-- Within a round: nothing marked so far and the edges so far agree, or something marked. -/
structure JR (es : List Ed) (v z : Int) (b0 : List Bool) (k : Nat) (again : Bool) (bs : List Bool) : Prop where
  ji : JI es v z bs
  no : again = false → bs = b0 ∧ ∀ j, j < k → bx bs (ed es j).1.toNat = bx bs (ed es j).2.2.toNat
  yes : again = true → cf bs < cf b0
theorem JR_0 {es : List Ed} {v z : Int} {b0 : List Bool} (h : JI es v z b0) : JR es v z b0 0 false b0 := ⟨h, fun _ => ⟨rfl, fun j hj => by omega⟩, by simp⟩
theorem JR_set {es : List Ed} {r v z : Int} {b0 bs : List Bool} {k : Nat} {again : Bool} (hr : ∀ e ∈ es, inR r z e) (h : JR es v z b0 k again bs) (hk : k < es.length) (hne : bx bs (ed es k).1.toNat ≠ bx bs (ed es k).2.2.toNat) : JR es v z b0 (k + 1) true ((bs.set (ed es k).1.toNat true).set (ed es k).2.2.toNat true) := by
  obtain ⟨h1, h2⟩ := JI_set (hr _ (ed_mem hk)) (ed_mem hk) h.ji hne
  refine ⟨h1, by simp, fun _ => ?_⟩
  cases again with
  | false => rw [← (h.no rfl).1]; exact h2
  | true => have := h.yes rfl; omega
theorem JR_same {es : List Ed} {v z : Int} {b0 bs : List Bool} {k : Nat} {again : Bool} (h : JR es v z b0 k again bs) (he : bx bs (ed es k).1.toNat = bx bs (ed es k).2.2.toNat) : JR es v z b0 (k + 1) again bs := by
  refine ⟨h.ji, fun ha => ⟨(h.no ha).1, fun j hj => ?_⟩, h.yes⟩
  rcases Nat.lt_or_ge j k with h1 | h1
  · exact (h.no ha).2 j h1
  · have : j = k := by omega
    subst this; exact he
def JC (es : List Ed) (bs : List Bool) : Prop := ∀ j, j < es.length → bx bs (ed es j).1.toNat = bx bs (ed es j).2.2.toNat
theorem JI_end {es : List Ed} {r v z : Int} {bs : List Bool} (hr : ∀ e ∈ es, inR r z e) (hv : 0 ≤ v ∧ v < z) (h : JI es v z bs) (hc : JC es bs) : bs = jn es v z := by
  classical
  refine bls_ext (by rw [jn_len, h.len]) fun i hi => ?_
  have hi' : i < z.toNat := by rw [← h.len]; exact hi
  have : bx (jn es v z) i = decide (Rch es v (i : Int)) := by simp [bx, jn, hi']
  rw [this]
  cases hb : bx bs i with
  | true => simp [h.rch i hi hb]
  | false =>
    symm
    rw [decide_eq_false_iff_not]
    intro hR
    have := rch_min (S := fun u => (0 ≤ u ∧ u < z) ∧ bx bs u.toNat = true) ⟨hv, h.has⟩ (fun e he => by
      have hin := hr e he
      unfold inR at hin
      obtain ⟨j, hj, rfl⟩ := mem_ed he
      rw [hc j hj]
      constructor <;> (rintro ⟨_, h⟩; exact ⟨by omega, h⟩)) hR
    have h2 := this.2
    rw [show ((i : Int)).toNat = i by omega, hb] at h2
    cases h2
/-- The marked ones among the first. -/
def mk1 (bs : List Bool) : Nat → List Int
  | 0 => []
  | n + 1 => if bx bs n then mk1 bs n ++ [(n : Int)] else mk1 bs n
theorem mk1_len (bs : List Bool) (n : Nat) : (mk1 bs n).length ≤ n := by
  induction n with
  | zero => simp [mk1]
  | succ n ih => unfold mk1; split <;> first | omega | (simp; omega)
theorem mk1_jn (es : List Ed) (v z : Int) : mk1 (jn es v z) z.toNat = rl es v z := by
  classical
  have key : ∀ n, n ≤ z.toNat → mk1 (jn es v z) n = ((List.range n).map (fun n : Nat => (n : Int))).filter fun u => decide (Rch es v u) := by
    intro n
    induction n with
    | zero => intro _; simp [mk1]
    | succ n ih =>
      intro hn
      rw [mk1, ih (by omega), List.range_succ, List.map_append, List.filter_append]
      have : bx (jn es v z) n = decide (Rch es v (n : Int)) := by simp [bx, jn, show n < z.toNat by omega]
      rw [this]
      by_cases hR : Rch es v (n : Int) <;> simp [hR]
  rw [key _ (Nat.le_refl _), rl]
/-! ### Connected; trees -/
open Classical in
noncomputable def conn (g : Gr) : Bool := g.ok && decide (((rl g.es 0 g.z).length : Int) = g.z)
noncomputable def treeG (g : Gr) : Bool := conn g && decide ((g.es.length : Int) = g.z - 1)
end Go.Proofs.Try
namespace Go.Proofs.Try
open Go Go.Eng
set_option linter.unnecessarySimpa false
set_option linter.unusedSimpArgs false
set_option maxHeartbeats 4000000
def K_joined_sat : Nat → List Nat := fun i => ([[1, 2], [1, 2, 5], [2, 5], [2, 5, 6], [2, 5, 15], [2, 5, 6], [2, 5, 6, 17, 18, 19], [2, 5, 6, 17, 18, 19, 20], [2, 5, 6, 8, 17, 18, 19], [2, 5, 6, 8, 17, 18, 19, 33], [2, 5, 8, 17, 18, 19], [2, 5, 17, 18, 19], [2, 5, 6, 17, 18, 19], [2, 5, 6, 17, 18, 19], [4]] : List (List Nat)).getD i []
attribute [go_sem] K_joined_sat
def joined_sat_S : Eng.Spec := fun args av objs => ∃ (r z : Int) (es : List Ed) (v : Int), (isG r z es = true ∧ 0 ≤ v ∧ v < z) ∧ args = [grA r z es, aI v] ∧ av = aR 0 ∧ objs = [oBl 4 (jn es v z)]
theorem joined_sat : Sat Try.prog 69 joined_sat_S := by
  refine sat_of tok okr mixed K_joined_sat Try.func69 rfl (rs := [.tmp 4]) rfl Try.ntmps69 ?_
  rintro args av objs ⟨r, z, es, v, hpre, rfl, rfl, rfl⟩
  refine ⟨by show 2 ≤ 44; decide, ?_⟩
  obtain ⟨hG, hv0, hv1⟩ := hpre
  have hz := isG_z hG
  have hR := (isG_iff.1 hG).2.2
  repeat' (first|(refine ya ?_;first|refine ye ?_)|refine yz ?_|(refine yA ?_;first|refine yE ?_)|refine yZ ?_|refine zst ?_|refine k_blk_other rfl ?_|(refine zk ?_ ?_<;>intro hc hr<;>try first|contradiction|exfalso;omega))
  refine z_loop (fun p : Bool × List Bool => [(6, aB p.1)]) (fun p : Bool × List Bool => [.obj 5 (oBl 4 p.2)]) (fun p : Bool × List Bool => JI es v z p.2 ∧ (p.1 = false → JC es p.2)) (fun p : Bool × List Bool => 2 * cf p.2 + (if p.1 then 1 else 0)) ((true, (List.replicate z.toNat false).set v.toNat true)) (h0 := ?_) (henv := ?_) (hobj := ?_) (h := ?_)
  · exact ⟨JI_0 ⟨hv0, hv1⟩, by simp⟩
  · simp [go_sem, AVm, CVm, lookS]
  · simp [go_sem, OBm, CVm, lookS, All2]
  rintro ⟨again, bs⟩ ⟨hJ, hC⟩
  have hl := hJ.len
  simp only at hJ hC hl ⊢
  repeat' (first|(refine ya ?_;first|refine ye ?_)|refine yz ?_|(refine yA ?_;first|refine yE ?_)|refine yZ ?_|refine zst ?_|refine k_blk_other rfl ?_|(refine zk ?_ ?_<;>intro hc hr<;>try first|contradiction|exfalso;omega))
  · refine z_loop (fun q : Nat × Bool × List Bool => [(19, aI q.1), (6, aB q.2.1)]) (fun q : Nat × Bool × List Bool => [.obj 5 (oBl 4 q.2.2)]) (fun q : Nat × Bool × List Bool => q.1 ≤ es.length ∧ JR es v z bs q.1 q.2.1 q.2.2) (fun q : Nat × Bool × List Bool => es.length - q.1) ((0, false, bs)) (h0 := ?_) (henv := ?_) (hobj := ?_) (h := ?_)
    · exact ⟨by omega, JR_0 hJ⟩
    · simp [go_sem, AVm, CVm, lookS]
    · simp [go_sem, OBm, CVm, lookS, All2]
    rintro ⟨k, ag, b⟩ ⟨hk, hq⟩
    have hl2 := hq.ji.len
    simp only at hk hq hl2 ⊢
    rcases Nat.lt_or_ge k es.length with hlt | hge
    · have hin := hR _ (ed_mem hlt)
      unfold inR at hin
      repeat' (first|(refine ya ?_;first|refine ye ?_)|refine yz ?_|(refine yA ?_;first|refine yE ?_)|refine yZ ?_|refine zst ?_|refine k_blk_other rfl ?_|(refine zk ?_ ?_<;>intro hc hr<;>try first|contradiction|exfalso;omega))
      · exact zl ((k + 1, true, (b.set (ed es k).1.toNat true).set (ed es k).2.2.toNat true)) (hj := by exact ⟨by simp only; omega, JR_set hR hq hlt (by assumption)⟩)
      · exact zl ((k + 1, ag, b)) (hj := by exact ⟨by simp only; omega, JR_same hq (by assumption)⟩)
    · have hkk : k = es.length := by omega
      subst hkk
      have hfin : cf b < cf bs ∨ (ag = false ∧ b = bs) := by
        cases ag with
        | true => exact .inl (hq.yes rfl)
        | false => exact .inr ⟨rfl, (hq.no rfl).1⟩
      have hmu : 2 * cf b + (if ag = true then 1 else 0) < 2 * cf bs + 1 := by
        rcases hfin with h | ⟨h, h2⟩
        · split <;> omega
        · subst h; subst h2; simp
      have hag : again = true := by assumption
      repeat' (first|(refine ya ?_;first|refine ye ?_)|refine yz ?_|(refine yA ?_;first|refine yE ?_)|refine yZ ?_|refine zst ?_|refine k_blk_other rfl ?_|(refine zk ?_ ?_<;>intro hc hr<;>try first|contradiction|exfalso;omega))
      exact zl ((ag, b)) (hj := by exact ⟨hq.ji, fun h => fun j hj => (hq.no h).2 j hj⟩) (hmu := by simpa [hag] using hmu)
  · have := JI_end hR ⟨hv0, hv1⟩ hJ (hC hr)
    all_goals first | (refine z_ret (hv := ?_) (ho := ?_) <;> first | rfl | (simp [go_sem, *]; done) | (simp_all; done) | (simp_all; omega)) | skip
instance : Con Try.prog 69 joined_sat_S := con joined_sat Try.func69
def K_reached_sat : Nat → List Nat := fun i => ([[1, 2], [1, 2, 5], [1, 2, 5, 17], [4], [5, 21, 22, 23], [5, 21, 22, 23, 24], [5, 6, 7, 21, 22, 23], [5, 6, 21, 22, 23, 28], [5, 21, 22, 23], [5, 21, 22, 23], [4]] : List (List Nat)).getD i []
attribute [go_sem] K_reached_sat
def reached_sat_S : Eng.Spec := fun args av objs => ∃ (r z : Int) (es : List Ed), (isG r z es = true) ∧ args = [grA r z es, aI 0] ∧ av = aR 0 ∧ objs = [oL 3 (rl es 0 z)]
theorem reached_sat : Sat Try.prog 40 reached_sat_S := by
  refine sat_of tok okr mixed K_reached_sat Try.func40 rfl (rs := [.tmp 4]) rfl Try.ntmps40 ?_
  rintro args av objs ⟨r, z, es, hpre, rfl, rfl, rfl⟩
  refine ⟨by show 2 ≤ 35; decide, ?_⟩
  have hz := isG_z hpre
  have hl := jn_len es 0 z
  repeat' (first|(refine ya ?_;first|(refine yb ?_;first|refine yc ?_)|refine ye ?_)|(refine yg ?_;intro hgs;first|(replace hgs:=zgy hgs;first|(refine yb ?_;first|refine yc ?_)|refine yy hgs ?_;clear hgs)|(refine yn (zgn hgs) ?_;clear hgs)|((fail_if_success have:=zgy hgs);refine z_spl hgs (h1:=?_) (h2:=?_)<;>clear hgs<;>intro hg hr<;>try first|contradiction|exfalso;omega))|refine yz ?_|refine zst ?_|refine k_blk_other rfl ?_|(refine zk ?_ ?_<;>intro hc hr<;>try first|contradiction|exfalso;omega))
  refine z_loop (fun i : Nat => [(23, aI i)]) (fun i : Nat => [.obj 5 (oL 3 (mk1 (jn es 0 z) i))]) (fun i : Nat => i ≤ z.toNat) (fun i : Nat => z.toNat - i) (0) (h0 := ?_) (henv := ?_) (hobj := ?_) (h := ?_)
  · omega
  · simp [go_sem, AVm, CVm, lookS, mk1]
  · simp [go_sem, OBm, CVm, lookS, All2, mk1]
  intro i hi
  have hm := mk1_len (jn es 0 z) i
  rcases Nat.lt_or_ge i z.toNat with hlt | hge
  · repeat' (first|(refine ya ?_;first|(refine yb ?_;first|refine yc ?_)|refine ye ?_)|(refine yg ?_;intro hgs;first|(replace hgs:=zgy hgs;first|(refine yb ?_;first|refine yc ?_)|refine yy hgs ?_;clear hgs)|(refine yn (zgn hgs) ?_;clear hgs)|((fail_if_success have:=zgy hgs);refine z_spl hgs (h1:=?_) (h2:=?_)<;>clear hgs<;>intro hg hr<;>try first|contradiction|exfalso;omega))|refine yz ?_|refine zst ?_|refine k_blk_other rfl ?_|(refine zk ?_ ?_<;>intro hc hr<;>try first|contradiction|exfalso;omega))
    · (refine z_lop (i + 1) (hj := ?_) (hmu := ?_) (henv := ?_) (hobj := ?_); (· omega); (· first | omega | (simp only; omega)); (· first | (simp [go_sem, AVm, CVm, lookS, mk1, *]; done) | (simp [go_sem, AVm, CVm, lookS, mk1, *] <;> (repeat' split) <;> first | omega | (simp_all; done) | (exfalso; omega) | (simp_all; omega))); (· first | (simp [go_sem, OBm, CVm, All2, lookS, mk1, *]; done) | (simp [go_sem, OBm, CVm, All2, lookS, mk1, *] <;> (repeat' split) <;> first | omega | (simp_all; done) | (exfalso; omega) | (simp_all; omega))))
    · (refine z_lop (i + 1) (hj := ?_) (hmu := ?_) (henv := ?_) (hobj := ?_); (· omega); (· first | omega | (simp only; omega)); (· first | (simp [go_sem, AVm, CVm, lookS, mk1, *]; done) | (simp [go_sem, AVm, CVm, lookS, mk1, *] <;> (repeat' split) <;> first | omega | (simp_all; done) | (exfalso; omega) | (simp_all; omega))); (· first | (simp [go_sem, OBm, CVm, All2, lookS, mk1, *]; done) | (simp [go_sem, OBm, CVm, All2, lookS, mk1, *] <;> (repeat' split) <;> first | omega | (simp_all; done) | (exfalso; omega) | (simp_all; omega))))
  · have hii : i = z.toNat := by omega
    subst hii
    rw [mk1_jn]
    repeat' (first|(refine ya ?_;first|(refine yb ?_;first|refine yc ?_)|refine ye ?_)|(refine yg ?_;intro hgs;first|(replace hgs:=zgy hgs;first|(refine yb ?_;first|refine yc ?_)|refine yy hgs ?_;clear hgs)|(refine yn (zgn hgs) ?_;clear hgs)|((fail_if_success have:=zgy hgs);refine z_spl hgs (h1:=?_) (h2:=?_)<;>clear hgs<;>intro hg hr<;>try first|contradiction|exfalso;omega))|refine yz ?_|refine zst ?_|refine k_blk_other rfl ?_|(refine zk ?_ ?_<;>intro hc hr<;>try first|contradiction|exfalso;omega))
    all_goals first | (refine z_ret (hv := ?_) (ho := ?_) <;> first | rfl | (simp [go_sem, *]; done) | (simp_all; done) | (simp_all; omega)) | skip
instance : Con Try.prog 40 reached_sat_S := con reached_sat Try.func40
end Go.Proofs.Try
namespace Go.Proofs.Try
open Go Go.Eng
set_option linter.unnecessarySimpa false
set_option linter.unusedSimpArgs false
set_option maxHeartbeats 4000000
theorem decI (a b : Int) : decide (a = b) = (a == b) := by rw [Bool.eq_iff_iff]; simp
theorem conn_no {r z : Int} {es : List Ed} (h : isG r z es = false) : conn ⟨r, z, es⟩ = false := by simp [conn, Gr.ok, h]
theorem conn_yes {r z : Int} {es : List Ed} (h : isG r z es = true) : conn ⟨r, z, es⟩ = decide (((rl es 0 z).length : Int) = z) := by simp [conn, Gr.ok, h]
def K_isConn_sat : Nat → List Nat := fun i => ([[1], [2]] : List (List Nat)).getD i []
attribute [go_sem] K_isConn_sat
def isConn_sat_S : Eng.Spec := fun args av objs => ∃ (r z : Int) (es : List Ed), (es.length ≤ 1099511627776) ∧ args = [grA r z es] ∧ av = aB (conn ⟨r, z, es⟩) ∧ objs = []
theorem isConn_sat : Sat Try.prog 12 isConn_sat_S := by
  refine sat_of tok okr mixed K_isConn_sat Try.func12 rfl (rs := [.tmp 2]) rfl Try.ntmps12 ?_
  rintro args av objs ⟨r, z, es, hpre, rfl, rfl, rfl⟩
  refine ⟨by show 1 ≤ 13; decide, ?_⟩
  cases hok : isG r z es
  · rw [conn_no hok]
    repeat' (first|(refine ya ?_;first|(refine yb ?_;first|refine yc ?_)|refine ye ?_)|(refine yg ?_;intro hgs;first|(replace hgs:=zgy hgs;first|(refine yb ?_;first|refine yc ?_)|refine yy hgs ?_;clear hgs)|(refine yn (zgn hgs) ?_;clear hgs)|((fail_if_success have:=zgy hgs);refine z_spl hgs (h1:=?_) (h2:=?_)<;>clear hgs<;>intro hg hr<;>try first|contradiction|exfalso;omega))|refine yz ?_|(refine yA ?_;first|(refine yB ?_;first|refine yC ?_)|refine yE ?_)|(refine yG ?_;intro hgs;first|(replace hgs:=zgy hgs;first|(refine yB ?_;first|refine yC ?_)|refine yY hgs ?_;clear hgs)|(refine yN (zgn hgs) ?_;clear hgs)|((fail_if_success have:=zgy hgs);refine z_spll hgs (h1:=?_) (h2:=?_)<;>clear hgs<;>intro hg hr<;>try first|contradiction|exfalso;omega))|refine yZ ?_|refine zst ?_|refine k_blk_other rfl ?_|(refine zk ?_ ?_<;>intro hc hr<;>try first|contradiction|exfalso;omega))
    all_goals first | (refine z_ret (hv := ?_) (ho := ?_) <;> first | rfl | (simp [go_sem, *]; done) | (simp_all; done) | (simp_all; omega)) | skip
  · have hz := isG_z hok
    have hl := rl_len es 0 z
    rw [conn_yes hok, decI]
    repeat' (first|(refine ya ?_;first|(refine yb ?_;first|refine yc ?_)|refine ye ?_)|(refine yg ?_;intro hgs;first|(replace hgs:=zgy hgs;first|(refine yb ?_;first|refine yc ?_)|refine yy hgs ?_;clear hgs)|(refine yn (zgn hgs) ?_;clear hgs)|((fail_if_success have:=zgy hgs);refine z_spl hgs (h1:=?_) (h2:=?_)<;>clear hgs<;>intro hg hr<;>try first|contradiction|exfalso;omega))|refine yz ?_|(refine yA ?_;first|(refine yB ?_;first|refine yC ?_)|refine yE ?_)|(refine yG ?_;intro hgs;first|(replace hgs:=zgy hgs;first|(refine yB ?_;first|refine yC ?_)|refine yY hgs ?_;clear hgs)|(refine yN (zgn hgs) ?_;clear hgs)|((fail_if_success have:=zgy hgs);refine z_spll hgs (h1:=?_) (h2:=?_)<;>clear hgs<;>intro hg hr<;>try first|contradiction|exfalso;omega))|refine yZ ?_|refine zst ?_|refine k_blk_other rfl ?_|(refine zk ?_ ?_<;>intro hc hr<;>try first|contradiction|exfalso;omega))
    all_goals first | (refine z_ret (hv := ?_) (ho := ?_) <;> first | rfl | (simp [go_sem, *]; done) | (simp_all; done) | (simp_all; omega)) | skip
theorem conn_ok {r z : Int} {es : List Ed} (h : conn ⟨r, z, es⟩ = true) : isG r z es = true := by
  cases hok : isG r z es
  · rw [conn_no hok] at h; cases h
  · rfl
instance : Con Try.prog 12 isConn_sat_S := con isConn_sat Try.func12
end Go.Proofs.Try
