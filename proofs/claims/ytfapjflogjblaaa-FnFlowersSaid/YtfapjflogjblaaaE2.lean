import Derived.Test.YtfapjflogjblaaaE1
import Derived.ChangeArms
import Derived.ChangeSlices
import Derived.WideKeyArgs
set_option linter.unusedVariables false
set_option linter.unusedSimpArgs false
set_option linter.unnecessarySimpa false
/- The engine, part 26: a law's arguments, opened by the shape of their types. -/
set_option linter.unusedVariables false
set_option linter.unusedSimpArgs false
namespace Go.Eng
open Go Go.RowKit Go.ChangeShapes

theorem pick {α : Type} {Q : Nat → α → Prop} : ∀ {n : Nat}, (∀ i, i < n → ∃ y, Q i y) → ∃ ys : List α, ys.length = n ∧ ∀ i y, ys[i]? = some y → Q i y
  | 0, _ => ⟨[], rfl, fun i y h => by simp at h⟩
  | n + 1, h => by
    obtain ⟨ys, hl, hq⟩ := pick (n := n) (fun i hi => h i (by omega))
    obtain ⟨y, hy⟩ := h n (by omega)
    refine ⟨ys ++ [y], by simp [hl], fun i z hz => ?_⟩
    by_cases hi : i < ys.length
    · rw [List.getElem?_append_left hi] at hz
      exact hq i z hz
    · rw [List.getElem?_append_right (by omega)] at hz
      have : i = n := by
        have := (List.getElem?_eq_some_iff.1 hz).1
        simp at this; omega
      subst this
      simp [hl] at hz
      subst hz
      exact hy

def ShS : TI → Sc → Prop
  | .int, .int n => (Lit.int .i64 n).wf = true
  | .u8, .u8 n => (Lit.int .u8 n).wf = true
  | .bool, .bool _ => True
  | .str, .str b => b.size ≤ maxLen
  | _, _ => False

def TI.sca : TI → Bool
  | .int | .u8 | .bool | .str => true
  | _ => false

def TI.flat (T : Tys) : TI → Bool
  | .st fs => fs.all fun f => (T f).sca
  | ti => ti.sca

def ShE (T : Tys) (e : Nat) (el : El) : Prop :=
  match T e with
  | .st fs => All2 (fun f s => ShS (T f) s) fs el
  | ti => ∃ s, el = [s] ∧ ShS ti s

section
variable {H : Type} {enc : TypeId × Value → H} {P : Program} {T : Tys} {w : World} {held : Bool} {fuel : Nat} {t : TypeId} {cs : List Value} {x : DataW H × List MemPlace}

theorem cellsOf_of {t a b : Nat} {z : Value} (h : TInfo P t a b z) : P.cellsOf t = a := by
  obtain ⟨i, h1, h2, _⟩ := h.info
  unfold Program.cellsOf
  rw [h1]
  simpa using h2

theorem cellsOf_sca (hT : TOk P T) {t : Nat} (h : (T t).one = true) : P.cellsOf t = 1 := by
  have := hT t
  cases ht : T t <;> rw [ht] at this h <;> first | (cases h; done) | exact cellsOf_of this.2

theorem cellsOf_kOf (hT : TOk P T) {t : Nat} (h : TI.flat T (T t) = true) : P.cellsOf t = kOf T t := by
  have := hT t
  cases ht : T t <;> rw [ht] at this h <;> simp only [kOf, ht] <;> first | exact cellsOf_of this.2 | (cases h; done) | skip
  obtain ⟨_, _, _, _, b, _, h⟩ := this
  exact cellsOf_of h

theorem open_S (hT : TOk P T) (hs : (T t).sca = true) (h : DataW.trod enc P w 0 (fun _ => true) held fuel t cs = some x) : ∃ s : Sc, cs = [s.val] ∧ ShS (T t) s := by
  have := hT t
  cases ht : T t <;> rw [ht] at this hs <;> first | (cases hs; done) | skip
  · obtain ⟨n, rfl, _, hw⟩ := DataW.trod_int this.1 h
    exact ⟨.int n, rfl, hw⟩
  · obtain ⟨n, rfl, _, hw⟩ := DataW.trod_int this.1 h
    exact ⟨.u8 n, rfl, hw⟩
  · cases fuel with
    | zero => simp [DataW.trod] at h
    | succ n =>
      unfold DataW.trod at h
      rw [this.1] at h
      split at h <;> simp_all
      exact ⟨.bool _, rfl, trivial⟩
  · obtain ⟨b, rfl, _, hw⟩ := DataW.trod_string this.1 h
    exact ⟨.str b, rfl, hw⟩

theorem sca_one {ti : TI} (h : ti.sca = true) : ti.one = true := by cases ti <;> first | rfl | cases h

theorem open_E (hT : TOk P T) (hf : TI.flat T (T t) = true) (h : DataW.trod enc P w 0 (fun _ => true) held fuel t cs = some x) : ∃ el : El, cs = el.map Sc.val ∧ el.length = kOf T t ∧ ShE T t el := by
  cases ht : T t with
  | st fs =>
    have h0 := hT t
    rw [ht] at h0 hf
    obtain ⟨_, ⟨arr, hu, hsz, hfld⟩, _, _, b, _, hi⟩ := h0
    obtain ⟨xs, n, _, _, hl, hxs, hall⟩ := DataW.trod_struct hu h
    rw [cellsOf_of hi] at hl
    simp only [TI.flat, List.all_eq_true] at hf
    have key : ∀ i, i < fs.length → ∃ s : Sc, cs[i]? = some s.val ∧ ∀ f, fs[i]? = some f → ShS (T f) s := by
      intro i hi
      obtain ⟨fd, ha, hty, hoff, _, hone⟩ := hfld i fs[i] (by simp [hi])
      have hx := hall i fd ha
      have hsc : (T fs[i]).sca = true := hf _ (List.getElem_mem hi)
      rw [hty, hoff, cellsOf_sca hT (sca_one hsc)] at hx
      rw [List.getElem?_eq_getElem (by omega)] at hx
      obtain ⟨s, hs, hsh⟩ := open_S hT hsc hx
      refine ⟨s, ?_, fun f hf' => ?_⟩
      · have e : ((cs.drop i).take 1)[0]? = some s.val := by rw [hs]; rfl
        simpa using e
      · rw [List.getElem?_eq_getElem hi] at hf'
        cases hf'
        exact hsh
    obtain ⟨el, hel, hq⟩ := pick key
    refine ⟨el, ?_, by simp only [kOf, ht]; exact hel, ?_⟩
    · apply List.ext_getElem? 
      intro i
      by_cases hi : i < fs.length
      · have h1 := (hq i el[i] (by simp [hel, hi])).1
        rw [h1]; simp [hel, hi]
      · rw [List.getElem?_eq_none (by omega), List.getElem?_eq_none (by simp; omega)]
    · simp only [ShE, ht]
      have : ∀ (fs : List Nat) (el : El), el.length = fs.length → (∀ (i : Nat) (s : Sc), el[i]? = some s → ∀ f, fs[i]? = some f → ShS (T f) s) → All2 (fun f s => ShS (T f) s) fs el := by
        intro fs
        induction fs with
        | nil => intro el h _; cases el with | nil => trivial | cons _ _ => simp at h
        | cons f fs ih =>
          intro el h hq
          cases el with
          | nil => simp at h
          | cons s el => exact ⟨hq 0 s rfl f rfl, ih el (by simpa using h) (fun i s' h1 f' h2 => hq (i + 1) s' (by simpa using h1) f' (by simpa using h2))⟩
      exact this fs el hel (fun i s h1 => (hq i s h1).2)
  | _ =>
    rw [ht] at hf
    first
    | (cases hf; done)
    | (obtain ⟨s, rfl, hs⟩ := open_S hT (by rw [ht]; exact hf) h
       exact ⟨[s], rfl, by simp [kOf, ht], by simp only [ShE, ht]; exact ⟨s, rfl, ht ▸ hs⟩⟩)

def inW (w : World) (b : Nat) : Prop := b < w.heap.size

theorem cell_in {w : World} {a : Addr} {v : Value} (h : w.cell? a = some v) : a.block < w.heap.size ∧ a.spot = none := by
  unfold World.cell? at h
  split at h
  · rename_i c _ _ hb
    refine ⟨?_, ?_⟩
    · by_cases hlt : a.block < w.heap.size
      · exact hlt
      · rw [Array.getElem?_eq_none (by omega)] at hb; cases hb
    · split at h
      · cases h
      · rename_i hs; simpa using hs
  · cases h

theorem imm_of {w : World} {k len cap : Nat} {a : Addr} {xs : List El} (hk : 0 < k) (hlen : xs.length = len) (hc : len ≤ cap) (hflat : Flat k xs)
    (hcell : ∀ i e, xs[i]? = some e → ∀ r, r < k → w.cell? (a.add (i * k + r)) = (e[r]?).map Sc.val) : Imm (inW w) w k (.slice (some a) len cap) xs := by
  refine ⟨⟨some a, cap, by rw [hlen], by omega, ?_⟩, hflat⟩
  by_cases h0 : xs.length = 0
  · exact .inl h0
  · right
    have hc0 : ∃ v, w.cell? a = some v := by
      have h1 := hcell 0 xs[0] (by simp) 0 hk
      have hl : (xs[0]).length = k := hflat _ (List.getElem_mem _)
      rw [List.getElem?_eq_getElem (by omega)] at h1
      simp only [Nat.zero_mul, Nat.add_zero, Addr.add, Option.map_some, if_true] at h1
      exact ⟨_, h1⟩
    obtain ⟨v0, hv0⟩ := hc0
    obtain ⟨hb, hs⟩ := cell_in hv0
    refine ⟨a.block, a.off, ?_, hb, fun j u hu => ?_⟩
    · cases a; simp at hs; subst hs; rfl
    · have hj : j < xs.length * k := by
        have := (List.getElem?_eq_some_iff.1 hu).1
        have hl : (cellsOf xs).length = xs.length * k := by
          unfold cellsOf
          rw [List.length_map]
          clear hcell hu this hlen h0
          induction xs with
          | nil => simp
          | cons e r ih =>
            rw [List.flatten_cons, List.length_append, ih (fun e he => hflat e (by simp [he])), hflat e (by simp), List.length_cons, Nat.add_mul]; omega
        omega
      have e1 : j = (j / k) * k + j % k := by rw [Nat.mul_comm]; exact (Nat.div_add_mod j k).symm
      have h2 : j % k < k := Nat.mod_lt _ hk
      have h3 : j / k < xs.length := by rw [Nat.div_lt_iff_lt_mul hk]; exact hj
      have hg := cellsOf_get (j / k) (j % k) hflat h2
      rw [← e1] at hg
      rw [hg, List.getElem?_eq_getElem h3] at hu
      have hh := hcell (j / k) xs[j / k] (by simp [h3]) (j % k) h2
      rw [← e1] at hh
      simp only [Option.bind_some] at hu
      rw [hu] at hh
      rw [← hh]
      unfold Addr.add
      split
      · rename_i h00; rw [h00]; cases a; simp at hs; subst hs; rfl
      · rfl

/-- A slice of flat elements. -/
theorem open_sl (hT : TOk P T) {e : Nat} (ht : T t = .sl e) (hf : TI.flat T (T e) = true) (h : DataW.trod enc P w 0 (fun _ => true) held fuel t cs = some x) :
    ∃ (v : Value) (xs : List El), cs = [v] ∧ Imm (inW w) w (kOf T e) v xs ∧ xs.length ≤ maxLen ∧ ∀ el ∈ xs, ShE T e el := by
  have h0 := hT t
  rw [ht] at h0
  have hk : 0 < kOf T e := by
    have h1 := hT e
    cases he : T e <;> rw [he] at h1 hf <;> simp only [kOf, he] <;> first | omega | (cases hf; done) | exact h1.1
  rcases DataW.trod_slice h0.1 h with ⟨rfl, _⟩ | ⟨a, len, cap, elems, rest, n, _, rfl, _, _, hl, hm, hlen, hel, _, _⟩
  · exact ⟨_, [], rfl, ⟨⟨none, 0, rfl, Nat.le_refl _, .inl rfl⟩, fun e he => by simp at he⟩, by simp, by simp⟩
  · have key : ∀ i, i < len → ∃ el : El, (el.length = kOf T e ∧ ShE T e el) ∧ ∀ r, r < kOf T e → w.cell? (a.add (i * kOf T e + r)) = (el[r]?).map Sc.val := by
      intro i hi
      have h1 := hel i hi
      rw [List.getElem?_eq_getElem (by omega), Option.bind_eq_some_iff] at h1
      obtain ⟨cs', hcs, htr⟩ := h1
      obtain ⟨el, rfl, hle, hsh⟩ := open_E hT hf htr
      refine ⟨el, ⟨hle, hsh⟩, fun r hr => ?_⟩
      rw [cellsOf_kOf hT hf] at hcs
      obtain ⟨_, h2, h3⟩ := World.cells?_some hcs
      have := h3 r hr
      rw [List.getElem?_map] at this
      rw [← this]
      congr 1
      unfold Addr.add
      by_cases h00 : i * kOf T e = 0
      · simp [h00]
      · by_cases hr0 : r = 0
        · simp [hr0, h00]
        · rw [if_neg (by omega), if_neg hr0, if_neg h00]
          simp [Nat.add_assoc]
    obtain ⟨xs, hxl, hq⟩ := pick key
    have hmem : ∀ el ∈ xs, el.length = kOf T e ∧ ShE T e el := fun el hel => by
      obtain ⟨i, hi⟩ := List.getElem?_of_mem hel
      exact (hq i el hi).1
    exact ⟨_, xs, rfl, imm_of hk hxl hl (fun e he => (hmem e he).1) (fun i e he r hr => (hq i e he).2 r hr), by omega, fun el hel => (hmem el hel).2⟩

def RowsSh (T : Tys) (e : Nat) (xss : List (List El)) : Prop := xss.length ≤ maxLen ∧ ∀ xs ∈ xss, xs.length ≤ maxLen ∧ ∀ el ∈ xs, ShE T e el

/-- A slice of slices of elements of one cell. -/
theorem open_ss (hT : TOk P T) {e e' : Nat} (ht : T t = .sl e) (he : T e = .sl e') (hk : kOf T e' = 1) (hf : TI.flat T (T e') = true) (h : DataW.trod enc P w 0 (fun _ => true) held fuel t cs = some x) :
    ∃ (v : Value) (xss : List (List El)), cs = [v] ∧ CR w.heap.size (fun _ => none) (inW w) w (.imm2 xss) v ∧ RowsSh T e' xss := by
  have h0 := hT t
  rw [ht] at h0
  rcases DataW.trod_slice h0.1 h with ⟨rfl, _⟩ | ⟨a, len, cap, elems, rest, n, _, rfl, _, _, hl, hm, hlen, hel, _, _⟩
  · exact ⟨_, [], rfl, ⟨[], rfl, ⟨none, 0, rfl, Nat.le_refl _, .inl rfl⟩, fun i u xs h => by simp at h⟩, by simp [RowsSh]⟩
  · have hc1 : P.cellsOf e = 1 := cellsOf_sca hT (by rw [he]; rfl)
    have key : ∀ i, i < len → ∃ p : Value × List El, w.cell? (a.add i) = some p.1 ∧ Imm (inW w) w 1 p.1 p.2 ∧ p.2.length ≤ maxLen ∧ ∀ el ∈ p.2, ShE T e' el := by
      intro i hi
      have h1 := hel i hi
      rw [List.getElem?_eq_getElem (by omega), Option.bind_eq_some_iff] at h1
      obtain ⟨cs', hcs, htr⟩ := h1
      obtain ⟨v, xs, rfl, him, hle, hsh⟩ := open_sl hT he hf htr
      rw [hk] at him
      refine ⟨(v, xs), ?_, him, hle, hsh⟩
      rw [hc1, Nat.mul_one] at hcs
      obtain ⟨_, _, h3⟩ := World.cells?_some hcs
      have := h3 0 (by omega)
      simpa [Addr.add] using this
    obtain ⟨ps, hpl, hq⟩ := pick key
    have hxl : (ps.map (·.2)).length = len := by simp [hpl]
    refine ⟨_, ps.map (·.2), rfl, ⟨ps.map (·.1), by simp, ?_, ?_⟩, Nat.le_trans (Nat.le_of_eq hxl) (Nat.le_trans hl hm), ?_⟩
    · refine ⟨some a, cap, by rw [hxl], Nat.le_trans (Nat.le_of_eq hxl) hl, ?_⟩
      by_cases h00 : ps.length = 0
      · left; rw [List.length_map]; exact h00
      · right
        obtain ⟨hc0, _⟩ := hq 0 ps[0] (by simp)
        have hc0' : w.cell? a = some ps[0].1 := by simpa [Addr.add] using hc0
        obtain ⟨hb, hs⟩ := cell_in hc0'
        refine ⟨a.block, a.off, by cases a; simp at hs; subst hs; rfl, hb, fun j u hu => ?_⟩
        simp only [List.getElem?_map, Option.map_eq_some_iff] at hu
        obtain ⟨p, hp, rfl⟩ := hu
        have := (hq j p hp).1
        unfold Addr.add at this
        split at this
        · rename_i hj0; subst hj0; rw [← this]; cases a; simp at hs; subst hs; rfl
        · exact this
    · intro i u xs h1 h2
      simp only [List.getElem?_map, Option.map_eq_some_iff] at h1 h2
      obtain ⟨p, hp, rfl⟩ := h1
      obtain ⟨p', hp', rfl⟩ := h2
      rw [hp] at hp'; cases hp'
      exact (hq i p hp).2.1
    · intro xs hxs
      simp only [List.mem_map] at hxs
      obtain ⟨p, hp, rfl⟩ := hxs
      obtain ⟨i, hi⟩ := List.getElem?_of_mem hp
      exact (hq i p hi).2.2

/-! ### One cell, one value, all arguments -/
def ShC (T : Tys) (t : Nat) (c : CV) : Prop :=
  match T t with
  | .sl e => match T e with
    | .sl e' => ∃ xss, c = .imm2 xss ∧ RowsSh T e' xss
    | _ => ∃ xs, c = .imm (kOf T e) xs ∧ xs.length ≤ maxLen ∧ ∀ el ∈ xs, ShE T e el
  | ti => ∃ s, c = .sc s ∧ ShS ti s

def opnC (T : Tys) (t : Nat) : Bool :=
  match T t with
  | .sl e => match T e with
    | .sl e' => (kOf T e' == 1) && TI.flat T (T e')
    | ti => TI.flat T ti
  | ti => ti.sca

theorem open_C (hT : TOk P T) (ho : opnC T t = true) (h : DataW.trod enc P w 0 (fun _ => true) held fuel t cs = some x) :
    ∃ (v : Value) (c : CV), cs = [v] ∧ CR w.heap.size (fun _ => none) (inW w) w c v ∧ ShC T t c := by
  unfold opnC at ho
  split at ho
  · rename_i e ht
    split at ho
    · rename_i e' he
      simp only [Bool.and_eq_true, beq_iff_eq] at ho
      obtain ⟨v, xss, h1, h2, h3⟩ := open_ss hT ht he ho.1 ho.2 h
      refine ⟨v, _, h1, h2, ?_⟩
      unfold ShC
      rw [ht]
      simp only [he]
      exact ⟨xss, rfl, h3⟩
    · rename_i hne
      obtain ⟨v, xs, h1, h2, h3, h4⟩ := open_sl hT ht ho h
      refine ⟨v, .imm (kOf T e) xs, h1, h2, ?_⟩
      unfold ShC
      rw [ht]
      simp only
      exact ⟨xs, rfl, h3, h4⟩
  · rename_i hne
    obtain ⟨s, h1, h2⟩ := open_S hT ho h
    refine ⟨s.val, .sc s, h1, rfl, ?_⟩
    unfold ShC
    split
    · rename_i e he; exact (hne e he).elim
    · exact ⟨s, rfl, h2⟩

def ShA (T : Tys) (t : Nat) (a : AV) : Prop :=
  match T t with
  | .st fs => ∃ cs, a = .agg cs ∧ All2 (ShC T) fs cs
  | _ => ∃ c, a = .one c ∧ ShC T t c

def opnA (T : Tys) (t : Nat) : Bool :=
  match T t with
  | .st fs => fs.all (opnC T)
  | .oth => false
  | _ => opnC T t

theorem opnC_one {t : Nat} (h : opnC T t = true) : (T t).one = true := by
  unfold opnC at h
  cases ht : T t <;> rw [ht] at h <;> first | rfl | (cases h; done)

theorem open_A (hT : TOk P T) (ho : opnA T t = true) {r : Reach} {v : Value} {d : DataW H} {ps : List MemPlace} {b0 : Nat} (hval : Value.okWide P w r b0 t v) (h : DataW.Trod enc P w 0 (fun _ => true) held t v d ps) :
    ∃ a : AV, AR w.heap.size (fun _ => none) (inW w) w a v ∧ ShA T t a := by
  obtain ⟨fuel, h⟩ := h
  have h0 := hT t
  cases ht : T t with
  | st fs =>
    rw [ht] at h0
    obtain ⟨_, ⟨arr, hu, hsz, hfld⟩, _, _, b, _, hi⟩ := h0
    simp only [opnA, ht, List.all_eq_true] at ho
    simp only [Value.okWide, hu] at hval
    obtain ⟨ca, rfl, hcs, _⟩ := hval
    obtain ⟨xs, n, _, _, hl, hxs, hall⟩ := DataW.trod_struct hu h
    rw [cellsOf_of hi] at hl
    simp only [Value.cells] at hl hall
    have key : ∀ i, i < fs.length → ∃ p : Value × CV, ca.toList[i]? = some p.1 ∧ CR w.heap.size (fun _ => none) (inW w) w p.2 p.1 ∧ ∀ f, fs[i]? = some f → ShC T f p.2 := by
      intro i hi
      obtain ⟨fd, ha, hty, hoff, _, hone⟩ := hfld i fs[i] (by simp [hi])
      have hx := hall i fd ha
      have hsc : opnC T fs[i] = true := ho _ (List.getElem_mem hi)
      rw [hty, hoff, cellsOf_sca hT (opnC_one hsc)] at hx
      rw [List.getElem?_eq_getElem (by omega)] at hx
      obtain ⟨v, c, hs, hc, hsh⟩ := open_C hT hsc hx
      refine ⟨(v, c), ?_, hc, fun f hf' => ?_⟩
      · have e : ((ca.toList.drop i).take 1)[0]? = some v := by rw [hs]; rfl
        simpa using e
      · rw [List.getElem?_eq_getElem hi] at hf'
        cases hf'
        exact hsh
    obtain ⟨ps', hel, hq⟩ := pick key
    refine ⟨.agg (ps'.map (·.2)), ⟨ca.toList, by simp, ?_⟩, ?_⟩
    · have e : ca.toList = ps'.map (·.1) := by
        apply List.ext_getElem?
        intro i
        by_cases hi : i < fs.length
        · rw [(hq i ps'[i] (by simp [hel, hi])).1]; simp [hel, hi]
        · rw [List.getElem?_eq_none (by omega), List.getElem?_eq_none (by simp; omega)]
      rw [e]
      have : ∀ l : List (Value × CV), (∀ p ∈ l, CR w.heap.size (fun _ => none) (inW w) w p.2 p.1) → All2 (CR w.heap.size (fun _ => none) (inW w) w) (l.map (·.2)) (l.map (·.1)) := by
        intro l
        induction l with
        | nil => intro _; trivial
        | cons p l ih => intro h; exact ⟨h p (by simp), ih (fun q hq => h q (by simp [hq]))⟩
      refine this ps' (fun p hp => ?_)
      obtain ⟨i, hi⟩ := List.getElem?_of_mem hp
      exact (hq i p hi).2.1
    · simp only [ShA, ht]
      refine ⟨_, rfl, ?_⟩
      have : ∀ (fs : List Nat) (l : List (Value × CV)), l.length = fs.length → (∀ (i : Nat) (s : Value × CV), l[i]? = some s → ∀ f, fs[i]? = some f → ShC T f s.2) → All2 (ShC T) fs (l.map (·.2)) := by
        intro fs
        induction fs with
        | nil => intro el h _; cases el with | nil => trivial | cons _ _ => simp at h
        | cons f fs ih =>
          intro el h hq
          cases el with
          | nil => simp at h
          | cons s el => exact ⟨hq 0 s rfl f rfl, ih el (by simpa using h) (fun i s' h1 f' h2 => hq (i + 1) s' (by simpa using h1) f' (by simpa using h2))⟩
      exact this fs ps' hel (fun i s h1 => (hq i s h1).2.2)
  | oth => simp [opnA, ht] at ho
  | _ =>
    have hc : opnC T t = true := by simpa [opnA, ht] using ho
    rw [ht] at h0
    have hv : v.cells.toList = [v] := by
      simp only [Value.okWide, h0.1, Cell.okWide] at hval
      cases v <;> simp_all [Cell.ok, Value.cells]
    rw [hv] at h
    obtain ⟨v', c, h1, h2, h3⟩ := open_C hT hc h
    cases h1
    exact ⟨.one c, h2, by simp only [ShA, ht]; exact ⟨c, rfl, h3⟩⟩

theorem open_all (hT : TOk P T) {r : Reach} {b0 : Nat} : ∀ {ts : List Nat} {vs : List Value} {ds : List (DataW H)} {ps : List MemPlace}, ts.all (opnA T) = true → (∀ (j : Nat) t v, ts[j]? = some t → vs[j]? = some v → Value.okWide P w r b0 t v) →
    DataW.TrodAll enc P w 0 (fun _ => true) held ts vs ds ps → ∃ as : List AV, Args w as vs ∧ All2 (ShA T) ts as
  | [], [], [], _, _, _, _ => ⟨[], trivial, trivial⟩
  | t :: ts, v :: vs, d :: ds, ps, ho, hval, ⟨p, q, h1, h2, _⟩ => by
    simp only [List.all_cons, Bool.and_eq_true] at ho
    obtain ⟨a, ha, hs⟩ := open_A hT ho.1 (hval 0 t v rfl rfl) h1
    obtain ⟨as, has, hss⟩ := open_all hT ho.2 (fun j t' v' h h' => hval (j + 1) t' v' (by simpa using h) (by simpa using h')) h2
    exact ⟨a :: as, ⟨ha, has⟩, ⟨hs, hss⟩⟩
  | [], _ :: _, _, _, _, _, h => h.elim
  | [], [], _ :: _, _, _, _, h => h.elim
  | _ :: _, [], _, _, _, _, h => h.elim
  | _ :: _, _ :: _, [], _, _, _, h => h.elim

theorem all_len : ∀ {ts : List Nat} {vs : List Value} {ds : List (DataW H)} {ps : List MemPlace}, DataW.TrodAll enc P w 0 (fun _ => true) held ts vs ds ps → ds.length = ts.length
  | [], _, _, _, h => by obtain ⟨_, rfl, _⟩ := trodAll_nil h; rfl
  | _ :: _, _, _, _, h => by
    obtain ⟨v, vs1, d, ds1, a, b, rfl, rfl, rfl, h1, h2⟩ := trodAll_cons h
    simp [all_len h2]

/-- Behind a call that has written nothing old, the arguments read as before. -/
theorem all_same {ts : List Nat} {vs : List Value} {ds : List (DataW H)} {ps : List MemPlace} (hl : laidOutB P = true) (hr : ∀ t ∈ ts, P.readableRec t = true ∧ t < P.types.size) {W W' : World}
    (hb : Below W.heap.size W W') : DataW.TrodAll enc P W 0 (fun _ => true) true ts vs ds ps → (∀ x ∈ ps, x.block < W.heap.size) → DataW.TrodAll enc P W' 0 (fun b => decide (b < W.heap.size)) true ts vs ds ps := by
  induction ts generalizing vs ds ps with
  | nil =>
    intro h _
    obtain ⟨rfl, rfl, rfl⟩ := trodAll_nil h
    exact rfl
  | cons t ts ih =>
    intro h hps
    obtain ⟨v, vs1, d, ds1, a, b, rfl, rfl, rfl, h1, h2⟩ := trodAll_cons h
    have ht := hr t (by simp)
    exact ⟨a, b, WideElems.Trod_stays hl ht.1 ht.2 h1 (fun x hx => hb.same (hps x (by simp [hx]))) (fun x hx => by simpa using hps x (by simp [hx])),
      ih (fun t' h' => hr t' (by simp [h'])) h2 (fun x hx => hps x (by simp [hx])), rfl⟩
end
end Go.Eng
/- The engine, part 27: functions that take over a row of plain cells and hand back another one; functions that write into a row and hand back nothing. -/
set_option linter.unusedVariables false
namespace Go.Eng
open Go Go.RowKit

section
variable {N0 : Nat} {W0 : World} {s s' : AS} {β β' : Plc} {a : Act} {w w' : World} {P : Program} {T : Tys}

/-- The arguments (the row under the number 0), the row, the row behind the call. -/
abbrev SpecX := List AV → Obj → Obj → Prop

def isFlat : Obj → Bool
  | .flat _ _ _ => true
  | _ => false

theorem flat_plain {o : Obj} (h : isFlat o = true) : plainO o = true := by cases o <;> first | rfl | cases h
theorem flat_own {o : Obj} (h : isFlat o = true) : o.own = false := by cases o <;> first | rfl | cases h

/-- It takes the row over; what it hands back is a row. -/
def SatX (P : Program) (f : FuncId) (S : SpecX) : Prop :=
  ∀ args o o', S args o o' → ∀ N0 w vals pv vs, N0 ≤ w.heap.size → ObjAt N0 (at0 pv vs) (apart w o pv vs) w pv vs o → (∀ b, blks o.own pv vs b → N0 ≤ b ∧ b < w.heap.size) →
    All2 (AR N0 (at0 pv vs) (apart w o pv vs) w) args vals → Calls P f vals.toArray w fun e w' => ∃ pv', e = .returned pv' ∧ pv'.oneCell' = true ∧ w.grownBy w' (blockOf pv) ∧
      ObjAt N0 (fun _ => none) (fun _ => False) w' pv' [] o' ∧ ∀ b, blockOf pv' = some b → b < w'.heap.size ∧ (w.heap.size ≤ b ∨ blockOf pv = some b)

/-- It writes into the row and hands back nothing. -/
def SatV (P : Program) (f : FuncId) (S : SpecX) : Prop :=
  ∀ args o o', S args o o' → ∀ N0 w vals pv vs, N0 ≤ w.heap.size → ObjAt N0 (at0 pv vs) (apart w o pv vs) w pv vs o → (∀ b, blks o.own pv vs b → N0 ≤ b ∧ b < w.heap.size) →
    All2 (AR N0 (at0 pv vs) (apart w o pv vs) w) args vals → Calls P f vals.toArray w fun e w' => e = .returned (.tuple #[]) ∧ ∃ vs', Wrote N0 w w' o o' pv vs vs'

def effX (id id' : Nat) (o' : Obj) : Eff := { val := .one (.ref id'), sets := [(id', some o'), (id, none)], fresh := [id'], log := [id] }
def effV (id : Nat) (o' : Obj) : Eff := { val := .tup [], sets := [(id, some o')], log := [id] }

theorem run_isCall {o : Oper} {f : FuncId} {fn : Func} {xs : List Operand} {ts : List Nat} (ho : Oper.isCall o f xs ts) (hf : P.funcs[f]? = some fn) (hb : fn.body.isNone = false) (hn : (fn.name == "runtime.NumGoroutine") = false) :
    (execOp a.eval o).run P w = .ok (.enter f (xs.map a.eval).toArray) w := by
  have he : execOp a.eval o = callFunc f (#[] ++ (xs.map a.eval).toArray ++ #[]) := by
    unfold execOp
    rw [show o.op = _ from ho]
    simp only [resolve, Act.eval, Deferred.ofValue, List.map_toArray]
    rfl
  rw [he, run_callFunc hf hb hn]
  simp

theorem EffU_callX (f : FuncId) (fn : Func) (xs : List Operand) (ts : List Nat) (S : SpecX) {o : Oper} (ho : Oper.isCall o f xs ts) (hS : SatX P f S) (hf : P.funcs[f]? = some fn) (hb : fn.body.isNone = false) (hn : (fn.name == "runtime.NumGoroutine") = false)
    (hd : Oper.dstOk o s.n = true) (id id' : Nat) (ob ob' : Obj) (hob : s.obj id = some ob) (args : List AV) (hargs : mAs id (xs.map s.ev) = some args) (hSp : S args ob ob') (hpo : isFlat ob = true) (hpo' : isFlat ob' = true) :
    EffU P o s (effX id id' ob') := by
  intro s2 h1 h2 h3 h4 N0 W0 β a w r K Q hK
  have hops : ∀ x ∈ xs, x ∈ o.op.operands := fun x hx => by
    rw [show o.op = _ from ho]
    simp [Op.operands, Call.operands, hx]
  have hob2 : s2.obj id = some ob := by rw [h3 id (by simp [effX])]; exact hob
  have hid2 : s2.used.contains id' = false := by simpa using h4 id' (by simp [effX])
  obtain ⟨pv, vs, hp, hat, hbl⟩ := r.obj id ob hob2
  have hF : ∀ b, Free s2 β w b → apart w ob pv vs b := fun b hb => ⟨hb.1, fun hh => hb.2 ⟨id, ob, pv, vs, hob2, hp, hh⟩⟩
  have hall := mAs_ok (id := id) hF hp (by rw [← list_evs h2 hops] at hargs; exact hargs) (all2_ev r xs)
  unfold Oper.wp
  rw [run_isCall ho hf hb hn, Oper.upon_enter]
  refine (hS args ob ob' hSp N0 w (xs.map a.eval) pv vs r.size0 (objAt_base (Nat.le_refl _) (flat_plain hpo) hat) hbl hall).mono ?_
  rintro e w' ⟨pv', rfl, h5, hg, hat', hbk⟩
  have r' := r.rewrite (id' := id') (o' := ob') (pv' := pv') (vs' := []) hob2 hp hg hid2 (fun F β' _ _ => objAt_base (Nat.le_refl _) (flat_plain hpo') hat') (fun b hb => by
    rcases hb with hb | ⟨hb, _⟩
    · obtain ⟨h6, h7⟩ := hbk b hb
      exact ⟨h6, h7.imp (fun h => h) .inl⟩
    · rw [flat_own hpo'] at hb; cases hb)
  refine hK (β.set id' (pv', [])) _ w' ?_
  cases hdst : o.dst with
  | none => exact r'
  | some d =>
    have hv : AR N0 (β.set id' (pv', [])) (Free ((s2.kill id).new id' ob') (β.set id' (pv', [])) w') w' (.one (.ref id')) pv' := ⟨[], by simp [Plc.set], h5⟩
    exact r'.put (d := d) (by have := Oper.dstOk_spec hd d hdst; show d < s2.n; rw [h1]; exact this) hv

theorem EffU_callV (f : FuncId) (fn : Func) (xs : List Operand) (ts : List Nat) (S : SpecX) {o : Oper} (ho : Oper.isCall o f xs ts) (hS : SatV P f S) (hf : P.funcs[f]? = some fn) (hb : fn.body.isNone = false) (hn : (fn.name == "runtime.NumGoroutine") = false)
    (hd : Oper.dstOk o s.n = true) (id : Nat) (ob ob' : Obj) (hob : s.obj id = some ob) (args : List AV) (hargs : mAs id (xs.map s.ev) = some args) (hSp : S args ob ob') (hpo : plainO ob = true) (hpo' : plainO ob' = true) :
    EffU P o s (effV id ob') := by
  intro s2 h1 h2 h3 h4 N0 W0 β a w r K Q hK
  have hops : ∀ x ∈ xs, x ∈ o.op.operands := fun x hx => by
    rw [show o.op = _ from ho]
    simp [Op.operands, Call.operands, hx]
  have hob2 : s2.obj id = some ob := by rw [h3 id (by simp [effV])]; exact hob
  obtain ⟨pv, vs, hp, hat, hbl⟩ := r.obj id ob hob2
  have hF : ∀ b, Free s2 β w b → apart w ob pv vs b := fun b hb => ⟨hb.1, fun hh => hb.2 ⟨id, ob, pv, vs, hob2, hp, hh⟩⟩
  have hall := mAs_ok (id := id) hF hp (by rw [← list_evs h2 hops] at hargs; exact hargs) (all2_ev r xs)
  unfold Oper.wp
  rw [run_isCall ho hf hb hn, Oper.upon_enter]
  refine (hS args ob ob' hSp N0 w (xs.map a.eval) pv vs r.size0 (objAt_base (Nat.le_refl _) hpo hat) hbl hall).mono ?_
  rintro e w' ⟨rfl, vs', hw⟩
  have r' := r.turn hob2 hp hw hpo'
  refine hK (β.set id (pv, vs')) _ w' ?_
  cases hdst : o.dst with
  | none => exact r'
  | some d =>
    have hv : AR N0 (β.set id (pv, vs')) (Free (s2.setO id ob') (β.set id (pv, vs')) w') w' (.tup []) (.tuple #[]) := ⟨[], rfl, trivial⟩
    exact r'.put (d := d) (by have := Oper.dstOk_spec hd d hdst; show d < s2.n; rw [h1]; exact this) hv

variable {ops : Array Oper} {o : Oper} {r : List Oper} {k : AS → Prop} {tr : List (Option Eff)} {kl : List (Option Eff) → AS → Prop}
variable {f : FuncId} {fn : Func} {xs : List Operand} {ts : List Nat}

theorem w_fnX {S : SpecX} {args : List AV} (hS : SatX P f S) (ho : Oper.isCall o f xs ts) (hf : P.funcs[f]? = some fn) (hb : fn.body.isNone = false) (hn : (fn.name == "runtime.NumGoroutine") = false)
    {c : Bool} (hg : gsay ops s o = some c) (hc : c = true) (hd : Oper.dstOk o s.n = true) {id : Nat} (hid : refAs (xs.map s.ev) = some id) {ob ob' : Obj} (hob : s.obj id = some ob) (hargs : mAs id (xs.map s.ev) = some args) (hSp : S args ob ob') (hpo : isFlat ob = true) (hpo' : isFlat ob' = true)
    (hfr : freshB s (effX id (8 * o.dst.getD 0) ob') = true) (hs : s.app o.dst (effX id (8 * o.dst.getD 0) ob') = s') (hk : walkN P (reck T) ops r s' k) : walkN P (reck T) ops (o :: r) s k :=
  w_call (hc ▸ hg) (reck_call ho) (EffU_callX f fn xs ts S ho hS hf hb hn hd id _ ob ob' hob args hargs hSp hpo hpo') hfr hs hk
theorem l_fnX {S : SpecX} {args : List AV} (hS : SatX P f S) (ho : Oper.isCall o f xs ts) (hf : P.funcs[f]? = some fn) (hb : fn.body.isNone = false) (hn : (fn.name == "runtime.NumGoroutine") = false)
    {c : Bool} (hg : gsay ops s o = some c) (hc : c = true) (hd : Oper.dstOk o s.n = true) {id : Nat} (hid : refAs (xs.map s.ev) = some id) {ob ob' : Obj} (hob : s.obj id = some ob) (hargs : mAs id (xs.map s.ev) = some args) (hSp : S args ob ob') (hpo : isFlat ob = true) (hpo' : isFlat ob' = true)
    (hfr : freshB s (effX id (8 * o.dst.getD 0) ob') = true) (hs : s.app o.dst (effX id (8 * o.dst.getD 0) ob') = s') (hk : walkL P (reck T) ops r s' (tr ++ [some (effX id (8 * o.dst.getD 0) ob')]) kl) : walkL P (reck T) ops (o :: r) s tr kl :=
  l_call (hc ▸ hg) (reck_call ho) (EffU_callX f fn xs ts S ho hS hf hb hn hd id _ ob ob' hob args hargs hSp hpo hpo') hfr hs hk
theorem w_fnV {S : SpecX} {args : List AV} (hS : SatV P f S) (ho : Oper.isCall o f xs ts) (hf : P.funcs[f]? = some fn) (hb : fn.body.isNone = false) (hn : (fn.name == "runtime.NumGoroutine") = false)
    {c : Bool} (hg : gsay ops s o = some c) (hc : c = true) (hd : Oper.dstOk o s.n = true) {id : Nat} (hid : refAs (xs.map s.ev) = some id) {ob ob' : Obj} (hob : s.obj id = some ob) (hargs : mAs id (xs.map s.ev) = some args) (hSp : S args ob ob') (hpo : plainO ob = true) (hpo' : plainO ob' = true)
    (hs : s.app o.dst (effV id ob') = s') (hk : walkN P (reck T) ops r s' k) : walkN P (reck T) ops (o :: r) s k :=
  w_call (hc ▸ hg) (reck_call ho) (EffU_callV f fn xs ts S ho hS hf hb hn hd id ob ob' hob args hargs hSp hpo hpo') rfl hs hk
end
attribute [go_sem] effX effV
end Go.Eng
/- The engine, part 28: the proof of a function that takes a row over. -/
set_option linter.unusedVariables false
namespace Go.Eng
open Go Go.RowKit

section
variable {N0 : Nat} {W0 : World} {s s' : AS} {β β' : Plc} {a : Act} {w w' : World} {P : Program} {T : Tys}

def retOKX (T : Tys) (r : ResultVar) (o' : Obj) (S : Nat → Prop) (W : World) (e : Exit) (t : AS) : Prop :=
  match e with
  | .ret => t.obj 1 = some (.pin S W) ∧ ((∃ j, resC T t r = .one (.ref j) ∧ t.obj j = some o') ∨ (∃ j n e k xs, resC T t r = .one (.pre j n) ∧ t.obj j = some (.flat e k xs) ∧ o' = .flat e k (xs.take n)))
  | _ => False

theorem satX_of {E : Reck} (hT : TOk P T) (hE : E.Ok P) (hm : P.follows .mixedOrders = true) {f : FuncId} {fn : Func} {c : Code} {r : ResultVar} {n : Nat} {S : SpecX} (K : Nat → List Nat)
    (hf : P.funcs[f]? = some fn) (hb : fn.body = some c) (hrs : fn.results = #[r]) (hn : fn.ntmps = n)
    (h : ∀ args o o', S args o o' → args.length ≤ n ∧ isFlat o = true ∧ isFlat o' = true ∧ ∀ S W pv, awp P E K c (retOKX T r o' S W) (entryM n args o S W pv)) : SatX P f S := by
  intro args o o' hS N0 w vals pv vs hN ho hbl hargs
  obtain ⟨hlen, hfo, hfl, hw⟩ := h args o o' hS
  refine calls_of_wp hf hb ?_
  rw [hn]
  have r0 := rel_entryM (n := n) hN ho hbl hargs hlen
  refine wp_mono (awp_sound hE hm c (hw _ _ _) r0) ?_
  rintro e a' w' ⟨t, β', r', hq⟩
  cases e with
  | ret =>
    obtain ⟨h3, hq⟩ := hq
    obtain ⟨pv2, vs2, p2, at2, _⟩ := r'.obj 1 _ h3
    have hrest : ∀ b, b < w.heap.size → blockOf pv ≠ some b → w'.heap[b]? = w.heap[b]? := fun b hlt hne => by
      refine (at2.2 b ⟨hlt, ?_⟩).2
      rintro (h | ⟨h, _⟩)
      · exact hne h
      · rw [flat_own hfo] at h; cases h
    have hgrown : w.grownBy w' (blockOf pv) := ⟨r'.below.os, r'.below.tape, r'.below.output, r'.below.size, fun k hk hne => hrest k hk (fun e => hne e.symm)⟩
    have hnew : ∀ (j : Nat) (oj : Obj) (pvj : Value) (vsj : List Value) (b : Nat), t.obj j = some oj → β' j = some (pvj, vsj) → blockOf pvj = some b → b < w'.heap.size ∧ (w.heap.size ≤ b ∨ blockOf pv = some b) := by
      intro j oj pvj vsj b hj hpj hb
      obtain ⟨pv0, vs0, p0, _, b0⟩ := r'.obj j _ hj
      rw [hpj] at p0; cases p0
      refine ⟨(b0 b (.inl hb)).2, ?_⟩
      by_cases hlt : w.heap.size ≤ b
      · exact .inl hlt
      · right
        by_cases hbb : blockOf pv = some b
        · exact hbb
        · exfalso
          refine (at2.2 b ⟨by omega, ?_⟩).1.2 ⟨j, oj, _, _, hj, hpj, .inl hb⟩
          rintro (h | ⟨h, _⟩)
          · exact hbb h
          · rw [flat_own hfo] at h; cases h
    rcases hq with ⟨j, h1, h2⟩ | ⟨j, m, e, k, xs, h1, h2, rfl⟩
    · obtain ⟨v, h5, h6⟩ := resC_ok hT r' r (by rw [h1]; intro h; cases h)
      rw [h1] at h6
      obtain ⟨us, hp, hone⟩ := h6
      have hres := results_ok (P := P) (w := w') (fn := fn) (rs := [r]) (tmps := a'.tmps) (vs := [v]) hrs ⟨h5, trivial⟩
      obtain ⟨pv0, vs0, p0, at0', _⟩ := r'.obj j _ h2
      rw [hp] at p0; cases p0
      have hat : ObjAt N0 (fun _ => none) (fun _ => False) w' v [] o' := by
        cases o' <;> first | exact at0' | cases hfl
      refine ⟨r'.defers, v, hres, v, rfl, hone, hgrown, hat, fun b hb => hnew j _ _ _ b h2 hp hb⟩
    · obtain ⟨v, h5, h6⟩ := resC_ok hT r' r (by rw [h1]; intro h; cases h)
      rw [h1] at h6
      obtain ⟨p, mm, cap, us, hp, rfl, hle⟩ := h6
      have hres := results_ok (P := P) (w := w') (fn := fn) (rs := [r]) (tmps := a'.tmps) (vs := [.slice p m cap]) hrs ⟨h5, trivial⟩
      obtain ⟨pv0, vs0, p0, at0', _⟩ := r'.obj j _ h2
      rw [hp] at p0; cases p0
      have hmm : mm = xs.length := by obtain ⟨_, _, he, _⟩ := owns_len at0'.1; cases he; rfl
      have ht := ownsRow_take at0'.1 (n := m) (by omega)
      have hl : (xs.take m).length = m := by simp; omega
      refine ⟨r'.defers, _, hres, _, rfl, rfl, hgrown, ⟨?_, at0'.2.take m⟩, fun b hb => ?_⟩
      · rw [hl, cellsOf_take m at0'.2]; exact ht
      · exact hnew j _ _ _ b h2 hp (by have hb' : blockOf (.slice p m cap) = some b := hb; cases p <;> simpa [blockOf] using hb')
  | normal => exact hq.elim
  | exit id => exact hq.elim
  | goto l => exact hq.elim
  | panic ch => exact hq.elim
  | outgrown => exact hq.elim
end
end Go.Eng
/- The engine, part 29: clear at the tail of a row. -/
set_option linter.unusedVariables false
namespace Go.Eng
open Go Go.RowKit

section
variable {N0 : Nat} {W0 : World} {s s' : AS} {β β' : Plc} {a : Act} {w w' : World} {P : Program} {T : Tys}

theorem owns_setTail {B e k l n : Nat} {b m cap : Nat} {xs zs : List El} {cur : Array Value} (h : w.ownsRow B e k (.slice (some ⟨b, 0, none⟩) m cap) xs.length (cellsOf xs)) (hb : w.heap[b]? = some (.cells cur e (0, 0)))
    (hf : Flat k xs) (hl : l + n = xs.length) (hz : zs.length = n) (hfz : Flat k zs) :
    (w.setRow b (cur.toList.take (l * k) ++ cellsOf zs ++ cur.toList.drop (l * k + (cellsOf zs).length)).toArray).ownsRow B e k (.slice (some ⟨b, 0, none⟩) m cap) (xs.take l ++ zs).length (cellsOf (xs.take l ++ zs)) := by
  have hlen : (xs.take l ++ zs).length = xs.length := by simp; omega
  have hcz : (cellsOf zs).length = n * k := by rw [← hz]; exact flat_len hfz
  have hlk : l * k + n * k = xs.length * k := by rw [← Nat.add_mul, hl]
  refine ⟨flat_len ((hf.take l).append hfz), ?_⟩
  rcases h.2 with ⟨hh, _⟩ | ⟨g, cap', cur', hv, hbg, hg, hc, hm, hs, ht⟩
  · cases hh
  · cases hv
    rw [hb] at hg; cases hg
    have hck : xs.length * k ≤ cap * k := Nat.mul_le_mul_right _ hc
    have hcl : cur.toList.length = cap * k := by simpa using hs
    refine .inr ⟨b, cap, _, ?_, hbg, setRow_heap w b cur _ e _ hb, by rw [hlen]; exact hc, hm, ?_, ?_⟩
    · rw [hlen]
    · simp only [List.size_toArray, List.length_append, List.length_take, List.length_drop, hcl, hcz]
      omega
    · rw [hlen, cellsOf_append, cellsOf_take l hf, ← ht, List.take_take, Nat.min_eq_left (by omega)]
      have e1 : (cur.toList.take (l * k) ++ cellsOf zs).length = xs.length * k := by rw [List.length_append, List.length_take, hcl, hcz, Nat.min_eq_left (by omega)]; omega
      rw [List.take_append, List.take_of_length_le (by rw [e1]; exact Nat.le_refl _), e1, Nat.sub_self, List.take_zero, List.append_nil]

/-- clear(s[l:]) -/
def rClear (T : Tys) (s : AS) (t : Nat) (x : AV) : Option Eff :=
  match T t, x with
  | .sl e, .one (.win id k l n) => match s.obj id with
    | some (.flat e' k' xs) => if k = k' ∧ kOf T e = k ∧ l + n = xs.length then (zeroEl T e).map fun z => { val := .tup [], sets := [(id, some (.flat e' k (xs.take l ++ List.replicate n z)))], log := [id] } else none
    | _ => none
  | _, _ => none

theorem EffU_clear (hT : TOk P T) {o : Oper} {t : Nat} {x : Operand} {e : Eff} (ho : o.op = .call ⟨.builtin .clear, #[x], #[t]⟩) (hd : Oper.dstOk o s.n = true) (h : rClear T s t (s.ev x) = some e) : EffU P o s e := by
  unfold rClear at h
  split at h
  · rename_i el id k l n ht hx
    split at h
    · rename_i e' k' xs hob
      split at h
      · rename_i hc
        obtain ⟨rfl, hk, hln⟩ := hc
        simp only [Option.map_eq_some_iff] at h
        obtain ⟨z, hz, rfl⟩ := h
        intro s2 h1 h2 h3 h4
        have hxx : s2.ev x = s.ev x := slots_ev h2 (by rw [ho]; simp [Op.operands, Call.operands])
        have hob2 : s2.obj id = some (.flat e' k xs) := by rw [h3 id (by simp)]; exact hob
        refine OpOK.turn (by rw [h1]; exact Oper.dstOk_spec hd) fun N0 W0 β a w r => ?_
        have hxv := r.ev x
        rw [hxx, hx] at hxv
        obtain ⟨p, m, cap, vs, hp, hle, p', cap', hev, hcap, hpp⟩ := hxv
        obtain ⟨ov2, vs2, hp2, hat, hbl⟩ := r.obj id _ hob2
        rw [hp] at hp2; cases hp2
        have hu := hT t
        rw [ht] at hu
        obtain ⟨i, zv, bytes, g1, g2, g3, g4, g5, g6, g7, g8, g9⟩ := zeroEl_ok hT hz
        rw [hk] at g7 g8
        have hfz : Flat k (List.replicate n z) := fun y hy => by rw [List.eq_of_mem_replicate hy]; exact g7
        have hrun0 : ∀ v w', (Builtin.clear_ #[t] o.type #[a.eval x]).run P w = .ok v w' → (execOp a.eval o).run P w = .ok (.value v) w' := by
          intro v w' hr
          unfold execOp
          rw [ho]
          simp [resolve, invoke, builtin, hr, Result.andThen]
        have hzl : (List.replicate n z).length = n := by simp
        have hmx : m = xs.length := by obtain ⟨_, _, he, _⟩ := owns_len hat.1; cases he; rfl
        by_cases hn0 : n = 0
        · have hxs : xs.take l ++ List.replicate n z = xs := by subst hn0; simp; rw [List.take_of_length_le (by omega)]
          refine ⟨.tuple #[], w, β.set id (.slice p m cap, vs), .inl (hrun0 _ _ ?_), ?_, ⟨[], rfl, trivial⟩⟩
          · rw [hev, hn0]
            cases p' <;> simp [Builtin.clear_, run_underlying hu.1, Result.andThen]
          · exact r.store (id := id) hob2 hp (w' := w) (World.grownBy.refl w _) (o' := .flat e' k (xs.take l ++ List.replicate n z)) (vs' := vs) (fun F β' _ _ => by rw [hxs]; exact hat) (fun b hb => hb)
        · rcases hpp with hn1 | ⟨b, hpb, hpb'⟩
          · exact absurd hn1 hn0
          subst hpb
          rcases hat.1.2 with ⟨hh, _⟩ | ⟨g, cap2, cur, hg1, hbg, hg, hcc, hm, hs, htk⟩
          · cases hh
          · cases hg1
            have hzc : (Builtin.zeroCells zv.cells n).toList = cellsOf (List.replicate n z) := by
              have hzs : zv.cells.size = k := by
                have := congrArg List.length g6
                simpa [g7] using this
              have e1 : Builtin.zeroCells zv.cells n = madeCells zv.cells (n * k) := by unfold Builtin.zeroCells madeCells; rw [hzs]
              rw [e1, madeCells_rep hzs g8, g6, cellsOf_rep]
            have hcz : (cellsOf (List.replicate n z)).length = n * k := by have := flat_len hfz; rwa [hzl] at this
            have hck : xs.length * k ≤ cap * k := Nat.mul_le_mul_right _ hcc
            have hlk : l * k + n * k = xs.length * k := by rw [← Nat.add_mul, hln]
            have hst := run_storeCells_at P b (l * k) e' (cellsOf (List.replicate n z)) 0 cur w hg (by simp [hs, hcz]; omega) (fun u hu => by obtain ⟨y, _, rfl⟩ := List.mem_map.1 hu; exact y.val_one)
            simp only [Nat.add_zero] at hst
            refine ⟨.tuple #[], w.setRow b (cur.toList.take (l * k) ++ cellsOf (List.replicate n z) ++ cur.toList.drop (l * k + (cellsOf (List.replicate n z)).length)).toArray, β.set id (.slice (some ⟨b, 0, none⟩) xs.length cap, vs), .inl (hrun0 _ _ ?_), ?_, ⟨[], rfl, trivial⟩⟩
            · rw [hev, hpb']
              obtain ⟨n', rfl⟩ : ∃ n', n = n' + 1 := ⟨n - 1, by omega⟩
              have hzv : (zeroValue el).run P w = .ok zv w := by
                simp [zeroValue, typeInfo, g1, g5, Result.andThen]
              simp [Builtin.clear_, run_underlying hu.1, hzv, hzc, hst, Result.andThen]
            · have hgr := grownBy_setRow w b (cur.toList.take (l * k) ++ cellsOf (List.replicate n z) ++ cur.toList.drop (l * k + (cellsOf (List.replicate n z)).length)).toArray
              exact r.store (id := id) hob2 hp hgr (o' := .flat e' k (xs.take l ++ List.replicate n z)) (vs' := vs) (fun F β' _ _ => ⟨owns_setTail hat.1 hg hat.2 hln hzl hfz, (hat.2.take l).append hfz⟩) (fun b hb => hb)
      · cases h
    · cases h
  · cases h

variable {ops : Array Oper} {o : Oper} {r : List Oper} {k : AS → Prop} {tr : List (Option Eff)} {kl : List (Option Eff) → AS → Prop} {t : Nat} {x : Operand} {e : Eff}

theorem reck_clear (ho : o.op = .call ⟨.builtin .clear, #[x], #[t]⟩) : reck T o s = none := by
  have h1 : reckV T s o.op = none := by rw [ho]; rfl
  have h2 : reckW T s o = none := by unfold reckW; rw [ho]
  unfold reck
  rw [h1, h2]
  split <;> rfl

theorem rClear_fresh (h : rClear T s t (s.ev x) = some e) : freshB s e = true := by
  unfold rClear at h
  split at h
  · split at h
    · split at h
      · simp only [Option.map_eq_some_iff] at h
        obtain ⟨z, _, rfl⟩ := h
        rfl
      · cases h
    · cases h
  · cases h

theorem w_clr (hT : TOk P T) (ho : o.op = .call ⟨.builtin .clear, #[x], #[t]⟩) {c : Bool} (hg : gsay ops s o = some c) (hc : c = true) (hd : Oper.dstOk o s.n = true) (h : rClear T s t (s.ev x) = some e)
    (hs : s.app o.dst e = s') (hk : walkN P (reck T) ops r s' k) : walkN P (reck T) ops (o :: r) s k :=
  w_call (hc ▸ hg) (reck_clear ho) (EffU_clear hT ho hd h) (rClear_fresh h) hs hk
end
attribute [go_sem] rClear
end Go.Eng
/- The engine, part 30: calls of function values; the state at a loop's head, made out of the state ahead of it. -/
set_option linter.unusedVariables false
namespace Go.Eng
open Go Go.RowKit

section
variable {N0 : Nat} {W0 : World} {s s' : AS} {β β' : Plc} {a : Act} {w w' : World} {P : Program} {T : Tys}

/-! ### A call of a function value that has captured one variable of plain cells -/

def Oper.isClo (o : Oper) (t : Nat) (xs : List Operand) (ts : List Nat) : Prop := o.op = .call { callee := .value (.tmp t), args := xs.toArray, argTypes := ts.toArray }

theorem Args.app {args bs : List AV} {vals us : List Value} (h : Args w args vals) (h' : Args w bs us) : Args w (args ++ bs) (vals ++ us) := All2.app h h'

theorem EffU_clo (f t id : Nat) (fn : Func) (xs : List Operand) (ts : List Nat) (S : Spec) {o : Oper} (ho : Oper.isClo o t xs ts) (hS : Sat P f S) (hf : P.funcs[f]? = some fn) (hb : fn.body.isNone = false) (hn : (fn.name == "runtime.NumGoroutine") = false)
    (hd : Oper.dstOk o s.n = true) (hclo : s.get t = .one (.clo f id)) {e : Nat} {cs : List CV} {ss : List Sc} (hbox : s.obj id = some (.box e cs)) (hss : scsOf cs = some ss)
    (base : Nat) (args : List AV) (log : List Nat) (hsn : snapAs T s ts (xs.map s.ev) = some (args, log)) (av : AV) (objs : List Obj) (hSp : S (args ++ [.one (.iptr ss)]) av objs) (hpl : plainT av = true) (hpo : objs.all plainO = true) :
    EffU P o s (callE base av objs (id :: log)) := by
  intro s2 h1 h2 h3 h4 N0 W0 β a w r K Q hK
  have hops : ∀ x ∈ xs, x ∈ o.op.operands := fun x hx => by
    rw [show o.op = _ from ho]
    simp [Op.operands, Call.operands, hx]
  have htop : Operand.tmp t ∈ o.op.operands := by
    rw [show o.op = _ from ho]
    simp [Op.operands, Call.operands]
  have hclo2 : s2.ev (.tmp t) = .one (.clo f id) := (slots_ev h2 htop).trans hclo
  have hbox2 : s2.obj id = some (.box e cs) := by rw [h3 id (by simp [callE])]; exact hbox
  have hsn2 : snapAs T s2 ts (xs.map s2.ev) = some (args, log) := by
    rw [list_evs h2 hops]
    exact snapAs_congr hsn (fun i hi => h3 i (by simp [callE, hi]))
  have hargs := snapAs_ok r hsn2 (all2_ev r xs)
  have hv := r.ev (.tmp t)
  rw [hclo2] at hv
  obtain ⟨pv, vs, b, hp, hpv, hval⟩ := hv
  obtain ⟨pv2, vs2, hp2, hat, hbk⟩ := r.obj id _ hbox2
  rw [hp] at hp2; cases hp2
  obtain ⟨b2, arr, g1, g2, g3, g4⟩ := hat
  have hb2 : b2 = b := by rw [hpv] at g1; cases g1; rfl
  subst hb2
  have hlt : b2 < w.heap.size := (hbk b2 (.inl (by rw [g1]; rfl))).2
  have hcells := scsOf_ok hss g4
  have hptr : Args w [.one (.iptr ss)] [.pointer (some ⟨b2, 0, none⟩)] := by
    refine ⟨⟨b2, 0, rfl, hlt, fun j x hx => ?_⟩, trivial⟩
    rw [Nat.zero_add, cell_of_row w b2 j arr e (0, 0) g3]
    have : arr.toList[j]? = some x.val := by rw [hcells]; simp [hx]
    simpa using this
  have hrun : (execOp a.eval o).run P w = .ok (.enter f (xs.map a.eval ++ [Value.pointer (some ⟨b2, 0, none⟩)]).toArray) w := by
    have he : execOp a.eval o = callFunc f (#[] ++ (xs.map a.eval).toArray ++ #[Value.pointer (some ⟨b2, 0, none⟩)]) := by
      unfold execOp
      rw [show o.op = _ from ho]
      simp only [resolve, hval, Deferred.ofValue, List.map_toArray]
      rfl
    rw [he, run_callFunc hf hb hn]
    simp
  unfold Oper.wp
  rw [hrun, Oper.upon_enter]
  refine (hS _ av objs hSp w (xs.map a.eval ++ [Value.pointer (some ⟨b2, 0, none⟩)]) (Args.app hargs hptr)).mono ?_
  rintro e w' ⟨v, rfl, hbel, ps, hl, hv, hat, hdj⟩
  obtain ⟨r', hext, hnew, hkeep⟩ := r.allocL (base := base) (objs := objs) (ps := ps) hbel hl (fun i hi => h4 i hi) (fun j o' p hj hp => by
    obtain ⟨h5, h6⟩ := hat j o' p hj hp
    have hpo' : plainO o' = true := List.all_eq_true.1 hpo o' (List.mem_of_getElem? hj)
    exact ⟨fun β' F _ _ _ => objAt_base r.size0 hpo' h5, h6⟩) hdj
  have hav : AR N0 (β.add base ps) (Free { s2 with H := objH base objs ++ s2.H, used := idsFrom base objs.length ++ s2.used } (β.add base ps) w') w' (shT base av) v := shT_ok hnew hpl hv
  cases hdst : o.dst with
  | none => exact hK (β.add base ps) a w' (by rw [hdst]; exact r')
  | some d =>
    refine hK (β.add base ps) _ w' ?_
    rw [hdst]
    exact r'.put (d := d) (by have := Oper.dstOk_spec hd d hdst; rw [show s2.n = s.n from h1]; exact this) hav

variable {ops : Array Oper} {o : Oper} {r : List Oper} {k : AS → Prop} {tr : List (Option Eff)} {kl : List (Option Eff) → AS → Prop}

theorem reck_clo {t : Nat} {xs : List Operand} {ts : List Nat} (ho : Oper.isClo o t xs ts) : reck T o s = none := by
  have h1 : reckV T s o.op = none := by rw [show o.op = _ from ho]; rfl
  have h2 : reckW T s o = none := by unfold reckW; rw [show o.op = _ from ho]
  unfold reck
  rw [h1, h2]
  split <;> rfl

/-! ### The state at a loop's head -/

/-- What is changed at a loop's head: an object of a slot; a cell of a slot's variable; the first row that a slot's variable (or a slot's struct) holds. -/
inductive Ov where
  | obj (k : Nat) (o : Obj)
  | cell (k j : Nat) (c : CV)
  | inner (k : Nat) (o : Obj)

def getO : List (Nat × AV) → Nat → AV → AV
  | [], _, d => d
  | (j, v) :: r, k, d => if j = k then v else getO r k d

def ovE (u : List (Nat × AV)) : List (Nat × AV) → List (Nat × AV)
  | [] => []
  | (k, v) :: r => (k, getO u k v) :: ovE u r

def idsC : CV → List Nat
  | .ref i => [i]
  | .ptr i _ _ _ => [i]
  | .pre i _ => [i]
  | .win i _ _ _ => [i]
  | .clo _ i => [i]
  | _ => []
def idsL : List CV → List Nat
  | [] => []
  | c :: r => idsC c ++ idsL r
def idsA : AV → List Nat
  | .one c => idsC c
  | .agg cs => idsL cs
  | _ => []
def idsO : Option Obj → List Nat
  | some (.box _ cs) => idsL cs
  | some (.cvs _ cs) => idsL cs
  | _ => []
def addI : List Nat → List Nat → List Nat
  | acc, [] => acc
  | acc, i :: r => addI (if acc.contains i then acc else acc ++ [i]) r
def idsE : List Nat → List (Nat × AV) → List Nat
  | acc, [] => acc
  | acc, (_, v) :: r => idsE (addI acc (idsA v)) r
def idsP : List (Nat × Option Obj) → List Nat
  | [] => []
  | (i, o) :: r => match o with
    | some (.pin _ _) => addI [i] (idsP r)
    | some (.res _ _) => addI [i] (idsP r)
    | some (.stay j _) => addI [i, j] (idsP r)
    | _ => idsP r
def idsR (H : Nat → Option Obj) : List Nat → List Nat → List Nat
  | acc, [] => acc
  | acc, i :: r => idsR H (addI acc (idsO (H i))) r

def headI : List Nat → Nat
  | [] => 999999
  | i :: _ => i

def setH (H : List (Nat × Option Obj)) (i : Nat) (o : Option Obj) : List (Nat × Option Obj) := (i, o) :: H

def cellO (o : Option Obj) (j : Nat) (c : CV) : Option Obj :=
  match o with
  | some (.box e cs) => some (.box e (cs.set j c))
  | o => o

def innerI (H : List (Nat × Option Obj)) (v : AV) : Nat :=
  match v with
  | .agg cs => headI (idsL cs)
  | .one c => headI (idsO (lookO H (headI (idsC c))))
  | _ => 999999

def ovH (env : List (Nat × AV)) : List Ov → List (Nat × Option Obj) → List (Nat × Option Obj)
  | [], H => H
  | .obj k o :: r, H => ovH env r (setH H (headI (idsA (look env k))) (some o))
  | .cell k j c :: r, H => ovH env r (setH H (headI (idsA (look env k))) (cellO (lookO H (headI (idsA (look env k)))) j c))
  | .inner k o :: r, H => ovH env r (setH H (innerI H (look env k)) (some o))

def mapH (H : List (Nat × Option Obj)) : List Nat → List (Nat × Option Obj)
  | [] => []
  | i :: r => (i, lookO H i) :: mapH H r

/-- The state with some slots and objects changed, and nothing kept that no slot leads to. -/
def overS (s : AS) (u : List (Nat × AV)) (os : List Ov) : AS :=
  let env := ovE u s.env
  let H := ovH env os s.H
  let l1 := idsE (idsP s.H) env
  let l2 := idsR (lookO H) l1 l1
  let l3 := idsR (lookO H) l2 l2
  { n := s.n, env := env, H := mapH H l3, used := l3 }

def getS : List (Nat × Src) → Nat → Src
  | [], _ => .nil
  | (j, v) :: r, k => if j = k then v else getS r k

/-- Which objects of the old state those of the new one are. -/
def mpC (c c' : CV) (m : List (Nat × Src)) : List (Nat × Src) :=
  match c' with
  | .ref i' => match c with
    | .ref i => (i', .obj i) :: m
    | .pre i n => (i', .cut i n) :: m
    | .nil => (i', .nil) :: m
    | _ => m
  | .ptr i' _ _ _ => match c with
    | .ptr i _ _ _ => (i', .obj i) :: m
    | _ => m
  | .pre i' _ => match c with
    | .pre i _ => (i', .obj i) :: m
    | _ => m
  | .win i' _ _ _ => match c with
    | .win i _ _ _ => (i', .obj i) :: m
    | _ => m
  | .clo _ i' => match c with
    | .clo _ i => (i', .obj i) :: m
    | _ => m
  | _ => m
def mpL : List CV → List CV → List (Nat × Src) → List (Nat × Src)
  | [], _, m => m
  | c :: r, l, m => match l with
    | [] => m
    | c' :: r' => mpC c c' (mpL r r' m)
def mpA (v v' : AV) (m : List (Nat × Src)) : List (Nat × Src) :=
  match v' with
  | .one c' => match v with
    | .one c => mpC c c' m
    | _ => m
  | .agg cs' => match v with
    | .agg cs => mpL cs cs' m
    | _ => m
  | _ => m
def mpE (t : AS) : List (Nat × AV) → List (Nat × Src) → List (Nat × Src)
  | [], m => m
  | (k, v') :: r, m => mpA (look t.env k) v' (mpE t r m)
def mpO (t : AS) (m : List (Nat × Src)) : List (Nat × Option Obj) → List (Nat × Src)
  | [] => m
  | (i, o') :: r => match o' with
    | some (.box _ cs') => match lookS m i with
      | some (.obj j) => match lookO t.H j with
        | some (.box _ cs) => mpL cs cs' (mpO t m r)
        | _ => mpO t m r
      | _ => mpO t m r
    | some (.cvs _ cs') => match lookS m i with
      | some (.obj j) => match lookO t.H j with
        | some (.cvs _ cs) => mpL cs cs' (mpO t m r)
        | _ => mpO t m r
      | _ => mpO t m r
    | some (.pin _ _) => (i, .obj i) :: mpO t m r
    | some (.res _ _) => (i, .obj i) :: mpO t m r
    | some (.stay j _) => (i, .obj i) :: (j, .obj j) :: mpO t m r
    | _ => mpO t m r
def mapU (m : List (Nat × Src)) : List Nat → List (Nat × Src)
  | [] => []
  | i :: r => (i, getS m i) :: mapU m r
def mkMap (t s' : AS) : List (Nat × Src) :=
  let m0 := mpE t s'.env []
  let m1 := mpO t m0 s'.H
  let m2 := mpO t m1 s'.H
  mapU m2 s'.used

theorem mapU_fst (m : List (Nat × Src)) : ∀ l : List Nat, (mapU m l).map (·.1) = l
  | [] => rfl
  | i :: r => by simp [mapU, mapU_fst m r]

/-- A weaker state, the numbers of its objects found out. -/
theorem weak_map {s s' : AS} {m : List (Nat × Src)} (hm : mkMap s s' = m) (hn : s'.n = s.n) (hd : distinctB m = true)
    (henv : ∀ p ∈ s'.env, AVm m (s.get p.1) p.2)
    (hobj : ∀ p ∈ s'.H, match p.2 with | none => True | some o' => ∃ src, lookS m p.1 = some src ∧ OBm m s src o') : Weak s s' := by
  refine weak_of m hn hd henv hobj ?_
  rw [← hm]
  exact (mapU_fst _ _).symm
end

attribute [go_sem] overS ovE getO idsC idsL idsA idsO addI idsE idsP idsR headI setH cellO innerI ovH mapH getS mpC mpL mpA mpE mpO mapU mkMap
end Go.Eng
/- The engine, part 31: the steps of a walk with what each asks filled in. -/
set_option linter.unusedVariables false
namespace Go.Eng
open Go Go.RowKit

section
variable {s s' : AS} {P : Program} {T : Tys} {E : Reck} {K : Nat → List Nat} {Q : Exit → AS → Prop}
variable {ops : Array Oper} {o : Oper} {r : List Oper} {k : AS → Prop} {tr : List (Option Eff)} {kl : List (Option Eff) → AS → Prop} {e : Eff} {l : List Nat} {os : List Oper}

theorem z_op (hg : o.guard = none := by rfl) (h : stp T o s = some s' := by simp (disch := first | omega | (simp; omega)) [go_sem, -Option.map_eq_some_iff]; rfl) (k0 : walkN P (reck T) ops r s' k) : walkN P (reck T) ops (o :: r) s k := w_op hg h k0
theorem z_opl (hg : gsay ops s o = some true := by rfl) (h : stl T o s = some (e, s') := by simp (disch := first | omega | (simp; omega)) [go_sem, -Option.map_eq_some_iff]; exact ⟨rfl, rfl⟩) (k0 : walkL P (reck T) ops r s' (tr ++ [some e]) kl) : walkL P (reck T) ops (o :: r) s tr kl := l_op hg h k0
theorem z_end (hk : s.keep l = s' := by simp [go_sem]; rfl) (h : Q .normal s') : walkN P E ops [] s (kReg l Q) := w_end hk h
theorem z_endl (ht : traceOk os.toArray (Region.before os.toArray).toList (zipE os tr) = true := by kernel_rfl) (hk : s.keep l = s' := by simp [go_sem]; rfl) (h : Q .normal s') : walkL P E ops [] s tr (kDrw l os Q) := l_end ht hk h
theorem z_yes (hg : gsay ops s o = some true) (h : stp T o s = some s' := by simp (disch := first | omega | (simp; omega)) [go_sem, -Option.map_eq_some_iff]; rfl) (k0 : walkN P (reck T) ops r s' k) : walkN P (reck T) ops (o :: r) s k := w_yes hg h k0
theorem z_no (hg : gsay ops s o = some false) (hd : Oper.dstOk o s.n = true := by rfl) (hs : s.app o.dst skipE = s' := by simp [go_sem, skipE]; rfl) (k0 : walkN P E ops r s' k) : walkN P E ops (o :: r) s k := w_no hg hd hs k0
theorem z_op2 (hg : o.guard = none := by rfl) (h : stp T o s = some s' := by simp (disch := first | omega | (simp; omega)) [go_sem, -Option.map_eq_some_iff, *]; rfl) (k0 : walkN P (reck T) ops r s' k) : walkN P (reck T) ops (o :: r) s k := w_op hg h k0
theorem z_yes2 (hg : gsay ops s o = some true) (h : stp T o s = some s' := by simp (disch := first | omega | (simp; omega)) [go_sem, -Option.map_eq_some_iff, *]; rfl) (k0 : walkN P (reck T) ops r s' k) : walkN P (reck T) ops (o :: r) s k := w_yes hg h k0
theorem z_yesl (hg : gsay ops s o = some true) (h : stl T o s = some (e, s') := by simp (disch := first | omega | (simp; omega)) [go_sem, -Option.map_eq_some_iff, *]; exact ⟨rfl, rfl⟩) (k0 : walkL P (reck T) ops r s' (tr ++ [some e]) kl) : walkL P (reck T) ops (o :: r) s tr kl := l_op hg h k0
theorem z_nol (hg : gsay ops s o = some false) (hd : Oper.dstOk o s.n = true := by rfl) (hs : s.app o.dst skipE = s' := by simp [go_sem, skipE]; rfl) (k0 : walkL P E ops r s' (tr ++ [none]) kl) : walkL P E ops (o :: r) s tr kl := l_no hg hd hs k0

/-- An operation without a guard; with one. -/
theorem z_plain (hg : o.guard = none := by rfl) (k0 : walkN P E ops (o :: r) s k) : walkN P E ops (o :: r) s k := k0
theorem z_plainl (hg : o.guard = none := by rfl) (k0 : walkL P E ops (o :: r) s tr kl) : walkL P E ops (o :: r) s tr kl := k0
def isCallB (o : Oper) : Bool := match o.op with
  | .call ⟨.value _, _, _⟩ => true
  | _ => false
theorem z_isc (h : isCallB o = true := by rfl) (k0 : walkN P E ops (o :: r) s k) : walkN P E ops (o :: r) s k := k0
theorem z_iscl (h : isCallB o = true := by rfl) (k0 : walkL P E ops (o :: r) s tr kl) : walkL P E ops (o :: r) s tr kl := k0

@[irreducible] def GV (ops : Array Oper) (s : AS) (o : Oper) (v want : Bool) : Prop := ∃ j, o.guard = some (j, want) ∧ guardAV ops s j = .one (.sc (.bool v))
theorem gv_say {v want : Bool} (h : GV ops s o v want) : gsay ops s o = some (v == want) := by
  unfold GV at h
  obtain ⟨j, h1, h2⟩ := h
  simp only [gsay, h1, h2]
theorem gv_tt (h : GV ops s o true true) : gsay ops s o = some true := gv_say h
theorem gv_ff (h : GV ops s o false false) : gsay ops s o = some true := gv_say h
theorem gv_tf (h : GV ops s o true false) : gsay ops s o = some false := gv_say h
theorem gv_ft (h : GV ops s o false true) : gsay ops s o = some false := gv_say h
theorem z_guard {j : Nat} {want v : Bool} (hp : o.guard = some (j, want) := by rfl) (h : guardAV ops s j = .one (.sc (.bool v)) := by simp [go_sem, *, -Bool.not_eq_eq_eq_not]; rfl) (k0 : GV ops s o v want → walkN P E ops (o :: r) s k) : walkN P E ops (o :: r) s k := k0 (by unfold GV; exact ⟨j, hp, h⟩)
theorem z_guardl {j : Nat} {want v : Bool} (hp : o.guard = some (j, want) := by rfl) (h : guardAV ops s j = .one (.sc (.bool v)) := by simp [go_sem, *, -Bool.not_eq_eq_eq_not]; rfl) (k0 : GV ops s o v want → walkL P E ops (o :: r) s tr kl) : walkL P E ops (o :: r) s tr kl := k0 (by unfold GV; exact ⟨j, hp, h⟩)
theorem z_spl {v want : Bool} {A B : Prop} (h : GV ops s o v want) (hA : (v = true) = A := by (try simp only [Bool.not_eq_true', Bool.not_eq_false', Bool.and_eq_true, Bool.and_eq_false_imp, Bool.or_eq_true, Bool.or_eq_false_iff, Bool.not_eq_true, Bool.not_eq_false, decide_eq_true_eq, decide_eq_false_iff_not, Int.not_lt, Int.not_le, ge_iff_le, gt_iff_lt, decide_true, decide_false, Bool.false_eq_true, reduceCtorEq, beq_iff_eq, beq_eq_false_iff_ne, ne_eq, bne_iff_ne, bne_eq_false_iff_eq, and_true, true_and, and_false, false_and]); rfl) (hB : (v = false) = B := by (try simp only [Bool.not_eq_true', Bool.not_eq_false', Bool.and_eq_true, Bool.and_eq_false_imp, Bool.or_eq_true, Bool.or_eq_false_iff, Bool.not_eq_true, Bool.not_eq_false, decide_eq_true_eq, decide_eq_false_iff_not, Int.not_lt, Int.not_le, ge_iff_le, gt_iff_lt, decide_true, decide_false, Bool.false_eq_true, reduceCtorEq, beq_iff_eq, beq_eq_false_iff_ne, ne_eq, bne_iff_ne, bne_eq_false_iff_eq, and_true, true_and, and_false, false_and]); rfl)
    (h1 : A → v = true → walkN P E ops (o :: r) s k) (h2 : B → v = false → walkN P E ops (o :: r) s k) : walkN P E ops (o :: r) s k := by
  subst hA; subst hB
  cases v
  · exact h2 rfl rfl
  · exact h1 rfl rfl
theorem z_spll {v want : Bool} {A B : Prop} (h : GV ops s o v want) (hA : (v = true) = A := by (try simp only [Bool.not_eq_true', Bool.not_eq_false', Bool.and_eq_true, Bool.and_eq_false_imp, Bool.or_eq_true, Bool.or_eq_false_iff, Bool.not_eq_true, Bool.not_eq_false, decide_eq_true_eq, decide_eq_false_iff_not, Int.not_lt, Int.not_le, ge_iff_le, gt_iff_lt, decide_true, decide_false, Bool.false_eq_true, reduceCtorEq, beq_iff_eq, beq_eq_false_iff_ne, ne_eq, bne_iff_ne, bne_eq_false_iff_eq, and_true, true_and, and_false, false_and]); rfl) (hB : (v = false) = B := by (try simp only [Bool.not_eq_true', Bool.not_eq_false', Bool.and_eq_true, Bool.and_eq_false_imp, Bool.or_eq_true, Bool.or_eq_false_iff, Bool.not_eq_true, Bool.not_eq_false, decide_eq_true_eq, decide_eq_false_iff_not, Int.not_lt, Int.not_le, ge_iff_le, gt_iff_lt, decide_true, decide_false, Bool.false_eq_true, reduceCtorEq, beq_iff_eq, beq_eq_false_iff_ne, ne_eq, bne_iff_ne, bne_eq_false_iff_eq, and_true, true_and, and_false, false_and]); rfl)
    (h1 : A → v = true → walkL P E ops (o :: r) s tr kl) (h2 : B → v = false → walkL P E ops (o :: r) s tr kl) : walkL P E ops (o :: r) s tr kl := by
  subst hA; subst hB
  cases v
  · exact h2 rfl rfl
  · exact h1 rfl rfl
theorem z_cond {c : Operand} {x y : Code} {v : Bool} {A B : Prop} (h : s.ev c = .one (.sc (.bool v)) := by simp [go_sem, *, -Bool.not_eq_eq_eq_not]; rfl)
    (hA : (v = true) = A := by (try simp only [Bool.not_eq_true', Bool.not_eq_false', Bool.and_eq_true, Bool.and_eq_false_imp, Bool.or_eq_true, Bool.or_eq_false_iff, Bool.not_eq_true, Bool.not_eq_false, decide_eq_true_eq, decide_eq_false_iff_not, Int.not_lt, Int.not_le, ge_iff_le, gt_iff_lt, decide_true, decide_false, Bool.false_eq_true, reduceCtorEq, beq_iff_eq, beq_eq_false_iff_ne, ne_eq, bne_iff_ne, bne_eq_false_iff_eq, and_true, true_and, and_false, false_and]); rfl)
    (hB : (v = false) = B := by (try simp only [Bool.not_eq_true', Bool.not_eq_false', Bool.and_eq_true, Bool.and_eq_false_imp, Bool.or_eq_true, Bool.or_eq_false_iff, Bool.not_eq_true, Bool.not_eq_false, decide_eq_true_eq, decide_eq_false_iff_not, Int.not_lt, Int.not_le, ge_iff_le, gt_iff_lt, decide_true, decide_false, Bool.false_eq_true, reduceCtorEq, beq_iff_eq, beq_eq_false_iff_ne, ne_eq, bne_iff_ne, bne_eq_false_iff_eq, and_true, true_and, and_false, false_and]); rfl)
    (h1 : A → v = true → awp P E K x Q s) (h2 : B → v = false → awp P E K y Q s) : awp P E K (.cond c x y) Q s := by
  subst hA; subst hB
  exact a_cond h (fun h => h1 h h) (fun h => h2 h h)

/-! ### Calls -/

section
variable {f : FuncId} {fn : Func} {xs : List Operand} {ts : List Nat} {S : Spec} {args : List AV} {log : List Nat} {av : AV} {objs : List Obj}

theorem z_fn (hS : Sat P f S) (hf : P.funcs[f]? = some fn) (ho : Oper.isCall o f xs ts := by rfl) (hb : fn.body.isNone = false := by rfl) (hn : (fn.name == "runtime.NumGoroutine") = false := by rfl)
    (hg : gsay ops s o = some true := by first | rfl | assumption) (hd : Oper.dstOk o s.n = true := by rfl) (hsn : snapAs T s ts (xs.map s.ev) = some (args, log) := by simp [go_sem]; exact ⟨rfl, rfl⟩) (hSp : S args av objs) (hpl : plainT av = true := by rfl) (hpo : objs.all plainO = true := by rfl)
    (hfr : freshB s (callE (8 * o.dst.getD 0) av objs log) = true := by rfl) (hs : s.app o.dst (callE (8 * o.dst.getD 0) av objs log) = s' := by simp [go_sem]; rfl) (k0 : walkN P (reck T) ops r s' k) : walkN P (reck T) ops (o :: r) s k :=
  w_fn hS ho hf hb hn hg rfl hd hsn hSp hpl hpo hfr hs k0
theorem z_fnl (hS : Sat P f S) (hf : P.funcs[f]? = some fn) (ho : Oper.isCall o f xs ts := by rfl) (hb : fn.body.isNone = false := by rfl) (hn : (fn.name == "runtime.NumGoroutine") = false := by rfl)
    (hg : gsay ops s o = some true := by first | rfl | assumption) (hd : Oper.dstOk o s.n = true := by rfl) (hsn : snapAs T s ts (xs.map s.ev) = some (args, log) := by simp [go_sem]; exact ⟨rfl, rfl⟩) (hSp : S args av objs) (hpl : plainT av = true := by rfl) (hpo : objs.all plainO = true := by rfl)
    (hfr : freshB s (callE (8 * o.dst.getD 0) av objs log) = true := by rfl) (hs : s.app o.dst (callE (8 * o.dst.getD 0) av objs log) = s' := by simp [go_sem]; rfl) (k0 : walkL P (reck T) ops r s' (tr ++ [some (callE (8 * o.dst.getD 0) av objs log)]) kl) : walkL P (reck T) ops (o :: r) s tr kl :=
  l_fn hS ho hf hb hn hg rfl hd hsn hSp hpl hpo hfr hs k0

theorem z_clo {t id e1 : Nat} {cs : List CV} {ss : List Sc} (hS : Sat P f S) (hf : P.funcs[f]? = some fn) (ho : Oper.isClo o t xs ts := by rfl) (hb : fn.body.isNone = false := by rfl) (hn : (fn.name == "runtime.NumGoroutine") = false := by rfl)
    (hg : gsay ops s o = some true := by first | rfl | assumption) (hd : Oper.dstOk o s.n = true := by rfl) (hclo : s.get t = .one (.clo f id) := by rfl) (hbox : s.obj id = some (.box e1 cs) := by rfl) (hss : scsOf cs = some ss := by rfl) (hsn : snapAs T s ts (xs.map s.ev) = some (args, log) := by simp [go_sem]; exact ⟨rfl, rfl⟩) (hSp : S (args ++ [.one (.iptr ss)]) av objs) (hpl : plainT av = true := by rfl) (hpo : objs.all plainO = true := by rfl)
    (hfr : freshB s (callE (8 * o.dst.getD 0) av objs (id :: log)) = true := by rfl) (hs : s.app o.dst (callE (8 * o.dst.getD 0) av objs (id :: log)) = s' := by simp [go_sem]; rfl) (k0 : walkN P (reck T) ops r s' k) : walkN P (reck T) ops (o :: r) s k :=
  w_call hg (reck_clo ho) (EffU_clo f t id fn xs ts S ho hS hf hb hn hd hclo hbox hss _ args log hsn av objs hSp hpl hpo) hfr hs k0
theorem z_clol {t id e1 : Nat} {cs : List CV} {ss : List Sc} (hS : Sat P f S) (hf : P.funcs[f]? = some fn) (ho : Oper.isClo o t xs ts := by rfl) (hb : fn.body.isNone = false := by rfl) (hn : (fn.name == "runtime.NumGoroutine") = false := by rfl)
    (hg : gsay ops s o = some true := by first | rfl | assumption) (hd : Oper.dstOk o s.n = true := by rfl) (hclo : s.get t = .one (.clo f id) := by rfl) (hbox : s.obj id = some (.box e1 cs) := by rfl) (hss : scsOf cs = some ss := by rfl) (hsn : snapAs T s ts (xs.map s.ev) = some (args, log) := by simp [go_sem]; exact ⟨rfl, rfl⟩) (hSp : S (args ++ [.one (.iptr ss)]) av objs) (hpl : plainT av = true := by rfl) (hpo : objs.all plainO = true := by rfl)
    (hfr : freshB s (callE (8 * o.dst.getD 0) av objs (id :: log)) = true := by rfl) (hs : s.app o.dst (callE (8 * o.dst.getD 0) av objs (id :: log)) = s' := by simp [go_sem]; rfl) (k0 : walkL P (reck T) ops r s' (tr ++ [some (callE (8 * o.dst.getD 0) av objs (id :: log))]) kl) : walkL P (reck T) ops (o :: r) s tr kl :=
  l_call hg (reck_clo ho) (EffU_clo f t id fn xs ts S ho hS hf hb hn hd hclo hbox hss _ args log hsn av objs hSp hpl hpo) hfr hs k0
end

section
variable {f : FuncId} {fn : Func} {xs : List Operand} {ts : List Nat} {args : List AV} {id : Nat} {ob ob' : Obj}

theorem z_fnR {S : SpecM} {x : Sc} (hS : SatM P f S) (hf : P.funcs[f]? = some fn) (ho : Oper.isCall o f xs ts := by rfl) (hb : fn.body.isNone = false := by rfl) (hn : (fn.name == "runtime.NumGoroutine") = false := by rfl)
    (hg : gsay ops s o = some true := by first | rfl | assumption) (hd : Oper.dstOk o s.n = true := by rfl) (hid : refAs (xs.map s.ev) = some id := by simp [go_sem]; rfl) (hob : s.obj id = some ob := by simp [go_sem]; rfl) (hargs : mAs id (xs.map s.ev) = some args := by simp [go_sem]; rfl) (hSp : S args ob x ob') (hpo : plainO ob = true := by rfl) (hpo' : plainO ob' = true := by rfl)
    (hs : s.app o.dst { val := .one (.sc x), sets := [(id, some ob')], log := [id] } = s' := by simp [go_sem]; rfl) (k0 : walkN P (reck T) ops r s' k) : walkN P (reck T) ops (o :: r) s k :=
  w_fnR hS ho hf hb hn hg rfl hd hid hob hargs hSp hpo hpo' hs k0
theorem z_fnRl {S : SpecM} {x : Sc} (hS : SatM P f S) (hf : P.funcs[f]? = some fn) (ho : Oper.isCall o f xs ts := by rfl) (hb : fn.body.isNone = false := by rfl) (hn : (fn.name == "runtime.NumGoroutine") = false := by rfl)
    (hg : gsay ops s o = some true := by first | rfl | assumption) (hd : Oper.dstOk o s.n = true := by rfl) (hid : refAs (xs.map s.ev) = some id := by simp [go_sem]; rfl) (hob : s.obj id = some ob := by simp [go_sem]; rfl) (hargs : mAs id (xs.map s.ev) = some args := by simp [go_sem]; rfl) (hSp : S args ob x ob') (hpo : plainO ob = true := by rfl) (hpo' : plainO ob' = true := by rfl)
    (hs : s.app o.dst { val := .one (.sc x), sets := [(id, some ob')], log := [id] } = s' := by simp [go_sem]; rfl) (k0 : walkL P (reck T) ops r s' (tr ++ [some { val := .one (.sc x), sets := [(id, some ob')], log := [id] }]) kl) : walkL P (reck T) ops (o :: r) s tr kl :=
  l_fnR hS ho hf hb hn hg rfl hd hid hob hargs hSp hpo hpo' hs k0
theorem z_fnX {S : SpecX} (hS : SatX P f S) (hf : P.funcs[f]? = some fn) (ho : Oper.isCall o f xs ts := by rfl) (hb : fn.body.isNone = false := by rfl) (hn : (fn.name == "runtime.NumGoroutine") = false := by rfl)
    (hg : gsay ops s o = some true := by first | rfl | assumption) (hd : Oper.dstOk o s.n = true := by rfl) (hid : refAs (xs.map s.ev) = some id := by simp [go_sem]; rfl) (hob : s.obj id = some ob := by simp [go_sem]; rfl) (hargs : mAs id (xs.map s.ev) = some args := by simp [go_sem]; rfl) (hSp : S args ob ob') (hpo : isFlat ob = true := by rfl) (hpo' : isFlat ob' = true := by rfl)
    (hfr : freshB s (effX id (8 * o.dst.getD 0) ob') = true := by rfl) (hs : s.app o.dst (effX id (8 * o.dst.getD 0) ob') = s' := by simp [go_sem]; rfl) (k0 : walkN P (reck T) ops r s' k) : walkN P (reck T) ops (o :: r) s k :=
  w_fnX hS ho hf hb hn hg rfl hd hid hob hargs hSp hpo hpo' hfr hs k0
theorem z_fnV {S : SpecX} (hS : SatV P f S) (hf : P.funcs[f]? = some fn) (ho : Oper.isCall o f xs ts := by rfl) (hb : fn.body.isNone = false := by rfl) (hn : (fn.name == "runtime.NumGoroutine") = false := by rfl)
    (hg : gsay ops s o = some true := by first | rfl | assumption) (hd : Oper.dstOk o s.n = true := by rfl) (hid : refAs (xs.map s.ev) = some id := by simp [go_sem]; rfl) (hob : s.obj id = some ob := by simp [go_sem]; rfl) (hargs : mAs id (xs.map s.ev) = some args := by simp [go_sem]; rfl) (hSp : S args ob ob') (hpo : plainO ob = true := by rfl) (hpo' : plainO ob' = true := by rfl)
    (hs : s.app o.dst (effV id ob') = s' := by simp [go_sem]; rfl) (k0 : walkN P (reck T) ops r s' k) : walkN P (reck T) ops (o :: r) s k :=
  w_fnV hS ho hf hb hn hg rfl hd hid hob hargs hSp hpo hpo' hs k0
end

/-! ### Loops and the end -/

theorem z_loop {ι : Type} (u : ι → List (Nat × AV)) (ov : ι → List Ov) (I : ι → Prop) (μ : ι → Nat) (i0 : ι) {c : Code} {S : ι → AS} {m : List (Nat × Src)}
    (hS : ∀ i, overS s (u i) (ov i) = S i := by intro i; simp [go_sem]; rfl) (hm : mkMap s (S i0) = m := by simp [go_sem]; rfl) (hn : (S i0).n = s.n := by rfl) (hd : distinctB m = true := by rfl)
    (h0 : I i0) (henv : ∀ p ∈ (S i0).env, AVm m (s.get p.1) p.2) (hobj : ∀ p ∈ (S i0).H, match p.2 with | none => True | some o' => ∃ src, lookS m p.1 = some src ∧ OBm m s src o')
    (h : ∀ i, I i → awp P E K c (kLop S I μ i Q) (S i)) : awp P E K (.loop c) Q s :=
  a_loop S I μ i0 h0 (weak_map hm hn hd henv hobj) h

theorem z_lop {ι : Type} {S : ι → AS} {I : ι → Prop} {μ : ι → Nat} {i : ι} {m : List (Nat × Src)} (j : ι)
    (hm : mkMap s (S j) = m := by simp [go_sem]; rfl) (hn : (S j).n = s.n := by rfl) (hd : distinctB m = true := by rfl)
    (hj : I j) (hmu : μ j < μ i) (henv : ∀ p ∈ (S j).env, AVm m (s.get p.1) p.2) (hobj : ∀ p ∈ (S j).H, match p.2 with | none => True | some o' => ∃ src, lookS m p.1 = some src ∧ OBm m s src o') : kLop S I μ i Q .normal s :=
  k_lop j hj hmu (weak_map hm hn hd henv hobj)

theorem z_ret {rs : List ResultVar} {av av' : AV} {objs : List Obj} {acc : Acc} (h : retA T s rs = some (av', acc) := by simp [go_sem]; first | exact ⟨rfl, rfl⟩ | rfl) (hv : av' = av) (ho : acc.map (·.1) = objs) : retOK T rs av objs .ret s := k_ret h hv ho
theorem z_retT (id : Nat) {rs : List ResultVar} {av av' : AV} {objs : List Obj} {acc : Acc} (h : retA T (s.thaw id) rs = some (av', acc) := by simp [go_sem]; first | exact ⟨rfl, rfl⟩ | rfl) (hv : av' = av) (ho : acc.map (·.1) = objs) : retOK T rs av objs .ret s := k_retT id h hv ho
end

attribute [go_sem] rStoreA rStoreR rAppendA rAppendR rSrcR rowIn Md.strict Md.frz killL rMakeFunc AS.thaw plainR plainE plainB thawO isFlat

/-! ### Short names of arguments and results -/
abbrev aI (n : Int) : AV := .one (.sc (.int n))
abbrev aB (b : Bool) : AV := .one (.sc (.bool b))
abbrev aS (b : ByteArray) : AV := .one (.sc (.str b))
abbrev aL (l : List Int) : AV := .one (.imm 1 (ints l))
abbrev aR (i : Nat) : AV := .one (.ref i)
end Go.Eng
/- The engine, part 32: contracts at hand (by class), and the steps of a walk in short. -/
set_option linter.unusedVariables false
namespace Go.Eng
open Go Go.RowKit

/-- The function is there and is no function of the runtime's own. -/
def FnOk (P : Program) (f : FuncId) : Prop := ∃ fn, P.funcs[f]? = some fn ∧ fn.body.isNone = false ∧ (fn.name == "runtime.NumGoroutine") = false
class Con (P : Program) (f : FuncId) (S : outParam Spec) : Prop where
  sat : Sat P f S
  ok : FnOk P f
class ConM (P : Program) (f : FuncId) (S : outParam SpecM) : Prop where
  sat : SatM P f S
  ok : FnOk P f
class ConX (P : Program) (f : FuncId) (S : outParam SpecX) : Prop where
  sat : SatX P f S
  ok : FnOk P f
class ConV (P : Program) (f : FuncId) (S : outParam SpecX) : Prop where
  sat : SatV P f S
  ok : FnOk P f
section
variable {P : Program} {f : FuncId} {fn : Func}
theorem con {S : Spec} (h : Sat P f S) (hf : P.funcs[f]? = some fn) (hb : fn.body.isNone = false := by rfl) (hn : (fn.name == "runtime.NumGoroutine") = false := by rfl) : Con P f S := ⟨h, fn, hf, hb, hn⟩
theorem conM {S : SpecM} (h : SatM P f S) (hf : P.funcs[f]? = some fn) (hb : fn.body.isNone = false := by rfl) (hn : (fn.name == "runtime.NumGoroutine") = false := by rfl) : ConM P f S := ⟨h, fn, hf, hb, hn⟩
theorem conX {S : SpecX} (h : SatX P f S) (hf : P.funcs[f]? = some fn) (hb : fn.body.isNone = false := by rfl) (hn : (fn.name == "runtime.NumGoroutine") = false := by rfl) : ConX P f S := ⟨h, fn, hf, hb, hn⟩
theorem conV {S : SpecX} (h : SatV P f S) (hf : P.funcs[f]? = some fn) (hb : fn.body.isNone = false := by rfl) (hn : (fn.name == "runtime.NumGoroutine") = false := by rfl) : ConV P f S := ⟨h, fn, hf, hb, hn⟩
/-- Two contracts of one function. -/
def orS (A B : Spec) : Spec := fun args av objs => A args av objs ∨ B args av objs
theorem con2 {A B : Spec} (a : Sat P f A) (b : Sat P f B) (hf : P.funcs[f]? = some fn) (hb : fn.body.isNone = false := by rfl) (hn : (fn.name == "runtime.NumGoroutine") = false := by rfl) : Con P f (orS A B) :=
  ⟨fun args av objs h => h.elim (a args av objs) (b args av objs), fn, hf, hb, hn⟩
end

/-- The contract that a theorem states. -/
@[reducible] def specOf {P : Program} {f : FuncId} {S : Spec} (_ : Sat P f S) : Spec := S
@[reducible] def specOfM {P : Program} {f : FuncId} {S : SpecM} (_ : SatM P f S) : SpecM := S
@[reducible] def specOfX {P : Program} {f : FuncId} {S : SpecX} (_ : SatX P f S) : SpecX := S
@[reducible] def specOfV {P : Program} {f : FuncId} {S : SpecX} (_ : SatV P f S) : SpecX := S

/-- A premise of a contract, found by what is at hand. -/
theorem zp {p : Prop} (h : p := by first | assumption | omega | (simp; done) | (simp; omega) | (((repeat' refine And.intro ?_ ?_) <;> first | assumption | omega | (simp; done) | (simp; omega)); done) | (simp at *; omega)) : p := h

section
variable {s s' : AS} {P : Program} {T : Tys} {E : Reck} {K : Nat → List Nat} {Q : Exit → AS → Prop}
variable {ops : Array Oper} {o : Oper} {r : List Oper} {k : AS → Prop} {tr : List (Option Eff)} {kl : List (Option Eff) → AS → Prop} {e : Eff} {l : List Nat} {os : List Oper}

/-! ### Steps -/
theorem ya (k0 : walkN P E ops (o :: r) s k) (hg : o.guard = none := by rfl) : walkN P E ops (o :: r) s k := k0
theorem yA (k0 : walkL P E ops (o :: r) s tr kl) (hg : o.guard = none := by rfl) : walkL P E ops (o :: r) s tr kl := k0
theorem yb (k0 : walkN P E ops (o :: r) s k) (h : isCallB o = true := by rfl) : walkN P E ops (o :: r) s k := k0
theorem yB (k0 : walkL P E ops (o :: r) s tr kl) (h : isCallB o = true := by rfl) : walkL P E ops (o :: r) s tr kl := k0
theorem ye (k0 : walkN P (reck T) ops r s' k) (hg : o.guard = none := by rfl) (h : stp T o s = some s' := by first | (simp (disch := first | omega | (simp; omega)) [go_sem, -Option.map_eq_some_iff]; rfl) | (simp (disch := first | omega | (simp; omega)) [go_sem, -Option.map_eq_some_iff, *]; rfl)) : walkN P (reck T) ops (o :: r) s k := w_op hg h k0
theorem yE (k0 : walkL P (reck T) ops r s' (tr ++ [some e]) kl) (hg : gsay ops s o = some true := by rfl) (h : stl T o s = some (e, s') := by first | (simp (disch := first | omega | (simp; omega)) [go_sem, -Option.map_eq_some_iff]; exact ⟨rfl, rfl⟩) | (simp (disch := first | omega | (simp; omega)) [go_sem, -Option.map_eq_some_iff, *]; exact ⟨rfl, rfl⟩)) : walkL P (reck T) ops (o :: r) s tr kl := l_op hg h k0
theorem yy (hg : gsay ops s o = some true) (k0 : walkN P (reck T) ops r s' k) (h : stp T o s = some s' := by first | (simp (disch := first | omega | (simp; omega)) [go_sem, -Option.map_eq_some_iff]; rfl) | (simp (disch := first | omega | (simp; omega)) [go_sem, -Option.map_eq_some_iff, *]; rfl)) : walkN P (reck T) ops (o :: r) s k := w_yes hg h k0
theorem yY (hg : gsay ops s o = some true) (k0 : walkL P (reck T) ops r s' (tr ++ [some e]) kl) (h : stl T o s = some (e, s') := by first | (simp (disch := first | omega | (simp; omega)) [go_sem, -Option.map_eq_some_iff]; exact ⟨rfl, rfl⟩) | (simp (disch := first | omega | (simp; omega)) [go_sem, -Option.map_eq_some_iff, *]; exact ⟨rfl, rfl⟩)) : walkL P (reck T) ops (o :: r) s tr kl := l_op hg h k0
theorem yn (hg : gsay ops s o = some false) (k0 : walkN P E ops r s' k) (hd : Oper.dstOk o s.n = true := by rfl) (hs : s.app o.dst skipE = s' := by simp [go_sem, skipE]; rfl) : walkN P E ops (o :: r) s k := w_no hg hd hs k0
theorem yN (hg : gsay ops s o = some false) (k0 : walkL P E ops r s' (tr ++ [none]) kl) (hd : Oper.dstOk o s.n = true := by rfl) (hs : s.app o.dst skipE = s' := by simp [go_sem, skipE]; rfl) : walkL P E ops (o :: r) s tr kl := l_no hg hd hs k0
theorem yt (k0 : walkN P E ops r s' k) {j : Nat} {want : Bool} (hp : o.guard = some (j, want) := by rfl) (h : guardAV ops s j = .tup [] := by rfl) (hd : Oper.dstOk o s.n = true := by rfl) (hs : s.app o.dst skipE = s' := by simp [go_sem, skipE]; rfl) : walkN P E ops (o :: r) s k := w_no (by simp only [gsay, hp, h]) hd hs k0
theorem yT (k0 : walkL P E ops r s' (tr ++ [none]) kl) {j : Nat} {want : Bool} (hp : o.guard = some (j, want) := by rfl) (h : guardAV ops s j = .tup [] := by rfl) (hd : Oper.dstOk o s.n = true := by rfl) (hs : s.app o.dst skipE = s' := by simp [go_sem, skipE]; rfl) : walkL P E ops (o :: r) s tr kl := l_no (by simp only [gsay, hp, h]) hd hs k0
theorem yg {j : Nat} {want v : Bool} (k0 : GV ops s o v want → walkN P E ops (o :: r) s k) (hp : o.guard = some (j, want) := by rfl) (h : guardAV ops s j = .one (.sc (.bool v)) := by simp [go_sem, *, -Bool.not_eq_eq_eq_not]; rfl) : walkN P E ops (o :: r) s k := k0 (by unfold GV; exact ⟨j, hp, h⟩)
theorem yG {j : Nat} {want v : Bool} (k0 : GV ops s o v want → walkL P E ops (o :: r) s tr kl) (hp : o.guard = some (j, want) := by rfl) (h : guardAV ops s j = .one (.sc (.bool v)) := by simp [go_sem, *, -Bool.not_eq_eq_eq_not]; rfl) : walkL P E ops (o :: r) s tr kl := k0 (by unfold GV; exact ⟨j, hp, h⟩)
theorem yz (h : Q .normal s') (hk : s.keep l = s' := by simp [go_sem]; rfl) : walkN P E ops [] s (kReg l Q) := w_end hk h
theorem yZ (h : Q .normal s') (ht : traceOk os.toArray (Region.before os.toArray).toList (zipE os tr) = true := by kernel_rfl) (hk : s.keep l = s' := by simp [go_sem]; rfl) : walkL P E ops [] s tr (kDrw l os Q) := l_end ht hk h

/-! ### Calls -/
section
variable {f : FuncId} {xs : List Operand} {ts : List Nat} {args : List AV} {log : List Nat} {av : AV} {objs : List Obj} {S : Spec}

theorem yc (k0 : walkN P (reck T) ops r s' k) (ho : Oper.isCall o f xs ts := by rfl) (hS : Con P f S := by infer_instance) (hg : gsay ops s o = some true := by first | rfl | assumption) (hd : Oper.dstOk o s.n = true := by rfl) (hsn : snapAs T s ts (xs.map s.ev) = some (args, log) := by simp [go_sem]; exact ⟨rfl, rfl⟩)
    (hSp : S args av objs := by ((repeat apply Exists.intro); first | exact ⟨rfl, rfl, rfl⟩ | exact ⟨zp, rfl, rfl, rfl⟩ | exact ⟨zp, zp, zp, rfl, rfl, rfl⟩ | (refine Or.inl ?_; (repeat apply Exists.intro); first | exact ⟨rfl, rfl, rfl⟩ | exact ⟨zp, rfl, rfl, rfl⟩ | exact ⟨zp, zp, zp, rfl, rfl, rfl⟩) | (refine Or.inr ?_; (repeat apply Exists.intro); first | exact ⟨rfl, rfl, rfl⟩ | exact ⟨zp, rfl, rfl, rfl⟩ | exact ⟨zp, zp, zp, rfl, rfl, rfl⟩))) (hpl : plainT av = true := by rfl) (hpo : objs.all plainO = true := by rfl)
    (hfr : freshB s (callE (8 * o.dst.getD 0) av objs log) = true := by rfl) (hs : s.app o.dst (callE (8 * o.dst.getD 0) av objs log) = s' := by simp [go_sem]; rfl) : walkN P (reck T) ops (o :: r) s k := by
  obtain ⟨hS, fn, hf, hb, hn⟩ := hS
  exact w_fn hS ho hf hb hn hg rfl hd hsn hSp hpl hpo hfr hs k0
theorem yC (k0 : walkL P (reck T) ops r s' (tr ++ [some (callE (8 * o.dst.getD 0) av objs log)]) kl) (ho : Oper.isCall o f xs ts := by rfl) (hS : Con P f S := by infer_instance) (hg : gsay ops s o = some true := by first | rfl | assumption) (hd : Oper.dstOk o s.n = true := by rfl) (hsn : snapAs T s ts (xs.map s.ev) = some (args, log) := by simp [go_sem]; exact ⟨rfl, rfl⟩)
    (hSp : S args av objs := by ((repeat apply Exists.intro); first | exact ⟨rfl, rfl, rfl⟩ | exact ⟨zp, rfl, rfl, rfl⟩ | exact ⟨zp, zp, zp, rfl, rfl, rfl⟩ | (refine Or.inl ?_; (repeat apply Exists.intro); first | exact ⟨rfl, rfl, rfl⟩ | exact ⟨zp, rfl, rfl, rfl⟩ | exact ⟨zp, zp, zp, rfl, rfl, rfl⟩) | (refine Or.inr ?_; (repeat apply Exists.intro); first | exact ⟨rfl, rfl, rfl⟩ | exact ⟨zp, rfl, rfl, rfl⟩ | exact ⟨zp, zp, zp, rfl, rfl, rfl⟩))) (hpl : plainT av = true := by rfl) (hpo : objs.all plainO = true := by rfl)
    (hfr : freshB s (callE (8 * o.dst.getD 0) av objs log) = true := by rfl) (hs : s.app o.dst (callE (8 * o.dst.getD 0) av objs log) = s' := by simp [go_sem]; rfl) : walkL P (reck T) ops (o :: r) s tr kl := by
  obtain ⟨hS, fn, hf, hb, hn⟩ := hS
  exact l_fn hS ho hf hb hn hg rfl hd hsn hSp hpl hpo hfr hs k0
theorem yo {t id e1 : Nat} {cs : List CV} {ss : List Sc} (k0 : walkN P (reck T) ops r s' k) (ho : Oper.isClo o t xs ts := by rfl) (hclo : s.get t = .one (.clo f id) := by rfl) (hS : Con P f S := by infer_instance) (hg : gsay ops s o = some true := by first | rfl | assumption) (hd : Oper.dstOk o s.n = true := by rfl) (hbox : s.obj id = some (.box e1 cs) := by rfl) (hss : scsOf cs = some ss := by rfl) (hsn : snapAs T s ts (xs.map s.ev) = some (args, log) := by simp [go_sem]; exact ⟨rfl, rfl⟩)
    (hSp : S (args ++ [.one (.iptr ss)]) av objs := by ((repeat apply Exists.intro); first | exact ⟨rfl, rfl, rfl⟩ | exact ⟨zp, rfl, rfl, rfl⟩ | exact ⟨zp, zp, zp, rfl, rfl, rfl⟩ | (refine Or.inl ?_; (repeat apply Exists.intro); first | exact ⟨rfl, rfl, rfl⟩ | exact ⟨zp, rfl, rfl, rfl⟩ | exact ⟨zp, zp, zp, rfl, rfl, rfl⟩) | (refine Or.inr ?_; (repeat apply Exists.intro); first | exact ⟨rfl, rfl, rfl⟩ | exact ⟨zp, rfl, rfl, rfl⟩ | exact ⟨zp, zp, zp, rfl, rfl, rfl⟩))) (hpl : plainT av = true := by rfl) (hpo : objs.all plainO = true := by rfl)
    (hfr : freshB s (callE (8 * o.dst.getD 0) av objs (id :: log)) = true := by rfl) (hs : s.app o.dst (callE (8 * o.dst.getD 0) av objs (id :: log)) = s' := by simp [go_sem]; rfl) : walkN P (reck T) ops (o :: r) s k := by
  obtain ⟨hS, fn, hf, hb, hn⟩ := hS
  exact z_clo hS hf ho hb hn hg hd hclo hbox hss hsn hSp hpl hpo hfr hs k0
theorem yO {t id e1 : Nat} {cs : List CV} {ss : List Sc} (k0 : walkL P (reck T) ops r s' (tr ++ [some (callE (8 * o.dst.getD 0) av objs (id :: log))]) kl) (ho : Oper.isClo o t xs ts := by rfl) (hclo : s.get t = .one (.clo f id) := by rfl) (hS : Con P f S := by infer_instance) (hg : gsay ops s o = some true := by first | rfl | assumption) (hd : Oper.dstOk o s.n = true := by rfl) (hbox : s.obj id = some (.box e1 cs) := by rfl) (hss : scsOf cs = some ss := by rfl) (hsn : snapAs T s ts (xs.map s.ev) = some (args, log) := by simp [go_sem]; exact ⟨rfl, rfl⟩)
    (hSp : S (args ++ [.one (.iptr ss)]) av objs := by ((repeat apply Exists.intro); first | exact ⟨rfl, rfl, rfl⟩ | exact ⟨zp, rfl, rfl, rfl⟩ | exact ⟨zp, zp, zp, rfl, rfl, rfl⟩ | (refine Or.inl ?_; (repeat apply Exists.intro); first | exact ⟨rfl, rfl, rfl⟩ | exact ⟨zp, rfl, rfl, rfl⟩ | exact ⟨zp, zp, zp, rfl, rfl, rfl⟩) | (refine Or.inr ?_; (repeat apply Exists.intro); first | exact ⟨rfl, rfl, rfl⟩ | exact ⟨zp, rfl, rfl, rfl⟩ | exact ⟨zp, zp, zp, rfl, rfl, rfl⟩))) (hpl : plainT av = true := by rfl) (hpo : objs.all plainO = true := by rfl)
    (hfr : freshB s (callE (8 * o.dst.getD 0) av objs (id :: log)) = true := by rfl) (hs : s.app o.dst (callE (8 * o.dst.getD 0) av objs (id :: log)) = s' := by simp [go_sem]; rfl) : walkL P (reck T) ops (o :: r) s tr kl := by
  obtain ⟨hS, fn, hf, hb, hn⟩ := hS
  exact z_clol hS hf ho hb hn hg hd hclo hbox hss hsn hSp hpl hpo hfr hs k0
end
section
variable {f : FuncId} {xs : List Operand} {ts : List Nat} {args : List AV} {id : Nat} {ob ob' : Obj}
theorem yr {S : SpecM} {x : Sc} (k0 : walkN P (reck T) ops r s' k) (ho : Oper.isCall o f xs ts := by rfl) (hS : ConM P f S := by infer_instance) (hg : gsay ops s o = some true := by first | rfl | assumption) (hd : Oper.dstOk o s.n = true := by rfl) (hid : refAs (xs.map s.ev) = some id := by simp [go_sem]; rfl) (hob : s.obj id = some ob := by simp [go_sem]; rfl) (hargs : mAs id (xs.map s.ev) = some args := by simp [go_sem]; rfl)
    (hSp : S args ob x ob' := by ((repeat apply Exists.intro); first | exact ⟨rfl, rfl, rfl, rfl⟩ | exact ⟨zp, rfl, rfl, rfl, rfl⟩ | exact ⟨zp, zp, zp, rfl, rfl, rfl, rfl⟩)) (hpo : plainO ob = true := by rfl) (hpo' : plainO ob' = true := by rfl) (hs : s.app o.dst { val := .one (.sc x), sets := [(id, some ob')], log := [id] } = s' := by simp [go_sem]; rfl) : walkN P (reck T) ops (o :: r) s k := by
  obtain ⟨hS, fn, hf, hb, hn⟩ := hS
  exact z_fnR hS hf ho hb hn hg hd hid hob hargs hSp hpo hpo' hs k0
theorem yR {S : SpecM} {x : Sc} (k0 : walkL P (reck T) ops r s' (tr ++ [some { val := .one (.sc x), sets := [(id, some ob')], log := [id] }]) kl) (ho : Oper.isCall o f xs ts := by rfl) (hS : ConM P f S := by infer_instance) (hg : gsay ops s o = some true := by first | rfl | assumption) (hd : Oper.dstOk o s.n = true := by rfl) (hid : refAs (xs.map s.ev) = some id := by simp [go_sem]; rfl) (hob : s.obj id = some ob := by simp [go_sem]; rfl) (hargs : mAs id (xs.map s.ev) = some args := by simp [go_sem]; rfl)
    (hSp : S args ob x ob' := by ((repeat apply Exists.intro); first | exact ⟨rfl, rfl, rfl, rfl⟩ | exact ⟨zp, rfl, rfl, rfl, rfl⟩ | exact ⟨zp, zp, zp, rfl, rfl, rfl, rfl⟩)) (hpo : plainO ob = true := by rfl) (hpo' : plainO ob' = true := by rfl) (hs : s.app o.dst { val := .one (.sc x), sets := [(id, some ob')], log := [id] } = s' := by simp [go_sem]; rfl) : walkL P (reck T) ops (o :: r) s tr kl := by
  obtain ⟨hS, fn, hf, hb, hn⟩ := hS
  exact z_fnRl hS hf ho hb hn hg hd hid hob hargs hSp hpo hpo' hs k0
theorem yx {S : SpecX} (k0 : walkN P (reck T) ops r s' k) (ho : Oper.isCall o f xs ts := by rfl) (hS : ConX P f S := by infer_instance) (hg : gsay ops s o = some true := by first | rfl | assumption) (hd : Oper.dstOk o s.n = true := by rfl) (hid : refAs (xs.map s.ev) = some id := by simp [go_sem]; rfl) (hob : s.obj id = some ob := by simp [go_sem]; rfl) (hargs : mAs id (xs.map s.ev) = some args := by simp [go_sem]; rfl)
    (hSp : S args ob ob' := by ((repeat apply Exists.intro); first | exact ⟨rfl, rfl, rfl⟩ | exact ⟨zp, rfl, rfl, rfl⟩ | exact ⟨zp, zp, zp, rfl, rfl, rfl⟩)) (hpo : isFlat ob = true := by rfl) (hpo' : isFlat ob' = true := by rfl) (hfr : freshB s (effX id (8 * o.dst.getD 0) ob') = true := by rfl) (hs : s.app o.dst (effX id (8 * o.dst.getD 0) ob') = s' := by simp [go_sem]; rfl) : walkN P (reck T) ops (o :: r) s k := by
  obtain ⟨hS, fn, hf, hb, hn⟩ := hS
  exact z_fnX hS hf ho hb hn hg hd hid hob hargs hSp hpo hpo' hfr hs k0
theorem yv {S : SpecX} (k0 : walkN P (reck T) ops r s' k) (ho : Oper.isCall o f xs ts := by rfl) (hS : ConV P f S := by infer_instance) (hg : gsay ops s o = some true := by first | rfl | assumption) (hd : Oper.dstOk o s.n = true := by rfl) (hid : refAs (xs.map s.ev) = some id := by simp [go_sem]; rfl) (hob : s.obj id = some ob := by simp [go_sem]; rfl) (hargs : mAs id (xs.map s.ev) = some args := by simp [go_sem]; rfl)
    (hSp : S args ob ob' := by ((repeat apply Exists.intro); first | exact ⟨rfl, rfl, rfl⟩ | exact ⟨zp, rfl, rfl, rfl⟩ | exact ⟨zp, zp, zp, rfl, rfl, rfl⟩)) (hpo : plainO ob = true := by rfl) (hpo' : plainO ob' = true := by rfl) (hs : s.app o.dst (effV id ob') = s' := by simp [go_sem]; rfl) : walkN P (reck T) ops (o :: r) s k := by
  obtain ⟨hS, fn, hf, hb, hn⟩ := hS
  exact z_fnV hS hf ho hb hn hg hd hid hob hargs hSp hpo hpo' hs k0
end
end
attribute [go_sem] rLoadOwn
end Go.Eng
/- The engine, part 33: steps and turns in few words. -/
set_option linter.unusedVariables false
namespace Go.Eng
open Go Go.RowKit

/-- A step of the code's own, found by class. -/
class Str (G : Prop) (H : outParam Prop) : Prop where
  go : H → G
theorem zst {G H : Prop} (h : H) [i : Str G H] : G := i.go h
section
variable {s : AS} {P : Program} {E : Reck} {K : Nat → List Nat} {Q : Exit → AS → Prop} {x y c : Code} {id : Nat} {l : List Oper}
instance : Str (awp P E K (.seq x y) Q s) (awp P E K x (kSeq P E K y Q) s) := ⟨a_seq⟩
instance : Str (awp P E K .skip Q s) (Q .normal s) := ⟨a_skip⟩
instance : Str (awp P E K .ret Q s) (Q .ret s) := ⟨a_ret⟩
instance : Str (awp P E K (.exit id) Q s) (Q (.exit id) s) := ⟨a_exit⟩
instance : Str (awp P E K (.block id c) Q s) (awp P E K c (kBlk id Q) s) := ⟨a_block⟩
instance : Str (awp P E K (.region id l.toArray false) Q s) (walkN P E l.toArray l s (kReg (K id) Q)) := ⟨a_reg⟩
instance : Str (awp P E K (.region id l.toArray true) Q s) (walkL P E l.toArray l s [] (kDrw (K id) l Q)) := ⟨a_draw⟩
instance : Str (kSeq P E K y Q .normal s) (awp P E K y Q s) := ⟨k_seq⟩
instance : Str (kSeq P E K y Q (.exit id) s) (Q (.exit id) s) := ⟨k_seq_exit⟩
instance : Str (kSeq P E K y Q .ret s) (Q .ret s) := ⟨k_seq_ret⟩
instance : Str (kBlk id Q .normal s) (Q .normal s) := ⟨k_blk⟩
instance : Str (kBlk id Q (.exit id) s) (Q .normal s) := ⟨k_blk_exit⟩
instance : Str (kBlk id Q .ret s) (Q .ret s) := ⟨k_blk_ret⟩
instance {ι : Type} {S : ι → AS} {I : ι → Prop} {μ : ι → Nat} {i : ι} : Str (kLop S I μ i Q (.exit id) s) (Q (.exit id) s) := ⟨k_lop_exit⟩
instance {ι : Type} {S : ι → AS} {I : ι → Prop} {μ : ι → Nat} {i : ι} : Str (kLop S I μ i Q .ret s) (Q .ret s) := ⟨k_lop_ret⟩
end
section
variable {ops : Array Oper} {o : Oper} {s : AS} {v w : Bool}
theorem zgy (h : GV ops s o v w) (e : v = w := by rfl) : gsay ops s o = some true := by subst e; have := gv_say h; simpa using this
theorem zgn (h : GV ops s o v w) (e : (v == w) = false := by rfl) : gsay ops s o = some false := by rw [← e]; exact gv_say h
end
section
variable {s : AS} {P : Program} {E : Reck} {K : Nat → List Nat} {Q : Exit → AS → Prop}
theorem zk {c : Operand} {x y : Code} {v : Bool} {A B : Prop} (h1 : A → v = true → awp P E K x Q s) (h2 : B → v = false → awp P E K y Q s) (h : s.ev c = .one (.sc (.bool v)) := by simp [go_sem, *, -Bool.not_eq_eq_eq_not]; rfl)
    (hA : (v = true) = A := by (try simp only [Bool.not_eq_true', Bool.not_eq_false', Bool.and_eq_true, Bool.and_eq_false_imp, Bool.or_eq_true, Bool.or_eq_false_iff, Bool.not_eq_true, Bool.not_eq_false, decide_eq_true_eq, decide_eq_false_iff_not, Int.not_lt, Int.not_le, ge_iff_le, gt_iff_lt, decide_true, decide_false, Bool.false_eq_true, reduceCtorEq, beq_iff_eq, beq_eq_false_iff_ne, ne_eq, bne_iff_ne, bne_eq_false_iff_eq, and_true, true_and, and_false, false_and]); rfl)
    (hB : (v = false) = B := by (try simp only [Bool.not_eq_true', Bool.not_eq_false', Bool.and_eq_true, Bool.and_eq_false_imp, Bool.or_eq_true, Bool.or_eq_false_iff, Bool.not_eq_true, Bool.not_eq_false, decide_eq_true_eq, decide_eq_false_iff_not, Int.not_lt, Int.not_le, ge_iff_le, gt_iff_lt, decide_true, decide_false, Bool.false_eq_true, reduceCtorEq, beq_iff_eq, beq_eq_false_iff_ne, ne_eq, bne_iff_ne, bne_eq_false_iff_eq, and_true, true_and, and_false, false_and]); rfl) : awp P E K (.cond c x y) Q s :=
  z_cond h hA hB h1 h2
theorem zl {ι : Type} {S : ι → AS} {I : ι → Prop} {μ : ι → Nat} {i : ι} {m : List (Nat × Src)} (j : ι) (hj : I j := by omega)
    (hm : mkMap s (S j) = m := by simp [go_sem]; rfl) (hn : (S j).n = s.n := by rfl) (hd : distinctB m = true := by rfl)
    (hmu : μ j < μ i := by first | omega | (simp only; omega))
    (henv : ∀ p ∈ (S j).env, AVm m (s.get p.1) p.2 := by first | (simp [go_sem, AVm, CVm, lookS, *]; done) | (simp [go_sem, AVm, CVm, lookS, *] <;> (repeat' split) <;> first | omega | (simp_all; done) | (exfalso; omega) | (simp_all; omega)))
    (hobj : ∀ p ∈ (S j).H, match p.2 with | none => True | some o' => ∃ src, lookS m p.1 = some src ∧ OBm m s src o' := by first | (simp [go_sem, OBm, CVm, All2, lookS, *]; done) | (simp [go_sem, OBm, CVm, All2, lookS, *] <;> (repeat' split) <;> first | omega | (simp_all; done) | (exfalso; omega) | (simp_all; omega))) : kLop S I μ i Q .normal s :=
  z_lop j hm hn hd hj hmu henv hobj
end
end Go.Eng
/- The engine, part 34: functions that write through the rows of an object that they are handed. -/
set_option linter.unusedVariables false
namespace Go.Eng
open Go Go.RowKit

section
variable {N0 : Nat} {W0 : World} {s s' : AS} {β β' : Plc} {a : Act} {w w' : World} {P : Program} {T : Tys}

theorem all2_of {α β : Type} {R : α → β → Prop} : ∀ {l : List α} {m : List β}, l.length = m.length → (∀ (i : Nat) a b, l[i]? = some a → m[i]? = some b → R a b) → All2 R l m
  | [], [], _, _ => trivial
  | a :: l, b :: m, hl, h => ⟨h 0 a b rfl rfl, all2_of (by simpa using hl) fun i x y hx hy => h (i + 1) x y (by simpa using hx) (by simpa using hy)⟩
  | [], _ :: _, h, _ => by simp at h
  | _ :: _, [], h, _ => by simp at h

theorem EffU_callW (f : FuncId) (fn : Func) (xs : List Operand) (ts : List Nat) (S : SpecM) {o : Oper} (ho : Oper.isCall o f xs ts) (hS : SatM P f S) (hf : P.funcs[f]? = some fn) (hb : fn.body.isNone = false) (hn : (fn.name == "runtime.NumGoroutine") = false)
    (hd : Oper.dstOk o s.n = true) (id e e' : Nat) (st : Bool) (xss : List (Option (List El))) (us : List Value) (hob : s.obj id = some (.rowsV e e' st xss us)) (i : Nat) (u : Value) (hu : us[i]? = some u) (l l' : List El) (hl : xss[i]? = some (some l))
    (y x : Sc) (hargs : xs.map s.ev = [.one (.val u), .one (.sc y)]) (hSp : S [.one (.ref 0), .one (.sc y)] (.flat e' 1 l) x (.flat e' 1 l')) :
    EffU P o s { val := .one (.sc x), sets := [(id, some (.rowsV e e' st (xss.set i (some l')) us))], log := [id] } := by
  intro s2 h1 h2 h3 h4 N0 W0 β a w r K Q hK
  have hops : ∀ x ∈ xs, x ∈ o.op.operands := fun x hx => by
    rw [show o.op = _ from ho]
    simp [Op.operands, Call.operands, hx]
  have hob2 : s2.obj id = some (.rowsV e e' st xss us) := by rw [h3 id (by simp)]; exact hob
  obtain ⟨pv, vs, hp, hat, hbl⟩ := r.obj id _ hob2
  obtain ⟨hvs, hrow, hall, has, hap⟩ := hat
  subst hvs
  have hum : u ∈ vs := List.mem_of_getElem? hu
  obtain ⟨u', hu', hro⟩ := All2.get i hall hl
  rw [hu] at hu'; cases hu'
  obtain ⟨hr1, hr2, hr3⟩ := hro
  have hev : All2 (AR N0 β (Free s2 β w) w) (xs.map s2.ev) (xs.map a.eval) := all2_ev r xs
  rw [← list_evs h2 hops] at hargs
  rw [hargs] at hev
  have hvals : ∃ v, xs.map a.eval = [u, v] ∧ v = y.val ∧ u.oneCell' = true := by
    generalize xs.map a.eval = zs at hev
    match zs, hev with
    | [z0, z1], ⟨e0, e1, _⟩ =>
      obtain ⟨rfl, hone⟩ := e0
      exact ⟨z1, rfl, e1, hone⟩
  obtain ⟨v, hvals, rfl, hone⟩ := hvals
  have hsub : ∀ b, blks (Obj.flat e' 1 l).own u [] b → blks (Obj.rowsV e e' st xss vs).own pv vs b := by
    rintro b (hb | ⟨hb, _⟩)
    · exact .inr ⟨rfl, u, hum, hb⟩
    · cases hb
  have hrun : (execOp a.eval o).run P w = .ok (.enter f (xs.map a.eval).toArray) w := by
    have he : execOp a.eval o = callFunc f (#[] ++ (xs.map a.eval).toArray ++ #[]) := by
      unfold execOp
      rw [show o.op = _ from ho]
      simp only [resolve, Act.eval, Deferred.ofValue, List.map_toArray]
      rfl
    rw [he, run_callFunc hf hb hn]
    simp
  unfold Oper.wp
  rw [hrun, Oper.upon_enter]
  refine (hS _ _ _ _ hSp N0 w (xs.map a.eval) u [] r.size0 ⟨hr1, hr2⟩ (fun b hb => hbl b (hsub b hb)) (by rw [hvals]; exact ⟨⟨[], rfl, hone⟩, rfl, trivial⟩)).mono ?_
  rintro ex w' ⟨rfl, vs', hw⟩
  have hW : Wrote N0 w w' (.rowsV e e' st xss vs) (.rowsV e e' st (xss.set i (some l')) vs) pv vs vs := by
    have hrest : ∀ b, b < w.heap.size → blockOf u ≠ some b → w'.heap[b]? = w.heap[b]? := fun b hb hne => hw.rest b ⟨hb, fun hh => by
      rcases hh with hh | ⟨hh, _⟩
      · exact hne hh
      · cases hh⟩
    have hpvb : ∀ b, blockOf pv = some b → w'.heap[b]? = w.heap[b]? := fun b hb => by
      refine hrest b (hbl b (.inl hb)).2 fun hh => ?_
      exact hap u hum (by rw [hh]; simp) (by rw [hh, hb])
    refine ⟨hw.os, hw.tape, hw.output, hw.size, fun b hb => hrest b hb.1 fun hh => hb.2 (.inr ⟨rfl, u, hum, hh⟩), ⟨rfl, ?_, ?_, has, hap⟩, fun b hb => ⟨Nat.lt_of_lt_of_le (hbl b hb).2 hw.size, .inr hb⟩⟩
    · rw [List.length_set]; exact ownsRow_keep hpvb hrow
    · have hlen := hall.length
      refine all2_of (by rw [List.length_set]; exact hlen) fun j o v hj hv => ?_
      by_cases hji : j = i
      · subst hji
        rw [hu] at hv; cases hv
        have hlt : j < xss.length := (List.getElem?_eq_some_iff.1 hl).1
        rw [List.getElem?_set_self hlt] at hj; cases hj
        exact ⟨hw.obj.1, hw.obj.2, hr3⟩
      · rw [List.getElem?_set_ne (fun h => hji h.symm)] at hj
        obtain ⟨v', hv', hro⟩ := All2.get j hall hj
        rw [hv] at hv'; cases hv'
        cases o with
        | none => exact hro
        | some xs1 =>
          refine ⟨ownsRow_keep (fun b hb => ?_) hro.1, hro.2⟩
          refine hrest b (hbl b (.inr ⟨rfl, v, List.mem_of_getElem? hv, hb⟩)).2 fun hh => ?_
          exact has i j u v hu hv (fun h => hji h.symm) (by rw [hh]; simp) (by rw [hh, hb])
  have r' := r.turn hob2 hp hW rfl
  refine hK (β.set id (pv, vs)) _ w' ?_
  cases hdst : o.dst with
  | none => exact r'
  | some d =>
    have hv : AR N0 (β.set id (pv, vs)) (Free (s2.setO id (.rowsV e e' st (xss.set i (some l')) vs)) (β.set id (pv, vs)) w') w' (.one (.sc x)) x.val := rfl
    exact r'.put (d := d) (by have := Oper.dstOk_spec hd d hdst; show d < s2.n; rw [h1]; exact this) hv

section
variable {k : AS → Prop} {tr : List (Option Eff)} {kl : List (Option Eff) → AS → Prop} {ops : Array Oper} {o : Oper} {r : List Oper} {f : FuncId} {xs : List Operand} {ts : List Nat}
/-- A call that writes into one row of an object. -/
theorem yw {S : SpecM} {id e e' : Nat} {st : Bool} {xss : List (Option (List El))} {us : List Value} {u : Value} {l l' : List El} {y x : Sc} (i : Nat) (hu : us[i]? = some u) (hl : xss[i]? = some (some l)) (hSp : S [.one (.ref 0), .one (.sc y)] (.flat e' 1 l) x (.flat e' 1 l'))
    (ho : Oper.isCall o f xs ts := by rfl) (hS : ConM P f S := by infer_instance) (hg : gsay ops s o = some true := by first | rfl | assumption) (hd : Oper.dstOk o s.n = true := by rfl)
    (hob : s.obj id = some (.rowsV e e' st xss us) := by simp [go_sem]; rfl) (hargs : xs.map s.ev = [.one (.val u), .one (.sc y)] := by simp [go_sem]; rfl)
    (hs : s.app o.dst { val := .one (.sc x), sets := [(id, some (.rowsV e e' st (xss.set i (some l')) us))], log := [id] } = s' := by simp [go_sem]; rfl) (k0 : walkN P (reck T) ops r s' k) : walkN P (reck T) ops (o :: r) s k := by
  obtain ⟨hS, fn, hf, hb, hn⟩ := hS
  exact w_call hg (reck_call ho) (EffU_callW f fn xs ts S ho hS hf hb hn hd id e e' st xss us hob i u hu l l' hl y x hargs hSp) rfl hs k0
end

/-- The proof of a function that writes through the rows of the object that it is handed. -/
theorem satM_ofV {E : Reck} (hT : TOk P T) (hE : E.Ok P) (hm : P.follows .mixedOrders = true) {f : FuncId} {fn : Func} {c : Code} {r : ResultVar} {n : Nat} {S : SpecM} (K : Nat → List Nat)
    (hf : P.funcs[f]? = some fn) (hb : fn.body = some c) (hrs : fn.results = #[r]) (hn : fn.ntmps = n)
    (h : ∀ args o x o', S args o x o' → ∃ e e' st xss xss', o = .rows e e' (.own st) xss ∧ o' = .rows e e' (.own st) xss' ∧ args.length ≤ n ∧
      ∀ S W pv (us : List Value), us.length = xss.length → awp P E K c (retOKM T r x (.rowsV e e' st xss' us) S W pv) (entryM n args (.rowsV e e' st xss us) S W pv)) : SatM P f S := by
  have hV : SatM P f fun args o x o' => ∃ e e' st xss xss' us, S args (.rows e e' (.own st) xss) x (.rows e e' (.own st) xss') ∧ o = .rowsV e e' st xss us ∧ o' = .rowsV e e' st xss' us ∧ us.length = xss.length := by
    refine satM_of hT hE hm K hf hb hrs hn ?_
    rintro args o x o' ⟨e, e', st, xss, xss', us, hS, rfl, rfl, hl⟩
    obtain ⟨e1, e1', st1, ys, ys', h1, h2, h3, h4⟩ := h _ _ _ _ hS
    cases h1; cases h2
    exact ⟨h3, rfl, fun S W pv => h4 S W pv us hl⟩
  intro args o x o' hS N0 w vals pv vs hN ho hbl hargs
  obtain ⟨e, e', st, xss, xss', rfl, rfl, _, _⟩ := h _ _ _ _ hS
  have hl : vs.length = xss.length := ho.2.1.length.symm
  refine (hV args (.rowsV e e' st xss vs) x (.rowsV e e' st xss' vs) ⟨e, e', st, xss, xss', vs, hS, rfl, rfl, hl⟩ N0 w vals pv vs hN ⟨rfl, ho⟩ hbl hargs).mono ?_
  rintro ex w' ⟨he, vs', hw⟩
  exact ⟨he, vs', hw.os, hw.tape, hw.output, hw.size, hw.rest, hw.obj.2, hw.blk⟩
end
end Go.Eng
/- The engine, part 35: functions that are handed a cursor (a variable of three cells: bytes, a place, a number) and may move it. -/
set_option linter.unusedVariables false
namespace Go.Eng
open Go Go.RowKit

section
variable {N0 : Nat} {W0 : World} {s s' : AS} {β β' : Plc} {a : Act} {w w' : World} {P : Program} {T : Tys}

def curV (u : Value) (i h : Int) : Array Value := #[u, .int .i64 i, .int .i64 h]
abbrev cur (ty : Nat) (c : CV) (i h : Int) : Obj := .box ty [c, .sc (.int i), .sc (.int h)]
abbrev aC : AV := .one (.ptr 0 1 0 0)

/-- The arguments (the cursor under the number 0), its bytes, place and number; what comes back, the new objects, place and number behind the call. -/
abbrev SpecB := List AV → List El → Int → Int → AV → List Obj → Int → Int → Prop

def away (w : World) (b : Nat) : Nat → Prop := fun x => x < w.heap.size ∧ x ≠ b
def ptrV (b : Nat) : Value := .pointer (some ⟨b, 0, none⟩)

def FreshB (N0 B : Nat) (w' : World) (v : Value) (av : AV) (objs : List Obj) : Prop :=
  ∃ ps : Ps, ps.length = objs.length ∧ AR N0 (fun j => ps[j]?) (fun _ => False) w' av v ∧
    (∀ (j : Nat) (o : Obj) (p : Value × List Value), objs[j]? = some o → ps[j]? = some p → ObjAt N0 (fun _ => none) (fun _ => False) w' p.1 p.2 o ∧ ∀ b, blks o.own p.1 p.2 b → B ≤ b ∧ b < w'.heap.size) ∧
    (∀ (j j' : Nat) (o o' : Obj) (p p' : Value × List Value) (b : Nat), objs[j]? = some o → objs[j']? = some o' → ps[j]? = some p → ps[j']? = some p' → blks o.own p.1 p.2 b → blks o'.own p'.1 p'.2 b → j = j')

structure Moved (w w' : World) (b ty : Nat) (u : Value) (i h : Int) : Prop where
  os : w'.os = w.os
  tape : w'.tape = w.tape
  output : w'.output = w.output
  size : w.heap.size ≤ w'.heap.size
  rest : ∀ x, away w b x → w'.heap[x]? = w.heap[x]?
  cur : w'.heap[b]? = some (.cells (curV u i h) ty (0, 0))

def SatB (P : Program) (f : FuncId) (ty : Nat) (S : SpecB) : Prop :=
  ∀ args bs i h av objs i' h', S args bs i h av objs i' h' → ∀ N0 w vals b u, N0 ≤ b → b < w.heap.size → w.heap[b]? = some (.cells (curV u i h) ty (0, 0)) → Imm (away w b) w 1 u bs →
    All2 (AR N0 (at0 (ptrV b) []) (away w b) w) args vals → Calls P f vals.toArray w fun ex w' => ∃ v, ex = .returned v ∧ Moved w w' b ty u i' h' ∧ FreshB N0 w.heap.size w' v av objs

/-! ### The proof of such a function -/

def retOKB (T : Tys) (rs : List ResultVar) (ty : Nat) (av : AV) (objs : List Obj) (bs : List El) (i h : Int) (u : Value) (S : Nat → Prop) (W : World) (pv : Value) (e : Exit) (t : AS) : Prop :=
  match e with
  | .ret | .normal => ∃ acc, retA T t rs = some (av, acc) ∧ acc.map (·.1) = objs ∧ (acc.all fun p => isFlat p.1 && match p.2 with | some id => id != 0 | none => false) = true ∧ t.obj 0 = some (cur ty (.iv u 1 bs) i h) ∧ t.obj 1 = some (.pin S W) ∧ t.obj 3 = some (.stay 0 pv)
  | _ => False

theorem ret_good (hT : TOk P T) (r : Rel N0 W0 s β a w) {rs : List ResultVar} {av : AV} {acc : Acc} (h : retA T s rs = some (av, acc)) :
    ∃ vs, All2 (fun x v => (match x with | .tmp t => (pure (a.tmps.getD t undef) : Sem Value) | .cell t ty => (do loadVar ty (← asAddr (a.tmps.getD t undef)))).run P w = .ok v w) rs vs ∧ ∃ ps, Good N0 s β w acc ps ∧ AR N0 (fun j => ps[j]?) (fun _ => False) w av (packV vs) := by
  unfold retA at h
  split at h
  · rename_i x
    have hnd : resC T s x ≠ .dead := fun e => by rw [e] at h; cases h
    obtain ⟨v, h1, h2⟩ := resC_ok hT r x hnd
    obtain ⟨qs, g, _, h3⟩ := retD_ok r good_nil h h2
    exact ⟨[v], ⟨h1, trivial⟩, _, g, h3⟩
  · rename_i hsing
    simp only [Option.map_eq_some_iff] at h
    obtain ⟨⟨cs, acc1⟩, hcs, he⟩ := h
    cases he
    obtain ⟨vs, h1, h2⟩ := resAll_ok hT r rs (fun x hx => retT_nd hcs _ (List.mem_map.2 ⟨x, hx, rfl⟩))
    obtain ⟨qs, g, h3⟩ := retT_ok r good_nil hcs h2
    refine ⟨vs, h1, _, g, ?_⟩
    have hp : packV vs = .tuple vs.toArray := by
      have hl := h1.length
      match vs, rs, hl with
      | [], _, _ => rfl
      | [v], [x], _ => exact (hsing x rfl).elim
      | _ :: _ :: _, _, _ => rfl
    rw [hp]
    exact ⟨vs, rfl, h3⟩

theorem satB_of {E : Reck} (hT : TOk P T) (hE : E.Ok P) (hm : P.follows .mixedOrders = true) {f : FuncId} {fn : Func} {c : Code} {rs : List ResultVar} {n ty : Nat} {S : SpecB} (K : Nat → List Nat)
    (hf : P.funcs[f]? = some fn) (hb : fn.body = some c) (hrs : fn.results = rs.toArray) (hn : fn.ntmps = n)
    (h : ∀ args bs i h av objs i' h', S args bs i h av objs i' h' → args.length ≤ n ∧ ∀ u S W pv, awp P E K c (retOKB T rs ty av objs bs i' h' u S W pv) (entryM n args (cur ty (.iv u 1 bs) i h) S W pv)) : SatB P f ty S := by
  intro args bs i h0 av objs i' h' hS N0 w vals b u hNb hbs hheap him hargs
  obtain ⟨hlen, hw⟩ := h args bs i h0 av objs i' h' hS
  refine calls_of_wp hf hb ?_
  rw [hn]
  have hbl : ∀ x, blks (cur ty (.iv u 1 bs) i h0).own (ptrV b) [] x → x = b := by
    rintro x (h1 | ⟨h1, _⟩)
    · cases h1; rfl
    · cases h1
  have hap : ∀ x, away w b x → apart w (cur ty (.iv u 1 bs) i h0) (ptrV b) [] x := fun x hx => ⟨hx.1, fun hh => hx.2 (hbl x hh)⟩
  have hka : Keep (away w b) (apart w (cur ty (.iv u 1 bs) i h0) (ptrV b) []) w w := fun x hx => ⟨hap x hx, rfl⟩
  have ho : ObjAt N0 (at0 (ptrV b) []) (apart w (cur ty (.iv u 1 bs) i h0) (ptrV b) []) w (ptrV b) [] (cur ty (.iv u 1 bs) i h0) :=
    ⟨b, curV u i h0, rfl, hNb, hheap, ⟨⟨rfl, him.keep hka⟩, rfl, rfl, trivial⟩⟩
  have r0 := rel_entryM (n := n) (Nat.le_of_lt (Nat.lt_of_le_of_lt hNb hbs)) ho (fun x hx => by rw [hbl x hx]; exact ⟨hNb, hbs⟩) (hargs.mono fun _ _ _ _ hr => hr.keep (fun _ _ vs h => ⟨vs, h⟩) hka) hlen
  refine wp_mono (awp_sound hE hm c (hw u _ _ _) r0) ?_
  rintro ex a' w' ⟨t, β', r', hq⟩
  have fin : (∃ acc, retA T t rs = some (av, acc) ∧ acc.map (·.1) = objs ∧ (acc.all fun p => isFlat p.1 && match p.2 with | some id => id != 0 | none => false) = true ∧ t.obj 0 = some (cur ty (.iv u 1 bs) i' h') ∧ t.obj 1 = some (.pin (apart w (cur ty (.iv u 1 bs) i h0) (ptrV b) []) w) ∧ t.obj 3 = some (.stay 0 (ptrV b))) →
      a'.defers = [] ∧ ∃ v, (results fn a'.tmps).run P w' = .ok v w' ∧ ∃ v', Ending.returned v = .returned v' ∧ Moved w w' b ty u i' h' ∧ FreshB N0 w.heap.size w' v' av objs := by
    rintro ⟨acc, h1, rfl, hacc, h2, h3, h4⟩
    obtain ⟨vs, q1, ps, g, hav⟩ := ret_good hT r' h1
    obtain ⟨pv1, vs1, p1, ⟨b1, arr, e1, e2, e3, e4⟩, bl1⟩ := r'.obj 0 _ h2
    obtain ⟨pv3, vs3, p3, at3, _⟩ := r'.obj 3 _ h4
    obtain ⟨_, us, p4⟩ := at3
    rw [p1] at p4
    cases p4
    cases e1
    obtain ⟨pv2, vs2, p2, at2, _⟩ := r'.obj 1 _ h3
    have harr : arr = curV u i' h' := by
      have hl : arr.toList = [u, .int .i64 i', .int .i64 h'] := by
        generalize arr.toList = l at e4
        match l, e4 with
        | [x, y, z], ⟨⟨hx, _⟩, hy, hz, _⟩ => rw [show x = _ from hx, show y = _ from hy, show z = _ from hz]; rfl
      apply Array.toList_inj.1
      rw [hl]; rfl
    subst harr
    have hrest : ∀ x, away w b x → w'.heap[x]? = w.heap[x]? := fun x hx => (at2.2 x (hap x hx)).2
    refine ⟨r'.defers, packV vs, results_ok hrs q1, packV vs, rfl, ⟨r'.below.os, r'.below.tape, r'.below.output, r'.below.size, hrest, e3⟩, ps, by simp [g.len], hav, ?_, ?_⟩
    · intro j o p hj hp
      rw [List.getElem?_map, Option.map_eq_some_iff] at hj
      obtain ⟨q, hq, rfl⟩ := hj
      obtain ⟨g1, g2, g3⟩ := g.at_ j q p hq hp
      refine ⟨g1, fun x hx => ⟨?_, (g2 x hx).2⟩⟩
      have hqa := List.all_eq_true.1 hacc q (List.mem_of_getElem? hq)
      rw [Bool.and_eq_true] at hqa
      obtain ⟨_, hqa⟩ := hqa
      cases hid : q.2 with
      | none => rw [hid] at hqa; cases hqa
      | some id =>
        rw [hid] at hqa g3
        have hid0 : id ≠ 0 := by simpa using hqa
        obtain ⟨⟨o1, ho1, how⟩, hβ1⟩ := g3
        by_cases hlt : w.heap.size ≤ x
        · exact hlt
        · exfalso
          by_cases hxb : x = b
          · subst hxb
            exact hid0 (r'.disj id 0 o1 _ p.1 p.2 _ _ x ho1 h2 hβ1 p1 (by rw [how]; exact hx) (.inl rfl))
          · exact (at2.2 x (hap x ⟨by omega, hxb⟩)).1.2 ⟨id, o1, p.1, p.2, ho1, hβ1, by rw [how]; exact hx⟩
    · have := (g.fresh r' hav)
      intro j j' o o' p p' x hj hj' hp hp' hx hx'
      rw [List.getElem?_map, Option.map_eq_some_iff] at hj hj'
      obtain ⟨q, hq, rfl⟩ := hj
      obtain ⟨q', hq', rfl⟩ := hj'
      obtain ⟨_, _, h3⟩ := g.at_ j q p hq hp
      obtain ⟨_, _, h3'⟩ := g.at_ j' q' p' hq' hp'
      refine g.nd j j' q q' hq hq' ?_
      have hqa := List.all_eq_true.1 hacc q (List.mem_of_getElem? hq)
      have hqa' := List.all_eq_true.1 hacc q' (List.mem_of_getElem? hq')
      rw [Bool.and_eq_true] at hqa hqa'
      cases e : q.2 with
      | none => rw [e] at hqa; cases hqa.2
      | some id =>
        cases e' : q'.2 with
        | none => rw [e'] at hqa'; cases hqa'.2
        | some id' =>
          rw [e] at h3; rw [e'] at h3'
          obtain ⟨⟨o1, ho1, hw1⟩, hβ1⟩ := h3
          obtain ⟨⟨o2, ho2, hw2⟩, hβ2⟩ := h3'
          exact congrArg some (r'.disj id id' o1 o2 _ _ _ _ x ho1 ho2 hβ1 hβ2 (by rw [hw1]; exact hx) (by rw [hw2]; exact hx'))
  cases ex with
  | ret => exact fin hq
  | normal => exact fin hq
  | exit id => exact hq.elim
  | goto l => exact hq.elim
  | panic ch => exact hq.elim
  | outgrown => exact hq.elim

/-! ### The other arguments as the function sees them -/

def mqC (s : AS) : CV → Option (CV × List Nat)
  | .sc x => some (.sc x, [])
  | .imm k xs => some (.imm k xs, [])
  | .iv _ k xs => some (.imm k xs, [])
  | .ref i => match s.obj i with
    | some (.flat _ k xs) => some (.imm k xs, [i])
    | some (.zrow _ k) => some (.imm k [], [i])
    | _ => none
  | _ => none

def mqL (s : AS) : List CV → Option (List CV × List Nat)
  | [] => some ([], [])
  | c :: r => (mqC s c).bind fun d => (mqL s r).map fun e => (d.1 :: e.1, d.2 ++ e.2)

def mqA (s : AS) : AV → Option (AV × List Nat)
  | .one c => (mqC s c).map fun d => (.one d.1, d.2)
  | .agg cs => (mqL s cs).map fun d => (.agg d.1, d.2)
  | _ => none

def mqAs (s : AS) : List AV → Option (List AV × List Nat)
  | [] => some ([], [])
  | c :: r => (mqA s c).bind fun d => (mqAs s r).map fun e => (d.1 :: e.1, d.2 ++ e.2)

theorem mqC_congr {c : CV} {x : CV × List Nat} (h : mqC s c = some x) (ha : ∀ i ∈ x.2, s'.obj i = s.obj i) : mqC s' c = some x := by
  unfold mqC at h ⊢
  split at h <;> try (exact h)
  split at h
  all_goals first
    | (rename_i ho
       cases h
       simp only [ha _ List.mem_cons_self, ho])
    | cases h

theorem mqL_congr : ∀ {cs : List CV} {x : List CV × List Nat}, mqL s cs = some x → (∀ i ∈ x.2, s'.obj i = s.obj i) → mqL s' cs = some x
  | [], x, h, _ => h
  | c :: cs, x, h, ha => by
    simp only [mqL, Option.bind_eq_some_iff, Option.map_eq_some_iff] at h ⊢
    obtain ⟨y, hy, z, hz, rfl⟩ := h
    exact ⟨y, mqC_congr hy (fun i hi => ha i (by simp [hi])), z, mqL_congr hz (fun i hi => ha i (by simp [hi])), rfl⟩

theorem mqA_congr {c : AV} {x : AV × List Nat} (h : mqA s c = some x) (ha : ∀ i ∈ x.2, s'.obj i = s.obj i) : mqA s' c = some x := by
  cases c with
  | one c =>
    simp only [mqA, Option.map_eq_some_iff] at h ⊢
    obtain ⟨y, hy, rfl⟩ := h
    exact ⟨y, mqC_congr hy ha, rfl⟩
  | agg cs =>
    simp only [mqA, Option.map_eq_some_iff] at h ⊢
    obtain ⟨y, hy, rfl⟩ := h
    exact ⟨y, mqL_congr hy ha, rfl⟩
  | _ => cases h

theorem mqAs_congr : ∀ {cs : List AV} {x : List AV × List Nat}, mqAs s cs = some x → (∀ i ∈ x.2, s'.obj i = s.obj i) → mqAs s' cs = some x
  | [], x, h, _ => h
  | c :: cs, x, h, ha => by
    simp only [mqAs, Option.bind_eq_some_iff, Option.map_eq_some_iff] at h ⊢
    obtain ⟨y, hy, z, hz, rfl⟩ := h
    exact ⟨y, mqA_congr hy (fun i hi => ha i (by simp [hi])), z, mqAs_congr hz (fun i hi => ha i (by simp [hi])), rfl⟩

theorem Imm.up {F F' : Nat → Prop} {k : Nat} {v : Value} {xs : List El} (h : Imm F w k v xs) (hF : ∀ b, blockOf v = some b → F b → F' b) : Imm F' w k v xs := by
  obtain ⟨⟨p, cap, rfl, hle, hc⟩, hf⟩ := h
  refine ⟨⟨p, cap, rfl, hle, ?_⟩, hf⟩
  rcases hc with h0 | ⟨b, off, rfl, hb, hcell⟩
  · exact .inl h0
  · exact .inr ⟨b, off, rfl, hF b rfl hb, hcell⟩

/-- What lies behind an argument lies away from the cursor. -/
theorem away_of (r : Rel N0 W0 s β a w) {id b : Nat} {o : Obj} {vs : List Value} (ho : s.obj id = some o) (hp : β id = some (ptrV b, vs)) {i : Nat} {o' : Obj} {pv' : Value} {vs' : List Value} (hi : s.obj i = some o') (hp' : β i = some (pv', vs')) (hne : i ≠ id) : ∀ x, blockOf pv' = some x → x < w.heap.size → away w b x :=
  fun x hx hlt => ⟨hlt, fun e => hne (r.disj i id o' o pv' vs' _ _ x hi ho hp' hp (.inl hx) (.inl (by rw [e]; rfl)))⟩

theorem mqC_ok (r : Rel N0 W0 s β a w) {id b : Nat} {o : Obj} {vs0 : List Value} (ho : s.obj id = some o) (hbox : ∃ e cs, o = .box e cs) (hp : β id = some (ptrV b, vs0)) {c : CV} {x : CV × List Nat} {v : Value} (h : mqC s c = some x) (hc : CR N0 β (Free s β w) w c v) : CR N0 (at0 (ptrV b) []) (away w b) w x.1 v := by
  have hF : ∀ y, Free s β w y → away w b y := fun y hy => ⟨hy.1, fun e => hy.2 ⟨id, o, _, _, ho, hp, .inl (by rw [e]; rfl)⟩⟩
  have hk : Keep (Free s β w) (away w b) w w := fun y hy => ⟨hF y hy, rfl⟩
  unfold mqC at h
  split at h
  · cases h; exact hc
  · cases h; exact Imm.keep hk hc
  · cases h; exact Imm.keep hk hc.2
  · rename_i i
    obtain ⟨vs', hv, h1c⟩ := hc
    obtain ⟨e1, cs1, rfl⟩ := hbox
    split at h
    · rename_i e k xs hi
      cases h
      obtain ⟨pv, vs, hp2, hat, _⟩ := r.obj i _ hi
      rw [hp2] at hv; cases hv
      have hne : i ≠ id := fun e => by rw [e, ho] at hi; cases hi
      exact (imm_of_owns hat.1 hat.2).up fun y hy hlt => away_of r ho hp hi hp2 hne y hy hlt
    · rename_i e k hi
      cases h
      obtain ⟨pv, vs, hp2, hat, _⟩ := r.obj i _ hi
      rw [hp2] at hv; cases hv
      have hne : i ≠ id := fun e => by rw [e, ho] at hi; cases hi
      exact (imm_of_owns (xs := []) hat.1 (fun e he => by cases he)).up fun y hy hlt => away_of r ho hp hi hp2 hne y hy hlt
    · cases h
  · cases h

theorem mqL_ok (r : Rel N0 W0 s β a w) {id b : Nat} {o : Obj} {vs0 : List Value} (ho : s.obj id = some o) (hbox : ∃ e cs, o = .box e cs) (hp : β id = some (ptrV b, vs0)) : ∀ {cs : List CV} {x : List CV × List Nat} {vs : List Value}, mqL s cs = some x → All2 (CR N0 β (Free s β w) w) cs vs → All2 (CR N0 (at0 (ptrV b) []) (away w b) w) x.1 vs
  | [], x, [], h, _ => by cases h; trivial
  | c :: cs, x, v :: vs, h, ⟨h1, h2⟩ => by
    simp only [mqL, Option.bind_eq_some_iff, Option.map_eq_some_iff] at h
    obtain ⟨y, hy, z, hz, rfl⟩ := h
    exact ⟨mqC_ok r ho hbox hp hy h1, mqL_ok r ho hbox hp hz h2⟩
  | [], _, _ :: _, _, h => h.elim
  | _ :: _, _, [], _, h => h.elim

theorem mqA_ok (r : Rel N0 W0 s β a w) {id b : Nat} {o : Obj} {vs0 : List Value} (ho : s.obj id = some o) (hbox : ∃ e cs, o = .box e cs) (hp : β id = some (ptrV b, vs0)) {c : AV} {x : AV × List Nat} {v : Value} (h : mqA s c = some x) (hc : AR N0 β (Free s β w) w c v) : AR N0 (at0 (ptrV b) []) (away w b) w x.1 v := by
  cases c with
  | one c =>
    simp only [mqA, Option.map_eq_some_iff] at h
    obtain ⟨y, hy, rfl⟩ := h
    exact mqC_ok r ho hbox hp hy hc
  | agg cs =>
    simp only [mqA, Option.map_eq_some_iff] at h
    obtain ⟨y, hy, rfl⟩ := h
    obtain ⟨us, h1, h2⟩ := hc
    exact ⟨us, h1, mqL_ok r ho hbox hp hy h2⟩
  | _ => cases h

theorem mqAs_ok (r : Rel N0 W0 s β a w) {id b : Nat} {o : Obj} {vs0 : List Value} (ho : s.obj id = some o) (hbox : ∃ e cs, o = .box e cs) (hp : β id = some (ptrV b, vs0)) : ∀ {cs : List AV} {x : List AV × List Nat} {vs : List Value}, mqAs s cs = some x → All2 (AR N0 β (Free s β w) w) cs vs → All2 (AR N0 (at0 (ptrV b) []) (away w b) w) x.1 vs
  | [], x, [], h, _ => by cases h; trivial
  | c :: cs, x, v :: vs, h, ⟨h1, h2⟩ => by
    simp only [mqAs, Option.bind_eq_some_iff, Option.map_eq_some_iff] at h
    obtain ⟨y, hy, z, hz, rfl⟩ := h
    exact ⟨mqA_ok r ho hbox hp hy h1, mqAs_ok r ho hbox hp hz h2⟩
  | [], _, _ :: _, _, h => h.elim
  | _ :: _, _, [], _, h => h.elim

/-! ### A call of such a function -/

/-- The cursor's first cell: bytes. -/
def byC : CV → Option (List El)
  | .imm 1 bs => some bs
  | .iv _ 1 bs => some bs
  | _ => none

def callB (ty id base : Nat) (c0 : CV) (av : AV) (objs : List Obj) (i h : Int) (log : List Nat) : Eff :=
  { val := shT base av, sets := objH base objs ++ [(id, some (cur ty c0 i h))], fresh := idsFrom base objs.length, log := id :: log }

theorem EffU_callK (f : FuncId) (fn : Func) (x0 : Operand) (xs : List Operand) (ts : List Nat) (S : SpecB) {ty : Nat} {o : Oper} (ho : Oper.isCall o f (x0 :: xs) ts) (hS : SatB P f ty S) (hf : P.funcs[f]? = some fn) (hb : fn.body.isNone = false) (hn : (fn.name == "runtime.NumGoroutine") = false)
    (hd : Oper.dstOk o s.n = true) (id base : Nat) (c0 : CV) (bs : List El) (i h : Int) (hx0 : s.ev x0 = .one (.ptr id 1 0 0)) (hob : s.obj id = some (cur ty c0 i h)) (log0 : List Nat) (hIm : ∀ (s2 : AS) N0 W0 β a w u b vs, (∀ j ∈ log0, s2.obj j = s.obj j) → Rel N0 W0 s2 β a w → s2.obj id = some (cur ty c0 i h) → β id = some (ptrV b, vs) → CR N0 β (Free s2 β w) w c0 u → Imm (away w b) w 1 u bs) (args : List AV) (log : List Nat) (hargs : mqAs s (xs.map s.ev) = some (args, log)) (av : AV) (objs : List Obj) (i' h' : Int)
    (hSp : S (aC :: args) bs i h av objs i' h') (hpl : plainT av = true) (hpo : objs.all plainO = true) : EffU P o s (callB ty id base c0 av objs i' h' (log0 ++ log)) := by
  intro s2 h1 h2 h3 h4 N0 W0 β a w r K Q hK
  have hops : ∀ x ∈ x0 :: xs, x ∈ o.op.operands := fun x hx => by
    rw [show o.op = _ from ho]
    simp only [Op.operands, Call.operands]
    simp at hx ⊢
    exact .inr hx
  have hev := list_evs (s := s) (s' := s2) h2 hops
  simp only [List.map_cons, List.cons.injEq] at hev
  have hob2 : s2.obj id = some (cur ty c0 i h) := by rw [h3 id (by simp [callB])]; exact hob
  obtain ⟨pv, vs, hp, hat, hbl⟩ := r.obj id _ hob2
  obtain ⟨b, arr, rfl, hNb, hheap, hcs⟩ := hat
  have hbs : b < w.heap.size := (hbl b (.inl rfl)).2
  obtain ⟨u, harr, hcu⟩ : ∃ u, arr = curV u i h ∧ CR N0 β (Free s2 β w) w c0 u := by
    generalize hl : arr.toList = l at hcs
    match l, hcs with
    | [x, y, z], ⟨hx, hy, hz, _⟩ =>
      refine ⟨x, ?_, hx⟩
      apply Array.toList_inj.1
      rw [hl, show y = _ from hy, show z = _ from hz]; rfl
  subst harr
  have hF : ∀ y, Free s2 β w y → away w b y := fun y hy => ⟨hy.1, fun e => hy.2 ⟨id, _, _, _, hob2, hp, .inl (by rw [e]; rfl)⟩⟩
  have him : Imm (away w b) w 1 u bs := hIm s2 N0 W0 β a w u b vs (fun j hj => h3 j (by simp [callB, hj])) r hob2 hp hcu
  have hall : All2 (AR N0 (at0 (ptrV b) []) (away w b) w) (aC :: args) ((x0 :: xs).map a.eval) := by
    refine ⟨?_, mqAs_ok r hob2 ⟨_, _, rfl⟩ hp (mqAs_congr (s' := s2) (by rw [hev.2]; exact hargs) fun j hj => h3 j (by simp [callB, hj])) (all2_ev r xs)⟩
    have hx := r.ev x0
    rw [hev.1, hx0] at hx
    obtain ⟨pv', vs', b', hβ', hcase, hv⟩ := hx
    rw [hp] at hβ'
    cases hβ'
    have hbb : b' = b := by
      rcases hcase with ⟨n, c, e⟩ | e
      · cases e
      · cases e; rfl
    subst hbb
    exact ⟨_, [], b', rfl, .inr rfl, hv⟩
  unfold Oper.wp
  rw [run_isCall ho hf hb hn, Oper.upon_enter]
  refine (hS _ bs i h av objs i' h' hSp N0 w _ b u hNb hbs hheap him hall).mono ?_
  rintro ex w' ⟨v, rfl, hmv, ps, hl, hv, hat2, hdj⟩
  have hg := grownBy_setRow w b (curV u i' h')
  have hrow := setRow_heap w b _ (curV u i' h') ty _ hheap
  have hsz : (w.setRow b (curV u i' h')).heap.size = w.heap.size := by simp [World.setRow]
  have r1 := r.store (id := id) hob2 hp (w' := w.setRow b (curV u i' h')) hg (o' := cur ty c0 i' h') (vs' := vs) (fun F β' hF' hβ' => ⟨b, _, rfl, hNb, hrow, by
    have hk : Keep (Free s2 β w) F w (w.setRow b (curV u i' h')) := fun y hy => ⟨hF' y hy, hg.block y hy.1 (fun e => (hF y hy).2 (by cases e; rfl))⟩
    exact ⟨CR.keep hβ' hk hcu, rfl, rfl, trivial⟩⟩) (fun b hb => hb)
  have hbelow : Below (w.setRow b (curV u i' h')).heap.size (w.setRow b (curV u i' h')) w' := ⟨hmv.os, hmv.tape, hmv.output, by rw [hsz]; exact hmv.size, fun x hx => by
    rw [hsz] at hx
    by_cases hxb : x = b
    · subst hxb; rw [hrow]; exact hmv.cur
    · rw [hg.block x hx (fun e => hxb (by cases e; rfl))]; exact hmv.rest x ⟨hx, hxb⟩⟩
  obtain ⟨r', hext, hnew, hkeep⟩ := r1.allocL (base := base) (objs := objs) (ps := ps) hbelow hl (fun j hj => h4 j hj) (fun j o' p hj hpj => by
    obtain ⟨h5, h6⟩ := hat2 j o' p hj hpj
    have hpo' : plainO o' = true := List.all_eq_true.1 hpo o' (List.mem_of_getElem? hj)
    exact ⟨fun β' F _ _ _ => objAt_base (Nat.le_refl _) hpo' h5, by rw [hsz]; exact h6⟩) hdj
  have hst : ({ s2.setO id (cur ty c0 i' h') with H := objH base objs ++ (s2.setO id (cur ty c0 i' h')).H, used := idsFrom base objs.length ++ (s2.setO id (cur ty c0 i' h')).used } : AS) = { s2 with H := (objH base objs ++ [(id, some (cur ty c0 i' h'))]) ++ s2.H, used := idsFrom base objs.length ++ s2.used } := by
    simp [AS.setO]
  rw [hst] at r'
  have hav := shT_ok (N0 := N0) (F' := Free { s2 with H := (objH base objs ++ [(id, some (cur ty c0 i' h'))]) ++ s2.H, used := idsFrom base objs.length ++ s2.used } ((β.set id (ptrV b, vs)).add base ps) w') hnew hpl hv
  cases hdst : o.dst with
  | none => exact hK ((β.set id (ptrV b, vs)).add base ps) a w' (by rw [hdst]; exact r')
  | some d =>
    refine hK ((β.set id (ptrV b, vs)).add base ps) _ w' ?_
    rw [hdst]
    exact r'.put (d := d) (by have := Oper.dstOk_spec hd d hdst; rw [show s2.n = s.n from h1]; exact this) hav

theorem EffU_callB (f : FuncId) (fn : Func) (x0 : Operand) (xs : List Operand) (ts : List Nat) (S : SpecB) {ty : Nat} {o : Oper} (ho : Oper.isCall o f (x0 :: xs) ts) (hS : SatB P f ty S) (hf : P.funcs[f]? = some fn) (hb : fn.body.isNone = false) (hn : (fn.name == "runtime.NumGoroutine") = false)
    (hd : Oper.dstOk o s.n = true) (id base : Nat) (c0 : CV) (bs : List El) (i h : Int) (hx0 : s.ev x0 = .one (.ptr id 1 0 0)) (hob : s.obj id = some (cur ty c0 i h)) (hc0 : byC c0 = some bs) (args : List AV) (log : List Nat) (hargs : mqAs s (xs.map s.ev) = some (args, log)) (av : AV) (objs : List Obj) (i' h' : Int)
    (hSp : S (aC :: args) bs i h av objs i' h') (hpl : plainT av = true) (hpo : objs.all plainO = true) : EffU P o s (callB ty id base c0 av objs i' h' log) :=
  EffU_callK f fn x0 xs ts S ho hS hf hb hn hd id base c0 bs i h hx0 hob [] (fun s2 N0 W0 β a w u b vs _ r hob2 hp hcu => by
    have hF : ∀ y, Free s2 β w y → away w b y := fun y hy => ⟨hy.1, fun e => hy.2 ⟨id, _, _, _, hob2, hp, .inl (by rw [e]; rfl)⟩⟩
    unfold byC at hc0
    split at hc0
    · cases hc0; exact Imm.keep (fun y hy => ⟨hF y hy, rfl⟩) hcu
    · cases hc0; exact Imm.keep (fun y hy => ⟨hF y hy, rfl⟩) hcu.2
    · cases hc0) args log hargs av objs i' h' hSp hpl hpo

/-! ### The function that makes a cursor -/

def SatN (P : Program) (f : FuncId) (ty : Nat) (S : List El → Int → Int → Prop) : Prop :=
  ∀ bs i h, S bs i h → ∀ w v, Imm (fun b => b < w.heap.size) w 1 v bs → Calls P f #[v] w fun ex w' => Below w.heap.size w w' ∧ ∃ b, ex = .returned (ptrV b) ∧ w.heap.size ≤ b ∧ b < w'.heap.size ∧ w'.heap[b]? = some (.cells (curV v i h) ty (0, 0))

def retOKN (T : Tys) (r : ResultVar) (ty : Nat) (u : Value) (bs : List El) (i h : Int) (e : Exit) (t : AS) : Prop :=
  match e with
  | .ret => ∃ id, resC T t r = .one (.ptr id 1 0 0) ∧ t.obj id = some (cur ty (.iv u 1 bs) i h)
  | _ => False

theorem satN_of {E : Reck} (hT : TOk P T) (hE : E.Ok P) (hm : P.follows .mixedOrders = true) {f : FuncId} {fn : Func} {c : Code} {r : ResultVar} {n ty : Nat} {S : List El → Int → Int → Prop} (K : Nat → List Nat)
    (hf : P.funcs[f]? = some fn) (hb : fn.body = some c) (hrs : fn.results = #[r]) (hn : fn.ntmps = n) (h1n : 1 ≤ n)
    (h : ∀ bs i h, S bs i h → ∀ u, awp P E K c (retOKN T r ty u bs i h) (entryS n [.one (.iv u 1 bs)])) : SatN P f ty S := by
  intro bs i0 h0 hS w v him
  refine calls_of_wp hf hb ?_
  rw [hn]
  have r0 := rel_entry (w := w) (n := n) (args := [.one (.iv v 1 bs)]) (vals := [v]) ⟨⟨rfl, him⟩, trivial⟩ h1n
  refine wp_mono (awp_sound hE hm c (h bs i0 h0 hS v) r0) ?_
  rintro ex a' w' ⟨t, β', r', hq⟩
  cases ex with
  | ret =>
    obtain ⟨id, h1, h2⟩ := hq
    obtain ⟨x, h5, h6⟩ := resC_ok hT r' r (by rw [h1]; intro h; cases h)
    rw [h1] at h6
    obtain ⟨pv, vs, b, hβ, hcase, rfl⟩ := h6
    obtain ⟨pv1, vs1, p1, ⟨b1, arr, e1, e2, e3, e4⟩, bl1⟩ := r'.obj id _ h2
    rw [hβ] at p1; cases p1
    subst e1
    have hbb : b1 = b := by
      rcases hcase with ⟨n, c, e⟩ | e
      · cases e
      · cases e; rfl
    subst hbb
    have hres := results_ok (P := P) (w := w') (fn := fn) (rs := [r]) (tmps := a'.tmps) (vs := [_]) hrs ⟨h5, trivial⟩
    have harr : arr = curV v i0 h0 := by
      have hl : arr.toList = [v, .int .i64 i0, .int .i64 h0] := by
        generalize arr.toList = l at e4
        match l, e4 with
        | [x, y, z], ⟨⟨hx, _⟩, hy, hz, _⟩ => rw [show x = _ from hx, show y = _ from hy, show z = _ from hz]; rfl
      apply Array.toList_inj.1
      rw [hl]; rfl
    subst harr
    exact ⟨r'.defers, _, hres, r'.below, b1, rfl, e2, (bl1 b1 (.inl rfl)).2, e3⟩
  | normal => exact hq.elim
  | exit id => exact hq.elim
  | goto l => exact hq.elim
  | panic ch => exact hq.elim
  | outgrown => exact hq.elim

theorem EffU_callN (f : FuncId) (fn : Func) (x0 : Operand) (ts : List Nat) (S : List El → Int → Int → Prop) {ty : Nat} {o : Oper} (ho : Oper.isCall o f [x0] ts) (hS : SatN P f ty S) (hf : P.funcs[f]? = some fn) (hb : fn.body.isNone = false) (hn : (fn.name == "runtime.NumGoroutine") = false)
    (hd : Oper.dstOk o s.n = true) (id : Nat) (bs : List El) (i h : Int) (hx0 : s.ev x0 = .one (.imm 1 bs)) (hSp : S bs i h) : EffU P o s (newE id (.one (.ptr id 1 0 0)) (cur ty (.imm 1 bs) i h)) := by
  intro s2 h1 h2 h3 h4 N0 W0 β a w r K Q hK
  have hops : ∀ x ∈ [x0], x ∈ o.op.operands := fun x hx => by
    rw [show o.op = _ from ho]
    simp only [Op.operands, Call.operands]
    simp at hx ⊢
    exact .inr hx
  have hev := list_evs (s := s) (s' := s2) h2 hops
  simp only [List.map_cons, List.map_nil, List.cons.injEq, and_true] at hev
  have hx := r.ev x0
  rw [hev, hx0] at hx
  have hid : id ∉ s2.used := h4 id (by simp [newE])
  unfold Oper.wp
  rw [run_isCall ho hf hb hn, Oper.upon_enter]
  refine (hS bs i h hSp w _ (Imm.keep (fun b hb => ⟨hb.1, rfl⟩) hx)).mono ?_
  rintro ex w' ⟨hbelow, b, rfl, hb1, hb2, hheap⟩
  obtain ⟨r', hext, hnew, hkeep⟩ := r.allocL (base := id) (objs := [cur ty (.imm 1 bs) i h]) (ps := [(ptrV b, [])]) hbelow rfl (fun j hj => by
    simp only [List.length_cons, List.length_nil, idsFrom, List.mem_singleton] at hj; subst hj; exact hid) (fun j o' p hj hpj => by
    match j, hj, hpj with
    | 0, hj, hpj =>
      cases hj; cases hpj
      refine ⟨fun β' F hF _ _ => ⟨b, _, rfl, Nat.le_trans r.size0 hb1, hheap, ⟨Imm.keep (fun y hy => ⟨hF y hy, hbelow.block y hy.1⟩) hx, rfl, rfl, trivial⟩⟩, ?_⟩
      rintro y (hy | ⟨hy, _⟩)
      · cases hy; exact ⟨hb1, hb2⟩
      · cases hy
    | j + 1, hj, _ => simp at hj) (fun j j' o1 o2 p p' y hj hj' _ _ _ _ => by
      match j, j', hj, hj' with
      | 0, 0, _, _ => rfl
      | j + 1, _, hj, _ => simp at hj
      | 0, j' + 1, _, hj' => simp at hj')
  cases hdst : o.dst with
  | none => exact hK (β.add id [(ptrV b, [])]) a w' (by rw [hdst]; exact r')
  | some d =>
    refine hK (β.add id [(ptrV b, [])]) _ w' ?_
    rw [hdst]
    exact r'.put (d := d) (by have := Oper.dstOk_spec hd d hdst; rw [show s2.n = s.n from h1]; exact this) ⟨_, _, b, hnew 0 _ rfl, .inr rfl, by simp [ptrV]⟩
end
end Go.Eng
/- The engine, part 36: the steps of a walk for cursors. -/
set_option linter.unusedVariables false
namespace Go.Eng
open Go Go.RowKit

class ConB (P : Program) (f : FuncId) (ty : outParam Nat) (S : outParam SpecB) : Prop where
  ok : SatB P f ty S
  fn : FnOk P f
class ConN (P : Program) (f : FuncId) (ty : outParam Nat) (S : outParam (List El → Int → Int → Prop)) : Prop where
  ok : SatN P f ty S
  fn : FnOk P f
section
variable {P : Program} {T : Tys} {f : FuncId} {fn : Func} {ty : Nat}
theorem conB {S : SpecB} (h : SatB P f ty S) (hf : P.funcs[f]? = some fn) (hb : fn.body.isNone = false := by rfl) (hn : (fn.name == "runtime.NumGoroutine") = false := by rfl) : ConB P f ty S := ⟨h, fn, hf, hb, hn⟩
theorem conN {S : List El → Int → Int → Prop} (h : SatN P f ty S) (hf : P.funcs[f]? = some fn) (hb : fn.body.isNone = false := by rfl) (hn : (fn.name == "runtime.NumGoroutine") = false := by rfl) : ConN P f ty S := ⟨h, fn, hf, hb, hn⟩
end
section
variable {N0 : Nat} {W0 : World} {s s' : AS} {P : Program} {T : Tys} {E : Reck} {ops : Array Oper} {o : Oper} {r : List Oper} {k : AS → Prop} {tr : List (Option Eff)} {kl : List (Option Eff) → AS → Prop}
variable {f : FuncId} {x0 : Operand} {xs : List Operand} {ts : List Nat} {args : List AV} {log : List Nat} {av : AV} {objs : List Obj} {id ty : Nat} {c0 : CV} {bs : List El} {i h i' h' : Int}
theorem yq {S : SpecB} (k0 : walkN P (reck T) ops r s' k) (ho : Oper.isCall o f (x0 :: xs) ts := by rfl) (hS : ConB P f ty S := by infer_instance) (hg : gsay ops s o = some true := by first | rfl | assumption) (hd : Oper.dstOk o s.n = true := by rfl)
    {v0 : AV} (hv0 : s.ev x0 = v0 := by simp [go_sem]; rfl) (hx0 : v0 = .one (.ptr id 1 0 0) := by rfl) {ob : Obj} (hob0 : s.obj id = some ob := by simp [go_sem]; rfl) (hob : ob = cur ty c0 i h := by rfl) (hc0 : byC c0 = some bs := by rfl) (hargs : mqAs s (xs.map s.ev) = some (args, log) := by first | rfl | (simp [go_sem]; exact ⟨rfl, rfl⟩))
    (hSp : S (aC :: args) bs i h av objs i' h' := by ((repeat apply Exists.intro); first | exact ⟨rfl, rfl, rfl, rfl, rfl, rfl, rfl, rfl⟩ | exact ⟨zp, rfl, rfl, rfl, rfl, rfl, rfl, rfl, rfl⟩)) (hpl : plainT av = true := by rfl) (hpo : objs.all plainO = true := by rfl)
    (hfr : freshB s (callB ty id (8 * o.dst.getD 0) c0 av objs i' h' log) = true := by rfl) (hs : s.app o.dst (callB ty id (8 * o.dst.getD 0) c0 av objs i' h' log) = s' := by simp [go_sem]; rfl) : walkN P (reck T) ops (o :: r) s k := by
  obtain ⟨hS, fn, hf, hb, hn⟩ := hS
  exact w_call hg (reck_call ho) (EffU_callB f fn x0 xs ts S ho hS hf hb hn hd id _ c0 bs i h (hv0.trans hx0) (hob0.trans (congrArg some hob)) hc0 args log hargs av objs i' h' hSp hpl hpo) hfr hs k0
theorem yQ {S : SpecB} (k0 : walkL P (reck T) ops r s' (tr ++ [some (callB ty id (8 * o.dst.getD 0) c0 av objs i' h' log)]) kl) (ho : Oper.isCall o f (x0 :: xs) ts := by rfl) (hS : ConB P f ty S := by infer_instance) (hg : gsay ops s o = some true := by first | rfl | assumption) (hd : Oper.dstOk o s.n = true := by rfl)
    {v0 : AV} (hv0 : s.ev x0 = v0 := by simp [go_sem]; rfl) (hx0 : v0 = .one (.ptr id 1 0 0) := by rfl) {ob : Obj} (hob0 : s.obj id = some ob := by simp [go_sem]; rfl) (hob : ob = cur ty c0 i h := by rfl) (hc0 : byC c0 = some bs := by rfl) (hargs : mqAs s (xs.map s.ev) = some (args, log) := by first | rfl | (simp [go_sem]; exact ⟨rfl, rfl⟩))
    (hSp : S (aC :: args) bs i h av objs i' h' := by ((repeat apply Exists.intro); first | exact ⟨rfl, rfl, rfl, rfl, rfl, rfl, rfl, rfl⟩ | exact ⟨zp, rfl, rfl, rfl, rfl, rfl, rfl, rfl, rfl⟩)) (hpl : plainT av = true := by rfl) (hpo : objs.all plainO = true := by rfl)
    (hfr : freshB s (callB ty id (8 * o.dst.getD 0) c0 av objs i' h' log) = true := by rfl) (hs : s.app o.dst (callB ty id (8 * o.dst.getD 0) c0 av objs i' h' log) = s' := by simp [go_sem]; rfl) : walkL P (reck T) ops (o :: r) s tr kl := by
  obtain ⟨hS, fn, hf, hb, hn⟩ := hS
  exact l_call hg (reck_call ho) (EffU_callB f fn x0 xs ts S ho hS hf hb hn hd id _ c0 bs i h (hv0.trans hx0) (hob0.trans (congrArg some hob)) hc0 args log hargs av objs i' h' hSp hpl hpo) hfr hs k0
theorem ym {S : List El → Int → Int → Prop} (k0 : walkN P (reck T) ops r s' k) (ho : Oper.isCall o f [x0] ts := by rfl) (hS : ConN P f ty S := by infer_instance) (hg : gsay ops s o = some true := by first | rfl | assumption) (hd : Oper.dstOk o s.n = true := by rfl)
    {v0 : AV} (hv0 : s.ev x0 = v0 := by simp [go_sem]; rfl) (hx0 : v0 = .one (.imm 1 bs) := by rfl) (hSp : S bs i h := by ((repeat apply Exists.intro); first | exact ⟨rfl, rfl, rfl⟩ | exact ⟨zp, rfl, rfl, rfl⟩))
    (hfr : freshB s (newE (8 * o.dst.getD 0) (.one (.ptr (8 * o.dst.getD 0) 1 0 0)) (cur ty (.imm 1 bs) i h)) = true := by rfl) (hs : s.app o.dst (newE (8 * o.dst.getD 0) (.one (.ptr (8 * o.dst.getD 0) 1 0 0)) (cur ty (.imm 1 bs) i h)) = s' := by simp [go_sem]; rfl) : walkN P (reck T) ops (o :: r) s k := by
  obtain ⟨hS, fn, hf, hb, hn⟩ := hS
  exact w_call hg (reck_call ho) (EffU_callN f fn x0 ts S ho hS hf hb hn hd _ bs i h (hv0.trans hx0) hSp) hfr hs k0
theorem yM {S : List El → Int → Int → Prop} (k0 : walkL P (reck T) ops r s' (tr ++ [some (newE (8 * o.dst.getD 0) (.one (.ptr (8 * o.dst.getD 0) 1 0 0)) (cur ty (.imm 1 bs) i h))]) kl) (ho : Oper.isCall o f [x0] ts := by rfl) (hS : ConN P f ty S := by infer_instance) (hg : gsay ops s o = some true := by first | rfl | assumption) (hd : Oper.dstOk o s.n = true := by rfl)
    {v0 : AV} (hv0 : s.ev x0 = v0 := by simp [go_sem]; rfl) (hx0 : v0 = .one (.imm 1 bs) := by rfl) (hSp : S bs i h := by ((repeat apply Exists.intro); first | exact ⟨rfl, rfl, rfl⟩ | exact ⟨zp, rfl, rfl, rfl⟩))
    (hfr : freshB s (newE (8 * o.dst.getD 0) (.one (.ptr (8 * o.dst.getD 0) 1 0 0)) (cur ty (.imm 1 bs) i h)) = true := by rfl) (hs : s.app o.dst (newE (8 * o.dst.getD 0) (.one (.ptr (8 * o.dst.getD 0) 1 0 0)) (cur ty (.imm 1 bs) i h)) = s' := by simp [go_sem]; rfl) : walkL P (reck T) ops (o :: r) s tr kl := by
  obtain ⟨hS, fn, hf, hb, hn⟩ := hS
  exact l_call hg (reck_call ho) (EffU_callN f fn x0 ts S ho hS hf hb hn hd _ bs i h (hv0.trans hx0) hSp) hfr hs k0
/-- The end of a walk. -/
theorem z_retB {rs : List ResultVar} {av av' : AV} {acc : Acc} {u : Value} {S : Nat → Prop} {W : World} {pv : Value} {e : Exit} (he : e = .ret ∨ e = .normal := by first | exact .inl rfl | exact .inr rfl) (h0 : retA T s rs = some (av', acc) := by simp [go_sem]; first | exact ⟨rfl, rfl⟩ | rfl) (hv : av' = av) (ho : acc.map (·.1) = objs)
    (hc : s.obj 0 = some (cur ty (.iv u 1 bs) i h)) (ha : (acc.all fun p => isFlat p.1 && match p.2 with | some id => id != 0 | none => false) = true := by rfl) (h1 : s.obj 1 = some (.pin S W) := by rfl) (h3 : s.obj 3 = some (.stay 0 pv) := by rfl) : retOKB T rs ty av objs bs i h u S W pv e s := by
  subst hv
  rcases he with rfl | rfl <;> exact ⟨acc, h0, ho, ha, hc, h1, h3⟩
end
attribute [go_sem] callB mqAs mqA mqC mqL
end Go.Eng
/- The engine, part 37: functions that are handed a cursor and hand back rows: what was there is set apart. -/
set_option linter.unusedVariables false
namespace Go.Eng
open Go Go.RowKit

section
variable {N0 : Nat} {W0 : World} {s s' : AS} {β β' : Plc} {a : Act} {w w' : World} {P : Program} {T : Tys}

def entryR (n : Nat) (args : List AV) (o : Obj) (S : Nat → Prop) (W : World) (L : List Nat) (pv : Value) : AS :=
  { n := n, env := numb args 0, H := [(0, some o), (1, some (.pin S W)), (3, some (.stay 0 pv)), (5, some (.res L W))], used := [0, 1, 3, 5] }

def entryQ (pv : Value) (L : List Nat) : Plc := fun i => if i = 0 then some (pv, []) else if i = 1 ∨ i = 3 then some (.slice none 0 0, []) else if i = 5 then some (.slice none 0 0, L.map ptrV) else none

/-- Plain numbers. -/
def scA : AV → Bool
  | .one (.sc _) => true
  | .one (.ptr 0 1 0 0) => true
  | _ => false

def retOKR (T : Tys) (rs : List ResultVar) (ty : Nat) (av : AV) (objs : List Obj) (i h : Int) (u : Value) (S : Nat → Prop) (W : World) (L : List Nat) (pv : Value) (e : Exit) (t : AS) : Prop :=
  match e with
  | .ret | .normal => ∃ acc t', (t' = t ∨ ∃ id, t.thaw id = t') ∧ retA T t' rs = some (av, acc) ∧ acc.map (·.1) = objs ∧ (acc.all fun p => match p.2 with | some id => id != 0 && id != 5 | none => false) = true ∧
      t.obj 0 = some (cur ty (.val u) i h) ∧ t.obj 1 = some (.pin S W) ∧ t.obj 3 = some (.stay 0 pv) ∧ t.obj 5 = some (.res L W)
  | _ => False

theorem thaw_blk (r : Rel N0 W0 s β a w) {id i b : Nat} {o : Obj} {pv : Value} {vs : List Value} (h : (s.thaw id).obj i = some o) (hp : β i = some (pv, vs)) (hb : blks o.own pv vs b) : (∃ o1, s.obj i = some o1 ∧ blks o1.own pv vs b) ∨ Free s β w b := by
  rcases lookO_thawO id s.H i o h with ⟨h1, h2⟩ | ⟨hi, e, e', st, xss, h1, rfl⟩
  · exact .inl ⟨o, h1, hb⟩
  · rcases hb with hb | ⟨_, v, hv, hbv⟩
    · exact .inl ⟨_, h1, .inl hb⟩
    · obtain ⟨pv0, vs0, hp0, hat, _⟩ := r.obj i _ h1
      rw [hp] at hp0; cases hp0
      refine .inr ?_
      obtain ⟨j, hj⟩ := List.getElem?_of_mem hv
      obtain ⟨o, _, hr⟩ := all2_get' j hat.2.1 hj
      cases o with
      | none => rw [show v = _ from hr] at hbv; cases hbv
      | some xs => exact hr.2.2.2 b hbv

theorem ptr_blk {L : List Nat} {b : Nat} (h : ∃ v ∈ L.map ptrV, blockOf v = some b) : b ∈ L := by
  obtain ⟨v, hv, hb⟩ := h
  obtain ⟨x, hx, rfl⟩ := List.mem_map.1 hv
  cases hb; exact hx

theorem rel_entryR {n ty b : Nat} {args : List AV} {vals : List Value} {u : Value} {i h : Int} {L : List Nat} (hNb : N0 ≤ b) (hbs : b < w.heap.size) (hheap : w.heap[b]? = some (.cells (curV u i h) ty (0, 0))) (hu : u.oneCell' = true)
    (hL : ∀ x ∈ L, N0 ≤ x ∧ x < w.heap.size ∧ x ≠ b) (hsc : args.all scA = true) {F : Nat → Prop} (hargs : All2 (AR N0 (at0 (ptrV b) []) F w) args vals) (hn : args.length ≤ n) :
    Rel N0 w (entryR n args (cur ty (.val u) i h) (fun x => x < N0) w L (ptrV b)) (entryQ (ptrV b) L) { tmps := vals.toArray ++ Array.replicate (n - vals.toArray.size) undef, defers := [] } w := by
  have hobj : ∀ j, (entryR n args (cur ty (.val u) i h) (fun x => x < N0) w L (ptrV b)).obj j = if 0 = j then some (cur ty (.val u) i h) else if 1 = j then some (.pin (fun x => x < N0) w) else if 3 = j then some (.stay 0 (ptrV b)) else if 5 = j then some (.res L w) else none := fun j => by
    unfold AS.obj entryR
    simp only [lookO]
  have key : ∀ j o pv vs x, (entryR n args (cur ty (.val u) i h) (fun x => x < N0) w L (ptrV b)).obj j = some o → entryQ (ptrV b) L j = some (pv, vs) → blks o.own pv vs x → (j = 0 ∧ x = b) ∨ (j = 5 ∧ x ∈ L) := by
    intro j o pv vs x hj hp hbl
    rw [hobj] at hj
    unfold entryQ at hp
    split at hj
    · rename_i h0; subst h0; cases hj; simp at hp; obtain ⟨rfl, rfl⟩ := hp
      rcases hbl with hbl | ⟨hbl, _⟩
      · cases hbl; exact .inl ⟨rfl, rfl⟩
      · cases hbl
    · split at hj
      · rename_i h1; subst h1; cases hj; simp at hp; obtain ⟨rfl, rfl⟩ := hp
        rcases hbl with hbl | ⟨hbl, _⟩ <;> cases hbl
      · split at hj
        · rename_i h3; subst h3; cases hj; simp at hp; obtain ⟨rfl, rfl⟩ := hp
          rcases hbl with hbl | ⟨hbl, _⟩ <;> cases hbl
        · split at hj
          · rename_i h5; subst h5; cases hj; simp at hp; obtain ⟨rfl, rfl⟩ := hp
            rcases hbl with hbl | ⟨_, hbl⟩
            · cases hbl
            · exact .inr ⟨rfl, ptr_blk (by simpa using hbl)⟩
          · cases hj
  have hheld : ∀ x, x < N0 → ¬ Held (entryR n args (cur ty (.val u) i h) (fun x => x < N0) w L (ptrV b)) (entryQ (ptrV b) L) x := by
    rintro x hx ⟨j, o, pv, vs, hj, hp, hbl⟩
    rcases key j o pv vs x hj hp hbl with ⟨_, rfl⟩ | ⟨_, hxL⟩
    · omega
    · have := hL x hxL; omega
  exact {
    below := Below.refl _ _
    size0 := by omega
    size := by
      have := hargs.length
      simp [entryR]
      omega
    defers := rfl
    env := fun k => by
      show AR _ _ _ w (look (numb args 0) k) _
      rw [look_numb, if_pos (Nat.zero_le _), Nat.sub_zero]
      cases hk' : args[k]? with
      | none => trivial
      | some v =>
        obtain ⟨x, hx, hr⟩ := All2.get k hargs hk'
        have hx' : (vals.toArray ++ Array.replicate (n - vals.toArray.size) undef).getD k undef = x := by
          have hlt := (List.getElem?_eq_some_iff.1 hx).1
          simp only [Array.getD_eq_getD_getElem?]
          rw [Array.getElem?_append_left (by simpa using hlt)]
          simp [hx]
        rw [hx']
        simp only [Option.getD_some]
        have hs := List.all_eq_true.1 hsc v (List.mem_of_getElem? hk')
        unfold scA at hs
        split at hs
        · exact hr
        · obtain ⟨pv, vs, b', h1, h2, h3⟩ := hr
          unfold at0 at h1
          rw [if_pos rfl] at h1
          cases h1
          exact ⟨_, _, b', by unfold entryQ; rw [if_pos rfl], h2, h3⟩
        · cases hs
    dom := fun id hid => by
      unfold entryR at hid
      simp at hid
      unfold entryQ
      rw [if_neg hid.1, if_neg (by rintro (h | h); exact hid.2.1 h; exact hid.2.2.1 h), if_neg hid.2.2.2]
    hdom := fun id hid => by
      unfold entryR at hid
      simp at hid
      rw [hobj, if_neg (fun h => hid.1 h.symm), if_neg (fun h => hid.2.1 h.symm), if_neg (fun h => hid.2.2.1 h.symm), if_neg (fun h => hid.2.2.2 h.symm)]
    obj := fun id o' hi => by
      have hi0 := hi
      rw [hobj] at hi
      split at hi
      · rename_i h0; subst h0; cases hi
        refine ⟨ptrV b, [], rfl, ⟨b, curV u i h, rfl, hNb, hheap, ⟨⟨rfl, hu⟩, rfl, rfl, trivial⟩⟩, fun x hx => ?_⟩
        rcases hx with hx | ⟨hx, _⟩
        · cases hx; exact ⟨hNb, hbs⟩
        · cases hx
      · split at hi
        · rename_i h0 h1; subst h1; cases hi
          refine ⟨_, [], rfl, ⟨rfl, fun x hs => ⟨⟨by have : N0 ≤ w.heap.size := by omega
                                                     exact Nat.lt_of_lt_of_le hs this, hheld x hs⟩, rfl⟩⟩, fun x hx => ?_⟩
          rcases hx with hx | ⟨hx, _⟩ <;> cases hx
        · split at hi
          · rename_i h0 h1 h3; subst h3; cases hi
            refine ⟨_, [], rfl, ⟨rfl, [], rfl⟩, fun x hx => ?_⟩
            rcases hx with hx | ⟨hx, _⟩ <;> cases hx
          · split at hi
            · rename_i h0 h1 h3 h5; subst h5; cases hi
              refine ⟨_, L.map ptrV, rfl, ⟨rfl, rfl, fun _ _ => rfl⟩, fun x hx => ?_⟩
              rcases hx with hx | ⟨_, hx⟩
              · cases hx
              · have := hL x (ptr_blk hx); exact ⟨this.1, this.2.1⟩
            · cases hi
    disj := fun i1 i2 o1 o2 pv1 vs1 pv2 vs2 x h1 h2 p1 p2 b1 b2 => by
      rcases key i1 o1 pv1 vs1 x h1 p1 b1 with ⟨rfl, e1⟩ | ⟨rfl, e1⟩ <;> rcases key i2 o2 pv2 vs2 x h2 p2 b2 with ⟨rfl, e2⟩ | ⟨rfl, e2⟩
      · rfl
      · exact absurd e1 (hL x e2).2.2
      · exact absurd e2 (hL x e1).2.2
      · rfl }

theorem satB_ofR {E : Reck} (hT : TOk P T) (hE : E.Ok P) (hm : P.follows .mixedOrders = true) {f : FuncId} {fn : Func} {c : Code} {rs : List ResultVar} {n ty : Nat} {S : SpecB} (K : Nat → List Nat)
    (hf : P.funcs[f]? = some fn) (hb : fn.body = some c) (hrs : fn.results = rs.toArray) (hn : fn.ntmps = n)
    (h : ∀ args bs i h av objs i' h', S args bs i h av objs i' h' → args.length ≤ n ∧ args.all scA = true ∧ ∀ u S W L pv, Imm (fun x => S x ∨ x ∈ L) W 1 u bs → awp P E K c (retOKR T rs ty av objs i' h' u S W L pv) (entryR n args (cur ty (.val u) i h) S W L pv)) : SatB P f ty S := by
  intro args bs i h0 av objs i' h' hS N0 w vals b u hNb hbs hheap him hargs
  obtain ⟨hlen, hsc, hw⟩ := h args bs i h0 av objs i' h' hS
  refine calls_of_wp hf hb ?_
  rw [hn]
  let L : List Nat := (List.range w.heap.size).filter fun x => decide (N0 ≤ x ∧ x ≠ b)
  have hLm : ∀ x, x ∈ L ↔ x < w.heap.size ∧ N0 ≤ x ∧ x ≠ b := fun x => by simp [L]
  have hu : u.oneCell' = true := by obtain ⟨⟨p, cap, rfl, _⟩, _⟩ := him; rfl
  have him' : Imm (fun x => x < N0 ∨ x ∈ L) w 1 u bs := him.keep fun x hx => ⟨by
    by_cases hlt : x < N0
    · exact .inl hlt
    · exact .inr ((hLm x).2 ⟨hx.1, by omega, hx.2⟩), rfl⟩
  have r0 := rel_entryR (n := n) (ty := ty) (i := i) (h := h0) hNb hbs hheap hu (L := L) (fun x hx => by have := (hLm x).1 hx; exact ⟨this.2.1, this.1, this.2.2⟩) hsc hargs hlen
  refine wp_mono (awp_sound hE hm c (hw u _ _ _ _ him') r0) ?_
  rintro ex a' w' ⟨t, β', r', hq⟩
  have fin : (∃ acc t', (t' = t ∨ ∃ id, t.thaw id = t') ∧ retA T t' rs = some (av, acc) ∧ acc.map (·.1) = objs ∧ (acc.all fun p => match p.2 with | some id => id != 0 && id != 5 | none => false) = true ∧
      t.obj 0 = some (cur ty (.val u) i' h') ∧ t.obj 1 = some (.pin (fun x => x < N0) w) ∧ t.obj 3 = some (.stay 0 (ptrV b)) ∧ t.obj 5 = some (.res L w)) →
      a'.defers = [] ∧ ∃ v, (results fn a'.tmps).run P w' = .ok v w' ∧ ∃ v', Ending.returned v = .returned v' ∧ Moved w w' b ty u i' h' ∧ FreshB N0 w.heap.size w' v' av objs := by
    rintro ⟨acc, t', ht, h1, rfl, hacc, h2, h3, h4, h5⟩
    have r2 : Rel N0 w t' β' a' w' := by
      rcases ht with rfl | ⟨id, rfl⟩
      · exact r'
      · exact r'.thaw id
    obtain ⟨vs, q1, ps, g, hav⟩ := ret_good hT r2 h1
    obtain ⟨pv1, vs1, p1, ⟨b1, arr, e1, e2, e3, e4⟩, bl1⟩ := r'.obj 0 _ h2
    obtain ⟨pv3, vs3, p3, at3, _⟩ := r'.obj 3 _ h4
    obtain ⟨_, us, p4⟩ := at3
    rw [p1] at p4
    cases p4
    cases e1
    obtain ⟨pv2, vs2, p2, at2, _⟩ := r'.obj 1 _ h3
    obtain ⟨pv5, vs5, p5, ⟨_, rfl, at5⟩, bl5⟩ := r'.obj 5 _ h5
    have harr : arr = curV u i' h' := by
      have hl : arr.toList = [u, .int .i64 i', .int .i64 h'] := by
        generalize arr.toList = l at e4
        match l, e4 with
        | [x, y, z], ⟨⟨hx, _⟩, hy, hz, _⟩ => rw [show x = _ from hx, show y = _ from hy, show z = _ from hz]; rfl
      apply Array.toList_inj.1
      rw [hl]; rfl
    subst harr
    have hrest : ∀ x, away w b x → w'.heap[x]? = w.heap[x]? := fun x hx => by
      by_cases hlt : x < N0
      · exact (at2.2 x hlt).2
      · exact at5 x ((hLm x).2 ⟨hx.1, by omega, hx.2⟩)
    -- a block that is held by no more than a result lies beyond what was there
    have hnew : ∀ x, N0 ≤ x → (∀ j o pv vs, t.obj j = some o → β' j = some (pv, vs) → blks o.own pv vs x → j ≠ 0 ∧ j ≠ 5) → w.heap.size ≤ x := fun x hx hno => by
      by_cases hlt : w.heap.size ≤ x
      · exact hlt
      · exfalso
        by_cases hxb : x = b
        · subst hxb
          exact (hno 0 _ _ _ h2 p1 (.inl rfl)).1 rfl
        · exact (hno 5 _ _ _ h5 p5 (.inr ⟨rfl, ptrV x, List.mem_map.2 ⟨x, (hLm x).2 ⟨by omega, hx, hxb⟩, rfl⟩, rfl⟩)).2 rfl
    refine ⟨r'.defers, packV vs, results_ok hrs q1, packV vs, rfl, ⟨r'.below.os, r'.below.tape, r'.below.output, r'.below.size, hrest, e3⟩, ps, by simp [g.len], hav, ?_, ?_⟩
    · intro j o p hj hp
      rw [List.getElem?_map, Option.map_eq_some_iff] at hj
      obtain ⟨q, hq, rfl⟩ := hj
      obtain ⟨g1, g2, g3⟩ := g.at_ j q p hq hp
      refine ⟨g1, fun x hx => ⟨?_, (g2 x hx).2⟩⟩
      have hqa := List.all_eq_true.1 hacc q (List.mem_of_getElem? hq)
      cases hid : q.2 with
      | none => rw [hid] at hqa; cases hqa
      | some id =>
        rw [hid] at hqa g3
        simp only [Bool.and_eq_true, bne_iff_ne, ne_eq] at hqa
        obtain ⟨⟨o1, ho1, how⟩, hβ1⟩ := g3
        rw [← how] at hx
        have hx0 := (g2 x (by rw [← how]; exact hx)).1
        refine hnew x hx0 fun j o pv vs hj hpj hbj => ?_
        have hfree : Free t β' w' x → False := fun hf => hf.2 ⟨j, o, pv, vs, hj, hpj, hbj⟩
        have hown : (∃ o2, t.obj id = some o2 ∧ blks o2.own p.1 p.2 x) → j = id := fun ⟨o2, ho2, hb2⟩ => r'.disj j id o o2 pv vs p.1 p.2 x hj ho2 hpj hβ1 hbj hb2
        have : j = id := by
          rcases ht with rfl | ⟨id', rfl⟩
          · exact hown ⟨o1, ho1, hx⟩
          · rcases thaw_blk r' ho1 hβ1 hx with h | h
            · exact hown h
            · exact (hfree h).elim
        rw [this]; exact hqa
    · intro j j' o o' p p' x hj hj' hp hp' hx hx'
      rw [List.getElem?_map, Option.map_eq_some_iff] at hj hj'
      obtain ⟨q, hq, rfl⟩ := hj
      obtain ⟨q', hq', rfl⟩ := hj'
      obtain ⟨_, _, h3⟩ := g.at_ j q p hq hp
      obtain ⟨_, _, h3'⟩ := g.at_ j' q' p' hq' hp'
      refine g.nd j j' q q' hq hq' ?_
      have hqa := List.all_eq_true.1 hacc q (List.mem_of_getElem? hq)
      have hqa' := List.all_eq_true.1 hacc q' (List.mem_of_getElem? hq')
      cases e : q.2 with
      | none => rw [e] at hqa; cases hqa
      | some id =>
        cases e' : q'.2 with
        | none => rw [e'] at hqa'; cases hqa'
        | some id' =>
          rw [e] at h3; rw [e'] at h3'
          obtain ⟨⟨o1, ho1, hw1⟩, hβ1⟩ := h3
          obtain ⟨⟨o2, ho2, hw2⟩, hβ2⟩ := h3'
          exact congrArg some (r2.disj id id' o1 o2 _ _ _ _ x ho1 ho2 hβ1 hβ2 (by rw [hw1]; exact hx) (by rw [hw2]; exact hx'))
  cases ex with
  | ret => exact fin hq
  | normal => exact fin hq
  | exit id => exact hq.elim
  | goto l => exact hq.elim
  | panic ch => exact hq.elim
  | outgrown => exact hq.elim

theorem EffU_callR (f : FuncId) (fn : Func) (x0 : Operand) (xs : List Operand) (ts : List Nat) (S : SpecB) {ty : Nat} {o : Oper} (ho : Oper.isCall o f (x0 :: xs) ts) (hS : SatB P f ty S) (hf : P.funcs[f]? = some fn) (hb : fn.body.isNone = false) (hn : (fn.name == "runtime.NumGoroutine") = false)
    (hd : Oper.dstOk o s.n = true) (id base : Nat) (u : Value) (bs : List El) (i h : Int) (hx0 : s.ev x0 = .one (.ptr id 1 0 0)) (hob : s.obj id = some (cur ty (.val u) i h)) {S0 : Nat → Prop} {W : World} {L : List Nat} (h1 : s.obj 1 = some (.pin S0 W)) (h5 : s.obj 5 = some (.res L W)) (him : Imm (fun x => S0 x ∨ x ∈ L) W 1 u bs)
    (args : List AV) (log : List Nat) (hargs : mqAs s (xs.map s.ev) = some (args, log)) (av : AV) (objs : List Obj) (i' h' : Int)
    (hSp : S (aC :: args) bs i h av objs i' h') (hpl : plainT av = true) (hpo : objs.all plainO = true) : EffU P o s (callB ty id base (.val u) av objs i' h' ([1, 5] ++ log)) :=
  EffU_callK f fn x0 xs ts S ho hS hf hb hn hd id base (.val u) bs i h hx0 hob [1, 5] (fun s2 N0 W0 β a w u2 b vs hlog r hob2 hp hcu => by
    obtain ⟨rfl, _⟩ := hcu
    have g1 : s2.obj 1 = some (.pin S0 W) := by rw [hlog 1 (by simp)]; exact h1
    have g5 : s2.obj 5 = some (.res L W) := by rw [hlog 5 (by simp)]; exact h5
    obtain ⟨pv1, vs1, p1, at1, _⟩ := r.obj 1 _ g1
    obtain ⟨pv5, vs5, p5, ⟨_, rfl, at5⟩, bl5⟩ := r.obj 5 _ g5
    refine Imm.keep (fun x hx => ?_) him
    rcases hx with hx | hx
    · obtain ⟨hf1, hh1⟩ := at1.2 x hx
      exact ⟨⟨hf1.1, fun e => hf1.2 ⟨id, _, _, _, hob2, hp, .inl (by rw [e]; rfl)⟩⟩, hh1⟩
    · have hbx : blks (Obj.res L W).own pv5 (L.map ptrV) x := .inr ⟨rfl, ptrV x, List.mem_map.2 ⟨x, hx, rfl⟩, rfl⟩
      refine ⟨⟨(bl5 x hbx).2, fun e => ?_⟩, at5 x hx⟩
      have := r.disj id 5 _ _ _ _ _ _ x hob2 g5 hp p5 (.inl (by rw [e]; rfl)) hbx
      subst this
      rw [g5] at hob2
      cases hob2) args log hargs av objs i' h' hSp hpl hpo
end

section
variable {s s' : AS} {P : Program} {T : Tys} {E : Reck} {ops : Array Oper} {o : Oper} {r : List Oper} {k : AS → Prop}
variable {f : FuncId} {x0 : Operand} {xs : List Operand} {ts : List Nat} {args : List AV} {log : List Nat} {av : AV} {objs : List Obj} {id ty : Nat} {u : Value} {bs : List El} {i h i' h' : Int}
theorem yh {S : SpecB} {S0 : Nat → Prop} {W : World} {L : List Nat} (k0 : walkN P (reck T) ops r s' k) (ho : Oper.isCall o f (x0 :: xs) ts := by rfl) (hS : ConB P f ty S := by infer_instance) (hg : gsay ops s o = some true := by first | rfl | assumption) (hd : Oper.dstOk o s.n = true := by rfl)
    {v0 : AV} (hv0 : s.ev x0 = v0 := by simp [go_sem]; rfl) (hx0 : v0 = .one (.ptr id 1 0 0) := by rfl) {ob : Obj} (hob0 : s.obj id = some ob := by simp [go_sem]; rfl) (hob : ob = cur ty (.val u) i h := by rfl) (h1 : s.obj 1 = some (.pin S0 W) := by rfl) (h5 : s.obj 5 = some (.res L W) := by rfl) (him : Imm (fun x => S0 x ∨ x ∈ L) W 1 u bs := by assumption) (hargs : mqAs s (xs.map s.ev) = some (args, log) := by first | rfl | (simp [go_sem]; exact ⟨rfl, rfl⟩))
    (hSp : S (aC :: args) bs i h av objs i' h' := by ((repeat apply Exists.intro); first | exact ⟨rfl, rfl, rfl, rfl, rfl, rfl, rfl, rfl⟩ | exact ⟨zp, rfl, rfl, rfl, rfl, rfl, rfl, rfl, rfl⟩)) (hpl : plainT av = true := by rfl) (hpo : objs.all plainO = true := by rfl)
    (hfr : freshB s (callB ty id (8 * o.dst.getD 0) (.val u) av objs i' h' ([1, 5] ++ log)) = true := by rfl) (hs : s.app o.dst (callB ty id (8 * o.dst.getD 0) (.val u) av objs i' h' ([1, 5] ++ log)) = s' := by simp [go_sem]; rfl) : walkN P (reck T) ops (o :: r) s k := by
  obtain ⟨hS, fn, hf, hb, hn⟩ := hS
  exact w_call hg (reck_call ho) (EffU_callR f fn x0 xs ts S ho hS hf hb hn hd id _ u bs i h (hv0.trans hx0) (hob0.trans (congrArg some hob)) h1 h5 him args log hargs av objs i' h' hSp hpl hpo) hfr hs k0
theorem z_retR (j : Nat) {rs : List ResultVar} {av av' : AV} {acc : Acc} {S : Nat → Prop} {W : World} {L : List Nat} {pv : Value} {e : Exit} (he : e = .ret ∨ e = .normal := by first | exact .inl rfl | exact .inr rfl) (h0 : retA T (s.thaw j) rs = some (av', acc) := by simp [go_sem]; first | exact ⟨rfl, rfl⟩ | rfl) (hv : av' = av) (ho : acc.map (·.1) = objs)
    (hc : s.obj 0 = some (cur ty (.val u) i h)) (ha : (acc.all fun p => match p.2 with | some id => id != 0 && id != 5 | none => false) = true := by rfl) (h1 : s.obj 1 = some (.pin S W) := by rfl) (h3 : s.obj 3 = some (.stay 0 pv) := by rfl) (h5 : s.obj 5 = some (.res L W) := by rfl) : retOKR T rs ty av objs i h u S W L pv e s := by
  subst hv
  rcases he with rfl | rfl <;> exact ⟨acc, _, .inr ⟨j, rfl⟩, h0, ho, ha, hc, h1, h3, h5⟩
end
attribute [go_sem] entryR
end Go.Eng
/- The engine, part 38: a window of rows that is read while rows are appended. -/
set_option linter.unusedVariables false
namespace Go.Eng
open Go Go.RowKit

section
variable {N0 : Nat} {W0 : World} {s s' : AS} {β β' : Plc} {a : Act} {w w' : World} {P : Program} {T : Tys} {E : Reck} {K : Nat → List Nat}

/-! ### What is asked of the end may be weakened -/
theorem gwhen_mono {ops : Array Oper} {o : Oper} {A B A' B' : Prop} (hA : A → A') (hB : B → B') (h : gwhen ops s o A B) : gwhen ops s o A' B' := by
  unfold gwhen at h ⊢
  cases hg : o.guard with
  | none => rw [hg] at h; exact hA h
  | some p =>
    obtain ⟨j, want⟩ := p
    rw [hg] at h
    dsimp only at h ⊢
    split at h
    · exact ⟨fun e => hA (h.1 e), fun e => hB (h.2 e)⟩
    · exact hB h
    · exact h.elim
theorem stepE_mono {o : Oper} {k k' : Eff → Prop} (hk : ∀ e, k e → k' e) (h : stepE P E o s k) : stepE P E o s k' := by
  unfold stepE at h ⊢
  cases he : E o s with
  | some e => rw [he] at h; exact ⟨h.1, hk _ h.2⟩
  | none => rw [he] at h; obtain ⟨e, h1, h2, h3⟩ := h; exact ⟨e, h1, h2, hk _ h3⟩
theorem walkN_mono {ops : Array Oper} : ∀ {l : List Oper} {s : AS} {k k' : AS → Prop}, (∀ t, k t → k' t) → walkN P E ops l s k → walkN P E ops l s k'
  | [], s, k, k', hk, h => by rw [walkN_nil] at h ⊢; exact hk _ h
  | o :: r, s, k, k', hk, h => by
    rw [walkN_cons] at h ⊢
    exact gwhen_mono (stepE_mono fun e he => walkN_mono hk he) (fun h => ⟨h.1, walkN_mono hk h.2⟩) h
theorem walkL_mono {ops : Array Oper} : ∀ {l : List Oper} {s : AS} {tr : List (Option Eff)} {k k' : List (Option Eff) → AS → Prop}, (∀ r t, k r t → k' r t) → walkL P E ops l s tr k → walkL P E ops l s tr k'
  | [], s, tr, k, k', hk, h => by rw [walkL_nil] at h ⊢; exact hk _ _ h
  | o :: r, s, tr, k, k', hk, h => by
    rw [walkL_cons] at h ⊢
    exact gwhen_mono (stepE_mono fun e he => walkL_mono hk he) (fun h => ⟨h.1, walkL_mono hk h.2⟩) h
theorem awp_mono : ∀ (c : Code) {Q Q' : Exit → AS → Prop}, (∀ e t, Q e t → Q' e t) → ∀ {s : AS}, awp P E K c Q s → awp P E K c Q' s
  | .skip, Q, Q', hq, s, h => by rw [awp_skip] at h ⊢; exact hq _ _ h
  | .region id ops draw, Q, Q', hq, s, h => by
    cases draw with
    | true => rw [awp_draw] at h ⊢; exact walkL_mono (fun _ _ h => ⟨h.1, hq _ _ h.2⟩) h
    | false => rw [awp_region] at h ⊢; exact walkN_mono (fun _ h => hq _ _ h) h
  | .seq x y, Q, Q', hq, s, h => by
    rw [awp_seq] at h ⊢
    refine awp_mono x (fun e t h => ?_) h
    cases e with
    | normal => exact awp_mono y hq h
    | _ => exact hq _ _ h
  | .cond c x y, Q, Q', hq, s, h => by
    rw [awp_cond] at h ⊢
    split at h
    · exact ⟨fun e => awp_mono x hq (h.1 e), fun e => awp_mono y hq (h.2 e)⟩
    · exact h.elim
  | .block id c, Q, Q', hq, s, h => by
    rw [awp_block] at h ⊢
    refine awp_mono c (fun e t h => ?_) h
    cases e with
    | exit id' =>
      dsimp only at h ⊢
      split at h
      · rename_i hi; rw [if_pos hi]; exact hq _ _ h
      · rename_i hi; rw [if_neg hi]; exact hq _ _ h
    | _ => exact hq _ _ h
  | .loop c, Q, Q', hq, s, h => by
    rw [awp_loop] at h ⊢
    obtain ⟨ι, S, I, μ, h1, h2⟩ := h
    refine ⟨ι, S, I, μ, h1, fun i hi => awp_mono c (fun e t h => ?_) (h2 i hi)⟩
    cases e with
    | normal => exact h
    | _ => exact hq _ _ h
  | .exit id, Q, Q', hq, s, h => by rw [awp_exit] at h ⊢; exact hq _ _ h
  | .ret, Q, Q', hq, s, h => by rw [awp_ret] at h ⊢; exact hq _ _ h
  | .rangeFunc .., _, _, _, _, h => by unfold awp at h; exact h.elim
  | .scope .., _, _, _, _, h => by unfold awp at h; exact h.elim
  | .label .., _, _, _, _, h => by unfold awp at h; exact h.elim
  | .goto .., _, _, _, _, h => by unfold awp at h; exact h.elim
  | .refuse .., _, _, _, _, h => by unfold awp at h; exact h.elim

/-! ### A window is held fast at a loop's entry -/
def dropE (k : Nat) : List (Nat × AV) → List (Nat × AV)
  | [] => []
  | (j, v) :: r => if j = k then dropE k r else (j, v) :: dropE k r
theorem look_dropE {k k' : Nat} (h : k ≠ k') : ∀ l : List (Nat × AV), look (dropE k l) k' = look l k'
  | [] => rfl
  | (j, v) :: r => by
    have ih := look_dropE h r
    by_cases hj : j = k
    · rw [dropE, if_pos hj, ih, look_cons, if_neg (by omega)]
    · rw [dropE, if_neg hj, look_cons, look_cons, ih]
def snapS (s : AS) (k id e e' : Nat) (u : Value) (l n : Nat) (xss : List (Option (List El))) : AS := { s with env := (k, .one (.val u)) :: dropE k s.env, H := (id, some (.rowsS e e' u l n xss)) :: s.H }

theorem snap_rel (r : Rel N0 W0 s β a w) {k id e e' l n k1 : Nat} {xss : List (Option (List El))} (hk : s.get k = .one (.win id k1 l n)) (hk1 : k1 = 1) (ho : s.obj id = some (.rows e e' (.loc true) xss)) : ∃ u, Rel N0 W0 (snapS s k id e e' u l n xss) β a w := by
  subst hk1
  have hv := r.env k
  rw [hk] at hv
  obtain ⟨p, m, cap, vs, hp, hln, p', cap', hu, hcap, hw⟩ := hv
  obtain ⟨pv, vs', hp2, hat, hbl⟩ := r.obj id _ ho
  rw [hp] at hp2; cases hp2
  obtain ⟨p0, c0, he0, hc0⟩ := owns_len hat.1
  cases he0
  refine ⟨a.tmps.getD k undef, ?_⟩
  generalize hval : a.tmps.getD k undef = u at hu
  have hobj : ∀ i, (snapS s k id e e' u l n xss).obj i = if id = i then some (.rowsS e e' u l n xss) else s.obj i := fun i => lookO_cons ..
  have hheld : ∀ b, Held (snapS s k id e e' u l n xss) β b ↔ Held s β b := by
    intro b
    constructor
    · rintro ⟨i, o, pv, vs2, hi, hpi, hb⟩
      rw [hobj] at hi
      split at hi
      · rename_i he; subst he; cases hi
        refine ⟨id, _, pv, vs2, ho, hpi, ?_⟩
        rcases hb with hb | ⟨hb, _⟩
        · exact .inl hb
        · cases hb
      · exact ⟨i, o, pv, vs2, hi, hpi, hb⟩
    · rintro ⟨i, o, pv, vs2, hi, hpi, hb⟩
      by_cases he : id = i
      · subst he
        rw [ho] at hi; cases hi
        refine ⟨id, _, pv, vs2, by rw [hobj, if_pos rfl], hpi, ?_⟩
        rcases hb with hb | ⟨hb, _⟩
        · exact .inl hb
        · cases hb
      · exact ⟨i, o, pv, vs2, by rw [hobj, if_neg he]; exact hi, hpi, hb⟩
  have hF : Free (snapS s k id e e' u l n xss) β w = Free s β w := by
    funext b
    unfold Free
    rw [hheld b]
  exact {
    below := r.below
    size0 := r.size0
    size := r.size
    defers := r.defers
    env := fun k' => by
      rw [hF]
      show AR N0 β (Free s β w) w (look ((k, .one (.val u)) :: dropE k s.env) k') _
      rw [look_cons]
      split
      · rename_i h; subst h; exact ⟨hval, by rw [hu]; rfl⟩
      · rename_i h; rw [look_dropE h]; exact r.env k'
    dom := r.dom
    hdom := fun i hi => by
      rw [hobj]
      split
      · rename_i he; subst he
        have := r.hdom id hi
        rw [ho] at this; cases this
      · exact r.hdom i hi
    obj := fun i o hi => by
      rw [hF]
      rw [hobj] at hi
      split at hi
      · rename_i he; subst he; cases hi
        refine ⟨_, vs, hp, ⟨⟨hat.1, hat.2.1, hat.2.2⟩, hln, p', cap', hu, hcap, hw.imp (fun h => h) ?_⟩, fun b hb => hbl b ?_⟩
        · rintro ⟨b, rfl, rfl⟩
          exact ⟨b, _, rfl, .inl ⟨rfl, by omega⟩⟩
        · rcases hb with hb | ⟨hb, _⟩
          · exact .inl hb
          · cases hb
      · exact r.obj i o hi
    disj := fun i1 i2 o1 o2 pv1 vs1 pv2 vs2 b h1 h2 p1 p2 b1 b2 => by
      have key : ∀ i o pv vs, (snapS s k id e e' u l n xss).obj i = some o → blks o.own pv vs b → ∃ o', s.obj i = some o' ∧ blks o'.own pv vs b := by
        intro i o pv vs hi hb
        rw [hobj] at hi
        split at hi
        · rename_i he; subst he; cases hi
          refine ⟨_, ho, ?_⟩
          rcases hb with hb | ⟨hb, _⟩
          · exact .inl hb
          · cases hb
        · exact ⟨o, hi, hb⟩
      obtain ⟨q1, a1, c1⟩ := key _ _ _ _ h1 b1
      obtain ⟨q2, a2, c2⟩ := key _ _ _ _ h2 b2
      exact r.disj i1 i2 q1 q2 pv1 vs1 pv2 vs2 b a1 a2 p1 p2 c1 c2 }

theorem z_snap {c : Code} {Q : Exit → AS → Prop} (k id : Nat) {e e' l n k1 : Nat} {xss : List (Option (List El))} (h : ∀ u, awp P E K (.loop c) Q (snapS s k id e e' u l n xss)) (hk : s.get k = .one (.win id k1 l n) := by first | rfl | (simp [go_sem]; done) | (simp [go_sem]; rfl)) (hk1 : k1 = 1 := by rfl) (ho : s.obj id = some (.rows e e' (.loc true) xss) := by first | rfl | (simp [go_sem]; done) | (simp [go_sem]; rfl)) : awp P E K (.loop c) Q s := by
  rw [awp_loop]
  have h' : ∀ u, LoopW (awp P E K c) Q (snapS s k id e e' u l n xss) := fun u => by have := h u; rwa [awp_loop] at this
  let ι : Value → Type := fun u => (h' u).choose
  let S : ∀ u, ι u → AS := fun u => (h' u).choose_spec.choose
  let I : ∀ u, ι u → Prop := fun u => (h' u).choose_spec.choose_spec.choose
  let μ : ∀ u, ι u → Nat := fun u => (h' u).choose_spec.choose_spec.choose_spec.choose
  have hp : ∀ u, (∀ N0 W0 β a w, Rel N0 W0 (snapS s k id e e' u l n xss) β a w → ∃ i β', I u i ∧ Rel N0 W0 (S u i) β' a w) ∧
    ∀ i, I u i → awp P E K c (fun e t => match e with | .normal => ∃ j, I u j ∧ μ u j < μ u i ∧ Weak t (S u j) | e => Q e t) (S u i) := fun u => (h' u).choose_spec.choose_spec.choose_spec.choose_spec
  refine ⟨(u : Value) × ι u, fun x => S x.1 x.2, fun x => I x.1 x.2, fun x => μ x.1 x.2, fun N0 W0 β a w r => ?_, ?_⟩
  · obtain ⟨u, r'⟩ := snap_rel r hk hk1 ho
    obtain ⟨i, β', hi, r2⟩ := (hp u).1 _ _ _ _ _ r'
    exact ⟨⟨u, i⟩, β', hi, r2⟩
  · rintro ⟨u, i⟩ hi
    refine awp_mono c (fun e t h => ?_) ((hp u).2 i hi)
    cases e with
    | normal => obtain ⟨j, h1, h2, h3⟩ := h; exact ⟨⟨u, j⟩, h1, h2, h3⟩
    | _ => exact h

/-! ### Rows appended under a window -/
theorem Rel.rewriteF (r : Rel N0 W0 s β a w) {id id' : Nat} {o o' : Obj} {pv pv' : Value} {vs vs' : List Value} (ho : s.obj id = some o) (hp : β id = some (pv, vs))
    (hg : w.grownBy w' (blockOf pv)) (hid : s.used.contains id' = false)
    (hat : ∀ F : Nat → Prop, ∀ β' : Plc, (∀ b, Free s β w b → F b) → (∀ b, blockOf pv = some b → ¬ blks o'.own pv' vs' b → F b) → (∀ i x, β i = some x → β' i = some x) → ObjAt N0 β' F w' pv' vs' o')
    (hbl : ∀ b, blks o'.own pv' vs' b → b < w'.heap.size ∧ (w.heap.size ≤ b ∨ blks o.own pv vs b)) :
    Rel N0 W0 ((s.kill id).new id' o') (β.set id' (pv', vs')) a w' := by
  obtain ⟨hβn, hOn⟩ := r.fresh_of hid
  have hne : id ≠ id' := fun e => by subst e; rw [hβn] at hp; cases hp
  obtain ⟨pv0, vs0, hp0, _, hr0⟩ := r.obj id o ho
  rw [hp] at hp0; cases hp0
  have hrow : ∀ b, blockOf pv = some b → N0 ≤ b := fun b hb => (hr0 b (.inl hb)).1
  have hb : ∀ b, b < w.heap.size → ¬ blockOf pv = some b → w'.heap[b]? = w.heap[b]? := fun b hlt hn => hg.block b hlt (fun e => hn e.symm)
  have hset : ∀ i, i ≠ id' → β.set id' (pv', vs') i = β i := fun i hi => by simp [Plc.set, hi]
  have hsame : β.set id' (pv', vs') id' = some (pv', vs') := by simp [Plc.set]
  have hobj : ∀ i, ((s.kill id).new id' o').obj i = if id' = i then some o' else if id = i then none else s.obj i := fun _ => rfl
  have hext : ∀ i x, β i = some x → β.set id' (pv', vs') i = some x := fun i x hx => by
    by_cases hi : i = id'
    · subst hi; rw [hβn] at hx; cases hx
    · rw [hset i hi]; exact hx
  have hsz := hg.size
  have hheld : ∀ b, b < w.heap.size → ¬ Held s β b → ¬ Held ((s.kill id).new id' o') (β.set id' (pv', vs')) b := by
    rintro b hlt hn ⟨i, o2, pv2, vs2, ho2, hp2, hbl2⟩
    rw [hobj] at ho2
    split at ho2
    · rename_i hi; subst hi; cases ho2
      rw [hsame] at hp2; cases hp2
      rcases (hbl b hbl2).2 with h | h
      · omega
      · exact hn ⟨id, o, pv, vs, ho, hp, h⟩
    · rename_i hi
      split at ho2
      · cases ho2
      · rw [hset i (fun e => hi e.symm)] at hp2
        exact hn ⟨i, o2, pv2, vs2, ho2, hp2, hbl2⟩
  have hloose : ∀ b, blockOf pv = some b → ¬ blks o'.own pv' vs' b → Free ((s.kill id).new id' o') (β.set id' (pv', vs')) w' b := by
    intro b hb0 hn
    refine ⟨Nat.lt_of_lt_of_le (hr0 b (.inl hb0)).2 hsz, ?_⟩
    rintro ⟨i, o2, pv2, vs2, ho2, hp2, hbl2⟩
    rw [hobj] at ho2
    split at ho2
    · rename_i hi; subst hi; cases ho2
      rw [hsame] at hp2; cases hp2
      exact hn hbl2
    · rename_i hi
      split at ho2
      · cases ho2
      · rename_i hi2
        rw [hset i (fun e => hi e.symm)] at hp2
        exact hi2 (r.disj id i o o2 pv vs pv2 vs2 b ho ho2 hp hp2 (.inl hb0) hbl2)
  have hbelow : Below N0 W0 w' := r.below.trans ⟨hg.os, hg.tape, hg.output, hg.size, fun k hk => hb k (by have := r.size0; omega) (fun e => by have := hrow k e; omega)⟩
  refine r.master (s' := (s.kill id).new id' o') (β' := β.set id' (pv', vs')) rfl rfl hbelow hsz (fun i pv2 vs2 h => ⟨vs2, hext _ _ h⟩) ?_ (fun b hlt hn => ⟨hb b hlt (fun e => hn ⟨id, o, pv, vs, ho, hp, .inl e⟩), hheld b hlt hn⟩) ?_ ?_
  · intro i hi
    have hi' : i ≠ id' ∧ i ∉ s.used := by simpa [AS.new, AS.kill] using hi
    refine ⟨by rw [hset i hi'.1]; exact r.dom i hi'.2, ?_⟩
    rw [hobj, if_neg (Ne.symm hi'.1)]
    split
    · rfl
    · exact r.hdom i hi'.2
  · intro i o2 ho2
    rw [hobj] at ho2
    split at ho2
    · rename_i hi; subst hi; cases ho2
      refine .inr ⟨pv', vs', hsame, hat _ _ (fun b hf => ⟨Nat.lt_of_lt_of_le hf.1 hsz, hheld b hf.1 hf.2⟩) hloose hext, fun b hbb => ⟨?_, (hbl b hbb).1⟩⟩
      rcases (hbl b hbb).2 with h | h
      · exact Nat.le_trans r.size0 h
      · exact (hr0 b h).1
    · rename_i hi
      split at ho2
      · cases ho2
      · rename_i hi2
        refine .inl ⟨ho2, hset i (fun e => hi e.symm), fun pv2 vs2 b hp2 hbl2 => ?_⟩
        obtain ⟨pv3, vs3, hp3, _, hr⟩ := r.obj i o2 ho2
        rw [hp2] at hp3; cases hp3
        exact hb b (hr b hbl2).2 (fun e => hi2 (r.disj id i o o2 pv vs pv2 vs2 b ho ho2 hp hp2 (.inl e) hbl2))
  · have key : ∀ i o2 pv2 vs2 b, i ≠ id' → ((s.kill id).new id' o').obj i = some o2 → β.set id' (pv', vs') i = some (pv2, vs2) → blks o2.own pv2 vs2 b → blks o'.own pv' vs' b → False := by
      intro i o2 pv2 vs2 b hi h2 p2 b2 b1
      rw [hobj, if_neg (fun e => hi e.symm)] at h2
      split at h2
      · cases h2
      · rename_i hi2
        rw [hset i hi] at p2
        obtain ⟨pv3, vs3, hp3, _, hr⟩ := r.obj i o2 h2
        rw [p2] at hp3; cases hp3
        rcases (hbl b b1).2 with h | h
        · have := (hr b b2).2; omega
        · exact hi2 (r.disj id i o o2 pv vs pv2 vs2 b ho h2 hp p2 h b2)
    intro i1 i2 o1 o2 pv1 vs1 pv2 vs2 b h1 h2 p1 p2 b1 b2
    by_cases e1 : i1 = id' <;> by_cases e2 : i2 = id'
    · exact e1.trans e2.symm
    · subst e1
      have hh : o1 = o' := by rw [hobj, if_pos rfl] at h1; cases h1; rfl
      rw [hsame] at p1; cases p1; subst hh
      exact (key i2 o2 pv2 vs2 b e2 h2 p2 b2 b1).elim
    · subst e2
      have hh : o2 = o' := by rw [hobj, if_pos rfl] at h2; cases h2; rfl
      rw [hsame] at p2; cases p2; subst hh
      exact (key i1 o1 pv1 vs1 b e1 h1 p1 b1 b2).elim
    · rw [hobj, if_neg (fun e => e1 e.symm)] at h1
      rw [hobj, if_neg (fun e => e2 e.symm)] at h2
      rw [hset i1 e1] at p1
      rw [hset i2 e2] at p2
      split at h1
      · cases h1
      · split at h2
        · cases h2
        · exact r.disj i1 i2 o1 o2 pv1 vs1 pv2 vs2 b h1 h2 p1 p2 b1 b2

theorem append_run2 (hT : TOk P T) {t e : Nat} (ht : T t = .sl e) (hok : (T e).ok = true) {ty : Nat} {v xv : Value} {n m : Nat} {xs news : List Value} (hown : w.ownsRow N0 e (kOf T e) v n xs) (hN : N0 ≤ w.heap.size)
    (hsrc : SrcAt w (kOf T e) xv m news) (hle : n + m ≤ 1099511627776) :
    ∃ v' w', (Builtin.append_ #[t, t] ty #[v, xv]).run P w = .ok v' w' ∧ w'.ownsRow N0 e (kOf T e) v' (n + m) (xs ++ news) ∧ w.grownBy w' (blockOf v) ∧ (blockOf v' = blockOf v ∨ blockOf v' = some w.heap.size) ∧ v'.oneCell' = true ∧ (blockOf v' = blockOf v ∨ ∀ b, b < w.heap.size → w'.heap[b]? = w.heap[b]?) := by
  have hu : P.underlying t = some (.slice e) := by have := hT t; rw [ht] at this; exact this.1
  have hs := size_k hT hok w
  obtain ⟨i, z, bytes, hi, hsize, hby, hz, hzs, hpos, hb64⟩ := info_k hT hok
  obtain ⟨hl, h1, hx⟩ := hsrc
  have hown' : v.ownBlock = blockOf v := by
    rcases hown.2 with ⟨rfl, _⟩ | ⟨g, cap, cur, rfl, _⟩ <;> rfl
  have hbytes : (n + m) * bytes ≤ 140737488355328 := by
    have : (n + m) * bytes ≤ 1099511627776 * 64 := Nat.mul_le_mul hle hb64
    omega
  rcases hx with ⟨c, rfl, rfl⟩ | ⟨ad, c, rfl, hnews⟩
  · have hnil : news = [] := List.eq_nil_of_length_eq_zero (by simpa using hl)
    subst hnil
    obtain ⟨p, cap, rfl, hc⟩ := owns_len hown
    exact ⟨_, w, run_append_zero hu hs hc, by simpa using hown, grownBy_refl _ _, .inl rfl, rfl, .inl rfl⟩
  · obtain ⟨v', w', hr, ho', hg', _⟩ := run_append_own (P := P) w N0 t ty e i z (kOf T e) bytes hu hi hz hsize hby hzs hpos v n xs hown ad m c news hl hnews h1 (by unfold maxLen; omega) hbytes hN
    rw [hown'] at hg'
    obtain ⟨p', cap', hv', _⟩ := owns_len ho'
    suffices hs2 : (blockOf v' = blockOf v ∨ blockOf v' = some w.heap.size) ∧ (blockOf v' = blockOf v ∨ ∀ b, b < w.heap.size → w'.heap[b]? = w.heap[b]?) from ⟨v', w', hr, ho', hg', hs2.1, by rw [hv']; rfl, hs2.2⟩
    rcases hown.2 with ⟨rfl, rfl⟩ | ⟨g, cap, cur, rfl, hbg, hgc, hnc, hcm, hcs, htake⟩
    · by_cases hm : m = 0
      · subst hm
        have hnil : news = [] := List.eq_nil_of_length_eq_zero (by simpa using hl)
        subst hnil
        have : (Builtin.append_ #[t, t] ty #[.slice none 0 0, .slice (some ad) 0 c]).run P w = .ok (.slice none 0 0) w := by
          have hf := run_firstCells_some (P := P) w (kOf T e) 0 ad 0 c [] (by simp) (fun j v h => by simp at h)
          simp [Builtin.append_, run_underlying hu, hs, Builtin.lenOf, hf]
        rw [this] at hr
        cases hr
        exact ⟨.inl rfl, .inl rfl⟩
      · have := run_append_nil (P := P) w t ty e i z hu hi hz ad m c news (by rw [hsize]; exact hl) hnews (by omega) (by omega) (by rw [hby]; simp only [Nat.zero_add] at hbytes; omega)
        rw [this] at hr
        cases hr
        exact ⟨.inr rfl, .inr fun b hb => (below_alloc w _).block b hb⟩
    · by_cases hroom : n + m ≤ cap
      · have hfit : n * i.size + news.length ≤ cur.size := by rw [hl, hcs, hsize, ← Nat.add_mul]; exact Nat.mul_le_mul_right _ hroom
        have := run_append_room (P := P) w t ty e i hu hi g n cap cur hgc ad m c news (by rw [hsize]; exact hl) hnews h1 hroom hfit
        rw [this] at hr
        cases hr
        exact ⟨.inl rfl, .inl rfl⟩
      · have := run_append_grow (P := P) w t ty e i z hu hi hz ⟨g, 0, none⟩ n cap xs (by rw [hsize]; exact hown.1) (hown.cells (g := g) rfl) ad m c news (by rw [hsize]; exact hl) hnews (by omega) (by omega) (growslice_fits (by omega) (by rw [hby]; exact hbytes))
        rw [this] at hr
        cases hr
        exact ⟨.inr rfl, .inr fun b hb => (below_alloc w _).block b hb⟩


theorem EffU_appS (hT : TOk P T) {o : Oper} {t e e' : Nat} {x y : Operand} {id idc id2 n l : Nat} {u : Value} {xss : List (Option (List El))} {xs : List El} (ho : o.op = .call ⟨.builtin .append, #[x, y], #[t, t]⟩) (hd : Oper.dstOk o s.n = true) (hst : T t = .sl e) (hse : T e = .sl e')
    (hx : s.ev x = .one (.ref id)) (hob : s.obj id = some (.rowsS e e' u l n xss)) (hy : s.ev y = .one (.ref idc)) (hoc : s.obj idc = some (.cvs e [.ref id2])) (ho2 : s.obj id2 = some (.flat e' 1 xs)) (hne : id ≠ id2) (hx0 : xs.length ≠ 0) (hle : xss.length + 1 ≤ 1099511627776) :
    EffU P o s { val := .one (.ref (newId o)), sets := [(newId o, some (.rowsS e e' u l n (xss ++ [some xs]))), (id, none), (id2, none)], fresh := [newId o], log := [id, idc, id2] } := by
  intro s2 h1 h2 h3 h4
  have hx2 : s2.ev x = .one (.ref id) := (slots_ev h2 (by rw [ho]; simp [Op.operands, Call.operands])).trans hx
  have hy2 : s2.ev y = .one (.ref idc) := (slots_ev h2 (by rw [ho]; simp [Op.operands, Call.operands])).trans hy
  have hob2 : s2.obj id = some (.rowsS e e' u l n xss) := (h3 id (by simp)).trans hob
  have hoc2 : s2.obj idc = some (.cvs e [.ref id2]) := (h3 idc (by simp)).trans hoc
  have ho22 : s2.obj id2 = some (.flat e' 1 xs) := (h3 id2 (by simp)).trans ho2
  have hid : newId o ∉ s2.used := h4 _ (by simp)
  have hid' : s2.used.contains (newId o) = false := by simpa using hid
  refine OpOK.turn (by rw [h1]; exact Oper.dstOk_spec hd) fun N0 W0 β a w r => ?_
  have hxv := r.ev x
  have hyv := r.ev y
  rw [hx2] at hxv
  rw [hy2] at hyv
  obtain ⟨vs0, hp0, hone⟩ := hxv
  generalize hxe : a.eval x = xv at hp0 hone
  generalize hye : a.eval y = yv at hyv
  have hsrc0 : rSrcR s2 (.loc true) e e' (.one (.ref idc)) = some (.loc true, [some xs], some id2, [idc, id2]) := by
    have hx0' : xs ≠ [] := fun h => hx0 (by rw [h]; rfl)
    simp [rSrcR, rowIn, hoc2, ho22, Md.strict, hx0']
  obtain ⟨us, hsrc, hul, hmo, hrows, hdis, _, _⟩ := rSrcR_ok r (fun st h => by cases h) hsrc0 hyv
  have hk1 : kOf T e = 1 := by unfold kOf; rw [hse]
  have hok : (T e).ok = true := by rw [hse]; rfl
  have r1 := r.killS (some id2)
  have ho1 : (killS s2 (some id2)).obj id = some (.rowsS e e' u l n xss) := by
    rw [killS_obj, if_neg (fun h => hne (Option.some.inj h).symm)]; exact hob2
  obtain ⟨pv, vs, hp, hat, _⟩ := r1.obj id _ ho1
  rw [hp0] at hp; cases hp
  obtain ⟨⟨hown, hrows0, has⟩, hln, p, cap, hu, hcap, hsnap⟩ := hat
  have hvl : vs0.length = xss.length := ownsRow_at hown
  obtain ⟨pv3, vs3, hp3, hat3, _⟩ := r.obj id _ hob2
  rw [hp0] at hp3; cases hp3
  obtain ⟨⟨_, hr03, has3⟩, _⟩ := hat3
  obtain ⟨v', w', hr1, hr2, hr3, hr4, hr5, hr6⟩ := append_run2 (P := P) (ty := o.type) hT hst hok (v := xv) (n := xss.length) (xs := vs0) (by rw [hk1]; exact hown) r.size0 (by rw [hk1]; exact hsrc) (by simp at hul; omega)
  rw [hk1] at hr2
  have hown2 : w'.ownsRow N0 e 1 v' (xss ++ [some xs]).length (vs0 ++ us) := by rw [List.length_append, ← hul]; exact hr2
  obtain ⟨d1, d2⟩ := hdis true rfl
  have r' := r1.rewriteF (id' := newId o) (o' := .rowsS e e' u l n (xss ++ [some xs])) (pv' := v') (vs' := vs0 ++ us) ho1 hp0 hr3 hid' (fun F β' hF hL _ => by
    have hk : Keep (Free (killS s2 (some id2)) β w) F w w' := fun b hb => ⟨hF b hb, hr3.block b hb.1 (fun e => hb.2 ⟨id, _, xv, vs0, ho1, hp0, .inl e.symm⟩)⟩
    refine ⟨⟨hown2, (hrows0.mono fun _ _ _ _ h => RowL.keep hk h).app (hrows.mono fun _ _ _ _ h => RowL.keep hk h), asunder_app has3 d1 d2 (rowM_free hr03)⟩, by rw [List.length_append]; omega, p, cap, hu, hcap, hsnap.imp (fun h => h) ?_⟩
    rintro ⟨b, off, hpb, hb⟩
    refine ⟨b, off, hpb, ?_⟩
    have hat2 : ∀ j x, j < n → (vs0 ++ us)[l + j]? = some x → vs0[l + j]? = some x := fun j x hj hx => by
      rwa [List.getElem?_append_left (by omega)] at hx
    rcases hb with ⟨hb1, hb2⟩ | ⟨hFb, hcells⟩
    · by_cases hsame : blockOf v' = some b
      · exact .inl ⟨hsame, hb2⟩
      · rcases hr6 with h6 | h6
        · exact absurd (h6.trans hb1) hsame
        · refine .inr ⟨hL b hb1 (fun hh => by
            rcases hh with hh | ⟨hh, _⟩
            · exact hsame hh
            · cases hh), fun j x hj hx => ?_⟩
          have hlt : b < w.heap.size := ownBlock_of hown hb1
          have hob3 : xv.ownBlock = some b := by
            obtain ⟨p1, c1, hv1, _⟩ := owns_len hown
            rw [hv1] at hb1 ⊢
            cases p1 <;> simp [blockOf, Value.ownBlock] at hb1 ⊢ <;> exact hb1
          have hc := hown.cells (g := b) hob3 (l + j) x (hat2 j x hj hx)
          subst hb2
          rw [World.cell?_of_block (w := w) (h6 b hlt)]
          rw [Addr.add_lit] at hc
          simpa using hc
    · refine .inr ⟨hF b hFb, fun j x hj hx => ?_⟩
      rw [hk.cell hFb]
      exact hcells j x hj (hat2 j x hj hx)) (fun b hb => by
    rcases hb with hb | ⟨hb, _⟩
    · refine ⟨ownBlock_of hown2 hb, ?_⟩
      rcases hr4 with h4 | h4
      · exact .inr (.inl (by rw [← h4]; exact hb))
      · rw [h4] at hb; cases hb; exact .inl (Nat.le_refl _)
    · cases hb)
  refine ⟨v', w', _, .inl ?_, r', ⟨vs0 ++ us, by simp [Plc.set], hr5⟩⟩
  unfold execOp; rw [ho]
  simp only [resolve, Sem.run_bind, Sem.run_pure, Result.andThen_ok, invoke, builtin, List.map_toArray, List.map_cons, List.map_nil, hxe, hye, hr1]

/-! ### Read through the window -/
def ptrU (u : Value) (i : Nat) : Value := match u with
  | .slice (some ⟨b, off, none⟩) _ _ => .pointer (some ⟨b, off + i, none⟩)
  | v => v

theorem EffU_idxS (hT : TOk P T) {o : Oper} {t e e' : Nat} {x i : Operand} {id n l : Nat} {m : Int} {u : Value} {xss : List (Option (List El))} (ho : o.op = .indexAddr t x i) (hd : Oper.dstOk o s.n = true) (hst : T t = .sl e) (hse : T e = .sl e')
    (hx : s.ev x = .one (.val u)) (hi : s.ev i = .one (.sc (.int m))) (hob : s.obj id = some (.rowsS e e' u l n xss)) (h0 : 0 ≤ m) (h1 : m < n) :
    EffU P o s { val := .one (.val (ptrU u m.toNat)), log := [id] } := by
  intro s2 g1 g2 g3 g4
  have hx2 : s2.ev x = .one (.val u) := (slots_ev g2 (by rw [ho]; simp [Op.operands])).trans hx
  have hi2 : s2.ev i = .one (.sc (.int m)) := (slots_ev g2 (by rw [ho]; simp [Op.operands])).trans hi
  have hob2 : s2.obj id = some (.rowsS e e' u l n xss) := (g3 id (by simp)).trans hob
  refine OpOK.turn (by rw [g1]; exact Oper.dstOk_spec hd) fun N0 W0 β a w r => ?_
  have hxv := r.ev x
  have hiv := r.ev i
  rw [hx2] at hxv
  rw [hi2] at hiv
  obtain ⟨pv, vs, hp, hat, _⟩ := r.obj id _ hob2
  obtain ⟨_, hln, p, cap, hu, hcap, hsnap⟩ := hat
  have hsn := hsnap.resolve_left (by omega)
  obtain ⟨b, off, rfl, _⟩ := hsn
  have hk1 : kOf T e = 1 := by unfold kOf; rw [hse]
  have hok : (T e).ok = true := by rw [hse]; rfl
  have hrun := run_indexAt (w := w) hT hst hok (b := b) (off := off) (len := n) (cap := cap) h0 h1
  rw [hk1, Nat.mul_one] at hrun
  have hxe : a.eval x = .slice (some ⟨b, off, none⟩) n cap := hxv.1.trans hu
  have hie : a.eval i = .int .i64 m := hiv
  refine ⟨.pointer (some ⟨b, off + m.toNat, none⟩), w, β, .inl ?_, r, ?_⟩
  · unfold execOp; rw [ho]
    simp only [Sem.run_bind, hxe, hie, hrun, Result.andThen_ok, Sem.run_pure]
  · subst hu
    exact ⟨rfl, rfl⟩

theorem EffU_loadS (hT : TOk P T) {o : Oper} {t e e' : Nat} {x : Operand} {id n l m : Nat} {u : Value} {xss : List (Option (List El))} {xs : List El} (ho : o.op = .load t x) (hd : Oper.dstOk o s.n = true) (ht : (T t).one = true)
    (hx : s.ev x = .one (.val (ptrU u m))) (hob : s.obj id = some (.rowsS e e' u l n xss)) (h1 : m < n) (hg : xss[l + m]? = some (some xs)) :
    EffU P o s { val := .one (.imm 1 xs), log := [id] } := by
  intro s2 g1 g2 g3 g4
  have hx2 : s2.ev x = .one (.val (ptrU u m)) := (slots_ev g2 (by rw [ho]; simp [Op.operands])).trans hx
  have hob2 : s2.obj id = some (.rowsS e e' u l n xss) := (g3 id (by simp)).trans hob
  refine OpOK.turn (by rw [g1]; exact Oper.dstOk_spec hd) fun N0 W0 β a w r => ?_
  have hxv := r.ev x
  rw [hx2] at hxv
  obtain ⟨pv, vs, hp, hat, _⟩ := r.obj id _ hob2
  obtain ⟨⟨hown, hrows, _⟩, hln, p, cap, hu, hcap, hsnap⟩ := hat
  have hsn := hsnap.resolve_left (by omega)
  obtain ⟨b, off, rfl, hb⟩ := hsn
  obtain ⟨v, hv, hrow⟩ := All2.get (l + m) hrows hg
  have hcell : w.cell? ⟨b, off + m, none⟩ = some v := by
    rcases hb with ⟨hb1, rfl⟩ | ⟨_, hc⟩
    · have hob3 : pv.ownBlock = some b := by
        obtain ⟨p1, c1, hv1, _⟩ := owns_len hown
        rw [hv1] at hb1 ⊢
        cases p1 <;> simp [blockOf, Value.ownBlock] at hb1 ⊢ <;> exact hb1
      have hc := hown.cells (g := b) hob3 _ v hv
      rw [Addr.add_lit] at hc
      simpa using hc
    · exact hc m v h1 hv
  have hxe : a.eval x = .pointer (some ⟨b, off + m, none⟩) := by rw [hxv.1, hu]; rfl
  have hrun := run_load_one (w := w) hT ht hcell
  refine ⟨v, w, β, .inl ?_, r, imm_of_rowL hrow⟩
  unfold execOp; rw [ho]
  simp only [Sem.run_bind, hxe, hrun, Result.andThen_ok, Sem.run_pure]
end

section
variable {s s' : AS} {P : Program} {T : Tys} {ops : Array Oper} {o : Oper} {r : List Oper} {k : AS → Prop} {e e' id n l : Nat} {u : Value} {xss : List (Option (List El))}
theorem y_idxS (hT : TOk P T) (id : Nat) {t : Nat} {x i : Operand} {m : Int} (h0 : 0 ≤ m) (h1 : m < n) (k0 : walkN P (reck T) ops r s' k) (ho : o.op = .indexAddr t x i := by rfl) (hg : gsay ops s o = some true := by first | rfl | assumption) (hn : reck T o s = none := by rfl) (hd : Oper.dstOk o s.n = true := by rfl) (hst : T t = .sl e := by rfl) (hse : T e = .sl e' := by rfl)
    (hx : s.ev x = .one (.val u) := by first | rfl | (simp [go_sem]; done) | (simp [go_sem]; rfl)) (hi : s.ev i = .one (.sc (.int m)) := by first | rfl | (simp [go_sem]; done) | (simp [go_sem]; rfl)) (hob : s.obj id = some (.rowsS e e' u l n xss) := by first | rfl | (simp [go_sem]; done) | (simp [go_sem]; rfl)) (hs : s.app o.dst { val := .one (.val (ptrU u m.toNat)), log := [id] } = s' := by simp [go_sem]; rfl) : walkN P (reck T) ops (o :: r) s k :=
  w_call hg hn (EffU_idxS hT ho hd hst hse hx hi hob h0 h1) rfl hs k0
theorem y_loadS (hT : TOk P T) (id m : Nat) {t : Nat} {x : Operand} {xs : List El} (h1 : m < n) (hgt : xss[l + m]? = some (some xs)) (k0 : walkN P (reck T) ops r s' k) (ho : o.op = .load t x := by rfl) (hg : gsay ops s o = some true := by first | rfl | assumption) (hn : reck T o s = none := by rfl) (hd : Oper.dstOk o s.n = true := by rfl) (ht : (T t).one = true := by rfl)
    (hx : s.ev x = .one (.val (ptrU u m)) := by first | rfl | (simp [go_sem]; done) | (simp [go_sem]; rfl)) (hob : s.obj id = some (.rowsS e e' u l n xss) := by first | rfl | (simp [go_sem]; done) | (simp [go_sem]; rfl)) (hs : s.app o.dst { val := .one (.imm 1 xs), log := [id] } = s' := by simp [go_sem]; rfl) : walkN P (reck T) ops (o :: r) s k :=
  w_call hg hn (EffU_loadS hT ho hd ht hx hob h1 hgt) rfl hs k0
theorem y_appS (hT : TOk P T) (id idc id2 : Nat) {t : Nat} {x y : Operand} {xs : List El} (hx0 : xs.length ≠ 0) (hle : xss.length + 1 ≤ 1099511627776) (k0 : walkN P (reck T) ops r s' k) (ho : o.op = .call ⟨.builtin .append, #[x, y], #[t, t]⟩ := by rfl) (hg : gsay ops s o = some true := by first | rfl | assumption) (hn : reck T o s = none := by rfl) (hd : Oper.dstOk o s.n = true := by rfl) (hst : T t = .sl e := by rfl) (hse : T e = .sl e' := by rfl)
    (hx : s.ev x = .one (.ref id) := by first | rfl | (simp [go_sem]; done) | (simp [go_sem]; rfl)) (hob : s.obj id = some (.rowsS e e' u l n xss) := by first | rfl | (simp [go_sem]; done) | (simp [go_sem]; rfl)) (hy : s.ev y = .one (.ref idc) := by first | rfl | (simp [go_sem]; done) | (simp [go_sem]; rfl)) (hoc : s.obj idc = some (.cvs e [.ref id2]) := by first | rfl | (simp [go_sem]; done) | (simp [go_sem]; rfl)) (ho2 : s.obj id2 = some (.flat e' 1 xs) := by first | rfl | (simp [go_sem]; done) | (simp [go_sem]; rfl)) (hne : id ≠ id2 := by decide)
    (hf : freshB s { val := .one (.ref (newId o)), sets := [(newId o, some (.rowsS e e' u l n (xss ++ [some xs]))), (id, none), (id2, none)], fresh := [newId o], log := [id, idc, id2] } = true := by rfl)
    (hs : s.app o.dst { val := .one (.ref (newId o)), sets := [(newId o, some (.rowsS e e' u l n (xss ++ [some xs]))), (id, none), (id2, none)], fresh := [newId o], log := [id, idc, id2] } = s' := by simp [go_sem]; rfl) : walkN P (reck T) ops (o :: r) s k :=
  w_call hg hn (EffU_appS hT ho hd hst hse hx hob hy hoc ho2 hne hx0 hle) hf hs k0
end
attribute [go_sem] snapS dropE newId
end Go.Eng
/- The engine, part 39: contracts whose results are read only; rows that several objects hold. -/
set_option linter.unusedVariables false
namespace Go.Eng
open Go Go.RowKit

section
variable {N0 : Nat} {W0 : World} {s s' : AS} {β β' : Plc} {a : Act} {w w' : World} {P : Program} {T : Tys}

/-! ### Contracts whose results are values in blocks that the call has made -/
def born (B : Nat) (w : World) (b : Nat) : Prop := B ≤ b ∧ b < w.heap.size

abbrev SpecI := List AV → AV → Prop

def plainI : CV → Bool
  | .sc _ | .nil | .imm _ _ | .imm2 _ => true
  | _ => false
def plainIA : AV → Bool
  | .one c => plainI c
  | _ => false
def plainIT : AV → Bool
  | .tup vs => vs.all plainIA
  | v => plainIA v

def SatI (P : Program) (f : FuncId) (S : SpecI) : Prop :=
  ∀ args av, S args av → plainIT av = true ∧ ∀ w vals, Args w args vals → Calls P f vals.toArray w fun e w' => ∃ v, e = .returned v ∧ Below w.heap.size w w' ∧ AR w.heap.size (fun _ => none) (born w.heap.size w') w' av v

theorem immC_born {B e k n : Nat} {v : Value} {cs : List Value} (h : w.ownsRow B e k v n cs) : ImmC (born B w) w v n cs := by
  rcases h.2 with ⟨rfl, h0⟩ | ⟨g, cap, cur, rfl, hb, hg, hc, hm, hs, ht⟩
  · exact ⟨none, 0, by rw [h0], by omega, .inl h0⟩
  · refine ⟨_, _, rfl, hc, .inr ⟨g, 0, rfl, ⟨hb, (Array.getElem?_eq_some_iff.1 hg).1⟩, fun j u hu => ?_⟩⟩
    have := h.cells (g := g) rfl j u hu
    rwa [show (⟨g, 0, none⟩ : Addr).add j = ⟨g, 0 + j, none⟩ from Addr.add_lit _ _ _] at this

theorem plainI_ok {B B' : Nat} {F F' : Nat → Prop} (hk : Keep F F' w w) {c : CV} {v : Value} (hp : plainI c = true) (h : CR B β F w c v) : CR B' β' F' w c v := by
  cases c with
  | sc x => exact h
  | nil => exact h
  | imm k xs => exact Imm.keep hk h
  | imm2 xss =>
    obtain ⟨vs, h1, h2, h3⟩ := h
    exact ⟨vs, h1, h2.keep hk, fun i u xs hu hx => (h3 i u xs hu hx).keep hk⟩
  | _ => cases hp
theorem plainIA_ok {B B' : Nat} {F F' : Nat → Prop} (hk : Keep F F' w w) {c : AV} {v : Value} (hp : plainIA c = true) (h : DR B β F w c v) : DR B' β' F' w c v := by
  cases c with
  | one c => exact plainI_ok hk hp h
  | _ => cases hp
theorem plainIT_ok {B B' : Nat} {F F' : Nat → Prop} (hk : Keep F F' w w) {c : AV} {v : Value} (hp : plainIT c = true) (h : AR B β F w c v) : AR B' β' F' w c v := by
  cases c with
  | one c => exact plainI_ok hk hp h
  | agg cs => cases hp
  | dead => cases hp
  | tup vs =>
    obtain ⟨us, h1, h2⟩ := h
    exact ⟨us, h1, h2.mono fun c u hm _ hr => plainIA_ok hk (List.all_eq_true.1 hp c hm) hr⟩

/-- c' is what c reads as at the call's end. -/
def frzC (s : AS) : CV → CV → Prop
  | .sc x, c' => c' = .sc x
  | .ref id, c' => match s.obj id with
    | some (.flat _ k xs) => c' = .imm k xs
    | some (.zrow _ _) => c' = .imm2 []
    | some (.rows _ _ (.own _) xss) => ∃ yss, xss = yss.map some ∧ c' = .imm2 yss
    | some (.rows _ _ (.loc _) xss) => ∃ yss, xss = yss.map some ∧ c' = .imm2 yss
    | some (.rowsD _ _ xss) => ∃ yss, xss = yss.map some ∧ c' = .imm2 yss
    | _ => False
  | _, _ => False
def frzA (s : AS) : AV → AV → Prop
  | .one c, .one c' => frzC s c c'
  | _, _ => False
def frzT (T : Tys) (s : AS) (rs : List ResultVar) (av : AV) : Prop :=
  match rs with
  | [x] => frzA s (resC T s x) av
  | rs => ∃ vs, av = .tup vs ∧ All2 (frzA s) (rs.map (resC T s)) vs

theorem imm2_born {B e e' : Nat} {pv : Value} {vs : List Value} {yss : List (List El)} {R : Option (List El) → Value → Prop} (hR : ∀ xs v, R (some xs) v → w.ownsRow B e' 1 v xs.length (cellsOf xs) ∧ Flat 1 xs)
    (h : w.ownsRow B e 1 pv (yss.map some).length vs) (ha : All2 R (yss.map some) vs) : CR N0 β (born B w) w (.imm2 yss) pv := by
  refine ⟨vs, ?_, ?_, fun i u xs hu hx => ?_⟩
  · have := ha.length; simpa using this.symm
  · have := immC_born h; simpa using this
  · obtain ⟨v, hv, hr⟩ := All2.get i ha (x := some xs) (by simp [hx])
    rw [hu] at hv; cases hv
    obtain ⟨h1, h2⟩ := hR _ _ hr
    exact ⟨immC_born h1, h2⟩

theorem frzC_ok (r : Rel N0 W0 s β a w) {c c' : CV} {v : Value} (h : frzC s c c') (hc : CR N0 β (Free s β w) w c v) : CR N0 (fun _ => none) (born N0 w) w c' v ∧ plainI c' = true := by
  cases c with
  | sc x => have h : c' = .sc x := h; subst h; exact ⟨hc, rfl⟩
  | ref id =>
    obtain ⟨vs', hp', _⟩ := hc
    simp only [frzC] at h
    split at h
    · rename_i e k xs ho
      subst h
      obtain ⟨pv, vs, hp, hat, _⟩ := r.obj id _ ho
      rw [hp] at hp'; cases hp'
      exact ⟨⟨immC_born hat.1, hat.2⟩, rfl⟩
    · rename_i e k ho
      subst h
      obtain ⟨pv, vs, hp, hat, _⟩ := r.obj id _ ho
      rw [hp] at hp'; cases hp'
      exact ⟨⟨[], rfl, immC_born hat.1, fun i u xs hu => by simp at hu⟩, rfl⟩
    · rename_i e e' st xss ho
      obtain ⟨yss, rfl, rfl⟩ := h
      obtain ⟨pv, vs, hp, hat, _⟩ := r.obj id _ ho
      rw [hp] at hp'; cases hp'
      exact ⟨imm2_born (fun xs v hr => ⟨hr.1, hr.2.1⟩) hat.1 hat.2.1, rfl⟩
    · rename_i e e' st xss ho
      obtain ⟨yss, rfl, rfl⟩ := h
      obtain ⟨pv, vs, hp, hat, _⟩ := r.obj id _ ho
      rw [hp] at hp'; cases hp'
      exact ⟨imm2_born (fun xs v hr => ⟨hr.1, hr.2.1⟩) hat.1 hat.2.1, rfl⟩
    · rename_i e e' xss ho
      obtain ⟨yss, rfl, rfl⟩ := h
      obtain ⟨pv, vs, hp, hat, _⟩ := r.obj id _ ho
      rw [hp] at hp'; cases hp'
      exact ⟨imm2_born (fun xs v hr => ⟨hr.1, hr.2.1⟩) hat.1 hat.2, rfl⟩
    · exact h.elim
  | _ => exact h.elim

theorem frzA_ok (r : Rel N0 W0 s β a w) {c c' : AV} {v : Value} (h : frzA s c c') (hc : AR N0 β (Free s β w) w c v) : DR N0 (fun _ => none) (born N0 w) w c' v ∧ plainIA c' = true := by
  cases c with
  | one c =>
    cases c' with
    | one c' => exact frzC_ok r h hc
    | _ => exact h.elim
  | _ => exact h.elim

theorem frzL_ok (r : Rel N0 W0 s β a w) : ∀ {cs cs' : List AV} {vs : List Value}, All2 (frzA s) cs cs' → All2 (AR N0 β (Free s β w) w) cs vs → All2 (DR N0 (fun _ => none) (born N0 w) w) cs' vs ∧ cs'.all plainIA = true
  | [], [], [], _, _ => ⟨trivial, rfl⟩
  | c :: cs, c' :: cs', v :: vs, ⟨h1, h2⟩, ⟨h3, h4⟩ => by
    obtain ⟨a1, a2⟩ := frzA_ok r h1 h3
    obtain ⟨b1, b2⟩ := frzL_ok r h2 h4
    exact ⟨⟨a1, b1⟩, by rw [List.all_cons, a2, b2]; rfl⟩
  | [], _ :: _, _, h, _ => h.elim
  | _ :: _, [], _, h, _ => h.elim
  | _ :: _, _ :: _, [], _, h => h.elim
  | [], [], _ :: _, _, h => h.elim

theorem frzA_nd {c c' : AV} (h : frzA s c c') : c ≠ .dead := by rintro rfl; exact h.elim
theorem frzL_nd : ∀ {cs cs' : List AV}, All2 (frzA s) cs cs' → ∀ c ∈ cs, c ≠ .dead
  | c :: cs, c' :: cs', ⟨h1, h2⟩, x, hx => by
    rcases List.mem_cons.1 hx with rfl | hx
    · exact frzA_nd h1
    · exact frzL_nd h2 x hx
  | [], _, _, x, hx => by cases hx
  | _ :: _, [], h, _, _ => h.elim

theorem ret_soundI (hT : TOk P T) (r : Rel N0 W0 s β a w) {rs : List ResultVar} {av : AV} (h : frzT T s rs av) :
    ∃ vs, All2 (fun x v => (match x with | .tmp t => (pure (a.tmps.getD t undef) : Sem Value) | .cell t ty => (do loadVar ty (← asAddr (a.tmps.getD t undef)))).run P w = .ok v w) rs vs ∧ AR N0 (fun _ => none) (born N0 w) w av (packV vs) := by
  unfold frzT at h
  split at h
  · rename_i x
    obtain ⟨v, h1, h2⟩ := resC_ok hT r x (frzA_nd h)
    obtain ⟨h3, h4⟩ := frzA_ok r h h2
    refine ⟨[v], ⟨h1, trivial⟩, ?_⟩
    cases av with
    | one c => exact h3
    | _ => cases h4
  · rename_i hsing
    obtain ⟨cs, rfl, hall⟩ := h
    obtain ⟨vs, h1, h2⟩ := resAll_ok hT r rs (fun x hx => frzL_nd hall _ (List.mem_map.2 ⟨x, hx, rfl⟩))
    obtain ⟨h3, h4⟩ := frzL_ok r hall h2
    refine ⟨vs, h1, ?_⟩
    have hp : packV vs = .tuple vs.toArray := by
      have hl := h1.length
      match vs, rs, hl with
      | [], _, _ => rfl
      | [v], [x], _ => exact (hsing x rfl).elim
      | _ :: _ :: _, _, _ => rfl
    rw [hp]
    exact ⟨vs, rfl, h3⟩

def retOKI (T : Tys) (rs : List ResultVar) (av : AV) (e : Exit) (t : AS) : Prop :=
  match e with
  | .ret | .normal => frzT T t rs av
  | _ => False

theorem satI_of {E : Reck} (hT : TOk P T) (hE : E.Ok P) (hm : P.follows .mixedOrders = true) {f : FuncId} {fn : Func} {c : Code} {rs : List ResultVar} {n : Nat} {S : SpecI} (K : Nat → List Nat)
    (hf : P.funcs[f]? = some fn) (hb : fn.body = some c) (hrs : fn.results = rs.toArray) (hn : fn.ntmps = n)
    (h : ∀ args av, S args av → args.length ≤ n ∧ plainIT av = true ∧ awp P E K c (retOKI T rs av) (entryS n args)) : SatI P f S := by
  intro args av hS
  obtain ⟨hlen, hpl, hw⟩ := h args av hS
  refine ⟨hpl, fun w vals hargs => calls_of_wp hf hb ?_⟩
  rw [hn]
  have r := rel_entry (n := n) hargs hlen
  refine wp_mono (awp_sound hE hm c hw r) ?_
  rintro e a' w' ⟨t, β', r', hq⟩
  have fin : frzT T t rs av → a'.defers = [] ∧ ∃ v, (results fn a'.tmps).run P w' = .ok v w' ∧ ∃ v', Ending.returned v = .returned v' ∧ Below w.heap.size w w' ∧ AR w.heap.size (fun _ => none) (born w.heap.size w') w' av v' := by
    intro h1
    obtain ⟨vs, h2, h3⟩ := ret_soundI hT r' h1
    exact ⟨r'.defers, packV vs, results_ok hrs h2, packV vs, rfl, r'.below, h3⟩
  cases e with
  | normal => exact fin hq
  | ret => exact fin hq
  | exit id => exact hq.elim
  | goto l => exact hq.elim
  | panic ch => exact hq.elim
  | outgrown => exact hq.elim

theorem EffU_callI (f : FuncId) (fn : Func) (xs : List Operand) (ts : List Nat) (S : SpecI) {o : Oper} (ho : Oper.isCall o f xs ts) (hS : SatI P f S) (hf : P.funcs[f]? = some fn) (hb : fn.body.isNone = false) (hn : (fn.name == "runtime.NumGoroutine") = false)
    (hd : Oper.dstOk o s.n = true) (args : List AV) (log : List Nat) (hsn : snapAs T s ts (xs.map s.ev) = some (args, log)) (av : AV) (hSp : S args av) :
    EffU P o s { val := av, log := log } := by
  intro s2 h1 h2 h3 h4 N0 W0 β a w r K Q hK
  have hops : ∀ x ∈ xs, x ∈ o.op.operands := fun x hx => by
    rw [show o.op = _ from ho]
    simp [Op.operands, Call.operands, hx]
  have hsn2 : snapAs T s2 ts (xs.map s2.ev) = some (args, log) := by
    rw [list_evs h2 hops]
    exact snapAs_congr hsn h3
  have hargs := snapAs_ok r hsn2 (all2_ev r xs)
  have hrun : (execOp a.eval o).run P w = .ok (.enter f (xs.map a.eval).toArray) w := by
    have he : execOp a.eval o = callFunc f (#[] ++ (xs.map a.eval).toArray ++ #[]) := by
      unfold execOp
      rw [show o.op = _ from ho]
      simp only [resolve, Act.eval, Deferred.ofValue, List.map_toArray]
      rfl
    rw [he, run_callFunc hf hb hn]
    simp
  unfold Oper.wp
  rw [hrun, Oper.upon_enter]
  obtain ⟨hpl, hcall⟩ := hS args av hSp
  refine (hcall w (xs.map a.eval) hargs).mono ?_
  rintro e w' ⟨v, rfl, hbel, hv⟩
  obtain ⟨r', hext, hnew, hkeep⟩ := r.allocL (base := 0) (objs := []) (ps := []) hbel rfl (fun i hi => by cases hi) (fun j o' p hj => by simp at hj) (fun j j' o o' p p' b hj => by simp at hj)
  have hav : AR N0 (β.add 0 []) (Free { s2 with H := objH 0 [] ++ s2.H, used := idsFrom 0 0 ++ s2.used } (β.add 0 []) w') w' av v := by
    refine plainIT_ok (fun b hb => ⟨⟨hb.2, ?_⟩, rfl⟩) hpl hv
    rintro ⟨id, o2, pv, vs, ho2, hp2, hbl2⟩
    have ho3 : s2.obj id = some o2 := ho2
    obtain ⟨pv3, vs3, hp3, _, hb3⟩ := r.obj id o2 ho3
    have := hext id _ hp3
    rw [hp2] at this; cases this
    have := (hb3 b hbl2).2
    have := hb.1
    omega
  cases hdst : o.dst with
  | none => exact hK (β.add 0 []) a w' (by rw [hdst]; exact r')
  | some d =>
    refine hK (β.add 0 []) _ w' ?_
    rw [hdst]
    exact r'.put (d := d) (by have := Oper.dstOk_spec hd d hdst; rw [show s2.n = s.n from h1]; exact this) hav

/-! ### Rows that several objects hold -/
def srcD (s : AS) (idc e e' : Nat) (news : List (Option (List El))) : Prop :=
  (∃ xs, s.obj idc = some (.cvs e [.row e' (some xs)]) ∧ news = [some xs]) ∨ (∃ st, s.obj idc = some (.rows e e' (.loc st) news)) ∨ s.obj idc = some (.rowsD e e' news)
def tgtD (s : AS) (id e e' : Nat) (xss : List (Option (List El))) : Prop :=
  s.obj id = some (.rowsD e e' xss) ∨ (∃ st, s.obj id = some (.rows e e' (.loc st) xss)) ∨ (xss = [] ∧ ∃ st, s.obj id = some (.rows e e' (.own st) [])) ∨ (xss = [] ∧ s.obj id = some (.zrow e 1))

theorem rowL_one {B e : Nat} {F : Nat → Prop} {st : Bool} {v : Value} {o : Option (List El)} (h : RowL B F w e st v o) : v.oneCell' = true := by
  cases o with
  | none => rw [show v = _ from h]; rfl
  | some xs => obtain ⟨p, cap, hv, _⟩ := owns_len h.1; rw [hv]; rfl
theorem rowLs_one {B e : Nat} {F : Nat → Prop} {st : Bool} {xss : List (Option (List El))} {vs : List Value} (h : All2 (fun o v => RowL B F w e st v o) xss vs) : ∀ u ∈ vs, u.oneCell' = true := fun u hu => by
  obtain ⟨i, hi⟩ := List.getElem?_of_mem hu
  obtain ⟨o, _, hr⟩ := All2.get' i h hi
  exact rowL_one hr

theorem srcD_ok (r : Rel N0 W0 s β a w) {idc e e' : Nat} {news : List (Option (List El))} {yv : Value} (h : srcD s idc e e' news) (hy : AR N0 β (Free s β w) w (.one (.ref idc)) yv) :
    ∃ us, SrcAt w 1 yv us.length us ∧ us.length = news.length ∧ All2 (fun o v => RowL N0 (Free s β w) w e' false v o) news us := by
  obtain ⟨vs', hp', _⟩ := hy
  rcases h with ⟨xs, ho, rfl⟩ | ⟨st, ho⟩ | ho
  · obtain ⟨pv, vs, hp, hat, _⟩ := r.obj idc _ ho
    rw [hp] at hp'; cases hp'
    obtain ⟨hown, hall⟩ := hat
    match vs', hall with
    | [u], ⟨hcu, _⟩ =>
      have hcu : RowL N0 (Free s β w) w e' true u (some xs) := hcu
      exact ⟨[u], ownsRow_src hown (fun x hx => by simp at hx; rw [hx]; exact rowL_one hcu), rfl, hcu.lax, trivial⟩
  · obtain ⟨pv, vs, hp, hat, _⟩ := r.obj idc _ ho
    rw [hp] at hp'; cases hp'
    exact ⟨vs', by rw [ownsRow_at hat.1]; exact ownsRow_src hat.1 (rowLs_one hat.2.1), ownsRow_at hat.1, hat.2.1.mono fun _ _ _ _ h => h.lax⟩
  · obtain ⟨pv, vs, hp, hat, _⟩ := r.obj idc _ ho
    rw [hp] at hp'; cases hp'
    exact ⟨vs', by rw [ownsRow_at hat.1]; exact ownsRow_src hat.1 (rowLs_one hat.2), ownsRow_at hat.1, hat.2⟩

theorem tgtD_ok (r : Rel N0 W0 s β a w) {id e e' : Nat} {xss : List (Option (List El))} (h : tgtD s id e e' xss) :
    ∃ o pv vs us, s.obj id = some o ∧ β id = some (pv, vs) ∧ w.ownsRow N0 e 1 pv xss.length us ∧ All2 (fun o v => RowL N0 (Free s β w) w e' false v o) xss us := by
  rcases h with ho | ⟨st, ho⟩ | ⟨rfl, st, ho⟩ | ⟨rfl, ho⟩
  · obtain ⟨pv, vs, hp, hat, _⟩ := r.obj id _ ho
    exact ⟨_, pv, vs, vs, ho, hp, hat.1, hat.2⟩
  · obtain ⟨pv, vs, hp, hat, _⟩ := r.obj id _ ho
    exact ⟨_, pv, vs, vs, ho, hp, hat.1, hat.2.1.mono fun _ _ _ _ h => h.lax⟩
  · obtain ⟨pv, vs, hp, hat, _⟩ := r.obj id _ ho
    have : vs = [] := by cases vs with | nil => rfl | cons => exact hat.2.1.elim
    subst this
    exact ⟨_, pv, [], [], ho, hp, hat.1, trivial⟩
  · obtain ⟨pv, vs, hp, hat, _⟩ := r.obj id _ ho
    exact ⟨_, pv, vs, [], ho, hp, hat.1, trivial⟩

theorem EffU_appD (hT : TOk P T) {o : Oper} {t e e' : Nat} {x y : Operand} {id idc : Nat} {xss news : List (Option (List El))} (ho : o.op = .call ⟨.builtin .append, #[x, y], #[t, t]⟩) (hd : Oper.dstOk o s.n = true) (hst : T t = .sl e) (hse : T e = .sl e')
    (hx : s.ev x = .one (.ref id)) (hob : tgtD s id e e' xss) (hy : s.ev y = .one (.ref idc)) (hoc : srcD s idc e e' news) (hle : xss.length + news.length ≤ 1099511627776) :
    EffU P o s { val := .one (.ref (newId o)), sets := [(newId o, some (.rowsD e e' (xss ++ news))), (id, none)], fresh := [newId o], log := [id, idc] } := by
  intro s2 h1 h2 h3 h4
  have hx2 : s2.ev x = .one (.ref id) := (slots_ev h2 (by rw [ho]; simp [Op.operands, Call.operands])).trans hx
  have hy2 : s2.ev y = .one (.ref idc) := (slots_ev h2 (by rw [ho]; simp [Op.operands, Call.operands])).trans hy
  have ei : s2.obj id = s.obj id := h3 id (by simp)
  have ec : s2.obj idc = s.obj idc := h3 idc (by simp)
  have hob2 : tgtD s2 id e e' xss := by unfold tgtD at hob ⊢; rw [ei]; exact hob
  have hoc2 : srcD s2 idc e e' news := by unfold srcD at hoc ⊢; rw [ec]; exact hoc
  have hid : newId o ∉ s2.used := h4 _ (by simp)
  have hid' : s2.used.contains (newId o) = false := by simpa using hid
  refine OpOK.turn (by rw [h1]; exact Oper.dstOk_spec hd) fun N0 W0 β a w r => ?_
  have hxv := r.ev x
  have hyv := r.ev y
  rw [hx2] at hxv
  rw [hy2] at hyv
  obtain ⟨vs0, hp0, hone⟩ := hxv
  generalize hxe : a.eval x = xv at hp0 hone
  generalize hye : a.eval y = yv at hyv
  obtain ⟨us, hsrc, hul, hrows⟩ := srcD_ok r hoc2 hyv
  obtain ⟨o0, pv, vs, us0, ho0, hp, hown, hrows0⟩ := tgtD_ok r hob2
  rw [hp0] at hp; cases hp
  have hk1 : kOf T e = 1 := by unfold kOf; rw [hse]
  have hok : (T e).ok = true := by rw [hse]; rfl
  obtain ⟨v', w', hr1, hr2, hr3, hr4, hr5, hr6⟩ := append_run2 (P := P) (ty := o.type) hT hst hok (v := xv) (n := xss.length) (xs := us0) (by rw [hk1]; exact hown) r.size0 (by rw [hk1]; exact hsrc) (by rw [hul]; exact hle)
  rw [hk1] at hr2
  have hown2 : w'.ownsRow N0 e 1 v' (xss ++ news).length (us0 ++ us) := by rw [List.length_append, ← hul]; exact hr2
  have r' := r.rewriteF (id' := newId o) (o' := .rowsD e e' (xss ++ news)) (pv' := v') (vs' := us0 ++ us) ho0 hp0 hr3 hid' (fun F β' hF hL _ => by
    have hk : Keep (Free s2 β w) F w w' := fun b hb => ⟨hF b hb, hr3.block b hb.1 (fun e => hb.2 ⟨id, _, xv, vs0, ho0, hp0, .inl e.symm⟩)⟩
    exact ⟨hown2, (hrows0.mono fun _ _ _ _ h => RowL.keep hk h).app (hrows.mono fun _ _ _ _ h => RowL.keep hk h)⟩) (fun b hb => by
    rcases hb with hb | ⟨hb, _⟩
    · refine ⟨ownBlock_of hown2 hb, ?_⟩
      rcases hr4 with h4 | h4
      · exact .inr (.inl (by rw [← h4]; exact hb))
      · rw [h4] at hb; cases hb; exact .inl (Nat.le_refl _)
    · cases hb)
  refine ⟨v', w', _, .inl ?_, r', ⟨us0 ++ us, by simp [Plc.set], hr5⟩⟩
  unfold execOp; rw [ho]
  simp only [resolve, Sem.run_bind, Sem.run_pure, Result.andThen_ok, invoke, builtin, List.map_toArray, List.map_cons, List.map_nil, hxe, hye, hr1]
end

section
variable {s s' : AS} {P : Program} {T : Tys} {ops : Array Oper} {o : Oper} {r : List Oper} {k : AS → Prop} {kl : List (Option Eff) → AS → Prop} {tr : List (Option Eff)} {e e' : Nat} {xss news : List (Option (List El))}
variable {f : FuncId} {fn : Func} {xs : List Operand} {ts : List Nat} {S : SpecI} {args : List AV} {log : List Nat} {av : AV}
theorem y_appD (hT : TOk P T) (id idc : Nat) {t : Nat} {x y : Operand} (xss news : List (Option (List El))) (hle : xss.length + news.length ≤ 1099511627776) (k0 : walkN P (reck T) ops r s' k) (ho : o.op = .call ⟨.builtin .append, #[x, y], #[t, t]⟩ := by rfl) (hg : gsay ops s o = some true := by first | rfl | assumption) (hn : reck T o s = none := by rfl) (hd : Oper.dstOk o s.n = true := by rfl) (hst : T t = .sl e := by rfl) (hse : T e = .sl e' := by rfl)
    (hx : s.ev x = .one (.ref id) := by first | rfl | (simp [go_sem]; done) | (simp [go_sem]; rfl)) (hob : tgtD s id e e' xss := by first | exact .inl rfl | exact .inr (.inl ⟨_, rfl⟩) | exact .inr (.inr (.inl ⟨rfl, _, rfl⟩)) | exact .inr (.inr (.inr ⟨rfl, rfl⟩))) (hy : s.ev y = .one (.ref idc) := by first | rfl | (simp [go_sem]; done) | (simp [go_sem]; rfl))
    (hoc : srcD s idc e e' news := by first | exact .inl ⟨_, rfl, rfl⟩ | exact .inr (.inl ⟨_, rfl⟩) | exact .inr (.inr rfl))
    (hf : freshB s { val := .one (.ref (newId o)), sets := [(newId o, some (.rowsD e e' (xss ++ news))), (id, none)], fresh := [newId o], log := [id, idc] } = true := by rfl)
    (hs : s.app o.dst { val := .one (.ref (newId o)), sets := [(newId o, some (.rowsD e e' (xss ++ news))), (id, none)], fresh := [newId o], log := [id, idc] } = s' := by simp [go_sem]; rfl) : walkN P (reck T) ops (o :: r) s k :=
  w_call hg hn (EffU_appD hT ho hd hst hse hx hob hy hoc hle) hf hs k0
theorem z_fnI (hS : SatI P f S) (hf : P.funcs[f]? = some fn) (ho : Oper.isCall o f xs ts := by rfl) (hb : fn.body.isNone = false := by rfl) (hn : (fn.name == "runtime.NumGoroutine") = false := by rfl)
    (hg : gsay ops s o = some true := by first | rfl | assumption) (hd : Oper.dstOk o s.n = true := by rfl) (hsn : snapAs T s ts (xs.map s.ev) = some (args, log) := by simp [go_sem]; exact ⟨rfl, rfl⟩) (hSp : S args av)
    (hfr : freshB s { val := av, log := log } = true := by rfl) (hs : s.app o.dst { val := av, log := log } = s' := by simp [go_sem]; rfl) (k0 : walkN P (reck T) ops r s' k) : walkN P (reck T) ops (o :: r) s k :=
  w_call hg (reck_call ho) (EffU_callI f fn xs ts S ho hS hf hb hn hd args log hsn av hSp) hfr hs k0
theorem z_fnIl (hS : SatI P f S) (hf : P.funcs[f]? = some fn) (ho : Oper.isCall o f xs ts := by rfl) (hb : fn.body.isNone = false := by rfl) (hn : (fn.name == "runtime.NumGoroutine") = false := by rfl)
    (hg : gsay ops s o = some true := by first | rfl | assumption) (hd : Oper.dstOk o s.n = true := by rfl) (hsn : snapAs T s ts (xs.map s.ev) = some (args, log) := by simp [go_sem]; exact ⟨rfl, rfl⟩) (hSp : S args av)
    (hfr : freshB s { val := av, log := log } = true := by rfl) (hs : s.app o.dst { val := av, log := log } = s' := by simp [go_sem]; rfl) (k0 : walkL P (reck T) ops r s' (tr ++ [some { val := av, log := log }]) kl) : walkL P (reck T) ops (o :: r) s tr kl :=
  l_call hg (reck_call ho) (EffU_callI f fn xs ts S ho hS hf hb hn hd args log hsn av hSp) hfr hs k0
theorem z_retI {rs : List ResultVar} {e : Exit} (he : e = .ret ∨ e = .normal) (h : frzT T s rs av) : retOKI T rs av e s := by
  rcases he with rfl | rfl <;> exact h
end
end Go.Eng
