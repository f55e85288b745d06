/- The engine, part 26: a law's arguments, opened by the shape of their types. -/
import Derived.Test.YtoanlehkkideiaaE25
import Derived.ChangeArms
import Derived.ChangeSlices
import Derived.WideKeyArgs
set_option linter.unusedVariables false
set_option linter.unusedSimpArgs false
namespace Go.Eng
open Go Go.RowKit Go.ChangeShapes

theorem pick {α : Type} {Q : Nat → α → Prop} : ∀ {n : Nat}, (∀ i, i < n → ∃ y, Q i y) → ∃ ys : List α, ys.length = n ∧ ∀ i y, ys[i]? = some y → Q i y
  | 0, _ => ⟨[], rfl, fun i y h => by simp at h⟩
  | n + 1, h => by
    obtain ⟨ys, hl, hq⟩ := pick (n := n) (fun i hi => h i (by omega))
    obtain ⟨y, hy⟩ := h n (by omega)
    refine ⟨ys ++ [y], by simp [hl], fun i z hz => ?_⟩
    by_cases hi : i < ys.length
    · rw [List.getElem?_append_left hi] at hz
      exact hq i z hz
    · rw [List.getElem?_append_right (by omega)] at hz
      have : i = n := by
        have := (List.getElem?_eq_some_iff.1 hz).1
        simp at this; omega
      subst this
      simp [hl] at hz
      subst hz
      exact hy

def ShS : TI → Sc → Prop
  | .int, .int n => (Lit.int .i64 n).wf = true
  | .u8, .u8 n => (Lit.int .u8 n).wf = true
  | .bool, .bool _ => True
  | .str, .str b => b.size ≤ maxLen
  | _, _ => False

def TI.sca : TI → Bool
  | .int | .u8 | .bool | .str => true
  | _ => false

def TI.flat (T : Tys) : TI → Bool
  | .st fs => fs.all fun f => (T f).sca
  | ti => ti.sca

def ShE (T : Tys) (e : Nat) (el : El) : Prop :=
  match T e with
  | .st fs => All2 (fun f s => ShS (T f) s) fs el
  | ti => ∃ s, el = [s] ∧ ShS ti s

section
variable {H : Type} {enc : TypeId × Value → H} {P : Program} {T : Tys} {w : World} {held : Bool} {fuel : Nat} {t : TypeId} {cs : List Value} {x : DataW H × List MemPlace}

theorem cellsOf_of {t a b : Nat} {z : Value} (h : TInfo P t a b z) : P.cellsOf t = a := by
  obtain ⟨i, h1, h2, _⟩ := h.info
  unfold Program.cellsOf
  rw [h1]
  simpa using h2

theorem cellsOf_sca (hT : TOk P T) {t : Nat} (h : (T t).one = true) : P.cellsOf t = 1 := by
  have := hT t
  cases ht : T t <;> rw [ht] at this h <;> first | (cases h; done) | exact cellsOf_of this.2

theorem cellsOf_kOf (hT : TOk P T) {t : Nat} (h : TI.flat T (T t) = true) : P.cellsOf t = kOf T t := by
  have := hT t
  cases ht : T t <;> rw [ht] at this h <;> simp only [kOf, ht] <;> first | exact cellsOf_of this.2 | (cases h; done) | skip
  obtain ⟨_, _, _, _, b, _, h⟩ := this
  exact cellsOf_of h

theorem open_S (hT : TOk P T) (hs : (T t).sca = true) (h : DataW.trod enc P w 0 (fun _ => true) held fuel t cs = some x) : ∃ s : Sc, cs = [s.val] ∧ ShS (T t) s := by
  have := hT t
  cases ht : T t <;> rw [ht] at this hs <;> first | (cases hs; done) | skip
  · obtain ⟨n, rfl, _, hw⟩ := DataW.trod_int this.1 h
    exact ⟨.int n, rfl, hw⟩
  · obtain ⟨n, rfl, _, hw⟩ := DataW.trod_int this.1 h
    exact ⟨.u8 n, rfl, hw⟩
  · cases fuel with
    | zero => simp [DataW.trod] at h
    | succ n =>
      unfold DataW.trod at h
      rw [this.1] at h
      split at h <;> simp_all
      exact ⟨.bool _, rfl, trivial⟩
  · obtain ⟨b, rfl, _, hw⟩ := DataW.trod_string this.1 h
    exact ⟨.str b, rfl, hw⟩

theorem sca_one {ti : TI} (h : ti.sca = true) : ti.one = true := by cases ti <;> first | rfl | cases h

theorem open_E (hT : TOk P T) (hf : TI.flat T (T t) = true) (h : DataW.trod enc P w 0 (fun _ => true) held fuel t cs = some x) : ∃ el : El, cs = el.map Sc.val ∧ el.length = kOf T t ∧ ShE T t el := by
  cases ht : T t with
  | st fs =>
    have h0 := hT t
    rw [ht] at h0 hf
    obtain ⟨_, ⟨arr, hu, hsz, hfld⟩, _, _, b, _, hi⟩ := h0
    obtain ⟨xs, n, _, _, hl, hxs, hall⟩ := DataW.trod_struct hu h
    rw [cellsOf_of hi] at hl
    simp only [TI.flat, List.all_eq_true] at hf
    have key : ∀ i, i < fs.length → ∃ s : Sc, cs[i]? = some s.val ∧ ∀ f, fs[i]? = some f → ShS (T f) s := by
      intro i hi
      obtain ⟨fd, ha, hty, hoff, _, hone⟩ := hfld i fs[i] (by simp [hi])
      have hx := hall i fd ha
      have hsc : (T fs[i]).sca = true := hf _ (List.getElem_mem hi)
      rw [hty, hoff, cellsOf_sca hT (sca_one hsc)] at hx
      rw [List.getElem?_eq_getElem (by omega)] at hx
      obtain ⟨s, hs, hsh⟩ := open_S hT hsc hx
      refine ⟨s, ?_, fun f hf' => ?_⟩
      · have e : ((cs.drop i).take 1)[0]? = some s.val := by rw [hs]; rfl
        simpa using e
      · rw [List.getElem?_eq_getElem hi] at hf'
        cases hf'
        exact hsh
    obtain ⟨el, hel, hq⟩ := pick key
    refine ⟨el, ?_, by simp only [kOf, ht]; exact hel, ?_⟩
    · apply List.ext_getElem? 
      intro i
      by_cases hi : i < fs.length
      · have h1 := (hq i el[i] (by simp [hel, hi])).1
        rw [h1]; simp [hel, hi]
      · rw [List.getElem?_eq_none (by omega), List.getElem?_eq_none (by simp; omega)]
    · simp only [ShE, ht]
      have : ∀ (fs : List Nat) (el : El), el.length = fs.length → (∀ (i : Nat) (s : Sc), el[i]? = some s → ∀ f, fs[i]? = some f → ShS (T f) s) → All2 (fun f s => ShS (T f) s) fs el := by
        intro fs
        induction fs with
        | nil => intro el h _; cases el with | nil => trivial | cons _ _ => simp at h
        | cons f fs ih =>
          intro el h hq
          cases el with
          | nil => simp at h
          | cons s el => exact ⟨hq 0 s rfl f rfl, ih el (by simpa using h) (fun i s' h1 f' h2 => hq (i + 1) s' (by simpa using h1) f' (by simpa using h2))⟩
      exact this fs el hel (fun i s h1 => (hq i s h1).2)
  | _ =>
    rw [ht] at hf
    first
    | (cases hf; done)
    | (obtain ⟨s, rfl, hs⟩ := open_S hT (by rw [ht]; exact hf) h
       exact ⟨[s], rfl, by simp [kOf, ht], by simp only [ShE, ht]; exact ⟨s, rfl, ht ▸ hs⟩⟩)

def inW (w : World) (b : Nat) : Prop := b < w.heap.size

theorem cell_in {w : World} {a : Addr} {v : Value} (h : w.cell? a = some v) : a.block < w.heap.size ∧ a.spot = none := by
  unfold World.cell? at h
  split at h
  · rename_i c _ _ hb
    refine ⟨?_, ?_⟩
    · by_cases hlt : a.block < w.heap.size
      · exact hlt
      · rw [Array.getElem?_eq_none (by omega)] at hb; cases hb
    · split at h
      · cases h
      · rename_i hs; simpa using hs
  · cases h

theorem imm_of {w : World} {k len cap : Nat} {a : Addr} {xs : List El} (hk : 0 < k) (hlen : xs.length = len) (hc : len ≤ cap) (hflat : Flat k xs)
    (hcell : ∀ i e, xs[i]? = some e → ∀ r, r < k → w.cell? (a.add (i * k + r)) = (e[r]?).map Sc.val) : Imm (inW w) w k (.slice (some a) len cap) xs := by
  refine ⟨⟨some a, cap, by rw [hlen], by omega, ?_⟩, hflat⟩
  by_cases h0 : xs.length = 0
  · exact .inl h0
  · right
    have hc0 : ∃ v, w.cell? a = some v := by
      have h1 := hcell 0 xs[0] (by simp) 0 hk
      have hl : (xs[0]).length = k := hflat _ (List.getElem_mem _)
      rw [List.getElem?_eq_getElem (by omega)] at h1
      simp only [Nat.zero_mul, Nat.add_zero, Addr.add, Option.map_some, if_true] at h1
      exact ⟨_, h1⟩
    obtain ⟨v0, hv0⟩ := hc0
    obtain ⟨hb, hs⟩ := cell_in hv0
    refine ⟨a.block, a.off, ?_, hb, fun j u hu => ?_⟩
    · cases a; simp at hs; subst hs; rfl
    · have hj : j < xs.length * k := by
        have := (List.getElem?_eq_some_iff.1 hu).1
        have hl : (cellsOf xs).length = xs.length * k := by
          unfold cellsOf
          rw [List.length_map]
          clear hcell hu this hlen h0
          induction xs with
          | nil => simp
          | cons e r ih =>
            rw [List.flatten_cons, List.length_append, ih (fun e he => hflat e (by simp [he])), hflat e (by simp), List.length_cons, Nat.add_mul]; omega
        omega
      have e1 : j = (j / k) * k + j % k := by rw [Nat.mul_comm]; exact (Nat.div_add_mod j k).symm
      have h2 : j % k < k := Nat.mod_lt _ hk
      have h3 : j / k < xs.length := by rw [Nat.div_lt_iff_lt_mul hk]; exact hj
      have hg := cellsOf_get (j / k) (j % k) hflat h2
      rw [← e1] at hg
      rw [hg, List.getElem?_eq_getElem h3] at hu
      have hh := hcell (j / k) xs[j / k] (by simp [h3]) (j % k) h2
      rw [← e1] at hh
      simp only [Option.bind_some] at hu
      rw [hu] at hh
      rw [← hh]
      unfold Addr.add
      split
      · rename_i h00; rw [h00]; cases a; simp at hs; subst hs; rfl
      · rfl

/-- A slice of flat elements. -/
theorem open_sl (hT : TOk P T) {e : Nat} (ht : T t = .sl e) (hf : TI.flat T (T e) = true) (h : DataW.trod enc P w 0 (fun _ => true) held fuel t cs = some x) :
    ∃ (v : Value) (xs : List El), cs = [v] ∧ Imm (inW w) w (kOf T e) v xs ∧ xs.length ≤ maxLen ∧ ∀ el ∈ xs, ShE T e el := by
  have h0 := hT t
  rw [ht] at h0
  have hk : 0 < kOf T e := by
    have h1 := hT e
    cases he : T e <;> rw [he] at h1 hf <;> simp only [kOf, he] <;> first | omega | (cases hf; done) | exact h1.1
  rcases DataW.trod_slice h0.1 h with ⟨rfl, _⟩ | ⟨a, len, cap, elems, rest, n, _, rfl, _, _, hl, hm, hlen, hel, _, _⟩
  · exact ⟨_, [], rfl, ⟨⟨none, 0, rfl, Nat.le_refl _, .inl rfl⟩, fun e he => by simp at he⟩, by simp, by simp⟩
  · have key : ∀ i, i < len → ∃ el : El, (el.length = kOf T e ∧ ShE T e el) ∧ ∀ r, r < kOf T e → w.cell? (a.add (i * kOf T e + r)) = (el[r]?).map Sc.val := by
      intro i hi
      have h1 := hel i hi
      rw [List.getElem?_eq_getElem (by omega), Option.bind_eq_some_iff] at h1
      obtain ⟨cs', hcs, htr⟩ := h1
      obtain ⟨el, rfl, hle, hsh⟩ := open_E hT hf htr
      refine ⟨el, ⟨hle, hsh⟩, fun r hr => ?_⟩
      rw [cellsOf_kOf hT hf] at hcs
      obtain ⟨_, h2, h3⟩ := World.cells?_some hcs
      have := h3 r hr
      rw [List.getElem?_map] at this
      rw [← this]
      congr 1
      unfold Addr.add
      by_cases h00 : i * kOf T e = 0
      · simp [h00]
      · by_cases hr0 : r = 0
        · simp [hr0, h00]
        · rw [if_neg (by omega), if_neg hr0, if_neg h00]
          simp [Nat.add_assoc]
    obtain ⟨xs, hxl, hq⟩ := pick key
    have hmem : ∀ el ∈ xs, el.length = kOf T e ∧ ShE T e el := fun el hel => by
      obtain ⟨i, hi⟩ := List.getElem?_of_mem hel
      exact (hq i el hi).1
    exact ⟨_, xs, rfl, imm_of hk hxl hl (fun e he => (hmem e he).1) (fun i e he r hr => (hq i e he).2 r hr), by omega, fun el hel => (hmem el hel).2⟩

def RowsSh (T : Tys) (e : Nat) (xss : List (List El)) : Prop := xss.length ≤ maxLen ∧ ∀ xs ∈ xss, xs.length ≤ maxLen ∧ ∀ el ∈ xs, ShE T e el

/-- A slice of slices of elements of one cell. -/
theorem open_ss (hT : TOk P T) {e e' : Nat} (ht : T t = .sl e) (he : T e = .sl e') (hk : kOf T e' = 1) (hf : TI.flat T (T e') = true) (h : DataW.trod enc P w 0 (fun _ => true) held fuel t cs = some x) :
    ∃ (v : Value) (xss : List (List El)), cs = [v] ∧ CR w.heap.size (fun _ => none) (inW w) w (.imm2 xss) v ∧ RowsSh T e' xss := by
  have h0 := hT t
  rw [ht] at h0
  rcases DataW.trod_slice h0.1 h with ⟨rfl, _⟩ | ⟨a, len, cap, elems, rest, n, _, rfl, _, _, hl, hm, hlen, hel, _, _⟩
  · exact ⟨_, [], rfl, ⟨[], rfl, ⟨none, 0, rfl, Nat.le_refl _, .inl rfl⟩, fun i u xs h => by simp at h⟩, by simp [RowsSh]⟩
  · have hc1 : P.cellsOf e = 1 := cellsOf_sca hT (by rw [he]; rfl)
    have key : ∀ i, i < len → ∃ p : Value × List El, w.cell? (a.add i) = some p.1 ∧ Imm (inW w) w 1 p.1 p.2 ∧ p.2.length ≤ maxLen ∧ ∀ el ∈ p.2, ShE T e' el := by
      intro i hi
      have h1 := hel i hi
      rw [List.getElem?_eq_getElem (by omega), Option.bind_eq_some_iff] at h1
      obtain ⟨cs', hcs, htr⟩ := h1
      obtain ⟨v, xs, rfl, him, hle, hsh⟩ := open_sl hT he hf htr
      rw [hk] at him
      refine ⟨(v, xs), ?_, him, hle, hsh⟩
      rw [hc1, Nat.mul_one] at hcs
      obtain ⟨_, _, h3⟩ := World.cells?_some hcs
      have := h3 0 (by omega)
      simpa [Addr.add] using this
    obtain ⟨ps, hpl, hq⟩ := pick key
    have hxl : (ps.map (·.2)).length = len := by simp [hpl]
    refine ⟨_, ps.map (·.2), rfl, ⟨ps.map (·.1), by simp, ?_, ?_⟩, Nat.le_trans (Nat.le_of_eq hxl) (Nat.le_trans hl hm), ?_⟩
    · refine ⟨some a, cap, by rw [hxl], Nat.le_trans (Nat.le_of_eq hxl) hl, ?_⟩
      by_cases h00 : ps.length = 0
      · left; rw [List.length_map]; exact h00
      · right
        obtain ⟨hc0, _⟩ := hq 0 ps[0] (by simp)
        have hc0' : w.cell? a = some ps[0].1 := by simpa [Addr.add] using hc0
        obtain ⟨hb, hs⟩ := cell_in hc0'
        refine ⟨a.block, a.off, by cases a; simp at hs; subst hs; rfl, hb, fun j u hu => ?_⟩
        simp only [List.getElem?_map, Option.map_eq_some_iff] at hu
        obtain ⟨p, hp, rfl⟩ := hu
        have := (hq j p hp).1
        unfold Addr.add at this
        split at this
        · rename_i hj0; subst hj0; rw [← this]; cases a; simp at hs; subst hs; rfl
        · exact this
    · intro i u xs h1 h2
      simp only [List.getElem?_map, Option.map_eq_some_iff] at h1 h2
      obtain ⟨p, hp, rfl⟩ := h1
      obtain ⟨p', hp', rfl⟩ := h2
      rw [hp] at hp'; cases hp'
      exact (hq i p hp).2.1
    · intro xs hxs
      simp only [List.mem_map] at hxs
      obtain ⟨p, hp, rfl⟩ := hxs
      obtain ⟨i, hi⟩ := List.getElem?_of_mem hp
      exact (hq i p hi).2.2

/-! ### One cell, one value, all arguments -/
def ShC (T : Tys) (t : Nat) (c : CV) : Prop :=
  match T t with
  | .sl e => match T e with
    | .sl e' => ∃ xss, c = .imm2 xss ∧ RowsSh T e' xss
    | _ => ∃ xs, c = .imm (kOf T e) xs ∧ xs.length ≤ maxLen ∧ ∀ el ∈ xs, ShE T e el
  | ti => ∃ s, c = .sc s ∧ ShS ti s

def opnC (T : Tys) (t : Nat) : Bool :=
  match T t with
  | .sl e => match T e with
    | .sl e' => (kOf T e' == 1) && TI.flat T (T e')
    | ti => TI.flat T ti
  | ti => ti.sca

theorem open_C (hT : TOk P T) (ho : opnC T t = true) (h : DataW.trod enc P w 0 (fun _ => true) held fuel t cs = some x) :
    ∃ (v : Value) (c : CV), cs = [v] ∧ CR w.heap.size (fun _ => none) (inW w) w c v ∧ ShC T t c := by
  unfold opnC at ho
  split at ho
  · rename_i e ht
    split at ho
    · rename_i e' he
      simp only [Bool.and_eq_true, beq_iff_eq] at ho
      obtain ⟨v, xss, h1, h2, h3⟩ := open_ss hT ht he ho.1 ho.2 h
      refine ⟨v, _, h1, h2, ?_⟩
      unfold ShC
      rw [ht]
      simp only [he]
      exact ⟨xss, rfl, h3⟩
    · rename_i hne
      obtain ⟨v, xs, h1, h2, h3, h4⟩ := open_sl hT ht ho h
      refine ⟨v, .imm (kOf T e) xs, h1, h2, ?_⟩
      unfold ShC
      rw [ht]
      simp only
      exact ⟨xs, rfl, h3, h4⟩
  · rename_i hne
    obtain ⟨s, h1, h2⟩ := open_S hT ho h
    refine ⟨s.val, .sc s, h1, rfl, ?_⟩
    unfold ShC
    split
    · rename_i e he; exact (hne e he).elim
    · exact ⟨s, rfl, h2⟩

def ShA (T : Tys) (t : Nat) (a : AV) : Prop :=
  match T t with
  | .st fs => ∃ cs, a = .agg cs ∧ All2 (ShC T) fs cs
  | _ => ∃ c, a = .one c ∧ ShC T t c

def opnA (T : Tys) (t : Nat) : Bool :=
  match T t with
  | .st fs => fs.all (opnC T)
  | .oth => false
  | _ => opnC T t

theorem opnC_one {t : Nat} (h : opnC T t = true) : (T t).one = true := by
  unfold opnC at h
  cases ht : T t <;> rw [ht] at h <;> first | rfl | (cases h; done)

theorem open_A (hT : TOk P T) (ho : opnA T t = true) {r : Reach} {v : Value} {d : DataW H} {ps : List MemPlace} {b0 : Nat} (hval : Value.okWide P w r b0 t v) (h : DataW.Trod enc P w 0 (fun _ => true) held t v d ps) :
    ∃ a : AV, AR w.heap.size (fun _ => none) (inW w) w a v ∧ ShA T t a := by
  obtain ⟨fuel, h⟩ := h
  have h0 := hT t
  cases ht : T t with
  | st fs =>
    rw [ht] at h0
    obtain ⟨_, ⟨arr, hu, hsz, hfld⟩, _, _, b, _, hi⟩ := h0
    simp only [opnA, ht, List.all_eq_true] at ho
    simp only [Value.okWide, hu] at hval
    obtain ⟨ca, rfl, hcs, _⟩ := hval
    obtain ⟨xs, n, _, _, hl, hxs, hall⟩ := DataW.trod_struct hu h
    rw [cellsOf_of hi] at hl
    simp only [Value.cells] at hl hall
    have key : ∀ i, i < fs.length → ∃ p : Value × CV, ca.toList[i]? = some p.1 ∧ CR w.heap.size (fun _ => none) (inW w) w p.2 p.1 ∧ ∀ f, fs[i]? = some f → ShC T f p.2 := by
      intro i hi
      obtain ⟨fd, ha, hty, hoff, _, hone⟩ := hfld i fs[i] (by simp [hi])
      have hx := hall i fd ha
      have hsc : opnC T fs[i] = true := ho _ (List.getElem_mem hi)
      rw [hty, hoff, cellsOf_sca hT (opnC_one hsc)] at hx
      rw [List.getElem?_eq_getElem (by omega)] at hx
      obtain ⟨v, c, hs, hc, hsh⟩ := open_C hT hsc hx
      refine ⟨(v, c), ?_, hc, fun f hf' => ?_⟩
      · have e : ((ca.toList.drop i).take 1)[0]? = some v := by rw [hs]; rfl
        simpa using e
      · rw [List.getElem?_eq_getElem hi] at hf'
        cases hf'
        exact hsh
    obtain ⟨ps', hel, hq⟩ := pick key
    refine ⟨.agg (ps'.map (·.2)), ⟨ca.toList, by simp, ?_⟩, ?_⟩
    · have e : ca.toList = ps'.map (·.1) := by
        apply List.ext_getElem?
        intro i
        by_cases hi : i < fs.length
        · rw [(hq i ps'[i] (by simp [hel, hi])).1]; simp [hel, hi]
        · rw [List.getElem?_eq_none (by omega), List.getElem?_eq_none (by simp; omega)]
      rw [e]
      have : ∀ l : List (Value × CV), (∀ p ∈ l, CR w.heap.size (fun _ => none) (inW w) w p.2 p.1) → All2 (CR w.heap.size (fun _ => none) (inW w) w) (l.map (·.2)) (l.map (·.1)) := by
        intro l
        induction l with
        | nil => intro _; trivial
        | cons p l ih => intro h; exact ⟨h p (by simp), ih (fun q hq => h q (by simp [hq]))⟩
      refine this ps' (fun p hp => ?_)
      obtain ⟨i, hi⟩ := List.getElem?_of_mem hp
      exact (hq i p hi).2.1
    · simp only [ShA, ht]
      refine ⟨_, rfl, ?_⟩
      have : ∀ (fs : List Nat) (l : List (Value × CV)), l.length = fs.length → (∀ (i : Nat) (s : Value × CV), l[i]? = some s → ∀ f, fs[i]? = some f → ShC T f s.2) → All2 (ShC T) fs (l.map (·.2)) := by
        intro fs
        induction fs with
        | nil => intro el h _; cases el with | nil => trivial | cons _ _ => simp at h
        | cons f fs ih =>
          intro el h hq
          cases el with
          | nil => simp at h
          | cons s el => exact ⟨hq 0 s rfl f rfl, ih el (by simpa using h) (fun i s' h1 f' h2 => hq (i + 1) s' (by simpa using h1) f' (by simpa using h2))⟩
      exact this fs ps' hel (fun i s h1 => (hq i s h1).2.2)
  | oth => simp [opnA, ht] at ho
  | _ =>
    have hc : opnC T t = true := by simpa [opnA, ht] using ho
    rw [ht] at h0
    have hv : v.cells.toList = [v] := by
      simp only [Value.okWide, h0.1, Cell.okWide] at hval
      cases v <;> simp_all [Cell.ok, Value.cells]
    rw [hv] at h
    obtain ⟨v', c, h1, h2, h3⟩ := open_C hT hc h
    cases h1
    exact ⟨.one c, h2, by simp only [ShA, ht]; exact ⟨c, rfl, h3⟩⟩

theorem open_all (hT : TOk P T) {r : Reach} {b0 : Nat} : ∀ {ts : List Nat} {vs : List Value} {ds : List (DataW H)} {ps : List MemPlace}, ts.all (opnA T) = true → (∀ (j : Nat) t v, ts[j]? = some t → vs[j]? = some v → Value.okWide P w r b0 t v) →
    DataW.TrodAll enc P w 0 (fun _ => true) held ts vs ds ps → ∃ as : List AV, Args w as vs ∧ All2 (ShA T) ts as
  | [], [], [], _, _, _, _ => ⟨[], trivial, trivial⟩
  | t :: ts, v :: vs, d :: ds, ps, ho, hval, ⟨p, q, h1, h2, _⟩ => by
    simp only [List.all_cons, Bool.and_eq_true] at ho
    obtain ⟨a, ha, hs⟩ := open_A hT ho.1 (hval 0 t v rfl rfl) h1
    obtain ⟨as, has, hss⟩ := open_all hT ho.2 (fun j t' v' h h' => hval (j + 1) t' v' (by simpa using h) (by simpa using h')) h2
    exact ⟨a :: as, ⟨ha, has⟩, ⟨hs, hss⟩⟩
  | [], _ :: _, _, _, _, _, h => h.elim
  | [], [], _ :: _, _, _, _, h => h.elim
  | _ :: _, [], _, _, _, _, h => h.elim
  | _ :: _, _ :: _, [], _, _, _, h => h.elim

theorem all_len : ∀ {ts : List Nat} {vs : List Value} {ds : List (DataW H)} {ps : List MemPlace}, DataW.TrodAll enc P w 0 (fun _ => true) held ts vs ds ps → ds.length = ts.length
  | [], _, _, _, h => by obtain ⟨_, rfl, _⟩ := trodAll_nil h; rfl
  | _ :: _, _, _, _, h => by
    obtain ⟨v, vs1, d, ds1, a, b, rfl, rfl, rfl, h1, h2⟩ := trodAll_cons h
    simp [all_len h2]

/-- Behind a call that has written nothing old, the arguments read as before. -/
theorem all_same {ts : List Nat} {vs : List Value} {ds : List (DataW H)} {ps : List MemPlace} (hl : laidOutB P = true) (hr : ∀ t ∈ ts, P.readableRec t = true ∧ t < P.types.size) {W W' : World}
    (hb : Below W.heap.size W W') : DataW.TrodAll enc P W 0 (fun _ => true) true ts vs ds ps → (∀ x ∈ ps, x.block < W.heap.size) → DataW.TrodAll enc P W' 0 (fun b => decide (b < W.heap.size)) true ts vs ds ps := by
  induction ts generalizing vs ds ps with
  | nil =>
    intro h _
    obtain ⟨rfl, rfl, rfl⟩ := trodAll_nil h
    exact rfl
  | cons t ts ih =>
    intro h hps
    obtain ⟨v, vs1, d, ds1, a, b, rfl, rfl, rfl, h1, h2⟩ := trodAll_cons h
    have ht := hr t (by simp)
    exact ⟨a, b, WideElems.Trod_stays hl ht.1 ht.2 h1 (fun x hx => hb.same (hps x (by simp [hx]))) (fun x hx => by simpa using hps x (by simp [hx])),
      ih (fun t' h' => hr t' (by simp [h'])) h2 (fun x hx => hps x (by simp [hx])), rfl⟩
end
end Go.Eng
