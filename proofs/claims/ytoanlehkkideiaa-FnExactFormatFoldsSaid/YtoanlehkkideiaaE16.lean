/- The engine, part 16: stores; make; structs; conversions. -/
import Derived.Test.YtoanlehkkideiaaE15
set_option linter.unusedVariables false
namespace Go.Eng
open Go Go.RowKit

section
variable {N0 : Nat} {W0 : World} {s s' : AS} {β β' : Plc} {a : Act} {w w' : World} {P : Program} {T : Tys}

/-! ### Stores -/

/-- The cells that are stored. -/
def storeCs (T : Tys) (t : Nat) (v : AV) : Option (List CV) := rBox T t v

/-- A store through a pointer into an object. -/
def rStore (T : Tys) (s : AS) (t : Nat) (p v : AV) : Option (List (Nat × Option Obj) × List Nat) :=
  match p with
  | .one (.ptr id k i j) =>
    match s.obj id with
    | some (.box e cs) => (rBox T t v).bind fun ds => if i = 0 ∧ j + ds.length ≤ cs.length ∧ 0 < ds.length then some ([(id, some (.box e (cs.take j ++ ds ++ cs.drop (j + ds.length))))], [id]) else none
    | some (.flat e k' xs) =>
      if k = k' ∧ i < xs.length then
        match T t with
        | .st fs => (elOf v).bind fun el => if j = 0 ∧ el.length = k ∧ fs.length = k then some ([(id, some (.flat e k (xs.set i el)))], [id]) else none
        | .oth => none
        | _ => match v with
          | .one (.sc x) => if j < k then some ([(id, some (.flat e k (if k = 1 then xs.set i [x] else xs.set i ((xs[i]?.getD []).set j x))))], [id]) else none
          | _ => none
      else none
    | _ => none
  | _ => none

theorem TOk.sizeN (hT : TOk P T) {t n : Nat} (h : ((T t).one = true ∧ n = 1) ∨ ∃ fs, T t = .st fs ∧ fs.length = n) : (sizeOf t).run P w = .ok n w := by
  rcases h with ⟨h, rfl⟩ | ⟨fs, h, rfl⟩
  · obtain ⟨i, h1, h2⟩ := hT.size_one h w
    simp [sizeOf, typeInfo, h1, h2]
  · have := hT t
    rw [h] at this
    obtain ⟨_, _, _, _, bytes, _, hi⟩ := this
    obtain ⟨i, h1, h2, _⟩ := hi.info
    simp [sizeOf, typeInfo, h1, h2]

/-- A store of some cells into a block that is known whole. -/
theorem run_store_cells (hT : TOk P T) {t b o : Nat} {v : Value} {vs : List Value} {cur : Array Value} {e : Nat} (hsz : ((T t).one = true ∧ vs.length = 1) ∨ ∃ fs, T t = .st fs ∧ fs.length = vs.length)
    (hv : v.cells.toList = vs) (hb : w.heap[b]? = some (.cells cur e (0, 0))) (hle : o + vs.length ≤ cur.size) (h1 : ∀ u ∈ vs, u.oneCell' = true) :
    (Instr.storeAt t (.pointer (some ⟨b, o, none⟩)) v).run P w = .ok () (w.setRow b (cur.toList.take o ++ vs ++ cur.toList.drop (o + vs.length)).toArray) := by
  have hs := hT.sizeN (w := w) hsz
  have hst := run_storeCells_at P b o e vs 0 cur w hb (by simpa using hle) h1
  have hsz' : v.cells.size = vs.length := by rw [← hv]; simp
  simp only [Nat.add_zero] at hst
  simp [Instr.storeAt, Instr.sureAddr, storeVar, hs, hsz', hv, hst]

theorem grownBy_setRow (w : World) (b : Nat) (cs : Array Value) : w.grownBy (w.setRow b cs) (some b) where
  os := rfl
  tape := rfl
  output := rfl
  size := by simp [World.setRow]
  block := fun k _ hne => by
    simp only [World.setRow, Array.getElem?_modify]
    rw [if_neg (fun e => hne (by rw [e]))]

theorem rBox_size {t : Nat} {v : AV} {cs : List CV} (h : rBox T t v = some cs) : ((T t).one = true ∧ cs.length = 1) ∨ ∃ fs, T t = .st fs ∧ fs.length = cs.length := by
  unfold rBox at h
  split at h
  · split at h
    · rename_i h1; cases h; exact .inl ⟨h1, rfl⟩
    · cases h
  · split at h
    · rename_i fs hst
      split at h
      · rename_i hl; cases h; exact .inr ⟨fs, hst, hl⟩
      · cases h
    · cases h
  · cases h

theorem all2_one {B : Nat} {F : Nat → Prop} : ∀ {cs : List CV} {us : List Value}, All2 (CR B β F w) cs us → ∀ u ∈ us, u.oneCell' = true
  | [], [], _, u, hu => by cases hu
  | _ :: _, v :: us, ⟨h1, h2⟩, u, hu => by
    rcases List.mem_cons.1 hu with rfl | hu
    · exact cr_one h1
    · exact all2_one h2 u hu
  | [], _ :: _, h, _, _ => h.elim
  | _ :: _, [], h, _, _ => h.elim

theorem Plc.set_self {id : Nat} {x : Value × List Value} (h : β id = some x) : β.set id x = β := by
  funext i
  unfold Plc.set
  split
  · rename_i hi; rw [hi, h]
  · rfl

theorem cellsOf_set {k : Nat} : ∀ {xs : List El} (i : Nat) (el : El), Flat k xs → i < xs.length → el.length = k → cellsOf (xs.set i el) = (cellsOf xs).take (i * k) ++ el.map Sc.val ++ (cellsOf xs).drop (i * k + k) := by
  intro xs i el h hi hl
  have h1 : xs.set i el = xs.take i ++ el :: xs.drop (i + 1) := by
    rw [List.set_eq_take_append_cons_drop, if_pos hi]
  rw [h1, cellsOf_append, cellsOf_take i h]
  have h2 : cellsOf (el :: xs.drop (i + 1)) = el.map Sc.val ++ cellsOf (xs.drop (i + 1)) := by simp [cellsOf]
  rw [h2, cellsOf_drop (i + 1) h, List.append_assoc]
  congr 3
  rw [Nat.add_mul]; omega

theorem Flat.set {k : Nat} {xs : List El} (h : Flat k xs) (i : Nat) {el : El} (hl : el.length = k) : Flat k (xs.set i el) := fun e he => by
  rcases List.mem_or_eq_of_mem_set he with h1 | rfl
  · exact h e h1
  · exact hl

/-- Writing one element of an owned row. -/
theorem owns_setRow {B e k n i : Nat} {b m cap : Nat} {xs : List El} {el : El} {cur : Array Value} (h : w.ownsRow B e k (.slice (some ⟨b, 0, none⟩) m cap) xs.length (cellsOf xs)) (hb : w.heap[b]? = some (.cells cur e (0, 0)))
    (hf : Flat k xs) (hi : i < xs.length) (hl : el.length = k) :
    (w.setRow b (cur.toList.take (i * k) ++ el.map Sc.val ++ cur.toList.drop (i * k + k)).toArray).ownsRow B e k (.slice (some ⟨b, 0, none⟩) m cap) (xs.set i el).length (cellsOf (xs.set i el)) := by
  have hfs := hf.set i hl
  refine ⟨flat_len hfs, ?_⟩
  rcases h.2 with ⟨hh, _⟩ | ⟨g, cap', cur', hv, hbg, hg, hc, hm, hs, ht⟩
  · cases hh
  · cases hv
    rw [hb] at hg; cases hg
    have hik : i * k + k ≤ xs.length * k := by
      have : (i + 1) * k ≤ xs.length * k := Nat.mul_le_mul_right _ hi
      rw [Nat.add_mul] at this; omega
    have hck : xs.length * k ≤ cap * k := Nat.mul_le_mul_right _ hc
    have hcl : cur.toList.length = cap * k := by simpa using hs
    refine .inr ⟨b, cap, _, ?_, hbg, setRow_heap w b cur _ e _ hb, by simpa using hc, hm, ?_, ?_⟩
    · rw [List.length_set]
    · simp only [List.size_toArray, List.length_append, List.length_take, List.length_map, List.length_drop, hcl, hl]
      omega
    · rw [List.length_set, cellsOf_set i el hf hi hl, ← ht]
      have e1 : (cur.toList.take (i * k) ++ el.map Sc.val).length = i * k + k := by rw [List.length_append, List.length_take, hcl, List.length_map, hl, Nat.min_eq_left (by omega)]
      rw [List.take_take, Nat.min_eq_left (by omega), List.drop_take]
      rw [List.take_append, List.take_of_length_le (by rw [e1]; exact hik), e1]

theorem set_mid {α : Type} (L : List α) (o k j : Nat) (y : α) (h : o + k ≤ L.length) (hj : j < k) :
    L.take (o + j) ++ [y] ++ L.drop (o + j + 1) = L.take o ++ ((L.drop o).take k).set j y ++ L.drop (o + k) := by
  have h1 : L.take (o + j) ++ [y] ++ L.drop (o + j + 1) = L.set (o + j) y := by
    rw [List.set_eq_take_append_cons_drop, if_pos (by omega)]; simp
  have h2 : L = L.take o ++ (L.drop o).take k ++ L.drop (o + k) := by
    conv => lhs; rw [← List.take_append_drop o L, ← List.take_append_drop k (L.drop o)]
    rw [List.drop_drop, List.append_assoc]
  have hl : (L.take o).length = o := by simp; omega
  have hl2 : ((L.drop o).take k).length = k := by simp; omega
  rw [h1]
  conv => lhs; rw [h2]
  rw [List.set_append_left _ _ (by rw [List.length_append, hl, hl2]; omega), List.set_append_right _ _ (by rw [hl]; omega), hl, Nat.add_sub_cancel_left]

theorem rStore_ok (hT : TOk P T) (r : Rel N0 W0 s β a w) {t : Nat} {p v : AV} {y : List (Nat × Option Obj) × List Nat} {pv vv : Value} (h : rStore T s t p v = some y) (hp : AR N0 β (Free s β w) w p pv) (hv : AR N0 β (Free s β w) w v vv) :
    ∃ w' β', (Instr.storeAt t pv vv).run P w = .ok () w' ∧ Rel N0 W0 { s with H := y.1 ++ s.H } β' a w' := by
  unfold rStore at h
  split at h
  · rename_i id k i j
    obtain ⟨ov, vs, b, hβ, hov, rfl⟩ := hp
    split at h
    · -- a variable
      rename_i e cs ho
      simp only [Option.bind_eq_some_iff] at h
      obtain ⟨ds, hds, h⟩ := h
      split at h
      · rename_i hc
        cases h
        obtain ⟨rfl, hle, hpos⟩ := hc
        obtain ⟨ov2, vs2, hp2, hat, hbl⟩ := r.obj id _ ho
        rw [hβ] at hp2; cases hp2
        obtain ⟨b2, arr, h1, h2, h3, h4⟩ := hat
        have hb : b2 = b := by
          rcases hov with ⟨n, c, e⟩ | e
          · rw [h1] at e; cases e
          · rw [h1] at e; cases e; rfl
        subst hb
        obtain ⟨us, hus, hall⟩ := rBox_ok hds hv
        have hl := h4.length
        have hul := hall.length
        have hrun := run_store_cells (P := P) (w := w) hT (t := t) (b := b2) (o := j) (v := vv) (vs := us) (cur := arr) (e := e) (by rw [← hul]; exact rBox_size hds) hus h3 (by rw [← hul]; simpa [hl] using hle) (all2_one hall)
        have hg := grownBy_setRow w b2 (arr.toList.take j ++ us ++ arr.toList.drop (j + us.length)).toArray
        refine ⟨_, β.set id (ov, vs), by rw [Nat.zero_mul, Nat.zero_add]; exact hrun, ?_⟩
        have r' := r.store (id := id) ho hβ (w' := w.setRow b2 (arr.toList.take j ++ us ++ arr.toList.drop (j + us.length)).toArray) (by rw [h1]; exact hg) (o' := .box e (cs.take j ++ ds ++ cs.drop (j + ds.length))) (vs' := vs) ?_ (fun b hb => hb)
        · exact r'
        · intro F β' hF hβ'
          refine ⟨b2, _, h1, h2, setRow_heap w b2 arr _ e _ h3, ?_⟩
          have hk : Keep (Free s β w) F w (w.setRow b2 (arr.toList.take j ++ us ++ arr.toList.drop (j + us.length)).toArray) := fun b' hb' => ⟨hF b' hb', hg.block b' hb'.1 (fun e => hb'.2 ⟨id, _, ov, vs, ho, hβ, .inl (by rw [h1]; cases e; rfl)⟩)⟩
          have hcs : cs.drop (j + ds.length) = cs.drop (j + us.length) := by rw [hul]
          rw [hcs]
          exact (((h4.take j).mono fun _ _ _ _ => CR.keep hβ' hk).app (hall.mono fun _ _ _ _ => CR.keep hβ' hk)).app ((h4.drop (j + us.length)).mono fun _ _ _ _ => CR.keep hβ' hk)
      · cases h
    · -- an element
      rename_i e k' xs ho
      split at h
      · rename_i hki
        obtain ⟨rfl, hi⟩ := hki
        obtain ⟨ov2, vs2, hp2, hat, hbl⟩ := r.obj id _ ho
        rw [hβ] at hp2; cases hp2
        -- writing element el
        have fin : ∀ el : El, el.length = k → (∀ cur, w.heap[b]? = some (.cells cur e (0, 0)) → cur.toList.take (xs.length * k) = cellsOf xs → xs.length * k ≤ cur.size →
            (Instr.storeAt t (.pointer (some ⟨b, i * k + j, none⟩)) vv).run P w = .ok () (w.setRow b (cur.toList.take (i * k) ++ el.map Sc.val ++ cur.toList.drop (i * k + k)).toArray)) →
            ∃ w' β', (Instr.storeAt t (.pointer (some ⟨b, i * k + j, none⟩)) vv).run P w = .ok () w' ∧ Rel N0 W0 (s.setO id (.flat e k (xs.set i el))) β' a w' := by
          intro el hel hrun
          rcases hat.1.2 with ⟨_, h0⟩ | ⟨g, cap, cur, hg1, hbg, hg, hc, hm, hs, ht⟩
          · omega
          · have hgb : g = b := by
              rcases hov with ⟨n, c, e⟩ | e
              · rw [hg1] at e; cases e; rfl
              · rw [hg1] at e; cases e
            subst hgb
            have hck : xs.length * k ≤ cap * k := Nat.mul_le_mul_right _ hc
            refine ⟨_, β.set id (ov, vs), hrun cur hg ht (by rw [hs]; exact hck), ?_⟩
            have hgr := grownBy_setRow w g (cur.toList.take (i * k) ++ el.map Sc.val ++ cur.toList.drop (i * k + k)).toArray
            have hat1 := hat.1
            rw [hg1] at hat1
            exact r.store (id := id) ho hβ (by rw [hg1]; exact hgr) (o' := .flat e k (xs.set i el)) (vs' := vs) (fun F β' _ _ => ⟨by rw [hg1]; exact owns_setRow (n := 0) hat1 hg hat.2 hi hel, hat.2.set i hel⟩) (fun b hb => hb)
        have hik : i * k + k ≤ xs.length * k := by
          have : (i + 1) * k ≤ xs.length * k := Nat.mul_le_mul_right _ hi
          rw [Nat.add_mul] at this; omega
        split at h
        · rename_i fs hst
          simp only [Option.bind_eq_some_iff] at h
          obtain ⟨el, hel, h⟩ := h
          split at h
          · rename_i hc
            cases h
            obtain ⟨rfl, hlk, hfk⟩ := hc
            have hcells := elOf_ok hel hv
            exact fin el hlk fun cur hg ht hsz => by
              have := run_store_cells (P := P) (w := w) hT (t := t) (b := b) (o := i * k) (v := vv) (vs := el.map Sc.val) (cur := cur) (e := e) (.inr ⟨fs, hst, by simp [hfk, hlk]⟩) hcells hg (by simp [hlk]; omega) (fun u hu => by obtain ⟨x, _, rfl⟩ := List.mem_map.1 hu; exact x.val_one)
              simpa [hlk] using this
          · cases h
        · cases h
        · rename_i hn1 hn2
          split at h
          · rename_i x
            split at h
            · rename_i hj
              cases h
              have hx : vv = x.val := hv
              have hxi : xs[i]? = some xs[i] := List.getElem?_eq_getElem hi
              have hxl : xs[i].length = k := hat.2 _ (List.getElem_mem hi)
              have hmod : (if k = 1 then xs.set i [x] else xs.set i ((xs[i]?.getD []).set j x)) = xs.set i (xs[i].set j x) := by
                split
                · rename_i h1
                  have h2 : j = 0 := by omega
                  subst h2
                  rw [h1] at hxl
                  match hq : xs[i], hxl with
                  | [y], _ => rfl
                · rw [hxi]; rfl
              rw [hmod]
              refine fin (xs[i].set j x) (by simp [hxl]) fun cur hg ht hsz => ?_
              have hone := one_of hn1 hn2
              have := run_store_cells (P := P) (w := w) hT (t := t) (b := b) (o := i * k + j) (v := vv) (vs := [x.val]) (cur := cur) (e := e) (.inl ⟨hone, rfl⟩) (by rw [hx, cells_one x.val_one]) hg (by simp; omega) (fun u hu => by simp at hu; rw [hu]; exact x.val_one)
              rw [this]
              have h2 : (cur.toList.drop (i * k)).take k = xs[i].map Sc.val := by
                have h1 : (cellsOf xs).drop (i * k) = xs[i].map Sc.val ++ cellsOf (xs.drop (i + 1)) := by
                  have h0 : xs.drop i = xs[i] :: xs.drop (i + 1) := List.drop_eq_getElem_cons hi
                  rw [← cellsOf_drop i hat.2, h0]
                  simp only [cellsOf, List.flatten_cons, List.map_append]
                have h3 : (cellsOf xs).drop (i * k) = (cur.toList.drop (i * k)).take (xs.length * k - i * k) := by rw [← ht, List.drop_take]
                have h4 : ((cur.toList.drop (i * k)).take (xs.length * k - i * k)).take k = (cur.toList.drop (i * k)).take k := by rw [List.take_take, Nat.min_eq_left (by omega)]
                rw [← h4, ← h3, h1, List.take_left' (by rw [List.length_map]; exact hxl)]
              have h5 : (xs[i].set j x).map Sc.val = ((cur.toList.drop (i * k)).take k).set j x.val := by rw [h2, List.map_set]
              have h6 := set_mid cur.toList (i * k) k j x.val (by simp; omega) hj
              simp only [List.length_singleton]
              rw [h6, h5]
            · cases h
          · cases h
      · cases h
    · cases h
  · cases h

/-! ### make -/

def zeroSc (T : Tys) (t : Nat) : Option Sc :=
  match T t with
  | .int => some (.int 0)
  | .u8 => some (.u8 0)
  | .bool => some (.bool false)
  | .str => some (.str ⟨#[]⟩)
  | _ => none

def zeroScs (T : Tys) : List Nat → Option (List Sc)
  | [] => some []
  | t :: r => (zeroSc T t).bind fun x => (zeroScs T r).map (x :: ·)

def zeroEl (T : Tys) (e : Nat) : Option El :=
  match T e with
  | .st fs => zeroScs T fs
  | _ => (zeroSc T e).map fun x => [x]

/-- make([]E, l, c): l and c the same, or l zero. -/
def rMake (T : Tys) (t : Nat) (l c : AV) : Option Obj :=
  match T t, l, c with
  | .sl e, .one (.sc (.int l)), .one (.sc (.int c)) =>
    if 0 ≤ c ∧ c ≤ 1099511627776 ∧ (l = c ∨ l = 0) then
      match T e with
      | .oth => none
      | .sl e' => some (.rows e e' .own (List.replicate l.toNat none))
      | _ => (zeroEl T e).map fun z => .flat e (kOf T e) (List.replicate l.toNat z)
    else none
  | _, _, _ => none

theorem zeroSc_ok (hT : TOk P T) {t : Nat} {x : Sc} (h : zeroSc T t = some x) : zeroV (zeroC T t) = x.val ∧ (T t).one = true := by
  unfold zeroSc at h
  unfold zeroC
  split at h <;> cases h <;> rename_i hst <;> rw [hst] <;> exact ⟨rfl, rfl⟩

theorem zeroScs_ok (hT : TOk P T) : ∀ {fs : List Nat} {xs : List Sc}, zeroScs T fs = some xs → fs.map (fun f => zeroV (zeroC T f)) = xs.map Sc.val ∧ xs.length = fs.length
  | [], xs, h => by cases h; exact ⟨rfl, rfl⟩
  | f :: fs, xs, h => by
    simp only [zeroScs, Option.bind_eq_some_iff, Option.map_eq_some_iff] at h
    obtain ⟨x, hx, ys, hy, rfl⟩ := h
    obtain ⟨i1, i2⟩ := zeroScs_ok hT hy
    exact ⟨by rw [List.map_cons, i1, (zeroSc_ok hT hx).1]; rfl, by simp [i2]⟩

/-- The zero value's cells. -/
theorem zeroEl_ok (hT : TOk P T) {e : Nat} {z : El} (h : zeroEl T e = some z) : ∃ i zv bytes, P.info? e = some i ∧ i.size = kOf T e ∧ i.bytes = bytes ∧ bytes ≤ 64 ∧ i.zero = some zv ∧ zv.cells.toList = z.map Sc.val ∧ z.length = kOf T e ∧ 0 < kOf T e ∧ (T e).ok = true := by
  have ht := hT e
  unfold zeroEl at h
  unfold kOf
  split at h
  · rename_i fs hst
    rw [hst] at ht ⊢
    obtain ⟨hpos, _, _, _, bytes, hb, hi⟩ := ht
    obtain ⟨i, h1, h2, h3, h4⟩ := hi.info
    obtain ⟨z1, z2⟩ := zeroScs_ok hT h
    exact ⟨i, _, bytes, h1, h2, h3, hb, h4, by simp [Value.cells, z1], z2, hpos, rfl⟩
  · rename_i hn
    simp only [Option.map_eq_some_iff] at h
    obtain ⟨x, hx, rfl⟩ := h
    unfold zeroSc at hx
    split at hx <;> cases hx <;> rename_i hst <;> rw [hst] at ht ⊢
    all_goals
      obtain ⟨_, hi⟩ := ht
      obtain ⟨i, h1, h2, h3, h4⟩ := hi.info
      exact ⟨i, _, _, h1, h2, h3, by decide, h4, rfl, rfl, by show 0 < 1; exact Nat.one_pos, rfl⟩

theorem madeCells_rep {z : Array Value} {k : Nat} (hk : z.size = k) (hpos : 0 < k) : ∀ n : Nat, (madeCells z (n * k)).toList = (List.replicate n z.toList).flatten := by
  intro n
  apply List.ext_getElem?
  intro j
  unfold madeCells
  have hlen : ((List.replicate n z.toList).flatten).length = n * k := by
    induction n with
    | zero => simp
    | succ n ih => rw [List.replicate_succ, List.flatten_cons, List.length_append, ih, Array.length_toList, hk, Nat.add_mul]; omega
  by_cases hj : j < n * k
  · have h1 : (List.replicate n z.toList).flatten[j]? = z.toList[j % k]? := by
      clear hlen
      induction n generalizing j with
      | zero => simp at hj
      | succ n ih =>
        rw [List.replicate_succ, List.flatten_cons]
        by_cases hjk : j < k
        · rw [List.getElem?_append_left (by rw [Array.length_toList, hk]; exact hjk), Nat.mod_eq_of_lt hjk]
        · rw [List.getElem?_append_right (by rw [Array.length_toList, hk]; omega), Array.length_toList, hk]
          rw [ih (j - k) (by rw [Nat.add_mul] at hj; omega)]
          rw [← Nat.mod_eq_sub_mod (by omega)]
    rw [h1]
    have hm : j % k < z.size := by rw [hk]; exact Nat.mod_lt _ hpos
    have hm' : j % z.size < z.size := by rw [hk]; rw [hk] at hm; exact hm
    simp [hj, hk]
    rw [getElem!_pos z (j % k) hm]
    exact (Array.getElem?_eq_getElem hm).symm
  · rw [List.getElem?_eq_none (l := (List.replicate n z.toList).flatten) (by omega)]
    rw [List.getElem?_eq_none]
    simp; omega

theorem cellsOf_rep (n : Nat) (z : El) : cellsOf (List.replicate n z) = (List.replicate n (z.map Sc.val)).flatten := by
  induction n with
  | zero => rfl
  | succ n ih => rw [List.replicate_succ, List.replicate_succ, List.flatten_cons, ← ih]; simp [cellsOf]

theorem owns_made {e k l c : Nat} {out : Array Value} {cs : List Value} (hN : N0 ≤ w.heap.size) (hsz : out.size = c * k) (hl : out.toList.take (l * k) = cs) (hc : cs.length = l * k) (hlc : l ≤ c) (hm : c ≤ maxLen) :
    (w.alloc (.cells out e)).ownsRow N0 e k (.slice (some ⟨w.heap.size, 0, none⟩) l c) l cs :=
  ⟨hc, .inr ⟨w.heap.size, c, out, rfl, hN, heap_new w _, hlc, hm, hsz, hl⟩⟩

theorem EffU_make (hT : TOk P T) {o : Oper} {t : Nat} {l c : Operand} {ob : Obj} {id : Nat} (ho : o.op = .makeSlice t l c) (hd : Oper.dstOk o s.n = true) (h : rMake T t (s.ev l) (s.ev c) = some ob) :
    EffU P o s (newE id (.one (.ref id)) ob) := by
  refine EffU_new hd fun s2 h2 N0 W0 β a w r => ?_
  have hel : s2.ev l = s.ev l := slots_ev h2 (by rw [ho]; simp [Op.operands])
  have hec : s2.ev c = s.ev c := slots_ev h2 (by rw [ho]; simp [Op.operands])
  have hvl := r.ev l
  have hvc := r.ev c
  rw [hel] at hvl
  rw [hec] at hvc
  unfold rMake at h
  split at h
  · rename_i e ln cn hst hl hc
    rw [hl] at hvl
    rw [hc] at hvc
    have hvl' : a.eval l = .int .i64 ln := hvl
    have hvc' : a.eval c = .int .i64 cn := hvc
    have hu : P.underlying t = some (.slice e) := by have := hT t; rw [hst] at this; exact this.1
    split at h
    · rename_i hcond
      obtain ⟨c0, cmax, hlc⟩ := hcond
      have l0 : 0 ≤ ln := by rcases hlc with h | h <;> omega
      have lc : ln ≤ cn := by rcases hlc with h | h <;> omega
      have hexec : ∀ {i : TypeInfo} {z : Value}, P.info? e = some i → i.zero = some z → i.bytes ≤ 64 → (execOp a.eval o).run P w = .ok (.value (.slice (some ⟨w.heap.size, 0, none⟩) ln.toNat cn.toNat)) (w.alloc (.cells (madeCells z.cells (cn.toNat * i.size)) e)) := by
        intro i z hi hz hb
        have hb2 : (i.bytes : Int) * cn ≤ 281474976710656 := by
          have h1 : (i.bytes : Int) ≤ 64 := by omega
          have h2 : (i.bytes : Int) * cn ≤ 64 * cn := Int.mul_le_mul_of_nonneg_right h1 c0
          omega
        have hr := run_make (P := P) w t e i z hu hi hz .i64 .i64 ln cn l0 lc hb2 (by omega)
        unfold execOp
        rw [ho]
        simp only [Sem.run_bind, hvl', hvc', hr, Result.andThen_ok, Sem.run_pure]
      have hlt : ln.toNat ≤ cn.toNat := by omega
      split at h
      · cases h
      · rename_i e' hse
        cases h
        have ht := hT e
        rw [hse] at ht
        obtain ⟨_, hi⟩ := ht
        obtain ⟨i, h1, h2', h3, h4⟩ := hi.info
        have hcells : (Value.slice none 0 0).cells = #[.slice none 0 0] := rfl
        have hmk := madeCells_rep (z := (Value.slice none 0 0).cells) (k := 1) rfl (by omega) cn.toNat
        have hsz : (madeCells (Value.slice none 0 0).cells (cn.toNat * 1)).size = cn.toNat * 1 := size_madeCells _ _
        have htake : (madeCells (Value.slice none 0 0).cells (cn.toNat * 1)).toList.take (ln.toNat * 1) = List.replicate ln.toNat (.slice none 0 0) := by
          rw [hmk, hcells]
          have : ∀ n, (List.replicate n [Value.slice none 0 0]).flatten = List.replicate n (Value.slice none 0 0) := fun n => by
            induction n with
            | zero => rfl
            | succ n ih => rw [List.replicate_succ, List.replicate_succ, List.flatten_cons, ih]; rfl
          rw [show (#[Value.slice none 0 0] : Array Value).toList = [Value.slice none 0 0] from rfl, this, List.take_replicate, Nat.min_eq_left (by omega), Nat.mul_one]
        refine ⟨_, _, e, .slice (some ⟨w.heap.size, 0, none⟩) ln.toNat cn.toNat, List.replicate ln.toNat (.slice none 0 0), hexec h1 h4 (by omega), fun F β' hF hβ => ?_, fun b hb => ?_, fun F β' hid => ⟨_, hid, rfl⟩⟩
        · rw [h2']
          refine ⟨?_, ?_, ?_, ?_⟩
          · rw [List.length_replicate]
            exact owns_made r.size0 hsz htake (by simp) hlt (by unfold maxLen; omega)
          · have : ∀ n, All2 (fun o v => RowO N0 (w.alloc (.cells (madeCells (Value.slice none 0 0).cells (cn.toNat * 1)) e)) e' v o) (List.replicate n none) (List.replicate n (.slice none 0 0)) := fun n => by
              induction n with
              | zero => trivial
              | succ n ih => exact ⟨rfl, ih⟩
            exact this _
          · intro i j u v hu hv hne hb
            have := List.eq_of_mem_replicate (List.mem_of_getElem? hu)
            subst this
            exact (hb rfl).elim
          · intro v hv hb
            have := List.eq_of_mem_replicate hv
            subst this
            exact (hb rfl).elim
        · rcases hb with hb | ⟨_, v, hv, hb⟩
          · cases hb; rfl
          · have := List.eq_of_mem_replicate hv
            subst this
            cases hb
      · rename_i hn1 hn2
        simp only [Option.map_eq_some_iff] at h
        obtain ⟨z, hz, rfl⟩ := h
        obtain ⟨i, zv, bytes, h1, h2', h3, hb64, h4, h5, h6, hpos, hok⟩ := zeroEl_ok hT hz
        have hzs : zv.cells.size = kOf T e := by
          have := congrArg List.length h5
          simpa [h6] using this
        have hmk := madeCells_rep hzs hpos cn.toNat
        rw [h5] at hmk
        have hsz : (madeCells zv.cells (cn.toNat * kOf T e)).size = cn.toNat * kOf T e := size_madeCells _ _
        have hfl : Flat (kOf T e) (List.replicate ln.toNat z) := fun x hx => by rw [List.eq_of_mem_replicate hx]; exact h6
        have htake : (madeCells zv.cells (cn.toNat * kOf T e)).toList.take (ln.toNat * kOf T e) = cellsOf (List.replicate ln.toNat z) := by
          have hfl2 : Flat (kOf T e) (List.replicate cn.toNat z) := fun x hx => by rw [List.eq_of_mem_replicate hx]; exact h6
          rw [hmk, ← cellsOf_rep, ← cellsOf_take ln.toNat hfl2, List.take_replicate, Nat.min_eq_left hlt]
        refine ⟨_, _, e, .slice (some ⟨w.heap.size, 0, none⟩) ln.toNat cn.toNat, [], hexec h1 h4 (by omega), fun F β' hF hβ => ⟨?_, hfl⟩, fun b hb => slice_blk (fun hh => by cases hh) hb, fun F β' hid => ⟨_, hid, rfl⟩⟩
        rw [h2', List.length_replicate]
        exact owns_made r.size0 hsz htake (by rw [flat_len hfl, List.length_replicate]) hlt (by unfold maxLen; omega)
    · cases h
  · cases h

end
end Go.Eng
