/- The engine, part 15: append to a row of plain cells; make. -/
import Derived.Test.YtoanlehkkideiaaE14
set_option linter.unusedVariables false
namespace Go.Eng
open Go Go.RowKit

section
variable {N0 : Nat} {W0 : World} {s s' : AS} {β β' : Plc} {a : Act} {w w' : World} {P : Program} {T : Tys}

/-- What is appended: so many elements, at an address or nowhere. -/
def SrcAt (w : World) (k : Nat) (v : Value) (m : Nat) (news : List Value) : Prop :=
  news.length = m * k ∧ (∀ u ∈ news, u.oneCell' = true) ∧
  ((∃ c, v = .slice none m c ∧ m = 0) ∨ ∃ ad c, v = .slice (some ad) m c ∧ ∀ j u, news[j]? = some u → w.cell? (ad.add j) = some u)

theorem info_k (hT : TOk P T) {e : Nat} (h : (T e).ok = true) : ∃ i z bytes, P.info? e = some i ∧ i.size = kOf T e ∧ i.bytes = bytes ∧ i.zero = some z ∧ z.cells.size = kOf T e ∧ 0 < kOf T e ∧ bytes ≤ 64 := by
  have ht := hT e
  unfold kOf
  cases hst : T e <;> rw [hst] at ht h
  case st fs =>
    obtain ⟨hpos, _, _, _, bytes, hb, hi⟩ := ht
    obtain ⟨i, h1, h2, h3, h4⟩ := hi.info
    exact ⟨i, _, bytes, h1, h2, h3, h4, by simp [Value.cells], hpos, hb⟩
  case oth => simp [TI.ok] at h
  all_goals
    obtain ⟨_, hi⟩ := ht
    obtain ⟨i, h1, h2, h3, h4⟩ := hi.info
    exact ⟨i, _, _, h1, h2, h3, h4, rfl, by show 0 < 1; exact Nat.one_pos, by decide⟩

theorem run_append_zero {t e ty : Nat} (hu : P.underlying t = some (.slice e)) {k : Nat} (hs : (sizeOf e).run P w = .ok k w) {p : Option Addr} {n cap c : Nat} (hn : n ≤ cap) :
    (Builtin.append_ #[t, t] ty #[.slice p n cap, .slice none 0 c]).run P w = .ok (.slice p n cap) w := by
  cases p with
  | none => simp [Builtin.append_, run_underlying hu, hs, Builtin.lenOf, hn, run_firstCells_none]
  | some ad => simp [Builtin.append_, run_underlying hu, hs, Builtin.lenOf, hn, run_firstCells_none, storeCells]

theorem append_run (hT : TOk P T) {t e : Nat} (ht : T t = .sl e) (hok : (T e).ok = true) {ty : Nat} {v xv : Value} {n m : Nat} {xs news : List Value} (hown : w.ownsRow N0 e (kOf T e) v n xs) (hN : N0 ≤ w.heap.size)
    (hsrc : SrcAt w (kOf T e) xv m news) (hle : n + m ≤ 1099511627776) :
    ∃ v' w', (Builtin.append_ #[t, t] ty #[v, xv]).run P w = .ok v' w' ∧ w'.ownsRow N0 e (kOf T e) v' (n + m) (xs ++ news) ∧ w.grownBy w' (blockOf v) ∧ (blockOf v' = blockOf v ∨ blockOf v' = some w.heap.size) ∧ v'.oneCell' = true := by
  have hu : P.underlying t = some (.slice e) := by have := hT t; rw [ht] at this; exact this.1
  have hs := size_k hT hok w
  obtain ⟨i, z, bytes, hi, hsize, hby, hz, hzs, hpos, hb64⟩ := info_k hT hok
  obtain ⟨hl, h1, hx⟩ := hsrc
  have hown' : v.ownBlock = blockOf v := by
    rcases hown.2 with ⟨rfl, _⟩ | ⟨g, cap, cur, rfl, _⟩ <;> rfl
  have hbytes : (n + m) * bytes ≤ 140737488355328 := by
    have : (n + m) * bytes ≤ 1099511627776 * 64 := Nat.mul_le_mul hle hb64
    omega
  rcases hx with ⟨c, rfl, rfl⟩ | ⟨ad, c, rfl, hnews⟩
  · have hnil : news = [] := List.eq_nil_of_length_eq_zero (by simpa using hl)
    subst hnil
    obtain ⟨p, cap, rfl, hc⟩ := owns_len hown
    exact ⟨_, w, run_append_zero hu hs hc, by simpa using hown, grownBy_refl _ _, .inl rfl, rfl⟩
  · obtain ⟨v', w', hr, ho', hg', _⟩ := run_append_own (P := P) w N0 t ty e i z (kOf T e) bytes hu hi hz hsize hby hzs hpos v n xs hown ad m c news hl hnews h1 (by unfold maxLen; omega) hbytes hN
    rw [hown'] at hg'
    obtain ⟨p', cap', hv', _⟩ := owns_len ho'
    refine ⟨v', w', hr, ho', hg', ?_, by rw [hv']; rfl⟩
    rcases hown.2 with ⟨rfl, rfl⟩ | ⟨g, cap, cur, rfl, hbg, hgc, hnc, hcm, hcs, htake⟩
    · by_cases hm : m = 0
      · subst hm
        have hnil : news = [] := List.eq_nil_of_length_eq_zero (by simpa using hl)
        subst hnil
        have : (Builtin.append_ #[t, t] ty #[.slice none 0 0, .slice (some ad) 0 c]).run P w = .ok (.slice none 0 0) w := by
          have hf := run_firstCells_some (P := P) w (kOf T e) 0 ad 0 c [] (by simp) (fun j v h => by simp at h)
          simp [Builtin.append_, run_underlying hu, hs, Builtin.lenOf, hf]
        rw [this] at hr
        cases hr
        exact .inl rfl
      · have := run_append_nil (P := P) w t ty e i z hu hi hz ad m c news (by rw [hsize]; exact hl) hnews (by omega) (by omega) (by rw [hby]; simp only [Nat.zero_add] at hbytes; omega)
        rw [this] at hr
        cases hr
        exact .inr rfl
    · by_cases hroom : n + m ≤ cap
      · have hfit : n * i.size + news.length ≤ cur.size := by rw [hl, hcs, hsize, ← Nat.add_mul]; exact Nat.mul_le_mul_right _ hroom
        have := run_append_room (P := P) w t ty e i hu hi g n cap cur hgc ad m c news (by rw [hsize]; exact hl) hnews h1 hroom hfit
        rw [this] at hr
        cases hr
        exact .inl rfl
      · have := run_append_grow (P := P) w t ty e i z hu hi hz ⟨g, 0, none⟩ n cap xs (by rw [hsize]; exact hown.1) (hown.cells (g := g) rfl) ad m c news (by rw [hsize]; exact hl) hnews (by omega) (by omega) (growslice_fits (by omega) (by rw [hby]; exact hbytes))
        rw [this] at hr
        cases hr
        exact .inr rfl

/-- The source of an append: rows of plain cells. -/
def rSrc (T : Tys) (s : AS) (e : Nat) (x : AV) : Option (List El × List Nat) :=
  match x with
  | .one .nil => some ([], [])
  | .one (.imm k xs) => if kOf T e = k then some (xs, []) else none
  | .one (.row _ o) => if kOf T e = 1 then some (o.getD [], []) else none
  | .one (.ref id) => match s.obj id with
    | some (.flat _ k xs) => if kOf T e = k then some (xs, [id]) else none
    | some (.zrow _ k) => if kOf T e = k then some ([], [id]) else none
    | _ => none
  | .one (.pre id n) => match s.obj id with
    | some (.flat _ k xs) => if kOf T e = k then some (xs.take n, [id]) else none
    | _ => none
  | .one (.win id k l n) => match s.obj id with
    | some (.flat _ k' xs) => if kOf T e = k ∧ k = k' then some ((xs.drop l).take n, [id]) else none
    | _ => none
  | _ => none

theorem vals_one (xs : List El) : ∀ u ∈ cellsOf xs, u.oneCell' = true := by
  intro u hu
  unfold cellsOf at hu
  obtain ⟨x, _, rfl⟩ := List.mem_map.1 hu
  exact x.val_one

theorem src_imm {F : Nat → Prop} {k : Nat} {v : Value} {xs : List El} (h : Imm F w k v xs) : SrcAt w k v xs.length (cellsOf xs) := by
  obtain ⟨⟨p, cap, rfl, hc, hcells⟩, hf⟩ := h
  refine ⟨flat_len hf, vals_one xs, ?_⟩
  by_cases h0 : xs.length = 0
  · have hx : xs = [] := List.eq_nil_of_length_eq_zero h0
    subst hx
    cases p with
    | none => exact .inl ⟨cap, rfl, rfl⟩
    | some ad => exact .inr ⟨ad, cap, rfl, fun j u hu => by simp [cellsOf] at hu⟩
  · rcases hcells with hz | ⟨b, off, rfl, hF, hr⟩
    · exact (h0 hz).elim
    · exact .inr ⟨_, cap, rfl, fun j u hu => by rw [Addr.add_lit]; exact hr j u hu⟩

theorem rSrc_ok (r : Rel N0 W0 s β a w) {e : Nat} {x : AV} {y : List El × List Nat} {v : Value} (h : rSrc T s e x = some y) (hx : AR N0 β (Free s β w) w x v) : SrcAt w (kOf T e) v y.1.length (cellsOf y.1) ∧ Flat (kOf T e) y.1 := by
  have hk : Keep (Free s β w) (fun b => b < w.heap.size) w w := fun b hb => ⟨hb.1, rfl⟩
  have key : Imm (fun b => b < w.heap.size) w (kOf T e) v y.1 := by
    have hnil : v = .slice none 0 0 → Imm (fun b => b < w.heap.size) w (kOf T e) v [] := fun hv => ⟨⟨none, 0, hv, Nat.le_refl _, .inl rfl⟩, fun e he => by cases he⟩
    unfold rSrc at h
    split at h
    · cases h; exact hnil hx
    · split at h
      · rename_i hk1; cases h; rw [hk1]; exact Imm.keep hk hx
      · cases h
    · rename_i e' o
      split at h
      · rename_i hk1
        cases h
        cases o with
        | none => exact hnil hx
        | some xs => rw [hk1]; exact (imm_of_rowL hx).keep hk
      · cases h
    · rename_i id
      split at h
      · rename_i e' k xs ho
        split at h
        · rename_i hk1
          cases h
          obtain ⟨pv, vs, hp, hat, _⟩ := r.obj id _ ho
          obtain ⟨vs', hv, _⟩ := hx
          rw [hp] at hv; cases hv
          rw [hk1]
          exact imm_of_owns hat.1 hat.2
        · cases h
      · rename_i e' k ho
        split at h
        · rename_i hk1
          cases h
          obtain ⟨pv, vs, hp, hat, _⟩ := r.obj id _ ho
          obtain ⟨vs', hv, _⟩ := hx
          rw [hp] at hv; cases hv
          rw [hk1]
          exact imm_of_owns (xs := []) hat.1 (fun e he => by cases he)
        · cases h
      · cases h
    · rename_i id n
      split at h
      · rename_i e' k xs ho
        split at h
        · rename_i hk1
          cases h
          obtain ⟨pv, vs, hp, hat, _⟩ := r.obj id _ ho
          obtain ⟨p, m, cap, vs', hv, he, hn⟩ := hx
          rw [hp] at hv; cases hv
          rw [hk1]
          exact pre_imm rfl hat.1 hat.2 hn he
        · cases h
      · cases h
    · rename_i id k l n
      split at h
      · rename_i e' k' xs ho
        split at h
        · rename_i hk1
          cases h
          obtain ⟨pv, vs, hp, hat, _⟩ := r.obj id _ ho
          obtain ⟨p, m, cap, vs', hv, hln, p', cap', he, hnc, hp'⟩ := hx
          rw [hp] at hv; cases hv
          rw [hk1.1]
          obtain ⟨h1, rfl⟩ := hk1
          exact win_imm rfl hat.1 hat.2 hln he hnc hp'
        · cases h
      · cases h
    · cases h
  exact ⟨src_imm key, key.2⟩

/-- The row that is appended to: its number (none: nil), its elements. -/
def rDst (T : Tys) (s : AS) (e : Nat) (x : AV) : Option (Option Nat × List El) :=
  match x with
  | .one .nil => some (none, [])
  | .one (.ref id) => match s.obj id with
    | some (.flat e' k xs) => if e' = e ∧ k = kOf T e then some (some id, xs) else none
    | some (.zrow e' k) => if e' = e ∧ k = kOf T e then some (some id, []) else none
    | _ => none
  | .one (.pre id n) => match s.obj id with
    | some (.flat e' k xs) => if e' = e ∧ k = kOf T e then some (some id, xs.take n) else none
    | _ => none
  | _ => none

def killL : Option Nat → List (Nat × Option Obj)
  | some id => [(id, none)]
  | none => []

/-- append(s, x...) -/
def rAppend (T : Tys) (s : AS) (t id' : Nat) (x y : AV) : Option Eff :=
  match T t with
  | .sl e =>
    if (T e).ok = true then
      (rDst T s e x).bind fun d => (rSrc T s e y).bind fun q =>
        if d.2.length + q.1.length ≤ 1099511627776 then
          some { val := .one (.ref id'), sets := (id', some (.flat e (kOf T e) (d.2 ++ q.1))) :: killL d.1, fresh := [id'], log := d.1.toList ++ q.2 }
        else none
    else none
  | _ => none

theorem cellsOf_append (xs ys : List El) : cellsOf (xs ++ ys) = cellsOf xs ++ cellsOf ys := by simp [cellsOf]

theorem Flat.append {k : Nat} {xs ys : List El} (h : Flat k xs) (h' : Flat k ys) : Flat k (xs ++ ys) := fun e he => by
  rcases List.mem_append.1 he with h1 | h1
  · exact h e h1
  · exact h' e h1

theorem rAppend_ok (hT : TOk P T) (r : Rel N0 W0 s β a w) {t id' ty : Nat} {x y : AV} {f : Eff} {xv yv : Value} (h : rAppend T s t id' x y = some f) (hid : id' ∉ s.used) (hx : AR N0 β (Free s β w) w x xv) (hy : AR N0 β (Free s β w) w y yv) :
    ∃ v' w' β', (Builtin.append_ #[t, t] ty #[xv, yv]).run P w = .ok v' w' ∧ Rel N0 W0 { s with H := f.sets ++ s.H, used := f.fresh ++ s.used } β' a w' ∧ AR N0 β' (Free { s with H := f.sets ++ s.H, used := f.fresh ++ s.used } β' w') w' f.val v' := by
  have hid' : s.used.contains id' = false := by simpa using hid
  unfold rAppend at h
  split at h
  · rename_i e hst
    split at h
    · rename_i hok
      simp only [Option.bind_eq_some_iff] at h
      obtain ⟨d, hd, q, hq, h⟩ := h
      split at h
      · rename_i hle
        cases h
        obtain ⟨hsrc, hqf⟩ := rSrc_ok r hq hy
        -- appending to a row v0 of n0 elements whose cells are cells of d.2
        have fin : ∀ (v0 : Value), w.ownsRow N0 e (kOf T e) v0 d.2.length (cellsOf d.2) → Flat (kOf T e) d.2 → ∃ v' w', (Builtin.append_ #[t, t] ty #[v0, yv]).run P w = .ok v' w' ∧ w.grownBy w' (blockOf v0) ∧ (blockOf v' = blockOf v0 ∨ blockOf v' = some w.heap.size) ∧ v'.oneCell' = true ∧
            (∀ F β', ObjAt N0 β' F w' v' [] (.flat e (kOf T e) (d.2 ++ q.1))) ∧ (∀ b, blockOf v' = some b → b < w'.heap.size) := by
          intro v0 hown hdf
          obtain ⟨v', w', h1, h2, h3, h4, h5⟩ := append_run (ty := ty) hT hst hok hown r.size0 hsrc hle
          refine ⟨v', w', h1, h3, h4, h5, fun F β' => ⟨?_, hdf.append hqf⟩, fun b hb => ?_⟩
          · rw [List.length_append, cellsOf_append]; exact h2
          · have : v'.ownBlock = some b := by
              obtain ⟨p, cap, hv, _⟩ := owns_len h2
              rw [hv] at hb ⊢
              cases p <;> simp [blockOf, Value.ownBlock] at hb ⊢ <;> exact hb
            exact (h2.lt b this).2
        unfold rDst at hd
        split at hd
        · -- nil
          cases hd
          have hx' : xv = .slice none 0 0 := hx
          subst hx'
          obtain ⟨v', w', h1, h3, h4, h5, h6, h7⟩ := fin (.slice none 0 0) (World.ownsRow_nil _ _ _ _) (fun e he => by cases he)
          have hbel : Below w.heap.size w w' := ⟨h3.os, h3.tape, h3.output, h3.size, fun k hk => h3.block k hk (by simp [blockOf])⟩
          have r' := r.alloc hbel hid' (o := .flat e (kOf T e) ([] ++ q.1)) (pv := v') (vs := []) (fun F β' _ _ => h6 F β') (fun b hb => by
            rcases hb with hb | ⟨hb, _⟩
            · refine ⟨?_, h7 b hb⟩
              rcases h4 with h4 | h4
              · rw [h4] at hb; cases hb
              · rw [h4] at hb; cases hb; exact Nat.le_refl _
            · cases hb)
          exact ⟨v', w', _, h1, r', [], by simp [Plc.set], h5⟩
        · rename_i id
          obtain ⟨vs, hv, hone⟩ := hx
          split at hd
          · rename_i e' k xs ho
            split at hd
            · rename_i hek
              obtain ⟨rfl, rfl⟩ := hek
              cases hd
              obtain ⟨pv, vs', hp, hat, hblk⟩ := r.obj id _ ho
              rw [hp] at hv; cases hv
              obtain ⟨v', w', h1, h3, h4, h5, h6, h7⟩ := fin _ hat.1 hat.2
              have r' := r.rewrite ho hp h3 hid' (o' := .flat e' (kOf T e') (xs ++ q.1)) (pv' := v') (vs' := []) (fun F β' _ _ => h6 F β') (fun b hb => by
                rcases hb with hb | ⟨hb, _⟩
                · refine ⟨h7 b hb, ?_⟩
                  rcases h4 with h4 | h4
                  · exact .inr (.inl (by rw [← h4]; exact hb))
                  · rw [h4] at hb; cases hb; exact .inl (Nat.le_refl _)
                · cases hb)
              exact ⟨v', w', _, h1, r', [], by simp [Plc.set], h5⟩
            · cases hd
          · rename_i e' k ho
            split at hd
            · rename_i hek
              obtain ⟨rfl, rfl⟩ := hek
              cases hd
              obtain ⟨pv, vs', hp, hat, hblk⟩ := r.obj id _ ho
              rw [hp] at hv; cases hv
              obtain ⟨v', w', h1, h3, h4, h5, h6, h7⟩ := fin _ hat.1 (fun e he => by cases he)
              have r' := r.rewrite ho hp h3 hid' (o' := .flat e' (kOf T e') ([] ++ q.1)) (pv' := v') (vs' := []) (fun F β' _ _ => h6 F β') (fun b hb => by
                rcases hb with hb | ⟨hb, _⟩
                · refine ⟨h7 b hb, ?_⟩
                  rcases h4 with h4 | h4
                  · exact .inr (.inl (by rw [← h4]; exact hb))
                  · rw [h4] at hb; cases hb; exact .inl (Nat.le_refl _)
                · cases hb)
              exact ⟨v', w', _, h1, r', [], by simp [Plc.set], h5⟩
            · cases hd
          · cases hd
        · rename_i id n
          obtain ⟨p, m, cap, vs, hv, rfl, hn⟩ := hx
          split at hd
          · rename_i e' k xs ho
            split at hd
            · rename_i hek
              obtain ⟨rfl, rfl⟩ := hek
              cases hd
              obtain ⟨pv, vs', hp, hat, hblk⟩ := r.obj id _ ho
              rw [hv] at hp; cases hp
              have hm : m = xs.length := by obtain ⟨_, _, he, _⟩ := owns_len hat.1; cases he; rfl
              have ht := ownsRow_take hat.1 (n := n) (by omega)
              have hl : (xs.take n).length = n := by simp; omega
              obtain ⟨v', w', h1, h3, h4, h5, h6, h7⟩ := fin (.slice p n cap) (by rw [hl, cellsOf_take n hat.2]; exact ht) (hat.2.take n)
              have hbe : blockOf (.slice p n cap) = blockOf (.slice p m cap) := by cases p <;> rfl
              rw [hbe] at h3 h4
              have r' := r.rewrite ho hv h3 hid' (o' := .flat e' (kOf T e') (xs.take n ++ q.1)) (pv' := v') (vs' := []) (fun F β' _ _ => h6 F β') (fun b hb => by
                rcases hb with hb | ⟨hb, _⟩
                · refine ⟨h7 b hb, ?_⟩
                  rcases h4 with h4 | h4
                  · exact .inr (.inl (by rw [← h4]; exact hb))
                  · rw [h4] at hb; cases hb; exact .inl (Nat.le_refl _)
                · cases hb)
              exact ⟨v', w', _, h1, r', [], by simp [Plc.set], h5⟩
            · cases hd
          · cases hd
        · cases hd
      · cases h
    · cases h
  · cases h

end
end Go.Eng
