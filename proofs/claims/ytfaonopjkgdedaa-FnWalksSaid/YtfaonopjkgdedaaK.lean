import Derived.Test.YtfaonopjkgdedaaR
import Derived.Shelf.Sort.Plain
import Derived.Shelf.Slices.In.SortNone
import Derived.Ground.NamesProg
import Derived.Test.YtfaonopjkgdedaaA
import Derived.Test.YtfaonopjkgdedaaD
set_option linter.unusedVariables false
set_option linter.unusedSimpArgs false
set_option linter.unnecessarySimpa false
namespace Go.Proofs.Try
open Go Go.Eng
set_option linter.unnecessarySimpa false
set_option linter.unusedSimpArgs false
set_option maxHeartbeats 4000000

/-! ### Lists of ints: compacted, sorted -/
def cptI (l : List Int) : Nat → List Int
  | 0 => []
  | n + 1 => if n ≠ 0 ∧ ix l n = ix l (n - 1) then cptI l n else cptI l n ++ [ix l n]
theorem cptI_len (l : List Int) : ∀ n, (cptI l n).length ≤ n
  | 0 => by simp [cptI]
  | n + 1 => by
    have := cptI_len l n
    unfold cptI
    split
    · omega
    · simp; omega
theorem cptI_mem {l : List Int} {x : Int} : ∀ {n : Nat}, x ∈ cptI l n ↔ ∃ i, i < n ∧ x = ix l i
  | 0 => by simp [cptI]
  | n + 1 => by
    unfold cptI
    split
    · rename_i h
      rw [cptI_mem]
      constructor
      · rintro ⟨i, hi, rfl⟩; exact ⟨i, by omega, rfl⟩
      · rintro ⟨i, hi, rfl⟩
        by_cases hin : i = n
        · subst hin; exact ⟨i - 1, by omega, h.2⟩
        · exact ⟨i, by omega, rfl⟩
    · rw [List.mem_append, cptI_mem, List.mem_singleton]
      constructor
      · rintro (⟨i, hi, rfl⟩ | rfl)
        · exact ⟨i, by omega, rfl⟩
        · exact ⟨n, by omega, rfl⟩
      · rintro ⟨i, hi, rfl⟩
        by_cases hin : i = n
        · subst hin; exact .inr rfl
        · exact .inl ⟨i, by omega, rfl⟩
theorem cptI_asc {l : List Int} (hs : ∀ i j, i < j → j < l.length → ix l i ≤ ix l j) : ∀ n, n ≤ l.length → ascI (cptI l n)
  | 0, _ => List.Pairwise.nil
  | n + 1, hn => by
    have ih := cptI_asc hs n (by omega)
    unfold cptI
    split
    · exact ih
    · rename_i h
      refine List.pairwise_append.2 ⟨ih, by simp, fun x hx y hy => ?_⟩
      rw [List.mem_singleton] at hy
      subst hy
      obtain ⟨i, hi, rfl⟩ := cptI_mem.1 hx
      have h1 : ix l n ≠ ix l (n - 1) := fun e => h ⟨by omega, e⟩
      have h2 := hs (n - 1) n (by omega) (by omega)
      by_cases hi2 : i = n - 1
      · subst hi2; omega
      · have h3 := hs i (n - 1) (by omega) (by omega)
        omega
theorem cptI_all {l : List Int} : ∀ {n : Nat}, (∀ i, 1 ≤ i → i < n → ix l i ≠ ix l (i - 1)) → n ≤ l.length → cptI l n = l.take n
  | 0, _, _ => by simp [cptI]
  | n + 1, h, hn => by
    unfold cptI
    rw [if_neg (fun hh => h n (by omega) (by omega) hh.2), cptI_all (n := n) (fun i h1 h2 => h i h1 (by omega)) (by omega), List.take_add_one]
    simp [ix, show n < l.length by omega]
def CIi (l : List Int) (k0 k j : Nat) (M : List Int) : Prop := 1 ≤ j ∧ k0 + j ≤ l.length ∧ k0 ≤ k ∧ k + 1 ≤ k0 + j ∧ M.length = l.length ∧ M.take k = cptI l (k0 + j) ∧ ∀ x, k0 + j ≤ x + 1 → ix M x = ix l x
theorem CIi_0 {l : List Int} {k0 : Nat} (h0 : 1 ≤ k0) (h : k0 < l.length) (he : ix l k0 = ix l (k0 - 1)) (hn : ∀ i, 1 ≤ i → i < k0 → ix l i ≠ ix l (i - 1)) : CIi l k0 k0 1 l := by
  refine ⟨by omega, by omega, by omega, by omega, rfl, ?_, fun x _ => rfl⟩
  rw [show cptI l (k0 + 1) = cptI l k0 from by conv => lhs; unfold cptI; rw [if_pos ⟨by omega, he⟩], cptI_all hn (by omega)]
theorem ix_seti {l : List Int} {i j : Nat} {a : Int} (h : i < l.length) : ix (l.set i a) j = if i = j then a else ix l j := by
  simp only [ix, List.getD_eq_getElem?_getD, List.getElem?_set]
  by_cases hij : i = j
  · subst hij; simp [h]
  · simp [hij]
theorem CIi_same {l M : List Int} {k0 k j : Nat} (h : CIi l k0 k j M) (hj : k0 + j < l.length) (he : ix M (k0 + j) = ix M (k0 + j - 1)) : CIi l k0 k (j + 1) M := by
  obtain ⟨h1, h2, h3, h4, h5, h6, h7⟩ := h
  refine ⟨by omega, by omega, h3, by omega, h5, ?_, fun x hx => h7 x (by omega)⟩
  rw [h7 _ (by omega), h7 _ (by omega)] at he
  rw [h6, show k0 + (j + 1) = (k0 + j) + 1 by omega]
  conv => rhs; unfold cptI
  rw [if_pos ⟨by omega, he⟩]
theorem CIi_next {l M : List Int} {k0 k j : Nat} (h : CIi l k0 k j M) (hj : k0 + j < l.length) (he : ix M (k0 + j) ≠ ix M (k0 + j - 1)) : CIi l k0 (k + 1) (j + 1) (M.set k (ix M (k0 + j))) := by
  obtain ⟨h1, h2, h3, h4, h5, h6, h7⟩ := h
  refine ⟨by omega, by omega, by omega, by omega, by simp [h5], ?_, fun x hx => ?_⟩
  · rw [h7 _ (by omega), h7 _ (by omega)] at he
    rw [show k0 + (j + 1) = (k0 + j) + 1 by omega]
    conv => rhs; unfold cptI
    rw [if_neg (fun hh => he hh.2), ← h6, h7 _ (by omega), List.take_add_one]
    rw [List.take_set_of_le (by omega)]
    simp [show k < M.length by omega]
  · rw [ix_seti (by omega), if_neg (by omega)]
    exact h7 x (by omega)
/-- In order, each once. -/
def nI (l : List Int) : List Int := l.foldl (fun a x => insI x a) []
theorem nIf (l : List Int) : ∀ a, ascI a → ascI (l.foldl (fun a x => insI x a) a) ∧ ∀ x, x ∈ l.foldl (fun a x => insI x a) a ↔ x ∈ a ∨ x ∈ l := by
  induction l with
  | nil => intro a h; exact ⟨h, by simp⟩
  | cons y r ih =>
    intro a h
    obtain ⟨h1, h2⟩ := ih (insI y a) (insI_asc h)
    refine ⟨h1, fun x => ?_⟩
    rw [List.foldl_cons, h2, insI_mem, List.mem_cons]
    constructor
    · rintro ((h | h) | h)
      · exact .inr (.inl h)
      · exact .inl h
      · exact .inr (.inr h)
    · rintro (h | h | h)
      · exact .inl (.inr h)
      · exact .inl (.inl h)
      · exact .inr h
theorem nI_asc (l : List Int) : ascI (nI l) := (nIf l [] List.Pairwise.nil).1
theorem nI_mem {l : List Int} {x : Int} : x ∈ nI l ↔ x ∈ l := by simpa [nI] using (nIf l [] List.Pairwise.nil).2 x
theorem nI_snoc (l : List Int) (x : Int) : nI (l ++ [x]) = insI x (nI l) := by simp [nI]
theorem nI_nil : nI [] = [] := rfl
theorem nI_len (l : List Int) : (nI l).length ≤ l.length := by
  suffices h : ∀ a : List Int, (l.foldl (fun a x => insI x a) a).length ≤ a.length + l.length by simpa [nI] using h []
  induction l with
  | nil => intro a; simp
  | cons y r ih => intro a; have := ih (insI y a); have := insI_len y a; simp only [List.foldl_cons, List.length_cons]; omega
def srtI (l : List Int) : List Int := l.mergeSort fun x y => decide (x ≤ y)
theorem srtI_len (l : List Int) : (srtI l).length = l.length := by simp [srtI]
theorem srtI_cpt (l : List Int) : cptI (srtI l) (srtI l).length = nI l := by
  have hp : (srtI l).Perm l := List.mergeSort_perm l _
  have hs : (srtI l).Pairwise fun a b => decide (a ≤ b) = true := List.pairwise_mergeSort (fun a b c h1 h2 => by simp at *; omega) (fun a b => by simp; omega) l
  refine ascI_ext (cptI_asc (fun i j hij hj => ?_) _ (Nat.le_refl _)) (nI_asc l) fun x => ?_
  · have := List.pairwise_iff_getElem.1 hs i j (by omega) hj hij
    simpa [ix, hj, show i < (srtI l).length by omega] using this
  · rw [cptI_mem, nI_mem, ← hp.mem_iff, List.mem_iff_getElem]
    constructor
    · rintro ⟨i, hi, rfl⟩; exact ⟨i, hi, by simp [ix, hi]⟩
    · rintro ⟨i, hi, rfl⟩; exact ⟨i, hi, by simp [ix, hi]⟩
def K_compactI_sat : Nat → List Nat := fun i => ([[0], [0, 8], [2], [0, 3], [0, 3, 13], [0, 3], [0, 3, 25], [0, 3, 4], [0, 3, 4, 5], [0, 3, 4, 5, 32], [0, 3, 4, 5], [0, 3, 4, 5, 44], [0, 3, 4, 5], [0, 3, 4, 5], [0, 3], [2], [2]] : List (List Nat)).getD i []
attribute [go_sem] K_compactI_sat
def compactI_sat_S : SpecX := fun args o o' => ∃ (e : Nat) (l : List Int), (l.length ≤ 1099511627776) ∧ args = [aR 0] ∧ o = .flat e 1 (ints l) ∧ o' = .flat e 1 (ints (cptI l l.length))
theorem compactI_sat : SatX Try.prog 63 compactI_sat_S := by
  refine satX_of tok okr mixed K_compactI_sat Try.func63 rfl (r := .tmp 2) rfl Try.ntmps63 ?_
  rintro args o o' ⟨e, l, hpre, rfl, rfl, rfl⟩
  refine ⟨by show 1 ≤ 61; decide, rfl, rfl, fun S W pv => ?_⟩
  repeat' (first|(refine ya ?_;first|refine ye ?_ | refine w_clr tok rfl (by first | rfl | assumption) rfl rfl (by simp (disch := first | omega | (simp; omega)) [go_sem, -Option.map_eq_some_iff]; rfl) (by simp [go_sem]; rfl) ?_)|refine yz ?_|(refine yA ?_;first|refine yE ?_)|refine yZ ?_|refine zst ?_|refine k_blk_other rfl ?_|(refine zk ?_ ?_<;>intro hc hr<;>try first|contradiction|exfalso;omega))
  · have : cptI l l.length = l := by
      rw [cptI_all (fun i h1 h2 => by omega) (Nat.le_refl _)]; simp
    rw [this]
    exact ⟨rfl, .inl ⟨0, rfl, rfl⟩⟩
  refine z_loop (fun k : Nat => [(3, aI k)]) (fun k : Nat => []) (fun k : Nat => 1 ≤ k ∧ k ≤ l.length ∧ ∀ i, 1 ≤ i → i < k → ix l i ≠ ix l (i - 1)) (fun k : Nat => l.length - k) (1) (h0 := ?_) (henv := ?_) (hobj := ?_) (h := ?_)
  · exact ⟨by omega, by omega, fun i h1 h2 => by omega⟩
  · simp [go_sem, AVm, CVm, lookS]
  · simp [go_sem, OBm, CVm, lookS, All2]
  rintro k0 ⟨h0, hk0, hno⟩
  have e1 : ((k0 : Int) - 1).toNat = k0 - 1 := by omega
  repeat' (first|(refine ya ?_;first|refine ye ?_ | refine w_clr tok rfl (by first | rfl | assumption) rfl rfl (by simp (disch := first | omega | (simp; omega)) [go_sem, -Option.map_eq_some_iff]; rfl) (by simp [go_sem]; rfl) ?_)|refine yz ?_|(refine yA ?_;first|refine yE ?_)|refine yZ ?_|refine zst ?_|refine k_blk_other rfl ?_|(refine zk ?_ ?_<;>intro hc hr<;>try first|contradiction|exfalso;omega))
  · have he : ix l k0 = ix l (k0 - 1) := hc
    have hk : k0 < l.length := by assumption
    refine z_loop (fun p : Nat × Nat × List Int => [(3, aI p.1), (5, aI p.2.1)]) (fun p : Nat × Nat × List Int => [.obj 0 (.flat e 1 (ints p.2.2))]) (fun p : Nat × Nat × List Int => CIi l k0 p.1 p.2.1 p.2.2) (fun p : Nat × Nat × List Int => l.length - (k0 + p.2.1)) ((k0, 1, l)) (h0 := ?_) (henv := ?_) (hobj := ?_) (h := ?_)
    · exact CIi_0 h0 hk he hno
    · simp [go_sem, AVm, CVm, lookS]
    · simp [go_sem, OBm, CVm, lookS, All2]
    rintro ⟨k, j, M⟩ hI
    have hI' := hI
    obtain ⟨h1, h2, h3, h4, h5, h6, h7⟩ := hI'
    simp only at h1 h2 h3 h4 h5 ⊢
    clear h6 h7 hno he hc hr
    have e2 : ((j : Int) - 1).toNat = j - 1 := by omega
    have e3 : k0 + (j - 1) = k0 + j - 1 := by omega
    repeat' (first|(refine ya ?_;first|refine ye ?_ | refine w_clr tok rfl (by first | rfl | assumption) rfl rfl (by simp (disch := first | omega | (simp; omega)) [go_sem, -Option.map_eq_some_iff]; rfl) (by simp [go_sem]; rfl) ?_)|refine yz ?_|(refine yA ?_;first|refine yE ?_)|refine yZ ?_|refine zst ?_|refine k_blk_other rfl ?_|(refine zk ?_ ?_<;>intro hc hr<;>try first|contradiction|exfalso;omega))
    · exact zl ((k + 1, j + 1, M.set k (ix M (k0 + j)))) (hj := by exact CIi_next hI (by omega) hc)
    · exact zl ((k, j + 1, M)) (hj := by exact CIi_same hI (by omega) hc)
    · have hj : k0 + j = l.length := by omega
      have h6 := hI.2.2.2.2.2.1
      simp only at h6
      rw [hj] at h6
      refine ⟨rfl, .inr ⟨0, k, e, 1, _, rfl, rfl, ?_⟩⟩
      rw [← h6]
      have hl2 : (M.take k).length = k := by rw [List.length_take]; omega
      simp only [Obj.flat.injEq, true_and]
      exact (List.take_left' (by rw [intsLen, hl2])).symm
  · have hk : k0 < l.length := by assumption
    exact zl (k0 + 1) (hj := by exact ⟨by omega, by omega, fun i h1 h2 => (Nat.lt_or_ge i k0).elim (fun h => hno i h1 h) fun h => by rw [show i = k0 by omega]; exact hc⟩)
  · have hk : k0 = l.length := by omega
    have : cptI l l.length = l := by
      rw [cptI_all (fun i h1 h2 => hno i h1 (by omega)) (Nat.le_refl _)]; simp
    rw [this]
    exact ⟨rfl, .inl ⟨0, rfl, rfl⟩⟩
instance : ConX Try.prog 63 compactI_sat_S := conX compactI_sat Try.func63
end Go.Proofs.Try
namespace Go.Proofs
open Go.Shelf
def Try.lays189_ren : Go.Shelf.Ren := ⟨fun | 189 => 62 | 125 => 72 | 257 => 71 | 128 => 85 | 129 => 86 | 294 => 76 | 295 => 77 | 296 => 78 | 297 => 79 | 298 => 80 | 299 => 81 | 216 => 82 | 300 => 83 | 301 => 84 | 328 => 89 | 329 => 90 | 330 => 91 | 331 => 92 | 332 => 93 | 215 => 94 | 343 => 95 | n => n, fun | 28 => 27 | 3 => 3 | 46 => 93 | 0 => 0 | 51 => 106 | 53 => 108 | 4 => 4 | 183 => 100 | 182 => 99 | 131 => 30 | 5 => 5 | 9 => 9 | 218 => 111 | 222 => 115 | 228 => 117 | 229 => 49 | n => n, fun | n => n⟩
theorem Try.lays189 : Go.Proofs.Lays.n189 Try.prog Try.lays189_ren := {
  mixed := by kernel_rfl
  f125 := Try.func72.trans (congrArg some (by kernel_rfl))
  f128 := Try.func85.trans (congrArg some (by kernel_rfl))
  f129 := Try.func86.trans (congrArg some (by kernel_rfl))
  f189 := Try.func62.trans (congrArg some (by kernel_rfl))
  f215 := Try.func94.trans (congrArg some (by kernel_rfl))
  f216 := Try.func82.trans (congrArg some (by kernel_rfl))
  f257 := Try.func71.trans (congrArg some (by kernel_rfl))
  f294 := Try.func76.trans (congrArg some (by kernel_rfl))
  f295 := Try.func77.trans (congrArg some (by kernel_rfl))
  f296 := Try.func78.trans (congrArg some (by kernel_rfl))
  f297 := Try.func79.trans (congrArg some (by kernel_rfl))
  f298 := Try.func80.trans (congrArg some (by kernel_rfl))
  f299 := Try.func81.trans (congrArg some (by kernel_rfl))
  f300 := Try.func83.trans (congrArg some (by kernel_rfl))
  f301 := Try.func84.trans (congrArg some (by kernel_rfl))
  f328 := Try.func89.trans (congrArg some (by kernel_rfl))
  f329 := Try.func90.trans (congrArg some (by kernel_rfl))
  f330 := Try.func91.trans (congrArg some (by kernel_rfl))
  f331 := Try.func92.trans (congrArg some (by kernel_rfl))
  f332 := Try.func93.trans (congrArg some (by kernel_rfl))
  f343 := Try.func95.trans (congrArg some (by kernel_rfl))
  t0 := Try.underlying0
  a0 := Try.isAgg0
  z0 := Try.sizeOf0
  v0 := Try.zeroValue0
  t3 := Try.underlying3
  a3 := Try.isAgg3
  z3 := Try.sizeOf3
  v3 := Try.zeroValue3
  t4 := Try.underlying4
  a4 := Try.isAgg4
  z4 := Try.sizeOf4
  v4 := Try.zeroValue4
  t5 := Try.underlying5
  a5 := Try.isAgg5
  z5 := Try.sizeOf5
  v5 := Try.zeroValue5
  t9 := Try.underlying9
  a9 := Try.isAgg9
  z9 := Try.sizeOf9
  v9 := Try.zeroValue9
  t28 := Try.underlying27
  a28 := Try.isAgg27
  z28 := Try.sizeOf27
  v28 := Try.zeroValue27
  t46 := Try.underlying93
  a46 := Try.isAgg93
  z46 := Try.sizeOf93
  v46 := Try.zeroValue93
  t51 := Try.underlying106
  a51 := Try.isAgg106
  z51 := Try.sizeOf106
  v51 := Try.zeroValue106
  t53 := Try.underlying108
  a53 := Try.isAgg108
  z53 := Try.sizeOf108
  v53 := Try.zeroValue108
  t131 := Try.underlying30
  a131 := Try.isAgg30
  z131 := Try.sizeOf30
  v131 := Try.zeroValue30
  t182 := Try.underlying99
  a182 := Try.isAgg99
  z182 := Try.sizeOf99
  v182 := Try.zeroValue99
  t183 := Try.underlying100
  a183 := Try.isAgg100
  z183 := Try.sizeOf100
  v183 := Try.zeroValue100
  t218 := Try.underlying111
  a218 := Try.isAgg111
  z218 := Try.sizeOf111
  v218 := Try.zeroValue111
  t222 := Try.underlying115
  a222 := Try.isAgg115
  z222 := Try.sizeOf115
  v222 := Try.zeroValue115
  t228 := Try.underlying117
  a228 := Try.isAgg117
  z228 := Try.sizeOf117
  v228 := Try.zeroValue117
  t229 := Try.underlying49
  a229 := Try.isAgg49
  z229 := Try.sizeOf49
  v229 := Try.zeroValue49 }
end Go.Proofs
namespace Go.Proofs
open Go Go.Shelf Go.RowKit Go.Lib Go.Sort
theorem Try.intsFlat (l : List Int) : Go.Eng.Flat 1 (Go.Eng.ints l) := by
  intro x hx
  simp only [Go.Eng.ints, List.mem_map] at hx
  obtain ⟨p, _, rfl⟩ := hx
  rfl
theorem Try.cellsI : ∀ l : List Int, Go.Eng.cellsOf (Go.Eng.ints l) = l.map (Value.int .i64)
  | [] => rfl
  | x :: r => by
    have := Try.cellsI r
    simp only [Go.Eng.cellsOf, Go.Eng.ints] at this ⊢
    simp [this, Go.Eng.Sc.val]
theorem Try.holdsI {w : World} {g e : Nat} {cur : Array Value} {l : List Int} (hg : w.heap[g]? = some (.cells cur e (0, 0))) (ht : cur.toList.take (l.length * 1) = Go.Eng.cellsOf (Go.Eng.ints l)) : Holds (Value.int .i64) w g 0 l.toArray := by
  intro j hj
  have hj' : j < l.length := by simpa using hj
  have h1 : cur[j]? = some (Value.int .i64 l.toArray[j]!) := by
    have h2 : (cur.toList.take (l.length * 1))[j]? = (l.map (Value.int .i64))[j]? := by rw [ht, Try.cellsI]
    rw [List.getElem?_take_of_lt (by omega)] at h2
    rw [getElem!_pos _ j hj]
    simpa [hj'] using h2
  constructor
  · unfold World.cell?
    simp only [hg, Nat.zero_add]
    simpa using h1
  · simp [World.frozen?, hg]
theorem Try.sortWI {w : World} {g e n : Nat} {cur : Array Value} {d : Array Int} {os : Array Obj} (hg : w.heap[g]? = some (.cells cur e (0, 0))) :
    (grow (putRow (Value.int .i64) (Sort.ahead w n) g 0 d) os).os = w.os ∧ (grow (putRow (Value.int .i64) (Sort.ahead w n) g 0 d) os).tape = w.tape ∧ (grow (putRow (Value.int .i64) (Sort.ahead w n) g 0 d) os).output = w.output ∧ w.heap.size ≤ (grow (putRow (Value.int .i64) (Sort.ahead w n) g 0 d) os).heap.size ∧
    (∀ b, b < w.heap.size → b ≠ g → (grow (putRow (Value.int .i64) (Sort.ahead w n) g 0 d) os).heap[b]? = w.heap[b]?) ∧
    (grow (putRow (Value.int .i64) (Sort.ahead w n) g 0 d) os).heap[g]? = some (.cells (putCells (Value.int .i64) 0 d cur) e (0, 0)) := by
  have hlt : g < w.heap.size := by
    by_cases h : g < w.heap.size
    · exact h
    · rw [Array.getElem?_eq_none (by omega)] at hg; cases hg
  refine ⟨rfl, rfl, rfl, ?_, fun b hb hne => ?_, ?_⟩
  · simp [grow, putRow, mapBlock, Sort.ahead]
  · show ((w.heap.modify g (onCells (putCells (Value.int .i64) 0 d))) ++ os)[b]? = _
    rw [Array.getElem?_append_left (by simpa using hb), Array.getElem?_modify, if_neg (fun h => hne h.symm)]
  · show ((w.heap.modify g (onCells (putCells (Value.int .i64) 0 d))) ++ os)[g]? = _
    rw [Array.getElem?_append_left (by simpa using hlt), Array.getElem?_modify, if_pos rfl, hg]
    rfl
theorem Try.putTakeI {d : List Int} {cur : Array Value} (h : d.length ≤ cur.size) : (putCells (Value.int .i64) 0 d.toArray cur).toList.take (d.length * 1) = d.map (Value.int .i64) := by
  apply List.ext_getElem?
  intro j
  by_cases hj : j < d.length
  · rw [List.getElem?_take_of_lt (by omega), Array.getElem?_toList]
    simp only [putCells, Array.getElem?_mapIdx]
    rw [Array.getElem?_eq_getElem (show j < cur.size by omega)]
    simp only [Option.map_some, Nat.zero_le, true_and, Nat.zero_add, Nat.sub_zero]
    rw [if_pos (by simpa using hj)]
    simp [hj]
  · rw [List.getElem?_eq_none (by rw [List.length_take]; omega), List.getElem?_eq_none (by simpa using Nat.le_of_not_lt hj)]
def Try.sortI_S : Go.Eng.SpecX := fun args o o' => ∃ (e : Nat) (l : List Int), l.length ≤ 1099511627776 ∧ args = [Go.Eng.AV.one (.ref 0)] ∧ o = .flat e 1 (Go.Eng.ints l) ∧ o' = .flat e 1 (Go.Eng.ints (Try.srtI l))
theorem Try.sortI_sat : Go.Eng.SatV Try.prog 62 Try.sortI_S := by
  rintro args o o' ⟨e, l, hl, rfl, rfl, rfl⟩ N0 w vals pv vs hN ho hbl hargs
  match vals, hargs with
  | [v0], ⟨h0, _⟩ =>
    obtain ⟨us, hat, hone⟩ := h0
    have hv0 : pv = v0 := by simp [Go.Eng.at0] at hat; exact hat.1
    subst hv0
    obtain ⟨hown, hflat⟩ := ho
    rcases hown.2 with ⟨hnil, hz⟩ | ⟨g, cap, cur, hpv, hbg, hg, hc, hm, hs, ht⟩
    · rw [Go.Eng.intsLen] at hz
      have he : l = [] := List.eq_nil_of_length_eq_zero hz
      subst he
      subst hnil
      have h0 : Try.srtI [] = [] := by simp [Try.srtI]
      rw [h0]
      have hcon := Any.slices_Sort_int_none Try.lays189 none 0 w
      change Calls Try.prog 62 _ _ _ at hcon
      refine hcon.mono ?_
      rintro e1 w' ⟨rfl, rfl⟩
      exact ⟨rfl, vs, ⟨rfl, rfl, rfl, Nat.le_refl _, fun b hb => rfl, ⟨hown, hflat⟩, fun b hb => ⟨(hbl b hb).2, .inr hb⟩⟩⟩
    · rw [Go.Eng.intsLen] at hpv hc ht
      subst hpv
      have hlt : g < w.heap.size := (hbl g (.inl rfl)).2
      have hcon : Calls Try.prog 62 #[.slice (some ⟨g, 0, none⟩) l.length cap] w fun e w' => e = .returned (.tuple #[]) ∧ ∃ n os, w' = grow (putRow (Value.int .i64) (Sort.ahead w n) g 0 (Try.srtI l).toArray) os := Any.slices_Sort_int Try.lays189 g 0 cap l w (Try.holdsI hg ht) hlt (by omega)
      refine hcon.mono ?_
      rintro e1 w' ⟨rfl, n, os, rfl⟩
      obtain ⟨f1, f2, f3, f4, f5, f6⟩ := Try.sortWI (n := n) (d := (Try.srtI l).toArray) (os := os) hg
      refine ⟨rfl, vs, ⟨f1, f2, f3, f4, fun b hb => f5 b hb.1 (fun h => hb.2 (.inl (by rw [h]; rfl))), ⟨⟨Go.Eng.flat_len (Try.intsFlat _), .inr ⟨g, cap, _, by rw [Go.Eng.intsLen, Try.srtI_len], hbg, f6, by rw [Go.Eng.intsLen, Try.srtI_len]; exact hc, hm, ?_, ?_⟩⟩, Try.intsFlat _⟩, fun b hb => ?_⟩⟩
      · simp only [putCells, Array.size_mapIdx]; exact hs
      · have hpt := Try.putTakeI (d := Try.srtI l) (cur := cur) (by rw [Try.srtI_len, hs]; omega)
        rw [Go.Eng.intsLen, Try.cellsI]
        exact hpt
      · rcases hb with hb | ⟨hb, _⟩
        · have : b = g := by cases hb; rfl
          subst this
          exact ⟨by omega, .inr (.inl rfl)⟩
        · cases hb
end Go.Proofs
namespace Go.Proofs.Try
open Go Go.Eng
instance : ConV Try.prog 62 (specOfV sortI_sat) := conV sortI_sat Try.func62
end Go.Proofs.Try
/- Plain: folded graphs; where a letter leads. -/
namespace Go.Proofs.Try
open Go Go.Eng
def fd2 (a b : Ed) : Bool := decide (a.2.1 = b.2.1) && (decide (a.1 = b.1) || decide (a.2.2 = b.2.2))
theorem fd2_comm (a b : Ed) : fd2 a b = fd2 b a := by simp only [fd2, eq_comm]
def prF (es : List Ed) : Bool := (List.range es.length).all fun j => (List.range j).all fun i => !fd2 (ed es i) (ed es j)
theorem prF_iff {es : List Ed} : prF es = true ↔ ∀ i j, i < j → j < es.length → fd2 (ed es i) (ed es j) = false := by
  simp only [prF, List.all_eq_true, List.mem_range, Bool.not_eq_true']
  exact ⟨fun h i j hij hj => h j hj i hij, fun h j hj i hij => h i j hij hj⟩
theorem prF_bad {es : List Ed} {i j : Nat} (hij : i < j) (hj : j < es.length) (h : fd2 (ed es i) (ed es j) = true) : prF es = false := by
  rw [← Bool.not_eq_true]
  intro hp
  have := prF_iff.1 hp i j hij hj
  rw [h] at this; cases this
def pr1 (es : List Ed) (i : Nat) : Prop := ∀ a b, a < i → a < b → b < es.length → fd2 (ed es a) (ed es b) = false
def pr2 (es : List Ed) (i j : Nat) : Prop := ∀ b, i < b → b < i + 1 + j → fd2 (ed es i) (ed es b) = false
theorem pr1_all {es : List Ed} (h : pr1 es es.length) : prF es = true := prF_iff.2 fun a b hab hb => h a b (by omega) hab hb
theorem pr1_next {es : List Ed} {i j : Nat} (h : pr1 es i) (h2 : pr2 es i j) (hj : es.length ≤ i + 1 + j) : pr1 es (i + 1) := fun a b ha hab hb => by
  rcases Nat.lt_or_ge a i with h3 | h3
  · exact h a b h3 hab hb
  · have : a = i := by omega
    subst this; exact h2 b hab (by omega)
theorem pr2_next {es : List Ed} {i j : Nat} (h2 : pr2 es i j) (h : fd2 (ed es i) (ed es (i + 1 + j)) = false) : pr2 es i (j + 1) := fun b hb hj => by
  rcases Nat.lt_or_ge b (i + 1 + j) with h3 | h3
  · exact h2 b hb h3
  · have : b = i + 1 + j := by omega
    subst this; exact h
def ps1 (es : List Ed) (i : Nat) : Prop := ∀ a b, a < b → b < i → fd2 (ed es a) (ed es b) = false
def ps2 (es : List Ed) (i k : Nat) : Prop := ∀ a, a < k → fd2 (ed es a) (ed es i) = false
theorem ps1_all {es : List Ed} (h : ps1 es es.length) : prF es = true := prF_iff.2 fun a b hab hb => h a b hab hb
theorem ps1_next {es : List Ed} {i : Nat} (h : ps1 es i) (h2 : ps2 es i i) : ps1 es (i + 1) := fun a b hab hb => by
  rcases Nat.lt_or_ge b i with h3 | h3
  · exact h a b hab h3
  · have : b = i := by omega
    subst this; exact h2 a hab
theorem ps2_next {es : List Ed} {i k : Nat} (h2 : ps2 es i k) (h : fd2 (ed es k) (ed es i) = false) : ps2 es i (k + 1) := fun a ha => by
  rcases Nat.lt_or_ge a k with h3 | h3
  · exact h2 a h3
  · have : a = k := by omega
    subst this; exact h
def isF (r z : Int) (es : List Ed) : Bool := isG r z es && prF es
theorem isF_no {r z : Int} {es : List Ed} (h : isG r z es = false) : isF r z es = false := by simp [isF, h]
theorem isF_bad {r z : Int} {es : List Ed} (h : prF es = false) : isF r z es = false := by simp [isF, h]
theorem isF_yes {r z : Int} {es : List Ed} (h : isG r z es = true) (hp : prF es = true) : isF r z es = true := by simp [isF, h, hp]
theorem isF_g {r z : Int} {es : List Ed} (h : isF r z es = true) : isG r z es = true := by
  simp only [isF, Bool.and_eq_true] at h; exact h.1
theorem isF_p {r z : Int} {es : List Ed} (h : isF r z es = true) : prF es = true := by
  simp only [isF, Bool.and_eq_true] at h; exact h.2

/-- Where an edge leads from v by the letter x. -/
def tg (v x : Int) (e : Ed) : List Int := if 0 < x ∧ e.2.1 = x ∧ e.1 = v then [e.2.2] else if x < 0 ∧ e.2.1 = -x ∧ e.2.2 = v then [e.1] else []
theorem tgP {v x : Int} {e : Ed} (h : 0 < x ∧ e.2.1 = x ∧ e.1 = v) : tg v x e = [e.2.2] := by unfold tg; rw [if_pos h]
theorem tgN {v x : Int} {e : Ed} (h : x < 0 ∧ e.2.1 = -x ∧ e.2.2 = v) : tg v x e = [e.1] := by unfold tg; rw [if_neg (by omega), if_pos h]
theorem tg0 {v x : Int} {e : Ed} (h : ¬ (0 < x ∧ e.2.1 = x ∧ e.1 = v)) (h2 : ¬ (x < 0 ∧ e.2.1 = -x ∧ e.2.2 = v)) : tg v x e = [] := by unfold tg; rw [if_neg h, if_neg h2]
def stN (es : List Ed) (v x : Int) : Nat → List Int
  | 0 => []
  | n + 1 => stN es v x n ++ tg v x (ed es n)
theorem stN_len (es : List Ed) (v x : Int) (n : Nat) : (stN es v x n).length ≤ n := by
  induction n with
  | zero => simp [stN]
  | succ n ih =>
    have : (tg v x (ed es n)).length ≤ 1 := by unfold tg; split; · simp
                                               split <;> simp
    simp only [stN, List.length_append]; omega
theorem stN_mem {es : List Ed} {v x u : Int} : ∀ {n : Nat}, u ∈ stN es v x n ↔ ∃ i, i < n ∧ u ∈ tg v x (ed es i)
  | 0 => by simp [stN]
  | n + 1 => by
    simp only [stN, List.mem_append, stN_mem]
    constructor
    · rintro (⟨i, hi, h⟩ | h)
      · exact ⟨i, by omega, h⟩
      · exact ⟨n, by omega, h⟩
    · rintro ⟨i, hi, h⟩
      by_cases hin : i = n
      · subst hin; exact .inr h
      · exact .inl ⟨i, by omega, h⟩
def stL (es : List Ed) (v x : Int) : List Int := nI (stN es v x es.length)
theorem stL_len (es : List Ed) (v x : Int) : (stL es v x).length ≤ es.length := Nat.le_trans (nI_len _) (stN_len ..)
def nx (es : List Ed) (v x : Int) : Int := if (stL es v x).length = 0 then -1 else ix (stL es v x) 0
theorem nx_no {es : List Ed} {v x : Int} (h : (stL es v x).length = 0) : nx es v x = -1 := by simp [nx, h]
theorem nx_yes {es : List Ed} {v x : Int} (h : ¬ (stL es v x).length = 0) : nx es v x = ix (stL es v x) 0 := by simp [nx, h]
/-- The edge that is passed by a letter. -/
theorem tg_mem {v x u : Int} {e : Ed} : u ∈ tg v x e ↔ x ≠ 0 ∧ e = (if x < 0 then (u, -x, v) else (v, x, u)) := by
  obtain ⟨a, l, b⟩ := e
  unfold tg
  by_cases h1 : 0 < x
  · by_cases h2 : l = x ∧ a = v
    · rw [if_pos ⟨h1, h2⟩]
      rw [if_neg (by omega)]
      simp only [List.mem_singleton, Prod.mk.injEq, ne_eq]
      omega
    · rw [if_neg (fun h => h2 h.2), if_neg (by omega), if_neg (by omega)]
      simp only [List.not_mem_nil, Prod.mk.injEq, ne_eq, false_iff]
      omega
  · rw [if_neg (fun h => h1 h.1)]
    by_cases h3 : x < 0 ∧ l = -x ∧ b = v
    · rw [if_pos h3, if_pos h3.1]
      simp only [List.mem_singleton, Prod.mk.injEq, ne_eq]
      omega
    · rw [if_neg h3]
      by_cases h4 : x < 0
      · rw [if_pos h4]
        simp only [List.not_mem_nil, Prod.mk.injEq, ne_eq, false_iff]
        omega
      · simp only [List.not_mem_nil, ne_eq, false_iff]
        omega
theorem stL_mem {es : List Ed} {v x u : Int} : u ∈ stL es v x ↔ x ≠ 0 ∧ (if x < 0 then (u, -x, v) else (v, x, u)) ∈ es := by
  rw [stL, nI_mem, stN_mem]
  constructor
  · rintro ⟨i, hi, h⟩
    obtain ⟨h1, h2⟩ := tg_mem.1 h
    exact ⟨h1, by rw [← h2]; exact ed_mem hi⟩
  · rintro ⟨h1, h2⟩
    obtain ⟨i, hi, he⟩ := mem_ed h2
    exact ⟨i, hi, tg_mem.2 ⟨h1, he⟩⟩
theorem nx_mem {es : List Ed} {v x : Int} (h : 0 ≤ nx es v x) : nx es v x ∈ stL es v x := by
  by_cases hl : (stL es v x).length = 0
  · rw [nx_no hl] at h; omega
  · rw [nx_yes hl]
    simp only [ix]
    rw [List.getD_eq_getElem?_getD, List.getElem?_eq_getElem (by omega)]
    simp
/-- The edge behind a step. -/
theorem nx_edge {es : List Ed} {v x : Int} (h : 0 ≤ nx es v x) : x ≠ 0 ∧ (if x < 0 then (nx es v x, -x, v) else (v, x, nx es v x)) ∈ es := stL_mem.1 (nx_mem h)
theorem nx_in {r z : Int} {es : List Ed} {v x : Int} (hg : isG r z es = true) : -1 ≤ nx es v x ∧ nx es v x < z := by
  by_cases hl : (stL es v x).length = 0
  · rw [nx_no hl]
    have := isG_z hg
    omega
  · have hm : nx es v x ∈ stL es v x := by
      rw [nx_yes hl]
      simp only [ix]
      rw [List.getD_eq_getElem?_getD, List.getElem?_eq_getElem (by omega)]
      simp
    obtain ⟨h1, h2⟩ := stL_mem.1 hm
    have h3 := (isG_iff.1 hg).2.2 _ h2
    unfold inR at h3
    split at h3 <;> simp only at h3 <;> omega
theorem nx_v {r z : Int} {es : List Ed} {v x : Int} (hg : isG r z es = true) (h : 0 ≤ nx es v x) : 0 ≤ v ∧ v < z ∧ -r ≤ x ∧ x ≤ r ∧ x ≠ 0 := by
  obtain ⟨h1, h2⟩ := nx_edge h
  have h3 := (isG_iff.1 hg).2.2 _ h2
  unfold inR at h3
  split at h3 <;> simp only at h3 <;> omega
theorem nx_neg {r z : Int} {es : List Ed} {v x : Int} (hg : isG r z es = true) (h : nx es v x < 0) (u : Int) : x = 0 ∨ (if x < 0 then (u, -x, v) else (v, x, u)) ∉ es := by
  by_cases hx : x = 0
  · exact .inl hx
  · refine .inr fun hm => ?_
    have h1 : u ∈ stL es v x := stL_mem.2 ⟨hx, hm⟩
    have hl : ¬ (stL es v x).length = 0 := fun h0 => by
      rw [List.eq_nil_of_length_eq_zero h0] at h1; cases h1
    have hm2 : nx es v x ∈ stL es v x := by
      rw [nx_yes hl]
      simp only [ix]
      rw [List.getD_eq_getElem?_getD, List.getElem?_eq_getElem (by omega)]
      simp
    obtain ⟨h4, h5⟩ := stL_mem.1 hm2
    have h3 := (isG_iff.1 hg).2.2 _ h5
    unfold inR at h3
    split at h3 <;> simp only at h3 <;> omega
/-- In a folded graph a letter leads to one vertex at most. -/
theorem stL_one {es : List Ed} {v x u w : Int} (hp : prF es = true) (h1 : u ∈ stL es v x) (h2 : w ∈ stL es v x) : u = w := by
  obtain ⟨hx, h1⟩ := stL_mem.1 h1
  obtain ⟨_, h2⟩ := stL_mem.1 h2
  obtain ⟨i, hi, he⟩ := mem_ed h1
  obtain ⟨j, hj, hf⟩ := mem_ed h2
  rcases Nat.lt_trichotomy i j with h | h | h
  · have := prF_iff.1 hp i j h hj
    rw [he, hf] at this
    split at this <;> simp [fd2] at this
  · subst h
    rw [he] at hf
    split at hf <;> simp only [Prod.mk.injEq] at hf <;> omega
  · have := prF_iff.1 hp j i h hi
    rw [he, hf] at this
    split at this <;> simp [fd2] at this
theorem nx_iff {r z : Int} {es : List Ed} {v x u : Int} (hf : isF r z es = true) (hu : 0 ≤ u) : nx es v x = u ↔ x ≠ 0 ∧ (if x < 0 then (u, -x, v) else (v, x, u)) ∈ es := by
  constructor
  · rintro rfl; exact nx_edge hu
  · intro h
    have h1 : u ∈ stL es v x := stL_mem.2 h
    have h2 : 0 ≤ nx es v x := by
      rcases (show nx es v x < 0 ∨ 0 ≤ nx es v x by omega) with hn | hn
      · rcases nx_neg (isF_g hf) hn u with h3 | h3
        · exact absurd h3 h.1
        · exact absurd h.2 h3
      · exact hn
    exact stL_one (isF_p hf) (nx_mem h2) h1
/-- Backwards it leads back. -/
theorem nx_back {r z : Int} {es : List Ed} {v x : Int} (hf : isF r z es = true) (h : 0 ≤ nx es v x) : nx es (nx es v x) (-x) = v := by
  obtain ⟨h1, h2⟩ := nx_edge h
  have hv := nx_v (isF_g hf) h
  refine (nx_iff hf hv.1).2 ⟨by omega, ?_⟩
  by_cases hx : x < 0
  · rw [if_pos hx] at h2; rw [if_neg (by omega)]; exact h2
  · rw [if_neg hx] at h2; rw [if_pos (by omega)]; simpa using h2
end Go.Proofs.Try
namespace Go.Proofs.Try
open Go Go.Eng
set_option linter.unnecessarySimpa false
set_option linter.unusedSimpArgs false
set_option maxHeartbeats 4000000
def K_letters_sat2 : Nat → List Nat := fun i => ([[0], [0, 3], [0, 3, 4], [0, 3, 4, 8], [0, 3, 4], [0, 3, 4], [0, 3, 4], [2]] : List (List Nat)).getD i []
attribute [go_sem] K_letters_sat2
def letters_sat2_S : Eng.Spec := fun args av objs => ∃ (r : Int), (r ≤ 1000000) ∧ args = [aI r] ∧ av = aR 0 ∧ objs = [oL 3 (lts r.toNat)]
theorem letters_sat2 : Sat Try.prog 49 letters_sat2_S := by
  refine sat_of tok okr mixed K_letters_sat2 Try.func49 rfl (rs := [.tmp 2]) rfl Try.ntmps49 ?_
  rintro args av objs ⟨r, hpre, rfl, rfl, rfl⟩
  refine ⟨by show 1 ≤ 21; decide, ?_⟩
  repeat' (first|(refine ya ?_;first|refine ye ?_)|refine yz ?_|refine zst ?_|refine k_blk_other rfl ?_|(refine zk ?_ ?_<;>intro hc hr<;>try first|contradiction|exfalso;omega))
  refine z_loop (fun i : Nat => [(4, aI (i + 1))]) (fun i : Nat => [.obj 3 (oL 3 (lts i))]) (fun i : Nat => i ≤ r.toNat) (fun i : Nat => r.toNat - i) (0) (h0 := ?_) (henv := ?_) (hobj := ?_) (h := ?_)
  · omega
  · simp [go_sem, AVm, CVm, lookS, lts]
  · simp [go_sem, OBm, CVm, lookS, All2, lts]
  intro i hi
  have hl := lts_len i
  repeat' (first|(refine ya ?_;first|refine ye ?_)|refine yz ?_|refine zst ?_|refine k_blk_other rfl ?_|(refine zk ?_ ?_<;>intro hc hr<;>try first|contradiction|exfalso;omega))
  · (refine z_lop (i + 1) (hj := ?_) (hmu := ?_) (henv := ?_) (hobj := ?_); (· omega); (· first | omega | (simp only; omega)); (· first | (simp [go_sem, AVm, CVm, lookS, lts, *]; done) | (simp [go_sem, AVm, CVm, lookS, lts, *] <;> (repeat' split) <;> first | omega | (simp_all; done) | (exfalso; omega) | (simp_all; omega))); (· first | (simp [go_sem, OBm, CVm, All2, lookS, lts, *]; done) | (simp [go_sem, OBm, CVm, All2, lookS, lts, *] <;> (repeat' split) <;> first | omega | (simp_all; done) | (exfalso; omega) | (simp_all; omega))))
  · have : i = r.toNat := by omega
    subst this
    all_goals first | (refine z_ret (hv := ?_) (ho := ?_) <;> first | rfl | (simp [go_sem, *]; done) | (simp_all; done) | (simp_all; omega)) | skip
instance : Con Try.prog 49 letters_sat2_S := con letters_sat2 Try.func49
def K_isFolded_sat : Nat → List Nat := fun i => ([[1], [1, 9], [2], [1, 11, 12, 13], [1, 11, 12, 13, 14], [1, 3, 4, 11, 12, 13], [1, 4, 11, 12, 13, 22, 23, 24], [1, 4, 11, 12, 13, 22, 23, 24, 25], [1, 4, 6, 11, 12, 13, 22, 23, 24], [1, 4, 11, 12, 13, 22, 23, 24, 46], [2], [1, 4, 11, 12, 13, 22, 23, 24], [1, 11, 12, 13], [2]] : List (List Nat)).getD i []
attribute [go_sem] K_isFolded_sat
def isFolded_sat_S : Eng.Spec := fun args av objs => ∃ (r z : Int) (es : List Ed), (es.length ≤ 1099511627776) ∧ args = [grA r z es] ∧ av = aB (isF r z es) ∧ objs = []
theorem isFolded_sat : Sat Try.prog 8 isFolded_sat_S := by
  refine sat_of tok okr mixed K_isFolded_sat Try.func8 rfl (rs := [.tmp 2]) rfl Try.ntmps8 ?_
  rintro args av objs ⟨r, z, es, hpre, rfl, rfl, rfl⟩
  refine ⟨by show 1 ≤ 49; decide, ?_⟩
  cases hok : isG r z es
  · rw [isF_no hok]
    repeat' (first|(refine ya ?_;first|(refine yb ?_;first|refine yc ?_)|refine ye ?_)|(refine yg ?_;intro hgs;first|(replace hgs:=zgy hgs;first|(refine yb ?_;first|refine yc ?_)|refine yy hgs ?_;clear hgs)|(refine yn (zgn hgs) ?_;clear hgs)|((fail_if_success have:=zgy hgs);refine z_spl hgs (h1:=?_) (h2:=?_)<;>clear hgs<;>intro hg hr<;>try first|contradiction|exfalso;omega))|refine yt ?_|refine yz ?_|refine zst ?_|refine k_blk_other rfl ?_|(refine zk ?_ ?_<;>intro hc hr<;>try first|contradiction|exfalso;omega))
    all_goals first | (refine z_ret (hv := ?_) (ho := ?_) <;> first | rfl | (simp [go_sem, *]; done) | (simp_all; done) | (simp_all; omega)) | skip
  · have hz := isG_z hok
    repeat' (first|(refine ya ?_;first|(refine yb ?_;first|refine yc ?_)|refine ye ?_)|(refine yg ?_;intro hgs;first|(replace hgs:=zgy hgs;first|(refine yb ?_;first|refine yc ?_)|refine yy hgs ?_;clear hgs)|(refine yn (zgn hgs) ?_;clear hgs)|((fail_if_success have:=zgy hgs);refine z_spl hgs (h1:=?_) (h2:=?_)<;>clear hgs<;>intro hg hr<;>try first|contradiction|exfalso;omega))|refine yt ?_|refine yz ?_|refine zst ?_|refine k_blk_other rfl ?_|(refine zk ?_ ?_<;>intro hc hr<;>try first|contradiction|exfalso;omega))
    refine z_loop (fun i : Nat => [(13, aI i)]) (fun i : Nat => []) (fun i : Nat => i ≤ es.length ∧ pr1 es i) (fun i : Nat => es.length - i) (0) (h0 := ?_) (henv := ?_) (hobj := ?_) (h := ?_)
    · exact ⟨by omega, fun a b h => by omega⟩
    · simp [go_sem, AVm, CVm, lookS]
    · simp [go_sem, OBm, CVm, lookS, All2]
    rintro i ⟨hi, hI⟩
    rcases Nat.lt_or_ge i es.length with hlt | hge
    · repeat' (first|(refine ya ?_;first|(refine yb ?_;first|refine yc ?_)|refine ye ?_)|(refine yg ?_;intro hgs;first|(replace hgs:=zgy hgs;first|(refine yb ?_;first|refine yc ?_)|refine yy hgs ?_;clear hgs)|(refine yn (zgn hgs) ?_;clear hgs)|((fail_if_success have:=zgy hgs);refine z_spl hgs (h1:=?_) (h2:=?_)<;>clear hgs<;>intro hg hr<;>try first|contradiction|exfalso;omega))|refine yt ?_|refine yz ?_|refine zst ?_|refine k_blk_other rfl ?_|(refine zk ?_ ?_<;>intro hc hr<;>try first|contradiction|exfalso;omega))
      refine z_loop (fun j : Nat => [(24, aI j)]) (fun j : Nat => []) (fun j : Nat => j ≤ es.length - (i + 1) ∧ pr2 es i j) (fun j : Nat => es.length - (i + 1) - j) (0) (h0 := ?_) (henv := ?_) (hobj := ?_) (h := ?_)
      · exact ⟨by omega, fun b h1 h2 => by omega⟩
      · simp [go_sem, AVm, CVm, lookS]
      · simp [go_sem, OBm, CVm, lookS, All2]
      rintro j ⟨hj, hJ⟩
      rcases Nat.lt_or_ge j (es.length - (i + 1)) with hlt2 | hge2
      · repeat' (first|(refine ya ?_;first|(refine yb ?_;first|refine yc ?_)|refine ye ?_)|(refine yg ?_;intro hgs;first|(replace hgs:=zgy hgs;first|(refine yb ?_;first|refine yc ?_)|refine yy hgs ?_;clear hgs)|(refine yn (zgn hgs) ?_;clear hgs)|((fail_if_success have:=zgy hgs);refine z_spl hgs (h1:=?_) (h2:=?_)<;>clear hgs<;>intro hg hr<;>try first|contradiction|exfalso;omega))|refine yt ?_|refine yz ?_|refine zst ?_|refine k_blk_other rfl ?_|(refine zk ?_ ?_<;>intro hc hr<;>try first|contradiction|exfalso;omega))
        all_goals first
          | (have hb : fd2 (ed es i) (ed es (i + 1 + j)) = true := by simp [fd2, *]
             rw [isF_bad (prF_bad (show i < i + 1 + j by omega) (by omega) hb)]
             all_goals first | (refine z_ret (hv := ?_) (ho := ?_) <;> first | rfl | (simp [go_sem, *]; done) | (simp_all; done) | (simp_all; omega)) | skip; done)
          | (have hb : fd2 (ed es i) (ed es (i + 1 + j)) = false := by simp [fd2, *]
             exact zl (j + 1) (hj := by exact ⟨by omega, pr2_next hJ hb⟩))
          | trace_state
      · repeat' (first|(refine ya ?_;first|(refine yb ?_;first|refine yc ?_)|refine ye ?_)|(refine yg ?_;intro hgs;first|(replace hgs:=zgy hgs;first|(refine yb ?_;first|refine yc ?_)|refine yy hgs ?_;clear hgs)|(refine yn (zgn hgs) ?_;clear hgs)|((fail_if_success have:=zgy hgs);refine z_spl hgs (h1:=?_) (h2:=?_)<;>clear hgs<;>intro hg hr<;>try first|contradiction|exfalso;omega))|refine yt ?_|refine yz ?_|refine zst ?_|refine k_blk_other rfl ?_|(refine zk ?_ ?_<;>intro hc hr<;>try first|contradiction|exfalso;omega))
        exact zl (i + 1) (hj := by exact ⟨by omega, pr1_next hI hJ (by omega)⟩)
    · have hii : i = es.length := by omega
      subst hii
      rw [isF_yes hok (pr1_all hI)]
      repeat' (first|(refine ya ?_;first|(refine yb ?_;first|refine yc ?_)|refine ye ?_)|(refine yg ?_;intro hgs;first|(replace hgs:=zgy hgs;first|(refine yb ?_;first|refine yc ?_)|refine yy hgs ?_;clear hgs)|(refine yn (zgn hgs) ?_;clear hgs)|((fail_if_success have:=zgy hgs);refine z_spl hgs (h1:=?_) (h2:=?_)<;>clear hgs<;>intro hg hr<;>try first|contradiction|exfalso;omega))|refine yt ?_|refine yz ?_|refine zst ?_|refine k_blk_other rfl ?_|(refine zk ?_ ?_<;>intro hc hr<;>try first|contradiction|exfalso;omega))
      all_goals first | (refine z_ret (hv := ?_) (ho := ?_) <;> first | rfl | (simp [go_sem, *]; done) | (simp_all; done) | (simp_all; omega)) | skip
instance : Con Try.prog 8 isFolded_sat_S := con isFolded_sat Try.func8
def K_isFolded_sat2 : Nat → List Nat := fun i => ([[1], [1, 3], [1, 3, 15], [1, 3], [1, 3, 4], [1, 3, 4, 20], [1, 3, 4], [1, 3, 4, 5], [1, 3, 4, 5, 6], [1, 3, 4, 51], [2], [2]] : List (List Nat)).getD i []
attribute [go_sem] K_isFolded_sat2
def isFolded_sat2_S : Eng.Spec := fun args av objs => ∃ (r z : Int) (es : List Ed), (es.length ≤ 1099511627776) ∧ args = [grA r z es] ∧ av = aB (isF r z es) ∧ objs = []
theorem isFolded_sat2 : Sat Try.prog 9 isFolded_sat2_S := by
  refine sat_of tok okr mixed K_isFolded_sat2 Try.func9 rfl (rs := [.tmp 2]) rfl Try.ntmps9 ?_
  rintro args av objs ⟨r, z, es, hpre, rfl, rfl, rfl⟩
  refine ⟨by show 1 ≤ 54; decide, ?_⟩
  repeat' (first|(refine ya ?_;first|(refine yb ?_;first|refine yc ?_)|refine ye ?_)|(refine yg ?_;intro hgs;first|(replace hgs:=zgy hgs;first|(refine yb ?_;first|refine yc ?_)|refine yy hgs ?_;clear hgs)|(refine yn (zgn hgs) ?_;clear hgs)|((fail_if_success have:=zgy hgs);refine z_spl hgs (h1:=?_) (h2:=?_)<;>clear hgs<;>intro hg hr<;>try first|contradiction|exfalso;omega))|refine yt ?_|refine yz ?_|refine zst ?_|refine k_blk_other rfl ?_|(refine zk ?_ ?_<;>intro hc hr<;>try first|contradiction|exfalso;omega))
  refine z_loop (fun i : Nat => [(3, aI i)]) (fun i : Nat => []) (fun i : Nat => i ≤ es.length ∧ ps1 es i ∧ (0 < i → isG r z es = true)) (fun i : Nat => es.length - i) (0) (h0 := ?_) (henv := ?_) (hobj := ?_) (h := ?_)
  · exact ⟨by omega, fun a b _ h => by omega, by omega⟩
  · simp [go_sem, AVm, CVm, lookS]
  · simp [go_sem, OBm, CVm, lookS, All2]
  rintro i ⟨hi, hI, hok⟩
  rcases Nat.lt_or_ge i es.length with hlt | hge
  · repeat' (first|(refine ya ?_;first|(refine yb ?_;first|refine yc ?_)|refine ye ?_)|(refine yg ?_;intro hgs;first|(replace hgs:=zgy hgs;first|(refine yb ?_;first|refine yc ?_)|refine yy hgs ?_;clear hgs)|(refine yn (zgn hgs) ?_;clear hgs)|((fail_if_success have:=zgy hgs);refine z_spl hgs (h1:=?_) (h2:=?_)<;>clear hgs<;>intro hg hr<;>try first|contradiction|exfalso;omega))|refine yt ?_|refine yz ?_|refine zst ?_|refine k_blk_other rfl ?_|(refine zk ?_ ?_<;>intro hc hr<;>try first|contradiction|exfalso;omega))
    · have hok2 : isG r z es = true := by assumption
      refine z_loop (fun k : Nat => [(4, aI k)]) (fun k : Nat => []) (fun k : Nat => k ≤ i ∧ ps2 es i k) (fun k : Nat => i - k) (0) (h0 := ?_) (henv := ?_) (hobj := ?_) (h := ?_)
      · exact ⟨by omega, fun b h1 => by omega⟩
      · simp [go_sem, AVm, CVm, lookS]
      · simp [go_sem, OBm, CVm, lookS, All2]
      rintro k ⟨hk, hK⟩
      rcases Nat.lt_or_ge k i with hlt2 | hge2
      · repeat' (first|(refine ya ?_;first|(refine yb ?_;first|refine yc ?_)|refine ye ?_)|(refine yg ?_;intro hgs;first|(replace hgs:=zgy hgs;first|(refine yb ?_;first|refine yc ?_)|refine yy hgs ?_;clear hgs)|(refine yn (zgn hgs) ?_;clear hgs)|((fail_if_success have:=zgy hgs);refine z_spl hgs (h1:=?_) (h2:=?_)<;>clear hgs<;>intro hg hr<;>try first|contradiction|exfalso;omega))|refine yt ?_|refine yz ?_|refine zst ?_|refine k_blk_other rfl ?_|(refine zk ?_ ?_<;>intro hc hr<;>try first|contradiction|exfalso;omega))
        all_goals first
          | (have hb : fd2 (ed es k) (ed es i) = true := by rw [fd2_comm]; simp [fd2, *]
             rw [isF_bad (prF_bad (show k < i by omega) (by omega) hb)]
             all_goals first | (refine z_ret (hv := ?_) (ho := ?_) <;> first | rfl | (simp [go_sem, *]; done) | (simp_all; done) | (simp_all; omega)) | skip; done)
          | (have hb : fd2 (ed es k) (ed es i) = false := by rw [fd2_comm]; simp [fd2, *]
             exact zl (k + 1) (hj := by exact ⟨by omega, ps2_next hK hb⟩))
          | trace_state
      · have hkk : k = i := by omega
        subst hkk
        repeat' (first|(refine ya ?_;first|(refine yb ?_;first|refine yc ?_)|refine ye ?_)|(refine yg ?_;intro hgs;first|(replace hgs:=zgy hgs;first|(refine yb ?_;first|refine yc ?_)|refine yy hgs ?_;clear hgs)|(refine yn (zgn hgs) ?_;clear hgs)|((fail_if_success have:=zgy hgs);refine z_spl hgs (h1:=?_) (h2:=?_)<;>clear hgs<;>intro hg hr<;>try first|contradiction|exfalso;omega))|refine yt ?_|refine yz ?_|refine zst ?_|refine k_blk_other rfl ?_|(refine zk ?_ ?_<;>intro hc hr<;>try first|contradiction|exfalso;omega))
        exact zl (k + 1) (hj := by exact ⟨by omega, ps1_next hI hK, fun _ => hok2⟩)
    · rw [isF_no (by assumption)]
      all_goals first | (refine z_ret (hv := ?_) (ho := ?_) <;> first | rfl | (simp [go_sem, *]; done) | (simp_all; done) | (simp_all; omega)) | skip
  · have hii : i = es.length := by omega
    subst hii
    have : isF r z es = isG r z es := by simp [isF, ps1_all hI]
    rw [this]
    repeat' (first|(refine ya ?_;first|(refine yb ?_;first|refine yc ?_)|refine ye ?_)|(refine yg ?_;intro hgs;first|(replace hgs:=zgy hgs;first|(refine yb ?_;first|refine yc ?_)|refine yy hgs ?_;clear hgs)|(refine yn (zgn hgs) ?_;clear hgs)|((fail_if_success have:=zgy hgs);refine z_spl hgs (h1:=?_) (h2:=?_)<;>clear hgs<;>intro hg hr<;>try first|contradiction|exfalso;omega))|refine yt ?_|refine yz ?_|refine zst ?_|refine k_blk_other rfl ?_|(refine zk ?_ ?_<;>intro hc hr<;>try first|contradiction|exfalso;omega))
    all_goals first | (refine z_ret (hv := ?_) (ho := ?_) <;> first | rfl | (simp [go_sem, *]; done) | (simp_all; done) | (simp_all; omega)) | skip
instance : Con Try.prog 9 isFolded_sat2_S := con isFolded_sat2 Try.func9
def K_steps_sat : Nat → List Nat := fun i => ([[1, 2, 3], [1, 2, 3, 7], [1, 2, 7, 12, 13, 14], [1, 2, 7, 12, 13, 14, 15], [1, 2, 7, 9, 12, 13, 14], [1, 2, 7, 9, 12, 13, 14, 18], [1, 2, 7, 12, 13, 14], [1, 2, 7, 9, 12, 13, 14, 38], [1, 2, 7, 12, 13, 14], [1, 2, 7, 12, 13, 14], [7], [6]] : List (List Nat)).getD i []
attribute [go_sem] K_steps_sat
def steps_sat_S : Eng.Spec := fun args av objs => ∃ (r z : Int) (es : List Ed) (v x : Int), (es.length ≤ 1048576 ∧ -1000000 ≤ x ∧ x ≤ 1000000) ∧ args = [grA r z es, aI v, aI x] ∧ av = aR 0 ∧ objs = [oL 3 (stL es v x)]
theorem steps_sat : Sat Try.prog 45 steps_sat_S := by
  refine sat_of tok okr mixed K_steps_sat Try.func45 rfl (rs := [.tmp 6]) rfl Try.ntmps45 ?_
  rintro args av objs ⟨r, z, es, v, x, hpre, rfl, rfl, rfl⟩
  refine ⟨by show 3 ≤ 68; decide, ?_⟩
  repeat' (first|(refine ya ?_;first|(refine yb ?_;first|refine yx ?_|refine yv ?_)|refine ye ?_)|(refine yg ?_;intro hgs;first|(replace hgs:=zgy hgs;first|(refine yb ?_;first|refine yx ?_|refine yv ?_)|refine yy hgs ?_;clear hgs)|(refine yn (zgn hgs) ?_;clear hgs)|((fail_if_success have:=zgy hgs);refine z_spl hgs (h1:=?_) (h2:=?_)<;>clear hgs<;>intro hg hr<;>try first|contradiction|exfalso;omega))|refine yz ?_|refine zst ?_|refine k_blk_other rfl ?_|(refine zk ?_ ?_<;>intro hc hr<;>try first|contradiction|exfalso;omega))
  refine z_loop (fun i : Nat => [(14, aI i)]) (fun i : Nat => [.obj 7 (oL 3 (stN es v x i))]) (fun i : Nat => i ≤ es.length) (fun i : Nat => es.length - i) (0) (h0 := ?_) (henv := ?_) (hobj := ?_) (h := ?_)
  · omega
  · simp [go_sem, AVm, CVm, lookS, stN]
  · simp [go_sem, OBm, CVm, lookS, All2, stN]
  intro i hi
  have hl := stN_len es v x i
  rcases Nat.lt_or_ge i es.length with hlt | hge
  · repeat' (first|(refine ya ?_;first|(refine yb ?_;first|refine yx ?_|refine yv ?_)|refine ye ?_)|(refine yg ?_;intro hgs;first|(replace hgs:=zgy hgs;first|(refine yb ?_;first|refine yx ?_|refine yv ?_)|refine yy hgs ?_;clear hgs)|(refine yn (zgn hgs) ?_;clear hgs)|((fail_if_success have:=zgy hgs);refine z_spl hgs (h1:=?_) (h2:=?_)<;>clear hgs<;>intro hg hr<;>try first|contradiction|exfalso;omega))|refine yz ?_|refine zst ?_|refine k_blk_other rfl ?_|(refine zk ?_ ?_<;>intro hc hr<;>try first|contradiction|exfalso;omega))
    all_goals first
      | (have ht : tg v x (ed es i) = [(ed es i).2.2] := tgP (by omega)
         (refine z_lop (i + 1) (hj := ?_) (hmu := ?_) (henv := ?_) (hobj := ?_); (· omega); (· first | omega | (simp only; omega)); (· first | (simp [go_sem, AVm, CVm, lookS, stN, nI_snoc, *]; done) | (simp [go_sem, AVm, CVm, lookS, stN, nI_snoc, *] <;> (repeat' split) <;> first | omega | (simp_all; done) | (exfalso; omega) | (simp_all; omega))); (· first | (simp [go_sem, OBm, CVm, All2, lookS, stN, nI_snoc, *]; done) | (simp [go_sem, OBm, CVm, All2, lookS, stN, nI_snoc, *] <;> (repeat' split) <;> first | omega | (simp_all; done) | (exfalso; omega) | (simp_all; omega)))))
      | (have ht : tg v x (ed es i) = [(ed es i).1] := tgN (by omega)
         (refine z_lop (i + 1) (hj := ?_) (hmu := ?_) (henv := ?_) (hobj := ?_); (· omega); (· first | omega | (simp only; omega)); (· first | (simp [go_sem, AVm, CVm, lookS, stN, nI_snoc, *]; done) | (simp [go_sem, AVm, CVm, lookS, stN, nI_snoc, *] <;> (repeat' split) <;> first | omega | (simp_all; done) | (exfalso; omega) | (simp_all; omega))); (· first | (simp [go_sem, OBm, CVm, All2, lookS, stN, nI_snoc, *]; done) | (simp [go_sem, OBm, CVm, All2, lookS, stN, nI_snoc, *] <;> (repeat' split) <;> first | omega | (simp_all; done) | (exfalso; omega) | (simp_all; omega)))))
      | (have ht : tg v x (ed es i) = [] := tg0 (by omega) (by omega)
         (refine z_lop (i + 1) (hj := ?_) (hmu := ?_) (henv := ?_) (hobj := ?_); (· omega); (· first | omega | (simp only; omega)); (· first | (simp [go_sem, AVm, CVm, lookS, stN, nI_snoc, *]; done) | (simp [go_sem, AVm, CVm, lookS, stN, nI_snoc, *] <;> (repeat' split) <;> first | omega | (simp_all; done) | (exfalso; omega) | (simp_all; omega))); (· first | (simp [go_sem, OBm, CVm, All2, lookS, stN, nI_snoc, *]; done) | (simp [go_sem, OBm, CVm, All2, lookS, stN, nI_snoc, *] <;> (repeat' split) <;> first | omega | (simp_all; done) | (exfalso; omega) | (simp_all; omega)))))
      | trace_state
  · have hii : i = es.length := by omega
    subst hii
    have hl3 := srtI_len (stN es v x es.length)
    repeat' (first|(refine ya ?_;first|(refine yb ?_;first|refine yx ?_|refine yv ?_)|refine ye ?_)|(refine yg ?_;intro hgs;first|(replace hgs:=zgy hgs;first|(refine yb ?_;first|refine yx ?_|refine yv ?_)|refine yy hgs ?_;clear hgs)|(refine yn (zgn hgs) ?_;clear hgs)|((fail_if_success have:=zgy hgs);refine z_spl hgs (h1:=?_) (h2:=?_)<;>clear hgs<;>intro hg hr<;>try first|contradiction|exfalso;omega))|refine yz ?_|refine zst ?_|refine k_blk_other rfl ?_|(refine zk ?_ ?_<;>intro hc hr<;>try first|contradiction|exfalso;omega))
    all_goals simp only [srtI_cpt]
    all_goals first | (refine z_ret (hv := ?_) (ho := ?_) <;> first | rfl | (simp [go_sem, *]; done) | (simp_all; done) | (simp_all; omega)) | skip
instance : Con Try.prog 45 steps_sat_S := con steps_sat Try.func45
def K_steps_sat2 : Nat → List Nat := fun i => ([[1, 2, 3], [1, 2, 3, 7], [1, 2, 3, 7, 8], [1, 2, 3, 7, 8, 15], [1, 2, 3, 7, 8], [1, 2, 3, 7, 8, 9], [1, 2, 3, 7, 8, 9, 36], [1, 2, 3, 7, 8, 9], [1, 2, 3, 7, 8, 9, 55], [1, 2, 3, 7, 8], [6]] : List (List Nat)).getD i []
attribute [go_sem] K_steps_sat2
def steps_sat2_S : Eng.Spec := fun args av objs => ∃ (r z : Int) (es : List Ed) (v x : Int), (es.length ≤ 1048576 ∧ -1000000 ≤ x ∧ x ≤ 1000000) ∧ args = [grA r z es, aI v, aI x] ∧ av = aR 0 ∧ objs = [oL 3 (stL es v x)]
theorem steps_sat2 : Sat Try.prog 46 steps_sat2_S := by
  refine sat_of tok okr mixed K_steps_sat2 Try.func46 rfl (rs := [.tmp 6]) rfl Try.ntmps46 ?_
  rintro args av objs ⟨r, z, es, v, x, hpre, rfl, rfl, rfl⟩
  refine ⟨by show 3 ≤ 61; decide, ?_⟩
  repeat' (first|(refine ya ?_;first|(refine yb ?_;first|refine yc ?_)|refine ye ?_)|(refine yg ?_;intro hgs;first|(replace hgs:=zgy hgs;first|(refine yb ?_;first|refine yc ?_)|refine yy hgs ?_;clear hgs)|(refine yn (zgn hgs) ?_;clear hgs)|((fail_if_success have:=zgy hgs);refine z_spl hgs (h1:=?_) (h2:=?_)<;>clear hgs<;>intro hg hr<;>try first|contradiction|exfalso;omega))|refine yz ?_|refine zst ?_|refine k_blk_other rfl ?_|(refine zk ?_ ?_<;>intro hc hr<;>try first|contradiction|exfalso;omega))
  refine z_loop (fun i : Nat => [(8, aI i)]) (fun i : Nat => [.obj 7 (oL 3 (nI (stN es v x i)))]) (fun i : Nat => i ≤ es.length) (fun i : Nat => es.length - i) (0) (h0 := ?_) (henv := ?_) (hobj := ?_) (h := ?_)
  · omega
  · simp [go_sem, AVm, CVm, lookS, stN, nI_nil]
  · simp [go_sem, OBm, CVm, lookS, All2, stN, nI_nil]
  intro i hi
  have hl := stN_len es v x i
  have hl2 := nI_len (stN es v x i)
  rcases Nat.lt_or_ge i es.length with hlt | hge
  · repeat' (first|(refine ya ?_;first|(refine yb ?_;first|refine yc ?_)|refine ye ?_)|(refine yg ?_;intro hgs;first|(replace hgs:=zgy hgs;first|(refine yb ?_;first|refine yc ?_)|refine yy hgs ?_;clear hgs)|(refine yn (zgn hgs) ?_;clear hgs)|((fail_if_success have:=zgy hgs);refine z_spl hgs (h1:=?_) (h2:=?_)<;>clear hgs<;>intro hg hr<;>try first|contradiction|exfalso;omega))|refine yz ?_|refine zst ?_|refine k_blk_other rfl ?_|(refine zk ?_ ?_<;>intro hc hr<;>try first|contradiction|exfalso;omega))
    all_goals first
      | (have ht : tg v x (ed es i) = [(ed es i).2.2] := tgP (by omega)
         (refine z_lop (i + 1) (hj := ?_) (hmu := ?_) (henv := ?_) (hobj := ?_); (· omega); (· first | omega | (simp only; omega)); (· first | (simp [go_sem, AVm, CVm, lookS, stN, nI_snoc, *]; done) | (simp [go_sem, AVm, CVm, lookS, stN, nI_snoc, *] <;> (repeat' split) <;> first | omega | (simp_all; done) | (exfalso; omega) | (simp_all; omega))); (· first | (simp [go_sem, OBm, CVm, All2, lookS, stN, nI_snoc, *]; done) | (simp [go_sem, OBm, CVm, All2, lookS, stN, nI_snoc, *] <;> (repeat' split) <;> first | omega | (simp_all; done) | (exfalso; omega) | (simp_all; omega)))))
      | (have ht : tg v x (ed es i) = [(ed es i).1] := tgN (by omega)
         (refine z_lop (i + 1) (hj := ?_) (hmu := ?_) (henv := ?_) (hobj := ?_); (· omega); (· first | omega | (simp only; omega)); (· first | (simp [go_sem, AVm, CVm, lookS, stN, nI_snoc, *]; done) | (simp [go_sem, AVm, CVm, lookS, stN, nI_snoc, *] <;> (repeat' split) <;> first | omega | (simp_all; done) | (exfalso; omega) | (simp_all; omega))); (· first | (simp [go_sem, OBm, CVm, All2, lookS, stN, nI_snoc, *]; done) | (simp [go_sem, OBm, CVm, All2, lookS, stN, nI_snoc, *] <;> (repeat' split) <;> first | omega | (simp_all; done) | (exfalso; omega) | (simp_all; omega)))))
      | (have ht : tg v x (ed es i) = [] := tg0 (by omega) (by omega)
         (refine z_lop (i + 1) (hj := ?_) (hmu := ?_) (henv := ?_) (hobj := ?_); (· omega); (· first | omega | (simp only; omega)); (· first | (simp [go_sem, AVm, CVm, lookS, stN, nI_snoc, *]; done) | (simp [go_sem, AVm, CVm, lookS, stN, nI_snoc, *] <;> (repeat' split) <;> first | omega | (simp_all; done) | (exfalso; omega) | (simp_all; omega))); (· first | (simp [go_sem, OBm, CVm, All2, lookS, stN, nI_snoc, *]; done) | (simp [go_sem, OBm, CVm, All2, lookS, stN, nI_snoc, *] <;> (repeat' split) <;> first | omega | (simp_all; done) | (exfalso; omega) | (simp_all; omega)))))
      | trace_state
  · have hii : i = es.length := by omega
    subst hii
    repeat' (first|(refine ya ?_;first|(refine yb ?_;first|refine yc ?_)|refine ye ?_)|(refine yg ?_;intro hgs;first|(replace hgs:=zgy hgs;first|(refine yb ?_;first|refine yc ?_)|refine yy hgs ?_;clear hgs)|(refine yn (zgn hgs) ?_;clear hgs)|((fail_if_success have:=zgy hgs);refine z_spl hgs (h1:=?_) (h2:=?_)<;>clear hgs<;>intro hg hr<;>try first|contradiction|exfalso;omega))|refine yz ?_|refine zst ?_|refine k_blk_other rfl ?_|(refine zk ?_ ?_<;>intro hc hr<;>try first|contradiction|exfalso;omega))
    all_goals first | (refine z_ret (hv := ?_) (ho := ?_) <;> first | rfl | (simp [go_sem, *]; done) | (simp_all; done) | (simp_all; omega)) | skip
instance : Con Try.prog 46 steps_sat2_S := con steps_sat2 Try.func46
def K_next_sat : Nat → List Nat := fun i => ([[1, 2, 3], [7], [7, 14], [6], [6]] : List (List Nat)).getD i []
attribute [go_sem] K_next_sat
def next_sat_S : Eng.Spec := fun args av objs => ∃ (r z : Int) (es : List Ed) (v x : Int), (es.length ≤ 1048576 ∧ -1000000 ≤ x ∧ x ≤ 1000000) ∧ args = [grA r z es, aI v, aI x] ∧ av = aI (nx es v x) ∧ objs = []
theorem next_sat : Sat Try.prog 26 next_sat_S := by
  refine sat_of tok okr mixed K_next_sat Try.func26 rfl (rs := [.tmp 6]) rfl Try.ntmps26 ?_
  rintro args av objs ⟨r, z, es, v, x, hpre, rfl, rfl, rfl⟩
  refine ⟨by show 3 ≤ 18; decide, ?_⟩
  have hl := stL_len es v x
  repeat' (first|(refine ya ?_;first|(refine yb ?_;first|refine yc ?_)|refine ye ?_)|refine yz ?_|refine zst ?_|refine k_blk_other rfl ?_|(refine zk ?_ ?_<;>intro hc hr<;>try first|contradiction|exfalso;omega))
  · rw [nx_no (by omega)]
    all_goals first | (refine z_ret (hv := ?_) (ho := ?_) <;> first | rfl | (simp [go_sem, *]; done) | (simp_all; done) | (simp_all; omega)) | skip
  · rw [nx_yes (by omega)]
    all_goals first | (refine z_ret (hv := ?_) (ho := ?_) <;> first | rfl | (simp [go_sem, *]; done) | (simp_all; done) | (simp_all; omega)) | skip
instance : Con Try.prog 26 next_sat_S := con next_sat Try.func26
def K_next_sat2 : Nat → List Nat := fun i => ([[1, 2, 3], [7], [7, 14], [6], [6]] : List (List Nat)).getD i []
attribute [go_sem] K_next_sat2
def next_sat2_S : Eng.Spec := fun args av objs => ∃ (r z : Int) (es : List Ed) (v x : Int), (es.length ≤ 1048576 ∧ -1000000 ≤ x ∧ x ≤ 1000000) ∧ args = [grA r z es, aI v, aI x] ∧ av = aI (nx es v x) ∧ objs = []
theorem next_sat2 : Sat Try.prog 27 next_sat2_S := by
  refine sat_of tok okr mixed K_next_sat2 Try.func27 rfl (rs := [.tmp 6]) rfl Try.ntmps27 ?_
  rintro args av objs ⟨r, z, es, v, x, hpre, rfl, rfl, rfl⟩
  refine ⟨by show 3 ≤ 18; decide, ?_⟩
  have hl := stL_len es v x
  repeat' (first|(refine ya ?_;first|(refine yb ?_;first|refine yc ?_)|refine ye ?_)|refine yz ?_|refine zst ?_|refine k_blk_other rfl ?_|(refine zk ?_ ?_<;>intro hc hr<;>try first|contradiction|exfalso;omega))
  · rw [nx_no (by omega)]
    all_goals first | (refine z_ret (hv := ?_) (ho := ?_) <;> first | rfl | (simp [go_sem, *]; done) | (simp_all; done) | (simp_all; omega)) | skip
  · rw [nx_yes (by omega)]
    all_goals first | (refine z_ret (hv := ?_) (ho := ?_) <;> first | rfl | (simp [go_sem, *]; done) | (simp_all; done) | (simp_all; omega)) | skip
instance : Con Try.prog 27 next_sat2_S := con next_sat2 Try.func27
end Go.Proofs.Try
/- Plain: missing steps; the search by breadth. -/
namespace Go.Proofs.Try
open Go Go.Eng
/-! ### Missing steps -/
def msK (es : List Ed) (ls : List Int) (v : Int) : Nat → List Ed
  | 0 => []
  | k + 1 => if nx es v (ix ls k) < 0 then msK es ls v k ++ [(v, ix ls k, -1)] else msK es ls v k
def msV (es : List Ed) (ls : List Int) : Nat → List Ed
  | 0 => []
  | v + 1 => msV es ls v ++ msK es ls v ls.length
theorem msK_len (es : List Ed) (ls : List Int) (v : Int) (k : Nat) : (msK es ls v k).length ≤ k := by
  induction k with
  | zero => simp [msK]
  | succ k ih =>
    unfold msK
    split
    · simp only [List.length_append, List.length_cons, List.length_nil]; omega
    · omega
theorem msV_len (es : List Ed) (ls : List Int) (v : Nat) : (msV es ls v).length ≤ v * ls.length := by
  induction v with
  | zero => simp [msV]
  | succ v ih => have := msK_len es ls v ls.length; simp only [msV, List.length_append, Nat.succ_mul]; omega
def miss (r z : Int) (es : List Ed) : List Ed := if isF r z es then msV es (lts r.toNat) z.toNat else []
theorem miss_no {r z : Int} {es : List Ed} (h : isF r z es = false) : miss r z es = [] := by simp [miss, h]
theorem miss_yes {r z : Int} {es : List Ed} (h : isF r z es = true) : miss r z es = msV es (lts r.toNat) z.toNat := by simp [miss, h]
theorem lts_ix {n k : Nat} (h : k < 2 * n) : -(n : Int) ≤ ix (lts n) k ∧ ix (lts n) k ≤ n ∧ ix (lts n) k ≠ 0 := by
  induction n with
  | zero => omega
  | succ n ih =>
    have hl := lts_len n
    rcases Nat.lt_or_ge k (2 * n) with h1 | h1
    · have := ih h1
      have he : ix (lts (n + 1)) k = ix (lts n) k := by
        simp only [ix, lts, List.getD_eq_getElem?_getD]
        rw [List.getElem?_append_left (by omega)]
      rw [he]; omega
    · have he : ix (lts (n + 1)) k = if k = 2 * n then (n + 1 : Int) else -(n + 1 : Int) := by
        simp only [ix, lts, List.getD_eq_getElem?_getD]
        rw [List.getElem?_append_right (by omega), hl]
        rcases (show k = 2 * n ∨ k = 2 * n + 1 by omega) with rfl | rfl
        · simp
        · simp [show 2 * n + 1 - 2 * n = 1 by omega]
      rw [he]; split <;> omega
theorem lts_mem {n : Nat} {x : Int} : x ∈ lts n ↔ x ≠ 0 ∧ -(n : Int) ≤ x ∧ x ≤ n := by
  induction n with
  | zero => simp [lts]; omega
  | succ n ih => simp only [lts, List.mem_append, ih, List.mem_cons, List.not_mem_nil, or_false]; omega

/-! ### The search -/
theorem ix_mem {l : List Int} {i : Nat} (h : i < l.length) : ix l i ∈ l := by
  simp only [ix]
  rw [List.getD_eq_getElem?_getD, List.getElem?_eq_getElem h]
  simp
abbrev BS := List (Int × List Int)
def vxs (st : BS) : List Int := st.map (·.1)
theorem vxs_len (st : BS) : (vxs st).length = st.length := by simp [vxs]
def wf : BS → Int → Option (List Int)
  | [], _ => none
  | (t, w) :: r, u => if t = u then some w else wf r u
def bsa (st : BS) (i : Nat) : Int × List Int := st.getD i (0, [])
theorem vxs_ix {st : BS} {i : Nat} : ix (vxs st) i = (bsa st i).1 := by
  simp only [ix, vxs, bsa, List.getD_eq_getElem?_getD, List.getElem?_map]
  cases st[i]? <;> rfl
theorem wf_none {st : BS} {t : Int} : wf st t = none ↔ t ∉ vxs st := by
  induction st with
  | nil => simp [wf, vxs]
  | cons p r ih =>
    obtain ⟨a, w⟩ := p
    unfold wf
    by_cases h : a = t
    · subst h; simp [vxs]
    · rw [if_neg h, ih]
      simp only [vxs, List.map_cons, List.mem_cons, not_or]
      exact ⟨fun h2 => ⟨fun e => h e.symm, h2⟩, fun h2 => h2.2⟩
theorem wf_mem {st : BS} {t : Int} {w : List Int} (h : wf st t = some w) : (t, w) ∈ st := by
  induction st with
  | nil => cases h
  | cons p r ih =>
    obtain ⟨a, w'⟩ := p
    unfold wf at h
    split at h
    · rename_i e; subst e; cases h; simp
    · exact List.mem_cons_of_mem _ (ih h)
theorem wf_at {st : BS} (hn : (vxs st).Nodup) {i : Nat} (hi : i < st.length) : wf st (bsa st i).1 = some (bsa st i).2 := by
  induction st generalizing i with
  | nil => simp at hi
  | cons p r ih =>
    obtain ⟨a, w⟩ := p
    have hn' := List.nodup_cons.1 hn
    cases i with
    | zero => simp [bsa, wf]
    | succ i =>
      have h1 : bsa ((a, w) :: r) (i + 1) = bsa r i := by simp [bsa]
      rw [h1]
      have h2 := ih hn'.2 (i := i) (by simpa using hi)
      unfold wf
      rw [if_neg, h2]
      intro e
      apply hn'.1
      rw [e]
      have : (bsa r i) ∈ r := by
        have hi' : i < r.length := by simpa using hi
        simp [bsa, hi']
      exact List.mem_map.2 ⟨_, this, rfl⟩
theorem wf_app {st : BS} {t : Int} {w : List Int} (h : t ∉ vxs st) (u : Int) : wf (st ++ [(t, w)]) u = if u = t then some w else wf st u := by
  induction st with
  | nil => simp [wf, eq_comm]
  | cons p r ih =>
    obtain ⟨a, w'⟩ := p
    simp only [vxs, List.map_cons, List.mem_cons, not_or] at h
    have h2 := ih h.2
    simp only [List.cons_append]
    rw [wf, wf, h2]
    by_cases h3 : a = u
    · subst h3; rw [if_pos rfl, if_pos rfl, if_neg (fun e => h.1 e.symm)]
    · rw [if_neg h3, if_neg h3]
def bStep (es : List Ed) (p : Int × List Int) (x : Int) (st : BS) : BS := if 0 ≤ nx es p.1 x ∧ nx es p.1 x ∉ vxs st then st ++ [(nx es p.1 x, p.2 ++ [x])] else st
def bIn (es : List Ed) (ls : List Int) (p : Int × List Int) (st : BS) : Nat → BS
  | 0 => st
  | k + 1 => bStep es p (ix ls k) (bIn es ls p st k)
def bOut (es : List Ed) (ls : List Int) (v : Int) : Nat → BS
  | 0 => [(v, [])]
  | i + 1 => if i < (bOut es ls v i).length then bIn es ls (bsa (bOut es ls v i) i) (bOut es ls v i) ls.length else bOut es ls v i
def bfs (r z : Int) (es : List Ed) (v : Int) : BS := bOut es (lts r.toNat) v z.toNat

theorem insI_new {x : Int} : ∀ {l : List Int}, x ∉ l → (insI x l).length = l.length + 1
  | [], _ => rfl
  | y :: r, h => by
    simp only [List.mem_cons, not_or] at h
    unfold insI
    rw [if_neg (fun e => h.1 e.symm)]
    split
    · simp
    · simp [insI_new h.2]
theorem nI_nodup {l : List Int} (h : l.Nodup) : (nI l).length = l.length := by
  suffices H : ∀ a : List Int, (∀ x ∈ l, x ∉ a) → (l.foldl (fun a x => insI x a) a).length = a.length + l.length by simpa [nI] using H [] (by simp)
  induction l with
  | nil => intro a _; simp
  | cons y r ih =>
    intro a ha
    have h' := List.nodup_cons.1 h
    rw [List.foldl_cons, ih h'.2, insI_new (ha y (by simp)), List.length_cons]
    · omega
    · intro x hx hm
      rcases insI_mem.1 hm with rfl | hm
      · exact h'.1 hx
      · exact ha x (List.mem_cons_of_mem _ hx) hm
theorem nodup_len {l : List Int} {z : Int} (hz : 0 ≤ z) (h : l.Nodup) (hb : ∀ u ∈ l, 0 ≤ u ∧ u < z) : l.length ≤ z.toNat := by
  rw [← nI_nodup h]
  exact asc_len (a := 0) (nI_asc l) fun u hu => by have := hb u (nI_mem.1 hu); omega

/-- What holds of the search at every time. -/
structure BI (r z : Int) (es : List Ed) (v : Int) (st : BS) : Prop where
  nd : (vxs st).Nodup
  inz : ∀ u ∈ vxs st, 0 ≤ u ∧ u < z
  pos : 0 < st.length
  wl : ∀ i, i < st.length → (bsa st i).2.length ≤ i
theorem BI.len {r z : Int} {es : List Ed} {v : Int} {st : BS} (h : BI r z es v st) (hz : 0 ≤ z) : st.length ≤ z.toNat := by
  rw [← vxs_len]; exact nodup_len hz h.nd h.inz
theorem BI_0 {r z : Int} {es : List Ed} {v : Int} (h : 0 ≤ v ∧ v < z) : BI r z es v [(v, [])] :=
  ⟨by simp [vxs], by simpa [vxs] using h, by simp, fun i hi => by have : i = 0 := by simpa using hi
                                                                  subst this; simp [bsa]⟩
theorem bsa_app {st : BS} {q : Int × List Int} {i : Nat} (h : i < st.length) : bsa (st ++ [q]) i = bsa st i := by
  simp [bsa, List.getElem?_append_left h]
theorem BI_step {r z : Int} {es : List Ed} {v x : Int} {st : BS} {i : Nat} (hg : isG r z es = true) (h : BI r z es v st) (hi : i < st.length) : BI r z es v (bStep es (bsa st i) x st) ∧ bsa (bStep es (bsa st i) x st) i = bsa st i ∧ st.length ≤ (bStep es (bsa st i) x st).length := by
  unfold bStep
  split
  · rename_i hc
    have hin := nx_in (v := (bsa st i).1) (x := x) hg
    refine ⟨⟨?_, ?_, by simp, ?_⟩, bsa_app hi, by simp⟩
    · simp only [vxs, List.map_append, List.map_cons, List.map_nil]
      refine List.nodup_append.2 ⟨h.nd, by simp, ?_⟩
      intro a ha b hb
      rw [List.mem_singleton] at hb
      subst hb
      intro e; subst e; exact hc.2 ha
    · intro u hu
      simp only [vxs, List.map_append, List.map_cons, List.map_nil, List.mem_append, List.mem_singleton] at hu
      rcases hu with hu | rfl
      · exact h.inz u hu
      · omega
    · intro j hj
      rcases Nat.lt_or_ge j st.length with h1 | h1
      · rw [bsa_app h1]; exact h.wl j h1
      · have : j = st.length := by simp at hj; omega
        subst this
        have := h.wl i hi
        simp [bsa] at this ⊢
        omega
  · exact ⟨h, rfl, Nat.le_refl _⟩
theorem BI_in {r z : Int} {es : List Ed} {ls : List Int} {v : Int} {st : BS} {i : Nat} (hg : isG r z es = true) (h : BI r z es v st) (hi : i < st.length) (k : Nat) :
    BI r z es v (bIn es ls (bsa st i) st k) ∧ bsa (bIn es ls (bsa st i) st k) i = bsa st i ∧ st.length ≤ (bIn es ls (bsa st i) st k).length := by
  induction k with
  | zero => exact ⟨h, rfl, Nat.le_refl _⟩
  | succ k ih =>
    obtain ⟨h1, h2, h3⟩ := ih
    have := BI_step (x := ix ls k) hg h1 (i := i) (by omega)
    rw [h2] at this
    exact ⟨this.1, this.2.1, by unfold bIn; omega⟩
theorem BI_out {r z : Int} {es : List Ed} {ls : List Int} {v : Int} (hg : isG r z es = true) (hv : 0 ≤ v ∧ v < z) (n : Nat) : BI r z es v (bOut es ls v n) := by
  induction n with
  | zero => exact BI_0 hv
  | succ n ih =>
    unfold bOut
    split
    · rename_i h; exact (BI_in hg ih h _).1
    · exact ih
theorem bOut_stop {es : List Ed} {ls : List Int} {v : Int} {i : Nat} (h : (bOut es ls v i).length ≤ i) : ∀ k, bOut es ls v (i + k) = bOut es ls v i
  | 0 => rfl
  | k + 1 => by
    have ih := bOut_stop h k
    show bOut es ls v ((i + k) + 1) = _
    rw [bOut, ih, if_neg (by omega)]
theorem bfs_at {r z : Int} {es : List Ed} {v : Int} {i : Nat} (hg : isG r z es = true) (hv : 0 ≤ v ∧ v < z) (hi : i = (bOut es (lts r.toNat) v i).length) : bfs r z es v = bOut es (lts r.toNat) v i := by
  have hz := isG_z hg
  have hl := (BI_out (ls := lts r.toNat) hg hv i).len (by omega)
  have := bOut_stop (es := es) (ls := lts r.toNat) (v := v) (i := i) (by omega) (z.toNat - i)
  rw [← this, bfs]
  congr 1
  omega
theorem BI_bfs {r z : Int} {es : List Ed} {v : Int} (hg : isG r z es = true) (hv : 0 ≤ v ∧ v < z) : BI r z es v (bfs r z es v) := BI_out hg hv _
theorem bfs_len {r z : Int} {es : List Ed} {v : Int} (hg : isG r z es = true) (hv : 0 ≤ v ∧ v < z) : (bfs r z es v).length ≤ 40 := by
  have hz := isG_z hg
  have := (BI_bfs hg hv).len (by omega)
  omega
theorem wf_len {r z : Int} {es : List Ed} {v t : Int} {w : List Int} {st : BS} (hg : isG r z es = true) (h : BI r z es v st) (hw : wf st t = some w) : w.length ≤ 40 := by
  have hz := isG_z hg
  have hl := h.len (by omega)
  obtain ⟨i, hi, he⟩ := List.mem_iff_getElem.1 (wf_mem hw)
  have := h.wl i hi
  rw [show bsa st i = (t, w) by simp [bsa, hi, he]] at this
  simp only at this
  omega

/-! ### Tables of lists, of truths -/
def tabO (z : Int) (f : Int → Option (List Int)) : List (Option (List El)) := (List.range z.toNat).map fun n : Nat => (f (n : Int)).map ints
theorem tabO_len (z : Int) (f : Int → Option (List Int)) : (tabO z f).length = z.toNat := by simp [tabO]
theorem tabO_at {z v : Int} (f : Int → Option (List Int)) (h0 : 0 ≤ v) (h1 : v < z) : (tabO z f)[v.toNat]? = some ((f v).map ints) := by
  have : v.toNat < z.toNat := by omega
  simp only [tabO]
  rw [List.getElem?_map, List.getElem?_range this]
  simp only [Option.map_some]
  congr 3
  omega
theorem tabO_set {z v : Int} (f : Int → Option (List Int)) (x : List Int) (h0 : 0 ≤ v) : (tabO z f).set v.toNat (some (ints x)) = tabO z fun u => if u = v then some x else f u := by
  apply List.ext_getElem?
  intro i
  by_cases hi : i < z.toNat
  · simp only [tabO, List.getElem?_set, List.getElem?_map, List.getElem?_range hi, Option.map_some, List.length_map, List.length_range]
    by_cases hv : v.toNat = i
    · have : (i : Int) = v := by omega
      have hz2 : v < z := by omega
      simp [hv, this, hz2]
    · simp [hv, show ¬ (i : Int) = v by omega]
  · have h1 : ((tabO z f).set v.toNat (some (ints x))).length ≤ i := by simp [tabO]; omega
    have h2 : (tabO z fun u => if u = v then some x else f u).length ≤ i := by simp [tabO]; omega
    rw [List.getElem?_eq_none h1, List.getElem?_eq_none h2]
theorem tabO_const (z : Int) : tabO z (fun _ => none) = List.replicate z.toNat none := by
  apply List.ext_getElem
  · simp [tabO]
  · intro i h1 h2; simp [tabO]
theorem tabO_wf {z t : Int} {w : List Int} {st : BS} (h0 : 0 ≤ t) (h : t ∉ vxs st) : (tabO z (wf st)).set t.toNat (some (ints w)) = tabO z (wf (st ++ [(t, w)])) := by
  rw [tabO_set _ _ h0]
  congr 1
  funext u
  rw [wf_app h]
theorem tabO_0 {z v : Int} (h : 0 ≤ v) : (List.replicate z.toNat none).set v.toNat (some []) = tabO z (wf [(v, [])]) := by
  have := tabO_wf (z := z) (st := []) (w := []) h (by simp [vxs])
  rw [← show List.replicate z.toNat none = tabO z (wf []) from (tabO_const z).symm] at this
  exact this
theorem optInts (o : Option (List Int)) : (Option.map ints o).getD [] = ints (o.getD []) := by cases o <;> rfl
theorem intsOne (v : Int) : ints [v] = [[Sc.int v]] := rfl
theorem vxs_app (st : BS) (p : Int × List Int) : vxs (st ++ [p]) = vxs st ++ [p.1] := by simp [vxs]
theorem wf_in {st : BS} {t : Int} (h : wf st t ≠ none) : t ∈ vxs st := Decidable.byContradiction fun h2 => h (wf_none.2 h2)
attribute [go_sem] tabO_len tabO_at optInts
def tabB (z : Int) (f : Int → Bool) : List Bool := (List.range z.toNat).map fun n : Nat => f (n : Int)
theorem tabB_len (z : Int) (f : Int → Bool) : (tabB z f).length = z.toNat := by simp [tabB]
theorem tabB_ix {z v : Int} (f : Int → Bool) (h0 : 0 ≤ v) (h1 : v < z) : bx (tabB z f) v.toNat = f v := by
  have : v.toNat < z.toNat := by omega
  simp only [bx, tabB]
  rw [List.getD_eq_getElem?_getD, List.getElem?_map, List.getElem?_range this]
  simp only [Option.map_some, Option.getD_some]
  congr 1
  omega
theorem tabB_set {z v : Int} (f : Int → Bool) (x : Bool) (h0 : 0 ≤ v) : (tabB z f).set v.toNat x = tabB z fun u => if u = v then x else f u := by
  apply List.ext_getElem?
  intro i
  by_cases hi : i < z.toNat
  · simp only [tabB, List.getElem?_set, List.getElem?_map, List.getElem?_range hi, Option.map_some, List.length_map, List.length_range]
    by_cases hv : v.toNat = i
    · have : (i : Int) = v := by omega
      have hz2 : v < z := by omega
      simp [hv, this, hz2]
    · simp [hv, show ¬ (i : Int) = v by omega]
  · have h1 : ((tabB z f).set v.toNat x).length ≤ i := by simp [tabB]; omega
    have h2 : (tabB z fun u => if u = v then x else f u).length ≤ i := by simp [tabB]; omega
    rw [List.getElem?_eq_none h1, List.getElem?_eq_none h2]
theorem tabB_const (z : Int) (x : Bool) : tabB z (fun _ => x) = List.replicate z.toNat x := by
  apply List.ext_getElem
  · simp [tabB]
  · intro i h1 h2; simp [tabB]
def sw (st : BS) (t : Int) : Bool := (wf st t).isSome
theorem tabB_sw {z t : Int} {w : List Int} {st : BS} (h0 : 0 ≤ t) (h : t ∉ vxs st) : (tabB z (sw st)).set t.toNat true = tabB z (sw (st ++ [(t, w)])) := by
  rw [tabB_set _ _ h0]
  congr 1
  funext u
  unfold sw
  rw [wf_app h]
  split <;> simp
theorem tabB_0 {z v : Int} (h : 0 ≤ v) : (List.replicate z.toNat false).set v.toNat true = tabB z (sw [(v, [])]) := by
  have := tabB_sw (z := z) (st := []) (w := []) h (by simp [vxs])
  rw [← show List.replicate z.toNat false = tabB z (sw []) from (tabB_const z false).symm] at this
  exact this
theorem tabB_at {z v : Int} {st : BS} (h0 : 0 ≤ v) (h1 : v < z) : (bls (tabB z (sw st)))[v.toNat]? = some [.bool (sw st v)] := by
  rw [blsAt (by rw [tabB_len]; omega), tabB_ix _ h0 h1]
attribute [go_sem] tabB_len tabB_at
def canO (r z : Int) (es : List Ed) : List Int := if isF r z es then vxs (bfs r z es 0) else []
theorem canO_no {r z : Int} {es : List Ed} (h : isF r z es = false) : canO r z es = [] := by simp [canO, h]
theorem canO_yes {r z : Int} {es : List Ed} (h : isF r z es = true) : canO r z es = vxs (bfs r z es 0) := by simp [canO, h]
/-! ### The word of a path -/
def pwO (r z : Int) (es : List Ed) (u v : Int) : Option (List Int) := if isF r z es = true ∧ 0 ≤ u ∧ u < z ∧ 0 ≤ v ∧ v < z then wf (bfs r z es u) v else none
def pw (r z : Int) (es : List Ed) (u v : Int) : List Int := (pwO r z es u v).getD []
theorem pwO_no {r z : Int} {es : List Ed} {u v : Int} (h : ¬ (isF r z es = true ∧ 0 ≤ u ∧ u < z ∧ 0 ≤ v ∧ v < z)) : pwO r z es u v = none := by unfold pwO; rw [if_neg h]
theorem pwO_yes {r z : Int} {es : List Ed} {u v : Int} (h : isF r z es = true ∧ 0 ≤ u ∧ u < z ∧ 0 ≤ v ∧ v < z) : pwO r z es u v = wf (bfs r z es u) v := by unfold pwO; rw [if_pos h]
theorem pw_len {r z : Int} {es : List Ed} {u v : Int} : (pw r z es u v).length ≤ 40 := by
  unfold pw
  by_cases h : isF r z es = true ∧ 0 ≤ u ∧ u < z ∧ 0 ≤ v ∧ v < z
  · rw [pwO_yes h]
    cases hw : wf (bfs r z es u) v with
    | none => simp
    | some w => exact wf_len (isF_g h.1) (BI_bfs (isF_g h.1) ⟨h.2.1, h.2.2.1⟩) hw
  · rw [pwO_no h]; simp
end Go.Proofs.Try
namespace Go.Proofs.Try
open Go Go.Eng
set_option linter.unnecessarySimpa false
set_option linter.unusedSimpArgs false
set_option maxHeartbeats 4000000
def K_tree_sat : Nat → List Nat := fun i => ([[1, 2], [1, 2, 6], [1, 2, 6], [2, 6, 7], [2, 6, 7, 8], [2, 6, 7, 8, 25], [2, 6, 7, 8], [2, 6, 7, 8, 9], [2, 6, 7, 8, 9, 34, 35, 36], [2, 6, 7, 8, 9, 34, 35, 36, 37], [2, 6, 7, 8, 9, 11, 34, 35, 36], [2, 6, 7, 8, 9, 11, 12, 34, 35, 36], [2, 6, 7, 8, 9, 11, 12, 34, 35, 36, 52], [2, 6, 7, 8, 9, 12, 34, 35, 36], [2, 6, 7, 8, 9, 34, 35, 36], [2, 6, 7, 8, 9, 34, 35, 36], [4, 5]] : List (List Nat)).getD i []
attribute [go_sem] K_tree_sat
def tree_sat_S : Eng.Spec := fun args av objs => ∃ (r z : Int) (es : List Ed) (v : Int), (isG r z es = true ∧ 0 ≤ v ∧ v < z) ∧ args = [grA r z es, aI v] ∧ av = .tup [aR 0, aR 1] ∧ objs = [oL 3 (vxs (bfs r z es v)), .rows 27 3 (.own true) (tabO z (wf (bfs r z es v)))]
theorem tree_sat : Sat Try.prog 38 tree_sat_S := by
  refine sat_of tok okr mixed K_tree_sat Try.func38 rfl (rs := [.tmp 4, .tmp 5]) rfl Try.ntmps38 ?_
  rintro args av objs ⟨r, z, es, v, hpre, rfl, rfl, rfl⟩
  refine ⟨by show 2 ≤ 71; decide, ?_⟩
  obtain ⟨hG, hv0, hv1⟩ := hpre
  have hz := isG_z hG
  repeat' (first|(refine ya ?_;first|(refine yb ?_;first|refine yc ?_)|refine ye ?_)|(refine yg ?_;intro hgs;first|(replace hgs:=zgy hgs;first|(refine yb ?_;first|refine yc ?_)|refine yy hgs ?_;clear hgs)|(refine yn (zgn hgs) ?_;clear hgs)|((fail_if_success have:=zgy hgs);refine z_spl hgs (h1:=?_) (h2:=?_)<;>clear hgs<;>intro hg hr<;>try first|contradiction|exfalso;omega))|refine yz ?_|refine zst ?_|refine k_blk_other rfl ?_|(refine zk ?_ ?_<;>intro hc hr<;>try first|contradiction|exfalso;omega))
  refine z_loop (fun i : Nat => [(8, aI i)]) (fun i : Nat => [.obj 6 (.rows 27 3 (.loc true) (tabO z (wf (bOut es (lts r.toNat) v i)))), .obj 7 (oL 3 (vxs (bOut es (lts r.toNat) v i)))]) (fun i : Nat => i ≤ (bOut es (lts r.toNat) v i).length) (fun i : Nat => z.toNat - i) (0) (h0 := ?_) (henv := ?_) (hobj := ?_) (h := ?_)
  · simp [bOut]
  · simp [go_sem, AVm, CVm, lookS, bOut, vxs, tabO_0 hv0, intsOne]
  · simp [go_sem, OBm, CVm, lookS, All2, bOut, vxs, tabO_0 hv0, intsOne]
  intro i hi
  have hB := BI_out (ls := lts r.toNat) hG ⟨hv0, hv1⟩ i
  have hBl := hB.len (by omega)
  have hvl := vxs_len (bOut es (lts r.toNat) v i)
  have hll := lts_len r.toNat
  rcases Nat.lt_or_ge i (bOut es (lts r.toNat) v i).length with hlt | hge
  · have hx := vxs_ix (st := bOut es (lts r.toNat) v i) (i := i)
    have hbo : bOut es (lts r.toNat) v (i + 1) = bIn es (lts r.toNat) (bsa (bOut es (lts r.toNat) v i) i) (bOut es (lts r.toNat) v i) (lts r.toNat).length := by rw [bOut, if_pos hlt]
    generalize hst : bOut es (lts r.toNat) v i = st at *
    repeat' (first|(refine ya ?_;first|(refine yb ?_;first|refine yc ?_)|refine ye ?_)|(refine yg ?_;intro hgs;first|(replace hgs:=zgy hgs;first|(refine yb ?_;first|refine yc ?_)|refine yy hgs ?_;clear hgs)|(refine yn (zgn hgs) ?_;clear hgs)|((fail_if_success have:=zgy hgs);refine z_spl hgs (h1:=?_) (h2:=?_)<;>clear hgs<;>intro hg hr<;>try first|contradiction|exfalso;omega))|refine yz ?_|refine zst ?_|refine k_blk_other rfl ?_|(refine zk ?_ ?_<;>intro hc hr<;>try first|contradiction|exfalso;omega))
    refine z_loop (fun k : Nat => [(36, aI k), (9, aI (bsa st i).1)]) (fun k : Nat => [.obj 6 (.rows 27 3 (.loc true) (tabO z (wf (bIn es (lts r.toNat) (bsa st i) st k)))), .obj 7 (oL 3 (vxs (bIn es (lts r.toNat) (bsa st i) st k)))]) (fun k : Nat => k ≤ 2 * r.toNat) (fun k : Nat => 2 * r.toNat - k) (0) (h0 := ?_) (henv := ?_) (hobj := ?_) (h := ?_)
    · omega
    · simp [go_sem, AVm, CVm, lookS, bIn, hx]
    · simp [go_sem, OBm, CVm, lookS, All2, bIn, hx]
    intro k hk
    obtain ⟨hB2, hp2, hl2⟩ := BI_in (ls := lts r.toNat) hG hB hlt k
    have hBl2 := hB2.len (by omega)
    have hvl2 := vxs_len (bIn es (lts r.toNat) (bsa st i) st k)
    rcases Nat.lt_or_ge k (2 * r.toNat) with hlt2 | hge2
    · have hstep : bIn es (lts r.toNat) (bsa st i) st (k + 1) = bStep es (bsa st i) (ix (lts r.toNat) k) (bIn es (lts r.toNat) (bsa st i) st k) := rfl
      generalize hst2 : bIn es (lts r.toNat) (bsa st i) st k = st2 at *
      have hlx := lts_ix hlt2
      have hlt3 : k < (lts r.toNat).length := by omega
      have hw : wf st2 (bsa st i).1 = some (bsa st i).2 := by rw [← hp2]; exact wf_at hB2.nd (by omega)
      have hwl : ((wf st2 (bsa st i).1).getD []).length ≤ 40 := by rw [hw]; exact wf_len hG hB2 hw
      have hp1 := hB.inz _ (show (bsa st i).1 ∈ vxs st by rw [← hx]; exact ix_mem (by omega))
      have hnin := nx_in (v := (bsa st i).1) (x := ix (lts r.toNat) k) hG
      repeat' (first|(refine ya ?_;first|(refine yb ?_;first|refine yc ?_)|refine ye ?_)|(refine yg ?_;intro hgs;first|(replace hgs:=zgy hgs;first|(refine yb ?_;first|refine yc ?_)|refine yy hgs ?_;clear hgs)|(refine yn (zgn hgs) ?_;clear hgs)|((fail_if_success have:=zgy hgs);refine z_spl hgs (h1:=?_) (h2:=?_)<;>clear hgs<;>intro hg hr<;>try first|contradiction|exfalso;omega))|refine yz ?_|refine zst ?_|refine k_blk_other rfl ?_|(refine zk ?_ ?_<;>intro hc hr<;>try first|contradiction|exfalso;omega))
      · have hnot := wf_none.1 (Option.isNone_iff_eq_none.1 hr)
        have hbs : bIn es (lts r.toNat) (bsa st i) st (k + 1) = st2 ++ [(nx es (bsa st i).1 (ix (lts r.toNat) k), (bsa st i).2 ++ [ix (lts r.toNat) k])] := by rw [hstep, bStep, if_pos ⟨by assumption, hnot⟩]
        (refine z_lop (k + 1) (hj := ?_) (hmu := ?_) (henv := ?_) (hobj := ?_); (· omega); (· first | omega | (simp only; omega)); (· first | (simp [go_sem, AVm, CVm, lookS, hbs, tabO_wf (by assumption) hnot, vxs_app, *]; done) | (simp [go_sem, AVm, CVm, lookS, hbs, tabO_wf (by assumption) hnot, vxs_app, *] <;> (repeat' split) <;> first | omega | (simp_all; done) | (exfalso; omega) | (simp_all; omega))); (· first | (simp [go_sem, OBm, CVm, All2, lookS, hbs, tabO_wf (by assumption) hnot, vxs_app, *]; done) | (simp [go_sem, OBm, CVm, All2, lookS, hbs, tabO_wf (by assumption) hnot, vxs_app, *] <;> (repeat' split) <;> first | omega | (simp_all; done) | (exfalso; omega) | (simp_all; omega))))
      · have hnot : ¬ (0 ≤ nx es (bsa st i).1 (ix (lts r.toNat) k) ∧ nx es (bsa st i).1 (ix (lts r.toNat) k) ∉ vxs st2) := fun h => by rw [wf_none.2 h.2] at hr; cases hr
        have hbs : bIn es (lts r.toNat) (bsa st i) st (k + 1) = st2 := by rw [hstep, bStep, if_neg hnot]
        (refine z_lop (k + 1) (hj := ?_) (hmu := ?_) (henv := ?_) (hobj := ?_); (· omega); (· first | omega | (simp only; omega)); (· first | (simp [go_sem, AVm, CVm, lookS, hbs, *]; done) | (simp [go_sem, AVm, CVm, lookS, hbs, *] <;> (repeat' split) <;> first | omega | (simp_all; done) | (exfalso; omega) | (simp_all; omega))); (· first | (simp [go_sem, OBm, CVm, All2, lookS, hbs, *]; done) | (simp [go_sem, OBm, CVm, All2, lookS, hbs, *] <;> (repeat' split) <;> first | omega | (simp_all; done) | (exfalso; omega) | (simp_all; omega))))
      · have hbs : bIn es (lts r.toNat) (bsa st i) st (k + 1) = st2 := by rw [hstep, bStep, if_neg (by omega)]
        (refine z_lop (k + 1) (hj := ?_) (hmu := ?_) (henv := ?_) (hobj := ?_); (· omega); (· first | omega | (simp only; omega)); (· first | (simp [go_sem, AVm, CVm, lookS, hbs, *]; done) | (simp [go_sem, AVm, CVm, lookS, hbs, *] <;> (repeat' split) <;> first | omega | (simp_all; done) | (exfalso; omega) | (simp_all; omega))); (· first | (simp [go_sem, OBm, CVm, All2, lookS, hbs, *]; done) | (simp [go_sem, OBm, CVm, All2, lookS, hbs, *] <;> (repeat' split) <;> first | omega | (simp_all; done) | (exfalso; omega) | (simp_all; omega))))
    · have hkk : k = (lts r.toNat).length := by omega
      subst hkk
      rw [← hbo] at hl2
      repeat' (first|(refine ya ?_;first|(refine yb ?_;first|refine yc ?_)|refine ye ?_)|(refine yg ?_;intro hgs;first|(replace hgs:=zgy hgs;first|(refine yb ?_;first|refine yc ?_)|refine yy hgs ?_;clear hgs)|(refine yn (zgn hgs) ?_;clear hgs)|((fail_if_success have:=zgy hgs);refine z_spl hgs (h1:=?_) (h2:=?_)<;>clear hgs<;>intro hg hr<;>try first|contradiction|exfalso;omega))|refine yz ?_|refine zst ?_|refine k_blk_other rfl ?_|(refine zk ?_ ?_<;>intro hc hr<;>try first|contradiction|exfalso;omega))
      (refine z_lop (i + 1) (hj := ?_) (hmu := ?_) (henv := ?_) (hobj := ?_); (· omega); (· first | omega | (simp only; omega)); (· first | (simp [go_sem, AVm, CVm, lookS, hbo, *]; done) | (simp [go_sem, AVm, CVm, lookS, hbo, *] <;> (repeat' split) <;> first | omega | (simp_all; done) | (exfalso; omega) | (simp_all; omega))); (· first | (simp [go_sem, OBm, CVm, All2, lookS, hbo, *]; done) | (simp [go_sem, OBm, CVm, All2, lookS, hbo, *] <;> (repeat' split) <;> first | omega | (simp_all; done) | (exfalso; omega) | (simp_all; omega))))
  · have hfin := bfs_at hG ⟨hv0, hv1⟩ (show i = (bOut es (lts r.toNat) v i).length by omega)
    rw [hfin]
    generalize bOut es (lts r.toNat) v i = st at *
    repeat' (first|(refine ya ?_;first|(refine yb ?_;first|refine yc ?_)|refine ye ?_)|(refine yg ?_;intro hgs;first|(replace hgs:=zgy hgs;first|(refine yb ?_;first|refine yc ?_)|refine yy hgs ?_;clear hgs)|(refine yn (zgn hgs) ?_;clear hgs)|((fail_if_success have:=zgy hgs);refine z_spl hgs (h1:=?_) (h2:=?_)<;>clear hgs<;>intro hg hr<;>try first|contradiction|exfalso;omega))|refine yz ?_|refine zst ?_|refine k_blk_other rfl ?_|(refine zk ?_ ?_<;>intro hc hr<;>try first|contradiction|exfalso;omega))
    refine z_retT 120 (hv := ?_) (ho := ?_) <;> rfl
instance : Con Try.prog 38 tree_sat_S := con tree_sat Try.func38
def K_search_sat2 : Nat → List Nat := fun i => ([[1, 2], [1, 2, 6], [1, 2, 6, 7], [1, 2, 6, 7], [1, 2, 6, 7], [2, 6, 7, 8], [2, 6, 7, 8, 9], [2, 6, 7, 8, 9, 10], [2, 6, 7, 8, 9, 10, 34], [2, 6, 7, 8, 9, 10], [2, 6, 7, 8, 9, 10, 11], [2, 6, 7, 8, 9, 10, 11, 40], [2, 6, 7, 8, 9, 10, 11], [2, 6, 7, 8, 9, 10, 11, 12], [2, 6, 7, 8, 9, 10, 11, 12, 61], [2, 6, 7, 8, 9, 10, 11, 12], [2, 6, 7, 8, 9, 10, 11, 12], [2, 6, 7, 8, 9, 10, 11], [4, 5]] : List (List Nat)).getD i []
attribute [go_sem] K_search_sat2
def search_sat2_S : Eng.Spec := fun args av objs => ∃ (r z : Int) (es : List Ed) (v : Int), (isG r z es = true ∧ 0 ≤ v ∧ v < z) ∧ args = [grA r z es, aI v] ∧ av = .tup [aR 0, aR 1] ∧ objs = [oBl 4 (tabB z (sw (bfs r z es v))), .rows 27 3 (.own true) (tabO z (wf (bfs r z es v)))]
theorem search_sat2 : Sat Try.prog 39 search_sat2_S := by
  refine sat_of tok okr mixed K_search_sat2 Try.func39 rfl (rs := [.tmp 4, .tmp 5]) rfl Try.ntmps39 ?_
  rintro args av objs ⟨r, z, es, v, hpre, rfl, rfl, rfl⟩
  refine ⟨by show 2 ≤ 89; decide, ?_⟩
  obtain ⟨hG, hv0, hv1⟩ := hpre
  have hz := isG_z hG
  repeat' (first|(refine ya ?_;first|(refine yb ?_;first|refine yc ?_)|refine ye ?_)|(refine yg ?_;intro hgs;first|(replace hgs:=zgy hgs;first|(refine yb ?_;first|refine yc ?_)|refine yy hgs ?_;clear hgs)|(refine yn (zgn hgs) ?_;clear hgs)|((fail_if_success have:=zgy hgs);refine z_spl hgs (h1:=?_) (h2:=?_)<;>clear hgs<;>intro hg hr<;>try first|contradiction|exfalso;omega))|refine yz ?_|(refine yA ?_;first|(refine yB ?_;first|refine yC ?_)|refine yE ?_)|(refine yG ?_;intro hgs;first|(replace hgs:=zgy hgs;first|(refine yB ?_;first|refine yC ?_)|refine yY hgs ?_;clear hgs)|(refine yN (zgn hgs) ?_;clear hgs)|((fail_if_success have:=zgy hgs);refine z_spll hgs (h1:=?_) (h2:=?_)<;>clear hgs<;>intro hg hr<;>try first|contradiction|exfalso;omega))|refine yZ ?_|refine zst ?_|refine k_blk_other rfl ?_|(refine zk ?_ ?_<;>intro hc hr<;>try first|contradiction|exfalso;omega))
  refine z_loop (fun i : Nat => [(10, aI i)]) (fun i : Nat => [.obj 6 (oBl 4 (tabB z (sw (bOut es (lts r.toNat) v i)))), .obj 7 (.rows 27 3 (.loc true) (tabO z (wf (bOut es (lts r.toNat) v i)))), .obj 8 (oL 3 (vxs (bOut es (lts r.toNat) v i)))]) (fun i : Nat => i ≤ (bOut es (lts r.toNat) v i).length) (fun i : Nat => z.toNat - i) (0) (h0 := ?_) (henv := ?_) (hobj := ?_) (h := ?_)
  · simp [bOut]
  · simp [go_sem, AVm, CVm, lookS, bOut, vxs, tabO_0 hv0, intsOne, tabB_0 hv0]
  · simp [go_sem, OBm, CVm, lookS, All2, bOut, vxs, tabO_0 hv0, intsOne, tabB_0 hv0]
  intro i hi
  have hB := BI_out (ls := lts r.toNat) hG ⟨hv0, hv1⟩ i
  have hBl := hB.len (by omega)
  have hvl := vxs_len (bOut es (lts r.toNat) v i)
  have hll := lts_len r.toNat
  rcases Nat.lt_or_ge i (bOut es (lts r.toNat) v i).length with hlt | hge
  · have hx := vxs_ix (st := bOut es (lts r.toNat) v i) (i := i)
    have hbo : bOut es (lts r.toNat) v (i + 1) = bIn es (lts r.toNat) (bsa (bOut es (lts r.toNat) v i) i) (bOut es (lts r.toNat) v i) (lts r.toNat).length := by rw [bOut, if_pos hlt]
    generalize hst : bOut es (lts r.toNat) v i = st at *
    repeat' (first|(refine ya ?_;first|(refine yb ?_;first|refine yc ?_)|refine ye ?_)|(refine yg ?_;intro hgs;first|(replace hgs:=zgy hgs;first|(refine yb ?_;first|refine yc ?_)|refine yy hgs ?_;clear hgs)|(refine yn (zgn hgs) ?_;clear hgs)|((fail_if_success have:=zgy hgs);refine z_spl hgs (h1:=?_) (h2:=?_)<;>clear hgs<;>intro hg hr<;>try first|contradiction|exfalso;omega))|refine yz ?_|(refine yA ?_;first|(refine yB ?_;first|refine yC ?_)|refine yE ?_)|(refine yG ?_;intro hgs;first|(replace hgs:=zgy hgs;first|(refine yB ?_;first|refine yC ?_)|refine yY hgs ?_;clear hgs)|(refine yN (zgn hgs) ?_;clear hgs)|((fail_if_success have:=zgy hgs);refine z_spll hgs (h1:=?_) (h2:=?_)<;>clear hgs<;>intro hg hr<;>try first|contradiction|exfalso;omega))|refine yZ ?_|refine zst ?_|refine k_blk_other rfl ?_|(refine zk ?_ ?_<;>intro hc hr<;>try first|contradiction|exfalso;omega))
    refine z_loop (fun k : Nat => [(11, aI k)]) (fun k : Nat => [.obj 6 (oBl 4 (tabB z (sw (bIn es (lts r.toNat) (bsa st i) st k)))), .obj 7 (.rows 27 3 (.loc true) (tabO z (wf (bIn es (lts r.toNat) (bsa st i) st k)))), .obj 8 (oL 3 (vxs (bIn es (lts r.toNat) (bsa st i) st k)))]) (fun k : Nat => k ≤ 2 * r.toNat) (fun k : Nat => 2 * r.toNat - k) (0) (h0 := ?_) (henv := ?_) (hobj := ?_) (h := ?_)
    · omega
    · simp [go_sem, AVm, CVm, lookS, bIn]
    · simp [go_sem, OBm, CVm, lookS, All2, bIn]
    intro k hk
    obtain ⟨hB2, hp2, hl2⟩ := BI_in (ls := lts r.toNat) hG hB hlt k
    have hBl2 := hB2.len (by omega)
    have hvl2 := vxs_len (bIn es (lts r.toNat) (bsa st i) st k)
    rcases Nat.lt_or_ge k (2 * r.toNat) with hlt2 | hge2
    · have hstep : bIn es (lts r.toNat) (bsa st i) st (k + 1) = bStep es (bsa st i) (ix (lts r.toNat) k) (bIn es (lts r.toNat) (bsa st i) st k) := rfl
      have hx2 : ix (vxs (bIn es (lts r.toNat) (bsa st i) st k)) i = (bsa st i).1 := by rw [vxs_ix, hp2]
      generalize hst2 : bIn es (lts r.toNat) (bsa st i) st k = st2 at *
      have hlx := lts_ix hlt2
      have hlt3 : k < (lts r.toNat).length := by omega
      have hw : wf st2 (bsa st i).1 = some (bsa st i).2 := by rw [← hp2]; exact wf_at hB2.nd (by omega)
      have hwl : ((wf st2 (bsa st i).1).getD []).length ≤ 40 := by rw [hw]; exact wf_len hG hB2 hw
      have hp1 := hB.inz _ (show (bsa st i).1 ∈ vxs st by rw [← hx]; exact ix_mem (by omega))
      have hnin := nx_in (v := (bsa st i).1) (x := ix (lts r.toNat) k) hG
      have hwl3 : ((wf st2 (ix (vxs st2) i)).getD []).length ≤ 40 := by rw [hx2]; exact hwl
      repeat' (first|(refine ya ?_;first|(refine yb ?_;first|refine yc ?_)|refine ye ?_)|(refine yg ?_;intro hgs;first|(replace hgs:=zgy hgs;first|(refine yb ?_;first|refine yc ?_)|refine yy hgs ?_;clear hgs)|(refine yn (zgn hgs) ?_;clear hgs)|((fail_if_success have:=zgy hgs);refine z_spl hgs (h1:=?_) (h2:=?_)<;>clear hgs<;>intro hg hr<;>try first|contradiction|exfalso;omega))|refine yz ?_|(refine yA ?_;first|(refine yB ?_;first|refine yC ?_)|refine yE ?_)|(refine yG ?_;intro hgs;first|(replace hgs:=zgy hgs;first|(refine yB ?_;first|refine yC ?_)|refine yY hgs ?_;clear hgs)|(refine yN (zgn hgs) ?_;clear hgs)|((fail_if_success have:=zgy hgs);refine z_spll hgs (h1:=?_) (h2:=?_)<;>clear hgs<;>intro hg hr<;>try first|contradiction|exfalso;omega))|refine yZ ?_|refine zst ?_|refine k_blk_other rfl ?_|(refine zk ?_ ?_<;>intro hc hr<;>try first|contradiction|exfalso;omega))
      · have hnot := wf_none.1 (Option.not_isSome_iff_eq_none.1 (by rw [← sw, hc]; decide))
        have hbs : bIn es (lts r.toNat) (bsa st i) st (k + 1) = st2 ++ [(nx es (bsa st i).1 (ix (lts r.toNat) k), (bsa st i).2 ++ [ix (lts r.toNat) k])] := by rw [hstep, bStep, if_pos ⟨by assumption, hnot⟩]
        have hU := tabB_sw (z := z) (w := (bsa st i).2 ++ [ix (lts r.toNat) k]) hg hnot
        (refine z_lop (k + 1) (hj := ?_) (hmu := ?_) (henv := ?_) (hobj := ?_); (· omega); (· first | omega | (simp only; omega)); (· first | (simp [go_sem, AVm, CVm, lookS, hbs, tabO_wf hg hnot, vxs_app, *]; done) | (simp [go_sem, AVm, CVm, lookS, hbs, tabO_wf hg hnot, vxs_app, *] <;> (repeat' split) <;> first | omega | (simp_all; done) | (exfalso; omega) | (simp_all; omega))); (· first | (simp [go_sem, OBm, CVm, All2, lookS, hbs, tabO_wf hg hnot, vxs_app, *]; done) | (simp [go_sem, OBm, CVm, All2, lookS, hbs, tabO_wf hg hnot, vxs_app, *] <;> (repeat' split) <;> first | omega | (simp_all; done) | (exfalso; omega) | (simp_all; omega))))
      · have hnot : ¬ (0 ≤ nx es (bsa st i).1 (ix (lts r.toNat) k) ∧ nx es (bsa st i).1 (ix (lts r.toNat) k) ∉ vxs st2) := fun h => by rw [sw, wf_none.2 h.2] at hc; cases hc
        have hbs : bIn es (lts r.toNat) (bsa st i) st (k + 1) = st2 := by rw [hstep, bStep, if_neg hnot]
        (refine z_lop (k + 1) (hj := ?_) (hmu := ?_) (henv := ?_) (hobj := ?_); (· omega); (· first | omega | (simp only; omega)); (· first | (simp [go_sem, AVm, CVm, lookS, hbs, *]; done) | (simp [go_sem, AVm, CVm, lookS, hbs, *] <;> (repeat' split) <;> first | omega | (simp_all; done) | (exfalso; omega) | (simp_all; omega))); (· first | (simp [go_sem, OBm, CVm, All2, lookS, hbs, *]; done) | (simp [go_sem, OBm, CVm, All2, lookS, hbs, *] <;> (repeat' split) <;> first | omega | (simp_all; done) | (exfalso; omega) | (simp_all; omega))))
      · have hbs : bIn es (lts r.toNat) (bsa st i) st (k + 1) = st2 := by rw [hstep, bStep, if_neg (by omega)]
        (refine z_lop (k + 1) (hj := ?_) (hmu := ?_) (henv := ?_) (hobj := ?_); (· omega); (· first | omega | (simp only; omega)); (· first | (simp [go_sem, AVm, CVm, lookS, hbs, *]; done) | (simp [go_sem, AVm, CVm, lookS, hbs, *] <;> (repeat' split) <;> first | omega | (simp_all; done) | (exfalso; omega) | (simp_all; omega))); (· first | (simp [go_sem, OBm, CVm, All2, lookS, hbs, *]; done) | (simp [go_sem, OBm, CVm, All2, lookS, hbs, *] <;> (repeat' split) <;> first | omega | (simp_all; done) | (exfalso; omega) | (simp_all; omega))))
    · have hkk : k = (lts r.toNat).length := by omega
      subst hkk
      rw [← hbo] at hl2
      repeat' (first|(refine ya ?_;first|(refine yb ?_;first|refine yc ?_)|refine ye ?_)|(refine yg ?_;intro hgs;first|(replace hgs:=zgy hgs;first|(refine yb ?_;first|refine yc ?_)|refine yy hgs ?_;clear hgs)|(refine yn (zgn hgs) ?_;clear hgs)|((fail_if_success have:=zgy hgs);refine z_spl hgs (h1:=?_) (h2:=?_)<;>clear hgs<;>intro hg hr<;>try first|contradiction|exfalso;omega))|refine yz ?_|(refine yA ?_;first|(refine yB ?_;first|refine yC ?_)|refine yE ?_)|(refine yG ?_;intro hgs;first|(replace hgs:=zgy hgs;first|(refine yB ?_;first|refine yC ?_)|refine yY hgs ?_;clear hgs)|(refine yN (zgn hgs) ?_;clear hgs)|((fail_if_success have:=zgy hgs);refine z_spll hgs (h1:=?_) (h2:=?_)<;>clear hgs<;>intro hg hr<;>try first|contradiction|exfalso;omega))|refine yZ ?_|refine zst ?_|refine k_blk_other rfl ?_|(refine zk ?_ ?_<;>intro hc hr<;>try first|contradiction|exfalso;omega))
      (refine z_lop (i + 1) (hj := ?_) (hmu := ?_) (henv := ?_) (hobj := ?_); (· omega); (· first | omega | (simp only; omega)); (· first | (simp [go_sem, AVm, CVm, lookS, hbo, *]; done) | (simp [go_sem, AVm, CVm, lookS, hbo, *] <;> (repeat' split) <;> first | omega | (simp_all; done) | (exfalso; omega) | (simp_all; omega))); (· first | (simp [go_sem, OBm, CVm, All2, lookS, hbo, *]; done) | (simp [go_sem, OBm, CVm, All2, lookS, hbo, *] <;> (repeat' split) <;> first | omega | (simp_all; done) | (exfalso; omega) | (simp_all; omega))))
  · have hfin := bfs_at hG ⟨hv0, hv1⟩ (show i = (bOut es (lts r.toNat) v i).length by omega)
    rw [hfin]
    generalize bOut es (lts r.toNat) v i = st at *
    repeat' (first|(refine ya ?_;first|(refine yb ?_;first|refine yc ?_)|refine ye ?_)|(refine yg ?_;intro hgs;first|(replace hgs:=zgy hgs;first|(refine yb ?_;first|refine yc ?_)|refine yy hgs ?_;clear hgs)|(refine yn (zgn hgs) ?_;clear hgs)|((fail_if_success have:=zgy hgs);refine z_spl hgs (h1:=?_) (h2:=?_)<;>clear hgs<;>intro hg hr<;>try first|contradiction|exfalso;omega))|refine yz ?_|(refine yA ?_;first|(refine yB ?_;first|refine yC ?_)|refine yE ?_)|(refine yG ?_;intro hgs;first|(replace hgs:=zgy hgs;first|(refine yB ?_;first|refine yC ?_)|refine yY hgs ?_;clear hgs)|(refine yN (zgn hgs) ?_;clear hgs)|((fail_if_success have:=zgy hgs);refine z_spll hgs (h1:=?_) (h2:=?_)<;>clear hgs<;>intro hg hr<;>try first|contradiction|exfalso;omega))|refine yZ ?_|refine zst ?_|refine k_blk_other rfl ?_|(refine zk ?_ ?_<;>intro hc hr<;>try first|contradiction|exfalso;omega))
    refine z_retT 144 (hv := ?_) (ho := ?_) <;> rfl
instance : Con Try.prog 39 search_sat2_S := con search_sat2 Try.func39
end Go.Proofs.Try
namespace Go.Proofs.Try
open Go Go.Eng
set_option linter.unnecessarySimpa false
set_option linter.unusedSimpArgs false
set_option maxHeartbeats 4000000
def K_path_sat : Nat → List Nat := fun i => ([[1, 2, 3], [1, 2, 3, 24], [6, 7], [2, 9], [2, 9, 36], [6, 7], [6, 7]] : List (List Nat)).getD i []
attribute [go_sem] K_path_sat
def path_sat_S : Eng.Spec := fun args av objs => ∃ (r z : Int) (es : List Ed) (u v : Int), (es.length ≤ 1048576) ∧ args = [grA r z es, aI u, aI v] ∧ av = .tup [aR 0, aB (pwO r z es u v).isSome] ∧ objs = [oL 3 (pw r z es u v)]
theorem path_sat : Sat Try.prog 14 path_sat_S := by
  refine sat_of tok okr mixed K_path_sat Try.func14 rfl (rs := [.tmp 6, .tmp 7]) rfl Try.ntmps14 ?_
  rintro args av objs ⟨r, z, es, u, v, hpre, rfl, rfl, rfl⟩
  refine ⟨by show 3 ≤ 42; decide, ?_⟩
  by_cases hb : isF r z es = true ∧ 0 ≤ u ∧ u < z ∧ 0 ≤ v ∧ v < z
  · have hz := isG_z (isF_g hb.1)
    have hG := isF_g hb.1
    have h1 := hb.1
    have hl := bfs_len hG ⟨hb.2.1, hb.2.2.1⟩
    rw [pw, pwO_yes hb]
    cases hw : wf (bfs r z es u) v with
    | none =>
      repeat' (first|(refine ya ?_;first|(refine yb ?_;first|refine yc ?_)|refine ye ?_)|(refine yg ?_;intro hgs;first|(replace hgs:=zgy hgs;first|(refine yb ?_;first|refine yc ?_)|refine yy hgs ?_;clear hgs)|(refine yn (zgn hgs) ?_;clear hgs)|((fail_if_success have:=zgy hgs);refine z_spl hgs (h1:=?_) (h2:=?_)<;>clear hgs<;>intro hg hr<;>try first|contradiction|exfalso;omega))|refine yz ?_|refine zst ?_|refine k_blk_other rfl ?_|(refine zk ?_ ?_<;>intro hc hr<;>try first|contradiction|exfalso;omega))
      all_goals first | (refine z_ret (hv := ?_) (ho := ?_) <;> first | rfl | (simp [go_sem, *]; done) | (simp_all; done) | (simp_all; omega)) | skip
    | some w =>
      repeat' (first|(refine ya ?_;first|(refine yb ?_;first|refine yc ?_)|refine ye ?_)|(refine yg ?_;intro hgs;first|(replace hgs:=zgy hgs;first|(refine yb ?_;first|refine yc ?_)|refine yy hgs ?_;clear hgs)|(refine yn (zgn hgs) ?_;clear hgs)|((fail_if_success have:=zgy hgs);refine z_spl hgs (h1:=?_) (h2:=?_)<;>clear hgs<;>intro hg hr<;>try first|contradiction|exfalso;omega))|refine yz ?_|refine zst ?_|refine k_blk_other rfl ?_|(refine zk ?_ ?_<;>intro hc hr<;>try first|contradiction|exfalso;omega))
      rw [hw]
      all_goals first | (refine z_ret (hv := ?_) (ho := ?_) <;> first | rfl | (simp [go_sem, *]; done) | (simp_all; done) | (simp_all; omega)) | skip
  · rw [pw, pwO_no hb]
    cases hok : isF r z es
    · repeat' (first|(refine ya ?_;first|(refine yb ?_;first|refine yc ?_)|refine ye ?_)|(refine yg ?_;intro hgs;first|(replace hgs:=zgy hgs;first|(refine yb ?_;first|refine yc ?_)|refine yy hgs ?_;clear hgs)|(refine yn (zgn hgs) ?_;clear hgs)|((fail_if_success have:=zgy hgs);refine z_spl hgs (h1:=?_) (h2:=?_)<;>clear hgs<;>intro hg hr<;>try first|contradiction|exfalso;omega))|refine yz ?_|refine zst ?_|refine k_blk_other rfl ?_|(refine zk ?_ ?_<;>intro hc hr<;>try first|contradiction|exfalso;omega))
      all_goals first | (refine z_ret (hv := ?_) (ho := ?_) <;> first | rfl | (simp [go_sem, *]; done) | (simp_all; done) | (simp_all; omega)) | skip
    · have hz := isG_z (isF_g hok)
      have hb2 : ¬ (0 ≤ u ∧ u < z) ∨ ¬ (0 ≤ v ∧ v < z) := by
        by_cases h1 : 0 ≤ u ∧ u < z
        · exact .inr fun h2 => hb ⟨hok, h1.1, h1.2, h2⟩
        · exact .inl h1
      repeat' (first|(refine ya ?_;first|(refine yb ?_;first|refine yc ?_)|refine ye ?_)|(refine yg ?_;intro hgs;first|(replace hgs:=zgy hgs;first|(refine yb ?_;first|refine yc ?_)|refine yy hgs ?_;clear hgs)|(refine yn (zgn hgs) ?_;clear hgs)|((fail_if_success have:=zgy hgs);refine z_spl hgs (h1:=?_) (h2:=?_)<;>clear hgs<;>intro hg hr<;>try first|contradiction|exfalso;omega))|refine yz ?_|refine zst ?_|refine k_blk_other rfl ?_|(refine zk ?_ ?_<;>intro hc hr<;>try first|contradiction|exfalso;omega))
      all_goals first | (refine z_ret (hv := ?_) (ho := ?_) <;> first | rfl | (simp [go_sem, *]; done) | (simp_all; done) | (simp_all; omega)) | skip
instance : Con Try.prog 14 path_sat_S := con path_sat Try.func14
def K_path_sat2 : Nat → List Nat := fun i => ([[1, 2, 3], [1, 2, 3, 28], [6, 7], [2, 8, 9], [2, 9, 40], [6, 7], [6, 7]] : List (List Nat)).getD i []
attribute [go_sem] K_path_sat2
def path_sat2_S : Eng.Spec := fun args av objs => ∃ (r z : Int) (es : List Ed) (u v : Int), (es.length ≤ 1048576) ∧ args = [grA r z es, aI u, aI v] ∧ av = .tup [aR 0, aB (pwO r z es u v).isSome] ∧ objs = [oL 3 (pw r z es u v)]
theorem path_sat2 : Sat Try.prog 15 path_sat2_S := by
  refine sat_of tok okr mixed K_path_sat2 Try.func15 rfl (rs := [.tmp 6, .tmp 7]) rfl Try.ntmps15 ?_
  rintro args av objs ⟨r, z, es, u, v, hpre, rfl, rfl, rfl⟩
  refine ⟨by show 3 ≤ 48; decide, ?_⟩
  by_cases hb : isF r z es = true ∧ 0 ≤ u ∧ u < z ∧ 0 ≤ v ∧ v < z
  · have hz := isG_z (isF_g hb.1)
    have hG := isF_g hb.1
    have h1 := hb.1
    have hl := bfs_len hG ⟨hb.2.1, hb.2.2.1⟩
    rw [pw, pwO_yes hb]
    cases hw : wf (bfs r z es u) v with
    | none =>
      have hs : sw (bfs r z es u) v = false := by rw [sw, hw]; rfl
      repeat' (first|(refine ya ?_;first|(refine yb ?_;first|refine yc ?_)|refine ye ?_)|(refine yg ?_;intro hgs;first|(replace hgs:=zgy hgs;first|(refine yb ?_;first|refine yc ?_)|refine yy hgs ?_;clear hgs)|(refine yn (zgn hgs) ?_;clear hgs)|((fail_if_success have:=zgy hgs);refine z_spl hgs (h1:=?_) (h2:=?_)<;>clear hgs<;>intro hg hr<;>try first|contradiction|exfalso;omega))|refine yz ?_|refine zst ?_|refine k_blk_other rfl ?_|(refine zk ?_ ?_<;>intro hc hr<;>try first|contradiction|exfalso;omega))
      all_goals first | (refine z_ret (hv := ?_) (ho := ?_) <;> first | rfl | (simp [go_sem, *]; done) | (simp_all; done) | (simp_all; omega)) | skip
    | some w =>
      have hs : sw (bfs r z es u) v = true := by rw [sw, hw]; rfl
      have hwl := wf_len hG (BI_bfs hG ⟨hb.2.1, hb.2.2.1⟩) hw
      repeat' (first|(refine ya ?_;first|(refine yb ?_;first|refine yc ?_)|refine ye ?_)|(refine yg ?_;intro hgs;first|(replace hgs:=zgy hgs;first|(refine yb ?_;first|refine yc ?_)|refine yy hgs ?_;clear hgs)|(refine yn (zgn hgs) ?_;clear hgs)|((fail_if_success have:=zgy hgs);refine z_spl hgs (h1:=?_) (h2:=?_)<;>clear hgs<;>intro hg hr<;>try first|contradiction|exfalso;omega))|refine yz ?_|refine zst ?_|refine k_blk_other rfl ?_|(refine zk ?_ ?_<;>intro hc hr<;>try first|contradiction|exfalso;omega))
      all_goals first | (refine z_ret (hv := ?_) (ho := ?_) <;> first | rfl | (simp [go_sem, *]; done) | (simp_all; done) | (simp_all; omega)) | skip
  · rw [pw, pwO_no hb]
    cases hok : isF r z es
    · repeat' (first|(refine ya ?_;first|(refine yb ?_;first|refine yc ?_)|refine ye ?_)|(refine yg ?_;intro hgs;first|(replace hgs:=zgy hgs;first|(refine yb ?_;first|refine yc ?_)|refine yy hgs ?_;clear hgs)|(refine yn (zgn hgs) ?_;clear hgs)|((fail_if_success have:=zgy hgs);refine z_spl hgs (h1:=?_) (h2:=?_)<;>clear hgs<;>intro hg hr<;>try first|contradiction|exfalso;omega))|refine yz ?_|refine zst ?_|refine k_blk_other rfl ?_|(refine zk ?_ ?_<;>intro hc hr<;>try first|contradiction|exfalso;omega))
      all_goals first | (refine z_ret (hv := ?_) (ho := ?_) <;> first | rfl | (simp [go_sem, *]; done) | (simp_all; done) | (simp_all; omega)) | skip
    · have hz := isG_z (isF_g hok)
      have hb2 : ¬ (0 ≤ u ∧ u < z) ∨ ¬ (0 ≤ v ∧ v < z) := by
        by_cases h1 : 0 ≤ u ∧ u < z
        · exact .inr fun h2 => hb ⟨hok, h1.1, h1.2, h2⟩
        · exact .inl h1
      repeat' (first|(refine ya ?_;first|(refine yb ?_;first|refine yc ?_)|refine ye ?_)|(refine yg ?_;intro hgs;first|(replace hgs:=zgy hgs;first|(refine yb ?_;first|refine yc ?_)|refine yy hgs ?_;clear hgs)|(refine yn (zgn hgs) ?_;clear hgs)|((fail_if_success have:=zgy hgs);refine z_spl hgs (h1:=?_) (h2:=?_)<;>clear hgs<;>intro hg hr<;>try first|contradiction|exfalso;omega))|refine yz ?_|refine zst ?_|refine k_blk_other rfl ?_|(refine zk ?_ ?_<;>intro hc hr<;>try first|contradiction|exfalso;omega))
      all_goals first | (refine z_ret (hv := ?_) (ho := ?_) <;> first | rfl | (simp [go_sem, *]; done) | (simp_all; done) | (simp_all; omega)) | skip
instance : Con Try.prog 15 path_sat2_S := con path_sat2 Try.func15
end Go.Proofs.Try
/- Plain: vertices numbered anew. -/
namespace Go.Proofs.Try
open Go Go.Eng
/-! ### A table over the vertices -/
def tabV (z : Int) (f : Int → Int) : List Int := (List.range z.toNat).map fun n : Nat => f (n : Int)
theorem tab_len (z : Int) (f : Int → Int) : (tabV z f).length = z.toNat := by simp [tabV]
theorem tab_ix {z v : Int} (f : Int → Int) (h0 : 0 ≤ v) (h1 : v < z) : ix (tabV z f) v.toNat = f v := by
  have : v.toNat < z.toNat := by omega
  simp only [ix, tabV]
  rw [List.getD_eq_getElem?_getD, List.getElem?_map, List.getElem?_range this]
  simp only [Option.map_some, Option.getD_some]
  congr 1
  omega
theorem tab_set {z v : Int} (f : Int → Int) (x : Int) (h0 : 0 ≤ v) : (tabV z f).set v.toNat x = tabV z fun u => if u = v then x else f u := by
  apply List.ext_getElem?
  intro i
  by_cases hi : i < z.toNat
  · simp only [tabV, List.getElem?_set, List.getElem?_map, List.getElem?_range hi, Option.map_some, List.length_map, List.length_range, hi]
    by_cases hv : v.toNat = i
    · have : (i : Int) = v := by omega
      simp [hv, this, hi]
    · simp [hv, show ¬ (i : Int) = v by omega]
  · have h1 : ((tabV z f).set v.toNat x).length ≤ i := by simp [tabV]; omega
    have h2 : (tabV z fun u => if u = v then x else f u).length ≤ i := by simp [tabV]; omega
    rw [List.getElem?_eq_none h1, List.getElem?_eq_none h2]
theorem tab_const (z x : Int) : tabV z (fun _ => x) = List.replicate z.toNat x := by
  apply List.ext_getElem
  · simp [tabV]
  · intro i h1 h2; simp [tabV]
/-- The place of a vertex among the first ones of an order. -/
def pos (o : List Int) : Nat → Int → Int
  | 0, _ => -1
  | i + 1, v => if v = ix o i then (i : Int) else pos o i v
theorem pos_le (o : List Int) (n : Nat) (v : Int) : -1 ≤ pos o n v ∧ pos o n v < n := by
  induction n with
  | zero => simp [pos]
  | succ n ih => unfold pos; split <;> omega
theorem pos_tab (o : List Int) (z : Int) (i : Nat) (h : 0 ≤ ix o i) : (tabV z (pos o i)).set (ix o i).toNat (i : Int) = tabV z (pos o (i + 1)) := by
  rw [tab_set _ _ h]; rfl
theorem pos_tab1 (o : List Int) (z : Int) (i : Nat) (h : 0 ≤ ix o i) : (tabV z (fun v => pos o i v + 1)).set (ix o i).toNat ((i : Int) + 1) = tabV z (fun v => pos o (i + 1) v + 1) := by
  rw [tab_set _ _ h]
  congr 1
  funext u
  conv => rhs; rw [pos]
  split <;> rfl
def renOk (o : List Int) (z : Int) : Nat → Bool
  | 0 => true
  | i + 1 => renOk o z i && decide (0 ≤ ix o i ∧ ix o i < z ∧ pos o i (ix o i) < 0)
theorem renOk_mono {o : List Int} {z : Int} {i j : Nat} (hij : i ≤ j) (h : renOk o z j = true) : renOk o z i = true := by
  induction j with
  | zero => have : i = 0 := by omega
            subst this; exact h
  | succ j ih =>
    rcases Nat.lt_or_ge i (j + 1) with h1 | h1
    · simp only [renOk, Bool.and_eq_true] at h
      exact ih (by omega) h.1
    · have : i = j + 1 := by omega
      subst this; exact h
theorem renOk_bad {o : List Int} {z : Int} {i : Nat} (hi : i < o.length) (h : ¬ (0 ≤ ix o i ∧ ix o i < z ∧ pos o i (ix o i) < 0)) : renOk o z o.length = false := by
  rw [← Bool.not_eq_true]
  intro h2
  have := renOk_mono (show i + 1 ≤ o.length from hi) h2
  simp only [renOk, Bool.and_eq_true, decide_eq_true_eq] at this
  exact h this.2
theorem renOk_at {o : List Int} {z : Int} {i : Nat} (h : renOk o z o.length = true) (hi : i < o.length) : 0 ≤ ix o i ∧ ix o i < z ∧ pos o i (ix o i) < 0 := by
  have := renOk_mono (show i + 1 ≤ o.length from hi) h
  simp only [renOk, Bool.and_eq_true, decide_eq_true_eq] at this
  exact this.2
/-- The edges between the vertices of an order, renumbered. -/
def mvE (o : List Int) (e : Ed) : Ed := (pos o o.length e.1, e.2.1, pos o o.length e.2.2)
def prtN (o : List Int) (es : List Ed) : Nat → List Ed
  | 0 => []
  | i + 1 => if 0 ≤ pos o o.length (ed es i).1 ∧ 0 ≤ pos o o.length (ed es i).2.2 then prtN o es i ++ [mvE o (ed es i)] else prtN o es i
theorem prtN_len (o : List Int) (es : List Ed) (i : Nat) : (prtN o es i).length ≤ i := by
  induction i with
  | zero => simp [prtN]
  | succ i ih => unfold prtN; split <;> first | omega | (simp; omega)
def prt (o : List Int) (g : Gr) : Gr := ⟨g.r, o.length, norm (prtN o g.es g.es.length)⟩
def renV (g : Gr) (o : List Int) : Bool := g.ok && decide (0 < o.length ∧ (o.length : Int) ≤ g.z) && renOk o g.z o.length
def ren (g : Gr) (o : List Int) : Gr := if renV g o then prt o g else g
theorem renV_iff {r z : Int} {es : List Ed} {o : List Int} : renV ⟨r, z, es⟩ o = true ↔ isG r z es = true ∧ (0 < o.length ∧ (o.length : Int) ≤ z) ∧ renOk o z o.length = true := by
  unfold renV
  rw [Bool.and_eq_true, Bool.and_eq_true, decide_eq_true_eq, and_assoc]
  rfl
theorem ren_yes {g : Gr} {o : List Int} (h : renV g o = true) : ren g o = prt o g := by simp [ren, h]
theorem ren_no {g : Gr} {o : List Int} (h : renV g o = false) : ren g o = g := by simp [ren, h]
theorem prtN_mem {o : List Int} {es : List Ed} {e : Ed} {n : Nat} (h : e ∈ prtN o es n) (hn : n ≤ es.length) : ∃ x ∈ es, 0 ≤ pos o o.length x.1 ∧ 0 ≤ pos o o.length x.2.2 ∧ e = mvE o x := by
  induction n with
  | zero => cases h
  | succ n ih =>
    unfold prtN at h
    split at h
    · rename_i hp
      rcases List.mem_append.1 h with h | h
      · exact ih h (by omega)
      · exact ⟨_, ed_mem (by omega), hp.1, hp.2, by simpa using h⟩
    · exact ih h (by omega)
theorem prt_ok {g : Gr} {o : List Int} (hg : g.ok = true) (h0 : 0 < o.length) (h1 : (o.length : Int) ≤ g.z) : (prt o g).ok = true := by
  obtain ⟨hz, _, hr⟩ := ok_iff.1 hg
  have hl := prtN_len o g.es g.es.length
  show isG g.r o.length (norm (prtN o g.es g.es.length)) = true
  refine norm_ok ⟨hz.1, hz.2.1⟩ ⟨by omega, by omega⟩ (by omega) fun e he => ?_
  obtain ⟨x, hx, hx1, hx2, rfl⟩ := prtN_mem he (Nat.le_refl _)
  have hi := hr x hx
  have p1 := pos_le o o.length x.1
  have p2 := pos_le o o.length x.2.2
  unfold inR at hi ⊢
  simp only [mvE]
  omega
theorem ren_ok {g : Gr} {o : List Int} (hg : g.ok = true) : (ren g o).ok = true := by
  unfold ren
  split
  · rename_i h
    obtain ⟨r, z, es⟩ := g
    have := renV_iff.1 h
    exact prt_ok hg this.2.1.1 this.2.1.2
  · exact hg
theorem ren_es {g : Gr} {o : List Int} {n : Nat} (h : g.es.length ≤ n) (hn : 120 ≤ n) : (ren g o).es.length ≤ n := by
  unfold ren
  split
  · have h1 := prtN_len o g.es g.es.length
    have h2 := norm_len (prtN o g.es g.es.length)
    simp only [prt]; omega
  · exact h
end Go.Proofs.Try
namespace Go.Proofs.Try
open Go Go.Eng
set_option linter.unnecessarySimpa false
set_option linter.unusedSimpArgs false
set_option maxHeartbeats 4000000

end Go.Proofs.Try
namespace Go.Proofs.Try
open Go Go.Eng
set_option linter.unnecessarySimpa false
set_option linter.unusedSimpArgs false
set_option maxHeartbeats 4000000
def sn (o : List Int) (i : Nat) (v : Int) : Bool := decide (0 ≤ pos o i v)
theorem sn_set (o : List Int) (z : Int) (i : Nat) (h : 0 ≤ ix o i) : (tabB z (sn o i)).set (ix o i).toNat true = tabB z (sn o (i + 1)) := by
  rw [tabB_set _ _ h]
  congr 1
  funext u
  unfold sn
  conv => rhs; rw [pos]
  split <;> simp_all
theorem sn_0 (o : List Int) (z : Int) : List.replicate z.toNat false = tabB z (sn o 0) := by
  rw [← tabB_const]; rfl
theorem renV_no {r z : Int} {es : List Ed} {o : List Int} (h : ¬ (isG r z es = true ∧ 0 < o.length ∧ (o.length : Int) ≤ z)) : renV ⟨r, z, es⟩ o = false := by
  rw [← Bool.not_eq_true]
  intro h2
  have := renV_iff.1 h2
  exact h ⟨this.1, this.2.1.1, this.2.1.2⟩
theorem renV_bad {r z : Int} {es : List Ed} {o : List Int} {i : Nat} (hi : i < o.length) (h : ¬ (0 ≤ ix o i ∧ ix o i < z ∧ pos o i (ix o i) < 0)) : renV ⟨r, z, es⟩ o = false := by
  have := renOk_bad hi h
  simp [renV, this]
end Go.Proofs.Try
namespace Go.Proofs.Try
open Go Go.Eng
set_option linter.unnecessarySimpa false
set_option linter.unusedSimpArgs false
set_option maxHeartbeats 4000000
def p1 (o : List Int) (i : Nat) (v : Int) : Int := pos o i v + 1
theorem p1_0 (o : List Int) (z : Int) : List.replicate z.toNat [Sc.int 0] = ints (tabV z (p1 o 0)) := by
  rw [zI_eq, ← tab_const]; rfl
theorem p1_set (o : List Int) (z : Int) (i : Nat) (h : 0 ≤ ix o i) : (tabV z (p1 o i)).set (ix o i).toNat ((i : Int) + 1) = tabV z (p1 o (i + 1)) := pos_tab1 o z i h
def prS (o : List Int) (es : List Ed) (i : Nat) : List Ed := norm (prtN o es i)
theorem prS_0 (o : List Int) (es : List Ed) : prS o es 0 = [] := rfl
theorem prS_yes {o : List Int} {es : List Ed} {i : Nat} (h : 0 ≤ pos o o.length (ed es i).1 ∧ 0 ≤ pos o o.length (ed es i).2.2) : put (prS o es i) (pos o o.length (ed es i).1, (ed es i).2.1, pos o o.length (ed es i).2.2) = prS o es (i + 1) := by
  simp only [prS, prtN]
  rw [norm_snoc, if_pos h]
  rfl
theorem prS_no {o : List Int} {es : List Ed} {i : Nat} (h : ¬ (0 ≤ pos o o.length (ed es i).1 ∧ 0 ≤ pos o o.length (ed es i).2.2)) : prS o es (i + 1) = prS o es i := by
  simp only [prS, prtN]
  rw [if_neg h]
theorem prS_len (o : List Int) (es : List Ed) (i : Nat) : (prS o es i).length ≤ i := Nat.le_trans (norm_len _) (prtN_len ..)
end Go.Proofs.Try
