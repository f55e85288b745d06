import Derived.Test.YtfapjflogjblaaaGreatJ2
import Derived.Test.YtfapjflogjblaaaGreatA
set_option maxHeartbeats 16000000
set_option maxRecDepth 20000
set_option linter.unusedVariables false
set_option linter.unusedSimpArgs false
set_option linter.unnecessarySimpa false
namespace Go.Proofs.Tryz
open Go Go.Eng

theorem loop_len (b : ByteArray) : ∀ (n i : Nat) (r : List UInt8), b.size - i = n → (ByteArray.toList.loop b i r).length = r.length + n := by
  intro n
  induction n with
  | zero => intro i r h; unfold ByteArray.toList.loop; rw [if_neg (by omega)]; simp
  | succ n ih =>
    intro i r h
    unfold ByteArray.toList.loop
    rw [if_pos (by omega), ih (i + 1) _ (by omega)]
    simp; omega
theorem toList_len (b : ByteArray) : b.toList.length = b.size := by
  unfold ByteArray.toList
  rw [loop_len b b.size 0 [] (by omega)]
  simp
theorem strE (l : List Int) : (strI l).toList.isEmpty = decide (l.length = 0) := by
  have := toList_len (strI l)
  rw [strI_size] at this
  cases h : (strI l).toList with
  | nil => rw [h] at this; simp at this; simp [← this]
  | cons a r => rw [h] at this; simp at this; simp [← this]
attribute [go_sem] strE
theorem joinN_0 {l : List (List Int)} (h : ∀ s ∈ l, s ≠ []) {n : Nat} (h0 : 0 < n) (hn : n ≤ l.length) : ¬ (joinN l n).length = 0 := by
  cases n with
  | zero => omega
  | succ n =>
    have h2 : sx l n ≠ [] := by
      have : sx l n = l[n] := by simp [sx, show n < l.length by omega]
      rw [this]; exact h _ (List.getElem_mem _)
    have h3 : (sx l n).length ≠ 0 := by simpa using h2
    unfold joinN
    simp only [List.length_append]
    omega
theorem glue_0 {l : List (List Int)} (h : ∀ s ∈ l, s ≠ []) : glue l = if (joinN l l.length).length = 0 then [110, 111, 110, 101] else joinN l l.length := by
  unfold glue
  by_cases h0 : l.length = 0
  · rw [if_pos h0, if_pos (by rw [h0]; rfl)]
  · rw [if_neg h0, if_neg (joinN_0 h (by omega) (Nat.le_refl _))]
theorem ix_rg {l : List Int} (h : ∀ n ∈ l, rg n) (i : Nat) : rg (ix l i) := by
  unfold ix
  by_cases hi : i < l.length
  · rw [List.getD_eq_getElem?_getD, List.getElem?_eq_getElem hi]; exact h _ (List.getElem_mem hi)
  · rw [List.getD_eq_getElem?_getD, List.getElem?_eq_none (by omega)]; simp [rg]
def fmtsN (l : List Int) (i : Nat) : List (List Int) := (l.take i).map fmtI
theorem fmtsN_succ {l : List Int} {i : Nat} (h : i < l.length) : fmtsN l (i + 1) = fmtsN l i ++ [fmtI (ix l i)] := by
  unfold fmtsN
  rw [List.take_add_one, List.map_append]; simp [ix, h]
theorem fmtsN_len {l : List Int} {i : Nat} (h : i ≤ l.length) : (fmtsN l i).length = i := by simp [fmtsN, h]
theorem fmtsN_le {l : List Int} (h : ∀ n ∈ l, rg n) (i : Nat) : ∀ s ∈ fmtsN l i, s.length ≤ 100 := by
  intro s hs
  simp only [fmtsN, List.mem_map] at hs
  obtain ⟨n, hn, rfl⟩ := hs
  have := fmtI_len (h n (List.mem_of_mem_take hn))
  omega
theorem fmtsN_ne (l : List Int) (i : Nat) : ∀ s ∈ fmtsN l i, s ≠ [] := by
  intro s hs
  simp only [fmtsN, List.mem_map] at hs
  obtain ⟨n, hn, rfl⟩ := hs
  exact fmtI_ne n
theorem sx_fmts {l : List Int} {i : Nat} (h : i < l.length) : sx (fmtsN l l.length) i = fmtI (ix l i) := by
  simp [sx, fmtsN, ix, h]
def fmtIs (l : List Int) : List Int := glue (fmtsN l l.length)
def fmtIs_S : Eng.Spec := fun args av objs => ∃ l : List Int, l.length ≤ 1048576 ∧ (∀ n ∈ l, rg n) ∧ args = [AV.one (.imm 1 (ints l))] ∧ av = AV.one (.sc (.str (strI (fmtIs l)))) ∧ objs = []
def K32 : Nat → List Nat := fun i => ([[0],[0,3],[3,7,8,9],[3,7,8,9,10],[3,5,7,8,9],[3,7,8,9],[3,7,8,9],[2]] : List (List Nat)).getD i []
theorem formatIndices_sat : Sat Tryz.prog 32 fmtIs_S := by
  refine sat_of tok okr mixed K32 Tryz.func32 rfl (rs := [.tmp 2]) rfl rfl ?_
  rintro args av objs ⟨l, hl, hr0, rfl, rfl, rfl⟩
  refine ⟨by show 1 ≤ 21; decide, ?_⟩
  repeat' (first
    | refine w_op rfl (by simp (disch := first | omega | (simp; omega)) [go_sem, Tryz.ntmps32, -Option.map_eq_some_iff]; rfl) ?_
    | refine w_end (by simp [go_sem, K32]; rfl) ?_
    | refine w_op rfl (by simp (disch := first | omega | (simp; omega)) [go_sem, Tryz.ntmps32, -Option.map_eq_some_iff, *]; rfl) ?_
    | refine zst ?_
    | refine zo ?_
    | (refine zk ?_ ?_<;>intro hc hr<;>try exact zx))
  refine a_loop (fun i : Nat => ⟨21, [(3, AV.one (.ref 3)), (7, AV.one (.imm 1 (ints l))), (8, AV.one (.sc (.int l.length))), (9, AV.one (.sc (.int i)))], [(3, some (.flat 9 1 (strs (fmtsN l i))))], [3]⟩) (fun i => i ≤ l.length) (fun i => l.length - i) 0 (by omega) ?_ ?_
  · exact weak_of [(3, .obj 48)] rfl (by decide) (by simp [go_sem, AVm, CVm, lookS, fmtsN, strs]) (by simp [go_sem, OBm, CVm, lookS, All2, fmtsN, strs]) rfl
  intro i hi
  have hfl := fmtsN_len hi
  repeat' (first
    | refine w_op rfl (by simp (disch := first | omega | (simp; omega)) [go_sem, hfl, c32, cNone, Tryz.ntmps32, -Option.map_eq_some_iff]; rfl) ?_
    | refine w_end (by simp [go_sem, K32]; rfl) ?_
    | refine w_fn formatInt_sat rfl Tryz.func84 rfl rfl (by first | rfl | (simpa [go_sem, *] using trivial)) rfl rfl (by simp [go_sem]; exact ⟨rfl, rfl⟩) (by exact ⟨_, ix_rg hr0 i, rfl, rfl, rfl⟩) (by rfl) (by rfl) (by rfl) (by simp [go_sem]; rfl) ?_
    | refine l_fn formatInt_sat rfl Tryz.func84 rfl rfl (by first | rfl | (simpa [go_sem, *] using trivial)) rfl rfl (by simp [go_sem]; exact ⟨rfl, rfl⟩) (by exact ⟨_, ix_rg hr0 i, rfl, rfl, rfl⟩) (by rfl) (by rfl) (by rfl) (by simp [go_sem]; rfl) ?_
    | refine w_fn glued_sat rfl Tryz.func85 rfl rfl (by first | rfl | (simpa [go_sem, *] using trivial)) rfl rfl (by simp [go_sem]; exact ⟨rfl, rfl⟩) (by exact ⟨fmtsN l i, by omega, fmtsN_le hr0 i, rfl, rfl, rfl⟩) (by rfl) (by rfl) (by rfl) (by simp [go_sem]; rfl) ?_
    | refine l_fn glued_sat rfl Tryz.func85 rfl rfl (by first | rfl | (simpa [go_sem, *] using trivial)) rfl rfl (by simp [go_sem]; exact ⟨rfl, rfl⟩) (by exact ⟨fmtsN l i, by omega, fmtsN_le hr0 i, rfl, rfl, rfl⟩) (by rfl) (by rfl) (by rfl) (by simp [go_sem]; rfl) ?_
    | refine w_op rfl (by simp (disch := first | omega | (simp; omega)) [go_sem, hfl, c32, cNone, Tryz.ntmps32, -Option.map_eq_some_iff, *]; rfl) ?_
    | refine zst ?_
    | refine zo ?_
    | (refine zk ?_ ?_<;>intro hc hr<;>try exact zx))
  · (refine k_lop (i + 1) ?_ ?_ (weak_of [(3, .obj 136)] rfl (by decide) ?_ ?_ rfl); (· exact (by omega)); (· first | omega | (simp only; omega)); (· first | (simp [go_sem, AVm, CVm, lookS, fmtsN_succ hc, *]; done) | (simp [go_sem, AVm, CVm, lookS, fmtsN_succ hc, *] <;> (repeat' split) <;> first | omega | (simp_all; done) | (exfalso; omega) | (simp_all; omega))); (· first | (simp [go_sem, OBm, CVm, All2, lookS, fmtsN_succ hc, *]; done) | (simp [go_sem, OBm, CVm, All2, lookS, fmtsN_succ hc, *] <;> (repeat' split) <;> first | omega | (simp_all; done) | (exfalso; omega) | (simp_all; omega))))
  · have : i = l.length := by omega
    subst this
    refine k_ret (by simp [go_sem]; first | exact ⟨rfl, rfl⟩ | rfl) ?_ rfl
    rfl
def K33 : Nat → List Nat := fun i => ([[0],[0,3],[0,3,4],[0,3,4,8],[0,3,4],[0,3,4,12],[0,3,4],[0,3,4],[3,23],[2],[2]] : List (List Nat)).getD i []
theorem formatIndices_sat2 : Sat Tryz.prog 33 fmtIs_S := by
  refine sat_of tok okr mixed K33 Tryz.func33 rfl (rs := [.tmp 2]) rfl rfl ?_
  rintro args av objs ⟨l, hl, hr0, rfl, rfl, rfl⟩
  refine ⟨by show 1 ≤ 25; decide, ?_⟩
  repeat' (first
    | refine w_op rfl (by simp (disch := first | omega | (simp; omega)) [go_sem, Tryz.ntmps33, -Option.map_eq_some_iff]; rfl) ?_
    | refine w_end (by simp [go_sem, K33]; rfl) ?_
    | refine w_op rfl (by simp (disch := first | omega | (simp; omega)) [go_sem, Tryz.ntmps33, -Option.map_eq_some_iff, *]; rfl) ?_
    | refine zst ?_
    | refine zo ?_
    | (refine zk ?_ ?_<;>intro hc hr<;>try exact zx))
  refine a_loop (fun i : Nat => ⟨25, [(0, AV.one (.imm 1 (ints l))), (3, AV.one (.sc (.str (strI (joinN (fmtsN l l.length) i))))), (4, AV.one (.sc (.int i)))], [], []⟩) (fun i => i ≤ l.length) (fun i => l.length - i) 0 (by omega) ?_ ?_
  · exact weak_of [] rfl (by decide) (by simp [go_sem, AVm, CVm, lookS, joinN, strI]) (by simp [go_sem, OBm, CVm, lookS, All2, joinN, strI]) rfl
  intro i hi
  have hfl := fmtsN_len (Nat.le_refl l.length)
  have hjl := joinN_len (fmtsN l l.length) 100 (fmtsN_le hr0 _) i (by omega)
  have hfx := fmtI_len (ix_rg hr0 i)
  repeat' (first
    | refine w_op rfl (by simp (disch := first | omega | (simp; omega)) [go_sem, c32, cNone, Tryz.ntmps33, -Option.map_eq_some_iff]; rfl) ?_
    | refine w_end (by simp [go_sem, K33]; rfl) ?_
    | refine w_fn formatInt_sat2 rfl Tryz.func86 rfl rfl (by first | rfl | (simpa [go_sem, *] using trivial)) rfl rfl (by simp [go_sem]; exact ⟨rfl, rfl⟩) (by exact ⟨_, ix_rg hr0 i, rfl, rfl, rfl⟩) (by rfl) (by rfl) (by rfl) (by simp [go_sem]; rfl) ?_
    | refine l_fn formatInt_sat2 rfl Tryz.func86 rfl rfl (by first | rfl | (simpa [go_sem, *] using trivial)) rfl rfl (by simp [go_sem]; exact ⟨rfl, rfl⟩) (by exact ⟨_, ix_rg hr0 i, rfl, rfl, rfl⟩) (by rfl) (by rfl) (by rfl) (by simp [go_sem]; rfl) ?_
    | refine w_op rfl (by simp (disch := first | omega | (simp; omega)) [go_sem, c32, cNone, Tryz.ntmps33, -Option.map_eq_some_iff, *]; rfl) ?_
    | refine zst ?_
    | refine zo ?_
    | (refine zk ?_ ?_<;>intro hc hr<;>try exact zx))
  · have : i ≠ 0 := by omega
    (refine k_lop (i + 1) ?_ ?_ (weak_of [] rfl (by decide) ?_ ?_ rfl); (· exact (by omega)); (· first | omega | (simp only; omega)); (· first | (simp [go_sem, AVm, CVm, lookS, joinN, sx_fmts, strI_app, *]; done) | (simp [go_sem, AVm, CVm, lookS, joinN, sx_fmts, strI_app, *] <;> (repeat' split) <;> first | omega | (simp_all; done) | (exfalso; omega) | (simp_all; omega))); (· first | (simp [go_sem, OBm, CVm, All2, lookS, joinN, sx_fmts, strI_app, *]; done) | (simp [go_sem, OBm, CVm, All2, lookS, joinN, sx_fmts, strI_app, *] <;> (repeat' split) <;> first | omega | (simp_all; done) | (exfalso; omega) | (simp_all; omega))))
  · have : i = 0 := by omega
    subst this
    (refine k_lop (1) ?_ ?_ (weak_of [] rfl (by decide) ?_ ?_ rfl); (· exact (by omega)); (· first | omega | (simp only; omega)); (· first | (simp [go_sem, AVm, CVm, lookS, joinN, sx_fmts, strI_app, *]; done) | (simp [go_sem, AVm, CVm, lookS, joinN, sx_fmts, strI_app, *] <;> (repeat' split) <;> first | omega | (simp_all; done) | (exfalso; omega) | (simp_all; omega))); (· first | (simp [go_sem, OBm, CVm, All2, lookS, joinN, sx_fmts, strI_app, *]; done) | (simp [go_sem, OBm, CVm, All2, lookS, joinN, sx_fmts, strI_app, *] <;> (repeat' split) <;> first | omega | (simp_all; done) | (exfalso; omega) | (simp_all; omega))))
  all_goals
    have hii : i = l.length := by omega
    subst hii
    have hg := glue_0 (fmtsN_ne l l.length)
    rw [hfl] at hg
    rw [show fmtIs l = glue (fmtsN l l.length) from rfl, hg]
    refine k_ret (by simp [go_sem]; first | exact ⟨rfl, rfl⟩ | rfl) ?_ rfl
    simp_all
end Go.Proofs.Tryz
