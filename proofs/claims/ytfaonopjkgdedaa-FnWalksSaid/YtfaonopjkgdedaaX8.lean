import Derived.Test.YtfaonopjkgdedaaX5
set_option linter.unusedVariables false
set_option linter.unusedSimpArgs false
set_option linter.unnecessarySimpa false
/- The same, strict. -/
namespace Go.Proofs.Try
open Go Go.Eng
theorem cvs_weakT {s : AS} {id i2 e e' : Nat} (ho : s.obj id = some (.cvs e [.ref i2])) (ho2 : s.obj i2 = some (.zrow e' 1)) (hne : id ≠ i2) : Weak s { s with H := (id, some (.rows e e' (.loc true) [some []])) :: (i2, none) :: s.H } := by
  intro N0 W0 β a w r
  refine ⟨β, ?_⟩
  obtain ⟨pv, vs, hp, hat, hbl⟩ := r.obj id _ ho
  obtain ⟨u, rfl, vs2, hp2, hone⟩ : ∃ u, vs = [u] ∧ ∃ vs2, β i2 = some (u, vs2) ∧ u.oneCell' = true := by
    match vs, hat.2 with
    | [u], ⟨⟨vs2, h1, h2⟩, _⟩ => exact ⟨u, rfl, vs2, h1, h2⟩
  obtain ⟨pv3, vs3, hp3, hat3, hbl3⟩ := r.obj i2 _ ho2
  have hrow : w.ownsRow N0 e' 1 u ([] : List El).length (cellsOf []) ∧ Flat 1 [] ∧ ∀ b, blockOf u = some b → b < w.heap.size := by
    rw [hp2] at hp3; cases hp3
    exact ⟨hat3.1, (fun e he => by cases he), fun b hb => (hbl3 b (.inl hb)).2⟩
  have hfull : Full u := by
    rw [hp2] at hp3; cases hp3
    exact hat3.2
  obtain ⟨o2, hoo⟩ : ∃ o2, s.obj i2 = some o2 := ⟨_, ho2⟩
  let s' : AS := { s with H := (id, some (.rows e e' (.loc true) [some []])) :: (i2, none) :: s.H }
  have hobj : ∀ i, s'.obj i = if id = i then some (.rows e e' (.loc true) [some []]) else if i2 = i then none else s.obj i := fun i => rfl
  have key : ∀ i o pv vs b, s'.obj i = some o → blks o.own pv vs b → ∃ o', s.obj i = some o' ∧ blks o'.own pv vs b ∧ i ≠ i2 := by
    intro i o pv vs b hi hb
    rw [hobj] at hi
    split at hi
    · rename_i he; subst he; cases hi
      refine ⟨_, ho, ?_, hne⟩
      rcases hb with hb | ⟨hb, _⟩
      · exact .inl hb
      · cases hb
    · split at hi
      · cases hi
      · rename_i h2; exact ⟨o, hi, hb, fun h => h2 h.symm⟩
  have hheld : ∀ b, Held s' β b → Held s β b := by
    rintro b ⟨i, o, pv, vs, hi, hpi, hb⟩
    obtain ⟨o', h1, h2, _⟩ := key i o pv vs b hi hb
    exact ⟨i, o', pv, vs, h1, hpi, h2⟩
  have hF : ∀ b, blockOf u = some b → Free s' β w b := fun b hb => ⟨hrow.2.2 b hb, by
    rintro ⟨i, o, pv4, vs4, hi, hpi, hb4⟩
    obtain ⟨o', h1, h2, h3⟩ := key i o pv4 vs4 b hi hb4
    exact h3 (r.disj i i2 o' o2 pv4 vs4 u vs2 b h1 hoo hpi hp2 h2 (.inl hb))⟩
  refine r.master (s' := s') (β' := β) rfl rfl r.below (Nat.le_refl _) (fun i pv vs h => ⟨vs, h⟩) (fun i hi => ⟨r.dom i hi, ?_⟩) (fun b hlt hn => ⟨rfl, fun h => hn (hheld b h)⟩) (fun i o hi => ?_) (fun i1 i2' o1 o2' pv1 vs1 pv2 vs2' b h1 h2 p1 p2 b1 b2 => ?_)
  · rw [hobj]
    split
    · rename_i he; subst he
      have := r.hdom id hi
      rw [ho] at this; cases this
    · split
      · rfl
      · exact r.hdom i hi
  · rw [hobj] at hi
    split at hi
    · rename_i he; subst he; cases hi
      refine .inr ⟨pv, [u], hp, ⟨hat.1, ⟨⟨hrow.1, hrow.2.1, (fun _ => hfull), hF⟩, trivial⟩, ?_⟩, fun b hb => hbl b ?_⟩
      · intro i j u1 u2 g1 g2 hij
        have := (List.getElem?_eq_some_iff.1 g1).1
        have := (List.getElem?_eq_some_iff.1 g2).1
        simp at *; omega
      · rcases hb with hb | ⟨hb, _⟩
        · exact .inl hb
        · cases hb
    · split at hi
      · cases hi
      · exact .inl ⟨hi, rfl, fun _ _ _ _ _ => rfl⟩
  · obtain ⟨q1, a1, c1, _⟩ := key _ _ _ _ _ h1 b1
    obtain ⟨q2, a2, c2, _⟩ := key _ _ _ _ _ h2 b2
    exact r.disj i1 i2' q1 q2 pv1 vs1 pv2 vs2' b a1 a2 p1 p2 c1 c2
end Go.Proofs.Try
