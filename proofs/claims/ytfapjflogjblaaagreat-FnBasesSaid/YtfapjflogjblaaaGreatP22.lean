import Derived.Test.YtfapjflogjblaaaGreatRows
import Derived.WalkKit
import Derived.ProofKit
import Derived.OpenShut
import Derived.ShutString
import Derived.ChangeOld
import Derived.Below
import Derived.Test.YtfapjflogjblaaaGreatL22
set_option maxHeartbeats 16000000
set_option maxRecDepth 20000
set_option linter.unusedVariables false
set_option linter.unusedSimpArgs false
set_option linter.unnecessarySimpa false
/- For all arguments the law FnBases returns true and leaves its arguments as they were; no condition. -/
namespace Go.Proofs.YtfapjflogjblaaaGreat.fnBases
open Go.ChangeShapes Go.WideShapes Go.ChangeAt Go.RowKit
set_option linter.unusedVariables false

theorem own : ownKnob Tryz.prog.godebug = none := by kernel_rfl

set_option maxRecDepth 100000 in
theorem lifted (os : Os) (started : os.Started) (H : Type) (enc : TypeId × Value → H) :
    ReturnsInHanded {} Tryz.checked os 3 .any (Rows.fnBasesSpec.pre6 enc Tryz.prog Tryz.f3 Rows.fnBasesRow.domain false) (Rows.fnBasesSpec.post enc Tryz.prog Tryz.f3 false true false false) := by
  refine returnsInHanded_of_change (C := Tryz.checked) own started (by kernel_rfl) Tryz.func3
    (ChangeSpec.witness6 (enc := enc) (C := Tryz.checked) false ⟨#[], #[.slice none 0 0], []⟩ 8 (by kernel_rfl) (by kernel_rfl) (by kernel_rfl) (by kernel_rfl)) ?_
  intro W base args ds gs before hval0 hW hcnd _
  have hval : ∀ (j : Nat) t v, Tryz.f3.params[j]? = some t → args[j]? = some v → Value.okWide Tryz.prog W .any base t v := hval0
  have hW' := hW
  have hlt : ∀ x ∈ before, x.block < W.heap.size := fun x hx => hW.lt x hx
  obtain ⟨p, q, hA0, hV, rfl, hfz, hnd⟩ := hW
  have hA : DataW.TrodAll enc Tryz.prog W 0 (fun _ => true) true Tryz.f3.params.toList args.toList ds p := hA0
  obtain ⟨rfl, rfl⟩ := trodVars_none hV
  rw [Tryz.params3] at hA hval
  obtain ⟨l, hargs, hsh⟩ := Go.Eng.open_all (b0 := base) Tryz.tok (by kernel_rfl) (fun j t v h1 h2 => hval j t v (by simpa using h1) (by simpa using h2)) hA
  obtain ⟨d0, rfl⟩ : ∃ d0, ds = [d0] := by
    have hl := Go.Eng.all_len hA
    rcases ds with _ | ⟨d0, _ | ⟨_, _⟩⟩ <;> simp at hl
    exact ⟨d0, rfl⟩
  have hcall := Go.Eng.law_walk Tryz.law22 (Tryz.law22_of hsh) hargs
  rw [Array.toArray_toList] at hcall
  refine hcall.mono fun e W' ⟨he, hg⟩ => ?_
  subst he
  simp only [List.append_nil] at hW' hlt
  have hafter := Go.Eng.all_same (P := Tryz.prog) (by kernel_rfl) (by decide +kernel) hg hA (by simpa using hlt)
  have hafter2 : DataW.TrodAll enc Tryz.prog W' 0 (fun b => decide (b < W.heap.size)) true Tryz.f3.params.toList args.toList [d0] p := by rw [Tryz.params3]; exact hafter
  exact ⟨_, rfl, _, _, _, [], _, [], hW', trodAll_mk1 (shut_bool Tryz.underlying4 _), hafter2, rfl, hg.frame _, fun h => by cases h⟩

theorem over : Rows.fnBasesRow.holds Tryz.pinned (OpenSpec.ofChange Rows.fnBasesSpec) :=
  OpenClaim.holds_of_wide 3 Tryz.f3 rfl rfl rfl rfl rfl rfl rfl ⟨rfl, rfl, rfl, rfl, rfl⟩ rfl rfl rfl rfl rfl (by kernel_rfl) Tryz.func3 (by kernel_rfl)
    (of_decide_eq_true (by kernel_rfl)) (by unfold Func.isWrapper; first | (rw [if_pos (by decide +kernel)]; kernel_rfl) | (rw [if_neg (by decide +kernel)]; exact ⟨rfl, rfl⟩))
    (fun os started H enc _ => lifted os started H enc)

/-- ████ THE STATEMENT ████ -/
theorem proved : Rows.FnBasesSaid :=
  over
#print axioms proved
end Go.Proofs.YtfapjflogjblaaaGreat.fnBases
