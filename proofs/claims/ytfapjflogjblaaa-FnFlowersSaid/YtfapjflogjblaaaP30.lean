import Derived.Test.YtfapjflogjblaaaRows
import Derived.WalkKit
import Derived.ProofKit
import Derived.OpenShut
import Derived.ShutString
import Derived.ChangeOld
import Derived.Below
import Derived.Test.YtfapjflogjblaaaL30
set_option linter.unusedVariables false
set_option linter.unusedSimpArgs false
set_option linter.unnecessarySimpa false
/- For all arguments the law FnFlowers returns true and leaves its arguments as they were; no condition. -/
namespace Go.Proofs.Ytfapjflogjblaaa.fnFlowers
open Go.ChangeShapes Go.WideShapes Go.ChangeAt Go.RowKit
set_option linter.unusedVariables false

theorem own : ownKnob Try.prog.godebug = none := by kernel_rfl

set_option maxRecDepth 100000 in
theorem lifted (os : Os) (started : os.Started) (H : Type) (enc : TypeId × Value → H) :
    ReturnsInHanded {} Try.checked os 3 .any (Rows.fnFlowersSpec.pre6 enc Try.prog Try.f3 Rows.fnFlowersRow.domain false) (Rows.fnFlowersSpec.post enc Try.prog Try.f3 false true false false) := by
  refine returnsInHanded_of_change (C := Try.checked) own started (by kernel_rfl) Try.func3
    (ChangeSpec.witness6 (enc := enc) (C := Try.checked) false ⟨#[], #[.slice none 0 0], []⟩ 8 (by kernel_rfl) (by kernel_rfl) (by kernel_rfl) (by kernel_rfl)) ?_
  intro W base args ds gs before hval0 hW hcnd _
  have hval : ∀ (j : Nat) t v, Try.f3.params[j]? = some t → args[j]? = some v → Value.okWide Try.prog W .any base t v := hval0
  have hW' := hW
  have hlt : ∀ x ∈ before, x.block < W.heap.size := fun x hx => hW.lt x hx
  obtain ⟨p, q, hA0, hV, rfl, hfz, hnd⟩ := hW
  have hA : DataW.TrodAll enc Try.prog W 0 (fun _ => true) true Try.f3.params.toList args.toList ds p := hA0
  obtain ⟨rfl, rfl⟩ := trodVars_none hV
  rw [Try.params3] at hA hval
  obtain ⟨l, hargs, hsh⟩ := Go.Eng.open_all (b0 := base) Try.tok (by kernel_rfl) (fun j t v h1 h2 => hval j t v (by simpa using h1) (by simpa using h2)) hA
  obtain ⟨d0, rfl⟩ : ∃ d0, ds = [d0] := by
    have hl := Go.Eng.all_len hA
    rcases ds with _ | ⟨d0, _ | ⟨_, _⟩⟩ <;> simp at hl
    exact ⟨d0, rfl⟩
  have hcall := Go.Eng.law_walk Try.law30 (Try.law30_of hsh) hargs
  rw [Array.toArray_toList] at hcall
  refine hcall.mono fun e W' ⟨he, hg⟩ => ?_
  subst he
  simp only [List.append_nil] at hW' hlt
  have hafter := Go.Eng.all_same (P := Try.prog) (by kernel_rfl) (by decide +kernel) hg hA (by simpa using hlt)
  have hafter2 : DataW.TrodAll enc Try.prog W' 0 (fun b => decide (b < W.heap.size)) true Try.f3.params.toList args.toList [d0] p := by rw [Try.params3]; exact hafter
  exact ⟨_, rfl, _, _, _, [], _, [], hW', trodAll_mk1 (shut_bool Try.underlying4 _), hafter2, rfl, hg.frame _, fun h => by cases h⟩

theorem over : Rows.fnFlowersRow.holds Try.pinned (OpenSpec.ofChange Rows.fnFlowersSpec) :=
  OpenClaim.holds_of_wide 3 Try.f3 rfl rfl rfl rfl rfl rfl rfl ⟨rfl, rfl, rfl, rfl, rfl⟩ rfl rfl rfl rfl rfl (by kernel_rfl) Try.func3 (by kernel_rfl)
    (of_decide_eq_true (by kernel_rfl)) (by unfold Func.isWrapper; first | (rw [if_pos (by decide +kernel)]; kernel_rfl) | (rw [if_neg (by decide +kernel)]; exact ⟨rfl, rfl⟩))
    (fun os started H enc _ => lifted os started H enc)

/-- ████ THE STATEMENT ████ -/
theorem proved : Rows.FnFlowersSaid :=
  over
#print axioms proved
end Go.Proofs.Ytfapjflogjblaaa.fnFlowers
