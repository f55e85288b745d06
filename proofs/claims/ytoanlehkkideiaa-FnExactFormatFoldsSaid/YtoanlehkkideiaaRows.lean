/-
  No cell of these rows narrows 'for every input' (looked for: loops, veiled, ifaces, maps, wideKeys, modest, calm, conditions, laid).
  DERIVED. THE GIVEN ROWS OF THIS SEAT. 7 by the template 'for every input the law returns true; each argument reads behind the call as it read before'; 0 by the template 'total and deterministic' (their statements: YtoanlehkkideiaaTotals.lean).
  GIVEN WITH THE SEED: the statements are not yours to turn. If you find one false, say at which input.
  Laid BY PROGRAM, IN A SANDBOX (cutbox-rows.mjs): the forced cells as the released guide's own fill.sh prints them over the translation 42d57faae3a6cc0a… (all of the seat's roots in one cut). By AI agents, Wed Nov 11 2026. No macro, syntax, notation, axiom, sorry.
-/
import Derived.Test.YtoanlehkkideiaaChecked
import GoSem.Claim
import GoSem.ClaimJoined
import GoSem.ClaimMapViews
import Derived.JoinedTies
import Derived.KernelRfl
namespace Go.Proofs.Ytoanlehkkideiaa
/- THE CELL 'sum', in the pinned program and in every row, IS THE sha256 OF THE DUMP (.gsa) THAT YtoanlehkkideiaaProg.lean LOADS. Nothing in Lean hashes anything: it is a label: what it is worth is what the hold of that sum in a sandbox is worth. -/
noncomputable def Try.pinned : Pinned := { name := "ytoanlehkkideiaa", sum := "42d57faae3a6cc0a12aa53ecf7bff85d9ca6a40ac902620c2220b41e788a94d2", checked := Try.checked }
namespace Rows
def none {H : Type} : Left H := { results := [], args := [] }

/-- 'laws.FnExactFormatIndices': WHATEVER THE INPUT: true; the input reads as it did. -/
def fnExactFormatIndicesSpec : ChangeSpec := { name := "fnExactFormatIndices", fn := fun _ => fun
  | [d] => { results := [.lit (.bool true)], args := [d] }
  | _ => none }
def fnExactFormatIndicesRow : OpenClaim := { program := "ytoanlehkkideiaa", sum := "42d57faae3a6cc0a12aa53ecf7bff85d9ca6a40ac902620c2220b41e788a94d2", func := "loop.example/g02075/laws.FnExactFormatIndices", spec := "fnExactFormatIndices", apart := false }
def FnExactFormatIndicesSaid : Prop := fnExactFormatIndicesRow.holds Try.pinned (OpenSpec.ofChange fnExactFormatIndicesSpec)

/-- ITS FALSE NEIGHBOUR: 'it returns false'. Refute it at one input. -/
def fnExactFormatIndicesWrong : ChangeSpec := { name := "fnExactFormatIndices", fn := fun _ => fun
  | [d] => { results := [.lit (.bool false)], args := [d] }
  | _ => none }
def FnExactFormatIndicesWrongFalsely : Prop := fnExactFormatIndicesRow.holds Try.pinned (OpenSpec.ofChange fnExactFormatIndicesWrong)

/-- 'laws.FnExactTrivialSubgroup': WHATEVER THE INPUT: true; the input reads as it did. -/
def fnExactTrivialSubgroupSpec : ChangeSpec := { name := "fnExactTrivialSubgroup", fn := fun _ => fun
  | [d] => { results := [.lit (.bool true)], args := [d] }
  | _ => none }
def fnExactTrivialSubgroupRow : OpenClaim := { program := "ytoanlehkkideiaa", sum := "42d57faae3a6cc0a12aa53ecf7bff85d9ca6a40ac902620c2220b41e788a94d2", func := "loop.example/g02075/laws.FnExactTrivialSubgroup", spec := "fnExactTrivialSubgroup", apart := false }
def FnExactTrivialSubgroupSaid : Prop := fnExactTrivialSubgroupRow.holds Try.pinned (OpenSpec.ofChange fnExactTrivialSubgroupSpec)

/-- ITS FALSE NEIGHBOUR: 'it returns false'. Refute it at one input. -/
def fnExactTrivialSubgroupWrong : ChangeSpec := { name := "fnExactTrivialSubgroup", fn := fun _ => fun
  | [d] => { results := [.lit (.bool false)], args := [d] }
  | _ => none }
def FnExactTrivialSubgroupWrongFalsely : Prop := fnExactTrivialSubgroupRow.holds Try.pinned (OpenSpec.ofChange fnExactTrivialSubgroupWrong)

/-- 'laws.FnExactFormatFolds': WHATEVER THE INPUT: true; the input reads as it did. -/
def fnExactFormatFoldsSpec : ChangeSpec := { name := "fnExactFormatFolds", fn := fun _ => fun
  | [d] => { results := [.lit (.bool true)], args := [d] }
  | _ => none }
def fnExactFormatFoldsRow : OpenClaim := { program := "ytoanlehkkideiaa", sum := "42d57faae3a6cc0a12aa53ecf7bff85d9ca6a40ac902620c2220b41e788a94d2", func := "loop.example/g02075/laws.FnExactFormatFolds", spec := "fnExactFormatFolds", apart := false }
def FnExactFormatFoldsSaid : Prop := fnExactFormatFoldsRow.holds Try.pinned (OpenSpec.ofChange fnExactFormatFoldsSpec)

/-- ITS FALSE NEIGHBOUR: 'it returns false'. Refute it at one input. -/
def fnExactFormatFoldsWrong : ChangeSpec := { name := "fnExactFormatFolds", fn := fun _ => fun
  | [d] => { results := [.lit (.bool false)], args := [d] }
  | _ => none }
def FnExactFormatFoldsWrongFalsely : Prop := fnExactFormatFoldsRow.holds Try.pinned (OpenSpec.ofChange fnExactFormatFoldsWrong)

/-- 'laws.FnExactEulerNumber': WHATEVER THE INPUT: true; the input reads as it did. -/
def fnExactEulerNumberSpec : ChangeSpec := { name := "fnExactEulerNumber", fn := fun _ => fun
  | [d] => { results := [.lit (.bool true)], args := [d] }
  | _ => none }
def fnExactEulerNumberRow : OpenClaim := { program := "ytoanlehkkideiaa", sum := "42d57faae3a6cc0a12aa53ecf7bff85d9ca6a40ac902620c2220b41e788a94d2", func := "loop.example/g02075/laws.FnExactEulerNumber", spec := "fnExactEulerNumber", apart := false }
def FnExactEulerNumberSaid : Prop := fnExactEulerNumberRow.holds Try.pinned (OpenSpec.ofChange fnExactEulerNumberSpec)

/-- ITS FALSE NEIGHBOUR: 'it returns false'. Refute it at one input. -/
def fnExactEulerNumberWrong : ChangeSpec := { name := "fnExactEulerNumber", fn := fun _ => fun
  | [d] => { results := [.lit (.bool false)], args := [d] }
  | _ => none }
def FnExactEulerNumberWrongFalsely : Prop := fnExactEulerNumberRow.holds Try.pinned (OpenSpec.ofChange fnExactEulerNumberWrong)

/-- 'laws.FnExactExpandBy': WHATEVER THE INPUT: true; the input reads as it did. -/
def fnExactExpandBySpec : ChangeSpec := { name := "fnExactExpandBy", fn := fun _ => fun
  | [d1, d2] => { results := [.lit (.bool true)], args := [d1, d2] }
  | _ => none }
def fnExactExpandByRow : OpenClaim := { program := "ytoanlehkkideiaa", sum := "42d57faae3a6cc0a12aa53ecf7bff85d9ca6a40ac902620c2220b41e788a94d2", func := "loop.example/g02075/laws.FnExactExpandBy", spec := "fnExactExpandBy", apart := false }
def FnExactExpandBySaid : Prop := fnExactExpandByRow.holds Try.pinned (OpenSpec.ofChange fnExactExpandBySpec)

/-- ITS FALSE NEIGHBOUR: 'it returns false'. Refute it at one input. -/
def fnExactExpandByWrong : ChangeSpec := { name := "fnExactExpandBy", fn := fun _ => fun
  | [d1, d2] => { results := [.lit (.bool false)], args := [d1, d2] }
  | _ => none }
def FnExactExpandByWrongFalsely : Prop := fnExactExpandByRow.holds Try.pinned (OpenSpec.ofChange fnExactExpandByWrong)

/-- 'laws.FnExactWholeGroup': WHATEVER THE INPUT: true; the input reads as it did. -/
def fnExactWholeGroupSpec : ChangeSpec := { name := "fnExactWholeGroup", fn := fun _ => fun
  | [d] => { results := [.lit (.bool true)], args := [d] }
  | _ => none }
def fnExactWholeGroupRow : OpenClaim := { program := "ytoanlehkkideiaa", sum := "42d57faae3a6cc0a12aa53ecf7bff85d9ca6a40ac902620c2220b41e788a94d2", func := "loop.example/g02075/laws.FnExactWholeGroup", spec := "fnExactWholeGroup", apart := false }
def FnExactWholeGroupSaid : Prop := fnExactWholeGroupRow.holds Try.pinned (OpenSpec.ofChange fnExactWholeGroupSpec)

/-- ITS FALSE NEIGHBOUR: 'it returns false'. Refute it at one input. -/
def fnExactWholeGroupWrong : ChangeSpec := { name := "fnExactWholeGroup", fn := fun _ => fun
  | [d] => { results := [.lit (.bool false)], args := [d] }
  | _ => none }
def FnExactWholeGroupWrongFalsely : Prop := fnExactWholeGroupRow.holds Try.pinned (OpenSpec.ofChange fnExactWholeGroupWrong)

/-- 'laws.FnExactFirstFold': WHATEVER THE INPUT: true; the input reads as it did. -/
def fnExactFirstFoldSpec : ChangeSpec := { name := "fnExactFirstFold", fn := fun _ => fun
  | [d] => { results := [.lit (.bool true)], args := [d] }
  | _ => none }
def fnExactFirstFoldRow : OpenClaim := { program := "ytoanlehkkideiaa", sum := "42d57faae3a6cc0a12aa53ecf7bff85d9ca6a40ac902620c2220b41e788a94d2", func := "loop.example/g02075/laws.FnExactFirstFold", spec := "fnExactFirstFold", apart := false }
def FnExactFirstFoldSaid : Prop := fnExactFirstFoldRow.holds Try.pinned (OpenSpec.ofChange fnExactFirstFoldSpec)

/-- ITS FALSE NEIGHBOUR: 'it returns false'. Refute it at one input. -/
def fnExactFirstFoldWrong : ChangeSpec := { name := "fnExactFirstFold", fn := fun _ => fun
  | [d] => { results := [.lit (.bool false)], args := [d] }
  | _ => none }
def FnExactFirstFoldWrongFalsely : Prop := fnExactFirstFoldRow.holds Try.pinned (OpenSpec.ofChange fnExactFirstFoldWrong)

/- THE SECOND FORM. 'bulk': how many values and letters a reading holds, each counted each time it is reached (what is shared counts as often as it is met; a slice's spare places count too). A statement '..UptoSaid' is the law's where the arguments, and the package variables that the reading takes, are together of bulk at most 1048576: NARROWER than '..Said'. Prove '..Said' where nothing that the law and all that it calls make is longer than what came in: it says more and counts as full. Else prove '..UptoSaid'. A law counts once. -/
mutual
def uptoBulk {H : Type} : DataW H → Nat
  | .lit (.string bytes) => bytes.length + 1
  | .lit _ => 1
  | .nil => 1
  | .ptr d => uptoBulk d + 1
  | .slice elems spare => uptoBulkAll elems + uptoBulkAll spare + 1
  | .agg parts => uptoBulkAll parts + 1
  | .iface _ d => uptoBulk d + 1
  | .map entries => uptoBulkEntries entries + 1
  | .held _ => 1
def uptoBulkAll {H : Type} : List (DataW H) → Nat
  | [] => 0
  | d :: r => uptoBulk d + uptoBulkAll r
def uptoBulkEntries {H : Type} : List (Lit × DataW H) → Nat
  | [] => 0
  | x :: r => uptoBulkEntry x + uptoBulkEntries r
def uptoBulkEntry {H : Type} : Lit × DataW H → Nat
  | (.string bytes, d) => bytes.length + uptoBulk d + 1
  | (_, d) => uptoBulk d + 1
 end
def uptoSmall : (H : Type) → List (DataW H) → Bool := fun _ ds => decide (uptoBulkAll ds ≤ 1048576)
def OpenSpec.upto (s : _root_.Go.ChangeSpec) : _root_.Go.OpenSpec := { _root_.Go.OpenSpec.ofChange s with cond := some uptoSmall }

/-- 'laws.FnExactFormatIndices', WHERE WHAT IT READS IS OF BULK AT MOST 1048576: true; the input reads as it did. -/
def fnExactFormatIndicesUptoRow : OpenClaim := { program := "ytoanlehkkideiaa", sum := "42d57faae3a6cc0a12aa53ecf7bff85d9ca6a40ac902620c2220b41e788a94d2", func := "loop.example/g02075/laws.FnExactFormatIndices", spec := "fnExactFormatIndices", apart := false, narrowed := true }
def FnExactFormatIndicesUptoSaid : Prop := fnExactFormatIndicesUptoRow.holds Try.pinned (OpenSpec.upto fnExactFormatIndicesSpec)

/-- 'laws.FnExactTrivialSubgroup', WHERE WHAT IT READS IS OF BULK AT MOST 1048576: true; the input reads as it did. -/
def fnExactTrivialSubgroupUptoRow : OpenClaim := { program := "ytoanlehkkideiaa", sum := "42d57faae3a6cc0a12aa53ecf7bff85d9ca6a40ac902620c2220b41e788a94d2", func := "loop.example/g02075/laws.FnExactTrivialSubgroup", spec := "fnExactTrivialSubgroup", apart := false, narrowed := true }
def FnExactTrivialSubgroupUptoSaid : Prop := fnExactTrivialSubgroupUptoRow.holds Try.pinned (OpenSpec.upto fnExactTrivialSubgroupSpec)

/-- 'laws.FnExactFormatFolds', WHERE WHAT IT READS IS OF BULK AT MOST 1048576: true; the input reads as it did. -/
def fnExactFormatFoldsUptoRow : OpenClaim := { program := "ytoanlehkkideiaa", sum := "42d57faae3a6cc0a12aa53ecf7bff85d9ca6a40ac902620c2220b41e788a94d2", func := "loop.example/g02075/laws.FnExactFormatFolds", spec := "fnExactFormatFolds", apart := false, narrowed := true }
def FnExactFormatFoldsUptoSaid : Prop := fnExactFormatFoldsUptoRow.holds Try.pinned (OpenSpec.upto fnExactFormatFoldsSpec)

/-- 'laws.FnExactEulerNumber', WHERE WHAT IT READS IS OF BULK AT MOST 1048576: true; the input reads as it did. -/
def fnExactEulerNumberUptoRow : OpenClaim := { program := "ytoanlehkkideiaa", sum := "42d57faae3a6cc0a12aa53ecf7bff85d9ca6a40ac902620c2220b41e788a94d2", func := "loop.example/g02075/laws.FnExactEulerNumber", spec := "fnExactEulerNumber", apart := false, narrowed := true }
def FnExactEulerNumberUptoSaid : Prop := fnExactEulerNumberUptoRow.holds Try.pinned (OpenSpec.upto fnExactEulerNumberSpec)

/-- 'laws.FnExactExpandBy', WHERE WHAT IT READS IS OF BULK AT MOST 1048576: true; the input reads as it did. -/
def fnExactExpandByUptoRow : OpenClaim := { program := "ytoanlehkkideiaa", sum := "42d57faae3a6cc0a12aa53ecf7bff85d9ca6a40ac902620c2220b41e788a94d2", func := "loop.example/g02075/laws.FnExactExpandBy", spec := "fnExactExpandBy", apart := false, narrowed := true }
def FnExactExpandByUptoSaid : Prop := fnExactExpandByUptoRow.holds Try.pinned (OpenSpec.upto fnExactExpandBySpec)

/-- 'laws.FnExactWholeGroup', WHERE WHAT IT READS IS OF BULK AT MOST 1048576: true; the input reads as it did. -/
def fnExactWholeGroupUptoRow : OpenClaim := { program := "ytoanlehkkideiaa", sum := "42d57faae3a6cc0a12aa53ecf7bff85d9ca6a40ac902620c2220b41e788a94d2", func := "loop.example/g02075/laws.FnExactWholeGroup", spec := "fnExactWholeGroup", apart := false, narrowed := true }
def FnExactWholeGroupUptoSaid : Prop := fnExactWholeGroupUptoRow.holds Try.pinned (OpenSpec.upto fnExactWholeGroupSpec)

/-- 'laws.FnExactFirstFold', WHERE WHAT IT READS IS OF BULK AT MOST 1048576: true; the input reads as it did. -/
def fnExactFirstFoldUptoRow : OpenClaim := { program := "ytoanlehkkideiaa", sum := "42d57faae3a6cc0a12aa53ecf7bff85d9ca6a40ac902620c2220b41e788a94d2", func := "loop.example/g02075/laws.FnExactFirstFold", spec := "fnExactFirstFold", apart := false, narrowed := true }
def FnExactFirstFoldUptoSaid : Prop := fnExactFirstFoldUptoRow.holds Try.pinned (OpenSpec.upto fnExactFirstFoldSpec)

end Rows
end Go.Proofs.Ytoanlehkkideiaa
