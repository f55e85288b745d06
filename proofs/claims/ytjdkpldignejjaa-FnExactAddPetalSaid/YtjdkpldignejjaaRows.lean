/-
  No cell of these rows narrows 'for every input' (looked for: loops, veiled, ifaces, maps, wideKeys, modest, calm, conditions, laid).
  DERIVED. THE GIVEN ROWS OF THIS SEAT. 12 by the template 'for every input the law returns true; each argument reads behind the call as it read before'; 0 by the template 'total and deterministic' (their statements: YtjdkpldignejjaaTotals.lean).
  GIVEN WITH THE SEED: the statements are not yours to turn. If you find one false, say at which input.
  Laid BY PROGRAM, IN A SANDBOX (cutbox-rows.mjs): the forced cells as the released guide's own fill.sh prints them over the translation 6f0daaf428ec9794… (all of the seat's roots in one cut). By AI agents, Wed Nov 11 2026. No macro, syntax, notation, axiom, sorry.
-/
import Derived.Test.YtjdkpldignejjaaChecked
import GoSem.Claim
import GoSem.ClaimJoined
import GoSem.ClaimMapViews
import Derived.JoinedTies
import Derived.KernelRfl
namespace Go.Proofs.Ytjdkpldignejjaa
/- THE CELL 'sum', in the pinned program and in every row, IS THE sha256 OF THE DUMP (.gsa) THAT YtjdkpldignejjaaProg.lean LOADS. Nothing in Lean hashes anything: it is a label: what it is worth is what the hold of that sum in a sandbox is worth. -/
noncomputable def Try.pinned : Pinned := { name := "ytjdkpldignejjaa", sum := "6f0daaf428ec97948e1cdc18682e80e9634b6ffa7f3db783c78e5464387cc4fd", checked := Try.checked }
namespace Rows
def none {H : Type} : Left H := { results := [], args := [] }

/-- 'laws.FnExactIsTree': WHATEVER THE INPUT: true; the input reads as it did. -/
def fnExactIsTreeSpec : ChangeSpec := { name := "fnExactIsTree", fn := fun _ => fun
  | [d] => { results := [.lit (.bool true)], args := [d] }
  | _ => none }
def fnExactIsTreeRow : OpenClaim := { program := "ytjdkpldignejjaa", sum := "6f0daaf428ec97948e1cdc18682e80e9634b6ffa7f3db783c78e5464387cc4fd", func := "loop.example/g02075/laws.FnExactIsTree", spec := "fnExactIsTree", apart := false }
def FnExactIsTreeSaid : Prop := fnExactIsTreeRow.holds Try.pinned (OpenSpec.ofChange fnExactIsTreeSpec)

/-- ITS FALSE NEIGHBOUR: 'it returns false'. Refute it at one input. -/
def fnExactIsTreeWrong : ChangeSpec := { name := "fnExactIsTree", fn := fun _ => fun
  | [d] => { results := [.lit (.bool false)], args := [d] }
  | _ => none }
def FnExactIsTreeWrongFalsely : Prop := fnExactIsTreeRow.holds Try.pinned (OpenSpec.ofChange fnExactIsTreeWrong)

/-- 'laws.FnExactMergeVertices': WHATEVER THE INPUT: true; the input reads as it did. -/
def fnExactMergeVerticesSpec : ChangeSpec := { name := "fnExactMergeVertices", fn := fun _ => fun
  | [d1, d2] => { results := [.lit (.bool true)], args := [d1, d2] }
  | _ => none }
def fnExactMergeVerticesRow : OpenClaim := { program := "ytjdkpldignejjaa", sum := "6f0daaf428ec97948e1cdc18682e80e9634b6ffa7f3db783c78e5464387cc4fd", func := "loop.example/g02075/laws.FnExactMergeVertices", spec := "fnExactMergeVertices", unfollowed := true, recurses := true, apart := false }
def FnExactMergeVerticesSaid : Prop := fnExactMergeVerticesRow.holds Try.pinned (OpenSpec.ofChange fnExactMergeVerticesSpec)

/-- ITS FALSE NEIGHBOUR: 'it returns false'. Refute it at one input. -/
def fnExactMergeVerticesWrong : ChangeSpec := { name := "fnExactMergeVertices", fn := fun _ => fun
  | [d1, d2] => { results := [.lit (.bool false)], args := [d1, d2] }
  | _ => none }
def FnExactMergeVerticesWrongFalsely : Prop := fnExactMergeVerticesRow.holds Try.pinned (OpenSpec.ofChange fnExactMergeVerticesWrong)

/-- 'laws.FnExactRenumberGraph': WHATEVER THE INPUT: true; the input reads as it did. -/
def fnExactRenumberGraphSpec : ChangeSpec := { name := "fnExactRenumberGraph", fn := fun _ => fun
  | [d1, d2] => { results := [.lit (.bool true)], args := [d1, d2] }
  | _ => none }
def fnExactRenumberGraphRow : OpenClaim := { program := "ytjdkpldignejjaa", sum := "6f0daaf428ec97948e1cdc18682e80e9634b6ffa7f3db783c78e5464387cc4fd", func := "loop.example/g02075/laws.FnExactRenumberGraph", spec := "fnExactRenumberGraph", unfollowed := true, recurses := true, apart := false }
def FnExactRenumberGraphSaid : Prop := fnExactRenumberGraphRow.holds Try.pinned (OpenSpec.ofChange fnExactRenumberGraphSpec)

/-- ITS FALSE NEIGHBOUR: 'it returns false'. Refute it at one input. -/
def fnExactRenumberGraphWrong : ChangeSpec := { name := "fnExactRenumberGraph", fn := fun _ => fun
  | [d1, d2] => { results := [.lit (.bool false)], args := [d1, d2] }
  | _ => none }
def FnExactRenumberGraphWrongFalsely : Prop := fnExactRenumberGraphRow.holds Try.pinned (OpenSpec.ofChange fnExactRenumberGraphWrong)

/-- 'laws.FnExactAddPath': WHATEVER THE INPUT: true; the input reads as it did. -/
def fnExactAddPathSpec : ChangeSpec := { name := "fnExactAddPath", fn := fun _ => fun
  | [d1, d2, d3, d4] => { results := [.lit (.bool true)], args := [d1, d2, d3, d4] }
  | _ => none }
def fnExactAddPathRow : OpenClaim := { program := "ytjdkpldignejjaa", sum := "6f0daaf428ec97948e1cdc18682e80e9634b6ffa7f3db783c78e5464387cc4fd", func := "loop.example/g02075/laws.FnExactAddPath", spec := "fnExactAddPath", unfollowed := true, recurses := true, apart := false }
def FnExactAddPathSaid : Prop := fnExactAddPathRow.holds Try.pinned (OpenSpec.ofChange fnExactAddPathSpec)

/-- ITS FALSE NEIGHBOUR: 'it returns false'. Refute it at one input. -/
def fnExactAddPathWrong : ChangeSpec := { name := "fnExactAddPath", fn := fun _ => fun
  | [d1, d2, d3, d4] => { results := [.lit (.bool false)], args := [d1, d2, d3, d4] }
  | _ => none }
def FnExactAddPathWrongFalsely : Prop := fnExactAddPathRow.holds Try.pinned (OpenSpec.ofChange fnExactAddPathWrong)

/-- 'laws.FnExactMissingSteps': WHATEVER THE INPUT: true; the input reads as it did. -/
def fnExactMissingStepsSpec : ChangeSpec := { name := "fnExactMissingSteps", fn := fun _ => fun
  | [d] => { results := [.lit (.bool true)], args := [d] }
  | _ => none }
def fnExactMissingStepsRow : OpenClaim := { program := "ytjdkpldignejjaa", sum := "6f0daaf428ec97948e1cdc18682e80e9634b6ffa7f3db783c78e5464387cc4fd", func := "loop.example/g02075/laws.FnExactMissingSteps", spec := "fnExactMissingSteps", recurses := true, apart := false }
def FnExactMissingStepsSaid : Prop := fnExactMissingStepsRow.holds Try.pinned (OpenSpec.ofChange fnExactMissingStepsSpec)

/-- ITS FALSE NEIGHBOUR: 'it returns false'. Refute it at one input. -/
def fnExactMissingStepsWrong : ChangeSpec := { name := "fnExactMissingSteps", fn := fun _ => fun
  | [d] => { results := [.lit (.bool false)], args := [d] }
  | _ => none }
def FnExactMissingStepsWrongFalsely : Prop := fnExactMissingStepsRow.holds Try.pinned (OpenSpec.ofChange fnExactMissingStepsWrong)

/-- 'laws.FnExactAddPetal': WHATEVER THE INPUT: true; the input reads as it did. -/
def fnExactAddPetalSpec : ChangeSpec := { name := "fnExactAddPetal", fn := fun _ => fun
  | [d1, d2] => { results := [.lit (.bool true)], args := [d1, d2] }
  | _ => none }
def fnExactAddPetalRow : OpenClaim := { program := "ytjdkpldignejjaa", sum := "6f0daaf428ec97948e1cdc18682e80e9634b6ffa7f3db783c78e5464387cc4fd", func := "loop.example/g02075/laws.FnExactAddPetal", spec := "fnExactAddPetal", unfollowed := true, recurses := true, apart := false }
def FnExactAddPetalSaid : Prop := fnExactAddPetalRow.holds Try.pinned (OpenSpec.ofChange fnExactAddPetalSpec)

/-- ITS FALSE NEIGHBOUR: 'it returns false'. Refute it at one input. -/
def fnExactAddPetalWrong : ChangeSpec := { name := "fnExactAddPetal", fn := fun _ => fun
  | [d1, d2] => { results := [.lit (.bool false)], args := [d1, d2] }
  | _ => none }
def FnExactAddPetalWrongFalsely : Prop := fnExactAddPetalRow.holds Try.pinned (OpenSpec.ofChange fnExactAddPetalWrong)

/-- 'laws.FnExactFoldOnce': WHATEVER THE INPUT: true; the input reads as it did. -/
def fnExactFoldOnceSpec : ChangeSpec := { name := "fnExactFoldOnce", fn := fun _ => fun
  | [d] => { results := [.lit (.bool true)], args := [d] }
  | _ => none }
def fnExactFoldOnceRow : OpenClaim := { program := "ytjdkpldignejjaa", sum := "6f0daaf428ec97948e1cdc18682e80e9634b6ffa7f3db783c78e5464387cc4fd", func := "loop.example/g02075/laws.FnExactFoldOnce", spec := "fnExactFoldOnce", unfollowed := true, recurses := true, apart := false }
def FnExactFoldOnceSaid : Prop := fnExactFoldOnceRow.holds Try.pinned (OpenSpec.ofChange fnExactFoldOnceSpec)

/-- ITS FALSE NEIGHBOUR: 'it returns false'. Refute it at one input. -/
def fnExactFoldOnceWrong : ChangeSpec := { name := "fnExactFoldOnce", fn := fun _ => fun
  | [d] => { results := [.lit (.bool false)], args := [d] }
  | _ => none }
def FnExactFoldOnceWrongFalsely : Prop := fnExactFoldOnceRow.holds Try.pinned (OpenSpec.ofChange fnExactFoldOnceWrong)

/-- 'laws.FnExactCanonicalOrder': WHATEVER THE INPUT: true; the input reads as it did. -/
def fnExactCanonicalOrderSpec : ChangeSpec := { name := "fnExactCanonicalOrder", fn := fun _ => fun
  | [d] => { results := [.lit (.bool true)], args := [d] }
  | _ => none }
def fnExactCanonicalOrderRow : OpenClaim := { program := "ytjdkpldignejjaa", sum := "6f0daaf428ec97948e1cdc18682e80e9634b6ffa7f3db783c78e5464387cc4fd", func := "loop.example/g02075/laws.FnExactCanonicalOrder", spec := "fnExactCanonicalOrder", recurses := true, apart := false }
def FnExactCanonicalOrderSaid : Prop := fnExactCanonicalOrderRow.holds Try.pinned (OpenSpec.ofChange fnExactCanonicalOrderSpec)

/-- ITS FALSE NEIGHBOUR: 'it returns false'. Refute it at one input. -/
def fnExactCanonicalOrderWrong : ChangeSpec := { name := "fnExactCanonicalOrder", fn := fun _ => fun
  | [d] => { results := [.lit (.bool false)], args := [d] }
  | _ => none }
def FnExactCanonicalOrderWrongFalsely : Prop := fnExactCanonicalOrderRow.holds Try.pinned (OpenSpec.ofChange fnExactCanonicalOrderWrong)

/-- 'laws.FnExactTreeWord': WHATEVER THE INPUT: true; the input reads as it did. -/
def fnExactTreeWordSpec : ChangeSpec := { name := "fnExactTreeWord", fn := fun _ => fun
  | [d1, d2] => { results := [.lit (.bool true)], args := [d1, d2] }
  | _ => none }
def fnExactTreeWordRow : OpenClaim := { program := "ytjdkpldignejjaa", sum := "6f0daaf428ec97948e1cdc18682e80e9634b6ffa7f3db783c78e5464387cc4fd", func := "loop.example/g02075/laws.FnExactTreeWord", spec := "fnExactTreeWord", recurses := true, apart := false }
def FnExactTreeWordSaid : Prop := fnExactTreeWordRow.holds Try.pinned (OpenSpec.ofChange fnExactTreeWordSpec)

/-- ITS FALSE NEIGHBOUR: 'it returns false'. Refute it at one input. -/
def fnExactTreeWordWrong : ChangeSpec := { name := "fnExactTreeWord", fn := fun _ => fun
  | [d1, d2] => { results := [.lit (.bool false)], args := [d1, d2] }
  | _ => none }
def FnExactTreeWordWrongFalsely : Prop := fnExactTreeWordRow.holds Try.pinned (OpenSpec.ofChange fnExactTreeWordWrong)

/-- 'laws.FnExactReplayFolds': WHATEVER THE INPUT: true; the input reads as it did. -/
def fnExactReplayFoldsSpec : ChangeSpec := { name := "fnExactReplayFolds", fn := fun _ => fun
  | [d1, d2] => { results := [.lit (.bool true)], args := [d1, d2] }
  | _ => none }
def fnExactReplayFoldsRow : OpenClaim := { program := "ytjdkpldignejjaa", sum := "6f0daaf428ec97948e1cdc18682e80e9634b6ffa7f3db783c78e5464387cc4fd", func := "loop.example/g02075/laws.FnExactReplayFolds", spec := "fnExactReplayFolds", unfollowed := true, recurses := true, apart := false }
def FnExactReplayFoldsSaid : Prop := fnExactReplayFoldsRow.holds Try.pinned (OpenSpec.ofChange fnExactReplayFoldsSpec)

/-- ITS FALSE NEIGHBOUR: 'it returns false'. Refute it at one input. -/
def fnExactReplayFoldsWrong : ChangeSpec := { name := "fnExactReplayFolds", fn := fun _ => fun
  | [d1, d2] => { results := [.lit (.bool false)], args := [d1, d2] }
  | _ => none }
def FnExactReplayFoldsWrongFalsely : Prop := fnExactReplayFoldsRow.holds Try.pinned (OpenSpec.ofChange fnExactReplayFoldsWrong)

/-- 'laws.FnExactFlowerOf': WHATEVER THE INPUT: true; the input reads as it did. -/
def fnExactFlowerOfSpec : ChangeSpec := { name := "fnExactFlowerOf", fn := fun _ => fun
  | [d1, d2] => { results := [.lit (.bool true)], args := [d1, d2] }
  | _ => none }
def fnExactFlowerOfRow : OpenClaim := { program := "ytjdkpldignejjaa", sum := "6f0daaf428ec97948e1cdc18682e80e9634b6ffa7f3db783c78e5464387cc4fd", func := "loop.example/g02075/laws.FnExactFlowerOf", spec := "fnExactFlowerOf", unfollowed := true, recurses := true, apart := false }
def FnExactFlowerOfSaid : Prop := fnExactFlowerOfRow.holds Try.pinned (OpenSpec.ofChange fnExactFlowerOfSpec)

/-- ITS FALSE NEIGHBOUR: 'it returns false'. Refute it at one input. -/
def fnExactFlowerOfWrong : ChangeSpec := { name := "fnExactFlowerOf", fn := fun _ => fun
  | [d1, d2] => { results := [.lit (.bool false)], args := [d1, d2] }
  | _ => none }
def FnExactFlowerOfWrongFalsely : Prop := fnExactFlowerOfRow.holds Try.pinned (OpenSpec.ofChange fnExactFlowerOfWrong)

/-- 'laws.FnExactFoldInOrder': WHATEVER THE INPUT: true; the input reads as it did. -/
def fnExactFoldInOrderSpec : ChangeSpec := { name := "fnExactFoldInOrder", fn := fun _ => fun
  | [d1, d2] => { results := [.lit (.bool true)], args := [d1, d2] }
  | _ => none }
def fnExactFoldInOrderRow : OpenClaim := { program := "ytjdkpldignejjaa", sum := "6f0daaf428ec97948e1cdc18682e80e9634b6ffa7f3db783c78e5464387cc4fd", func := "loop.example/g02075/laws.FnExactFoldInOrder", spec := "fnExactFoldInOrder", unfollowed := true, recurses := true, apart := false }
def FnExactFoldInOrderSaid : Prop := fnExactFoldInOrderRow.holds Try.pinned (OpenSpec.ofChange fnExactFoldInOrderSpec)

/-- ITS FALSE NEIGHBOUR: 'it returns false'. Refute it at one input. -/
def fnExactFoldInOrderWrong : ChangeSpec := { name := "fnExactFoldInOrder", fn := fun _ => fun
  | [d1, d2] => { results := [.lit (.bool false)], args := [d1, d2] }
  | _ => none }
def FnExactFoldInOrderWrongFalsely : Prop := fnExactFoldInOrderRow.holds Try.pinned (OpenSpec.ofChange fnExactFoldInOrderWrong)

/- THE SECOND FORM. 'bulk': how many values and letters a reading holds, each counted each time it is reached (what is shared counts as often as it is met; a slice's spare places count too). A statement '..UptoSaid' is the law's where the arguments, and the package variables that the reading takes, are together of bulk at most 1048576: NARROWER than '..Said'. Prove '..Said' where nothing that the law and all that it calls make is longer than what came in: it says more and counts as full. Else prove '..UptoSaid'. A law counts once. -/
mutual
def uptoBulk {H : Type} : DataW H → Nat
  | .lit (.string bytes) => bytes.length + 1
  | .lit _ => 1
  | .nil => 1
  | .ptr d => uptoBulk d + 1
  | .slice elems spare => uptoBulkAll elems + uptoBulkAll spare + 1
  | .agg parts => uptoBulkAll parts + 1
  | .iface _ d => uptoBulk d + 1
  | .map entries => uptoBulkEntries entries + 1
  | .held _ => 1
def uptoBulkAll {H : Type} : List (DataW H) → Nat
  | [] => 0
  | d :: r => uptoBulk d + uptoBulkAll r
def uptoBulkEntries {H : Type} : List (Lit × DataW H) → Nat
  | [] => 0
  | x :: r => uptoBulkEntry x + uptoBulkEntries r
def uptoBulkEntry {H : Type} : Lit × DataW H → Nat
  | (.string bytes, d) => bytes.length + uptoBulk d + 1
  | (_, d) => uptoBulk d + 1
 end
def uptoSmall : (H : Type) → List (DataW H) → Bool := fun _ ds => decide (uptoBulkAll ds ≤ 1048576)
def OpenSpec.upto (s : _root_.Go.ChangeSpec) : _root_.Go.OpenSpec := { _root_.Go.OpenSpec.ofChange s with cond := some uptoSmall }

/-- 'laws.FnExactIsTree', WHERE WHAT IT READS IS OF BULK AT MOST 1048576: true; the input reads as it did. -/
def fnExactIsTreeUptoRow : OpenClaim := { program := "ytjdkpldignejjaa", sum := "6f0daaf428ec97948e1cdc18682e80e9634b6ffa7f3db783c78e5464387cc4fd", func := "loop.example/g02075/laws.FnExactIsTree", spec := "fnExactIsTree", apart := false, narrowed := true }
def FnExactIsTreeUptoSaid : Prop := fnExactIsTreeUptoRow.holds Try.pinned (OpenSpec.upto fnExactIsTreeSpec)

/-- 'laws.FnExactMergeVertices', WHERE WHAT IT READS IS OF BULK AT MOST 1048576: true; the input reads as it did. -/
def fnExactMergeVerticesUptoRow : OpenClaim := { program := "ytjdkpldignejjaa", sum := "6f0daaf428ec97948e1cdc18682e80e9634b6ffa7f3db783c78e5464387cc4fd", func := "loop.example/g02075/laws.FnExactMergeVertices", spec := "fnExactMergeVertices", unfollowed := true, recurses := true, apart := false, narrowed := true }
def FnExactMergeVerticesUptoSaid : Prop := fnExactMergeVerticesUptoRow.holds Try.pinned (OpenSpec.upto fnExactMergeVerticesSpec)

/-- 'laws.FnExactRenumberGraph', WHERE WHAT IT READS IS OF BULK AT MOST 1048576: true; the input reads as it did. -/
def fnExactRenumberGraphUptoRow : OpenClaim := { program := "ytjdkpldignejjaa", sum := "6f0daaf428ec97948e1cdc18682e80e9634b6ffa7f3db783c78e5464387cc4fd", func := "loop.example/g02075/laws.FnExactRenumberGraph", spec := "fnExactRenumberGraph", unfollowed := true, recurses := true, apart := false, narrowed := true }
def FnExactRenumberGraphUptoSaid : Prop := fnExactRenumberGraphUptoRow.holds Try.pinned (OpenSpec.upto fnExactRenumberGraphSpec)

/-- 'laws.FnExactAddPath', WHERE WHAT IT READS IS OF BULK AT MOST 1048576: true; the input reads as it did. -/
def fnExactAddPathUptoRow : OpenClaim := { program := "ytjdkpldignejjaa", sum := "6f0daaf428ec97948e1cdc18682e80e9634b6ffa7f3db783c78e5464387cc4fd", func := "loop.example/g02075/laws.FnExactAddPath", spec := "fnExactAddPath", unfollowed := true, recurses := true, apart := false, narrowed := true }
def FnExactAddPathUptoSaid : Prop := fnExactAddPathUptoRow.holds Try.pinned (OpenSpec.upto fnExactAddPathSpec)

/-- 'laws.FnExactMissingSteps', WHERE WHAT IT READS IS OF BULK AT MOST 1048576: true; the input reads as it did. -/
def fnExactMissingStepsUptoRow : OpenClaim := { program := "ytjdkpldignejjaa", sum := "6f0daaf428ec97948e1cdc18682e80e9634b6ffa7f3db783c78e5464387cc4fd", func := "loop.example/g02075/laws.FnExactMissingSteps", spec := "fnExactMissingSteps", recurses := true, apart := false, narrowed := true }
def FnExactMissingStepsUptoSaid : Prop := fnExactMissingStepsUptoRow.holds Try.pinned (OpenSpec.upto fnExactMissingStepsSpec)

/-- 'laws.FnExactAddPetal', WHERE WHAT IT READS IS OF BULK AT MOST 1048576: true; the input reads as it did. -/
def fnExactAddPetalUptoRow : OpenClaim := { program := "ytjdkpldignejjaa", sum := "6f0daaf428ec97948e1cdc18682e80e9634b6ffa7f3db783c78e5464387cc4fd", func := "loop.example/g02075/laws.FnExactAddPetal", spec := "fnExactAddPetal", unfollowed := true, recurses := true, apart := false, narrowed := true }
def FnExactAddPetalUptoSaid : Prop := fnExactAddPetalUptoRow.holds Try.pinned (OpenSpec.upto fnExactAddPetalSpec)

/-- 'laws.FnExactFoldOnce', WHERE WHAT IT READS IS OF BULK AT MOST 1048576: true; the input reads as it did. -/
def fnExactFoldOnceUptoRow : OpenClaim := { program := "ytjdkpldignejjaa", sum := "6f0daaf428ec97948e1cdc18682e80e9634b6ffa7f3db783c78e5464387cc4fd", func := "loop.example/g02075/laws.FnExactFoldOnce", spec := "fnExactFoldOnce", unfollowed := true, recurses := true, apart := false, narrowed := true }
def FnExactFoldOnceUptoSaid : Prop := fnExactFoldOnceUptoRow.holds Try.pinned (OpenSpec.upto fnExactFoldOnceSpec)

/-- 'laws.FnExactCanonicalOrder', WHERE WHAT IT READS IS OF BULK AT MOST 1048576: true; the input reads as it did. -/
def fnExactCanonicalOrderUptoRow : OpenClaim := { program := "ytjdkpldignejjaa", sum := "6f0daaf428ec97948e1cdc18682e80e9634b6ffa7f3db783c78e5464387cc4fd", func := "loop.example/g02075/laws.FnExactCanonicalOrder", spec := "fnExactCanonicalOrder", recurses := true, apart := false, narrowed := true }
def FnExactCanonicalOrderUptoSaid : Prop := fnExactCanonicalOrderUptoRow.holds Try.pinned (OpenSpec.upto fnExactCanonicalOrderSpec)

/-- 'laws.FnExactTreeWord', WHERE WHAT IT READS IS OF BULK AT MOST 1048576: true; the input reads as it did. -/
def fnExactTreeWordUptoRow : OpenClaim := { program := "ytjdkpldignejjaa", sum := "6f0daaf428ec97948e1cdc18682e80e9634b6ffa7f3db783c78e5464387cc4fd", func := "loop.example/g02075/laws.FnExactTreeWord", spec := "fnExactTreeWord", recurses := true, apart := false, narrowed := true }
def FnExactTreeWordUptoSaid : Prop := fnExactTreeWordUptoRow.holds Try.pinned (OpenSpec.upto fnExactTreeWordSpec)

/-- 'laws.FnExactReplayFolds', WHERE WHAT IT READS IS OF BULK AT MOST 1048576: true; the input reads as it did. -/
def fnExactReplayFoldsUptoRow : OpenClaim := { program := "ytjdkpldignejjaa", sum := "6f0daaf428ec97948e1cdc18682e80e9634b6ffa7f3db783c78e5464387cc4fd", func := "loop.example/g02075/laws.FnExactReplayFolds", spec := "fnExactReplayFolds", unfollowed := true, recurses := true, apart := false, narrowed := true }
def FnExactReplayFoldsUptoSaid : Prop := fnExactReplayFoldsUptoRow.holds Try.pinned (OpenSpec.upto fnExactReplayFoldsSpec)

/-- 'laws.FnExactFlowerOf', WHERE WHAT IT READS IS OF BULK AT MOST 1048576: true; the input reads as it did. -/
def fnExactFlowerOfUptoRow : OpenClaim := { program := "ytjdkpldignejjaa", sum := "6f0daaf428ec97948e1cdc18682e80e9634b6ffa7f3db783c78e5464387cc4fd", func := "loop.example/g02075/laws.FnExactFlowerOf", spec := "fnExactFlowerOf", unfollowed := true, recurses := true, apart := false, narrowed := true }
def FnExactFlowerOfUptoSaid : Prop := fnExactFlowerOfUptoRow.holds Try.pinned (OpenSpec.upto fnExactFlowerOfSpec)

/-- 'laws.FnExactFoldInOrder', WHERE WHAT IT READS IS OF BULK AT MOST 1048576: true; the input reads as it did. -/
def fnExactFoldInOrderUptoRow : OpenClaim := { program := "ytjdkpldignejjaa", sum := "6f0daaf428ec97948e1cdc18682e80e9634b6ffa7f3db783c78e5464387cc4fd", func := "loop.example/g02075/laws.FnExactFoldInOrder", spec := "fnExactFoldInOrder", unfollowed := true, recurses := true, apart := false, narrowed := true }
def FnExactFoldInOrderUptoSaid : Prop := fnExactFoldInOrderUptoRow.holds Try.pinned (OpenSpec.upto fnExactFoldInOrderSpec)

end Rows
end Go.Proofs.Ytjdkpldignejjaa
