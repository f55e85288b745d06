/-
  No cell of these rows narrows 'for every input' (looked for: loops, veiled, ifaces, maps, wideKeys, modest, calm, conditions, laid).
  DERIVED. THE GIVEN ROWS OF THIS SEAT. 10 by the template 'for every input the law returns true; each argument reads behind the call as it read before'; 0 by the template 'total and deterministic' (their statements: YtdcipchfpljblaaGreatTotals.lean).
  GIVEN WITH THE SEED: the statements are not yours to turn. If you find one false, say at which input.
  Laid BY PROGRAM, IN A SANDBOX (cutbox-rows.mjs): the forced cells as the released guide's own fill.sh prints them over the translation 2909174dd6921ea9… (all of the seat's roots in one cut). By AI agents, Wed Nov 11 2026. No macro, syntax, notation, axiom, sorry.
-/
import Derived.Test.YtdcipchfpljblaaGreatChecked
import GoSem.Claim
import GoSem.ClaimJoined
import GoSem.ClaimMapViews
import Derived.JoinedTies
import Derived.KernelRfl
namespace Go.Proofs.YtdcipchfpljblaaGreat
/- THE CELL 'sum', in the pinned program and in every row, IS THE sha256 OF THE DUMP (.gsa) THAT YtdcipchfpljblaaGreatProg.lean LOADS. Nothing in Lean hashes anything: it is a label: what it is worth is what the hold of that sum in a sandbox is worth. -/
noncomputable def Tryz.pinned : Pinned := { name := "ytdcipchfpljblaagreat", sum := "2909174dd6921ea92ef4aa2e90d06cbd1705952e87b4e8ed362b01120f78e759", checked := Tryz.checked }
namespace Rows
def none {H : Type} : Left H := { results := [], args := [] }

/-- 'laws.FnExactSameCoset': WHATEVER THE INPUT: true; the input reads as it did. -/
def fnExactSameCosetSpec : ChangeSpec := { name := "fnExactSameCoset", fn := fun _ => fun
  | [d1, d2, d3] => { results := [.lit (.bool true)], args := [d1, d2, d3] }
  | _ => none }
def fnExactSameCosetRow : OpenClaim := { program := "ytdcipchfpljblaagreat", sum := "2909174dd6921ea92ef4aa2e90d06cbd1705952e87b4e8ed362b01120f78e759", func := "loop.example/g02075/laws.FnExactSameCoset", spec := "fnExactSameCoset", unfollowed := true, recurses := true, apart := false }
def FnExactSameCosetSaid : Prop := fnExactSameCosetRow.holds Tryz.pinned (OpenSpec.ofChange fnExactSameCosetSpec)

/-- ITS FALSE NEIGHBOUR: 'it returns false'. Refute it at one input. -/
def fnExactSameCosetWrong : ChangeSpec := { name := "fnExactSameCoset", fn := fun _ => fun
  | [d1, d2, d3] => { results := [.lit (.bool false)], args := [d1, d2, d3] }
  | _ => none }
def FnExactSameCosetWrongFalsely : Prop := fnExactSameCosetRow.holds Tryz.pinned (OpenSpec.ofChange fnExactSameCosetWrong)

/-- 'laws.FnExactIsInside': WHATEVER THE INPUT: true; the input reads as it did. -/
def fnExactIsInsideSpec : ChangeSpec := { name := "fnExactIsInside", fn := fun _ => fun
  | [d1, d2] => { results := [.lit (.bool true)], args := [d1, d2] }
  | _ => none }
def fnExactIsInsideRow : OpenClaim := { program := "ytdcipchfpljblaagreat", sum := "2909174dd6921ea92ef4aa2e90d06cbd1705952e87b4e8ed362b01120f78e759", func := "loop.example/g02075/laws.FnExactIsInside", spec := "fnExactIsInside", unfollowed := true, recurses := true, apart := false }
def FnExactIsInsideSaid : Prop := fnExactIsInsideRow.holds Tryz.pinned (OpenSpec.ofChange fnExactIsInsideSpec)

/-- ITS FALSE NEIGHBOUR: 'it returns false'. Refute it at one input. -/
def fnExactIsInsideWrong : ChangeSpec := { name := "fnExactIsInside", fn := fun _ => fun
  | [d1, d2] => { results := [.lit (.bool false)], args := [d1, d2] }
  | _ => none }
def FnExactIsInsideWrongFalsely : Prop := fnExactIsInsideRow.holds Tryz.pinned (OpenSpec.ofChange fnExactIsInsideWrong)

/-- 'laws.FnExactContainsAll': WHATEVER THE INPUT: true; the input reads as it did. -/
def fnExactContainsAllSpec : ChangeSpec := { name := "fnExactContainsAll", fn := fun _ => fun
  | [d1, d2] => { results := [.lit (.bool true)], args := [d1, d2] }
  | _ => none }
def fnExactContainsAllRow : OpenClaim := { program := "ytdcipchfpljblaagreat", sum := "2909174dd6921ea92ef4aa2e90d06cbd1705952e87b4e8ed362b01120f78e759", func := "loop.example/g02075/laws.FnExactContainsAll", spec := "fnExactContainsAll", unfollowed := true, recurses := true, apart := false }
def FnExactContainsAllSaid : Prop := fnExactContainsAllRow.holds Tryz.pinned (OpenSpec.ofChange fnExactContainsAllSpec)

/-- ITS FALSE NEIGHBOUR: 'it returns false'. Refute it at one input. -/
def fnExactContainsAllWrong : ChangeSpec := { name := "fnExactContainsAll", fn := fun _ => fun
  | [d1, d2] => { results := [.lit (.bool false)], args := [d1, d2] }
  | _ => none }
def FnExactContainsAllWrongFalsely : Prop := fnExactContainsAllRow.holds Tryz.pinned (OpenSpec.ofChange fnExactContainsAllWrong)

/-- 'laws.FnExactCoreGraph': WHATEVER THE INPUT: true; the input reads as it did. -/
def fnExactCoreGraphSpec : ChangeSpec := { name := "fnExactCoreGraph", fn := fun _ => fun
  | [d] => { results := [.lit (.bool true)], args := [d] }
  | _ => none }
def fnExactCoreGraphRow : OpenClaim := { program := "ytdcipchfpljblaagreat", sum := "2909174dd6921ea92ef4aa2e90d06cbd1705952e87b4e8ed362b01120f78e759", func := "loop.example/g02075/laws.FnExactCoreGraph", spec := "fnExactCoreGraph", unfollowed := true, recurses := true, apart := false }
def FnExactCoreGraphSaid : Prop := fnExactCoreGraphRow.holds Tryz.pinned (OpenSpec.ofChange fnExactCoreGraphSpec)

/-- ITS FALSE NEIGHBOUR: 'it returns false'. Refute it at one input. -/
def fnExactCoreGraphWrong : ChangeSpec := { name := "fnExactCoreGraph", fn := fun _ => fun
  | [d] => { results := [.lit (.bool false)], args := [d] }
  | _ => none }
def FnExactCoreGraphWrongFalsely : Prop := fnExactCoreGraphRow.holds Tryz.pinned (OpenSpec.ofChange fnExactCoreGraphWrong)

/-- 'laws.FnExactCosetOf': WHATEVER THE INPUT: true; the input reads as it did. -/
def fnExactCosetOfSpec : ChangeSpec := { name := "fnExactCosetOf", fn := fun _ => fun
  | [d1, d2] => { results := [.lit (.bool true)], args := [d1, d2] }
  | _ => none }
def fnExactCosetOfRow : OpenClaim := { program := "ytdcipchfpljblaagreat", sum := "2909174dd6921ea92ef4aa2e90d06cbd1705952e87b4e8ed362b01120f78e759", func := "loop.example/g02075/laws.FnExactCosetOf", spec := "fnExactCosetOf", unfollowed := true, recurses := true, apart := false }
def FnExactCosetOfSaid : Prop := fnExactCosetOfRow.holds Tryz.pinned (OpenSpec.ofChange fnExactCosetOfSpec)

/-- ITS FALSE NEIGHBOUR: 'it returns false'. Refute it at one input. -/
def fnExactCosetOfWrong : ChangeSpec := { name := "fnExactCosetOf", fn := fun _ => fun
  | [d1, d2] => { results := [.lit (.bool false)], args := [d1, d2] }
  | _ => none }
def FnExactCosetOfWrongFalsely : Prop := fnExactCosetOfRow.holds Tryz.pinned (OpenSpec.ofChange fnExactCosetOfWrong)

/-- 'laws.FnExactMoveBase': WHATEVER THE INPUT: true; the input reads as it did. -/
def fnExactMoveBaseSpec : ChangeSpec := { name := "fnExactMoveBase", fn := fun _ => fun
  | [d1, d2] => { results := [.lit (.bool true)], args := [d1, d2] }
  | _ => none }
def fnExactMoveBaseRow : OpenClaim := { program := "ytdcipchfpljblaagreat", sum := "2909174dd6921ea92ef4aa2e90d06cbd1705952e87b4e8ed362b01120f78e759", func := "loop.example/g02075/laws.FnExactMoveBase", spec := "fnExactMoveBase", unfollowed := true, recurses := true, apart := false }
def FnExactMoveBaseSaid : Prop := fnExactMoveBaseRow.holds Tryz.pinned (OpenSpec.ofChange fnExactMoveBaseSpec)

/-- ITS FALSE NEIGHBOUR: 'it returns false'. Refute it at one input. -/
def fnExactMoveBaseWrong : ChangeSpec := { name := "fnExactMoveBase", fn := fun _ => fun
  | [d1, d2] => { results := [.lit (.bool false)], args := [d1, d2] }
  | _ => none }
def FnExactMoveBaseWrongFalsely : Prop := fnExactMoveBaseRow.holds Tryz.pinned (OpenSpec.ofChange fnExactMoveBaseWrong)

/-- 'laws.FnExactRewriteIn': WHATEVER THE INPUT: true; the input reads as it did. -/
def fnExactRewriteInSpec : ChangeSpec := { name := "fnExactRewriteIn", fn := fun _ => fun
  | [d1, d2] => { results := [.lit (.bool true)], args := [d1, d2] }
  | _ => none }
def fnExactRewriteInRow : OpenClaim := { program := "ytdcipchfpljblaagreat", sum := "2909174dd6921ea92ef4aa2e90d06cbd1705952e87b4e8ed362b01120f78e759", func := "loop.example/g02075/laws.FnExactRewriteIn", spec := "fnExactRewriteIn", unfollowed := true, recurses := true, apart := false }
def FnExactRewriteInSaid : Prop := fnExactRewriteInRow.holds Tryz.pinned (OpenSpec.ofChange fnExactRewriteInSpec)

/-- ITS FALSE NEIGHBOUR: 'it returns false'. Refute it at one input. -/
def fnExactRewriteInWrong : ChangeSpec := { name := "fnExactRewriteIn", fn := fun _ => fun
  | [d1, d2] => { results := [.lit (.bool false)], args := [d1, d2] }
  | _ => none }
def FnExactRewriteInWrongFalsely : Prop := fnExactRewriteInRow.holds Tryz.pinned (OpenSpec.ofChange fnExactRewriteInWrong)

/-- 'laws.FnExactCyclicGraph': WHATEVER THE INPUT: true; the input reads as it did. -/
def fnExactCyclicGraphSpec : ChangeSpec := { name := "fnExactCyclicGraph", fn := fun _ => fun
  | [d] => { results := [.lit (.bool true)], args := [d] }
  | _ => none }
def fnExactCyclicGraphRow : OpenClaim := { program := "ytdcipchfpljblaagreat", sum := "2909174dd6921ea92ef4aa2e90d06cbd1705952e87b4e8ed362b01120f78e759", func := "loop.example/g02075/laws.FnExactCyclicGraph", spec := "fnExactCyclicGraph", unfollowed := true, recurses := true, apart := false }
def FnExactCyclicGraphSaid : Prop := fnExactCyclicGraphRow.holds Tryz.pinned (OpenSpec.ofChange fnExactCyclicGraphSpec)

/-- ITS FALSE NEIGHBOUR: 'it returns false'. Refute it at one input. -/
def fnExactCyclicGraphWrong : ChangeSpec := { name := "fnExactCyclicGraph", fn := fun _ => fun
  | [d] => { results := [.lit (.bool false)], args := [d] }
  | _ => none }
def FnExactCyclicGraphWrongFalsely : Prop := fnExactCyclicGraphRow.holds Tryz.pinned (OpenSpec.ofChange fnExactCyclicGraphWrong)

/-- 'laws.FnExactIsNormal': WHATEVER THE INPUT: true; the input reads as it did. -/
def fnExactIsNormalSpec : ChangeSpec := { name := "fnExactIsNormal", fn := fun _ => fun
  | [d] => { results := [.lit (.bool true)], args := [d] }
  | _ => none }
def fnExactIsNormalRow : OpenClaim := { program := "ytdcipchfpljblaagreat", sum := "2909174dd6921ea92ef4aa2e90d06cbd1705952e87b4e8ed362b01120f78e759", func := "loop.example/g02075/laws.FnExactIsNormal", spec := "fnExactIsNormal", unfollowed := true, recurses := true, apart := false }
def FnExactIsNormalSaid : Prop := fnExactIsNormalRow.holds Tryz.pinned (OpenSpec.ofChange fnExactIsNormalSpec)

/-- ITS FALSE NEIGHBOUR: 'it returns false'. Refute it at one input. -/
def fnExactIsNormalWrong : ChangeSpec := { name := "fnExactIsNormal", fn := fun _ => fun
  | [d] => { results := [.lit (.bool false)], args := [d] }
  | _ => none }
def FnExactIsNormalWrongFalsely : Prop := fnExactIsNormalRow.holds Tryz.pinned (OpenSpec.ofChange fnExactIsNormalWrong)

/-- 'laws.FnExactIsFreeBasis': WHATEVER THE INPUT: true; the input reads as it did. -/
def fnExactIsFreeBasisSpec : ChangeSpec := { name := "fnExactIsFreeBasis", fn := fun _ => fun
  | [d1, d2] => { results := [.lit (.bool true)], args := [d1, d2] }
  | _ => none }
def fnExactIsFreeBasisRow : OpenClaim := { program := "ytdcipchfpljblaagreat", sum := "2909174dd6921ea92ef4aa2e90d06cbd1705952e87b4e8ed362b01120f78e759", func := "loop.example/g02075/laws.FnExactIsFreeBasis", spec := "fnExactIsFreeBasis", unfollowed := true, recurses := true, apart := false }
def FnExactIsFreeBasisSaid : Prop := fnExactIsFreeBasisRow.holds Tryz.pinned (OpenSpec.ofChange fnExactIsFreeBasisSpec)

/-- ITS FALSE NEIGHBOUR: 'it returns false'. Refute it at one input. -/
def fnExactIsFreeBasisWrong : ChangeSpec := { name := "fnExactIsFreeBasis", fn := fun _ => fun
  | [d1, d2] => { results := [.lit (.bool false)], args := [d1, d2] }
  | _ => none }
def FnExactIsFreeBasisWrongFalsely : Prop := fnExactIsFreeBasisRow.holds Tryz.pinned (OpenSpec.ofChange fnExactIsFreeBasisWrong)

/- THE SECOND FORM. 'bulk': how many values and letters a reading holds, each counted each time it is reached (what is shared counts as often as it is met; a slice's spare places count too). A statement '..UptoSaid' is the law's where the arguments, and the package variables that the reading takes, are together of bulk at most 1048576: NARROWER than '..Said'. Prove '..Said' where nothing that the law and all that it calls make is longer than what came in: it says more and counts as full. Else prove '..UptoSaid'. A law counts once. -/
mutual
def uptoBulk {H : Type} : DataW H → Nat
  | .lit (.string bytes) => bytes.length + 1
  | .lit _ => 1
  | .nil => 1
  | .ptr d => uptoBulk d + 1
  | .slice elems spare => uptoBulkAll elems + uptoBulkAll spare + 1
  | .agg parts => uptoBulkAll parts + 1
  | .iface _ d => uptoBulk d + 1
  | .map entries => uptoBulkEntries entries + 1
  | .held _ => 1
def uptoBulkAll {H : Type} : List (DataW H) → Nat
  | [] => 0
  | d :: r => uptoBulk d + uptoBulkAll r
def uptoBulkEntries {H : Type} : List (Lit × DataW H) → Nat
  | [] => 0
  | x :: r => uptoBulkEntry x + uptoBulkEntries r
def uptoBulkEntry {H : Type} : Lit × DataW H → Nat
  | (.string bytes, d) => bytes.length + uptoBulk d + 1
  | (_, d) => uptoBulk d + 1
 end
def uptoSmall : (H : Type) → List (DataW H) → Bool := fun _ ds => decide (uptoBulkAll ds ≤ 1048576)
def OpenSpec.upto (s : _root_.Go.ChangeSpec) : _root_.Go.OpenSpec := { _root_.Go.OpenSpec.ofChange s with cond := some uptoSmall }

/-- 'laws.FnExactSameCoset', WHERE WHAT IT READS IS OF BULK AT MOST 1048576: true; the input reads as it did. -/
def fnExactSameCosetUptoRow : OpenClaim := { program := "ytdcipchfpljblaagreat", sum := "2909174dd6921ea92ef4aa2e90d06cbd1705952e87b4e8ed362b01120f78e759", func := "loop.example/g02075/laws.FnExactSameCoset", spec := "fnExactSameCoset", unfollowed := true, recurses := true, apart := false, narrowed := true }
def FnExactSameCosetUptoSaid : Prop := fnExactSameCosetUptoRow.holds Tryz.pinned (OpenSpec.upto fnExactSameCosetSpec)

/-- 'laws.FnExactIsInside', WHERE WHAT IT READS IS OF BULK AT MOST 1048576: true; the input reads as it did. -/
def fnExactIsInsideUptoRow : OpenClaim := { program := "ytdcipchfpljblaagreat", sum := "2909174dd6921ea92ef4aa2e90d06cbd1705952e87b4e8ed362b01120f78e759", func := "loop.example/g02075/laws.FnExactIsInside", spec := "fnExactIsInside", unfollowed := true, recurses := true, apart := false, narrowed := true }
def FnExactIsInsideUptoSaid : Prop := fnExactIsInsideUptoRow.holds Tryz.pinned (OpenSpec.upto fnExactIsInsideSpec)

/-- 'laws.FnExactContainsAll', WHERE WHAT IT READS IS OF BULK AT MOST 1048576: true; the input reads as it did. -/
def fnExactContainsAllUptoRow : OpenClaim := { program := "ytdcipchfpljblaagreat", sum := "2909174dd6921ea92ef4aa2e90d06cbd1705952e87b4e8ed362b01120f78e759", func := "loop.example/g02075/laws.FnExactContainsAll", spec := "fnExactContainsAll", unfollowed := true, recurses := true, apart := false, narrowed := true }
def FnExactContainsAllUptoSaid : Prop := fnExactContainsAllUptoRow.holds Tryz.pinned (OpenSpec.upto fnExactContainsAllSpec)

/-- 'laws.FnExactCoreGraph', WHERE WHAT IT READS IS OF BULK AT MOST 1048576: true; the input reads as it did. -/
def fnExactCoreGraphUptoRow : OpenClaim := { program := "ytdcipchfpljblaagreat", sum := "2909174dd6921ea92ef4aa2e90d06cbd1705952e87b4e8ed362b01120f78e759", func := "loop.example/g02075/laws.FnExactCoreGraph", spec := "fnExactCoreGraph", unfollowed := true, recurses := true, apart := false, narrowed := true }
def FnExactCoreGraphUptoSaid : Prop := fnExactCoreGraphUptoRow.holds Tryz.pinned (OpenSpec.upto fnExactCoreGraphSpec)

/-- 'laws.FnExactCosetOf', WHERE WHAT IT READS IS OF BULK AT MOST 1048576: true; the input reads as it did. -/
def fnExactCosetOfUptoRow : OpenClaim := { program := "ytdcipchfpljblaagreat", sum := "2909174dd6921ea92ef4aa2e90d06cbd1705952e87b4e8ed362b01120f78e759", func := "loop.example/g02075/laws.FnExactCosetOf", spec := "fnExactCosetOf", unfollowed := true, recurses := true, apart := false, narrowed := true }
def FnExactCosetOfUptoSaid : Prop := fnExactCosetOfUptoRow.holds Tryz.pinned (OpenSpec.upto fnExactCosetOfSpec)

/-- 'laws.FnExactMoveBase', WHERE WHAT IT READS IS OF BULK AT MOST 1048576: true; the input reads as it did. -/
def fnExactMoveBaseUptoRow : OpenClaim := { program := "ytdcipchfpljblaagreat", sum := "2909174dd6921ea92ef4aa2e90d06cbd1705952e87b4e8ed362b01120f78e759", func := "loop.example/g02075/laws.FnExactMoveBase", spec := "fnExactMoveBase", unfollowed := true, recurses := true, apart := false, narrowed := true }
def FnExactMoveBaseUptoSaid : Prop := fnExactMoveBaseUptoRow.holds Tryz.pinned (OpenSpec.upto fnExactMoveBaseSpec)

/-- 'laws.FnExactRewriteIn', WHERE WHAT IT READS IS OF BULK AT MOST 1048576: true; the input reads as it did. -/
def fnExactRewriteInUptoRow : OpenClaim := { program := "ytdcipchfpljblaagreat", sum := "2909174dd6921ea92ef4aa2e90d06cbd1705952e87b4e8ed362b01120f78e759", func := "loop.example/g02075/laws.FnExactRewriteIn", spec := "fnExactRewriteIn", unfollowed := true, recurses := true, apart := false, narrowed := true }
def FnExactRewriteInUptoSaid : Prop := fnExactRewriteInUptoRow.holds Tryz.pinned (OpenSpec.upto fnExactRewriteInSpec)

/-- 'laws.FnExactCyclicGraph', WHERE WHAT IT READS IS OF BULK AT MOST 1048576: true; the input reads as it did. -/
def fnExactCyclicGraphUptoRow : OpenClaim := { program := "ytdcipchfpljblaagreat", sum := "2909174dd6921ea92ef4aa2e90d06cbd1705952e87b4e8ed362b01120f78e759", func := "loop.example/g02075/laws.FnExactCyclicGraph", spec := "fnExactCyclicGraph", unfollowed := true, recurses := true, apart := false, narrowed := true }
def FnExactCyclicGraphUptoSaid : Prop := fnExactCyclicGraphUptoRow.holds Tryz.pinned (OpenSpec.upto fnExactCyclicGraphSpec)

/-- 'laws.FnExactIsNormal', WHERE WHAT IT READS IS OF BULK AT MOST 1048576: true; the input reads as it did. -/
def fnExactIsNormalUptoRow : OpenClaim := { program := "ytdcipchfpljblaagreat", sum := "2909174dd6921ea92ef4aa2e90d06cbd1705952e87b4e8ed362b01120f78e759", func := "loop.example/g02075/laws.FnExactIsNormal", spec := "fnExactIsNormal", unfollowed := true, recurses := true, apart := false, narrowed := true }
def FnExactIsNormalUptoSaid : Prop := fnExactIsNormalUptoRow.holds Tryz.pinned (OpenSpec.upto fnExactIsNormalSpec)

/-- 'laws.FnExactIsFreeBasis', WHERE WHAT IT READS IS OF BULK AT MOST 1048576: true; the input reads as it did. -/
def fnExactIsFreeBasisUptoRow : OpenClaim := { program := "ytdcipchfpljblaagreat", sum := "2909174dd6921ea92ef4aa2e90d06cbd1705952e87b4e8ed362b01120f78e759", func := "loop.example/g02075/laws.FnExactIsFreeBasis", spec := "fnExactIsFreeBasis", unfollowed := true, recurses := true, apart := false, narrowed := true }
def FnExactIsFreeBasisUptoSaid : Prop := fnExactIsFreeBasisUptoRow.holds Tryz.pinned (OpenSpec.upto fnExactIsFreeBasisSpec)

end Rows
end Go.Proofs.YtdcipchfpljblaaGreat
