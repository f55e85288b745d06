/-
  No cell of these rows narrows 'for every input' (looked for: loops, veiled, ifaces, maps, wideKeys, modest, calm, conditions, laid).
  DERIVED. THE GIVEN ROWS OF THIS SEAT. 7 by the template 'for every input the law returns true; each argument reads behind the call as it read before'; 0 by the template 'total and deterministic' (their statements: YtfgpcfdoahgkpaaGreatTotals.lean).
  GIVEN WITH THE SEED: the statements are not yours to turn. If you find one false, say at which input.
  Laid BY PROGRAM, IN A SANDBOX (cutbox-rows.mjs): the forced cells as the released guide's own fill.sh prints them over the translation 524fb011fffc133e… (all of the seat's roots in one cut). By AI agents, Wed Nov 11 2026. No macro, syntax, notation, axiom, sorry.
-/
import Derived.Test.YtfgpcfdoahgkpaaGreatChecked
import GoSem.Claim
import GoSem.ClaimJoined
import GoSem.ClaimMapViews
import Derived.JoinedTies
import Derived.KernelRfl
namespace Go.Proofs.YtfgpcfdoahgkpaaGreat
/- THE CELL 'sum', in the pinned program and in every row, IS THE sha256 OF THE DUMP (.gsa) THAT YtfgpcfdoahgkpaaGreatProg.lean LOADS. Nothing in Lean hashes anything: it is a label: what it is worth is what the hold of that sum in a sandbox is worth. -/
noncomputable def Tryz.pinned : Pinned := { name := "ytfgpcfdoahgkpaagreat", sum := "524fb011fffc133e0b847e6b3e3d14d0d0a00f9c7610d1deefc6a837000cab31", checked := Tryz.checked }
namespace Rows
def none {H : Type} : Left H := { results := [], args := [] }

/-- 'laws.FnExactAreConjugateSubgroups': WHATEVER THE INPUT: true; the input reads as it did. -/
def fnExactAreConjugateSubgroupsSpec : ChangeSpec := { name := "fnExactAreConjugateSubgroups", fn := fun _ => fun
  | [d1, d2] => { results := [.lit (.bool true)], args := [d1, d2] }
  | _ => none }
def fnExactAreConjugateSubgroupsRow : OpenClaim := { program := "ytfgpcfdoahgkpaagreat", sum := "524fb011fffc133e0b847e6b3e3d14d0d0a00f9c7610d1deefc6a837000cab31", func := "loop.example/g02075/laws.FnExactAreConjugateSubgroups", spec := "fnExactAreConjugateSubgroups", unfollowed := true, recurses := true, apart := false }
def FnExactAreConjugateSubgroupsSaid : Prop := fnExactAreConjugateSubgroupsRow.holds Tryz.pinned (OpenSpec.ofChange fnExactAreConjugateSubgroupsSpec)

/-- ITS FALSE NEIGHBOUR: 'it returns false'. Refute it at one input. -/
def fnExactAreConjugateSubgroupsWrong : ChangeSpec := { name := "fnExactAreConjugateSubgroups", fn := fun _ => fun
  | [d1, d2] => { results := [.lit (.bool false)], args := [d1, d2] }
  | _ => none }
def FnExactAreConjugateSubgroupsWrongFalsely : Prop := fnExactAreConjugateSubgroupsRow.holds Tryz.pinned (OpenSpec.ofChange fnExactAreConjugateSubgroupsWrong)

/-- 'laws.FnExactTransversalOf': WHATEVER THE INPUT: true; the input reads as it did. -/
def fnExactTransversalOfSpec : ChangeSpec := { name := "fnExactTransversalOf", fn := fun _ => fun
  | [d] => { results := [.lit (.bool true)], args := [d] }
  | _ => none }
def fnExactTransversalOfRow : OpenClaim := { program := "ytfgpcfdoahgkpaagreat", sum := "524fb011fffc133e0b847e6b3e3d14d0d0a00f9c7610d1deefc6a837000cab31", func := "loop.example/g02075/laws.FnExactTransversalOf", spec := "fnExactTransversalOf", unfollowed := true, recurses := true, apart := false }
def FnExactTransversalOfSaid : Prop := fnExactTransversalOfRow.holds Tryz.pinned (OpenSpec.ofChange fnExactTransversalOfSpec)

/-- ITS FALSE NEIGHBOUR: 'it returns false'. Refute it at one input. -/
def fnExactTransversalOfWrong : ChangeSpec := { name := "fnExactTransversalOf", fn := fun _ => fun
  | [d] => { results := [.lit (.bool false)], args := [d] }
  | _ => none }
def FnExactTransversalOfWrongFalsely : Prop := fnExactTransversalOfRow.holds Tryz.pinned (OpenSpec.ofChange fnExactTransversalOfWrong)

/-- 'laws.FnExactCosetTable': WHATEVER THE INPUT: true; the input reads as it did. -/
def fnExactCosetTableSpec : ChangeSpec := { name := "fnExactCosetTable", fn := fun _ => fun
  | [d] => { results := [.lit (.bool true)], args := [d] }
  | _ => none }
def fnExactCosetTableRow : OpenClaim := { program := "ytfgpcfdoahgkpaagreat", sum := "524fb011fffc133e0b847e6b3e3d14d0d0a00f9c7610d1deefc6a837000cab31", func := "loop.example/g02075/laws.FnExactCosetTable", spec := "fnExactCosetTable", unfollowed := true, recurses := true, apart := false }
def FnExactCosetTableSaid : Prop := fnExactCosetTableRow.holds Tryz.pinned (OpenSpec.ofChange fnExactCosetTableSpec)

/-- ITS FALSE NEIGHBOUR: 'it returns false'. Refute it at one input. -/
def fnExactCosetTableWrong : ChangeSpec := { name := "fnExactCosetTable", fn := fun _ => fun
  | [d] => { results := [.lit (.bool false)], args := [d] }
  | _ => none }
def FnExactCosetTableWrongFalsely : Prop := fnExactCosetTableRow.holds Tryz.pinned (OpenSpec.ofChange fnExactCosetTableWrong)

/-- 'laws.FnExactBasisOf': WHATEVER THE INPUT: true; the input reads as it did. -/
def fnExactBasisOfSpec : ChangeSpec := { name := "fnExactBasisOf", fn := fun _ => fun
  | [d] => { results := [.lit (.bool true)], args := [d] }
  | _ => none }
def fnExactBasisOfRow : OpenClaim := { program := "ytfgpcfdoahgkpaagreat", sum := "524fb011fffc133e0b847e6b3e3d14d0d0a00f9c7610d1deefc6a837000cab31", func := "loop.example/g02075/laws.FnExactBasisOf", spec := "fnExactBasisOf", unfollowed := true, recurses := true, apart := false }
def FnExactBasisOfSaid : Prop := fnExactBasisOfRow.holds Tryz.pinned (OpenSpec.ofChange fnExactBasisOfSpec)

/-- ITS FALSE NEIGHBOUR: 'it returns false'. Refute it at one input. -/
def fnExactBasisOfWrong : ChangeSpec := { name := "fnExactBasisOf", fn := fun _ => fun
  | [d] => { results := [.lit (.bool false)], args := [d] }
  | _ => none }
def FnExactBasisOfWrongFalsely : Prop := fnExactBasisOfRow.holds Tryz.pinned (OpenSpec.ofChange fnExactBasisOfWrong)

/-- 'laws.FnExactSubgroupOf': WHATEVER THE INPUT: true; the input reads as it did. -/
def fnExactSubgroupOfSpec : ChangeSpec := { name := "fnExactSubgroupOf", fn := fun _ => fun
  | [d1, d2] => { results := [.lit (.bool true)], args := [d1, d2] }
  | _ => none }
def fnExactSubgroupOfRow : OpenClaim := { program := "ytfgpcfdoahgkpaagreat", sum := "524fb011fffc133e0b847e6b3e3d14d0d0a00f9c7610d1deefc6a837000cab31", func := "loop.example/g02075/laws.FnExactSubgroupOf", spec := "fnExactSubgroupOf", unfollowed := true, recurses := true, apart := false }
def FnExactSubgroupOfSaid : Prop := fnExactSubgroupOfRow.holds Tryz.pinned (OpenSpec.ofChange fnExactSubgroupOfSpec)

/-- ITS FALSE NEIGHBOUR: 'it returns false'. Refute it at one input. -/
def fnExactSubgroupOfWrong : ChangeSpec := { name := "fnExactSubgroupOf", fn := fun _ => fun
  | [d1, d2] => { results := [.lit (.bool false)], args := [d1, d2] }
  | _ => none }
def FnExactSubgroupOfWrongFalsely : Prop := fnExactSubgroupOfRow.holds Tryz.pinned (OpenSpec.ofChange fnExactSubgroupOfWrong)

/-- 'laws.FnExactNormalizerWords': WHATEVER THE INPUT: true; the input reads as it did. -/
def fnExactNormalizerWordsSpec : ChangeSpec := { name := "fnExactNormalizerWords", fn := fun _ => fun
  | [d] => { results := [.lit (.bool true)], args := [d] }
  | _ => none }
def fnExactNormalizerWordsRow : OpenClaim := { program := "ytfgpcfdoahgkpaagreat", sum := "524fb011fffc133e0b847e6b3e3d14d0d0a00f9c7610d1deefc6a837000cab31", func := "loop.example/g02075/laws.FnExactNormalizerWords", spec := "fnExactNormalizerWords", unfollowed := true, recurses := true, apart := false }
def FnExactNormalizerWordsSaid : Prop := fnExactNormalizerWordsRow.holds Tryz.pinned (OpenSpec.ofChange fnExactNormalizerWordsSpec)

/-- ITS FALSE NEIGHBOUR: 'it returns false'. Refute it at one input. -/
def fnExactNormalizerWordsWrong : ChangeSpec := { name := "fnExactNormalizerWords", fn := fun _ => fun
  | [d] => { results := [.lit (.bool false)], args := [d] }
  | _ => none }
def FnExactNormalizerWordsWrongFalsely : Prop := fnExactNormalizerWordsRow.holds Tryz.pinned (OpenSpec.ofChange fnExactNormalizerWordsWrong)

/-- 'laws.FnExactGeneratesAll': WHATEVER THE INPUT: true; the input reads as it did. -/
def fnExactGeneratesAllSpec : ChangeSpec := { name := "fnExactGeneratesAll", fn := fun _ => fun
  | [d1, d2] => { results := [.lit (.bool true)], args := [d1, d2] }
  | _ => none }
def fnExactGeneratesAllRow : OpenClaim := { program := "ytfgpcfdoahgkpaagreat", sum := "524fb011fffc133e0b847e6b3e3d14d0d0a00f9c7610d1deefc6a837000cab31", func := "loop.example/g02075/laws.FnExactGeneratesAll", spec := "fnExactGeneratesAll", unfollowed := true, recurses := true, apart := false }
def FnExactGeneratesAllSaid : Prop := fnExactGeneratesAllRow.holds Tryz.pinned (OpenSpec.ofChange fnExactGeneratesAllSpec)

/-- ITS FALSE NEIGHBOUR: 'it returns false'. Refute it at one input. -/
def fnExactGeneratesAllWrong : ChangeSpec := { name := "fnExactGeneratesAll", fn := fun _ => fun
  | [d1, d2] => { results := [.lit (.bool false)], args := [d1, d2] }
  | _ => none }
def FnExactGeneratesAllWrongFalsely : Prop := fnExactGeneratesAllRow.holds Tryz.pinned (OpenSpec.ofChange fnExactGeneratesAllWrong)

/- THE SECOND FORM. 'bulk': how many values and letters a reading holds, each counted each time it is reached (what is shared counts as often as it is met; a slice's spare places count too). A statement '..UptoSaid' is the law's where the arguments, and the package variables that the reading takes, are together of bulk at most 1048576: NARROWER than '..Said'. Prove '..Said' where nothing that the law and all that it calls make is longer than what came in: it says more and counts as full. Else prove '..UptoSaid'. A law counts once. -/
mutual
def uptoBulk {H : Type} : DataW H → Nat
  | .lit (.string bytes) => bytes.length + 1
  | .lit _ => 1
  | .nil => 1
  | .ptr d => uptoBulk d + 1
  | .slice elems spare => uptoBulkAll elems + uptoBulkAll spare + 1
  | .agg parts => uptoBulkAll parts + 1
  | .iface _ d => uptoBulk d + 1
  | .map entries => uptoBulkEntries entries + 1
  | .held _ => 1
def uptoBulkAll {H : Type} : List (DataW H) → Nat
  | [] => 0
  | d :: r => uptoBulk d + uptoBulkAll r
def uptoBulkEntries {H : Type} : List (Lit × DataW H) → Nat
  | [] => 0
  | x :: r => uptoBulkEntry x + uptoBulkEntries r
def uptoBulkEntry {H : Type} : Lit × DataW H → Nat
  | (.string bytes, d) => bytes.length + uptoBulk d + 1
  | (_, d) => uptoBulk d + 1
 end
def uptoSmall : (H : Type) → List (DataW H) → Bool := fun _ ds => decide (uptoBulkAll ds ≤ 1048576)
def OpenSpec.upto (s : _root_.Go.ChangeSpec) : _root_.Go.OpenSpec := { _root_.Go.OpenSpec.ofChange s with cond := some uptoSmall }

/-- 'laws.FnExactAreConjugateSubgroups', WHERE WHAT IT READS IS OF BULK AT MOST 1048576: true; the input reads as it did. -/
def fnExactAreConjugateSubgroupsUptoRow : OpenClaim := { program := "ytfgpcfdoahgkpaagreat", sum := "524fb011fffc133e0b847e6b3e3d14d0d0a00f9c7610d1deefc6a837000cab31", func := "loop.example/g02075/laws.FnExactAreConjugateSubgroups", spec := "fnExactAreConjugateSubgroups", unfollowed := true, recurses := true, apart := false, narrowed := true }
def FnExactAreConjugateSubgroupsUptoSaid : Prop := fnExactAreConjugateSubgroupsUptoRow.holds Tryz.pinned (OpenSpec.upto fnExactAreConjugateSubgroupsSpec)

/-- 'laws.FnExactTransversalOf', WHERE WHAT IT READS IS OF BULK AT MOST 1048576: true; the input reads as it did. -/
def fnExactTransversalOfUptoRow : OpenClaim := { program := "ytfgpcfdoahgkpaagreat", sum := "524fb011fffc133e0b847e6b3e3d14d0d0a00f9c7610d1deefc6a837000cab31", func := "loop.example/g02075/laws.FnExactTransversalOf", spec := "fnExactTransversalOf", unfollowed := true, recurses := true, apart := false, narrowed := true }
def FnExactTransversalOfUptoSaid : Prop := fnExactTransversalOfUptoRow.holds Tryz.pinned (OpenSpec.upto fnExactTransversalOfSpec)

/-- 'laws.FnExactCosetTable', WHERE WHAT IT READS IS OF BULK AT MOST 1048576: true; the input reads as it did. -/
def fnExactCosetTableUptoRow : OpenClaim := { program := "ytfgpcfdoahgkpaagreat", sum := "524fb011fffc133e0b847e6b3e3d14d0d0a00f9c7610d1deefc6a837000cab31", func := "loop.example/g02075/laws.FnExactCosetTable", spec := "fnExactCosetTable", unfollowed := true, recurses := true, apart := false, narrowed := true }
def FnExactCosetTableUptoSaid : Prop := fnExactCosetTableUptoRow.holds Tryz.pinned (OpenSpec.upto fnExactCosetTableSpec)

/-- 'laws.FnExactBasisOf', WHERE WHAT IT READS IS OF BULK AT MOST 1048576: true; the input reads as it did. -/
def fnExactBasisOfUptoRow : OpenClaim := { program := "ytfgpcfdoahgkpaagreat", sum := "524fb011fffc133e0b847e6b3e3d14d0d0a00f9c7610d1deefc6a837000cab31", func := "loop.example/g02075/laws.FnExactBasisOf", spec := "fnExactBasisOf", unfollowed := true, recurses := true, apart := false, narrowed := true }
def FnExactBasisOfUptoSaid : Prop := fnExactBasisOfUptoRow.holds Tryz.pinned (OpenSpec.upto fnExactBasisOfSpec)

/-- 'laws.FnExactSubgroupOf', WHERE WHAT IT READS IS OF BULK AT MOST 1048576: true; the input reads as it did. -/
def fnExactSubgroupOfUptoRow : OpenClaim := { program := "ytfgpcfdoahgkpaagreat", sum := "524fb011fffc133e0b847e6b3e3d14d0d0a00f9c7610d1deefc6a837000cab31", func := "loop.example/g02075/laws.FnExactSubgroupOf", spec := "fnExactSubgroupOf", unfollowed := true, recurses := true, apart := false, narrowed := true }
def FnExactSubgroupOfUptoSaid : Prop := fnExactSubgroupOfUptoRow.holds Tryz.pinned (OpenSpec.upto fnExactSubgroupOfSpec)

/-- 'laws.FnExactNormalizerWords', WHERE WHAT IT READS IS OF BULK AT MOST 1048576: true; the input reads as it did. -/
def fnExactNormalizerWordsUptoRow : OpenClaim := { program := "ytfgpcfdoahgkpaagreat", sum := "524fb011fffc133e0b847e6b3e3d14d0d0a00f9c7610d1deefc6a837000cab31", func := "loop.example/g02075/laws.FnExactNormalizerWords", spec := "fnExactNormalizerWords", unfollowed := true, recurses := true, apart := false, narrowed := true }
def FnExactNormalizerWordsUptoSaid : Prop := fnExactNormalizerWordsUptoRow.holds Tryz.pinned (OpenSpec.upto fnExactNormalizerWordsSpec)

/-- 'laws.FnExactGeneratesAll', WHERE WHAT IT READS IS OF BULK AT MOST 1048576: true; the input reads as it did. -/
def fnExactGeneratesAllUptoRow : OpenClaim := { program := "ytfgpcfdoahgkpaagreat", sum := "524fb011fffc133e0b847e6b3e3d14d0d0a00f9c7610d1deefc6a837000cab31", func := "loop.example/g02075/laws.FnExactGeneratesAll", spec := "fnExactGeneratesAll", unfollowed := true, recurses := true, apart := false, narrowed := true }
def FnExactGeneratesAllUptoSaid : Prop := fnExactGeneratesAllUptoRow.holds Tryz.pinned (OpenSpec.upto fnExactGeneratesAllSpec)

end Rows
end Go.Proofs.YtfgpcfdoahgkpaaGreat
