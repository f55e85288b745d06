/-
  No cell of these rows narrows 'for every input' (looked for: loops, veiled, ifaces, maps, wideKeys, modest, calm, conditions, laid).
  DERIVED. THE GIVEN ROWS OF THIS SEAT. 12 by the template 'for every input the law returns true; each argument reads behind the call as it read before'; 0 by the template 'total and deterministic' (their statements: YtoncngainbgpcaaTotals.lean).
  GIVEN WITH THE SEED: the statements are not yours to turn. If you find one false, say at which input.
  Laid BY PROGRAM, IN A SANDBOX (cutbox-rows.mjs): the forced cells as the released guide's own fill.sh prints them over the translation ef97eec7b3bcef31… (all of the seat's roots in one cut). By AI agents, Wed Nov 11 2026. No macro, syntax, notation, axiom, sorry.
-/
import Derived.Test.YtoncngainbgpcaaChecked
import GoSem.Claim
import GoSem.ClaimJoined
import GoSem.ClaimMapViews
import Derived.JoinedTies
import Derived.KernelRfl
namespace Go.Proofs.Ytoncngainbgpcaa
/- THE CELL 'sum', in the pinned program and in every row, IS THE sha256 OF THE DUMP (.gsa) THAT YtoncngainbgpcaaProg.lean LOADS. Nothing in Lean hashes anything: it is a label: what it is worth is what the hold of that sum in a sandbox is worth. -/
noncomputable def Try.pinned : Pinned := { name := "ytoncngainbgpcaa", sum := "ef97eec7b3bcef315711374f2075b961c81df47815352e748187d4493050d317", checked := Try.checked }
namespace Rows
def none {H : Type} : Left H := { results := [], args := [] }

/-- 'laws.FnExactFoldAll': WHATEVER THE INPUT: true; the input reads as it did. -/
def fnExactFoldAllSpec : ChangeSpec := { name := "fnExactFoldAll", fn := fun _ => fun
  | [d] => { results := [.lit (.bool true)], args := [d] }
  | _ => none }
def fnExactFoldAllRow : OpenClaim := { program := "ytoncngainbgpcaa", sum := "ef97eec7b3bcef315711374f2075b961c81df47815352e748187d4493050d317", func := "loop.example/g02075/laws.FnExactFoldAll", spec := "fnExactFoldAll", unfollowed := true, recurses := true, apart := false }
def FnExactFoldAllSaid : Prop := fnExactFoldAllRow.holds Try.pinned (OpenSpec.ofChange fnExactFoldAllSpec)

/-- ITS FALSE NEIGHBOUR: 'it returns false'. Refute it at one input. -/
def fnExactFoldAllWrong : ChangeSpec := { name := "fnExactFoldAll", fn := fun _ => fun
  | [d] => { results := [.lit (.bool false)], args := [d] }
  | _ => none }
def FnExactFoldAllWrongFalsely : Prop := fnExactFoldAllRow.holds Try.pinned (OpenSpec.ofChange fnExactFoldAllWrong)

/-- 'laws.FnExactTrimGraph': WHATEVER THE INPUT: true; the input reads as it did. -/
def fnExactTrimGraphSpec : ChangeSpec := { name := "fnExactTrimGraph", fn := fun _ => fun
  | [d] => { results := [.lit (.bool true)], args := [d] }
  | _ => none }
def fnExactTrimGraphRow : OpenClaim := { program := "ytoncngainbgpcaa", sum := "ef97eec7b3bcef315711374f2075b961c81df47815352e748187d4493050d317", func := "loop.example/g02075/laws.FnExactTrimGraph", spec := "fnExactTrimGraph", unfollowed := true, recurses := true, apart := false }
def FnExactTrimGraphSaid : Prop := fnExactTrimGraphRow.holds Try.pinned (OpenSpec.ofChange fnExactTrimGraphSpec)

/-- ITS FALSE NEIGHBOUR: 'it returns false'. Refute it at one input. -/
def fnExactTrimGraphWrong : ChangeSpec := { name := "fnExactTrimGraph", fn := fun _ => fun
  | [d] => { results := [.lit (.bool false)], args := [d] }
  | _ => none }
def FnExactTrimGraphWrongFalsely : Prop := fnExactTrimGraphRow.holds Try.pinned (OpenSpec.ofChange fnExactTrimGraphWrong)

/-- 'laws.FnExactLoopOf': WHATEVER THE INPUT: true; the input reads as it did. -/
def fnExactLoopOfSpec : ChangeSpec := { name := "fnExactLoopOf", fn := fun _ => fun
  | [d1, d2] => { results := [.lit (.bool true)], args := [d1, d2] }
  | _ => none }
def fnExactLoopOfRow : OpenClaim := { program := "ytoncngainbgpcaa", sum := "ef97eec7b3bcef315711374f2075b961c81df47815352e748187d4493050d317", func := "loop.example/g02075/laws.FnExactLoopOf", spec := "fnExactLoopOf", recurses := true, apart := false }
def FnExactLoopOfSaid : Prop := fnExactLoopOfRow.holds Try.pinned (OpenSpec.ofChange fnExactLoopOfSpec)

/-- ITS FALSE NEIGHBOUR: 'it returns false'. Refute it at one input. -/
def fnExactLoopOfWrong : ChangeSpec := { name := "fnExactLoopOf", fn := fun _ => fun
  | [d1, d2] => { results := [.lit (.bool false)], args := [d1, d2] }
  | _ => none }
def FnExactLoopOfWrongFalsely : Prop := fnExactLoopOfRow.holds Try.pinned (OpenSpec.ofChange fnExactLoopOfWrong)

/-- 'laws.FnExactTreeEdges': WHATEVER THE INPUT: true; the input reads as it did. -/
def fnExactTreeEdgesSpec : ChangeSpec := { name := "fnExactTreeEdges", fn := fun _ => fun
  | [d] => { results := [.lit (.bool true)], args := [d] }
  | _ => none }
def fnExactTreeEdgesRow : OpenClaim := { program := "ytoncngainbgpcaa", sum := "ef97eec7b3bcef315711374f2075b961c81df47815352e748187d4493050d317", func := "loop.example/g02075/laws.FnExactTreeEdges", spec := "fnExactTreeEdges", unfollowed := true, recurses := true, apart := false }
def FnExactTreeEdgesSaid : Prop := fnExactTreeEdgesRow.holds Try.pinned (OpenSpec.ofChange fnExactTreeEdgesSpec)

/-- ITS FALSE NEIGHBOUR: 'it returns false'. Refute it at one input. -/
def fnExactTreeEdgesWrong : ChangeSpec := { name := "fnExactTreeEdges", fn := fun _ => fun
  | [d] => { results := [.lit (.bool false)], args := [d] }
  | _ => none }
def FnExactTreeEdgesWrongFalsely : Prop := fnExactTreeEdgesRow.holds Try.pinned (OpenSpec.ofChange fnExactTreeEdgesWrong)

/-- 'laws.FnExactExtraEdges': WHATEVER THE INPUT: true; the input reads as it did. -/
def fnExactExtraEdgesSpec : ChangeSpec := { name := "fnExactExtraEdges", fn := fun _ => fun
  | [d] => { results := [.lit (.bool true)], args := [d] }
  | _ => none }
def fnExactExtraEdgesRow : OpenClaim := { program := "ytoncngainbgpcaa", sum := "ef97eec7b3bcef315711374f2075b961c81df47815352e748187d4493050d317", func := "loop.example/g02075/laws.FnExactExtraEdges", spec := "fnExactExtraEdges", unfollowed := true, recurses := true, apart := false }
def FnExactExtraEdgesSaid : Prop := fnExactExtraEdgesRow.holds Try.pinned (OpenSpec.ofChange fnExactExtraEdgesSpec)

/-- ITS FALSE NEIGHBOUR: 'it returns false'. Refute it at one input. -/
def fnExactExtraEdgesWrong : ChangeSpec := { name := "fnExactExtraEdges", fn := fun _ => fun
  | [d] => { results := [.lit (.bool false)], args := [d] }
  | _ => none }
def FnExactExtraEdgesWrongFalsely : Prop := fnExactExtraEdgesRow.holds Try.pinned (OpenSpec.ofChange fnExactExtraEdgesWrong)

/-- 'laws.FnExactCanonicalGraph': WHATEVER THE INPUT: true; the input reads as it did. -/
def fnExactCanonicalGraphSpec : ChangeSpec := { name := "fnExactCanonicalGraph", fn := fun _ => fun
  | [d] => { results := [.lit (.bool true)], args := [d] }
  | _ => none }
def fnExactCanonicalGraphRow : OpenClaim := { program := "ytoncngainbgpcaa", sum := "ef97eec7b3bcef315711374f2075b961c81df47815352e748187d4493050d317", func := "loop.example/g02075/laws.FnExactCanonicalGraph", spec := "fnExactCanonicalGraph", unfollowed := true, recurses := true, apart := false }
def FnExactCanonicalGraphSaid : Prop := fnExactCanonicalGraphRow.holds Try.pinned (OpenSpec.ofChange fnExactCanonicalGraphSpec)

/-- ITS FALSE NEIGHBOUR: 'it returns false'. Refute it at one input. -/
def fnExactCanonicalGraphWrong : ChangeSpec := { name := "fnExactCanonicalGraph", fn := fun _ => fun
  | [d] => { results := [.lit (.bool false)], args := [d] }
  | _ => none }
def FnExactCanonicalGraphWrongFalsely : Prop := fnExactCanonicalGraphRow.holds Try.pinned (OpenSpec.ofChange fnExactCanonicalGraphWrong)

/-- 'laws.FnExactIsCore': WHATEVER THE INPUT: true; the input reads as it did. -/
def fnExactIsCoreSpec : ChangeSpec := { name := "fnExactIsCore", fn := fun _ => fun
  | [d] => { results := [.lit (.bool true)], args := [d] }
  | _ => none }
def fnExactIsCoreRow : OpenClaim := { program := "ytoncngainbgpcaa", sum := "ef97eec7b3bcef315711374f2075b961c81df47815352e748187d4493050d317", func := "loop.example/g02075/laws.FnExactIsCore", spec := "fnExactIsCore", unfollowed := true, recurses := true, apart := false }
def FnExactIsCoreSaid : Prop := fnExactIsCoreRow.holds Try.pinned (OpenSpec.ofChange fnExactIsCoreSpec)

/-- ITS FALSE NEIGHBOUR: 'it returns false'. Refute it at one input. -/
def fnExactIsCoreWrong : ChangeSpec := { name := "fnExactIsCore", fn := fun _ => fun
  | [d] => { results := [.lit (.bool false)], args := [d] }
  | _ => none }
def FnExactIsCoreWrongFalsely : Prop := fnExactIsCoreRow.holds Try.pinned (OpenSpec.ofChange fnExactIsCoreWrong)

/-- 'laws.FnExactIsSubgroup': WHATEVER THE INPUT: true; the input reads as it did. -/
def fnExactIsSubgroupSpec : ChangeSpec := { name := "fnExactIsSubgroup", fn := fun _ => fun
  | [d] => { results := [.lit (.bool true)], args := [d] }
  | _ => none }
def fnExactIsSubgroupRow : OpenClaim := { program := "ytoncngainbgpcaa", sum := "ef97eec7b3bcef315711374f2075b961c81df47815352e748187d4493050d317", func := "loop.example/g02075/laws.FnExactIsSubgroup", spec := "fnExactIsSubgroup", unfollowed := true, recurses := true, apart := false }
def FnExactIsSubgroupSaid : Prop := fnExactIsSubgroupRow.holds Try.pinned (OpenSpec.ofChange fnExactIsSubgroupSpec)

/-- ITS FALSE NEIGHBOUR: 'it returns false'. Refute it at one input. -/
def fnExactIsSubgroupWrong : ChangeSpec := { name := "fnExactIsSubgroup", fn := fun _ => fun
  | [d] => { results := [.lit (.bool false)], args := [d] }
  | _ => none }
def FnExactIsSubgroupWrongFalsely : Prop := fnExactIsSubgroupRow.holds Try.pinned (OpenSpec.ofChange fnExactIsSubgroupWrong)

/-- 'laws.FnExactIsTrivial': WHATEVER THE INPUT: true; the input reads as it did. -/
def fnExactIsTrivialSpec : ChangeSpec := { name := "fnExactIsTrivial", fn := fun _ => fun
  | [d] => { results := [.lit (.bool true)], args := [d] }
  | _ => none }
def fnExactIsTrivialRow : OpenClaim := { program := "ytoncngainbgpcaa", sum := "ef97eec7b3bcef315711374f2075b961c81df47815352e748187d4493050d317", func := "loop.example/g02075/laws.FnExactIsTrivial", spec := "fnExactIsTrivial", unfollowed := true, recurses := true, apart := false }
def FnExactIsTrivialSaid : Prop := fnExactIsTrivialRow.holds Try.pinned (OpenSpec.ofChange fnExactIsTrivialSpec)

/-- ITS FALSE NEIGHBOUR: 'it returns false'. Refute it at one input. -/
def fnExactIsTrivialWrong : ChangeSpec := { name := "fnExactIsTrivial", fn := fun _ => fun
  | [d] => { results := [.lit (.bool false)], args := [d] }
  | _ => none }
def FnExactIsTrivialWrongFalsely : Prop := fnExactIsTrivialRow.holds Try.pinned (OpenSpec.ofChange fnExactIsTrivialWrong)

/-- 'laws.FnExactIsWhole': WHATEVER THE INPUT: true; the input reads as it did. -/
def fnExactIsWholeSpec : ChangeSpec := { name := "fnExactIsWhole", fn := fun _ => fun
  | [d] => { results := [.lit (.bool true)], args := [d] }
  | _ => none }
def fnExactIsWholeRow : OpenClaim := { program := "ytoncngainbgpcaa", sum := "ef97eec7b3bcef315711374f2075b961c81df47815352e748187d4493050d317", func := "loop.example/g02075/laws.FnExactIsWhole", spec := "fnExactIsWhole", unfollowed := true, recurses := true, apart := false }
def FnExactIsWholeSaid : Prop := fnExactIsWholeRow.holds Try.pinned (OpenSpec.ofChange fnExactIsWholeSpec)

/-- ITS FALSE NEIGHBOUR: 'it returns false'. Refute it at one input. -/
def fnExactIsWholeWrong : ChangeSpec := { name := "fnExactIsWhole", fn := fun _ => fun
  | [d] => { results := [.lit (.bool false)], args := [d] }
  | _ => none }
def FnExactIsWholeWrongFalsely : Prop := fnExactIsWholeRow.holds Try.pinned (OpenSpec.ofChange fnExactIsWholeWrong)

/-- 'laws.FnExactRankOf': WHATEVER THE INPUT: true; the input reads as it did. -/
def fnExactRankOfSpec : ChangeSpec := { name := "fnExactRankOf", fn := fun _ => fun
  | [d] => { results := [.lit (.bool true)], args := [d] }
  | _ => none }
def fnExactRankOfRow : OpenClaim := { program := "ytoncngainbgpcaa", sum := "ef97eec7b3bcef315711374f2075b961c81df47815352e748187d4493050d317", func := "loop.example/g02075/laws.FnExactRankOf", spec := "fnExactRankOf", unfollowed := true, recurses := true, apart := false }
def FnExactRankOfSaid : Prop := fnExactRankOfRow.holds Try.pinned (OpenSpec.ofChange fnExactRankOfSpec)

/-- ITS FALSE NEIGHBOUR: 'it returns false'. Refute it at one input. -/
def fnExactRankOfWrong : ChangeSpec := { name := "fnExactRankOf", fn := fun _ => fun
  | [d] => { results := [.lit (.bool false)], args := [d] }
  | _ => none }
def FnExactRankOfWrongFalsely : Prop := fnExactRankOfRow.holds Try.pinned (OpenSpec.ofChange fnExactRankOfWrong)

/-- 'laws.FnExactIsFiniteIndex': WHATEVER THE INPUT: true; the input reads as it did. -/
def fnExactIsFiniteIndexSpec : ChangeSpec := { name := "fnExactIsFiniteIndex", fn := fun _ => fun
  | [d] => { results := [.lit (.bool true)], args := [d] }
  | _ => none }
def fnExactIsFiniteIndexRow : OpenClaim := { program := "ytoncngainbgpcaa", sum := "ef97eec7b3bcef315711374f2075b961c81df47815352e748187d4493050d317", func := "loop.example/g02075/laws.FnExactIsFiniteIndex", spec := "fnExactIsFiniteIndex", unfollowed := true, recurses := true, apart := false }
def FnExactIsFiniteIndexSaid : Prop := fnExactIsFiniteIndexRow.holds Try.pinned (OpenSpec.ofChange fnExactIsFiniteIndexSpec)

/-- ITS FALSE NEIGHBOUR: 'it returns false'. Refute it at one input. -/
def fnExactIsFiniteIndexWrong : ChangeSpec := { name := "fnExactIsFiniteIndex", fn := fun _ => fun
  | [d] => { results := [.lit (.bool false)], args := [d] }
  | _ => none }
def FnExactIsFiniteIndexWrongFalsely : Prop := fnExactIsFiniteIndexRow.holds Try.pinned (OpenSpec.ofChange fnExactIsFiniteIndexWrong)

/- THE SECOND FORM. 'bulk': how many values and letters a reading holds, each counted each time it is reached (what is shared counts as often as it is met; a slice's spare places count too). A statement '..UptoSaid' is the law's where the arguments, and the package variables that the reading takes, are together of bulk at most 1048576: NARROWER than '..Said'. Prove '..Said' where nothing that the law and all that it calls make is longer than what came in: it says more and counts as full. Else prove '..UptoSaid'. A law counts once. -/
mutual
def uptoBulk {H : Type} : DataW H → Nat
  | .lit (.string bytes) => bytes.length + 1
  | .lit _ => 1
  | .nil => 1
  | .ptr d => uptoBulk d + 1
  | .slice elems spare => uptoBulkAll elems + uptoBulkAll spare + 1
  | .agg parts => uptoBulkAll parts + 1
  | .iface _ d => uptoBulk d + 1
  | .map entries => uptoBulkEntries entries + 1
  | .held _ => 1
def uptoBulkAll {H : Type} : List (DataW H) → Nat
  | [] => 0
  | d :: r => uptoBulk d + uptoBulkAll r
def uptoBulkEntries {H : Type} : List (Lit × DataW H) → Nat
  | [] => 0
  | x :: r => uptoBulkEntry x + uptoBulkEntries r
def uptoBulkEntry {H : Type} : Lit × DataW H → Nat
  | (.string bytes, d) => bytes.length + uptoBulk d + 1
  | (_, d) => uptoBulk d + 1
 end
def uptoSmall : (H : Type) → List (DataW H) → Bool := fun _ ds => decide (uptoBulkAll ds ≤ 1048576)
def OpenSpec.upto (s : _root_.Go.ChangeSpec) : _root_.Go.OpenSpec := { _root_.Go.OpenSpec.ofChange s with cond := some uptoSmall }

/-- 'laws.FnExactFoldAll', WHERE WHAT IT READS IS OF BULK AT MOST 1048576: true; the input reads as it did. -/
def fnExactFoldAllUptoRow : OpenClaim := { program := "ytoncngainbgpcaa", sum := "ef97eec7b3bcef315711374f2075b961c81df47815352e748187d4493050d317", func := "loop.example/g02075/laws.FnExactFoldAll", spec := "fnExactFoldAll", unfollowed := true, recurses := true, apart := false, narrowed := true }
def FnExactFoldAllUptoSaid : Prop := fnExactFoldAllUptoRow.holds Try.pinned (OpenSpec.upto fnExactFoldAllSpec)

/-- 'laws.FnExactTrimGraph', WHERE WHAT IT READS IS OF BULK AT MOST 1048576: true; the input reads as it did. -/
def fnExactTrimGraphUptoRow : OpenClaim := { program := "ytoncngainbgpcaa", sum := "ef97eec7b3bcef315711374f2075b961c81df47815352e748187d4493050d317", func := "loop.example/g02075/laws.FnExactTrimGraph", spec := "fnExactTrimGraph", unfollowed := true, recurses := true, apart := false, narrowed := true }
def FnExactTrimGraphUptoSaid : Prop := fnExactTrimGraphUptoRow.holds Try.pinned (OpenSpec.upto fnExactTrimGraphSpec)

/-- 'laws.FnExactLoopOf', WHERE WHAT IT READS IS OF BULK AT MOST 1048576: true; the input reads as it did. -/
def fnExactLoopOfUptoRow : OpenClaim := { program := "ytoncngainbgpcaa", sum := "ef97eec7b3bcef315711374f2075b961c81df47815352e748187d4493050d317", func := "loop.example/g02075/laws.FnExactLoopOf", spec := "fnExactLoopOf", recurses := true, apart := false, narrowed := true }
def FnExactLoopOfUptoSaid : Prop := fnExactLoopOfUptoRow.holds Try.pinned (OpenSpec.upto fnExactLoopOfSpec)

/-- 'laws.FnExactTreeEdges', WHERE WHAT IT READS IS OF BULK AT MOST 1048576: true; the input reads as it did. -/
def fnExactTreeEdgesUptoRow : OpenClaim := { program := "ytoncngainbgpcaa", sum := "ef97eec7b3bcef315711374f2075b961c81df47815352e748187d4493050d317", func := "loop.example/g02075/laws.FnExactTreeEdges", spec := "fnExactTreeEdges", unfollowed := true, recurses := true, apart := false, narrowed := true }
def FnExactTreeEdgesUptoSaid : Prop := fnExactTreeEdgesUptoRow.holds Try.pinned (OpenSpec.upto fnExactTreeEdgesSpec)

/-- 'laws.FnExactExtraEdges', WHERE WHAT IT READS IS OF BULK AT MOST 1048576: true; the input reads as it did. -/
def fnExactExtraEdgesUptoRow : OpenClaim := { program := "ytoncngainbgpcaa", sum := "ef97eec7b3bcef315711374f2075b961c81df47815352e748187d4493050d317", func := "loop.example/g02075/laws.FnExactExtraEdges", spec := "fnExactExtraEdges", unfollowed := true, recurses := true, apart := false, narrowed := true }
def FnExactExtraEdgesUptoSaid : Prop := fnExactExtraEdgesUptoRow.holds Try.pinned (OpenSpec.upto fnExactExtraEdgesSpec)

/-- 'laws.FnExactCanonicalGraph', WHERE WHAT IT READS IS OF BULK AT MOST 1048576: true; the input reads as it did. -/
def fnExactCanonicalGraphUptoRow : OpenClaim := { program := "ytoncngainbgpcaa", sum := "ef97eec7b3bcef315711374f2075b961c81df47815352e748187d4493050d317", func := "loop.example/g02075/laws.FnExactCanonicalGraph", spec := "fnExactCanonicalGraph", unfollowed := true, recurses := true, apart := false, narrowed := true }
def FnExactCanonicalGraphUptoSaid : Prop := fnExactCanonicalGraphUptoRow.holds Try.pinned (OpenSpec.upto fnExactCanonicalGraphSpec)

/-- 'laws.FnExactIsCore', WHERE WHAT IT READS IS OF BULK AT MOST 1048576: true; the input reads as it did. -/
def fnExactIsCoreUptoRow : OpenClaim := { program := "ytoncngainbgpcaa", sum := "ef97eec7b3bcef315711374f2075b961c81df47815352e748187d4493050d317", func := "loop.example/g02075/laws.FnExactIsCore", spec := "fnExactIsCore", unfollowed := true, recurses := true, apart := false, narrowed := true }
def FnExactIsCoreUptoSaid : Prop := fnExactIsCoreUptoRow.holds Try.pinned (OpenSpec.upto fnExactIsCoreSpec)

/-- 'laws.FnExactIsSubgroup', WHERE WHAT IT READS IS OF BULK AT MOST 1048576: true; the input reads as it did. -/
def fnExactIsSubgroupUptoRow : OpenClaim := { program := "ytoncngainbgpcaa", sum := "ef97eec7b3bcef315711374f2075b961c81df47815352e748187d4493050d317", func := "loop.example/g02075/laws.FnExactIsSubgroup", spec := "fnExactIsSubgroup", unfollowed := true, recurses := true, apart := false, narrowed := true }
def FnExactIsSubgroupUptoSaid : Prop := fnExactIsSubgroupUptoRow.holds Try.pinned (OpenSpec.upto fnExactIsSubgroupSpec)

/-- 'laws.FnExactIsTrivial', WHERE WHAT IT READS IS OF BULK AT MOST 1048576: true; the input reads as it did. -/
def fnExactIsTrivialUptoRow : OpenClaim := { program := "ytoncngainbgpcaa", sum := "ef97eec7b3bcef315711374f2075b961c81df47815352e748187d4493050d317", func := "loop.example/g02075/laws.FnExactIsTrivial", spec := "fnExactIsTrivial", unfollowed := true, recurses := true, apart := false, narrowed := true }
def FnExactIsTrivialUptoSaid : Prop := fnExactIsTrivialUptoRow.holds Try.pinned (OpenSpec.upto fnExactIsTrivialSpec)

/-- 'laws.FnExactIsWhole', WHERE WHAT IT READS IS OF BULK AT MOST 1048576: true; the input reads as it did. -/
def fnExactIsWholeUptoRow : OpenClaim := { program := "ytoncngainbgpcaa", sum := "ef97eec7b3bcef315711374f2075b961c81df47815352e748187d4493050d317", func := "loop.example/g02075/laws.FnExactIsWhole", spec := "fnExactIsWhole", unfollowed := true, recurses := true, apart := false, narrowed := true }
def FnExactIsWholeUptoSaid : Prop := fnExactIsWholeUptoRow.holds Try.pinned (OpenSpec.upto fnExactIsWholeSpec)

/-- 'laws.FnExactRankOf', WHERE WHAT IT READS IS OF BULK AT MOST 1048576: true; the input reads as it did. -/
def fnExactRankOfUptoRow : OpenClaim := { program := "ytoncngainbgpcaa", sum := "ef97eec7b3bcef315711374f2075b961c81df47815352e748187d4493050d317", func := "loop.example/g02075/laws.FnExactRankOf", spec := "fnExactRankOf", unfollowed := true, recurses := true, apart := false, narrowed := true }
def FnExactRankOfUptoSaid : Prop := fnExactRankOfUptoRow.holds Try.pinned (OpenSpec.upto fnExactRankOfSpec)

/-- 'laws.FnExactIsFiniteIndex', WHERE WHAT IT READS IS OF BULK AT MOST 1048576: true; the input reads as it did. -/
def fnExactIsFiniteIndexUptoRow : OpenClaim := { program := "ytoncngainbgpcaa", sum := "ef97eec7b3bcef315711374f2075b961c81df47815352e748187d4493050d317", func := "loop.example/g02075/laws.FnExactIsFiniteIndex", spec := "fnExactIsFiniteIndex", unfollowed := true, recurses := true, apart := false, narrowed := true }
def FnExactIsFiniteIndexUptoSaid : Prop := fnExactIsFiniteIndexUptoRow.holds Try.pinned (OpenSpec.upto fnExactIsFiniteIndexSpec)

end Rows
end Go.Proofs.Ytoncngainbgpcaa
