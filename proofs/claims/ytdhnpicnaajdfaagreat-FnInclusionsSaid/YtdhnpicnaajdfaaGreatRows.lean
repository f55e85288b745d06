/-
  No cell of these rows narrows 'for every input' (looked for: loops, veiled, ifaces, maps, wideKeys, modest, calm, conditions, laid).
  DERIVED. THE GIVEN ROWS OF THIS SEAT. 4 by the template 'for every input the law returns true; each argument reads behind the call as it read before'; 0 by the template 'total and deterministic' (their statements: YtdhnpicnaajdfaaGreatTotals.lean).
  GIVEN WITH THE SEED: the statements are not yours to turn. If you find one false, say at which input.
  Laid BY PROGRAM, IN A SANDBOX (cutbox-rows.mjs): the forced cells as the released guide's own fill.sh prints them over the translation 3281838ed0e90bbd… (all of the seat's roots in one cut). By AI agents, Wed Nov 11 2026. No macro, syntax, notation, axiom, sorry.
-/
import Derived.Test.YtdhnpicnaajdfaaGreatChecked
import GoSem.Claim
import GoSem.ClaimJoined
import GoSem.ClaimMapViews
import Derived.JoinedTies
import Derived.KernelRfl
namespace Go.Proofs.YtdhnpicnaajdfaaGreat
/- THE CELL 'sum', in the pinned program and in every row, IS THE sha256 OF THE DUMP (.gsa) THAT YtdhnpicnaajdfaaGreatProg.lean LOADS. Nothing in Lean hashes anything: it is a label: what it is worth is what the hold of that sum in a sandbox is worth. -/
noncomputable def Tryz.pinned : Pinned := { name := "ytdhnpicnaajdfaagreat", sum := "3281838ed0e90bbdd02b2bfcfc15bf63bf32f2bbd4defd53839d6da0ad64b197", checked := Tryz.checked }
namespace Rows
def none {H : Type} : Left H := { results := [], args := [] }

/-- 'laws.FnInclusions': WHATEVER THE INPUT: true; the input reads as it did. -/
def fnInclusionsSpec : ChangeSpec := { name := "fnInclusions", fn := fun _ => fun
  | [d] => { results := [.lit (.bool true)], args := [d] }
  | _ => none }
def fnInclusionsRow : OpenClaim := { program := "ytdhnpicnaajdfaagreat", sum := "3281838ed0e90bbdd02b2bfcfc15bf63bf32f2bbd4defd53839d6da0ad64b197", func := "loop.example/g02075/laws.FnInclusions", spec := "fnInclusions", unfollowed := true, recurses := true, apart := false }
def FnInclusionsSaid : Prop := fnInclusionsRow.holds Tryz.pinned (OpenSpec.ofChange fnInclusionsSpec)

/-- ITS FALSE NEIGHBOUR: 'it returns false'. Refute it at one input. -/
def fnInclusionsWrong : ChangeSpec := { name := "fnInclusions", fn := fun _ => fun
  | [d] => { results := [.lit (.bool false)], args := [d] }
  | _ => none }
def FnInclusionsWrongFalsely : Prop := fnInclusionsRow.holds Tryz.pinned (OpenSpec.ofChange fnInclusionsWrong)

/-- 'laws.FnTrees': WHATEVER THE INPUT: true; the input reads as it did. -/
def fnTreesSpec : ChangeSpec := { name := "fnTrees", fn := fun _ => fun
  | [d] => { results := [.lit (.bool true)], args := [d] }
  | _ => none }
def fnTreesRow : OpenClaim := { program := "ytdhnpicnaajdfaagreat", sum := "3281838ed0e90bbdd02b2bfcfc15bf63bf32f2bbd4defd53839d6da0ad64b197", func := "loop.example/g02075/laws.FnTrees", spec := "fnTrees", unfollowed := true, recurses := true, apart := false }
def FnTreesSaid : Prop := fnTreesRow.holds Tryz.pinned (OpenSpec.ofChange fnTreesSpec)

/-- ITS FALSE NEIGHBOUR: 'it returns false'. Refute it at one input. -/
def fnTreesWrong : ChangeSpec := { name := "fnTrees", fn := fun _ => fun
  | [d] => { results := [.lit (.bool false)], args := [d] }
  | _ => none }
def FnTreesWrongFalsely : Prop := fnTreesRow.holds Tryz.pinned (OpenSpec.ofChange fnTreesWrong)

/-- 'laws.FnOrders': WHATEVER THE INPUT: true; the input reads as it did. -/
def fnOrdersSpec : ChangeSpec := { name := "fnOrders", fn := fun _ => fun
  | [d] => { results := [.lit (.bool true)], args := [d] }
  | _ => none }
def fnOrdersRow : OpenClaim := { program := "ytdhnpicnaajdfaagreat", sum := "3281838ed0e90bbdd02b2bfcfc15bf63bf32f2bbd4defd53839d6da0ad64b197", func := "loop.example/g02075/laws.FnOrders", spec := "fnOrders", unfollowed := true, recurses := true, apart := false }
def FnOrdersSaid : Prop := fnOrdersRow.holds Tryz.pinned (OpenSpec.ofChange fnOrdersSpec)

/-- ITS FALSE NEIGHBOUR: 'it returns false'. Refute it at one input. -/
def fnOrdersWrong : ChangeSpec := { name := "fnOrders", fn := fun _ => fun
  | [d] => { results := [.lit (.bool false)], args := [d] }
  | _ => none }
def FnOrdersWrongFalsely : Prop := fnOrdersRow.holds Tryz.pinned (OpenSpec.ofChange fnOrdersWrong)

/-- 'laws.FnCores': WHATEVER THE INPUT: true; the input reads as it did. -/
def fnCoresSpec : ChangeSpec := { name := "fnCores", fn := fun _ => fun
  | [d] => { results := [.lit (.bool true)], args := [d] }
  | _ => none }
def fnCoresRow : OpenClaim := { program := "ytdhnpicnaajdfaagreat", sum := "3281838ed0e90bbdd02b2bfcfc15bf63bf32f2bbd4defd53839d6da0ad64b197", func := "loop.example/g02075/laws.FnCores", spec := "fnCores", unfollowed := true, recurses := true, apart := false }
def FnCoresSaid : Prop := fnCoresRow.holds Tryz.pinned (OpenSpec.ofChange fnCoresSpec)

/-- ITS FALSE NEIGHBOUR: 'it returns false'. Refute it at one input. -/
def fnCoresWrong : ChangeSpec := { name := "fnCores", fn := fun _ => fun
  | [d] => { results := [.lit (.bool false)], args := [d] }
  | _ => none }
def FnCoresWrongFalsely : Prop := fnCoresRow.holds Tryz.pinned (OpenSpec.ofChange fnCoresWrong)

/- THE SECOND FORM. 'bulk': how many values and letters a reading holds, each counted each time it is reached (what is shared counts as often as it is met; a slice's spare places count too). A statement '..UptoSaid' is the law's where the arguments, and the package variables that the reading takes, are together of bulk at most 1048576: NARROWER than '..Said'. Prove '..Said' where nothing that the law and all that it calls make is longer than what came in: it says more and counts as full. Else prove '..UptoSaid'. A law counts once. -/
mutual
def uptoBulk {H : Type} : DataW H → Nat
  | .lit (.string bytes) => bytes.length + 1
  | .lit _ => 1
  | .nil => 1
  | .ptr d => uptoBulk d + 1
  | .slice elems spare => uptoBulkAll elems + uptoBulkAll spare + 1
  | .agg parts => uptoBulkAll parts + 1
  | .iface _ d => uptoBulk d + 1
  | .map entries => uptoBulkEntries entries + 1
  | .held _ => 1
def uptoBulkAll {H : Type} : List (DataW H) → Nat
  | [] => 0
  | d :: r => uptoBulk d + uptoBulkAll r
def uptoBulkEntries {H : Type} : List (Lit × DataW H) → Nat
  | [] => 0
  | x :: r => uptoBulkEntry x + uptoBulkEntries r
def uptoBulkEntry {H : Type} : Lit × DataW H → Nat
  | (.string bytes, d) => bytes.length + uptoBulk d + 1
  | (_, d) => uptoBulk d + 1
 end
def uptoSmall : (H : Type) → List (DataW H) → Bool := fun _ ds => decide (uptoBulkAll ds ≤ 1048576)
def OpenSpec.upto (s : _root_.Go.ChangeSpec) : _root_.Go.OpenSpec := { _root_.Go.OpenSpec.ofChange s with cond := some uptoSmall }

/-- 'laws.FnInclusions', WHERE WHAT IT READS IS OF BULK AT MOST 1048576: true; the input reads as it did. -/
def fnInclusionsUptoRow : OpenClaim := { program := "ytdhnpicnaajdfaagreat", sum := "3281838ed0e90bbdd02b2bfcfc15bf63bf32f2bbd4defd53839d6da0ad64b197", func := "loop.example/g02075/laws.FnInclusions", spec := "fnInclusions", unfollowed := true, recurses := true, apart := false, narrowed := true }
def FnInclusionsUptoSaid : Prop := fnInclusionsUptoRow.holds Tryz.pinned (OpenSpec.upto fnInclusionsSpec)

/-- 'laws.FnTrees', WHERE WHAT IT READS IS OF BULK AT MOST 1048576: true; the input reads as it did. -/
def fnTreesUptoRow : OpenClaim := { program := "ytdhnpicnaajdfaagreat", sum := "3281838ed0e90bbdd02b2bfcfc15bf63bf32f2bbd4defd53839d6da0ad64b197", func := "loop.example/g02075/laws.FnTrees", spec := "fnTrees", unfollowed := true, recurses := true, apart := false, narrowed := true }
def FnTreesUptoSaid : Prop := fnTreesUptoRow.holds Tryz.pinned (OpenSpec.upto fnTreesSpec)

/-- 'laws.FnOrders', WHERE WHAT IT READS IS OF BULK AT MOST 1048576: true; the input reads as it did. -/
def fnOrdersUptoRow : OpenClaim := { program := "ytdhnpicnaajdfaagreat", sum := "3281838ed0e90bbdd02b2bfcfc15bf63bf32f2bbd4defd53839d6da0ad64b197", func := "loop.example/g02075/laws.FnOrders", spec := "fnOrders", unfollowed := true, recurses := true, apart := false, narrowed := true }
def FnOrdersUptoSaid : Prop := fnOrdersUptoRow.holds Tryz.pinned (OpenSpec.upto fnOrdersSpec)

/-- 'laws.FnCores', WHERE WHAT IT READS IS OF BULK AT MOST 1048576: true; the input reads as it did. -/
def fnCoresUptoRow : OpenClaim := { program := "ytdhnpicnaajdfaagreat", sum := "3281838ed0e90bbdd02b2bfcfc15bf63bf32f2bbd4defd53839d6da0ad64b197", func := "loop.example/g02075/laws.FnCores", spec := "fnCores", unfollowed := true, recurses := true, apart := false, narrowed := true }
def FnCoresUptoSaid : Prop := fnCoresUptoRow.holds Tryz.pinned (OpenSpec.upto fnCoresSpec)

end Rows
end Go.Proofs.YtdhnpicnaajdfaaGreat
