/-
  No cell of these rows narrows 'for every input' (looked for: loops, veiled, ifaces, maps, wideKeys, modest, calm, conditions, laid).
  DERIVED. THE GIVEN ROWS OF THIS SEAT. 7 by the template 'for every input the law returns true; each argument reads behind the call as it read before'; 0 by the template 'total and deterministic' (their statements: YtfaglimgjfhdfaaGreatTotals.lean).
  GIVEN WITH THE SEED: the statements are not yours to turn. If you find one false, say at which input.
  Laid BY PROGRAM, IN A SANDBOX (cutbox-rows.mjs): the forced cells as the released guide's own fill.sh prints them over the translation 35aab87f3f116a63… (all of the seat's roots in one cut). By AI agents, Wed Nov 11 2026. No macro, syntax, notation, axiom, sorry.
-/
import Derived.Test.YtfaglimgjfhdfaaGreatChecked
import GoSem.Claim
import GoSem.ClaimJoined
import GoSem.ClaimMapViews
import Derived.JoinedTies
import Derived.KernelRfl
namespace Go.Proofs.YtfaglimgjfhdfaaGreat
/- THE CELL 'sum', in the pinned program and in every row, IS THE sha256 OF THE DUMP (.gsa) THAT YtfaglimgjfhdfaaGreatProg.lean LOADS. Nothing in Lean hashes anything: it is a label: what it is worth is what the hold of that sum in a sandbox is worth. -/
noncomputable def Tryz.pinned : Pinned := { name := "ytfaglimgjfhdfaagreat", sum := "35aab87f3f116a6329e46549f93c7c57f4e5ca2fab1723071397a43cb7448578", checked := Tryz.checked }
namespace Rows
def none {H : Type} : Left H := { results := [], args := [] }

/-- 'torsionlaw10.DetLarge': WHATEVER THE INPUT: true; the input reads as it did. -/
def detLargeSpec : ChangeSpec := { name := "detLarge", fn := fun _ => fun
  | [d1, d2] => { results := [.lit (.bool true)], args := [d1, d2] }
  | _ => none }
def detLargeRow : OpenClaim := { program := "ytfaglimgjfhdfaagreat", sum := "35aab87f3f116a6329e46549f93c7c57f4e5ca2fab1723071397a43cb7448578", func := "torsion/torsionlaw10.DetLarge", spec := "detLarge", inPlace := ["(*sync.WaitGroup).Add", "internal/race.ReleaseMerge", "internal/race.Disable", "internal/race.Enable", "internal/synctest.IsInBubble", "internal/synctest.Associate[sync.WaitGroup]", "sync.fatal", "sync/atomic.OrUint64", "sync/atomic.AddUint64", "internal/race.Read", "sync/atomic.LoadUint64", "sync/atomic.StoreUint64", "internal/synctest.Disassociate[sync.WaitGroup]", "sync.runtime_Semrelease", "(*sync.WaitGroup).Done", "(*sync.WaitGroup).Wait", "internal/race.Acquire", "internal/synctest.IsAssociated[sync.WaitGroup]", "sync/atomic.CompareAndSwapUint64", "internal/race.Write", "sync.runtime_SemacquireWaitGroup"], unfollowed := true, recurses := true, leaving := true, apart := false }
def DetLargeSaid : Prop := detLargeRow.holds Tryz.pinned (OpenSpec.ofChange detLargeSpec)

/-- ITS FALSE NEIGHBOUR: 'it returns false'. Refute it at one input. -/
def detLargeWrong : ChangeSpec := { name := "detLarge", fn := fun _ => fun
  | [d1, d2] => { results := [.lit (.bool false)], args := [d1, d2] }
  | _ => none }
def DetLargeWrongFalsely : Prop := detLargeRow.holds Tryz.pinned (OpenSpec.ofChange detLargeWrong)

/-- 'torsionlaw10.DetResidues': WHATEVER THE INPUT: true; the input reads as it did. -/
def detResiduesSpec : ChangeSpec := { name := "detResidues", fn := fun _ => fun
  | [d1, d2] => { results := [.lit (.bool true)], args := [d1, d2] }
  | _ => none }
def detResiduesRow : OpenClaim := { program := "ytfaglimgjfhdfaagreat", sum := "35aab87f3f116a6329e46549f93c7c57f4e5ca2fab1723071397a43cb7448578", func := "torsion/torsionlaw10.DetResidues", spec := "detResidues", inPlace := ["(*sync.WaitGroup).Add", "internal/race.ReleaseMerge", "internal/race.Disable", "internal/race.Enable", "internal/synctest.IsInBubble", "internal/synctest.Associate[sync.WaitGroup]", "sync.fatal", "sync/atomic.OrUint64", "sync/atomic.AddUint64", "internal/race.Read", "sync/atomic.LoadUint64", "sync/atomic.StoreUint64", "internal/synctest.Disassociate[sync.WaitGroup]", "sync.runtime_Semrelease", "(*sync.WaitGroup).Done", "(*sync.WaitGroup).Wait", "internal/race.Acquire", "internal/synctest.IsAssociated[sync.WaitGroup]", "sync/atomic.CompareAndSwapUint64", "internal/race.Write", "sync.runtime_SemacquireWaitGroup"], unfollowed := true, recurses := true, leaving := true, apart := false }
def DetResiduesSaid : Prop := detResiduesRow.holds Tryz.pinned (OpenSpec.ofChange detResiduesSpec)

/-- ITS FALSE NEIGHBOUR: 'it returns false'. Refute it at one input. -/
def detResiduesWrong : ChangeSpec := { name := "detResidues", fn := fun _ => fun
  | [d1, d2] => { results := [.lit (.bool false)], args := [d1, d2] }
  | _ => none }
def DetResiduesWrongFalsely : Prop := detResiduesRow.holds Tryz.pinned (OpenSpec.ofChange detResiduesWrong)

/-- 'torsionlaw10.DetMultiplies': WHATEVER THE INPUT: true; the input reads as it did. -/
def detMultipliesSpec : ChangeSpec := { name := "detMultiplies", fn := fun _ => fun
  | [d1, d2] => { results := [.lit (.bool true)], args := [d1, d2] }
  | _ => none }
def detMultipliesRow : OpenClaim := { program := "ytfaglimgjfhdfaagreat", sum := "35aab87f3f116a6329e46549f93c7c57f4e5ca2fab1723071397a43cb7448578", func := "torsion/torsionlaw10.DetMultiplies", spec := "detMultiplies", inPlace := ["(*sync.WaitGroup).Add", "internal/race.ReleaseMerge", "internal/race.Disable", "internal/race.Enable", "internal/synctest.IsInBubble", "internal/synctest.Associate[sync.WaitGroup]", "sync.fatal", "sync/atomic.OrUint64", "sync/atomic.AddUint64", "internal/race.Read", "sync/atomic.LoadUint64", "sync/atomic.StoreUint64", "internal/synctest.Disassociate[sync.WaitGroup]", "sync.runtime_Semrelease", "(*sync.WaitGroup).Done", "(*sync.WaitGroup).Wait", "internal/race.Acquire", "internal/synctest.IsAssociated[sync.WaitGroup]", "sync/atomic.CompareAndSwapUint64", "internal/race.Write", "sync.runtime_SemacquireWaitGroup"], unfollowed := true, recurses := true, leaving := true, apart := false }
def DetMultipliesSaid : Prop := detMultipliesRow.holds Tryz.pinned (OpenSpec.ofChange detMultipliesSpec)

/-- ITS FALSE NEIGHBOUR: 'it returns false'. Refute it at one input. -/
def detMultipliesWrong : ChangeSpec := { name := "detMultiplies", fn := fun _ => fun
  | [d1, d2] => { results := [.lit (.bool false)], args := [d1, d2] }
  | _ => none }
def DetMultipliesWrongFalsely : Prop := detMultipliesRow.holds Tryz.pinned (OpenSpec.ofChange detMultipliesWrong)

/-- 'torsionlaw10.DetRows': WHATEVER THE INPUT: true; the input reads as it did. -/
def detRowsSpec : ChangeSpec := { name := "detRows", fn := fun _ => fun
  | [d1, d2, d3] => { results := [.lit (.bool true)], args := [d1, d2, d3] }
  | _ => none }
def detRowsRow : OpenClaim := { program := "ytfaglimgjfhdfaagreat", sum := "35aab87f3f116a6329e46549f93c7c57f4e5ca2fab1723071397a43cb7448578", func := "torsion/torsionlaw10.DetRows", spec := "detRows", inPlace := ["(*sync.WaitGroup).Add", "internal/race.ReleaseMerge", "internal/race.Disable", "internal/race.Enable", "internal/synctest.IsInBubble", "internal/synctest.Associate[sync.WaitGroup]", "sync.fatal", "sync/atomic.OrUint64", "sync/atomic.AddUint64", "internal/race.Read", "sync/atomic.LoadUint64", "sync/atomic.StoreUint64", "internal/synctest.Disassociate[sync.WaitGroup]", "sync.runtime_Semrelease", "(*sync.WaitGroup).Done", "(*sync.WaitGroup).Wait", "internal/race.Acquire", "internal/synctest.IsAssociated[sync.WaitGroup]", "sync/atomic.CompareAndSwapUint64", "internal/race.Write", "sync.runtime_SemacquireWaitGroup"], unfollowed := true, recurses := true, leaving := true, apart := false }
def DetRowsSaid : Prop := detRowsRow.holds Tryz.pinned (OpenSpec.ofChange detRowsSpec)

/-- ITS FALSE NEIGHBOUR: 'it returns false'. Refute it at one input. -/
def detRowsWrong : ChangeSpec := { name := "detRows", fn := fun _ => fun
  | [d1, d2, d3] => { results := [.lit (.bool false)], args := [d1, d2, d3] }
  | _ => none }
def DetRowsWrongFalsely : Prop := detRowsRow.holds Tryz.pinned (OpenSpec.ofChange detRowsWrong)

/-- 'torsionlaw10.DetLinear': WHATEVER THE INPUT: true; the input reads as it did. -/
def detLinearSpec : ChangeSpec := { name := "detLinear", fn := fun _ => fun
  | [d1, d2, d3] => { results := [.lit (.bool true)], args := [d1, d2, d3] }
  | _ => none }
def detLinearRow : OpenClaim := { program := "ytfaglimgjfhdfaagreat", sum := "35aab87f3f116a6329e46549f93c7c57f4e5ca2fab1723071397a43cb7448578", func := "torsion/torsionlaw10.DetLinear", spec := "detLinear", inPlace := ["(*sync.WaitGroup).Add", "internal/race.ReleaseMerge", "internal/race.Disable", "internal/race.Enable", "internal/synctest.IsInBubble", "internal/synctest.Associate[sync.WaitGroup]", "sync.fatal", "sync/atomic.OrUint64", "sync/atomic.AddUint64", "internal/race.Read", "sync/atomic.LoadUint64", "sync/atomic.StoreUint64", "internal/synctest.Disassociate[sync.WaitGroup]", "sync.runtime_Semrelease", "(*sync.WaitGroup).Done", "(*sync.WaitGroup).Wait", "internal/race.Acquire", "internal/synctest.IsAssociated[sync.WaitGroup]", "sync/atomic.CompareAndSwapUint64", "internal/race.Write", "sync.runtime_SemacquireWaitGroup"], unfollowed := true, recurses := true, leaving := true, apart := false }
def DetLinearSaid : Prop := detLinearRow.holds Tryz.pinned (OpenSpec.ofChange detLinearSpec)

/-- ITS FALSE NEIGHBOUR: 'it returns false'. Refute it at one input. -/
def detLinearWrong : ChangeSpec := { name := "detLinear", fn := fun _ => fun
  | [d1, d2, d3] => { results := [.lit (.bool false)], args := [d1, d2, d3] }
  | _ => none }
def DetLinearWrongFalsely : Prop := detLinearRow.holds Tryz.pinned (OpenSpec.ofChange detLinearWrong)

/-- 'torsionlaw10.DetBlocks': WHATEVER THE INPUT: true; the input reads as it did. -/
def detBlocksSpec : ChangeSpec := { name := "detBlocks", fn := fun _ => fun
  | [d1, d2, d3] => { results := [.lit (.bool true)], args := [d1, d2, d3] }
  | _ => none }
def detBlocksRow : OpenClaim := { program := "ytfaglimgjfhdfaagreat", sum := "35aab87f3f116a6329e46549f93c7c57f4e5ca2fab1723071397a43cb7448578", func := "torsion/torsionlaw10.DetBlocks", spec := "detBlocks", inPlace := ["(*sync.WaitGroup).Add", "internal/race.ReleaseMerge", "internal/race.Disable", "internal/race.Enable", "internal/synctest.IsInBubble", "internal/synctest.Associate[sync.WaitGroup]", "sync.fatal", "sync/atomic.OrUint64", "sync/atomic.AddUint64", "internal/race.Read", "sync/atomic.LoadUint64", "sync/atomic.StoreUint64", "internal/synctest.Disassociate[sync.WaitGroup]", "sync.runtime_Semrelease", "(*sync.WaitGroup).Done", "(*sync.WaitGroup).Wait", "internal/race.Acquire", "internal/synctest.IsAssociated[sync.WaitGroup]", "sync/atomic.CompareAndSwapUint64", "internal/race.Write", "sync.runtime_SemacquireWaitGroup"], unfollowed := true, recurses := true, leaving := true, apart := false }
def DetBlocksSaid : Prop := detBlocksRow.holds Tryz.pinned (OpenSpec.ofChange detBlocksSpec)

/-- ITS FALSE NEIGHBOUR: 'it returns false'. Refute it at one input. -/
def detBlocksWrong : ChangeSpec := { name := "detBlocks", fn := fun _ => fun
  | [d1, d2, d3] => { results := [.lit (.bool false)], args := [d1, d2, d3] }
  | _ => none }
def DetBlocksWrongFalsely : Prop := detBlocksRow.holds Tryz.pinned (OpenSpec.ofChange detBlocksWrong)

/-- 'torsionlaw10.DetBounded': WHATEVER THE INPUT: true; the input reads as it did. -/
def detBoundedSpec : ChangeSpec := { name := "detBounded", fn := fun _ => fun
  | [d1, d2, d3] => { results := [.lit (.bool true)], args := [d1, d2, d3] }
  | _ => none }
def detBoundedRow : OpenClaim := { program := "ytfaglimgjfhdfaagreat", sum := "35aab87f3f116a6329e46549f93c7c57f4e5ca2fab1723071397a43cb7448578", func := "torsion/torsionlaw10.DetBounded", spec := "detBounded", inPlace := ["(*sync.WaitGroup).Add", "internal/race.ReleaseMerge", "internal/race.Disable", "internal/race.Enable", "internal/synctest.IsInBubble", "internal/synctest.Associate[sync.WaitGroup]", "sync.fatal", "sync/atomic.OrUint64", "sync/atomic.AddUint64", "internal/race.Read", "sync/atomic.LoadUint64", "sync/atomic.StoreUint64", "internal/synctest.Disassociate[sync.WaitGroup]", "sync.runtime_Semrelease", "(*sync.WaitGroup).Done", "(*sync.WaitGroup).Wait", "internal/race.Acquire", "internal/synctest.IsAssociated[sync.WaitGroup]", "sync/atomic.CompareAndSwapUint64", "internal/race.Write", "sync.runtime_SemacquireWaitGroup"], unfollowed := true, recurses := true, leaving := true, apart := false }
def DetBoundedSaid : Prop := detBoundedRow.holds Tryz.pinned (OpenSpec.ofChange detBoundedSpec)

/-- ITS FALSE NEIGHBOUR: 'it returns false'. Refute it at one input. -/
def detBoundedWrong : ChangeSpec := { name := "detBounded", fn := fun _ => fun
  | [d1, d2, d3] => { results := [.lit (.bool false)], args := [d1, d2, d3] }
  | _ => none }
def DetBoundedWrongFalsely : Prop := detBoundedRow.holds Tryz.pinned (OpenSpec.ofChange detBoundedWrong)

/- THE SECOND FORM. 'bulk': how many values and letters a reading holds, each counted each time it is reached (what is shared counts as often as it is met; a slice's spare places count too). A statement '..UptoSaid' is the law's where the arguments, and the package variables that the reading takes, are together of bulk at most 1048576: NARROWER than '..Said'. Prove '..Said' where nothing that the law and all that it calls make is longer than what came in: it says more and counts as full. Else prove '..UptoSaid'. A law counts once. -/
mutual
def uptoBulk {H : Type} : DataW H → Nat
  | .lit (.string bytes) => bytes.length + 1
  | .lit _ => 1
  | .nil => 1
  | .ptr d => uptoBulk d + 1
  | .slice elems spare => uptoBulkAll elems + uptoBulkAll spare + 1
  | .agg parts => uptoBulkAll parts + 1
  | .iface _ d => uptoBulk d + 1
  | .map entries => uptoBulkEntries entries + 1
  | .held _ => 1
def uptoBulkAll {H : Type} : List (DataW H) → Nat
  | [] => 0
  | d :: r => uptoBulk d + uptoBulkAll r
def uptoBulkEntries {H : Type} : List (Lit × DataW H) → Nat
  | [] => 0
  | x :: r => uptoBulkEntry x + uptoBulkEntries r
def uptoBulkEntry {H : Type} : Lit × DataW H → Nat
  | (.string bytes, d) => bytes.length + uptoBulk d + 1
  | (_, d) => uptoBulk d + 1
 end
def uptoSmall : (H : Type) → List (DataW H) → Bool := fun _ ds => decide (uptoBulkAll ds ≤ 1048576)
def OpenSpec.upto (s : _root_.Go.ChangeSpec) : _root_.Go.OpenSpec := { _root_.Go.OpenSpec.ofChange s with cond := some uptoSmall }

/-- 'torsionlaw10.DetLarge', WHERE WHAT IT READS IS OF BULK AT MOST 1048576: true; the input reads as it did. -/
def detLargeUptoRow : OpenClaim := { program := "ytfaglimgjfhdfaagreat", sum := "35aab87f3f116a6329e46549f93c7c57f4e5ca2fab1723071397a43cb7448578", func := "torsion/torsionlaw10.DetLarge", spec := "detLarge", inPlace := ["(*sync.WaitGroup).Add", "internal/race.ReleaseMerge", "internal/race.Disable", "internal/race.Enable", "internal/synctest.IsInBubble", "internal/synctest.Associate[sync.WaitGroup]", "sync.fatal", "sync/atomic.OrUint64", "sync/atomic.AddUint64", "internal/race.Read", "sync/atomic.LoadUint64", "sync/atomic.StoreUint64", "internal/synctest.Disassociate[sync.WaitGroup]", "sync.runtime_Semrelease", "(*sync.WaitGroup).Done", "(*sync.WaitGroup).Wait", "internal/race.Acquire", "internal/synctest.IsAssociated[sync.WaitGroup]", "sync/atomic.CompareAndSwapUint64", "internal/race.Write", "sync.runtime_SemacquireWaitGroup"], unfollowed := true, recurses := true, leaving := true, apart := false, narrowed := true }
def DetLargeUptoSaid : Prop := detLargeUptoRow.holds Tryz.pinned (OpenSpec.upto detLargeSpec)

/-- 'torsionlaw10.DetResidues', WHERE WHAT IT READS IS OF BULK AT MOST 1048576: true; the input reads as it did. -/
def detResiduesUptoRow : OpenClaim := { program := "ytfaglimgjfhdfaagreat", sum := "35aab87f3f116a6329e46549f93c7c57f4e5ca2fab1723071397a43cb7448578", func := "torsion/torsionlaw10.DetResidues", spec := "detResidues", inPlace := ["(*sync.WaitGroup).Add", "internal/race.ReleaseMerge", "internal/race.Disable", "internal/race.Enable", "internal/synctest.IsInBubble", "internal/synctest.Associate[sync.WaitGroup]", "sync.fatal", "sync/atomic.OrUint64", "sync/atomic.AddUint64", "internal/race.Read", "sync/atomic.LoadUint64", "sync/atomic.StoreUint64", "internal/synctest.Disassociate[sync.WaitGroup]", "sync.runtime_Semrelease", "(*sync.WaitGroup).Done", "(*sync.WaitGroup).Wait", "internal/race.Acquire", "internal/synctest.IsAssociated[sync.WaitGroup]", "sync/atomic.CompareAndSwapUint64", "internal/race.Write", "sync.runtime_SemacquireWaitGroup"], unfollowed := true, recurses := true, leaving := true, apart := false, narrowed := true }
def DetResiduesUptoSaid : Prop := detResiduesUptoRow.holds Tryz.pinned (OpenSpec.upto detResiduesSpec)

/-- 'torsionlaw10.DetMultiplies', WHERE WHAT IT READS IS OF BULK AT MOST 1048576: true; the input reads as it did. -/
def detMultipliesUptoRow : OpenClaim := { program := "ytfaglimgjfhdfaagreat", sum := "35aab87f3f116a6329e46549f93c7c57f4e5ca2fab1723071397a43cb7448578", func := "torsion/torsionlaw10.DetMultiplies", spec := "detMultiplies", inPlace := ["(*sync.WaitGroup).Add", "internal/race.ReleaseMerge", "internal/race.Disable", "internal/race.Enable", "internal/synctest.IsInBubble", "internal/synctest.Associate[sync.WaitGroup]", "sync.fatal", "sync/atomic.OrUint64", "sync/atomic.AddUint64", "internal/race.Read", "sync/atomic.LoadUint64", "sync/atomic.StoreUint64", "internal/synctest.Disassociate[sync.WaitGroup]", "sync.runtime_Semrelease", "(*sync.WaitGroup).Done", "(*sync.WaitGroup).Wait", "internal/race.Acquire", "internal/synctest.IsAssociated[sync.WaitGroup]", "sync/atomic.CompareAndSwapUint64", "internal/race.Write", "sync.runtime_SemacquireWaitGroup"], unfollowed := true, recurses := true, leaving := true, apart := false, narrowed := true }
def DetMultipliesUptoSaid : Prop := detMultipliesUptoRow.holds Tryz.pinned (OpenSpec.upto detMultipliesSpec)

/-- 'torsionlaw10.DetRows', WHERE WHAT IT READS IS OF BULK AT MOST 1048576: true; the input reads as it did. -/
def detRowsUptoRow : OpenClaim := { program := "ytfaglimgjfhdfaagreat", sum := "35aab87f3f116a6329e46549f93c7c57f4e5ca2fab1723071397a43cb7448578", func := "torsion/torsionlaw10.DetRows", spec := "detRows", inPlace := ["(*sync.WaitGroup).Add", "internal/race.ReleaseMerge", "internal/race.Disable", "internal/race.Enable", "internal/synctest.IsInBubble", "internal/synctest.Associate[sync.WaitGroup]", "sync.fatal", "sync/atomic.OrUint64", "sync/atomic.AddUint64", "internal/race.Read", "sync/atomic.LoadUint64", "sync/atomic.StoreUint64", "internal/synctest.Disassociate[sync.WaitGroup]", "sync.runtime_Semrelease", "(*sync.WaitGroup).Done", "(*sync.WaitGroup).Wait", "internal/race.Acquire", "internal/synctest.IsAssociated[sync.WaitGroup]", "sync/atomic.CompareAndSwapUint64", "internal/race.Write", "sync.runtime_SemacquireWaitGroup"], unfollowed := true, recurses := true, leaving := true, apart := false, narrowed := true }
def DetRowsUptoSaid : Prop := detRowsUptoRow.holds Tryz.pinned (OpenSpec.upto detRowsSpec)

/-- 'torsionlaw10.DetLinear', WHERE WHAT IT READS IS OF BULK AT MOST 1048576: true; the input reads as it did. -/
def detLinearUptoRow : OpenClaim := { program := "ytfaglimgjfhdfaagreat", sum := "35aab87f3f116a6329e46549f93c7c57f4e5ca2fab1723071397a43cb7448578", func := "torsion/torsionlaw10.DetLinear", spec := "detLinear", inPlace := ["(*sync.WaitGroup).Add", "internal/race.ReleaseMerge", "internal/race.Disable", "internal/race.Enable", "internal/synctest.IsInBubble", "internal/synctest.Associate[sync.WaitGroup]", "sync.fatal", "sync/atomic.OrUint64", "sync/atomic.AddUint64", "internal/race.Read", "sync/atomic.LoadUint64", "sync/atomic.StoreUint64", "internal/synctest.Disassociate[sync.WaitGroup]", "sync.runtime_Semrelease", "(*sync.WaitGroup).Done", "(*sync.WaitGroup).Wait", "internal/race.Acquire", "internal/synctest.IsAssociated[sync.WaitGroup]", "sync/atomic.CompareAndSwapUint64", "internal/race.Write", "sync.runtime_SemacquireWaitGroup"], unfollowed := true, recurses := true, leaving := true, apart := false, narrowed := true }
def DetLinearUptoSaid : Prop := detLinearUptoRow.holds Tryz.pinned (OpenSpec.upto detLinearSpec)

/-- 'torsionlaw10.DetBlocks', WHERE WHAT IT READS IS OF BULK AT MOST 1048576: true; the input reads as it did. -/
def detBlocksUptoRow : OpenClaim := { program := "ytfaglimgjfhdfaagreat", sum := "35aab87f3f116a6329e46549f93c7c57f4e5ca2fab1723071397a43cb7448578", func := "torsion/torsionlaw10.DetBlocks", spec := "detBlocks", inPlace := ["(*sync.WaitGroup).Add", "internal/race.ReleaseMerge", "internal/race.Disable", "internal/race.Enable", "internal/synctest.IsInBubble", "internal/synctest.Associate[sync.WaitGroup]", "sync.fatal", "sync/atomic.OrUint64", "sync/atomic.AddUint64", "internal/race.Read", "sync/atomic.LoadUint64", "sync/atomic.StoreUint64", "internal/synctest.Disassociate[sync.WaitGroup]", "sync.runtime_Semrelease", "(*sync.WaitGroup).Done", "(*sync.WaitGroup).Wait", "internal/race.Acquire", "internal/synctest.IsAssociated[sync.WaitGroup]", "sync/atomic.CompareAndSwapUint64", "internal/race.Write", "sync.runtime_SemacquireWaitGroup"], unfollowed := true, recurses := true, leaving := true, apart := false, narrowed := true }
def DetBlocksUptoSaid : Prop := detBlocksUptoRow.holds Tryz.pinned (OpenSpec.upto detBlocksSpec)

/-- 'torsionlaw10.DetBounded', WHERE WHAT IT READS IS OF BULK AT MOST 1048576: true; the input reads as it did. -/
def detBoundedUptoRow : OpenClaim := { program := "ytfaglimgjfhdfaagreat", sum := "35aab87f3f116a6329e46549f93c7c57f4e5ca2fab1723071397a43cb7448578", func := "torsion/torsionlaw10.DetBounded", spec := "detBounded", inPlace := ["(*sync.WaitGroup).Add", "internal/race.ReleaseMerge", "internal/race.Disable", "internal/race.Enable", "internal/synctest.IsInBubble", "internal/synctest.Associate[sync.WaitGroup]", "sync.fatal", "sync/atomic.OrUint64", "sync/atomic.AddUint64", "internal/race.Read", "sync/atomic.LoadUint64", "sync/atomic.StoreUint64", "internal/synctest.Disassociate[sync.WaitGroup]", "sync.runtime_Semrelease", "(*sync.WaitGroup).Done", "(*sync.WaitGroup).Wait", "internal/race.Acquire", "internal/synctest.IsAssociated[sync.WaitGroup]", "sync/atomic.CompareAndSwapUint64", "internal/race.Write", "sync.runtime_SemacquireWaitGroup"], unfollowed := true, recurses := true, leaving := true, apart := false, narrowed := true }
def DetBoundedUptoSaid : Prop := detBoundedUptoRow.holds Tryz.pinned (OpenSpec.upto detBoundedSpec)

end Rows
end Go.Proofs.YtfaglimgjfhdfaaGreat
