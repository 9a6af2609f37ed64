/-
  No cell of these rows narrows 'for every input' (looked for: loops, veiled, ifaces, maps, wideKeys, modest, calm, conditions, laid).
  DERIVED. THE GIVEN ROWS OF THIS SEAT. 6 by the template 'for every input the law returns true; each argument reads behind the call as it read before'; 0 by the template 'total and deterministic' (their statements: YtpnkmoojhbjdfaaGreatTotals.lean).
  GIVEN WITH THE SEED: the statements are not yours to turn. If you find one false, say at which input.
  Laid BY PROGRAM, IN A SANDBOX (cutbox-rows.mjs): the forced cells as the released guide's own fill.sh prints them over the translation 94358c9e23a88e28… (all of the seat's roots in one cut). By AI agents, Wed Nov 11 2026. No macro, syntax, notation, axiom, sorry.
-/
import Derived.Test.YtpnkmoojhbjdfaaGreatChecked
import GoSem.Claim
import GoSem.ClaimJoined
import GoSem.ClaimMapViews
import Derived.JoinedTies
import Derived.KernelRfl
namespace Go.Proofs.YtpnkmoojhbjdfaaGreat
/- THE CELL 'sum', in the pinned program and in every row, IS THE sha256 OF THE DUMP (.gsa) THAT YtpnkmoojhbjdfaaGreatProg.lean LOADS. Nothing in Lean hashes anything: it is a label: what it is worth is what the hold of that sum in a sandbox is worth. -/
noncomputable def Tryz.pinned : Pinned := { name := "ytpnkmoojhbjdfaagreat", sum := "94358c9e23a88e28395f3fb531ff02892e29c01dc72af114f80980dab07fa059", checked := Tryz.checked }
namespace Rows
def none {H : Type} : Left H := { results := [], args := [] }

/-- 'torsionlaw17.LllMatchesReference': WHATEVER THE INPUT: true; the input reads as it did. -/
def lllMatchesReferenceSpec : ChangeSpec := { name := "lllMatchesReference", fn := fun _ => fun
  | [d] => { results := [.lit (.bool true)], args := [d] }
  | _ => none }
def lllMatchesReferenceRow : OpenClaim := { program := "ytpnkmoojhbjdfaagreat", sum := "94358c9e23a88e28395f3fb531ff02892e29c01dc72af114f80980dab07fa059", func := "torsion/torsionlaw17.LllMatchesReference", spec := "lllMatchesReference", unfollowed := true, recurses := true, apart := false }
def LllMatchesReferenceSaid : Prop := lllMatchesReferenceRow.holds Tryz.pinned (OpenSpec.ofChange lllMatchesReferenceSpec)

/-- ITS FALSE NEIGHBOUR: 'it returns false'. Refute it at one input. -/
def lllMatchesReferenceWrong : ChangeSpec := { name := "lllMatchesReference", fn := fun _ => fun
  | [d] => { results := [.lit (.bool false)], args := [d] }
  | _ => none }
def LllMatchesReferenceWrongFalsely : Prop := lllMatchesReferenceRow.holds Tryz.pinned (OpenSpec.ofChange lllMatchesReferenceWrong)

/-- 'torsionlaw17.LllDecomposes': WHATEVER THE INPUT: true; the input reads as it did. -/
def lllDecomposesSpec : ChangeSpec := { name := "lllDecomposes", fn := fun _ => fun
  | [d] => { results := [.lit (.bool true)], args := [d] }
  | _ => none }
def lllDecomposesRow : OpenClaim := { program := "ytpnkmoojhbjdfaagreat", sum := "94358c9e23a88e28395f3fb531ff02892e29c01dc72af114f80980dab07fa059", func := "torsion/torsionlaw17.LllDecomposes", spec := "lllDecomposes", unfollowed := true, recurses := true, apart := false }
def LllDecomposesSaid : Prop := lllDecomposesRow.holds Tryz.pinned (OpenSpec.ofChange lllDecomposesSpec)

/-- ITS FALSE NEIGHBOUR: 'it returns false'. Refute it at one input. -/
def lllDecomposesWrong : ChangeSpec := { name := "lllDecomposes", fn := fun _ => fun
  | [d] => { results := [.lit (.bool false)], args := [d] }
  | _ => none }
def LllDecomposesWrongFalsely : Prop := lllDecomposesRow.holds Tryz.pinned (OpenSpec.ofChange lllDecomposesWrong)

/-- 'torsionlaw17.LllReduces': WHATEVER THE INPUT: true; the input reads as it did. -/
def lllReducesSpec : ChangeSpec := { name := "lllReduces", fn := fun _ => fun
  | [d] => { results := [.lit (.bool true)], args := [d] }
  | _ => none }
def lllReducesRow : OpenClaim := { program := "ytpnkmoojhbjdfaagreat", sum := "94358c9e23a88e28395f3fb531ff02892e29c01dc72af114f80980dab07fa059", func := "torsion/torsionlaw17.LllReduces", spec := "lllReduces", unfollowed := true, recurses := true, apart := false }
def LllReducesSaid : Prop := lllReducesRow.holds Tryz.pinned (OpenSpec.ofChange lllReducesSpec)

/-- ITS FALSE NEIGHBOUR: 'it returns false'. Refute it at one input. -/
def lllReducesWrong : ChangeSpec := { name := "lllReduces", fn := fun _ => fun
  | [d] => { results := [.lit (.bool false)], args := [d] }
  | _ => none }
def LllReducesWrongFalsely : Prop := lllReducesRow.holds Tryz.pinned (OpenSpec.ofChange lllReducesWrong)

/-- 'torsionlaw17.LllKeepsVolume': WHATEVER THE INPUT: true; the input reads as it did. -/
def lllKeepsVolumeSpec : ChangeSpec := { name := "lllKeepsVolume", fn := fun _ => fun
  | [d] => { results := [.lit (.bool true)], args := [d] }
  | _ => none }
def lllKeepsVolumeRow : OpenClaim := { program := "ytpnkmoojhbjdfaagreat", sum := "94358c9e23a88e28395f3fb531ff02892e29c01dc72af114f80980dab07fa059", func := "torsion/torsionlaw17.LllKeepsVolume", spec := "lllKeepsVolume", unfollowed := true, recurses := true, apart := false }
def LllKeepsVolumeSaid : Prop := lllKeepsVolumeRow.holds Tryz.pinned (OpenSpec.ofChange lllKeepsVolumeSpec)

/-- ITS FALSE NEIGHBOUR: 'it returns false'. Refute it at one input. -/
def lllKeepsVolumeWrong : ChangeSpec := { name := "lllKeepsVolume", fn := fun _ => fun
  | [d] => { results := [.lit (.bool false)], args := [d] }
  | _ => none }
def LllKeepsVolumeWrongFalsely : Prop := lllKeepsVolumeRow.holds Tryz.pinned (OpenSpec.ofChange lllKeepsVolumeWrong)

/-- 'torsionlaw17.LllShort': WHATEVER THE INPUT: true; the input reads as it did. -/
def lllShortSpec : ChangeSpec := { name := "lllShort", fn := fun _ => fun
  | [d1, d2] => { results := [.lit (.bool true)], args := [d1, d2] }
  | _ => none }
def lllShortRow : OpenClaim := { program := "ytpnkmoojhbjdfaagreat", sum := "94358c9e23a88e28395f3fb531ff02892e29c01dc72af114f80980dab07fa059", func := "torsion/torsionlaw17.LllShort", spec := "lllShort", unfollowed := true, recurses := true, apart := false }
def LllShortSaid : Prop := lllShortRow.holds Tryz.pinned (OpenSpec.ofChange lllShortSpec)

/-- ITS FALSE NEIGHBOUR: 'it returns false'. Refute it at one input. -/
def lllShortWrong : ChangeSpec := { name := "lllShort", fn := fun _ => fun
  | [d1, d2] => { results := [.lit (.bool false)], args := [d1, d2] }
  | _ => none }
def LllShortWrongFalsely : Prop := lllShortRow.holds Tryz.pinned (OpenSpec.ofChange lllShortWrong)

/-- 'torsionlaw17.LllChecks': WHATEVER THE INPUT: true; the input reads as it did. -/
def lllChecksSpec : ChangeSpec := { name := "lllChecks", fn := fun _ => fun
  | [d1, d2] => { results := [.lit (.bool true)], args := [d1, d2] }
  | _ => none }
def lllChecksRow : OpenClaim := { program := "ytpnkmoojhbjdfaagreat", sum := "94358c9e23a88e28395f3fb531ff02892e29c01dc72af114f80980dab07fa059", func := "torsion/torsionlaw17.LllChecks", spec := "lllChecks", unfollowed := true, recurses := true, apart := false }
def LllChecksSaid : Prop := lllChecksRow.holds Tryz.pinned (OpenSpec.ofChange lllChecksSpec)

/-- ITS FALSE NEIGHBOUR: 'it returns false'. Refute it at one input. -/
def lllChecksWrong : ChangeSpec := { name := "lllChecks", fn := fun _ => fun
  | [d1, d2] => { results := [.lit (.bool false)], args := [d1, d2] }
  | _ => none }
def LllChecksWrongFalsely : Prop := lllChecksRow.holds Tryz.pinned (OpenSpec.ofChange lllChecksWrong)

/- THE SECOND FORM. 'bulk': how many values and letters a reading holds, each counted each time it is reached (what is shared counts as often as it is met; a slice's spare places count too). A statement '..UptoSaid' is the law's where the arguments, and the package variables that the reading takes, are together of bulk at most 1048576: NARROWER than '..Said'. Prove '..Said' where nothing that the law and all that it calls make is longer than what came in: it says more and counts as full. Else prove '..UptoSaid'. A law counts once. -/
mutual
def uptoBulk {H : Type} : DataW H → Nat
  | .lit (.string bytes) => bytes.length + 1
  | .lit _ => 1
  | .nil => 1
  | .ptr d => uptoBulk d + 1
  | .slice elems spare => uptoBulkAll elems + uptoBulkAll spare + 1
  | .agg parts => uptoBulkAll parts + 1
  | .iface _ d => uptoBulk d + 1
  | .map entries => uptoBulkEntries entries + 1
  | .held _ => 1
def uptoBulkAll {H : Type} : List (DataW H) → Nat
  | [] => 0
  | d :: r => uptoBulk d + uptoBulkAll r
def uptoBulkEntries {H : Type} : List (Lit × DataW H) → Nat
  | [] => 0
  | x :: r => uptoBulkEntry x + uptoBulkEntries r
def uptoBulkEntry {H : Type} : Lit × DataW H → Nat
  | (.string bytes, d) => bytes.length + uptoBulk d + 1
  | (_, d) => uptoBulk d + 1
 end
def uptoSmall : (H : Type) → List (DataW H) → Bool := fun _ ds => decide (uptoBulkAll ds ≤ 1048576)
def OpenSpec.upto (s : _root_.Go.ChangeSpec) : _root_.Go.OpenSpec := { _root_.Go.OpenSpec.ofChange s with cond := some uptoSmall }

/-- 'torsionlaw17.LllMatchesReference', WHERE WHAT IT READS IS OF BULK AT MOST 1048576: true; the input reads as it did. -/
def lllMatchesReferenceUptoRow : OpenClaim := { program := "ytpnkmoojhbjdfaagreat", sum := "94358c9e23a88e28395f3fb531ff02892e29c01dc72af114f80980dab07fa059", func := "torsion/torsionlaw17.LllMatchesReference", spec := "lllMatchesReference", unfollowed := true, recurses := true, apart := false, narrowed := true }
def LllMatchesReferenceUptoSaid : Prop := lllMatchesReferenceUptoRow.holds Tryz.pinned (OpenSpec.upto lllMatchesReferenceSpec)

/-- 'torsionlaw17.LllDecomposes', WHERE WHAT IT READS IS OF BULK AT MOST 1048576: true; the input reads as it did. -/
def lllDecomposesUptoRow : OpenClaim := { program := "ytpnkmoojhbjdfaagreat", sum := "94358c9e23a88e28395f3fb531ff02892e29c01dc72af114f80980dab07fa059", func := "torsion/torsionlaw17.LllDecomposes", spec := "lllDecomposes", unfollowed := true, recurses := true, apart := false, narrowed := true }
def LllDecomposesUptoSaid : Prop := lllDecomposesUptoRow.holds Tryz.pinned (OpenSpec.upto lllDecomposesSpec)

/-- 'torsionlaw17.LllReduces', WHERE WHAT IT READS IS OF BULK AT MOST 1048576: true; the input reads as it did. -/
def lllReducesUptoRow : OpenClaim := { program := "ytpnkmoojhbjdfaagreat", sum := "94358c9e23a88e28395f3fb531ff02892e29c01dc72af114f80980dab07fa059", func := "torsion/torsionlaw17.LllReduces", spec := "lllReduces", unfollowed := true, recurses := true, apart := false, narrowed := true }
def LllReducesUptoSaid : Prop := lllReducesUptoRow.holds Tryz.pinned (OpenSpec.upto lllReducesSpec)

/-- 'torsionlaw17.LllKeepsVolume', WHERE WHAT IT READS IS OF BULK AT MOST 1048576: true; the input reads as it did. -/
def lllKeepsVolumeUptoRow : OpenClaim := { program := "ytpnkmoojhbjdfaagreat", sum := "94358c9e23a88e28395f3fb531ff02892e29c01dc72af114f80980dab07fa059", func := "torsion/torsionlaw17.LllKeepsVolume", spec := "lllKeepsVolume", unfollowed := true, recurses := true, apart := false, narrowed := true }
def LllKeepsVolumeUptoSaid : Prop := lllKeepsVolumeUptoRow.holds Tryz.pinned (OpenSpec.upto lllKeepsVolumeSpec)

/-- 'torsionlaw17.LllShort', WHERE WHAT IT READS IS OF BULK AT MOST 1048576: true; the input reads as it did. -/
def lllShortUptoRow : OpenClaim := { program := "ytpnkmoojhbjdfaagreat", sum := "94358c9e23a88e28395f3fb531ff02892e29c01dc72af114f80980dab07fa059", func := "torsion/torsionlaw17.LllShort", spec := "lllShort", unfollowed := true, recurses := true, apart := false, narrowed := true }
def LllShortUptoSaid : Prop := lllShortUptoRow.holds Tryz.pinned (OpenSpec.upto lllShortSpec)

/-- 'torsionlaw17.LllChecks', WHERE WHAT IT READS IS OF BULK AT MOST 1048576: true; the input reads as it did. -/
def lllChecksUptoRow : OpenClaim := { program := "ytpnkmoojhbjdfaagreat", sum := "94358c9e23a88e28395f3fb531ff02892e29c01dc72af114f80980dab07fa059", func := "torsion/torsionlaw17.LllChecks", spec := "lllChecks", unfollowed := true, recurses := true, apart := false, narrowed := true }
def LllChecksUptoSaid : Prop := lllChecksUptoRow.holds Tryz.pinned (OpenSpec.upto lllChecksSpec)

end Rows
end Go.Proofs.YtpnkmoojhbjdfaaGreat
