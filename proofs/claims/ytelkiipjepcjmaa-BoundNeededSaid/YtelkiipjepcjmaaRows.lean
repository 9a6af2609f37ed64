/-
  No cell of these rows narrows 'for every input' (looked for: loops, veiled, ifaces, maps, wideKeys, modest, calm, conditions, laid).
  DERIVED. THE GIVEN ROWS OF THIS SEAT. 5 by the template 'for every input the law returns true; each argument reads behind the call as it read before'; 0 by the template 'total and deterministic' (their statements: YtelkiipjepcjmaaTotals.lean).
  GIVEN WITH THE SEED: the statements are not yours to turn. If you find one false, say at which input.
  Laid BY PROGRAM, IN A SANDBOX (cutbox-rows.mjs): the forced cells as the released guide's own fill.sh prints them over the translation 939867f79d847d51… (all of the seat's roots in one cut). By AI agents, Wed Nov 11 2026. No macro, syntax, notation, axiom, sorry.
-/
import Derived.Test.YtelkiipjepcjmaaChecked
import GoSem.Claim
import GoSem.ClaimJoined
import GoSem.ClaimMapViews
import Derived.JoinedTies
import Derived.KernelRfl
namespace Go.Proofs.Ytelkiipjepcjmaa
/- THE CELL 'sum', in the pinned program and in every row, IS THE sha256 OF THE DUMP (.gsa) THAT YtelkiipjepcjmaaProg.lean LOADS. Nothing in Lean hashes anything: it is a label: what it is worth is what the hold of that sum in a sandbox is worth. -/
noncomputable def Try.pinned : Pinned := { name := "ytelkiipjepcjmaa", sum := "939867f79d847d51aa1cad3b1b365f148111d6651d1d2f7c909268a3488b41d7", checked := Try.checked }
namespace Rows
def none {H : Type} : Left H := { results := [], args := [] }

/-- 'torsionlaw09.BoundMatchesReference': WHATEVER THE INPUT: true; the input reads as it did. -/
def boundMatchesReferenceSpec : ChangeSpec := { name := "boundMatchesReference", fn := fun _ => fun
  | [d1, d2] => { results := [.lit (.bool true)], args := [d1, d2] }
  | _ => none }
def boundMatchesReferenceRow : OpenClaim := { program := "ytelkiipjepcjmaa", sum := "939867f79d847d51aa1cad3b1b365f148111d6651d1d2f7c909268a3488b41d7", func := "torsion/torsionlaw09.BoundMatchesReference", spec := "boundMatchesReference", unfollowed := true, recurses := true, apart := false }
def BoundMatchesReferenceSaid : Prop := boundMatchesReferenceRow.holds Try.pinned (OpenSpec.ofChange boundMatchesReferenceSpec)

/-- ITS FALSE NEIGHBOUR: 'it returns false'. Refute it at one input. -/
def boundMatchesReferenceWrong : ChangeSpec := { name := "boundMatchesReference", fn := fun _ => fun
  | [d1, d2] => { results := [.lit (.bool false)], args := [d1, d2] }
  | _ => none }
def BoundMatchesReferenceWrongFalsely : Prop := boundMatchesReferenceRow.holds Try.pinned (OpenSpec.ofChange boundMatchesReferenceWrong)

/-- 'torsionlaw09.BoundHadamard': WHATEVER THE INPUT: true; the input reads as it did. -/
def boundHadamardSpec : ChangeSpec := { name := "boundHadamard", fn := fun _ => fun
  | [d1, d2] => { results := [.lit (.bool true)], args := [d1, d2] }
  | _ => none }
def boundHadamardRow : OpenClaim := { program := "ytelkiipjepcjmaa", sum := "939867f79d847d51aa1cad3b1b365f148111d6651d1d2f7c909268a3488b41d7", func := "torsion/torsionlaw09.BoundHadamard", spec := "boundHadamard", unfollowed := true, recurses := true, apart := false }
def BoundHadamardSaid : Prop := boundHadamardRow.holds Try.pinned (OpenSpec.ofChange boundHadamardSpec)

/-- ITS FALSE NEIGHBOUR: 'it returns false'. Refute it at one input. -/
def boundHadamardWrong : ChangeSpec := { name := "boundHadamard", fn := fun _ => fun
  | [d1, d2] => { results := [.lit (.bool false)], args := [d1, d2] }
  | _ => none }
def BoundHadamardWrongFalsely : Prop := boundHadamardRow.holds Try.pinned (OpenSpec.ofChange boundHadamardWrong)

/-- 'torsionlaw09.BoundMinors': WHATEVER THE INPUT: true; the input reads as it did. -/
def boundMinorsSpec : ChangeSpec := { name := "boundMinors", fn := fun _ => fun
  | [d] => { results := [.lit (.bool true)], args := [d] }
  | _ => none }
def boundMinorsRow : OpenClaim := { program := "ytelkiipjepcjmaa", sum := "939867f79d847d51aa1cad3b1b365f148111d6651d1d2f7c909268a3488b41d7", func := "torsion/torsionlaw09.BoundMinors", spec := "boundMinors", unfollowed := true, recurses := true, apart := false }
def BoundMinorsSaid : Prop := boundMinorsRow.holds Try.pinned (OpenSpec.ofChange boundMinorsSpec)

/-- ITS FALSE NEIGHBOUR: 'it returns false'. Refute it at one input. -/
def boundMinorsWrong : ChangeSpec := { name := "boundMinors", fn := fun _ => fun
  | [d] => { results := [.lit (.bool false)], args := [d] }
  | _ => none }
def BoundMinorsWrongFalsely : Prop := boundMinorsRow.holds Try.pinned (OpenSpec.ofChange boundMinorsWrong)

/-- 'torsionlaw09.BoundPrimes': WHATEVER THE INPUT: true; the input reads as it did. -/
def boundPrimesSpec : ChangeSpec := { name := "boundPrimes", fn := fun _ => fun
  | [d1, d2, d3] => { results := [.lit (.bool true)], args := [d1, d2, d3] }
  | _ => none }
def boundPrimesRow : OpenClaim := { program := "ytelkiipjepcjmaa", sum := "939867f79d847d51aa1cad3b1b365f148111d6651d1d2f7c909268a3488b41d7", func := "torsion/torsionlaw09.BoundPrimes", spec := "boundPrimes", unfollowed := true, recurses := true, apart := false }
def BoundPrimesSaid : Prop := boundPrimesRow.holds Try.pinned (OpenSpec.ofChange boundPrimesSpec)

/-- ITS FALSE NEIGHBOUR: 'it returns false'. Refute it at one input. -/
def boundPrimesWrong : ChangeSpec := { name := "boundPrimes", fn := fun _ => fun
  | [d1, d2, d3] => { results := [.lit (.bool false)], args := [d1, d2, d3] }
  | _ => none }
def BoundPrimesWrongFalsely : Prop := boundPrimesRow.holds Try.pinned (OpenSpec.ofChange boundPrimesWrong)

/-- 'torsionlaw09.BoundNeeded': WHATEVER THE INPUT: true; the input reads as it did. -/
def boundNeededSpec : ChangeSpec := { name := "boundNeeded", fn := fun _ => fun
  | [d1, d2, d3] => { results := [.lit (.bool true)], args := [d1, d2, d3] }
  | _ => none }
def boundNeededRow : OpenClaim := { program := "ytelkiipjepcjmaa", sum := "939867f79d847d51aa1cad3b1b365f148111d6651d1d2f7c909268a3488b41d7", func := "torsion/torsionlaw09.BoundNeeded", spec := "boundNeeded", unfollowed := true, recurses := true, apart := false }
def BoundNeededSaid : Prop := boundNeededRow.holds Try.pinned (OpenSpec.ofChange boundNeededSpec)

/-- ITS FALSE NEIGHBOUR: 'it returns false'. Refute it at one input. -/
def boundNeededWrong : ChangeSpec := { name := "boundNeeded", fn := fun _ => fun
  | [d1, d2, d3] => { results := [.lit (.bool false)], args := [d1, d2, d3] }
  | _ => none }
def BoundNeededWrongFalsely : Prop := boundNeededRow.holds Try.pinned (OpenSpec.ofChange boundNeededWrong)

/- THE SECOND FORM. 'bulk': how many values and letters a reading holds, each counted each time it is reached (what is shared counts as often as it is met; a slice's spare places count too). A statement '..UptoSaid' is the law's where the arguments, and the package variables that the reading takes, are together of bulk at most 1048576: NARROWER than '..Said'. Prove '..Said' where nothing that the law and all that it calls make is longer than what came in: it says more and counts as full. Else prove '..UptoSaid'. A law counts once. -/
mutual
def uptoBulk {H : Type} : DataW H → Nat
  | .lit (.string bytes) => bytes.length + 1
  | .lit _ => 1
  | .nil => 1
  | .ptr d => uptoBulk d + 1
  | .slice elems spare => uptoBulkAll elems + uptoBulkAll spare + 1
  | .agg parts => uptoBulkAll parts + 1
  | .iface _ d => uptoBulk d + 1
  | .map entries => uptoBulkEntries entries + 1
  | .held _ => 1
def uptoBulkAll {H : Type} : List (DataW H) → Nat
  | [] => 0
  | d :: r => uptoBulk d + uptoBulkAll r
def uptoBulkEntries {H : Type} : List (Lit × DataW H) → Nat
  | [] => 0
  | x :: r => uptoBulkEntry x + uptoBulkEntries r
def uptoBulkEntry {H : Type} : Lit × DataW H → Nat
  | (.string bytes, d) => bytes.length + uptoBulk d + 1
  | (_, d) => uptoBulk d + 1
 end
def uptoSmall : (H : Type) → List (DataW H) → Bool := fun _ ds => decide (uptoBulkAll ds ≤ 1048576)
def OpenSpec.upto (s : _root_.Go.ChangeSpec) : _root_.Go.OpenSpec := { _root_.Go.OpenSpec.ofChange s with cond := some uptoSmall }

/-- 'torsionlaw09.BoundMatchesReference', WHERE WHAT IT READS IS OF BULK AT MOST 1048576: true; the input reads as it did. -/
def boundMatchesReferenceUptoRow : OpenClaim := { program := "ytelkiipjepcjmaa", sum := "939867f79d847d51aa1cad3b1b365f148111d6651d1d2f7c909268a3488b41d7", func := "torsion/torsionlaw09.BoundMatchesReference", spec := "boundMatchesReference", unfollowed := true, recurses := true, apart := false, narrowed := true }
def BoundMatchesReferenceUptoSaid : Prop := boundMatchesReferenceUptoRow.holds Try.pinned (OpenSpec.upto boundMatchesReferenceSpec)

/-- 'torsionlaw09.BoundHadamard', WHERE WHAT IT READS IS OF BULK AT MOST 1048576: true; the input reads as it did. -/
def boundHadamardUptoRow : OpenClaim := { program := "ytelkiipjepcjmaa", sum := "939867f79d847d51aa1cad3b1b365f148111d6651d1d2f7c909268a3488b41d7", func := "torsion/torsionlaw09.BoundHadamard", spec := "boundHadamard", unfollowed := true, recurses := true, apart := false, narrowed := true }
def BoundHadamardUptoSaid : Prop := boundHadamardUptoRow.holds Try.pinned (OpenSpec.upto boundHadamardSpec)

/-- 'torsionlaw09.BoundMinors', WHERE WHAT IT READS IS OF BULK AT MOST 1048576: true; the input reads as it did. -/
def boundMinorsUptoRow : OpenClaim := { program := "ytelkiipjepcjmaa", sum := "939867f79d847d51aa1cad3b1b365f148111d6651d1d2f7c909268a3488b41d7", func := "torsion/torsionlaw09.BoundMinors", spec := "boundMinors", unfollowed := true, recurses := true, apart := false, narrowed := true }
def BoundMinorsUptoSaid : Prop := boundMinorsUptoRow.holds Try.pinned (OpenSpec.upto boundMinorsSpec)

/-- 'torsionlaw09.BoundPrimes', WHERE WHAT IT READS IS OF BULK AT MOST 1048576: true; the input reads as it did. -/
def boundPrimesUptoRow : OpenClaim := { program := "ytelkiipjepcjmaa", sum := "939867f79d847d51aa1cad3b1b365f148111d6651d1d2f7c909268a3488b41d7", func := "torsion/torsionlaw09.BoundPrimes", spec := "boundPrimes", unfollowed := true, recurses := true, apart := false, narrowed := true }
def BoundPrimesUptoSaid : Prop := boundPrimesUptoRow.holds Try.pinned (OpenSpec.upto boundPrimesSpec)

/-- 'torsionlaw09.BoundNeeded', WHERE WHAT IT READS IS OF BULK AT MOST 1048576: true; the input reads as it did. -/
def boundNeededUptoRow : OpenClaim := { program := "ytelkiipjepcjmaa", sum := "939867f79d847d51aa1cad3b1b365f148111d6651d1d2f7c909268a3488b41d7", func := "torsion/torsionlaw09.BoundNeeded", spec := "boundNeeded", unfollowed := true, recurses := true, apart := false, narrowed := true }
def BoundNeededUptoSaid : Prop := boundNeededUptoRow.holds Try.pinned (OpenSpec.upto boundNeededSpec)

end Rows
end Go.Proofs.Ytelkiipjepcjmaa
