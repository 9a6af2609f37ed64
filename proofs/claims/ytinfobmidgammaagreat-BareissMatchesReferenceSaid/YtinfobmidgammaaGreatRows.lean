/-
  No cell of these rows narrows 'for every input' (looked for: loops, veiled, ifaces, maps, wideKeys, modest, calm, conditions, laid).
  DERIVED. THE GIVEN ROWS OF THIS SEAT. 4 by the template 'for every input the law returns true; each argument reads behind the call as it read before'; 0 by the template 'total and deterministic' (their statements: YtinfobmidgammaaGreatTotals.lean).
  GIVEN WITH THE SEED: the statements are not yours to turn. If you find one false, say at which input.
  Laid BY PROGRAM, IN A SANDBOX (cutbox-rows.mjs): the forced cells as the released guide's own fill.sh prints them over the translation 38a19329fdfbf9fa… (all of the seat's roots in one cut). By AI agents, Wed Nov 11 2026. No macro, syntax, notation, axiom, sorry.
-/
import Derived.Test.YtinfobmidgammaaGreatChecked
import GoSem.Claim
import GoSem.ClaimJoined
import GoSem.ClaimMapViews
import Derived.JoinedTies
import Derived.KernelRfl
namespace Go.Proofs.YtinfobmidgammaaGreat
/- THE CELL 'sum', in the pinned program and in every row, IS THE sha256 OF THE DUMP (.gsa) THAT YtinfobmidgammaaGreatProg.lean LOADS. Nothing in Lean hashes anything: it is a label: what it is worth is what the hold of that sum in a sandbox is worth. -/
noncomputable def Tryz.pinned : Pinned := { name := "ytinfobmidgammaagreat", sum := "38a19329fdfbf9fa0a31537bd95fc3170c6e575a04a1c0110dbf24decf7f9253", checked := Tryz.checked }
namespace Rows
def none {H : Type} : Left H := { results := [], args := [] }

/-- 'torsionlaw08.BareissMatchesReference': WHATEVER THE INPUT: true; the input reads as it did. -/
def bareissMatchesReferenceSpec : ChangeSpec := { name := "bareissMatchesReference", fn := fun _ => fun
  | [d1, d2, d3] => { results := [.lit (.bool true)], args := [d1, d2, d3] }
  | _ => none }
def bareissMatchesReferenceRow : OpenClaim := { program := "ytinfobmidgammaagreat", sum := "38a19329fdfbf9fa0a31537bd95fc3170c6e575a04a1c0110dbf24decf7f9253", func := "torsion/torsionlaw08.BareissMatchesReference", spec := "bareissMatchesReference", unfollowed := true, recurses := true, apart := false }
def BareissMatchesReferenceSaid : Prop := bareissMatchesReferenceRow.holds Tryz.pinned (OpenSpec.ofChange bareissMatchesReferenceSpec)

/-- ITS FALSE NEIGHBOUR: 'it returns false'. Refute it at one input. -/
def bareissMatchesReferenceWrong : ChangeSpec := { name := "bareissMatchesReference", fn := fun _ => fun
  | [d1, d2, d3] => { results := [.lit (.bool false)], args := [d1, d2, d3] }
  | _ => none }
def BareissMatchesReferenceWrongFalsely : Prop := bareissMatchesReferenceRow.holds Tryz.pinned (OpenSpec.ofChange bareissMatchesReferenceWrong)

/-- 'torsionlaw08.BareissRank': WHATEVER THE INPUT: true; the input reads as it did. -/
def bareissRankSpec : ChangeSpec := { name := "bareissRank", fn := fun _ => fun
  | [d] => { results := [.lit (.bool true)], args := [d] }
  | _ => none }
def bareissRankRow : OpenClaim := { program := "ytinfobmidgammaagreat", sum := "38a19329fdfbf9fa0a31537bd95fc3170c6e575a04a1c0110dbf24decf7f9253", func := "torsion/torsionlaw08.BareissRank", spec := "bareissRank", unfollowed := true, recurses := true, apart := false }
def BareissRankSaid : Prop := bareissRankRow.holds Tryz.pinned (OpenSpec.ofChange bareissRankSpec)

/-- ITS FALSE NEIGHBOUR: 'it returns false'. Refute it at one input. -/
def bareissRankWrong : ChangeSpec := { name := "bareissRank", fn := fun _ => fun
  | [d] => { results := [.lit (.bool false)], args := [d] }
  | _ => none }
def BareissRankWrongFalsely : Prop := bareissRankRow.holds Tryz.pinned (OpenSpec.ofChange bareissRankWrong)

/-- 'torsionlaw08.BareissAlternative': WHATEVER THE INPUT: true; the input reads as it did. -/
def bareissAlternativeSpec : ChangeSpec := { name := "bareissAlternative", fn := fun _ => fun
  | [d1, d2] => { results := [.lit (.bool true)], args := [d1, d2] }
  | _ => none }
def bareissAlternativeRow : OpenClaim := { program := "ytinfobmidgammaagreat", sum := "38a19329fdfbf9fa0a31537bd95fc3170c6e575a04a1c0110dbf24decf7f9253", func := "torsion/torsionlaw08.BareissAlternative", spec := "bareissAlternative", unfollowed := true, recurses := true, apart := false }
def BareissAlternativeSaid : Prop := bareissAlternativeRow.holds Tryz.pinned (OpenSpec.ofChange bareissAlternativeSpec)

/-- ITS FALSE NEIGHBOUR: 'it returns false'. Refute it at one input. -/
def bareissAlternativeWrong : ChangeSpec := { name := "bareissAlternative", fn := fun _ => fun
  | [d1, d2] => { results := [.lit (.bool false)], args := [d1, d2] }
  | _ => none }
def BareissAlternativeWrongFalsely : Prop := bareissAlternativeRow.holds Tryz.pinned (OpenSpec.ofChange bareissAlternativeWrong)

/-- 'torsionlaw08.BareissConsistent': WHATEVER THE INPUT: true; the input reads as it did. -/
def bareissConsistentSpec : ChangeSpec := { name := "bareissConsistent", fn := fun _ => fun
  | [d1, d2] => { results := [.lit (.bool true)], args := [d1, d2] }
  | _ => none }
def bareissConsistentRow : OpenClaim := { program := "ytinfobmidgammaagreat", sum := "38a19329fdfbf9fa0a31537bd95fc3170c6e575a04a1c0110dbf24decf7f9253", func := "torsion/torsionlaw08.BareissConsistent", spec := "bareissConsistent", unfollowed := true, recurses := true, apart := false }
def BareissConsistentSaid : Prop := bareissConsistentRow.holds Tryz.pinned (OpenSpec.ofChange bareissConsistentSpec)

/-- ITS FALSE NEIGHBOUR: 'it returns false'. Refute it at one input. -/
def bareissConsistentWrong : ChangeSpec := { name := "bareissConsistent", fn := fun _ => fun
  | [d1, d2] => { results := [.lit (.bool false)], args := [d1, d2] }
  | _ => none }
def BareissConsistentWrongFalsely : Prop := bareissConsistentRow.holds Tryz.pinned (OpenSpec.ofChange bareissConsistentWrong)

/- THE SECOND FORM. 'bulk': how many values and letters a reading holds, each counted each time it is reached (what is shared counts as often as it is met; a slice's spare places count too). A statement '..UptoSaid' is the law's where the arguments, and the package variables that the reading takes, are together of bulk at most 1048576: NARROWER than '..Said'. Prove '..Said' where nothing that the law and all that it calls make is longer than what came in: it says more and counts as full. Else prove '..UptoSaid'. A law counts once. -/
mutual
def uptoBulk {H : Type} : DataW H → Nat
  | .lit (.string bytes) => bytes.length + 1
  | .lit _ => 1
  | .nil => 1
  | .ptr d => uptoBulk d + 1
  | .slice elems spare => uptoBulkAll elems + uptoBulkAll spare + 1
  | .agg parts => uptoBulkAll parts + 1
  | .iface _ d => uptoBulk d + 1
  | .map entries => uptoBulkEntries entries + 1
  | .held _ => 1
def uptoBulkAll {H : Type} : List (DataW H) → Nat
  | [] => 0
  | d :: r => uptoBulk d + uptoBulkAll r
def uptoBulkEntries {H : Type} : List (Lit × DataW H) → Nat
  | [] => 0
  | x :: r => uptoBulkEntry x + uptoBulkEntries r
def uptoBulkEntry {H : Type} : Lit × DataW H → Nat
  | (.string bytes, d) => bytes.length + uptoBulk d + 1
  | (_, d) => uptoBulk d + 1
 end
def uptoSmall : (H : Type) → List (DataW H) → Bool := fun _ ds => decide (uptoBulkAll ds ≤ 1048576)
def OpenSpec.upto (s : _root_.Go.ChangeSpec) : _root_.Go.OpenSpec := { _root_.Go.OpenSpec.ofChange s with cond := some uptoSmall }

/-- 'torsionlaw08.BareissMatchesReference', WHERE WHAT IT READS IS OF BULK AT MOST 1048576: true; the input reads as it did. -/
def bareissMatchesReferenceUptoRow : OpenClaim := { program := "ytinfobmidgammaagreat", sum := "38a19329fdfbf9fa0a31537bd95fc3170c6e575a04a1c0110dbf24decf7f9253", func := "torsion/torsionlaw08.BareissMatchesReference", spec := "bareissMatchesReference", unfollowed := true, recurses := true, apart := false, narrowed := true }
def BareissMatchesReferenceUptoSaid : Prop := bareissMatchesReferenceUptoRow.holds Tryz.pinned (OpenSpec.upto bareissMatchesReferenceSpec)

/-- 'torsionlaw08.BareissRank', WHERE WHAT IT READS IS OF BULK AT MOST 1048576: true; the input reads as it did. -/
def bareissRankUptoRow : OpenClaim := { program := "ytinfobmidgammaagreat", sum := "38a19329fdfbf9fa0a31537bd95fc3170c6e575a04a1c0110dbf24decf7f9253", func := "torsion/torsionlaw08.BareissRank", spec := "bareissRank", unfollowed := true, recurses := true, apart := false, narrowed := true }
def BareissRankUptoSaid : Prop := bareissRankUptoRow.holds Tryz.pinned (OpenSpec.upto bareissRankSpec)

/-- 'torsionlaw08.BareissAlternative', WHERE WHAT IT READS IS OF BULK AT MOST 1048576: true; the input reads as it did. -/
def bareissAlternativeUptoRow : OpenClaim := { program := "ytinfobmidgammaagreat", sum := "38a19329fdfbf9fa0a31537bd95fc3170c6e575a04a1c0110dbf24decf7f9253", func := "torsion/torsionlaw08.BareissAlternative", spec := "bareissAlternative", unfollowed := true, recurses := true, apart := false, narrowed := true }
def BareissAlternativeUptoSaid : Prop := bareissAlternativeUptoRow.holds Tryz.pinned (OpenSpec.upto bareissAlternativeSpec)

/-- 'torsionlaw08.BareissConsistent', WHERE WHAT IT READS IS OF BULK AT MOST 1048576: true; the input reads as it did. -/
def bareissConsistentUptoRow : OpenClaim := { program := "ytinfobmidgammaagreat", sum := "38a19329fdfbf9fa0a31537bd95fc3170c6e575a04a1c0110dbf24decf7f9253", func := "torsion/torsionlaw08.BareissConsistent", spec := "bareissConsistent", unfollowed := true, recurses := true, apart := false, narrowed := true }
def BareissConsistentUptoSaid : Prop := bareissConsistentUptoRow.holds Tryz.pinned (OpenSpec.upto bareissConsistentSpec)

end Rows
end Go.Proofs.YtinfobmidgammaaGreat
