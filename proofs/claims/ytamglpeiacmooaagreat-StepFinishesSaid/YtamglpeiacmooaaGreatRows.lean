/-
  No cell of these rows narrows 'for every input' (looked for: loops, veiled, ifaces, maps, wideKeys, modest, calm, conditions, laid).
  DERIVED. THE GIVEN ROWS OF THIS SEAT. 5 by the template 'for every input the law returns true; each argument reads behind the call as it read before'; 0 by the template 'total and deterministic' (their statements: YtamglpeiacmooaaGreatTotals.lean).
  GIVEN WITH THE SEED: the statements are not yours to turn. If you find one false, say at which input.
  Laid BY PROGRAM, IN A SANDBOX (cutbox-rows.mjs): the forced cells as the released guide's own fill.sh prints them over the translation 781c968469b0fdd4… (all of the seat's roots in one cut). By AI agents, Wed Nov 11 2026. No macro, syntax, notation, axiom, sorry.
-/
import Derived.Test.YtamglpeiacmooaaGreatChecked
import GoSem.Claim
import GoSem.ClaimJoined
import GoSem.ClaimMapViews
import Derived.JoinedTies
import Derived.KernelRfl
namespace Go.Proofs.YtamglpeiacmooaaGreat
/- THE CELL 'sum', in the pinned program and in every row, IS THE sha256 OF THE DUMP (.gsa) THAT YtamglpeiacmooaaGreatProg.lean LOADS. Nothing in Lean hashes anything: it is a label: what it is worth is what the hold of that sum in a sandbox is worth. -/
noncomputable def Tryz.pinned : Pinned := { name := "ytamglpeiacmooaagreat", sum := "781c968469b0fdd4aa2fcc3eedc04dc5ae041ab5583bd404bac1ece32711d085", checked := Tryz.checked }
namespace Rows
def none {H : Type} : Left H := { results := [], args := [] }

/-- 'torsionlaw21.StepMatchesReference': WHATEVER THE INPUT: true; the input reads as it did. -/
def stepMatchesReferenceSpec : ChangeSpec := { name := "stepMatchesReference", fn := fun _ => fun
  | [d1, d2] => { results := [.lit (.bool true)], args := [d1, d2] }
  | _ => none }
def stepMatchesReferenceRow : OpenClaim := { program := "ytamglpeiacmooaagreat", sum := "781c968469b0fdd4aa2fcc3eedc04dc5ae041ab5583bd404bac1ece32711d085", func := "torsion/torsionlaw21.StepMatchesReference", spec := "stepMatchesReference", unfollowed := true, recurses := true, apart := false }
def StepMatchesReferenceSaid : Prop := stepMatchesReferenceRow.holds Tryz.pinned (OpenSpec.ofChange stepMatchesReferenceSpec)

/-- ITS FALSE NEIGHBOUR: 'it returns false'. Refute it at one input. -/
def stepMatchesReferenceWrong : ChangeSpec := { name := "stepMatchesReference", fn := fun _ => fun
  | [d1, d2] => { results := [.lit (.bool false)], args := [d1, d2] }
  | _ => none }
def StepMatchesReferenceWrongFalsely : Prop := stepMatchesReferenceRow.holds Tryz.pinned (OpenSpec.ofChange stepMatchesReferenceWrong)

/-- 'torsionlaw21.StepResumes': WHATEVER THE INPUT: true; the input reads as it did. -/
def stepResumesSpec : ChangeSpec := { name := "stepResumes", fn := fun _ => fun
  | [d1, d2] => { results := [.lit (.bool true)], args := [d1, d2] }
  | _ => none }
def stepResumesRow : OpenClaim := { program := "ytamglpeiacmooaagreat", sum := "781c968469b0fdd4aa2fcc3eedc04dc5ae041ab5583bd404bac1ece32711d085", func := "torsion/torsionlaw21.StepResumes", spec := "stepResumes", unfollowed := true, recurses := true, apart := false }
def StepResumesSaid : Prop := stepResumesRow.holds Tryz.pinned (OpenSpec.ofChange stepResumesSpec)

/-- ITS FALSE NEIGHBOUR: 'it returns false'. Refute it at one input. -/
def stepResumesWrong : ChangeSpec := { name := "stepResumes", fn := fun _ => fun
  | [d1, d2] => { results := [.lit (.bool false)], args := [d1, d2] }
  | _ => none }
def StepResumesWrongFalsely : Prop := stepResumesRow.holds Tryz.pinned (OpenSpec.ofChange stepResumesWrong)

/-- 'torsionlaw21.StepKeepsInvariant': WHATEVER THE INPUT: true; the input reads as it did. -/
def stepKeepsInvariantSpec : ChangeSpec := { name := "stepKeepsInvariant", fn := fun _ => fun
  | [d] => { results := [.lit (.bool true)], args := [d] }
  | _ => none }
def stepKeepsInvariantRow : OpenClaim := { program := "ytamglpeiacmooaagreat", sum := "781c968469b0fdd4aa2fcc3eedc04dc5ae041ab5583bd404bac1ece32711d085", func := "torsion/torsionlaw21.StepKeepsInvariant", spec := "stepKeepsInvariant", unfollowed := true, recurses := true, apart := false }
def StepKeepsInvariantSaid : Prop := stepKeepsInvariantRow.holds Tryz.pinned (OpenSpec.ofChange stepKeepsInvariantSpec)

/-- ITS FALSE NEIGHBOUR: 'it returns false'. Refute it at one input. -/
def stepKeepsInvariantWrong : ChangeSpec := { name := "stepKeepsInvariant", fn := fun _ => fun
  | [d] => { results := [.lit (.bool false)], args := [d] }
  | _ => none }
def StepKeepsInvariantWrongFalsely : Prop := stepKeepsInvariantRow.holds Tryz.pinned (OpenSpec.ofChange stepKeepsInvariantWrong)

/-- 'torsionlaw21.StepFinishes': WHATEVER THE INPUT: true; the input reads as it did. -/
def stepFinishesSpec : ChangeSpec := { name := "stepFinishes", fn := fun _ => fun
  | [d] => { results := [.lit (.bool true)], args := [d] }
  | _ => none }
def stepFinishesRow : OpenClaim := { program := "ytamglpeiacmooaagreat", sum := "781c968469b0fdd4aa2fcc3eedc04dc5ae041ab5583bd404bac1ece32711d085", func := "torsion/torsionlaw21.StepFinishes", spec := "stepFinishes", unfollowed := true, recurses := true, apart := false }
def StepFinishesSaid : Prop := stepFinishesRow.holds Tryz.pinned (OpenSpec.ofChange stepFinishesSpec)

/-- ITS FALSE NEIGHBOUR: 'it returns false'. Refute it at one input. -/
def stepFinishesWrong : ChangeSpec := { name := "stepFinishes", fn := fun _ => fun
  | [d] => { results := [.lit (.bool false)], args := [d] }
  | _ => none }
def StepFinishesWrongFalsely : Prop := stepFinishesRow.holds Tryz.pinned (OpenSpec.ofChange stepFinishesWrong)

/-- 'torsionlaw21.StepValidates': WHATEVER THE INPUT: true; the input reads as it did. -/
def stepValidatesSpec : ChangeSpec := { name := "stepValidates", fn := fun _ => fun
  | [d1, d2, d3] => { results := [.lit (.bool true)], args := [d1, d2, d3] }
  | _ => none }
def stepValidatesRow : OpenClaim := { program := "ytamglpeiacmooaagreat", sum := "781c968469b0fdd4aa2fcc3eedc04dc5ae041ab5583bd404bac1ece32711d085", func := "torsion/torsionlaw21.StepValidates", spec := "stepValidates", unfollowed := true, recurses := true, apart := false }
def StepValidatesSaid : Prop := stepValidatesRow.holds Tryz.pinned (OpenSpec.ofChange stepValidatesSpec)

/-- ITS FALSE NEIGHBOUR: 'it returns false'. Refute it at one input. -/
def stepValidatesWrong : ChangeSpec := { name := "stepValidates", fn := fun _ => fun
  | [d1, d2, d3] => { results := [.lit (.bool false)], args := [d1, d2, d3] }
  | _ => none }
def StepValidatesWrongFalsely : Prop := stepValidatesRow.holds Tryz.pinned (OpenSpec.ofChange stepValidatesWrong)

/- THE SECOND FORM. 'bulk': how many values and letters a reading holds, each counted each time it is reached (what is shared counts as often as it is met; a slice's spare places count too). A statement '..UptoSaid' is the law's where the arguments, and the package variables that the reading takes, are together of bulk at most 1048576: NARROWER than '..Said'. Prove '..Said' where nothing that the law and all that it calls make is longer than what came in: it says more and counts as full. Else prove '..UptoSaid'. A law counts once. -/
mutual
def uptoBulk {H : Type} : DataW H → Nat
  | .lit (.string bytes) => bytes.length + 1
  | .lit _ => 1
  | .nil => 1
  | .ptr d => uptoBulk d + 1
  | .slice elems spare => uptoBulkAll elems + uptoBulkAll spare + 1
  | .agg parts => uptoBulkAll parts + 1
  | .iface _ d => uptoBulk d + 1
  | .map entries => uptoBulkEntries entries + 1
  | .held _ => 1
def uptoBulkAll {H : Type} : List (DataW H) → Nat
  | [] => 0
  | d :: r => uptoBulk d + uptoBulkAll r
def uptoBulkEntries {H : Type} : List (Lit × DataW H) → Nat
  | [] => 0
  | x :: r => uptoBulkEntry x + uptoBulkEntries r
def uptoBulkEntry {H : Type} : Lit × DataW H → Nat
  | (.string bytes, d) => bytes.length + uptoBulk d + 1
  | (_, d) => uptoBulk d + 1
 end
def uptoSmall : (H : Type) → List (DataW H) → Bool := fun _ ds => decide (uptoBulkAll ds ≤ 1048576)
def OpenSpec.upto (s : _root_.Go.ChangeSpec) : _root_.Go.OpenSpec := { _root_.Go.OpenSpec.ofChange s with cond := some uptoSmall }

/-- 'torsionlaw21.StepMatchesReference', WHERE WHAT IT READS IS OF BULK AT MOST 1048576: true; the input reads as it did. -/
def stepMatchesReferenceUptoRow : OpenClaim := { program := "ytamglpeiacmooaagreat", sum := "781c968469b0fdd4aa2fcc3eedc04dc5ae041ab5583bd404bac1ece32711d085", func := "torsion/torsionlaw21.StepMatchesReference", spec := "stepMatchesReference", unfollowed := true, recurses := true, apart := false, narrowed := true }
def StepMatchesReferenceUptoSaid : Prop := stepMatchesReferenceUptoRow.holds Tryz.pinned (OpenSpec.upto stepMatchesReferenceSpec)

/-- 'torsionlaw21.StepResumes', WHERE WHAT IT READS IS OF BULK AT MOST 1048576: true; the input reads as it did. -/
def stepResumesUptoRow : OpenClaim := { program := "ytamglpeiacmooaagreat", sum := "781c968469b0fdd4aa2fcc3eedc04dc5ae041ab5583bd404bac1ece32711d085", func := "torsion/torsionlaw21.StepResumes", spec := "stepResumes", unfollowed := true, recurses := true, apart := false, narrowed := true }
def StepResumesUptoSaid : Prop := stepResumesUptoRow.holds Tryz.pinned (OpenSpec.upto stepResumesSpec)

/-- 'torsionlaw21.StepKeepsInvariant', WHERE WHAT IT READS IS OF BULK AT MOST 1048576: true; the input reads as it did. -/
def stepKeepsInvariantUptoRow : OpenClaim := { program := "ytamglpeiacmooaagreat", sum := "781c968469b0fdd4aa2fcc3eedc04dc5ae041ab5583bd404bac1ece32711d085", func := "torsion/torsionlaw21.StepKeepsInvariant", spec := "stepKeepsInvariant", unfollowed := true, recurses := true, apart := false, narrowed := true }
def StepKeepsInvariantUptoSaid : Prop := stepKeepsInvariantUptoRow.holds Tryz.pinned (OpenSpec.upto stepKeepsInvariantSpec)

/-- 'torsionlaw21.StepFinishes', WHERE WHAT IT READS IS OF BULK AT MOST 1048576: true; the input reads as it did. -/
def stepFinishesUptoRow : OpenClaim := { program := "ytamglpeiacmooaagreat", sum := "781c968469b0fdd4aa2fcc3eedc04dc5ae041ab5583bd404bac1ece32711d085", func := "torsion/torsionlaw21.StepFinishes", spec := "stepFinishes", unfollowed := true, recurses := true, apart := false, narrowed := true }
def StepFinishesUptoSaid : Prop := stepFinishesUptoRow.holds Tryz.pinned (OpenSpec.upto stepFinishesSpec)

/-- 'torsionlaw21.StepValidates', WHERE WHAT IT READS IS OF BULK AT MOST 1048576: true; the input reads as it did. -/
def stepValidatesUptoRow : OpenClaim := { program := "ytamglpeiacmooaagreat", sum := "781c968469b0fdd4aa2fcc3eedc04dc5ae041ab5583bd404bac1ece32711d085", func := "torsion/torsionlaw21.StepValidates", spec := "stepValidates", unfollowed := true, recurses := true, apart := false, narrowed := true }
def StepValidatesUptoSaid : Prop := stepValidatesUptoRow.holds Tryz.pinned (OpenSpec.upto stepValidatesSpec)

end Rows
end Go.Proofs.YtamglpeiacmooaaGreat
