/-
  No cell of these rows narrows 'for every input' (looked for: loops, veiled, ifaces, maps, wideKeys, modest, calm, conditions, laid).
  DERIVED. THE GIVEN ROWS OF THIS SEAT. 5 by the template 'for every input the law returns true; each argument reads behind the call as it read before'; 0 by the template 'total and deterministic' (their statements: YtbgloceimmbliaaGreatTotals.lean).
  GIVEN WITH THE SEED: the statements are not yours to turn. If you find one false, say at which input.
  Laid BY PROGRAM, IN A SANDBOX (cutbox-rows.mjs): the forced cells as the released guide's own fill.sh prints them over the translation e01aaf63d1488a0f… (all of the seat's roots in one cut). By AI agents, Wed Nov 11 2026. No macro, syntax, notation, axiom, sorry.
-/
import Derived.Test.YtbgloceimmbliaaGreatChecked
import GoSem.Claim
import GoSem.ClaimJoined
import GoSem.ClaimMapViews
import Derived.JoinedTies
import Derived.KernelRfl
namespace Go.Proofs.YtbgloceimmbliaaGreat
/- THE CELL 'sum', in the pinned program and in every row, IS THE sha256 OF THE DUMP (.gsa) THAT YtbgloceimmbliaaGreatProg.lean LOADS. Nothing in Lean hashes anything: it is a label: what it is worth is what the hold of that sum in a sandbox is worth. -/
noncomputable def Tryz.pinned : Pinned := { name := "ytbgloceimmbliaagreat", sum := "e01aaf63d1488a0ff4ffda39c4d85549ff110590928aebf99ff805f57e47b107", checked := Tryz.checked }
namespace Rows
def none {H : Type} : Left H := { results := [], args := [] }

/-- 'torsionlaw11.DixonMatchesReference': WHATEVER THE INPUT: true; the input reads as it did. -/
def dixonMatchesReferenceSpec : ChangeSpec := { name := "dixonMatchesReference", fn := fun _ => fun
  | [d1, d2, d3] => { results := [.lit (.bool true)], args := [d1, d2, d3] }
  | _ => none }
def dixonMatchesReferenceRow : OpenClaim := { program := "ytbgloceimmbliaagreat", sum := "e01aaf63d1488a0ff4ffda39c4d85549ff110590928aebf99ff805f57e47b107", func := "torsion/torsionlaw11.DixonMatchesReference", spec := "dixonMatchesReference", unfollowed := true, recurses := true, apart := false }
def DixonMatchesReferenceSaid : Prop := dixonMatchesReferenceRow.holds Tryz.pinned (OpenSpec.ofChange dixonMatchesReferenceSpec)

/-- ITS FALSE NEIGHBOUR: 'it returns false'. Refute it at one input. -/
def dixonMatchesReferenceWrong : ChangeSpec := { name := "dixonMatchesReference", fn := fun _ => fun
  | [d1, d2, d3] => { results := [.lit (.bool false)], args := [d1, d2, d3] }
  | _ => none }
def DixonMatchesReferenceWrongFalsely : Prop := dixonMatchesReferenceRow.holds Tryz.pinned (OpenSpec.ofChange dixonMatchesReferenceWrong)

/-- 'torsionlaw11.DixonSolves': WHATEVER THE INPUT: true; the input reads as it did. -/
def dixonSolvesSpec : ChangeSpec := { name := "dixonSolves", fn := fun _ => fun
  | [d1, d2] => { results := [.lit (.bool true)], args := [d1, d2] }
  | _ => none }
def dixonSolvesRow : OpenClaim := { program := "ytbgloceimmbliaagreat", sum := "e01aaf63d1488a0ff4ffda39c4d85549ff110590928aebf99ff805f57e47b107", func := "torsion/torsionlaw11.DixonSolves", spec := "dixonSolves", unfollowed := true, recurses := true, apart := false }
def DixonSolvesSaid : Prop := dixonSolvesRow.holds Tryz.pinned (OpenSpec.ofChange dixonSolvesSpec)

/-- ITS FALSE NEIGHBOUR: 'it returns false'. Refute it at one input. -/
def dixonSolvesWrong : ChangeSpec := { name := "dixonSolves", fn := fun _ => fun
  | [d1, d2] => { results := [.lit (.bool false)], args := [d1, d2] }
  | _ => none }
def DixonSolvesWrongFalsely : Prop := dixonSolvesRow.holds Tryz.pinned (OpenSpec.ofChange dixonSolvesWrong)

/-- 'torsionlaw11.DixonDigits': WHATEVER THE INPUT: true; the input reads as it did. -/
def dixonDigitsSpec : ChangeSpec := { name := "dixonDigits", fn := fun _ => fun
  | [d1, d2, d3] => { results := [.lit (.bool true)], args := [d1, d2, d3] }
  | _ => none }
def dixonDigitsRow : OpenClaim := { program := "ytbgloceimmbliaagreat", sum := "e01aaf63d1488a0ff4ffda39c4d85549ff110590928aebf99ff805f57e47b107", func := "torsion/torsionlaw11.DixonDigits", spec := "dixonDigits", unfollowed := true, recurses := true, apart := false }
def DixonDigitsSaid : Prop := dixonDigitsRow.holds Tryz.pinned (OpenSpec.ofChange dixonDigitsSpec)

/-- ITS FALSE NEIGHBOUR: 'it returns false'. Refute it at one input. -/
def dixonDigitsWrong : ChangeSpec := { name := "dixonDigits", fn := fun _ => fun
  | [d1, d2, d3] => { results := [.lit (.bool false)], args := [d1, d2, d3] }
  | _ => none }
def DixonDigitsWrongFalsely : Prop := dixonDigitsRow.holds Tryz.pinned (OpenSpec.ofChange dixonDigitsWrong)

/-- 'torsionlaw11.DixonUnlucky': WHATEVER THE INPUT: true; the input reads as it did. -/
def dixonUnluckySpec : ChangeSpec := { name := "dixonUnlucky", fn := fun _ => fun
  | [d1, d2, d3] => { results := [.lit (.bool true)], args := [d1, d2, d3] }
  | _ => none }
def dixonUnluckyRow : OpenClaim := { program := "ytbgloceimmbliaagreat", sum := "e01aaf63d1488a0ff4ffda39c4d85549ff110590928aebf99ff805f57e47b107", func := "torsion/torsionlaw11.DixonUnlucky", spec := "dixonUnlucky", unfollowed := true, recurses := true, apart := false }
def DixonUnluckySaid : Prop := dixonUnluckyRow.holds Tryz.pinned (OpenSpec.ofChange dixonUnluckySpec)

/-- ITS FALSE NEIGHBOUR: 'it returns false'. Refute it at one input. -/
def dixonUnluckyWrong : ChangeSpec := { name := "dixonUnlucky", fn := fun _ => fun
  | [d1, d2, d3] => { results := [.lit (.bool false)], args := [d1, d2, d3] }
  | _ => none }
def DixonUnluckyWrongFalsely : Prop := dixonUnluckyRow.holds Tryz.pinned (OpenSpec.ofChange dixonUnluckyWrong)

/-- 'torsionlaw11.DixonLinear': WHATEVER THE INPUT: true; the input reads as it did. -/
def dixonLinearSpec : ChangeSpec := { name := "dixonLinear", fn := fun _ => fun
  | [d1, d2, d3] => { results := [.lit (.bool true)], args := [d1, d2, d3] }
  | _ => none }
def dixonLinearRow : OpenClaim := { program := "ytbgloceimmbliaagreat", sum := "e01aaf63d1488a0ff4ffda39c4d85549ff110590928aebf99ff805f57e47b107", func := "torsion/torsionlaw11.DixonLinear", spec := "dixonLinear", unfollowed := true, recurses := true, apart := false }
def DixonLinearSaid : Prop := dixonLinearRow.holds Tryz.pinned (OpenSpec.ofChange dixonLinearSpec)

/-- ITS FALSE NEIGHBOUR: 'it returns false'. Refute it at one input. -/
def dixonLinearWrong : ChangeSpec := { name := "dixonLinear", fn := fun _ => fun
  | [d1, d2, d3] => { results := [.lit (.bool false)], args := [d1, d2, d3] }
  | _ => none }
def DixonLinearWrongFalsely : Prop := dixonLinearRow.holds Tryz.pinned (OpenSpec.ofChange dixonLinearWrong)

/- THE SECOND FORM. 'bulk': how many values and letters a reading holds, each counted each time it is reached (what is shared counts as often as it is met; a slice's spare places count too). A statement '..UptoSaid' is the law's where the arguments, and the package variables that the reading takes, are together of bulk at most 1048576: NARROWER than '..Said'. Prove '..Said' where nothing that the law and all that it calls make is longer than what came in: it says more and counts as full. Else prove '..UptoSaid'. A law counts once. -/
mutual
def uptoBulk {H : Type} : DataW H → Nat
  | .lit (.string bytes) => bytes.length + 1
  | .lit _ => 1
  | .nil => 1
  | .ptr d => uptoBulk d + 1
  | .slice elems spare => uptoBulkAll elems + uptoBulkAll spare + 1
  | .agg parts => uptoBulkAll parts + 1
  | .iface _ d => uptoBulk d + 1
  | .map entries => uptoBulkEntries entries + 1
  | .held _ => 1
def uptoBulkAll {H : Type} : List (DataW H) → Nat
  | [] => 0
  | d :: r => uptoBulk d + uptoBulkAll r
def uptoBulkEntries {H : Type} : List (Lit × DataW H) → Nat
  | [] => 0
  | x :: r => uptoBulkEntry x + uptoBulkEntries r
def uptoBulkEntry {H : Type} : Lit × DataW H → Nat
  | (.string bytes, d) => bytes.length + uptoBulk d + 1
  | (_, d) => uptoBulk d + 1
 end
def uptoSmall : (H : Type) → List (DataW H) → Bool := fun _ ds => decide (uptoBulkAll ds ≤ 1048576)
def OpenSpec.upto (s : _root_.Go.ChangeSpec) : _root_.Go.OpenSpec := { _root_.Go.OpenSpec.ofChange s with cond := some uptoSmall }

/-- 'torsionlaw11.DixonMatchesReference', WHERE WHAT IT READS IS OF BULK AT MOST 1048576: true; the input reads as it did. -/
def dixonMatchesReferenceUptoRow : OpenClaim := { program := "ytbgloceimmbliaagreat", sum := "e01aaf63d1488a0ff4ffda39c4d85549ff110590928aebf99ff805f57e47b107", func := "torsion/torsionlaw11.DixonMatchesReference", spec := "dixonMatchesReference", unfollowed := true, recurses := true, apart := false, narrowed := true }
def DixonMatchesReferenceUptoSaid : Prop := dixonMatchesReferenceUptoRow.holds Tryz.pinned (OpenSpec.upto dixonMatchesReferenceSpec)

/-- 'torsionlaw11.DixonSolves', WHERE WHAT IT READS IS OF BULK AT MOST 1048576: true; the input reads as it did. -/
def dixonSolvesUptoRow : OpenClaim := { program := "ytbgloceimmbliaagreat", sum := "e01aaf63d1488a0ff4ffda39c4d85549ff110590928aebf99ff805f57e47b107", func := "torsion/torsionlaw11.DixonSolves", spec := "dixonSolves", unfollowed := true, recurses := true, apart := false, narrowed := true }
def DixonSolvesUptoSaid : Prop := dixonSolvesUptoRow.holds Tryz.pinned (OpenSpec.upto dixonSolvesSpec)

/-- 'torsionlaw11.DixonDigits', WHERE WHAT IT READS IS OF BULK AT MOST 1048576: true; the input reads as it did. -/
def dixonDigitsUptoRow : OpenClaim := { program := "ytbgloceimmbliaagreat", sum := "e01aaf63d1488a0ff4ffda39c4d85549ff110590928aebf99ff805f57e47b107", func := "torsion/torsionlaw11.DixonDigits", spec := "dixonDigits", unfollowed := true, recurses := true, apart := false, narrowed := true }
def DixonDigitsUptoSaid : Prop := dixonDigitsUptoRow.holds Tryz.pinned (OpenSpec.upto dixonDigitsSpec)

/-- 'torsionlaw11.DixonUnlucky', WHERE WHAT IT READS IS OF BULK AT MOST 1048576: true; the input reads as it did. -/
def dixonUnluckyUptoRow : OpenClaim := { program := "ytbgloceimmbliaagreat", sum := "e01aaf63d1488a0ff4ffda39c4d85549ff110590928aebf99ff805f57e47b107", func := "torsion/torsionlaw11.DixonUnlucky", spec := "dixonUnlucky", unfollowed := true, recurses := true, apart := false, narrowed := true }
def DixonUnluckyUptoSaid : Prop := dixonUnluckyUptoRow.holds Tryz.pinned (OpenSpec.upto dixonUnluckySpec)

/-- 'torsionlaw11.DixonLinear', WHERE WHAT IT READS IS OF BULK AT MOST 1048576: true; the input reads as it did. -/
def dixonLinearUptoRow : OpenClaim := { program := "ytbgloceimmbliaagreat", sum := "e01aaf63d1488a0ff4ffda39c4d85549ff110590928aebf99ff805f57e47b107", func := "torsion/torsionlaw11.DixonLinear", spec := "dixonLinear", unfollowed := true, recurses := true, apart := false, narrowed := true }
def DixonLinearUptoSaid : Prop := dixonLinearUptoRow.holds Tryz.pinned (OpenSpec.upto dixonLinearSpec)

end Rows
end Go.Proofs.YtbgloceimmbliaaGreat
