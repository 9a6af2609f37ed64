/-
  No cell of these rows narrows 'for every input' (looked for: loops, veiled, ifaces, maps, wideKeys, modest, calm, conditions, laid).
  DERIVED. THE GIVEN ROWS OF THIS SEAT. 8 by the template 'for every input the law returns true; each argument reads behind the call as it read before'; 0 by the template 'total and deterministic' (their statements: YthkgpdljbajieaaTotals.lean).
  GIVEN WITH THE SEED: the statements are not yours to turn. If you find one false, say at which input.
  Laid BY PROGRAM, IN A SANDBOX (cutbox-rows.mjs): the forced cells as the released guide's own fill.sh prints them over the translation 4e80fe93d8ebfce0… (all of the seat's roots in one cut). By AI agents, Wed Nov 11 2026. No macro, syntax, notation, axiom, sorry.
-/
import Derived.Test.YthkgpdljbajieaaChecked
import GoSem.Claim
import GoSem.ClaimJoined
import GoSem.ClaimMapViews
import Derived.JoinedTies
import Derived.KernelRfl
namespace Go.Proofs.Ythkgpdljbajieaa
/- THE CELL 'sum', in the pinned program and in every row, IS THE sha256 OF THE DUMP (.gsa) THAT YthkgpdljbajieaaProg.lean LOADS. Nothing in Lean hashes anything: it is a label: what it is worth is what the hold of that sum in a sandbox is worth. -/
noncomputable def Try.pinned : Pinned := { name := "ythkgpdljbajieaa", sum := "4e80fe93d8ebfce03c563287e11e093681e6fa2b9bfee6d8e0fa18fc00c9fec2", checked := Try.checked }
namespace Rows
def none {H : Type} : Left H := { results := [], args := [] }

/-- 'torsionlaw04.CrtMatchesReference': WHATEVER THE INPUT: true; the input reads as it did. -/
def crtMatchesReferenceSpec : ChangeSpec := { name := "crtMatchesReference", fn := fun _ => fun
  | [d1, d2, d3] => { results := [.lit (.bool true)], args := [d1, d2, d3] }
  | _ => none }
def crtMatchesReferenceRow : OpenClaim := { program := "ythkgpdljbajieaa", sum := "4e80fe93d8ebfce03c563287e11e093681e6fa2b9bfee6d8e0fa18fc00c9fec2", func := "torsion/torsionlaw04.CrtMatchesReference", spec := "crtMatchesReference", unfollowed := true, recurses := true, apart := false }
def CrtMatchesReferenceSaid : Prop := crtMatchesReferenceRow.holds Try.pinned (OpenSpec.ofChange crtMatchesReferenceSpec)

/-- ITS FALSE NEIGHBOUR: 'it returns false'. Refute it at one input. -/
def crtMatchesReferenceWrong : ChangeSpec := { name := "crtMatchesReference", fn := fun _ => fun
  | [d1, d2, d3] => { results := [.lit (.bool false)], args := [d1, d2, d3] }
  | _ => none }
def CrtMatchesReferenceWrongFalsely : Prop := crtMatchesReferenceRow.holds Try.pinned (OpenSpec.ofChange crtMatchesReferenceWrong)

/-- 'torsionlaw04.CrtCombines': WHATEVER THE INPUT: true; the input reads as it did. -/
def crtCombinesSpec : ChangeSpec := { name := "crtCombines", fn := fun _ => fun
  | [d] => { results := [.lit (.bool true)], args := [d] }
  | _ => none }
def crtCombinesRow : OpenClaim := { program := "ythkgpdljbajieaa", sum := "4e80fe93d8ebfce03c563287e11e093681e6fa2b9bfee6d8e0fa18fc00c9fec2", func := "torsion/torsionlaw04.CrtCombines", spec := "crtCombines", unfollowed := true, recurses := true, apart := false }
def CrtCombinesSaid : Prop := crtCombinesRow.holds Try.pinned (OpenSpec.ofChange crtCombinesSpec)

/-- ITS FALSE NEIGHBOUR: 'it returns false'. Refute it at one input. -/
def crtCombinesWrong : ChangeSpec := { name := "crtCombines", fn := fun _ => fun
  | [d] => { results := [.lit (.bool false)], args := [d] }
  | _ => none }
def CrtCombinesWrongFalsely : Prop := crtCombinesRow.holds Try.pinned (OpenSpec.ofChange crtCombinesWrong)

/-- 'torsionlaw04.CrtOrders': WHATEVER THE INPUT: true; the input reads as it did. -/
def crtOrdersSpec : ChangeSpec := { name := "crtOrders", fn := fun _ => fun
  | [d1, d2] => { results := [.lit (.bool true)], args := [d1, d2] }
  | _ => none }
def crtOrdersRow : OpenClaim := { program := "ythkgpdljbajieaa", sum := "4e80fe93d8ebfce03c563287e11e093681e6fa2b9bfee6d8e0fa18fc00c9fec2", func := "torsion/torsionlaw04.CrtOrders", spec := "crtOrders", unfollowed := true, recurses := true, apart := false }
def CrtOrdersSaid : Prop := crtOrdersRow.holds Try.pinned (OpenSpec.ofChange crtOrdersSpec)

/-- ITS FALSE NEIGHBOUR: 'it returns false'. Refute it at one input. -/
def crtOrdersWrong : ChangeSpec := { name := "crtOrders", fn := fun _ => fun
  | [d1, d2] => { results := [.lit (.bool false)], args := [d1, d2] }
  | _ => none }
def CrtOrdersWrongFalsely : Prop := crtOrdersRow.holds Try.pinned (OpenSpec.ofChange crtOrdersWrong)

/-- 'torsionlaw04.CrtRecovers': WHATEVER THE INPUT: true; the input reads as it did. -/
def crtRecoversSpec : ChangeSpec := { name := "crtRecovers", fn := fun _ => fun
  | [d1, d2, d3] => { results := [.lit (.bool true)], args := [d1, d2, d3] }
  | _ => none }
def crtRecoversRow : OpenClaim := { program := "ythkgpdljbajieaa", sum := "4e80fe93d8ebfce03c563287e11e093681e6fa2b9bfee6d8e0fa18fc00c9fec2", func := "torsion/torsionlaw04.CrtRecovers", spec := "crtRecovers", unfollowed := true, recurses := true, apart := false }
def CrtRecoversSaid : Prop := crtRecoversRow.holds Try.pinned (OpenSpec.ofChange crtRecoversSpec)

/-- ITS FALSE NEIGHBOUR: 'it returns false'. Refute it at one input. -/
def crtRecoversWrong : ChangeSpec := { name := "crtRecovers", fn := fun _ => fun
  | [d1, d2, d3] => { results := [.lit (.bool false)], args := [d1, d2, d3] }
  | _ => none }
def CrtRecoversWrongFalsely : Prop := crtRecoversRow.holds Try.pinned (OpenSpec.ofChange crtRecoversWrong)

/-- 'torsionlaw04.CrtRejects': WHATEVER THE INPUT: true; the input reads as it did. -/
def crtRejectsSpec : ChangeSpec := { name := "crtRejects", fn := fun _ => fun
  | [d1, d2, d3] => { results := [.lit (.bool true)], args := [d1, d2, d3] }
  | _ => none }
def crtRejectsRow : OpenClaim := { program := "ythkgpdljbajieaa", sum := "4e80fe93d8ebfce03c563287e11e093681e6fa2b9bfee6d8e0fa18fc00c9fec2", func := "torsion/torsionlaw04.CrtRejects", spec := "crtRejects", unfollowed := true, recurses := true, apart := false }
def CrtRejectsSaid : Prop := crtRejectsRow.holds Try.pinned (OpenSpec.ofChange crtRejectsSpec)

/-- ITS FALSE NEIGHBOUR: 'it returns false'. Refute it at one input. -/
def crtRejectsWrong : ChangeSpec := { name := "crtRejects", fn := fun _ => fun
  | [d1, d2, d3] => { results := [.lit (.bool false)], args := [d1, d2, d3] }
  | _ => none }
def CrtRejectsWrongFalsely : Prop := crtRejectsRow.holds Try.pinned (OpenSpec.ofChange crtRejectsWrong)

/-- 'torsionlaw04.CrtRationalMatchesReference': WHATEVER THE INPUT: true; the input reads as it did. -/
def crtRationalMatchesReferenceSpec : ChangeSpec := { name := "crtRationalMatchesReference", fn := fun _ => fun
  | [d1, d2] => { results := [.lit (.bool true)], args := [d1, d2] }
  | _ => none }
def crtRationalMatchesReferenceRow : OpenClaim := { program := "ythkgpdljbajieaa", sum := "4e80fe93d8ebfce03c563287e11e093681e6fa2b9bfee6d8e0fa18fc00c9fec2", func := "torsion/torsionlaw04.CrtRationalMatchesReference", spec := "crtRationalMatchesReference", unfollowed := true, recurses := true, apart := false }
def CrtRationalMatchesReferenceSaid : Prop := crtRationalMatchesReferenceRow.holds Try.pinned (OpenSpec.ofChange crtRationalMatchesReferenceSpec)

/-- ITS FALSE NEIGHBOUR: 'it returns false'. Refute it at one input. -/
def crtRationalMatchesReferenceWrong : ChangeSpec := { name := "crtRationalMatchesReference", fn := fun _ => fun
  | [d1, d2] => { results := [.lit (.bool false)], args := [d1, d2] }
  | _ => none }
def CrtRationalMatchesReferenceWrongFalsely : Prop := crtRationalMatchesReferenceRow.holds Try.pinned (OpenSpec.ofChange crtRationalMatchesReferenceWrong)

/-- 'torsionlaw04.CrtRationals': WHATEVER THE INPUT: true; the input reads as it did. -/
def crtRationalsSpec : ChangeSpec := { name := "crtRationals", fn := fun _ => fun
  | [d1, d2] => { results := [.lit (.bool true)], args := [d1, d2] }
  | _ => none }
def crtRationalsRow : OpenClaim := { program := "ythkgpdljbajieaa", sum := "4e80fe93d8ebfce03c563287e11e093681e6fa2b9bfee6d8e0fa18fc00c9fec2", func := "torsion/torsionlaw04.CrtRationals", spec := "crtRationals", unfollowed := true, recurses := true, apart := false }
def CrtRationalsSaid : Prop := crtRationalsRow.holds Try.pinned (OpenSpec.ofChange crtRationalsSpec)

/-- ITS FALSE NEIGHBOUR: 'it returns false'. Refute it at one input. -/
def crtRationalsWrong : ChangeSpec := { name := "crtRationals", fn := fun _ => fun
  | [d1, d2] => { results := [.lit (.bool false)], args := [d1, d2] }
  | _ => none }
def CrtRationalsWrongFalsely : Prop := crtRationalsRow.holds Try.pinned (OpenSpec.ofChange crtRationalsWrong)

/-- 'torsionlaw04.CrtFractions': WHATEVER THE INPUT: true; the input reads as it did. -/
def crtFractionsSpec : ChangeSpec := { name := "crtFractions", fn := fun _ => fun
  | [d1, d2, d3] => { results := [.lit (.bool true)], args := [d1, d2, d3] }
  | _ => none }
def crtFractionsRow : OpenClaim := { program := "ythkgpdljbajieaa", sum := "4e80fe93d8ebfce03c563287e11e093681e6fa2b9bfee6d8e0fa18fc00c9fec2", func := "torsion/torsionlaw04.CrtFractions", spec := "crtFractions", unfollowed := true, recurses := true, apart := false }
def CrtFractionsSaid : Prop := crtFractionsRow.holds Try.pinned (OpenSpec.ofChange crtFractionsSpec)

/-- ITS FALSE NEIGHBOUR: 'it returns false'. Refute it at one input. -/
def crtFractionsWrong : ChangeSpec := { name := "crtFractions", fn := fun _ => fun
  | [d1, d2, d3] => { results := [.lit (.bool false)], args := [d1, d2, d3] }
  | _ => none }
def CrtFractionsWrongFalsely : Prop := crtFractionsRow.holds Try.pinned (OpenSpec.ofChange crtFractionsWrong)

/- THE SECOND FORM. 'bulk': how many values and letters a reading holds, each counted each time it is reached (what is shared counts as often as it is met; a slice's spare places count too). A statement '..UptoSaid' is the law's where the arguments, and the package variables that the reading takes, are together of bulk at most 1048576: NARROWER than '..Said'. Prove '..Said' where nothing that the law and all that it calls make is longer than what came in: it says more and counts as full. Else prove '..UptoSaid'. A law counts once. -/
mutual
def uptoBulk {H : Type} : DataW H → Nat
  | .lit (.string bytes) => bytes.length + 1
  | .lit _ => 1
  | .nil => 1
  | .ptr d => uptoBulk d + 1
  | .slice elems spare => uptoBulkAll elems + uptoBulkAll spare + 1
  | .agg parts => uptoBulkAll parts + 1
  | .iface _ d => uptoBulk d + 1
  | .map entries => uptoBulkEntries entries + 1
  | .held _ => 1
def uptoBulkAll {H : Type} : List (DataW H) → Nat
  | [] => 0
  | d :: r => uptoBulk d + uptoBulkAll r
def uptoBulkEntries {H : Type} : List (Lit × DataW H) → Nat
  | [] => 0
  | x :: r => uptoBulkEntry x + uptoBulkEntries r
def uptoBulkEntry {H : Type} : Lit × DataW H → Nat
  | (.string bytes, d) => bytes.length + uptoBulk d + 1
  | (_, d) => uptoBulk d + 1
 end
def uptoSmall : (H : Type) → List (DataW H) → Bool := fun _ ds => decide (uptoBulkAll ds ≤ 1048576)
def OpenSpec.upto (s : _root_.Go.ChangeSpec) : _root_.Go.OpenSpec := { _root_.Go.OpenSpec.ofChange s with cond := some uptoSmall }

/-- 'torsionlaw04.CrtMatchesReference', WHERE WHAT IT READS IS OF BULK AT MOST 1048576: true; the input reads as it did. -/
def crtMatchesReferenceUptoRow : OpenClaim := { program := "ythkgpdljbajieaa", sum := "4e80fe93d8ebfce03c563287e11e093681e6fa2b9bfee6d8e0fa18fc00c9fec2", func := "torsion/torsionlaw04.CrtMatchesReference", spec := "crtMatchesReference", unfollowed := true, recurses := true, apart := false, narrowed := true }
def CrtMatchesReferenceUptoSaid : Prop := crtMatchesReferenceUptoRow.holds Try.pinned (OpenSpec.upto crtMatchesReferenceSpec)

/-- 'torsionlaw04.CrtCombines', WHERE WHAT IT READS IS OF BULK AT MOST 1048576: true; the input reads as it did. -/
def crtCombinesUptoRow : OpenClaim := { program := "ythkgpdljbajieaa", sum := "4e80fe93d8ebfce03c563287e11e093681e6fa2b9bfee6d8e0fa18fc00c9fec2", func := "torsion/torsionlaw04.CrtCombines", spec := "crtCombines", unfollowed := true, recurses := true, apart := false, narrowed := true }
def CrtCombinesUptoSaid : Prop := crtCombinesUptoRow.holds Try.pinned (OpenSpec.upto crtCombinesSpec)

/-- 'torsionlaw04.CrtOrders', WHERE WHAT IT READS IS OF BULK AT MOST 1048576: true; the input reads as it did. -/
def crtOrdersUptoRow : OpenClaim := { program := "ythkgpdljbajieaa", sum := "4e80fe93d8ebfce03c563287e11e093681e6fa2b9bfee6d8e0fa18fc00c9fec2", func := "torsion/torsionlaw04.CrtOrders", spec := "crtOrders", unfollowed := true, recurses := true, apart := false, narrowed := true }
def CrtOrdersUptoSaid : Prop := crtOrdersUptoRow.holds Try.pinned (OpenSpec.upto crtOrdersSpec)

/-- 'torsionlaw04.CrtRecovers', WHERE WHAT IT READS IS OF BULK AT MOST 1048576: true; the input reads as it did. -/
def crtRecoversUptoRow : OpenClaim := { program := "ythkgpdljbajieaa", sum := "4e80fe93d8ebfce03c563287e11e093681e6fa2b9bfee6d8e0fa18fc00c9fec2", func := "torsion/torsionlaw04.CrtRecovers", spec := "crtRecovers", unfollowed := true, recurses := true, apart := false, narrowed := true }
def CrtRecoversUptoSaid : Prop := crtRecoversUptoRow.holds Try.pinned (OpenSpec.upto crtRecoversSpec)

/-- 'torsionlaw04.CrtRejects', WHERE WHAT IT READS IS OF BULK AT MOST 1048576: true; the input reads as it did. -/
def crtRejectsUptoRow : OpenClaim := { program := "ythkgpdljbajieaa", sum := "4e80fe93d8ebfce03c563287e11e093681e6fa2b9bfee6d8e0fa18fc00c9fec2", func := "torsion/torsionlaw04.CrtRejects", spec := "crtRejects", unfollowed := true, recurses := true, apart := false, narrowed := true }
def CrtRejectsUptoSaid : Prop := crtRejectsUptoRow.holds Try.pinned (OpenSpec.upto crtRejectsSpec)

/-- 'torsionlaw04.CrtRationalMatchesReference', WHERE WHAT IT READS IS OF BULK AT MOST 1048576: true; the input reads as it did. -/
def crtRationalMatchesReferenceUptoRow : OpenClaim := { program := "ythkgpdljbajieaa", sum := "4e80fe93d8ebfce03c563287e11e093681e6fa2b9bfee6d8e0fa18fc00c9fec2", func := "torsion/torsionlaw04.CrtRationalMatchesReference", spec := "crtRationalMatchesReference", unfollowed := true, recurses := true, apart := false, narrowed := true }
def CrtRationalMatchesReferenceUptoSaid : Prop := crtRationalMatchesReferenceUptoRow.holds Try.pinned (OpenSpec.upto crtRationalMatchesReferenceSpec)

/-- 'torsionlaw04.CrtRationals', WHERE WHAT IT READS IS OF BULK AT MOST 1048576: true; the input reads as it did. -/
def crtRationalsUptoRow : OpenClaim := { program := "ythkgpdljbajieaa", sum := "4e80fe93d8ebfce03c563287e11e093681e6fa2b9bfee6d8e0fa18fc00c9fec2", func := "torsion/torsionlaw04.CrtRationals", spec := "crtRationals", unfollowed := true, recurses := true, apart := false, narrowed := true }
def CrtRationalsUptoSaid : Prop := crtRationalsUptoRow.holds Try.pinned (OpenSpec.upto crtRationalsSpec)

/-- 'torsionlaw04.CrtFractions', WHERE WHAT IT READS IS OF BULK AT MOST 1048576: true; the input reads as it did. -/
def crtFractionsUptoRow : OpenClaim := { program := "ythkgpdljbajieaa", sum := "4e80fe93d8ebfce03c563287e11e093681e6fa2b9bfee6d8e0fa18fc00c9fec2", func := "torsion/torsionlaw04.CrtFractions", spec := "crtFractions", unfollowed := true, recurses := true, apart := false, narrowed := true }
def CrtFractionsUptoSaid : Prop := crtFractionsUptoRow.holds Try.pinned (OpenSpec.upto crtFractionsSpec)

end Rows
end Go.Proofs.Ythkgpdljbajieaa
