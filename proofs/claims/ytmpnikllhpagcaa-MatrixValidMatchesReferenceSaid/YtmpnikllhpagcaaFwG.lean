/-
  Arrays: an element of a value, the address of an element of a variable.
  No condition: general theorems over any program.
-/
import Derived.Test.YtmpnikllhpagcaaFwF
set_option linter.unusedVariables false
set_option linter.unusedSimpArgs false
set_option linter.unusedSectionVars false
namespace Tor
open Go Go.RowKit

section
variable {P : Program} {E : Env} {D : List Deferred} {Γ : Ctx} {M : Mem} {ty : TypeId} {pos : String} {af : Array Edge} {gd : Option (Nat × Bool)} {d : Option Tmp}
theorem s_indexA {T e : TypeId} {n m : Nat} {L : Lay} [hA : ArrayOf P T n e] [hL : LayOf P e L] {x y : Operand} {cs : Comps} {φ : VT} {k : IntKind} {j : Nat} (hx : evalT Γ x = some (aggT m cs)) (hy : evalT Γ y = some (one (.int k (j : Int)))) (hj : j < n) (hl : lookC cs (j * L.sz) = some (L, φ)) :
    StepO P E Γ M ⟨d, .index T x y, ty, pos, af, gd⟩ φ :=
  StepO.ofRun fun a w hb hf => by
    obtain ⟨c, hv', hs, ha, hcs⟩ := hf x _ (by simp [Op.operands]) hx
    have hy' : a.eval y = .int k j := hf y _ (by simp [Op.operands]) hy
    obtain ⟨v, h1, h2⟩ := hcs _ (lookC_mem hl)
    refine ⟨v, ?_, h2⟩
    have hi : 0 ≤ (j : Int) ∧ (j : Int) < (n : Int) := ⟨by omega, by omega⟩
    have h6 : (part e c (j * L.sz)).run P w = .ok v w := run_part (P := P) (T := e) h1 w
    simp [execOp, hv', hy', Instr.index, asIntOf, run_underlying' hA.und, hj, run_sizeOf' (L := L), Sem.run_bind, h6]
theorem s_indexB {T e : TypeId} {n : Nat} {L : Lay} [hA : ArrayOf P T n e] [hL : LayOf P e L] {x y : Operand} {b o : Nat} {k : IntKind} {j : Nat} (hx : evalT Γ x = some (one (.pointer (some ⟨b, o, none⟩)))) (hy : evalT Γ y = some (one (.int k (j : Int)))) (hj : j < n) :
    StepO P E Γ M ⟨d, .indexAddr T x y, ty, pos, af, gd⟩ (one (.pointer (some ⟨b, o + j * L.sz, none⟩))) :=
  StepO.ofRun fun a w hb hf => by
    have hx' : a.eval x = .pointer (some ⟨b, o, none⟩) := hf x _ (by simp [Op.operands]) hx
    have hy' : a.eval y = .int k j := hf y _ (by simp [Op.operands]) hy
    refine ⟨.pointer (some ⟨b, o + j * L.sz, none⟩), ?_, rfl⟩
    have hi : 0 ≤ (j : Int) ∧ (j : Int) < (n : Int) := ⟨by omega, by omega⟩
    simp [execOp, hx', hy', Instr.indexAt, Instr.sureAddr, asIntOf, run_underlying' hA.und, hj, run_sizeOf' (L := L), addr_add, Sem.run_bind]
theorem s_indexBC {T e : TypeId} {n : Nat} {L : Lay} [hA : ArrayOf P T n e] [hL : LayOf P e L] {x : Operand} {b o : Nat} {k : IntKind} (j : Nat) (iv : Int) (hiv : iv = (j : Int)) (hx : evalT Γ x = some (one (.pointer (some ⟨b, o, none⟩)))) (hj : j < n) :
    StepO P E Γ M ⟨d, .indexAddr T x (.const (.int k iv)), ty, pos, af, gd⟩ (one (.pointer (some ⟨b, o + j * L.sz, none⟩))) := by
  subst hiv
  exact s_indexB hx rfl hj
end
end Tor
