/-
  torsionref05: Made.
-/
import Derived.Test.YtmpnikllhpagcaaXA
set_option linter.unusedVariables false
set_option linter.unusedSimpArgs false
namespace Tor
open Go Go.RowKit Go.Proofs
/-- The description of a matrix. -/
def rawInT (r c : Nat) (l : List Int) : VT := aggT 3 [(0, .one, one (.int .u8 r)), (1, .one, one (.int .u8 c)), (2, .one, numT .i8 l)]
/-- The elements of the matrix that is made. -/
def madeF (c : Nat) (l : List Int) : Nat → Nat → Int := fun i j => dig l (i * (c % 5) + j)
theorem tmod5 (n : Nat) : (n : Int).tmod 5 = ((n % 5 : Nat) : Int) := by
  rw [Int.tmod_eq_emod_of_nonneg (by omega)]; omega
attribute [local irreducible] Tor.J Tor.PJ Tor.StepO Tor.one Tor.slT Tor.ptrT Tor.aggT Tor.tupT Tor.exT Tor.andT Tor.gT Tor.eP Tor.boxO Tor.sliO Tor.slV Tor.VT.le Tor.Ret Tor.anyT
attribute [local irreducible] bigT Tor.rowsO
set_option maxHeartbeats 2000000 in
theorem rMadeM_ok (r c : Nat) (l : List Int) : OkM Try.prog 11 [rawInT r c l] (newT (r % 5) (c % 5)) (fun s => [outO s.1.2.1 s.1.2.2 (r % 5) (c % 5) s.1.1, ownR (c % 5) s.1.1 (madeF c l)]) := by
  unfold rawInT numT
  refine OkM.enter Try.func11 rfl Try.ntmps11 rfl (fun w O => ?_)
  have h5 := tmod5 r
  have h6 := tmod5 c
  have hr : r % 5 < 5 := Nat.mod_lt _ (by decide)
  have hc : c % 5 < 5 := Nat.mod_lt _ (by decide)
  refine J_seq ?_
  refine J_reg ?_
  refine a_boxS rfl rfl (ltN rfl) (fun b => ?_)
  refine a_allocS (T := 33) rfl rfl rfl (fun b => ?_)
  refine Run.nil ?_
  refine pj_then ?_
  refine J_seq ?_
  refine J_reg ?_
  refine st (s_fieldAddr rfl) rfl ?_
  refine st (s_loadB 1 rfl rfl rfl) rfl ?_
  refine st (s_rem rfl rfl (by decide) rfl) rfl ?_
  (refine st (s_toI64 rfl ?_ ?_) rfl ?_; omega; omega)
  refine st (s_fieldAddr rfl) rfl ?_
  refine st (s_loadB 1 rfl rfl rfl) rfl ?_
  refine st (s_rem rfl rfl (by decide) rfl) rfl ?_
  (refine st (s_toI64 rfl ?_ ?_) rfl ?_; omega; omega)
  refine st (s_fieldAddr rfl) rfl ?_
  refine st (s_loadB 1 rfl rfl rfl) rfl ?_
  rw [h5]
  skip
  rw [h6]
  skip
  refine a_callM (rFilledM_ok (r % 5) (c % 5) l (by omega) (by omega)) rfl ⟨VT.le_refl _, VT.le_refl _, VT.le_refl _, trivial⟩ rfl rfl (fun s => ?_)
  unfold newT
  refine a_storeW 2 rfl rfl rfl rfl ?_
  refine Run.nil ?_
  refine pj_then ?_
  refine J_ret ?_
  refine retM1 s Try.results11 (.cellW 2 rfl rfl ?_) ?_
  · exact VT.le_refl _
  · exact .keep (Own.le_refl _) (.keep (Own.le_refl _) (SubM.nilR _))
end Tor
