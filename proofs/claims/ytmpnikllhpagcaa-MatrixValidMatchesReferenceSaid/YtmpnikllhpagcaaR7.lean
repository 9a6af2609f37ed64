/-
  Valid of raw integers: the reference's.
-/
import Derived.Test.YtmpnikllhpagcaaR6
set_option linter.unusedVariables false
set_option linter.unusedSimpArgs false
namespace Tor
open Go Go.RowKit Go.Proofs
/-- An integer with any sign and limbs. -/
def rawT (neg : Bool) (l : List Nat) : VT := aggT 2 [(0, .one, one (.bool neg)), (1, .one, limT l)]
/-- What Valid answers. -/
def validI (neg : Bool) (l : List Nat) : Bool := if l.length = 0 then !neg else decide (l.getD (l.length - 1) 0 ≠ 0)
theorem bigT_raw (x : Int) : VT.le (bigT x) (rawT (decide (x < 0)) (digs x.natAbs)) := VT.le_refl _
attribute [local irreducible] Tor.J Tor.PJ Tor.StepO Tor.one Tor.slT Tor.ptrT Tor.aggT Tor.tupT Tor.exT Tor.andT Tor.gT Tor.eP Tor.boxO Tor.sliO Tor.slV Tor.VT.le Tor.Ret Tor.anyT
theorem rValid_ok (neg : Bool) (l : List Nat) (hl : l.length ≤ 4398046511104) : Ok Try.prog 86 [rawT neg l] (one (.bool (validI neg l))) := by
  unfold rawT
  refine Ok.enter Try.func86 rfl Try.ntmps86 rfl (fun w O => ?_)
  by_cases h0 : l.length = 0
  · refine J_seq ?_
    refine J_reg ?_
    refine a_boxS rfl rfl (ltN rfl) (fun b => ?_)
    refine st (s_assign rfl) rfl ?_
    refine Run.nil ?_
    refine pj_then ?_
    refine J_seq ?_
    refine J_seq ?_
    refine J_reg ?_
    refine st (s_fieldAddr rfl) rfl ?_
    refine st (s_loadB 0 rfl rfl rfl) rfl ?_
    refine st (s_len rfl) rfl ?_
    refine st (s_eq rfl rfl) rfl ?_
    refine Run.nil ?_
    refine pj_then ?_
    refine J_cond rfl (fun hc => ?_) (fun hc => ?_) <;> simp only [decide_eq_true_eq, decide_eq_false_iff_not] at hc
    · refine J_seq ?_
      refine J_reg ?_
      refine st (s_fieldAddr rfl) rfl ?_
      refine st (s_loadB 0 rfl rfl rfl) rfl ?_
      refine st (s_not rfl) rfl ?_
      refine st (s_assign rfl) rfl ?_
      refine Run.nil ?_
      refine pj_then ?_
      refine J_ret ?_
      refine pr_then ?_
      exact retc1 Try.results86 (.tmp rfl (one_le (by unfold validI; rw [if_pos h0])))
    · omega
  · refine J_seq ?_
    refine J_reg ?_
    refine a_boxS rfl rfl (ltN rfl) (fun b => ?_)
    refine st (s_assign rfl) rfl ?_
    refine Run.nil ?_
    refine pj_then ?_
    refine J_seq ?_
    refine J_seq ?_
    refine J_reg ?_
    refine st (s_fieldAddr rfl) rfl ?_
    refine st (s_loadB 0 rfl rfl rfl) rfl ?_
    refine st (s_len rfl) rfl ?_
    refine st (s_eq rfl rfl) rfl ?_
    refine Run.nil ?_
    refine pj_then ?_
    refine J_cond rfl (fun hc => ?_) (fun hc => ?_) <;> simp only [decide_eq_true_eq, decide_eq_false_iff_not] at hc
    · omega
    · refine J_skip ?_
      refine pj_then ?_
      refine J_seq ?_
      refine J_reg ?_
      refine st (s_fieldAddr rfl) rfl ?_
      refine st (s_loadB 0 rfl rfl rfl) rfl ?_
      refine st (s_fieldAddr rfl) rfl ?_
      refine st (s_loadB 0 rfl rfl rfl) rfl ?_
      refine st (s_len rfl) rfl ?_
      (refine st (s_sub rfl rfl (wrap_i64 ?_ ?_)) rfl ?_; omega; omega)
      (refine st (s_indexI rfl rfl ?_ ?_) rfl ?_; omega; omega)
      refine st (s_load rfl) rfl ?_
      refine st (s_ne rfl rfl) rfl ?_
      refine st (s_assign rfl) rfl ?_
      refine Run.nil ?_
      refine pj_then ?_
      refine J_ret ?_
      refine retc1 Try.results86 (.tmp rfl (one_le ?_))
      have e : (↑l.length - 1 : Int).toNat = l.length - 1 := by omega
      unfold validI; rw [if_neg h0, e]; congr 1; rw [decide_eq_decide]; omega
end Tor
