/-
  package matrix: valid; slices.Clone; own; ownRow.
-/
import Derived.Test.YtmpnikllhpagcaaX1
set_option linter.unusedVariables false
set_option linter.unusedSimpArgs false
namespace Tor
open Go Go.RowKit Go.Proofs
/-- A number that is not too long. -/
def small (x : Int) : Prop := (digs x.natAbs).length ≤ 1099511627776
/-- Two matrices in a list. -/
def mat2T (φ ψ : VT) : VT := slT (.agg 3) 2 (fun i => if i = 0 then φ else ψ)
theorem two_mat2 {φ ψ : VT} : VT.le (slT (.agg 3) 2 (fun q => [φ, ψ].getD q anyT)) (mat2T φ ψ) := by
  unfold mat2T
  refine slT_le fun i hi => ?_
  rcases i with _ | _ | i
  · exact VT.le_refl _
  · exact VT.le_refl _
  · omega
instance {r c : Nat} {F : Nat → Nat → Int} : Flat (matF r c F) (.agg 3) := by unfold matF; infer_instance
attribute [local irreducible] Tor.J Tor.PJ Tor.StepO Tor.one Tor.slT Tor.ptrT Tor.aggT Tor.tupT Tor.exT Tor.andT Tor.gT Tor.eP Tor.boxO Tor.sliO Tor.slV Tor.VT.le Tor.Ret Tor.anyT
attribute [local irreducible] bigT matF
set_option maxHeartbeats 1000000 in
theorem matValidF_ok (r c : Nat) (F : Nat → Nat → Int) : Ok Try.prog 13 [matF r c F] (one (.bool true)) := by
  have h := matValid_ok r c (rawTab r c F)
  rw [validM_tab] at h
  exact h.le ⟨matF_raw r c F, trivial⟩ (VT.le_refl _)
set_option maxHeartbeats 1000000 in
theorem valid2_ok (ra ca : Nat) (F : Nat → Nat → Int) (rb cb : Nat) (G : Nat → Nat → Int) : Ok Try.prog 56 [mat2T (matF ra ca F) (matF rb cb G)] (one (.bool true)) := by
  unfold mat2T
  refine Ok.enter Try.func56 rfl Try.ntmps56 rfl (fun w O => ?_)
  refine J_seq ?_
  refine J_reg ?_
  refine st (s_assign rfl) rfl ?_
  refine Run.nil ?_
  refine pj_then ?_
  refine J_seq ?_
  refine J_seq ?_
  refine J_reg ?_
  refine st (s_move rfl) rfl ?_
  refine st (s_len rfl) rfl ?_
  refine st (s_move rfl) rfl ?_
  refine Run.nil ?_
  refine pj_then ?_
  refine J_block ?_
  refine J_loop (σ := Nat) (fun i => [(5, slT (.agg 3) 2 (fun i => if i = 0 then matF ra ca F else matF rb cb G)), (6, one (.int .i64 (2 : Nat))), (7, one (.int .i64 (i : Nat)))]) (fun _ => []) (fun i => i ≤ 2) (fun i => 2 - i) 0 (Nat.zero_le _) (by repeat (first | exact SubG.nil | refine SubG.cons rfl (VT.le_refl _) ?_ | (refine SubG.cons rfl (one_le ?_) ?_; (congr 1; first | omega | (simp; omega) | simp)))) (SubM.refl _) (fun i hi => ?_)
  refine J_seq ?_
  refine J_reg ?_
  refine st (s_lt rfl rfl) rfl ?_
  refine Run.nil ?_
  refine pj_then ?_
  refine J_seq ?_
  refine J_cond rfl (fun hc => ?_) (fun hc => ?_) <;> simp only [decide_eq_true_eq, decide_eq_false_iff_not, ne_eq, Decidable.not_not] at hc
  · have h2 : i < 2 := by omega
    have hF : Flat (if i = 0 then matF ra ca F else matF rb cb G) (.agg 3) := by split <;> infer_instance
    refine J_skip ?_
    refine pj_then ?_
    refine J_seq ?_
    refine J_block ?_
    refine J_seq ?_
    refine J_reg ?_
    (refine st (s_indexIN rfl rfl ?_) rfl ?_; omega)
    refine st (s_load rfl) rfl ?_
    refine a_allocS (T := 33) rfl rfl rfl (fun b => ?_)
    refine a_storeV 0 rfl rfl rfl rfl ?_
    refine Run.nil ?_
    refine pj_then ?_
    refine J_seq ?_
    refine J_reg ?_
    refine st (s_loadB 0 rfl rfl rfl) rfl ?_
    have hcall : Ok Try.prog 13 [if i = 0 then matF ra ca F else matF rb cb G] (one (.bool true)) := by
      split
      · exact matValidF_ok _ _ _
      · exact matValidF_ok _ _ _
    refine st (s_callk hcall rfl ⟨VT.le_refl _, trivial⟩) rfl ?_
    refine st (s_not rfl) rfl ?_
    refine Run.nil ?_
    refine pj_then ?_
    refine J_cond rfl (fun hc2 => ?_) (fun hc2 => ?_)
    · cases hc2
    · refine J_skip ?_
      refine pn_block ?_
      refine pj_then ?_
      refine J_reg ?_
      (refine st (s_add rfl rfl (wrap_i64 ?_ ?_)) rfl ?_; omega; omega)
      refine st (s_move rfl) rfl ?_
      refine Run.nil ?_
      exact pj_round (s := i) (i + 1) (show _ from by omega) (by show 2 - (i + 1) < 2 - i; omega) (by repeat (first | exact SubG.nil | refine SubG.cons rfl (VT.le_refl _) ?_ | (refine SubG.cons rfl (one_le ?_) ?_; (congr 1; first | omega | (simp; omega) | simp)))) (.drop .nil)
  · refine J_exit ?_
    refine px_then ?_
    refine px_then ?_
    refine px_block ?_
    refine pj_then ?_
    refine J_seq ?_
    refine J_reg ?_
    refine st (s_assign rfl) rfl ?_
    refine Run.nil ?_
    refine pj_then ?_
    refine J_ret ?_
    exact retc1 Try.results56 (.tmp rfl (VT.le_refl _))
set_option maxHeartbeats 1000000 in
theorem Clone_ok (l : List Nat) (hl : l.length ≤ 1099511627776) : Ok Try.prog 90 [limT l] (limT l) := by
  unfold limT
  refine Ok.enter Try.func90 rfl Try.ntmps90 rfl (fun w O => ?_)
  refine J_seq ?_
  refine J_reg ?_
  refine st (s_assign rfl) rfl ?_
  refine Run.nil ?_
  refine pj_then ?_
  refine J_seq ?_
  refine J_seq ?_
  refine J_reg ?_
  refine st (s_move rfl) rfl ?_
  refine st (s_eqNil rfl) rfl ?_
  refine Run.nil ?_
  refine pj_then ?_
  refine J_ex (t := 4) rfl (fun b => ?_)
  refine J_and (t := 4) rfl (fun hb => ?_)
  refine J_cond rfl (fun hc => ?_) (fun hc => ?_)
  · have h0 := hb hc
    refine J_seq ?_
    refine J_reg ?_
    refine st (s_assign rfl) rfl ?_
    refine Run.nil ?_
    refine pj_then ?_
    refine J_ret ?_
    refine pr_then ?_
    refine retc1 Try.results90 (.tmp rfl ?_)
    rw [h0]; exact nil_slT
  · refine J_skip ?_
    refine pj_then ?_
    refine J_seq ?_
    refine J_reg ?_
    refine stSO (n := 0) rfl rfl rfl rfl rfl ?_
    refine PartsK.nil (fun b => ?_)
    refine st (s_move rfl) rfl ?_
    (refine a_append 0 rfl rfl rfl (leN rfl) ?_ ?_ rfl (ltN rfl) (fun sv cap => ?_); omega; omega)
    refine st (s_assign rfl) rfl ?_
    refine Run.nil ?_
    refine pj_then ?_
    refine J_ret ?_
    refine PJ_freeze (t := 2) (i := 0) rfl rfl ?_
    refine retc1 Try.results90 (.tmp rfl (slT_le' (by simp) (fun i hi => by simp)))
end Tor
