/-
  torsionref01: Of, Add.
-/
import Derived.Test.YtmpnikllhpagcaaR1
import Derived.Test.YtmpnikllhpagcaaR2
import Derived.Test.YtmpnikllhpagcaaR4
set_option linter.unusedVariables false
set_option linter.unusedSimpArgs false
namespace Tor
open Go Go.RowKit Go.Proofs
theorem two_natS (u : Nat) (h : u < 18446744073709551616) : VT.le (slT .one 2 (fun q => [one (.int .u32 ((u / 4294967296 % 4294967296 : Nat) : Int)), one (.int .u32 ((u % 4294967296 : Nat) : Int))].reverse.getD q anyT)) (natS u) := by
  refine VT.le_trans (slT_le' (m := 2) (ψ := fun i => one (.int .u32 ([u % 4294967296, u / 4294967296 % 4294967296].getD i 0 : Nat))) rfl (fun q hq => ?_)) (natS_of (l := [u % 4294967296, u / 4294967296 % 4294967296]) (fun d hd => ?_) ?_ (by simp))
  · match q, hq with
    | 0, _ => rfl
    | 1, _ => rfl
  · simp at hd; omega
  · simp only [lv]; omega
attribute [local irreducible] Tor.J Tor.PJ Tor.StepO Tor.one Tor.slT Tor.ptrT Tor.aggT Tor.tupT Tor.exT Tor.andT Tor.gT Tor.eP Tor.boxO Tor.sliO Tor.slV Tor.VT.le Tor.Ret Tor.anyT
theorem rOf_ok (n : Int) (h1 : -9223372036854775808 ≤ n) (h2 : n ≤ 9223372036854775807) : Ok Try.prog 12 [one (.int .i64 n)] (bigT n) := by
  refine Ok.enter Try.func12 rfl Try.ntmps12 rfl (fun w O => ?_)
  by_cases hn : n < 0
  · refine J_seq ?_
    refine J_reg ?_
    refine a_alloc (T := 29) rfl (ltN rfl) (fun b => ?_)
    refine Run.nil ?_
    refine pj_then ?_
    refine J_seq ?_
    refine J_reg ?_
    refine st (s_move rfl) rfl ?_
    refine st (s_conv (r := ((18446744073709551616 - n.natAbs : Nat) : Int)) rfl (by rw [wrap_u64]; omega)) rfl ?_
    refine st (s_assign rfl) rfl ?_
    refine Run.nil ?_
    refine pj_then ?_
    refine J_seq ?_
    refine J_seq ?_
    refine J_reg ?_
    refine st (s_move rfl) rfl ?_
    refine st (s_lt rfl rfl) rfl ?_
    refine Run.nil ?_
    refine pj_then ?_
    refine J_cond rfl (fun hc => ?_) (fun hc => ?_) <;> simp at hc
    · refine J_reg ?_
      refine st (s_move rfl) rfl ?_
      refine st (s_neg (r := (n.natAbs : Int)) rfl (by rw [wrap_u64]; omega)) rfl ?_
      refine st (s_assign rfl) rfl ?_
      refine Run.nil ?_
      refine pj_then ?_
      refine J_seq ?_
      refine J_reg ?_
      refine st (s_move rfl) rfl ?_
      refine st (s_toU32 rfl) rfl ?_
      refine st (s_move rfl) rfl ?_
      refine st (s_shr32 rfl) rfl ?_
      refine st (s_toU32 rfl) rfl ?_
      refine stS rfl rfl rfl rfl ?_
      refine PartsK.cons rfl ?_
      refine PartsK.cons rfl ?_
      refine PartsK.nil ?_
      refine st (s_move rfl) rfl ?_
      refine st (s_lt rfl rfl) rfl ?_
      refine st (s_callk (rMade_ok (decide (n < 0)) n.natAbs) rfl ⟨two_natS _ (by omega), VT.le_refl _, trivial⟩) rfl ?_
      refine a_storeB 0 rfl rfl rfl rfl rfl (leN rfl) rfl ?_
      refine Run.nil ?_
      refine pj_then ?_
      refine J_ret ?_
      exact retc1 Try.results12 (.cellB 0 rfl rfl rfl (bigT_eq (by rw [decide_eq_true hn, if_pos rfl]; omega)))
    · omega
  · refine J_seq ?_
    refine J_reg ?_
    refine a_alloc (T := 29) rfl (ltN rfl) (fun b => ?_)
    refine Run.nil ?_
    refine pj_then ?_
    refine J_seq ?_
    refine J_reg ?_
    refine st (s_move rfl) rfl ?_
    refine st (s_conv (r := (n.natAbs : Int)) rfl (by rw [wrap_u64]; omega)) rfl ?_
    refine st (s_assign rfl) rfl ?_
    refine Run.nil ?_
    refine pj_then ?_
    refine J_seq ?_
    refine J_seq ?_
    refine J_reg ?_
    refine st (s_move rfl) rfl ?_
    refine st (s_lt rfl rfl) rfl ?_
    refine Run.nil ?_
    refine pj_then ?_
    refine J_cond rfl (fun hc => ?_) (fun hc => ?_) <;> simp at hc
    · omega
    · refine J_skip ?_
      refine pj_then ?_
      refine J_seq ?_
      refine J_reg ?_
      refine st (s_move rfl) rfl ?_
      refine st (s_toU32 rfl) rfl ?_
      refine st (s_move rfl) rfl ?_
      refine st (s_shr32 rfl) rfl ?_
      refine st (s_toU32 rfl) rfl ?_
      refine stS rfl rfl rfl rfl ?_
      refine PartsK.cons rfl ?_
      refine PartsK.cons rfl ?_
      refine PartsK.nil ?_
      refine st (s_move rfl) rfl ?_
      refine st (s_lt rfl rfl) rfl ?_
      refine st (s_callk (rMade_ok (decide (n < 0)) n.natAbs) rfl ⟨two_natS _ (by omega), VT.le_refl _, trivial⟩) rfl ?_
      refine a_storeB 0 rfl rfl rfl rfl rfl (leN rfl) rfl ?_
      refine Run.nil ?_
      refine pj_then ?_
      refine J_ret ?_
      exact retc1 Try.results12 (.cellB 0 rfl rfl rfl (bigT_eq (by rw [decide_eq_false hn]; simp; omega)))
set_option maxHeartbeats 1000000 in
theorem rAdd_ok (n1 n2 : Bool) (v1 v2 : Nat) (h1 : (digs v1).length ≤ 1099511627776) (h2 : (digs v2).length ≤ 1099511627776) : Ok Try.prog 61 [sgT n1 v1, sgT n2 v2] (bigT (sv n1 v1 + sv n2 v2)) := by
  refine Ok.enter Try.func61 rfl Try.ntmps61 rfl (fun w O => ?_)
  refine J_seq ?_
  refine J_reg ?_
  refine a_boxS rfl rfl (ltN rfl) (fun b => ?_)
  refine a_boxS rfl rfl (ltN rfl) (fun b => ?_)
  refine a_alloc (T := 29) rfl (ltN rfl) (fun b => ?_)
  refine Run.nil ?_
  refine pj_then ?_
  refine J_seq ?_
  refine J_seq ?_
  refine J_reg ?_
  refine st (s_fieldAddr rfl) rfl ?_
  refine st (s_loadB 2 rfl rfl rfl) rfl ?_
  refine st (s_fieldAddr rfl) rfl ?_
  refine st (s_loadB 1 rfl rfl rfl) rfl ?_
  refine st (s_eqB rfl rfl) rfl ?_
  refine Run.nil ?_
  refine pj_then ?_
  refine J_cond rfl (fun hc => ?_) (fun hc => ?_) <;> simp at hc
  · subst hc
    refine J_seq ?_
    refine J_regd 8 mixed (by kernel_rfl) (by decide) ?_
    refine st (s_fieldAddr rfl) rfl ?_
    refine st (s_loadB 2 rfl rfl rfl) rfl ?_
    refine st (s_fieldAddr rfl) rfl ?_
    refine st (s_loadB 1 rfl rfl rfl) rfl ?_
    refine st (s_callk (rplus_ok _ _ h1 h2) rfl ⟨VT.le_refl _, VT.le_refl _, trivial⟩) rfl ?_
    refine st (s_fieldAddr rfl) rfl ?_
    refine st (s_loadB 2 rfl rfl rfl) rfl ?_
    refine st (s_callk (rMade_ok _ _) rfl ⟨VT.le_refl _, VT.le_refl _, trivial⟩) rfl ?_
    refine Run.nil ?_
    refine a_storeB 0 rfl rfl rfl rfl rfl (leN rfl) rfl ?_
    refine Run.nil ?_
    refine pj_then ?_
    refine J_ret ?_
    refine pr_then ?_
    exact retc1 Try.results61 (.cellB 0 rfl rfl rfl (bigT_eq (by unfold sv; split <;> omega)))
  · refine J_skip ?_
    refine pj_then ?_
    refine J_seq ?_
    refine J_seq ?_
    refine J_reg ?_
    refine st (s_fieldAddr rfl) rfl ?_
    refine st (s_loadB 2 rfl rfl rfl) rfl ?_
    refine st (s_fieldAddr rfl) rfl ?_
    refine st (s_loadB 1 rfl rfl rfl) rfl ?_
    refine st (s_callk (rless_ok _ _) rfl ⟨VT.le_refl _, VT.le_refl _, trivial⟩) rfl ?_
    refine Run.nil ?_
    refine pj_then ?_
    refine J_cond rfl (fun hc2 => ?_) (fun hc2 => ?_) <;> simp at hc2
    · refine J_seq ?_
      refine J_regd 8 mixed (by kernel_rfl) (by decide) ?_
      refine st (s_fieldAddr rfl) rfl ?_
      refine st (s_loadB 1 rfl rfl rfl) rfl ?_
      refine st (s_fieldAddr rfl) rfl ?_
      refine st (s_loadB 2 rfl rfl rfl) rfl ?_
      refine st (s_callk (rminus_ok _ _ (by omega) h2) rfl ⟨VT.le_refl _, VT.le_refl _, trivial⟩) rfl ?_
      refine st (s_fieldAddr rfl) rfl ?_
      refine st (s_loadB 1 rfl rfl rfl) rfl ?_
      refine st (s_callk (rMade_ok _ _) rfl ⟨VT.le_refl _, VT.le_refl _, trivial⟩) rfl ?_
      refine Run.nil ?_
      refine a_storeB 0 rfl rfl rfl rfl rfl (leN rfl) rfl ?_
      refine Run.nil ?_
      refine pj_then ?_
      refine J_ret ?_
      refine pr_then ?_
      exact retc1 Try.results61 (.cellB 0 rfl rfl rfl (bigT_eq (by unfold sv; cases n1 <;> cases n2 <;> simp at hc ⊢ <;> omega)))
    · refine J_skip ?_
      refine pj_then ?_
      refine J_seq ?_
      refine J_regd 8 mixed (by kernel_rfl) (by decide) ?_
      refine st (s_fieldAddr rfl) rfl ?_
      refine st (s_loadB 2 rfl rfl rfl) rfl ?_
      refine st (s_fieldAddr rfl) rfl ?_
      refine st (s_loadB 1 rfl rfl rfl) rfl ?_
      refine st (s_callk (rminus_ok _ _ (by omega) h1) rfl ⟨VT.le_refl _, VT.le_refl _, trivial⟩) rfl ?_
      refine st (s_fieldAddr rfl) rfl ?_
      refine st (s_loadB 2 rfl rfl rfl) rfl ?_
      refine st (s_callk (rMade_ok _ _) rfl ⟨VT.le_refl _, VT.le_refl _, trivial⟩) rfl ?_
      refine Run.nil ?_
      refine a_storeB 0 rfl rfl rfl rfl rfl (leN rfl) rfl ?_
      refine Run.nil ?_
      refine pj_then ?_
      refine J_ret ?_
      exact retc1 Try.results61 (.cellB 0 rfl rfl rfl (bigT_eq (by unfold sv; cases n1 <;> cases n2 <;> simp at hc ⊢ <;> omega)))
end Tor
