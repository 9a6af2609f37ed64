/-
  torsionref05: Same on matrices, Zero.
-/
import Derived.Test.YtmpnikllhpagcaaR8
set_option linter.unusedVariables false
set_option linter.unusedSimpArgs false
namespace Tor
open Go Go.RowKit Go.Proofs
/-- The rows of a matrix. -/
def rowsT (a : List (List Int)) : VT := slT .one a.length (fun i => vecT (a.getD i []))
/-- A matrix with any numbers of rows and columns. -/
def matT (r c : Int) (a : List (List Int)) : VT := aggT 3 [(0, .one, one (.int .i64 r)), (1, .one, one (.int .i64 c)), (2, .one, rowsT a)]
theorem take_succ_eqV {u v : List (List Int)} {i : Nat} (h : u.take i = v.take i) (hl : u.length = v.length) (hi : i < u.length) (he : u.getD i [] = v.getD i []) : u.take (i + 1) = v.take (i + 1) := by
  rw [List.take_add_one, List.take_add_one, h, List.getElem?_eq_getElem hi, List.getElem?_eq_getElem (hl ▸ hi)]
  simp only [List.getD, List.getElem?_eq_getElem hi, List.getElem?_eq_getElem (hl ▸ hi), Option.getD_some] at he
  rw [he]
attribute [local irreducible] Tor.J Tor.PJ Tor.StepO Tor.one Tor.slT Tor.ptrT Tor.aggT Tor.tupT Tor.exT Tor.andT Tor.gT Tor.eP Tor.boxO Tor.sliO Tor.slV Tor.VT.le Tor.Ret Tor.anyT
attribute [local irreducible] bigT vecT
set_option maxHeartbeats 2000000 in
theorem rSameMat_ok (r c r' c' : Int) (u v : List (List Int)) (hu : u.length ≤ 281474976710656) : Ok Try.prog 23 [matT r c u, matT r' c' v] (one (.bool (decide (r = r' ∧ c = c' ∧ u = v)))) := by
  unfold matT rowsT
  refine Ok.enter Try.func23 rfl Try.ntmps23 rfl (fun w O => ?_)
  refine J_seq ?_
  refine J_reg ?_
  refine a_boxS rfl rfl (ltN rfl) (fun b => ?_)
  refine a_boxS rfl rfl (ltN rfl) (fun b => ?_)
  refine st (s_assign rfl) rfl ?_
  refine Run.nil ?_
  refine pj_then ?_
  refine J_seq ?_
  refine J_seq ?_
  refine J_reg ?_
  refine st (s_fieldAddr rfl) rfl ?_
  refine st (s_loadB 1 rfl rfl rfl) rfl ?_
  refine st (s_fieldAddr rfl) rfl ?_
  refine st (s_loadB 0 rfl rfl rfl) rfl ?_
  refine st (s_ne rfl rfl) rfl ?_
  refine st (s_move rfl) rfl ?_
  rename_i ba
  refine bsel (t := 10) rfl (fun bo hb => ?_)
  rw [hb]
  cases bo
  · have e1 : r = r' := by simpa using hb
    refine sg1 rfl rfl (s_fieldAddr rfl) rfl ?_
    refine sg1 rfl rfl (s_loadB 1 rfl rfl rfl) rfl ?_
    refine sg1 rfl rfl (s_fieldAddr rfl) rfl ?_
    refine sg1 rfl rfl (s_loadB 0 rfl rfl rfl) rfl ?_
    refine sg1 rfl rfl (s_ne rfl rfl) rfl ?_
    refine st (s_pickF rfl rfl) rfl ?_
    refine st (s_move rfl) rfl ?_
    refine bsel (t := 17) rfl (fun bo hb2 => ?_)
    rw [hb2]
    cases bo
    · have e2 : c = c' := by simpa using hb2
      subst e1 e2
      refine sg1 rfl rfl (s_fieldAddr rfl) rfl ?_
      refine sg1 rfl rfl (s_loadB 1 rfl rfl rfl) rfl ?_
      refine sg1 rfl rfl (s_len rfl) rfl ?_
      refine sg1 rfl rfl (s_fieldAddr rfl) rfl ?_
      refine sg1 rfl rfl (s_loadB 0 rfl rfl rfl) rfl ?_
      refine sg1 rfl rfl (s_len rfl) rfl ?_
      refine sg1 rfl rfl (s_ne rfl rfl) rfl ?_
      refine st (s_pickF rfl rfl) rfl ?_
      refine Run.nil ?_
      refine pj_then ?_
      refine J_cond rfl (fun hc => ?_) (fun hc => ?_) <;> simp only [decide_eq_true_eq, decide_eq_false_iff_not, ne_eq, Decidable.not_not] at hc
      · refine J_seq ?_
        refine J_reg ?_
        refine st (s_assign rfl) rfl ?_
        refine Run.nil ?_
        refine pj_then ?_
        refine J_ret ?_
        refine pr_then ?_
        refine retc1 Try.results23 (.tmp rfl (one_le ?_))
        have : ¬ (u = v) := by intro e; subst e; exact hc rfl
        simp [this]
      · have hlen : u.length = v.length := by omega
        refine J_skip ?_
        refine pj_then ?_
        refine J_seq ?_
        refine J_seq ?_
        refine J_reg ?_
        refine st (s_assign rfl) rfl ?_
        refine Run.nil ?_
        refine pj_then ?_
        refine J_block ?_
        refine J_loop (σ := Nat) (fun i => [(2, one (.pointer (some ⟨ba, 0, none⟩))), (3, one (.pointer (some ⟨b, 0, none⟩))), (5, one (.int .i64 (i : Nat)))])
          (fun _ => [boxO b 33 3 [(0, .one, one (.int .i64 r)), (1, .one, one (.int .i64 c)), (2, .one, rowsT v)], boxO ba 33 3 [(0, .one, one (.int .i64 r)), (1, .one, one (.int .i64 c)), (2, .one, rowsT u)]])
          (fun i => i ≤ u.length ∧ u.take i = v.take i) (fun i => u.length - i) 0 ⟨Nat.zero_le _, rfl⟩ (by repeat (first | exact SubG.nil | refine SubG.cons rfl (VT.le_refl _) ?_ | (refine SubG.cons rfl (one_le ?_) ?_; (congr 1; first | omega | (simp; omega) | simp)))) (SubM.refl _) (fun i ⟨hi, ht⟩ => ?_)
        unfold rowsT
        refine J_seq ?_
        refine J_seq ?_
        refine J_reg ?_
        refine st (s_move rfl) rfl ?_
        refine st (s_fieldAddr rfl) rfl ?_
        refine st (s_loadB 1 rfl rfl rfl) rfl ?_
        refine st (s_len rfl) rfl ?_
        refine st (s_lt rfl rfl) rfl ?_
        refine Run.nil ?_
        refine pj_then ?_
        refine J_cond rfl (fun hc => ?_) (fun hc => ?_) <;> simp at hc
        · refine J_skip ?_
          refine pj_then ?_
          refine J_seq ?_
          refine J_block ?_
          refine J_seq ?_
          refine J_regd 12 mixed (by kernel_rfl) (by decide) ?_
          refine st (s_fieldAddr rfl) rfl ?_
          refine st (s_loadB 1 rfl rfl rfl) rfl ?_
          refine st (s_move rfl) rfl ?_
          (refine st (s_indexIN rfl rfl ?_) rfl ?_; omega)
          refine st (s_load rfl) rfl ?_
          refine st (s_fieldAddr rfl) rfl ?_
          refine st (s_loadB 0 rfl rfl rfl) rfl ?_
          refine st (s_move rfl) rfl ?_
          (refine st (s_indexIN rfl rfl ?_) rfl ?_; omega)
          refine st (s_load rfl) rfl ?_
          refine st (s_callk (rSameVec_ok _ _) rfl ⟨VT.le_refl _, VT.le_refl _, trivial⟩) rfl ?_
          refine st (s_not rfl) rfl ?_
          refine Run.nil ?_
          refine Run.nil ?_
          refine pj_then ?_
          refine J_cond rfl (fun hc2 => ?_) (fun hc2 => ?_)
          · simp at hc2
            refine J_seq ?_
            refine J_reg ?_
            refine st (s_assign rfl) rfl ?_
            refine Run.nil ?_
            refine pj_then ?_
            refine J_ret ?_
            refine pr_block ?_
            refine pr_then ?_
            refine pr_then ?_
            refine pr_block ?_
            refine pr_then ?_
            refine retc1 Try.results23 (.tmp rfl (one_le ?_))
            have : ¬ (u = v) := by intro e; subst e; exact hc2 rfl
            simp [this]
          · have he : u.getD i [] = v.getD i [] := by simpa using hc2
            refine J_skip ?_
            refine pn_block ?_
            refine pj_then ?_
            refine J_reg ?_
            refine st (s_move rfl) rfl ?_
            (refine st (s_add rfl rfl (wrap_i64 ?_ ?_)) rfl ?_; omega; omega)
            refine st (s_assign rfl) rfl ?_
            refine Run.nil ?_
            exact pj_round (s := i) (i + 1) ⟨by omega, take_succ_eqV ht hlen (by omega) he⟩ (by show u.length - (i + 1) < u.length - i; omega) (by repeat (first | exact SubG.nil | refine SubG.cons rfl (VT.le_refl _) ?_ | (refine SubG.cons rfl (one_le ?_) ?_; (congr 1; first | omega | (simp; omega) | simp)))) (SubM.refl _)
        · refine J_exit ?_
          refine px_then ?_
          refine px_then ?_
          refine px_block ?_
          refine pj_then ?_
          refine J_seq ?_
          refine J_reg ?_
          refine st (s_assign rfl) rfl ?_
          refine Run.nil ?_
          refine pj_then ?_
          refine J_ret ?_
          refine retc1 Try.results23 (.tmp rfl (one_le ?_))
          rw [List.take_of_length_le (by omega), List.take_of_length_le (by omega)] at ht
          simp [ht]
    · have e2 : ¬ c = c' := by simpa using hb2
      refine sg0 rfl rfl rfl rfl ?_
      refine sg0 rfl rfl rfl rfl ?_
      refine sg0 rfl rfl rfl rfl ?_
      refine sg0 rfl rfl rfl rfl ?_
      refine sg0 rfl rfl rfl rfl ?_
      refine sg0 rfl rfl rfl rfl ?_
      refine sg0 rfl rfl rfl rfl ?_
      refine st (s_pickT rfl rfl) rfl ?_
      refine Run.nil ?_
      refine pj_then ?_
      refine J_cond rfl (fun hc => ?_) (fun hc => ?_)
      · refine J_seq ?_
        refine J_reg ?_
        refine st (s_assign rfl) rfl ?_
        refine Run.nil ?_
        refine pj_then ?_
        refine J_ret ?_
        refine pr_then ?_
        refine retc1 Try.results23 (.tmp rfl (one_le ?_))
        simp [e2]
      · cases hc
  · have e1 : ¬ r = r' := by simpa using hb
    refine sg0 rfl rfl rfl rfl ?_
    refine sg0 rfl rfl rfl rfl ?_
    refine sg0 rfl rfl rfl rfl ?_
    refine sg0 rfl rfl rfl rfl ?_
    refine sg0 rfl rfl rfl rfl ?_
    refine st (s_pickT rfl rfl) rfl ?_
    refine st (s_move rfl) rfl ?_
    refine sg0 rfl rfl rfl rfl ?_
    refine sg0 rfl rfl rfl rfl ?_
    refine sg0 rfl rfl rfl rfl ?_
    refine sg0 rfl rfl rfl rfl ?_
    refine sg0 rfl rfl rfl rfl ?_
    refine sg0 rfl rfl rfl rfl ?_
    refine sg0 rfl rfl rfl rfl ?_
    refine st (s_pickT rfl rfl) rfl ?_
    refine Run.nil ?_
    refine pj_then ?_
    refine J_cond rfl (fun hc => ?_) (fun hc => ?_)
    · refine J_seq ?_
      refine J_reg ?_
      refine st (s_assign rfl) rfl ?_
      refine Run.nil ?_
      refine pj_then ?_
      refine J_ret ?_
      refine pr_then ?_
      refine retc1 Try.results23 (.tmp rfl (one_le ?_))
      simp [e1]
    · cases hc
end Tor
