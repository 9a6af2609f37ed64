/-
  torsionref05: Valid on raw matrices.
-/
import Derived.Test.YtmpnikllhpagcaaRA
set_option linter.unusedVariables false
set_option linter.unusedSimpArgs false
namespace Tor
open Go Go.RowKit Go.Proofs
abbrev RawV := List (Bool × List Nat)
def rawRowsT (a : List RawV) : VT := slT .one a.length (fun i => rawVecT (a.getD i []))
/-- A matrix of raw integers with any numbers of rows and columns. -/
def rawMatT (r c : Int) (a : List RawV) : VT := aggT 3 [(0, .one, one (.int .i64 r)), (1, .one, one (.int .i64 c)), (2, .one, rawRowsT a)]
def validV (c : Int) (v : RawV) : Bool := decide ((v.length : Int) = c) && v.all fun p => validI p.1 p.2
def validM (r c : Int) (a : List RawV) : Bool := decide (0 ≤ r ∧ 0 ≤ c ∧ (a.length : Int) = r) && a.all (validV c)
attribute [local irreducible] Tor.J Tor.PJ Tor.StepO Tor.one Tor.slT Tor.ptrT Tor.aggT Tor.tupT Tor.exT Tor.andT Tor.gT Tor.eP Tor.boxO Tor.sliO Tor.slV Tor.VT.le Tor.Ret Tor.anyT
attribute [local irreducible] bigT rawT rawVecT
set_option maxHeartbeats 2000000 in
theorem rValidMat_ok (r c : Int) (a : List RawV) (ha : a.length ≤ 281474976710656) (hv : ∀ v ∈ a, ∀ p ∈ v, p.2.length ≤ 4398046511104) : Ok Try.prog 14 [rawMatT r c a] (one (.bool (validM r c a))) := by
  unfold rawMatT rawRowsT
  refine Ok.enter Try.func14 rfl Try.ntmps14 rfl (fun w O => ?_)
  refine J_seq ?_
  refine J_reg ?_
  refine a_boxS rfl rfl (ltN rfl) (fun b => ?_)
  refine st (s_assign rfl) rfl ?_
  refine Run.nil ?_
  refine pj_then ?_
  refine J_seq ?_
  refine J_seq ?_
  refine J_reg ?_
  refine st (s_fieldAddr rfl) rfl ?_
  refine st (s_loadB 0 rfl rfl rfl) rfl ?_
  refine st (s_lt rfl rfl) rfl ?_
  refine st (s_move rfl) rfl ?_
  refine bsel (t := 6) rfl (fun bo hb => ?_)
  rw [hb]
  cases bo
  · have e1 : 0 ≤ r := by simpa using hb
    refine sg1 rfl rfl (s_fieldAddr rfl) rfl ?_
    refine sg1 rfl rfl (s_loadB 0 rfl rfl rfl) rfl ?_
    refine sg1 rfl rfl (s_lt rfl rfl) rfl ?_
    refine st (s_pickF rfl rfl) rfl ?_
    refine st (s_move rfl) rfl ?_
    refine bsel (t := 11) rfl (fun bo hb2 => ?_)
    rw [hb2]
    cases bo
    · have e2 : 0 ≤ c := by simpa using hb2
      refine sg1 rfl rfl (s_fieldAddr rfl) rfl ?_
      refine sg1 rfl rfl (s_loadB 0 rfl rfl rfl) rfl ?_
      refine sg1 rfl rfl (s_len rfl) rfl ?_
      refine sg1 rfl rfl (s_fieldAddr rfl) rfl ?_
      refine sg1 rfl rfl (s_loadB 0 rfl rfl rfl) rfl ?_
      refine sg1 rfl rfl (s_ne rfl rfl) rfl ?_
      refine st (s_pickF rfl rfl) rfl ?_
      refine Run.nil ?_
      refine pj_then ?_
      refine J_cond rfl (fun hc => ?_) (fun hc => ?_) <;> simp only [decide_eq_true_eq, decide_eq_false_iff_not, ne_eq, Decidable.not_not] at hc
      · refine J_seq ?_
        refine J_reg ?_
        refine st (s_assign rfl) rfl ?_
        refine Run.nil ?_
        refine pj_then ?_
        refine J_ret ?_
        refine pr_then ?_
        refine retc1 Try.results14 (.tmp rfl (one_le ?_))
        simp [validM, hc]
      · have e3 : (a.length : Int) = r := hc
        refine J_skip ?_
        refine pj_then ?_
        refine J_seq ?_
        refine J_seq ?_
        refine J_reg ?_
        refine st (s_assign rfl) rfl ?_
        refine Run.nil ?_
        refine pj_then ?_
        refine J_block ?_
        refine J_loop (σ := Nat) (fun i => [(1, one (.pointer (some ⟨b, 0, none⟩))), (3, one (.int .i64 (i : Nat)))])
          (fun _ => [boxO b 33 3 [(0, .one, one (.int .i64 r)), (1, .one, one (.int .i64 c)), (2, .one, rawRowsT a)]])
          (fun i => i ≤ a.length ∧ (a.take i).all (validV c) = true) (fun i => a.length - i) 0 ⟨Nat.zero_le _, rfl⟩ (by repeat (first | exact SubG.nil | refine SubG.cons rfl (VT.le_refl _) ?_ | (refine SubG.cons rfl (one_le ?_) ?_; (congr 1; first | omega | (simp; omega) | simp)))) (SubM.refl _) (fun i ⟨hi, ht⟩ => ?_)
        unfold rawRowsT
        refine J_seq ?_
        refine J_seq ?_
        refine J_reg ?_
        refine st (s_move rfl) rfl ?_
        refine st (s_fieldAddr rfl) rfl ?_
        refine st (s_loadB 0 rfl rfl rfl) rfl ?_
        refine st (s_len rfl) rfl ?_
        refine st (s_lt rfl rfl) rfl ?_
        refine Run.nil ?_
        refine pj_then ?_
        refine J_cond rfl (fun hc => ?_) (fun hc => ?_) <;> simp at hc
        · have hm : ∀ p ∈ a.getD i [], p.2.length ≤ 4398046511104 := by
            simp only [List.getD, List.getElem?_eq_getElem hc, Option.getD_some]
            exact hv _ (List.getElem_mem hc)
          refine J_skip ?_
          refine pj_then ?_
          refine J_seq ?_
          refine J_block ?_
          refine J_seq ?_
          refine J_regd 18 mixed (by kernel_rfl) (by decide) ?_
          unfold rawVecT
          refine st (s_fieldAddr rfl) rfl ?_
          refine st (s_loadB 0 rfl rfl rfl) rfl ?_
          refine st (s_move rfl) rfl ?_
          (refine st (s_indexIN rfl rfl ?_) rfl ?_; omega)
          refine st (s_load rfl) rfl ?_
          refine st (s_len rfl) rfl ?_
          refine st (s_fieldAddr rfl) rfl ?_
          refine st (s_loadB 0 rfl rfl rfl) rfl ?_
          refine st (s_ne rfl rfl) rfl ?_
          refine st (s_move rfl) rfl ?_
          refine bsel (t := 35) rfl (fun bo hb3 => ?_)
          rw [hb3]
          cases bo
          · refine sg1 rfl rfl (s_fieldAddr rfl) rfl ?_
            refine sg1 rfl rfl (s_loadB 0 rfl rfl rfl) rfl ?_
            refine sg1 rfl rfl (s_move rfl) rfl ?_
            (refine sg1 rfl rfl (s_indexIN rfl rfl ?_) rfl ?_; omega)
            refine sg1 rfl rfl (s_load rfl) rfl ?_
            refine sg1 rfl rfl (s_callk (rValidVec_ok _ hm) rfl ⟨(by unfold rawVecT; exact VT.le_refl _), trivial⟩) rfl ?_
            refine sg1 rfl rfl (s_not rfl) rfl ?_
            refine st (s_pickF rfl rfl) rfl ?_
            refine Run.nil ?_
            refine Run.nil ?_
            refine pj_then ?_
            refine J_cond rfl (fun hc2 => ?_) (fun hc2 => ?_)
            · refine J_seq ?_
              refine J_reg ?_
              refine st (s_assign rfl) rfl ?_
              refine Run.nil ?_
              refine pj_then ?_
              refine J_ret ?_
              refine pr_block ?_
              refine pr_then ?_
              refine pr_then ?_
              refine pr_block ?_
              refine pr_then ?_
              refine retc1 Try.results14 (.tmp rfl (one_le ?_))
              have := notAll (p := validV c) (d := []) hc (by simp only [validV, Bool.and_eq_false_iff]; right; simpa using hc2)
              simp [validM, this]
            · refine J_skip ?_
              refine pn_block ?_
              refine pj_then ?_
              refine J_reg ?_
              refine st (s_move rfl) rfl ?_
              (refine st (s_add rfl rfl (wrap_i64 ?_ ?_)) rfl ?_; omega; omega)
              refine st (s_assign rfl) rfl ?_
              refine Run.nil ?_
              exact pj_round (s := i) (i + 1) ⟨by omega, takeAll (d := []) ht hc (by simp only [validV, Bool.and_eq_true]; exact ⟨by simpa using hb3, by simpa using hc2⟩)⟩ (by show a.length - (i + 1) < a.length - i; omega) (by repeat (first | exact SubG.nil | refine SubG.cons rfl (VT.le_refl _) ?_ | (refine SubG.cons rfl (one_le ?_) ?_; (congr 1; first | omega | (simp; omega) | simp)))) (SubM.refl _)
          · refine sg0 rfl rfl rfl rfl ?_
            refine sg0 rfl rfl rfl rfl ?_
            refine sg0 rfl rfl rfl rfl ?_
            refine sg0 rfl rfl rfl rfl ?_
            refine sg0 rfl rfl rfl rfl ?_
            refine sg0 rfl rfl rfl rfl ?_
            refine sg0 rfl rfl rfl rfl ?_
            refine st (s_pickT rfl rfl) rfl ?_
            refine Run.nil ?_
            refine Run.nil ?_
            refine pj_then ?_
            refine J_cond rfl (fun hc2 => ?_) (fun hc2 => ?_)
            · refine J_seq ?_
              refine J_reg ?_
              refine st (s_assign rfl) rfl ?_
              refine Run.nil ?_
              refine pj_then ?_
              refine J_ret ?_
              refine pr_block ?_
              refine pr_then ?_
              refine pr_then ?_
              refine pr_block ?_
              refine pr_then ?_
              refine retc1 Try.results14 (.tmp rfl (one_le ?_))
              have := notAll (p := validV c) (d := []) hc (by simp only [validV, Bool.and_eq_false_iff]; left; simpa using hb3)
              simp [validM, this]
            · cases hc2
        · refine J_exit ?_
          refine px_then ?_
          refine px_then ?_
          refine px_block ?_
          refine pj_then ?_
          refine J_seq ?_
          refine J_reg ?_
          refine st (s_assign rfl) rfl ?_
          refine Run.nil ?_
          refine pj_then ?_
          refine J_ret ?_
          refine retc1 Try.results14 (.tmp rfl (one_le ?_))
          rw [List.take_of_length_le (by omega)] at ht
          simp [validM, ht, e1, e2, e3]
    · have e2 : ¬ 0 ≤ c := by simpa using hb2
      refine sg0 rfl rfl rfl rfl ?_
      refine sg0 rfl rfl rfl rfl ?_
      refine sg0 rfl rfl rfl rfl ?_
      refine sg0 rfl rfl rfl rfl ?_
      refine sg0 rfl rfl rfl rfl ?_
      refine sg0 rfl rfl rfl rfl ?_
      refine st (s_pickT rfl rfl) rfl ?_
      refine Run.nil ?_
      refine pj_then ?_
      refine J_cond rfl (fun hc => ?_) (fun hc => ?_)
      · refine J_seq ?_
        refine J_reg ?_
        refine st (s_assign rfl) rfl ?_
        refine Run.nil ?_
        refine pj_then ?_
        refine J_ret ?_
        refine pr_then ?_
        refine retc1 Try.results14 (.tmp rfl (one_le ?_))
        simp [validM, e2]
      · cases hc
  · have e1 : ¬ 0 ≤ r := by simpa using hb
    refine sg0 rfl rfl rfl rfl ?_
    refine sg0 rfl rfl rfl rfl ?_
    refine sg0 rfl rfl rfl rfl ?_
    refine st (s_pickT rfl rfl) rfl ?_
    refine st (s_move rfl) rfl ?_
    refine sg0 rfl rfl rfl rfl ?_
    refine sg0 rfl rfl rfl rfl ?_
    refine sg0 rfl rfl rfl rfl ?_
    refine sg0 rfl rfl rfl rfl ?_
    refine sg0 rfl rfl rfl rfl ?_
    refine sg0 rfl rfl rfl rfl ?_
    refine st (s_pickT rfl rfl) rfl ?_
    refine Run.nil ?_
    refine pj_then ?_
    refine J_cond rfl (fun hc => ?_) (fun hc => ?_)
    · refine J_seq ?_
      refine J_reg ?_
      refine st (s_assign rfl) rfl ?_
      refine Run.nil ?_
      refine pj_then ?_
      refine J_ret ?_
      refine pr_then ?_
      refine retc1 Try.results14 (.tmp rfl (one_le ?_))
      simp [validM, e1]
    · cases hc
end Tor
