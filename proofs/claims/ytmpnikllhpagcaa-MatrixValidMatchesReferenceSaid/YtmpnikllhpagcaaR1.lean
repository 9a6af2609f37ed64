/-
  Contracts of the reference implementation of integers: Made, Of, less, Same.
-/
import Derived.Test.YtmpnikllhpagcaaI6
set_option linter.unusedVariables false
set_option linter.unusedSimpArgs false
namespace Tor
open Go Go.RowKit Go.Proofs
theorem bigT_made {nb neg : Bool} {v : Nat} (h : nb = (neg && decide (v ≠ 0))) : VT.le (aggT 2 [(0, .one, one (.bool nb)), (1, .one, limT (digs v))]) (bigT (if neg then -(v : Int) else v)) := by
  refine aggT_le (fun q hq => ?_)
  simp only [List.mem_cons, List.not_mem_nil, or_false] at hq
  rcases hq with rfl | rfl
  · have e : decide ((if neg then -(v : Int) else v) < 0) = nb := by rw [h]; cases neg <;> simp <;> (try omega) <;> (rw [Bool.eq_iff_iff]; simp; omega)
    exact ⟨_, List.mem_cons_self, le_eq (by rw [e])⟩
  · refine ⟨_, List.mem_cons_of_mem _ List.mem_cons_self, limT_eq ?_⟩
    cases neg <;> simp
theorem agg2_le {b : Bool} {φ ψ : VT} (h : VT.le φ ψ) : VT.le (aggT 2 [(0, .one, one (.bool b)), (1, .one, φ)]) (aggT 2 [(0, .one, one (.bool b)), (1, .one, ψ)]) := by
  refine aggT_le (fun q hq => ?_)
  simp only [List.mem_cons, List.not_mem_nil, or_false] at hq
  rcases hq with rfl | rfl
  · exact ⟨_, List.mem_cons_self, VT.le_refl _⟩
  · exact ⟨_, List.mem_cons_of_mem _ List.mem_cons_self, h⟩
attribute [local irreducible] Tor.J Tor.PJ Tor.StepO Tor.one Tor.slT Tor.ptrT Tor.aggT Tor.tupT Tor.exT Tor.andT Tor.gT Tor.eP Tor.boxO Tor.sliO Tor.slV Tor.VT.le Tor.Ret Tor.anyT
attribute [local irreducible] bigT
set_option maxHeartbeats 2000000 in
theorem rMade_ok (neg : Bool) (v : Nat) : Ok Try.prog 53 [natS v, one (.bool neg)] (bigT (if neg then -(v : Int) else v)) := by
  refine Ok.enter Try.func53 rfl Try.ntmps53 rfl (fun w O => ?_)
  refine J_ex (t := 0) rfl (fun l => J_and (t := 0) rfl (fun ⟨hL, hv, hb⟩ => ?_))
  subst hv
  refine J_seq ?_
  refine J_reg ?_
  refine a_alloc (T := 29) rfl (ltN rfl) (fun b => ?_)
  refine Run.nil ?_
  refine pj_then ?_
  refine J_seq ?_
  refine J_reg ?_
  refine st (s_move rfl) rfl ?_
  refine st (s_len rfl) rfl ?_
  refine st (s_assign rfl) rfl ?_
  refine Run.nil ?_
  refine pj_then ?_
  refine J_seq ?_
  refine J_block ?_
  refine J_loop (σ := Nat) (fun n => [(0, limT l), (1, one (.bool neg)), (4, one (.pointer (some ⟨b, 0, none⟩))), (5, one (.int .i64 n))]) (fun _ => [boxO b 29 2 [(0, .agg 2, one (.agg #[.bool false, .slice none 0 0]))]]) (fun n => n ≤ l.length ∧ trimN l n = trimN l l.length) (fun n => n) l.length ⟨Nat.le_refl _, rfl⟩ (by repeat (first | exact SubG.nil | refine SubG.cons rfl (VT.le_refl _) ?_ | (refine SubG.cons rfl (one_le ?_) ?_; (congr 1; first | omega | (simp; omega) | simp)))) (SubM.refl _) (fun n ⟨hn, ht⟩ => ?_)
  have hd := take_trimN hL
  refine J_seq (J_seq ?_)
  refine J_join (σ := Unit) (fun _ => [(0, limT l), (1, one (.bool neg)), (4, one (.pointer (some ⟨b, 0, none⟩))), (5, one (.int .i64 n)), (17, one (.bool (decide (0 < n ∧ l.getD (n - 1) 0 = 0))))]) (fun _ => [boxO b 29 2 [(0, .agg 2, one (.agg #[.bool false, .slice none 0 0]))]]) (fun _ => True) ?_ (fun _ _ => ?_)
  · by_cases h0 : 0 < n
    · obtain ⟨n, rfl⟩ : ∃ m, n = m + 1 := ⟨n - 1, by omega⟩
      refine J_reg ?_
      refine st (s_move rfl) rfl ?_
      refine st (s_gt rfl rfl) rfl ?_
      refine st (s_move rfl) rfl ?_
      refine bsel (t := 10) rfl (fun b hb => ?_)
      rw [hb]
      have : b = true := by rw [← hb]; simp
      subst this
      refine sg1 rfl rfl (s_move rfl) rfl ?_
      refine sg1 rfl rfl (s_move rfl) rfl ?_
      (refine sg1 rfl rfl (s_sub rfl rfl (wrap_i64 ?_ ?_)) rfl ?_; omega; omega)
      (refine sg1 rfl rfl (s_indexI rfl rfl ?_ ?_) rfl ?_; omega; omega)
      refine sg1 rfl rfl (s_load rfl) rfl ?_
      refine sg1 rfl rfl (s_eq rfl rfl) rfl ?_
      refine st (s_pickT rfl rfl) rfl ?_
      refine Run.nil ?_
      exact pj_cut () trivial (.cons rfl (VT.le_refl _) (.cons rfl (VT.le_refl _) (.cons rfl (VT.le_refl _) (.cons rfl (VT.le_refl _) (.cons rfl (one_le (by simp)) .nil))))) (SubM.refl _)
    · refine J_reg ?_
      refine st (s_move rfl) rfl ?_
      refine st (s_gt rfl rfl) rfl ?_
      refine st (s_move rfl) rfl ?_
      refine bsel (t := 10) rfl (fun b hb => ?_)
      rw [hb]
      have : b = false := by rw [← hb]; simp; omega
      subst this
      refine sg0 rfl rfl rfl rfl ?_
      refine sg0 rfl rfl rfl rfl ?_
      refine sg0 rfl rfl rfl rfl ?_
      refine sg0 rfl rfl rfl rfl ?_
      refine sg0 rfl rfl rfl rfl ?_
      refine sg0 rfl rfl rfl rfl ?_
      refine st (s_pickF rfl rfl) rfl ?_
      refine Run.nil ?_
      exact pj_cut () trivial (.cons rfl (VT.le_refl _) (.cons rfl (VT.le_refl _) (.cons rfl (VT.le_refl _) (.cons rfl (VT.le_refl _) (.cons rfl (one_le (by simp; omega)) .nil))))) (SubM.refl _)
  · refine pj_then ?_
    refine J_cond rfl (fun hc => ?_) (fun hc => ?_) <;> simp only [decide_eq_true_eq, decide_eq_false_iff_not] at hc
    · obtain ⟨n, rfl⟩ : ∃ m, n = m + 1 := ⟨n - 1, by omega⟩
      refine J_skip ?_
      refine pj_then ?_
      refine J_block ?_
      refine J_reg ?_
      refine st (s_move rfl) rfl ?_
      (refine st (s_sub rfl rfl (wrap_i64 ?_ ?_)) rfl ?_; omega; omega)
      refine st (s_assign rfl) rfl ?_
      refine Run.nil ?_
      refine pn_block ?_
      refine pj_round (s := n + 1) n ⟨by omega, by have h2 : l.getD n 0 = 0 := hc.2; rw [← ht, trimN, if_pos h2]⟩ (by omega) (by repeat (first | exact SubG.nil | refine SubG.cons rfl (VT.le_refl _) ?_ | (refine SubG.cons rfl (one_le ?_) ?_; (congr 1; first | omega | (simp; omega) | simp)))) (SubM.refl _)
    · have hz : trimN l n = n := by
        cases n with
        | zero => rfl
        | succ n =>
          have h2 : ¬ l.getD n 0 = 0 := fun h => hc ⟨by omega, h⟩
          rw [trimN, if_neg h2]
      rw [ht] at hz
      rw [hz] at hd
      have hlen : (digs (lv l)).length = n := by rw [← hd, List.length_take_of_le hn]
      have hnz : (0 < n) ↔ lv l ≠ 0 := by
        constructor
        · intro h e; rw [e] at hlen; simp [digs_zero] at hlen; omega
        · intro h; rw [← hlen]; exact Nat.pos_of_ne_zero (fun e => h (by rw [← lv_digs (lv l), List.eq_nil_of_length_eq_zero e]; rfl))
      have hmag : VT.le (slT .one (0 + ((n : Int) - 0).toNat) fun q => if q < 0 then [].reverse.getD q anyT else one (.int .u32 (l.getD (Int.toNat 0 + (q - 0)) 0 : Nat))) (limT (digs (lv l))) :=
        VT.le_trans (slT_le' (m := (l.take n).length) (ψ := fun q => one (.int .u32 ((l.take n).getD q 0 : Nat))) (by rw [List.length_take_of_le hn]; omega) (fun q hq => by
          simp only [Nat.not_lt_zero, if_false]
          rw [show Int.toNat 0 + (q - 0) = q from by simp]
          simp [List.getElem?_take_of_lt (show q < n by omega)])) (limT_eq hd)
      cases neg
      · refine J_exit ?_
        refine px_then ?_
        refine px_then ?_
        refine px_block ?_
        refine pj_then ?_
        refine J_seq ?_
        refine J_reg ?_
        refine st (s_move rfl) rfl ?_
        refine st (s_move rfl) rfl ?_
        refine sg0 rfl rfl rfl rfl ?_
        refine sg0 rfl rfl rfl rfl ?_
        refine st (s_pickF rfl rfl) rfl ?_
        refine stSO (n := 0) rfl rfl rfl rfl rfl ?_
        refine PartsK.nil (fun b => ?_)
        refine st (s_move rfl) rfl ?_
        refine st (s_move rfl) rfl ?_
        (refine st (s_slice rfl rfl rfl rfl (fun _ => rfl) ?_ ?_ ?_ ?_) rfl ?_; omega; omega; omega; omega)
        (refine a_append 0 rfl rfl rfl (leN rfl) ?_ ?_ rfl (ltN rfl) (fun sv cap => ?_); omega; omega)
        refine Run_freeze (t := 29) (j := 0) rfl rfl ?_
        refine stB rfl rfl rfl ?_
        refine BuildK.cons rfl rfl rfl ?_
        refine BuildK.cons rfl rfl rfl ?_
        refine BuildK.nil ?_
        refine a_storeB 0 rfl rfl rfl rfl rfl (leN rfl) rfl ?_
        refine Run.nil ?_
        refine pj_then ?_
        refine J_ret ?_
        exact retc1 Try.results53 (.cellB 0 rfl rfl rfl (VT.le_trans (agg2_le hmag) (bigT_made (by simp))))
      · refine J_exit ?_
        refine px_then ?_
        refine px_then ?_
        refine px_block ?_
        refine pj_then ?_
        refine J_seq ?_
        refine J_reg ?_
        refine st (s_move rfl) rfl ?_
        refine st (s_move rfl) rfl ?_
        refine sg1 rfl rfl (s_move rfl) rfl ?_
        refine sg1 rfl rfl (s_gt rfl rfl) rfl ?_
        refine st (s_pickT rfl rfl) rfl ?_
        refine stSO (n := 0) rfl rfl rfl rfl rfl ?_
        refine PartsK.nil (fun b => ?_)
        refine st (s_move rfl) rfl ?_
        refine st (s_move rfl) rfl ?_
        (refine st (s_slice rfl rfl rfl rfl (fun _ => rfl) ?_ ?_ ?_ ?_) rfl ?_; omega; omega; omega; omega)
        (refine a_append 0 rfl rfl rfl (leN rfl) ?_ ?_ rfl (ltN rfl) (fun sv cap => ?_); omega; omega)
        refine Run_freeze (t := 29) (j := 0) rfl rfl ?_
        refine stB rfl rfl rfl ?_
        refine BuildK.cons rfl rfl rfl ?_
        refine BuildK.cons rfl rfl rfl ?_
        refine BuildK.nil ?_
        refine a_storeB 0 rfl rfl rfl rfl rfl (leN rfl) rfl ?_
        refine Run.nil ?_
        refine pj_then ?_
        refine J_ret ?_
        exact retc1 Try.results53 (.cellB 0 rfl rfl rfl (VT.le_trans (agg2_le hmag) (bigT_made (by rw [Bool.true_and]; exact decide_eq_decide.2 (by rw [← hnz]; omega)))))
end Tor
